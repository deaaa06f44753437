/- Parts of the proof. -/
import Derived.Test.YtnponcjnahicnaaGreatSmBToDlA
set_option linter.unusedSimpArgs false
set_option linter.unusedVariables false
set_option maxRecDepth 100000
set_option maxHeartbeats 2000000
open Go.Proofs.Tryz(prog)
open List(flatMap_map mem_append_right)
namespace Go.Proofs
open Go.RowKit Go.Ink P16
attribute [local go_sem] Oper.semAt_some
theorem qtw (s:ByteArray)(w:World):Calls prog 167 #[.string s] w fun e w'=>e=.returned (.bool (qg8 s))/\w'=w:=by
 rw [←qnp]
 go_enter Tryz.func167,Tryz.ntmps167
 go_wp2_with fail;go_ret;exact⟨rfl,rfl⟩
theorem qk0 (t:TermD)(y:smallT t)(w:World):Calls prog 137 #[qc3 t] w fun e w'=>e=.returned (.bool (qbi t))/\wG w w':=by
 obtain⟨v,s⟩:=t;unfold qc3;simp only;have p:=fun w=>q3v s y w;have q:=fun w=>qtw s w;have r:qbi ⟨v,s⟩=if v then qh0 s else qg8 s:=rfl
 obtain⟨R,d⟩: ∃b,qh0 s=b:=⟨_,rfl⟩;obtain⟨U,g⟩: ∃b,qg8 s=b:=⟨_,rfl⟩;rw [d,g]at r;simp only [d]at p;simp only [g]at q;clear y;refine hd5 ?_ p q r d g;clear p q r d g;intro l m h u x;cases v
 ·go_enter Tryz.func137,Tryz.ntmps137
  go_wp2_with fail;refine(m.o _).mono ?_;rintro e z ⟨rfl,c⟩;have c:=c.symm;subst c;go_wp2_with fail;go_ret;exact⟨by rw [h.o];rfl,kAl⟩
 ·go_enter Tryz.func137,Tryz.ntmps137
  go_wp2_with fail;refine(l.o _).mono ?_;rintro e z ⟨rfl,c⟩;have c:=c.symm;subst c;go_wp2_with fail;go_ret;exact⟨by rw [h.o];rfl,kAl⟩
theorem qoo (n:Nat)(a:qcn)(ad:smallA a)(sa:Value)(w:World)(ha:qai n w sa a.args)(hn:n<=w.heap.size):Calls prog 103 #[.agg #[.string a.pred,sa]] w fun e w'=>e=.returned (.bool (qc4 a))/\Keep (fun b=>b<w.heap.size) w w':=by
 obtain⟨pr,args⟩:=a;simp only at ha⊢;have v:qc4 ⟨pr,args⟩=(qdq pr&&decide (args.length<=16)&&args.all qbi):=rfl;have h1:=fun w=>qre pr ad.1 w;have ae:=ad.2;simp only at ae;obtain⟨b1,p⟩: ∃b,qdq pr=b:=⟨_,rfl⟩;rw [p]at v;simp only [p]at h1;obtain⟨nb,Y⟩:=ex (w.heap.size);obtain⟨aa,ca,rfl,aU,aS,aq⟩:=id ha;obtain⟨W0,t⟩:=ex (w.alloc (.cells #[.string pr,.slice aa args.length ca] 24));have k0:wG w W0:=by rw [←t];exact kAl
 have b0:W0.heap[nb]?=some (.cells #[.string pr,.slice aa args.length ca] 24 (0,0)):=by rw [←t,←Y];exact qh _ _
 have l0:nb<W0.heap.size:=qe b0;have ar:decide (args.length<=16)=decide ((args.length:Int)<=16):=by rw [yl];omega
 clear ar;clear ad ha;refine hd7 ?_ h1 k0 t ae aq Y b0;clear h1 k0 t ae aq Y b0;intro z m q am ak l ag;cases b1 with
 |false=>
  have h:qc4 ⟨pr,args⟩=false:=by rw [v];rfl
  rw [h];clear v h p
  go_enter Tryz.func103,Tryz.ntmps103
  go_wp2_with fail;rw [q.o];refine(z.o _).mono ?_;rintro e w1 ⟨rfl,d⟩;have d:=d.symm;subst d;go_wp2_with fail;go_ret;exact⟨rfl,m.o.mt⟩
 |true=>
 have aC:W0.cell? ⟨nb,1,none⟩=some (.slice aa args.length ca):=by have:=qb ag.o 1 _ rfl;simpa using this
 rcases y7 16 args.length with h16 |h16
 ·have h:qc4 ⟨pr,args⟩=false:=by rw [v,zM (show ¬args.length<=16 from wC)];rfl
  have ao:(16:Int)<args.length:=wC
  rw [h];clear v h p h16
  go_enter Tryz.func103,Tryz.ntmps103
  go_wp2_with fail;rw [q.o,l.o];refine(z.o _).mono ?_;rintro e w1 ⟨rfl,d⟩;have d:=d.symm;subst d;go_wp2_with fail;go_ret;exact⟨rfl,m.o.mt⟩
 have ao: ¬(16:Int)<args.length:=wC
 rw [zS h16,yW,yW]at v;refine hd2 ?_ v p;clear v p;intro ah aI
 go_enter Tryz.func103,Tryz.ntmps103
 go_wp2_with fail;rw [q.o,l.o];refine(z.o _).mono ?_;rintro e w1 ⟨rfl,d⟩;have d:=d.symm;subst d;go_wp2_with fail;clear aC
 go_loopw [3] (fun i wr=> ∃k:Nat,k<=args.length/\i=.int .i64 (k:Int)/\Keep (fun b=>b<W0.heap.size) W0 wr/\(args.take k).all qbi=true) (fun i _=>args.length-(intOf i).toNat)
 case atStart=>exact⟨0,wC,rfl,Keep.refl _ _,rfl⟩
 case round=>
  obtain⟨k,hk,rfl,hK,c⟩:=hrel;have aV:=hK.size;have X:=hK.heap ag.o l0;have c0:=qb X 0 _ rfl;have c1:=qb X 1 _ rfl;simp only [zD]at c0 c1;have lr:nb<wr.heap.size:=wC
  have u:=m.o.trans (hK.mono fun b _ _=>wC);clear X;by_cases aF:k<args.length
  ·have aJ:(k:Int)<args.length:=by omega
   have aT:(0:Int)<=k:=wC
   obtain⟨x,y⟩: ∃x,args[k]?=some x:=⟨_,zB aF⟩;obtain⟨b,o,rfl,hb,q0,q1⟩:=ak.o k x y;have aQ:b<nb:=by have:=l.o;omega
   have h0:=hK.cell (m.o.cell q0 wH) (show b<W0.heap.size from wC);have h1:=hK.cell (m.o.cell q1 wH) (show b<W0.heap.size from wC);have aR:b<wr.heap.size:=wC
   have g:=qh5 qbi args y;rw [c,yW]at g;have ht:=qk0 x (am.o x (zH y)) wr;unfold qc3 at ht;cases hp:qbi x with
   |false=>
    rw [hp]at ht;have au:=qjy qbi args y hp;clear q0 q1 u;refine hd7 ?_ hK c g ht hp au y;clear hK c g ht hp au y;intro s R r U ay al az;go_wp2_with fail;refine U.o.mono ?_;rintro e W1 ⟨rfl,k1⟩;go_wp2_with fail;go_ret;exact⟨by rw [ah.o,al.o];rfl,m.o.trans ((s.o.trans k1.mt).mono fun b _ _=>wC) |>.mt⟩
   |true=>
    rw [hp]at ht g;clear q0 q1 u;refine hd6 ?_ hK c g ht hp y;clear hK c g ht hp y;intro s R r U ay az;go_wp2_with fail;refine U.o.mono ?_;rintro e W1 ⟨rfl,k1⟩;have ap:=s.o.trans k1.mt;clear k1;refine hd1 ?_ ap;clear ap;intro aj;go_wp2_with fail;go_roundw
    case rel=>exact⟨k+1,wC,by go_num,aj.o,r.o⟩
    case measure=>simp [intOf];omega
  ·obtain rfl:k=args.length:=by omega
   rw [zi]at c;have h:qc4 ⟨pr,args⟩=true:=by rw [ah.o,c]
   clear c;refine hd3 ?_ hK u h;clear hK u h;intro s an ai;go_wp2_with fail;go_ret;exact⟨by rw [ai.o];rfl,an.o.mono fun b hb _=>by have:=l.o;omega⟩
theorem qy0 (n:Nat)(L:LitD)(ar:q2k L)(sa:Value)(w:World)(ha:qai n w sa L.atom.args)(hn:n<=w.heap.size):Calls prog 104 #[qew L sa] w fun e w'=>e=.returned (.bool (qcq L))/\Keep (fun b=>b<w.heap.size) w w':=by
 have ap:=fun W (hW:qai n W sa L.atom.args) (h2:n<=W.heap.size)=>qoo n L.atom ar.1 sa W hW h2;have au:=fun W=>qk0 L.left ar.2.1 W;have av:=fun W=>qk0 L.right ar.2.2 W;have g:=fun W=>qi1 L.left qdr W;have l:=fun W=>qi1 L.right qdr W;have hL:qcq L=if L.kind=1∨L.kind=2 then qc4 L.atom&&decide (L.left=qdr)&&decide (L.right=qdr) else if L.kind=3 then decide (L.atom.pred=⟨#[]⟩)&&decide (L.atom.args.length=0)&&qbi L.left&&qbi L.right else false:=rfl
 obtain⟨bA,aC⟩: ∃b,qc4 L.atom=b:=⟨_,rfl⟩;obtain⟨aB,af⟩: ∃b,decide (L.left=qdr)=b:=⟨_,rfl⟩;obtain⟨aL,ag⟩: ∃b,decide (L.right=qdr)=b:=⟨_,rfl⟩;obtain⟨aM,ah⟩: ∃b,qbi L.left=b:=⟨_,rfl⟩;obtain⟨aN,ai⟩: ∃b,qbi L.right=b:=⟨_,rfl⟩;obtain⟨bl,aD⟩: ∃b,qcq L=b:=⟨_,rfl⟩;rw [aD];rw [aD,aC,af,ag,ah,ai]at hL;simp only [aC]at ap;simp only [ah]at au;simp only [ai]at av;simp only [af]at g;simp only [ag]at l;clear ar aD aC af ag ah ai;obtain⟨k,⟨pr,args⟩,⟨lv,lt⟩,⟨rv,rt⟩⟩:=L;unfold qew;unfold qc3 qdr at g l;unfold qc3 at au av;simp only at*;obtain⟨aa,ca,rfl,aS,aR,-⟩:=id ha;obtain⟨m,hm⟩:=ex (args.length);rw [hm]at hL ha ap aS aR;rw [hm];obtain⟨X,aq⟩:=ex (w.heap.size);obtain⟨W0,ae⟩:=ex (w.alloc (.cells #[.int .i64 k,.string pr,.slice aa m ca,.bool lv,.string lt,.bool rv,.string rt] 64));have k0:wG w W0:=by rw [←ae];exact kAl
 have b0:W0.heap[X]?=some (.cells #[.int .i64 k,.string pr,.slice aa m ca,.bool lv,.string lt,.bool rv,.string rt] 64 (0,0)):=by rw [←ae,←aq];exact qh _ _
 have l0:=qe b0;have a8:=k0.size;obtain⟨W1,ao⟩:=ex (W0.alloc (.cells #[.bool false,.string ⟨#[]⟩] 60));have k1:wG W0 W1:=by rw [←ao];exact kAl
 have z0:W0.heap.size=X+1:=by rw [←ae,←aq];simp
 have n0:W1.heap[X+1]?=some (.cells #[.bool false,.string ⟨#[]⟩] 60 (0,0)):=by rw [←ao,←z0];exact qh _ _
 have b1:=k1.heap b0 trivial;have l1:=qe b1;have l2:=qe n0;have ax:=ap W1 (qak ha ((k0.trans k1).mt)) wC;have c0:=qb b1 0 _ rfl;have c1:=qb b1 1 _ rfl;have c2:=qb b1 2 _ rfl;have c3:=qb b1 3 _ rfl;have c4:=qb b1 4 _ rfl;have c5:=qb b1 5 _ rfl;have c6:=qb b1 6 _ rfl;have n1:=qb n0 0 _ rfl;have n2:=qb n0 1 _ rfl;simp only [zD]at c0 c1 c2 c3 c4 c5 c6 n1 n2;have aU:=k0.trans k1;clear ha ap aS aR hm a8 k0 k1 b0 n0 b1;refine hd8 ?_ hL ax au av ae ao aq aU;clear hL ax au av ae ao aq aU;intro ay az R Y q r s t;by_cases u:k=1∨k=2
 ·have aP:bl=(bA&&aB&&aL):=by rw [ay.o,zI u]
  refine hd1 ?_ aP;clear aP;intro aJ;rcases u with rfl |rfl
  all_goals cases bA
  all_goals (try cases aB)
  all_goals go_enter Tryz.func104,Tryz.ntmps104
  all_goals go_wp2_with fail
  all_goals rw [q.o,r.o,s.o]
  all_goals refine az.o.mono ?_
  all_goals (rintro e W2 ⟨rfl,d⟩;have bf:=d.cell c3 l1;have bg:=d.cell c4 l1;have ab:=d.cell c5 l1;have ad:=d.cell c6 l1;have bp:=d.cell n1 l2;have bq:=d.cell n2 l2;have bm:=d.size;have aE:X<W2.heap.size:=wC;have bn:X+1<W2.heap.size:=wC;have kk:Keep (fun b=>b<X) w W2:=t.o.mt.trans (d.mono fun b hb _=>wC);clear d c0 c1 c2 c3 c4 c5 c6 n1 n2;have a1:=zg kk;clear kk)
  all_goals go_wp2_with fail
  all_goals go_ret
  all_goals exact⟨by rw [aJ.o];(try cases aB)<;>(try cases aL)<;>rfl,a1.o.mono fun b hb h=>by have:=s.o;omega⟩
 ·by_cases e3:k=3
  ·have c:bl=(decide (pr=⟨#[]⟩)&&decide (m=0)&&aM&&aN):=by rw [ay.o,zF u,zI e3]
   subst e3;clear u;cases aM
   ·rw [yP,y8]at c;refine hd3 ?_ c g l;clear c g l;intro p y z
    go_enter Tryz.func104,Tryz.ntmps104
    go_wp2_with fail;rw [q.o,r.o,s.o];refine(R.o _).mono ?_;rintro e W2 ⟨rfl,d⟩;go_wp2_with fail;go_ret;exact⟨by rw [p.o];rfl,(t.o.trans d).mt⟩
   rw [xM]at c;cases aN
   ·rw [yP]at c;refine hd3 ?_ c g l;clear c g l;intro p y z
    go_enter Tryz.func104,Tryz.ntmps104
    go_wp2_with fail;rw [q.o,r.o,s.o];refine(R.o _).mono ?_;rintro e W2 ⟨rfl,d⟩;have ab:=d.cell c5 trivial;have ad:=d.cell c6 trivial;have aE:X<W2.heap.size:=by have:=d.size;omega
    clear c0 c1 c2 c3 c4 c5 c6 n1 n2;refine hd1 ?_ d;clear d;intro x;go_wp2_with fail;refine(Y.o _).mono ?_;rintro e W3 ⟨rfl,k3⟩;go_wp2_with fail;go_ret;exact⟨by rw [p.o];rfl,((t.o.trans x.o).trans k3).mt⟩
   rw [xM]at c;have U: ∀W3,wG W1 W3->X<W3.heap.size/\W3.cell? ⟨X,1,none⟩=some (.string pr)/\W3.cell? ⟨X,2,none⟩=some (.slice aa m ca):=fun W3 k=>⟨by have:=k.size;omega,k.cell c1 wH,k.cell c2 wH⟩;by_cases hp:pr=⟨#[]⟩
   ·subst hp;rw [show decide ((⟨#[]⟩:ByteArray)=⟨#[]⟩)=true from rfl,yW]at c;have aT:decide (m=0)=decide ((m:Int)=0):=by rw [yl];omega
    rw [aT]at c;clear aT;refine hd4 ?_ c g l U;clear c g l U;intro p y z v
    go_enter Tryz.func104,Tryz.ntmps104
    go_wp2_with fail;rw [q.o,r.o,s.o];refine(R.o _).mono ?_;rintro e W2 ⟨rfl,d⟩;have ab:=d.cell c5 trivial;have ad:=d.cell c6 trivial;have aE:X<W2.heap.size:=by have:=d.size;omega
    clear c0 c1 c2 c3 c4 c5 c6 n1 n2;refine hd1 ?_ d;clear d;intro x;go_wp2_with fail;refine(Y.o _).mono ?_;rintro e W3 ⟨rfl,k3⟩;obtain⟨l3,d1,d2⟩:=v.o W3 (x.o.trans k3);clear ab ad;refine hd1 ?_ k3;clear k3;intro aA;go_wp2_with fail;go_ret;exact⟨by rw [p.o];rfl,((t.o.trans x.o).trans aA.o).mt⟩
   ·rw [zM hp,y8]at c;have bk:=qnr hp;clear hp;refine hd4 ?_ c g l U;clear c g l U;intro p y z v
    go_enter Tryz.func104,Tryz.ntmps104
    go_wp2_with fail;rw [q.o,r.o,s.o];refine(R.o _).mono ?_;rintro e W2 ⟨rfl,d⟩;have ab:=d.cell c5 trivial;have ad:=d.cell c6 trivial;have aE:X<W2.heap.size:=by have:=d.size;omega
    clear c0 c1 c2 c3 c4 c5 c6 n1 n2;refine hd1 ?_ d;clear d;intro x;go_wp2_with fail;refine(Y.o _).mono ?_;rintro e W3 ⟨rfl,k3⟩;obtain⟨l3,d1,d2⟩:=v.o W3 (x.o.trans k3);clear ab ad;refine hd1 ?_ k3;clear k3;intro aA;go_wp2_with fail;go_ret;exact⟨by rw [p.o];rfl,((t.o.trans x.o).trans aA.o).mt⟩
  ·have aQ:bl=false:=by rw [ay.o,zF u,zF e3]
   have e1: ¬k=1:=fun h=>u (.inl h);have e2: ¬k=2:=fun h=>u (.inr h);clear u;refine hd3 ?_ aQ g l;clear aQ g l;intro aK y z
   go_enter Tryz.func104,Tryz.ntmps104
   go_wp2_with fail;go_ret;exact⟨by rw [aK.o];rfl,by rw [q.o,r.o];exact t.o.mt⟩
theorem qtf (n:Nat)(r:RuleD)(ak:qu2 r)(sh sb:Value)(w:World)(hr:RuleIn n w sh sb r)(hn:n<=w.heap.size):Calls prog 65 #[qam r sh sb] w fun e w'=>e=.returned (.bool (qaq r))/\Keep (fun b=>b<w.heap.size) w w':=by
 obtain⟨⟨pr,args⟩,body⟩:=r;obtain⟨hh,R⟩:=hr;unfold qam;simp only at hh R⊢;have hE:qaq ⟨⟨pr,args⟩,body⟩=(decide (body.length<=256)&&qc4 ⟨pr,args⟩&&body.all qcq):=rfl;have ah:=fun W (hK:wG w W)=>qoo n ⟨pr,args⟩ ak.1 sh W (qak hh hK.mt) (by have:=hK.size;omega);have aB:=fun x (hx:x∈body) W (hK:Keep (fun b=>b<w.heap.size) w W) sa (y:qai n w sa x.atom.args)=>qy0 n x (ak.2 x hx) sa W (qak y (hK.mono fun _ _ _=>wC)) (by have:=hK.size;omega);obtain⟨bA,ai⟩: ∃b,qc4 ⟨pr,args⟩=b:=⟨_,rfl⟩;rw [ai,show decide (body.length<=256)=decide ((body.length:Int)<=256) from by rw [yl];omega]at hE;simp only [ai]at ah;obtain⟨aa,ca,rfl,-,-,-⟩:=id hh;obtain⟨ab,cb,rfl,a6,a4,aA⟩:=id R;obtain⟨nb,X⟩:=ex (w.heap.size);obtain⟨W0,t⟩:=ex (w.alloc (.cells #[.string pr,.slice aa args.length ca,.slice ab body.length cb] 27));have k0:wG w W0:=by rw [←t];exact kAl
 have hz:=k0.size;have c2:W0.cell? ⟨nb,2,none⟩=some (.slice ab body.length cb):=by rw [←t,←X];simp
 have l0:nb<W0.heap.size:=by rw [←t,←X];simp
 have Y:=ah W0 k0;clear hh R ai ah ak;obtain⟨b3,u⟩: ∃b,decide ((body.length:Int)<=256)=b:=⟨_,rfl⟩;rw [u]at hE;refine hd7 ?_ hE Y aB k0 t aA X;clear hE Y aB k0 t aA X;intro U l aq af q ap c;cases bA with
 |false=>
  go_enter Tryz.func65,Tryz.ntmps65
  go_wp2_with fail;rw [q.o,c.o];refine l.o.mono ?_;rintro e W1 ⟨rfl,z⟩;go_wp2_with fail;go_ret;exact⟨by rw [U.o,yP,y8];rfl,af.o.mt.trans (z.mono fun b R _=>by have:=c.o;omega)⟩
 |true=>
 cases b3 with
 |false=>
  have aM: ¬(body.length:Int)<=256:=xV u;have aN:256<(body.length:Int):=wC
  clear u
  go_enter Tryz.func65,Tryz.ntmps65
  go_wp2_with fail;rw [q.o,c.o];refine l.o.mono ?_;rintro e W1 ⟨rfl,z⟩;have ag:=z.cell c2 l0;have aQ:=z.size;have l1:nb<W1.heap.size:=wC
  clear c2;refine hd1 ?_ z;clear z;intro aJ;go_wp2_with fail;go_ret;exact⟨by rw [U.o];rfl,af.o.mt.trans (aJ.o.mono fun b R _=>by have:=c.o;omega)⟩
 |true=>
  have aM:(body.length:Int)<=256:=yE u;have aN: ¬256<(body.length:Int):=wC
  clear u
  go_enter Tryz.func65,Tryz.ntmps65
  go_wp2_with fail;rw [q.o,c.o];refine l.o.mono ?_;rintro e W1 ⟨rfl,z⟩;have ag:=z.cell c2 l0;have aQ:=z.size;have kk:Keep (fun b=>b<nb) w W1:=af.o.mt.trans (z.mono fun b R _=>by have:=c.o;omega);have l1:nb<W1.heap.size:=wC
  clear z c2;refine hd1 ?_ kk;clear kk;intro av
  ·go_wp2_with fail;have aI:=zg ag;clear ag
   go_loopw [3] (fun i wr=> ∃k:Nat,k<=body.length/\i=.int .i64 (k:Int)/\Keep (fun b=>b<W1.heap.size) W1 wr/\(body.take k).all qcq=true) (fun i _=>body.length-(intOf i).toNat)
   case atStart=>exact⟨0,wC,rfl,Keep.refl _ _,rfl⟩
   case round=>
    obtain⟨k,hk,rfl,hK,d⟩:=hrel;have a8:=hK.size;have c2:=hK.cell aI.o l1;have lr:nb<wr.heap.size:=wC
    have p:Keep (fun b=>b<nb) w wr:=av.o.trans (hK.mono fun b R _=>by have:=av.o.size;have:=c.o;omega);by_cases aP:k<body.length
    ·have aT:(k:Int)<body.length:=by omega
     have a5:(0:Int)<=k:=wC
     obtain⟨x,hx⟩: ∃x,body[k]?=some x:=⟨_,zB aP⟩;obtain⟨b,o,rfl,R,sa,az,y⟩:=ap.o k x hx;obtain⟨aK,aL,rfl,-,-,-⟩:=id y;have aO:b<nb:=by have:=c.o;omega
     have g: ∀j v,(qal x (.slice aK x.atom.args.length aL))[j]?=some v->wr.cell? ⟨b,o+k*7+j,none⟩=some v:=fun j v h=>p.cell (az j v h) aO;have d0:=g 0 _ rfl;have d1:=g 1 _ rfl;have d2:=g 2 _ rfl;have d3:=g 3 _ rfl;have d4:=g 4 _ rfl;have d5:=g 5 _ rfl;have d6:=g 6 _ rfl;simp only [Nat.add_zero]at d0;have a3:b<wr.heap.size:=wC
     have m:=qh5 qcq body hx;rw [d,yW]at m;have aj:=qjy qcq body hx;have ht:=aq.o x (zH hx) wr (p.mono fun b _ _=>by have:=c.o;omega) _ y;unfold qew at ht;obtain⟨px,aC⟩: ∃b,qcq x=b:=⟨_,rfl⟩;rw [aC]at m ht aj;clear g az y d hx aC;refine hd5 ?_ hK m ht aj p;clear hK m ht aj p;intro an ae au ar s;cases px
     ·go_wp2_with fail;refine au.o.mono ?_;rintro e W2 ⟨rfl,k2⟩;go_wp2_with fail;go_ret;exact⟨by rw [U.o,ar.o (by trivial),yP];rfl,s.o.trans (k2.mono fun b R h=>wC) |>.mono fun b _ _=>by have:=c.o;omega⟩
     ·go_wp2_with fail;refine au.o.mono ?_;rintro e W2 ⟨rfl,k2⟩;have ay:=an.o.trans (k2.mono fun b R _=>wC);clear k2;refine hd1 ?_ ay;clear ay;intro ao;go_wp2_with fail;go_roundw
      case rel=>exact⟨k+1,wC,by go_num,ao.o,ae.o⟩
      case measure=>simp [intOf];omega
    ·obtain rfl:k=body.length:=by omega
     rw [zi]at d;have ax:qaq ⟨⟨pr,args⟩,body⟩=true:=by rw [U.o,d];rfl
     clear d;refine hd3 ?_ hK p ax;clear hK p ax;intro an s am;go_wp2_with fail;go_ret;exact⟨by rw [am.o];rfl,s.o.mono fun b _ _=>by have:=c.o;omega⟩
end Go.Proofs
namespace Go.Proofs
open Go.RowKit Go.Ink Go.Flt R4 P16
attribute [local go_sem] Oper.semAt_some
theorem q6t {body:List LitD}{k:Nat}{L:LitD}(h:body[k]?=some L):qd1 (qas (body.take (k+1)))=qd1 (qas (body.take k))++(if (L.kind==1)=true then qaj L.atom.args else []):=by
 cases b:(L.kind==1) with
 |true=>
  rw [qnh h b,zI rfl];unfold qd1;rw [yG,yF,xp,yQ]
 |false=>rw [qov h b,zF wE,yQ]
theorem qy1 {n:Nat}{r:RuleD}{sh sb:Value}{w:World}(hr:RuleIn n w sh sb r)(hn:n<=w.heap.size)(v:ByteArray):
  Calls prog 138 #[qam r sh sb,.string v] w fun e w'=>e=.returned (.bool (decide (v∈qd1 (qas r.body))))/\Keep (fun b=>b<w.heap.size) w w':=by
 unfold qam;obtain⟨N,hN⟩:=ex (w.heap.size);obtain⟨⟨ah,aw,rfl,bb,a8,ay⟩,⟨ab,av,rfl,ba,a7,ax⟩⟩:=id hr;obtain⟨W0,ai⟩:=ex (w.alloc (.cells #[.string r.head.pred,.slice ah r.head.args.length aw,.slice ab r.body.length av] 27));have k0:wG w W0:=by rw [←ai];exact kAl
 have p0:W0.heap[N]?=some (.cells #[.string r.head.pred,.slice ah r.head.args.length aw,.slice ab r.body.length av] 27 (0,0)):=by rw [←ai,←hN];exact qh _ _
 have z0:W0.heap.size=N+1:=by rw [←ai,←hN];simp
 refine hd7 ?_ hr hN ai k0 p0 ax ay;clear hr hN ai k0 p0 ax ay;intro bD t aI an aJ aB a0
 go_enter Tryz.func138,Tryz.ntmps138
 go_wp2_with fail;rw [aI.o,t.o]
 go_loopw [5] (fun ix wr=> ∃(k:Nat),k<=r.body.length/\ix=.int .i64 (k:Int)/\Keep (fun b=>b<N+1) W0 wr/\v∉qd1 (qas (r.body.take k))) (fun i _=>r.body.length-(intOf i).toNat)
 case atStart=>exact⟨0,wC,rfl,Keep.refl _ _,by simp [qd1,qas]⟩
 case round=>
  obtain⟨k,hk,rfl,hK,q⟩:=hrel;have aQ:=hK.size;have bM:(0:Int)<=k:=wC
  have z:=hK.heap aJ.o wC;have d2:=qb z 2 _ rfl;have a5:=qe z;simp only [zD]at d2;clear z;by_cases aP:k<r.body.length
  ·have bq:(k:Int)<r.body.length:=by omega
   obtain⟨L,hL⟩: ∃L,r.body[k]?=some L:=⟨_,zB aP⟩;obtain⟨b,off,rfl,hb,sa,aE,aT⟩:=aB.o k L hL;have bK:b<N+1:=by have:=t.o;omega
   have kw:Keep (fun b=>b<n) w wr:=an.o.mt.trans (hK.mono fun b _ h=>by have:=t.o;omega);have X:=aE 0 _ rfl;have aj:=aE 2 _ rfl;simp only [Nat.add_zero]at X;have e0:=kw.cell X hb;have e2:=kw.cell aj hb;obtain⟨bF,bH,rfl,bO,bN,ao⟩:=id aT;have a6:b<wr.heap.size:=wC
   have Y:=q6t hL;obtain⟨W2,aM⟩: ∃W2,W2=wr:=⟨_,rfl⟩;rw [←aM]at hK aQ a5 e0 e2 d2 a6 kw⊢;clear aE aT hL aM;cases d:(L.kind==1) with
   |false=>
    rw [d,zF wE,yQ]at Y;rw [←Y]at q;have a9: ¬L.kind=1:=by simpa using d
    clear Y d;refine hd6 ?_ hK q ao kw X aj;clear hK q ao kw X aj;intro am af ar a2 ap aq;go_wp2_with fail
    go_loopw [6] (fun ix wr=>ix=.int .i64 0/\wr=W2) (fun _ _=>0)
    case atStart=>exact⟨rfl,rfl⟩
    case round=>
     obtain⟨rfl,bd⟩:=hrel;subst bd;go_wp2_with fail;go_roundw
     case rel=>exact⟨k+1,wC,by go_num,am.o,af.o⟩
     case measure=>simp [intOf];omega
   |true=>
    rw [d,zI rfl]at Y;have a9:L.kind=1:=by simpa using d
    clear d;refine hd7 ?_ hK q ao kw Y X aj;clear hK q ao kw Y X aj;intro am af ar a2 au ap aq;go_wp2_with fail;clear e0 e2 d2
    go_loopw [6] (fun ix wr=> ∃j:Nat,j<=L.atom.args.length/\ix=.int .i64 (j:Int)/\Keep (fun b=>b<N+1) W0 wr/\v∉qaj (L.atom.args.take j)) (fun i _=>L.atom.args.length-(intOf i).toNat)
    case atStart=>exact⟨0,wC,rfl,am.o,by simp [qaj]⟩
    case round=>
     obtain⟨j,hj,rfl,hJ,c⟩:=hrel;have br:=hJ.size;have bL:(0:Int)<=j:=wC
     have z:=hJ.heap aJ.o wC;have d2:=qb z 2 _ rfl;have bm:=qe z;simp only [zD]at d2;clear z;have kJ:Keep (fun b=>b<n) w wr:=an.o.mt.trans (hJ.mono fun b _ h=>by have:=t.o;omega);have f0:=kJ.cell ap.o hb;have f2:=kJ.cell aq.o hb;have bo:b<wr.heap.size:=wC
     by_cases aO:j<L.atom.args.length
     ·have bp:(j:Int)<L.atom.args.length:=by omega
      obtain⟨u,hu⟩: ∃u,L.atom.args[j]?=some u:=⟨_,zB aO⟩;obtain⟨bt,ot,rfl,aN,aR,aS⟩:=ar.o j u hu;have q0:=kJ.cell aR aN;have q1:=kJ.cell aS aN;have bn:bt<wr.heap.size:=by have:=t.o;omega
      obtain⟨W3,m⟩:=ex (wr.alloc (.cells #[.bool u.var,.string u.text] 60));have k3:wG wr W3:=by rw [←m];exact kAl
      have p3:W3.heap[wr.heap.size]?=some (.cells #[.bool u.var,.string u.text] 60 (0,0)):=by rw [←m];exact qh _ _
      obtain⟨M,hM⟩:=ex (wr.heap.size);have x:Keep (fun b=>b<N+1) W0 W3:=hJ.trans k3.mt;rw [hM]at p3;have g0:=qb p3 0 _ rfl;have g1:=qb p3 1 _ rfl;have l3:=qe p3;simp only [zD]at g0 g1;have U:Keep (fun b=>b<N) w W3:=an.o.mt.trans (x.mono fun b _ h=>wC);clear aR aS p3 k3;cases s:u.var with
      |false=>
       rw [s]at q0 g0 m;have g:v∉qaj (L.atom.args.take (j+1)):=by rw [qpw hu s];exact c
       clear hu s;refine hd8 ?_ hJ c kJ m hM x U g;clear hJ c kJ m hM x U g;intro al ag aC p aA R ae l;go_wp2_with fail;rw [p.o];go_roundw
       case rel=>exact⟨j+1,wC,by go_num,R.o,l.o⟩
       case measure=>simp [intOf];omega
      |true=>
       rw [s]at q0 g0 m;have ak:=qn0 hu s;by_cases hx:u.text=v
       ·have bf:=qdv hx;have hE:decide (v∈qd1 (qas r.body))=true:=zS (by
         have h1:v∈qaj L.atom.args:=by
          unfold qaj;rw [yL];exact⟨u,yX.2 ⟨zH hu,s⟩,hx⟩
         have h2:v∈qd1 (qas (r.body.take (k+1))):=by rw [au.o];exact mem_append_right _ h1
         unfold qd1 qas at h2⊢;rw [flatMap_map]at h2⊢;obtain⟨y,hy,hv⟩:=xF.1 h2;obtain⟨bg,bh⟩:=yX.1 hy;exact xF.2 ⟨y,yX.2 ⟨xm bg,bh⟩,hv⟩)
        clear hu s ak hx;refine hd8 ?_ hJ c kJ m hM x U hE;clear hJ c kJ m hM x U hE;intro al ag aC p aA R ae az;go_wp2_with fail;rw [p.o,aA.o];go_wp2_with fail;go_ret;exact⟨by rw [az.o];rfl,by rw [t.o];exact ae.o⟩
       ·have bf:=qc1 hx;have g:v∉qaj (L.atom.args.take (j+1)):=by
         rw [ak];intro h;rcases zr.1 h with h |h
         ·exact c h
         ·exact hx (zm.1 h).symm
        clear hu s ak hx;refine hd8 ?_ hJ c kJ m hM x U g;clear hJ c kJ m hM x U g;intro al ag aC p aA R ae l;go_wp2_with fail;rw [p.o];go_roundw
        case rel=>exact⟨j+1,wC,by go_num,R.o,l.o⟩
        case measure=>simp [intOf];omega
     ·obtain rfl:j=L.atom.args.length:=by omega
      rw [zi]at c;have g:v∉qd1 (qas (r.body.take (k+1))):=by
       rw [au.o];intro h;rcases zr.1 h with h |h
       ·exact af.o h
       ·exact c h
      clear aO c;refine hd3 ?_ hJ kJ g;clear hJ kJ g;intro al aC l;go_wp2_with fail;go_roundw
      case rel=>exact⟨k+1,wC,by go_num,al.o,l.o⟩
      case measure=>simp [intOf];omega
  ·obtain rfl:k=r.body.length:=by omega
   rw [zi]at q;have hE:=zM q;have kE:Keep (fun b=>b<N) w wr:=an.o.mt.trans (hK.mono fun b _ h=>wC);clear aP q;refine hd3 ?_ hK hE kE;clear hK hE kE;intro am az a1;go_wp2_with fail;go_ret;exact⟨by rw [az.o];rfl,by rw [t.o];exact a1.o⟩
end Go.Proofs

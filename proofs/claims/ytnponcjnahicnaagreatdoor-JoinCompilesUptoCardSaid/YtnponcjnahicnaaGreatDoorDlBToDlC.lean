/- Parts of the proof. -/
import Derived.Test.YtnponcjnahicnaaGreatDoorLwGToDlA
set_option linter.unusedSimpArgs false
set_option linter.unusedVariables false
set_option maxRecDepth 100000
set_option maxHeartbeats 2000000
open Go.Proofs.Tryz(prog)
open List(flatMap_map mem_append_right)
namespace Go.Proofs
open Go.RowKit Go.Ink P16
attribute [local go_sem] Oper.semAt_some
theorem qr2 (s:ByteArray)(w:World):Calls prog 206 #[.string s] w fun e w'=>e=.returned (.bool (qga s))/\w'=w:=by
 rw [←qme]
 go_enter Tryz.func206,Tryz.ntmps206
 go_wp2_with fail;go_ret;exact⟨rfl,rfl⟩
theorem qj0 (t:TermD)(q:smallT t)(w:World):Calls prog 156 #[qc3 t] w fun e w'=>e=.returned (.bool (qa4 t))/\wD w w':=by
 obtain⟨v,s⟩:=t;unfold qc3;simp only;have j:=fun w=>qzh s q w;have k:=fun w=>qr2 s w;have l:qa4 ⟨v,s⟩=if v then qg9 s else qga s:=rfl
 obtain⟨u,d⟩: ∃b,qg9 s=b:=⟨_,rfl⟩;obtain⟨x,f⟩: ∃b,qga s=b:=⟨_,rfl⟩;rw [d,f]at l;simp only [d]at j;simp only [f]at k;clear q;refine hd5 ?_ j k l d f;clear j k l d f;intro h i g m p;cases v
 ·go_enter Tryz.func156,Tryz.ntmps156
  go_wp2_with fail;refine(i.o _).mono ?_;rintro e r ⟨rfl,c⟩;have c:=c.symm;subst c;go_wp2_with fail;go_ret;exact⟨by rw [g.o];rfl,kAl⟩
 ·go_enter Tryz.func156,Tryz.ntmps156
  go_wp2_with fail;refine(h.o _).mono ?_;rintro e r ⟨rfl,c⟩;have c:=c.symm;subst c;go_wp2_with fail;go_ret;exact⟨by rw [g.o];rfl,kAl⟩
theorem qm4 (n:Nat)(a:qfx)(Y:smallA a)(sa:Value)(w:World)(ha:qad n w sa a.args)(hn:n<=w.heap.size):Calls prog 115 #[.agg #[.string a.pred,sa]] w fun e w'=>e=.returned (.bool (qch a))/\Keep (fun b=>b<w.heap.size) w w':=by
 obtain⟨pr,args⟩:=a;simp only at ha⊢;have t:qch ⟨pr,args⟩=(qdi pr&&decide (args.length<=16)&&args.all qa4):=rfl;have h1:=fun w=>qw6 pr Y.1 w;have ab:=Y.2;simp only at ab;obtain⟨b1,l⟩: ∃b,qdi pr=b:=⟨_,rfl⟩;rw [l]at t;simp only [l]at h1;obtain⟨nb,U⟩:=ex (w.heap.size);obtain⟨aa,ca,rfl,aT,aR,ao⟩:=id ha;obtain⟨W0,r⟩:=ex (w.alloc (.cells #[.string pr,.slice aa args.length ca] 24));have k0:wD w W0:=by rw [←r];exact kAl
 have b0:W0.heap[nb]?=some (.cells #[.string pr,.slice aa args.length ca] 24 (0,0)):=by rw [←r,←U];exact qh _ _
 have l0:nb<W0.heap.size:=qe b0;have ap:decide (args.length<=16)=decide ((args.length:Int)<=16):=by rw [yi];omega
 clear ap;clear Y ha;refine hd7 ?_ h1 k0 r ab ao U b0;clear h1 k0 r ab ao U b0;intro v j m ak ai h ae;cases b1 with
 |false=>
  have g:qch ⟨pr,args⟩=false:=by rw [t];rfl
  rw [g];clear t g l
  go_enter Tryz.func115,Tryz.ntmps115
  go_wp2_with fail;rw [m.o];refine(v.o _).mono ?_;rintro e w1 ⟨rfl,d⟩;have d:=d.symm;subst d;go_wp2_with fail;go_ret;exact⟨rfl,j.o.mt⟩
 |true=>
 have aA:W0.cell? ⟨nb,1,none⟩=some (.slice aa args.length ca):=by have:=qb ae.o 1 _ rfl;simpa using this
 rcases yX 16 args.length with h16 |h16
 ·have g:qch ⟨pr,args⟩=false:=by rw [t,zM (show ¬args.length<=16 from xz)];rfl
  have am:(16:Int)<args.length:=xz
  rw [g];clear t g l h16
  go_enter Tryz.func115,Tryz.ntmps115
  go_wp2_with fail;rw [m.o,h.o];refine(v.o _).mono ?_;rintro e w1 ⟨rfl,d⟩;have d:=d.symm;subst d;go_wp2_with fail;go_ret;exact⟨rfl,j.o.mt⟩
 have am: ¬(16:Int)<args.length:=xz
 rw [zS h16,yT,yT]at t;refine hd2 ?_ t l;clear t l;intro af aG
 go_enter Tryz.func115,Tryz.ntmps115
 go_wp2_with fail;rw [m.o,h.o];refine(v.o _).mono ?_;rintro e w1 ⟨rfl,d⟩;have d:=d.symm;subst d;go_wp2_with fail;clear aA
 go_loopw [3] (fun i wr=> ∃k:Nat,k<=args.length/\i=.int .i64 (k:Int)/\Keep (fun b=>b<W0.heap.size) W0 wr/\(args.take k).all qa4=true) (fun i _=>args.length-(intOf i).toNat)
 case atStart=>exact⟨0,xz,rfl,Keep.refl _ _,rfl⟩
 case round=>
  obtain⟨k,hk,rfl,hK,c⟩:=hrel;have aU:=hK.size;have R:=hK.heap ae.o l0;have c0:=qb R 0 _ rfl;have c1:=qb R 1 _ rfl;simp only [zD]at c0 c1;have lr:nb<wr.heap.size:=xz
  have s:=j.o.trans (hK.mono fun b _ _=>xz);clear R;by_cases aD:k<args.length
  ·have aH:(k:Int)<args.length:=by omega
   have aS:(0:Int)<=k:=xz
   obtain⟨x,u⟩: ∃x,args[k]?=some x:=⟨_,zB aD⟩;obtain⟨b,o,rfl,hb,q0,q1⟩:=ai.o k x u;have aP:b<nb:=by have:=h.o;omega
   have h0:=hK.cell (j.o.cell q0 wE) (show b<W0.heap.size from xz);have h1:=hK.cell (j.o.cell q1 wE) (show b<W0.heap.size from xz);have aQ:b<wr.heap.size:=xz
   have f:=qhc qa4 args u;rw [c,yT]at f;have ht:=qj0 x (ak.o x (zH u)) wr;unfold qc3 at ht;cases X:qa4 x with
   |false=>
    rw [X]at ht;have aq:=qiz qa4 args u X;clear q0 q1 s;refine hd7 ?_ hK c f ht X aq u;clear hK c f ht X aq u;intro q y p z aw aj ax;go_wp2_with fail;refine z.o.mono ?_;rintro e W1 ⟨rfl,k1⟩;go_wp2_with fail;go_ret;exact⟨by rw [af.o,aj.o];rfl,j.o.trans ((q.o.trans k1.mt).mono fun b _ _=>xz) |>.mt⟩
   |true=>
    rw [X]at ht f;clear q0 q1 s;refine hd6 ?_ hK c f ht X u;clear hK c f ht X u;intro q y p z aw ax;go_wp2_with fail;refine z.o.mono ?_;rintro e W1 ⟨rfl,k1⟩;have an:=q.o.trans k1.mt;clear k1;refine hd1 ?_ an;clear an;intro ah;go_wp2_with fail;go_roundw
    case rel=>exact⟨k+1,xz,by go_num,ah.o,p.o⟩
    case measure=>simp [intOf];omega
  ·obtain rfl:k=args.length:=by omega
   rw [zi]at c;have g:qch ⟨pr,args⟩=true:=by rw [af.o,c]
   clear c;refine hd3 ?_ hK s g;clear hK s g;intro q al ag;go_wp2_with fail;go_ret;exact⟨by rw [ag.o];rfl,al.o.mono fun b hb _=>by have:=h.o;omega⟩
theorem qwe (n:Nat)(L:LitD)(ao:qzj L)(sa:Value)(w:World)(ha:qad n w sa L.atom.args)(hn:n<=w.heap.size):Calls prog 116 #[qd0 L sa] w fun e w'=>e=.returned (.bool (qb3 L))/\Keep (fun b=>b<w.heap.size) w w':=by
 have am:=fun W (hW:qad n W sa L.atom.args) (h2:n<=W.heap.size)=>qm4 n L.atom ao.1 sa W hW h2;have ap:=fun W=>qj0 L.left ao.2.1 W;have aq:=fun W=>qj0 L.right ao.2.2 W;have f:=fun W=>qh6 L.left qc4 W;have g:=fun W=>qh6 L.right qc4 W;have hL:qb3 L=if L.kind=1∨L.kind=2 then qch L.atom&&decide (L.left=qc4)&&decide (L.right=qc4) else if L.kind=3 then decide (L.atom.pred=⟨#[]⟩)&&decide (L.atom.args.length=0)&&qa4 L.left&&qa4 L.right else false:=rfl
 obtain⟨bA,az⟩: ∃b,qch L.atom=b:=⟨_,rfl⟩;obtain⟨ay,ab⟩: ∃b,decide (L.left=qc4)=b:=⟨_,rfl⟩;obtain⟨aI,ad⟩: ∃b,decide (L.right=qc4)=b:=⟨_,rfl⟩;obtain⟨aJ,ae⟩: ∃b,qa4 L.left=b:=⟨_,rfl⟩;obtain⟨aK,af⟩: ∃b,qa4 L.right=b:=⟨_,rfl⟩;obtain⟨bl,aA⟩: ∃b,qb3 L=b:=⟨_,rfl⟩;rw [aA];rw [aA,az,ab,ad,ae,af]at hL;simp only [az]at am;simp only [ae]at ap;simp only [af]at aq;simp only [ab]at f;simp only [ad]at g;clear ao aA az ab ad ae af;obtain⟨k,⟨pr,args⟩,⟨lv,lt⟩,⟨rv,rt⟩⟩:=L;unfold qd0;unfold qc3 qc4 at f g;unfold qc3 at ap aq;simp only at*;obtain⟨aa,ca,rfl,aP,aO,-⟩:=id ha;obtain⟨m,hm⟩:=ex (args.length);rw [hm]at hL ha am aP aO;rw [hm];obtain⟨z,an⟩:=ex (w.heap.size);obtain⟨W0,Y⟩:=ex (w.alloc (.cells #[.int .i64 k,.string pr,.slice aa m ca,.bool lv,.string lt,.bool rv,.string rt] 79));have k0:wD w W0:=by rw [←Y];exact kAl
 have b0:W0.heap[z]?=some (.cells #[.int .i64 k,.string pr,.slice aa m ca,.bool lv,.string lt,.bool rv,.string rt] 79 (0,0)):=by rw [←Y,←an];exact qh _ _
 have l0:=qe b0;have a6:=k0.size;obtain⟨W1,al⟩:=ex (W0.alloc (.cells #[.bool false,.string ⟨#[]⟩] 77));have k1:wD W0 W1:=by rw [←al];exact kAl
 have z0:W0.heap.size=z+1:=by rw [←Y,←an];simp
 have n0:W1.heap[z+1]?=some (.cells #[.bool false,.string ⟨#[]⟩] 77 (0,0)):=by rw [←al,←z0];exact qh _ _
 have b1:=k1.heap b0 trivial;have l1:=qe b1;have l2:=qe n0;have au:=am W1 (qq ha ((k0.trans k1).mt)) xz;have c0:=qb b1 0 _ rfl;have c1:=qb b1 1 _ rfl;have c2:=qb b1 2 _ rfl;have c3:=qb b1 3 _ rfl;have c4:=qb b1 4 _ rfl;have c5:=qb b1 5 _ rfl;have c6:=qb b1 6 _ rfl;have n1:=qb n0 0 _ rfl;have n2:=qb n0 1 _ rfl;simp only [zD]at c0 c1 c2 c3 c4 c5 c6 n1 n2;have aR:=k0.trans k1;clear ha am aP aO hm a6 k0 k1 b0 n0 b1;refine hd8 ?_ hL au ap aq Y al an aR;clear hL au ap aq Y al an aR;intro av aw x R j l p q;by_cases r:k=1∨k=2
 ·have aM:bl=(bA&&ay&&aI):=by rw [av.o,zI r]
  refine hd1 ?_ aM;clear aM;intro aG;rcases r with rfl |rfl
  all_goals cases bA
  all_goals (try cases ay)
  all_goals go_enter Tryz.func116,Tryz.ntmps116
  all_goals go_wp2_with fail
  all_goals rw [j.o,l.o,p.o]
  all_goals refine aw.o.mono ?_
  all_goals (rintro e W2 ⟨rfl,d⟩;have bc:=d.cell c3 l1;have bf:=d.cell c4 l1;have U:=d.cell c5 l1;have X:=d.cell c6 l1;have bo:=d.cell n1 l2;have bp:=d.cell n2 l2;have bk:=d.size;have aB:z<W2.heap.size:=xz;have bm:z+1<W2.heap.size:=xz;have kk:Keep (fun b=>b<z) w W2:=q.o.mt.trans (d.mono fun b hb _=>xz);clear d c0 c1 c2 c3 c4 c5 c6 n1 n2;have aZ:=zg kk;clear kk)
  all_goals go_wp2_with fail
  all_goals go_ret
  all_goals exact⟨by rw [aG.o];(try cases ay)<;>(try cases aI)<;>rfl,aZ.o.mono fun b hb h=>by have:=p.o;omega⟩
 ·by_cases e3:k=3
  ·have c:bl=(decide (pr=⟨#[]⟩)&&decide (m=0)&&aJ&&aK):=by rw [av.o,zF r,zI e3]
   subst e3;clear r;cases aJ
   ·rw [yN,yY]at c;refine hd3 ?_ c f g;clear c f g;intro i u v
    go_enter Tryz.func116,Tryz.ntmps116
    go_wp2_with fail;rw [j.o,l.o,p.o];refine(x.o _).mono ?_;rintro e W2 ⟨rfl,d⟩;go_wp2_with fail;go_ret;exact⟨by rw [i.o];rfl,(q.o.trans d).mt⟩
   rw [xJ]at c;cases aK
   ·rw [yN]at c;refine hd3 ?_ c f g;clear c f g;intro i u v
    go_enter Tryz.func116,Tryz.ntmps116
    go_wp2_with fail;rw [j.o,l.o,p.o];refine(x.o _).mono ?_;rintro e W2 ⟨rfl,d⟩;have U:=d.cell c5 trivial;have X:=d.cell c6 trivial;have aB:z<W2.heap.size:=by have:=d.size;omega
    clear c0 c1 c2 c3 c4 c5 c6 n1 n2;refine hd1 ?_ d;clear d;intro t;go_wp2_with fail;refine(R.o _).mono ?_;rintro e W3 ⟨rfl,k3⟩;go_wp2_with fail;go_ret;exact⟨by rw [i.o];rfl,((q.o.trans t.o).trans k3).mt⟩
   rw [xJ]at c;have y: ∀W3,wD W1 W3->z<W3.heap.size/\W3.cell? ⟨z,1,none⟩=some (.string pr)/\W3.cell? ⟨z,2,none⟩=some (.slice aa m ca):=fun W3 k=>⟨by have:=k.size;omega,k.cell c1 wE,k.cell c2 wE⟩;by_cases hp:pr=⟨#[]⟩
   ·subst hp;rw [show decide ((⟨#[]⟩:ByteArray)=⟨#[]⟩)=true from rfl,yT]at c;have aQ:decide (m=0)=decide ((m:Int)=0):=by rw [yi];omega
    rw [aQ]at c;clear aQ;refine hd4 ?_ c f g y;clear c f g y;intro i u v s
    go_enter Tryz.func116,Tryz.ntmps116
    go_wp2_with fail;rw [j.o,l.o,p.o];refine(x.o _).mono ?_;rintro e W2 ⟨rfl,d⟩;have U:=d.cell c5 trivial;have X:=d.cell c6 trivial;have aB:z<W2.heap.size:=by have:=d.size;omega
    clear c0 c1 c2 c3 c4 c5 c6 n1 n2;refine hd1 ?_ d;clear d;intro t;go_wp2_with fail;refine(R.o _).mono ?_;rintro e W3 ⟨rfl,k3⟩;obtain⟨l3,d1,d2⟩:=s.o W3 (t.o.trans k3);clear U X;refine hd1 ?_ k3;clear k3;intro ax;go_wp2_with fail;go_ret;exact⟨by rw [i.o];rfl,((q.o.trans t.o).trans ax.o).mt⟩
   ·rw [zM hp,yY]at c;have bj:=qmg hp;clear hp;refine hd4 ?_ c f g y;clear c f g y;intro i u v s
    go_enter Tryz.func116,Tryz.ntmps116
    go_wp2_with fail;rw [j.o,l.o,p.o];refine(x.o _).mono ?_;rintro e W2 ⟨rfl,d⟩;have U:=d.cell c5 trivial;have X:=d.cell c6 trivial;have aB:z<W2.heap.size:=by have:=d.size;omega
    clear c0 c1 c2 c3 c4 c5 c6 n1 n2;refine hd1 ?_ d;clear d;intro t;go_wp2_with fail;refine(R.o _).mono ?_;rintro e W3 ⟨rfl,k3⟩;obtain⟨l3,d1,d2⟩:=s.o W3 (t.o.trans k3);clear U X;refine hd1 ?_ k3;clear k3;intro ax;go_wp2_with fail;go_ret;exact⟨by rw [i.o];rfl,((q.o.trans t.o).trans ax.o).mt⟩
  ·have aN:bl=false:=by rw [av.o,zF r,zF e3]
   have e1: ¬k=1:=fun h=>r (.inl h);have e2: ¬k=2:=fun h=>r (.inr h);clear r;refine hd3 ?_ aN f g;clear aN f g;intro aH u v
   go_enter Tryz.func116,Tryz.ntmps116
   go_wp2_with fail;go_ret;exact⟨by rw [aH.o];rfl,by rw [j.o,l.o];exact q.o.mt⟩
theorem qrb (n:Nat)(r:RuleD)(aj:qs0 r)(sh sb:Value)(w:World)(hr:RuleIn n w sh sb r)(hn:n<=w.heap.size):Calls prog 62 #[qaz r sh sb] w fun e w'=>e=.returned (.bool (qak r))/\Keep (fun b=>b<w.heap.size) w w':=by
 obtain⟨⟨pr,args⟩,body⟩:=r;obtain⟨hh,z⟩:=hr;unfold qaz;simp only at hh z⊢;have hE:qak ⟨⟨pr,args⟩,body⟩=(decide (body.length<=256)&&qch ⟨pr,args⟩&&body.all qb3):=rfl;have ag:=fun W (hK:wD w W)=>qm4 n ⟨pr,args⟩ aj.1 sh W (qq hh hK.mt) (by have:=hK.size;omega);have aA:=fun x (hx:x∈body) W (hK:Keep (fun b=>b<w.heap.size) w W) sa (u:qad n w sa x.atom.args)=>qwe n x (aj.2 x hx) sa W (qq u (hK.mono fun _ _ _=>xz)) (by have:=hK.size;omega);obtain⟨bA,ah⟩: ∃b,qch ⟨pr,args⟩=b:=⟨_,rfl⟩;rw [ah,show decide (body.length<=256)=decide ((body.length:Int)<=256) from by rw [yi];omega]at hE;simp only [ah]at ag;obtain⟨aa,ca,rfl,-,-,-⟩:=id hh;obtain⟨ab,cb,rfl,a6,a4,az⟩:=id z;obtain⟨Y,U⟩:=ex (w.heap.size);obtain⟨W0,s⟩:=ex (w.alloc (.cells #[.string pr,.slice aa args.length ca,.slice ab body.length cb] 27));have k0:wD w W0:=by rw [←s];exact kAl
 have hz:=k0.size;have c2:W0.cell? ⟨Y,2,none⟩=some (.slice ab body.length cb):=by rw [←s,←U];simp
 have l0:Y<W0.heap.size:=by rw [←s,←U];simp
 have X:=ag W0 k0;clear hh z ah ag aj;obtain⟨b3,t⟩: ∃b,decide ((body.length:Int)<=256)=b:=⟨_,rfl⟩;rw [t]at hE;refine hd7 ?_ hE X aA k0 s az U;clear hE X aA k0 s az U;intro R f ap ae p ao c;cases bA with
 |false=>
  go_enter Tryz.func62,Tryz.ntmps62
  go_wp2_with fail;rw [p.o,c.o];refine f.o.mono ?_;rintro e W1 ⟨rfl,y⟩;go_wp2_with fail;go_ret;exact⟨by rw [R.o,yN,yY];rfl,ae.o.mt.trans (y.mono fun b z _=>by have:=c.o;omega)⟩
 |true=>
 cases b3 with
 |false=>
  have aL: ¬(body.length:Int)<=256:=xS t;have aM:256<(body.length:Int):=xz
  clear t
  go_enter Tryz.func62,Tryz.ntmps62
  go_wp2_with fail;rw [p.o,c.o];refine f.o.mono ?_;rintro e W1 ⟨rfl,y⟩;have af:=y.cell c2 l0;have aP:=y.size;have l1:Y<W1.heap.size:=xz
  clear c2;refine hd1 ?_ y;clear y;intro aI;go_wp2_with fail;go_ret;exact⟨by rw [R.o];rfl,ae.o.mt.trans (aI.o.mono fun b z _=>by have:=c.o;omega)⟩
 |true=>
  have aL:(body.length:Int)<=256:=yD t;have aM: ¬256<(body.length:Int):=xz
  clear t
  go_enter Tryz.func62,Tryz.ntmps62
  go_wp2_with fail;rw [p.o,c.o];refine f.o.mono ?_;rintro e W1 ⟨rfl,y⟩;have af:=y.cell c2 l0;have aP:=y.size;have kk:Keep (fun b=>b<Y) w W1:=ae.o.mt.trans (y.mono fun b z _=>by have:=c.o;omega);have l1:Y<W1.heap.size:=xz
  clear y c2;refine hd1 ?_ kk;clear kk;intro au
  ·go_wp2_with fail;have aH:=zg af;clear af
   go_loopw [3] (fun i wr=> ∃k:Nat,k<=body.length/\i=.int .i64 (k:Int)/\Keep (fun b=>b<W1.heap.size) W1 wr/\(body.take k).all qb3=true) (fun i _=>body.length-(intOf i).toNat)
   case atStart=>exact⟨0,xz,rfl,Keep.refl _ _,rfl⟩
   case round=>
    obtain⟨k,hk,rfl,hK,d⟩:=hrel;have a8:=hK.size;have c2:=hK.cell aH.o l1;have lr:Y<wr.heap.size:=xz
    have m:Keep (fun b=>b<Y) w wr:=au.o.trans (hK.mono fun b z _=>by have:=au.o.size;have:=c.o;omega);by_cases aO:k<body.length
    ·have aT:(k:Int)<body.length:=by omega
     have a5:(0:Int)<=k:=xz
     obtain⟨x,hx⟩: ∃x,body[k]?=some x:=⟨_,zB aO⟩;obtain⟨b,o,rfl,z,sa,ay,u⟩:=ao.o k x hx;obtain⟨aJ,aK,rfl,-,-,-⟩:=id u;have aN:b<Y:=by have:=c.o;omega
     have g: ∀j v,(qu x (.slice aJ x.atom.args.length aK))[j]?=some v->wr.cell? ⟨b,o+k*7+j,none⟩=some v:=fun j v h=>m.cell (ay j v h) aN;have d0:=g 0 _ rfl;have d1:=g 1 _ rfl;have d2:=g 2 _ rfl;have d3:=g 3 _ rfl;have d4:=g 4 _ rfl;have d5:=g 5 _ rfl;have d6:=g 6 _ rfl;simp only [Nat.add_zero]at d0;have a3:b<wr.heap.size:=xz
     have l:=qhc qb3 body hx;rw [d,yT]at l;have ai:=qiz qb3 body hx;have ht:=ap.o x (zH hx) wr (m.mono fun b _ _=>by have:=c.o;omega) _ u;unfold qd0 at ht;obtain⟨px,aB⟩: ∃b,qb3 x=b:=⟨_,rfl⟩;rw [aB]at l ht ai;clear g ay u d hx aB;refine hd5 ?_ hK l ht ai m;clear hK l ht ai m;intro am ad ar aq q;cases px
     ·go_wp2_with fail;refine ar.o.mono ?_;rintro e W2 ⟨rfl,k2⟩;go_wp2_with fail;go_ret;exact⟨by rw [R.o,aq.o (by trivial),yN];rfl,q.o.trans (k2.mono fun b z h=>xz) |>.mono fun b _ _=>by have:=c.o;omega⟩
     ·go_wp2_with fail;refine ar.o.mono ?_;rintro e W2 ⟨rfl,k2⟩;have ax:=am.o.trans (k2.mono fun b z _=>xz);clear k2;refine hd1 ?_ ax;clear ax;intro an;go_wp2_with fail;go_roundw
      case rel=>exact⟨k+1,xz,by go_num,an.o,ad.o⟩
      case measure=>simp [intOf];omega
    ·obtain rfl:k=body.length:=by omega
     rw [zi]at d;have aw:qak ⟨⟨pr,args⟩,body⟩=true:=by rw [R.o,d];rfl
     clear d;refine hd3 ?_ hK m aw;clear hK m aw;intro am q al;go_wp2_with fail;go_ret;exact⟨by rw [al.o];rfl,q.o.mono fun b _ _=>by have:=c.o;omega⟩
end Go.Proofs
namespace Go.Proofs
open Go.RowKit Go.Ink Go.Flt R4 P16
attribute [local go_sem] Oper.semAt_some
theorem q3j {body:List LitD}{k:Nat}{L:LitD}(h:body[k]?=some L):qgv (qa3 (body.take (k+1)))=qgv (qa3 (body.take k))++(if (L.kind==1)=true then qar L.atom.args else []):=by
 cases b:(L.kind==1) with
 |true=>
  rw [qml h b,zI rfl];unfold qgv;rw [yF,yE,xn,yO]
 |false=>rw [qng h b,zF wB,yO]
theorem qwf {n:Nat}{r:RuleD}{sh sb:Value}{w:World}(hr:RuleIn n w sh sb r)(hn:n<=w.heap.size)(v:ByteArray):
  Calls prog 157 #[qaz r sh sb,.string v] w fun e w'=>e=.returned (.bool (decide (v∈qgv (qa3 r.body))))/\Keep (fun b=>b<w.heap.size) w w':=by
 unfold qaz;obtain⟨N,hN⟩:=ex (w.heap.size);obtain⟨⟨ah,av,rfl,bb,a8,ax⟩,⟨ab,au,rfl,ba,a7,aw⟩⟩:=id hr;obtain⟨W0,ag⟩:=ex (w.alloc (.cells #[.string r.head.pred,.slice ah r.head.args.length av,.slice ab r.body.length au] 27));have k0:wD w W0:=by rw [←ag];exact kAl
 have p0:W0.heap[N]?=some (.cells #[.string r.head.pred,.slice ah r.head.args.length av,.slice ab r.body.length au] 27 (0,0)):=by rw [←ag,←hN];exact qh _ _
 have z0:W0.heap.size=N+1:=by rw [←ag,←hN];simp
 refine hd7 ?_ hr hN ag k0 p0 aw ax;clear hr hN ag k0 p0 aw ax;intro bG s aH am aI aA aZ
 go_enter Tryz.func157,Tryz.ntmps157
 go_wp2_with fail;rw [aH.o,s.o]
 go_loopw [5] (fun ix wr=> ∃(k:Nat),k<=r.body.length/\ix=.int .i64 (k:Int)/\Keep (fun b=>b<N+1) W0 wr/\v∉qgv (qa3 (r.body.take k))) (fun i _=>r.body.length-(intOf i).toNat)
 case atStart=>exact⟨0,xz,rfl,Keep.refl _ _,by simp [qgv,qa3]⟩
 case round=>
  obtain⟨k,hk,rfl,hK,p⟩:=hrel;have aP:=hK.size;have bO:(0:Int)<=k:=xz
  have x:=hK.heap aI.o xz;have d2:=qb x 2 _ rfl;have a5:=qe x;simp only [zD]at d2;clear x;by_cases aO:k<r.body.length
  ·have br:(k:Int)<r.body.length:=by omega
   obtain⟨L,hL⟩: ∃L,r.body[k]?=some L:=⟨_,zB aO⟩;obtain⟨b,off,rfl,hb,sa,aD,aS⟩:=aA.o k L hL;have bM:b<N+1:=by have:=s.o;omega
   have kw:Keep (fun b=>b<n) w wr:=am.o.mt.trans (hK.mono fun b _ h=>by have:=s.o;omega);have U:=aD 0 _ rfl;have ai:=aD 2 _ rfl;simp only [Nat.add_zero]at U;have e0:=kw.cell U hb;have e2:=kw.cell ai hb;obtain⟨bH,bJ,rfl,bQ,bP,an⟩:=id aS;have a6:b<wr.heap.size:=xz
   have X:=q3j hL;obtain⟨W2,aL⟩: ∃W2,W2=wr:=⟨_,rfl⟩;rw [←aL]at hK aP a5 e0 e2 d2 a6 kw⊢;clear aD aS hL aL;cases d:(L.kind==1) with
   |false=>
    rw [d,zF wB,yO]at X;rw [←X]at p;have a9: ¬L.kind=1:=by simpa using d
    clear X d;refine hd6 ?_ hK p an kw U ai;clear hK p an kw U ai;intro al ae aq a1 ao ap;go_wp2_with fail
    go_loopw [6] (fun ix wr=>ix=.int .i64 0/\wr=W2) (fun _ _=>0)
    case atStart=>exact⟨rfl,rfl⟩
    case round=>
     obtain⟨rfl,bf⟩:=hrel;subst bf;go_wp2_with fail;go_roundw
     case rel=>exact⟨k+1,xz,by go_num,al.o,ae.o⟩
     case measure=>simp [intOf];omega
   |true=>
    rw [d,zI rfl]at X;have a9:L.kind=1:=by simpa using d
    clear d;refine hd7 ?_ hK p an kw X U ai;clear hK p an kw X U ai;intro al ae aq a1 ar ao ap;go_wp2_with fail;clear e0 e2 d2
    go_loopw [6] (fun ix wr=> ∃j:Nat,j<=L.atom.args.length/\ix=.int .i64 (j:Int)/\Keep (fun b=>b<N+1) W0 wr/\v∉qar (L.atom.args.take j)) (fun i _=>L.atom.args.length-(intOf i).toNat)
    case atStart=>exact⟨0,xz,rfl,al.o,by simp [qar]⟩
    case round=>
     obtain⟨j,hj,rfl,Y,c⟩:=hrel;have bu:=Y.size;have bN:(0:Int)<=j:=xz
     have x:=Y.heap aI.o xz;have d2:=qb x 2 _ rfl;have bn:=qe x;simp only [zD]at d2;clear x;have kJ:Keep (fun b=>b<n) w wr:=am.o.mt.trans (Y.mono fun b _ h=>by have:=s.o;omega);have f0:=kJ.cell ao.o hb;have f2:=kJ.cell ap.o hb;have bp:b<wr.heap.size:=xz
     by_cases aN:j<L.atom.args.length
     ·have bq:(j:Int)<L.atom.args.length:=by omega
      obtain⟨u,hu⟩: ∃u,L.atom.args[j]?=some u:=⟨_,zB aN⟩;obtain⟨bt,ot,rfl,aM,aQ,aR⟩:=aq.o j u hu;have q0:=kJ.cell aQ aM;have q1:=kJ.cell aR aM;have bo:bt<wr.heap.size:=by have:=s.o;omega
      obtain⟨W3,l⟩:=ex (wr.alloc (.cells #[.bool u.var,.string u.text] 77));have k3:wD wr W3:=by rw [←l];exact kAl
      have p3:W3.heap[wr.heap.size]?=some (.cells #[.bool u.var,.string u.text] 77 (0,0)):=by rw [←l];exact qh _ _
      obtain⟨M,hM⟩:=ex (wr.heap.size);have t:Keep (fun b=>b<N+1) W0 W3:=Y.trans k3.mt;rw [hM]at p3;have g0:=qb p3 0 _ rfl;have g1:=qb p3 1 _ rfl;have l3:=qe p3;simp only [zD]at g0 g1;have R:Keep (fun b=>b<N) w W3:=am.o.mt.trans (t.mono fun b _ h=>xz);clear aQ aR p3 k3;cases q:u.var with
      |false=>
       rw [q]at q0 g0 l;have f:v∉qar (L.atom.args.take (j+1)):=by rw [qth hu q];exact c
       clear hu q;refine hd8 ?_ Y c kJ l hM t R f;clear Y c kJ l hM t R f;intro ak af aB m az z ad g;go_wp2_with fail;rw [m.o];go_roundw
       case rel=>exact⟨j+1,xz,by go_num,z.o,g.o⟩
       case measure=>simp [intOf];omega
      |true=>
       rw [q]at q0 g0 l;have aj:=qqy hu q;by_cases hx:u.text=v
       ·have bg:=qgh hx;have hE:decide (v∈qgv (qa3 r.body))=true:=zS (by
         have h1:v∈qar L.atom.args:=by
          unfold qar;rw [yK];exact⟨u,yU.2 ⟨zH hu,q⟩,hx⟩
         have h2:v∈qgv (qa3 (r.body.take (k+1))):=by rw [ar.o];exact mem_append_right _ h1
         unfold qgv qa3 at h2⊢;rw [flatMap_map]at h2⊢;obtain⟨y,hy,hv⟩:=xC.1 h2;obtain⟨bh,bi⟩:=yU.1 hy;exact xC.2 ⟨y,yU.2 ⟨xj bh,bi⟩,hv⟩)
        clear hu q aj hx;refine hd8 ?_ Y c kJ l hM t R hE;clear Y c kJ l hM t R hE;intro ak af aB m az z ad ay;go_wp2_with fail;rw [m.o,az.o];go_wp2_with fail;go_ret;exact⟨by rw [ay.o];rfl,by rw [s.o];exact ad.o⟩
       ·have bg:=qep hx;have f:v∉qar (L.atom.args.take (j+1)):=by
         rw [aj];intro h;rcases zn.1 h with h |h
         ·exact c h
         ·exact hx (zl.1 h).symm
        clear hu q aj hx;refine hd8 ?_ Y c kJ l hM t R f;clear Y c kJ l hM t R f;intro ak af aB m az z ad g;go_wp2_with fail;rw [m.o];go_roundw
        case rel=>exact⟨j+1,xz,by go_num,z.o,g.o⟩
        case measure=>simp [intOf];omega
     ·obtain rfl:j=L.atom.args.length:=by omega
      rw [zi]at c;have f:v∉qgv (qa3 (r.body.take (k+1))):=by
       rw [ar.o];intro h;rcases zn.1 h with h |h
       ·exact ae.o h
       ·exact c h
      clear aN c;refine hd3 ?_ Y kJ f;clear Y kJ f;intro ak aB g;go_wp2_with fail;go_roundw
      case rel=>exact⟨k+1,xz,by go_num,ak.o,g.o⟩
      case measure=>simp [intOf];omega
  ·obtain rfl:k=r.body.length:=by omega
   rw [zi]at p;have hE:=zM p;have kE:Keep (fun b=>b<N) w wr:=am.o.mt.trans (hK.mono fun b _ h=>xz);clear aO p;refine hd3 ?_ hK hE kE;clear hK hE kE;intro al ay a0;go_wp2_with fail;go_ret;exact⟨by rw [ay.o];rfl,by rw [s.o];exact a0.o⟩
end Go.Proofs

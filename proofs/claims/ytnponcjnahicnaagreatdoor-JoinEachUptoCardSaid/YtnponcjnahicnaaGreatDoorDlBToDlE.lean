/- Parts of the proof. -/
import Derived.Test.YtnponcjnahicnaaGreatDoorJnGToDlA
set_option linter.unusedSimpArgs false
set_option linter.unusedVariables false
set_option maxRecDepth 100000
set_option maxHeartbeats 4000000
open Go.Proofs.Tryz(prog)
open List(find?_cons find?_some flatMap_map mem_append_right)
namespace Go.Proofs
open Go.RowKit Go.Ink P16
attribute [local go_sem] Oper.semAt_some
theorem qt0 (s:ByteArray)(w:World):Calls prog 206 #[.string s] w fun e w'=>e=.returned (.bool (qg4 s))/\w'=w:=by
 rw [←qnv]
 go_enter Tryz.func206,Tryz.ntmps206
 go_wp2_with fail;go_ret;exact⟨rfl,rfl⟩
theorem qkz (t:TermD)(z:smallT t)(w:World):Calls prog 156 #[qcy t] w fun e w'=>e=.returned (.bool (qbc t))/\wE w w':=by
 obtain⟨v,s⟩:=t;unfold qcy;simp only;have p:=fun w=>q2s s z w;have q:=fun w=>qt0 s w;have u:qbc ⟨v,s⟩=if v then qh3 s else qg4 s:=rfl
 obtain⟨U,d⟩: ∃b,qh3 s=b:=⟨_,rfl⟩;obtain⟨Y,g⟩: ∃b,qg4 s=b:=⟨_,rfl⟩;rw [d,g]at u;simp only [d]at p;simp only [g]at q;clear z;refine hd5 ?_ p q u d g;clear p q u d g;intro l m h x y;cases v
 ·go_enter Tryz.func156,Tryz.ntmps156
  go_wp2_with fail;refine(m.o _).mono ?_;rintro e R ⟨rfl,c⟩;have c:=c.symm;subst c;go_wp2_with fail;go_ret;exact⟨by rw [h.o];rfl,kAl⟩
 ·go_enter Tryz.func156,Tryz.ntmps156
  go_wp2_with fail;refine(l.o _).mono ?_;rintro e R ⟨rfl,c⟩;have c:=c.symm;subst c;go_wp2_with fail;go_ret;exact⟨by rw [h.o];rfl,kAl⟩
theorem qom (n:Nat)(a:qcg)(af:smallA a)(sa:Value)(w:World)(ha:qak n w sa a.args)(hn:n<=w.heap.size):Calls prog 115 #[.agg #[.string a.pred,sa]] w fun e w'=>e=.returned (.bool (qcz a))/\Keep (fun b=>b<w.heap.size) w w':=by
 obtain⟨pr,args⟩:=a;simp only at ha⊢;have y:qcz ⟨pr,args⟩=(qdk pr&&decide (args.length<=16)&&args.all qbc):=rfl;have h1:=fun w=>qqm pr af.1 w;have ag:=af.2;simp only at ag;obtain⟨b1,p⟩: ∃b,qdk pr=b:=⟨_,rfl⟩;rw [p]at y;simp only [p]at h1;obtain⟨nb,ad⟩:=ex (w.heap.size);obtain⟨aa,ca,rfl,aX,aV,au⟩:=id ha;obtain⟨W0,u⟩:=ex (w.alloc (.cells #[.string pr,.slice aa args.length ca] 24));have k0:wE w W0:=by rw [←u];exact kAl
 have b0:W0.heap[nb]?=some (.cells #[.string pr,.slice aa args.length ca] 24 (0,0)):=by rw [←u,←ad];exact qh _ _
 have l0:nb<W0.heap.size:=qe b0;have av:decide (args.length<=16)=decide ((args.length:Int)<=16):=by rw [yj];omega
 clear av;clear af ha;refine hd7 ?_ h1 k0 u ag au ad b0;clear h1 k0 u ag au ad b0;intro R m q ao am l ai;cases b1 with
 |false=>
  have h:qcz ⟨pr,args⟩=false:=by rw [y];rfl
  rw [h];clear y h p
  go_enter Tryz.func115,Tryz.ntmps115
  go_wp2_with fail;rw [q.o];refine(R.o _).mono ?_;rintro e w1 ⟨rfl,d⟩;have d:=d.symm;subst d;go_wp2_with fail;go_ret;exact⟨rfl,m.o.mt⟩
 |true=>
 have aE:W0.cell? ⟨nb,1,none⟩=some (.slice aa args.length ca):=by have:=qb ai.o 1 _ rfl;simpa using this
 rcases yY 16 args.length with h16 |h16
 ·have h:qcz ⟨pr,args⟩=false:=by rw [y,zM (show ¬args.length<=16 from wA)];rfl
  have aq:(16:Int)<args.length:=wA
  rw [h];clear y h p h16
  go_enter Tryz.func115,Tryz.ntmps115
  go_wp2_with fail;rw [q.o,l.o];refine(R.o _).mono ?_;rintro e w1 ⟨rfl,d⟩;have d:=d.symm;subst d;go_wp2_with fail;go_ret;exact⟨rfl,m.o.mt⟩
 have aq: ¬(16:Int)<args.length:=wA
 rw [zS h16,yU,yU]at y;refine hd2 ?_ y p;clear y p;intro aj aK
 go_enter Tryz.func115,Tryz.ntmps115
 go_wp2_with fail;rw [q.o,l.o];refine(R.o _).mono ?_;rintro e w1 ⟨rfl,d⟩;have d:=d.symm;subst d;go_wp2_with fail;clear aE
 go_loopw [3] (fun i wr=> ∃k:Nat,k<=args.length/\i=.int .i64 (k:Int)/\Keep (fun b=>b<W0.heap.size) W0 wr/\(args.take k).all qbc=true) (fun i _=>args.length-(intOf i).toNat)
 case atStart=>exact⟨0,wA,rfl,Keep.refl _ _,rfl⟩
 case round=>
  obtain⟨k,hk,rfl,hK,c⟩:=hrel;have aY:=hK.size;have ab:=hK.heap ai.o l0;have c0:=qb ab 0 _ rfl;have c1:=qb ab 1 _ rfl;simp only [zD]at c0 c1;have lr:nb<wr.heap.size:=wA
  have v:=m.o.trans (hK.mono fun b _ _=>wA);clear ab;by_cases aH:k<args.length
  ·have aL:(k:Int)<args.length:=by omega
   have aW:(0:Int)<=k:=wA
   obtain⟨x,z⟩: ∃x,args[k]?=some x:=⟨_,zB aH⟩;obtain⟨b,o,rfl,hb,q0,q1⟩:=am.o k x z;have aT:b<nb:=by have:=l.o;omega
   have h0:=hK.cell (m.o.cell q0 wF) (show b<W0.heap.size from wA);have h1:=hK.cell (m.o.cell q1 wF) (show b<W0.heap.size from wA);have aU:b<wr.heap.size:=wA
   have g:=qh2 qbc args z;rw [c,yU]at g;have ht:=qkz x (ao.o x (zH z)) wr;unfold qcy at ht;cases hp:qbc x with
   |false=>
    rw [hp]at ht;have aw:=qju qbc args z hp;clear q0 q1 v;refine hd7 ?_ hK c g ht hp aw z;clear hK c g ht hp aw z;intro t U s Y aA an aB;go_wp2_with fail;refine Y.o.mono ?_;rintro e W1 ⟨rfl,k1⟩;go_wp2_with fail;go_ret;exact⟨by rw [aj.o,an.o];rfl,m.o.trans ((t.o.trans k1.mt).mono fun b _ _=>wA) |>.mt⟩
   |true=>
    rw [hp]at ht g;clear q0 q1 v;refine hd6 ?_ hK c g ht hp z;clear hK c g ht hp z;intro t U s Y aA aB;go_wp2_with fail;refine Y.o.mono ?_;rintro e W1 ⟨rfl,k1⟩;have ar:=t.o.trans k1.mt;clear k1;refine hd1 ?_ ar;clear ar;intro al;go_wp2_with fail;go_roundw
    case rel=>exact⟨k+1,wA,by go_num,al.o,s.o⟩
    case measure=>simp [intOf];omega
  ·obtain rfl:k=args.length:=by omega
   rw [zi]at c;have h:qcz ⟨pr,args⟩=true:=by rw [aj.o,c]
   clear c;refine hd3 ?_ hK v h;clear hK v h;intro t ap ak;go_wp2_with fail;go_ret;exact⟨by rw [ak.o];rfl,ap.o.mono fun b hb _=>by have:=l.o;omega⟩
theorem qy7 (n:Nat)(L:LitD)(av:q3x L)(sa:Value)(w:World)(ha:qak n w sa L.atom.args)(hn:n<=w.heap.size):Calls prog 116 #[qep L sa] w fun e w'=>e=.returned (.bool (qcj L))/\Keep (fun b=>b<w.heap.size) w w':=by
 have ar:=fun W (hW:qak n W sa L.atom.args) (h2:n<=W.heap.size)=>qom n L.atom av.1 sa W hW h2;have aw:=fun W=>qkz L.left av.2.1 W;have ax:=fun W=>qkz L.right av.2.2 W;have g:=fun W=>qi1 L.left qdl W;have l:=fun W=>qi1 L.right qdl W;have hL:qcj L=if L.kind=1∨L.kind=2 then qcz L.atom&&decide (L.left=qdl)&&decide (L.right=qdl) else if L.kind=3 then decide (L.atom.pred=⟨#[]⟩)&&decide (L.atom.args.length=0)&&qbc L.left&&qbc L.right else false:=rfl
 obtain⟨bA,aE⟩: ∃b,qcz L.atom=b:=⟨_,rfl⟩;obtain⟨aD,ah⟩: ∃b,decide (L.left=qdl)=b:=⟨_,rfl⟩;obtain⟨aN,ai⟩: ∃b,decide (L.right=qdl)=b:=⟨_,rfl⟩;obtain⟨aO,aj⟩: ∃b,qbc L.left=b:=⟨_,rfl⟩;obtain⟨aP,ak⟩: ∃b,qbc L.right=b:=⟨_,rfl⟩;obtain⟨bl,aF⟩: ∃b,qcj L=b:=⟨_,rfl⟩;rw [aF];rw [aF,aE,ah,ai,aj,ak]at hL;simp only [aE]at ar;simp only [aj]at aw;simp only [ak]at ax;simp only [ah]at g;simp only [ai]at l;clear av aF aE ah ai aj ak;obtain⟨k,⟨pr,args⟩,⟨lv,lt⟩,⟨rv,rt⟩⟩:=L;unfold qep;unfold qcy qdl at g l;unfold qcy at aw ax;simp only at*;obtain⟨aa,ca,rfl,aU,aT,-⟩:=id ha;obtain⟨m,hm⟩:=ex (args.length);rw [hm]at hL ha ar aU aT;rw [hm];obtain⟨nb,au⟩:=ex (w.heap.size);obtain⟨W0,ag⟩:=ex (w.alloc (.cells #[.int .i64 k,.string pr,.slice aa m ca,.bool lv,.string lt,.bool rv,.string rt] 79));have k0:wE w W0:=by rw [←ag];exact kAl
 have b0:W0.heap[nb]?=some (.cells #[.int .i64 k,.string pr,.slice aa m ca,.bool lv,.string lt,.bool rv,.string rt] 79 (0,0)):=by rw [←ag,←au];exact qh _ _
 have l0:=qe b0;have bb:=k0.size;obtain⟨W1,aq⟩:=ex (W0.alloc (.cells #[.bool false,.string ⟨#[]⟩] 77));have k1:wE W0 W1:=by rw [←aq];exact kAl
 have z0:W0.heap.size=nb+1:=by rw [←ag,←au];simp
 have n0:W1.heap[nb+1]?=some (.cells #[.bool false,.string ⟨#[]⟩] 77 (0,0)):=by rw [←aq,←z0];exact qh _ _
 have b1:=k1.heap b0 trivial;have l1:=qe b1;have l2:=qe n0;have az:=ar W1 (qan ha ((k0.trans k1).mt)) wA;have c0:=qb b1 0 _ rfl;have c1:=qb b1 1 _ rfl;have c2:=qb b1 2 _ rfl;have c3:=qb b1 3 _ rfl;have c4:=qb b1 4 _ rfl;have c5:=qb b1 5 _ rfl;have c6:=qb b1 6 _ rfl;have n1:=qb n0 0 _ rfl;have n2:=qb n0 1 _ rfl;simp only [zD]at c0 c1 c2 c3 c4 c5 c6 n1 n2;have aW:=k0.trans k1;clear ha ar aU aT hm bb k0 k1 b0 n0 b1;refine hd8 ?_ hL az aw ax ag aq au aW;clear hL az aw ax ag aq au aW;intro aA aB U ad q s t u;by_cases v:k=1∨k=2
 ·have aR:bl=(bA&&aD&&aN):=by rw [aA.o,zI v]
  refine hd1 ?_ aR;clear aR;intro aL;rcases v with rfl |rfl
  all_goals cases bA
  all_goals (try cases aD)
  all_goals go_enter Tryz.func116,Tryz.ntmps116
  all_goals go_wp2_with fail
  all_goals rw [q.o,s.o,t.o]
  all_goals refine aB.o.mono ?_
  all_goals (rintro e W2 ⟨rfl,d⟩;have bi:=d.cell c3 l1;have bj:=d.cell c4 l1;have ae:=d.cell c5 l1;have af:=d.cell c6 l1;have bs:=d.cell n1 l2;have bt:=d.cell n2 l2;have bp:=d.size;have aG:nb<W2.heap.size:=wA;have bq:nb+1<W2.heap.size:=wA;have kk:Keep (fun b=>b<nb) w W2:=u.o.mt.trans (d.mono fun b hb _=>wA);clear d c0 c1 c2 c3 c4 c5 c6 n1 n2;have a4:=zg kk;clear kk)
  all_goals go_wp2_with fail
  all_goals go_ret
  all_goals exact⟨by rw [aL.o];(try cases aD)<;>(try cases aN)<;>rfl,a4.o.mono fun b hb h=>by have:=t.o;omega⟩
 ·by_cases e3:k=3
  ·have c:bl=(decide (pr=⟨#[]⟩)&&decide (m=0)&&aO&&aP):=by rw [aA.o,zF v,zI e3]
   subst e3;clear v;cases aO
   ·rw [yO,yZ]at c;refine hd3 ?_ c g l;clear c g l;intro p z R
    go_enter Tryz.func116,Tryz.ntmps116
    go_wp2_with fail;rw [q.o,s.o,t.o];refine(U.o _).mono ?_;rintro e W2 ⟨rfl,d⟩;go_wp2_with fail;go_ret;exact⟨by rw [p.o];rfl,(u.o.trans d).mt⟩
   rw [xK]at c;cases aP
   ·rw [yO]at c;refine hd3 ?_ c g l;clear c g l;intro p z R
    go_enter Tryz.func116,Tryz.ntmps116
    go_wp2_with fail;rw [q.o,s.o,t.o];refine(U.o _).mono ?_;rintro e W2 ⟨rfl,d⟩;have ae:=d.cell c5 trivial;have af:=d.cell c6 trivial;have aG:nb<W2.heap.size:=by have:=d.size;omega
    clear c0 c1 c2 c3 c4 c5 c6 n1 n2;refine hd1 ?_ d;clear d;intro y;go_wp2_with fail;refine(ad.o _).mono ?_;rintro e W3 ⟨rfl,k3⟩;go_wp2_with fail;go_ret;exact⟨by rw [p.o];rfl,((u.o.trans y.o).trans k3).mt⟩
   rw [xK]at c;have Y: ∀W3,wE W1 W3->nb<W3.heap.size/\W3.cell? ⟨nb,1,none⟩=some (.string pr)/\W3.cell? ⟨nb,2,none⟩=some (.slice aa m ca):=fun W3 k=>⟨by have:=k.size;omega,k.cell c1 wF,k.cell c2 wF⟩;by_cases hp:pr=⟨#[]⟩
   ·subst hp;rw [show decide ((⟨#[]⟩:ByteArray)=⟨#[]⟩)=true from rfl,yU]at c;have aV:decide (m=0)=decide ((m:Int)=0):=by rw [yj];omega
    rw [aV]at c;clear aV;refine hd4 ?_ c g l Y;clear c g l Y;intro p z R x
    go_enter Tryz.func116,Tryz.ntmps116
    go_wp2_with fail;rw [q.o,s.o,t.o];refine(U.o _).mono ?_;rintro e W2 ⟨rfl,d⟩;have ae:=d.cell c5 trivial;have af:=d.cell c6 trivial;have aG:nb<W2.heap.size:=by have:=d.size;omega
    clear c0 c1 c2 c3 c4 c5 c6 n1 n2;refine hd1 ?_ d;clear d;intro y;go_wp2_with fail;refine(ad.o _).mono ?_;rintro e W3 ⟨rfl,k3⟩;obtain⟨l3,d1,d2⟩:=x.o W3 (y.o.trans k3);clear ae af;refine hd1 ?_ k3;clear k3;intro aC;go_wp2_with fail;go_ret;exact⟨by rw [p.o];rfl,((u.o.trans y.o).trans aC.o).mt⟩
   ·rw [zM hp,yZ]at c;have bo:=qnx hp;clear hp;refine hd4 ?_ c g l Y;clear c g l Y;intro p z R x
    go_enter Tryz.func116,Tryz.ntmps116
    go_wp2_with fail;rw [q.o,s.o,t.o];refine(U.o _).mono ?_;rintro e W2 ⟨rfl,d⟩;have ae:=d.cell c5 trivial;have af:=d.cell c6 trivial;have aG:nb<W2.heap.size:=by have:=d.size;omega
    clear c0 c1 c2 c3 c4 c5 c6 n1 n2;refine hd1 ?_ d;clear d;intro y;go_wp2_with fail;refine(ad.o _).mono ?_;rintro e W3 ⟨rfl,k3⟩;obtain⟨l3,d1,d2⟩:=x.o W3 (y.o.trans k3);clear ae af;refine hd1 ?_ k3;clear k3;intro aC;go_wp2_with fail;go_ret;exact⟨by rw [p.o];rfl,((u.o.trans y.o).trans aC.o).mt⟩
  ·have aS:bl=false:=by rw [aA.o,zF v,zF e3]
   have e1: ¬k=1:=fun h=>v (.inl h);have e2: ¬k=2:=fun h=>v (.inr h);clear v;refine hd3 ?_ aS g l;clear aS g l;intro aM z R
   go_enter Tryz.func116,Tryz.ntmps116
   go_wp2_with fail;go_ret;exact⟨by rw [aM.o];rfl,by rw [q.o,s.o];exact u.o.mt⟩
theorem qtd (n:Nat)(r:RuleD)(al:quu r)(sh sb:Value)(w:World)(hr:RuleIn n w sh sb r)(hn:n<=w.heap.size):Calls prog 62 #[qaq r sh sb] w fun e w'=>e=.returned (.bool (qat r))/\Keep (fun b=>b<w.heap.size) w w':=by
 obtain⟨⟨pr,args⟩,body⟩:=r;obtain⟨hh,R⟩:=hr;unfold qaq;simp only at hh R⊢;have hE:qat ⟨⟨pr,args⟩,body⟩=(decide (body.length<=256)&&qcz ⟨pr,args⟩&&body.all qcj):=rfl;have ai:=fun W (hK:wE w W)=>qom n ⟨pr,args⟩ al.1 sh W (qan hh hK.mt) (by have:=hK.size;omega);have aC:=fun x (hx:x∈body) W (hK:Keep (fun b=>b<w.heap.size) w W) sa (y:qak n w sa x.atom.args)=>qy7 n x (al.2 x hx) sa W (qan y (hK.mono fun _ _ _=>wA)) (by have:=hK.size;omega);obtain⟨bA,aj⟩: ∃b,qcz ⟨pr,args⟩=b:=⟨_,rfl⟩;rw [aj,show decide (body.length<=256)=decide ((body.length:Int)<=256) from by rw [yj];omega]at hE;simp only [aj]at ai;obtain⟨aa,ca,rfl,-,-,-⟩:=id hh;obtain⟨ab,cb,rfl,a7,a5,aB⟩:=id R;obtain⟨nb,Y⟩:=ex (w.heap.size);obtain⟨W0,t⟩:=ex (w.alloc (.cells #[.string pr,.slice aa args.length ca,.slice ab body.length cb] 27));have k0:wE w W0:=by rw [←t];exact kAl
 have hz:=k0.size;have c2:W0.cell? ⟨nb,2,none⟩=some (.slice ab body.length cb):=by rw [←t,←Y];simp
 have l0:nb<W0.heap.size:=by rw [←t,←Y];simp
 have ad:=ai W0 k0;clear hh R aj ai al;obtain⟨b3,u⟩: ∃b,decide ((body.length:Int)<=256)=b:=⟨_,rfl⟩;rw [u]at hE;refine hd7 ?_ hE ad aC k0 t aB Y;clear hE ad aC k0 t aB Y;intro U l ar ag q aq c;cases bA with
 |false=>
  go_enter Tryz.func62,Tryz.ntmps62
  go_wp2_with fail;rw [q.o,c.o];refine l.o.mono ?_;rintro e W1 ⟨rfl,z⟩;go_wp2_with fail;go_ret;exact⟨by rw [U.o,yO,yZ];rfl,ag.o.mt.trans (z.mono fun b R _=>by have:=c.o;omega)⟩
 |true=>
 cases b3 with
 |false=>
  have aN: ¬(body.length:Int)<=256:=xT u;have aO:256<(body.length:Int):=wA
  clear u
  go_enter Tryz.func62,Tryz.ntmps62
  go_wp2_with fail;rw [q.o,c.o];refine l.o.mono ?_;rintro e W1 ⟨rfl,z⟩;have ah:=z.cell c2 l0;have aR:=z.size;have l1:nb<W1.heap.size:=wA
  clear c2;refine hd1 ?_ z;clear z;intro aK;go_wp2_with fail;go_ret;exact⟨by rw [U.o];rfl,ag.o.mt.trans (aK.o.mono fun b R _=>by have:=c.o;omega)⟩
 |true=>
  have aN:(body.length:Int)<=256:=yE u;have aO: ¬256<(body.length:Int):=wA
  clear u
  go_enter Tryz.func62,Tryz.ntmps62
  go_wp2_with fail;rw [q.o,c.o];refine l.o.mono ?_;rintro e W1 ⟨rfl,z⟩;have ah:=z.cell c2 l0;have aR:=z.size;have kk:Keep (fun b=>b<nb) w W1:=ag.o.mt.trans (z.mono fun b R _=>by have:=c.o;omega);have l1:nb<W1.heap.size:=wA
  clear z c2;refine hd1 ?_ kk;clear kk;intro aw
  ·go_wp2_with fail;have aJ:=zg ah;clear ah
   go_loopw [3] (fun i wr=> ∃k:Nat,k<=body.length/\i=.int .i64 (k:Int)/\Keep (fun b=>b<W1.heap.size) W1 wr/\(body.take k).all qcj=true) (fun i _=>body.length-(intOf i).toNat)
   case atStart=>exact⟨0,wA,rfl,Keep.refl _ _,rfl⟩
   case round=>
    obtain⟨k,hk,rfl,hK,d⟩:=hrel;have a9:=hK.size;have c2:=hK.cell aJ.o l1;have lr:nb<wr.heap.size:=wA
    have p:Keep (fun b=>b<nb) w wr:=aw.o.trans (hK.mono fun b R _=>by have:=aw.o.size;have:=c.o;omega);by_cases aQ:k<body.length
    ·have aV:(k:Int)<body.length:=by omega
     have a6:(0:Int)<=k:=wA
     obtain⟨x,hx⟩: ∃x,body[k]?=some x:=⟨_,zB aQ⟩;obtain⟨b,o,rfl,R,sa,aA,y⟩:=aq.o k x hx;obtain⟨aL,aM,rfl,-,-,-⟩:=id y;have aP:b<nb:=by have:=c.o;omega
     have g: ∀j v,(qap x (.slice aL x.atom.args.length aM))[j]?=some v->wr.cell? ⟨b,o+k*7+j,none⟩=some v:=fun j v h=>p.cell (aA j v h) aP;have d0:=g 0 _ rfl;have d1:=g 1 _ rfl;have d2:=g 2 _ rfl;have d3:=g 3 _ rfl;have d4:=g 4 _ rfl;have d5:=g 5 _ rfl;have d6:=g 6 _ rfl;simp only [Nat.add_zero]at d0;have a4:b<wr.heap.size:=wA
     have m:=qh2 qcj body hx;rw [d,yU]at m;have ak:=qju qcj body hx;have ht:=ar.o x (zH hx) wr (p.mono fun b _ _=>by have:=c.o;omega) _ y;unfold qep at ht;obtain⟨px,aD⟩: ∃b,qcj x=b:=⟨_,rfl⟩;rw [aD]at m ht ak;clear g aA y d hx aD;refine hd5 ?_ hK m ht ak p;clear hK m ht ak p;intro ao af av au s;cases px
     ·go_wp2_with fail;refine av.o.mono ?_;rintro e W2 ⟨rfl,k2⟩;go_wp2_with fail;go_ret;exact⟨by rw [U.o,au.o (by trivial),yO];rfl,s.o.trans (k2.mono fun b R h=>wA) |>.mono fun b _ _=>by have:=c.o;omega⟩
     ·go_wp2_with fail;refine av.o.mono ?_;rintro e W2 ⟨rfl,k2⟩;have az:=ao.o.trans (k2.mono fun b R _=>wA);clear k2;refine hd1 ?_ az;clear az;intro ap;go_wp2_with fail;go_roundw
      case rel=>exact⟨k+1,wA,by go_num,ap.o,af.o⟩
      case measure=>simp [intOf];omega
    ·obtain rfl:k=body.length:=by omega
     rw [zi]at d;have ay:qat ⟨⟨pr,args⟩,body⟩=true:=by rw [U.o,d];rfl
     clear d;refine hd3 ?_ hK p ay;clear hK p ay;intro ao s an;go_wp2_with fail;go_ret;exact⟨by rw [an.o];rfl,s.o.mono fun b _ _=>by have:=c.o;omega⟩
end Go.Proofs
namespace Go.Proofs
open Go.RowKit Go.Ink Go.Flt R4 P16
attribute [local go_sem] Oper.semAt_some
theorem q7i {body:List LitD}{k:Nat}{L:LitD}(h:body[k]?=some L):qdr (qaw (body.take (k+1)))=qdr (qaw (body.take k))++(if (L.kind==1)=true then qal L.atom.args else []):=by
 cases b:(L.kind==1) with
 |true=>
  rw [qny h b,zI rfl];unfold qdr;rw [yG,yF,xn,yP]
 |false=>rw [qoz h b,zF wC,yP]
theorem qy8 {n:Nat}{r:RuleD}{sh sb:Value}{w:World}(hr:RuleIn n w sh sb r)(hn:n<=w.heap.size)(v:ByteArray):
  Calls prog 157 #[qaq r sh sb,.string v] w fun e w'=>e=.returned (.bool (decide (v∈qdr (qaw r.body))))/\Keep (fun b=>b<w.heap.size) w w':=by
 unfold qaq;obtain⟨N,hN⟩:=ex (w.heap.size);obtain⟨⟨ah,ax,rfl,bd,ba,az⟩,⟨ab,aw,rfl,bc,a9,ay⟩⟩:=id hr;obtain⟨W0,aj⟩:=ex (w.alloc (.cells #[.string r.head.pred,.slice ah r.head.args.length ax,.slice ab r.body.length aw] 27));have k0:wE w W0:=by rw [←aj];exact kAl
 have p0:W0.heap[N]?=some (.cells #[.string r.head.pred,.slice ah r.head.args.length ax,.slice ab r.body.length aw] 27 (0,0)):=by rw [←aj,←hN];exact qh _ _
 have z0:W0.heap.size=N+1:=by rw [←aj,←hN];simp
 refine hd7 ?_ hr hN aj k0 p0 ay az;clear hr hN aj k0 p0 ay az;intro bF t aJ ao aK aC a1
 go_enter Tryz.func157,Tryz.ntmps157
 go_wp2_with fail;rw [aJ.o,t.o]
 go_loopw [5] (fun ix wr=> ∃(k:Nat),k<=r.body.length/\ix=.int .i64 (k:Int)/\Keep (fun b=>b<N+1) W0 wr/\v∉qdr (qaw (r.body.take k))) (fun i _=>r.body.length-(intOf i).toNat)
 case atStart=>exact⟨0,wA,rfl,Keep.refl _ _,by simp [qdr,qaw]⟩
 case round=>
  obtain⟨k,hk,rfl,hK,q⟩:=hrel;have aR:=hK.size;have bN:(0:Int)<=k:=wA
  have z:=hK.heap aK.o wA;have d2:=qb z 2 _ rfl;have a7:=qe z;simp only [zD]at d2;clear z;by_cases aQ:k<r.body.length
  ·have bs:(k:Int)<r.body.length:=by omega
   obtain⟨L,hL⟩: ∃L,r.body[k]?=some L:=⟨_,zB aQ⟩;obtain⟨b,off,rfl,hb,sa,aF,aU⟩:=aC.o k L hL;have bL:b<N+1:=by have:=t.o;omega
   have kw:Keep (fun b=>b<n) w wr:=ao.o.mt.trans (hK.mono fun b _ h=>by have:=t.o;omega);have Y:=aF 0 _ rfl;have ak:=aF 2 _ rfl;simp only [Nat.add_zero]at Y;have e0:=kw.cell Y hb;have e2:=kw.cell ak hb;obtain⟨bG,bI,rfl,bP,bO,ap⟩:=id aU;have a8:b<wr.heap.size:=wA
   have aa:=q7i hL;obtain⟨W2,aN⟩: ∃W2,W2=wr:=⟨_,rfl⟩;rw [←aN]at hK aR a7 e0 e2 d2 a8 kw⊢;clear aF aU hL aN;cases d:(L.kind==1) with
   |false=>
    rw [d,zF wC,yP]at aa;rw [←aa]at q;have bb: ¬L.kind=1:=by simpa using d
    clear aa d;refine hd6 ?_ hK q ap kw Y ak;clear hK q ap kw Y ak;intro an ag au a3 aq ar;go_wp2_with fail
    go_loopw [6] (fun ix wr=>ix=.int .i64 0/\wr=W2) (fun _ _=>0)
    case atStart=>exact⟨rfl,rfl⟩
    case round=>
     obtain⟨rfl,bg⟩:=hrel;subst bg;go_wp2_with fail;go_roundw
     case rel=>exact⟨k+1,wA,by go_num,an.o,ag.o⟩
     case measure=>simp [intOf];omega
   |true=>
    rw [d,zI rfl]at aa;have bb:L.kind=1:=by simpa using d
    clear d;refine hd7 ?_ hK q ap kw aa Y ak;clear hK q ap kw aa Y ak;intro an ag au a3 av aq ar;go_wp2_with fail;clear e0 e2 d2
    go_loopw [6] (fun ix wr=> ∃j:Nat,j<=L.atom.args.length/\ix=.int .i64 (j:Int)/\Keep (fun b=>b<N+1) W0 wr/\v∉qal (L.atom.args.take j)) (fun i _=>L.atom.args.length-(intOf i).toNat)
    case atStart=>exact⟨0,wA,rfl,an.o,by simp [qal]⟩
    case round=>
     obtain⟨j,hj,rfl,hJ,c⟩:=hrel;have bu:=hJ.size;have bM:(0:Int)<=j:=wA
     have z:=hJ.heap aK.o wA;have d2:=qb z 2 _ rfl;have bo:=qe z;simp only [zD]at d2;clear z;have kJ:Keep (fun b=>b<n) w wr:=ao.o.mt.trans (hJ.mono fun b _ h=>by have:=t.o;omega);have f0:=kJ.cell aq.o hb;have f2:=kJ.cell ar.o hb;have bq:b<wr.heap.size:=wA
     by_cases aP:j<L.atom.args.length
     ·have br:(j:Int)<L.atom.args.length:=by omega
      obtain⟨u,hu⟩: ∃u,L.atom.args[j]?=some u:=⟨_,zB aP⟩;obtain⟨bt,ot,rfl,aO,aS,aT⟩:=au.o j u hu;have q0:=kJ.cell aS aO;have q1:=kJ.cell aT aO;have bp:bt<wr.heap.size:=by have:=t.o;omega
      obtain⟨W3,m⟩:=ex (wr.alloc (.cells #[.bool u.var,.string u.text] 77));have k3:wE wr W3:=by rw [←m];exact kAl
      have p3:W3.heap[wr.heap.size]?=some (.cells #[.bool u.var,.string u.text] 77 (0,0)):=by rw [←m];exact qh _ _
      obtain⟨M,hM⟩:=ex (wr.heap.size);have x:Keep (fun b=>b<N+1) W0 W3:=hJ.trans k3.mt;rw [hM]at p3;have g0:=qb p3 0 _ rfl;have g1:=qb p3 1 _ rfl;have l3:=qe p3;simp only [zD]at g0 g1;have U:Keep (fun b=>b<N) w W3:=ao.o.mt.trans (x.mono fun b _ h=>wA);clear aS aT p3 k3;cases s:u.var with
      |false=>
       rw [s]at q0 g0 m;have g:v∉qal (L.atom.args.take (j+1)):=by rw [qpo hu s];exact c
       clear hu s;refine hd8 ?_ hJ c kJ m hM x U g;clear hJ c kJ m hM x U g;intro am ai aD p aB R af l;go_wp2_with fail;rw [p.o];go_roundw
       case rel=>exact⟨j+1,wA,by go_num,R.o,l.o⟩
       case measure=>simp [intOf];omega
      |true=>
       rw [s]at q0 g0 m;have al:=qn0 hu s;by_cases hx:u.text=v
       ·have bh:=qdn hx;have hE:decide (v∈qdr (qaw r.body))=true:=zS (by
         have h1:v∈qal L.atom.args:=by
          unfold qal;rw [yL];exact⟨u,yV.2 ⟨zH hu,s⟩,hx⟩
         have h2:v∈qdr (qaw (r.body.take (k+1))):=by rw [av.o];exact mem_append_right _ h1
         unfold qdr qaw at h2⊢;rw [flatMap_map]at h2⊢;obtain⟨y,hy,hv⟩:=xD.1 h2;obtain⟨bi,bj⟩:=yV.1 hy;exact xD.2 ⟨y,yV.2 ⟨xj bi,bj⟩,hv⟩)
        clear hu s al hx;refine hd8 ?_ hJ c kJ m hM x U hE;clear hJ c kJ m hM x U hE;intro am ai aD p aB R af aA;go_wp2_with fail;rw [p.o,aB.o];go_wp2_with fail;go_ret;exact⟨by rw [aA.o];rfl,by rw [t.o];exact af.o⟩
       ·have bh:=qcv hx;have g:v∉qal (L.atom.args.take (j+1)):=by
         rw [al];intro h;rcases zr.1 h with h |h
         ·exact c h
         ·exact hx (zm.1 h).symm
        clear hu s al hx;refine hd8 ?_ hJ c kJ m hM x U g;clear hJ c kJ m hM x U g;intro am ai aD p aB R af l;go_wp2_with fail;rw [p.o];go_roundw
        case rel=>exact⟨j+1,wA,by go_num,R.o,l.o⟩
        case measure=>simp [intOf];omega
     ·obtain rfl:j=L.atom.args.length:=by omega
      rw [zi]at c;have g:v∉qdr (qaw (r.body.take (k+1))):=by
       rw [av.o];intro h;rcases zr.1 h with h |h
       ·exact ag.o h
       ·exact c h
      clear aP c;refine hd3 ?_ hJ kJ g;clear hJ kJ g;intro am aD l;go_wp2_with fail;go_roundw
      case rel=>exact⟨k+1,wA,by go_num,am.o,l.o⟩
      case measure=>simp [intOf];omega
  ·obtain rfl:k=r.body.length:=by omega
   rw [zi]at q;have hE:=zM q;have kE:Keep (fun b=>b<N) w wr:=ao.o.mt.trans (hK.mono fun b _ h=>wA);clear aQ q;refine hd3 ?_ hK hE kE;clear hK hE kE;intro an aA a2;go_wp2_with fail;go_ret;exact⟨by rw [aA.o];rfl,by rw [t.o];exact a2.o⟩
def qe5 (r:RuleD)(t:TermD):Bool:=t.var&&!decide (t.text∈qdr (qaw r.body))
def qgx (r:RuleD):ByteArray:=match (qbu r).find? (qe5 r) with
 |some t=>t.text
 |none=>⟨#[]⟩
theorem qt1 {n:Nat}{r:RuleD}{sh sb:Value}{w:World}(hr:RuleIn n w sh sb r)(hn:n<=w.heap.size)(aB:(qbu r).length<=1073741824):
  Calls prog 117 #[qaq r sh sb] w fun e w'=>e=.returned (.string (qgx r))/\Keep (fun b=>b<w.heap.size) w w':=by
 obtain⟨N,hN⟩:=ex (w.heap.size);obtain⟨⟨ah,s,rfl,bh,bf,ax⟩,⟨ab,p,rfl,bg,bd,aw⟩⟩:=id hr;obtain⟨W0,am⟩:=ex (w.alloc (.cells #[.string r.head.pred,.slice ah r.head.args.length s,.slice ab r.body.length p] 27));have k0:wE w W0:=by rw [←am];exact kAl
 have p0:W0.heap[N]?=some (.cells #[.string r.head.pred,.slice ah r.head.args.length s,.slice ab r.body.length p] 27 (0,0)):=by rw [←am,←hN];exact qh _ _
 have z0:W0.heap.size=N+1:=by rw [←am,←hN];simp
 have l:=qn1 (w:=W0) (hr.keep k0.mt) wA aB;have d0:=qb p0 0 _ rfl;have d1:=qb p0 1 _ rfl;have d2:=qb p0 2 _ rfl;have aS:=qe p0;simp only [zD]at d0 d1 d2;unfold qaq at l⊢;obtain⟨ts,aU⟩:=ex (qbu r);have aV:qgx r=match ts.find? (qe5 r) with |some t=>t.text |none=>⟨#[]⟩:=by unfold qgx;rw [aU]
 rw [aU]at l aB;refine hd9 ?_ hr hN am k0 p0 l aV ax aw;clear hr hN am k0 p0 l aV ax aw;intro a4 ad aN a5 a8 ao ar a3 a2
 go_enter Tryz.func117,Tryz.ntmps117
 go_wp2_with fail;rw [aN.o];refine ao.o.mono ?_;rintro e W1 ⟨v,rfl,k1,hO⟩;have z1:=k1.size;have hA:=qf3 hO rfl aB;obtain⟨av,cv,rfl,-,bI,aE⟩:=id hA;obtain⟨M,hM⟩:=ex (W1.heap.size);have bF:N+1<=M:=wA
 rw [hM]at aE;rw [ad.o];have p1:=k1.heap a8.o aS;clear hO hA d0 d1 d2 aS;refine hd4 ?_ k1 aE hM p1;clear k1 aE hM p1;intro a6 aO aa a9;go_wp2_with fail
 go_loopw [4] (fun ix wr=> ∃(k:Nat),k<=ts.length/\ix=.int .i64 (k:Int)/\Keep (fun b=>b<M) W1 wr/\ts.find? (qe5 r)=(ts.drop k).find? (qe5 r)) (fun i _=>ts.length-(intOf i).toNat)
 case atStart=>exact⟨0,wA,rfl,Keep.refl _ _,rfl⟩
 case round=>
  obtain⟨j,hj,rfl,y,c⟩:=hrel;have bq:=y.size;have bJ:(0:Int)<=j:=wA
  have kE:Keep (fun b=>b<N) w wr:=a5.o.mt.trans ((a6.o.mono fun b _ h=>wA).trans (y.mono fun b _ h=>wA));by_cases aT:j<ts.length
  ·have bp:(j:Int)<ts.length:=by omega
   obtain⟨u,hu⟩: ∃u,ts[j]?=some u:=⟨_,zB aT⟩;obtain⟨bt,ot,rfl,bH,aF,aG⟩:=aO.o j u hu;have q0:=y.cell aF (show bt<M from wA);have q1:=y.cell aG (show bt<M from wA);have au:bt<wr.heap.size:=by have:=aa.o;omega
   have aD:ts.drop j=u::ts.drop (j+1):=by
    obtain⟨h1,e1⟩:=zA.1 hu;rw [zt h1,e1]
   rw [aD,find?_cons]at c;cases U:u.var with
   |false=>
    rw [U]at q0;have an:qe5 r u=false:=by unfold qe5;rw [U];rfl
    rw [an]at c;clear aF aG hu U aD an;refine hd3 ?_ y c kE;clear y c kE;intro Y d aj;go_wp2_with fail
    go_quiet (fail)
    go_wp2_with fail;go_roundw
    case rel=>exact⟨j+1,wA,by go_num,Y.o.trans (Keep.drewN' _ _ _),d.o⟩
    case measure=>simp [intOf];omega
   |true=>
    rw [U]at q0;obtain⟨bb,aC⟩:=ex (decide (u.text∈qdr (qaw r.body)));have an:qe5 r u=!bb:=by unfold qe5;rw [U,aC];rfl
    rw [an]at c;have pN:=y.heap a9.o (show N<M from wA);have hS: ∀X,Keep (fun b=>b<wr.heap.size) wr X->X.cell? ⟨N,0,none⟩=some (.string r.head.pred)/\X.cell? ⟨N,1,none⟩=some (.slice ah r.head.args.length s)/\X.cell? ⟨N,2,none⟩=some (.slice ab r.body.length p)/\X.cell? ⟨bt,ot+j*2,none⟩=some (.bool true)/\X.cell? ⟨bt,ot+j*2+1,none⟩=some (.string u.text):=fun X hX=>by
     have q:=hX.heap pN (by have:=aa.o;omega);have x0:=qb q 0 _ rfl;have x1:=qb q 1 _ rfl;have x2:=qb q 2 _ rfl;simp only [zD]at x0 x1 x2;exact⟨x0,x1,x2,hX.cell q0 au,hX.cell q1 au⟩
    obtain⟨We,z⟩:=ex (wr.drew);have ke:wE wr We:=by rw [←z];exact kDr
    have ze:We.heap.size=wr.heap.size:=by rw [←z];rfl
    have bG:N<We.heap.size:=by have:=aa.o;omega
    have bo:bt<We.heap.size:=wA
    have ap:=hS We ke.mt;have R:=qy8 (w:=We) (a4.o.keep ((kE.mono fun b _ h=>by have:=ad.o;omega).trans ke.mt)) (by have:=ad.o;omega) u.text;unfold qaq at R;rw [aC]at R;clear aF aG hu U aD an aC pN;cases bb with
    |true=>
     refine hd9 ?_ y c kE hS z ke ze ap R;clear y c kE hS z ke ze ap R;intro Y d aj ay af az aA ae ag;go_wp2_with fail;refine qau rfl (fun X=>X.cell? ⟨N,0,none⟩=some (.string r.head.pred)/\X.cell? ⟨N,1,none⟩=some (.slice ah r.head.args.length s)/\X.cell? ⟨N,2,none⟩=some (.slice ab r.body.length p)/\X.cell? ⟨bt,ot+j*2,none⟩=some (.bool true)/\X.cell? ⟨bt,ot+j*2+1,none⟩=some (.string u.text)) [] ?_;rw [af.o];refine qq [0,1,2,3,4,5,6,7,8,9,10,11] ?_
     iterate 12
      refine tkA rfl ae.o ?_
      try simp only [qr]
     refine ql ?_;refine ho 12 rfl fun K m=>?_;go_wp2_with fail;refine ag.o.mono ?_;rintro e W5 ⟨rfl,k5⟩;have x:Keep (fun b=>b<wr.heap.size) wr W5:=az.o.mt.trans (k5.mono fun b _ h=>by have:=aA.o;omega);have al:=ay.o W5 x;refine hd3 ?_ k5 x al;clear k5 x al;intro a7 ai g;go_wp2_with fail;refine m.o _ _ (fun _=>g.o) ?_;refine qq [13,14] ?_
     iterate 2
      refine tkA rfl g.o ?_
      try simp only [qr]
     refine ql ?_;refine qa0 wB ?_;clear m;go_wp2_with fail;go_roundw
     case rel=>exact⟨j+1,wA,by go_num,Y.o.trans (ai.o.mono fun b _ h=>by have:=aa.o;omega),d.o⟩
     case measure=>simp [intOf];omega
    |false=>
     refine hd9 ?_ y c kE hS z ke ze ap R;clear y c kE hS z ke ze ap R;intro Y d aj ay af az aA ae ag;go_wp2_with fail;refine qau rfl (fun X=>X.cell? ⟨N,0,none⟩=some (.string r.head.pred)/\X.cell? ⟨N,1,none⟩=some (.slice ah r.head.args.length s)/\X.cell? ⟨N,2,none⟩=some (.slice ab r.body.length p)/\X.cell? ⟨bt,ot+j*2,none⟩=some (.bool true)/\X.cell? ⟨bt,ot+j*2+1,none⟩=some (.string u.text)) [] ?_;rw [af.o];refine qq [0,1,2,3,4,5,6,7,8,9,10,11] ?_
     iterate 12
      refine tkA rfl ae.o ?_
      try simp only [qr]
     refine ql ?_;refine ho 12 rfl fun K m=>?_;go_wp2_with fail;refine ag.o.mono ?_;rintro e W5 ⟨rfl,k5⟩;have x:Keep (fun b=>b<wr.heap.size) wr W5:=az.o.mt.trans (k5.mono fun b _ h=>by have:=aA.o;omega);have al:=ay.o W5 x;have bn:bt<W5.heap.size:=by have:=x.size;omega
     refine hd3 ?_ k5 x al;clear k5 x al;intro a7 ai g;go_wp2_with fail;refine m.o _ _ (fun _=>g.o) ?_;refine qq [13,14] ?_
     iterate 2
      refine tkA rfl g.o ?_
      try simp only [qr]
     refine ql ?_;refine qa0 wB ?_;clear m q0 q1;obtain⟨y1,y2,y3,y4,y5⟩:=g.o;go_wp2_with fail;go_ret;exact⟨by rw [ar.o,d.o];rfl,by rw [ad.o];exact aj.o.trans (ai.o.mono fun b _ h=>by have:=aa.o;omega)⟩
  ·obtain rfl:j=ts.length:=by omega
   rw [xo]at c;clear aT;refine hd3 ?_ y c kE;clear y c kE;intro Y d aj;go_wp2_with fail;go_ret;exact⟨by rw [ar.o,d.o];rfl,by rw [ad.o];exact aj.o⟩
theorem qo6 {L:LitD}(h:qcj L=true):L.uses=qal (qm L):=by
 unfold qcj at h;unfold LitD.uses LitD.terms qm qal;split at h
 ·rename_i hk;rw [zI hk,zF wA]
 ·split at h
  ·rename_i h1 h2;rw [zF h1,zI h2,zI h2]
  ·cases h
theorem qk0 {r:RuleD}(d:qat r=true):r.names=qal (qbu r):=by
 have c:=(qb5 d).2.2;rw [qjx];unfold qbu qal;rw [yT,zn]
 congr 1
 have: ∀ls:List LitD,(∀L,L∈ls->qcj L=true)->ls.flatMap LitD.uses=((ls.flatMap qm).filter (·.var)).map (·.text):=by
  intro ls
  induction ls with
  |nil=>intro _;rfl
  |cons L ls ih=>
   intro h;rw [yF,yF,yT,zn,ih fun M b=>h M (yD _ b),qo6 (h L (yJ ..))]
   rfl
 exact this _ c
theorem qp2 {r:RuleD}(l:qat r=true):(qgx r=⟨#[]⟩)↔S12.looseOf r=none:=by
 have hT: ∀t,t∈qbu r->qbc t=true:=fun t b=>by
  unfold qbu at b;rcases zr.1 b with h |h
  ·exact(qgg (qb5 l).2.1).2.2 t h
  ·obtain⟨L,d,h⟩:=xD.1 h;exact(qmy ((qb5 l).2.2 L d)).2 t h
 have q:qgx r=⟨#[]⟩↔ ∀t,t∈qbu r->qe5 r t=false:=by
  unfold qgx;constructor
  ·intro h t b;cases e:(qbu r).find? (qe5 r) with
   |none=>simpa using yn.1 e t b
   |some u=>
    rw [e]at h;have m:=find?_some e;have c:=hT u (xb e);unfold qe5 at m;rw [zV]at m;unfold qbc at c;rw [zI m.1,show u.text=⟨#[]⟩ from h]at c;exact absurd c wD
  ·intro h;cases e:(qbu r).find? (qe5 r) with
   |none=>rfl
   |some u=>exact absurd (find?_some e) (by rw [h u (xb e)];decide)
 rw [q];unfold S12.looseOf;rw [yn,qk0 l];have g: ∀x,x∈qcf r.body↔x∈qdr (qaw r.body):=fun x=>by
  rw [qsf,←q30,qyb];constructor
  ·rintro⟨L,d,hk,c⟩;rw [qo6 ((qb5 l).2.2 L d)]at c;unfold qm at c;rw [zF wA]at c;exact⟨L,d,hk,c⟩
  ·rintro⟨L,d,hk,c⟩;refine⟨L,d,hk,?_⟩;rw [qo6 ((qb5 l).2.2 L d)];unfold qm;rw [zF wA];exact c
 unfold qal;constructor
 ·intro h x s;obtain⟨t,b,rfl⟩:=yL.1 s;obtain⟨b,p⟩:=yV.1 b;have:=h t b;unfold qe5 at this;rw [p,yU]at this;simp only [g,zT]
  simpa using this
 ·intro h t b;unfold qe5;cases p:t.var with
  |false=>rfl
  |true=>
   have:=h t.text (yL.2 ⟨t,yV.2 ⟨b,p⟩,rfl⟩);simp only [g,zT]at this
   simpa using this
theorem qwp {n:Nat}{r:RuleD}{sh sb:Value}{w:World}(t:RuleIn n w sh sb r)(hn:n<=w.heap.size)(v:(qbu r).length<=1073741824):
  Calls prog 63 #[qaq r sh sb] w fun e w'=>e=.returned (.bool (decide (qgx r=⟨#[]⟩)))/\Keep (fun b=>b<w.heap.size) w w':=by
 obtain⟨N,q⟩:=ex (w.heap.size);obtain⟨W0,d⟩:=ex (w.alloc (.cells #[.string r.head.pred,sh,sb] 27));have x:wE w W0:=by rw [←d];exact kAl
 have p0:W0.heap[N]?=some (.cells #[.string r.head.pred,sh,sb] 27 (0,0)):=by rw [←d,←q];exact qh _ _
 have z0:W0.heap.size=N+1:=by rw [←d,←q];simp
 have c:=qt1 (w:=W0) (t.keep x.mt) wA v;unfold qaq at c⊢;obtain⟨⟨ah,z,rfl,-,-,-⟩,⟨ab,y,rfl,-,-,-⟩⟩:=id t;obtain⟨s,U⟩:=ex (qgx r);rw [U]at c⊢;have R:decide (s=⟨#[]⟩)=(s.toList==(⟨#[]⟩:ByteArray).toList):=by rw [yu,zT,←qg2]
 rw [R,show(⟨#[]⟩:ByteArray).toList= []from wB,show(s.toList== [])=s.toList.isEmpty from by cases s.toList<;>rfl];clear R U p0 z0;refine hd5 ?_ t q d x c;clear t q d x c;intro ad l m p g
 go_enter Tryz.func63,Tryz.ntmps63
 go_wp2_with fail;rw [m.o];refine g.o.mono ?_;rintro e W1 ⟨rfl,Y⟩;have kE:Keep (fun b=>b<N) w W1:=p.o.mt.trans (Y.mono fun b _ h=>by have:=p.o.size;have:=l.o;omega);clear Y;refine hd1 ?_ kE;clear kE;intro u;go_wp2_with fail;go_ret;exact⟨by rfl,by rw [l.o];exact u.o⟩
theorem qwq {n:Nat}{r:RuleD}{sh sb:Value}{w:World}(U:RuleIn n w sh sb r)(hn:n<=w.heap.size)(ap:quu r)(ax:(qbu r).length<=1073741824):
  Calls prog 11 #[qaq r sh sb] w fun e w'=>e=.returned (.int .i64 (qds r))/\Keep (fun b=>b<w.heap.size) w w':=by
 obtain⟨N,hN⟩:=ex (w.heap.size);obtain⟨⟨ah,ad,rfl,-,-,-⟩,⟨ab,aa,rfl,-,-,-⟩⟩:=id U;obtain⟨W0,d⟩:=ex (w.alloc (.cells #[.string r.head.pred,.slice ah r.head.args.length ad,.slice ab r.body.length aa] 27));have k0:wE w W0:=by rw [←d];exact kAl
 have p0:W0.heap[N]?=some (.cells #[.string r.head.pred,.slice ah r.head.args.length ad,.slice ab r.body.length aa] 27 (0,0)):=by rw [←d,←hN];exact qh _ _
 have z0:W0.heap.size=N+1:=by rw [←d,←hN];simp
 have g:=qtd n r ap _ _ W0 (U.keep k0.mt) wA;have l:=fun W (hK:Keep (fun b=>b<W0.heap.size) W0 W)=>qwp (w:=W) (U.keep (k0.mt.trans (hK.mono fun b _ h=>wA))) (by have:=hK.size;omega) ax;have d0:=qb p0 0 _ rfl;have d1:=qb p0 1 _ rfl;have d2:=qb p0 2 _ rfl;have u:=qe p0;simp only [zD]at d0 d1 d2;unfold qaq at g l⊢;have hC:qds r=if qat r=true then (if qgx r=⟨#[]⟩ then 0 else 14) else 2:=by
  unfold qds;by_cases hf:qat r=true
  ·rw [zI hf,zI hf];by_cases x:qgx r=⟨#[]⟩
   ·rw [zI x,zI ((qp2 hf).1 x)]
   ·rw [zF x,zF (fun h=>x ((qp2 hf).2 h))]
  ·rw [zF hf,zF hf]
 rw [hC];clear hC ap p0 z0;cases t:qat r with
 |false=>
  rw [t]at g;rw [zF wC];refine hd7 ?_ U hN d k0 g l t;clear U hN d k0 g l t;intro ak c p s q v Y
  go_enter Tryz.func11,Tryz.ntmps11
  go_wp2_with fail;rw [p.o];refine q.o.mono ?_;rintro e W1 ⟨rfl,m⟩;have kE:Keep (fun b=>b<N) w W1:=s.o.mt.trans (m.mono fun b _ h=>by have:=s.o.size;have:=c.o;omega);clear m;refine hd1 ?_ kE;clear kE;intro z;go_wp2_with fail;go_ret;exact⟨rfl,by rw [c.o];exact z.o⟩
 |true=>
  rw [t]at g;rw [zI rfl];by_cases x:qgx r=⟨#[]⟩
  ·simp only [zS x]at l;rw [zI x];refine hd8 ?_ U hN d k0 g l t x;clear U hN d k0 g l t x;intro ak c p s q v Y aw
   go_enter Tryz.func11,Tryz.ntmps11
   go_wp2_with fail;rw [p.o,c.o];refine q.o.mono ?_;rintro e W1 ⟨rfl,m⟩;have e0:=m.cell d0 u;have e1:=m.cell d1 u;have e2:=m.cell d2 u;have ao:N<W1.heap.size:=zk u m.size;have R:=v.o W1 m;have kE:Keep (fun b=>b<N) w W1:=s.o.mt.trans (m.mono fun b _ h=>by have:=s.o.size;have:=c.o;omega);clear m d0 d1 d2;refine hd2 ?_ kE R;clear kE R;intro z y;go_wp2_with fail;refine y.o.mono ?_;rintro e W2 ⟨rfl,k2⟩;have kF:Keep (fun b=>b<N) w W2:=z.o.trans (k2.mono fun b _ h=>wA);clear k2;refine hd1 ?_ kF;clear kF;intro ai;go_wp2_with fail;go_ret;exact⟨rfl,by rw [c.o];exact ai.o⟩
  ·simp only [zM x]at l;rw [zF x];refine hd8 ?_ U hN d k0 g l t x;clear U hN d k0 g l t x;intro ak c p s q v Y aw
   go_enter Tryz.func11,Tryz.ntmps11
   go_wp2_with fail;rw [p.o,c.o];refine q.o.mono ?_;rintro e W1 ⟨rfl,m⟩;have e0:=m.cell d0 u;have e1:=m.cell d1 u;have e2:=m.cell d2 u;have ao:N<W1.heap.size:=zk u m.size;have R:=v.o W1 m;have kE:Keep (fun b=>b<N) w W1:=s.o.mt.trans (m.mono fun b _ h=>by have:=s.o.size;have:=c.o;omega);clear m d0 d1 d2;refine hd2 ?_ kE R;clear kE R;intro z y;go_wp2_with fail;refine y.o.mono ?_;rintro e W2 ⟨rfl,k2⟩;have kF:Keep (fun b=>b<N) w W2:=z.o.trans (k2.mono fun b _ h=>wA);clear k2;refine hd1 ?_ kF;clear kF;intro ai;go_wp2_with fail;go_ret;exact⟨rfl,by rw [c.o];exact ai.o⟩
end Go.Proofs

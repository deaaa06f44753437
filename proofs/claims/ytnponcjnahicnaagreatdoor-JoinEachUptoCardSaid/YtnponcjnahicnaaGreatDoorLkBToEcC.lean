/- Parts of the proof. -/
import Derived.Test.YtnponcjnahicnaaGreatDoorWkIToLkA
set_option linter.unusedSimpArgs false
set_option linter.unusedVariables false
set_option maxRecDepth 100000
set_option maxHeartbeats 4000000
open Go.Proofs.Tryz(prog)
open List(all_eq_false any_append any_cons any_nil drop_zero eq_nil_iff_forall_not_mem getElem_range length_eq_zero_iff length_replicate map_map nodup_nil toList_toArray)
namespace Go.Proofs
open Go.RowKit Go.Ink R4
attribute [local go_sem] Oper.semAt_some
theorem qz7 {X:World}{b:Nat}{c:Option Addr}(h:X.cell? ⟨b,0,none⟩=some (.pointer c))(m:Nat):Calls prog 67 #[.int .i64 (m:Int),qk b] X fun e w'=>e=.returned (.pointer c)/\w'=X:=by
 have lb:=zQ _ _ h;simp only at lb
 go_enter Tryz.func67,Tryz.ntmps67
 go_wp2;go_ret;exact⟨rfl,rfl⟩
theorem ql6 {g:Gh}{w X:World}(h:GInv g w)(hK:Keep (fun b=>b<w.heap.size) w X){st:Option Nat}(q: ∀S,st=some S-> ∃f,g.st S=some f)(p:ByteArray)(n:Nat)(m:p.size<=1073741824)(l:n<=1073741824):
  Calls prog 97 #[.pointer (st.map fun S=>⟨S,0,none⟩),.agg #[.string p,.int .i64 (n:Int)]] X fun e w'=>e=.returned (.int .i64 (qft g st p n:Nat))/\wE X w':=by
 cases st with
 |none=>exact q07 (p,n) X
 |some S=>
  obtain⟨f,c⟩:=q S rfl;have:=q08 ((h.keep (hK.mono fun b d _=>d)).store S f c) p n m l;unfold qft;simp only;rw [c];exact this
theorem q2u {U:Nat->Prop}{n:Nat}{w:World}{J:Nat}{r:RuleD}{vars:List ByteArray}{pos:List Int}{cW vb vv va vt vh:Value}(hj:JoinAt U n w J r vars pos cW vb vv va vt vh)(cr: ∀b,U b->b<n)(hn:n<=w.heap.size){g:Gh}(hg:GInv g w)(hk:qj2 r.body)(hp: ∀L,L∈r.body->L.atom.pred.size<=1073741824)
  {fI:Nat} {lI:Array Value} (eI: ∀args w,(callFunc fI args).run prog w=.ok (.enter fI args) w) {sF:Nat->Option Nat} {stN:Option Nat} (cu: ∀X,Keep (fun b=>b<w.heap.size) w X-> ∀m:Nat,Calls prog fI (#[.int .i64 (m:Int)]++lI) X fun e w'=>e=.returned (qa1 (sF m))/\w'=X) (hs: ∀m S,sF m=some S-> ∃f,g.st S=some f) (cw: ∀S,stN=some S-> ∃f,g.st S=some f):
  Calls prog 118 #[qk J,.func (.func fI) #[] lI,qa1 stN] w fun e w'=> ∃Lk,e=.returned (.tuple #[.slice (some ⟨Lk,0,none⟩) r.body.length r.body.length,.bool (okJ g sF stN r.body r.body.length)])/\w.heap.size<=Lk/\w'.heap[Lk]?=some (.cells ((qfz g sF stN r.body).flatMap LookD.cells).toArray 192 (0,0))/\Keep (fun b=>b<w.heap.size) w w':=by
 obtain⟨ab,cb,b8,cS,dl,cs⟩:=id hj.body;obtain⟨N,hN⟩:=ex (w.heap.size);have cT:=fun u=>qtl r.body.length cS u;have bx:=hj.box;rw [b8]at bx;have c2:=qb bx 2 _ rfl;have lJ:=qe bx;simp only [zD]at c2;have aI:=fun q X (hK:Keep (fun b=>b<w.heap.size) w X) p n hp hn=>ql6 hg hK (hs q) p n hp hn;have bn:=fun X (hK:Keep (fun b=>b<w.heap.size) w X) p n hp hn=>ql6 hg hK cw p n hp hn;have bQ:=fun X (hK:Keep (fun b=>b<w.heap.size) w X) p n hp hn=>ql6 (st:=none) hg hK (fun S h=>by cases h) p n hp hn;have aJ:=cu;unfold qa1 at aJ⊢;obtain⟨sN,bm⟩:=ex ((stN.map fun S=>(⟨S,0,none⟩:Addr)));rw [bm]at bn⊢;clear bx hs cw cu;obtain⟨W0,bv⟩:=ex (w.alloc (.cells (qdw r.body.length).toArray 192));have k0:Keep (fun b=>b<N) w W0:=by rw [←bv];exact kAl
 have cc:W0.heap[N]?=some (.cells (qdw r.body.length).toArray 192 (0,0)):=by rw [←bv,←hN];exact qh _ _
 have e2:=k0.cell c2 (show J<N from wA);have dr:J<W0.heap.size:=by have:=k0.size;omega
 have ds:=qe cc;refine qby ?_ hj cr hg hk hp cs hN aI bn bQ aJ bm b8 bv k0 cc;clear hj cr hg hk hp cs hN aI bn bQ aJ bm b8 bv k0 cc;intro de cX dd cL cM ci aB b0 b2 bW cj aL cY ch cN cn;refine qbr Tryz.func118 rfl ?_;simp only [Tryz.ntmps118,qdy,Nat.reduceAdd,Nat.reduceSub];gi_wp2;rw [ch.o,aB.o];clear cT c2 lJ;gi_wp2;gi_loopw [9,10,26] (fun m' cV i' X=> ∃i:Nat,i<=r.body.length/\m'=.int .i64 (qc7 r.body i:Nat)/\cV=.bool (okJ g sF stN r.body i)/\i'=.int .i64 (i:Int)/\Keep (fun b=>b<N) w X/\X.heap[N]?=some (.cells (((qfz g sF stN r.body).take i).flatMap LookD.cells++qdw (r.body.length-i)).toArray 192 (0,0))) (fun _ _ i _=>r.body.length-(intOf i).toNat)
 case atStart=>exact⟨0,wA,rfl,rfl,rfl,cN.o,cn.o⟩
 case round=>
  obtain⟨i,hi,rfl,rfl,rfl,hK,a0⟩:=hrel;have dn:=hK.size;have c7:=qe a0;by_cases bD:i<r.body.length
  ·have da:(i:Int)<r.body.length:=by omega
   have dm:(0:Int)<=i:=wA
   obtain⟨L,hL⟩: ∃L,r.body[i]?=some L:=⟨_,zB bD⟩;have bu:r.body.getD i default=L:=by rw [zJ,hL];rfl
   have bz:=cL.o i bD;unfold qbg at bz;rw [bu]at bz;obtain⟨b4,o4,rfl,dk,dj,sa,a5,a9⟩:=ci.o i L hL;have aG:b4<N:=by have:=aB.o;omega
   have d0:=hK.cell (a5 0 _ rfl) aG;have d1:=hK.cell (a5 1 _ rfl) aG;have d2:=hK.cell (a5 2 _ rfl) aG;have d3:=hK.cell (a5 3 _ rfl) aG;have d4:=hK.cell (a5 4 _ rfl) aG;have d5:=hK.cell (a5 5 _ rfl) aG;have d6:=hK.cell (a5 6 _ rfl) aG;have c8:b4<wr.heap.size:=wA
   obtain⟨aa,ca,rfl,bw,cR,-⟩:=id a9;have a8:=cM.o L (zH hL);have ak:=qs9 hL;have hrk:qc7 r.body i<=1073741824:=zW (q80 _ _) wA;have y:=q81 g sF stN r.body i;have aj:=q1d (g:=g) (stA:=sF) (stN:=stN) bD;obtain⟨ks,a6⟩:=ex ((qfz g sF stN r.body).take i);have x:ks.length=i:=by rw [←a6,yC,qky];omega
   obtain⟨m,hm⟩: ∃m,r.body.length-i=m+1:=⟨r.body.length-i-1,wA⟩;have aM:r.body.length-(i+1)=m:=wA
   rw [a6]at a0 aj;have aA:LookAt wr N ks ⟨none,⟨#[]⟩,0,0⟩ m:=by
    unfold LookAt;rw [hm]at a0;rw [a0,qdw,yr]
    rfl
   have cv:qfi g sF stN r.body i=⟨if L.kind=1 then sF (qc7 r.body i) else if L.kind=2 then stN else none,L.atom.pred,L.atom.args.length,qft g (if L.kind=1 then sF (qc7 r.body i) else if L.kind=2 then stN else none) L.atom.pred L.atom.args.length⟩:=by unfold qfi qlt;rw [bu]
   rw [cv]at aj y;rw [bu]at y;have w1:=(aA.set1 x L.atom.pred).set2 x L.atom.args.length;obtain⟨k,⟨pr,args⟩,⟨lv,lt⟩,⟨rv,rt⟩⟩:=L;simp only at d0 d1 d2 d3 d4 d5 d6 bw a8 ak y aj bz w1 cR;obtain⟨y0,y1,y2,y3⟩:=aA.cells x;have f0:=qg aA (i*4);have f1:=qg aA (i*4+1);have f2:=qg aA (i*4+2);have f3:=qg aA (i*4+3);simp only [Nat.add_zero]at d0;clear a5 cv a0 bu;rcases bz with h |h |h
   ·subst h;simp only [yg]at ak y aj;have aJ:=cj.o;have aI:=b0.o (qc7 r.body i);have aJ:=fun X hX=>aJ X hX (qc7 r.body i);obtain⟨s,b7⟩:=ex (sF (qc7 r.body i));rw [b7]at y aj;simp only [b7]at aJ aI;obtain⟨sA,b6⟩:=ex ((s.map fun S=>(⟨S,0,none⟩:Addr)));simp only [b6]at aJ aI;have ck:=zg aJ;have b1:=zg aI;have bh:=zg b6;clear aJ aI b6 b7;have ax: ∀(u:Nat) (Y:World),LookAt Y N ks ⟨s,pr,args.length,u⟩ m->u=qft g s pr args.length->Y.heap[N]?=some (.cells (((qfz g sF stN r.body).take (i+1)).flatMap LookD.cells++qdw (r.body.length-(i+1))).toArray 192 (0,0)):=fun u Y h1 h2=>by
     rw [aj,aM,←h2,yG,yF,xn,yP];exact h1
    obtain⟨W1,ad⟩:=ex (((wr.setCell ⟨N,i*4+1,none⟩ (.string pr)).setCell ⟨N,i*4+1+1,none⟩ (.int .i64 (args.length:Int))).alloc (.cells #[.int .i64 1,.string pr,.slice aa args.length ca,.bool lv,.string lt,.bool rv,.string rt] 79));obtain⟨B,hB⟩:=ex (wr.heap.size);have kA:Keep (fun b=>b≠N) wr W1:=by rw [←ad];exact((kSc).trans (kSc)).trans kAl
    have ag:LookAt W1 N ks ⟨none,pr,args.length,0⟩ m:=by rw [←ad];exact w1.keep (Keep.alloc (fun _=>True) _ _) trivial
    have a7:W1.heap[B]?=some (.cells #[.int .i64 1,.string pr,.slice aa args.length ca,.bool lv,.string lt,.bool rv,.string rt] 79 (0,0)):=by
     rw [←ad,←hB];have:=qh ((wr.setCell ⟨N,i*4+1,none⟩ (.string pr)).setCell ⟨N,i*4+1+1,none⟩ (.int .i64 (args.length:Int))) (.cells #[.int .i64 1,.string pr,.slice aa args.length ca,.bool lv,.string lt,.bool rv,.string rt] 79)
     simpa using this
    have a1:N≠B:=wA
    obtain⟨z0,z1,z2,z3⟩:=ag.cells x;have bi:=qg ag (i*4);have cy:=qe ag;simp only [qa1,Option.map_none]at z0;refine qby ?_ hK hL a9 a8 ak y aj a6 x hm aM aA w1 ax kA ag;clear hK hL a9 a8 ak y aj a6 x hm aM aA w1 ax kA ag;intro aO cf bN aU aE aD bK bJ c cl bL bI co aC bd aW;refine hd4 ?_ a7 ad hB a1;clear a7 ad hB a1;intro aV aR bf au;gi_wp2;rw [aR.o,bf.o];refine⟨wF,rfl,(zU.2 (ck.o W1 ((aO.o.trans (bd.o.mono fun b _ (h:b<N)=>wA)).mono fun b _ (h:b<w.heap.size)=>by have:=aB.o;omega))).mono ?_⟩;rintro e w9 ⟨rfl,b9⟩;have b9:=b9.symm;subst b9;clear d0 d1 d2 d3 d4 d5 d6 y0 y1 y2 y3 f0 f1 f2 f3;obtain⟨W2,am⟩:=ex (W1.setCell ⟨N,i*4,none⟩ (.pointer sA));have k2:Keep (fun b=>b≠N) W1 W2:=by rw [←am];exact kSc
    have ao:LookAt W2 N ks ⟨s,pr,args.length,0⟩ m:=by
     have:=aW.o.set0 c.o s;unfold qa1 at this;rw [bh.o,am]at this;exact this
    have ay:=k2.heap aV.o (fun e=>au.o e.symm);have aZ:Keep (fun b=>b<w.heap.size) w W2:=(aO.o.trans ((bd.o.trans k2).mono fun b _ (h:b<N)=>wA)).mono fun b _ (h:b<w.heap.size)=>by have:=aB.o;omega
    have hS: ∀X,wE W2 X->(X.cell? ⟨N,i*4,none⟩=some (.pointer sA)/\X.cell? ⟨N,i*4+1,none⟩=some (.string pr)/\X.cell? ⟨N,i*4+1+1,none⟩=some (.int .i64 (args.length:Int))):=fun X hX=>by
     obtain⟨q0,q1,q2,q3⟩:=(ao.keep hX wF).cells c.o;unfold qa1 at q0;exact⟨by rw [←bh.o];exact q0,q1,q2⟩
    have a2:=hS _ kDr;have cz:=qe ao;refine hd7 ?_ k2 ao ay aZ hS a2 am;clear k2 ao ay aZ hS a2 am;intro cm aX aF ar bg aP aS;gi_wp2;rw [aS.o];refine qag ?_;refine qw rfl (fun X=>(X.cell? ⟨N,i*4,none⟩=some (.pointer sA)/\X.cell? ⟨N,i*4+1,none⟩=some (.string pr)/\X.cell? ⟨N,i*4+1+1,none⟩=some (.int .i64 (args.length:Int)))) [] ?_;refine qq [0,1,2,3,4,5,6,7,8,9,10,11] ?_
    iterate 12
     refine tkB rfl aP.o ?_
     try simp only [qr]
    refine ql ?_;refine hoR 12 rfl fun K ap=>?_;gi_wp2;refine⟨wF,rfl,(zU.2 (b1.o _ (ar.o.trans kDr.mt) pr args.length aU.o bw)).mono ?_⟩;rintro e W3 ⟨rfl,k3⟩;obtain⟨u,hu⟩:=ex (qft g s pr args.length);have z:wE W2 W3:=kDr.trans k3;have a3:=bg.o W3 z;have ah:=aX.o.keep z trivial;have az:=z.heap aF.o trivial;obtain⟨t0,t1,t2,t3⟩:=ah.cells c.o;have bj:=qg ah (i*4+3);have cA:=qe ah;obtain⟨W4,an⟩:=ex (W3.setCell ⟨N,i*4+3,none⟩ (.int .i64 (u:Int)));have ai:=ah.set3 c.o u;rw [an]at ai;have k4:Keep (fun b=>b≠N) W3 W4:=by rw [←an];exact kSc
    have af:=k4.heap az (fun e=>au.o e.symm);have aw:=aC.o u W4 ai hu.symm;have aY:Keep (fun b=>b<N) w W4:=(ar.o.mono fun b _ (h:b<N)=>by have:=aB.o;omega).trans (z.mt.trans (k4.mono fun b _ h=>wA));have v0:=qb af 0 _ rfl;have cC:=qe af;obtain⟨t4,t5,t6,t7⟩:=ai.cells c.o;have cB:=qe ai;have a4:(W4.cell? ⟨N,i*4,none⟩=some (.pointer sA)/\W4.cell? ⟨N,i*4+1,none⟩=some (.string pr)/\W4.cell? ⟨N,i*4+1+1,none⟩=some (.int .i64 (args.length:Int))):=by
     unfold qa1 at t4;exact⟨by rw [←bh.o];exact t4,t5,t6⟩
    simp only [zD]at v0;simp only at t3 t7;clear k3 ah az ai k4 af t0 t1 t2 t4 t5 t6;rw [hu];have ae:=aE.o;have t:=aD.o;obtain⟨ob,aH⟩:=ex (okJ g sF stN r.body i);rw [aH]at t⊢;refine qdx ?_ a3 a4 aw aY an hu z t ae aH;clear a3 a4 aw aY an hu z t ae aH;intro av aQ R al aT br bO d l bM;gi_wp2;refine ap.o _ _ (fun _=>av.o) ?_;refine qq [13,14] ?_
    iterate 2
     refine tkB rfl av.o ?_
     try simp only [qr]
    refine ql ?_;refine hoR 15 rfl fun K aq=>?_;gi_wp2;rw [aT.o];refine aq.o _ _ (fun _=>aQ.o) ?_;refine qz wB (qah ?_);clear ap aq t3 bj z0 z1 z2 z3 bi;cases ob with
    |false=>
     gi_wp2;go_roundw
     case rel=>exact⟨i+1,wA,by rw [l.o];go_num,by rw [d.o];rfl,by go_num,al.o,R.o⟩
     case measure=>simp [intOf];omega
    |true=>
     by_cases cx:0<u
     ·have cU:(0:Int)<u:=by omega
      gi_wp2;go_roundw
      case rel=>exact⟨i+1,wA,by rw [l.o];go_num,by rw [d.o,br.o,zS cx];rfl,by go_num,al.o,R.o⟩
      case measure=>simp [intOf];omega
     ·have cU: ¬((0:Int)<u):=by omega
      gi_wp2;go_roundw
      case rel=>exact⟨i+1,wA,by rw [l.o];go_num,by rw [d.o,br.o,zM cx];rfl,by go_num,al.o,R.o⟩
      case measure=>simp [intOf];omega
   ·subst h;simp only [yg,show ¬((2:Int)=1) from wD,yy]at ak y aj;have ax: ∀(u:Nat) (Y:World),LookAt Y N ks ⟨stN,pr,args.length,u⟩ m->u=qft g stN pr args.length->Y.heap[N]?=some (.cells (((qfz g sF stN r.body).take (i+1)).flatMap LookD.cells++qdw (r.body.length-(i+1))).toArray 192 (0,0)):=fun u Y h1 h2=>by
     rw [aj,aM,←h2,yG,yF,xn,yP];exact h1
    have cd:=w1.set0 x stN;unfold qa1 at cd;rw [aL.o]at cd;obtain⟨W1,ad⟩:=ex ((((wr.setCell ⟨N,i*4+1,none⟩ (.string pr)).setCell ⟨N,i*4+1+1,none⟩ (.int .i64 (args.length:Int))).setCell ⟨N,i*4,none⟩ (.pointer sN)).alloc (.cells #[.int .i64 2,.string pr,.slice aa args.length ca,.bool lv,.string lt,.bool rv,.string rt] 79));obtain⟨B,hB⟩:=ex (wr.heap.size);have kA:Keep (fun b=>b≠N) wr W1:=by rw [←ad];exact(((kSc).trans (kSc)).trans (kSc)).trans kAl
    have ag:LookAt W1 N ks ⟨stN,pr,args.length,0⟩ m:=by rw [←ad];exact cd.keep (Keep.alloc (fun _=>True) _ _) trivial
    have a7:W1.heap[B]?=some (.cells #[.int .i64 2,.string pr,.slice aa args.length ca,.bool lv,.string lt,.bool rv,.string rt] 79 (0,0)):=by
     rw [←ad,←hB];have:=qh (((wr.setCell ⟨N,i*4+1,none⟩ (.string pr)).setCell ⟨N,i*4+1+1,none⟩ (.int .i64 (args.length:Int))).setCell ⟨N,i*4,none⟩ (.pointer sN)) (.cells #[.int .i64 2,.string pr,.slice aa args.length ca,.bool lv,.string lt,.bool rv,.string rt] 79)
     simpa using this
    have a1:N≠B:=wA
    obtain⟨z0,z1,z2,z3⟩:=ag.cells x;have bi:=qg ag (i*4);have cy:=qe ag;simp only [qa1]at z0;rw [aL.o]at z0;refine qby ?_ hK hL a9 a8 ak y aj a6 x hm aM aA w1 ax kA ag;clear hK hL a9 a8 ak y aj a6 x hm aM aA w1 ax kA ag;intro aO cf bN aU aE aD bK bJ c cl bL bI co aC bd aW;refine hd4 ?_ a7 ad hB a1;clear a7 ad hB a1;intro aV aR bf au;obtain⟨W2,am⟩:=ex (W1);have k2:Keep (fun b=>b≠N) W1 W2:=by rw [←am];exact Keep.refl _ _
    have ao:LookAt W2 N ks ⟨stN,pr,args.length,0⟩ m:=by rw [←am];exact aW.o
    have ay:=k2.heap aV.o (fun e=>au.o e.symm);have aZ:Keep (fun b=>b<w.heap.size) w W2:=(aO.o.trans ((bd.o.trans k2).mono fun b _ (h:b<N)=>wA)).mono fun b _ (h:b<w.heap.size)=>by have:=aB.o;omega
    have hS: ∀X,wE W2 X->(X.cell? ⟨N,i*4,none⟩=some (.pointer sN)/\X.cell? ⟨N,i*4+1,none⟩=some (.string pr)/\X.cell? ⟨N,i*4+1+1,none⟩=some (.int .i64 (args.length:Int))):=fun X hX=>by
     obtain⟨q0,q1,q2,q3⟩:=(ao.keep hX wF).cells c.o;unfold qa1 at q0;exact⟨by rw [←aL.o];exact q0,q1,q2⟩
    have a2:=hS _ kDr;have cz:=qe ao;refine hd7 ?_ k2 ao ay aZ hS a2 am;clear k2 ao ay aZ hS a2 am;intro cm aX aF ar bg aP aS;gi_wp2;rw [aR.o,bf.o,aS.o];refine qag ?_;refine qw rfl (fun X=>(X.cell? ⟨N,i*4,none⟩=some (.pointer sN)/\X.cell? ⟨N,i*4+1,none⟩=some (.string pr)/\X.cell? ⟨N,i*4+1+1,none⟩=some (.int .i64 (args.length:Int)))) [] ?_;refine qq [0,1,2,3,4,5,6,7,8,9,10,11] ?_
    iterate 12
     refine tkB rfl aP.o ?_
     try simp only [qr]
    refine ql ?_;refine hoR 12 rfl fun K ap=>?_;gi_wp2;refine⟨wF,rfl,(zU.2 (b2.o _ (ar.o.trans kDr.mt) pr args.length aU.o bw)).mono ?_⟩;rintro e W3 ⟨rfl,k3⟩;obtain⟨u,hu⟩:=ex (qft g stN pr args.length);have z:wE W2 W3:=kDr.trans k3;have a3:=bg.o W3 z;have ah:=aX.o.keep z trivial;have az:=z.heap aF.o trivial;obtain⟨t0,t1,t2,t3⟩:=ah.cells c.o;have bj:=qg ah (i*4+3);have cA:=qe ah;obtain⟨W4,an⟩:=ex (W3.setCell ⟨N,i*4+3,none⟩ (.int .i64 (u:Int)));have ai:=ah.set3 c.o u;rw [an]at ai;have k4:Keep (fun b=>b≠N) W3 W4:=by rw [←an];exact kSc
    have af:=k4.heap az (fun e=>au.o e.symm);have aw:=aC.o u W4 ai hu.symm;have aY:Keep (fun b=>b<N) w W4:=(ar.o.mono fun b _ (h:b<N)=>by have:=aB.o;omega).trans (z.mt.trans (k4.mono fun b _ h=>wA));have v0:=qb af 0 _ rfl;have cC:=qe af;obtain⟨t4,t5,t6,t7⟩:=ai.cells c.o;have cB:=qe ai;have a4:(W4.cell? ⟨N,i*4,none⟩=some (.pointer sN)/\W4.cell? ⟨N,i*4+1,none⟩=some (.string pr)/\W4.cell? ⟨N,i*4+1+1,none⟩=some (.int .i64 (args.length:Int))):=by
     unfold qa1 at t4;exact⟨by rw [←aL.o];exact t4,t5,t6⟩
    simp only [zD]at v0;simp only at t3 t7;clear k3 ah az ai k4 af t0 t1 t2 t4 t5 t6;rw [hu];have ae:=aE.o;have t:=aD.o;obtain⟨ob,aH⟩:=ex (okJ g sF stN r.body i);rw [aH]at t⊢;refine qdx ?_ a3 a4 aw aY an hu z t ae aH;clear a3 a4 aw aY an hu z t ae aH;intro av aQ R al aT br bO d l bM;gi_wp2;refine ap.o _ _ (fun _=>av.o) ?_;refine qq [13,14] ?_
    iterate 2
     refine tkB rfl av.o ?_
     try simp only [qr]
    refine ql ?_;refine hoR 15 rfl fun K aq=>?_;gi_wp2;rw [aT.o];refine aq.o _ _ (fun _=>aQ.o) ?_;refine qz wB (qah ?_);clear ap aq t3 bj z0 z1 z2 z3 bi;cases ob with
    |false=>
     gi_wp2;go_roundw
     case rel=>exact⟨i+1,wA,by rw [l.o];go_num,by rw [d.o];rfl,by go_num,al.o,R.o⟩
     case measure=>simp [intOf];omega
    |true=>
     gi_wp2;go_roundw
     case rel=>exact⟨i+1,wA,by rw [l.o];go_num,by rw [d.o];rfl,by go_num,al.o,R.o⟩
     case measure=>simp [intOf];omega
   ·subst h;simp only [show ¬((3:Int)=1) from wD,show ¬((3:Int)=2) from wD,yy]at ak y aj;have ax: ∀(u:Nat) (Y:World),LookAt Y N ks ⟨none,pr,args.length,u⟩ m->u=qft g none pr args.length->Y.heap[N]?=some (.cells (((qfz g sF stN r.body).take (i+1)).flatMap LookD.cells++qdw (r.body.length-(i+1))).toArray 192 (0,0)):=fun u Y h1 h2=>by
     rw [aj,aM,←h2,yG,yF,xn,yP];exact h1
    obtain⟨W1,ad⟩:=ex (((wr.setCell ⟨N,i*4+1,none⟩ (.string pr)).setCell ⟨N,i*4+1+1,none⟩ (.int .i64 (args.length:Int))).alloc (.cells #[.int .i64 3,.string pr,.slice aa args.length ca,.bool lv,.string lt,.bool rv,.string rt] 79));obtain⟨B,hB⟩:=ex (wr.heap.size);have kA:Keep (fun b=>b≠N) wr W1:=by rw [←ad];exact((kSc).trans (kSc)).trans kAl
    have ag:LookAt W1 N ks ⟨none,pr,args.length,0⟩ m:=by rw [←ad];exact w1.keep (Keep.alloc (fun _=>True) _ _) trivial
    have a7:W1.heap[B]?=some (.cells #[.int .i64 3,.string pr,.slice aa args.length ca,.bool lv,.string lt,.bool rv,.string rt] 79 (0,0)):=by
     rw [←ad,←hB];have:=qh ((wr.setCell ⟨N,i*4+1,none⟩ (.string pr)).setCell ⟨N,i*4+1+1,none⟩ (.int .i64 (args.length:Int))) (.cells #[.int .i64 3,.string pr,.slice aa args.length ca,.bool lv,.string lt,.bool rv,.string rt] 79)
     simpa using this
    have a1:N≠B:=wA
    obtain⟨z0,z1,z2,z3⟩:=ag.cells x;have bi:=qg ag (i*4);have cy:=qe ag;simp only [qa1,Option.map_none]at z0;refine qby ?_ hK hL a9 a8 ak y aj a6 x hm aM aA w1 ax kA ag;clear hK hL a9 a8 ak y aj a6 x hm aM aA w1 ax kA ag;intro aO cf bN aU aE aD bK bJ c cl bL bI co aC bd aW;refine hd4 ?_ a7 ad hB a1;clear a7 ad hB a1;intro aV aR bf au;obtain⟨W2,am⟩:=ex (W1);have k2:Keep (fun b=>b≠N) W1 W2:=by rw [←am];exact Keep.refl _ _
    have ao:LookAt W2 N ks ⟨none,pr,args.length,0⟩ m:=by rw [←am];exact aW.o
    have ay:=k2.heap aV.o (fun e=>au.o e.symm);have aZ:Keep (fun b=>b<w.heap.size) w W2:=(aO.o.trans ((bd.o.trans k2).mono fun b _ (h:b<N)=>wA)).mono fun b _ (h:b<w.heap.size)=>by have:=aB.o;omega
    have hS: ∀X,wE W2 X->(X.cell? ⟨N,i*4,none⟩=some (.pointer none)/\X.cell? ⟨N,i*4+1,none⟩=some (.string pr)/\X.cell? ⟨N,i*4+1+1,none⟩=some (.int .i64 (args.length:Int))):=fun X hX=>by
     obtain⟨q0,q1,q2,q3⟩:=(ao.keep hX wF).cells c.o;unfold qa1 at q0;exact⟨q0,q1,q2⟩
    have a2:=hS _ kDr;have cz:=qe ao;refine hd7 ?_ k2 ao ay aZ hS a2 am;clear k2 ao ay aZ hS a2 am;intro cm aX aF ar bg aP aS;gi_wp2;rw [aR.o,bf.o,aS.o];refine qag ?_;refine qw rfl (fun X=>(X.cell? ⟨N,i*4,none⟩=some (.pointer none)/\X.cell? ⟨N,i*4+1,none⟩=some (.string pr)/\X.cell? ⟨N,i*4+1+1,none⟩=some (.int .i64 (args.length:Int)))) [] ?_;refine qq [0,1,2,3,4,5,6,7,8,9,10,11] ?_
    iterate 12
     refine tkB rfl aP.o ?_
     try simp only [qr]
    refine ql ?_;refine hoR 12 rfl fun K ap=>?_;gi_wp2;refine⟨wF,rfl,(zU.2 (bW.o _ (ar.o.trans kDr.mt) pr args.length aU.o bw)).mono ?_⟩;rintro e W3 ⟨rfl,k3⟩;obtain⟨u,hu⟩:=ex (qft g none pr args.length);have z:wE W2 W3:=kDr.trans k3;have a3:=bg.o W3 z;have ah:=aX.o.keep z trivial;have az:=z.heap aF.o trivial;obtain⟨t0,t1,t2,t3⟩:=ah.cells c.o;have bj:=qg ah (i*4+3);have cA:=qe ah;obtain⟨W4,an⟩:=ex (W3.setCell ⟨N,i*4+3,none⟩ (.int .i64 (u:Int)));have ai:=ah.set3 c.o u;rw [an]at ai;have k4:Keep (fun b=>b≠N) W3 W4:=by rw [←an];exact kSc
    have af:=k4.heap az (fun e=>au.o e.symm);have aw:=aC.o u W4 ai hu.symm;have aY:Keep (fun b=>b<N) w W4:=(ar.o.mono fun b _ (h:b<N)=>by have:=aB.o;omega).trans (z.mt.trans (k4.mono fun b _ h=>wA));have v0:=qb af 0 _ rfl;have cC:=qe af;obtain⟨t4,t5,t6,t7⟩:=ai.cells c.o;have cB:=qe ai;have a4:(W4.cell? ⟨N,i*4,none⟩=some (.pointer none)/\W4.cell? ⟨N,i*4+1,none⟩=some (.string pr)/\W4.cell? ⟨N,i*4+1+1,none⟩=some (.int .i64 (args.length:Int))):=by
     unfold qa1 at t4;exact⟨t4,t5,t6⟩
    simp only [zD]at v0;simp only at t3 t7;clear k3 ah az ai k4 af t0 t1 t2 t4 t5 t6;rw [hu];have ae:=aE.o;have t:=aD.o;obtain⟨ob,aH⟩:=ex (okJ g sF stN r.body i);rw [aH]at t⊢;refine qdx ?_ a3 a4 aw aY an hu z t ae aH;clear a3 a4 aw aY an hu z t ae aH;intro av aQ R al aT br bO d l bM;gi_wp2;refine ap.o _ _ (fun _=>av.o) ?_;refine qq [13,14] ?_
    iterate 2
     refine tkB rfl av.o ?_
     try simp only [qr]
    refine ql ?_;refine hoR 15 rfl fun K aq=>?_;gi_wp2;rw [aT.o];refine aq.o _ _ (fun _=>aQ.o) ?_;refine qz wB (qah ?_);clear ap aq t3 bj z0 z1 z2 z3 bi;cases ob with
    |false=>
     gi_wp2;go_roundw
     case rel=>exact⟨i+1,wA,by rw [l.o];go_num,by rw [d.o];rfl,by go_num,al.o,R.o⟩
     case measure=>simp [intOf];omega
    |true=>
     gi_wp2;go_roundw
     case rel=>exact⟨i+1,wA,by rw [l.o];go_num,by rw [d.o];rfl,by go_num,al.o,R.o⟩
     case measure=>simp [intOf];omega
  ·obtain rfl:i=r.body.length:=by omega
   rw [xY,qdw,yP,yx (by rw [qky];omega)]at a0;clear bD;refine hd2 ?_ hK a0;clear hK a0;intro aO cg;gi_wp2;refine yA (v:=.tuple #[.slice (some ⟨N,0,none⟩) r.body.length r.body.length,.bool (okJ g sF stN r.body r.body.length)]) (by simp [results,Tryz.results118,go_sem]) rfl ⟨N,rfl,by rw [aB.o];exact zG _,cg.o,aO.o.mono fun b _ (h:b<w.heap.size)=>by have:=aB.o;omega⟩
end Go.Proofs
namespace Go.Proofs
open Go.RowKit Go.Ink Go.Flt R4 P16
attribute [local go_sem] Oper.semAt_some
theorem q9c {r:RuleD}{sizes:List qas}{first:Int}(g:qb0 sizes=true)(d:qed r=true)(c:qbk r first=false)(j:Nat)(l:j<=r.body.length): ∀s,s∈(qbz r sizes first j).steps->0<=s.lit:=by
 induction j with
 |zero=>intro s h;simp [qbz] at h
 |succ j ih=>
  obtain⟨k,b,-⟩:=qi6 (sizes:=sizes) d c (show j<r.body.length from wA) (qoh g d c j wA) (fun h=>by subst h;rfl);have e:qbz r sizes first (j+1)=qii r sizes (k:Int) (qbz r sizes first j):=by
   show qii r sizes (qhg r sizes first j (qbz r sizes first j)) (qbz r sizes first j)=_;rw [b]
  rw [e];intro s h;rcases zr.1 h with h |h
  ·exact ih wA s h
  ·rw [zm]at h;subst h;unfold qbh;split
   ·exact Int.natCast_nonneg k
   ·exact Int.natCast_nonneg k
def qdo (body:List LitD)(ks:List LookD):Nat->List qas
 |0=> []
 |i+1=>qdo body ks i++if (body.getD i default).kind=1 then [⟨(body.getD i default).atom.pred,((ks.getD i ⟨none,⟨#[]⟩,0,0⟩).upto:Int),[]⟩] else []
def qdt (body:List LitD)(ks:List LookD):List qas:=qdo body ks body.length
def quq (s:qas):List Value:= [.string s.pred,.int .i64 s.rows,.slice none 0 0]
theorem qot (body:List LitD)(ks:List LookD)(i:Nat):(qdo body ks i).length<=i:=by
 induction i with
 |zero=>exact zG _
 |succ i ih=>
  unfold qdo;rw [zR];split
  ·simp;exact ih
  ·simp;omega
theorem qur (body:List LitD)(ks:List LookD)(i:Nat): ∀s,s∈qdo body ks i->s.dist= []:=by
 induction i with
 |zero=>intro s h;cases h
 |succ i ih=>
  intro s h;unfold qdo at h;rcases zr.1 h with h |h
  ·exact ih s h
  ·split at h
   ·rw [zm]at h;subst h;rfl
   ·cases h
theorem qz8 {w:World}{base:Nat}{e:TypeId}{v:Value}{n:Nat}{ss:List qas}(h:w.ownsRow base e 3 v n (ss.flatMap quq))(m:ss.length<=1073741824)(hd: ∀s,s∈ss->s.dist= []):SizesIn w.heap.size w v ss:=
 qda h ss (by have:=h.1;rw [qa4 _ 3 (fun _=>rfl)] at this;omega) m (q7e w.heap.size) fun b k d c p=>by
  refine⟨.slice none 0 0,fun j u l=>?_,?_⟩
  ·have g:j<3:=(zA.1 l).1;rw [p j g,qbf _ 3 (fun _=>rfl) _ k j d c g];exact l
  ·rw [hd d (zH c)];exact⟨none,0,rfl,wC,by simp [maxLen],fun k x q=>by simp at q⟩
theorem q72:qb2 prog 242 244 3 48:=qcl (z:=.agg #[.string ⟨#[]⟩,.int .i64 0,.slice none 0 0]) wB wB rfl wD wD
theorem JoinAt.rule {U:Nat->Prop}{n:Nat}{w:World}{J:Nat}{r:RuleD}{vars:List ByteArray}{pos:List Int}{c e vv q s vh:Value}(h:JoinAt U n w J r vars pos c e vv q s vh):RuleIn n w c e r:=
 ⟨h.head.mono fun _ _ _ _ d=>d.2,h.body.mono fun b o L _ d=>by
  obtain⟨-,p,g,l⟩:=d;exact⟨p,g,l.mono fun _ _ _ _ m=>m.2⟩⟩
def qpd (ss:List qfb):List Value:=ss.map fun s=>.int .i64 s.lit
theorem q2v {U:Nat->Prop}{n:Nat}{w:World}{J:Nat}{r:RuleD}{vars:List ByteArray}{pos:List Int}{c6 vb vv va vt vh:Value}(hj:JoinAt U n w J r vars pos c6 vb vv va vt vh)(hn:n<=w.heap.size){Lk:Nat}{ks:List LookD}
  (aT:w.heap[Lk]?=some (.cells (ks.flatMap LookD.cells).toArray 192 (0,0))) (bV:ks.length=r.body.length) (first:Int) (p:qd9 r (qdt r.body ks) (qbk r first)=0):
  Calls prog 119 #[qk J,.slice (some ⟨Lk,0,none⟩) r.body.length r.body.length,.int .i64 first] w fun e w'=> ∃vo,e=.returned vo/\w'.ownsRow w.heap.size 3 1 vo (qg1 r (qdt r.body ks) first).length ((qg1 r (qdt r.body ks) first).map fun i:Nat=>.int .i64 (i:Int))/\Keep (fun b=>b<w.heap.size) w w':=by
 have hp:qat r=true/\qb0 (qdt r.body ks)=true/\qbk r first=false/\qed r=true:=by
  unfold qd9 at p;cases h1:qat r<;>cases h2:qb0 (qdt r.body ks)<;>cases h3:qed r<;>cases h4:qbk r first<;>rw [h1,h2,h3,h4] at p<;>first |exact⟨rfl,rfl,rfl,rfl⟩ |(exfalso;revert p;decide)
 obtain⟨hF,hu,hf,hs⟩:=hp;have aY:=qoh hu hs hf r.body.length (zG _);have ae:=q9c hu hs hf r.body.length (zG _);have au:qjp r (qdt r.body ks) first=(⟨r,(qbz r (qdt r.body ks) first r.body.length).steps⟩,0):=by unfold qjp;rw [p,zF wC]
 have a2:=aY.stp;obtain⟨d,az⟩:=ex ((qbz r (qdt r.body ks) first r.body.length).steps);rw [az]at au a2 ae;have aZ:(qg1 r (qdt r.body ks) first).length=d.length:=by unfold qg1;rw [az,zL]
 have a0:((qg1 r (qdt r.body ks) first).map fun i:Nat=>Value.int .i64 (i:Int))=qpd d:=by
  unfold qg1 qpd;rw [az,map_map];refine xA fun s hs=>?_;have:=ae s hs;simp only [Function.comp];rw [Int.toNat_of_nonneg this]
 rw [aZ,a0];have R:=hj.rule;obtain⟨ab,cb,aH,eh,eg,bO⟩:=id hj.body;obtain⟨ah,ch,ag,ej,ei,-⟩:=id hj.head;obtain⟨N,hN⟩:=ex (w.heap.size);have ak:=hj.box;rw [aH,ag]at ak;rw [aH,ag]at R;have c0:=qb ak 0 _ rfl;have c1:=qb ak 1 _ rfl;have c2:=qb ak 2 _ rfl;have lJ:=qe ak;have lL:=qe aT;simp only [zD]at c0 c1 c2;have bG: ∀X,Keep (fun b=>b<N) w X->X.cell? ⟨J,0,none⟩=some (.string r.head.pred)/\X.cell? ⟨J,1,none⟩=some (.slice ah r.head.args.length ch)/\X.cell? ⟨J,2,none⟩=some (.slice ab r.body.length cb)/\J<X.heap.size:=fun X hX=>⟨hX.cell c0 (show J<N from wA),hX.cell c1 (show J<N from wA),hX.cell c2 (show J<N from wA),by have:=hX.size;omega⟩;clear c0 c1 ak;refine qby ?_ hj aT bV p hF hu hf hs aY ae au a2 az aZ a0 R;clear hj aT bV p hF hu hf hs aY ae au a2 az aZ a0 R;intro dH bf bm cA dE dJ dG dI de cB aS aL di df dg aB;refine hd5 ?_ bO aH ag hN bG;clear bO aH ag hN bG;intro bl dj cC l aI;refine qbr Tryz.func119 rfl ?_;simp only [Tryz.ntmps119,qdy,Nat.reduceAdd,Nat.reduceSub];gi_wp2;gi_loopw [7,21] (fun x7 i' X=> ∃i:Nat,i<=r.body.length/\i'=.int .i64 (i:Int)/\Keep (fun b=>b<N) w X/\X.ownsRow N 244 3 x7 (qdo r.body ks i).length ((qdo r.body ks i).flatMap quq)) (fun _ i _=>r.body.length-(intOf i).toNat)
 case atStart=>exact⟨0,wA,rfl,Keep.refl _ _,zj _ _ _ _⟩
 case round=>
  obtain⟨i,hi,rfl,hK,ho⟩:=hrel;have ep:=hK.size;by_cases al:i<r.body.length
  ·have bW:(i:Int)<r.body.length:=by omega
   have cT:(0:Int)<=i:=wA
   obtain⟨L,hL⟩: ∃L,r.body[i]?=some L:=⟨_,zB al⟩;have bJ:r.body.getD i default=L:=by rw [zJ,hL];rfl
   obtain⟨k,hk⟩: ∃k,ks[i]?=some k:=⟨_,zB (by rw [bm.o];exact al)⟩;have bU:ks.getD i ⟨none,⟨#[]⟩,0,0⟩=k:=by rw [zJ,hk];rfl
   have g:qdo r.body ks (i+1)=qdo r.body ks i++if L.kind=1 then [⟨L.atom.pred,(k.upto:Int),[]⟩] else []:=by
    show qdo r.body ks i++_=_;rw [bJ,bU]
   have en:=qot r.body ks i;obtain⟨b4,o4,rfl,ef,bN,sa,t,a3⟩:=bl.o i L hL;have m:b4<N:=by have:=l.o;omega
   have d0:=hK.cell (t 0 _ rfl) m;have d1:=hK.cell (t 1 _ rfl) m;have d2:=hK.cell (t 2 _ rfl) m;have d3:=hK.cell (t 3 _ rfl) m;have d4:=hK.cell (t 4 _ rfl) m;have d5:=hK.cell (t 5 _ rfl) m;have d6:=hK.cell (t 6 _ rfl) m;have dw:b4<wr.heap.size:=by have:=l.o;omega
   obtain⟨aa,ca,rfl,cP,cO,-⟩:=id a3;have a4:wr.cell? ⟨Lk,i*4+3,none⟩=some (.int .i64 (k.upto:Int)):=by
    have cV:=hK.heap bf.o (by have:=l.o;omega);have:=qb cV (i*4+3) (.int .i64 (k.upto:Int)) (by rw [toList_toArray,qwi (f:=LookD.cells) (n:=4) (fun _=>rfl) _ _ _ hk 3 wA];rfl)
    simpa using this
   have er:Lk<wr.heap.size:=by have:=l.o;omega
   obtain⟨kd,⟨pr,args⟩,⟨lv,lt⟩,⟨rv,rt⟩⟩:=L;simp only at d0 d1 d2 d3 d4 d5 d6 cP cO g;simp only [Nat.add_zero]at d0;obtain⟨a7,c7,rfl⟩:=qi ho;have av:=qf ho (Keep.alloc (fun _=>True) wr (.cells #[.int .i64 kd,.string pr,.slice aa args.length ca,.bool lv,.string lt,.bool rv,.string rt] 79)) (fun _ _=>wF);have aj:Keep (fun b=>b<N) w (wr.alloc (.cells #[.int .i64 kd,.string pr,.slice aa args.length ca,.bool lv,.string lt,.bool rv,.string rt] 79)):=hK.trans kAl;clear t hL bJ hk bU;by_cases aW:kd=1
   ·subst aW;rw [zI rfl]at g;obtain⟨B,hB⟩:=ex (wr.heap.size);obtain⟨W1,ao⟩:=ex (wr.alloc (.cells #[.int .i64 1,.string pr,.slice aa args.length ca,.bool lv,.string lt,.bool rv,.string rt] 79));rw [ao]at av aj;have nb:W1.heap[B]?=some (.cells #[.int .i64 1,.string pr,.slice aa args.length ca,.bool lv,.string lt,.bool rv,.string rt] 79 (0,0)):=by rw [←ao,←hB];exact qh _ _
    have kW:wE wr W1:=by rw [←ao];exact kAl
    have hS: ∀X,wE W1 X->X.cell? ⟨B,1,none⟩=some (.string pr)/\X.cell? ⟨Lk,i*4+3,none⟩=some (.int .i64 (k.upto:Int)):=fun X hX=>by
     have q:=qb (hX.heap nb wF) 1 _ rfl;simp only [zD]at q;exact⟨q,(kW.trans hX).cell a4 wF⟩
    have aC:=hS _ kDr;obtain⟨W2,aD⟩:=ex (W1.drew);have Y:wE W1 W2:=by rw [←aD];exact kDr
    have aw:=qf av Y (fun _ _=>wF);rw [aD]at aC;have zN:N<=W2.heap.size:=by have:=aj.size;have:=Y.size;have:=l.o;omega
    obtain⟨v',W3,b5,b0,k3,g3,bD,cW,bR,bP⟩:=qc3 (P:=prog) q72 242 aw [.string pr,.int .i64 (k.upto:Int),.slice none 0 0] rfl (by simp [Value.oneCell']) wA zN;subst cW;have bL:=hS (W2.alloc (.cells #[.string pr,.int .i64 (k.upto:Int),.slice none 0 0] 244)) (Y.trans kAl);have bM:W3.cell? ⟨B,1,none⟩=some (.string pr)/\W3.cell? ⟨Lk,i*4+3,none⟩=some (.int .i64 (k.upto:Int)):=by
     obtain⟨q1,q2⟩:=aC;refine⟨k3.cell q1 (fun e=>?_),k3.cell q2 (fun e=>?_)⟩
     ·obtain⟨cs,aE⟩:=qba aw e.symm;rw [Y.heap nb trivial]at aE;injection aE with aE
      injection aE with _ h2 _
      revert h2
      decide
     ·have h:=(zE aw _ e.symm).1;exact absurd (show N<=Lk from h) (by have:=l.o;omega)
    have bH:Keep (fun b=>b<N) w W3:=(aj.trans Y.mt).trans (k3.mono fun b _ (hb:b<N) e=>by have:=(zE aw b e.symm).1;omega);have x:W3.ownsRow N 244 3 (.slice (some ⟨g3,0,none⟩) ((qdo r.body ks i).length+1) bD) (qdo r.body ks (i+1)).length ((qdo r.body ks (i+1)).flatMap quq):=by
     rw [g,zR,yG];exact b0
    have lB:=qe nb;clear a3 bN av aw b0 k3 bR ho a4 aj;refine qby ?_ hK g ao hB aD nb kW hS aC bL bM bH x b5 Y bP;clear hK g ao hB aD nb kW hS aC bL bM bH x b5 Y bP;intro ai am bi cz bj dO dM dF bg bh aK bb y bs dk dc;gi_wp2;rw [bi.o,cz.o];refine qag ?_;refine qw rfl (fun X=>X.cell? ⟨B,1,none⟩=some (.string pr)/\X.cell? ⟨Lk,i*4+3,none⟩=some (.int .i64 (k.upto:Int))) [] ?_;rw [bj.o];refine qq [0,1,2,3,4,5,6,7,8,9] ?_
    iterate 10
     refine tkB rfl bg.o ?_
     try simp only [qr]
    refine ql ?_;refine hoR 10 rfl fun K aJ=>?_;gi_wp2;refine aJ.o _ _ (fun _=>bh.o) ?_;refine hoR 11 rfl fun K ad=>?_;refine qcd rfl (.tmp 29) (.tmp 39) 242 rfl rfl rfl bs.o ?_;gi_wp2;refine ad.o _ _ (fun _=>aK.o) ?_;refine qq [12] ?_
    iterate 1
     refine tkB rfl aK.o ?_
     try simp only [qr]
    refine ql ?_;refine qz wB (qah ?_);clear aJ ad;gi_wp2;go_roundw
    case rel=>exact⟨i+1,wA,by go_num,bb.o,y.o⟩
    case measure=>simp [intOf];omega
   ·rw [zF aW,yP]at g;have el: ¬kd=1:=aW;clear a3 bN ho a4;refine hd4 ?_ hK g av aj;clear hK g av aj;intro ai am bo ad;gi_wp2;go_roundw
    case rel=>exact⟨i+1,wA,by go_num,ad.o,by rw [am.o];exact bo.o⟩
    case measure=>simp [intOf];omega
  ·obtain rfl:i=r.body.length:=by omega
   have bK:=qz8 ho (by have:=qot r.body ks r.body.length;omega) (qur _ _ _);have aq:=q6k wr.heap.size r _ _ (qdt r.body ks) u7 first wr ((aB.o.keep (hK.mono fun b _ h=>by have:=l.o;omega)).wider wA) bK (zG _)
   rw [aS.o]at aq;obtain⟨a7,c7,rfl⟩:=qi ho;obtain⟨q0,q1,q2,q3⟩:=aI.o wr hK;unfold qaq q7d at aq;clear bK ho al;simp only at aq;refine hd2 ?_ aq hK;clear aq hK;intro bn ai;gi_wp2;refine⟨wF,rfl,(zU.2 bn.o).mono ?_⟩;rintro e Wp ⟨c5,c4,eu,rfl,af,kp⟩;obtain⟨qs,aG,ay,b2⟩:=af.2;have eo:=kp.size;simp only at aG ay;obtain⟨bx,cL,rfl⟩:=qi ay;have b3:qs.length=d.length:=by rw [←aG,zL]
   have aP:=aL.o;have dx:d.length<=1073741824:=wA
   obtain⟨ar,cr,rfl⟩: ∃a c,c5=.slice a r.head.args.length c:=qi af.1.1;have b6: ∃a c,c4=.slice a r.body.length c:=by
    obtain⟨ps,h1,h2,-⟩:=af.1.2;exact qi h2
   obtain⟨cF,cK,rfl⟩:=b6;clear af;have a5:Keep (fun b=>b<N) w Wp:=ai.o.trans (kp.mono fun b _ (h:b<N)=>by have:=l.o;have:=ai.o.size;omega);clear q0 q1 q2 q3;clear aP;obtain⟨W5,aU⟩:=ex (Wp.alloc (.cells #[.string r.head.pred,.slice ar r.head.args.length cr,.slice cF r.body.length cK,.slice bx d.length cL] 247));have k5:wE Wp W5:=by rw [←aU];exact kAl
   have b7:Keep (fun b=>b<N) w W5:=a5.trans k5.mt;have aO:=qf ay k5 (fun _ _=>wF);refine qdx ?_ aG ay b3 kp a5 aU k5 b7 aO b2;clear aG ay b3 kp a5 aU k5 b7 aO b2;intro br dh bq dN dl bk dK an z bp;gi_wp2;rw [bk.o];gi_loopw [12,55] (fun c8 i' X=> ∃i:Nat,i<=d.length/\i'=.int .i64 (i:Int)/\Keep (fun b=>b<W5.heap.size) W5 X/\X.ownsRow W5.heap.size 3 1 c8 i (qpd (d.take i))) (fun _ i _=>d.length-(intOf i).toNat)
   case atStart=>exact⟨0,wA,rfl,Keep.refl _ _,zj _ _ _ _⟩
   case round=>
    obtain⟨i,hi,rfl,hK,ho⟩:=hrel;have dy:=hK.size;by_cases al:i<d.length
    ·have bW:(i:Int)<d.length:=by omega
     have cT:(0:Int)<=i:=wA
     obtain⟨q,hq⟩: ∃q,qs[i]?=some q:=⟨_,zB (by rw [bq.o];exact al)⟩;have aQ:d[i]?=some q.1:=by rw [←br.o,zP,hq];rfl
     obtain⟨gs,cS⟩: ∃gs,bx=some ⟨gs,0,none⟩:=by
      rcases z.o.2 with e |⟨gb',cap,cur,e1',_⟩
      ·have:=e.2;omega
      ·injection e1' with e1' _ _;exact⟨_,e1'⟩
     subst cS;have aF:=qf z.o hK (fun b hb=>(zE z.o b hb).2);have m0:=qbd aF (i*3) _ ((qbf qoi 3 (fun _=>rfl) qs i 0 q hq wD).trans rfl);have m1:=qbd aF (i*3+1) _ ((qbf qoi 3 (fun _=>rfl) qs i 1 q hq wD).trans rfl);have m2:=qbd aF (i*3+2) _ ((qbf qoi 3 (fun _=>rfl) qs i 2 q hq wD).trans rfl);have c3:=zQ _ _ m0;simp only at c3;have g:qpd (d.take (i+1))=qpd (d.take i)++ [.int .i64 q.1.lit]:=by unfold qpd;rw [zh,aQ];simp
     have ax:=bp.o q (zH hq);obtain⟨⟨b8,bd,nw⟩,bv,nv⟩:=q;obtain⟨cD,cI,rfl⟩: ∃a c,bv=.slice a bd.length c:=qi ax.1;obtain⟨cE,cJ,rfl⟩: ∃a c,nv=.slice a nw.length c:=qi ax.2;clear ax;simp only [qoi]at m0 m1 m2 g;obtain⟨bw,bz,rfl⟩:=qi ho;obtain⟨W6,ap⟩:=ex (wr.alloc (.cells #[.int .i64 b8,.slice cD bd.length cI,.slice cE nw.length cJ] 251));have k6:wE wr W6:=by rw [←ap];exact kAl
     have z6:W6.heap.size=wr.heap.size+1:=by rw [←ap];simp
     have aX:=qf ho k6 (fun _ _=>wF);obtain⟨v',W7,a1,b1,k7,g7,aM,cX,bS,bQ⟩:=qc3 (P:=prog) qlr 125 aX [.int .i64 b8] rfl (by simp [Value.oneCell']) wA wA;subst cX;rw [z6,←ap]at a1;have bI:Keep (fun b=>b<W5.heap.size) W5 W7:=(hK.trans k6.mt).trans (k7.mono fun b _ (hb:b<W5.heap.size) e=>by have:=(zE aX b e.symm).1;omega);have x:W7.ownsRow W5.heap.size 3 1 (.slice (some ⟨g7,0,none⟩) (i+1) aM) (i+1) (qpd (d.take (i+1))):=by rw [g];exact b1
     clear aF hq aQ aX b1 k7 bS ho;refine hd9 ?_ hK g ap k6 z6 a1 bI x bQ;clear hK g ap k6 z6 a1 bI x bQ;intro ai am db dL dP bt bc y dd
     gi_wp2_with (gi_at_builtin;refine qcd (v:=.slice bw i bz) (u:=.slice (some ⟨wr.heap.size+1,0,none⟩) 1 1) (v':=.slice (some ⟨g7,0,none⟩) (i+1) aM) (w':=W7) rfl (.tmp 59) (.tmp 62) 125 rfl rfl rfl bt.o ?_)
     go_roundw
     case rel=>exact⟨i+1,wA,by go_num,bc.o,y.o⟩
     case measure=>simp [intOf];omega
    ·obtain rfl:i=d.length:=by omega
     rw [zi]at ho;obtain⟨bw,bz,rfl⟩:=qi ho;have a6:Keep (fun b=>b<N) w wr:=an.o.trans (hK.mono fun b _ (h:b<N)=>by have:=l.o;have:=an.o.size;omega);obtain⟨q0,q1,q2,q3⟩:=aI.o wr a6;have cR:N<=W5.heap.size:=by have:=l.o;have:=an.o.size;omega
     have aN:=ho.mono cR;have aP:(d.length:Int)=r.body.length:=by rw [aL.o]
     clear ho al hi;refine hd3 ?_ hK a6 aN;clear hK a6 aN;intro ai bu aR;gi_wp2;go_ret;exact⟨_,rfl,by rw [l.o];exact aR.o,bu.o.mono fun b _ (h:b<w.heap.size)=>by have:=l.o;omega⟩
end Go.Proofs
namespace Go.Proofs
open Go.RowKit Go.Ink Go.Flt R4 P16
def qfr (Ss:List Nat)(g:Gh):Prop:= ∀S,S∈Ss-> ∃f,g.st S=some f/\ ∀x,x∈f->okF x=true
def qb7 (n0:Nat)(Ss:List Nat):qgk Gh where
 inv g X:=GInv g X/\qfr Ss g
 free:=Gh.free
 istep g X g' Y:=GStep n0 g X g' Y/\g'.st=g.st
 bstep:=GBd
 ifree h:=h.1.keep
 inew h:=h.1.new
 bnew h:=h.new
 bmono hn h:=h.mono hn
 invk h hK:=⟨h.1.keep hK,h.2⟩
def qd1 (g:Gh)(s:Option Nat):List qj:=match s with
 |none=> []
 |some S=>(g.st S).getD []
def qe9 (g:Gh)(sF:Nat->Option Nat)(sN:Option Nat)(body:List LitD):qa7:=qcx body (fun i=>qd1 g (sF (qc7 body i))) (qd1 g sN)
def qdp (g:Gh)(sF:Nat->Option Nat)(sN:Option Nat)(body:List LitD):List LookD:=qfz g sF sN body
def qgm (g:Gh)(sF:Nat->Option Nat)(sN:Option Nat)(r:RuleD)(first:Int):List Nat:=qg1 r (qdt r.body (qdp g sF sN r.body)) first
def qhe (g:Gh)(sF:Nat->Option Nat)(sN:Option Nat)(r:RuleD)(first:Int):List Asg:=qbe (qe9 g sF sN r.body) r.body (qgm g sF sN r first) qb1
def qi5 (g:Gh)(s sN:Option Nat)(body:List LitD):qa7:=qcx body (fun _=>qd1 g s) (qd1 g sN)
def qix (g:Gh)(s sN:Option Nat)(r:RuleD)(first:Int):List Asg:=qhe g (fun _=>s) sN r first
structure qc1 (r:RuleD):Prop where
 formed:qat r=true
 safe:qed r=true
 bound:q87 r
 small: ∀L t,L∈r.body->t∈qm L->t.text.size<=1073741824
 preds: ∀L,L∈r.body->L.atom.pred.size<=1073741824
 head:r.head.pred≠⟨#[]⟩
theorem qko (g:Gh)(s:Option Nat)(p:ByteArray)(n:Nat):qft g s p n=(qv (qd1 g s) p n).length:=by
 unfold qft qd1;cases s with
 |none=>rfl
 |some S=>
  simp only;cases g.st S with
  |none=>rfl
  |some f=>rfl
theorem qsh {g:Gh}{sF:Nat->Option Nat}{sN:Option Nat}{body:List LitD}{i:Nat}{k:LookD}(h:(qdp g sF sN body)[i]?=some k):k=qfi g sF sN body i/\i<body.length:=by
 unfold qdp qfz at h;rw [zP]at h;obtain⟨j,c,rfl⟩:=xO.1 h;obtain⟨d,b⟩:=zA.1 c;rw [getElem_range]at b;subst b;exact⟨rfl,by simpa using d⟩
theorem qw2 (body:List LitD)(ks:List LookD)(b: ∀k,k∈ks->k.upto<=67108864)(i:Nat):(qdo body ks i).any qif=false:=by
 induction i with
 |zero=>rfl
 |succ i ih=>
  unfold qdo;rw [any_append,ih,xH];split
  ·have c:(ks.getD i ⟨none,⟨#[]⟩,0,0⟩).upto<=67108864:=by
    rw [zJ];cases h:ks[i]? with
    |none=>simp
    |some k=>exact b k (zH h)
   simp only [any_cons,any_nil,Bool.or_false];unfold qif qhz;simp only [any_nil,Bool.or_false];rw [zM wA,zM wA]
   rfl
  ·rfl
theorem q73 {g:Gh}{W:World}(c:GInv g W)(s:Option Nat):(qd1 g s).length<=67108864:=by
 unfold qd1;cases s with
 |none=>simp
 |some S=>
  simp only;cases h:g.st S with
  |none=>simp
  |some f=>
   obtain⟨T,M,MX,vx,xs,d,b⟩:=c.store S f h;exact b.few
theorem qsi {g:Gh}{W:World}(c:GInv g W)(s:Option Nat):(qd1 g s).Nodup:=by
 unfold qd1;cases s with
 |none=>exact nodup_nil
 |some S=>
  simp only;cases h:g.st S with
  |none=>exact nodup_nil
  |some f=>
   obtain⟨T,M,MX,vx,xs,d,b⟩:=c.store S f h;exact b.nodup
theorem q56 {g:Gh}{W:World}(b:GInv g W)(s:Option Nat)(p:ByteArray)(n:Nat):qft g s p n<=67108864:=by
 rw [qko];exact zW (ql4 _ _ _) (q73 b s)
theorem qiy {g:Gh}{W:World}(d:GInv g W)(sF:Nat->Option Nat)(sN:Option Nat){r:RuleD}(b:qc1 r)(first:Int)(c:qbk r first=false):qd9 r (qdt r.body (qdp g sF sN r.body)) (qbk r first)=0:=by
 have h:qb0 (qdt r.body (qdp g sF sN r.body))=true:=by
  unfold qb0 qdt;rw [qw2]
  ·rfl
  ·intro k e;obtain⟨i,hi⟩:=zy.1 e;obtain⟨rfl,-⟩:=qsh hi;exact q56 d _ _ _
 unfold qd9;rw [b.formed,h,c,b.safe]
 rfl
theorem qqn {r:RuleD}:qbk r (-1)=false:=by
 unfold qbk;rw [zM wA,zM wA,zM wA]
 rfl
theorem q57 {g:Gh}{W:World}(x:GInv g W){sF:Nat->Option Nat}{sN:Option Nat}{r:RuleD}(z:qc1 r){first:Int}(v:qbk r first=false)(h:okJ g sF sN r.body r.body.length=false):qhe g sF sN r first= []:=by
 obtain⟨u,Y,U⟩:=qjn (qiy x sF sN z first v);unfold okJ at h;rw [all_eq_false]at h;obtain⟨j,p,m⟩:=h;rw [yi]at p;refine eq_nil_iff_forall_not_mem.2 fun b e=>?_;have y:=(qlm (qgm g sF sN r first) qb1 b (by rw [qf8];exact U)).1 e;have c:=y.2.2 j ((u j).2 p);simp only [y8,xJ,yQ,zT,not_or,Classical.not_not]at m;obtain⟨d,l⟩:=m;unfold qgf at c;rw [zF (by rw [d];decide),zF (by rw [d];decide)]at c;have q:qfi g sF sN r.body j=⟨sF (qc7 r.body j),(r.body.getD j default).atom.pred,(r.body.getD j default).atom.args.length,qft g (sF (qc7 r.body j)) (r.body.getD j default).atom.pred (r.body.getD j default).atom.args.length⟩:=by unfold qfi qlt;rw [zI d]
 rw [q]at l;simp only [qko]at l;have s:(qe9 g sF sN r.body).pos j= []:=by
  unfold qe9 qcx;simp only;exact length_eq_zero_iff.1 wA
 rw [s]at c;obtain⟨t,R,-⟩:=c;cases R
theorem qye {r:RuleD}{L:LitD}{t:TermD}(g:qc1 r)(d:L∈r.body)(c:t∈qm L):qeq (qu r) t:=fun l=>by
 unfold qu;rw [qeh];refine ql1 (L:=L) (yD _ d) ?_ l;have e:=qj4 g.formed;obtain⟨i,hi⟩:=zy.1 d;have b:=e i (zA.1 hi).1;unfold qbg at b;rw [zJ,hi]at b;simp only [Option.getD_some]at b;unfold qm at c;unfold LitD.terms;rcases b with h |h |h
 ·rw [zF wA]at c;rw [zI (.inl h)];exact c
 ·rw [zF wA]at c;rw [zI (.inr h)];exact c
 ·rw [zI h]at c;rw [zF wA,zI h];exact c
theorem q74 {r:RuleD}{t:TermD}(b:t∈r.head.args):qeq (qu r) t:=fun c=>by
 unfold qu;rw [qeh];refine ql1 (L:=r.headLit) (yJ ..) ?_ c;unfold LitD.terms RuleD.headLit;rw [zI (.inl rfl)];exact b
theorem q58 {g:Gh}{W:World}(h:GInv g W){sF:Nat->Option Nat}{sN:Option Nat}{r:RuleD}(c:qc1 r){first:Int}(e:qbk r first=false){x:ByteArray}(b:x∈qu r):x∈q8 r.body (qgm g sF sN r first):=by
 obtain⟨d,l,m⟩:=qjn (qiy h sF sN c first e);unfold qu at b;rw [qeh]at b;exact(qk7 d l x).2 (c.bound x b)
theorem q75 {g:Gh}{Ss:List Nat}(R:qfr Ss g){c:WkC}{sF:Nat->Option Nat}{sN:Option Nat}(x: ∀m S,sF m=some S->S∈Ss)(v: ∀S,sN=some S->S∈Ss)(hc:c.looks=qdp g sF sN c.r.body)(h:okJ g sF sN c.r.body c.r.body.length=true):LookOk c (qe9 g sF sN c.r.body) g:=by
 intro i L k Y z;rw [hc]at z;obtain⟨rfl,hi⟩:=qsh z;have b:c.r.body.getD i default=L:=by rw [zJ,Y];rfl
 have l:(qfi g sF sN c.r.body i).pred=L.atom.pred:=by unfold qfi;rw [b]
 have u:(qfi g sF sN c.r.body i).arity=L.atom.args.length:=by unfold qfi;rw [b]
 refine⟨l,u,fun y=>?_,fun U=>?_⟩
 ·unfold okJ at h;rw [yM]at h;have q:=h i (yi.2 hi);rw [b,zS y,Bool.not_true,xH,zT]at q;obtain⟨s,p⟩:=ex (sF (qc7 c.r.body i));have e:qfi g sF sN c.r.body i=⟨s,L.atom.pred,L.atom.args.length,qft g s L.atom.pred L.atom.args.length⟩:=by unfold qfi qlt;rw [b,zI y,p]
  rw [e]at q⊢;simp only at q⊢;cases s with
  |none=>cases q
  |some S=>
   obtain⟨f,t,-⟩:=R S (x _ S p);have d:qd1 g (some S)=f:=by unfold qd1;simp only;rw [t];rfl
   rw [qko,d]at q⊢;refine⟨S,f,rfl,t,q,zG _,?_⟩;rw [zi];unfold qe9 qcx;simp only;rw [b,p,d]
 ·have e:qfi g sF sN c.r.body i=⟨sN,L.atom.pred,L.atom.args.length,qft g sN L.atom.pred L.atom.args.length⟩:=by unfold qfi qlt;rw [b,zF wA,zI U]
  rw [e];simp only;cases sN with
  |none=>
   left;refine⟨rfl,?_⟩
   unfold qe9 qcx qd1 qv
   rfl
  |some S=>
   obtain⟨f,t,-⟩:=R S (v S rfl);have d:qd1 g (some S)=f:=by unfold qd1;simp only;rw [t];rfl
   rw [qko,d];refine .inr ⟨S,f,rfl,t,zG _,?_⟩;rw [zi];unfold qe9 qcx;simp only;rw [b,d]
theorem qus {x:qj}(h:okF x=true){s:ByteArray}(b:s∈x.tuple):s.size<=1073741824:=by
 unfold okF at h;rw [zV,xJ]at h;have:=xZ.1 h.2 s b;simp only [zT]at this;omega
theorem q2w {g:Gh}{Ss:List Nat}(e:qfr Ss g){s:Option Nat}(c: ∀S,s=some S->S∈Ss): ∀x,x∈qd1 g s->okF x=true:=by
 intro x b;unfold qd1 at b;cases s with
 |none=>cases b
 |some S=>
  obtain⟨f,d,ho⟩:=e S (c S rfl);simp only at b;rw [d]at b;exact ho x b
theorem qz9 {g:Gh}{Ss:List Nat}(d:qfr Ss g){sF:Nat->Option Nat}(b: ∀m S,sF m=some S->S∈Ss)(sN:Option Nat)(body:List LitD): ∀i t y,t∈(qe9 g sF sN body).pos i->y∈t->y.size<=1073741824:=by
 intro i t y c e;unfold qe9 qcx at c;simp only at c;exact qus (q2w d (b _) _ (qcr.1 c).1) e
def EachV (U:Nat->Prop)(nU n0:Nat)(W0 X:World):Prop:=(∀b,U b->X.heap[b]?=W0.heap[b]?)/\nU<=X.heap.size/\n0<=X.heap.size
theorem EachV.keep {U:Nat->Prop}{d n0:Nat}{W0 X Y:World}{C:Nat->Prop}(h:EachV U d n0 W0 X)(g: ∀b,U b->b<d)(hK:Keep C X Y)(e: ∀b,U b->C b):EachV U d n0 W0 Y:=
 ⟨fun b c=>(hK.block b (by have:=g b c;have:=h.2.1;omega) (e b c)).trans (h.1 b c),zW h.2.1 hK.size,zW h.2.2 hK.size⟩
theorem q59 {g:Gh}{W X:World}(d:GInv g W){b:Nat}(h:W.heap.size<=b){o:Obj}(c:X.heap[b]?=some o):(g.hold W.heap.size X).held b=some o:=by
 have m:g.tag b=none:=by
  cases e:g.tag b with
  |none=>rfl
  |some T=>have:=d.lt b T e;omega
 have l:g.held b=none:=by
  cases e:g.held b with
  |none=>rfl
  |some T=>have:=qe (d.hold b T e);omega
 simp only [Gh.hold];rw [zI ⟨h,qe c,m,l⟩];exact c
theorem qut {C:Nat->Prop}{W X:World}(h:Keep C W X)(c: ∀b,b<W.heap.size->C b):wE W X:=h.mono fun b d _=>c b d
theorem q76 {vars:List ByteArray}:qck vars (List.replicate vars.length ⟨#[]⟩) (List.replicate vars.length false) qb1:=by
 refine⟨wC,wC,fun p x c=>?_,fun p x v _ h=>(by cases h),fun x v h=>(by cases h)⟩;have b:=(zA.1 c).1;rw [xU,zI b];constructor
 ·intro h;cases h
 ·rintro⟨v,h⟩;cases h
theorem q0a {n0:Nat}{Ss:List Nat}{U:Nat->Prop}{nU:Nat}{W0:World}{J:Nat}{r:RuleD}{pos:List Int}{aJ vb vv va vt vh:Value}(hr:qc1 r)(hj:JoinAt U nU W0 J r (qu r) pos aJ vb vv va vt vh)(ab: ∀b,U b->b<nU)
  {sF:Nat->Option Nat} {sN:Option Nat} (aC: ∀m S,sF m=some S->S∈Ss) (aV: ∀S,sN=some S->S∈Ss) {first:Int} (hf:qbk r first=false)
  {l:Nat} {Jp Jx:Nat->Gh->World->Prop} {W:World} {s:Gh} (hinv:GInv s W) (ax:qfr Ss s) (hV:EachV U nU n0 W0 W) (hU: ∀b,U b->s.free b)
  (hJ: ∀k γ X γ' Y,Jp k γ X->(qb7 n0 Ss).istep γ X γ' Y->Jp k γ' Y) (aQ: ∀k γ X γ' Y,Jx k γ X->(qb7 n0 Ss).istep γ X γ' Y->Jx k γ' Y)
  (ag: ∀k γ X0 X args,k<(qhe s sF sN r first).length->Jp k γ X0->(qb7 n0 Ss).istep γ X0 γ X->(qb7 n0 Ss).inv γ X->EachV U nU n0 W0 X->W.heap.size<=X0.heap.size->(∃b,(qhe s sF sN r first)[k]?=some b/\qml r (qu r) b γ X0.heap.size X args)->YieldAt Fence.wide 0 prog l args X (qh5 (qb7 n0 Ss) (EachV U nU n0 W0) Jp Jx k γ X))
  (h0:Jp 0 s W) (aU:okJ s sF sN r.body r.body.length=true)
  {X:World} (hK:wE W X) {Bj By Bl Lk Bs V KK Bv Bk Bt Bu Bp:Nat} {ao:Option Addr} {co:Nat}
  (l1:W.heap.size<=Bj) (l2:W.heap.size<=By) (l3:W.heap.size<=Bl) (l4:W.heap.size<=Lk) (l5:W.heap.size<=Bs) (l6:W.heap.size<=V) (l7:W.heap.size<=KK) (l8:W.heap.size<=Bv) (l9:W.heap.size<=Bk) (aZ:W.heap.size<=Bt) (a0:W.heap.size<=Bu) (a1:W.heap.size<=Bp)
  (al:X.ownsRow W.heap.size 3 1 (.slice ao (qgm s sF sN r first).length co) (qgm s sF sN r first).length ((qgm s sF sN r first).map fun i:Nat=>.int .i64 (i:Int)))
  (p1:X.heap[Bj]?=some (.cells #[qk J] 35 (0,0))) (p2:X.heap[By]?=some (.cells #[.func (.yield l) #[] #[]] 137 (0,0))) (p3:X.heap[Bl]?=some (.cells #[.slice (some ⟨Lk,0,none⟩) r.body.length r.body.length] 184 (0,0)))
  (p4:X.heap[Lk]?=some (.cells ((qdp s sF sN r.body).flatMap LookD.cells).toArray 192 (0,0))) (p5:X.heap[Bs]?=some (.cells #[.slice ao (qgm s sF sN r first).length co] 125 (0,0)))
  (p6:X.heap[V]?=some (.cells (Array.replicate (qu r).length (.string ⟨#[]⟩)) 9 (0,0))) (p7:X.heap[KK]?=some (.cells (madeCells #[.bool false] (qu r).length) 4 (0,0)))
  (p8:X.heap[Bv]?=some (.cells #[.slice (some ⟨V,0,none⟩) (qu r).length (qu r).length] 60 (0,0))) (p9:X.heap[Bk]?=some (.cells #[.slice (some ⟨KK,0,none⟩) (qu r).length (qu r).length] 29 (0,0)))
  (aG:X.heap[Bt]?=some (.cells #[.func (.func 120) #[] #[qk Bv]] 188 (0,0))) (aH:X.heap[Bu]?=some (.cells #[.func (.func 121) #[] #[qk Bt]] 189 (0,0)))
  (aI:X.heap[Bp]?=some (.cells #[.func (.func 122) #[] #[qk Bs,qk By,qk Bu,qk Bj,qk Bv,qk Bl,qk Bt,qk Bp,qk Bk]] 190 (0,0))):
  Calls prog 122 #[.int .i64 0,qk Bs,qk By,qk Bu,qk Bj,qk Bv,qk Bl,qk Bt,qk Bp,qk Bk] X fun e W'=>(∃b,e=.returned (.bool b))/\W.heap.size<=W'.heap.size/\ ∃γ',(qb7 n0 Ss).inv γ' W'/\EachV U nU n0 W0 W'/\(Jp (qhe s sF sN r first).length γ' W'∨ ∃k,k<(qhe s sF sN r first).length/\Jx k γ' W'):=by
 obtain⟨aT,ad,aF⟩:=qjn (qiy hinv sF sN hr first hf);have bq:GInv s X:=hinv.keep hK.mt;have af:n0<=W.heap.size:=hV.2.2;have aw: ∀{a b:Nat} {o o':Obj},X.heap[a]?=some o->X.heap[b]?=some o'->o≠o'->a≠b:=fun ha v ho e=>by subst e;rw [ha] at v;exact ho (yI v)
 have av:(madeCells #[.bool false] (qu r).length)=((List.replicate (qu r).length false).map Value.bool).toArray:=qyj _;have ae:(Array.replicate (qu r).length (Value.string ⟨#[]⟩))=((List.replicate (qu r).length (⟨#[]⟩:ByteArray)).map Value.string).toArray:=by
  apply Array.ext
  ·simp
  ·intro i y z;simp
 have aX:V≠KK:=aw p6 p7 (by intro h;injection h with _ h _;revert h;decide);have nv: ∀{b:Nat} {vs:Array Value} {t:TypeId},X.heap[b]?=some (.cells vs t (0,0))->t≠9->t≠4->b≠V/\b≠KK:=fun v y z=>⟨aw v p6 (by intro h;injection h with _ h _;exact y h),aw v p7 (by intro h;injection h with _ h _;exact z h)⟩;obtain⟨gs,aq⟩:=ex (s.hold W.heap.size X);have u:GStep n0 s W gs X:=by rw [←aq];exact(GStep.own hinv hK).hold af
 have aa:gs.st=s.st:=by rw [←aq];rfl
 have g: ∀{b:Nat} {o:Obj},W.heap.size<=b->X.heap[b]?=some o->gs.held b=some o:=fun y z=>by rw [←aq];exact q59 hinv y z
 obtain⟨d,p⟩:=ex (qgm s sF sN r first);have aE: ∀i,i∈d->i<r.body.length:=fun i hi=>(aT i).1 (by rw [←p] at hi;exact hi);have ah:d.length<=1073741824:=by
  have y:=(qoh (sizes:=qdt r.body (qdp s sF sN r.body)) (first:=first) ?_ hr.safe hf r.body.length (zG _)).stp
  ·have z:d.length=r.body.length:=by rw [←p];unfold qgm qg1;rw [zL,y]
   obtain⟨_,_,_,aB,_⟩:=hj.body;omega
  ·have:=qiy hinv sF sN hr first hf
   unfold qd9 at this;cases hu:qb0 (qdt r.body (qdp s sF sN r.body)) with
   |true=>rfl
   |false=>rw [hu,hr.formed] at this;exact absurd this wC
 rw [p]at al p5
 let c:WkC:=⟨r,qu r,qdp s sF sN r.body,d,J,l,Bj,By,Bl,Lk,Bs,Bv,V,Bk,KK,Bt,Bu,Bp,.slice ao d.length co,pos,aJ,vb,vv,va,vt,vh⟩
 have au:(qdp s sF sN r.body).length=r.body.length:=qky _ _ _ _;have ar:WkHeld c gs (List.replicate (qu r).length ⟨#[]⟩) (List.replicate (qu r).length false):=by
  refine⟨⟨g l1 p1,nv p1 wD wD⟩,⟨g l2 p2,nv p2 wD wD⟩,⟨?_,nv p3 wD wD⟩,⟨g l4 p4,nv p4 wD wD⟩,⟨g l5 p5,nv p5 wD wD⟩,?_,⟨?_,nv p8 wD wD⟩,⟨?_,nv p9 wD wD⟩,⟨g aZ aG,nv aG wD wD⟩,⟨g a0 aH,nv aH wD wD⟩,⟨g a1 aI,nv aI wD wD⟩,?_,?_,aX⟩
  ·show gs.held Bl=some (.cells #[.slice (some ⟨Lk,0,none⟩) (qdp s sF sN r.body).length (qdp s sF sN r.body).length] 184 (0,0));rw [au];exact g l3 p3
  ·rcases al.2 with e |⟨gb,cap,cur,R,e2,e3,e4,e5,e6,e7⟩
   ·obtain⟨R,e2⟩:=e;injection R with R e3 e4
    subst R;refine⟨none,co,rfl,⟨by show d.length<=co;omega,by rw [e4];simp [maxLen]⟩,fun k i hi=>?_⟩;have:=(zA.1 hi).1;have z:d.length=0:=e2;exact absurd this (by show ¬k<d.length;omega)
   ·injection R with R _ e4'
    subst R;subst e4';refine⟨_,_,rfl,⟨e4,e5⟩,fun k i hi=>⟨gb,rfl,nv e3 wD wD,cur,g e2 e3,?_⟩⟩;have hk:(cur.toList.take (d.length*1))[k]?=some (.int .i64 (i:Int)):=by rw [e7,zP,show d[k]?=some i from hi];rfl
    rw [xP (by have:=(zA.1 hi).1;have z:k<d.length:=this;omega),xg]at hk;exact hk
  ·rw [length_replicate];exact g l8 p8
  ·rw [length_replicate];exact g l9 p9
  ·rw [←ae];exact g l6 p6
  ·rw [←av];exact g l7 p7
 have hE:qd4 n0 W.heap.size W0 c (qe9 s sF sN r.body) U nU (EachV U nU n0 W0) (qhe s sF sN r first) (fun k γ X=>Jp k γ X/\qfr Ss γ) (fun k γ X=>Jx k γ X/\qfr Ss γ):=by
  obtain⟨_,_,_,aY,_⟩:=hj.vrow;refine⟨fun k γ X γ' Y h hs=>⟨hJ k γ X γ' Y h.1 hs,by intro S hS;rw [hs.2];exact h.2 S hS⟩,fun k γ X γ' Y h hs=>⟨aQ k γ X γ' Y h.1 hs,by intro S hS;rw [hs.2];exact h.2 S hS⟩,fun k γ X0 X args b v hJ0 his hi hVX hn hT=>?_,hj,fun X hX=>⟨hX.1,hX.2.1⟩,fun X Y C hX aR hC=>hX.keep ab aR hC,ab,af,zW af l6,zW af l7,aY,?_,ad,fun L t hL ht=>qye hr hL ht,fun t ht=>q74 ht,hr.small,hr.preds,au,?_,aE,ah,qz9 ax aC sN r.body⟩
  ·have:=ag k γ X0 X args (zA.1 v).1 hJ0.1 his ⟨hi,hJ0.2⟩ hVX hn ⟨b,v,hT⟩;refine this.mono ?_;rintro e Y ⟨γ',y,z,h3,h4,h5⟩;refine⟨γ',y.1,z,h3,h4,?_⟩;rcases h5 with ⟨R,h5⟩ |⟨R,h5⟩
   ·exact .inl ⟨R,h5,y.2⟩
   ·exact .inr ⟨R,h5,y.2⟩
  ·show(qu r).Nodup;unfold qu;exact qk4 _
  ·show(qdp s sF sN r.body).length<=_;rw [au];obtain⟨_,_,_,aB,_⟩:=hj.body;exact aB
 have aD:qfr Ss gs:=by intro S hS;rw [aa];exact ax S hS
 have hA:StepAt W.heap.size c (qe9 s sF sN r.body) U (EachV U nU n0 W0) (qhe s sF sN r first) (fun k γ X=>Jp k γ X/\qfr Ss γ) 0 0 gs X qb1 (List.replicate (qu r).length ⟨#[]⟩) (List.replicate (qu r).length false):=by
  refine⟨u.inv,hV.keep ab hK (fun _ _=>wF),fun b v=>u.new b (by have:=ab b v;have:=hV.2.1;omega) (hU b v),ar,?_,q76,?_,fun x hx=>.inr ?_,fun q b v=>?_,⟨hJ _ _ _ _ _ h0 ⟨u,aa⟩,aD⟩,hK.size⟩
  ·exact(q75 ax aC aV (c:=c) rfl aU).more (fun S f hS=>⟨[],by rw [aa,yP];exact hS⟩)
  ·rw [qf8,drop_zero];show qg5 r.body d _;rw [←p];exact aF
  ·rw [drop_zero];show x∈q8 r.body d;rw [←p];exact q58 hinv hr hf hx
  ·rw [zD];rw [drop_zero]at v;have:(qbe (qe9 s sF sN r.body) r.body d qb1)[q]?=some b:=v;rw [←p]at this;exact this
 have ap:=q4r hE d.length 0 (by show 0+d.length=d.length;omega) 0 gs X qb1 _ _ hA;refine ap.mono ?_;rintro e W' ⟨bj,rfl,g',a5,y,z,h3,h4,h5,h6,h7,h8,h9⟩;refine⟨⟨_,rfl⟩,zW hK.size h4,?_⟩;rcases h9 with ⟨-,h9,h10⟩ |⟨-,k,hk,h9,h10⟩
 ·refine⟨g',⟨y,h10⟩,z,.inl ?_⟩;have e:(qbe (qe9 s sF sN r.body) c.r.body (c.steps.drop 0) qb1).length=(qhe s sF sN r first).length:=by
   rw [drop_zero];show(qbe (qe9 s sF sN r.body) r.body d qb1).length=_;rw [←p]
   rfl
  rw [e,zD]at h9;exact h9
 ·exact⟨g',⟨y,h10⟩,z,.inr ⟨k,hk,h9⟩⟩
end Go.Proofs

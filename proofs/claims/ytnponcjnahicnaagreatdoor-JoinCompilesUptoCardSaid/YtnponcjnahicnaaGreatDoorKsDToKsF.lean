/- Parts of the proof. -/
import Derived.Test.YtnponcjnahicnaaGreatDoorBkBToKsC
import Derived.Sort.CutIn
set_option linter.unusedSimpArgs false
set_option linter.unusedVariables false
set_option maxRecDepth 100000
set_option maxHeartbeats 4000000
open Go.Proofs.Tryz(prog)
open List(getElem?_take replicate_succ')
namespace Go.Proofs
open Go.RowKit Go.Ink P16
attribute [local go_sem] Oper.semAt_some
theorem LentT.keep2 {base:Nat}{w w':World}{v:Value}{ts:List TermD}{C:Nat->Prop}(h:LentT base w v ts)(hK:Keep C w w')(c: ∀b,v.ownBlock=some b->C b):LentT base w' v ts:=by
 obtain⟨g,cap,rfl,h⟩:=h;exact⟨g,cap,rfl,qf h hK (fun b d=>c b d)⟩
theorem LentT.typed {base:Nat}{w:World}{v:Value}{ts:List TermD}(h:LentT base w v ts){b:Nat}(c:v.ownBlock=some b):base<=b/\b<w.heap.size/\ ∃cs,w.heap[b]?=some (.cells cs 77 (0,0)):=by
 obtain⟨g,cap,rfl,h⟩:=h;exact⟨(zE h b c).1,(zE h b c).2,qao h c⟩
theorem qcw {w:World}{b c:Nat}{x y:Array Value}{t u:TypeId}(f:w.heap[b]?=some (.cells x t (0,0)))(d:w.heap[c]?=some (.cells y u (0,0)))(h:t≠u):b≠c:=fun e=>by
 subst e;rw [f]at d;injection d with d
 injection d with _ e _
 exact h e
def qei:LitD×Value:=(⟨-7,⟨⟨#[]⟩,[]⟩,⟨false,⟨#[]⟩⟩,⟨false,⟨#[]⟩⟩⟩,.slice none 0 0)
def LentL (base:Nat)(w:World)(v:Value)(ls:List LitD):Prop:= ∃g cap,∃ps:List (LitD×Value),v=.slice (some ⟨g,0,none⟩) ls.length cap/\w.ownsRow base 79 7 (.slice (some ⟨g,0,none⟩) (ls.length+3) cap) (ls.length+3) ((ps++ [qei,qei,qei]).flatMap qbn)/\
 ps.map (·.1)=ls/\ ∀p,p∈ps->LentT base w p.2 p.1.atom.args
def LentR (base:Nat)(w:World)(vh vb:Value)(r:RuleD):Prop:=LentT base w vh r.head.args/\LentL base w vb r.body
theorem LentL.keep {base:Nat}{w w':World}{v:Value}{ls:List LitD}{C:Nat->Prop}(h:LentL base w v ls)(hK:Keep C w w')(d: ∀b,base<=b->b<w.heap.size->C b):LentL base w' v ls:=by
 obtain⟨g,cap,ps,rfl,c,e,f⟩:=h;exact⟨g,cap,ps,rfl,qf c hK (fun b i=>by have:=zE c b i;exact d b this.1 this.2),e,fun p j=>(f p j).keep hK d⟩
theorem LentR.keep {base:Nat}{w w':World}{vh vb:Value}{r:RuleD}{C:Nat->Prop}(h:LentR base w vh vb r)(hK:Keep C w w')(c: ∀b,base<=b->b<w.heap.size->C b):LentR base w' vh vb r:=⟨h.1.keep hK c,h.2.keep hK c⟩
theorem LentL.lits {base:Nat}{w:World}{v:Value}{ls:List LitD}(h:LentL base w v ls)(s:ls.length<=1073741824)(d: ∀L,L∈ls->L.atom.args.length<=1073741824):qfj w.heap.size w v ls:=by
 obtain⟨g,cap,ps,rfl,f,i,r⟩:=h;have m:=qcm f;refine⟨_,cap,rfl,s,⟨xz,m.2.1⟩,fun k L l=>⟨g,0,rfl,m.2.2.1,?_⟩⟩;rw [←i,zP]at l;obtain⟨p,b,rfl⟩:=xN.1 l;have e:=(zA.1 b).1;rw [zD];refine⟨p.2,fun j u q=>qau f _ _ ?_,(r p (zH b)).terms (d _ (by rw [←i];exact yK.2 ⟨p,zH b,rfl⟩))⟩;have c:j<7:=(zA.1 q).1;rw [qas qbn 7 (fun _=>rfl) _ k j p (by rw [yQ e];exact b) c];exact q
theorem LentR.rule {base:Nat}{w:World}{vh vb:Value}{r:RuleD}(h:LentR base w vh vb r)(b:qo1 r):RuleIn w.heap.size w vh vb r:=⟨h.1.terms b.1,h.2.lits b.2.1 b.2.2⟩
theorem qza:qbn qei= [.int .i64 (-7),.string ⟨#[]⟩,.slice none 0 0,.bool false,.string ⟨#[]⟩,.bool false,.string ⟨#[]⟩]:=rfl
theorem qsq {n:Nat}{r:RuleD}{sh sb:Value}{w:World}(hr:RuleIn n w sh sb r)(hn:n<=w.heap.size):Calls prog 23 #[.agg #[.string r.head.pred,sh,sb]] w fun e w'=> ∃vh vb,e=.returned (.agg #[.string r.head.pred,vh,vb])/\LentR w.heap.size w' vh vb r/\Keep (fun b=>b<w.heap.size) w w':=by
 have aK:=qjf hr;obtain⟨⟨pr,args⟩,body⟩:=r;simp only at*;obtain⟨a7,a9,rfl,-,-,-⟩:=id hr.1;obtain⟨aw,ay,rfl,dL,dH,bU⟩:=id hr.2;simp only at*;obtain⟨N,hN⟩:=ex (w.heap.size);obtain⟨W0,ag⟩:=ex ((w.alloc (.cells #[.string pr,.slice a7 args.length a9,.slice aw body.length ay] 27)).alloc (.cells #[.string ⟨#[]⟩,.slice none 0 0,.slice none 0 0] 27));have k0:wD w W0:=by rw [←ag];exact kAl.trans kAl
 have z0:W0.heap.size=N+2:=by rw [←ag,←hN];simp
 have p0:W0.heap[N]?=some (.cells #[.string pr,.slice a7 args.length a9,.slice aw body.length ay] 27 (0,0)):=by rw [←ag,←hN];exact(Keep.alloc (fun _=>True) _ _).heap (qh w _) trivial
 have p1:W0.heap[N+1]?=some (.cells #[.string ⟨#[]⟩,.slice none 0 0,.slice none 0 0] 27 (0,0)):=by
  rw [←ag,←hN];have:=qh (w.alloc (.cells #[.string pr,.slice a7 args.length a9,.slice aw body.length ay] 27)) (.cells #[.string ⟨#[]⟩,.slice none 0 0,.slice none 0 0] 27);rw [zO]at this;exact this
 have c0:=qb p0 0 _ rfl;have c1:=qb p0 1 _ rfl;simp only [zD]at c0 c1;have cI:N<W0.heap.size:=xz
 have bS:=qlr pr (qq hr.1 k0.mt) xz;have hS: ∀X,Keep (fun b=>b<N+2) W0 X->X.cell? ⟨N,2,none⟩=some (.slice aw body.length ay)/\N+1<X.heap.size:=fun X hX=>by
  have q:=hX.heap p0 xz;have q0:=qb q 2 _ rfl;simp only [zD]at q0;exact⟨q0,qe (hX.heap p1 xz)⟩
 refine qg5 ?_ hr hN ag k0 z0 p0 p1 bS hS bU aK;clear hr hN ag k0 z0 p0 p1 bS hS bU aK;intro bI av bu bL x dp cz bF aZ bG c6
 go_enter Tryz.func23,Tryz.ntmps23
 go_wp2_with fail;rw [bu.o,av.o];go_wp2_with fail;refine bF.o.mono ?_;rintro e W1 ⟨vh,rfl,o1,k1⟩;obtain⟨gh,ch,rfl,-⟩:=id o1;refine hd2 ?_ o1 k1;clear o1 k1;intro cw bM;go_wp2_with fail;obtain⟨M,hM⟩:=ex (W1.heap.size);obtain⟨W2,aA⟩:=ex (W1.alloc (.cells #[.string pr,.slice (some ⟨gh,0,none⟩) args.length ch,.slice none 0 0] 27));have bh:wD W1 W2:=by rw [←aA];exact kAl
 have k2:Keep (fun b=>b<N+2) W0 W2:=(bM.o.mono fun b _ h=>by have:=x.o;omega).trans bh.mt;have p2:W2.heap[M]?=some (.cells #[.string pr,.slice (some ⟨gh,0,none⟩) args.length ch,.slice none 0 0] 27 (0,0)):=by rw [←aA,←hM];exact qh _ _
 have o2:LentT (N+2) W2 (.slice (some ⟨gh,0,none⟩) args.length ch) args:=(cw.o.keep2 bh (fun _ _=>wE)).mono (by have:=x.o;omega);have dE:N+2<=M:=by rw [←hM];have:=bM.o.size;have:=x.o;omega
 obtain⟨s0,s1⟩:=aZ.o W2 k2;clear bh c0 c1 cI;refine hd5 ?_ hM aA k2 p2 o2;clear hM aA k2 p2 o2;intro ct bv cu cA cx;rw [bv.o,ct.o];obtain⟨Wo,cJ⟩: ∃Wo,Wo=W2:=⟨_,rfl⟩;subst cJ
 go_loopw [4] (fun i' wr=> ∃(k:Nat) (ps:List (LitD×Value)) (a3:Option Addr) (c3:Nat),k<=body.length/\i'=.int .i64 (k:Int)/\ps.length=k/\ps.map (·.1)=body.take k/\Keep (fun b=>b<N+2) W0 wr/\wr.heap[M]?=some (.cells #[.string pr,.slice (some ⟨gh,0,none⟩) args.length ch,.slice a3 k c3] 27 (0,0))/\
  wr.ownsRow (N+2) 79 7 (.slice a3 k c3) k (ps.flatMap qbn)/\LentT (N+2) wr (.slice (some ⟨gh,0,none⟩) args.length ch) args/\ ∀p,p∈ps->LentT (N+2) wr p.2 p.1.atom.args) (fun i _=>body.length-(intOf i).toNat)
 case atStart=>exact⟨0,[],none,0,xz,rfl,rfl,rfl,cu.o,cA.o,zj _ _ _ _,cx.o,wB⟩
 case round=>
  obtain⟨k,ps,a3,c3,hk,rfl,aI,aq,hK,d,ho,R,U⟩:=hrel;clear s0 s1;obtain⟨s0,s1⟩:=aZ.o wr hK;have aK:=hK.size;have lM:=qe d;by_cases aH:k<body.length
  ·have bW:(k:Int)<body.length:=by omega
   have dJ:(0:Int)<=k:=xz
   obtain⟨L,hL⟩: ∃L,body[k]?=some L:=⟨_,zB aH⟩;obtain⟨bb,ob,rfl,dF,sa,bR,bg⟩:=bG.o k L hL;have kw:Keep (fun b=>b<N) w wr:=bL.o.mt.trans (hK.mono fun b _ h=>xz);have an:=av.o;have f: ∀j v,(qu L sa)[j]?=some v->wr.cell? ⟨bb,ob+k*7+j,none⟩=some v:=fun j v h=>kw.cell (bR j v h) (show bb<N from xz);have f0:=f 0 _ rfl;have f1:=f 1 _ rfl;have f2:=f 2 _ rfl;have f3:=f 3 _ rfl;have f4:=f 4 _ rfl;have f5:=f 5 _ rfl;have f6:=f 6 _ rfl;simp only [Nat.add_zero]at f0;obtain⟨bN,bO,rfl,dK,-,-⟩:=id bg;have dG:bb<wr.heap.size:=xz
   have b8:=qq bg (kw.mono fun b _ h=>xz);clear f bR bg;refine qg5 ?_ hK d ho R U aI aq kw an hL b8;clear hK d ho R U aI aq kw an hL b8;intro ae y s Y aa aM al dn c5 cr bK;go_wp2_with fail;obtain⟨A,hA⟩:=ex (wr.heap.size);obtain⟨Wa,l⟩:=ex (wr.alloc (.cells #[.int .i64 L.kind,.string L.atom.pred,.slice bN L.atom.args.length bO,.bool L.left.var,.string L.left.text,.bool L.right.var,.string L.right.text] 79));have ka:wD wr Wa:=by rw [←l];exact kAl
   have pa:Wa.heap[A]?=some (.cells #[.int .i64 L.kind,.string L.atom.pred,.slice bN L.atom.args.length bO,.bool L.left.var,.string L.left.text,.bool L.right.var,.string L.right.text] 79 (0,0)):=by rw [←l,←hA];exact qh _ _
   have za:Wa.heap.size=A+1:=by rw [←l,←hA];simp
   rw [l,hA];refine(qlr L.atom.pred (qq bK.o ka.mt) (by have:=av.o;omega)).mono ?_;rintro e W5 ⟨v1,rfl,o5,k5⟩;have z5:=k5.size;obtain⟨g1,c1,rfl,-⟩:=id o5;have b5:=k5.heap pa xz;obtain⟨W6,aD⟩:=ex ((W5.setCell ⟨A,1,none⟩ (.string L.atom.pred)).setCell ⟨A,2,none⟩ (.slice (some ⟨g1,0,none⟩) L.atom.args.length c1));have k6:Keep (fun b=>b≠A) W5 W6:=by rw [←aD];exact(kSc).trans (kSc)
   have b6:W6.heap[A]?=some (.cells (qu L (.slice (some ⟨g1,0,none⟩) L.atom.args.length c1)).toArray 79 (0,0)):=by rw [←aD];exact qz 2 _ (qz 1 _ b5)
   have z6:=k6.size;have x1:=qg b5 1;have x2:=qg b5 2;have y1:=qb b5 1 _ rfl;have y2:=qb b5 2 _ rfl;have dN:=qe b5;simp only [zD]at y1 y2;have bk:Keep (fun b=>b<A) wr W6:=ka.mt.trans ((k5.mono fun b _ h=>xz).trans (k6.mono fun b _ h=>xz));have aF:=bk.heap y.o xz;have d0:=qb b6 0 _ rfl;have d1:=qb b6 1 _ rfl;have d2:=qb b6 2 _ rfl;have d3:=qb b6 3 _ rfl;have d4:=qb b6 4 _ rfl;have d5:=qb b6 5 _ rfl;have d6:=qb b6 6 _ rfl;have dO:=qe b6;have e2:=qb aF 2 _ rfl;have dQ:=qe aF;simp only [zD]at d0 d1 d2 d3 d4 d5 d6 e2;have o6:=o5.keep2 k6 (fun b d=>by have:=(o5.typed d).1;omega);obtain⟨B,hB⟩:=ex (W6.heap.size);obtain⟨W7,ad⟩:=ex (W6.alloc (.cells (qu L (.slice (some ⟨g1,0,none⟩) L.atom.args.length c1)).toArray 79));have k7:wD W6 W7:=by rw [←ad];exact kAl
   have b7:W7.heap[B]?=some (.cells (qu L (.slice (some ⟨g1,0,none⟩) L.atom.args.length c1)).toArray 79 (0,0)):=by rw [←ad,←hB];exact qh _ _
   have z7:W7.heap.size=B+1:=by rw [←ad,←hB];simp
   have bl:Keep (fun b=>b<A) wr W7:=bk.trans k7.mt;obtain⟨v',W8,b3,bf,g,c4,rfl,hg,cN,bc⟩:=qly (P:=prog) qix 25 (qf s.o bl (fun b d=>by have:=(zE s.o b d).2;omega)) ⟨B,0,none⟩ 1 1 (qu L (.slice (some ⟨g1,0,none⟩) L.atom.args.length c1)) rfl (fun j u hj=>by
    have:=qb b7 j u (by simpa using hj);rw [zD]at this;rw [show((⟨B,0,none⟩:Addr).add j)=⟨B,j,none⟩ from by unfold Addr.add;split<;>simp_all];exact this) (by simp [qu,Value.oneCell']) wC xz (by have:=x.o;omega)
   obtain⟨cE,t8⟩:=qao bf rfl;have aG:(Value.slice a3 k c3).ownBlock=some g∨B+1<=g:=by
    rcases hg with h |h
    ·exact .inl h
    ·exact .inr xz
   have cO:N+2<=g:=by
    rcases aG with h |h
    ·exact(zE s.o _ h).1
    ·have:=x.o;omega
   have bV:g<A∨B+1<=g:=by
    rcases aG with h |h
    ·exact .inl (by have:=(zE s.o _ h).2;omega)
    ·exact .inr h
   have m:g<A-> ∃cs,wr.heap[g]?=some (.cells cs 79 (0,0)):=fun h=>by
    rcases aG with h2 |h2
    ·exact qao s.o h2
    ·omega
   have z:M≠g:=fun e=>by
    have aH:g<A:=xz
    obtain⟨cs,t⟩:=m aH;exact qcw y.o t wC e
   have ap:=bc.heap (k7.heap aF wE) z;have m2:=qb ap 2 _ rfl;have dy:=qg ap 2;have dR:=qe ap;simp only [zD]at m2;obtain⟨W9,aE⟩:=ex (W8.setCell ⟨M,2,none⟩ (.slice (some ⟨g,0,none⟩) (k+1) c4));have k9:Keep (fun b=>b≠M) W8 W9:=by rw [←aE];exact kSc
   have b9:W9.heap[M]?=some (.cells #[.string pr,.slice (some ⟨gh,0,none⟩) args.length ch,.slice (some ⟨g,0,none⟩) (k+1) c4] 27 (0,0)):=by rw [←aE];exact qz 2 _ ap
   have bi:Keep (fun b=>b≠g/\b≠M) W7 W9:=(bc.mono fun b _ h=>h.1).trans (k9.mono fun b _ h=>h.2);have kR:Keep (fun b=>b<A/\b≠g/\b≠M) wr W9:=(bl.mono fun b _ h=>h.1).trans (bi.mono fun b _ h=>h.2);have ca: ∀{v:Value} {ts:List TermD} {X:World} {base:Nat},LentT base X v ts->X.heap[M]?=wr.heap[M]?-> ∀b,v.ownBlock=some b->b≠M:=fun h hX b d=>by
    obtain⟨-,-,cs,t⟩:=h.typed d;exact qcw t (hX.trans y.o) wC
   have c: ∀{v:Value} {ts:List TermD},LentT (N+2) wr v ts->LentT (N+2) W9 v ts:=fun h=>h.keep2 kR fun b d=>by
    obtain⟨-,h2,cs,t⟩:=h.typed d;refine⟨xz,fun e=>?_,qcw t y.o wC⟩;obtain⟨cD,t'⟩:=m xz;exact qcw t t' wC e
   have o9:LentT (N+2) W9 (.slice (some ⟨g1,0,none⟩) L.atom.args.length c1) L.atom.args:=((o6.keep2 k7 (fun _ _=>wE)).keep2 bi fun b d=>by
    obtain⟨h1,h2,cs,t⟩:=o6.typed d;refine⟨?_,xz⟩;rcases bV with h |h
    ·omega
    ·omega).mono (by have:=x.o;omega)
   have b1:W9.ownsRow (N+2) 79 7 (.slice (some ⟨g,0,none⟩) (k+1) c4) (k+1) ((ps++ [(L,Value.slice (some ⟨g1,0,none⟩) L.atom.args.length c1)]).flatMap qbn):=by
    have:=qf bf k9 (fun b d=>by cases d;exact fun e=>z e.symm);rw [yF]
    simpa using this
   have bP:Keep (fun b=>b<N+2) W0 W9:=ae.o.trans (kR.mono fun b _ h=>⟨by have:=x.o;omega,xz,xz⟩);have aO:=c Y.o;have aQ: ∀p,p∈ps++ [(L,Value.slice (some ⟨g1,0,none⟩) L.atom.args.length c1)]->LentT (N+2) W9 p.2 p.1.atom.args:=fun p hp=>by
    rcases zn.1 hp with h |h
    ·exact c (aa.o p h)
    ·simp only [zl]at h;subst h;exact o9
   have aR:(ps++ [(L,Value.slice (some ⟨g1,0,none⟩) L.atom.args.length c1)]).length=k+1:=by rw [zR,aM.o];rfl
   have aS:(ps++ [(L,Value.slice (some ⟨g1,0,none⟩) L.atom.args.length c1)]).map (·.1)=body.take (k+1):=by
    rw [zm,al.o,zh,cr.o];rfl
   unfold qu at ad;simp only [List.toArray]at ad;clear pa ka k5 o5 b5 b6 k6 bk aF o6 k7 b7 bl bf hg bc cE t8 aG bV m z ap k9 bi kR ca c o9;refine ql3 ?_ l hA aD hB ad b3 aE b9 b1 bP aO aQ aR aS;clear l hA aD hB ad b3 aE b9 b1 bP aO aQ aR aS;intro aL br bx cq bz bJ bD cp bH bt a1 a4 a5 a6
   go_upto_region 7 with fail
   rw [bx.o];go_wp2_with (at_builtin;rw [cq.o,bz.o];refine qcd rfl _ _ _ rfl rfl rfl bJ.o ?_);rw [bD.o];go_roundw
   case rel=>exact⟨k+1,_,_,_,xz,by go_num,a5.o,a6.o,bt.o,cp.o,bH.o,a1.o,a4.o⟩
   case measure=>simp [intOf];omega
  ·obtain rfl:k=body.length:=by omega
   rw [zi]at aq;have df: ¬(body.length:Int)<body.length:=xz
   obtain⟨Wp,cK⟩: ∃Wp,Wp=wr:=⟨_,rfl⟩;subst cK;refine hd7 ?_ hK d ho R U aI aq;clear hK d ho R U aI aq;intro ae y s Y aa aM al;go_wp2_with fail;clear s0 s1
   go_loopw [6] (fun i' wr=> ∃(k:Nat) (a3:Option Addr) (c3:Nat),k<=3/\i'=.int .i64 (k:Int)/\Keep (fun b=>b<N+2) W0 wr/\wr.heap[M]?=some (.cells #[.string pr,.slice (some ⟨gh,0,none⟩) args.length ch,.slice a3 (body.length+k) c3] 27 (0,0))/\
    wr.ownsRow (N+2) 79 7 (.slice a3 (body.length+k) c3) (body.length+k) ((ps++List.replicate k qei).flatMap qbn)/\LentT (N+2) wr (.slice (some ⟨gh,0,none⟩) args.length ch) args/\ ∀p,p∈ps->LentT (N+2) wr p.2 p.1.atom.args) (fun i _=>3-(intOf i).toNat)
   case atStart=>exact⟨0,a3,c3,xz,rfl,ae.o,y.o,by simpa using s.o,Y.o,aa.o⟩
   case round=>
    obtain⟨k,a3,c3,hk,rfl,hK,d,ho,R,U⟩:=hrel;have aK:=hK.size;have d1:=qb d 2 _ rfl;have f1:=qg d 2;have lM:=qe d;simp only [zD]at d1;by_cases aH:k<3
    ·have bW:(k:Int)<3:=by omega
     obtain⟨Wa,l⟩:=ex (wr.alloc (.cells #[.int .i64 (-7),.string ⟨#[]⟩,.slice none 0 0,.bool false,.string ⟨#[]⟩,.bool false,.string ⟨#[]⟩] 79));obtain⟨A,hA⟩:=ex (wr.heap.size);have ka:wD wr Wa:=by rw [←l];exact kAl
     have pa:Wa.heap[A]?=some (.cells (qbn qei).toArray 79 (0,0)):=by rw [←l,←hA];exact qh _ _
     have za:Wa.heap.size=A+1:=by rw [←l,←hA];simp
     obtain⟨v',W3,hr,b0,g,c4,rfl,hg,cN,ba⟩:=qly (P:=prog) qix 25 (qf ho ka (fun _ _=>wE)) ⟨A,0,none⟩ 1 1 (qbn qei) rfl (fun j u hj=>by
      have:=qb pa j u (by simpa using hj);rw [zD]at this;rw [show((⟨A,0,none⟩:Addr).add j)=⟨A,j,none⟩ from by unfold Addr.add;split<;>simp_all];exact this) (by rw [qza];simp [Value.oneCell']) wC xz (by have:=x.o;omega)
     have cO:N+2<=g:=by
      rcases hg with h |h
      ·exact(zE ho _ h).1
      ·have:=x.o;omega
     have m:g<A-> ∃cs,wr.heap[g]?=some (.cells cs 79 (0,0)):=fun h=>by
      rcases hg with h2 |h2
      ·exact qao ho h2
      ·omega
     have z:M≠g:=fun e=>by
      obtain⟨cs,t⟩:=m xz;exact qcw d t wC e
     have ao:=ba.heap (ka.heap d wE) z;have d3:=qb ao 2 _ rfl;have f3:=qg ao 2;have l3:=qe ao;simp only [zD]at d3;obtain⟨W4,aB⟩:=ex (W3.setCell ⟨M,2,none⟩ (.slice (some ⟨g,0,none⟩) (body.length+k+1) c4));have k4:Keep (fun b=>b≠M) W3 W4:=by rw [←aB];exact kSc
     have b4:W4.heap[M]?=some (.cells #[.string pr,.slice (some ⟨gh,0,none⟩) args.length ch,.slice (some ⟨g,0,none⟩) (body.length+(k+1)) c4] 27 (0,0)):=by rw [←aB];exact qz 2 _ ao
     have o4:W4.ownsRow (N+2) 79 7 (.slice (some ⟨g,0,none⟩) (body.length+(k+1)) c4) (body.length+(k+1)) ((ps++List.replicate (k+1) qei).flatMap qbn):=by
      have:=qf b0 k4 (fun b d=>by cases d;exact fun e=>z e.symm);rw [replicate_succ',←yq,yF (xs:=ps++List.replicate k qei),show [qei].flatMap qbn=qbn qei from rfl];exact this
     have kR:Keep (fun b=>b<A/\b≠g/\b≠M) wr W4:=ka.mt.trans ((ba.mono fun b _ h=>h.2.1).trans (k4.mono fun b _ h=>h.2.2));have c: ∀{v:Value} {ts:List TermD},LentT (N+2) wr v ts->LentT (N+2) W4 v ts:=fun h=>h.keep2 kR fun b cL=>by
      obtain⟨-,h2,cs,t⟩:=h.typed cL;refine⟨xz,fun e=>?_,qcw t d wC⟩;obtain⟨cD,t'⟩:=m xz;exact qcw t t' wC e
     have kk:Keep (fun b=>b<N+2) W0 W4:=hK.trans (kR.mono fun b _ h=>⟨by have:=x.o;omega,xz,xz⟩);have aN:=c R;have aP: ∀p,p∈ps->LentT (N+2) W4 p.2 p.1.atom.args:=fun p hp=>c (U p hp);clear pa b0 hg ba ao k4 ka ho d z c m kR R U;refine qc9 ?_ l hr aB b4 o4 kk hK hA aN aP;clear l hr aB b4 o4 kk hK hA aN aP;intro aL bI bw co cy cv ae br a0 a2;go_wp2_with (at_builtin;rw [aL.o,br.o];refine qcd rfl _ _ _ rfl rfl rfl bI.o ?_);rw [bw.o];go_roundw
     case rel=>exact⟨k+1,_,_,xz,by go_num,cv.o,co.o,cy.o,a0.o,a2.o⟩
     case measure=>simp [intOf];omega
    ·obtain rfl:k=3:=by omega
     obtain⟨g,rfl⟩: ∃g,a3=some ⟨g,0,none⟩:=by
      rcases ho.2 with ⟨h1,h2⟩ |⟨g,_,_,h1,_⟩
      ·omega
      ·cases h1;exact⟨g,rfl⟩
     have de:=qcm ho;have cM:(body.length:Int)<=c3:=xz
     obtain⟨s0,s1⟩:=aZ.o wr hK;have q1:=hK.heap cz.o xz;have g0:=qb q1 0 _ rfl;have g1:=qb q1 1 _ rfl;have g2:=qb q1 2 _ rfl;have dz:=qg q1 0;have dA:=qg q1 1;have dB:=qg q1 2;have m0:=qb d 0 _ rfl;have m1:=qb d 1 _ rfl;simp only [zD]at g0 g1 g2 m0 m1;refine hd6 ?_ hK d ho R U q1;clear hK d ho R U q1;intro ae y s Y aa cB;go_wp2_with fail;obtain⟨W5,aC⟩:=ex ((((wr.setCell ⟨M,2,none⟩ (.slice (some ⟨g,0,none⟩) body.length c3)).setCell ⟨N+1,0,none⟩ (.string pr)).setCell ⟨N+1,1,none⟩ (.slice (some ⟨gh,0,none⟩) args.length ch)).setCell ⟨N+1,2,none⟩ (.slice (some ⟨g,0,none⟩) body.length c3));have kM:Keep (fun b=>b≠M) wr (wr.setCell ⟨M,2,none⟩ (.slice (some ⟨g,0,none⟩) body.length c3)):=kSc;have k5:Keep (fun b=>b≠M/\b≠N+1) wr W5:=by rw [←aC];exact(((kM.mono fun b _ h=>h.1).trans (kSc)).trans (kSc)).trans (kSc)
     have b5:W5.heap[N+1]?=some (.cells #[.string pr,.slice (some ⟨gh,0,none⟩) args.length ch,.slice (some ⟨g,0,none⟩) body.length c3] 27 (0,0)):=by rw [←aC];exact qz 2 _ (qz 1 _ (qz 0 (.string pr) (kM.heap cB.o xz)))
     have e0:=qb b5 0 _ rfl;have e1:=qb b5 1 _ rfl;have e2:=qb b5 2 _ rfl;have l5:=qe b5;simp only [zD]at e0 e1 e2;have z:g≠M:=by
      obtain⟨cs,t⟩:=qao s.o rfl;exact qcw t y.o wC
     have o5:=qf s.o k5 (fun b d=>by cases d;exact⟨z,show g≠N+1 from xz⟩);have c: ∀{v:Value} {ts:List TermD},LentT (N+2) wr v ts->LentT N W5 v ts:=fun h=>(h.keep2 k5 fun b d=>by
      obtain⟨h1,-,cs,t⟩:=h.typed d;exact⟨qcw t y.o wC,xz⟩).mono xz
     have an:=av.o;have kW:Keep (fun b=>b<w.heap.size) w W5:=bL.o.mt.trans ((ae.o.mono fun b _ h=>xz).trans (k5.mono fun b _ h=>xz));refine zz (v:=.agg #[.string pr,.slice (some ⟨gh,0,none⟩) args.length ch,.slice (some ⟨g,0,none⟩) body.length c3]) (by rw [aC];simp [results,Tryz.results23,go_sem,e0,e1,e2,l5]) rfl ?_;rw [aC,an];rw [an]at kW;exact⟨_,_,rfl,⟨c Y.o,g,c3,ps,rfl,o5.mono xz,al.o,fun p hp=>c (aa.o p hp)⟩,kW⟩
theorem qmc {n base:Nat}{r:RuleD}{sh sb bp bo:Value}{w:World}(ha:LentR base w sh sb r)(hb:RuleIn n w bp bo r)(hn:n<=w.heap.size):
  Calls prog 24 #[.agg #[.string r.head.pred,sh,sb],.agg #[.string r.head.pred,bp,bo]] w fun e w'=>e=.returned (.bool true)/\Keep (fun b=>b<w.heap.size) w w':=by
 have ai:=qjf hb;have bk:=ha.rule ai;obtain⟨⟨pr,args⟩,body⟩:=r;simp only at*;obtain⟨gh,ch,rfl,-⟩:=id ha.1;obtain⟨g,cap,ps,rfl,ho,aB,bj⟩:=id ha.2;obtain⟨ag,ah,rfl,-,-,-⟩:=id hb.1;obtain⟨af,x,rfl,cH,cC,a8⟩:=id hb.2;simp only at*;have cD:=qcm ho;have bH:(body.length:Int)+3<=cap:=xz
 have bi:ps.length=body.length:=by rw [←aB,zL]
 obtain⟨N,hN⟩:=ex (w.heap.size);obtain⟨W0,y⟩:=ex ((w.alloc (.cells #[.string pr,.slice (some ⟨gh,0,none⟩) args.length ch,.slice (some ⟨g,0,none⟩) body.length cap] 27)).alloc (.cells #[.string pr,.slice ag args.length ah,.slice af body.length x] 27));have k0:wD w W0:=by rw [←y];exact kAl.trans kAl
 have z0:W0.heap.size=N+2:=by rw [←y,←hN];simp
 have p0:W0.heap[N]?=some (.cells #[.string pr,.slice (some ⟨gh,0,none⟩) args.length ch,.slice (some ⟨g,0,none⟩) body.length cap] 27 (0,0)):=by rw [←y,←hN];exact(Keep.alloc (fun _=>True) _ _).heap (qh w _) trivial
 have p1:W0.heap[N+1]?=some (.cells #[.string pr,.slice ag args.length ah,.slice af body.length x] 27 (0,0)):=by
  rw [←y,←hN];have:=qh (w.alloc (.cells #[.string pr,.slice (some ⟨gh,0,none⟩) args.length ch,.slice (some ⟨g,0,none⟩) body.length cap] 27)) (.cells #[.string pr,.slice ag args.length ah,.slice af body.length x] 27);rw [zO]at this;exact this
 have hS: ∀X,Keep (fun b=>b<N+2) W0 X->(X.cell? ⟨N,0,none⟩=some (.string pr)/\X.cell? ⟨N,1,none⟩=some (.slice (some ⟨gh,0,none⟩) args.length ch)/\X.cell? ⟨N,2,none⟩=some (.slice (some ⟨g,0,none⟩) body.length cap))/\(X.cell? ⟨N+1,0,none⟩=some (.string pr)/\X.cell? ⟨N+1,1,none⟩=some (.slice ag args.length ah)/\X.cell? ⟨N+1,2,none⟩=some (.slice af body.length x))/\N+1<X.heap.size:=fun X U=>by
  have q:=U.heap p0 xz;have q':=U.heap p1 xz;have q0:=qb q 0 _ rfl;have q1:=qb q 1 _ rfl;have q2:=qb q 2 _ rfl;have q3:=qb q' 0 _ rfl;have q4:=qb q' 1 _ rfl;have q5:=qb q' 2 _ rfl;simp only [zD]at q0 q1 q2 q3 q4 q5;exact⟨⟨q0,q1,q2⟩,⟨q3,q4,q5⟩,qe q'⟩
 obtain⟨⟨s0,s1,s2⟩,⟨s3,s4,s5⟩,s6⟩:=hS W0 (Keep.refl _ _);have a9:=qls n base pr _ _ args W0 (ha.1.keep k0 (fun _ _ _=>wE)) (qq hb.1 k0.mt) (zW hn k0.size) ai.1;refine qde ?_ ha hb hN y k0 z0 p0 p1 hS a8 ai bk ho aB bj bi;clear ha hb hN y k0 z0 p0 p1 hS a8 ai bk ho aB bj bi;intro ct cu aq aP aW aw cw cx ae aR bQ bP au aU aV u;refine hd1 ?_ a9;clear a9;intro aS
 go_enter Tryz.func24,Tryz.ntmps24
 go_wp2_with fail;rw [aP.o,aq.o];go_wp2_with fail;refine aS.o.mono ?_;rintro e W1 ⟨rfl,k1⟩;have aC:Keep (fun b=>b<N+2) W0 W1:=k1.mono fun b _ h=>by have:=aw.o;omega
 clear s0 s1 s2 s3 s4 s5 s6 k1;obtain⟨⟨s0,s1,s2⟩,⟨s3,s4,s5⟩,s6⟩:=ae.o W1 aC;have cI:((body.length:Int) !=body.length)=false:=wB
 refine hd1 ?_ aC;clear aC;intro aX;go_wp2_with fail
 go_loopw [5] (fun i' wr=> ∃k:Nat,k<=body.length/\i'=.int .i64 (k:Int)/\Keep (fun b=>b<N+2) W0 wr) (fun i _=>body.length-(intOf i).toNat)
 case atStart=>exact⟨0,xz,rfl,aX.o⟩
 case round=>
  obtain⟨k,hk,rfl,hK⟩:=hrel;clear s0 s1 s2 s3 s4 s5 s6;obtain⟨⟨s0,s1,s2⟩,⟨s3,s4,s5⟩,s6⟩:=ae.o wr hK;have s:=aq.o;have z:Keep (fun b=>b<N) w wr:=aW.o.mt.trans (hK.mono fun b _ h=>xz);by_cases ad:k<body.length
  ·have bc:(k:Int)<body.length:=by omega
   have bI:(0:Int)<=k:=xz
   obtain⟨L,hL⟩: ∃L,body[k]?=some L:=⟨_,zB ad⟩;obtain⟨d,m,rfl,cB,sa,a7,aj⟩:=aR.o k L hL;obtain⟨p,hp⟩: ∃p,ps[k]?=some p:=⟨_,zB (by rw [u.o];exact ad)⟩;have bh:p.1=L:=by
    have:(ps.map (·.1))[k]?=some p.1:=by rw [zP,hp];rfl
    rw [aU.o,hL]at this;exact(yH this).symm
   obtain⟨c,sv⟩:=p;simp only at bh;subst bh;have aa:=aV.o _ (zH hp);simp only at aa;have a6: ∀j v,(qu c sv)[j]?=some v->w.cell? ⟨g,k*7+j,none⟩=some v:=fun j v h=>by
    have h7:j<7:=(zA.1 h).1;have:=qau au.o (k*7+j) v (by rw [qas qbn 7 (fun _=>rfl) _ k j (c,sv) (by rw [yQ (by rw [u.o];exact ad)];exact hp) h7];exact h);exact this
   obtain⟨gs,cs,rfl,-⟩:=id aa;obtain⟨ax,ay,rfl,ba,-,-⟩:=id aj;obtain⟨Wd,aA⟩:=ex (wr.drew);have kd:wD wr Wd:=by rw [←aA];exact kDr
   have R:=z.trans kd.mt;have az: ∀X,Keep (fun b=>b<N+2) Wd X->(X.cell? ⟨N,2,none⟩=some (.slice (some ⟨g,0,none⟩) body.length cap)/\X.cell? ⟨N+1,2,none⟩=some (.slice (some ⟨d,m,none⟩) body.length x))/\
     (X.cell? ⟨g,k*7,none⟩=some (.int .i64 c.kind)/\X.cell? ⟨g,k*7+1,none⟩=some (.string c.atom.pred)/\X.cell? ⟨g,k*7+2,none⟩=some (.slice (some ⟨gs,0,none⟩) c.atom.args.length cs)/\X.cell? ⟨g,k*7+3,none⟩=some (.bool c.left.var)/\X.cell? ⟨g,k*7+4,none⟩=some (.string c.left.text)/\X.cell? ⟨g,k*7+5,none⟩=some (.bool c.right.var)/\X.cell? ⟨g,k*7+6,none⟩=some (.string c.right.text))/\
     (X.cell? ⟨d,m+k*7,none⟩=some (.int .i64 c.kind)/\X.cell? ⟨d,m+k*7+1,none⟩=some (.string c.atom.pred)/\X.cell? ⟨d,m+k*7+2,none⟩=some (.slice ax c.atom.args.length ay)/\X.cell? ⟨d,m+k*7+3,none⟩=some (.bool c.left.var)/\X.cell? ⟨d,m+k*7+4,none⟩=some (.string c.left.text)/\X.cell? ⟨d,m+k*7+5,none⟩=some (.bool c.right.var)/\X.cell? ⟨d,m+k*7+6,none⟩=some (.string c.right.text)):=fun X U=>by
    have kX:Keep (fun b=>b<N) w X:=R.trans (U.mono fun b _ h=>xz);have bL:Keep (fun b=>b<N+2) W0 X:=hK.trans (kd.mt.trans U);obtain⟨⟨-,-,t2⟩,⟨-,-,t5⟩,-⟩:=ae.o X bL;have a: ∀j v,(qu c (.slice (some ⟨gs,0,none⟩) c.atom.args.length cs))[j]?=some v->X.cell? ⟨g,k*7+j,none⟩=some v:=fun j v h=>kX.cell (a6 j v h) (show g<N from xz);have b: ∀j v,(qu c (.slice ax c.atom.args.length ay))[j]?=some v->X.cell? ⟨d,m+k*7+j,none⟩=some v:=fun j v h=>kX.cell (a7 j v h) (show d<N from xz);have a0:=a 0 _ rfl;have b0:=b 0 _ rfl;simp only [Nat.add_zero]at a0 b0;exact⟨⟨t2,t5⟩,⟨a0,a 1 _ rfl,a 2 _ rfl,a 3 _ rfl,a 4 _ rfl,a 5 _ rfl,a 6 _ rfl⟩,⟨b0,b 1 _ rfl,b 2 _ rfl,b 3 _ rfl,b 4 _ rfl,b 5 _ rfl,b 6 _ rfl⟩⟩
   have a2:=az Wd (Keep.refl _ _);have cJ:=kd.size;have ab:=qoc w.heap.size c _ _ Wd (qq (aa.terms ba) (R.mono fun b _ h=>xz)) (qfm (qq aj (R.mono fun b _ h=>xz)) hn) R.size;unfold qu at ab;have Y:=fun X (U:Keep (fun b=>b<N) w X)=>qls n base c.atom.pred _ _ c.atom.args X (aa.keep U (fun b _ h=>xz)) (qq aj (U.mono fun b _ h=>xz)) (zW hn U.size) ba;clear s0 s1 s3 s4 a6 a7 aj aa;refine qho ?_ hK z hL hp aA kd R az a2 ab Y s;clear hK z hL hp aA kd R az a2 ab Y s;intro f av cr cv aQ bw aZ al aO ar t am;go_wp2_with fail;refine qba rfl (fun X=>(X.cell? ⟨N,2,none⟩=some (.slice (some ⟨g,0,none⟩) body.length cap)/\X.cell? ⟨N+1,2,none⟩=some (.slice (some ⟨d,m,none⟩) body.length x))/\(X.cell? ⟨g,k*7,none⟩=some (.int .i64 c.kind)/\X.cell? ⟨g,k*7+1,none⟩=some (.string c.atom.pred)/\X.cell? ⟨g,k*7+2,none⟩=some (.slice (some ⟨gs,0,none⟩) c.atom.args.length cs)/\X.cell? ⟨g,k*7+3,none⟩=some (.bool c.left.var)/\X.cell? ⟨g,k*7+4,none⟩=some (.string c.left.text)/\X.cell? ⟨g,k*7+5,none⟩=some (.bool c.right.var)/\X.cell? ⟨g,k*7+6,none⟩=some (.string c.right.text))/\(X.cell? ⟨d,m+k*7,none⟩=some (.int .i64 c.kind)/\X.cell? ⟨d,m+k*7+1,none⟩=some (.string c.atom.pred)/\X.cell? ⟨d,m+k*7+2,none⟩=some (.slice ax c.atom.args.length ay)/\X.cell? ⟨d,m+k*7+3,none⟩=some (.bool c.left.var)/\X.cell? ⟨d,m+k*7+4,none⟩=some (.string c.left.text)/\X.cell? ⟨d,m+k*7+5,none⟩=some (.bool c.right.var)/\X.cell? ⟨d,m+k*7+6,none⟩=some (.string c.right.text))) [] ?_;rw [aQ.o];refine qab [0,1,2,3,4,5,6,7,8,9] ?_
   iterate 10
    refine tkN (v:=?_) rfl aO.o ?_ ?_;rotate_left
    ·rintro Wq ⟨⟨x1,x2⟩,⟨x3,x4,x5,x6,x7,x8,x9⟩,⟨y1,y2,y3,y4,y5,y6,y7⟩⟩;go_simp
     try with_reducible rfl
    try simp only [qac]
   refine qk ?_;refine ho 10 rfl fun K l=>?_;go_wp2_with fail;refine ar.o.mono ?_;rintro e Y1 ⟨rfl,kY⟩;have ak:Keep (fun b=>b<N+2) Wd Y1:=kY.mono fun b _ h=>by have:=f.o.size;have:=aw.o;omega
   have a3:=al.o Y1 ak;have Y:=t.o Y1 (aZ.o.trans (ak.mono fun b _ h=>xz));clear kY t;refine hd3 ?_ ak a3 Y;clear ak a3 Y;intro ap an t;go_wp2_with fail;refine l.o _ _ (fun _=>an.o) ?_;clear l;refine qab [11,12,13,14,15,16,17,18,19,20,21,22,23,24] ?_
   iterate 14
    refine tkN (v:=?_) rfl an.o ?_ ?_;rotate_left
    ·rintro Wq ⟨⟨x1,x2⟩,⟨x3,x4,x5,x6,x7,x8,x9⟩,⟨y1,y2,y3,y4,y5,y6,y7⟩⟩;go_simp
     try with_reducible rfl
    try simp only [qac]
   refine qk ?_;refine ho 25 rfl fun K l=>?_;go_wp2_with fail;refine t.o.mono ?_;rintro e Y2 ⟨rfl,kY⟩;have aD:Keep (fun b=>b<N+2) Wd Y2:=ap.o.trans (kY.mono fun b _ h=>by have:=ap.o.size;have:=f.o.size;have:=aw.o;omega);have a4:=al.o Y2 aD;clear kY;refine hd2 ?_ aD a4;clear aD a4;intro aY ao;go_wp2_with fail;refine l.o _ _ (fun _=>ao.o) ?_;clear l;refine qab [26,27] ?_
   iterate 2
    refine tkN (v:=?_) rfl ao.o ?_ ?_;rotate_left
    ·rintro Wq ⟨⟨x1,x2⟩,⟨x3,x4,x5,x6,x7,x8,x9⟩,⟨y1,y2,y3,y4,y5,y6,y7⟩⟩;go_simp
     try with_reducible rfl
    try simp only [qac]
   refine qk ?_;refine qbq wA ?_;go_wp2_with fail;go_roundw
   case rel=>exact⟨k+1,xz,by go_num,f.o.trans (bw.o.mt.trans aY.o)⟩
   case measure=>simp [intOf];omega
  ·obtain rfl:k=body.length:=by omega
   have bU: ¬(body.length:Int)<body.length:=xz
   have bf: ∀X,Keep (fun b=>b<N) w X-> ∀j,j<3->X.cell? ⟨g,(body.length+j)*7,none⟩=some (.int .i64 (-7))/\X.cell? ⟨g,(body.length+j)*7+1,none⟩=some (.string ⟨#[]⟩):=fun X U j hj=>by
    have a5:(ps++ [qei,qei,qei])[body.length+j]?=some qei:=by
     rw [yG (by rw [u.o];omega),u.o,show body.length+j-body.length=j from xz]
     match j,hj with
     |0,_=>rfl
     |1,_=>rfl
     |2,_=>rfl
    have h0:=qau au.o ((body.length+j)*7+0) _ (qas qbn 7 (fun _=>rfl) _ _ 0 qei a5 xz);have h1:=qau au.o ((body.length+j)*7+1) _ (qas qbn 7 (fun _=>rfl) _ _ 1 qei a5 xz);exact⟨U.cell h0 (show g<N from xz),U.cell h1 (show g<N from xz)⟩
   obtain⟨Wp,bG⟩: ∃Wp,Wp=wr:=⟨_,rfl⟩;subst bG;clear s0 s1 s3 s4;refine hd4 ?_ hK z s bf;clear hK z s bf;intro f av am aT;go_wp2_with fail;clear s2 s5 s6
   go_loopw [7] (fun i' wr=> ∃k:Nat,k<=3/\i'=.int .i64 (k:Int)/\Keep (fun b=>b<N+2) W0 wr) (fun i _=>3-(intOf i).toNat)
   case atStart=>exact⟨0,xz,rfl,f.o⟩
   case round=>
    obtain⟨k,hk,rfl,hK⟩:=hrel;obtain⟨⟨-,-,s2⟩,⟨-,-,s5⟩,s6⟩:=ae.o wr hK;have s:=aq.o;have z:Keep (fun b=>b<N) w wr:=aW.o.mt.trans (hK.mono fun b _ h=>xz);by_cases ad:k<3
    ·have bc:(k:Int)<3:=by omega
     have bI:(0:Int)<=k:=xz
     obtain⟨m0,m1⟩:=aT.o wr z k ad;have cE:g<wr.heap.size:=by have:=z.size;omega
     refine hd3 ?_ hK z s;clear hK z s;intro f av am;go_wp2_with fail;go_roundw
     case rel=>exact⟨k+1,xz,by go_num,f.o⟩
     case measure=>simp [intOf];omega
    ·obtain rfl:k=3:=by omega
     have kW:Keep (fun b=>b<w.heap.size) w wr:=z.mono fun b _ h=>xz
     refine hd3 ?_ hK z kW;clear hK z kW;intro f av bv;go_wp2_with fail;go_ret;exact⟨rfl,bv.o⟩
end Go.Proofs
namespace Go.Proofs
open Go.RowKit Go.Ink P16
def HasRow (w:World)(e:TypeId)(sz lo hi l:Nat)(v:Value):Prop:= ∃a c,v=.slice a l c/\(0<l-> ∃g cs,a=some ⟨g,0,none⟩/\lo<=g/\g<hi/\w.heap[g]?=some (.cells cs e (0,0))/\l*sz<=cs.size)
theorem HasRow.set {w:World}{e:TypeId}{sz lo hi l:Nat}{v:Value}(h:HasRow w e sz lo hi l v)(b j:Nat)(u:Value):HasRow (w.setCell ⟨b,j,none⟩ u) e sz lo hi l v:=by
 obtain⟨a,c,rfl,h⟩:=h;refine⟨a,c,rfl,fun s=>?_⟩;obtain⟨g,r,i,d,f,m,p⟩:=h s;by_cases k:g=b
 ·subst k;exact⟨g,_,i,d,f,qz j u m,by simpa using p⟩
 ·exact⟨g,r,i,d,f,(show Keep (fun q=>q≠b) w _ from kSc).heap m k,p⟩
theorem HasRow.keep {w w':World}{e:TypeId}{sz lo hi l:Nat}{v:Value}{C:Nat->Prop}(h:HasRow w e sz lo hi l v)(hK:Keep C w w')(j: ∀b,b<hi->C b):HasRow w' e sz lo hi l v:=by
 obtain⟨a,c,rfl,h⟩:=h;refine⟨a,c,rfl,fun p=>?_⟩;obtain⟨g,f,k,i,d,m,q⟩:=h p;exact⟨g,f,k,i,d,hK.heap m (j g d),q⟩
theorem HasRow.own {base:Nat}{w:World}{e:TypeId}{sz l:Nat}{v:Value}{xs:List Value}(h:w.ownsRow base e sz v l xs):HasRow w e sz base w.heap.size l v:=by
 rcases h.2 with ⟨rfl,h0⟩ |⟨g,cap,cur,rfl,hb,hg,hnc,hcm,hcs,_⟩
 ·subst h0;exact⟨none,0,rfl,fun h=>xz⟩
 ·exact⟨_,cap,rfl,fun _=>⟨g,cur,rfl,hb,qe hg,hg,by rw [hcs];exact yV _ hnc⟩⟩
theorem HasRow.at {w:World}{e:TypeId}{sz lo hi l c:Nat}{a:Option Addr}(h:HasRow w e sz lo hi l (.slice a l c)){k:Nat}(p:k<l):
  ∃g,a=some ⟨g,0,none⟩/\lo<=g/\g<hi/\g<w.heap.size/\(∃cs,w.heap[g]?=some (.cells cs e (0,0)))/\ ∀j,j<sz->(∃u,w.cell? ⟨g,k*sz+j,none⟩=some u)/\w.frozen? ⟨g,k*sz+j,none⟩=false:=by
 obtain⟨a',r,q,h⟩:=h;cases q;obtain⟨g,cs,m,f,i,d,t⟩:=h xz;refine⟨g,m,f,i,qe d,⟨cs,d⟩,fun j s=>?_⟩;have b:k*sz+j<cs.size:=by
  have:=yV sz (show k+1<=l from p);rw [xH]at this;omega
 have:=qb d (k*sz+j) (cs[k*sz+j]'b) (by rw [xg];exact xQ b);rw [zD]at this;exact⟨⟨_,this⟩,qg d _⟩
structure USh (w:World)(vh vb:Value)(lo hi na:Nat)(bs:List (Value×Nat))(i0:Nat):Prop where
 hd:HasRow w 77 2 lo hi na vh
 bd: ∃a c,vb=.slice a bs.length c/\(0<bs.length-> ∃g cs,a=some ⟨g,0,none⟩/\lo<=g/\g<hi/\w.heap[g]?=some (.cells cs 79 (0,0))/\bs.length*7<=cs.size/\ ∀i d,i0<=i->bs[i]?=some d->cs[i*7+2]?=some d.1)
 br: ∀d,d∈bs->HasRow w 77 2 lo hi d.2 d.1
variable {w : World} {vh vb : Value} {lo hi na : Nat} {bs : List (Value × Nat)} {i0 : Nat}
theorem USh.set_leaf (h:USh w vh vb lo hi na bs i0){b:Nat}{t:TypeId}(f: ∃cs,w.heap[b]?=some (.cells cs t (0,0)))(l:t≠79)(j:Nat)(u:Value):USh (w.setCell ⟨b,j,none⟩ u) vh vb lo hi na bs i0:=by
 obtain⟨R,f⟩:=f;have hK:Keep (fun k=>k≠b) w (w.setCell ⟨b,j,none⟩ u):=kSc;refine⟨h.hd.set _ _ _,?_,fun d r=>(h.br d r).set _ _ _⟩;obtain⟨a,c,x,m⟩:=h.bd;refine⟨a,c,x,fun s=>?_⟩;obtain⟨g,cs,p,y,z,i,v,q⟩:=m s;exact⟨g,cs,p,y,z,hK.heap i (qcw i f (fun e=>l e.symm)),v,q⟩
theorem USh.keep (h:USh w vh vb lo hi na bs i0){w':World}{C:Nat->Prop}(hK:Keep C w w')(e: ∀b,b<hi->C b):USh w' vh vb lo hi na bs i0:=by
 refine⟨h.hd.keep hK e,?_,fun d m=>(h.br d m).keep hK e⟩;obtain⟨a,c,s,j⟩:=h.bd;refine⟨a,c,s,fun q=>?_⟩;obtain⟨g,i,k,t,f,p,r,l⟩:=j q;exact⟨g,i,k,t,f,hK.heap p (e g f),r,l⟩
theorem USh.later (h:USh w vh vb lo hi na bs i0){i:Nat}(p:i0<=i):USh w vh vb lo hi na bs i:=by
 refine⟨h.hd,?_,h.br⟩;obtain⟨a,c,s,f⟩:=h.bd;refine⟨a,c,s,fun q=>?_⟩;obtain⟨g,b,j,t,u,m,r,l⟩:=f q;exact⟨g,b,j,t,u,m,r,fun k d v e=>l k d xz e⟩
theorem USh.litAt {a:Option Addr}{n c:Nat}(h:USh w vh (.slice a n c) lo hi na bs i0){i:Nat}{d:Value×Nat}(e:i0<=i)(l:bs[i]?=some d):
  ∃g,a=some ⟨g,0,none⟩/\lo<=g/\g<hi/\g<w.heap.size/\w.cell? ⟨g,i*7+2,none⟩=some d.1/\ ∀j,j<7->(∃u,w.cell? ⟨g,i*7+j,none⟩=some u)/\w.frozen? ⟨g,i*7+j,none⟩=false:=by
 have s:=(zA.1 l).1;obtain⟨a',y,t,p⟩:=h.bd;cases t;obtain⟨g,m,q,v,x,b,R,r⟩:=p xz;have k:=qb b (i*7+2) _ (by rw [xg];exact r i d e l);rw [zD]at k;refine⟨g,q,v,x,qe b,k,fun j z=>?_⟩;have f:=qb b (i*7+j) (m[i*7+j]' xz) (by rw [xg];exact xQ xz);rw [zD]at f;exact⟨⟨_,f⟩,qg b _⟩
theorem USh.set_lit {g n c:Nat}(h:USh w vh (.slice (some ⟨g,0,none⟩) n c) lo hi na bs i0){i:Nat}(r:i0=i+1)(t:i<bs.length)(j:Nat)(Y:j<7)(u:Value):USh (w.setCell ⟨g,i*7+j,none⟩ u) vh (.slice (some ⟨g,0,none⟩) n c) lo hi na bs i0:=by
 obtain⟨a',R,x,f⟩:=h.bd;cases x;obtain⟨X,U,l,y,z,q,v,m⟩:=f xz;cases l;refine⟨h.hd.set _ _ _,⟨_,c,rfl,fun hl=>⟨g,_,rfl,y,z,qz _ u q,by simpa using v,fun k b e s=>?_⟩⟩,fun d p=>(h.br d p).set _ _ _⟩;rw [Array.getElem?_setIfInBounds_ne xz];exact m k b e s
theorem q3t {base:Nat}{r:RuleD}(h:RuleOwn base 79 77 w vh vb r): ∃bs,bs.length=r.body.length/\(∀d,d∈bs-> ∃L,L∈r.body/\d.2=L.atom.args.length)/\USh w vh vb base w.heap.size r.head.args.length bs 0:=by
 obtain⟨k,ps,e,l,m⟩:=h;have f:ps.length=r.body.length:=by rw [←e,zL]
 refine⟨ps.map fun q=>(q.2,q.1.atom.args.length),by rw [zL,f],fun d b=>?_,HasRow.own k,?_,fun d b=>?_⟩
 ·obtain⟨q,c,rfl⟩:=yK.1 b;exact⟨q.1,by rw [←e];exact yK.2 ⟨q,c,rfl⟩,rfl⟩
 ·rcases l.2 with ⟨rfl,h0⟩ |⟨g,cap,cur,rfl,hb,hg,hnc,hcm,hcs,ht⟩
  ·exact⟨none,0,by rw [zL,f,h0],fun h=>by rw [zL] at h;omega⟩
  ·refine⟨_,cap,by rw [zL,f],fun _=>⟨g,cur,rfl,hb,qe hg,hg,by rw [zL];omega,fun i d _ b=>?_⟩⟩;rw [zP]at b;obtain⟨q,c,rfl⟩:=xN.1 b;have p:i<ps.length:=(zA.1 c).1;have j:=qas qbn 7 (fun _=>rfl) ps i 2 q c wC;rw [←ht,getElem?_take,zI xz,xg]at j;exact j
 ·obtain⟨q,c,rfl⟩:=yK.1 b;exact HasRow.own (m q c)
theorem LentL.row {base:Nat}{ls:List LitD}(h:LentL base w vb ls):HasRow w 79 7 base w.heap.size ls.length vb:=by
 obtain⟨g,cap,ps,rfl,f,p,q⟩:=h;obtain⟨a,c,e,i⟩:=HasRow.own f;cases e;obtain⟨d,b,j,l,m,k,r⟩:=i xz;exact⟨_,_,rfl,fun _=>⟨d,b,j,l,m,k,xz⟩⟩
end Go.Proofs

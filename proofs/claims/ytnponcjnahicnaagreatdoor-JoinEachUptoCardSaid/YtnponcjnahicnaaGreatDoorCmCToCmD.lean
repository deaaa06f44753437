/- Parts of the proof. -/
import Derived.Test.YtnponcjnahicnaaGreatDoorEcBToCmB
set_option linter.unusedSimpArgs false
set_option linter.unusedVariables false
set_option maxRecDepth 100000
set_option maxHeartbeats 4000000
open Go.Proofs.Tryz(prog)
open List(getElem_cons_succ getElem_cons_zero getElem_toArray length_cons length_nil length_range length_singleton set_cons_succ set_cons_zero)
namespace Go.Proofs
open Go.RowKit Go.Ink Go.Flt R4 P16
attribute [local go_sem] Oper.semAt_some
theorem qri (n:Nat)(r:RuleD)(sh sb:Value)(w:World)(hr:RuleIn n w sh sb r)(hn:n<=w.heap.size):
  Calls prog 59 #[qaq r sh sb] w fun e w'=> ∃vh vb,e=.returned (qaq r vh vb)/\RuleOwn w.heap.size 79 77 w' vh vb r/\Keep (fun b=>b<w.heap.size) w w':=by
 obtain⟨⟨pr,args⟩,body⟩:=r;obtain⟨hh,hb⟩:=id hr;unfold qaq;simp only at hh hb⊢;obtain⟨aa,ca,rfl,dx,dN,-⟩:=id hh;obtain⟨ab,cb,rfl,dy,ec,-⟩:=id hb;obtain⟨b8,cV⟩:=qea hh;obtain⟨ps,b7,a7,b6,cT⟩:=qqt hb;have aE:ps.length=body.length:=by have:=yN List.length b7;rwa [zL] at this
 have bH:=qu8 a7;obtain⟨N,hN⟩:=ex (w.heap.size);have cO:=fun W (hK:Keep (fun b=>b<w.heap.size) w W)=>qhf aa args.length ca (qae args) W (qei args) (fun b hb j u hj=>hK.cell (b8 b hb j u hj) (zQ w _ (b8 b hb j u hj))) cV (qht args) dx;have cP:=fun W (hK:Keep (fun b=>b<w.heap.size) w W)=>qmp ab body.length cb (ps.flatMap qdf) W (by rw [qa4 qdf 7 (fun _=>rfl),aE]) (fun b hb j u hj=>hK.cell (b6 b hb j u hj) (zQ w _ (b6 b hb j u hj))) cT bH dy;have cQ:=fun p (hp:p∈ps) W (hK:Keep (fun b=>b<w.heap.size) w W)=>show∀a c,p.2=.slice a p.1.atom.args.length c->_ from fun a c e=>
  have hs:=qea (e▸a7 p hp)
  qhf a p.1.atom.args.length c (qae p.1.atom.args) W (qei _) (fun b hb j u hj=>hK.cell (hs.1 b hb j u hj) (zQ w _ (hs.1 b hb j u hj))) hs.2 (qht _) (by obtain⟨_,_,_,h,_⟩:=a7 p hp;exact h)
 clear hh hb hr b8 cV b6 cT bH;refine hd7 ?_ cO cP cQ b7 a7 aE hN;clear cO cP cQ b7 a7 aE hN;intro bw aX cr cv cw aq aA;obtain⟨W0,aR⟩:=ex ((w.alloc (.cells #[.string pr,.slice aa args.length ca,.slice ab body.length cb] 27)).alloc (.cells #[.string ⟨#[]⟩,.slice none 0 0,.slice none 0 0] 27));have k0:wE w W0:=by rw [←aR];exact kAl.trans kAl
 have z0:W0.heap.size=N+2:=by rw [←aR,←aA.o];simp
 have g1:W0.heap[N]?=some (.cells #[.string pr,.slice aa args.length ca,.slice ab body.length cb] 27 (0,0)):=by rw [←aR,←aA.o];exact(Keep.alloc (fun _=>True) _ _).heap (qh w _) trivial
 have g2:W0.heap[N+1]?=some (.cells #[.string ⟨#[]⟩,.slice none 0 0,.slice none 0 0] 27 (0,0)):=by
  rw [←aR,←aA.o];have:=qh (w.alloc (.cells #[.string pr,.slice aa args.length ca,.slice ab body.length cb] 27)) (.cells #[.string ⟨#[]⟩,.slice none 0 0,.slice none 0 0] 27);rw [zO]at this;exact this
 have hS: ∀X,wE W0 X->(X.cell? ⟨N,0,none⟩=some (.string pr)/\X.cell? ⟨N,1,none⟩=some (.slice aa args.length ca)/\X.cell? ⟨N,2,none⟩=some (.slice ab body.length cb)):=fun X hX=>by
  have q:=hX.heap g1 trivial;have q0:=qb q 0 _ rfl;have q1:=qb q 1 _ rfl;have q2:=qb q 2 _ rfl;simp only [zD]at q0 q1 q2;exact⟨q0,q1,q2⟩
 have cc:wE W0 W0.drew:=kDr;have cL:=hS _ cc;refine hd7 ?_ aR k0 g1 g2 hS cc cL;clear aR k0 g1 g2 hS cc cL;intro co aQ dW dk Y cz dE;refine qbr Tryz.func59 rfl ?_;simp only [Tryz.ntmps59,qdy,Nat.reduceAdd,Nat.reduceSub];gi_wp2;rw [co.o,aA.o];refine xq (Q:=qtq fun a X=> ∃B ag ah ad U u5 u6 u7 u8 u9 u10 u11 u12 u13 u14 u15 u16,(X.heap[B]?=some (.cells #[.string pr,.slice ag args.length ah,.slice ad body.length U] 27 (0,0))/\N+2<=B/\wE W0 X/\X.ownsRow (N+2) 77 2 (.slice ag args.length ah) args.length (qae args)/\X.ownsRow (N+2) 79 7 (.slice ad body.length U) body.length (ps.flatMap qdf))/\a=⟨#[.agg #[.string pr,.slice aa args.length ca,.slice ab body.length cb],.pointer (some ⟨N,0,none⟩),.pointer (some ⟨N+1,0,none⟩),.pointer (some ⟨B,0,none⟩),undef,u5,u6,u7,u8,u9,u10,u11,u12,u13,u14,u15,u16,undef,undef,undef,undef,undef,undef,undef,undef,undef,undef,undef,undef,undef,undef,undef,undef,undef,undef,undef,undef,undef,undef],[]⟩) ?_ ?_
 ·refine qw rfl (fun X=>(X.cell? ⟨N,0,none⟩=some (.string pr)/\X.cell? ⟨N,1,none⟩=some (.slice aa args.length ca)/\X.cell? ⟨N,2,none⟩=some (.slice ab body.length cb))) [13] ?_;obtain⟨bN,a3⟩:=ex (W0.drew);have bo:=cz.o;rw [a3]at bo⊢;have cN:=Y.o _ bo;refine hd3 ?_ bo cN a3;clear bo cN a3;intro av cn dl;refine qq [0,1,2,3,4,5,8,9] ?_
  iterate 8
   refine tkB rfl cn.o ?_
   try simp only [qr]
  refine ql ?_;refine qgh (l:= [6,12]) wB wC (fun i hi=>?_);simp only [zw,yS,yf]at hi;rcases hi with rfl |rfl
  focus
   refine⟨_,rfl,fun K hK=>?_⟩;have au:=zg hK;clear hK;gi_wp2;refine⟨wF,rfl,(zU.2 (bw.o _ ((aQ.o.trans av.o).mt))).mono ?_⟩;rintro e aO ⟨vh,rfl,oh,bc⟩;obtain⟨ag,ah,rfl⟩:=qi oh;have bb:=av.o.trans bc;have y:=oh.mono (show N+2<=_ from zW wA av.o.size);clear oh bc;refine hd2 ?_ bb y;clear bb y;intro z s;gi_wp2;refine au.o _ _ (fun _=>Y.o _ z.o) ?_;clear au;have cM:=Y.o _ z.o;refine hd1 ?_ cM;clear cM;intro cm;refine qq [7] ?_
   iterate 1
    refine tkB rfl cm.o ?_
    try simp only [qr]
   refine ql ?_;refine qgh (l:= [10,12]) wB wC (fun i hi=>?_);simp only [zw,yS,yf]at hi;rcases hi with rfl |rfl
   focus
    refine⟨_,rfl,fun K hK=>?_⟩;have ai:=zg hK;clear hK;gi_wp2;refine⟨wF,rfl,(zU.2 (aX.o _ ((aQ.o.trans z.o).mt))).mono ?_⟩;rintro e az ⟨vb,rfl,ob,ao⟩;obtain⟨ad,U,rfl⟩:=qi ob;have ax:=z.o.trans ao;have ap:=ob.mono (show N+2<=_ from zW wA z.o.size);have x:=qf s.o ao (fun _ _=>wF);clear s;have y:=x;clear x;clear ob ao;refine hd3 ?_ ax ap y;clear ax ap y;intro t an s;gi_wp2;refine ai.o _ _ (fun _=>Y.o _ t.o) ?_;clear ai;have a1:=Y.o _ t.o;refine hd1 ?_ a1;clear a1;intro aV;refine qq [11] ?_
    iterate 1
     refine tkB rfl aV.o ?_
     try simp only [qr]
    refine ql ?_;refine hoR 12 rfl fun K aj=>?_;obtain⟨aP,aL⟩: ∃Wq,az.alloc (.cells #[.string ⟨#[]⟩,.slice none 0 0,.slice none 0 0] 27)=Wq:=⟨_,rfl⟩;obtain⟨B,hB⟩:=ex (az.heap.size);have R:aP.heap[B]?=some (.cells #[.string ⟨#[]⟩,.slice none 0 0,.slice none 0 0] 27 (0,0)):=by rw [←aL,←hB];exact qh _ _
    have af:wE az aP:=by rw [←aL];exact kAl
    have ay:=t.o.trans af;have bh:N+2<=B:=by rw [←hB];exact zW wA t.o.size
    have x:=qf s.o af (fun _ _=>wF);clear s;have y:=x;clear x;have bM:=qf an.o af (fun _ _=>wF);clear an;have ap:=bM;clear bM;clear af;refine hd6 ?_ ay R aL hB y ap;clear ay R aL hB y ap;intro ak d bR aU s an;gi_wp2;rw [bR.o,aU.o];refine aj.o _ _ (fun _=>Y.o _ ak.o) ?_;clear aj
   rotate_left
   focus
    refine⟨_,rfl,fun K hK=>?_⟩;have ai:=zg hK;clear hK;obtain⟨az,aK⟩: ∃Wq,aO.alloc (.cells #[.string ⟨#[]⟩,.slice none 0 0,.slice none 0 0] 27)=Wq:=⟨_,rfl⟩;obtain⟨B,hB⟩:=ex (aO.heap.size);have R:az.heap[B]?=some (.cells #[.string ⟨#[]⟩,.slice none 0 0,.slice none 0 0] 27 (0,0)):=by rw [←aK,←hB];exact qh _ _
    have ao:wE aO az:=by rw [←aK];exact kAl
    have ax:=z.o.trans ao;have bh:N+2<=B:=by rw [←hB];exact zW wA z.o.size
    have x:=qf s.o ao (fun _ _=>wF);clear s;have y:=x;clear x;clear ao;refine hd5 ?_ ax R aK hB y;clear ax R aK hB y;intro t d bQ aU s;gi_wp2;rw [bQ.o,aU.o];refine ai.o _ _ (fun _=>Y.o _ t.o) ?_;clear ai;refine hoR 10 rfl fun K aj=>?_;gi_wp2;refine⟨wF,rfl,(zU.2 (aX.o _ ((aQ.o.trans t.o).mt))).mono ?_⟩;rintro e aP ⟨vb,rfl,ob,af⟩;obtain⟨ad,U,rfl⟩:=qi ob;have ay:=t.o.trans af;have ap:=ob.mono (show N+2<=_ from zW wA t.o.size);have x:=qf s.o af (fun _ _=>wF);clear s;have y:=x;clear x;have am:=af.heap d.o trivial;clear d;have R:=am;clear am;clear ob af;refine hd4 ?_ ay ap y R;clear ay ap y R;intro ak an s d;gi_wp2;refine aj.o _ _ (fun _=>Y.o _ ak.o) ?_;clear aj;have a2:=Y.o _ ak.o;refine hd1 ?_ a2;clear a2;intro aW;refine qq [11] ?_
    iterate 1
     refine tkB rfl aW.o ?_
     try simp only [qr]
    refine ql ?_
   rotate_left
  rotate_left 2
  focus
   refine⟨_,rfl,fun K hK=>?_⟩;have au:=zg hK;clear hK;obtain⟨aO,aJ⟩: ∃Wq,bN.alloc (.cells #[.string ⟨#[]⟩,.slice none 0 0,.slice none 0 0] 27)=Wq:=⟨_,rfl⟩;obtain⟨B,hB⟩:=ex (bN.heap.size);have R:aO.heap[B]?=some (.cells #[.string ⟨#[]⟩,.slice none 0 0,.slice none 0 0] 27 (0,0)):=by rw [←aJ,←hB];exact qh _ _
   have bc:wE bN aO:=by rw [←aJ];exact kAl
   have bb:=av.o.trans bc;have bh:N+2<=B:=by rw [←hB];exact zW wA av.o.size
   clear bc;refine hd4 ?_ bb R aJ hB;clear bb R aJ hB;intro z d bP aU;gi_wp2;rw [bP.o,aU.o];refine au.o _ _ (fun _=>Y.o _ z.o) ?_;clear au;refine hoR 6 rfl fun K ai=>?_;gi_wp2;refine⟨wF,rfl,(zU.2 (bw.o _ ((aQ.o.trans z.o).mt))).mono ?_⟩;rintro e az ⟨vh,rfl,oh,ao⟩;obtain⟨ag,ah,rfl⟩:=qi oh;have ax:=z.o.trans ao;have y:=oh.mono (show N+2<=_ from zW wA z.o.size);have am:=ao.heap d.o trivial;clear d;have R:=am;clear am;clear oh ao;refine hd3 ?_ ax y R;clear ax y R;intro t s d;gi_wp2;refine ai.o _ _ (fun _=>Y.o _ t.o) ?_;clear ai;have a1:=Y.o _ t.o;refine hd1 ?_ a1;clear a1;intro aV;refine qq [7] ?_
   iterate 1
    refine tkB rfl aV.o ?_
    try simp only [qr]
   refine ql ?_;refine hoR 10 rfl fun K aj=>?_;gi_wp2;refine⟨wF,rfl,(zU.2 (aX.o _ ((aQ.o.trans t.o).mt))).mono ?_⟩;rintro e aP ⟨vb,rfl,ob,af⟩;obtain⟨ad,U,rfl⟩:=qi ob;have ay:=t.o.trans af;have ap:=ob.mono (show N+2<=_ from zW wA t.o.size);have x:=qf s.o af (fun _ _=>wF);clear s;have y:=x;clear x;have am:=af.heap d.o trivial;clear d;have R:=am;clear am;clear ob af;refine hd4 ?_ ay ap y R;clear ay ap y R;intro ak an s d;gi_wp2;refine aj.o _ _ (fun _=>Y.o _ ak.o) ?_;clear aj;have a2:=Y.o _ ak.o;refine hd1 ?_ a2;clear a2;intro aW;refine qq [11] ?_
   iterate 1
    refine tkB rfl aW.o ?_
    try simp only [qr]
   refine ql ?_
  all_goals
   refine hoR 13 rfl fun K ck=>?_;have dn:=qb d.o 0 _ rfl;have dp:=qb d.o 1 _ rfl;have dq:=qb d.o 2 _ rfl;have d6:=qg d.o 0;have d7:=qg d.o 1;have d8:=qg d.o 2;have ej:=qe d.o;simp only [zD]at dn dp dq;obtain⟨W9,bj⟩:=ex (((aP.setCell ⟨B,0,none⟩ (.string pr)).setCell ⟨B,1,none⟩ (.slice ag args.length ah)).setCell ⟨B,2,none⟩ (.slice ad body.length U));have k9:Keep (fun b=>b≠B) aP W9:=by rw [←bj];exact((kSc).trans (kSc)).trans (kSc)
   have b9:W9.heap[B]?=some (.cells #[.string pr,.slice ag args.length ah,.slice ad body.length U] 27 (0,0)):=by rw [←bj];exact qaj 2 _ (qaj 1 _ (qaj 0 _ d.o))
   have cZ:wE W0 W9:=((ak.o.mt.trans k9).mono fun b hb _=>wA);have c8:=qf s.o k9 (fun b hb e=>by subst e;obtain⟨cs,ar⟩:=qba s.o hb;rw [d.o] at ar;injection ar with ar;injection ar with _ h2 _;revert h2;decide);have c6:=qf an.o k9 (fun b hb e=>by subst e;obtain⟨cs,ar⟩:=qba an.o hb;rw [d.o] at ar;injection ar with ar;injection ar with _ h2 _;revert h2;decide);clear k9;refine hd5 ?_ bj b9 cZ c8 c6;clear bj b9 cZ c8 c6;intro cq dj cy cF cD;gi_wp2;rw [cq.o];refine ck.o _ _ (fun h=>absurd h wD) ?_;refine qz wB (qah ?_);exact⟨B,ag,ah,ad,U,_,_,_,_,_,_,_,_,_,_,_,_,⟨dj.o,bh,cy.o,cF.o,cD.o⟩,rfl⟩
 ·rintro e dY X hR;cases e with
  |normal=>
   obtain⟨B,ag,ah,ad,U,u5,u6,u7,u8,u9,u10,u11,u12,u13,u14,u15,u16,⟨b4,bh,cY,c7,c5⟩,rfl⟩:=hR
   dsimp only
   obtain⟨W4,du⟩: ∃W4,W4=X:=⟨_,rfl⟩;subst du;have r4:=cY.heap dk.o trivial;have c4:Keep (fun b=>b<N) w W4:=(aQ.o.trans cY).mt;have cI:=qb b4 2 _ rfl;simp only [zD]at cI;have eg:B<W4.heap.size:=qe b4;refine hd5 ?_ b4 c7 c5 c4 r4;clear b4 c7 c5 c4 r4;intro di cE cC cB dm;gi_wp2;clear cI;gi_loopw [20] (fun i' wr=> ∃(k:Nat) (qs:List (LitD×Value)),k<=body.length/\i'=.int .i64 (k:Int)/\wr.heap[B]?=some (.cells #[.string pr,.slice ag args.length ah,.slice ad body.length U] 27 (0,0))/\Keep (fun b=>b<N+2) W4 wr/\qs.length=k/\qs.map (·.1)=body.take k/\
    wr.ownsRow (N+2) 79 7 (.slice ad body.length U) body.length ((qs++ps.drop k).flatMap qdf)/\wr.ownsRow (N+2) 77 2 (.slice ag args.length ah) args.length (qae args)/\
    (∀p,p∈qs->wr.ownsRow (N+2) 77 2 p.2 p.1.atom.args.length (qae p.1.atom.args))) (fun i _=>body.length-(intOf i).toNat)
   case atStart=>exact⟨0,[],wA,rfl,di.o,Keep.refl _ _,rfl,rfl,cC.o,cE.o,wC⟩
   case round=>
    obtain⟨k,qs,hk,rfl,bx,hK,aS,a8,aw,bk,bn⟩:=hrel;have eh:=hK.size;have c2:=qb bx 2 _ rfl;simp only [zD]at c2;have ea:B<wr.heap.size:=qe bx;have kw:Keep (fun b=>b<w.heap.size) w wr:=(cB.o.mono fun b _ h=>by have:=aA.o;omega).trans (hK.mono fun b _ h=>by have:=aA.o;omega);by_cases dz:k<body.length
    ·have dO:(k:Int)<body.length:=by omega
     have ef:(0:Int)<=k:=wA
     obtain⟨p,hp⟩: ∃p,ps[k]?=some p:=⟨_,zB (by rw [aq.o];exact dz)⟩;obtain⟨g,rfl⟩: ∃g,ad=some ⟨g,0,none⟩:=by
      rcases aw.2 with ⟨h1,h2⟩ |⟨g,_,_,h1,_⟩
      ·omega
      ·cases h1;exact⟨g,rfl⟩
     have aD:ps.drop k=p::ps.drop (k+1):=by
      have dw:=(zA.1 hp).1;have:=zt dw;rw [(zA.1 hp).2]at this;exact this
     have bl:=zH hp;obtain⟨cG,cJ,bm,-,-,-⟩:=id (cw.o p bl);have cR:=cr.o p bl wr.drew (kw.trans kDr) cG cJ bm;have b5:wr.cell? ⟨g,k*7+2,none⟩=some p.2:=by
      have:=qbd aw (k*7+2) p.2 (by rw [aD,qbf qdf 7 (fun _=>rfl) (qs++p::ps.drop (k+1)) k 2 p (by rw [yH wA,aS];simp) wA];rfl);exact this
     rw [bm]at b5;have dv:=(qes aw);have cU:body[k]?=some p.1:=by rw [←cv.o,zP,hp];rfl
     have cW:(k*7+2)<((qs++ps.drop k).flatMap qdf).length:=by
      rw [qa4 qdf 7 (fun _=>rfl),zR,xu,aS,aq.o];omega
     have ee:g<wr.heap.size:=dv.2.2.1;clear hp;refine qk2 ?_ hK aS a8 aw bk bn bx kw aD bl cR cU bm cW;clear hK aS a8 aw bk bn bx kw aD bl cR cU bm cW;intro cj aY aZ aG aH a0 bO cA bf dF ct cu dG cx;gi_wp2;refine qag ?_;refine qw rfl (fun W=>W.cell? ⟨B,2,none⟩=some (.slice (some ⟨g,0,none⟩) body.length U)/\W.cell? ⟨g,k*7+2,none⟩=some (.slice cG p.1.atom.args.length cJ)) [14] ?_;have bv:=zg (And.intro c2 b5);refine qq [0,1,2,3,4,5,6,7,8,9] ?_
     iterate 10
      refine tkB rfl bv.o ?_
      try simp only [qr]
     refine ql ?_;refine qf7 (i:=10) rfl wB (fun KK ae=>?_);have bq:=zg ae;clear ae;simp only [getElem_toArray,getElem_cons_zero,getElem_cons_succ,Act.put,yK,set_cons_zero,set_cons_succ,zD];gi_wp2;refine⟨wF,rfl,(zU.2 ct.o).mono ?_⟩;rintro e W5 ⟨v',rfl,o5,k5⟩;have n0:=k5.cell (show wr.drew.cell? ⟨B,2,none⟩=_ from c2) trivial;have n1:=k5.cell (show wr.drew.cell? ⟨g,k*7+2,none⟩=_ from b5) trivial;have dC:=k5.size;simp only [World.size_drew]at dC;obtain⟨aB,aC,rfl⟩:=qi o5;gi_wp2;refine bq.o _ _ (fun _=>⟨n0,n1⟩) ?_;refine qf7 (i:=11) rfl wB (fun KK ae=>?_);have br:=zg ae;clear ae;gi_wp2;refine br.o _ _ (fun _=>⟨n0,n1⟩) ?_;refine qf7 (i:=12) rfl wB (fun KK ae=>?_);have bs:=zg ae;clear ae;gi_wp2;refine bs.o _ _ (fun _=>⟨n0,n1⟩) ?_;refine qf7 (i:=13) rfl wB (fun KK ae=>?_);have bt:=zg ae;clear ae;gi_wp2;refine bt.o _ _ (fun _=>⟨n0,n1⟩) ?_;refine qf7 (i:=14) rfl wB (fun KK ae=>?_);have bu:=zg ae;clear ae;have aF:wE wr W5:=kDr.trans k5;have a4:=qf aG.o aF (fun _ _=>wF);obtain⟨d5,ba⟩:=qba a4 (b:=g) rfl;have dD:=qg ba (k*7+2);have ed:=qe ba;obtain⟨W6,bi⟩:=ex (W5.setCell ⟨g,k*7+2,none⟩ (.slice aB p.1.atom.args.length aC));have k6:Keep (fun b=>b≠g) W5 W6:=by rw [←bi];exact kSc
     have aM:=qh6 a4 (k*7+2) (.slice aB p.1.atom.args.length aC) cx.o;rw [bi,bf.o]at aM;have a9:=qyh qs (ps.drop (k+1)) p (.slice aB p.1.atom.args.length aC);rw [aY.o]at a9;rw [a9]at aM;have aN: ∀(base:Nat) (v:Value) (m:Nat) (xs:List Value),W5.ownsRow base 77 2 v m xs-> ∀b,v.ownBlock=some b->b≠g:=fun base v m xs h b hb e=>by
      obtain⟨c2,t2⟩:=qba h hb;rw [e,ba]at t2;cases t2
     have a6:=qf aH.o aF (fun _ _=>wF);have bG:=qf a6 k6 (aN _ _ _ _ a6);have cH:W6.heap[B]?=some (.cells #[.string pr,.slice ag args.length ah,.slice (some ⟨g,0,none⟩) body.length U] 27 (0,0)):=k6.heap (aF.heap bO.o wF) (fun e=>by subst e;have h9:=aF.heap bO.o trivial;rw [ba] at h9;injection h9 with h9;injection h9 with _ h2 _;revert h2;decide);have cK:Keep (fun b=>b<N+2) W4 W6:=(cj.o.trans aF.mt).trans (k6.mono fun b _ h=>wA);have o6:=(qf o5 k6 (aN _ _ _ _ o5)).mono (show N+2<=wr.heap.size from wA);have bL: ∀q,q∈qs++ [(p.1,Value.slice aB p.1.atom.args.length aC)]->W6.ownsRow (N+2) 77 2 q.2 q.1.atom.args.length (qae q.1.atom.args):=fun q hq=>by
      rcases zr.1 hq with h |h
      ·have h1:=qf (a0.o q h) aF (fun _ _=>wF);exact qf h1 k6 (aN _ _ _ _ h1)
      ·simp only [zm]at h;subst h;exact o6
     have bK:(qs++ [(p.1,Value.slice aB p.1.atom.args.length aC)]).map (·.1)=body.take (k+1):=by
      rw [zn,aZ.o,zh,cu.o];rfl
     have bJ:(qs++ [(p.1,Value.slice aB p.1.atom.args.length aC)]).length=k+1:=by rw [zR,aY.o];rfl
     have a5:W6.ownsRow (N+2) 79 7 (.slice (some ⟨g,0,none⟩) body.length U) body.length (((qs++ [(p.1,Value.slice aB p.1.atom.args.length aC)])++ps.drop (k+1)).flatMap qdf):=by
      rw [yr];exact aM
     clear aF a4 ba k6 aM a9 aN a6 k5 o5 o6;refine hd8 ?_ cH bi a5 bG cK bL bK bJ;clear cH bi a5 bG cK bL bK bJ;intro ci cp bg bS cl bW bV bU;gi_wp2;refine bu.o _ _ (fun h=>absurd h wD) ?_;refine qz wB (qah ?_);clear bv bq br bs bt bu n0 n1 dD;rw [cp.o];gi_wp2;go_roundw
     case rel=>exact⟨k+1,_,wA,by go_num,ci.o,cl.o,bU.o,bV.o,bg.o,bS.o,bW.o⟩
     case measure=>simp [intOf];omega
    ·obtain rfl:k=body.length:=by omega
     have cS:ps.drop body.length= []:=by rw [xk (by rw [aq.o];exact zG _)]
     rw [cS,yP]at aw;rw [zi]at a8;have c0:=qb bx 0 _ rfl;have c1:=qb bx 1 _ rfl;have rx:=hK.heap dm.o (show N+1<N+2 from wA);have d0:=qb rx 0 _ rfl;have d1:=qb rx 1 _ rfl;have d2:=qb rx 2 _ rfl;have f0:=qg rx 0;have f1:=qg rx 1;have f2:=qg rx 2;simp only [zD]at c0 c1 d0 d1 d2;have ds:N+1<wr.heap.size:=qe rx;clear cS;refine hd9 ?_ hK aS a8 aw bk bn bx kw rx;clear hK aS a8 aw bk bn bx kw rx;intro cj aY aZ aG aH a0 bO cA dX;gi_wp2;refine yA (v:=.agg #[.string pr,.slice ag args.length ah,.slice ad body.length U]) (by simp [results,Tryz.results59,go_sem,d0,d1,d2,ds]) rfl ?_;have kS:Keep (fun b=>b≠N+1) wr (((wr.setCell ⟨N+1,0,none⟩ (.string pr)).setCell ⟨N+1,1,none⟩ (.slice ag args.length ah)).setCell ⟨N+1,2,none⟩ (.slice ad body.length U)):=
      ((kSc).trans (kSc)).trans (kSc)
     have d9:=aA.o;refine⟨_,_,rfl,⟨(qf aH.o kS (fun b hb=>by have:=(zE aH.o b hb).1;omega)).mono wA,qs,aZ.o,(qf aG.o kS (fun b hb=>by have:=(zE aG.o b hb).1;omega)).mono wA,fun q hq=>?_⟩,cA.o.trans (kS.mono fun b _ h=>wA)⟩;have h1:=a0.o q hq;exact(qf h1 kS (fun b hb=>by have:=(zE h1 b hb).1;omega)).mono wA
  |ret=>exact hR.elim
  |exit _=>exact hR.elim
  |goto _=>exact hR.elim
  |panic _=>exact hR.elim
  |outgrown=>exact hR.elim
end Go.Proofs
namespace Go.Proofs
open Go.RowKit Go.Ink Go.Flt R4 P16
def qbw (r:RuleD)(i:Nat):List ByteArray:=(r.body.take i).foldl (fun vs L=>qa8 vs (qm L)) (qa8 [] r.head.args)
theorem qi3 (r:RuleD){i:Nat}{L:LitD}(h:r.body[i]?=some L):qbw r (i+1)=qa8 (qbw r i) (qm L):=by
 unfold qbw;rw [zh,h,yl]
 rfl
def qex (body:List LitD)(i:Nat):List Int:=((List.range i).filter fun j=>qbg body j==1).map fun j:Nat=>(j:Int)
theorem qpz (body:List LitD)(i:Nat):qex body (i+1)=qex body i++if qbg body i=1 then [(i:Int)] else []:=by
 unfold qex;rw [xx,yT,zn];by_cases h:qbg body i=1
 ·simp [h]
 ·simp [h]
theorem qr0 (body:List LitD)(i:Nat):(qex body i).length<=i:=by
 unfold qex;rw [zL];exact zW (yd _ _) (by rw [length_range];exact zG _)
def q40 (Z:Nat)(X:World)(ct:Value)(Ls:List LitD)(vars:List ByteArray):Prop:=
 ∃us:List Value,us.length=Ls.length/\X.ownsRow Z 127 1 ct us.length us/\ ∀(k:Nat) (u:Value) (L:LitD),us[k]?=some u->Ls[k]?=some L->X.ownsRow Z 132 2 u (qm L).length (((qm L).map (qa3 vars)).flatMap qfu)
structure CmSt (Z:Nat)(X:World)(Bm M Bjj J:Nat)(c0 c1 c2 vv ca ct ch:Value)(r:RuleD)(vars:List ByteArray)(i k:Nat):Prop where
 cm:CmAt X Bm M Bjj J c0 c1 c2 vv ca ct ch vars
 z:Z<=J/\Z<=M/\ ∀b,vv.ownBlock=some b->Z<=b
 pos:X.ownsRow Z 3 1 ca (qex r.body k).length ((qex r.body k).map (.int .i64))
 acc:q40 Z X ct (r.body.take i) vars
 head:X.ownsRow Z 132 2 ch r.head.args.length ((r.head.args.map (qa3 vars)).flatMap qfu)
 hv: ∀t,t∈r.head.args->qeq vars t
 lv: ∀L t,L∈r.body.take i->t∈qm L->qeq vars t
theorem qe4 {w:World}{base:Nat}{e:TypeId}{sz n:Nat}{v:Value}{xs:List Value}(h:w.ownsRow base e sz v n xs){b:Nat}{p:Array Value}{t:TypeId}{d:Nat×Nat}(g:w.heap[b]?=some (.cells p t d))(m:e≠t):v.ownBlock≠some b:=fun l=>by
 obtain⟨q,c⟩:=qba h l;rw [g]at c;injection c with c
 injection c with _ h2 _
 exact m h2.symm
theorem qmx {w:World}{base:Nat}{e:TypeId}{sz n:Nat}{v:Value}{xs:List Value}(h:w.ownsRow base e sz v n xs){b:Nat}{m:List (ByteArray×Nat)}(g:qrd w b m):v.ownBlock≠some b:=fun l=>by
 obtain⟨q,d⟩:=qba h l;obtain⟨s,c,p,_⟩:=g;rw [p]at d;cases d
theorem qki {w w':World}{Bm M Bjj J:Nat}{d g l vv m q p:Value}{vars:List ByteArray}(h:CmAt w Bm M Bjj J d g l vv m q p vars)(hK:Keep (fun b=>b≠J/\b≠M/\vv.ownBlock≠some b) w w'){base:Nat}{e:TypeId}{sz n:Nat}{v:Value}{xs:List Value}(ho:w.ownsRow base e sz v n xs)(s:e≠129)(t:e≠9):w'.ownsRow base e sz v n xs:=
 qf ho hK fun b c=>⟨fun e=>by subst e;exact qe4 ho h.box s c,fun e=>by subst e;exact qmx ho h.nums c,fun e=>qc4 h.own ho (fun e=>t e.symm) e c⟩
theorem CmSt.slots {Z:Nat}{X Y:World}{Bm M Bjj J:Nat}{q s v vv g x R y:Value}{r:RuleD}{i k:Nat}{L:LitD}(h:CmSt Z X Bm M Bjj J q s v vv x R y r (qbw r i) i k)(hL:r.body[i]?=some L)(hz:Z<=X.heap.size)
  (hC:CmAt Y Bm M Bjj J q s v g x R y (qa8 (qbw r i) (qm L))) (hK:Keep (fun b=>b≠J/\b≠M/\vv.ownBlock≠some b) X Y) (U: ∀b,g.ownBlock=some b->vv.ownBlock=some b∨X.heap.size<=b):CmSt Z Y Bm M Bjj J q s v g x R y r (qbw r (i+1)) i k:=by
 have e:=qi3 r hL;have l: ∀t,qeq (qbw r i) t->qeq (qbw r (i+1)) t:=fun t d hv=>by rw [e];exact(qd5 _ _).1 _ (d hv)
 have m: ∀ts:List TermD,(∀t,t∈ts->qeq (qbw r i) t)->ts.map (qa3 (qbw r (i+1)))=ts.map (qa3 (qbw r i)):=fun ts d=>xA fun t h=>by rw [e];exact qr7 (d t h)
 refine⟨by rw [e];exact hC,⟨h.z.1,h.z.2.1,fun b hb=>(U b hb).elim (h.z.2.2 b) (fun h=>wA)⟩,qki h.cm hK h.pos wD wD,?_,?_,fun t d=>l t (h.hv t d),fun p t c d=>l t (h.lv p t c d)⟩
 ·obtain⟨us,h1,h2,h3⟩:=h.acc;refine⟨us,h1,qki h.cm hK h2 wD wD,fun k u p hu c=>?_⟩;rw [m _ (fun t d=>h.lv p t (zH c) d)];exact qki h.cm hK (h3 k u p hu c) wD wD
 ·rw [m _ h.hv];exact qki h.cm hK h.head wD wD
theorem CmSt.all {Z:Nat}{X Y:World}{Bm M Bjj J:Nat}{b c d vv e l g:Value}{r:RuleD}{vars:List ByteArray}{i k:Nat}(h:CmSt Z X Bm M Bjj J b c d vv e l g r vars i k)(hK:wE X Y):CmSt Z Y Bm M Bjj J b c d vv e l g r vars i k:=by
 refine⟨h.cm.all hK,h.z,qf h.pos hK (fun _ _=>wF),?_,qf h.head hK (fun _ _=>wF),h.hv,h.lv⟩;obtain⟨v,m,p,q⟩:=h.acc;exact⟨v,m,qf p hK (fun _ _=>wF),fun k u L t s=>qf (q k u L t s) hK (fun _ _=>wF)⟩
theorem CmSt.term {Z:Nat}{X:World}{Bm M Bjj J:Nat}{c0 c1 c2 vv ca ch vo:Value}{y:Option Addr}{l R:Nat}{r:RuleD}{i k:Nat}{L:LitD}(h:CmSt Z X Bm M Bjj J c0 c1 c2 vv ca (.slice y l R) ch r (qbw r (i+1)) i k)(hL:r.body[i]?=some L)(aG:i<=1073741824)
  (ho:X.ownsRow Z 132 2 vo (qm L).length (((qm L).map (qa3 (qbw r (i+1)))).flatMap qfu)) (hz:Z<=X.heap.size) (h1:vo.oneCell'=true):
  l=i/\ ∃Y g cap,(Builtin.append_ #[126,126] 126 #[.slice y l R,.slice (some ⟨X.heap.size,0,none⟩) 1 1]).run prog (X.alloc (.cells #[vo] 127))=.ok (.slice (some ⟨g,0,none⟩) (l+1) cap) Y/\g<Y.heap.size/\X.heap.size<=Y.heap.size/\Keep (fun b=>b<Z) X Y/\
   (∀(b:Nat) (vs:Array Value) (t:TypeId),X.heap[b]?=some (.cells vs t (0,0))->t≠127->Y.heap[b]?=some (.cells vs t (0,0)))/\
   CmSt Z (Y.setCell ⟨J,5,none⟩ (.slice (some ⟨g,0,none⟩) (l+1) cap)) Bm M Bjj J c0 c1 c2 vv ca (.slice (some ⟨g,0,none⟩) (l+1) cap) ch r (qbw r (i+1)) (i+1) k:=by
 obtain⟨us,e1,U,e3⟩:=h.acc;have aA:i<r.body.length:=(zA.1 hL).1;have x:us.length=i:=by rw [e1,yC];omega
 obtain⟨a',c',hf⟩:=qi U;injection hf with hf1 hf2 hf3
 have ar:l=i:=by rw [hf2,x]
 subst hf1;subst hf3;rw [x]at U;subst ar;have el:qb2 prog 126 127 1 24:=qcl (z:=.slice none 0 0) wB wB rfl wD wD;obtain⟨v',Y,hr,au,kY,g,cap,hv,aF,hg⟩:=qc3 (P:=prog) el 126 U [vo] rfl (by simpa using h1) wA wA;subst hv;have s: ∀(b:Nat) (vs:Array Value) (t:TypeId),X.heap[b]?=some (.cells vs t (0,0))->t≠127->Y.heap[b]?=some (.cells vs t (0,0)):=fun b vs t q ht=>kY.heap q (fun e=>qe4 U q (fun e=>ht e.symm) e.symm);have p: ∀{base:Nat} {e:TypeId} {sz n:Nat} {v:Value} {xs:List Value},X.ownsRow base e sz v n xs->e≠127->Y.ownsRow base e sz v n xs:=fun h1 h2=>qf h1 kY (fun b q e=>qc4 h1 U h2 q e.symm);have d:CmAt Y Bm M Bjj J c0 c1 c2 vv ca (.slice y l R) ch (qbw r (l+1)):=⟨s _ _ _ h.cm.bm wD,h.cm.nums.keep kY (fun e=>qmx U h.cm.nums e.symm),s _ _ _ h.cm.bj wD,s _ _ _ h.cm.box wD,p h.cm.own wD⟩;obtain⟨⟨n1,n2,n3,n4,n5⟩,ax⟩:=d.apart;have kJ:Keep (fun b=>b≠J) Y (Y.setCell ⟨J,5,none⟩ (.slice (some ⟨g,0,none⟩) (l+1) cap)):=kSc;have m: ∀{base:Nat} {e:TypeId} {sz n:Nat} {v:Value} {xs:List Value},Y.ownsRow base e sz v n xs->e≠129->(Y.setCell ⟨J,5,none⟩ (.slice (some ⟨g,0,none⟩) (l+1) cap)).ownsRow base e sz v n xs:=fun h1 h2=>qf h1 kJ (fun b q e=>by subst e;exact qe4 h1 d.box h2 q);refine⟨rfl,Y,g,cap,hr,hg,kY.size,kY.mono fun b _ (q:b<Z) e=>by have:=(zE U b e.symm).1;omega,s,⟨⟨kJ.heap d.bm n4,d.nums.keep kJ n3.symm,kJ.heap d.bj n5,qaj 5 _ d.box,qf d.own kJ (fun b q=>(ax b q).2.2.2)⟩,h.z,m (p h.pos wD) wD,?_,m (p h.head wD) wD,h.hv,fun L' t c ht=>?_⟩⟩
 ·refine⟨us++ [vo],by rw [zR,e1,yC,yC];simp only [length_cons,length_nil];omega,?_,fun k' u L' hu c=>?_⟩
  ·rw [zR,length_singleton,x];exact m au wD
  ·by_cases ap:k'<us.length
   ·rw [yR ap]at hu;rw [xP wA]at c;exact m (p (e3 k' u L' hu (by rw [xP wA];exact c)) wD) wD
   ·have aq:k'=l:=by
     have:=(zA.1 c).1;rw [yC]at this;omega
    subst aq;rw [yH wA,x,xY]at hu;cases hu;rw [xP wA,hL]at c;cases c;exact m (p ho wD) wD
 ·rw [zh,hL]at c;rcases zr.1 c with c |c
  ·exact h.lv L' t c ht
  ·simp only [Option.toList_some,zm]at c;subst c;intro hv;rw [qi3 r hL];exact(qd5 _ _).2.2.2.1 t ht hv
theorem CmSt.at {Z:Nat}{X:World}{Bm M Bjj J:Nat}{c0 c1 c2 vv ct ch:Value}{aa:Option Addr}{R q:Nat}{r:RuleD}{vars:List ByteArray}{i:Nat}(h:CmSt Z X Bm M Bjj J c0 c1 c2 vv (.slice aa R q) ct ch r vars i i)(au:i<=1073741824)(hk:qbg r.body i=1)(hz:Z<=X.heap.size):
  ∃Y g cap,(Builtin.append_ #[125,125] 125 #[.slice aa R q,.slice (some ⟨X.heap.size,0,none⟩) 1 1]).run prog (X.alloc (.cells #[.int .i64 (i:Int)] 3))=.ok (.slice (some ⟨g,0,none⟩) (R+1) cap) Y/\g<Y.heap.size/\X.heap.size<=Y.heap.size/\Keep (fun b=>b<Z) X Y/\
   (∀(b:Nat) (vs:Array Value) (t:TypeId),X.heap[b]?=some (.cells vs t (0,0))->t≠3->Y.heap[b]?=some (.cells vs t (0,0)))/\
   CmSt Z (Y.setCell ⟨J,4,none⟩ (.slice (some ⟨g,0,none⟩) (R+1) cap)) Bm M Bjj J c0 c1 c2 vv (.slice (some ⟨g,0,none⟩) (R+1) cap) ct ch r vars i (i+1):=by
 obtain⟨a',c',hf⟩:=qi h.pos;injection hf with hf1 hf2 hf3
 subst hf1;subst hf3;subst hf2;have aw:=qr0 r.body i;obtain⟨v',Y,hr,aj,y,g,cap,hv,ar,hg⟩:=qc3 (P:=prog) qlr 125 h.pos [.int .i64 (i:Int)] rfl (by simp [Value.oneCell']) wA wA;subst hv;have U:=h.pos;have m: ∀(b:Nat) (vs:Array Value) (t:TypeId),X.heap[b]?=some (.cells vs t (0,0))->t≠3->Y.heap[b]?=some (.cells vs t (0,0)):=fun b vs t l ht=>y.heap l (fun e=>qe4 U l (fun e=>ht e.symm) e.symm);have p: ∀{base:Nat} {e:TypeId} {sz n:Nat} {v:Value} {xs:List Value},X.ownsRow base e sz v n xs->e≠3->Y.ownsRow base e sz v n xs:=fun s h2=>qf s y (fun b l e=>qc4 s U h2 l e.symm);have c:CmAt Y Bm M Bjj J c0 c1 c2 vv (.slice aa (qex r.body i).length q) ct ch vars:=⟨m _ _ _ h.cm.bm wD,h.cm.nums.keep y (fun e=>qmx U h.cm.nums e.symm),m _ _ _ h.cm.bj wD,m _ _ _ h.cm.box wD,p h.cm.own wD⟩;obtain⟨⟨n1,n2,n3,n4,n5⟩,ak⟩:=c.apart;have x:Keep (fun b=>b≠J) Y (Y.setCell ⟨J,4,none⟩ (.slice (some ⟨g,0,none⟩) ((qex r.body i).length+1) cap)):=kSc;have d: ∀{base:Nat} {e:TypeId} {sz n:Nat} {v:Value} {xs:List Value},Y.ownsRow base e sz v n xs->e≠129->(Y.setCell ⟨J,4,none⟩ (.slice (some ⟨g,0,none⟩) ((qex r.body i).length+1) cap)).ownsRow base e sz v n xs:=fun s h2=>qf s x (fun b l e=>by subst e;exact qe4 s c.box h2 l);refine⟨Y,g,cap,hr,hg,y.size,y.mono fun b _ (l:b<Z) e=>by have:=(zE U b e.symm).1;omega,m,⟨⟨x.heap c.bm n4,c.nums.keep x n3.symm,x.heap c.bj n5,qaj 4 _ c.box,qf c.own x (fun b l=>(ak b l).2.2.2)⟩,h.z,?_,?_,d (p h.head wD) wD,h.hv,h.lv⟩⟩
 ·rw [qpz,zI hk,zR,zn];exact d aj wD
 ·obtain⟨us,e1,e4,e3⟩:=h.acc;exact⟨us,e1,d (p e4 wD) wD,fun k u L hu hL=>d (p (e3 k u L hu hL) wD) wD⟩
theorem CmSt.notpos {Z:Nat}{X:World}{Bm M Bjj J:Nat}{b c d vv g m l:Value}{r:RuleD}{vars:List ByteArray}{i j:Nat}(h:CmSt Z X Bm M Bjj J b c d vv g m l r vars j i)(p:qbg r.body i≠1):CmSt Z X Bm M Bjj J b c d vv g m l r vars j (i+1):=by
 have e:qex r.body (i+1)=qex r.body i:=by rw [qpz,zF p,yP]
 exact⟨h.cm,h.z,by rw [e];exact h.pos,h.acc,h.head,h.hv,h.lv⟩
theorem qjr {α:Type}{U:Nat->Prop}{w:World}{base:Nat}{e:TypeId}{sz:Nat}{v:Value}{n:Nat}{xs:List Value}(h:w.ownsRow base e sz v n xs)(g:List α)(hn:n=g.length)(R:g.length<=1073741824)(y: ∀b,base<=b->b<w.heap.size->U b)
  (E:World->Nat->Nat->α->Prop) (u: ∀b k d,g[k]?=some d->(∀j,j<sz->w.cell? ⟨b,k*sz+j,none⟩=xs[k*sz+j]?)->E w b (k*sz) d):SliceIn w.heap.size w sz (fun w b o x=>U b/\E w b o x) v g:=by
 obtain⟨a,c,p,q,s,t⟩:=qda h g hn R E u;refine⟨a,c,p,q,s,fun k x Y=>?_⟩;obtain⟨b,o,z,l,hx⟩:=t k x Y;subst z;have m:=zE h b (by rw [p];rfl);exact⟨b,o,rfl,l,y b m.1 m.2,hx⟩
theorem qkj {body:List LitD}{i:Nat}{L:LitD}(h:body[i]?=some L):qbg body i=L.kind:=by unfold qbg;rw [zJ,h];rfl
theorem CmSt.join {Z N:Nat}{X:World}{Bm M Bjj J:Nat}{vh vb vv ca ct ch:Value}{r:RuleD}(hZ:N<=Z)(h:CmSt Z X Bm M Bjj J (.string r.head.pred) vh vb vv ca ct ch r (qbw r r.body.length) r.body.length r.body.length)(U:RuleOwn N 79 77 X vh vb r)(hs:qu7 r)(hl:(qbw r r.body.length).length<=1073741824)(am: ∀L,L∈r.body->(qm L).length<=1073741824):
  JoinAt (fun b=>N<=b/\b<X.heap.size) X.heap.size X J r (qbw r r.body.length) (qex r.body r.body.length) vh vb vv ca ct ch:=by
 have q: ∀{base:Nat} {v:Value} {m:Nat} {ts:List TermD},N<=base->X.ownsRow base 77 2 v m (qae ts)->m=ts.length->ts.length<=1073741824->SliceIn X.heap.size X 2 (UE (fun b=>N<=b/\b<X.heap.size) TermE) v ts:=fun hb h1 h2 h3=>
  qjr h1 _ h2 h3 (fun b s x=>⟨zW hb s,x⟩) TermE fun b k t ht c=>by
   have Y: ∀j,j<2->(qae _)[k*2+j]?=([Value.bool t.var,.string t.text]:List Value)[j]?:=fun j R=>qbf _ 2 (fun _=>rfl) _ k j t ht R;exact⟨by have:=c 0 wA;rw [Y 0 wA] at this;exact this,by have:=c 1 wA;rw [Y 1 wA] at this;exact this⟩
 have l: ∀{v:Value} {m:Nat} {ss:List SlotD},X.ownsRow Z 132 2 v m (ss.flatMap qfu)->m=ss.length->ss.length<=1073741824->SliceIn X.heap.size X 2 (UE (fun b=>N<=b/\b<X.heap.size) qkv) v ss:=fun h1 h2 h3=>
  qjr h1 _ h2 h3 (fun b s x=>⟨zW hZ s,x⟩) qkv fun b k t ht c=>by
   have Y: ∀j,j<2->(List.flatMap qfu _)[k*2+j]?=([Value.int .i64 t.place,.string t.text]:List Value)[j]?:=fun j R=>qbf _ 2 (fun _=>rfl) _ k j t ht R;exact⟨by have:=c 0 wA;rw [Y 0 wA] at this;exact this,by have:=c 1 wA;rw [Y 1 wA] at this;exact this⟩
 have aA:=qr0 r.body r.body.length;have ag:r.body.length<=1073741824:=hs.2.1;refine⟨⟨zW hZ h.z.1,qe h.cm.box⟩,h.cm.box,q (zG _) U.1 rfl hs.1,?_,?_,?_,?_,l h.head (by rw [zL]) (by rw [zL];exact hs.1)⟩
 ·obtain⟨ps,h1,h2,h3⟩:=U.2;have aj:ps.length=r.body.length:=by rw [←h1,zL]
  refine qjr h2 _ rfl ag (fun b s x=>⟨s,x⟩) _ fun b k L y c=>?_;obtain⟨p,hp⟩: ∃p,ps[k]?=some p:=⟨_,zB (by rw [aj];exact(zA.1 y).1)⟩;have ao:p.1=L:=by rw [←h1,zP,hp] at y;exact yI y
  subst ao;have Y: ∀j,j<7->(ps.flatMap qdf)[k*7+j]?=(qap p.1 p.2)[j]?:=fun j R=>qbf qdf 7 (fun _=>rfl) _ k j p hp R;refine⟨p.2,fun j v R=>?_,q (zG _) (h3 p (zH hp)) rfl (hs.2.2 _ (zH y))⟩;have ai:j<7:=(zA.1 R).1;rw [c j ai,Y j ai,R]
 ·have hv:X.ownsRow Z 9 1 vv (qbw r r.body.length).length ((qbw r r.body.length).map .string):=by
   refine⟨h.cm.own.1,?_⟩;rcases h.cm.own.2 with e |⟨g,cap,cur,e1,e2,e3⟩
   ·exact .inl e
   ·exact .inr ⟨g,cap,cur,e1,h.z.2.2 g (by rw [e1];rfl),e3⟩
  refine qjr hv _ rfl hl (fun b s x=>⟨zW hZ s,x⟩) qgq fun b k d hd c=>?_;have:=c 0 wA;simp only [yB,Nat.add_zero]at this⊢;rw [qgq,this];simp [hd]
 ·refine qjr h.pos _ rfl wA (fun b s x=>⟨zW hZ s,x⟩) qf6 fun b k d hd c=>?_;have:=c 0 wA;simp only [yB,Nat.add_zero]at this⊢;rw [qf6,this];simp [hd]
 ·obtain⟨us,e1,e2,e3⟩:=h.acc;rw [zi]at e1 e3;refine qjr e2 _ (by rw [zL];exact e1) (by rw [zL];exact ag) (fun b s x=>⟨zW hZ s,x⟩) _ fun b k d hd c=>?_;rw [zP]at hd;obtain⟨L,y,rfl⟩:=xO.1 hd;obtain⟨u,hu⟩: ∃u,us[k]?=some u:=⟨_,zB (by rw [e1];exact(zA.1 y).1)⟩;have ah:=c 0 wA;simp only [yB,Nat.add_zero]at ah⊢;refine⟨u,by rw [ah];exact hu,?_⟩;unfold qc5;exact l (e3 k u L hu y) (by rw [zL]) (by rw [zL];exact am L (zH y))
end Go.Proofs

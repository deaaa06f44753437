/- Parts of the proof. -/
import Derived.Test.YtnponcjnahicnaaGreatDoorCmAToCmB
set_option linter.unusedSimpArgs false
set_option linter.unusedVariables false
set_option maxRecDepth 100000
set_option maxHeartbeats 4000000
open Go.Proofs.Tryz(prog)
open List(getElem_cons_succ getElem_cons_zero getElem_toArray length_cons length_nil length_range length_singleton set_cons_succ set_cons_zero)
namespace Go.Proofs
open Go.RowKit Go.Ink Go.Flt R4 P16
attribute [local go_sem] Oper.semAt_some
theorem qj8 (n:Nat)(r:RuleD)(sh sb:Value)(w:World)(hr:RuleIn n w sh sb r)(hn:n<=w.heap.size):
  Calls prog 59 #[qaz r sh sb] w fun e w'=> ∃vh vb,e=.returned (qaz r vh vb)/\RuleOwn w.heap.size 79 77 w' vh vb r/\Keep (fun b=>b<w.heap.size) w w':=by
 obtain⟨⟨pr,args⟩,body⟩:=r;obtain⟨hh,hb⟩:=id hr;unfold qaz;simp only at hh hb⊢;obtain⟨aa,ca,rfl,dy,dO,-⟩:=id hh;obtain⟨ab,cb,rfl,dz,ee,-⟩:=id hb;obtain⟨cc,cW⟩:=qdr hh;obtain⟨ps,b8,a6,b7,cU⟩:=qo2 hb;have aD:ps.length=body.length:=by have:=yM List.length b8;rwa [zL] at this
 have bI:=qs6 a6;obtain⟨N,hN⟩:=ex (w.heap.size);have cP:=fun W (hK:Keep (fun b=>b<w.heap.size) w W)=>qgp aa args.length ca (qv args) W (qdv args) (fun b hb j u hj=>hK.cell (cc b hb j u hj) (zQ w _ (cc b hb j u hj))) cW (qg3 args) dy;have cQ:=fun W (hK:Keep (fun b=>b<w.heap.size) w W)=>qlh ab body.length cb (ps.flatMap qbn) W (by rw [qa1 qbn 7 (fun _=>rfl),aD]) (fun b hb j u hj=>hK.cell (b7 b hb j u hj) (zQ w _ (b7 b hb j u hj))) cU bI dz;have cR:=fun p (hp:p∈ps) W (hK:Keep (fun b=>b<w.heap.size) w W)=>show∀a c,p.2=.slice a p.1.atom.args.length c->_ from fun a c e=>
  have hs:=qdr (e▸a6 p hp)
  qgp a p.1.atom.args.length c (qv p.1.atom.args) W (qdv _) (fun b hb j u hj=>hK.cell (hs.1 b hb j u hj) (zQ w _ (hs.1 b hb j u hj))) hs.2 (qg3 _) (by obtain⟨_,_,_,h,_⟩:=a6 p hp;exact h)
 clear hh hb hr cc cW b7 cU bI;refine hd7 ?_ cP cQ cR b8 a6 aD hN;clear cP cQ cR b8 a6 aD hN;intro bz aW ct cw cx ap az;obtain⟨W0,aQ⟩:=ex ((w.alloc (.cells #[.string pr,.slice aa args.length ca,.slice ab body.length cb] 27)).alloc (.cells #[.string ⟨#[]⟩,.slice none 0 0,.slice none 0 0] 27));have k0:wD w W0:=by rw [←aQ];exact kAl.trans kAl
 have z0:W0.heap.size=N+2:=by rw [←aQ,←az.o];simp
 have g1:W0.heap[N]?=some (.cells #[.string pr,.slice aa args.length ca,.slice ab body.length cb] 27 (0,0)):=by rw [←aQ,←az.o];exact(Keep.alloc (fun _=>True) _ _).heap (qh w _) trivial
 have g2:W0.heap[N+1]?=some (.cells #[.string ⟨#[]⟩,.slice none 0 0,.slice none 0 0] 27 (0,0)):=by
  rw [←aQ,←az.o];have:=qh (w.alloc (.cells #[.string pr,.slice aa args.length ca,.slice ab body.length cb] 27)) (.cells #[.string ⟨#[]⟩,.slice none 0 0,.slice none 0 0] 27);rw [zO]at this;exact this
 have hS: ∀X,wD W0 X->(X.cell? ⟨N,0,none⟩=some (.string pr)/\X.cell? ⟨N,1,none⟩=some (.slice aa args.length ca)/\X.cell? ⟨N,2,none⟩=some (.slice ab body.length cb)):=fun X hX=>by
  have q:=hX.heap g1 trivial;have q0:=qb q 0 _ rfl;have q1:=qb q 1 _ rfl;have q2:=qb q 2 _ rfl;simp only [zD]at q0 q1 q2;exact⟨q0,q1,q2⟩
 have cd:wD W0 W0.drew:=kDr;have cM:=hS _ cd;refine hd7 ?_ aQ k0 g1 g2 hS cd cM;clear aQ k0 g1 g2 hS cd cM;intro cp aP dY dl U cA dF;refine qbl Tryz.func59 rfl ?_;simp only [Tryz.ntmps59,qdm,Nat.reduceAdd,Nat.reduceSub];gi_wp2;rw [cp.o,az.o];refine xq (Q:=qro fun a X=> ∃B af ag Y R u5 u6 u7 u8 u9 u10 u11 u12 u13 u14 u15 u16,(X.heap[B]?=some (.cells #[.string pr,.slice af args.length ag,.slice Y body.length R] 27 (0,0))/\N+2<=B/\wD W0 X/\X.ownsRow (N+2) 77 2 (.slice af args.length ag) args.length (qv args)/\X.ownsRow (N+2) 79 7 (.slice Y body.length R) body.length (ps.flatMap qbn))/\a=⟨#[.agg #[.string pr,.slice aa args.length ca,.slice ab body.length cb],.pointer (some ⟨N,0,none⟩),.pointer (some ⟨N+1,0,none⟩),.pointer (some ⟨B,0,none⟩),undef,u5,u6,u7,u8,u9,u10,u11,u12,u13,u14,u15,u16,undef,undef,undef,undef,undef,undef,undef,undef,undef,undef,undef,undef,undef,undef,undef,undef,undef,undef,undef,undef,undef,undef],[]⟩) ?_ ?_
 ·refine qw rfl (fun X=>(X.cell? ⟨N,0,none⟩=some (.string pr)/\X.cell? ⟨N,1,none⟩=some (.slice aa args.length ca)/\X.cell? ⟨N,2,none⟩=some (.slice ab body.length cb))) [13] ?_;obtain⟨bO,a2⟩:=ex (W0.drew);have bo:=cA.o;rw [a2]at bo⊢;have cO:=U.o _ bo;refine hd3 ?_ bo cO a2;clear bo cO a2;intro au co dm;refine qab [0,1,2,3,4,5,8,9] ?_
  iterate 8
   refine tkB rfl co.o ?_
   try simp only [qac]
  refine qk ?_;refine qfn (l:= [6,12]) wA wB (fun i hi=>?_);simp only [zt,yR,yf]at hi;rcases hi with rfl |rfl
  focus
   refine⟨_,rfl,fun K hK=>?_⟩;have ar:=zg hK;clear hK;gi_wp2;refine⟨wE,rfl,(zU.2 (bz.o _ ((aP.o.trans au.o).mt))).mono ?_⟩;rintro e aN ⟨vh,rfl,oh,bb⟩;obtain⟨af,ag,rfl⟩:=qi oh;have ba:=au.o.trans bb;have x:=oh.mono (show N+2<=_ from zW xz au.o.size);clear oh bb;refine hd2 ?_ ba x;clear ba x;intro y f;gi_wp2;refine ar.o _ _ (fun _=>U.o _ y.o) ?_;clear ar;have cN:=U.o _ y.o;refine hd1 ?_ cN;clear cN;intro cn;refine qab [7] ?_
   iterate 1
    refine tkB rfl cn.o ?_
    try simp only [qac]
   refine qk ?_;refine qfn (l:= [10,12]) wA wB (fun i hi=>?_);simp only [zt,yR,yf]at hi;rcases hi with rfl |rfl
   focus
    refine⟨_,rfl,fun K hK=>?_⟩;have ah:=zg hK;clear hK;gi_wp2;refine⟨wE,rfl,(zU.2 (aW.o _ ((aP.o.trans y.o).mt))).mono ?_⟩;rintro e ay ⟨vb,rfl,ob,an⟩;obtain⟨Y,R,rfl⟩:=qi ob;have aw:=y.o.trans an;have ao:=ob.mono (show N+2<=_ from zW xz y.o.size);have t:=qf f.o an (fun _ _=>wE);clear f;have x:=t;clear t;clear ob an;refine hd3 ?_ aw ao x;clear aw ao x;intro s am f;gi_wp2;refine ah.o _ _ (fun _=>U.o _ s.o) ?_;clear ah;have a0:=U.o _ s.o;refine hd1 ?_ a0;clear a0;intro aU;refine qab [11] ?_
    iterate 1
     refine tkB rfl aU.o ?_
     try simp only [qac]
    refine qk ?_;refine hoR 12 rfl fun K ai=>?_;obtain⟨aO,aK⟩: ∃Wq,ay.alloc (.cells #[.string ⟨#[]⟩,.slice none 0 0,.slice none 0 0] 27)=Wq:=⟨_,rfl⟩;obtain⟨B,hB⟩:=ex (ay.heap.size);have z:aO.heap[B]?=some (.cells #[.string ⟨#[]⟩,.slice none 0 0,.slice none 0 0] 27 (0,0)):=by rw [←aK,←hB];exact qh _ _
    have ae:wD ay aO:=by rw [←aK];exact kAl
    have ax:=s.o.trans ae;have bh:N+2<=B:=by rw [←hB];exact zW xz s.o.size
    have t:=qf f.o ae (fun _ _=>wE);clear f;have x:=t;clear t;have bN:=qf am.o ae (fun _ _=>wE);clear am;have ao:=bN;clear bN;clear ae;refine hd6 ?_ ax z aK hB x ao;clear ax z aK hB x ao;intro aj d bS aT f am;gi_wp2;rw [bS.o,aT.o];refine ai.o _ _ (fun _=>U.o _ aj.o) ?_;clear ai
   rotate_left
   focus
    refine⟨_,rfl,fun K hK=>?_⟩;have ah:=zg hK;clear hK;obtain⟨ay,aJ⟩: ∃Wq,aN.alloc (.cells #[.string ⟨#[]⟩,.slice none 0 0,.slice none 0 0] 27)=Wq:=⟨_,rfl⟩;obtain⟨B,hB⟩:=ex (aN.heap.size);have z:ay.heap[B]?=some (.cells #[.string ⟨#[]⟩,.slice none 0 0,.slice none 0 0] 27 (0,0)):=by rw [←aJ,←hB];exact qh _ _
    have an:wD aN ay:=by rw [←aJ];exact kAl
    have aw:=y.o.trans an;have bh:N+2<=B:=by rw [←hB];exact zW xz y.o.size
    have t:=qf f.o an (fun _ _=>wE);clear f;have x:=t;clear t;clear an;refine hd5 ?_ aw z aJ hB x;clear aw z aJ hB x;intro s d bR aT f;gi_wp2;rw [bR.o,aT.o];refine ah.o _ _ (fun _=>U.o _ s.o) ?_;clear ah;refine hoR 10 rfl fun K ai=>?_;gi_wp2;refine⟨wE,rfl,(zU.2 (aW.o _ ((aP.o.trans s.o).mt))).mono ?_⟩;rintro e aO ⟨vb,rfl,ob,ae⟩;obtain⟨Y,R,rfl⟩:=qi ob;have ax:=s.o.trans ae;have ao:=ob.mono (show N+2<=_ from zW xz s.o.size);have t:=qf f.o ae (fun _ _=>wE);clear f;have x:=t;clear t;have al:=ae.heap d.o trivial;clear d;have z:=al;clear al;clear ob ae;refine hd4 ?_ ax ao x z;clear ax ao x z;intro aj am f d;gi_wp2;refine ai.o _ _ (fun _=>U.o _ aj.o) ?_;clear ai;have a1:=U.o _ aj.o;refine hd1 ?_ a1;clear a1;intro aV;refine qab [11] ?_
    iterate 1
     refine tkB rfl aV.o ?_
     try simp only [qac]
    refine qk ?_
   rotate_left
  rotate_left 2
  focus
   refine⟨_,rfl,fun K hK=>?_⟩;have ar:=zg hK;clear hK;obtain⟨aN,aI⟩: ∃Wq,bO.alloc (.cells #[.string ⟨#[]⟩,.slice none 0 0,.slice none 0 0] 27)=Wq:=⟨_,rfl⟩;obtain⟨B,hB⟩:=ex (bO.heap.size);have z:aN.heap[B]?=some (.cells #[.string ⟨#[]⟩,.slice none 0 0,.slice none 0 0] 27 (0,0)):=by rw [←aI,←hB];exact qh _ _
   have bb:wD bO aN:=by rw [←aI];exact kAl
   have ba:=au.o.trans bb;have bh:N+2<=B:=by rw [←hB];exact zW xz au.o.size
   clear bb;refine hd4 ?_ ba z aI hB;clear ba z aI hB;intro y d bQ aT;gi_wp2;rw [bQ.o,aT.o];refine ar.o _ _ (fun _=>U.o _ y.o) ?_;clear ar;refine hoR 6 rfl fun K ah=>?_;gi_wp2;refine⟨wE,rfl,(zU.2 (bz.o _ ((aP.o.trans y.o).mt))).mono ?_⟩;rintro e ay ⟨vh,rfl,oh,an⟩;obtain⟨af,ag,rfl⟩:=qi oh;have aw:=y.o.trans an;have x:=oh.mono (show N+2<=_ from zW xz y.o.size);have al:=an.heap d.o trivial;clear d;have z:=al;clear al;clear oh an;refine hd3 ?_ aw x z;clear aw x z;intro s f d;gi_wp2;refine ah.o _ _ (fun _=>U.o _ s.o) ?_;clear ah;have a0:=U.o _ s.o;refine hd1 ?_ a0;clear a0;intro aU;refine qab [7] ?_
   iterate 1
    refine tkB rfl aU.o ?_
    try simp only [qac]
   refine qk ?_;refine hoR 10 rfl fun K ai=>?_;gi_wp2;refine⟨wE,rfl,(zU.2 (aW.o _ ((aP.o.trans s.o).mt))).mono ?_⟩;rintro e aO ⟨vb,rfl,ob,ae⟩;obtain⟨Y,R,rfl⟩:=qi ob;have ax:=s.o.trans ae;have ao:=ob.mono (show N+2<=_ from zW xz s.o.size);have t:=qf f.o ae (fun _ _=>wE);clear f;have x:=t;clear t;have al:=ae.heap d.o trivial;clear d;have z:=al;clear al;clear ob ae;refine hd4 ?_ ax ao x z;clear ax ao x z;intro aj am f d;gi_wp2;refine ai.o _ _ (fun _=>U.o _ aj.o) ?_;clear ai;have a1:=U.o _ aj.o;refine hd1 ?_ a1;clear a1;intro aV;refine qab [11] ?_
   iterate 1
    refine tkB rfl aV.o ?_
    try simp only [qac]
   refine qk ?_
  all_goals
   refine hoR 13 rfl fun K cl=>?_;have dp:=qb d.o 0 _ rfl;have dq:=qb d.o 1 _ rfl;have dr:=qb d.o 2 _ rfl;have d8:=qg d.o 0;have d9:=qg d.o 1;have ea:=qg d.o 2;have em:=qe d.o;simp only [zD]at dp dq dr;obtain⟨W9,bj⟩:=ex (((aO.setCell ⟨B,0,none⟩ (.string pr)).setCell ⟨B,1,none⟩ (.slice af args.length ag)).setCell ⟨B,2,none⟩ (.slice Y body.length R));have k9:Keep (fun b=>b≠B) aO W9:=by rw [←bj];exact((kSc).trans (kSc)).trans (kSc)
   have b9:W9.heap[B]?=some (.cells #[.string pr,.slice af args.length ag,.slice Y body.length R] 27 (0,0)):=by rw [←bj];exact qz 2 _ (qz 1 _ (qz 0 _ d.o))
   have c3:wD W0 W9:=((aj.o.mt.trans k9).mono fun b hb _=>xz);have c9:=qf f.o k9 (fun b hb e=>by subst e;obtain⟨cs,aq⟩:=qao f.o hb;rw [d.o] at aq;injection aq with aq;injection aq with _ h2 _;revert h2;decide);have c7:=qf am.o k9 (fun b hb e=>by subst e;obtain⟨cs,aq⟩:=qao am.o hb;rw [d.o] at aq;injection aq with aq;injection aq with _ h2 _;revert h2;decide);clear k9;refine hd5 ?_ bj b9 c3 c9 c7;clear bj b9 c3 c9 c7;intro cr dk cz cG cE;gi_wp2;rw [cr.o];refine cl.o _ _ (fun h=>absurd h wC) ?_;refine qx wA (qai ?_);exact⟨B,af,ag,Y,R,_,_,_,_,_,_,_,_,_,_,_,_,⟨dk.o,bh,cz.o,cG.o,cE.o⟩,rfl⟩
 ·rintro e d3 X hR;cases e with
  |normal=>
   obtain⟨B,af,ag,Y,R,u5,u6,u7,u8,u9,u10,u11,u12,u13,u14,u15,u16,⟨b4,bh,cZ,c8,c6⟩,rfl⟩:=hR
   dsimp only
   obtain⟨W4,dv⟩: ∃W4,W4=X:=⟨_,rfl⟩;subst dv;have r4:=cZ.heap dl.o trivial;have c5:Keep (fun b=>b<N) w W4:=(aP.o.trans cZ).mt;have cJ:=qb b4 2 _ rfl;simp only [zD]at cJ;have ei:B<W4.heap.size:=qe b4;refine hd5 ?_ b4 c8 c6 c5 r4;clear b4 c8 c6 c5 r4;intro dj cF cD cC dn;gi_wp2;clear cJ;gi_loopw [20] (fun i' wr=> ∃(k:Nat) (qs:List (LitD×Value)),k<=body.length/\i'=.int .i64 (k:Int)/\wr.heap[B]?=some (.cells #[.string pr,.slice af args.length ag,.slice Y body.length R] 27 (0,0))/\Keep (fun b=>b<N+2) W4 wr/\qs.length=k/\qs.map (·.1)=body.take k/\
    wr.ownsRow (N+2) 79 7 (.slice Y body.length R) body.length ((qs++ps.drop k).flatMap qbn)/\wr.ownsRow (N+2) 77 2 (.slice af args.length ag) args.length (qv args)/\
    (∀p,p∈qs->wr.ownsRow (N+2) 77 2 p.2 p.1.atom.args.length (qv p.1.atom.args))) (fun i _=>body.length-(intOf i).toNat)
   case atStart=>exact⟨0,[],xz,rfl,dj.o,Keep.refl _ _,rfl,rfl,cD.o,cF.o,wB⟩
   case round=>
    obtain⟨k,qs,hk,rfl,bx,hK,aR,a7,av,bk,bn⟩:=hrel;have ej:=hK.size;have c2:=qb bx 2 _ rfl;simp only [zD]at c2;have ec:B<wr.heap.size:=qe bx;have kw:Keep (fun b=>b<w.heap.size) w wr:=(cC.o.mono fun b _ h=>by have:=az.o;omega).trans (hK.mono fun b _ h=>by have:=az.o;omega);by_cases dA:k<body.length
    ·have dP:(k:Int)<body.length:=by omega
     have eh:(0:Int)<=k:=xz
     obtain⟨p,hp⟩: ∃p,ps[k]?=some p:=⟨_,zB (by rw [ap.o];exact dA)⟩;obtain⟨g,rfl⟩: ∃g,Y=some ⟨g,0,none⟩:=by
      rcases av.2 with ⟨h1,h2⟩ |⟨g,_,_,h1,_⟩
      ·omega
      ·cases h1;exact⟨g,rfl⟩
     have aC:ps.drop k=p::ps.drop (k+1):=by
      have dx:=(zA.1 hp).1;have:=zr dx;rw [(zA.1 hp).2]at this;exact this
     have bl:=zH hp;obtain⟨cH,cK,bm,-,-,-⟩:=id (cx.o p bl);have cS:=ct.o p bl wr.drew (kw.trans kDr) cH cK bm;have b6:wr.cell? ⟨g,k*7+2,none⟩=some p.2:=by
      have:=qau av (k*7+2) p.2 (by rw [aC,qas qbn 7 (fun _=>rfl) (qs++p::ps.drop (k+1)) k 2 p (by rw [yG xz,aR];simp) xz];rfl);exact this
     rw [bm]at b6;have dw:=(qcm av);have cV:body[k]?=some p.1:=by rw [←cw.o,zP,hp];rfl
     have cX:(k*7+2)<((qs++ps.drop k).flatMap qbn).length:=by
      rw [qa1 qbn 7 (fun _=>rfl),zR,xu,aR,ap.o];omega
     have eg:g<wr.heap.size:=dw.2.2.1;clear hp;refine ql3 ?_ hK aR a7 av bk bn bx kw aC bl cS cV bm cX;clear hK aR a7 av bk bn bx kw aC bl cS cV bm cX;intro ck aX aY aF aG aZ bP cB bf dG cu cv dH cy;gi_wp2;refine qag ?_;refine qw rfl (fun W=>W.cell? ⟨B,2,none⟩=some (.slice (some ⟨g,0,none⟩) body.length R)/\W.cell? ⟨g,k*7+2,none⟩=some (.slice cH p.1.atom.args.length cK)) [14] ?_;have bw:=zg (And.intro c2 b6);refine qab [0,1,2,3,4,5,6,7,8,9] ?_
     iterate 10
      refine tkB rfl bw.o ?_
      try simp only [qac]
     refine qk ?_;refine qfc (i:=10) rfl wA (fun KK ad=>?_);have bq:=zg ad;clear ad;simp only [getElem_toArray,getElem_cons_zero,getElem_cons_succ,Act.put,yJ,set_cons_zero,set_cons_succ,zD];gi_wp2;refine⟨wE,rfl,(zU.2 cu.o).mono ?_⟩;rintro e W5 ⟨v',rfl,o5,k5⟩;have n0:=k5.cell (show wr.drew.cell? ⟨B,2,none⟩=_ from c2) trivial;have n1:=k5.cell (show wr.drew.cell? ⟨g,k*7+2,none⟩=_ from b6) trivial;have dD:=k5.size;simp only [World.size_drew]at dD;obtain⟨aA,aB,rfl⟩:=qi o5;gi_wp2;refine bq.o _ _ (fun _=>⟨n0,n1⟩) ?_;refine qfc (i:=11) rfl wA (fun KK ad=>?_);have br:=zg ad;clear ad;gi_wp2;refine br.o _ _ (fun _=>⟨n0,n1⟩) ?_;refine qfc (i:=12) rfl wA (fun KK ad=>?_);have bt:=zg ad;clear ad;gi_wp2;refine bt.o _ _ (fun _=>⟨n0,n1⟩) ?_;refine qfc (i:=13) rfl wA (fun KK ad=>?_);have bu:=zg ad;clear ad;gi_wp2;refine bu.o _ _ (fun _=>⟨n0,n1⟩) ?_;refine qfc (i:=14) rfl wA (fun KK ad=>?_);have bv:=zg ad;clear ad;have aE:wD wr W5:=kDr.trans k5;have a3:=qf aF.o aE (fun _ _=>wE);obtain⟨d7,a9⟩:=qao a3 (b:=g) rfl;have dE:=qg a9 (k*7+2);have ef:=qe a9;obtain⟨W6,bi⟩:=ex (W5.setCell ⟨g,k*7+2,none⟩ (.slice aA p.1.atom.args.length aB));have k6:Keep (fun b=>b≠g) W5 W6:=by rw [←bi];exact kSc
     have aL:=qiy a3 (k*7+2) (.slice aA p.1.atom.args.length aB) cy.o;rw [bi,bf.o]at aL;have a8:=qvu qs (ps.drop (k+1)) p (.slice aA p.1.atom.args.length aB);rw [aX.o]at a8;rw [a8]at aL;have aM: ∀(base:Nat) (v:Value) (m:Nat) (xs:List Value),W5.ownsRow base 77 2 v m xs-> ∀b,v.ownBlock=some b->b≠g:=fun base v m xs h b hb e=>by
      obtain⟨c2,t2⟩:=qao h hb;rw [e,a9]at t2;cases t2
     have a5:=qf aG.o aE (fun _ _=>wE);have bH:=qf a5 k6 (aM _ _ _ _ a5);have cI:W6.heap[B]?=some (.cells #[.string pr,.slice af args.length ag,.slice (some ⟨g,0,none⟩) body.length R] 27 (0,0)):=k6.heap (aE.heap bP.o wE) (fun e=>by subst e;have h9:=aE.heap bP.o trivial;rw [a9] at h9;injection h9 with h9;injection h9 with _ h2 _;revert h2;decide);have cL:Keep (fun b=>b<N+2) W4 W6:=(ck.o.trans aE.mt).trans (k6.mono fun b _ h=>xz);have o6:=(qf o5 k6 (aM _ _ _ _ o5)).mono (show N+2<=wr.heap.size from xz);have bM: ∀q,q∈qs++ [(p.1,Value.slice aA p.1.atom.args.length aB)]->W6.ownsRow (N+2) 77 2 q.2 q.1.atom.args.length (qv q.1.atom.args):=fun q hq=>by
      rcases zn.1 hq with h |h
      ·have h1:=qf (aZ.o q h) aE (fun _ _=>wE);exact qf h1 k6 (aM _ _ _ _ h1)
      ·simp only [zl]at h;subst h;exact o6
     have bL:(qs++ [(p.1,Value.slice aA p.1.atom.args.length aB)]).map (·.1)=body.take (k+1):=by
      rw [zm,aY.o,zh,cv.o];rfl
     have bK:(qs++ [(p.1,Value.slice aA p.1.atom.args.length aB)]).length=k+1:=by rw [zR,aX.o];rfl
     have a4:W6.ownsRow (N+2) 79 7 (.slice (some ⟨g,0,none⟩) body.length R) body.length (((qs++ [(p.1,Value.slice aA p.1.atom.args.length aB)])++ps.drop (k+1)).flatMap qbn):=by
      rw [yq];exact aL
     clear aE a3 a9 k6 aL a8 aM a5 k5 o5 o6;refine hd8 ?_ cI bi a4 bH cL bM bL bK;clear cI bi a4 bH cL bM bL bK;intro cj cq bg bU cm b0 bW bV;gi_wp2;refine bv.o _ _ (fun h=>absurd h wC) ?_;refine qx wA (qai ?_);clear bw bq br bt bu bv n0 n1 dE;rw [cq.o];gi_wp2;go_roundw
     case rel=>exact⟨k+1,_,xz,by go_num,cj.o,cm.o,bV.o,bW.o,bg.o,bU.o,b0.o⟩
     case measure=>simp [intOf];omega
    ·obtain rfl:k=body.length:=by omega
     have cT:ps.drop body.length= []:=by rw [xk (by rw [ap.o];exact zG _)]
     rw [cT,yO]at av;rw [zi]at a7;have c0:=qb bx 0 _ rfl;have c1:=qb bx 1 _ rfl;have rx:=hK.heap dn.o (show N+1<N+2 from xz);have d0:=qb rx 0 _ rfl;have d1:=qb rx 1 _ rfl;have d2:=qb rx 2 _ rfl;have f0:=qg rx 0;have f1:=qg rx 1;have f2:=qg rx 2;simp only [zD]at c0 c1 d0 d1 d2;have dt:N+1<wr.heap.size:=qe rx;clear cT;refine hd9 ?_ hK aR a7 av bk bn bx kw rx;clear hK aR a7 av bk bn bx kw rx;intro ck aX aY aF aG aZ bP cB dZ;gi_wp2;refine zz (v:=.agg #[.string pr,.slice af args.length ag,.slice Y body.length R]) (by simp [results,Tryz.results59,go_sem,d0,d1,d2,dt]) rfl ?_;have kS:Keep (fun b=>b≠N+1) wr (((wr.setCell ⟨N+1,0,none⟩ (.string pr)).setCell ⟨N+1,1,none⟩ (.slice af args.length ag)).setCell ⟨N+1,2,none⟩ (.slice Y body.length R)):=
      ((kSc).trans (kSc)).trans (kSc)
     have eb:=az.o;refine⟨_,_,rfl,⟨(qf aG.o kS (fun b hb=>by have:=(zE aG.o b hb).1;omega)).mono xz,qs,aY.o,(qf aF.o kS (fun b hb=>by have:=(zE aF.o b hb).1;omega)).mono xz,fun q hq=>?_⟩,cB.o.trans (kS.mono fun b _ h=>xz)⟩;have h1:=aZ.o q hq;exact(qf h1 kS (fun b hb=>by have:=(zE h1 b hb).1;omega)).mono xz
  |ret=>exact hR.elim
  |exit _=>exact hR.elim
  |goto _=>exact hR.elim
  |panic _=>exact hR.elim
  |outgrown=>exact hR.elim
end Go.Proofs
namespace Go.Proofs
open Go.RowKit Go.Ink Go.Flt R4 P16
def qbj (r:RuleD)(i:Nat):List ByteArray:=(r.body.take i).foldl (fun vs L=>qa0 vs (ql L)) (qa0 [] r.head.args)
theorem qia (r:RuleD){i:Nat}{L:LitD}(h:r.body[i]?=some L):qbj r (i+1)=qa0 (qbj r i) (ql L):=by
 unfold qbj;rw [zh,h,yk]
 rfl
def qcg (body:List LitD)(i:Nat):List Int:=((List.range i).filter fun j=>qb1 body j==1).map fun j:Nat=>(j:Int)
theorem qod (body:List LitD)(i:Nat):qcg body (i+1)=qcg body i++if qb1 body i=1 then [(i:Int)] else []:=by
 unfold qcg;rw [xw,yS,zm];by_cases h:qb1 body i=1
 ·simp [h]
 ·simp [h]
theorem qp6 (body:List LitD)(i:Nat):(qcg body i).length<=i:=by
 unfold qcg;rw [zL];exact zW (yd _ _) (by rw [length_range];exact zG _)
def q08 (Z:Nat)(X:World)(ct:Value)(Ls:List LitD)(vars:List ByteArray):Prop:=
 ∃us:List Value,us.length=Ls.length/\X.ownsRow Z 127 1 ct us.length us/\ ∀(k:Nat) (u:Value) (L:LitD),us[k]?=some u->Ls[k]?=some L->X.ownsRow Z 132 2 u (ql L).length (((ql L).map (qat vars)).flatMap qez)
structure CmSt (Z:Nat)(X:World)(Bm M Bjj J:Nat)(c0 c1 c2 vv ca ct ch:Value)(r:RuleD)(vars:List ByteArray)(i k:Nat):Prop where
 cm:CmAt X Bm M Bjj J c0 c1 c2 vv ca ct ch vars
 z:Z<=J/\Z<=M/\ ∀b,vv.ownBlock=some b->Z<=b
 pos:X.ownsRow Z 3 1 ca (qcg r.body k).length ((qcg r.body k).map (.int .i64))
 acc:q08 Z X ct (r.body.take i) vars
 head:X.ownsRow Z 132 2 ch r.head.args.length ((r.head.args.map (qat vars)).flatMap qez)
 hv: ∀t,t∈r.head.args->qeo vars t
 lv: ∀L t,L∈r.body.take i->t∈ql L->qeo vars t
theorem qeb {w:World}{base:Nat}{e:TypeId}{sz n:Nat}{v:Value}{xs:List Value}(h:w.ownsRow base e sz v n xs){b:Nat}{vs:Array Value}{t:TypeId}{d:Nat×Nat}(f:w.heap[b]?=some (.cells vs t d))(i:e≠t):v.ownBlock≠some b:=fun g=>by
 obtain⟨j,c⟩:=qao h g;rw [f]at c;injection c with c
 injection c with _ h2 _
 exact i h2.symm
theorem qlt {w:World}{base:Nat}{e:TypeId}{sz n:Nat}{v:Value}{xs:List Value}(h:w.ownsRow base e sz v n xs){b:Nat}{m:List (ByteArray×Nat)}(f:qou w b m):v.ownBlock≠some b:=fun g=>by
 obtain⟨j,d⟩:=qao h g;obtain⟨k,c,i,_⟩:=f;rw [i]at d;cases d
theorem qjo {w w':World}{Bm M Bjj J:Nat}{d f g vv i k j:Value}{vars:List ByteArray}(h:CmAt w Bm M Bjj J d f g vv i k j vars)(hK:Keep (fun b=>b≠J/\b≠M/\vv.ownBlock≠some b) w w'){base:Nat}{e:TypeId}{sz n:Nat}{v:Value}{xs:List Value}(ho:w.ownsRow base e sz v n xs)(l:e≠129)(m:e≠9):w'.ownsRow base e sz v n xs:=
 qf ho hK fun b c=>⟨fun e=>by subst e;exact qeb ho h.box l c,fun e=>by subst e;exact qlt ho h.nums c,fun e=>qdg h.own ho (fun e=>m e.symm) e c⟩
theorem CmSt.slots {Z:Nat}{X Y:World}{Bm M Bjj J:Nat}{m p q vv f s x v:Value}{r:RuleD}{i k:Nat}{L:LitD}(h:CmSt Z X Bm M Bjj J m p q vv s x v r (qbj r i) i k)(hL:r.body[i]?=some L)(hz:Z<=X.heap.size)
  (hC:CmAt Y Bm M Bjj J m p q f s x v (qa0 (qbj r i) (ql L))) (hK:Keep (fun b=>b≠J/\b≠M/\vv.ownBlock≠some b) X Y) (y: ∀b,f.ownBlock=some b->vv.ownBlock=some b∨X.heap.size<=b):CmSt Z Y Bm M Bjj J m p q f s x v r (qbj r (i+1)) i k:=by
 have e:=qia r hL;have g: ∀t,qeo (qbj r i) t->qeo (qbj r (i+1)) t:=fun t d hv=>by rw [e];exact(qdl _ _).1 _ (d hv)
 have j: ∀ts:List TermD,(∀t,t∈ts->qeo (qbj r i) t)->ts.map (qat (qbj r (i+1)))=ts.map (qat (qbj r i)):=fun ts d=>yz fun t h=>by rw [e];exact qp5 (d t h)
 refine⟨by rw [e];exact hC,⟨h.z.1,h.z.2.1,fun b hb=>(y b hb).elim (h.z.2.2 b) (fun h=>xz)⟩,qjo h.cm hK h.pos wC wC,?_,?_,fun t d=>g t (h.hv t d),fun l t c d=>g t (h.lv l t c d)⟩
 ·obtain⟨us,R,U,h3⟩:=h.acc;refine⟨us,R,qjo h.cm hK U wC wC,fun k u l hu c=>?_⟩;rw [j _ (fun t d=>h.lv l t (zH c) d)];exact qjo h.cm hK (h3 k u l hu c) wC wC
 ·rw [j _ h.hv];exact qjo h.cm hK h.head wC wC
theorem CmSt.all {Z:Nat}{X Y:World}{Bm M Bjj J:Nat}{b c d vv e g f:Value}{r:RuleD}{vars:List ByteArray}{i k:Nat}(h:CmSt Z X Bm M Bjj J b c d vv e g f r vars i k)(hK:wD X Y):CmSt Z Y Bm M Bjj J b c d vv e g f r vars i k:=by
 refine⟨h.cm.all hK,h.z,qf h.pos hK (fun _ _=>wE),?_,qf h.head hK (fun _ _=>wE),h.hv,h.lv⟩;obtain⟨s,j,l,m⟩:=h.acc;exact⟨s,j,qf l hK (fun _ _=>wE),fun k u L q p=>qf (m k u L q p) hK (fun _ _=>wE)⟩
theorem CmSt.term {Z:Nat}{X:World}{Bm M Bjj J:Nat}{c0 c1 c2 vv ca ch vo:Value}{s:Option Addr}{f x:Nat}{r:RuleD}{i k:Nat}{L:LitD}(h:CmSt Z X Bm M Bjj J c0 c1 c2 vv ca (.slice s f x) ch r (qbj r (i+1)) i k)(hL:r.body[i]?=some L)(aE:i<=1073741824)
  (ho:X.ownsRow Z 132 2 vo (ql L).length (((ql L).map (qat (qbj r (i+1)))).flatMap qez)) (hz:Z<=X.heap.size) (R:vo.oneCell'=true):
  f=i/\ ∃Y g cap,(Builtin.append_ #[126,126] 126 #[.slice s f x,.slice (some ⟨X.heap.size,0,none⟩) 1 1]).run prog (X.alloc (.cells #[vo] 127))=.ok (.slice (some ⟨g,0,none⟩) (f+1) cap) Y/\g<Y.heap.size/\X.heap.size<=Y.heap.size/\Keep (fun b=>b<Z) X Y/\
   (∀(b:Nat) (vs:Array Value) (t:TypeId),X.heap[b]?=some (.cells vs t (0,0))->t≠127->Y.heap[b]?=some (.cells vs t (0,0)))/\
   CmSt Z (Y.setCell ⟨J,5,none⟩ (.slice (some ⟨g,0,none⟩) (f+1) cap)) Bm M Bjj J c0 c1 c2 vv ca (.slice (some ⟨g,0,none⟩) (f+1) cap) ch r (qbj r (i+1)) (i+1) k:=by
 obtain⟨us,e1,y,e3⟩:=h.acc;have ay:i<r.body.length:=(zA.1 hL).1;have q:us.length=i:=by rw [e1,yB];omega
 obtain⟨a',c',hf⟩:=qi y;injection hf with hf1 hf2 hf3
 have ap:f=i:=by rw [hf2,q]
 subst hf1;subst hf3;rw [q]at y;subst ap;have el:qb2 prog 126 127 1 24:=qcl (z:=.slice none 0 0) wA wA rfl wC wC;obtain⟨v',Y,hr,aq,kY,g,cap,hv,aD,hg⟩:=qdd (P:=prog) el 126 y [vo] rfl (by simpa using R) xz xz;subst hv;have p: ∀(b:Nat) (vs:Array Value) (t:TypeId),X.heap[b]?=some (.cells vs t (0,0))->t≠127->Y.heap[b]?=some (.cells vs t (0,0)):=fun b vs t m ht=>kY.heap m (fun e=>qeb y m (fun e=>ht e.symm) e.symm);have l: ∀{base:Nat} {e:TypeId} {sz n:Nat} {v:Value} {xs:List Value},X.ownsRow base e sz v n xs->e≠127->Y.ownsRow base e sz v n xs:=fun R h2=>qf R kY (fun b m e=>qdg R y h2 m e.symm);have d:CmAt Y Bm M Bjj J c0 c1 c2 vv ca (.slice s f x) ch (qbj r (f+1)):=⟨p _ _ _ h.cm.bm wC,h.cm.nums.keep kY (fun e=>qlt y h.cm.nums e.symm),p _ _ _ h.cm.bj wC,p _ _ _ h.cm.box wC,l h.cm.own wC⟩;obtain⟨⟨n1,n2,n3,n4,n5⟩,av⟩:=d.apart;have U:Keep (fun b=>b≠J) Y (Y.setCell ⟨J,5,none⟩ (.slice (some ⟨g,0,none⟩) (f+1) cap)):=kSc;have j: ∀{base:Nat} {e:TypeId} {sz n:Nat} {v:Value} {xs:List Value},Y.ownsRow base e sz v n xs->e≠129->(Y.setCell ⟨J,5,none⟩ (.slice (some ⟨g,0,none⟩) (f+1) cap)).ownsRow base e sz v n xs:=fun R h2=>qf R U (fun b m e=>by subst e;exact qeb R d.box h2 m);refine⟨rfl,Y,g,cap,hr,hg,kY.size,kY.mono fun b _ (m:b<Z) e=>by have:=(zE y b e.symm).1;omega,p,⟨⟨U.heap d.bm n4,d.nums.keep U n3.symm,U.heap d.bj n5,qz 5 _ d.box,qf d.own U (fun b m=>(av b m).2.2.2)⟩,h.z,j (l h.pos wC) wC,?_,j (l h.head wC) wC,h.hv,fun L' t c ht=>?_⟩⟩
 ·refine⟨us++ [vo],by rw [zR,e1,yB,yB];simp only [length_cons,length_nil];omega,?_,fun k' u L' hu c=>?_⟩
  ·rw [zR,length_singleton,q];exact j aq wC
  ·by_cases an:k'<us.length
   ·rw [yQ an]at hu;rw [xO xz]at c;exact j (l (e3 k' u L' hu (by rw [xO xz];exact c)) wC) wC
   ·have ao:k'=f:=by
     have:=(zA.1 c).1;rw [yB]at this;omega
    subst ao;rw [yG xz,q,xX]at hu;cases hu;rw [xO xz,hL]at c;cases c;exact j (l ho wC) wC
 ·rw [zh,hL]at c;rcases zn.1 c with c |c
  ·exact h.lv L' t c ht
  ·simp only [Option.toList_some,zl]at c;subst c;intro hv;rw [qia r hL];exact(qdl _ _).2.2.2.1 t ht hv
theorem CmSt.at {Z:Nat}{X:World}{Bm M Bjj J:Nat}{R U c2 vv ct ch:Value}{y:Option Addr}{na m:Nat}{r:RuleD}{vars:List ByteArray}{i:Nat}(h:CmSt Z X Bm M Bjj J R U c2 vv (.slice y na m) ct ch r vars i i)(ap:i<=1073741824)(hk:qb1 r.body i=1)(hz:Z<=X.heap.size):
  ∃Y g cap,(Builtin.append_ #[125,125] 125 #[.slice y na m,.slice (some ⟨X.heap.size,0,none⟩) 1 1]).run prog (X.alloc (.cells #[.int .i64 (i:Int)] 3))=.ok (.slice (some ⟨g,0,none⟩) (na+1) cap) Y/\g<Y.heap.size/\X.heap.size<=Y.heap.size/\Keep (fun b=>b<Z) X Y/\
   (∀(b:Nat) (vs:Array Value) (t:TypeId),X.heap[b]?=some (.cells vs t (0,0))->t≠3->Y.heap[b]?=some (.cells vs t (0,0)))/\
   CmSt Z (Y.setCell ⟨J,4,none⟩ (.slice (some ⟨g,0,none⟩) (na+1) cap)) Bm M Bjj J R U c2 vv (.slice (some ⟨g,0,none⟩) (na+1) cap) ct ch r vars i (i+1):=by
 obtain⟨a',c',hf⟩:=qi h.pos;injection hf with hf1 hf2 hf3
 subst hf1;subst hf3;subst hf2;have ar:=qp6 r.body i;obtain⟨v',Y,hr,ag,s,g,cap,hv,ao,hg⟩:=qdd (P:=prog) qkl 125 h.pos [.int .i64 (i:Int)] rfl (by simp [Value.oneCell']) xz xz;subst hv;have x:=h.pos;have j: ∀(b:Nat) (vs:Array Value) (t:TypeId),X.heap[b]?=some (.cells vs t (0,0))->t≠3->Y.heap[b]?=some (.cells vs t (0,0)):=fun b vs t f ht=>s.heap f (fun e=>qeb x f (fun e=>ht e.symm) e.symm);have l: ∀{base:Nat} {e:TypeId} {sz n:Nat} {v:Value} {xs:List Value},X.ownsRow base e sz v n xs->e≠3->Y.ownsRow base e sz v n xs:=fun p h2=>qf p s (fun b f e=>qdg p x h2 f e.symm);have c:CmAt Y Bm M Bjj J R U c2 vv (.slice y (qcg r.body i).length m) ct ch vars:=⟨j _ _ _ h.cm.bm wC,h.cm.nums.keep s (fun e=>qlt x h.cm.nums e.symm),j _ _ _ h.cm.bj wC,j _ _ _ h.cm.box wC,l h.cm.own wC⟩;obtain⟨⟨n1,n2,n3,n4,n5⟩,ah⟩:=c.apart;have q:Keep (fun b=>b≠J) Y (Y.setCell ⟨J,4,none⟩ (.slice (some ⟨g,0,none⟩) ((qcg r.body i).length+1) cap)):=kSc;have d: ∀{base:Nat} {e:TypeId} {sz n:Nat} {v:Value} {xs:List Value},Y.ownsRow base e sz v n xs->e≠129->(Y.setCell ⟨J,4,none⟩ (.slice (some ⟨g,0,none⟩) ((qcg r.body i).length+1) cap)).ownsRow base e sz v n xs:=fun p h2=>qf p q (fun b f e=>by subst e;exact qeb p c.box h2 f);refine⟨Y,g,cap,hr,hg,s.size,s.mono fun b _ (f:b<Z) e=>by have:=(zE x b e.symm).1;omega,j,⟨⟨q.heap c.bm n4,c.nums.keep q n3.symm,q.heap c.bj n5,qz 4 _ c.box,qf c.own q (fun b f=>(ah b f).2.2.2)⟩,h.z,?_,?_,d (l h.head wC) wC,h.hv,h.lv⟩⟩
 ·rw [qod,zI hk,zR,zm];exact d ag wC
 ·obtain⟨us,e1,e4,e3⟩:=h.acc;exact⟨us,e1,d (l e4 wC) wC,fun k u L hu hL=>d (l (e3 k u L hu hL) wC) wC⟩
theorem CmSt.notpos {Z:Nat}{X:World}{Bm M Bjj J:Nat}{b c d vv f k g:Value}{r:RuleD}{vars:List ByteArray}{i j:Nat}(h:CmSt Z X Bm M Bjj J b c d vv f k g r vars j i)(l:qb1 r.body i≠1):CmSt Z X Bm M Bjj J b c d vv f k g r vars j (i+1):=by
 have e:qcg r.body (i+1)=qcg r.body i:=by rw [qod,zF l,yO]
 exact⟨h.cm,h.z,by rw [e];exact h.pos,h.acc,h.head,h.hv,h.lv⟩
theorem qiu {α:Type}{U:Nat->Prop}{w:World}{base:Nat}{e:TypeId}{sz:Nat}{v:Value}{n:Nat}{xs:List Value}(h:w.ownsRow base e sz v n xs)(f:List α)(z:n=f.length)(u:f.length<=1073741824)(s: ∀b,base<=b->b<w.heap.size->U b)
  (E:World->Nat->Nat->α->Prop) (r: ∀b k d,f[k]?=some d->(∀j,j<sz->w.cell? ⟨b,k*sz+j,none⟩=xs[k*sz+j]?)->E w b (k*sz) d):SliceIn w.heap.size w sz (fun w b o x=>U b/\E w b o x) v f:=by
 obtain⟨a,c,l,m,p,q⟩:=qed h f z u E r;refine⟨a,c,l,m,p,fun k x y=>?_⟩;obtain⟨b,o,t,g,R⟩:=q k x y;subst t;have i:=zE h b (by rw [l];rfl);exact⟨b,o,rfl,g,s b i.1 i.2,R⟩
theorem qjp {body:List LitD}{i:Nat}{L:LitD}(h:body[i]?=some L):qb1 body i=L.kind:=by unfold qb1;rw [zJ,h];rfl
theorem CmSt.join {Z N:Nat}{X:World}{Bm M Bjj J:Nat}{vh vb vv ca ct ch:Value}{r:RuleD}(hZ:N<=Z)(h:CmSt Z X Bm M Bjj J (.string r.head.pred) vh vb vv ca ct ch r (qbj r r.body.length) r.body.length r.body.length)(y:RuleOwn N 79 77 X vh vb r)(hs:qo1 r)(hl:(qbj r r.body.length).length<=1073741824)(al: ∀L,L∈r.body->(ql L).length<=1073741824):
  JoinAt (fun b=>N<=b/\b<X.heap.size) X.heap.size X J r (qbj r r.body.length) (qcg r.body r.body.length) vh vb vv ca ct ch:=by
 have i: ∀{base:Nat} {v:Value} {m:Nat} {ts:List TermD},N<=base->X.ownsRow base 77 2 v m (qv ts)->m=ts.length->ts.length<=1073741824->SliceIn X.heap.size X 2 (UE (fun b=>N<=b/\b<X.heap.size) TermE) v ts:=fun hb Y h2 h3=>
  qiu Y _ h2 h3 (fun b l q=>⟨zW hb l,q⟩) TermE fun b k t ht c=>by
   have R: ∀j,j<2->(qv _)[k*2+j]?=([Value.bool t.var,.string t.text]:List Value)[j]?:=fun j x=>qas _ 2 (fun _=>rfl) _ k j t ht x;exact⟨by have:=c 0 xz;rw [R 0 xz] at this;exact this,by have:=c 1 xz;rw [R 1 xz] at this;exact this⟩
 have f: ∀{v:Value} {m:Nat} {ss:List SlotD},X.ownsRow Z 132 2 v m (ss.flatMap qez)->m=ss.length->ss.length<=1073741824->SliceIn X.heap.size X 2 (UE (fun b=>N<=b/\b<X.heap.size) SlotE) v ss:=fun Y h2 h3=>
  qiu Y _ h2 h3 (fun b l q=>⟨zW hZ l,q⟩) SlotE fun b k t ht c=>by
   have R: ∀j,j<2->(List.flatMap qez _)[k*2+j]?=([Value.int .i64 t.place,.string t.text]:List Value)[j]?:=fun j x=>qas _ 2 (fun _=>rfl) _ k j t ht x;exact⟨by have:=c 0 xz;rw [R 0 xz] at this;exact this,by have:=c 1 xz;rw [R 1 xz] at this;exact this⟩
 have ay:=qp6 r.body r.body.length;have af:r.body.length<=1073741824:=hs.2.1;refine⟨⟨zW hZ h.z.1,qe h.cm.box⟩,h.cm.box,i (zG _) y.1 rfl hs.1,?_,?_,?_,?_,f h.head (by rw [zL]) (by rw [zL];exact hs.1)⟩
 ·obtain⟨ps,Y,h2,h3⟩:=y.2;have ai:ps.length=r.body.length:=by rw [←Y,zL]
  refine qiu h2 _ rfl af (fun b l q=>⟨l,q⟩) _ fun b k L s c=>?_;obtain⟨p,hp⟩: ∃p,ps[k]?=some p:=⟨_,zB (by rw [ai];exact(zA.1 s).1)⟩;have an:p.1=L:=by rw [←Y,zP,hp] at s;exact yH s
  subst an;have R: ∀j,j<7->(ps.flatMap qbn)[k*7+j]?=(qu p.1 p.2)[j]?:=fun j x=>qas qbn 7 (fun _=>rfl) _ k j p hp x;refine⟨p.2,fun j v x=>?_,i (zG _) (h3 p (zH hp)) rfl (hs.2.2 _ (zH s))⟩;have ah:j<7:=(zA.1 x).1;rw [c j ah,R j ah,x]
 ·have hv:X.ownsRow Z 9 1 vv (qbj r r.body.length).length ((qbj r r.body.length).map .string):=by
   refine⟨h.cm.own.1,?_⟩;rcases h.cm.own.2 with e |⟨g,cap,cur,U,e2,e3⟩
   ·exact .inl e
   ·exact .inr ⟨g,cap,cur,U,h.z.2.2 g (by rw [U];rfl),e3⟩
  refine qiu hv _ rfl hl (fun b l q=>⟨zW hZ l,q⟩) qf2 fun b k d hd c=>?_;have:=c 0 xz;simp only [yA,Nat.add_zero]at this⊢;rw [qf2,this];simp [hd]
 ·refine qiu h.pos _ rfl xz (fun b l q=>⟨zW hZ l,q⟩) qe8 fun b k d hd c=>?_;have:=c 0 xz;simp only [yA,Nat.add_zero]at this⊢;rw [qe8,this];simp [hd]
 ·obtain⟨us,U,e2,e3⟩:=h.acc;rw [zi]at U e3;refine qiu e2 _ (by rw [zL];exact U) (by rw [zL];exact af) (fun b l q=>⟨zW hZ l,q⟩) _ fun b k d hd c=>?_;rw [zP]at hd;obtain⟨L,s,rfl⟩:=xN.1 hd;obtain⟨u,hu⟩: ∃u,us[k]?=some u:=⟨_,zB (by rw [U];exact(zA.1 s).1)⟩;have ag:=c 0 xz;simp only [yA,Nat.add_zero]at ag⊢;refine⟨u,by rw [ag];exact hu,?_⟩;unfold qck;exact f (e3 k u L hu s) (by rw [zL]) (by rw [zL];exact al L (zH s))
end Go.Proofs

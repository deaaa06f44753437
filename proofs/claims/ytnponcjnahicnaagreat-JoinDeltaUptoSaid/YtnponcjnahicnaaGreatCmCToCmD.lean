/- Parts of the proof. -/
import Derived.Test.YtnponcjnahicnaaGreatEcDToCmB
set_option linter.unusedSimpArgs false
set_option linter.unusedVariables false
set_option maxRecDepth 100000
set_option maxHeartbeats 4000000
open Go.Proofs.Tryz(prog)
open List(getElem_cons_succ getElem_cons_zero getElem_toArray length_cons length_nil length_range length_singleton set_cons_succ set_cons_zero)
namespace Go.Proofs
open Go.RowKit Go.Ink Go.Flt R4 P16
attribute [local go_sem] Oper.semAt_some
theorem qrm (n:Nat)(r:RuleD)(sh sb:Value)(w:World)(hr:RuleIn n w sh sb r)(hn:n<=w.heap.size):
  Calls prog 42 #[qam r sh sb] w fun e w'=> ∃vh vb,e=.returned (qam r vh vb)/\RuleOwn w.heap.size 64 60 w' vh vb r/\Keep (fun b=>b<w.heap.size) w w':=by
 obtain⟨⟨pr,args⟩,body⟩:=r;obtain⟨hh,hb⟩:=id hr;unfold qam;simp only at hh hb⊢;obtain⟨aa,ca,rfl,dD,dW,-⟩:=id hh;obtain⟨ab,cb,rfl,dN,es,-⟩:=id hb;obtain⟨co,db⟩:=qei hh;obtain⟨ps,cg,bu,cf,cB⟩:=qqt hb;have aP:ps.length=body.length:=by have:=yO List.length cg;rwa [zL] at this
 have bP:=qu9 bu;obtain⟨N,hN⟩:=ex (w.heap.size);have cI:=fun W (hK:Keep (fun b=>b<w.heap.size) w W)=>qhe aa args.length ca (qad args) W (qeq args) (fun b hb j u hj=>hK.cell (co b hb j u hj) (zQ w _ (co b hb j u hj))) db (qhr args) dD;have cJ:=fun W (hK:Keep (fun b=>b<w.heap.size) w W)=>qmo ab body.length cb (ps.flatMap qdl) W (by rw [qa4 qdl 7 (fun _=>rfl),aP]) (fun b hb j u hj=>hK.cell (cf b hb j u hj) (zQ w _ (cf b hb j u hj))) cB bP dN;have cK:=fun p (hp:p∈ps) W (hK:Keep (fun b=>b<w.heap.size) w W)=>show∀a c,p.2=.slice a p.1.atom.args.length c->_ from fun a c e=>
  have hs:=qei (e▸bu p hp)
  qhe a p.1.atom.args.length c (qad p.1.atom.args) W (qeq _) (fun b hb j u hj=>hK.cell (hs.1 b hb j u hj) (zQ w _ (hs.1 b hb j u hj))) hs.2 (qhr _) (by obtain⟨_,_,_,h,_⟩:=bu p hp;exact h)
 clear hh hb hr co db cf cB bP;refine hd7 ?_ cI cJ cK cg bu aP hN;clear cI cJ cK cg bu aP hN;intro bO bo cy c9 dp av aJ;obtain⟨W0,a4⟩:=ex ((w.alloc (.cells #[.string pr,.slice aa args.length ca,.slice ab body.length cb] 27)).alloc (.cells #[.string ⟨#[]⟩,.slice none 0 0,.slice none 0 0] 27));have k0:wG w W0:=by rw [←a4];exact kAl.trans kAl
 have z0:W0.heap.size=N+2:=by rw [←a4,←aJ.o];simp
 have g1:W0.heap[N]?=some (.cells #[.string pr,.slice aa args.length ca,.slice ab body.length cb] 27 (0,0)):=by rw [←a4,←aJ.o];exact(Keep.alloc (fun _=>True) _ _).heap (qh w _) trivial
 have g2:W0.heap[N+1]?=some (.cells #[.string ⟨#[]⟩,.slice none 0 0,.slice none 0 0] 27 (0,0)):=by
  rw [←a4,←aJ.o];have:=qh (w.alloc (.cells #[.string pr,.slice aa args.length ca,.slice ab body.length cb] 27)) (.cells #[.string ⟨#[]⟩,.slice none 0 0,.slice none 0 0] 27);rw [zO]at this;exact this
 have hS: ∀X,wG W0 X->(X.cell? ⟨N,0,none⟩=some (.string pr)/\X.cell? ⟨N,1,none⟩=some (.slice aa args.length ca)/\X.cell? ⟨N,2,none⟩=some (.slice ab body.length cb)):=fun X hX=>by
  have q:=hX.heap g1 trivial;have q0:=qb q 0 _ rfl;have q1:=qb q 1 _ rfl;have q2:=qb q 2 _ rfl;simp only [zD]at q0 q1 q2;exact⟨q0,q1,q2⟩
 have b8:wG W0 W0.drew:=kDr;have df:=hS _ b8;refine hd7 ?_ a4 k0 g1 g2 hS b8 df;clear a4 k0 g1 g2 hS b8 df;intro cN a3 el dz ak de dS;refine qbr Tryz.func42 rfl ?_;simp only [Tryz.ntmps42,qd0,Nat.reduceAdd,Nat.reduceSub];gi_wp2;rw [cN.o,aJ.o];refine xt (Q:=qtp fun a X=> ∃B ad Y U y u5 u6 u7 u8 u9 u10 u11 u12 u13 u14 u15 u16,(X.heap[B]?=some (.cells #[.string pr,.slice ad args.length Y,.slice U body.length y] 27 (0,0))/\N+2<=B/\wG W0 X/\X.ownsRow (N+2) 60 2 (.slice ad args.length Y) args.length (qad args)/\X.ownsRow (N+2) 64 7 (.slice U body.length y) body.length (ps.flatMap qdl))/\a=⟨#[.agg #[.string pr,.slice aa args.length ca,.slice ab body.length cb],.pointer (some ⟨N,0,none⟩),.pointer (some ⟨N+1,0,none⟩),.pointer (some ⟨B,0,none⟩),undef,u5,u6,u7,u8,u9,u10,u11,u12,u13,u14,u15,u16,undef,undef,undef,undef,undef,undef,undef,undef,undef,undef,undef,undef,undef,undef,undef,undef,undef,undef,undef,undef,undef,undef],[]⟩) ?_ ?_
 ·refine qw rfl (fun X=>(X.cell? ⟨N,0,none⟩=some (.string pr)/\X.cell? ⟨N,1,none⟩=some (.slice aa args.length ca)/\X.cell? ⟨N,2,none⟩=some (.slice ab body.length cb))) [13] ?_;obtain⟨cl,a9⟩:=ex (W0.drew);have bH:=de.o;rw [a9]at bH⊢;have cU:=ak.o _ bH;refine hd3 ?_ bH cU a9;clear bH cU a9;intro ax cz dA;refine qy [0,1,2,3,4,5,8,9] ?_
  iterate 8
   refine tkR (v:=?_) rfl cz.o ?_ ?_;rotate_left
   ·rintro Wq ⟨x1,x2,x3⟩;go_simp
    try with_reducible rfl
   try simp only [qz]
  refine qm ?_;refine qaw (l:= [6,12]) wD wE (fun i hi=>?_);simp only [zw,yU,yi]at hi;rcases hi with rfl |rfl
  ·refine⟨_,rfl,fun K hK=>?_⟩;have aF:=zg hK;clear hK;gi_wp2;refine⟨wH,rfl,(zU.2 (bO.o _ ((a3.o.trans ax.o).mt))).mono ?_⟩;rintro e a1 ⟨vh,rfl,oh,bg⟩;obtain⟨ad,Y,rfl⟩:=qj oh;have bm:=ax.o.trans bg;have R:=oh.mono (show N+2<=_ from zW wC ax.o.size);clear oh bg;refine hd2 ?_ bm R;clear bm R;intro ae s;gi_wp2;refine aF.o _ _ (fun _=>ak.o _ ae.o) ?_;clear aF;have cW:=ak.o _ ae.o;refine hd1 ?_ cW;clear cW;intro cZ;refine qy [7] ?_
   iterate 1
    refine tkR (v:=?_) rfl cZ.o ?_ ?_;rotate_left
    ·rintro Wq ⟨x1,x2,x3⟩;go_simp
     try with_reducible rfl
    try simp only [qz]
   refine qm ?_;refine qaw (l:= [10,12]) wD wE (fun i hi=>?_);simp only [zw,yU,yi]at hi;rcases hi with rfl |rfl
   ·refine⟨_,rfl,fun K hK=>?_⟩;have an:=zg hK;clear hK;gi_wp2;refine⟨wH,rfl,(zU.2 (bo.o _ ((a3.o.trans ae.o).mt))).mono ?_⟩;rintro e aO ⟨vb,rfl,ob,ar⟩;obtain⟨U,y,rfl⟩:=qj ob;have az:=ae.o.trans ar;have aq:=ob.mono (show N+2<=_ from zW wC ae.o.size);have z:=qf s.o ar (fun _ _=>wH);clear s;have R:=z;clear z;clear ob ar;refine hd3 ?_ az aq R;clear az aq R;intro x ah s;gi_wp2;refine an.o _ _ (fun _=>ak.o _ x.o) ?_;clear an;have bs:=ak.o _ x.o;refine hd1 ?_ bs;clear bs;intro bj;refine qy [11] ?_
    iterate 1
     refine tkR (v:=?_) rfl bj.o ?_ ?_;rotate_left
     ·rintro Wq ⟨x1,x2,x3⟩;go_simp
      try with_reducible rfl
     try simp only [qz]
    refine qm ?_;refine hoR 12 rfl fun K ao=>?_;obtain⟨au,aY⟩: ∃Wq,aO.alloc (.cells #[.string ⟨#[]⟩,.slice none 0 0,.slice none 0 0] 27)=Wq:=⟨_,rfl⟩;obtain⟨B,hB⟩:=ex (aO.heap.size);have ag:au.heap[B]?=some (.cells #[.string ⟨#[]⟩,.slice none 0 0,.slice none 0 0] 27 (0,0)):=by rw [←aY,←hB];exact qh _ _
    have al:wG aO au:=by rw [←aY];exact kAl
    have aB:=x.o.trans al;have a0:N+2<=B:=by rw [←hB];exact zW wC x.o.size
    have z:=qf s.o al (fun _ _=>wH);clear s;have R:=z;clear z;have bV:=qf ah.o al (fun _ _=>wH);clear ah;have aq:=bV;clear bV;clear al;refine hd6 ?_ aB ag aY hB R aq;clear aB ag aY hB R aq;intro ai d ce bk s ah;gi_wp2;rw [ce.o,bk.o];refine ao.o _ _ (fun _=>ak.o _ ai.o) ?_;clear ao;refine hoR 13 rfl fun K aD=>?_;have bt:=qb d.o 0 _ rfl;have a7:=qb d.o 1 _ rfl;have bl:=qb d.o 2 _ rfl;have dc:=qg d.o 0;have dj:=qg d.o 1;have dh:=qg d.o 2;have dm:=qe d.o;simp only [zD]at bt a7 bl;obtain⟨W9,am⟩:=ex (((au.setCell ⟨B,0,none⟩ (.string pr)).setCell ⟨B,1,none⟩ (.slice ad args.length Y)).setCell ⟨B,2,none⟩ (.slice U body.length y));have k9:Keep (fun b=>b≠B) au W9:=by rw [←am];exact((kSc).trans (kSc)).trans (kSc)
    have b9:W9.heap[B]?=some (.cells #[.string pr,.slice ad args.length Y,.slice U body.length y] 27 (0,0)):=by rw [←am];exact qag 2 _ (qag 1 _ (qag 0 _ d.o))
    have aI:wG W0 W9:=((ai.o.mt.trans k9).mono fun b hb _=>wC);have ay:=qf s.o k9 (fun b hb e=>by subst e;obtain⟨cs,t⟩:=qa1 s.o hb;rw [d.o] at t;injection t with t;injection t with _ h2 _;revert h2;decide);have aH:=qf ah.o k9 (fun b hb e=>by subst e;obtain⟨cs,t⟩:=qa1 ah.o hb;rw [d.o] at t;injection t with t;injection t with _ h2 _;revert h2;decide);clear k9;refine hd5 ?_ am b9 aI ay aH;clear am b9 aI ay aH;intro aG bc aC aA aE;gi_wp2;rw [aG.o];refine aD.o _ _ (fun h=>absurd h wF) ?_;refine ql wD (qo ?_);exact⟨B,ad,Y,U,y,_,_,_,_,_,_,_,_,_,_,_,_,⟨bc.o,a0,aC.o,aA.o,aE.o⟩,rfl⟩
   ·refine⟨_,rfl,fun K hK=>?_⟩;have an:=zg hK;clear hK;obtain⟨aO,aT⟩: ∃Wq,a1.alloc (.cells #[.string ⟨#[]⟩,.slice none 0 0,.slice none 0 0] 27)=Wq:=⟨_,rfl⟩;obtain⟨B,hB⟩:=ex (a1.heap.size);have ag:aO.heap[B]?=some (.cells #[.string ⟨#[]⟩,.slice none 0 0,.slice none 0 0] 27 (0,0)):=by rw [←aT,←hB];exact qh _ _
    have ar:wG a1 aO:=by rw [←aT];exact kAl
    have az:=ae.o.trans ar;have a0:N+2<=B:=by rw [←hB];exact zW wC ae.o.size
    have z:=qf s.o ar (fun _ _=>wH);clear s;have R:=z;clear z;clear ar;refine hd5 ?_ az ag aT hB R;clear az ag aT hB R;intro x d cc bk s;gi_wp2;rw [cc.o,bk.o];refine an.o _ _ (fun _=>ak.o _ x.o) ?_;clear an;refine hoR 10 rfl fun K ao=>?_;gi_wp2;refine⟨wH,rfl,(zU.2 (bo.o _ ((a3.o.trans x.o).mt))).mono ?_⟩;rintro e au ⟨vb,rfl,ob,al⟩;obtain⟨U,y,rfl⟩:=qj ob;have aB:=x.o.trans al;have aq:=ob.mono (show N+2<=_ from zW wC x.o.size);have z:=qf s.o al (fun _ _=>wH);clear s;have R:=z;clear z;have ap:=al.heap d.o trivial;clear d;have ag:=ap;clear ap;clear ob al;refine hd4 ?_ aB aq R ag;clear aB aq R ag;intro ai ah s d;gi_wp2;refine ao.o _ _ (fun _=>ak.o _ ai.o) ?_;clear ao;have bn:=ak.o _ ai.o;refine hd1 ?_ bn;clear bn;intro bp;refine qy [11] ?_
    iterate 1
     refine tkR (v:=?_) rfl bp.o ?_ ?_;rotate_left
     ·rintro Wq ⟨x1,x2,x3⟩;go_simp
      try with_reducible rfl
     try simp only [qz]
    refine qm ?_;refine hoR 13 rfl fun K aD=>?_;have bt:=qb d.o 0 _ rfl;have a7:=qb d.o 1 _ rfl;have bl:=qb d.o 2 _ rfl;have dc:=qg d.o 0;have dj:=qg d.o 1;have dh:=qg d.o 2;have dm:=qe d.o;simp only [zD]at bt a7 bl;obtain⟨W9,am⟩:=ex (((au.setCell ⟨B,0,none⟩ (.string pr)).setCell ⟨B,1,none⟩ (.slice ad args.length Y)).setCell ⟨B,2,none⟩ (.slice U body.length y));have k9:Keep (fun b=>b≠B) au W9:=by rw [←am];exact((kSc).trans (kSc)).trans (kSc)
    have b9:W9.heap[B]?=some (.cells #[.string pr,.slice ad args.length Y,.slice U body.length y] 27 (0,0)):=by rw [←am];exact qag 2 _ (qag 1 _ (qag 0 _ d.o))
    have aI:wG W0 W9:=((ai.o.mt.trans k9).mono fun b hb _=>wC);have ay:=qf s.o k9 (fun b hb e=>by subst e;obtain⟨cs,t⟩:=qa1 s.o hb;rw [d.o] at t;injection t with t;injection t with _ h2 _;revert h2;decide);have aH:=qf ah.o k9 (fun b hb e=>by subst e;obtain⟨cs,t⟩:=qa1 ah.o hb;rw [d.o] at t;injection t with t;injection t with _ h2 _;revert h2;decide);clear k9;refine hd5 ?_ am b9 aI ay aH;clear am b9 aI ay aH;intro aG bc aC aA aE;gi_wp2;rw [aG.o];refine aD.o _ _ (fun h=>absurd h wF) ?_;refine ql wD (qo ?_);exact⟨B,ad,Y,U,y,_,_,_,_,_,_,_,_,_,_,_,_,⟨bc.o,a0,aC.o,aA.o,aE.o⟩,rfl⟩
  ·refine⟨_,rfl,fun K hK=>?_⟩;have aF:=zg hK;clear hK;obtain⟨a1,aU⟩: ∃Wq,cl.alloc (.cells #[.string ⟨#[]⟩,.slice none 0 0,.slice none 0 0] 27)=Wq:=⟨_,rfl⟩;obtain⟨B,hB⟩:=ex (cl.heap.size);have ag:a1.heap[B]?=some (.cells #[.string ⟨#[]⟩,.slice none 0 0,.slice none 0 0] 27 (0,0)):=by rw [←aU,←hB];exact qh _ _
   have bg:wG cl a1:=by rw [←aU];exact kAl
   have bm:=ax.o.trans bg;have a0:N+2<=B:=by rw [←hB];exact zW wC ax.o.size
   clear bg;refine hd4 ?_ bm ag aU hB;clear bm ag aU hB;intro ae d cj bk;gi_wp2;rw [cj.o,bk.o];refine aF.o _ _ (fun _=>ak.o _ ae.o) ?_;clear aF;refine hoR 6 rfl fun K an=>?_;gi_wp2;refine⟨wH,rfl,(zU.2 (bO.o _ ((a3.o.trans ae.o).mt))).mono ?_⟩;rintro e aO ⟨vh,rfl,oh,ar⟩;obtain⟨ad,Y,rfl⟩:=qj oh;have az:=ae.o.trans ar;have R:=oh.mono (show N+2<=_ from zW wC ae.o.size);have ap:=ar.heap d.o trivial;clear d;have ag:=ap;clear ap;clear oh ar;refine hd3 ?_ az R ag;clear az R ag;intro x s d;gi_wp2;refine an.o _ _ (fun _=>ak.o _ x.o) ?_;clear an;have bs:=ak.o _ x.o;refine hd1 ?_ bs;clear bs;intro bj;refine qy [7] ?_
   iterate 1
    refine tkR (v:=?_) rfl bj.o ?_ ?_;rotate_left
    ·rintro Wq ⟨x1,x2,x3⟩;go_simp
     try with_reducible rfl
    try simp only [qz]
   refine qm ?_;refine hoR 10 rfl fun K ao=>?_;gi_wp2;refine⟨wH,rfl,(zU.2 (bo.o _ ((a3.o.trans x.o).mt))).mono ?_⟩;rintro e au ⟨vb,rfl,ob,al⟩;obtain⟨U,y,rfl⟩:=qj ob;have aB:=x.o.trans al;have aq:=ob.mono (show N+2<=_ from zW wC x.o.size);have z:=qf s.o al (fun _ _=>wH);clear s;have R:=z;clear z;have ap:=al.heap d.o trivial;clear d;have ag:=ap;clear ap;clear ob al;refine hd4 ?_ aB aq R ag;clear aB aq R ag;intro ai ah s d;gi_wp2;refine ao.o _ _ (fun _=>ak.o _ ai.o) ?_;clear ao;have bn:=ak.o _ ai.o;refine hd1 ?_ bn;clear bn;intro bp;refine qy [11] ?_
   iterate 1
    refine tkR (v:=?_) rfl bp.o ?_ ?_;rotate_left
    ·rintro Wq ⟨x1,x2,x3⟩;go_simp
     try with_reducible rfl
    try simp only [qz]
   refine qm ?_;refine hoR 13 rfl fun K aD=>?_;have bt:=qb d.o 0 _ rfl;have a7:=qb d.o 1 _ rfl;have bl:=qb d.o 2 _ rfl;have dc:=qg d.o 0;have dj:=qg d.o 1;have dh:=qg d.o 2;have dm:=qe d.o;simp only [zD]at bt a7 bl;obtain⟨W9,am⟩:=ex (((au.setCell ⟨B,0,none⟩ (.string pr)).setCell ⟨B,1,none⟩ (.slice ad args.length Y)).setCell ⟨B,2,none⟩ (.slice U body.length y));have k9:Keep (fun b=>b≠B) au W9:=by rw [←am];exact((kSc).trans (kSc)).trans (kSc)
   have b9:W9.heap[B]?=some (.cells #[.string pr,.slice ad args.length Y,.slice U body.length y] 27 (0,0)):=by rw [←am];exact qag 2 _ (qag 1 _ (qag 0 _ d.o))
   have aI:wG W0 W9:=((ai.o.mt.trans k9).mono fun b hb _=>wC);have ay:=qf s.o k9 (fun b hb e=>by subst e;obtain⟨cs,t⟩:=qa1 s.o hb;rw [d.o] at t;injection t with t;injection t with _ h2 _;revert h2;decide);have aH:=qf ah.o k9 (fun b hb e=>by subst e;obtain⟨cs,t⟩:=qa1 ah.o hb;rw [d.o] at t;injection t with t;injection t with _ h2 _;revert h2;decide);clear k9;refine hd5 ?_ am b9 aI ay aH;clear am b9 aI ay aH;intro aG bc aC aA aE;gi_wp2;rw [aG.o];refine aD.o _ _ (fun h=>absurd h wF) ?_;refine ql wD (qo ?_);exact⟨B,ad,Y,U,y,_,_,_,_,_,_,_,_,_,_,_,_,⟨bc.o,a0,aC.o,aA.o,aE.o⟩,rfl⟩
 ·rintro e en X hR;cases e with
  |normal=>
   obtain⟨B,ad,Y,U,y,u5,u6,u7,u8,u9,u10,u11,u12,u13,u14,u15,u16,⟨b4,a0,cG,cP,cH⟩,rfl⟩:=hR
   dsimp only
   obtain⟨W4,dM⟩: ∃W4,W4=X:=⟨_,rfl⟩;subst dM;have r4:=cG.heap dz.o trivial;have cR:Keep (fun b=>b<N) w W4:=(a3.o.trans cG).mt;have di:=qb b4 2 _ rfl;simp only [zD]at di;have ep:B<W4.heap.size:=qe b4;refine hd5 ?_ b4 cP cH cR r4;clear b4 cP cH cR r4;intro dL da cQ dg dJ;gi_wp2;clear di;gi_loopw [20] (fun i' wr=> ∃(k:Nat) (qs:List (LitD×Value)),k<=body.length/\i'=.int .i64 (k:Int)/\wr.heap[B]?=some (.cells #[.string pr,.slice ad args.length Y,.slice U body.length y] 27 (0,0))/\Keep (fun b=>b<N+2) W4 wr/\qs.length=k/\qs.map (·.1)=body.take k/\
    wr.ownsRow (N+2) 64 7 (.slice U body.length y) body.length ((qs++ps.drop k).flatMap qdl)/\wr.ownsRow (N+2) 60 2 (.slice ad args.length Y) args.length (qad args)/\
    (∀p,p∈qs->wr.ownsRow (N+2) 60 2 p.2 p.1.atom.args.length (qad p.1.atom.args))) (fun i _=>body.length-(intOf i).toNat)
   case atStart=>exact⟨0,[],wC,rfl,dL.o,Keep.refl _ _,rfl,rfl,cQ.o,da.o,wE⟩
   case round=>
    obtain⟨k,qs,hk,rfl,bx,hK,aZ,ba,aw,bI,bD⟩:=hrel;have eg:=hK.size;have c2:=qb bx 2 _ rfl;simp only [zD]at c2;have ed:B<wr.heap.size:=qe bx;have kw:Keep (fun b=>b<w.heap.size) w wr:=(dg.o.mono fun b _ h=>by have:=aJ.o;omega).trans (hK.mono fun b _ h=>by have:=aJ.o;omega);by_cases dB:k<body.length
    ·have dT:(k:Int)<body.length:=by omega
     have ej:(0:Int)<=k:=wC
     obtain⟨p,hp⟩: ∃p,ps[k]?=some p:=⟨_,zB (by rw [av.o];exact dB)⟩;obtain⟨g,rfl⟩: ∃g,U=some ⟨g,0,none⟩:=by
      rcases aw.2 with ⟨h1,h2⟩ |⟨g,_,_,h1,_⟩
      ·omega
      ·cases h1;exact⟨g,rfl⟩
     have aN:ps.drop k=p::ps.drop (k+1):=by
      have dE:=(zA.1 hp).1;have:=zt dE;rw [(zA.1 hp).2]at this;exact this
     have bw:=zH hp;obtain⟨c3,c6,bJ,-,-,-⟩:=id (dp.o p bw);have cE:=cy.o p bw wr.drew (kw.trans kDr) c3 c6 bJ;have cn:wr.cell? ⟨g,k*7+2,none⟩=some p.2:=by
      have:=qcp aw (k*7+2) p.2 (by rw [aN,qbj qdl 7 (fun _=>rfl) (qs++p::ps.drop (k+1)) k 2 p (by rw [yH wC,aZ];simp) wC];rfl);exact this
     rw [bJ]at cn;have dG:=(qlg aw);have cO:body[k]?=some p.1:=by rw [←c9.o,zP,hp];rfl
     have c8:(k*7+2)<((qs++ps.drop k).flatMap qdl).length:=by
      rw [qa4 qdl 7 (fun _=>rfl),zR,xx,aZ,av.o];omega
     have eb:g<wr.heap.size:=dG.2.2.1;clear hp;refine qlu ?_ hK aZ ba aw bI bD bx kw aN bw cE cO bJ c8;clear hK aZ ba aw bI bD bx kw aN bw cE cO bJ c8;intro cS bd bf aW aQ bb cm cA bK dV c4 cY d7 cC;gi_wp2;refine qae ?_;refine qw rfl (fun W=>W.cell? ⟨B,2,none⟩=some (.slice (some ⟨g,0,none⟩) body.length y)/\W.cell? ⟨g,k*7+2,none⟩=some (.slice c3 p.1.atom.args.length c6)) [14] ?_;have bM:=zg (And.intro c2 cn);refine qy [0,1,2,3,4,5,6,7,8,9] ?_
     iterate 10
      refine tkR (v:=?_) rfl bM.o ?_ ?_;rotate_left
      ·rintro Wq ⟨s0,s1⟩;go_simp
       try with_reducible rfl
      try simp only [qz]
     refine qm ?_;refine qgd (i:=10) rfl wD (fun KK aj=>?_);have b3:=zg aj;clear aj;simp only [getElem_toArray,getElem_cons_zero,getElem_cons_succ,Act.put,yK,set_cons_zero,set_cons_succ,zD];gi_wp2;refine⟨wH,rfl,(zU.2 c4.o).mono ?_⟩;rintro e W5 ⟨v',rfl,o5,k5⟩;have n0:=k5.cell (show wr.drew.cell? ⟨B,2,none⟩=_ from c2) trivial;have n1:=k5.cell (show wr.drew.cell? ⟨g,k*7+2,none⟩=_ from cn) trivial;have dy:=k5.size;simp only [World.size_drew]at dy;obtain⟨aL,aM,rfl⟩:=qj o5;gi_wp2;refine b3.o _ _ (fun _=>⟨n0,n1⟩) ?_;refine qgd (i:=11) rfl wD (fun KK aj=>?_);have b5:=zg aj;clear aj;gi_wp2;refine b5.o _ _ (fun _=>⟨n0,n1⟩) ?_;refine qgd (i:=12) rfl wD (fun KK aj=>?_);have bQ:=zg aj;clear aj;gi_wp2;refine bQ.o _ _ (fun _=>⟨n0,n1⟩) ?_;refine qgd (i:=13) rfl wD (fun KK aj=>?_);have bN:=zg aj;clear aj;gi_wp2;refine bN.o _ _ (fun _=>⟨n0,n1⟩) ?_;refine qgd (i:=14) rfl wD (fun KK aj=>?_);have b2:=zg aj;clear aj;have aK:wG wr W5:=kDr.trans k5;have bi:=qf aW.o aK (fun _ _=>wH);obtain⟨ei,bv⟩:=qa1 bi (b:=g) rfl;have dO:=qg bv (k*7+2);have eh:=qe bv;obtain⟨W6,bF⟩:=ex (W5.setCell ⟨g,k*7+2,none⟩ (.slice aL p.1.atom.args.length aM));have k6:Keep (fun b=>b≠g) W5 W6:=by rw [←bF];exact kSc
     have aX:=qh9 bi (k*7+2) (.slice aL p.1.atom.args.length aM) cC.o;rw [bF,bK.o]at aX;have a8:=qyi qs (ps.drop (k+1)) p (.slice aL p.1.atom.args.length aM);rw [bd.o]at a8;rw [a8]at aX;have aV: ∀(base:Nat) (v:Value) (m:Nat) (xs:List Value),W5.ownsRow base 60 2 v m xs-> ∀b,v.ownBlock=some b->b≠g:=fun base v m xs h b hb e=>by
      obtain⟨c2,t2⟩:=qa1 h hb;rw [e,bv]at t2;cases t2
     have bh:=qf aQ.o aK (fun _ _=>wH);have b7:=qf bh k6 (aV _ _ _ _ bh);have dn:W6.heap[B]?=some (.cells #[.string pr,.slice ad args.length Y,.slice (some ⟨g,0,none⟩) body.length y] 27 (0,0)):=k6.heap (aK.heap cm.o wH) (fun e=>by subst e;have h9:=aK.heap cm.o trivial;rw [bv] at h9;injection h9 with h9;injection h9 with _ h2 _;revert h2;decide);have cM:Keep (fun b=>b<N+2) W4 W6:=(cS.o.trans aK.mt).trans (k6.mono fun b _ h=>wC);have o6:=(qf o5 k6 (aV _ _ _ _ o5)).mono (show N+2<=wr.heap.size from wC);have bS: ∀q,q∈qs++ [(p.1,Value.slice aL p.1.atom.args.length aM)]->W6.ownsRow (N+2) 60 2 q.2 q.1.atom.args.length (qad q.1.atom.args):=fun q hq=>by
      rcases zr.1 hq with h |h
      ·have h1:=qf (bb.o q h) aK (fun _ _=>wH);exact qf h1 k6 (aV _ _ _ _ h1)
      ·simp only [zm]at h;subst h;exact o6
     have bR:(qs++ [(p.1,Value.slice aL p.1.atom.args.length aM)]).map (·.1)=body.take (k+1):=by
      rw [zn,bf.o,zh,cY.o];rfl
     have b0:(qs++ [(p.1,Value.slice aL p.1.atom.args.length aM)]).length=k+1:=by rw [zR,bd.o];rfl
     have br:W6.ownsRow (N+2) 64 7 (.slice (some ⟨g,0,none⟩) body.length y) body.length (((qs++ [(p.1,Value.slice aL p.1.atom.args.length aM)])++ps.drop (k+1)).flatMap qdl):=by
      rw [yu];exact aX
     clear aK bi bv k6 aX a8 aV bh k5 o5 o6;refine hd8 ?_ dn bF br b7 cM bS bR b0;clear dn bF br b7 cM bS bR b0;intro c5 cD bz ci dl cr cu ck;gi_wp2;refine b2.o _ _ (fun h=>absurd h wF) ?_;refine ql wD (qo ?_);clear bM b3 b5 bQ bN b2 n0 n1 dO;rw [cD.o];gi_wp2;go_roundw
     case rel=>exact⟨k+1,_,wC,by go_num,c5.o,dl.o,ck.o,cu.o,bz.o,ci.o,cr.o⟩
     case measure=>simp [intOf];omega
    ·obtain rfl:k=body.length:=by omega
     have cX:ps.drop body.length= []:=by rw [xn (by rw [av.o];exact zG _)]
     rw [cX,yQ]at aw;rw [zi]at ba;have c0:=qb bx 0 _ rfl;have c1:=qb bx 1 _ rfl;have rx:=hK.heap dJ.o (show N+1<N+2 from wC);have d0:=qb rx 0 _ rfl;have d1:=qb rx 1 _ rfl;have d2:=qb rx 2 _ rfl;have f0:=qg rx 0;have f1:=qg rx 1;have f2:=qg rx 2;simp only [zD]at c0 c1 d0 d1 d2;have dH:N+1<wr.heap.size:=qe rx;clear cX;refine hd9 ?_ hK aZ ba aw bI bD bx kw rx;clear hK aZ ba aw bI bD bx kw rx;intro cS bd bf aW aQ bb cm cA ee;gi_wp2;refine yA (v:=.agg #[.string pr,.slice ad args.length Y,.slice U body.length y]) (by simp [results,Tryz.results42,go_sem,d0,d1,d2,dH]) rfl ?_;have kS:Keep (fun b=>b≠N+1) wr (((wr.setCell ⟨N+1,0,none⟩ (.string pr)).setCell ⟨N+1,1,none⟩ (.slice ad args.length Y)).setCell ⟨N+1,2,none⟩ (.slice U body.length y)):=
      ((kSc).trans (kSc)).trans (kSc)
     have ec:=aJ.o;refine⟨_,_,rfl,⟨(qf aQ.o kS (fun b hb=>by have:=(zE aQ.o b hb).1;omega)).mono wC,qs,bf.o,(qf aW.o kS (fun b hb=>by have:=(zE aW.o b hb).1;omega)).mono wC,fun q hq=>?_⟩,cA.o.trans (kS.mono fun b _ h=>wC)⟩;have h1:=bb.o q hq;exact(qf h1 kS (fun b hb=>by have:=(zE h1 b hb).1;omega)).mono wC
  |ret=>exact hR.elim
  |exit _=>exact hR.elim
  |goto _=>exact hR.elim
  |panic _=>exact hR.elim
  |outgrown=>exact hR.elim
end Go.Proofs
namespace Go.Proofs
open Go.RowKit Go.Ink Go.Flt R4 P16
def qb1 (r:RuleD)(i:Nat):List ByteArray:=(r.body.take i).foldl (fun vs L=>qbe vs (qq L)) (qbe [] r.head.args)
theorem qi4 (r:RuleD){i:Nat}{L:LitD}(h:r.body[i]?=some L):qb1 r (i+1)=qbe (qb1 r i) (qq L):=by
 unfold qb1;rw [zh,h,yn]
 rfl
def qd2 (body:List LitD)(i:Nat):List Int:=((List.range i).filter fun j=>qbm body j==1).map fun j:Nat=>(j:Int)
theorem qp4 (body:List LitD)(i:Nat):qd2 body (i+1)=qd2 body i++if qbm body i=1 then [(i:Int)] else []:=by
 unfold qd2;rw [xz,yV,zn];by_cases h:qbm body i=1
 ·simp [h]
 ·simp [h]
theorem qr3 (body:List LitD)(i:Nat):(qd2 body i).length<=i:=by
 unfold qd2;rw [zL];exact zW (yf _ _) (by rw [length_range];exact zG _)
def q4k (Z:Nat)(X:World)(ct:Value)(Ls:List LitD)(vars:List ByteArray):Prop:=
 ∃us:List Value,us.length=Ls.length/\X.ownsRow Z 88 1 ct us.length us/\ ∀(k:Nat) (u:Value) (L:LitD),us[k]?=some u->Ls[k]?=some L->X.ownsRow Z 93 2 u (qq L).length (((qq L).map (qa2 vars)).flatMap qfx)
structure CmSt (Z:Nat)(X:World)(Bm M Bjj J:Nat)(c0 c1 c2 vv ca ct ch:Value)(r:RuleD)(vars:List ByteArray)(i k:Nat):Prop where
 cm:CmAt X Bm M Bjj J c0 c1 c2 vv ca ct ch vars
 z:Z<=J/\Z<=M/\ ∀b,vv.ownBlock=some b->Z<=b
 pos:X.ownsRow Z 3 1 ca (qd2 r.body k).length ((qd2 r.body k).map (.int .i64))
 acc:q4k Z X ct (r.body.take i) vars
 head:X.ownsRow Z 93 2 ch r.head.args.length ((r.head.args.map (qa2 vars)).flatMap qfx)
 hv: ∀t,t∈r.head.args->qex vars t
 lv: ∀L t,L∈r.body.take i->t∈qq L->qex vars t
theorem qfa {w:World}{base:Nat}{e:TypeId}{sz n:Nat}{v:Value}{xs:List Value}(h:w.ownsRow base e sz v n xs){b:Nat}{vs:Array Value}{t:TypeId}{m:Nat×Nat}(d:w.heap[b]?=some (.cells vs t m))(g:e≠t):v.ownBlock≠some b:=fun l=>by
 obtain⟨p,c⟩:=qa1 h l;rw [d]at c;injection c with c
 injection c with _ h2 _
 exact g h2.symm
theorem qmv {w:World}{base:Nat}{e:TypeId}{sz n:Nat}{v:Value}{xs:List Value}(h:w.ownsRow base e sz v n xs){b:Nat}{m:List (ByteArray×Nat)}(l:qqj w b m):v.ownBlock≠some b:=fun p=>by
 obtain⟨q,d⟩:=qa1 h p;obtain⟨r,c,g,_⟩:=l;rw [g]at d;cases d
theorem qkm {w w':World}{Bm M Bjj J:Nat}{p g r vv d s l:Value}{vars:List ByteArray}(h:CmAt w Bm M Bjj J p g r vv d s l vars)(hK:Keep (fun b=>b≠J/\b≠M/\vv.ownBlock≠some b) w w'){base:Nat}{e:TypeId}{sz n:Nat}{v:Value}{xs:List Value}(ho:w.ownsRow base e sz v n xs)(m:e≠90)(q:e≠9):w'.ownsRow base e sz v n xs:=
 qf ho hK fun b c=>⟨fun e=>by subst e;exact qfa ho h.box m c,fun e=>by subst e;exact qmv ho h.nums c,fun e=>qc9 h.own ho (fun e=>q e.symm) e c⟩
theorem CmSt.slots {Z:Nat}{X Y:World}{Bm M Bjj J:Nat}{R y x vv g q U s:Value}{r:RuleD}{i k:Nat}{L:LitD}(h:CmSt Z X Bm M Bjj J R y x vv q U s r (qb1 r i) i k)(hL:r.body[i]?=some L)(hz:Z<=X.heap.size)
  (hC:CmAt Y Bm M Bjj J R y x g q U s (qbe (qb1 r i) (qq L))) (hK:Keep (fun b=>b≠J/\b≠M/\vv.ownBlock≠some b) X Y) (v: ∀b,g.ownBlock=some b->vv.ownBlock=some b∨X.heap.size<=b):CmSt Z Y Bm M Bjj J R y x g q U s r (qb1 r (i+1)) i k:=by
 have e:=qi4 r hL;have l: ∀t,qex (qb1 r i) t->qex (qb1 r (i+1)) t:=fun t c hv=>by rw [e];exact(qec _ _).1 _ (c hv)
 have m: ∀ts:List TermD,(∀t,t∈ts->qex (qb1 r i) t)->ts.map (qa2 (qb1 r (i+1)))=ts.map (qa2 (qb1 r i)):=fun ts c=>xC fun t h=>by rw [e];exact qr8 (c t h)
 refine⟨by rw [e];exact hC,⟨h.z.1,h.z.2.1,fun b hb=>(v b hb).elim (h.z.2.2 b) (fun h=>wC)⟩,qkm h.cm hK h.pos wF wF,?_,?_,fun t c=>l t (h.hv t c),fun p t d c=>l t (h.lv p t d c)⟩
 ·obtain⟨us,h1,h2,h3⟩:=h.acc;refine⟨us,h1,qkm h.cm hK h2 wF wF,fun k u p hu d=>?_⟩;rw [m _ (fun t c=>h.lv p t (zH d) c)];exact qkm h.cm hK (h3 k u p hu d) wF wF
 ·rw [m _ h.hv];exact qkm h.cm hK h.head wF wF
theorem CmSt.all {Z:Nat}{X Y:World}{Bm M Bjj J:Nat}{e c g vv b l d:Value}{r:RuleD}{vars:List ByteArray}{i k:Nat}(h:CmSt Z X Bm M Bjj J e c g vv b l d r vars i k)(hK:wG X Y):CmSt Z Y Bm M Bjj J e c g vv b l d r vars i k:=by
 refine⟨h.cm.all hK,h.z,qf h.pos hK (fun _ _=>wH),?_,qf h.head hK (fun _ _=>wH),h.hv,h.lv⟩;obtain⟨q,m,p,v⟩:=h.acc;exact⟨q,m,qf p hK (fun _ _=>wH),fun k u L t s=>qf (v k u L t s) hK (fun _ _=>wH)⟩
theorem CmSt.term {Z:Nat}{X:World}{Bm M Bjj J:Nat}{c0 c1 c2 vv ca ch vo:Value}{aa:Option Addr}{l U:Nat}{r:RuleD}{i k:Nat}{L:LitD}(h:CmSt Z X Bm M Bjj J c0 c1 c2 vv ca (.slice aa l U) ch r (qb1 r (i+1)) i k)(hL:r.body[i]?=some L)(aE:i<=1073741824)
  (ho:X.ownsRow Z 93 2 vo (qq L).length (((qq L).map (qa2 (qb1 r (i+1)))).flatMap qfx)) (hz:Z<=X.heap.size) (y:vo.oneCell'=true):
  l=i/\ ∃Y g cap,(Builtin.append_ #[87,87] 87 #[.slice aa l U,.slice (some ⟨X.heap.size,0,none⟩) 1 1]).run prog (X.alloc (.cells #[vo] 88))=.ok (.slice (some ⟨g,0,none⟩) (l+1) cap) Y/\g<Y.heap.size/\X.heap.size<=Y.heap.size/\Keep (fun b=>b<Z) X Y/\
   (∀(b:Nat) (vs:Array Value) (t:TypeId),X.heap[b]?=some (.cells vs t (0,0))->t≠88->Y.heap[b]?=some (.cells vs t (0,0)))/\
   CmSt Z (Y.setCell ⟨J,5,none⟩ (.slice (some ⟨g,0,none⟩) (l+1) cap)) Bm M Bjj J c0 c1 c2 vv ca (.slice (some ⟨g,0,none⟩) (l+1) cap) ch r (qb1 r (i+1)) (i+1) k:=by
 obtain⟨us,e1,R,e3⟩:=h.acc;have ay:i<r.body.length:=(zA.1 hL).1;have x:us.length=i:=by rw [e1,yC];omega
 obtain⟨a',c',hf⟩:=qj R;injection hf with hf1 hf2 hf3
 have ap:l=i:=by rw [hf2,x]
 subst hf1;subst hf3;rw [x]at R;subst ap;have el:qcj prog 87 88 1 24:=qc2 (z:=.slice none 0 0) wD wD rfl wF wF;obtain⟨v',Y,hr,ao,kY,g,cap,hv,aF,hg⟩:=qc8 (P:=prog) el 87 R [vo] rfl (by simpa using y) wC wC;subst hv;have s: ∀(b:Nat) (vs:Array Value) (t:TypeId),X.heap[b]?=some (.cells vs t (0,0))->t≠88->Y.heap[b]?=some (.cells vs t (0,0)):=fun b vs t q ht=>kY.heap q (fun e=>qfa R q (fun e=>ht e.symm) e.symm);have m: ∀{base:Nat} {e:TypeId} {sz n:Nat} {v:Value} {xs:List Value},X.ownsRow base e sz v n xs->e≠88->Y.ownsRow base e sz v n xs:=fun y h2=>qf y kY (fun b q e=>qc9 y R h2 q e.symm);have d:CmAt Y Bm M Bjj J c0 c1 c2 vv ca (.slice aa l U) ch (qb1 r (l+1)):=⟨s _ _ _ h.cm.bm wF,h.cm.nums.keep kY (fun e=>qmv R h.cm.nums e.symm),s _ _ _ h.cm.bj wF,s _ _ _ h.cm.box wF,m h.cm.own wF⟩;obtain⟨⟨n1,n2,n3,n4,n5⟩,ah⟩:=d.apart;have kJ:Keep (fun b=>b≠J) Y (Y.setCell ⟨J,5,none⟩ (.slice (some ⟨g,0,none⟩) (l+1) cap)):=kSc;have p: ∀{base:Nat} {e:TypeId} {sz n:Nat} {v:Value} {xs:List Value},Y.ownsRow base e sz v n xs->e≠90->(Y.setCell ⟨J,5,none⟩ (.slice (some ⟨g,0,none⟩) (l+1) cap)).ownsRow base e sz v n xs:=fun y h2=>qf y kJ (fun b q e=>by subst e;exact qfa y d.box h2 q);refine⟨rfl,Y,g,cap,hr,hg,kY.size,kY.mono fun b _ (q:b<Z) e=>by have:=(zE R b e.symm).1;omega,s,⟨⟨kJ.heap d.bm n4,d.nums.keep kJ n3.symm,kJ.heap d.bj n5,qag 5 _ d.box,qf d.own kJ (fun b q=>(ah b q).2.2.2)⟩,h.z,p (m h.pos wF) wF,?_,p (m h.head wF) wF,h.hv,fun L' t c ht=>?_⟩⟩
 ·refine⟨us++ [vo],by rw [zR,e1,yC,yC];simp only [length_cons,length_nil];omega,?_,fun k' u L' hu c=>?_⟩
  ·rw [zR,length_singleton,x];exact p ao wF
  ·by_cases an:k'<us.length
   ·rw [yS an]at hu;rw [xR wC]at c;exact p (m (e3 k' u L' hu (by rw [xR wC];exact c)) wF) wF
   ·have ar:k'=l:=by
     have:=(zA.1 c).1;rw [yC]at this;omega
    subst ar;rw [yH wC,x,xa]at hu;cases hu;rw [xR wC,hL]at c;cases c;exact p (m ho wF) wF
 ·rw [zh,hL]at c;rcases zr.1 c with c |c
  ·exact h.lv L' t c ht
  ·simp only [Option.toList_some,zm]at c;subst c;intro hv;rw [qi4 r hL];exact(qec _ _).2.2.2.1 t ht hv
theorem CmSt.at {Z:Nat}{X:World}{Bm M Bjj J:Nat}{c0 c1 c2 vv ct ch:Value}{aa:Option Addr}{s q:Nat}{r:RuleD}{vars:List ByteArray}{i:Nat}(h:CmSt Z X Bm M Bjj J c0 c1 c2 vv (.slice aa s q) ct ch r vars i i)(au:i<=1073741824)(hk:qbm r.body i=1)(hz:Z<=X.heap.size):
  ∃Y g cap,(Builtin.append_ #[86,86] 86 #[.slice aa s q,.slice (some ⟨X.heap.size,0,none⟩) 1 1]).run prog (X.alloc (.cells #[.int .i64 (i:Int)] 3))=.ok (.slice (some ⟨g,0,none⟩) (s+1) cap) Y/\g<Y.heap.size/\X.heap.size<=Y.heap.size/\Keep (fun b=>b<Z) X Y/\
   (∀(b:Nat) (vs:Array Value) (t:TypeId),X.heap[b]?=some (.cells vs t (0,0))->t≠3->Y.heap[b]?=some (.cells vs t (0,0)))/\
   CmSt Z (Y.setCell ⟨J,4,none⟩ (.slice (some ⟨g,0,none⟩) (s+1) cap)) Bm M Bjj J c0 c1 c2 vv (.slice (some ⟨g,0,none⟩) (s+1) cap) ct ch r vars i (i+1):=by
 obtain⟨a',c',hf⟩:=qj h.pos;injection hf with hf1 hf2 hf3
 subst hf1;subst hf3;subst hf2;have aE:=qr3 r.body i;obtain⟨v',Y,hr,af,R,g,cap,hv,ax,hg⟩:=qc8 (P:=prog) qlo 86 h.pos [.int .i64 (i:Int)] rfl (by simp [Value.oneCell']) wC wC;subst hv;have U:=h.pos;have p: ∀(b:Nat) (vs:Array Value) (t:TypeId),X.heap[b]?=some (.cells vs t (0,0))->t≠3->Y.heap[b]?=some (.cells vs t (0,0)):=fun b vs t l ht=>R.heap l (fun e=>qfa U l (fun e=>ht e.symm) e.symm);have d: ∀{base:Nat} {e:TypeId} {sz n:Nat} {v:Value} {xs:List Value},X.ownsRow base e sz v n xs->e≠3->Y.ownsRow base e sz v n xs:=fun x h2=>qf x R (fun b l e=>qc9 x U h2 l e.symm);have c:CmAt Y Bm M Bjj J c0 c1 c2 vv (.slice aa (qd2 r.body i).length q) ct ch vars:=⟨p _ _ _ h.cm.bm wF,h.cm.nums.keep R (fun e=>qmv U h.cm.nums e.symm),p _ _ _ h.cm.bj wF,p _ _ _ h.cm.box wF,d h.cm.own wF⟩;obtain⟨⟨n1,n2,n3,n4,n5⟩,ab⟩:=c.apart;have y:Keep (fun b=>b≠J) Y (Y.setCell ⟨J,4,none⟩ (.slice (some ⟨g,0,none⟩) ((qd2 r.body i).length+1) cap)):=kSc;have m: ∀{base:Nat} {e:TypeId} {sz n:Nat} {v:Value} {xs:List Value},Y.ownsRow base e sz v n xs->e≠90->(Y.setCell ⟨J,4,none⟩ (.slice (some ⟨g,0,none⟩) ((qd2 r.body i).length+1) cap)).ownsRow base e sz v n xs:=fun x h2=>qf x y (fun b l e=>by subst e;exact qfa x c.box h2 l);refine⟨Y,g,cap,hr,hg,R.size,R.mono fun b _ (l:b<Z) e=>by have:=(zE U b e.symm).1;omega,p,⟨⟨y.heap c.bm n4,c.nums.keep y n3.symm,y.heap c.bj n5,qag 4 _ c.box,qf c.own y (fun b l=>(ab b l).2.2.2)⟩,h.z,?_,?_,m (d h.head wF) wF,h.hv,h.lv⟩⟩
 ·rw [qp4,zI hk,zR,zn];exact m af wF
 ·obtain⟨us,e1,e4,e3⟩:=h.acc;exact⟨us,e1,m (d e4 wF) wF,fun k u L hu hL=>m (d (e3 k u L hu hL) wF) wF⟩
theorem CmSt.notpos {Z:Nat}{X:World}{Bm M Bjj J:Nat}{g c l vv b m d:Value}{r:RuleD}{vars:List ByteArray}{i j:Nat}(h:CmSt Z X Bm M Bjj J g c l vv b m d r vars j i)(p:qbm r.body i≠1):CmSt Z X Bm M Bjj J g c l vv b m d r vars j (i+1):=by
 have e:qd2 r.body (i+1)=qd2 r.body i:=by rw [qp4,zF p,yQ]
 exact⟨h.cm,h.z,by rw [e];exact h.pos,h.acc,h.head,h.hv,h.lv⟩
theorem qjv {α:Type}{U:Nat->Prop}{w:World}{base:Nat}{e:TypeId}{sz:Nat}{v:Value}{n:Nat}{xs:List Value}(h:w.ownsRow base e sz v n xs)(g:List α)(r:n=g.length)(s:g.length<=1073741824)(y: ∀b,base<=b->b<w.heap.size->U b)
  (E:World->Nat->Nat->α->Prop) (X: ∀b k d,g[k]?=some d->(∀j,j<sz->w.cell? ⟨b,k*sz+j,none⟩=xs[k*sz+j]?)->E w b (k*sz) d):SliceIn w.heap.size w sz (fun w b o x=>U b/\E w b o x) v g:=by
 obtain⟨a,c,p,u,z,Y⟩:=qdb h g r s E X;refine⟨a,c,p,u,z,fun k x t=>?_⟩;obtain⟨b,o,R,l,q⟩:=Y k x t;subst R;have m:=zE h b (by rw [p];rfl);exact⟨b,o,rfl,l,y b m.1 m.2,q⟩
theorem qkn {body:List LitD}{i:Nat}{L:LitD}(h:body[i]?=some L):qbm body i=L.kind:=by unfold qbm;rw [zJ,h];rfl
theorem CmSt.join {Z N:Nat}{X:World}{Bm M Bjj J:Nat}{vh vb vv ca ct ch:Value}{r:RuleD}(hZ:N<=Z)(h:CmSt Z X Bm M Bjj J (.string r.head.pred) vh vb vv ca ct ch r (qb1 r r.body.length) r.body.length r.body.length)(U:RuleOwn N 64 60 X vh vb r)(hs:qu8 r)(hl:(qb1 r r.body.length).length<=1073741824)(ao: ∀L,L∈r.body->(qq L).length<=1073741824):
  JoinAt (fun b=>N<=b/\b<X.heap.size) X.heap.size X J r (qb1 r r.body.length) (qd2 r.body r.body.length) vh vb vv ca ct ch:=by
 have x: ∀{base:Nat} {v:Value} {m:Nat} {ts:List TermD},N<=base->X.ownsRow base 60 2 v m (qad ts)->m=ts.length->ts.length<=1073741824->SliceIn X.heap.size X 2 (UE (fun b=>N<=b/\b<X.heap.size) TermE) v ts:=fun hb h1 h2 h3=>
  qjv h1 _ h2 h3 (fun b l s=>⟨zW hb l,s⟩) TermE fun b k t ht c=>by
   have Y: ∀j,j<2->(qad _)[k*2+j]?=([Value.bool t.var,.string t.text]:List Value)[j]?:=fun j y=>qbj _ 2 (fun _=>rfl) _ k j t ht y;exact⟨by have:=c 0 wC;rw [Y 0 wC] at this;exact this,by have:=c 1 wC;rw [Y 1 wC] at this;exact this⟩
 have q: ∀{v:Value} {m:Nat} {ss:List SlotD},X.ownsRow Z 93 2 v m (ss.flatMap qfx)->m=ss.length->ss.length<=1073741824->SliceIn X.heap.size X 2 (UE (fun b=>N<=b/\b<X.heap.size) SlotE) v ss:=fun h1 h2 h3=>
  qjv h1 _ h2 h3 (fun b l s=>⟨zW hZ l,s⟩) SlotE fun b k t ht c=>by
   have Y: ∀j,j<2->(List.flatMap qfx _)[k*2+j]?=([Value.int .i64 t.place,.string t.text]:List Value)[j]?:=fun j y=>qbj _ 2 (fun _=>rfl) _ k j t ht y;exact⟨by have:=c 0 wC;rw [Y 0 wC] at this;exact this,by have:=c 1 wC;rw [Y 1 wC] at this;exact this⟩
 have aC:=qr3 r.body r.body.length;have ag:r.body.length<=1073741824:=hs.2.1;refine⟨⟨zW hZ h.z.1,qe h.cm.box⟩,h.cm.box,x (zG _) U.1 rfl hs.1,?_,?_,?_,?_,q h.head (by rw [zL]) (by rw [zL];exact hs.1)⟩
 ·obtain⟨ps,h1,h2,h3⟩:=U.2;have ai:ps.length=r.body.length:=by rw [←h1,zL]
  refine qjv h2 _ rfl ag (fun b l s=>⟨l,s⟩) _ fun b k L R c=>?_;obtain⟨p,hp⟩: ∃p,ps[k]?=some p:=⟨_,zB (by rw [ai];exact(zA.1 R).1)⟩;have an:p.1=L:=by rw [←h1,zP,hp] at R;exact yI R
  subst an;have Y: ∀j,j<7->(ps.flatMap qdl)[k*7+j]?=(qal p.1 p.2)[j]?:=fun j y=>qbj qdl 7 (fun _=>rfl) _ k j p hp y;refine⟨p.2,fun j v y=>?_,x (zG _) (h3 p (zH hp)) rfl (hs.2.2 _ (zH R))⟩;have ad:j<7:=(zA.1 y).1;rw [c j ad,Y j ad,y]
 ·have hv:X.ownsRow Z 9 1 vv (qb1 r r.body.length).length ((qb1 r r.body.length).map .string):=by
   refine⟨h.cm.own.1,?_⟩;rcases h.cm.own.2 with e |⟨g,cap,cur,e1,e2,e3⟩
   ·exact .inl e
   ·exact .inr ⟨g,cap,cur,e1,h.z.2.2 g (by rw [e1];rfl),e3⟩
  refine qjv hv _ rfl hl (fun b l s=>⟨zW hZ l,s⟩) qgr fun b k d hd c=>?_;have:=c 0 wC;simp only [yB,Nat.add_zero]at this⊢;rw [qgr,this];simp [hd]
 ·refine qjv h.pos _ rfl wC (fun b l s=>⟨zW hZ l,s⟩) qgc fun b k d hd c=>?_;have:=c 0 wC;simp only [yB,Nat.add_zero]at this⊢;rw [qgc,this];simp [hd]
 ·obtain⟨us,e1,e2,e3⟩:=h.acc;rw [zi]at e1 e3;refine qjv e2 _ (by rw [zL];exact e1) (by rw [zL];exact ag) (fun b l s=>⟨zW hZ l,s⟩) _ fun b k d hd c=>?_;rw [zP]at hd;obtain⟨L,R,rfl⟩:=xQ.1 hd;obtain⟨u,hu⟩: ∃u,us[k]?=some u:=⟨_,zB (by rw [e1];exact(zA.1 R).1)⟩;have ah:=c 0 wC;simp only [yB,Nat.add_zero]at ah⊢;refine⟨u,by rw [ah];exact hu,?_⟩;unfold qda;exact q (e3 k u L hu R) (by rw [zL]) (by rw [zL];exact ao L (zH R))
end Go.Proofs

/- Parts of the proof. -/
import Derived.Test.YtnponcjnahicnaaGreatDoorKsDToKsF
import Derived.Test.YtnponcjnahicnaaGreatDoorKsG
set_option linter.unusedSimpArgs false
set_option linter.unusedVariables false
set_option maxRecDepth 100000
set_option maxHeartbeats 8000000
open Go.Proofs.Tryz(prog)
namespace Go.Proofs
open Go.RowKit Go.Ink Go.Flt R4 P16
attribute [local go_sem] Oper.semAt_some
structure qzb (r:RuleD):Prop where
 terms:(qca r).length<=1073741824
 rule:qs0 r
theorem qlo {n:Nat}{r:RuleD}{sh sb:Value}{w:World}(hr:RuleIn n w sh sb r)(hn:n<=w.heap.size)(iK:qzb r)(eR:Tab w):
  Calls prog 4 #[.agg #[.string r.head.pred,sh,sb]] w fun e w'=>e=.returned (.bool true)/\Keep (fun b=>b<w.heap.size) w w':=by
 have iL:=qjf hr;obtain⟨N,hN⟩:=ex (w.heap.size);obtain⟨ar,aw,rfl,-,-,-⟩:=id hr.1;obtain⟨aq,au,rfl,-,-,-⟩:=id hr.2;obtain⟨W0,cL⟩:=ex (w.alloc (.cells #[.string r.head.pred,.slice ar r.head.args.length aw,.slice aq r.body.length au] 27));have k0:wD w W0:=by rw [←cL];exact kAl
 have p0:W0.heap[N]?=some (.cells #[.string r.head.pred,.slice ar r.head.args.length aw,.slice aq r.body.length au] 27 (0,0)):=by rw [←cL,←hN];exact qh _ _
 have z0:W0.heap.size=N+1:=by rw [←cL,←hN];simp
 have hS: ∀X,Keep (fun b=>b<N+1) W0 X->(X.cell? ⟨N,0,none⟩=some (.string r.head.pred)/\X.cell? ⟨N,1,none⟩=some (.slice ar r.head.args.length aw)/\X.cell? ⟨N,2,none⟩=some (.slice aq r.body.length au))/\N<X.heap.size:=fun X y=>by
  have q:=y.heap p0 xz;have q0:=qb q 0 _ rfl;have q1:=qb q 1 _ rfl;have q2:=qb q 2 _ rfl;simp only [zD]at q0 q1 q2;exact⟨⟨q0,q1,q2⟩,qe q⟩
 have dH: ∀X,Keep (fun b=>b<N+1) W0 X->RuleIn n X (.slice ar r.head.args.length aw) (.slice aq r.body.length au) r/\n<=X.heap.size/\Keep (fun b=>b<N) w X:=fun X y=>by
  have kX:Keep (fun b=>b<N) w X:=k0.mt.trans (y.mono fun b _ h=>xz);exact⟨hr.keep (kX.mono fun b _ h=>xz),by have:=kX.size;omega,kX⟩
 obtain⟨⟨s0,s1,s2⟩,s3⟩:=hS W0 (Keep.refl _ _);have iA:=qsq (dH W0 (Keep.refl _ _)).1 (dH W0 (Keep.refl _ _)).2.1;refine qho ?_ hr iK eR iL hN cL k0 p0 z0 hS dH iA;clear hr iK eR iL hN cL k0 p0 z0 hS dH iA;intro kF cq ck ag bp gY kG kH ah bL s eb
 go_enter Tryz.func4,Tryz.ntmps4
 go_wp2_with fail;rw [gY.o,bp.o];go_wp2_with fail;refine eb.o.mono ?_;rintro e W1 ⟨vh,vb,rfl,oR,k1⟩;obtain⟨xh,dV,rfl,-⟩:=id oR.1;obtain⟨xb,aG,ly,rfl,-⟩:=id oR.2;obtain⟨M,hM⟩:=ex (W1.heap.size);obtain⟨W2,cM⟩:=ex (W1.alloc (.cells #[.string r.head.pred,.slice (some ⟨xh,0,none⟩) r.head.args.length dV,.slice (some ⟨xb,0,none⟩) r.body.length aG] 27));have al:wD W1 W2:=by rw [←cM];exact kAl
 have p2:W2.heap[M]?=some (.cells #[.string r.head.pred,.slice (some ⟨xh,0,none⟩) r.head.args.length dV,.slice (some ⟨xb,0,none⟩) r.body.length aG] 27 (0,0)):=by rw [←cM,←hM];exact qh _ _
 have z2:W2.heap.size=M+1:=by rw [←cM,←hM];simp
 have iP:Keep (fun b=>b<N+1) W0 W2:=(k1.mono fun b _ h=>by have:=ah.o;omega).trans al.mt;have jO:N+1<=M:=by have:=k1.size;have:=ah.o;omega
 have gB:LentR (N+1) W2 (.slice (some ⟨xh,0,none⟩) r.head.args.length dV) (.slice (some ⟨xb,0,none⟩) r.body.length aG) r:=by have:=oR.keep al (fun _ _ _=>wE);rwa [ah.o] at this
 have gd: ∀X,Keep (fun b=>b<M+1/\M<=b) W2 X->(X.cell? ⟨M,0,none⟩=some (.string r.head.pred)/\X.cell? ⟨M,1,none⟩=some (.slice (some ⟨xh,0,none⟩) r.head.args.length dV)/\X.cell? ⟨M,2,none⟩=some (.slice (some ⟨xb,0,none⟩) r.body.length aG))/\M<X.heap.size:=fun X y=>by
  have q:=y.heap p2 xz;have q0:=qb q 0 _ rfl;have q1:=qb q 1 _ rfl;have q2:=qb q 2 _ rfl;simp only [zD]at q0 q1 q2;exact⟨⟨q0,q1,q2⟩,qe q⟩
 have fV:=qjq (n:=W2.heap.size) (w:=W2) (gB.rule ag.o) (zG _);unfold qaz at fV;obtain⟨⟨y0,y1,y2⟩,y3⟩:=gd W2 (Keep.refl _ _);have cY:=oR.2.row;rw [hM,ah.o]at cY;have iN:=cY.keep al (fun _ _=>wE);clear s0 s1 s2 s3 oR al k1 eb cY;refine hd9 ?_ hM cM p2 z2 iP gB gd fV iN;clear hM cM p2 z2 iP gB gd fV iN;intro jD gZ jG aC hu eC cs cn hs;go_wp2_with fail;rw [gZ.o,jD.o];go_wp2_with fail;refine cn.o.mono ?_;rintro e W3 ⟨k3,fU⟩;have z3:=k3.size;have bv:Keep (fun b=>b<N+1) W0 W3:=hu.o.trans (k3.mono fun b _ h=>by have:=aC.o;omega);obtain⟨⟨s0,s1,s2⟩,s3⟩:=bL.o W3 bv;obtain⟨⟨y0,y1,y2⟩,y3⟩:=cs.o W3 (k3.mono fun b _ h=>by have:=aC.o;omega);have bN:=qug (s.o W3 bv).1 (s.o W3 bv).2.1 cq.o.rule cq.o.terms;unfold qaz at bN;rcases fU with ⟨h0,rfl⟩ |⟨hro,J,vha,vbb,vv,va',vt,vhh,rfl,hj⟩
 ·as_aux_lemma=>
  have kR:((qcy r:Int) !=0)=true:=by simp [h0]
  have kS:((qcy r:Int) !=qcy r)=false:=wB
  clear h0 cn;refine hd3 ?_ k3 bv bN;clear k3 bv bN;intro ds a1 aZ;go_wp2_with fail;refine aZ.o.mono ?_;rintro e W4 ⟨rfl,k4⟩;have z4:=k4.size;have aD:Keep (fun b=>b<N+1) W0 W4:=a1.o.trans (k4.mono fun b _ h=>by have:=a1.o.size;have:=ah.o;omega);have aT:Keep (fun b=>b<M+1) W2 W4:=(ds.o.mono fun b _ h=>by have:=aC.o;omega).trans (k4.mono fun b _ h=>by have:=aC.o;omega);clear s0 s1 s2 s3 y0 y1 y2 y3;obtain⟨⟨s0,s1,s2⟩,s3⟩:=bL.o W4 aD;obtain⟨⟨y0,y1,y2⟩,y3⟩:=cs.o W4 (aT.mono fun b _ h=>h.1);have cR:=qmc (eC.o.keep aT (fun b _ h=>by have:=aC.o;omega)) (s.o W4 aD).1 (s.o W4 aD).2.1;clear k4 aZ;refine hd3 ?_ aD aT cR;clear aD aT cR;intro a2 hw aY;go_wp2_with fail;refine(qpl _ _).mono ?_;rintro e w9 ⟨rfl,U⟩;have U:=U.symm;subst U;go_wp2_with fail;refine aY.o.mono ?_;rintro e W5 ⟨rfl,k5⟩
  as_aux_lemma=>
  have bP:Keep (fun b=>b<N+1) W0 W5:=a2.o.trans (k5.mono fun b _ h=>by have:=a2.o.size;have:=ah.o;omega);have iZ:=(s.o W5 bP).2.2;clear s0 s1 s2 s3 y0 y1 y2 y3 k5 aY;refine hd2 ?_ bP iZ;clear bP iZ;intro ef hC;go_wp2_with fail;refine(qv7 _).mono ?_;rintro e w9 ⟨rfl,U⟩;have U:=U.symm;subst U;go_wp2_with fail;refine(qt8 _).mono ?_;rintro e w9 ⟨rfl,U⟩;have U:=U.symm;subst U;go_wp2_with fail;refine(qt9 _).mono ?_;rintro e W6 ⟨rfl,k6⟩
  as_aux_lemma=>
  have i1:Keep (fun b=>b<N) w W6:=hC.o.trans k6.mt;have cU:RuleIn 0 W6 (.slice none 0 0) (.slice none 0 0) ⟨⟨⟨#[]⟩,[]⟩,[]⟩:=⟨⟨none,0,rfl,wB,⟨wB,wC⟩,fun k x h=>by simp at h⟩,⟨none,0,rfl,wB,⟨wB,wC⟩,fun k x h=>by simp at h⟩⟩;have f9:=qhk 0 ⟨⟨⟨#[]⟩,[]⟩,[]⟩ _ _ _ _ W6 cU cU (ya _);simp only at f9;clear cU k6;refine hd2 ?_ i1 f9;clear i1 f9;intro ey ed;go_wp2_with fail;refine ed.o.mono ?_;rintro e W7 ⟨rfl,k7⟩
  as_aux_lemma=>
  have i2:Keep (fun b=>b<N) w W7:=ey.o.trans (k7.mono fun b _ h=>by have:=ey.o.size;have:=bp.o;omega);clear k7 ed;refine hd1 ?_ i2;clear i2;intro hD;go_wp2_with fail;refine(qq1 (n0:=0) (qmw W7)).mono ?_;rintro e W8 ⟨S,g',rfl,s8,-,-,-⟩
  as_aux_lemma=>
  have i3:Keep (fun b=>b<N) w W8:=hD.o.trans ((qmx s8).mt);have dE:=qrc (some S) none W8;unfold qav at dE;simp only [Option.map_some,Option.map_none]at dE;unfold qj;clear s8;refine hd2 ?_ i3 dE;clear i3 dE;intro hE d7;go_wp2_with fail;refine d7.o.mono ?_;rintro e W9 ⟨rfl,b9,z9,k9⟩
  as_aux_lemma=>
  have i4:Keep (fun b=>b<N) w W9:=hE.o.trans k9.mt;have cP:=qsr W9 (B2:=W8.heap.size+1) (B3:=W8.heap.size+2) b9;clear b9 k9 d7;refine hd2 ?_ i4 cP;clear i4 cP;intro hF aX;go_wp2_with fail;refine aX.o.mono ?_;rintro e aA ⟨a9,c9,rfl,bQ⟩
  as_aux_lemma=>
  have e9:Keep (fun b=>b<N) w aA:=hF.o.trans bQ.mt;have iw:=qpq 0 aA;clear bQ aX;refine hd2 ?_ e9 iw;clear e9 iw;intro fF d6;go_wp2_with fail;refine d6.o.mono ?_;rintro e am ⟨rfl,hZ,gJ,iT⟩
  as_aux_lemma=>
  have fa:Keep (fun b=>b<N) w am:=fF.o.trans iT.mt;have cP:=qrd am (B2:=aA.heap.size+1) (B3:=aA.heap.size+2) (B4:=aA.heap.size+3) (B5:=aA.heap.size+4) (B6:=aA.heap.size+5) hZ;clear hZ iT d6;refine hd2 ?_ fa cP;clear fa cP;intro fG aX;go_wp2_with fail;refine aX.o.mono ?_;rintro e f ⟨kI,kJ,rfl,e3⟩
  as_aux_lemma=>
  have fb:Keep (fun b=>b<N) w f:=fG.o.trans (e3.mt);clear e3 aX;refine hd1 ?_ fb;clear fb;intro cA;go_wp2_with fail;refine(qqn f).mono ?_;rintro e jB ⟨rfl,iU⟩;have fc:Keep (fun b=>b<N) w jB:=cA.o.trans (iU.mono fun b _ h=>by have:=cA.o.size;have:=bp.o;omega);clear iU;refine hd1 ?_ fc;clear fc;intro fH;go_wp2_with fail;go_ret;rw [bp.o];exact⟨rfl,fH.o⟩
 ·as_aux_lemma=>
  rw [q37 hro]at bN;unfold qj;clear cn;refine hd5 ?_ k3 bv bN hro hj;clear k3 bv bN hro hj;intro ds a1 aZ hk g8;go_wp2_with fail;refine aZ.o.mono ?_;rintro e W4 ⟨rfl,k4⟩;have z4:=k4.size;obtain⟨L3,ia⟩:=ex (W3.heap.size);have aD:Keep (fun b=>b<N+1) W0 W4:=a1.o.trans (k4.mono fun b _ h=>by have:=a1.o.size;have:=ah.o;omega);have aT:Keep (fun b=>b<M+1) W2 W4:=(ds.o.mono fun b _ h=>by have:=aC.o;omega).trans (k4.mono fun b _ h=>by have:=aC.o;omega);have iW:Keep (fun b=>b<L3) W3 W4:=k4.mono fun b _ h=>xz
  have ig:M+1<=L3:=by have:=aC.o;omega
  clear s0 s1 s2 s3 y0 y1 y2 y3;obtain⟨⟨s0,s1,s2⟩,s3⟩:=bL.o W4 aD;obtain⟨⟨y0,y1,y2⟩,y3⟩:=cs.o W4 (aT.mono fun b _ h=>h.1);have cR:=qmc (eC.o.keep aT (fun b _ h=>by have:=aC.o;omega)) (s.o W4 aD).1 (s.o W4 aD).2.1;have h8: ∀X,Keep (fun b=>M+1<=b/\b<L3) W3 X->JoinAt (fun b=>W2.heap.size<=b/\b<W3.heap.size) W3.heap.size X J r (qm r) (qcg r.body r.body.length) vha vbb vv va' vt vhh/\W3.heap.size<=X.heap.size:=fun X y=>
   ⟨g8.o.keep y (fun b z=>by have:=aC.o;omega) (fun b z=>z.2),y.size⟩
  clear k4 aZ;refine hd6 ?_ aD aT iW cR h8 ia;clear aD aT iW cR h8 ia;intro a2 hw el aY ad aJ;go_wp2_with fail;refine(qpl _ _).mono ?_;rintro e w9 ⟨rfl,U⟩;have U:=U.symm;subst U;go_wp2_with fail;refine aY.o.mono ?_;rintro e W5 ⟨rfl,k5⟩
  as_aux_lemma=>
  have z5:=k5.size;have dJ:Keep (fun b=>b<L3) W3 W5:=el.o.trans (k5.mono fun b _ h=>by have:=el.o.size;have:=aJ.o;omega);have bP:Keep (fun b=>b<N+1) W0 W5:=a2.o.trans (k5.mono fun b _ h=>by have:=a2.o.size;have:=ah.o;omega);have bu:=qhm (ad.o W5 (dJ.mono fun b _ h=>h.2)).1 (ad.o W5 (dJ.mono fun b _ h=>h.2)).2;unfold qj at bu;clear s0 s1 s2 s3 y0 y1 y2 y3 aY k5;refine hd3 ?_ dJ bP bu;clear dJ bP bu;intro em ef a0;go_wp2_with fail;refine a0.o.mono ?_;rintro e W6 ⟨v6,rfl,o6,k6⟩
  as_aux_lemma=>
  obtain⟨a6,c6,rfl⟩:=qi o6;have bk:=fun b (z:(Value.slice a6 (qm r).length c6).ownBlock=some b)=>zE o6 b z;have z6:=k6.size;have dK:Keep (fun b=>b<L3) W3 W6:=em.o.trans k6.mt;have iQ:Keep (fun b=>b<N+1) W0 W6:=ef.o.trans k6.mt;have bu:=qhm (ad.o W6 (dK.mono fun b _ h=>h.2)).1 (ad.o W6 (dK.mono fun b _ h=>h.2)).2;unfold qj at bu;clear a0 k6;refine hd5 ?_ dK iQ bu o6 bk;clear dK iQ bu o6 bk;intro hx hv a0 hG hf;go_wp2_with fail;refine a0.o.mono ?_;rintro e W7 ⟨v7,rfl,o7,k7⟩
  as_aux_lemma=>
  obtain⟨a7,c7,rfl⟩:=qi o7;have bl:=fun b (z:(Value.slice a7 (qm r).length c7).ownBlock=some b)=>zE o7 b z;have z7:=k7.size;have dL:Keep (fun b=>b<L3) W3 W7:=hx.o.trans k7.mt;have iR:Keep (fun b=>b<N+1) W0 W7:=hv.o.trans k7.mt;have i6:=qf hG.o k7 (fun _ _=>wE);have aF:=qi9 (ad.o W7 (dL.mono fun b _ h=>h.2)).1 (ad.o W7 (dL.mono fun b _ h=>h.2)).2;unfold qj at aF;clear a0 k7 hG;refine hd6 ?_ dL iR aF i6 o7 bl;clear dL iR aF i6 o7 bl;intro en eg ap cB fI hg;go_wp2_with fail;refine ap.o.mono ?_;rintro e W8 ⟨a8,c8,d8,e8,rfl,o8,k8⟩
  as_aux_lemma=>
  obtain⟨Bu,dy⟩:=ex (W8.heap.size);obtain⟨W9,cN⟩:=ex (W8.alloc (.cells #[.string r.head.pred,.slice a8 r.head.args.length c8,.slice d8 r.body.length e8] 27));have dO:wD W8 W9:=by rw [←cN];exact kAl
  have p9:W9.heap[Bu]?=some (.cells #[.string r.head.pred,.slice a8 r.head.args.length c8,.slice d8 r.body.length e8] 27 (0,0)):=by rw [←cN,←dy];exact qh _ _
  have z8:=k8.size;have z9:W9.heap.size=Bu+1:=by rw [←cN,←dy];simp
  have c3:Keep (fun b=>b<W7.heap.size) W7 W9:=k8.trans dO.mt;have dM:Keep (fun b=>b<L3) W3 W9:=en.o.trans (c3.mono fun b _ h=>by have:=en.o.size;have:=aJ.o;omega);have iS:Keep (fun b=>b<N+1) W0 W9:=eg.o.trans (c3.mono fun b _ h=>by have:=eg.o.size;have:=ah.o;omega);have i7:=qf cB.o c3 (fun b z=>(zE cB.o b z).2);have i9:=qf fI.o c3 (fun b z=>(zE fI.o b z).2);have jb:=o8.keep dO (fun _ _ _=>wE);have aM:=q3t o8;have aF:=qi9 (ad.o W9 (dM.mono fun b _ h=>h.2)).1 (ad.o W9 (dM.mono fun b _ h=>h.2)).2;unfold qj at aF;clear ap k8 o8 cB fI c3;refine qho ?_ dM iS aF i7 i9 jb dy cN dO p9 z9 aM;clear dM iS aF i7 i9 jb dy cN dO p9 z9 aM;intro eo eh ap cC cE eA b0 g0 hy hR a4 bt;go_wp2_with fail;rw [g0.o,b0.o];go_wp2_with fail;refine ap.o.mono ?_;rintro e aA ⟨ba,bb,bc,bf,rfl,i5,bQ⟩
  as_aux_lemma=>
  obtain⟨Bv,dz⟩:=ex (aA.heap.size);obtain⟨am,bg⟩:=ex (aA.alloc (.cells #[.string r.head.pred,.slice ba r.head.args.length bb,.slice bc r.body.length bf] 27));have dP:wD aA am:=by rw [←bg];exact kAl
  have jf:am.heap[Bv]?=some (.cells #[.string r.head.pred,.slice ba r.head.args.length bb,.slice bc r.body.length bf] 27 (0,0)):=by rw [←bg,←dz];exact qh _ _
  have lz:=bQ.size;have gJ:am.heap.size=Bv+1:=by rw [←bg,←dz];simp
  have kb:Keep (fun b=>b<Bu+1) W9 am:=(bQ.mono fun b _ h=>by have:=a4.o;omega).trans dP.mt;have iX:Keep (fun b=>b<L3) W3 am:=eo.o.trans (kb.mono fun b _ h=>by have:=eo.o.size;have:=aJ.o;have:=a4.o;omega);have c1:Keep (fun b=>b<N+1) W0 am:=eh.o.trans (kb.mono fun b _ h=>by have:=eh.o.size;have:=ah.o;have:=a4.o;omega);have i8:=qf cC.o kb (fun b z=>by have:=(zE cC.o b z).2;have:=a4.o;omega);have ja:=qf cE.o kb (fun b z=>by have:=(zE cE.o b z).2;have:=a4.o;omega);have jc:=eA.o.keep kb (fun b _ h=>by have:=a4.o;omega);have ji:=kb.heap hR.o xz;have je:=(i5.keep dP (fun _ _ _=>wE)).mono (show Bu+1<=_ from Nat.le_of_eq a4.o.symm);obtain⟨⟨s0,s1,s2⟩,s3⟩:=bL.o am c1;have dI:=qu6 (s.o am c1).1 (s.o am c1).2.1 cq.o.terms;unfold qaz at dI;rw [q3k hk.o.formed]at dI;clear ap bQ i5 cC cE eA hR;refine ql3 ?_ iX c1 dI i8 ja jc ji je dz bg dP jf gJ kb;clear iX c1 dI i8 ja jc ji je dz bg dP jf gJ kb;intro ep ei ec cD cF eB eE eD d0 fo kc hQ cG jF
  go_upto_region 12 with fail
  rw [fo.o,d0.o];go_wp2_with fail;refine ec.o.mono ?_;rintro e f ⟨lp,rfl,al,dS⟩
  as_aux_lemma=>
  obtain⟨fK,fL,rfl⟩:=qi dS;obtain⟨l,aL⟩:=ex (f.heap.size);have lA:=al.size;have bJ:Keep (fun b=>b<Bv+1) am f:=al.mono fun b _ h=>by have:=cG.o;omega
  have jN:Bu+1<=Bv:=by have:=a4.o;have:=d0.o;omega
  have dN:Keep (fun b=>b<L3) W3 f:=ep.o.trans (al.mono fun b _ h=>by have:=ep.o.size;have:=aJ.o;omega);have aS:Keep (fun b=>b<N+1) W0 f:=ei.o.trans (al.mono fun b _ h=>by have:=ei.o.size;have:=ah.o;omega);have gy:=qf cD.o al (fun b z=>(zE cD.o b z).2);have gz:=qf cF.o al (fun b z=>(zE cF.o b z).2);have gA:=eB.o.keep al (fun b _ h=>h);have gC:=eD.o.keep al (fun b _ h=>h);have dT:=bJ.heap eE.o xz;have dU:=bJ.heap hQ.o xz;have cX:(qm r).length<=1073741824:=by obtain⟨_,_,_,h,_⟩:=g8.o.vrow;exact h
  have hT: ∀X,Keep (fun b=>b<l) f X->(X.cell? ⟨Bu,0,none⟩=some (.string r.head.pred)/\X.cell? ⟨Bu,1,none⟩=some (.slice a8 r.head.args.length c8)/\X.cell? ⟨Bu,2,none⟩=some (.slice d8 r.body.length e8))/\(X.cell? ⟨N,0,none⟩=some (.string r.head.pred)/\X.cell? ⟨N,1,none⟩=some (.slice ar r.head.args.length aw)/\X.cell? ⟨N,2,none⟩=some (.slice aq r.body.length au))/\(X.cell? ⟨Bv,0,none⟩=some (.string r.head.pred)/\X.cell? ⟨Bv,1,none⟩=some (.slice ba r.head.args.length bb)/\X.cell? ⟨Bv,2,none⟩=some (.slice bc r.body.length bf)):=fun X y=>by
   have q:=y.heap dT (by have:=qe dT;omega);have q':=y.heap dU (by have:=qe dU;omega);have q0:=qb q 0 _ rfl;have q1:=qb q 1 _ rfl;have q2:=qb q 2 _ rfl;have q3:=qb q' 0 _ rfl;have q4:=qb q' 1 _ rfl;have q5:=qb q' 2 _ rfl;simp only [zD]at q0 q1 q2 q3 q4 q5;exact⟨⟨q0,q1,q2⟩,(bL.o X (aS.trans (y.mono fun b _ h=>by have:=aS.size;have:=ah.o;omega))).1,⟨q3,q4,q5⟩⟩
  have ga:qal l f (.slice fK (qm r).length fL) (qm r):=by have:=qcc dS cX;rwa [aL] at this
  have iI:qal l f (.slice a6 (qm r).length c6) (qm r):=by have:=qcc gy cX;rwa [aL] at this
  have iJ:qal l f (.slice a7 (qm r).length c7) (qm r):=by have:=qcc gz cX;rwa [aL] at this
  have iM: ∀X va,Keep (fun b=>b<l) f X->qal l f va (qm r)->Calls prog 32 #[va,.slice fK (qm r).length fL] X fun e w'=>e=.returned (.bool true)/\wD X w':=fun X va y gc=>
   (qfi l va _ (qm r) (qm r) X (qd2 gc y) (qd2 ga y) (by have:=y.size;omega)).mono fun e w' ⟨h1,m,h2⟩=>⟨by rw [h1,zS rfl],by rw [h2];exact Keep.drewN' _ _ _⟩
  have cV:=gA.rule ag.o;have cW:=gC.rule ag.o;rw [aL]at cV cW;have aF: ∀X s1 s2,Keep (fun b=>b<l) f X->RuleIn l f s1 s2 r->Calls prog 27 #[.agg #[.string r.head.pred,s1,s2],.agg #[.string r.head.pred,.slice ar r.head.args.length aw,.slice aq r.body.length au]] X fun e w'=>e=.returned (.bool true)/\Keep (fun b=>b<X.heap.size) X w':=fun X s1 s2 y h=>
   qhk l r s1 s2 _ _ X (h.keep y) ((s.o X (aS.trans (y.mono fun b _ h=>by have:=aS.size;have:=ah.o;omega))).1.wider (by have:=(s.o f aS).2.1;omega)) (by have:=y.size;omega)
  have f8: ∀X,Keep (fun b=>b<l) f X->Calls prog 25 #[qj J] X fun e w'=>e=.returned (.int .i64 ((qcg r.body r.body.length).length:Int))/\w'=X:=fun X y=>
   qm6 (ad.o X ((dN.mono fun b _ h=>h.2).trans (y.mono fun b _ h=>by have:=dN.size;have:=aJ.o;omega))).1
  have iF: ∀X,Keep (fun b=>b<l) f X->Calls prog 33 #[.agg #[.string r.head.pred,.slice ar r.head.args.length aw,.slice aq r.body.length au]] X fun e w'=> ∃a c,e=.returned (.slice a (qcg r.body r.body.length).length c)/\Keep (fun b=>b<X.heap.size) X w':=fun X y=>by
   have k:=aS.trans (y.mono fun b _ h=>by have:=aS.size;have:=ah.o;omega:Keep (fun b=>b<N+1) f X);refine(qrg (s.o X k).1 (s.o X k).2.1).mono ?_;rintro e w' ⟨v,ps,rfl,h1,h2,-,h3⟩;have hl:ps.length=(qcg r.body r.body.length).length:=by rw [q3u,←h2,zL]
   obtain⟨a,c,rfl⟩:=qi h3;rw [hl];exact⟨a,c,rfl,h1⟩
  unfold qj at f8;obtain⟨Wd,fR⟩:=ex (f.drew);have kd:Keep (fun b=>b<l) f Wd:=by rw [←fR];exact kDr
  have ii:=hT Wd kd;have lb:(((qcg r.body r.body.length).length:Int) !=(qcg r.body r.body.length).length)=false:=wB
  clear s0 s1 s2 s3 ec al cD cF eB eD eE;refine qde ?_ aL bJ dN aS gy gz gA gC dT dU cX hT ga iI iJ iM;clear aL bJ dN aS gy gz gA gC dT dU cX hT ga iI iJ iM;intro an cx er ej hH hI kg hP hU hV cr b8 ka hp hq ee;refine hd9 ?_ cV cW aF f8 iF fR kd ii dS;clear cV cW aF f8 iF fR kd ii dS;intro fx fy ap hc he g3 hB gW ez;go_wp2_with fail;refine qba rfl (fun X=>(X.cell? ⟨Bu,0,none⟩=some (.string r.head.pred)/\X.cell? ⟨Bu,1,none⟩=some (.slice a8 r.head.args.length c8)/\X.cell? ⟨Bu,2,none⟩=some (.slice d8 r.body.length e8))/\(X.cell? ⟨N,0,none⟩=some (.string r.head.pred)/\X.cell? ⟨N,1,none⟩=some (.slice ar r.head.args.length aw)/\X.cell? ⟨N,2,none⟩=some (.slice aq r.body.length au))/\(X.cell? ⟨Bv,0,none⟩=some (.string r.head.pred)/\X.cell? ⟨Bv,1,none⟩=some (.slice ba r.head.args.length bb)/\X.cell? ⟨Bv,2,none⟩=some (.slice bc r.body.length bf))) [] ?_;rw [g3.o];refine qab [0,1] ?_
  iterate 2
   refine tkN (v:=?_) rfl gW.o ?_ ?_;rotate_left
   ·rintro Wq ⟨⟨x1,x2,x3⟩,⟨x4,x5,x6⟩,⟨x7,x8,x9⟩⟩;go_simp
    try with_reducible rfl
   try simp only [qac]
  refine qk ?_;refine ho 2 rfl fun K aV=>?_;go_wp2_with fail;refine(ee.o Wd _ hB.o hp.o).mono ?_;rintro e Y1 ⟨rfl,kY⟩;have gr:Keep (fun b=>b<l) f Y1:=hB.o.trans (kY.mono fun b _ h=>wE);have eM:=b8.o Y1 gr;clear kY;refine hd2 ?_ gr eM;clear gr eM;intro eu cf;go_wp2_with fail;refine aV.o _ _ (fun _=>cf.o) ?_;clear aV;refine qab [3,4,5,6] ?_
  iterate 4
   refine tkN (v:=?_) rfl cf.o ?_ ?_;rotate_left
   ·rintro Wq ⟨⟨x1,x2,x3⟩,⟨x4,x5,x6⟩,⟨x7,x8,x9⟩⟩;go_simp
    try with_reducible rfl
   try simp only [qac]
  refine qk ?_;refine ho 7 rfl fun K d2=>?_;go_wp2_with fail;refine(ee.o Y1 _ eu.o hq.o).mono ?_;rintro e Y2 ⟨rfl,kY⟩;have gs:Keep (fun b=>b<l) f Y2:=eu.o.trans (kY.mono fun b _ h=>wE);have eN:=b8.o Y2 gs;clear kY;refine hd2 ?_ gs eN;clear gs eN;intro cu cg;go_wp2_with fail;refine d2.o _ _ (fun _=>cg.o) ?_;clear d2;refine qab [8,9,10,11,12] ?_
  iterate 5
   refine tkN (v:=?_) rfl cg.o ?_ ?_;rotate_left
   ·rintro Wq ⟨⟨x1,x2,x3⟩,⟨x4,x5,x6⟩,⟨x7,x8,x9⟩⟩;go_simp
    try with_reducible rfl
   try simp only [qac]
  refine qk ?_;refine ho 13 rfl fun K d3=>?_;go_wp2_with fail;refine(ap.o Y2 _ _ cu.o fx.o).mono ?_;rintro e Y3 ⟨rfl,kY⟩;have gu:Keep (fun b=>b<l) f Y3:=cu.o.trans (kY.mono fun b _ h=>by have:=cu.o.size;have:=an.o;omega);have eO:=b8.o Y3 gu;clear kY;refine hd2 ?_ gu eO;clear gu eO;intro cw ch;go_wp2_with fail;refine d3.o _ _ (fun _=>ch.o) ?_;clear d3;refine qab [14,15,16,17,18] ?_
  iterate 5
   refine tkN (v:=?_) rfl ch.o ?_ ?_;rotate_left
   ·rintro Wq ⟨⟨x1,x2,x3⟩,⟨x4,x5,x6⟩,⟨x7,x8,x9⟩⟩;go_simp
    try with_reducible rfl
   try simp only [qac]
  refine qk ?_;refine ho 19 rfl fun K ao=>?_;go_wp2_with fail;refine(ap.o Y3 _ _ cw.o fy.o).mono ?_;rintro e Y4 ⟨rfl,kY⟩;have gv:Keep (fun b=>b<l) f Y4:=cw.o.trans (kY.mono fun b _ h=>by have:=cw.o.size;have:=an.o;omega);have eP:=b8.o Y4 gv;clear kY;refine hd2 ?_ gv eP;clear gv eP;intro bG bq;go_wp2_with fail;refine ao.o _ _ (fun _=>bq.o) ?_;clear ao;refine qab [20,21,22,23,25] ?_
  iterate 5
   refine tkN (v:=?_) rfl bq.o ?_ ?_;rotate_left
   ·rintro Wq ⟨⟨x1,x2,x3⟩,⟨x4,x5,x6⟩,⟨x7,x8,x9⟩⟩;go_simp
    try with_reducible rfl
   try simp only [qac]
  refine qk ?_;refine ho 24 rfl fun K aa=>?_;go_wp2_with fail;refine(hc.o Y4 bG.o).mono ?_;rintro e w9 ⟨rfl,U⟩;have U:=U.symm;subst U;go_wp2_with fail;refine aa.o _ _ (fun _=>bq.o) ?_;clear aa;refine ho 26 rfl fun K d4=>?_;go_wp2_with fail;refine(he.o Y4 bG.o).mono ?_;rintro e Y5 ⟨a5,c5,rfl,kY⟩;have gw:Keep (fun b=>b<l) f Y5:=bG.o.trans (kY.mono fun b _ h=>by have:=bG.o.size;have:=an.o;omega);have eQ:=b8.o Y5 gw;clear kY;refine hd2 ?_ gw eQ;clear gw eQ;intro ew cj;go_wp2_with fail;refine d4.o _ _ (fun _=>cj.o) ?_;clear d4;refine qab [27,28,29] ?_
  iterate 3
   refine tkN (v:=?_) rfl cj.o ?_ ?_;rotate_left
   ·rintro Wq ⟨⟨x1,x2,x3⟩,⟨x4,x5,x6⟩,⟨x7,x8,x9⟩⟩;go_simp
    try with_reducible rfl
   try simp only [qac]
  refine qk ?_;refine qbq wA ?_;go_wp2_with fail
  as_aux_lemma=>
  obtain⟨Bk,dx⟩:=ex (Y5.heap.size);obtain⟨bV,bh⟩:=ex (Y5.alloc (.cells #[.slice none 0 0,.slice none 0 0,.slice none 0 0] 73));obtain⟨bW,bi⟩:=ex (bV.alloc (.cells #[.slice a6 (qm r).length c6,.slice a7 (qm r).length c7] 60));have ke:wD Y5 bV:=by rw [←bh];exact kAl
  have kf:wD bV bW:=by rw [←bi];exact kAl
  have dW:bV.heap.size=Bk+1:=by rw [←bh,←dx];simp
  have jp:bW.heap.size=Bk+2:=by rw [←bi];simp [dW]
  have jg:bV.heap[Bk]?=some (.cells #[.slice none 0 0,.slice none 0 0,.slice none 0 0] 73 (0,0)):=by rw [←bh,←dx];exact qh _ _
  have jh:bW.heap[Bk+1]?=some (.cells #[.slice a6 (qm r).length c6,.slice a7 (qm r).length c7] 60 (0,0)):=by rw [←bi,←dW];exact qh _ _
  have iu:=qt7 (X:=bW) (M:=Bk+2) (vT:=.slice none 0 0) (vs:= []) (kf.heap jg wE) (zj _ _ _ _) jh xz xz wB rfl rfl;have e6:Keep (fun b=>b<l) f bW:=ew.o.trans ((ke.trans kf).mt);clear ke kf jg jh;refine hd7 ?_ dx bh bi dW jp iu e6;clear dx bh bi dW jp iu e6;intro dZ fp fq kh ki g5 fC;go_wp2_with fail;rw [fp.o,dZ.o,fq.o];refine g5.o.mono ?_;rintro e af ⟨rfl,vT,pB,oT,iV⟩
  as_aux_lemma=>
  obtain⟨L5,ib⟩:=ex (W5.heap.size);obtain⟨L7,fO⟩:=ex (W7.heap.size);have h6:l<=Bk:=by rw [←dZ.o];have:=ew.o.size;have:=an.o;omega
  have bn:Keep (fun b=>b<l) f af:=fC.o.trans (iV.mono fun b z h=>⟨xz,xz⟩);have eW:N+1<=M/\M+1<=L3/\L3<=L5/\L5<=W6.heap.size/\W6.heap.size<=L7/\L7<=Bu/\Bu+1<=Bv/\Bv+1<=l/\l<=Bk:=by have:=em.o.size;have:=aJ.o;have:=an.o;have:=b0.o;have:=cx.o.size;have:=cG.o;exact⟨jO,ig,xz,xz,xz,xz,jN,xz,h6⟩
  obtain⟨bs,dC,iv,aR⟩:=bt.o;rw [b0.o]at aR;rw [fO]at aR;have aM:USh af (.slice a8 r.head.args.length c8) (.slice d8 r.body.length e8) L7 Bu r.head.args.length bs 0:=(((aR.keep hy.o (fun _ _=>wE)).keep jF.o (fun b h=>xz)).keep cx.o (fun b h=>xz)).keep bn (fun b h=>xz);rw [←dC]at aM;have kn:bs.length<=1073741824:=by rw [dC];exact ag.o.2.1
  have eT: ∀d,d∈bs->d.2<=1073741824:=fun d hd=>by obtain⟨L,hL,e⟩:=iv d hd;rw [e];exact ag.o.2.2 L hL
  have la:r.head.args.length<=1073741824:=ag.o.1;have fh:=bn.heap hU.o xz;have il: ∀X,Keep (fun b=>b<L7∨Bu<=b) af X->X.cell? ⟨Bu,1,none⟩=some (.slice a8 r.head.args.length c8)/\X.cell? ⟨Bu,2,none⟩=some (.slice d8 bs.length e8)/\Bu<X.heap.size:=fun X y=>by
   have q:=y.heap fh (.inr (zG _));have q1:=qb q 1 _ rfl;have q2:=qb q 2 _ rfl;simp only [zD]at q1 q2;rw [dC];exact⟨q1,q2,qe q⟩
  have c2:Keep (fun b=>b<M+1) W2 af:=(ds.o.mono fun b _ h=>by have:=aC.o;omega).trans ((er.o.mono fun b _ h=>xz).trans (bn.mono fun b _ h=>xz));have fi:=c2.heap jG.o xz;clear iV aR iv dC fh;refine qg5 ?_ ib fO bn eW aM eT il pB oT c2 fi;clear ib fO bn eW aM eT il pB oT c2 fi;intro gS gT fD co bt fu cl jH hO fB fJ;go_wp2_with fail
  go_loopw [13] (fun i' wr=> ∃i:Nat,i<=bs.length/\i'=.int .i64 (i:Int)/\Keep (fun b=>b<L7∨Bu<=b) af wr/\USh wr (.slice a8 r.head.args.length c8) (.slice d8 bs.length e8) L7 Bu r.head.args.length bs i) (fun i _=>bs.length-(intOf i).toNat)
  case atStart=>exact⟨0,xz,rfl,Keep.refl _ _,bt.o⟩
  case round=>
   obtain⟨i,hi,rfl,hK,bM⟩:=hrel;obtain⟨e1,e2,dR⟩:=cl.o wr hK;by_cases bj:i<bs.length
   ·have ks:(i:Int)<bs.length:=by omega
    have kZ:(0:Int)<=i:=xz
    obtain⟨d,hd⟩: ∃d,bs[i]?=some d:=⟨_,zB bj⟩;have dD:=zH hd;obtain⟨g,jS,g1,g2,kW,q2,-⟩:=bM.litAt (zG _) hd;subst jS;have iG:=bM.br d dD;have ix:=fu.o d dD;have cS:=fun W (h:USh W (.slice a8 r.head.args.length c8) (.slice (some ⟨g,0,none⟩) bs.length e8) L7 Bu r.head.args.length bs i)=>h.litAt (zG _) hd;have fT:=fun W (h:USh W (.slice a8 r.head.args.length c8) (.slice (some ⟨g,0,none⟩) bs.length e8) L7 Bu r.head.args.length bs i)=>h.br d dD;obtain⟨v1,n1⟩:=d;simp only at iG ix q2 cS fT;obtain⟨ai,ci,rfl,-⟩:=iG;obtain⟨Wo,fS⟩: ∃Wo,Wo=wr:=⟨_,rfl⟩;subst fS;clear hd dD;refine hd4 ?_ hK bM cS fT;clear hK bM cS fT;intro fl gU fv g6;go_wp2_with fail;clear e1 e2 dR q2
    go_loopw [14] (fun k' wr=> ∃m:Nat,m<=n1/\k'=.int .i64 (m:Int)/\Keep (fun b=>b<L7∨Bu<=b) af wr/\USh wr (.slice a8 r.head.args.length c8) (.slice (some ⟨g,0,none⟩) bs.length e8) L7 Bu r.head.args.length bs i) (fun i _=>n1-(intOf i).toNat)
    case atStart=>exact⟨0,xz,rfl,fl.o,gU.o⟩
    case round=>
     obtain⟨m,hm,rfl,aj,R⟩:=hrel;obtain⟨-,e2,dR⟩:=cl.o wr aj;obtain⟨g',jR,-,-,kq,ln,p⟩:=fv.o wr R;cases jR;by_cases cT:m<n1
     ·have iB:(m:Int)<n1:=by omega
      have iC:(0:Int)<=m:=xz
      obtain⟨gi,rfl,l1,l2,eU,bO,ak⟩:=(g6.o wr R).at cT;obtain⟨⟨j7,p3⟩,p4⟩:=ak 1 wC;have aQ:=R.set_leaf bO wC (m*2+1) (.string ⟨#[115,112,111,105,108,116]⟩);have ab:Keep (fun b=>b<L7∨Bu<=b) af (wr.setCell ⟨gi,m*2+1,none⟩ (.string ⟨#[115,112,111,105,108,116]⟩)):=aj.trans (Keep.setCell _ _ _ (by simp;omega));clear ak bO p;refine hd4 ?_ aj R aQ ab;clear aj R aQ ab;intro ao bz aW aa;go_wp2_with fail;go_roundw
      case rel=>exact⟨m+1,xz,by go_num,aa.o,aW.o⟩
      case measure=>simp [intOf];omega
     ·obtain rfl:m=n1:=by omega
      have f7: ¬(m:Int)<m:=xz
      obtain⟨⟨w0,p0⟩,f0⟩:=p 0 wC;obtain⟨⟨w1,p1⟩,f1⟩:=p 1 wC;obtain⟨⟨w2,p2⟩,f2⟩:=p 2 wC;obtain⟨⟨w3,p3⟩,f3⟩:=p 3 wC;obtain⟨⟨w4,p4⟩,f4⟩:=p 4 wC;obtain⟨⟨w5,p5⟩,f5⟩:=p 5 wC;obtain⟨⟨w6,p6⟩,f6⟩:=p 6 wC;simp only [Nat.add_zero]at p0 f0;have hL:=R.later (show i<=i+1 from xz);have aQ:=((((((hL.set_lit rfl bj 0 wC (.int .i64 0)).set_lit rfl bj 1 wC (.string ⟨#[]⟩)).set_lit rfl bj 2 wC (.slice none 0 0)).set_lit rfl bj 3 wC (.bool false)).set_lit rfl bj 4 wC (.string ⟨#[]⟩)).set_lit rfl bj 5 wC (.bool false)).set_lit rfl bj 6 wC (.string ⟨#[]⟩);simp only [Nat.add_zero]at aQ;have ab:Keep (fun b=>b<L7∨Bu<=b) af (((((((wr.setCell ⟨g,i*7,none⟩ (.int .i64 0)).setCell ⟨g,i*7+1,none⟩ (.string ⟨#[]⟩)).setCell ⟨g,i*7+2,none⟩ (.slice none 0 0)).setCell ⟨g,i*7+3,none⟩ (.bool false)).setCell ⟨g,i*7+4,none⟩ (.string ⟨#[]⟩)).setCell ⟨g,i*7+5,none⟩ (.bool false)).setCell ⟨g,i*7+6,none⟩ (.string ⟨#[]⟩)):=
       ((((((aj.trans (Keep.setCell _ _ _ (by simp;omega))).trans (Keep.setCell _ _ _ (by simp;omega))).trans (Keep.setCell _ _ _ (by simp;omega))).trans (Keep.setCell _ _ _ (by simp;omega))).trans (Keep.setCell _ _ _ (by simp;omega))).trans (Keep.setCell _ _ _ (by simp;omega))).trans (Keep.setCell _ _ _ (by simp;omega))
      clear p hL;refine hd4 ?_ aj R aQ ab;clear aj R aQ ab;intro ao bz aW aa;go_wp2_with fail;go_roundw
      case rel=>exact⟨i+1,xz,by go_num,aa.o,aW.o⟩
      case measure=>simp [intOf];omega
   ·obtain rfl:i=bs.length:=by omega
    have kr: ¬(bs.length:Int)<bs.length:=xz
    obtain⟨Wo,fS⟩: ∃Wo,Wo=wr:=⟨_,rfl⟩;subst fS;have iy:=bM.hd;clear bM;refine hd2 ?_ hK iy;clear hK iy;intro fl g7;go_wp2_with fail;clear e1 e2 dR
    go_loopw [15] (fun k' wr=> ∃m:Nat,m<=r.head.args.length/\k'=.int .i64 (m:Int)/\Keep (fun b=>b<L7∨Bu<=b) af wr/\HasRow wr 77 2 L7 Bu r.head.args.length (.slice a8 r.head.args.length c8)) (fun i _=>r.head.args.length-(intOf i).toNat)
    case atStart=>exact⟨0,xz,rfl,fl.o,g7.o⟩
    case round=>
     obtain⟨m,hm,rfl,aj,R⟩:=hrel;obtain⟨e1,-,dR⟩:=cl.o wr aj;by_cases cT:m<r.head.args.length
     ·have iB:(m:Int)<r.head.args.length:=by omega
      have iC:(0:Int)<=m:=xz
      obtain⟨gi,rfl,l1,l2,eU,bO,ak⟩:=R.at cT;obtain⟨⟨j7,p3⟩,p4⟩:=ak 1 wC;have aQ:=R.set gi (m*2+1) (.string ⟨#[115,112,111,105,108,116]⟩);have ab:Keep (fun b=>b<L7∨Bu<=b) af (wr.setCell ⟨gi,m*2+1,none⟩ (.string ⟨#[115,112,111,105,108,116]⟩)):=aj.trans (Keep.setCell _ _ _ (by simp;omega));clear ak bO;refine hd4 ?_ aj R aQ ab;clear aj R aQ ab;intro ao bz aW aa;go_wp2_with fail;go_roundw
      case rel=>exact⟨m+1,xz,by go_num,aa.o,aW.o⟩
      case measure=>simp [intOf];omega
     ·obtain rfl:m=r.head.args.length:=by omega
      have f7: ¬(r.head.args.length:Int)<r.head.args.length:=xz
      as_aux_lemma=>
      obtain⟨dp,io⟩: ∃dp,dp=wr:=⟨_,rfl⟩;subst io;clear R;refine hd1 ?_ aj;clear aj;intro ao;go_wp2_with fail;obtain⟨n1,n2,n3,n4,n5,n6,n7,n8,n9⟩:=co.o;have c0:=(hs.o.keep fB.o (fun b h=>xz));have ip: ∀X,Keep (fun b=>(b<L7∨Bu<=b)/\(b<N+1∨M<=b)) af X->X.cell? ⟨M,2,none⟩=some (.slice (some ⟨xb,0,none⟩) r.body.length aG)/\M<X.heap.size/\N+1<=X.heap.size:=fun X y=>by
       have q:=y.heap fJ.o ⟨.inl xz,.inr (zG _)⟩;have q2:=qb q 2 _ rfl;simp only [zD]at q2;exact⟨q2,qe q,by have:=qe q;omega⟩
      have cZ:HasRow dp 79 7 (N+1) M r.body.length (.slice (some ⟨xb,0,none⟩) r.body.length aG):=c0.keep ao.o (fun b h=>Or.inl xz);have iY:Keep (fun b=>(b<L7∨Bu<=b)/\(b<N+1∨M<=b)) af dp:=ao.o.mono fun b _ h=>h.1;have kp:r.body.length<=1073741824:=ag.o.2.1;clear c0;refine hd3 ?_ ip cZ iY;clear ip cZ iY;intro cm dr hA
      go_loopw [16] (fun k' wr=> ∃m:Nat,m<=r.body.length/\k'=.int .i64 (m:Int)/\Keep (fun b=>(b<L7∨Bu<=b)/\(b<N+1∨M<=b)) af wr/\HasRow wr 79 7 (N+1) M r.body.length (.slice (some ⟨xb,0,none⟩) r.body.length aG)) (fun i _=>r.body.length-(intOf i).toNat)
      case atStart=>exact⟨0,xz,rfl,hA.o,dr.o⟩
      case round=>
       obtain⟨m,hm,rfl,ab,R⟩:=hrel;obtain⟨e2,lM,lN⟩:=cm.o wr ab;by_cases eV:m<r.body.length
       ·as_aux_lemma=>
        have kt:(m:Int)<r.body.length:=xz
        have iC:(0:Int)<=m:=xz
        obtain⟨gi,fW,l1,l2,eU,bO,-⟩:=R.at eV;cases fW;obtain⟨fk,cO⟩:=ex (wr.drew);have gx:wD wr fk:=by rw [←cO];exact kDr
        have ij:fk.cell? ⟨M,2,none⟩=some (.slice (some ⟨xb,0,none⟩) r.body.length aG):=gx.cell e2 trivial;have iE:=qow (n:=0) (w:=fk) (va:=.slice none 0 0) (xs:= []) ⟨#[115,112,111,105,108,116]⟩ ⟨none,0,rfl,wB,⟨wB,wC⟩,fun k x h=>by simp at h⟩ (ya _) (fun x h=>by cases h);clear bO;refine hd6 ?_ ab R cO gx ij iE;clear ab R cO gx ij iE;intro aa bz fr cy gX ha;go_wp2_with fail;refine qba rfl (fun X=>X.cell? ⟨M,2,none⟩=some (.slice (some ⟨xb,0,none⟩) r.body.length aG)) [6] ?_;rw [fr.o];refine qab [0,1,2] ?_
        iterate 3
         refine tkA rfl gX.o ?_
         try simp only [qac]
        refine qk ?_;refine ho 3 rfl fun K d1=>?_;go_wp2_with fail;refine ha.o.mono ?_;rintro e Wo ⟨vo,rfl,oo,ko⟩;obtain⟨av,cv,rfl⟩:=qi oo;have dA:Keep (fun b=>(b<L7∨Bu<=b)/\(b<N+1∨M<=b)) af Wo:=aa.o.trans (cy.o.mt.trans (ko.mono fun b z _=>z));have ik:=(cm.o Wo dA).1;have cK:=bz.o.keep (cy.o.mt.trans (ko.mono fun b z h=>by have:=(cm.o wr aa.o).2.1;have:=cy.o.size;omega):Keep (fun b=>b<M) wr Wo) (fun b h=>h);obtain⟨gi,fW,-,-,jT,-,p⟩:=cK.at eV;cases fW;obtain⟨⟨w0,p0⟩,f0⟩:=p 0 wC;obtain⟨⟨w1,p1⟩,f1⟩:=p 1 wC;obtain⟨⟨w2,p2⟩,f2⟩:=p 2 wC;obtain⟨⟨w3,p3⟩,f3⟩:=p 3 wC;obtain⟨⟨w4,p4⟩,f4⟩:=p 4 wC;obtain⟨⟨w5,p5⟩,f5⟩:=p 5 wC;obtain⟨⟨w6,p6⟩,f6⟩:=p 6 wC;simp only [Nat.add_zero]at p0 f0;obtain⟨Wz,dB⟩:=ex ((((((((Wo.setCell ⟨xb,m*7,none⟩ (.int .i64 1)).setCell ⟨xb,m*7+1,none⟩ (.string ⟨#[115,112,111,105,108,116]⟩)).setCell ⟨xb,m*7+2,none⟩ (.slice av 0 cv)).setCell ⟨xb,m*7+3,none⟩ (.bool false)).setCell ⟨xb,m*7+4,none⟩ (.string ⟨#[]⟩)).setCell ⟨xb,m*7+5,none⟩ (.bool false)).setCell ⟨xb,m*7+6,none⟩ (.string ⟨#[]⟩)));have ih:HasRow Wz 79 7 (N+1) M r.body.length (.slice (some ⟨xb,0,none⟩) r.body.length aG):=by rw [←dB];exact(((((((cK.set xb (m*7) (.int .i64 1)).set xb (m*7+1) (.string ⟨#[115,112,111,105,108,116]⟩)).set xb (m*7+2) (.slice av 0 cv)).set xb (m*7+3) (.bool false)).set xb (m*7+4) (.string ⟨#[]⟩)).set xb (m*7+5) (.bool false)).set xb (m*7+6) (.string ⟨#[]⟩))
        have h9:Keep (fun b=>(b<L7∨Bu<=b)/\(b<N+1∨M<=b)) af Wz:=by rw [←dB];exact(((((((dA.trans (Keep.setCell _ _ _ (by simp;omega))).trans (Keep.setCell _ _ _ (by simp;omega))).trans (Keep.setCell _ _ _ (by simp;omega))).trans (Keep.setCell _ _ _ (by simp;omega))).trans (Keep.setCell _ _ _ (by simp;omega))).trans (Keep.setCell _ _ _ (by simp;omega))).trans (Keep.setCell _ _ _ (by simp;omega)))
        clear p cK oo ko;refine hd5 ?_ dA ik dB ih h9;clear dA ik dB ih h9;intro j9 d5 g4 gV gR;go_wp2_with fail;refine d1.o _ _ (fun _=>d5.o) ?_;refine qab [4,5] ?_
        iterate 2
         refine tkA rfl d5.o ?_
         try simp only [qac]
        refine qk ?_;refine ho 6 rfl fun K aV=>?_;go_wp2_with fail;rw [g4.o];refine aV.o _ _ (fun h=>absurd h wC) ?_;refine qbq wA ?_;clear d1 aV;go_wp2_with fail;go_roundw
        case rel=>exact⟨m+1,xz,by go_num,gR.o,gV.o⟩
        case measure=>simp [intOf];omega
       ·as_aux_lemma=>
        obtain rfl:m=r.body.length:=xz
        have jU: ¬(r.body.length:Int)<r.body.length:=xz
        obtain⟨aP,im⟩: ∃aP,aP=wr:=⟨_,rfl⟩;subst im;obtain⟨n1,n2,n3,n4,n5,n6,n7,n8,n9⟩:=co.o;have h5:=gS.o;have h7:=gT.o;have kU:=an.o;have kT:=cG.o;have bk: ∀b,(Value.slice a6 (qm r).length c6).ownBlock=some b->L5<=b/\b<W6.heap.size:=fun b z=>by have:=hf.o b z;omega
        have bl: ∀b,(Value.slice a7 (qm r).length c7).ownBlock=some b->W6.heap.size<=b/\b<L7:=fun b z=>by have:=hg.o b z;omega
        have aE:Keep (fun b=>b<l/\(b<L7∨Bu<=b)/\(b<N+1∨M<=b)) f aP:=(fD.o.mono fun b _ h=>h.1).trans (ab.mono fun b _ h=>h.2);have fg:=ab.heap jH.o ⟨.inr xz,.inr xz⟩;have dG:=fun b (z:vT.ownBlock=some b)=>(zE hO.o b z).1;have ff:=(qf hO.o ab (fun b z=>by have:=dG b z;exact⟨.inr xz,.inr xz⟩)).mono (ya _);have fd:=(qf hH.o aE (fun b z=>by have:=bk b z;omega)).mono (ya _);have fe:=(qf hI.o aE (fun b z=>by have:=bl b z;omega)).mono (ya _);have gb: ∀b,qd4 [(Value.slice a6 (qm r).length c6,(qm r).length),(Value.slice a7 (qm r).length c7,(qm r).length)] b->L5<=b/\b<L7:=fun b ⟨t,ht,z⟩=>by
         simp only [zt,yR,yf]at ht;rcases ht with rfl |rfl
         ·have:=bk b z;omega
         ·have:=bl b z;omega
        have fN:BookIn aP Bk vT [(Value.slice a6 (qm r).length c6,(qm r).length),(Value.slice a7 (qm r).length c7,(qm r).length)]:=by
         refine⟨fg,ff,fun t ht b z=>?_,fun h=>?_,fun i j t u hi hj iz b z ir=>?_,wB,fun t ht=>?_⟩
         ·have:=gb b ⟨t,ht,z⟩;exact⟨xz,fun h=>by have:=dG b h;omega⟩
         ·have:=dG Bk h;omega
         ·match i,hi with
          |0,hi=>
           cases hi
           match j,hj with
           |0,hj=>exact iz rfl
           |1,hj=>cases hj;have:=bk b z;have:=bl b ir;omega
          |1,hi=>
           cases hi
           match j,hj with
           |0,hj=>cases hj;have:=bl b z;have:=bk b ir;omega
           |1,hj=>exact iz rfl
         ·simp only [zt,yR,yf]at ht;rcases ht with rfl |rfl<;>exact cr.o
        have fP:MkO aP [(Value.slice a6 (qm r).length c6,(qm r).length),(Value.slice a7 (qm r).length c7,(qm r).length)] 0:=fun j t ht=>by
         match j,ht with
         |0,ht=>cases ht;exact⟨qm r,⟨rfl,fd⟩,fun h=>absurd h xz⟩
         |1,ht=>cases ht;exact⟨qm r,⟨rfl,fe⟩,fun h=>absurd h xz⟩
        have bK: ∀Y,Keep (fun b=> ¬qd4 [(Value.slice a6 (qm r).length c6,(qm r).length),(Value.slice a7 (qm r).length c7,(qm r).length)] b) aP Y->Keep (fun b=>b<l/\(b<L5∨Bu<=b)/\(b<N+1∨M<=b)) f Y:=fun Y hY=>(aE.mono fun b _ h=>⟨h.1,h.2.1.imp (fun h=>xz) id,h.2.2⟩).trans (hY.mono fun b _ h ht=>by have:=gb b ht;omega);have dF: ∀X,Keep (fun b=>b<l/\(b<L5∨Bu<=b)/\(b<N+1∨M<=b)) f X->Keep (fun b=>b<N) w X:=fun X y=>(s.o f ej.o).2.2.trans (y.mono fun b _ h=>⟨xz,.inl xz,.inl xz⟩);have jQ:=qlf fN fP (fun Y hY=>ck.o.keep ((dF Y (bK Y hY)).mono fun b _ h=>by have:=bp.o;omega));have fZ: ∀X,Keep (fun b=>b<l/\(b<L5∨Bu<=b)/\(b<N+1∨M<=b)) f X->Keep (fun b=>b<N+1) W0 X:=fun X y=>ej.o.trans (y.mono fun b _ h=>⟨xz,.inl xz,.inl h⟩);have fQ: ∀X,Keep (fun b=>b<l/\(b<L5∨Bu<=b)/\(b<N+1∨M<=b)) f X->(X.cell? ⟨N,0,none⟩=some (.string r.head.pred)/\X.cell? ⟨N,1,none⟩=some (.slice ar r.head.args.length aw)/\X.cell? ⟨N,2,none⟩=some (.slice aq r.body.length au))/\(X.cell? ⟨Bv,0,none⟩=some (.string r.head.pred)/\X.cell? ⟨Bv,1,none⟩=some (.slice ba r.head.args.length bb)/\X.cell? ⟨Bv,2,none⟩=some (.slice bc r.body.length bf)):=fun X y=>by
         have q':=y.heap hV.o ⟨xz,.inr xz,.inr xz⟩;have q3:=qb q' 0 _ rfl;have q4:=qb q' 1 _ rfl;have q5:=qb q' 2 _ rfl;simp only [zD]at q3 q4 q5;exact⟨(bL.o X (fZ X y)).1,q3,q4,q5⟩
        have hJ: ∀X,Keep (fun b=>b<l/\(b<L5∨Bu<=b)/\(b<N+1∨M<=b)) f X->JoinAt (fun b=>W2.heap.size<=b/\b<W3.heap.size) W3.heap.size X J r (qm r) (qcg r.body r.body.length) vha vbb vv va' vt vhh/\W3.heap.size<=X.heap.size:=fun X y=>
         ad.o X ((er.o.mono fun b _ h=>h.2).trans (y.mono fun b _ h=>⟨xz,.inl xz,.inr xz⟩))
        have eY: ∀X m s1 s2,Keep (fun b=>b<l/\(b<L5∨Bu<=b)/\(b<N+1∨M<=b)) f X->RuleIn m X s1 s2 r->n<=m->m<=X.heap.size->Calls prog 27 #[.agg #[.string r.head.pred,s1,s2],.agg #[.string r.head.pred,.slice ar r.head.args.length aw,.slice aq r.body.length au]] X fun e w'=>e=.returned (.bool true)/\Keep (fun b=>b<X.heap.size) X w':=fun X m s1 s2 y h jV jW=>
         qhk m r s1 s2 _ _ X h ((s.o X (fZ X y)).1.wider jV) jW
        have iH: ∀X,Keep (fun b=>b<l/\(b<L5∨Bu<=b)/\(b<N+1∨M<=b)) f X->RuleIn X.heap.size X (.slice ba r.head.args.length bb) (.slice bc r.body.length bf) r:=fun X y=>
         (hP.o.keep y (fun b h1 h2=>⟨xz,.inr xz,.inr xz⟩)).rule ag.o
        have e0: ∀X Y va,Keep (fun b=>b<l/\(b<L5∨Bu<=b)/\(b<N+1∨M<=b)) f X->Y=X->qal X.heap.size X va (qm r)->Calls prog 32 #[va,.slice fK (qm r).length fL] X fun e w'=>e=.returned (.bool true)/\wD X w':=fun X Y va y _ gc=>
         (qfi X.heap.size va _ (qm r) (qm r) X gc (qcc (qf ez.o y (fun b z=>by have:=zE ez.o b z;exact⟨xz,.inr xz,.inr xz⟩)) cr.o) (zG _)).mono fun e w' ⟨h1,m,h2⟩=>⟨by rw [h1,zS rfl],by rw [h2];exact Keep.drewN' _ _ _⟩
        have iD: ∀X,Keep (fun b=>b<l/\(b<L5∨Bu<=b)/\(b<N+1∨M<=b)) f X->n<=X.heap.size/\l<=X.heap.size:=fun X y=>⟨(s.o X (fZ X y)).2.1,by have:=y.size;omega⟩;obtain⟨aU,bI⟩:=ex (aP.drew);have eS:Calls prog 36 #[.pointer (some ⟨Bk,0,none⟩)] aU fun e Y=>e=.returned (.bool true)/\Keep (fun b=>b<l/\(b<L5∨Bu<=b)/\(b<N+1∨M<=b)) f Y:=by
         have dQ:wD aP aU:=by rw [←bI];exact kDr
         refine(qlf (fN.keep dQ (fun _ _=>wE)) (fun j t ht=>?_) (fun Y hY=>ck.o.keep ((dF Y (bK Y (dQ.mt.trans hY))).mono fun b _ h=>by have:=bp.o;omega))).mono fun e Y ⟨h1,h2⟩=>⟨h1,bK Y (dQ.mt.trans h2)⟩;obtain⟨xs,h1,h2⟩:=fP j t ht;exact⟨xs,⟨h1.1,qf h1.2 dQ (fun _ _=>wE)⟩,h2⟩
        have bH:=fQ aP ((aE.mono fun b _ h=>⟨h.1,h.2.1.imp (fun h=>xz) id,h.2.2⟩));have bH:(aU.cell? ⟨N,0,none⟩=some (.string r.head.pred)/\aU.cell? ⟨N,1,none⟩=some (.slice ar r.head.args.length aw)/\aU.cell? ⟨N,2,none⟩=some (.slice aq r.body.length au))/\(aU.cell? ⟨Bv,0,none⟩=some (.string r.head.pred)/\aU.cell? ⟨Bv,1,none⟩=some (.slice ba r.head.args.length bb)/\aU.cell? ⟨Bv,2,none⟩=some (.slice bc r.body.length bf)):=by rw [←bI];exact bH
        clear bk bl aE fg dG ff fd fe gb fN fP bK jQ ab R;refine qc9 ?_ dF fQ hJ eY iH e0 iD bI eS bH;clear dF fQ hJ eY iH e0 iD bI eS bH;intro g9 aB dq cp hh fA aK fs ft jE;go_wp2_with fail;refine qba rfl (fun X=>(X.cell? ⟨N,0,none⟩=some (.string r.head.pred)/\X.cell? ⟨N,1,none⟩=some (.slice ar r.head.args.length aw)/\X.cell? ⟨N,2,none⟩=some (.slice aq r.body.length au))/\(X.cell? ⟨Bv,0,none⟩=some (.string r.head.pred)/\X.cell? ⟨Bv,1,none⟩=some (.slice ba r.head.args.length bb)/\X.cell? ⟨Bv,2,none⟩=some (.slice bc r.body.length bf))) [] ?_;rw [fs.o];refine ho 0 rfl fun K b1=>?_;go_wp2_with fail;refine ft.o.mono ?_;rintro e U1 ⟨rfl,gj⟩;have eF:=aB.o U1 gj;refine hd2 ?_ gj eF;clear gj eF;intro a3 ca;go_wp2_with fail;refine b1.o _ _ (fun _=>ca.o) ?_;clear b1;refine qab [1,2,3] ?_
        iterate 3
         refine tkN (v:=?_) rfl ca.o ?_ ?_;rotate_left
         ·rintro Wq ⟨⟨x1,x2,x3⟩,⟨x4,x5,x6⟩⟩;go_simp
          try with_reducible rfl
         try simp only [qac]
        refine qk ?_;refine ho 4 rfl fun K b2=>?_;go_wp2_with fail;refine(cp.o U1 U1.heap.size _ _ a3.o (hh.o U1 a3.o) (aK.o U1 a3.o).1 (zG _)).mono ?_;rintro e U2 ⟨rfl,kY⟩;have gk:Keep (fun b=>b<l/\(b<L5∨Bu<=b)/\(b<N+1∨M<=b)) f U2:=a3.o.trans (kY.mono fun b _ h=>by have:=(aK.o U1 a3.o).2;omega);have eG:=aB.o U2 gk;clear kY;refine hd2 ?_ gk eG;clear gk eG;intro bD cb;go_wp2_with fail;refine b2.o _ _ (fun _=>cb.o) ?_;clear b2;refine qab [5,6,7,9] ?_
        iterate 4
         refine tkN (v:=?_) rfl cb.o ?_ ?_;rotate_left
         ·rintro Wq ⟨⟨x1,x2,x3⟩,⟨x4,x5,x6⟩⟩;go_simp
          try with_reducible rfl
         try simp only [qac]
        refine qk ?_;have fX:=qi9 (dq.o U2 bD.o).1 (dq.o U2 bD.o).2;unfold qj at fX;refine hd1 ?_ fX;clear fX;intro d9;refine ho 8 rfl fun K b3=>?_;go_wp2_with fail;refine d9.o.mono ?_;rintro e U3 ⟨z1,z2,z3,z4,rfl,oz,kY⟩;have gl:Keep (fun b=>b<l/\(b<L5∨Bu<=b)/\(b<N+1∨M<=b)) f U3:=bD.o.trans (kY.mono fun b _ h=>by have:=(aK.o U2 bD.o).2;omega);have eX:=oz.rule ag.o;clear oz d9;have eH:=aB.o U3 gl;clear kY;refine hd3 ?_ gl eH eX;clear gl eH eX;intro bF fm fw;go_wp2_with fail;refine b3.o _ _ (fun _=>fm.o) ?_;clear b3;refine ho 10 rfl fun K b4=>?_;go_wp2_with fail;refine(cp.o U3 U3.heap.size _ _ bF.o fw.o (aK.o U3 bF.o).1 (zG _)).mono ?_;rintro e U4 ⟨rfl,kY⟩;have gm:Keep (fun b=>b<l/\(b<L5∨Bu<=b)/\(b<N+1∨M<=b)) f U4:=bF.o.trans (kY.mono fun b _ h=>by have:=(aK.o U3 bF.o).2;omega);have eI:=aB.o U4 gm;clear kY;refine hd2 ?_ gm eI;clear gm eI;intro ct cc;go_wp2_with fail;refine b4.o _ _ (fun _=>cc.o) ?_;clear b4;refine qab [11,12,13,15] ?_
        iterate 4
         refine tkN (v:=?_) rfl cc.o ?_ ?_;rotate_left
         ·rintro Wq ⟨⟨x1,x2,x3⟩,⟨x4,x5,x6⟩⟩;go_simp
          try with_reducible rfl
         try simp only [qac]
        refine qk ?_;have fY:=qhm (dq.o U4 ct.o).1 (dq.o U4 ct.o).2;unfold qj at fY;refine hd1 ?_ fY;clear fY;intro ea;refine ho 14 rfl fun K b5=>?_;go_wp2_with fail;refine ea.o.mono ?_;rintro e U5 ⟨vz,rfl,oz,kY⟩;obtain⟨az,cz,rfl⟩:=qi oz;have gn:Keep (fun b=>b<l/\(b<L5∨Bu<=b)/\(b<N+1∨M<=b)) f U5:=ct.o.trans (kY.mono fun b _ h=>wE);have eZ:=qcc oz cr.o;clear oz ea;have eJ:=aB.o U5 gn;clear kY;refine hd3 ?_ gn eJ eZ;clear gn eJ eZ;intro es fn fz;go_wp2_with fail;refine b5.o _ _ (fun _=>fn.o) ?_;clear b5;refine ho 16 rfl fun K b6=>?_;go_wp2_with fail;refine(fA.o U5 U5 _ es.o rfl fz.o).mono ?_;rintro e U6 ⟨rfl,kY⟩;have gp:Keep (fun b=>b<l/\(b<L5∨Bu<=b)/\(b<N+1∨M<=b)) f U6:=es.o.trans (kY.mono fun b _ h=>wE);have eK:=aB.o U6 gp;clear kY;refine hd2 ?_ gp eK;clear gp eK;intro et cd;go_wp2_with fail;refine b6.o _ _ (fun _=>cd.o) ?_;clear b6;refine qab [17,18] ?_
        iterate 2
         refine tkN (v:=?_) rfl cd.o ?_ ?_;rotate_left
         ·rintro Wq ⟨⟨x1,x2,x3⟩,⟨x4,x5,x6⟩⟩;go_simp
          try with_reducible rfl
         try simp only [qac]
        refine qk ?_;refine ho 19 rfl fun K b7=>?_;go_wp2_with fail;refine(qqn U6).mono ?_;rintro e U7 ⟨rfl,kY⟩;have gq:Keep (fun b=>b<l/\(b<L5∨Bu<=b)/\(b<N+1∨M<=b)) f U7:=et.o.trans (kY.mono fun b _ h=>by have:=(aK.o U6 et.o).2;omega);have eL:=aB.o U7 gq;clear kY;refine hd2 ?_ gq eL;clear gq eL;intro hz ce;go_wp2_with fail;refine b7.o _ _ (fun _=>ce.o) ?_;clear b7;refine qab [20,21] ?_
        iterate 2
         refine tkN (v:=?_) rfl ce.o ?_ ?_;rotate_left
         ·rintro Wq ⟨⟨x1,x2,x3⟩,⟨x4,x5,x6⟩⟩;go_simp
          try with_reducible rfl
         try simp only [qac]
        refine qk ?_;refine qbq wA ?_;have e7:=g9.o U7 hz.o;refine hd1 ?_ e7;clear e7;intro fE;go_wp2_with fail;go_ret;rw [bp.o];exact⟨rfl,fE.o⟩
end Go.Proofs

/- Parts of the proof. -/
import Derived.Test.YtnponcjnahicnaaGreatRfIToRfK
set_option linter.unusedSimpArgs false
set_option linter.unusedVariables false
set_option maxRecDepth 100000
set_option maxHeartbeats 4000000
open Go.Proofs.Tryz(prog)
open List(length_singleton nil_append nodup_nil pairwise_append pairwise_pair)
namespace Go.Proofs
open Go.RowKit Go.Ink Go.Flt R4 P16
attribute [local go_sem] Oper.semAt_some
theorem qow {w:World}{m:Nat}{v:Value}(p:ByteArray){ts:List TermD}(h:qai m w v ts)(hm:m<=w.heap.size):Calls prog 44 #[.agg #[.string p,v]] w fun e w'=> ∃v',e=.returned (.agg #[.string p,v'])/\w'.ownsRow w.heap.size 60 2 v' ts.length (qad ts)/\wG w w':=by
 obtain⟨a,c,rfl,hl,hc,he⟩:=id h;obtain⟨N,hN⟩:=ex (w.heap.size);obtain⟨W0,d⟩:=ex ((w.alloc (.cells #[.string p,.slice a ts.length c] 24)).alloc (.cells #[.string ⟨#[]⟩,.slice none 0 0] 24));have k0:wG w W0:=by rw [←d];exact kAl.trans kAl
 have z0:W0.heap.size=N+2:=by rw [←d,←hN];simp
 have p0:W0.heap[N]?=some (.cells #[.string p,.slice a ts.length c] 24 (0,0)):=by rw [←d,←hN];exact(Keep.alloc (fun _=>True) _ _).heap (qh w _) trivial
 have p1:W0.heap[N+1]?=some (.cells #[.string ⟨#[]⟩,.slice none 0 0] 24 (0,0)):=by
  rw [←d,←hN];have:=qh (w.alloc (.cells #[.string p,.slice a ts.length c] 24)) (.cells #[.string ⟨#[]⟩,.slice none 0 0] 24);rw [zO]at this;exact this
 obtain⟨R,ab⟩:=ex (W0.drew);have kd:wG W0 R:=by rw [←ab];exact kDr
 have hS: ∀X,Keep (fun b=>b<N+2) W0 X->X.cell? ⟨N,0,none⟩=some (.string p)/\X.cell? ⟨N,1,none⟩=some (.slice a ts.length c):=fun X hX=>by
  have q:=hX.heap p0 wC;have q0:=qb q 0 _ rfl;have q1:=qb q 1 _ rfl;simp only [zD]at q0 q1;exact⟨q0,q1⟩
 have aY:=kd.size;obtain⟨Wb,r⟩:=ex (R.alloc (.cells #[] 60));have kb:wG R Wb:=by rw [←r];exact kAl
 have ob:=qfg R 60 2;rw [r]at ob;have a0:=kb.size;have U:=qak h ((k0.trans (kd.trans kb)).mt);obtain⟨v5,W5,ad,g,ap,af⟩:=qhz (P:=prog) qh3 22 ob a ts.length c (qad ts) (qeq _) (qei U).1 (qei U).2 (qkv _) wC wC;rw [nil_append,zD]at g;obtain⟨a5,c5,rfl⟩:=qj g;have k5:Keep (fun b=>b<R.heap.size) Wb W5:=af.mono fun b _ h e=>by
  rcases ap b e with h1 |h1
  ·simp [Value.ownBlock]at h1;omega
  ·omega
 have l:Keep (fun b=>b<N+2) W0 W5:=((kd.trans kb).mt).trans (k5.mono fun b _ h=>wC);have Y:=l.heap p1 wC;have d0:=qb Y 0 _ rfl;have d1:=qb Y 1 _ rfl;have f0:=qg Y 0;have f1:=qg Y 1;have l1:=qe Y;simp only [zD]at d0 d1;obtain⟨W6,s⟩:=ex ((W5.setCell ⟨N+1,0,none⟩ (.string p)).setCell ⟨N+1,1,none⟩ (.slice a5 ts.length c5));have k6:Keep (fun b=>b≠N+1) W5 W6:=by rw [←s];exact(kSc).trans (kSc)
 have b6:W6.heap[N+1]?=some (.cells #[.string p,.slice a5 ts.length c5] 24 (0,0)):=by rw [←s];exact qag 1 _ (qag 0 (.string p) Y)
 have e0:=qb b6 0 _ rfl;have e1:=qb b6 1 _ rfl;have l6:=qe b6;simp only [zD]at e0 e1;have o6:=qf g k6 (fun b hb=>by have:=(zE g b hb).1;omega);have hK:wG w W6:=(k0.mt.trans ((l.mono fun b _ (h:b<N)=>wC).trans (k6.mono fun b _ (h:b<N)=>wC))).mono fun b hb _=>wC
 have av:=hS R kd.mt;have au:=hS Wb ((kd.trans kb).mt);have al:=hS W5 l;have aS:R.heap.size≥N:=wC
 clear hS l k5 kb k6 ap af g ob U Y b6 he;refine qb5 ?_ h hN d k0 p0 p1 ab kd r s ad o6 hK av au al;clear h hN d k0 p0 p1 ab kd r s ad o6 hK av au al;intro Xh ar ae aQ aV aU ah aT an am ai aG aF ag aj t;refine qbr Tryz.func44 rfl ?_;simp only [Tryz.ntmps44,qd0,Nat.reduceAdd,Nat.reduceSub];gi_wp2;rw [ae.o,ar.o];refine qae ?_;refine qw rfl (fun X=>X.cell? ⟨N,0,none⟩=some (.string p)/\X.cell? ⟨N,1,none⟩=some (.slice a ts.length c)) [7] ?_;rw [ah.o];refine qy [0,1,3,4] ?_
 iterate 4
  refine tkR (v:=?_) rfl ag.o ?_ ?_;rotate_left
  ·rintro Wq ⟨x1,x2⟩;go_simp
   try with_reducible rfl
  try simp only [qz]
 refine qm ?_;refine hoR 2 rfl fun K z=>?_;gi_wp2;rw [an.o];refine z.o _ _ (fun _=>aj.o) ?_;refine hoR 5 rfl fun K y=>?_;refine qck rfl (.tmp 5) (.tmp 7) 22 rfl rfl rfl ai.o ?_;gi_wp2;refine y.o _ _ (fun _=>t.o) ?_;refine hoR 6 rfl fun K x=>?_;gi_wp2;refine x.o _ _ (fun _=>t.o) ?_;refine hoR 7 rfl fun K u=>?_;gi_wp2;rw [am.o];refine u.o _ _ (fun h=>absurd h wF) ?_;refine ql wD (qo ?_);clear z y x u;gi_wp2;refine yA (v:=.agg #[.string p,.slice a5 ts.length c5]) (by simp [results,Tryz.results44,go_sem,e0,e1,l6]) rfl ⟨_,rfl,aG.o.mono (by have:=ar.o;omega),aF.o⟩
theorem ql2 {w:World}{base c:Nat}{e p:TypeId}{sz g n t:Nat}{v v':Value}{xs l:List Value}(h:w.ownsRow base e sz v n xs)(r:w.ownsRow c p g v' t l)(u:e≠p){b:Nat}(q:v.ownBlock=some b):some b≠v'.ownBlock:=fun m=>by
 obtain⟨x,s⟩:=qa1 h q;obtain⟨y,d⟩:=qa1 r m.symm;rw [s]at d;injection d with d
 injection d with _ d _
 exact u d
theorem qfc {w:World}{base:Nat}{e t:TypeId}{sz n B:Nat}{v:Value}{xs:List Value}{g:Array Value}(h:w.ownsRow base e sz v n xs)(c:w.heap[B]?=some (.cells g t (0,0)))(p:e≠t){b:Nat}(l:v.ownBlock=some b):b≠B:=fun d=>by
 subst d;obtain⟨q,m⟩:=qa1 h l;rw [m]at c;injection c with c
 injection c with _ c _
 exact p c
theorem qw2 {w:World}{n:Nat}{r:RuleD}{sh sb:Value}(hr:RuleIn n w sh sb r)(hn:n<=w.heap.size):Calls prog 10 #[qam r sh sb] w fun e w'=> ∃vh vb,e=.returned (qam r vh vb)/\RuleOwn w.heap.size 64 60 w' vh vb r/\Keep (fun b=>b<w.heap.size) w w':=by
 unfold qam;obtain⟨N,hN⟩:=ex (w.heap.size);have aW:=hr.1;obtain⟨⟨ah,aE,rfl,ca,cc,aN⟩,⟨ab,aA,rfl,cg,b5,aR⟩⟩:=id hr;obtain⟨W0,ao⟩:=ex ((w.alloc (.cells #[.string r.head.pred,.slice ah r.head.args.length aE,.slice ab r.body.length aA] 27)).alloc (.cells #[.string ⟨#[]⟩,.slice none 0 0,.slice none 0 0] 27));have k0:wG w W0:=by rw [←ao];exact kAl.trans kAl
 have z0:W0.heap.size=N+2:=by rw [←ao,←hN];simp
 have p0:W0.heap[N]?=some (.cells #[.string r.head.pred,.slice ah r.head.args.length aE,.slice ab r.body.length aA] 27 (0,0)):=by rw [←ao,←hN];exact(Keep.alloc (fun _=>True) _ _).heap (qh w _) trivial
 have p1:W0.heap[N+1]?=some (.cells #[.string ⟨#[]⟩,.slice none 0 0,.slice none 0 0] 27 (0,0)):=by
  rw [←ao,←hN];have:=qh (w.alloc (.cells #[.string r.head.pred,.slice ah r.head.args.length aE,.slice ab r.body.length aA] 27)) (.cells #[.string ⟨#[]⟩,.slice none 0 0,.slice none 0 0] 27);rw [zO]at this;exact this
 have d0:=qb p0 0 _ rfl;have d1:=qb p0 1 _ rfl;have d2:=qb p0 2 _ rfl;have l0:=qe p0;simp only [zD]at d0 d1 d2;have d:=qow (w:=W0) r.head.pred (qak aW k0.mt) wC;rw [z0]at d;refine qhu ?_ z0 hr aW aN aR hN ao k0 p0 p1 d;clear z0 hr aW aN aR hN ao k0 p0 p1 d;intro bV c3 cs b0 aX U bp bw cj ci x
 go_enter Tryz.func10,Tryz.ntmps10
 go_wp2_with fail;rw [bp.o];refine x.o.mono ?_;rintro e W1 ⟨vh,rfl,oh,k1⟩;obtain⟨ad,ae,rfl⟩:=qj oh;obtain⟨B,hB⟩:=ex (W1.heap.size);obtain⟨W2,au⟩:=ex (W1.alloc (.cells #[.string r.head.pred,.slice ad r.head.args.length ae,.slice none 0 0] 27));have k2:wG W1 W2:=by rw [←au];exact kAl
 have pB:W2.heap[B]?=some (.cells #[.string r.head.pred,.slice ad r.head.args.length ae,.slice none 0 0] 27 (0,0)):=by rw [←au,←hB];exact qh _ _
 have z2:W2.heap.size=B+1:=by rw [←au,←hB];simp
 have c1:N+2<=B:=by have:=k1.size;have:=bV.o;omega
 have bj:=qf oh k2 (fun _ _=>wH);have bF:wG W0 W2:=k1.trans k2;clear k1 oh k2;refine hd6 ?_ hB au pB bj bF z2;clear hB au pB bj bF z2;intro b6 bq ck bs a9 dg;go_wp2_with fail;rw [bq.o,b6.o,U.o]
 go_loopw [4] (fun ix wr=> ∃(k:Nat) (ps:List (LitD×Value)) (vb:Value),k<=r.body.length/\ix=.int .i64 (k:Int)/\Keep (fun b=>b<N+2) W0 wr/\wr.heap[B]?=some (.cells #[.string r.head.pred,.slice ad r.head.args.length ae,vb] 27 (0,0))/\
  wr.ownsRow (N+2) 60 2 (.slice ad r.head.args.length ae) r.head.args.length (qad r.head.args)/\wr.ownsRow (N+2) 64 7 vb ps.length (ps.flatMap qdl)/\ps.map (·.1)=r.body.take k/\ ∀p,p∈ps->wr.ownsRow (N+2) 60 2 p.2 p.1.atom.args.length (qad p.1.atom.args)) (fun i _=>r.body.length-(intOf i).toNat)
 case atStart=>exact⟨0,[],.slice none 0 0,wC,rfl,a9.o.mt,ck.o,bs.o,zj _ _ _ _,rfl,fun p h=>(by cases h)⟩
 case round=>
  obtain⟨k,ps,vb,hk,rfl,hK,aa,ay,s,an,hT⟩:=hrel;have Y:=hK.heap cj.o wC;have e0:=qb Y 0 _ rfl;have e1:=qb Y 1 _ rfl;have e2:=qb Y 2 _ rfl;have cX:=qe Y;simp only [zD]at e0 e1 e2;have cy:=hK.size;have cF:=qe aa;have cG:(0:Int)<=k:=wC
  have aH:ps.length=k:=by
   have h1:=yO List.length an;rw [zL,yC]at h1;omega
  by_cases bu:k<r.body.length
  ·have cB:(k:Int)<r.body.length:=by omega
   obtain⟨L,hL⟩: ∃L,r.body[k]?=some L:=⟨_,zB bu⟩;obtain⟨b,off,rfl,hb,sa,R,a6⟩:=aX.o k L hL;obtain⟨bc,bo,rfl,c7,cR,-⟩:=id a6;have kw:Keep (fun b=>b<n) w wr:=bw.o.mt.trans (hK.mono fun b _ h=>by have:=U.o;omega);have f0:=kw.cell (R 0 _ rfl) hb;have f1:=kw.cell (R 1 _ rfl) hb;have f2:=kw.cell (R 2 _ rfl) hb;have f3:=kw.cell (R 3 _ rfl) hb;have f4:=kw.cell (R 4 _ rfl) hb;have f5:=kw.cell (R 5 _ rfl) hb;have f6:=kw.cell (R 6 _ rfl) hb;simp only [Nat.add_zero]at f0;have cM:b<wr.heap.size:=by have:=U.o;omega
   obtain⟨M,hM⟩:=ex (wr.heap.size);obtain⟨Wl,aB⟩:=ex (wr.alloc (.cells #[.int .i64 L.kind,.string L.atom.pred,.slice bc L.atom.args.length bo,.bool L.left.var,.string L.left.text,.bool L.right.var,.string L.right.text] 64));have kl:wG wr Wl:=by rw [←aB];exact kAl
   have pM:Wl.heap[M]?=some (.cells #[.int .i64 L.kind,.string L.atom.pred,.slice bc L.atom.args.length bo,.bool L.left.var,.string L.left.text,.bool L.right.var,.string L.right.text] 64 (0,0)):=by rw [←aB,←hM];exact qh _ _
   have zl:Wl.heap.size=M+1:=by rw [←aB,←hM];simp
   have d:=qow (w:=Wl) L.atom.pred (qak (qak a6 kw) kl.mt) (by have:=U.o;omega);have g0:=qb pM 0 _ rfl;have g1:=qb pM 1 _ rfl;have g2:=qb pM 2 _ rfl;have g3:=qb pM 3 _ rfl;have g4:=qb pM 4 _ rfl;have g5:=qb pM 5 _ rfl;have g6:=qb pM 6 _ rfl;have cL:=qe pM;simp only [zD]at g0 g1 g2 g3 g4 g5 g6;have bf: ∀u,vb.ownBlock=some u->u<M:=fun u g=>by have:=(zE s u g).2;omega
   obtain⟨aC,av,rfl⟩:=qj s;have aM: ∀v':Value,(ps++ [(L,v')]:List (LitD×Value)).map (·.1)=r.body.take (k+1):=fun v'=>by rw [zn,an,zh,hL];rfl
   clear R a6 kw hL an;refine qlu ?_ hK aa ay s hT Y hM aB kl pM d bf aM aH;clear hK aa ay s hT Y hM aB kl pM d bf aM aH;intro bG aS aL br bn ba am bx cf b3 x bD aY bm;go_wp2_with fail;rw [bx.o,am.o];refine x.o.mono ?_;rintro e W5 ⟨v',rfl,o5,k5⟩;obtain⟨a5,c5,rfl⟩:=qj o5;have bg:wG wr W5:=cf.o.trans k5;have af:=k5.heap b3.o trivial;have m1:=qb af 1 _ rfl;have m2:=qb af 2 _ rfl;have db:=qg af 1;have cP:=qg af 2;have cQ:=qe af;simp only [zD]at m1 m2;obtain⟨W6,bi⟩:=ex ((W5.setCell ⟨M,1,none⟩ (.string L.atom.pred)).setCell ⟨M,2,none⟩ (.slice a5 L.atom.args.length c5));have k6:Keep (fun b=>b≠M) W5 W6:=by rw [←bi];exact(kSc).trans (kSc)
   have t:W6.heap[M]?=some (.cells #[.int .i64 L.kind,.string L.atom.pred,.slice a5 L.atom.args.length c5,.bool L.left.var,.string L.left.text,.bool L.right.var,.string L.right.text] 64 (0,0)):=by rw [←bi];exact qag 2 _ (qag 1 (.string L.atom.pred) af)
   have q0:=qb t 0 _ rfl;have q1:=qb t 1 _ rfl;have q2:=qb t 2 _ rfl;have q3:=qb t 3 _ rfl;have q4:=qb t 4 _ rfl;have q5:=qb t 5 _ rfl;have q6:=qb t 6 _ rfl;have qM:=qe t;simp only [zD]at q0 q1 q2 q3 q4 q5 q6;have ak:Keep (fun b=>b<M) wr W6:=bg.mt.trans (k6.mono fun b _ h=>wC);have z:=ak.heap aS.o (by have:=am.o;omega);have s2:=qb z 2 _ rfl;have cJ:=qe z;simp only [zD]at s2;have l:=qf br.o ak (fun u g=>bD.o u g);have aD:=qf aL.o ak (fun u g=>by have:=(zE aL.o u g).2;have:=am.o;omega);have a0: ∀p,p∈ps->W6.ownsRow (N+2) 60 2 p.2 p.1.atom.args.length (qad p.1.atom.args):=fun p hp=>qf (bn.o p hp) ak (fun u g=>by have:=(zE (bn.o p hp) u g).2;have:=am.o;omega);have o6:=qf o5 k6 (fun u g=>by have:=(zE o5 u g).1;omega);obtain⟨v7,W7,aT,a7,al,g7,ai,b9,cq,cU⟩:=qc8 qlj 25 l (qal L (.slice a5 L.atom.args.length c5)) rfl (by simp [qal,Value.oneCell']) (by have:=bm.o;omega) wC;subst b9;have aI:(60:TypeId)≠64:=wF
   have aU:(64:TypeId)≠27:=wF
   have aj:(60:TypeId)≠27:=wF
   have c:=al.heap z (fun e=>qfc l z aU e.symm rfl);have t2:=qb c 2 _ rfl;have cC:=qg c 2;have c4:=qe c;simp only [zD]at t2;have az:=qf aD al (fun u g=>ql2 aD l aI g);have a1: ∀p,p∈ps->W7.ownsRow (N+2) 60 2 p.2 p.1.atom.args.length (qad p.1.atom.args):=fun p hp=>qf (a0 p hp) al (fun u g=>ql2 (a0 p hp) l aI g);have o7:=qf o6 al (fun u g=>ql2 o6 l aI g);obtain⟨W8,q⟩:=ex (W7.setCell ⟨B,2,none⟩ (.slice (some ⟨g7,0,none⟩) (ps.length+1) ai));have k8:Keep (fun b=>b≠B) W7 W8:=by rw [←q];exact kSc
   have aK:W8.heap[B]?=some (.cells #[.string r.head.pred,.slice ad r.head.args.length ae,.slice (some ⟨g7,0,none⟩) (ps.length+1) ai] 27 (0,0)):=by rw [←q];exact qag 2 _ c
   have X:=qf az k8 (fun u g=>qfc az c aj g);have bh:=qf a7 k8 (fun u g=>qfc a7 c aU g);have aw: ∀p,p∈ps++ [(L,Value.slice a5 L.atom.args.length c5)]->W8.ownsRow (N+2) 60 2 p.2 p.1.atom.args.length (qad p.1.atom.args):=fun p hp=>by
    rcases zr.1 hp with h |h
    ·exact qf (a1 p h) k8 (fun u g=>qfc (a1 p h) c aj g)
    ·cases zm.1 h;exact(qf o7 k8 (fun u g=>qfc o7 c aj g)).mono (by have:=am.o;omega)
   have bH:Keep (fun b=>b<N+2) W0 W8:=bG.o.trans ((ak.mono fun b _ (h:b<N+2)=>by have:=am.o;omega).trans ((al.mono fun b _ (h:b<N+2)=>qd4 l h).trans (k8.mono fun b _ (h:b<N+2)=>wC)));have bv:W8.ownsRow (N+2) 64 7 (.slice (some ⟨g7,0,none⟩) (ps.length+1) ai) (ps++ [(L,Value.slice a5 L.atom.args.length c5)]).length ((ps++ [(L,Value.slice a5 L.atom.args.length c5)]).flatMap qdl):=by
    rw [yG,zR]
    simpa using bh
   have aQ:=aY.o (.slice a5 L.atom.args.length c5);simp only [qal]at aT;clear k5 bg af k6 t ak z l aD a0 o5 o6 a7 al cq c az a1 o7 k8 bh aI aU aj;refine hd8 ?_ aT q aK X bv aw bH aQ;clear aT q aK X bv aw bH aQ;intro bb ax a3 ag bd ar bt a4;go_wp2_with (at_builtin;refine qbu (v:=.slice aC ps.length av) (u:=.slice (some ⟨W6.heap.size,0,none⟩) 1 1) (v':=.slice (some ⟨g7,0,none⟩) (ps.length+1) ai) (w':=W7) rfl (.tmp 27) (.tmp 29) 25 rfl rfl rfl bb.o ?_);rw [ax.o];go_roundw
   case rel=>exact⟨k+1,_,_,wC,by go_num,bt.o,a3.o,ag.o,bd.o,a4.o,ar.o⟩
   case measure=>simp [intOf];omega
  ·obtain rfl:k=r.body.length:=by omega
   rw [zi]at an;have y:=hK.heap ci.o wC;have u0:=qb y 0 _ rfl;have u1:=qb y 1 _ rfl;have u2:=qb y 2 _ rfl;have df:=qg y 0;have cS:=qg y 1;have dn:=qg y 2;have c6:=qe y;have v0:=qb aa 0 _ rfl;have v1:=qb aa 1 _ rfl;have v2:=qb aa 2 _ rfl;simp only [zD]at u0 u1 u2 v0 v1 v2;obtain⟨aC,av,rfl⟩:=qj s;rw [aH]at s v2;obtain⟨W8,q⟩:=ex (((wr.setCell ⟨N+1,0,none⟩ (.string r.head.pred)).setCell ⟨N+1,1,none⟩ (.slice ad r.head.args.length ae)).setCell ⟨N+1,2,none⟩ (.slice aC r.body.length av));have k8:Keep (fun b=>b≠N+1) wr W8:=by rw [←q];exact((kSc).trans (kSc)).trans (kSc)
   have b8:W8.heap[N+1]?=some (.cells #[.string r.head.pred,.slice ad r.head.args.length ae,.slice aC r.body.length av] 27 (0,0)):=by rw [←q];exact qag 2 _ (qag 1 _ (qag 0 (.string r.head.pred) y))
   have w0:=qb b8 0 _ rfl;have w1:=qb b8 1 _ rfl;have w2:=qb b8 2 _ rfl;have cb:=qe b8;simp only [zD]at w0 w1 w2;have nn: ∀{base sz:Nat} {e:TypeId} {v:Value} {m:Nat} {xs:List Value},N+2<=base->wr.ownsRow base e sz v m xs-> ∀u,v.ownBlock=some u->u≠N+1:=fun hb h u g=>by have:=(zE h u g).1;omega
   have X:=(qf ay k8 (nn (zG _) ay)).mono (show N<=N+2 from wC);have aP:=(qf s k8 (nn (zG _) s)).mono (show N<=N+2 from wC);have aw: ∀p,p∈ps->W8.ownsRow N 60 2 p.2 p.1.atom.args.length (qad p.1.atom.args):=fun p hp=>(qf (hT p hp) k8 (nn (zG _) (hT p hp))).mono (show N<=N+2 from wC);have hE:Keep (fun b=>b<N) w W8:=bw.o.mt.trans ((hK.mono fun b _ h=>wC).trans (k8.mono fun b _ h=>wC));clear bu y ay s hT k8 b8 nn aH;refine hd9 ?_ hK aa Y an q X aP aw hE;clear hK aa Y an q X aP aw hE;intro bG aS ba bl ax ag aZ ar b2;go_wp2_with fail;rw [ax.o];refine yA (v:=.agg #[.string r.head.pred,.slice ad r.head.args.length ae,.slice aC r.body.length av]) (by simp [results,Tryz.results10,go_sem,w0,w1,w2,cb]) rfl ?_;refine⟨_,_,rfl,⟨by rw [U.o];exact ag.o,ps,bl.o,by rw [U.o];exact aZ.o,fun p hp=>by rw [U.o];exact ar.o p hp⟩,by rw [U.o];exact b2.o⟩
def qiz (x:ByteArray):TermD:=⟨true,x⟩
def qj8 (x:ByteArray):Prop:=Op.bytesLess x.toList [65]=false/\(Op.bytesLess x.toList [90] ||x.toList== [90])=true
theorem q2c {xs:List ByteArray}{k:Nat}{x:ByteArray}(h:xs[k]?=some x):(xs.take (k+1)).map qiz=(xs.take k).map qiz++ [qiz x]:=by
 rw [zh,h,zn];rfl
theorem qun {n:Nat}{w:World}{va:Value}{xs:List ByteArray}(pr:ByteArray)(ha:qac n w va xs)(hn:n<=w.heap.size)(hx: ∀x,x∈xs->qj8 x):
  Calls prog 73 #[.string pr,va] w fun e w'=> ∃v,e=.returned (.agg #[.string pr,v])/\w'.ownsRow w.heap.size 60 2 v (xs.map qiz).length (qad (xs.map qiz))/\Keep (fun b=>b<w.heap.size) w w':=by
 obtain⟨N,hN⟩:=ex (w.heap.size);obtain⟨aa,ca,rfl,bJ,bK,aA⟩:=id ha;obtain⟨W0,s⟩:=ex ((w.alloc (.cells #[.string ⟨#[]⟩,.slice none 0 0] 24)).alloc (.cells #[.string pr,.slice none 0 0] 24));have k0:wG w W0:=by rw [←s];exact kAl.trans kAl
 have z0:W0.heap.size=N+2:=by rw [←s,←hN];simp
 have p0:W0.heap[N]?=some (.cells #[.string ⟨#[]⟩,.slice none 0 0] 24 (0,0)):=by rw [←s,←hN];exact(Keep.alloc (fun _=>True) _ _).heap (qh w _) trivial
 have p1:W0.heap[N+1]?=some (.cells #[.string pr,.slice none 0 0] 24 (0,0)):=by
  rw [←s,←hN];have:=qh (w.alloc (.cells #[.string ⟨#[]⟩,.slice none 0 0] 24)) (.cells #[.string pr,.slice none 0 0] 24);rw [zO]at this;exact this
 refine hd8 ?_ ha aA hx hN s k0 p0 p1;clear ha aA hx hN s k0 p0 p1;intro bv aE bb p aI aP a9 a7;refine qbr Tryz.func73 rfl ?_;simp only [Tryz.ntmps73,qd0,Nat.reduceAdd,Nat.reduceSub];gi_wp2;rw [aI.o,p.o];gi_loopw [6] (fun ix wr=> ∃(k:Nat) (vt:Value),k<=xs.length/\ix=.int .i64 (k:Int)/\Keep (fun b=>b<N+1) W0 wr/\wr.heap[N+1]?=some (.cells #[.string pr,vt] 24 (0,0))/\wr.ownsRow (N+2) 60 2 vt k (qad ((xs.take k).map qiz))/\N+2<=wr.heap.size) (fun i _=>xs.length-(intOf i).toNat)
 case atStart=>exact⟨0,.slice none 0 0,wC,rfl,Keep.refl _ _,a7.o,zj _ _ _ _,wC⟩
 case round=>
  obtain⟨k,vt,hk,rfl,hK,l,hO,hz⟩:=hrel;have b1:=qb l 1 _ rfl;have bo:=qe l;simp only [zD]at b1;have bp:(0:Int)<=k:=wC
  obtain⟨m,g,rfl⟩:=qj hO;by_cases aM:k<xs.length
  ·have bk:(k:Int)<xs.length:=by omega
   obtain⟨x,ab⟩: ∃x,xs[k]?=some x:=⟨_,zB aM⟩;obtain⟨b,o,rfl,hb,hs⟩:=aE.o k x ab;have a5:=bb.o x (zH ab);obtain⟨g1,g2⟩:=a5;have aG:w.cell? ⟨b,o+k,none⟩=some (.string x):=by have:=hs;unfold qgr at this;rw [yB] at this;exact this
   have f0:=hK.cell (aP.o.cell aG wH) (show b<N+1 by have:=p.o;omega);have aC:=q2c ab;have kd:wG wr wr.drew:=kDr;obtain⟨Wd,au⟩:=ex (wr.drew);rw [au]at kd;have bw:=kd.size;have bq:N+1<Wd.heap.size:=wC
   have bH:b<Wd.heap.size:=by have:=p.o;omega
   have bs:b<wr.heap.size:=by have:=p.o;omega
   have z:=qf hO kd (fun _ _=>wH);obtain⟨v7,W7,ay,av,R,g7,r,a3,bc,bu⟩:=qc8 qh3 22 z [.bool true,.string x] rfl (by simp [Value.oneCell']) wC wC;subst a3;have aq:(60:TypeId)≠24:=wF
   have t:=kd.heap l trivial;have c:=R.heap t (fun e=>qfc z t aq e.symm rfl);have t1:=qb c 1 _ rfl;have bL:=qg c 1;have bz:=qe c;simp only [zD]at t1;obtain⟨W8,d⟩:=ex (W7.setCell ⟨N+1,1,none⟩ (.slice (some ⟨g7,0,none⟩) (k+1) r));have k8:Keep (fun b=>b≠N+1) W7 W8:=by rw [←d];exact kSc
   have af:W8.heap[N+1]?=some (.cells #[.string pr,.slice (some ⟨g7,0,none⟩) (k+1) r] 24 (0,0)):=by rw [←d];exact qag 1 _ c
   have aD:=qf av k8 (fun u hu=>qfc av c aq hu);have aN:W8.ownsRow (N+2) 60 2 (.slice (some ⟨g7,0,none⟩) (k+1) r) (k+1) (qad ((xs.take (k+1)).map qiz)):=by
    rw [aC,qjn];exact aD
   have aS:Keep (fun b=>b<N+1) W0 W8:=hK.trans (kd.mt.trans ((R.mono fun b _ (h:b<N+1)=>qd4 z wC).trans (k8.mono fun b _ h=>wC)));obtain⟨Wb,Y⟩:=ex (Wd.alloc (.cells #[.bool true,.string x] 60));have kb:wG Wd Wb:=by rw [←Y];exact kAl
   have a8:N+2<=W8.heap.size:=by have:=k8.size;have:=R.size;omega
   have U:Wd.cell? ⟨N+1,1,none⟩=some (.slice m k g)/\Wd.cell? ⟨b,o+k,none⟩=some (.string x):=⟨kd.cell b1 wH,kd.cell f0 wH⟩;have aT:Wb.cell? ⟨N+1,1,none⟩=some (.slice m k g)/\Wb.cell? ⟨b,o+k,none⟩=some (.string x):=⟨kb.cell U.1 wH,kb.cell U.2 wH⟩;have an:(Builtin.append_ #[22,22] 22 #[.slice m k g,.slice (some ⟨Wd.heap.size,0,none⟩) 1 1]).run prog Wb=.ok (.slice (some ⟨g7,0,none⟩) (k+1) r) W7:=by rw [←Y];exact ay
   have aR:W7.cell? ⟨N+1,1,none⟩=some (.slice m k g)/\W7.cell? ⟨b,o+k,none⟩=some (.string x):=⟨t1,R.cell U.2 (qd4 z (show b<N+2 by have:=p.o;omega))⟩;clear ab hs aG aC z av R bc t c k8 aD aq kb ay;refine qro ?_ hK l hO au kd Y d af aN aS U aT aR an t1;clear hK l hO au kd Y d af aN aS U aT aR an t1;intro ba aU bF az bI aF y ar aw aJ ax aL ag ap aY;gi_wp2;refine qae ?_;refine qw rfl (fun X=>X.cell? ⟨N+1,1,none⟩=some (.slice m k g)/\X.cell? ⟨b,o+k,none⟩=some (.string x)) [22] ?_;rw [az.o];refine qy [0,1,2,3,4,5,6,7,8,9,10,11,12,13,14,15,16,17,18] ?_
   iterate 19
    refine tkR (v:=?_) rfl ax.o ?_ ?_;rotate_left
    ·rintro Wq ⟨x1,x2⟩;go_simp
     try with_reducible rfl
    try simp only [qz]
   refine qm ?_;refine hoR 19 rfl fun K al=>?_;gi_wp2;rw [aF.o];refine al.o _ _ (fun _=>aL.o) ?_;refine hoR 20 rfl fun K ak=>?_;refine qck rfl (.tmp 16) (.tmp 34) 22 rfl rfl rfl ap.o ?_;gi_wp2;refine ak.o _ _ (fun _=>ag.o) ?_;refine hoR 21 rfl fun K aj=>?_;gi_wp2;refine aj.o _ _ (fun _=>ag.o) ?_;refine hoR 22 rfl fun K ah=>?_;have t1:=aY.o;gi_wp2;rw [y.o];refine ah.o _ _ (fun h=>absurd h wF) ?_;refine ql wD (qo ?_);clear al ak aj ah;gi_wp2;go_roundw
   case rel=>exact⟨k+1,_,wC,by go_num,aJ.o,ar.o,aw.o,a8⟩
   case measure=>simp [intOf];omega
  ·obtain rfl:k=xs.length:=by omega
   rw [zi]at hO;have q:=hK.heap a9.o wC;have u0:=qb q 0 _ rfl;have u1:=qb q 1 _ rfl;have bM:=qg q 0;have bt:=qg q 1;have bD:=qe q;have b0:=qb l 0 _ rfl;simp only [zD]at u0 u1 b0;obtain⟨W8,d⟩:=ex ((wr.setCell ⟨N,0,none⟩ (.string pr)).setCell ⟨N,1,none⟩ (.slice m xs.length g));have k8:Keep (fun b=>b≠N) wr W8:=by rw [←d];exact(kSc).trans (kSc)
   have b8:W8.heap[N]?=some (.cells #[.string pr,.slice m xs.length g] 24 (0,0)):=by rw [←d];exact qag 1 _ (qag 0 (.string pr) q)
   have w0:=qb b8 0 _ rfl;have w1:=qb b8 1 _ rfl;have a4:=qe b8;simp only [zD]at w0 w1;have aK:=(qf hO k8 (fun u hu=>by have:=(zE hO u hu).1;omega)).mono (show N<=N+2 from wC);have hE:Keep (fun b=>b<N) w W8:=aP.o.mt.trans ((hK.mono fun b _ h=>wC).trans (k8.mono fun b _ h=>wC));clear aM q hO k8 b8;refine hd5 ?_ hK l d aK hE;clear hK l d aK hE;intro ba aU y aB aZ;gi_wp2;rw [y.o];refine yA (v:=.agg #[.string pr,.slice m xs.length g]) (by simp [results,Tryz.results73,go_sem,w0,w1,a4]) rfl ?_;refine⟨_,rfl,by rw [p.o,zL];exact aB.o,by rw [p.o];exact aZ.o⟩
theorem ql3 {w:World}{B t:Nat}{xs:List ByteArray}(h:w.heap[B]?=some (.cells (xs.map Value.string).toArray t (0,0)))(c:xs.length<=1073741824):qac (B+1) w (.slice (some ⟨B,0,none⟩) xs.length xs.length) xs:=
 ⟨_,_,rfl,c,⟨zG _,by unfold maxLen;omega⟩,fun k x b=>⟨B,0,rfl,wC,by
  have:=qb h k (.string x) (by rw [zP,b];rfl);unfold qgr;rw [yB];exact this⟩⟩
def bX:ByteArray:=⟨#[88]⟩
def bY:ByteArray:=⟨#[89]⟩
def bZ:ByteArray:=⟨#[90]⟩
def bT:ByteArray:=⟨#[116]⟩
def bE:ByteArray:=⟨#[101]⟩
def noT:TermD:=⟨false,⟨#[]⟩⟩
def qhk:RuleD:=⟨⟨bT,[qiz bX,qiz bZ]⟩,[⟨1,⟨bE,[qiz bX,qiz bY]⟩,noT,noT⟩,⟨1,⟨bE,[qiz bY,qiz bZ]⟩,noT,noT⟩]⟩
theorem qyb:qj8 bX:=by unfold qj8;rw [ByteArray.toList_eq];decide
theorem qyc:qj8 bY:=by unfold qj8;rw [ByteArray.toList_eq];decide
theorem qyd:qj8 bZ:=by unfold qj8;rw [ByteArray.toList_eq];decide
theorem q7f (w:World):Calls prog 38 #[] w fun e w'=> ∃vh vb,e=.returned (qam qhk vh vb)/\RuleIn w'.heap.size w' vh vb qhk/\Keep (fun b=>b<w.heap.size) w w':=by
 obtain⟨N,hN⟩:=ex (w.heap.size);obtain⟨W0,q⟩:=ex (w.alloc (.cells #[.string ⟨#[]⟩,.slice none 0 0,.slice none 0 0] 27));have k0:wG w W0:=by rw [←q];exact kAl
 have p0:W0.heap[N]?=some (.cells #[.string ⟨#[]⟩,.slice none 0 0,.slice none 0 0] 27 (0,0)):=by rw [←q,←hN];exact qh _ _
 have z0:W0.heap.size=N+1:=by rw [←q,←hN];simp
 obtain⟨W1,r⟩:=ex (W0.alloc (.cells #[.string ⟨#[88]⟩,.string ⟨#[90]⟩] 9));have k1:wG W0 W1:=by rw [←r];exact kAl
 have p1:W1.heap[N+1]?=some (.cells #[.string ⟨#[88]⟩,.string ⟨#[90]⟩] 9 (0,0)):=by rw [←r,←z0];exact qh _ _
 have z1:W1.heap.size=N+2:=by rw [←r];simp [z0]
 have aA:=qun (w:=W1) bT (ql3 (xs:= [bX,bZ]) p1 wE) wC (fun x hx=>by
  simp at hx;rcases hx with rfl |rfl
  ·exact qyb
  ·exact qyd)
 refine hd8 ?_ hN q k0 p0 r k1 p1 aA;clear hN q k0 p0 r k1 p1 aA;intro aG aj aV a4 az aR bt ao
 go_enter Tryz.func38,Tryz.ntmps38
 go_wp2_with fail;rw [aj.o,az.o,aG.o];refine ao.o.mono ?_;rintro e W2 ⟨v1,rfl,o1,k2⟩;obtain⟨a1,c1,rfl⟩:=qj o1;have bu:=k2.size;have aZ:=zg k2;have ae:=zg o1;clear k2 o1;obtain⟨M3,X⟩: ∃M,W2.heap.size=M:=⟨_,rfl⟩;obtain⟨W3,s⟩: ∃W,W2.alloc (.cells #[.string ⟨#[88]⟩,.string ⟨#[89]⟩] 9)=W:=⟨_,rfl⟩;have au:wG W2 W3:=by rw [←s];exact kAl
 have p3:W3.heap[M3]?=some (.cells #[.string ⟨#[88]⟩,.string ⟨#[89]⟩] 9 (0,0)):=by rw [←s,←X];exact qh _ _
 have bo:W3.heap.size=M3+1:=by rw [←s,←X];simp
 have aH:=qun (w:=W3) bE (ql3 (xs:= [bX,bY]) p3 wE) wC (fun x hx=>by
  simp at hx;rcases hx with rfl |rfl
  ·exact qyb
  ·exact qyc)
 refine hd5 ?_ X s au p3 aH;clear X s au p3 aH;intro d al Y bq ai;go_wp2_with fail;rw [al.o,d.o];refine ai.o.mono ?_;rintro e W4 ⟨v3,rfl,o3,k4⟩;obtain⟨a3,c3,rfl⟩:=qj o3;have bp:=k4.size;have ap:=zg k4;have ag:=zg o3;clear k4 o3;obtain⟨M5,U⟩: ∃M,W4.heap.size=M:=⟨_,rfl⟩;obtain⟨W5,p⟩: ∃W,W4.alloc (.cells #[.string ⟨#[89]⟩,.string ⟨#[90]⟩] 9)=W:=⟨_,rfl⟩;have aC:wG W4 W5:=by rw [←p];exact kAl
 have p5:W5.heap[M5]?=some (.cells #[.string ⟨#[89]⟩,.string ⟨#[90]⟩] 9 (0,0)):=by rw [←p,←U];exact qh _ _
 have bw:W5.heap.size=M5+1:=by rw [←p,←U];simp
 have aB:=qun (w:=W5) bE (ql3 (xs:= [bY,bZ]) p5 wE) wC (fun x hx=>by
  simp at hx;rcases hx with rfl |rfl
  ·exact qyc
  ·exact qyd)
 refine hd5 ?_ U p aC p5 aB;clear U p aC p5 aB;intro g av m bv aw;go_wp2_with fail;rw [av.o,g.o];refine aw.o.mono ?_;rintro e W6 ⟨v5,rfl,o5,k6⟩;obtain⟨a5,c5,rfl⟩:=qj o5;have bs:=k6.size;have ad:=zg k6;have an:=zg o5;clear k6 o5;obtain⟨t,aq⟩: ∃M,W6.heap.size=M:=⟨_,rfl⟩;obtain⟨W7,af⟩: ∃W,W6.alloc (.cells #[.int .i64 1,.string bE,.slice a3 2 c3,.bool false,.string ⟨#[]⟩,.bool false,.string ⟨#[]⟩,.int .i64 1,.string bE,.slice a5 2 c5,.bool false,.string ⟨#[]⟩,.bool false,.string ⟨#[]⟩] 64)=W:=⟨_,rfl⟩;have k7:wG W6 W7:=by rw [←af];exact kAl
 have p7:W7.heap[t]?=some (.cells #[.int .i64 1,.string bE,.slice a3 2 c3,.bool false,.string ⟨#[]⟩,.bool false,.string ⟨#[]⟩,.int .i64 1,.string bE,.slice a5 2 c5,.bool false,.string ⟨#[]⟩,.bool false,.string ⟨#[]⟩] 64 (0,0)):=by rw [←af,←aq];exact qh _ _
 have z7:W7.heap.size=t+1:=by rw [←af,←aq];simp
 have kN:Keep (fun b=>b<N+1) W0 W7:=aR.o.mt.trans ((aZ.o.mono fun b _ h=>wC).trans (Y.o.mt.trans ((ap.o.mono fun b _ h=>wC).trans (m.o.mt.trans ((ad.o.mono fun b _ h=>wC).trans k7.mt)))));have R:=kN.heap a4.o wC;have d0:=qb R 0 _ rfl;have d1:=qb R 1 _ rfl;have d2:=qb R 2 _ rfl;have f0:=qg R 0;have f1:=qg R 1;have f2:=qg R 2;have lN:=qe R;simp only [zD]at d0 d1 d2;obtain⟨W8,y⟩: ∃W,((W7.setCell ⟨N,0,none⟩ (.string bT)).setCell ⟨N,1,none⟩ (.slice a1 2 c1)).setCell ⟨N,2,none⟩ (.slice (some ⟨t,0,none⟩) 2 2)=W:=⟨_,rfl⟩;have k8:Keep (fun b=>b≠N) W7 W8:=by rw [←y];exact((kSc).trans (kSc)).trans (kSc)
 have b8:W8.heap[N]?=some (.cells #[.string bT,.slice a1 2 c1,.slice (some ⟨t,0,none⟩) 2 2] 27 (0,0)):=by rw [←y];exact qag 2 _ (qag 1 _ (qag 0 (.string bT) R))
 have w0:=qb b8 0 _ rfl;have w1:=qb b8 1 _ rfl;have w2:=qb b8 2 _ rfl;have ba:=qe b8;simp only [zD]at w0 w1 w2;have z8:=k8.size;have ax:=qf (qf ae.o ((Y.o.mt.trans ((ap.o.mono fun b _ (h:b<W2.heap.size)=>by have:=d.o;omega).trans (m.o.mt.trans ((ad.o.mono fun b _ h=>by have:=d.o;have:=g.o;omega).trans k7.mt))))) (fun u z=>(zE ae.o u z).2)) k8 (fun u z=>by have:=(zE ae.o u z).1;omega);have ak:=qf (qf ag.o ((m.o.mt.trans ((ad.o.mono fun b _ (h:b<W4.heap.size)=>by have:=g.o;omega).trans k7.mt))) (fun u z=>(zE ag.o u z).2)) k8 (fun u z=>by have:=(zE ag.o u z).1;have:=d.o;omega);have aD:=qf (qf an.o k7 (fun _ _=>wH)) k8 (fun u z=>by have:=(zE an.o u z).1;have:=d.o;have:=g.o;omega);have l:=k8.heap p7 (show t≠N by have:=d.o;have:=g.o;omega);have hE:Keep (fun b=>b<N) w W8:=aV.o.mt.trans ((kN.mono fun b _ h=>wC).trans (k8.mono fun b _ h=>wC));have hR:RuleIn W8.heap.size W8 (.slice a1 2 c1) (.slice (some ⟨t,0,none⟩) 2 2) qhk:=by
  refine⟨qf7 ax rfl wF,some ⟨t,0,none⟩,2,rfl,by simp [qhk],by simp [qhk,maxLen],fun k x hk=>⟨t,0,rfl,wC,?_⟩⟩
  match k,hk with
  |0,hk=>
   cases hk;refine⟨.slice a3 2 c3,fun j v c=>?_,qf7 ak rfl wF⟩
   match j,c with
   |0,c=>cases c;exact qb l 0 _ rfl
   |1,c=>cases c;exact qb l 1 _ rfl
   |2,c=>cases c;exact qb l 2 _ rfl
   |3,c=>cases c;exact qb l 3 _ rfl
   |4,c=>cases c;exact qb l 4 _ rfl
   |5,c=>cases c;exact qb l 5 _ rfl
   |6,c=>cases c;exact qb l 6 _ rfl
  |1,hk=>
   cases hk;refine⟨.slice a5 2 c5,fun j v c=>?_,qf7 aD rfl wF⟩
   match j,c with
   |0,c=>cases c;exact qb l 7 _ rfl
   |1,c=>cases c;exact qb l 8 _ rfl
   |2,c=>cases c;exact qb l 9 _ rfl
   |3,c=>cases c;exact qb l 10 _ rfl
   |4,c=>cases c;exact qb l 11 _ rfl
   |5,c=>cases c;exact qb l 12 _ rfl
   |6,c=>cases c;exact qb l 13 _ rfl
 clear k7 p7 kN R k8 b8 ax ak aD l;refine hd3 ?_ y hE hR;clear y hE hR;intro aF aW aS;go_wp2_with fail;rw [aF.o];refine yA (v:=.agg #[.string bT,.slice a1 2 c1,.slice (some ⟨t,0,none⟩) 2 2]) (by simp [results,Tryz.results38,go_sem,w0,w1,w2,ba]) rfl ?_;exact⟨_,_,rfl,aS.o,by rw [aG.o];exact aW.o⟩
end Go.Proofs
namespace Go.Proofs
open Go.RowKit Go.Ink Go.Flt R4 P16
def ApartV (v u:Value):Prop:= ∀b,v.ownBlock=some b->u.ownBlock≠some b
theorem ApartV.symm {v u:Value}(h:ApartV v u):ApartV u v:=fun b c d=>h b d c
structure MqsAt (P:Nat->Prop)(w:World)(v:Value)(qs:List MQ):Prop where
 own:w.ownsRow 0 48 2 v qs.length (qs.flatMap qau)
 blk: ∀b,v.ownBlock=some b->P b
 rows: ∀q,q∈qs->w.ownsRow 0 9 1 q.2.1 q.1.head.length (q.1.head.map .string)/\w.ownsRow 0 9 1 q.2.2 q.1.vals.length (q.1.vals.map .string)
 blks: ∀q,q∈qs->(∀b,q.2.1.ownBlock=some b->P b)/\ ∀b,q.2.2.ownBlock=some b->P b
 apart:(qs.flatMap qau).Pairwise ApartV
theorem MqsAt.keep {P P' C:Nat->Prop}{w w':World}{v:Value}{g:List MQ}(h:MqsAt P w v g)(hK:Keep C w w')(e: ∀b,b<w.heap.size->P b->C b/\P' b):MqsAt P' w' v g:=
 ⟨qf h.own hK (fun b c=>(e b (zE h.own b c).2 (h.blk b c)).1),fun b c=>(e b (zE h.own b c).2 (h.blk b c)).2,
  fun q d=>⟨qf (h.rows q d).1 hK (fun b c=>(e b (zE (h.rows q d).1 b c).2 ((h.blks q d).1 b c)).1),qf (h.rows q d).2 hK (fun b c=>(e b (zE (h.rows q d).2 b c).2 ((h.blks q d).2 b c)).1)⟩,
  fun q d=>⟨fun b c=>(e b (zE (h.rows q d).1 b c).2 ((h.blks q d).1 b c)).2,fun b c=>(e b (zE (h.rows q d).2 b c).2 ((h.blks q d).2 b c)).2⟩,h.apart⟩
theorem q7g {P:Nat->Prop}(w:World):MqsAt P w (.slice none 0 0) []:=
 ⟨zj _ _ _ _,fun b d=>(by simp [Value.ownBlock] at d),fun q c=>(by cases c),fun q c=>(by cases c),.nil⟩
theorem MqsAt.lt {P:Nat->Prop}{w:World}{v:Value}{g:List MQ}(h:MqsAt P w v g): ∀x,x∈g.flatMap qau-> ∀b,x.ownBlock=some b->b<w.heap.size:=fun x c b d=>by
 obtain⟨q,e,c⟩:=xF.1 c;unfold qau at c;simp only [zw,yU,yi]at c;rcases c with rfl |rfl
 ·exact(zE (h.rows q e).1 b d).2
 ·exact(zE (h.rows q e).2 b d).2
theorem MqsAt.mq {P:Nat->Prop}{w:World}{v:Value}{b:List MQ}(h:MqsAt P w v b)(e:b.length<=1073741824)(d: ∀q,q∈b->q.1.head.length<=1073741824/\q.1.vals.length<=1073741824):q0j w.heap.size w v b/\ ∀q,q∈b->MqOk w.heap.size w q:=
 ⟨qq8 h.own rfl e,fun q c=>⟨qbq (h.rows q c).1 (d q c).1,qbq (h.rows q c).2 (d q c).2⟩⟩
theorem MqsAt.perm {P P':Nat->Prop}{w w':World}{v v':Value}{l c:List MQ}{base:Nat}{C:Nat->Prop}(h:MqsAt P w v l)(hK:Keep C w w')(r: ∀b,b<w.heap.size->P b->C b/\P' b)(ho:w'.ownsRow base 48 2 v' c.length (c.flatMap qau))(m: ∀b,base<=b->P' b)(g:c.Perm l):MqsAt P' w' v' c:=by
 have e:=h.keep hK r;exact⟨ho.mono (yc _),fun b p=>m b (zE ho b p).1,fun q d=>e.rows q (g.mem_iff.1 d),fun q d=>e.blks q (g.mem_iff.1 d),
  (List.Perm.pairwise_iff (fun h=>ApartV.symm h) (g.flatMap_right qau)).2 e.apart⟩
theorem MqsAt.snoc {P:Nat->Prop}{w:World}{v:Value}{l:List MQ}(h:MqsAt P w v l){m:qa0}{vh vv:Value}{n:Nat}(z:w.ownsRow n 9 1 vh m.head.length (m.head.map .string))(R:w.ownsRow n 9 1 vv m.vals.length (m.vals.map .string))
  (ag: ∀b,vh.ownBlock=some b->P b) (ab: ∀b,vv.ownBlock=some b->P b) (hd: ∀b,vh.ownBlock=some b->vv.ownBlock≠some b) (hold: ∀x,x∈l.flatMap qau-> ∀b,x.ownBlock=some b->b<n) (hl:l.length<=1073741824) (X: ∀b,w.heap.size<=b->P b):
  ∃a c g cap W',v=.slice a l.length c/\(Builtin.append_ #[41,41] 41 #[v,.slice (some ⟨w.heap.size,0,none⟩) 1 1]).run prog (w.alloc (.cells #[vh,vv] 48))=.ok (.slice (some ⟨g,0,none⟩) (l.length+1) cap) W'/\
   MqsAt P W' (.slice (some ⟨g,0,none⟩) (l.length+1) cap) (l++ [(m,vh,vv)])/\Keep (fun b=>v.ownBlock≠some b) w W':=by
 obtain⟨v3,Y3,ad,af,s,gb,cap,Y,aa,ak⟩:=qc8 (P:=prog) qvs 41 h.own [vh,vv] rfl (by obtain⟨a,c,rfl⟩:=qj z;obtain⟨a,c,rfl⟩:=qj R;simp [Value.oneCell']) wC (yc _);subst Y;obtain⟨a,c,hv⟩:=qj h.own;refine⟨a,c,gb,cap,Y3,hv,ad,⟨?_,fun b p=>?_,fun q d=>?_,fun q d=>?_,?_⟩,s.mono fun b _ h e=>h e.symm⟩
 ·rw [zR,length_singleton,yG];exact af
 ·have U:gb=b:=by simpa [Value.ownBlock] using p
  subst U;rcases aa with hg |hg
  ·exact h.blk _ hg
  ·exact X _ hg
 ·have key: ∀{x:Value} {t:List ByteArray} {base:Nat},w.ownsRow base 9 1 x t.length (t.map .string)->Y3.ownsRow 0 9 1 x t.length (t.map .string):=fun u=>(qf u s (fun b p e=>qc9 u h.own wF p e.symm)).mono (yc _);rcases zr.1 d with d |d
  ·exact⟨key (h.rows q d).1,key (h.rows q d).2⟩
  ·rw [zm.1 d];exact⟨key z,key R⟩
 ·rcases zr.1 d with d |d
  ·exact h.blks q d
  ·rw [zm.1 d];exact⟨ag,ab⟩
 ·rw [yG,pairwise_append];refine⟨h.apart,?_,fun x u y hy b p r=>?_⟩
  ·show [vh,vv].Pairwise ApartV;rw [pairwise_pair];exact hd
  ·have h3:=hold x u b p;have ae:y=vh∨y=vv:=by simpa [qau] using hy
   rcases ae with rfl |rfl
   ·have:=(zE z b r).1;omega
   ·have:=(zE R b r).1;omega
structure GWay (n0:Nat)(g:Gh)(w:World)(γ:Gh)(X:World):Prop where
 keep:Keep g.free w X
 new: ∀b,b<w.heap.size->g.free b->γ.free b
 held: ∀b,b<n0->γ.held b=g.held b
 st:γ.st=g.st
theorem GWay.refl {n0:Nat}{g:Gh}{w X:World}(h:wG w X):GWay n0 g w g X:=⟨h.mt,fun _ _ h=>h,fun _ _=>rfl,rfl⟩
theorem GWay.stay {n0:Nat}{g γ:Gh}{w X Y:World}{C:Nat->Prop}(h:GWay n0 g w γ X)(hK:Keep C X Y)(e: ∀b,b<w.heap.size->C b):GWay n0 g w γ Y:=
 ⟨⟨hK.os.trans h.keep.os,hK.tape.trans h.keep.tape,hK.output.trans h.keep.output,zW h.keep.size hK.size,fun k c d=>(hK.block k (zk c h.keep.size) (e k c)).trans (h.keep.block k c d)⟩,h.new,h.held,h.st⟩
theorem GWay.step {n0:Nat}{Ss:List Nat}{g γ m:Gh}{w X Y:World}(h:GWay n0 g w γ X)(c:(qbt n0 Ss).istep γ X m Y):GWay n0 g w m Y:=
 ⟨⟨c.1.keep.os.trans h.keep.os,c.1.keep.tape.trans h.keep.tape,c.1.keep.output.trans h.keep.output,zW h.keep.size c.1.keep.size,fun k l e=>(c.1.keep.block k (zk l h.keep.size) (h.new k l e)).trans (h.keep.block k l e)⟩,
  fun b d e=>c.1.new b (zk d h.keep.size) (h.new b d e),fun b d=>(c.1.held b d).trans (h.held b d),c.2.trans h.st⟩
theorem GWay.gstep {n0:Nat}{g γ:Gh}{w X:World}(h:GWay n0 g w γ X)(hi:GInv γ X):GStep n0 g w γ X:=
 ⟨h.keep,fun S c b=>⟨[],by rw [yQ,h.st];exact b⟩,h.new,h.held,hi⟩
theorem qbk {g:Gh}{w:World}(h:GInv g w){b:Nat}(c:w.heap.size<=b):g.free b:=by
 refine⟨?_,?_⟩
 ·cases e:g.tag b with
  |none=>rfl
  |some T=>have:=h.lt b T e;omega
 ·cases e:g.held b with
  |none=>rfl
  |some o=>have:=qe (h.hold b o e);omega
theorem qye {body:List LitD}{x:ByteArray}:x∈q8 body (qaf body)↔ ∃L,L∈body/\L.kind=1/\x∈qaj L.atom.args:=by
 rw [qgk];constructor
 ·rintro⟨i,hi,-,hx⟩;obtain⟨b,c⟩:=qde hi;refine⟨body.getD i default,?_,c,hx⟩;rw [zJ,zB b];exact xG b
 ·rintro⟨L,hL,hk,hx⟩;obtain⟨i,hi⟩:=zy.1 hL;have b:=(zA.1 hi).1;have c:qbm body i=1:=by rw [qkn hi];exact hk
  refine⟨i,?_,wC,?_⟩
  ·unfold qaf;rw [yX,yk];exact⟨b,by simp [c]⟩
  ·rw [zJ,hi];exact hx
theorem qsm {body:List LitD}{x:ByteArray}:x∈qcm body↔ ∃L,L∈body/\L.kind=1/\x∈L.uses:=by
 unfold qcm;rw [qep,xF];constructor
 ·rintro⟨L,hL,hx⟩;rw [yX]at hL;exact⟨L,hL.1,by simpa using hL.2,hx⟩
 ·rintro⟨L,hL,hk,hx⟩;exact⟨L,yX.2 ⟨hL,by simp [hk]⟩,hx⟩
theorem qzh (r:RuleD):(qu r).Nodup:=qze (ts:=r.names) (l:= []) nodup_nil
end Go.Proofs

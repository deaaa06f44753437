/- Parts of the proof. -/
import Derived.Test.YtnponcjnahicnaaGreatProg
import Derived.Test.YtnponcjnahicnaaGreatRfJToRfK
import Derived.Test.YtnponcjnahicnaaGreatHdToKp
import Derived.Test.YtnponcjnahicnaaGreatHoistToRowC
import Derived.Laws.Concat
set_option linter.unusedSimpArgs false
set_option linter.unusedVariables false
open Go.Proofs.Tryz(prog)
open List(flatMap_append getElem?_eq_getElem getElem?_map length_append length_map length_take map_append mem_append mem_of_getElem? mem_singleton nil_append take_add_one take_length)
namespace Go.Proofs
open Go.RowKit Go.Ink Go.Flt R4 P16
attribute [local go_sem] Oper.semAt_some
set_option maxRecDepth 100000 in
set_option maxHeartbeats 2000000 in
theorem qn2 {w:World}{m:Nat}{v:Value}(p:ByteArray){ts:List TermD}(h:qaj m w v ts)(hm:m<=w.heap.size):Calls prog 44 #[.agg #[.string p,v]] w fun e w'=> ∃v',e=.returned (.agg #[.string p,v'])/\w'.ownsRow w.heap.size 60 2 v' ts.length (qac ts)/\Keep (fun _=>True) w w':=by
 obtain⟨a,c,rfl,hl,hc,he⟩:=id h;obtain⟨N,hN⟩:=ex (w.heap.size);obtain⟨W0,hW0⟩:=ex ((w.alloc (.cells #[.string p,.slice a ts.length c] 24)).alloc (.cells #[.string ⟨#[]⟩,.slice none 0 0] 24));have k0:Keep (fun _=>True) w W0:=by rw [←hW0];exact kAl.trans kAl
 have z0:W0.heap.size=N+2:=by rw [←hW0,←hN];simp
 have p0:W0.heap[N]?=some (.cells #[.string p,.slice a ts.length c] 24 (0,0)):=by rw [←hW0,←hN];exact(Keep.alloc (fun _=>True) _ _).heap (qh w _) trivial
 have p1:W0.heap[N+1]?=some (.cells #[.string ⟨#[]⟩,.slice none 0 0] 24 (0,0)):=by
  rw [←hW0,←hN];have:=qh (w.alloc (.cells #[.string p,.slice a ts.length c] 24)) (.cells #[.string ⟨#[]⟩,.slice none 0 0] 24);rw [World.size_alloc]at this;exact this
 obtain⟨Wd,hWd⟩:=ex (W0.drew);have kd:Keep (fun _=>True) W0 Wd:=by rw [←hWd];exact kDr
 have hS: ∀X,Keep (fun b=>b<N+2) W0 X->X.cell? ⟨N,0,none⟩=some (.string p)/\X.cell? ⟨N,1,none⟩=some (.slice a ts.length c):=fun X hX=>by
  have q:=hX.heap p0 (by omega);have q0:=qb q 0 _ rfl;have q1:=qb q 1 _ rfl;simp only [Nat.zero_add]at q0 q1;exact⟨q0,q1⟩
 have hzd:=kd.size;obtain⟨Wb,hWb⟩:=ex (Wd.alloc (.cells #[] 60));have kb:Keep (fun _=>True) Wd Wb:=by rw [←hWb];exact kAl
 have ob:=qiv Wd 60 2;rw [hWb]at ob;have hzb:=kb.size;have htb:=qas h ((k0.trans (kd.trans kb)).mono fun _ _ _=>trivial);obtain⟨v5,W5,hr5,ho5,hg5,hk5⟩:=qji (P:=prog) qlv 22 ob a ts.length c (qac ts) (qf4 _) (qgr htb).1 (qgr htb).2 (q1z _) (by omega) (by omega);rw [nil_append,Nat.zero_add]at ho5;obtain⟨a5,c5,rfl⟩:=qi ho5;have k5:Keep (fun b=>b<Wd.heap.size) Wb W5:=hk5.mono fun b _ h e=>by
  rcases hg5 b e with h1 |h1
  ·simp [Value.ownBlock]at h1;omega
  ·omega
 have k05:Keep (fun b=>b<N+2) W0 W5:=((kd.trans kb).mono fun _ _ _=>trivial).trans (k5.mono fun b _ h=>by omega);have b1:=k05.heap p1 (by omega);have d0:=qb b1 0 _ rfl;have d1:=qb b1 1 _ rfl;have f0:=qf b1 0;have f1:=qf b1 1;have l1:=qe b1;simp only [Nat.zero_add]at d0 d1;obtain⟨W6,hW6⟩:=ex ((W5.setCell ⟨N+1,0,none⟩ (.string p)).setCell ⟨N+1,1,none⟩ (.slice a5 ts.length c5));have k6:Keep (fun b=>b≠N+1) W5 W6:=by rw [←hW6];exact(kSc).trans (kSc)
 have b6:W6.heap[N+1]?=some (.cells #[.string p,.slice a5 ts.length c5] 24 (0,0)):=by rw [←hW6];exact q8 1 _ (q8 0 (.string p) b1)
 have e0:=qb b6 0 _ rfl;have e1:=qb b6 1 _ rfl;have l6:=qe b6;simp only [Nat.zero_add]at e0 e1;have o6:=qg ho5 k6 (fun b hb=>by have:=(World.ownsRow.lt ho5 b hb).1;omega);have hK:Keep (fun _=>True) w W6:=((k0.mono fun _ _ _=>trivial).trans ((k05.mono fun b _ (h:b<N)=>by omega).trans (k6.mono fun b _ (h:b<N)=>by omega))).mono fun b hb _=>by omega
 have hS0:=hS Wd (kd.mono fun _ _ _=>trivial);have hS1:=hS Wb ((kd.trans kb).mono fun _ _ _=>trivial);have hS2:=hS W5 k05;have hb6:Wd.heap.size≥N:=by omega
 clear hS k05 k5 kb k6 hg5 hk5 ho5 ob htb b1 b6 he;refine qc5 ?_ h hN hW0 k0 p0 p1 hWd kd hWb hW6 hr5 o6 hK hS0 hS1 hS2;clear h hN hW0 k0 p0 p1 hWd kd hWb hW6 hr5 o6 hK hS0 hS1 hS2;intro Xh XhN XhW0 Xk0 Xp0 Xp1 XhWd Xkd XhWb XhW6 Xhr5 Xo6 XhK XhS0 XhS1 XhS2;refine qbp Tryz.func44 rfl ?_;simp only [Tryz.ntmps44,qdz,Nat.reduceAdd,Nat.reduceSub];gi_wp2;rw [XhW0.o,XhN.o];refine qab ?_;refine qx rfl (fun X=>X.cell? ⟨N,0,none⟩=some (.string p)/\X.cell? ⟨N,1,none⟩=some (.slice a ts.length c)) [7] ?_;rw [XhWd.o];refine qam [0,1,3,4] ?_
 iterate 4
  refine tkR (v:=?_) rfl XhS0.o ?_ ?_;rotate_left
  ·rintro Wq ⟨x1,x2⟩;go_simp
   try with_reducible rfl
  try simp only [qan]
 refine qu ?_;refine hoR 2 rfl fun K XhK0=>?_;gi_wp2;rw [XhWb.o];refine XhK0.o _ _ (fun _=>XhS1.o) ?_;refine hoR 5 rfl fun K XhK1=>?_;refine qch rfl (.tmp 5) (.tmp 7) 22 rfl rfl rfl Xhr5.o ?_;gi_wp2;refine XhK1.o _ _ (fun _=>XhS2.o) ?_;refine hoR 6 rfl fun K XhK2=>?_;gi_wp2;refine XhK2.o _ _ (fun _=>XhS2.o) ?_;refine hoR 7 rfl fun K XhK3=>?_;gi_wp2;rw [XhW6.o];refine XhK3.o _ _ (fun h=>absurd h (by decide)) ?_;refine qk (by kernel_rfl) (qm ?_);clear XhK0 XhK1 XhK2 XhK3;gi_wp2;refine bodyPost_ret (v:=.agg #[.string p,.slice a5 ts.length c5]) (by simp [results,Tryz.results44,go_sem,e0,e1,l6]) rfl ⟨_,rfl,Xo6.o.mono (by have:=XhN.o;omega),XhK.o⟩
theorem qlm {w:World}{base base':Nat}{e e':TypeId}{sz sz' n n':Nat}{v v':Value}{xs xs':List Value}(h:w.ownsRow base e sz v n xs)(h':w.ownsRow base' e' sz' v' n' xs')(he:e≠e'){b:Nat}(hb:v.ownBlock=some b):some b≠v'.ownBlock:=fun hb'=>by
 obtain⟨c1,t1⟩:=qav h hb;obtain⟨c2,t2⟩:=qav h' hb'.symm;rw [t1]at t2;injection t2 with t2
 injection t2 with _ t2 _
 exact he t2
theorem qfz {w:World}{base:Nat}{e t:TypeId}{sz n B:Nat}{v:Value}{xs:List Value}{cs:Array Value}(h:w.ownsRow base e sz v n xs)(hB:w.heap[B]?=some (.cells cs t (0,0)))(he:e≠t){b:Nat}(hb:v.ownBlock=some b):b≠B:=fun hb'=>by
 subst hb';obtain⟨c1,t1⟩:=qav h hb;rw [t1]at hB;injection hB with hB
 injection hB with _ hB _
 exact he hB
set_option maxRecDepth 100000 in
set_option maxHeartbeats 4000000 in
theorem qvr {w:World}{n:Nat}{r:RuleD}{sh sb:Value}(hr:RuleIn n w sh sb r)(hn:n<=w.heap.size):Calls prog 10 #[qbf r sh sb] w fun e w'=> ∃vh vb,e=.returned (qbf r vh vb)/\RuleOwn w.heap.size 64 60 w' vh vb r/\Keep (fun b=>b<w.heap.size) w w':=by
 unfold qbf;obtain⟨N,hN⟩:=ex (w.heap.size);have hth:=hr.1;obtain⟨⟨ah,capH,rfl,hlenh,hcaph,helh⟩,⟨ab,capB,rfl,hlenb,hcapb,helb⟩⟩:=id hr;obtain⟨W0,hW0⟩:=ex ((w.alloc (.cells #[.string r.head.pred,.slice ah r.head.args.length capH,.slice ab r.body.length capB] 27)).alloc (.cells #[.string ⟨#[]⟩,.slice none 0 0,.slice none 0 0] 27));have k0:Keep (fun _=>True) w W0:=by rw [←hW0];exact kAl.trans kAl
 have z0:W0.heap.size=N+2:=by rw [←hW0,←hN];simp
 have p0:W0.heap[N]?=some (.cells #[.string r.head.pred,.slice ah r.head.args.length capH,.slice ab r.body.length capB] 27 (0,0)):=by rw [←hW0,←hN];exact(Keep.alloc (fun _=>True) _ _).heap (qh w _) trivial
 have p1:W0.heap[N+1]?=some (.cells #[.string ⟨#[]⟩,.slice none 0 0,.slice none 0 0] 27 (0,0)):=by
  rw [←hW0,←hN];have:=qh (w.alloc (.cells #[.string r.head.pred,.slice ah r.head.args.length capH,.slice ab r.body.length capB] 27)) (.cells #[.string ⟨#[]⟩,.slice none 0 0,.slice none 0 0] 27);rw [World.size_alloc]at this;exact this
 have d0:=qb p0 0 _ rfl;have d1:=qb p0 1 _ rfl;have d2:=qb p0 2 _ rfl;have l0:=qe p0;simp only [Nat.zero_add]at d0 d1 d2;have hcall:=qn2 (w:=W0) r.head.pred (qas hth (k0.mono fun _ _ _=>trivial)) (by omega);rw [z0]at hcall;refine qiz ?_ z0 hr hth helh helb hN hW0 k0 p0 p1 hcall;clear z0 hr hth helh helb hN hW0 k0 p0 p1 hcall;intro Xz0 Xhr Xhth Xhelh Xhelb XhN XhW0 Xk0 Xp0 Xp1 Xhcall
 go_enter Tryz.func10,Tryz.ntmps10
 go_wp2_with fail;rw [XhW0.o];refine Xhcall.o.mono ?_;rintro e W1 ⟨vh,rfl,oh,k1⟩;obtain⟨avh,cvh,rfl⟩:=qi oh;obtain⟨B,hB⟩:=ex (W1.heap.size);obtain⟨W2,hW2⟩:=ex (W1.alloc (.cells #[.string r.head.pred,.slice avh r.head.args.length cvh,.slice none 0 0] 27));have k2:Keep (fun _=>True) W1 W2:=by rw [←hW2];exact kAl
 have pB:W2.heap[B]?=some (.cells #[.string r.head.pred,.slice avh r.head.args.length cvh,.slice none 0 0] 27 (0,0)):=by rw [←hW2,←hB];exact qh _ _
 have z2:W2.heap.size=B+1:=by rw [←hW2,←hB];simp
 have hzB:N+2<=B:=by have:=k1.size;have:=Xz0.o;omega
 have oh2:=qg oh k2 (fun _ _=>trivial);have k02:Keep (fun _=>True) W0 W2:=k1.trans k2;clear k1 oh k2;refine hd6 ?_ hB hW2 pB oh2 k02 z2;clear hB hW2 pB oh2 k02 z2;intro XhB XhW2 XpB Xoh2 Xk02 Xz2;go_wp2_with fail;rw [XhW2.o,XhB.o,XhN.o]
 go_loopw [4] (fun ix wr=> ∃(k:Nat) (ps:List (LitD×Value)) (vb:Value),k<=r.body.length/\ix=.int .i64 (k:Int)/\Keep (fun b=>b<N+2) W0 wr/\wr.heap[B]?=some (.cells #[.string r.head.pred,.slice avh r.head.args.length cvh,vb] 27 (0,0))/\
  wr.ownsRow (N+2) 60 2 (.slice avh r.head.args.length cvh) r.head.args.length (qac r.head.args)/\wr.ownsRow (N+2) 64 7 vb ps.length (ps.flatMap qc2)/\ps.map (·.1)=r.body.take k/\ ∀p,p∈ps->wr.ownsRow (N+2) 60 2 p.2 p.1.atom.args.length (qac p.1.atom.args)) (fun i _=>r.body.length-(intOf i).toNat)
 case atStart=>exact⟨0,[],.slice none 0 0,by omega,rfl,Xk02.o.mono fun _ _ _=>trivial,XpB.o,Xoh2.o,World.ownsRow_nil _ _ _ _,rfl,fun p h=>(by cases h)⟩
 case round=>
  obtain⟨k,ps,vb,hk,rfl,hK,hbx,hoh,hob,hps,hT⟩:=hrel;have hr0:=hK.heap Xp0.o (by omega);have e0:=qb hr0 0 _ rfl;have e1:=qb hr0 1 _ rfl;have e2:=qb hr0 2 _ rfl;have hNw:=qe hr0;simp only [Nat.zero_add]at e0 e1 e2;have hszk:=hK.size;have hBw:=qe hbx;have hk0:(0:Int)<=k:=by omega
  have hpl:ps.length=k:=by
   have h1:=congrArg List.length hps;rw [length_map,length_take]at h1;omega
  by_cases hlt:k<r.body.length
  ·have hlt1:(k:Int)<r.body.length:=by omega
   obtain⟨L,hL⟩: ∃L,r.body[k]?=some L:=⟨_,getElem?_eq_getElem hlt⟩;obtain⟨b,off,rfl,hb,sa,hcl,hts⟩:=Xhelb.o k L hL;obtain⟨asa,csa,rfl,hsl,hsc,-⟩:=id hts;have kw:Keep (fun b=>b<n) w wr:=(Xk0.o.mono fun _ _ _=>trivial).trans (hK.mono fun b _ h=>by have:=XhN.o;omega);have f0:=kw.cell (hcl 0 _ rfl) hb;have f1:=kw.cell (hcl 1 _ rfl) hb;have f2:=kw.cell (hcl 2 _ rfl) hb;have f3:=kw.cell (hcl 3 _ rfl) hb;have f4:=kw.cell (hcl 4 _ rfl) hb;have f5:=kw.cell (hcl 5 _ rfl) hb;have f6:=kw.cell (hcl 6 _ rfl) hb;simp only [Nat.add_zero]at f0;have hbw:b<wr.heap.size:=by have:=XhN.o;omega
   obtain⟨M,hM⟩:=ex (wr.heap.size);obtain⟨Wl,hWl⟩:=ex (wr.alloc (.cells #[.int .i64 L.kind,.string L.atom.pred,.slice asa L.atom.args.length csa,.bool L.left.var,.string L.left.text,.bool L.right.var,.string L.right.text] 64));have kl:Keep (fun _=>True) wr Wl:=by rw [←hWl];exact kAl
   have pM:Wl.heap[M]?=some (.cells #[.int .i64 L.kind,.string L.atom.pred,.slice asa L.atom.args.length csa,.bool L.left.var,.string L.left.text,.bool L.right.var,.string L.right.text] 64 (0,0)):=by rw [←hWl,←hM];exact qh _ _
   have zl:Wl.heap.size=M+1:=by rw [←hWl,←hM];simp
   have hcall:=qn2 (w:=Wl) L.atom.pred (qas (qas hts kw) (kl.mono fun _ _ _=>trivial)) (by have:=XhN.o;omega);have g0:=qb pM 0 _ rfl;have g1:=qb pM 1 _ rfl;have g2:=qb pM 2 _ rfl;have g3:=qb pM 3 _ rfl;have g4:=qb pM 4 _ rfl;have g5:=qb pM 5 _ rfl;have g6:=qb pM 6 _ rfl;have hMl:=qe pM;simp only [Nat.zero_add]at g0 g1 g2 g3 g4 g5 g6;have hbM: ∀u,vb.ownBlock=some u->u<M:=fun u hu=>by have:=(World.ownsRow.lt hob u hu).2;omega
   obtain⟨avb,cvb,rfl⟩:=qi hob;have hps2: ∀v':Value,(ps++ [(L,v')]:List (LitD×Value)).map (·.1)=r.body.take (k+1):=fun v'=>by rw [map_append,hps,take_add_one,hL];rfl
   clear hcl hts kw hL hps;refine qoi ?_ hK hbx hoh hob hT hr0 hM hWl kl pM hcall hbM hps2 hpl;clear hK hbx hoh hob hT hr0 hM hWl kl pM hcall hbM hps2 hpl;intro XhK Xhbx Xhoh Xhob XhT Xhr0 XhM XhWl Xkl XpM Xhcall XhbM Xhps2 Xhpl;go_wp2_with fail;rw [XhWl.o,XhM.o];refine Xhcall.o.mono ?_;rintro e W5 ⟨v',rfl,o5,k5⟩;obtain⟨a5,c5,rfl⟩:=qi o5;have kl5:Keep (fun _=>True) wr W5:=Xkl.o.trans k5;have pM5:=k5.heap XpM.o trivial;have m1:=qb pM5 1 _ rfl;have m2:=qb pM5 2 _ rfl;have mf1:=qf pM5 1;have mf2:=qf pM5 2;have mM5:=qe pM5;simp only [Nat.zero_add]at m1 m2;obtain⟨W6,hW6⟩:=ex ((W5.setCell ⟨M,1,none⟩ (.string L.atom.pred)).setCell ⟨M,2,none⟩ (.slice a5 L.atom.args.length c5));have k6:Keep (fun b=>b≠M) W5 W6:=by rw [←hW6];exact(kSc).trans (kSc)
   have pM6:W6.heap[M]?=some (.cells #[.int .i64 L.kind,.string L.atom.pred,.slice a5 L.atom.args.length c5,.bool L.left.var,.string L.left.text,.bool L.right.var,.string L.right.text] 64 (0,0)):=by rw [←hW6];exact q8 2 _ (q8 1 (.string L.atom.pred) pM5)
   have q0:=qb pM6 0 _ rfl;have q1:=qb pM6 1 _ rfl;have q2:=qb pM6 2 _ rfl;have q3:=qb pM6 3 _ rfl;have q4:=qb pM6 4 _ rfl;have q5:=qb pM6 5 _ rfl;have q6:=qb pM6 6 _ rfl;have qM:=qe pM6;simp only [Nat.zero_add]at q0 q1 q2 q3 q4 q5 q6;have kw6:Keep (fun b=>b<M) wr W6:=(kl5.mono fun _ _ _=>trivial).trans (k6.mono fun b _ h=>by omega);have hbx6:=kw6.heap Xhbx.o (by have:=XhM.o;omega);have s2:=qb hbx6 2 _ rfl;have hB6:=qe hbx6;simp only [Nat.zero_add]at s2;have hob6:=qg Xhob.o kw6 (fun u hu=>XhbM.o u hu);have hoh6:=qg Xhoh.o kw6 (fun u hu=>by have:=(World.ownsRow.lt Xhoh.o u hu).2;have:=XhM.o;omega);have hT6: ∀p,p∈ps->W6.ownsRow (N+2) 60 2 p.2 p.1.atom.args.length (qac p.1.atom.args):=fun p hp=>qg (XhT.o p hp) kw6 (fun u hu=>by have:=(World.ownsRow.lt (XhT.o p hp) u hu).2;have:=XhM.o;omega);have o6:=qg o5 k6 (fun u hu=>by have:=(World.ownsRow.lt o5 u hu).1;omega);obtain⟨v7,W7,hr7,ho7,hk7,g7,cap7,hv7,hg7,hl7⟩:=qc4 qk5 25 hob6 (qaf L (.slice a5 L.atom.args.length c5)) rfl (by simp [qaf,Value.oneCell']) (by have:=Xhpl.o;omega) (by omega);subst hv7;have tne:(60:TypeId)≠64:=by decide
   have lne:(64:TypeId)≠27:=by decide
   have tne2:(60:TypeId)≠27:=by decide
   have hbx7:=hk7.heap hbx6 (fun e=>qfz hob6 hbx6 lne e.symm rfl);have t2:=qb hbx7 2 _ rfl;have ft2:=qf hbx7 2;have hB7:=qe hbx7;simp only [Nat.zero_add]at t2;have hoh7:=qg hoh6 hk7 (fun u hu=>qlm hoh6 hob6 tne hu);have hT7: ∀p,p∈ps->W7.ownsRow (N+2) 60 2 p.2 p.1.atom.args.length (qac p.1.atom.args):=fun p hp=>qg (hT6 p hp) hk7 (fun u hu=>qlm (hT6 p hp) hob6 tne hu);have o7:=qg o6 hk7 (fun u hu=>qlm o6 hob6 tne hu);obtain⟨W8,hW8⟩:=ex (W7.setCell ⟨B,2,none⟩ (.slice (some ⟨g7,0,none⟩) (ps.length+1) cap7));have k8:Keep (fun b=>b≠B) W7 W8:=by rw [←hW8];exact kSc
   have hbx8:W8.heap[B]?=some (.cells #[.string r.head.pred,.slice avh r.head.args.length cvh,.slice (some ⟨g7,0,none⟩) (ps.length+1) cap7] 27 (0,0)):=by rw [←hW8];exact q8 2 _ hbx7
   have hoh8:=qg hoh7 k8 (fun u hu=>qfz hoh7 hbx7 tne2 hu);have ho8:=qg ho7 k8 (fun u hu=>qfz ho7 hbx7 lne hu);have hT8: ∀p,p∈ps++ [(L,Value.slice a5 L.atom.args.length c5)]->W8.ownsRow (N+2) 60 2 p.2 p.1.atom.args.length (qac p.1.atom.args):=fun p hp=>by
    rcases mem_append.1 hp with h |h
    ·exact qg (hT7 p h) k8 (fun u hu=>qfz (hT7 p h) hbx7 tne2 hu)
    ·cases mem_singleton.1 h;exact(qg o7 k8 (fun u hu=>qfz o7 hbx7 tne2 hu)).mono (by have:=XhM.o;omega)
   have hK8:Keep (fun b=>b<N+2) W0 W8:=XhK.o.trans ((kw6.mono fun b _ (h:b<N+2)=>by have:=XhM.o;omega).trans ((hk7.mono fun b _ (h:b<N+2)=>qh6 hob6 h).trans (k8.mono fun b _ (h:b<N+2)=>by omega)));have ho9:W8.ownsRow (N+2) 64 7 (.slice (some ⟨g7,0,none⟩) (ps.length+1) cap7) (ps++ [(L,Value.slice a5 L.atom.args.length c5)]).length ((ps++ [(L,Value.slice a5 L.atom.args.length c5)]).flatMap qc2):=by
    rw [flatMap_append,length_append]
    simpa using ho8
   have hps9:=Xhps2.o (.slice a5 L.atom.args.length c5);simp only [qaf]at hr7;clear k5 kl5 pM5 k6 pM6 kw6 hbx6 hob6 hoh6 hT6 o5 o6 ho7 hk7 hg7 hbx7 hoh7 hT7 o7 k8 ho8 tne lne tne2;refine hd8 ?_ hr7 hW8 hbx8 hoh8 ho9 hT8 hK8 hps9;clear hr7 hW8 hbx8 hoh8 ho9 hT8 hK8 hps9;intro Xhr7 XhW8 Xhbx8 Xhoh8 Xho9 XhT8 XhK8 Xhps9;go_wp2_with (at_builtin;refine qcq (v:=.slice avb ps.length cvb) (u:=.slice (some ⟨W6.heap.size,0,none⟩) 1 1) (v':=.slice (some ⟨g7,0,none⟩) (ps.length+1) cap7) (w':=W7) rfl (.tmp 27) (.tmp 29) 25 rfl rfl rfl Xhr7.o ?_);rw [XhW8.o];go_roundw
   case rel=>exact⟨k+1,_,_,by omega,by go_num,XhK8.o,Xhbx8.o,Xhoh8.o,Xho9.o,Xhps9.o,XhT8.o⟩
   case measure=>simp [intOf];omega
  ·obtain rfl:k=r.body.length:=by omega
   rw [take_length]at hps;have hr1:=hK.heap Xp1.o (by omega);have u0:=qb hr1 0 _ rfl;have u1:=qb hr1 1 _ rfl;have u2:=qb hr1 2 _ rfl;have fu0:=qf hr1 0;have fu1:=qf hr1 1;have fu2:=qf hr1 2;have hN1:=qe hr1;have v0:=qb hbx 0 _ rfl;have v1:=qb hbx 1 _ rfl;have v2:=qb hbx 2 _ rfl;simp only [Nat.zero_add]at u0 u1 u2 v0 v1 v2;obtain⟨avb,cvb,rfl⟩:=qi hob;rw [hpl]at hob v2;obtain⟨W8,hW8⟩:=ex (((wr.setCell ⟨N+1,0,none⟩ (.string r.head.pred)).setCell ⟨N+1,1,none⟩ (.slice avh r.head.args.length cvh)).setCell ⟨N+1,2,none⟩ (.slice avb r.body.length cvb));have k8:Keep (fun b=>b≠N+1) wr W8:=by rw [←hW8];exact((kSc).trans (kSc)).trans (kSc)
   have b8:W8.heap[N+1]?=some (.cells #[.string r.head.pred,.slice avh r.head.args.length cvh,.slice avb r.body.length cvb] 27 (0,0)):=by rw [←hW8];exact q8 2 _ (q8 1 _ (q8 0 (.string r.head.pred) hr1))
   have w0:=qb b8 0 _ rfl;have w1:=qb b8 1 _ rfl;have w2:=qb b8 2 _ rfl;have hw8:=qe b8;simp only [Nat.zero_add]at w0 w1 w2;have nn: ∀{base sz:Nat} {e:TypeId} {v:Value} {m:Nat} {xs:List Value},N+2<=base->wr.ownsRow base e sz v m xs-> ∀u,v.ownBlock=some u->u≠N+1:=fun hb h u hu=>by have:=(World.ownsRow.lt h u hu).1;omega
   have hoh8:=(qg hoh k8 (nn (Nat.le_refl _) hoh)).mono (show N<=N+2 by omega);have hob8:=(qg hob k8 (nn (Nat.le_refl _) hob)).mono (show N<=N+2 by omega);have hT8: ∀p,p∈ps->W8.ownsRow N 60 2 p.2 p.1.atom.args.length (qac p.1.atom.args):=fun p hp=>(qg (hT p hp) k8 (nn (Nat.le_refl _) (hT p hp))).mono (show N<=N+2 by omega);have hE:Keep (fun b=>b<N) w W8:=(Xk0.o.mono fun _ _ _=>trivial).trans ((hK.mono fun b _ h=>by omega).trans (k8.mono fun b _ h=>by omega));clear hlt hr1 hoh hob hT k8 b8 nn hpl;refine hd9 ?_ hK hbx hr0 hps hW8 hoh8 hob8 hT8 hE;clear hK hbx hr0 hps hW8 hoh8 hob8 hT8 hE;intro XhK Xhbx Xhr0 Xhps XhW8 Xhoh8 Xhob8 XhT8 XhE;go_wp2_with fail;rw [XhW8.o];refine bodyPost_ret (v:=.agg #[.string r.head.pred,.slice avh r.head.args.length cvh,.slice avb r.body.length cvb]) (by simp [results,Tryz.results10,go_sem,w0,w1,w2,hw8]) rfl ?_;refine⟨_,_,rfl,⟨by rw [XhN.o];exact Xhoh8.o,ps,Xhps.o,by rw [XhN.o];exact Xhob8.o,fun p hp=>by rw [XhN.o];exact XhT8.o p hp⟩,by rw [XhN.o];exact XhE.o⟩
def qic (x:ByteArray):TermD:=⟨true,x⟩
def qjt (x:ByteArray):Prop:=Op.bytesLess x.toList [65]=false/\(Op.bytesLess x.toList [90] ||x.toList== [90])=true
theorem q0h {xs:List ByteArray}{k:Nat}{x:ByteArray}(h:xs[k]?=some x):(xs.take (k+1)).map qic=(xs.take k).map qic++ [qic x]:=by
 rw [take_add_one,h,map_append];rfl
set_option maxRecDepth 100000 in
set_option maxHeartbeats 4000000 in
theorem qtt {n:Nat}{w:World}{va:Value}{xs:List ByteArray}(pr:ByteArray)(ha:qae n w va xs)(hn:n<=w.heap.size)(hx: ∀x,x∈xs->qjt x):
  Calls prog 73 #[.string pr,va] w fun e w'=> ∃v,e=.returned (.agg #[.string pr,v])/\w'.ownsRow w.heap.size 60 2 v (xs.map qic).length (qac (xs.map qic))/\Keep (fun b=>b<w.heap.size) w w':=by
 obtain⟨N,hN⟩:=ex (w.heap.size);obtain⟨aa,ca,rfl,hla,hca,hea⟩:=id ha;obtain⟨W0,hW0⟩:=ex ((w.alloc (.cells #[.string ⟨#[]⟩,.slice none 0 0] 24)).alloc (.cells #[.string pr,.slice none 0 0] 24));have k0:Keep (fun _=>True) w W0:=by rw [←hW0];exact kAl.trans kAl
 have z0:W0.heap.size=N+2:=by rw [←hW0,←hN];simp
 have p0:W0.heap[N]?=some (.cells #[.string ⟨#[]⟩,.slice none 0 0] 24 (0,0)):=by rw [←hW0,←hN];exact(Keep.alloc (fun _=>True) _ _).heap (qh w _) trivial
 have p1:W0.heap[N+1]?=some (.cells #[.string pr,.slice none 0 0] 24 (0,0)):=by
  rw [←hW0,←hN];have:=qh (w.alloc (.cells #[.string ⟨#[]⟩,.slice none 0 0] 24)) (.cells #[.string pr,.slice none 0 0] 24);rw [World.size_alloc]at this;exact this
 refine hd8 ?_ ha hea hx hN hW0 k0 p0 p1;clear ha hea hx hN hW0 k0 p0 p1;intro Xha Xhea Xhx XhN XhW0 Xk0 Xp0 Xp1;refine qbp Tryz.func73 rfl ?_;simp only [Tryz.ntmps73,qdz,Nat.reduceAdd,Nat.reduceSub];gi_wp2;rw [XhW0.o,XhN.o];gi_loopw [6] (fun ix wr=> ∃(k:Nat) (vt:Value),k<=xs.length/\ix=.int .i64 (k:Int)/\Keep (fun b=>b<N+1) W0 wr/\wr.heap[N+1]?=some (.cells #[.string pr,vt] 24 (0,0))/\wr.ownsRow (N+2) 60 2 vt k (qac ((xs.take k).map qic))/\N+2<=wr.heap.size) (fun i _=>xs.length-(intOf i).toNat)
 case atStart=>exact⟨0,.slice none 0 0,by omega,rfl,Keep.refl _ _,Xp1.o,World.ownsRow_nil _ _ _ _,by omega⟩
 case round=>
  obtain⟨k,vt,hk,rfl,hK,hbx,hO,hz⟩:=hrel;have b1:=qb hbx 1 _ rfl;have hBw:=qe hbx;simp only [Nat.zero_add]at b1;have hk0:(0:Int)<=k:=by omega
  obtain⟨at3,ct3,rfl⟩:=qi hO;by_cases hlt:k<xs.length
  ·have hlt1:(k:Int)<xs.length:=by omega
   obtain⟨x,hxk⟩: ∃x,xs[k]?=some x:=⟨_,getElem?_eq_getElem hlt⟩;obtain⟨b,o,rfl,hb,hs⟩:=Xhea.o k x hxk;have hgr:=Xhx.o x (mem_of_getElem? hxk);obtain⟨g1,g2⟩:=hgr;have hs':w.cell? ⟨b,o+k,none⟩=some (.string x):=by have:=hs;unfold qgc at this;rw [Nat.mul_one] at this;exact this
   have f0:=hK.cell (Xk0.o.cell hs' trivial) (show b<N+1 by have:=XhN.o;omega);have hsn:=q0h hxk;have kd:Keep (fun _=>True) wr wr.drew:=kDr;obtain⟨Wd,hWd⟩:=ex (wr.drew);rw [hWd]at kd;have hzd:=kd.size;have hNd:N+1<Wd.heap.size:=by omega
   have hbd:b<Wd.heap.size:=by have:=XhN.o;omega
   have hbw:b<wr.heap.size:=by have:=XhN.o;omega
   have hOd:=qg hO kd (fun _ _=>trivial);obtain⟨v7,W7,hr7,ho7,hk7,g7,cap7,hv7,hg7,hl7⟩:=qc4 qlv 22 hOd [.bool true,.string x] rfl (by simp [Value.oneCell']) (by omega) (by omega);subst hv7;have tne:(60:TypeId)≠24:=by decide
   have hbxd:=kd.heap hbx trivial;have hbx7:=hk7.heap hbxd (fun e=>qfz hOd hbxd tne e.symm rfl);have t1:=qb hbx7 1 _ rfl;have ft1:=qf hbx7 1;have hB7:=qe hbx7;simp only [Nat.zero_add]at t1;obtain⟨W8,hW8⟩:=ex (W7.setCell ⟨N+1,1,none⟩ (.slice (some ⟨g7,0,none⟩) (k+1) cap7));have k8:Keep (fun b=>b≠N+1) W7 W8:=by rw [←hW8];exact kSc
   have hbx8:W8.heap[N+1]?=some (.cells #[.string pr,.slice (some ⟨g7,0,none⟩) (k+1) cap7] 24 (0,0)):=by rw [←hW8];exact q8 1 _ hbx7
   have ho8:=qg ho7 k8 (fun u hu=>qfz ho7 hbx7 tne hu);have ho9:W8.ownsRow (N+2) 60 2 (.slice (some ⟨g7,0,none⟩) (k+1) cap7) (k+1) (qac ((xs.take (k+1)).map qic)):=by
    rw [hsn,qsn];exact ho8
   have hK8:Keep (fun b=>b<N+1) W0 W8:=hK.trans ((kd.mono fun _ _ _=>trivial).trans ((hk7.mono fun b _ (h:b<N+1)=>qh6 hOd (by omega)).trans (k8.mono fun b _ h=>by omega)));obtain⟨Wb,hWb⟩:=ex (Wd.alloc (.cells #[.bool true,.string x] 60));have kb:Keep (fun _=>True) Wd Wb:=by rw [←hWb];exact kAl
   have hz8:N+2<=W8.heap.size:=by have:=k8.size;have:=hk7.size;omega
   have hS0:Wd.cell? ⟨N+1,1,none⟩=some (.slice at3 k ct3)/\Wd.cell? ⟨b,o+k,none⟩=some (.string x):=⟨kd.cell b1 trivial,kd.cell f0 trivial⟩;have hS1:Wb.cell? ⟨N+1,1,none⟩=some (.slice at3 k ct3)/\Wb.cell? ⟨b,o+k,none⟩=some (.string x):=⟨kb.cell hS0.1 trivial,kb.cell hS0.2 trivial⟩;have hr7':(Builtin.append_ #[22,22] 22 #[.slice at3 k ct3,.slice (some ⟨Wd.heap.size,0,none⟩) 1 1]).run prog Wb=.ok (.slice (some ⟨g7,0,none⟩) (k+1) cap7) W7:=by rw [←hWb];exact hr7
   have hS2:W7.cell? ⟨N+1,1,none⟩=some (.slice at3 k ct3)/\W7.cell? ⟨b,o+k,none⟩=some (.string x):=⟨t1,hk7.cell hS0.2 (qh6 hOd (show b<N+2 by have:=XhN.o;omega))⟩;clear hxk hs hs' hsn hOd ho7 hk7 hg7 hbxd hbx7 k8 ho8 tne kb hr7;refine qxu ?_ hK hbx hO hWd kd hWb hW8 hbx8 ho9 hK8 hS0 hS1 hS2 hr7' t1;clear hK hbx hO hWd kd hWb hW8 hbx8 ho9 hK8 hS0 hS1 hS2 hr7' t1;intro XhK Xhbx XhO XhWd Xkd XhWb XhW8 Xhbx8 Xho9 XhK8 XhS0 XhS1 XhS2 Xhr7' Xt1;gi_wp2;refine qab ?_;refine qx rfl (fun X=>X.cell? ⟨N+1,1,none⟩=some (.slice at3 k ct3)/\X.cell? ⟨b,o+k,none⟩=some (.string x)) [22] ?_;rw [XhWd.o];refine qam [0,1,2,3,4,5,6,7,8,9,10,11,12,13,14,15,16,17,18] ?_
   iterate 19
    refine tkR (v:=?_) rfl XhS0.o ?_ ?_;rotate_left
    ·rintro Wq ⟨x1,x2⟩;go_simp
     try with_reducible rfl
    try simp only [qan]
   refine qu ?_;refine hoR 19 rfl fun K XhK0=>?_;gi_wp2;rw [XhWb.o];refine XhK0.o _ _ (fun _=>XhS1.o) ?_;refine hoR 20 rfl fun K XhK1=>?_;refine qch rfl (.tmp 16) (.tmp 34) 22 rfl rfl rfl Xhr7'.o ?_;gi_wp2;refine XhK1.o _ _ (fun _=>XhS2.o) ?_;refine hoR 21 rfl fun K XhK2=>?_;gi_wp2;refine XhK2.o _ _ (fun _=>XhS2.o) ?_;refine hoR 22 rfl fun K XhK3=>?_;have t1:=Xt1.o;gi_wp2;rw [XhW8.o];refine XhK3.o _ _ (fun h=>absurd h (by decide)) ?_;refine qk (by kernel_rfl) (qm ?_);clear XhK0 XhK1 XhK2 XhK3;gi_wp2;go_roundw
   case rel=>exact⟨k+1,_,by omega,by go_num,XhK8.o,Xhbx8.o,Xho9.o,hz8⟩
   case measure=>simp [intOf];omega
  ·obtain rfl:k=xs.length:=by omega
   rw [take_length]at hO;have hr1:=hK.heap Xp0.o (by omega);have u0:=qb hr1 0 _ rfl;have u1:=qb hr1 1 _ rfl;have fu0:=qf hr1 0;have fu1:=qf hr1 1;have hN1:=qe hr1;have b0:=qb hbx 0 _ rfl;simp only [Nat.zero_add]at u0 u1 b0;obtain⟨W8,hW8⟩:=ex ((wr.setCell ⟨N,0,none⟩ (.string pr)).setCell ⟨N,1,none⟩ (.slice at3 xs.length ct3));have k8:Keep (fun b=>b≠N) wr W8:=by rw [←hW8];exact(kSc).trans (kSc)
   have b8:W8.heap[N]?=some (.cells #[.string pr,.slice at3 xs.length ct3] 24 (0,0)):=by rw [←hW8];exact q8 1 _ (q8 0 (.string pr) hr1)
   have w0:=qb b8 0 _ rfl;have w1:=qb b8 1 _ rfl;have hw8:=qe b8;simp only [Nat.zero_add]at w0 w1;have hO8:=(qg hO k8 (fun u hu=>by have:=(World.ownsRow.lt hO u hu).1;omega)).mono (show N<=N+2 by omega);have hE:Keep (fun b=>b<N) w W8:=(Xk0.o.mono fun _ _ _=>trivial).trans ((hK.mono fun b _ h=>by omega).trans (k8.mono fun b _ h=>by omega));clear hlt hr1 hO k8 b8;refine hd5 ?_ hK hbx hW8 hO8 hE;clear hK hbx hW8 hO8 hE;intro XhK Xhbx XhW8 XhO8 XhE;gi_wp2;rw [XhW8.o];refine bodyPost_ret (v:=.agg #[.string pr,.slice at3 xs.length ct3]) (by simp [results,Tryz.results73,go_sem,w0,w1,hw8]) rfl ?_;refine⟨_,rfl,by rw [XhN.o,length_map];exact XhO8.o,by rw [XhN.o];exact XhE.o⟩
theorem qln {w:World}{B t:Nat}{xs:List ByteArray}(h:w.heap[B]?=some (.cells (xs.map Value.string).toArray t (0,0)))(hl:xs.length<=1073741824):qae (B+1) w (.slice (some ⟨B,0,none⟩) xs.length xs.length) xs:=
 ⟨_,_,rfl,hl,⟨Nat.le_refl _,by unfold maxLen;omega⟩,fun k x hx=>⟨B,0,rfl,by omega,by
  have:=qb h k (.string x) (by rw [getElem?_map,hx];rfl);unfold qgc;rw [Nat.mul_one];exact this⟩⟩
def bX:ByteArray:=⟨#[88]⟩
def bY:ByteArray:=⟨#[89]⟩
def bZ:ByteArray:=⟨#[90]⟩
def bT:ByteArray:=⟨#[116]⟩
def bE:ByteArray:=⟨#[101]⟩
def noT:TermD:=⟨false,⟨#[]⟩⟩
def qg4:RuleD:=⟨⟨bT,[qic bX,qic bZ]⟩,[⟨1,⟨bE,[qic bX,qic bY]⟩,noT,noT⟩,⟨1,⟨bE,[qic bY,qic bZ]⟩,noT,noT⟩]⟩
theorem qww:qjt bX:=by unfold qjt;rw [ByteArray.toList_eq];decide
theorem qwx:qjt bY:=by unfold qjt;rw [ByteArray.toList_eq];decide
theorem qwy:qjt bZ:=by unfold qjt;rw [ByteArray.toList_eq];decide
set_option maxRecDepth 100000 in
set_option maxHeartbeats 4000000 in
theorem q5n (w:World):Calls prog 38 #[] w fun e w'=> ∃vh vb,e=.returned (qbf qg4 vh vb)/\RuleIn w'.heap.size w' vh vb qg4/\Keep (fun b=>b<w.heap.size) w w':=by
 obtain⟨N,hN⟩:=ex (w.heap.size);obtain⟨W0,hW0⟩:=ex (w.alloc (.cells #[.string ⟨#[]⟩,.slice none 0 0,.slice none 0 0] 27));have k0:Keep (fun _=>True) w W0:=by rw [←hW0];exact kAl
 have p0:W0.heap[N]?=some (.cells #[.string ⟨#[]⟩,.slice none 0 0,.slice none 0 0] 27 (0,0)):=by rw [←hW0,←hN];exact qh _ _
 have z0:W0.heap.size=N+1:=by rw [←hW0,←hN];simp
 obtain⟨W1,hW1⟩:=ex (W0.alloc (.cells #[.string ⟨#[88]⟩,.string ⟨#[90]⟩] 9));have k1:Keep (fun _=>True) W0 W1:=by rw [←hW1];exact kAl
 have p1:W1.heap[N+1]?=some (.cells #[.string ⟨#[88]⟩,.string ⟨#[90]⟩] 9 (0,0)):=by rw [←hW1,←z0];exact qh _ _
 have z1:W1.heap.size=N+2:=by rw [←hW1];simp [z0]
 have hc1:=qtt (w:=W1) bT (qln (xs:= [bX,bZ]) p1 (by simp)) (by omega) (fun x hx=>by
  simp at hx;rcases hx with rfl |rfl
  ·exact qww
  ·exact qwy)
 refine hd8 ?_ hN hW0 k0 p0 hW1 k1 p1 hc1;clear hN hW0 k0 p0 hW1 k1 p1 hc1;intro XhN XhW0 Xk0 Xp0 XhW1 Xk1 Xp1 Xhc1
 go_enter Tryz.func38,Tryz.ntmps38
 go_wp2_with fail;rw [XhW0.o,XhW1.o,XhN.o];refine Xhc1.o.mono ?_;rintro e W2 ⟨v1,rfl,o1,k2⟩;obtain⟨a1,c1,rfl⟩:=qi o1;have zb1:=k2.size;have Xk2:=Lib.hid k2;have Xo1:=Lib.hid o1;clear k2 o1;obtain⟨M3,hM3⟩: ∃M,W2.heap.size=M:=⟨_,rfl⟩;obtain⟨W3,hW3⟩: ∃W,W2.alloc (.cells #[.string ⟨#[88]⟩,.string ⟨#[89]⟩] 9)=W:=⟨_,rfl⟩;have ka3:Keep (fun _=>True) W2 W3:=by rw [←hW3];exact kAl
 have p3:W3.heap[M3]?=some (.cells #[.string ⟨#[88]⟩,.string ⟨#[89]⟩] 9 (0,0)):=by rw [←hW3,←hM3];exact qh _ _
 have za3:W3.heap.size=M3+1:=by rw [←hW3,←hM3];simp
 have hc3:=qtt (w:=W3) bE (qln (xs:= [bX,bY]) p3 (by simp)) (by omega) (fun x hx=>by
  simp at hx;rcases hx with rfl |rfl
  ·exact qww
  ·exact qwx)
 refine hd5 ?_ hM3 hW3 ka3 p3 hc3;clear hM3 hW3 ka3 p3 hc3;intro XhM3 XhW3 Xka3 Xp3 Xhc3;go_wp2_with fail;rw [XhW3.o,XhM3.o];refine Xhc3.o.mono ?_;rintro e W4 ⟨v3,rfl,o3,k4⟩;obtain⟨a3,c3,rfl⟩:=qi o3;have zb3:=k4.size;have Xk4:=Lib.hid k4;have Xo3:=Lib.hid o3;clear k4 o3;obtain⟨M5,hM5⟩: ∃M,W4.heap.size=M:=⟨_,rfl⟩;obtain⟨W5,hW5⟩: ∃W,W4.alloc (.cells #[.string ⟨#[89]⟩,.string ⟨#[90]⟩] 9)=W:=⟨_,rfl⟩;have ka5:Keep (fun _=>True) W4 W5:=by rw [←hW5];exact kAl
 have p5:W5.heap[M5]?=some (.cells #[.string ⟨#[89]⟩,.string ⟨#[90]⟩] 9 (0,0)):=by rw [←hW5,←hM5];exact qh _ _
 have za5:W5.heap.size=M5+1:=by rw [←hW5,←hM5];simp
 have hc5:=qtt (w:=W5) bE (qln (xs:= [bY,bZ]) p5 (by simp)) (by omega) (fun x hx=>by
  simp at hx;rcases hx with rfl |rfl
  ·exact qwx
  ·exact qwy)
 refine hd5 ?_ hM5 hW5 ka5 p5 hc5;clear hM5 hW5 ka5 p5 hc5;intro XhM5 XhW5 Xka5 Xp5 Xhc5;go_wp2_with fail;rw [XhW5.o,XhM5.o];refine Xhc5.o.mono ?_;rintro e W6 ⟨v5,rfl,o5,k6⟩;obtain⟨a5,c5,rfl⟩:=qi o5;have zb5:=k6.size;have Xk6:=Lib.hid k6;have Xo5:=Lib.hid o5;clear k6 o5;obtain⟨M7,hM7⟩: ∃M,W6.heap.size=M:=⟨_,rfl⟩;obtain⟨W7,hW7⟩: ∃W,W6.alloc (.cells #[.int .i64 1,.string bE,.slice a3 2 c3,.bool false,.string ⟨#[]⟩,.bool false,.string ⟨#[]⟩,.int .i64 1,.string bE,.slice a5 2 c5,.bool false,.string ⟨#[]⟩,.bool false,.string ⟨#[]⟩] 64)=W:=⟨_,rfl⟩;have k7:Keep (fun _=>True) W6 W7:=by rw [←hW7];exact kAl
 have p7:W7.heap[M7]?=some (.cells #[.int .i64 1,.string bE,.slice a3 2 c3,.bool false,.string ⟨#[]⟩,.bool false,.string ⟨#[]⟩,.int .i64 1,.string bE,.slice a5 2 c5,.bool false,.string ⟨#[]⟩,.bool false,.string ⟨#[]⟩] 64 (0,0)):=by rw [←hW7,←hM7];exact qh _ _
 have z7:W7.heap.size=M7+1:=by rw [←hW7,←hM7];simp
 have kN:Keep (fun b=>b<N+1) W0 W7:=(Xk1.o.mono fun _ _ _=>trivial).trans ((Xk2.o.mono fun b _ h=>by omega).trans ((Xka3.o.mono fun _ _ _=>trivial).trans ((Xk4.o.mono fun b _ h=>by omega).trans ((Xka5.o.mono fun _ _ _=>trivial).trans ((Xk6.o.mono fun b _ h=>by omega).trans (k7.mono fun _ _ _=>trivial))))));have pN:=kN.heap Xp0.o (by omega);have d0:=qb pN 0 _ rfl;have d1:=qb pN 1 _ rfl;have d2:=qb pN 2 _ rfl;have f0:=qf pN 0;have f1:=qf pN 1;have f2:=qf pN 2;have lN:=qe pN;simp only [Nat.zero_add]at d0 d1 d2;obtain⟨W8,hW8⟩: ∃W,((W7.setCell ⟨N,0,none⟩ (.string bT)).setCell ⟨N,1,none⟩ (.slice a1 2 c1)).setCell ⟨N,2,none⟩ (.slice (some ⟨M7,0,none⟩) 2 2)=W:=⟨_,rfl⟩;have k8:Keep (fun b=>b≠N) W7 W8:=by rw [←hW8];exact((kSc).trans (kSc)).trans (kSc)
 have b8:W8.heap[N]?=some (.cells #[.string bT,.slice a1 2 c1,.slice (some ⟨M7,0,none⟩) 2 2] 27 (0,0)):=by rw [←hW8];exact q8 2 _ (q8 1 _ (q8 0 (.string bT) pN))
 have w0:=qb b8 0 _ rfl;have w1:=qb b8 1 _ rfl;have w2:=qb b8 2 _ rfl;have hw8:=qe b8;simp only [Nat.zero_add]at w0 w1 w2;have z8:=k8.size;have o1':=qg (qg Xo1.o (((Xka3.o.mono fun _ _ _=>trivial).trans ((Xk4.o.mono fun b _ (h:b<W2.heap.size)=>by have:=XhM3.o;omega).trans ((Xka5.o.mono fun _ _ _=>trivial).trans ((Xk6.o.mono fun b _ h=>by have:=XhM3.o;have:=XhM5.o;omega).trans (k7.mono fun _ _ _=>trivial)))))) (fun u hu=>(World.ownsRow.lt Xo1.o u hu).2)) k8 (fun u hu=>by have:=(World.ownsRow.lt Xo1.o u hu).1;omega);have o3':=qg (qg Xo3.o (((Xka5.o.mono fun _ _ _=>trivial).trans ((Xk6.o.mono fun b _ (h:b<W4.heap.size)=>by have:=XhM5.o;omega).trans (k7.mono fun _ _ _=>trivial)))) (fun u hu=>(World.ownsRow.lt Xo3.o u hu).2)) k8 (fun u hu=>by have:=(World.ownsRow.lt Xo3.o u hu).1;have:=XhM3.o;omega);have o5':=qg (qg Xo5.o k7 (fun _ _=>trivial)) k8 (fun u hu=>by have:=(World.ownsRow.lt Xo5.o u hu).1;have:=XhM3.o;have:=XhM5.o;omega);have b7:=k8.heap p7 (show M7≠N by have:=XhM3.o;have:=XhM5.o;omega);have hE:Keep (fun b=>b<N) w W8:=(Xk0.o.mono fun _ _ _=>trivial).trans ((kN.mono fun b _ h=>by omega).trans (k8.mono fun b _ h=>by omega));have hR:RuleIn W8.heap.size W8 (.slice a1 2 c1) (.slice (some ⟨M7,0,none⟩) 2 2) qg4:=by
  refine⟨qhr o1' rfl (by decide),some ⟨M7,0,none⟩,2,rfl,by simp [qg4],by simp [qg4,maxLen],fun k x hk=>⟨M7,0,rfl,by omega,?_⟩⟩
  match k,hk with
  |0,hk=>
   cases hk;refine⟨.slice a3 2 c3,fun j v hj=>?_,qhr o3' rfl (by decide)⟩
   match j,hj with
   |0,hj=>cases hj;exact qb b7 0 _ rfl
   |1,hj=>cases hj;exact qb b7 1 _ rfl
   |2,hj=>cases hj;exact qb b7 2 _ rfl
   |3,hj=>cases hj;exact qb b7 3 _ rfl
   |4,hj=>cases hj;exact qb b7 4 _ rfl
   |5,hj=>cases hj;exact qb b7 5 _ rfl
   |6,hj=>cases hj;exact qb b7 6 _ rfl
  |1,hk=>
   cases hk;refine⟨.slice a5 2 c5,fun j v hj=>?_,qhr o5' rfl (by decide)⟩
   match j,hj with
   |0,hj=>cases hj;exact qb b7 7 _ rfl
   |1,hj=>cases hj;exact qb b7 8 _ rfl
   |2,hj=>cases hj;exact qb b7 9 _ rfl
   |3,hj=>cases hj;exact qb b7 10 _ rfl
   |4,hj=>cases hj;exact qb b7 11 _ rfl
   |5,hj=>cases hj;exact qb b7 12 _ rfl
   |6,hj=>cases hj;exact qb b7 13 _ rfl
 clear k7 p7 kN pN k8 b8 o1' o3' o5' b7;refine hd3 ?_ hW8 hE hR;clear hW8 hE hR;intro XhW8 XhE XhR;go_wp2_with fail;rw [XhW8.o];refine bodyPost_ret (v:=.agg #[.string bT,.slice a1 2 c1,.slice (some ⟨M7,0,none⟩) 2 2]) (by simp [results,Tryz.results38,go_sem,w0,w1,w2,hw8]) rfl ?_;exact⟨_,_,rfl,XhR.o,by rw [XhN.o];exact XhE.o⟩
end Go.Proofs

/- Parts of the proof. -/
import Derived.Test.YtnponcjnahicnaaGreatProg
import Derived.Test.YtnponcjnahicnaaGreatStNToStQ
import Derived.Test.YtnponcjnahicnaaGreatStGToStJ
import Derived.Test.YtnponcjnahicnaaGreatStHToTxC
import Derived.Test.YtnponcjnahicnaaGreatRelOToRelP
import Derived.Test.YtnponcjnahicnaaGreatHoistToRowC
import Derived.BigQuiet
import Derived.Test.YtnponcjnahicnaaGreatHdToKp
set_option linter.unusedSimpArgs false
set_option linter.unusedVariables false
open Go.Proofs.Tryz(prog)
open List(any_eq_false length_map mem_map)
namespace Go.Proofs
open Go.RowKit Go.Ink R4 P16 Go.MuLone
attribute [local go_sem] Oper.semAt_some
def okF (f:ql):Bool:=qe2 f.pred&&decide (f.tuple.length<=16)&&!(f.tuple.any fun s=>decide (1024<s.size))
set_option maxRecDepth 100000 in
set_option maxHeartbeats 4000000 in
theorem qsb {n0:Nat}{g:Gh}{w:World}(hg:GInv g w){S:Nat}{c:List ql}(hS:g.st S=some c)(f:ql)(m:Nat)(v:Value)(hv:qae m w v f.tuple)(hm:m<=w.heap.size)(hps:f.pred.size<=1073741824)(hfew:c.length<67108864)(hfree: ∀a n c,v=.slice (some a) n c->g.tag a.block=none):
  Calls prog 16 #[qj S,.agg #[.string f.pred,v]] w fun e w'=> ∃g',e=.returned (.tuple #[.bool (decide (okF f=true/\f∉c)),.int .i64 (if okF f=true then 0 else 2)])/\GStep n0 g w g' w'/\g'.st=g.with S (qcl okF c f)/\g'.held=g.held:=by
 obtain⟨T,M,MX,vx,xs,rl,hP⟩:=hg.store S c hS;obtain⟨pr,tup⟩:=f;simp only at hv hps⊢;obtain⟨a,cp,rfl,hlt,hct,het⟩:=id hv;obtain⟨N,hN⟩:=ex (w.heap.size);obtain⟨W0,hW0⟩:=ex (w.alloc (.cells #[.string pr,.slice a tup.length cp] 52));have k0:Keep (fun _=>True) w W0:=by rw [←hW0];exact kAl
 have z0:W0.heap.size=w.heap.size+1:=by rw [←hW0];simp
 have p0:W0.heap[N]?=some (.cells #[.string pr,.slice a tup.length cp] 52 (0,0)):=by rw [←hW0,←hN];exact qh _ _
 have hP0:=hP.keep (tag':=g.tag) k0 (fun _ _ _=>trivial) (fun _ _=>Iff.rfl);have c0:=qb p0 0 _ rfl;have c1:=qb p0 1 _ rfl;simp only [Nat.zero_add]at c0 c1;have hNl:=qe p0;have hSl:=qe hP0.box;have hnone:=qh8 hP0.box;have hname:=qn6 pr W0;have hlong:=qwk m _ tup W0 (qng hv k0) (by omega);have hok:okF ⟨pr,tup⟩=(qe2 pr&&decide (tup.length<=16)&&!(tup.any fun s=>decide (1024<s.size))):=rfl;have hbad:okF ⟨pr,tup⟩=false->g.with S (qcl okF c ⟨pr,tup⟩)=g.st:=fun h=>by
  have e:qcl okF c ⟨pr,tup⟩=c:=if_neg (by rw [h];simp);rw [e]
  funext b
  unfold Gh.with;by_cases hb:b=S
  ·rw [if_pos hb,hb,hS]
  ·rw [if_neg hb]
 refine qoh ?_ hg hP hP0 k0 hW0 p0 hnone hname hlong hv het hbad hfree;clear hg hP hP0 k0 hW0 p0 hnone hname hlong hv het hbad hfree;intro Xhg XhP XhP0 Xk0 XhW0 Xp0 Xhnone Xhname Xhlong Xhv Xhet Xhbad Xhfree;by_cases hnm:qe2 pr=false
 ·have hokf:okF ⟨pr,tup⟩=false:=by rw [hok,hnm];rfl
  have hbd:=Xhbad.o hokf;rw [hnm]at Xhname;clear hok hnm;refine hd1 ?_ hbd;clear hbd;intro Xhbd;refine qfu Tryz.func16 rfl ?_;simp only [Tryz.ntmps16,qdz,Nat.reduceAdd,Nat.reduceSub];gi_wp2;rw [XhW0.o];refine⟨trivial,rfl,(callsIn_wide.2 Xhnone.o).mono ?_⟩;rintro e w9 ⟨rfl,hw9⟩;have hw9:=hw9.symm;subst hw9;gi_wp2;refine⟨trivial,rfl,(callsIn_wide.2 Xhname.o).mono ?_⟩;rintro e w9 ⟨rfl,hw9⟩;have hw9:=hw9.symm;subst hw9;gi_wp2;refine⟨trivial,?_⟩;rename_i aK;refine aK _ _ ?_;clear aK;gi_wp2
  all_goals exact qbx (results_tmp2 rfl _ _ _) ⟨rfl,g,GStep.own Xhg.o Xk0.o,Xhbd.o.symm,rfl⟩
 rw [Bool.not_eq_false]at hnm;rw [hnm]at Xhname;by_cases h16:16<tup.length
 ·have hokf:okF ⟨pr,tup⟩=false:=by rw [hok,decide_eq_false (show ¬tup.length<=16 by omega)];simp
  have hbd:=Xhbad.o hokf;have h161:(16:Int)<tup.length:=by omega
  clear hok hnm h16;refine hd1 ?_ hbd;clear hbd;intro Xhbd;refine qfu Tryz.func16 rfl ?_;simp only [Tryz.ntmps16,qdz,Nat.reduceAdd,Nat.reduceSub];gi_wp2;rw [XhW0.o];refine⟨trivial,rfl,(callsIn_wide.2 Xhnone.o).mono ?_⟩;rintro e w9 ⟨rfl,hw9⟩;have hw9:=hw9.symm;subst hw9;gi_wp2;refine⟨trivial,rfl,(callsIn_wide.2 Xhname.o).mono ?_⟩;rintro e w9 ⟨rfl,hw9⟩;have hw9:=hw9.symm;subst hw9;gi_wp2;refine⟨trivial,?_⟩;rename_i aK;refine aK _ _ ?_;clear aK;gi_wp2
  all_goals exact qbx (results_tmp2 rfl _ _ _) ⟨rfl,g,GStep.own Xhg.o Xk0.o,Xhbd.o.symm,rfl⟩
 have h161: ¬(16:Int)<tup.length:=by omega
 by_cases hlg:(tup.any fun s=>decide (1024<s.size))=true
 ·have hokf:okF ⟨pr,tup⟩=false:=by rw [hok,hlg];simp
  have hbd:=Xhbad.o hokf;rw [hlg]at Xhlong;clear hok hnm hlg;refine hd1 ?_ hbd;clear hbd;intro Xhbd;refine qfu Tryz.func16 rfl ?_;simp only [Tryz.ntmps16,qdz,Nat.reduceAdd,Nat.reduceSub];gi_wp2;rw [XhW0.o];refine⟨trivial,rfl,(callsIn_wide.2 Xhnone.o).mono ?_⟩;rintro e w9 ⟨rfl,hw9⟩;have hw9:=hw9.symm;subst hw9;gi_wp2;refine⟨trivial,rfl,(callsIn_wide.2 Xhname.o).mono ?_⟩;rintro e w9 ⟨rfl,hw9⟩;have hw9:=hw9.symm;subst hw9;gi_wp2;refine⟨trivial,rfl,(callsIn_wide.2 Xhlong.o).mono ?_⟩;rintro e W1 ⟨rfl,k1⟩;have kA:Keep (fun _=>True) w W1:=Xk0.o.trans (k1.mono fun b hb _=>hb);clear k1;refine hd1 ?_ kA;clear kA;intro XkA;gi_wp2
  all_goals exact qbx (results_tmp2 rfl _ _ _) ⟨rfl,g,GStep.own Xhg.o XkA.o,Xhbd.o.symm,rfl⟩
 rw [Bool.not_eq_true]at hlg;have hokt:okF ⟨pr,tup⟩=true:=by rw [hok,hnm,hlg,decide_eq_true (show tup.length<=16 by omega)];rfl
 have hsm: ∀s,s∈tup->s.size<=1073741824:=fun s hs=>by
  rw [any_eq_false]at hlg;have:=hlg s hs;simp at this;omega
 rw [hlg]at Xhlong;clear hok hnm hlg Xhbad;have hl16:tup.length<=16:=by omega
 refine Ink.hd2 ?_ hokt hsm;clear hokt hsm;intro Xhokt Xhsm;refine qfu Tryz.func16 rfl ?_;simp only [Tryz.ntmps16,qdz,Nat.reduceAdd,Nat.reduceSub];gi_wp2;rw [XhW0.o];refine⟨trivial,rfl,(callsIn_wide.2 Xhnone.o).mono ?_⟩;rintro e w9 ⟨rfl,hw9⟩;have hw9:=hw9.symm;subst hw9;gi_wp2;refine⟨trivial,rfl,(callsIn_wide.2 Xhname.o).mono ?_⟩;rintro e w9 ⟨rfl,hw9⟩;have hw9:=hw9.symm;subst hw9;gi_wp2;refine⟨trivial,rfl,(callsIn_wide.2 Xhlong.o).mono ?_⟩;rintro e W1 ⟨rfl,k1⟩
 replace k1:Keep (fun _=>True) W0 W1:=k1.mono fun b hb _=>hb
 have kA:Keep (fun _=>True) w W1:=Xk0.o.trans k1;have hP1:=XhP.o.keep (tag':=g.tag) kA (fun _ _ _=>trivial) (fun _ _=>Iff.rfl);have a0:=qb hP1.box 0 _ rfl;have f0:=qf hP1.box 0;have p1:=k1.heap Xp0.o trivial;have z1:=k1.size;obtain⟨W2,hW2⟩:=ex (W1.setCell ⟨S,0,none⟩ (.int .i32 1));have hlock:=lock_free qhd ⟨S,0,none⟩ W1 (by simpa using a0) f0;rw [hW2]at hlock;have k2:Keep (fun b=>b≠S) W1 W2:=by rw [←hW2];exact kSc
 have z2:=k2.size;have box2:=q8 0 (.int .i32 1) hP1.box;rw [hW2]at box2;have hNS:N≠S:=by have:=qe XhP.o.box;omega
 have p2:=k2.heap p1 hNS;have hunl: ∀W,Keep (fun _=>True) W2 W->Keep (fun _=>True) w (W.setCell ⟨S,0,none⟩ (.int .i32 0)):=fun W hK=>kA.trans (qix hP1.box (by rw [hW2];exact hK));have d0:=qb p2 0 _ rfl;have d1:=qb p2 1 _ rfl;simp only [Nat.zero_add]at d0 d1;have hN2:=qe p2;have hS1:=qe hP1.box;obtain⟨W3,hW3⟩:=ex (W2.alloc (.cells #[.string pr,.int .i64 (tup.length:Int)] 122));obtain⟨KB,hKB⟩:=ex (W2.heap.size);have k3:Keep (fun _=>True) W2 W3:=by rw [←hW3];exact kAl
 have q3:W3.heap[KB]?=some (.cells #[.string pr,.int .i64 (tup.length:Int)] 122 (0,0)):=by rw [←hW3,←hKB];exact qh _ _
 have z3:W2.heap.size<W3.heap.size:=by rw [←hW3];simp
 have hMS:M≠S:=fun e=>by have:=hP1.tagM;rw [e,hP1.tagS] at this;cases this
 have hrel3:=(hP1.rels.keep k2 hMS).keep k3 trivial;have hlk:=fun m=>qd1 (P:=prog) Tryz.underlying116 qj5 qiw ql6 (hrel3.keep (Keep.drewN' (fun _=>True) W3 m) trivial) (pr,tup.length) (qj6 hps (by omega)) false;have e3:=qb (k3.heap box2 trivial) 4 _ rfl;have e1:=qb q3 0 _ rfl;have e2:=qb q3 1 _ rfl;simp only [Nat.zero_add]at e1 e2 e3;have hS3:=qe (k3.heap box2 trivial);have hK3:=qe q3;unfold qdt at hlk;clear k1 hNl c0 c1;refine qhe ?_ kA hP1 hlock k2 box2 p2 hunl hW3 k3 q3 hW2 hrel3;clear kA hP1 hlock k2 box2 p2 hunl hW3 k3 q3 hW2 hrel3;intro XkA XhP1 Xhlock Xk2 Xbox2 Xp2 Xhunl XhW3 Xk3 Xq3 XhW2 Xhrel3;gi_wp2;refine⟨trivial,rfl,(callsIn_wide.2 Xhlock.o).mono ?_⟩;rintro e w9 ⟨rfl,hw9⟩;have hw9:=hw9.symm;subst hw9;gi_wp2;rw [XhW3.o];cases hl:qc1 rl (pr,tup.length) with
 |none=>
  simp only [hl,Bool.false_eq_true,if_false]at hlk;have hk0:=ql7 XhP.o hl;have hno:=qr9 hl;refine qab ?_;refine wpIn_wide.2 ?_
  go_quiet (fail)
  refine qm ?_;gi_wp2;obtain⟨Wd,hWd⟩:=ex (W3.drewN nq);have k3d:Keep (fun _=>True) W2 Wd:=by rw [←hWd];exact Xk3.o.trans (Keep.drewN' _ _ _)
  have zd:=k3d.size;have hreld:qh7 Wd M rl:=by rw [←hWd];exact Xhrel3.o.keep (Keep.drewN' (fun _=>True) _ _) trivial
  have qd:Wd.heap[KB]?=some (.cells #[.string pr,.int .i64 (tup.length:Int)] 122 (0,0)):=by rw [←hWd];exact(Keep.drewN' (fun _=>True) _ _).heap Xq3.o trivial
  have hnew:=qy2 tup.length (by omega) Wd;obtain⟨R,hRd⟩:=ex (Wd.heap.size+2);rw [hRd]at hnew;rw [hWd];clear hlk e1 e2 e3 d0 d1;refine hd8 ?_ hk0 hno k3d hreld qd hnew hl hWd;clear hk0 hno k3d hreld qd hnew hl hWd;intro Xhk0 Xhno Xk3d Xhreld Xqd Xhnew Xhl XhWd
  try (refine⟨trivial,?_⟩;rename_i aK;refine aK _ _ ?_;clear aK;gi_wp2)
  refine⟨trivial,rfl,(callsIn_wide.2 Xhnew.o).mono ?_⟩;rintro e W4 ⟨rfl,k4,rt0,P0,K0,hRq,htag⟩;have z4:=k4.size;have kD:Keep (fun _=>True) W4 W4.drew:=kDr;have k2D:Keep (fun _=>True) W2 W4.drew:=(Xk3d.o.trans k4).trans kD;have e3:=qb (k2D.heap Xbox2.o trivial) 4 _ rfl;have e1:=qb ((k4.trans kD).heap Xqd.o trivial) 0 _ rfl;have e2:=qb ((k4.trans kD).heap Xqd.o trivial) 1 _ rfl;simp only [Nat.zero_add]at e1 e2 e3;obtain⟨Wq,hup,hrelq,ksq,hzq⟩:=qie (P:=prog) Tryz.underlying116 qj5 qiw (Xhreld.o.keep (k4.trans kD) trivial) (pr,tup.length) (qj6 hps (by omega)) R;unfold qdt at hup;have hsetk:setK rl (pr,tup.length) R=rl++ [((pr,tup.length),R)]:=by
   unfold setK;rw [if_neg (fun h=>by obtain⟨⟨k',R'⟩,hm,rfl⟩:=mem_map.1 h;exact Xhno.o R' hm)]
  rw [hsetk]at hrelq;have hwR:w.heap.size<=R:=by
   have h1:=XkA.o.size;omega
  have hRfree: ∀b,qa1 g.tag S R b=none:=fun b=>by
   cases e:qa1 g.tag S R b with
   |none=>rfl
   |some U=>have:=Xhg.o.reln _ _ _ _ (qaa.1 e);omega
  have kq:Keep (fun b=>b≠S/\b≠M) w Wq:=(((XkA.o.mono fun _ _ _=>trivial).trans (Xk2.o.mono fun b _ h=>h.1)).trans (k2D.mono fun _ _ _=>trivial)).trans (ksq.mono fun b _ h=>h.2);have hMlt:=hrelq.lt;have hSM:S≠M:=fun e=>by have:=XhP.o.tagM;rw [←e,XhP.o.tagS] at this;cases this
  have k2q:Keep (fun b=>b≠M) W2 Wq:=(k2D.mono fun _ _ _=>trivial).trans ksq;have boxq:Wq.heap[S]?=some (.cells (qg1 T M c.length).toArray 120 (0,0)):=by have:=k2q.heap Xbox2.o hSM;simpa [qg1,qex] using this
  have hNM:N≠M:=fun e=>by have:=Xhg.o.lt _ _ XhP.o.tagM;omega
  have pq:=k2q.heap Xp2.o hNM;have hRr:((pr,tup.length),R)∈rl∨(w.heap.size<=R/\ ∀R',((pr,tup.length),R')∉rl):=.inr ⟨hwR,Xhno.o⟩;have relsq:qh7 Wq M (qdq rl (pr,tup.length) R):=by
   unfold qdq;rw [if_neg (Xhno.o R)];exact hrelq
  have tS: ∀b U,g.tag b=some U->U≠(S,.box)->b≠S:=fun b U hb hU e=>by rw [e,XhP.o.tagS] at hb;exact hU (Option.some.inj hb).symm
  have tM: ∀b U,g.tag b=some U->U≠(S,.rels)->b≠M:=fun b U hb hU e=>by rw [e,XhP.o.tagM] at hb;exact hU (Option.some.inj hb).symm
  have tabq:TabAt Wq T MX vx xs:=(XhP1.o.table.keep Xk2.o (tS _ _ XhP.o.tagT (fun e=>by cases e)) (tS _ _ XhP.o.tagN (fun e=>by cases e)) (fun b hb=>tS _ _ (XhP.o.tagx b hb) (fun e=>by cases e))).keep k2q (tM _ _ XhP.o.tagT (fun e=>by cases e)) (tM _ _ XhP.o.tagN (fun e=>by cases e)) (fun b hb=>tM _ _ (XhP.o.tagx b hb) (fun e=>by cases e));have hMw:=Xhg.o.lt _ _ XhP.o.tagM;have hRq:qb6 rt0 Wq R tup.length ((qo c pr tup.length).map (qr xs)) (.slice none 0 0) P0 K0 []:=by
   rw [Xhk0.o];exact(hRq.keep kD (fun _ _ _ _=>trivial)).keep ksq (fun b U hb _ e=>by have:=htag b U hb;have h1:=XkA.o.size;omega)
  have hle0:TagLe (qa1 g.tag S R) rt0:=fun b U hb=>by rw [hRfree b] at hb;cases hb
  have hnew0:TagNew (qa1 g.tag S R) rt0 w:=fun b U hb=>.inr (by have:=htag b U hb;have h1:=XkA.o.size;omega);have hS4:=qe (k2D.heap Xbox2.o trivial);have hK4:=qe ((k4.trans kD).heap Xqd.o trivial);have hC4:=And.intro e3 (And.intro e1 e2);have hKM:KB≠M:=by omega
  have hC5:=And.intro (ksq.cell e3 hSM) (And.intro (ksq.cell e1 hKM) (ksq.cell e2 hKM));clear e1 e2 e3;clear hRfree k2D kD k4 hrelq ksq hzq k2q tS tM hMlt hMw hsetk htag zd hwR z4;refine qoi ?_ hRr boxq pq kq tabq relsq hRq hle0 hnew0 hC4 hC5 hup hSM hNM;clear hRr boxq pq kq tabq relsq hRq hle0 hnew0 hC4 hC5 hup hSM hNM;intro XhRr Xboxq Xpq Xkq Xtabq Xrelsq XhRq Xhle0 Xhnew0 XhC4 XhC5 Xhup XhSM XhNM;gi_wp2;refine qab ?_;refine wpIn_wide.2 ?_;refine qc7 rfl (fun W=>W.cell? ⟨S,4,none⟩=some (.map (some M))/\W.cell? ⟨KB,0,none⟩=some (.string pr)/\W.cell? ⟨KB,1,none⟩=some (.int .i64 (tup.length:Int))) [] ?_;refine qam [0,1,2,3,4,5,6] ?_
  iterate 7
   refine tkN (v:=?_) rfl XhC4.o ?_ ?_;rotate_left
   ·rintro Wq ⟨x0,x1,x2⟩;go_simp
    try with_reducible rfl
   try simp only [qan]
  refine qu ?_;refine Ink.ho 7 rfl fun K XhK1=>?_;have hup:=Xhup.o;go_wp2_with fail;clear hup;refine XhK1.o _ _ (fun _=>XhC5.o) ?_;refine qee (by kernel_rfl) (qm ?_);clear XhK1;have boxq:=Xboxq.o;have pq:=Xpq.o;have kq:=Xkq.o;have tabq:=Xtabq.o;have relsq:=Xrelsq.o;have hRq:=XhRq.o;have hle0:=Xhle0.o;have hnew0:=Xhnew0.o;clear Xboxq Xpq Xkq Xtabq Xrelsq XhRq Xhle0 Xhnew0 XhC4 XhC5 Xhup XhSM XhNM;obtain⟨vD0,hvD0⟩: ∃v,(Value.slice none 0 0)=v:=⟨_,rfl⟩;obtain⟨lm0,hlm0⟩: ∃l,([]:List (List Bool×Nat))=l:=⟨_,rfl⟩;rw [hvD0,hlm0]at hRq;clear hvD0 hlm0;gi_wp2;have hqS:=boxq;have y3:=qb ((Keep.drew (fun _=>True) Wq).heap boxq trivial) 3 _ rfl;have y1:=qb ((Keep.drew (fun _=>True) Wq).heap pq trivial) 1 _ rfl;simp only [Nat.zero_add]at y3 y1;have hSq:=qe boxq;have hNq:=qe pq;have zq:=kq.size;have hxl:=XhP.o.xl;have dNT:N≠T:=by have:=qe XhP.o.tab;omega
  have dNX:N≠MX:=by have:=XhP.o.nums.lt;omega
  have dST:S≠T:=fun e=>by have:=XhP.o.tagT;rw [←e,XhP.o.tagS] at this;cases this
  have dSX:S≠MX:=fun e=>by have:=XhP.o.tagN;rw [←e,XhP.o.tagS] at this;cases this
  have dvS:vx.ownBlock≠some S:=fun e=>by have:=XhP.o.tagx S e;rw [XhP.o.tagS] at this;cases this
  have dvN:vx.ownBlock≠some N:=fun e=>by have:=Xhg.o.lt _ _ (XhP.o.tagx N e);omega
  have hvq:qae m Wq.drew (.slice a tup.length cp) tup:=⟨a,cp,rfl,hlt,hct,fun k x hx=>by
   obtain⟨b,o,hab,hb,hs⟩:=Xhet.o k x hx;have ht:=Xhfree.o ⟨b,o,none⟩ tup.length cp (by rw [hab]);refine⟨b,o,hab,hb,?_⟩;exact kq.cell hs ⟨fun e=>(by subst e;rw [XhP.o.tagS] at ht;cases ht),fun e=>(by subst e;rw [XhP.o.tagM] at ht;cases ht)⟩⟩
  have hput:=qmi (tabq.keep (Keep.drew (fun _=>True) Wq) trivial trivial (fun _ _=>trivial)) m _ tup hvq (by simp;omega) Xhsm.o (by have:=XhP.o.xfew;omega) (fun a' n' c' h=>by
   have ht:=Xhfree.o a' n' c' h;refine⟨fun e=>?_,fun e=>?_,fun e=>?_⟩
   ·rw [e,XhP.o.tagT]at ht;cases ht
   ·rw [e,XhP.o.tagN]at ht;cases ht
   ·rw [XhP.o.tagx _ e]at ht;cases ht)
  have hS0:=And.intro y3 y1;clear y3 y1 hvq;refine qc5 ?_ hS0 hput boxq pq kq tabq relsq hRq hle0 hnew0 dNT dNX dST dSX dvS dvN;clear hS0 hput boxq pq kq tabq relsq hRq hle0 hnew0 dNT dNX dST dSX dvS dvN;intro XhS0 Xhput Xboxq Xpq Xkq Xtabq Xrelsq XhRq Xhle0 Xhnew0 XdNT XdNX XdST XdSX XdvS XdvN;refine hd1 ?_ hqS;clear hqS;intro XhqS;refine qab ?_;refine wpIn_wide.2 ?_;refine qc7 rfl (fun W=>W.cell? ⟨S,3,none⟩=some (qj T)/\W.cell? ⟨N,1,none⟩=some (.slice a tup.length cp)) [] ?_;refine qam [0,1,2,3,4,5,6] ?_
  iterate 7
   refine tkN (v:=?_) rfl XhS0.o ?_ ?_;rotate_left
   ·rintro Wq ⟨x0,x1⟩;go_simp
    try with_reducible rfl
   try simp only [qan]
  refine qu ?_;refine Ink.ho 7 rfl fun K XhK1=>?_;go_wp2_with fail;refine Xhput.o.mono ?_;rintro e W5 ⟨vo,vx5,rfl,tab5,own5,k5,hvx5,hvo5⟩;have hS5:W5.cell? ⟨S,3,none⟩=some (qj T)/\W5.cell? ⟨N,1,none⟩=some (.slice a tup.length cp):=⟨k5.cell XhS0.o.1 ⟨XdST.o,XdSX.o,XdvS.o⟩,k5.cell XhS0.o.2 ⟨XdNT.o,XdNX.o,XdvN.o⟩⟩
  replace k5:Keep (fun b=>b≠T/\b≠MX/\vx.ownBlock≠some b) Wq W5:=kDr.trans k5
  have hvx5': ∀b,vx5.ownBlock=some b->vx.ownBlock=some b∨Wq.heap.size<=b:=fun b hb=>(hvx5 b hb).imp id (fun h=>by simpa using h);have z5:=k5.size;have hvob: ∀b,vo.ownBlock=some b->Wq.heap.size<=b:=fun b hb=>by have:=(World.ownsRow.lt own5 b hb).1;simpa using this
  clear hvx5;refine hd7 ?_ hS5 tab5 own5 k5 hvx5' hvo5 hvob;clear hS5 tab5 own5 k5 hvx5' hvo5 hvob;intro XhS5 Xtab5 Xown5 Xk5 Xhvx5' Xhvo5 Xhvob;go_wp2_with fail;refine XhK1.o _ _ (fun _=>XhS5.o) ?_;refine qam [8,9,10,11,12] ?_
  iterate 5
   refine tkN (v:=?_) rfl XhS5.o ?_ ?_;rotate_left
   ·rintro Wq ⟨x0,x1⟩;go_simp
    try with_reducible rfl
   try simp only [qan]
  refine qu ?_;refine qee (by kernel_rfl) (qm ?_);clear XhK1;have hns:=qkl (ts:=tup) (l:=qo c pr tup.length) (xs:=xs) (fun u s hu hs=>XhP.o.texts _ s (qay.1 hu).1 hs);have hro: ∀b U,g.tag b=some (S,U)->(∀V,U≠.rel R V)->rt0 b=none:=fun b U hb hU=>by
   cases e:rt0 b with
   |none=>rfl
   |some U'=>
    exfalso;rcases Xhnew0.o b U' e with ⟨U2,h1⟩ |h1
    ·have:=qaa.1 h1;rw [hb] at this;cases this;exact hU U2 rfl
    ·have:=Xhg.o.lt b _ hb;omega
  have hR5:qb6 rt0 W5 R tup.length ((qo c pr tup.length).map (qr (tup.foldl qq xs))) vD0 P0 K0 lm0:=by
   rw [hns];refine XhRq.o.keep Xk5.o (fun b U hb _=>⟨fun e=>?_,fun e=>?_,fun e=>?_⟩)
   ·subst e;rw [hro b _ XhP.o.tagT (fun V h=>by cases h)] at hb;cases hb
   ·subst e;rw [hro b _ XhP.o.tagN (fun V h=>by cases h)] at hb;cases hb
   ·rw [hro b _ (XhP.o.tagx b e) (fun V h=>by cases h)]at hb;cases hb
  have hox:=Xown5.o;rw [←qdf (tup.foldl qq xs) tup]at hox;have hadd:=qp5 hR5 (by rw [length_map];have:=qjo c pr tup.length;omega) W5.heap.size vo (qr (tup.foldl qq xs) tup) (qd8 hox (by rw [qdf];omega)) (Nat.le_refl _) (qnv (fun s hs=>qc9.2 (.inr hs)) (by have:=(qe9 tup xs).2;have:=XhP.o.xfew;omega)) (fun a' n' c' h=>by
   cases e:rt0 a'.block with
   |none=>rfl
   |some U=>
    exfalso;have h1:=XhRq.o.lt a'.block U e;have h2:=Xhvob.o a'.block (by
     rcases hox.2 with ⟨e1,_⟩ |⟨g',cap,cur,e1,_⟩
     ·rw [e1]at h;cases h
     ·rw [e1]at h;injection h with h1 _ _
      injection h1 with h1
      rw [e1,←h1];simp [Value.ownBlock])
    omega)
  have hans:=qq4 (c:=c) (pr:=pr) (tup:=tup) (xs:=tup.foldl qq xs) (fun u s hu hs=>qc9.2 (.inl (XhP.o.texts _ s (qay.1 hu).1 hs))) (fun s hs=>qc9.2 (.inr hs));rw [hans.1,hans.2]at hadd;obtain⟨i6,hi6⟩: ∃i,(qhh tup.length ((qo c pr tup.length).map (qr (tup.foldl qq xs))) (qr (tup.foldl qq xs) tup)).1=i:=⟨_,rfl⟩;rw [hi6]at hadd;clear hi6;obtain⟨av,cv,rfl⟩:=qi Xown5.o;clear hox hR5 hro hans;refine Ink.hd2 ?_ hadd hns;clear hadd hns;intro Xhadd Xhns;gi_wp2;refine⟨trivial,rfl,(callsIn_wide.2 Xhadd.o).mono ?_⟩;rintro e W6 ⟨rfl,k6,rt,vD6,hR6,hle6,hnew6⟩;obtain⟨box6,hin6,hout6⟩:=qxg (n0:=n0) Xhg.o hS XhP.o pr tup hfew hl16 XhRr.o Xkq.o XhqS.o Xrelsq.o XhRq.o Xhle0.o Xhnew0.o Xk5.o Xtab5.o Xhvx5'.o k6 hR6 hle6 hnew6;have u5:=qb box6 5 _ rfl;have fr5:=qf box6 5;have b60:=qb box6 0 _ rfl;have fr0:=qf box6 0;have hS6:=qe box6;have b7:=q8 5 (.int .i64 ((c.length:Int)+1)) box6;have b70:=qb b7 0 _ rfl;have fr7:=qf b7 0;simp only [Nat.zero_add]at u5 b60 b70;have hcl:(c.length:Int)+1<=67108864:=by omega
  clear k6 hR6 hle6 hnew6 box6 b7;by_cases hf:(⟨pr,tup⟩:ql)∈c
  ·have hfin:=hin6 hf;have hA:qcl okF c ⟨pr,tup⟩=c:=if_neg (fun h=>h.2 hf);have hd:decide (okF ⟨pr,tup⟩=true/\(⟨pr,tup⟩:ql)∉c)=false:=decide_eq_false (fun h=>h.2 hf);have hd2:decide ((⟨pr,tup⟩:ql)∉c)=false:=decide_eq_false (fun h=>h hf);rw [hd2];have hd3:decide ((⟨pr,tup⟩:ql)∈c)=true:=decide_eq_true hf;clear hf hin6 hout6 hd2 b70 fr7 hcl u5 fr5 zq z5 hxl;refine hd6 ?_ hfin hA hd hd3 b60 fr0;clear hfin hA hd hd3 b60 fr0;intro Xhfin XhA Xhd Xhd3 Xb60 Xfr0;gi_wp2;exact qej Xb60.o Xfr0.o (qbx (results_tmp2 rfl _ _ _) ⟨by rw [Xhd3.o];rfl,{g with st:=g.with S c,tag:=qbw g.tag S R rt vx5},Xhfin.o,by rw [XhA.o],rfl⟩)
  ·have hfin:=hout6 hf;have hA:qcl okF c ⟨pr,tup⟩=c++ [⟨pr,tup⟩]:=if_pos ⟨Xhokt.o,hf⟩;have hd:decide (okF ⟨pr,tup⟩=true/\(⟨pr,tup⟩:ql)∉c)=true:=decide_eq_true ⟨Xhokt.o,hf⟩;have hd2:decide ((⟨pr,tup⟩:ql)∉c)=true:=decide_eq_true hf;rw [hd2];have hd3:decide ((⟨pr,tup⟩:ql)∈c)=false:=decide_eq_false hf;clear hf hin6 hout6 hd2 zq z5 hxl b60 fr0;clear hcl;refine hd6 ?_ hfin hA hd hd3 b70 fr7;clear hfin hA hd hd3 b70 fr7;intro Xhfin XhA Xhd Xhd3 Xb70 Xfr7;gi_wp2;exact qej Xb70.o Xfr7.o (qbx (results_tmp2 rfl _ _ _) ⟨by rw [Xhd3.o];rfl,{g with st:=g.with S (c++ [⟨pr,tup⟩]),tag:=qbw g.tag S R rt vx5},Xhfin.o,by rw [XhA.o],rfl⟩)
 |some R=>
  simp only [hl,Bool.false_eq_true,if_false]at hlk;obtain⟨vD0,P0,K0,lm0,hR⟩:=XhP.o.rel _ _ (qfd hl);simp only at hR;refine qab ?_;refine wpIn_wide.2 ?_
  go_quiet (fail)
  refine qm ?_;gi_wp2;obtain⟨Wq,hWq⟩:=ex (W3.drewN nq);obtain⟨rt0,hrt0⟩:=ex (qa1 g.tag S R);have k3q:Keep (fun _=>True) W2 Wq:=by rw [←hWq];exact Xk3.o.trans (Keep.drewN' _ _ _)
  have kq:Keep (fun b=>b≠S/\b≠M) w Wq:=((XkA.o.mono fun _ _ _=>trivial).trans (Xk2.o.mono fun b _ h=>h.1)).trans (k3q.mono fun _ _ _=>trivial);have boxq:Wq.heap[S]?=some (.cells (qg1 T M c.length).toArray 120 (0,0)):=by have:=k3q.heap Xbox2.o trivial;simpa [qg1,qex] using this
  have pq:=k3q.heap Xp2.o trivial;have hRr:((pr,tup.length),R)∈rl∨(w.heap.size<=R/\ ∀R',((pr,tup.length),R')∉rl):=.inl (qfd hl);have relsq:qh7 Wq M (qdq rl (pr,tup.length) R):=by
   unfold qdq;rw [if_pos (qfd hl),←hWq];exact Xhrel3.o.keep (Keep.drewN' (fun _=>True) _ _) trivial
  have tS: ∀b U,g.tag b=some U->U≠(S,.box)->b≠S:=fun b U hb hU e=>by rw [e,XhP.o.tagS] at hb;exact hU (Option.some.inj hb).symm
  have tabq:TabAt Wq T MX vx xs:=(XhP1.o.table.keep Xk2.o (tS _ _ XhP.o.tagT (fun e=>by cases e)) (tS _ _ XhP.o.tagN (fun e=>by cases e)) (fun b hb=>tS _ _ (XhP.o.tagx b hb) (fun e=>by cases e))).keep k3q trivial trivial (fun _ _=>trivial);have hRq:qb6 rt0 Wq R tup.length ((qo c pr tup.length).map (qr xs)) vD0 P0 K0 lm0:=by
   rw [←hrt0];exact((hR.keep XkA.o (fun _ _ _ _=>trivial)).keep Xk2.o (fun b U hb _=>tS _ _ (qaa.1 hb) (fun e=>by cases e))).keep k3q (fun _ _ _ _=>trivial)
  have hle0:TagLe (qa1 g.tag S R) rt0:=by rw [hrt0];exact TagLe.refl _
  have hnew0:TagNew (qa1 g.tag S R) rt0 w:=by rw [hrt0];exact TagNew.refl _ _
  rw [hWq];clear hl hlk hR hrt0 hWq k3q tS e1 e2 e3 d0 d1;refine hd1 ?_ hRr;clear hRr;intro XhRr;have hqS:=boxq;have y3:=qb ((Keep.drew (fun _=>True) Wq).heap boxq trivial) 3 _ rfl;have y1:=qb ((Keep.drew (fun _=>True) Wq).heap pq trivial) 1 _ rfl;simp only [Nat.zero_add]at y3 y1;have hSq:=qe boxq;have hNq:=qe pq;have zq:=kq.size;have hxl:=XhP.o.xl;have dNT:N≠T:=by have:=qe XhP.o.tab;omega
  have dNX:N≠MX:=by have:=XhP.o.nums.lt;omega
  have dST:S≠T:=fun e=>by have:=XhP.o.tagT;rw [←e,XhP.o.tagS] at this;cases this
  have dSX:S≠MX:=fun e=>by have:=XhP.o.tagN;rw [←e,XhP.o.tagS] at this;cases this
  have dvS:vx.ownBlock≠some S:=fun e=>by have:=XhP.o.tagx S e;rw [XhP.o.tagS] at this;cases this
  have dvN:vx.ownBlock≠some N:=fun e=>by have:=Xhg.o.lt _ _ (XhP.o.tagx N e);omega
  have hvq:qae m Wq.drew (.slice a tup.length cp) tup:=⟨a,cp,rfl,hlt,hct,fun k x hx=>by
   obtain⟨b,o,hab,hb,hs⟩:=Xhet.o k x hx;have ht:=Xhfree.o ⟨b,o,none⟩ tup.length cp (by rw [hab]);refine⟨b,o,hab,hb,?_⟩;exact kq.cell hs ⟨fun e=>(by subst e;rw [XhP.o.tagS] at ht;cases ht),fun e=>(by subst e;rw [XhP.o.tagM] at ht;cases ht)⟩⟩
  have hput:=qmi (tabq.keep (Keep.drew (fun _=>True) Wq) trivial trivial (fun _ _=>trivial)) m _ tup hvq (by simp;omega) Xhsm.o (by have:=XhP.o.xfew;omega) (fun a' n' c' h=>by
   have ht:=Xhfree.o a' n' c' h;refine⟨fun e=>?_,fun e=>?_,fun e=>?_⟩
   ·rw [e,XhP.o.tagT]at ht;cases ht
   ·rw [e,XhP.o.tagN]at ht;cases ht
   ·rw [XhP.o.tagx _ e]at ht;cases ht)
  have hS0:=And.intro y3 y1;clear y3 y1 hvq;refine qc5 ?_ hS0 hput boxq pq kq tabq relsq hRq hle0 hnew0 dNT dNX dST dSX dvS dvN;clear hS0 hput boxq pq kq tabq relsq hRq hle0 hnew0 dNT dNX dST dSX dvS dvN;intro XhS0 Xhput Xboxq Xpq Xkq Xtabq Xrelsq XhRq Xhle0 Xhnew0 XdNT XdNX XdST XdSX XdvS XdvN;refine hd1 ?_ hqS;clear hqS;intro XhqS;refine qab ?_;refine wpIn_wide.2 ?_;refine qc7 rfl (fun W=>W.cell? ⟨S,3,none⟩=some (qj T)/\W.cell? ⟨N,1,none⟩=some (.slice a tup.length cp)) [] ?_;refine qam [0,1,2,3,4,5,6] ?_
  iterate 7
   refine tkN (v:=?_) rfl XhS0.o ?_ ?_;rotate_left
   ·rintro Wq ⟨x0,x1⟩;go_simp
    try with_reducible rfl
   try simp only [qan]
  refine qu ?_;refine Ink.ho 7 rfl fun K XhK1=>?_;go_wp2_with fail;refine Xhput.o.mono ?_;rintro e W5 ⟨vo,vx5,rfl,tab5,own5,k5,hvx5,hvo5⟩;have hS5:W5.cell? ⟨S,3,none⟩=some (qj T)/\W5.cell? ⟨N,1,none⟩=some (.slice a tup.length cp):=⟨k5.cell XhS0.o.1 ⟨XdST.o,XdSX.o,XdvS.o⟩,k5.cell XhS0.o.2 ⟨XdNT.o,XdNX.o,XdvN.o⟩⟩
  replace k5:Keep (fun b=>b≠T/\b≠MX/\vx.ownBlock≠some b) Wq W5:=kDr.trans k5
  have hvx5': ∀b,vx5.ownBlock=some b->vx.ownBlock=some b∨Wq.heap.size<=b:=fun b hb=>(hvx5 b hb).imp id (fun h=>by simpa using h);have z5:=k5.size;have hvob: ∀b,vo.ownBlock=some b->Wq.heap.size<=b:=fun b hb=>by have:=(World.ownsRow.lt own5 b hb).1;simpa using this
  clear hvx5;refine hd7 ?_ hS5 tab5 own5 k5 hvx5' hvo5 hvob;clear hS5 tab5 own5 k5 hvx5' hvo5 hvob;intro XhS5 Xtab5 Xown5 Xk5 Xhvx5' Xhvo5 Xhvob;go_wp2_with fail;refine XhK1.o _ _ (fun _=>XhS5.o) ?_;refine qam [8,9,10,11,12] ?_
  iterate 5
   refine tkN (v:=?_) rfl XhS5.o ?_ ?_;rotate_left
   ·rintro Wq ⟨x0,x1⟩;go_simp
    try with_reducible rfl
   try simp only [qan]
  refine qu ?_;refine qee (by kernel_rfl) (qm ?_);clear XhK1;have hns:=qkl (ts:=tup) (l:=qo c pr tup.length) (xs:=xs) (fun u s hu hs=>XhP.o.texts _ s (qay.1 hu).1 hs);have hro: ∀b U,g.tag b=some (S,U)->(∀V,U≠.rel R V)->rt0 b=none:=fun b U hb hU=>by
   cases e:rt0 b with
   |none=>rfl
   |some U'=>
    exfalso;rcases Xhnew0.o b U' e with ⟨U2,h1⟩ |h1
    ·have:=qaa.1 h1;rw [hb] at this;cases this;exact hU U2 rfl
    ·have:=Xhg.o.lt b _ hb;omega
  have hR5:qb6 rt0 W5 R tup.length ((qo c pr tup.length).map (qr (tup.foldl qq xs))) vD0 P0 K0 lm0:=by
   rw [hns];refine XhRq.o.keep Xk5.o (fun b U hb _=>⟨fun e=>?_,fun e=>?_,fun e=>?_⟩)
   ·subst e;rw [hro b _ XhP.o.tagT (fun V h=>by cases h)] at hb;cases hb
   ·subst e;rw [hro b _ XhP.o.tagN (fun V h=>by cases h)] at hb;cases hb
   ·rw [hro b _ (XhP.o.tagx b e) (fun V h=>by cases h)]at hb;cases hb
  have hox:=Xown5.o;rw [←qdf (tup.foldl qq xs) tup]at hox;have hadd:=qp5 hR5 (by rw [length_map];have:=qjo c pr tup.length;omega) W5.heap.size vo (qr (tup.foldl qq xs) tup) (qd8 hox (by rw [qdf];omega)) (Nat.le_refl _) (qnv (fun s hs=>qc9.2 (.inr hs)) (by have:=(qe9 tup xs).2;have:=XhP.o.xfew;omega)) (fun a' n' c' h=>by
   cases e:rt0 a'.block with
   |none=>rfl
   |some U=>
    exfalso;have h1:=XhRq.o.lt a'.block U e;have h2:=Xhvob.o a'.block (by
     rcases hox.2 with ⟨e1,_⟩ |⟨g',cap,cur,e1,_⟩
     ·rw [e1]at h;cases h
     ·rw [e1]at h;injection h with h1 _ _
      injection h1 with h1
      rw [e1,←h1];simp [Value.ownBlock])
    omega)
  have hans:=qq4 (c:=c) (pr:=pr) (tup:=tup) (xs:=tup.foldl qq xs) (fun u s hu hs=>qc9.2 (.inl (XhP.o.texts _ s (qay.1 hu).1 hs))) (fun s hs=>qc9.2 (.inr hs));rw [hans.1,hans.2]at hadd;obtain⟨i6,hi6⟩: ∃i,(qhh tup.length ((qo c pr tup.length).map (qr (tup.foldl qq xs))) (qr (tup.foldl qq xs) tup)).1=i:=⟨_,rfl⟩;rw [hi6]at hadd;clear hi6;obtain⟨av,cv,rfl⟩:=qi Xown5.o;clear hox hR5 hro hans;refine Ink.hd2 ?_ hadd hns;clear hadd hns;intro Xhadd Xhns;gi_wp2;refine⟨trivial,rfl,(callsIn_wide.2 Xhadd.o).mono ?_⟩;rintro e W6 ⟨rfl,k6,rt,vD6,hR6,hle6,hnew6⟩;obtain⟨box6,hin6,hout6⟩:=qxg (n0:=n0) Xhg.o hS XhP.o pr tup hfew hl16 XhRr.o Xkq.o XhqS.o Xrelsq.o XhRq.o Xhle0.o Xhnew0.o Xk5.o Xtab5.o Xhvx5'.o k6 hR6 hle6 hnew6;have u5:=qb box6 5 _ rfl;have fr5:=qf box6 5;have b60:=qb box6 0 _ rfl;have fr0:=qf box6 0;have hS6:=qe box6;have b7:=q8 5 (.int .i64 ((c.length:Int)+1)) box6;have b70:=qb b7 0 _ rfl;have fr7:=qf b7 0;simp only [Nat.zero_add]at u5 b60 b70;have hcl:(c.length:Int)+1<=67108864:=by omega
  clear k6 hR6 hle6 hnew6 box6 b7;by_cases hf:(⟨pr,tup⟩:ql)∈c
  ·have hfin:=hin6 hf;have hA:qcl okF c ⟨pr,tup⟩=c:=if_neg (fun h=>h.2 hf);have hd:decide (okF ⟨pr,tup⟩=true/\(⟨pr,tup⟩:ql)∉c)=false:=decide_eq_false (fun h=>h.2 hf);have hd2:decide ((⟨pr,tup⟩:ql)∉c)=false:=decide_eq_false (fun h=>h hf);rw [hd2];have hd3:decide ((⟨pr,tup⟩:ql)∈c)=true:=decide_eq_true hf;clear hf hin6 hout6 hd2 b70 fr7 hcl u5 fr5 zq z5 hxl;refine hd6 ?_ hfin hA hd hd3 b60 fr0;clear hfin hA hd hd3 b60 fr0;intro Xhfin XhA Xhd Xhd3 Xb60 Xfr0;gi_wp2;exact qej Xb60.o Xfr0.o (qbx (results_tmp2 rfl _ _ _) ⟨by rw [Xhd3.o];rfl,{g with st:=g.with S c,tag:=qbw g.tag S R rt vx5},Xhfin.o,by rw [XhA.o],rfl⟩)
  ·have hfin:=hout6 hf;have hA:qcl okF c ⟨pr,tup⟩=c++ [⟨pr,tup⟩]:=if_pos ⟨Xhokt.o,hf⟩;have hd:decide (okF ⟨pr,tup⟩=true/\(⟨pr,tup⟩:ql)∉c)=true:=decide_eq_true ⟨Xhokt.o,hf⟩;have hd2:decide ((⟨pr,tup⟩:ql)∉c)=true:=decide_eq_true hf;rw [hd2];have hd3:decide ((⟨pr,tup⟩:ql)∈c)=false:=decide_eq_false hf;clear hf hin6 hout6 hd2 zq z5 hxl b60 fr0;clear hcl;refine hd6 ?_ hfin hA hd hd3 b70 fr7;clear hfin hA hd hd3 b70 fr7;intro Xhfin XhA Xhd Xhd3 Xb70 Xfr7;gi_wp2;exact qej Xb70.o Xfr7.o (qbx (results_tmp2 rfl _ _ _) ⟨by rw [Xhd3.o];rfl,{g with st:=g.with S (c++ [⟨pr,tup⟩]),tag:=qbw g.tag S R rt vx5},Xhfin.o,by rw [XhA.o],rfl⟩)
end Go.Proofs

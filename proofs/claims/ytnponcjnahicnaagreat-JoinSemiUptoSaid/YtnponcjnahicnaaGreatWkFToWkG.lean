/- Parts of the proof. -/
import Derived.Test.YtnponcjnahicnaaGreatProg
import Derived.Test.YtnponcjnahicnaaGreatWkDToWkH
import Derived.WalkMore
import Derived.Test.YtnponcjnahicnaaGreatHdToKp
import Derived.Test.YtnponcjnahicnaaGreatHoistToRowC
set_option linter.unusedSimpArgs false
set_option linter.unusedVariables false
open Go.Proofs.Tryz(prog)
open List(drop_eq_getElem_cons getD_eq_getElem?_getD getElem?_eq_getElem length_map map_congr_left map_cons map_map map_nil mem_map)
namespace Go.Proofs
open Go.RowKit Go.Ink R4
attribute [local go_sem] Oper.semAt_some
set_option maxRecDepth 100000 in
set_option maxHeartbeats 4000000 in
theorem qzm {n0 n1:Nat}{W0:World}{c:WkC}{LJ:qa7}{U:Nat->Prop}{nU:Nat}{Vw:World->Prop}{all:List Asg}{Jp Jx:Nat->Gh->World->Prop}(hE:qdv n0 n1 W0 c LJ U nU Vw all Jp Jx){i:Nat}(hi:i<c.steps.length)(hkind: ∀q,c.steps[i]?=some q->(c.r.body.getD q default).kind=3)(ih:qgt n1 c LJ U Vw all Jp Jx (i+1)):qgt n1 c LJ U Vw all Jp Jx i:=by
 intro k0 g W a vals kn hA;obtain⟨q,hq⟩: ∃q,c.steps[i]?=some q:=⟨_,getElem?_eq_getElem hi⟩;have hB:=hA.held;have hg:=hA.inv;have hnU:=(hE.hV W hA.v).2;obtain⟨L,k,sb,sc,ab,oa,cb,tb,ot,ct,vsa,vsc,hL,hk,hLm,hbl,hll,hpre⟩:=qnl hE hB hq;obtain⟨sp,hsp⟩:=ex ((k.store.map fun S=>(⟨S,0,none⟩:Addr)));rw [hsp]at hpre;have hkq:q<c.r.body.length:=(List.getElem?_eq_some_iff.1 hL).1;have hLd:c.r.body.getD q default=L:=by rw [getD_eq_getElem?_getD,hL];rfl
 have hkd:=hkind q hq;rw [hLd]at hkd;obtain⟨kd,hkd0⟩:=ex (L.kind);rw [hkd0]at hkd hpre;subst hkd;have hsW:SameW c U g W0 W:=SameW.of hg (fun _ _ h _=>h) (hE.hV W hA.v).1;have hsm: ∀X,Keep (fun _=>True) W X->SameW c U g W0 X:=fun X hX=>hsW.keep hX (fun _ _ _ _=>trivial) (fun _ _=>trivial) (fun b hb=>by have:=hE.hU b hb;omega);have hkeep: ∀X,Keep (fun _=>True) W X->qge c vals kn i q L k sb sc ab oa cb tb ot ct vsa vsc nU sp 3 X:=fun X hX=>hpre X (hsm X hX);have hdrop:c.steps.drop i=q::c.steps.drop (i+1):=by rw [drop_eq_getElem_cons hi,(List.getElem?_eq_some_iff.1 hq).2]
 have hP0:=hkeep W (Keep.refl _ _);have b1:=hP0.1;have lb1:=World.block_lt_of_cell? _ _ b1;simp only at lb1;have hne: ¬((i:Int)=(c.steps.length:Int)):=by omega
 have hi0:(0:Int)<=i:=by omega
 have hi1:(i:Int)<c.steps.length:=by omega
 have hi2:i<1073741824:=by have:=hE.sfew;omega
 have hq0:(0:Int)<=q:=by omega
 have hq1:(q:Int)<c.looks.length:=by rw [hE.looks];omega
 have hq2:(q:Int)<c.r.body.length:=by omega
 have hcast:((i+1:Nat):Int)=(i:Int)+1:=by omega
 clear hsW hP0;have hLt:qv L= [L.left,L.right]:=by unfold qv;rw [if_pos hkd0]
 have hl2:(qv L).length=2:=by rw [hLt];rfl
 have hl2i:((qv L).length:Int)=2:=by omega
 obtain⟨p1,z1,p2,z2,hs1,hs2⟩: ∃p1 z1 p2 z2,qaw c.vars L.left=⟨p1,z1⟩/\qaw c.vars L.right=⟨p2,z2⟩:=⟨_,_,_,_,rfl,rfl⟩;have hsl: ∃zb zo,vsa=some ⟨zb,zo,none⟩/\ ∀X,qge c vals kn i q L k sb sc ab oa cb tb ot ct vsa vsc nU sp 3 X->X.cell? ⟨zb,zo,none⟩=some (.int .i64 p1)/\X.cell? ⟨zb,zo+1,none⟩=some (.string z1)/\X.cell? ⟨zb,zo+2,none⟩=some (.int .i64 p2)/\X.cell? ⟨zb,zo+3,none⟩=some (.string z2):=by
  have hls:qco c.vars L= [⟨p1,z1⟩,⟨p2,z2⟩]:=by unfold qco;rw [hLt,map_cons,map_cons,map_nil,hs1,hs2]
  obtain⟨x1,x2,x3,x4,x5,x6,x7,x8,x9,x10,x11,x12,x13,x14,x15,x16,x17,x18,va',vc',hv',-,-,he'⟩:=hkeep W (Keep.refl _ _);injection hv' with hv1 _ _
  rw [hls]at he';obtain⟨b',o',hb',-,hc1⟩:=he' 0 _ rfl;obtain⟨b2,o2,hb2,-,hc2⟩:=he' 1 _ rfl;rw [←hv1]at hb' hb2;rw [hb']at hb2;cases hb2;refine⟨b',o',hb',fun X hX=>?_⟩;obtain⟨x1,x2,x3,x4,x5,x6,x7,x8,x9,x10,x11,x12,x13,x14,x15,x16,x17,x18,va2,vc2,hv2,-,-,he2⟩:=hX;injection hv2 with hv2 _ _
  rw [hls]at he2;obtain⟨b3,o3,hb3,-,q1,q2⟩:=he2 0 _ rfl;obtain⟨b4,o4,hb4,-,q3,q4⟩:=he2 1 _ rfl;rw [←hv2,hb']at hb3 hb4;cases hb3;cases hb4;simp only [Nat.zero_mul,Nat.add_zero,Nat.one_mul,Nat.add_assoc]at q1 q2 q3 q4;exact⟨q1,q2,q3,q4⟩
 obtain⟨zb,zo,hvsa,hsl⟩:=hsl;subst hvsa;obtain⟨y1,hy1⟩: ∃y,qy a L.left=some y:=by
  have:=hA.way;rw [hdrop]at this;have:=this.1;rw [hLd]at this;have:=this hkd0 L.left (.inl rfl);unfold qy;by_cases hv:L.left.var=true
  ·rw [if_pos hv];exact this hv
  ·rw [if_neg hv];exact⟨_,rfl⟩
 obtain⟨y2,hy2⟩: ∃y,qy a L.right=some y:=by
  have:=hA.way;rw [hdrop]at this;have:=this.1;rw [hLd]at this;have:=this hkd0 L.right (.inr rfl);unfold qy;by_cases hv:L.right.var=true
  ·rw [if_pos hv];exact this hv
  ·rw [if_neg hv];exact⟨_,rfl⟩
 have hcall: ∀X,Keep (fun _=>True) W X->(Calls prog 86 #[.agg #[.int .i64 p1,.string z1],qj c.Bv] X fun e w'=>e=.returned (.string y1)/\Keep (fun _=>True) X w')/\(Calls prog 86 #[.agg #[.int .i64 p2,.string z2],qj c.Bv] X fun e w'=>e=.returned (.string y2)/\Keep (fun _=>True) X w'):=fun X hX=>by
  have hv:=(hB.vals hg).keep hX trivial trivial;have q1:=qg2 hE hA.asg (t:=L.left) (hE.vin L _ hLm (by rw [hLt];simp)) hy1 hv;have q2:=qg2 hE hA.asg (t:=L.right) (hE.vin L _ hLm (by rw [hLt];simp)) hy2 hv;rw [hs1]at q1;rw [hs2]at q2;exact⟨q1,q2⟩
 have hpn:qw c.r.body [q]= []:=by rw [qc3,hLd,if_pos (.inl hkd0)]
 have hrun:qbh LJ c.r.body (q::c.steps.drop (i+1)) a=if y1=y2 then [] else qbh LJ c.r.body (c.steps.drop (i+1)) a:=by
  rw [show qbh LJ c.r.body (q::c.steps.drop (i+1)) a=if (c.r.body.getD q default).kind=3 then (if qy a (c.r.body.getD q default).left=qy a (c.r.body.getD q default).right then []else qbh LJ c.r.body (c.steps.drop (i+1)) a) else _ from rfl,hLd,if_pos hkd0,hy1,hy2];by_cases h:y1=y2
  ·rw [if_pos h,if_pos (by rw [h])]
  ·rw [if_neg h,if_neg (fun e=>h (Option.some.inj e))]
 clear hs1 hs2 hLt;unfold WkC.bound;refine qc5 ?_ hsp hA hB hg hE hpre hsm hkeep hcast hL hk hLm hLd hq hdrop hcall;clear hsp hA hB hg hE hpre hsm hkeep hcast hL hk hLm hLd hq hdrop hcall;intro Xhsp XhA XhB Xhg XhE Xhpre Xhsm Xhkeep Xhcast XhL Xhk XhLm XhLd Xhq Xhdrop Xhcall;refine hd6 ?_ hsl hrun hpn hy1 hy2 hl2;clear hsl hrun hpn hy1 hy2 hl2;intro Xhsl Xhrun Xhpn Xhy1 Xhy2 Xhl2;refine qbp Tryz.func88 rfl ?_;simp only [Tryz.ntmps88,qdz,Nat.reduceAdd,Nat.reduceSub];gi_wp2;refine wpIn_wide.2 ?_;refine wp_scope_straight ?_;refine(wpIn_wide (n:=0)).1 ?_;gi_wp2;have hP1:=Xhkeep.o W.drew kDr;clear b1 lb1;refine hd1 ?_ hP1;clear hP1;intro XhP1;refine qab ?_;refine qx rfl (fun X=>qge c vals kn i q L k sb sc ab oa cb tb ot ct (some ⟨zb,zo,none⟩) vsc nU sp 3 X) [] ?_;refine qam [0,1,2,3,4,5,6,7,8,9,10,11,12,13,14,15,16] ?_
 iterate 17
  refine tkR (v:=?_) rfl XhP1.o ?_ ?_;rotate_left
  ·rintro Wq ⟨x1,x2,x3,x4,x5,x6,x7,x8,x9,x10,x11,x12,x13,x14,x15,x16,x17,x18,x19⟩;go_simp
   try with_reducible rfl
  try simp only [qan]
 refine qu ?_;refine hoR 17 rfl fun K XhK0=>?_;gi_wp2;refine XhK0.o _ _ (fun _=>Xhkeep.o _ (kDr.trans kAl)) ?_;refine hoR 18 rfl fun K XhK1=>?_;gi_wp2;obtain⟨Nb,hNb⟩:=ex (W.heap.size);obtain⟨W1,hW1⟩:=ex ((W.alloc (.cells #[.pointer sp,.string k.pred,.int .i64 (k.arity:Int),.int .i64 (k.upto:Int)] 161)).drew);have k1:Keep (fun _=>True) W W1:=by rw [←hW1];exact kAl.trans kDr
 have nb1:W1.heap[Nb]?=some (.cells #[.pointer sp,.string k.pred,.int .i64 (k.arity:Int),.int .i64 (k.upto:Int)] 161 (0,0)):=by rw [←hW1,←hNb];exact qh _ _
 have hP2:=Xhkeep.o W1 k1;have hP3:=Xhkeep.o W1.drew (k1.trans kDr);rw [hW1,hNb];refine hd6 ?_ k1 nb1 hP2 hP3 hW1 hNb;clear k1 nb1 hP2 hP3 hW1 hNb;intro Xk1 Xnb1 XhP2 XhP3 XhW1 XhNb;refine XhK1.o _ _ (fun _=>XhP2.o) ?_;refine qam [19] ?_
 iterate 1
  refine tkR (v:=?_) rfl XhP2.o ?_ ?_;rotate_left
  ·rintro Wq ⟨x1,x2,x3,x4,x5,x6,x7,x8,x9,x10,x11,x12,x13,x14,x15,x16,x17,x18,x19⟩;go_simp
   try with_reducible rfl
  try simp only [qan]
 refine qu ?_;refine qk (by kernel_rfl) (qm ?_);clear XhK0 XhK1;gi_wp2;refine qab ?_;refine qx rfl (fun X=>qge c vals kn i q L k sb sc ab oa cb tb ot ct (some ⟨zb,zo,none⟩) vsc nU sp 3 X) [] ?_;refine qam [0,1,2,3,4,5,6,7,8,9,10,11] ?_
 iterate 12
  refine tkR (v:=?_) rfl XhP3.o ?_ ?_;rotate_left
  ·rintro Wq ⟨x1,x2,x3,x4,x5,x6,x7,x8,x9,x10,x11,x12,x13,x14,x15,x16,x17,x18,x19⟩;go_simp
   try with_reducible rfl
  try simp only [qan]
 refine qu ?_;refine qk (by kernel_rfl) (qm ?_);have k1d:Keep (fun _=>True) W W1.drew:=Xk1.o.trans kDr;have nb1d:W1.drew.heap[Nb]?=some (.cells #[.pointer sp,.string k.pred,.int .i64 (k.arity:Int),.int .i64 (k.upto:Int)] 161 (0,0)):=Xnb1.o;obtain⟨W2,hW2⟩:=ex (W1.drew);rw [hW2]at k1d nb1d⊢;clear Xk1 Xnb1 XhP2 XhP3 XhP1 XhW1 hW2 XhNb;refine hd2 ?_ k1d nb1d;clear k1d nb1d;intro Xk1d Xnb1d;gi_wp2;have hS2: ∀X,SameW c U g W0 X->(qge c vals kn i q L k sb sc ab oa cb tb ot ct (some ⟨zb,zo,none⟩) vsc nU sp 3 X/\X.cell? ⟨zb,zo,none⟩=some (.int .i64 p1)/\X.cell? ⟨zb,zo+1,none⟩=some (.string z1)/\X.cell? ⟨zb,zo+2,none⟩=some (.int .i64 p2)/\X.cell? ⟨zb,zo+3,none⟩=some (.string z2)):=fun X hX=>⟨Xhpre.o X hX,Xhsl.o X (Xhpre.o X hX)⟩;have hT2:=hS2 W2.drew (Xhsm.o _ (Xk1d.o.trans kDr));refine hd2 ?_ hS2 hT2;clear hS2 hT2;intro XhS2 XhT2;refine qab ?_;refine qx rfl (fun X=>(qge c vals kn i q L k sb sc ab oa cb tb ot ct (some ⟨zb,zo,none⟩) vsc nU sp 3 X/\X.cell? ⟨zb,zo,none⟩=some (.int .i64 p1)/\X.cell? ⟨zb,zo+1,none⟩=some (.string z1)/\X.cell? ⟨zb,zo+2,none⟩=some (.int .i64 p2)/\X.cell? ⟨zb,zo+3,none⟩=some (.string z2))) [] ?_;refine qam [0,1,2,3,5,6,7,8] ?_
 iterate 8
  refine tkR (v:=?_) rfl XhT2.o ?_ ?_;rotate_left
  ·rintro Wq ⟨⟨x1,x2,x3,x4,x5,x6,x7,x8,x9,x10,x11,x12,x13,x14,x15,x16,x17,x18,x19⟩,s1,s2,s3,s4⟩;go_simp
   try with_reducible rfl
  try simp only [qan]
 refine qu ?_;refine hoR 4 rfl fun K XhK0=>?_;gi_wp2;refine⟨trivial,rfl,(callsIn_wide.2 (Xhcall.o _ (Xk1d.o.trans kDr)).1).mono ?_⟩;rintro e W3 ⟨rfl,k3⟩;have k23:Keep (fun _=>True) W2 W3:=kDr.trans k3;have hT3:=XhS2.o W3 (Xhsm.o _ (Xk1d.o.trans k23));clear k3;refine hd2 ?_ k23 hT3;clear k23 hT3;intro Xk23 XhT3;gi_wp2;refine XhK0.o _ _ (fun _=>XhT3.o) ?_;refine hoR 9 rfl fun K XhK1=>?_;gi_wp2;refine⟨trivial,rfl,(callsIn_wide.2 (Xhcall.o _ (Xk1d.o.trans Xk23.o)).2).mono ?_⟩;rintro e W4 ⟨rfl,k4⟩;have kW4:Keep (fun _=>True) W W4:=(Xk1d.o.trans Xk23.o).trans k4;have hT4:=XhS2.o W4 (Xhsm.o _ kW4);clear k4;refine hd2 ?_ hT4 kW4;clear hT4 kW4;intro XhT4 XkW4;gi_wp2;refine XhK1.o _ _ (fun _=>XhT4.o) ?_;by_cases hy:y1=y2
 ·have hst:=qhm hy;have hend:StepEnd c U Vw all Jp Jx k0 (qbh LJ c.r.body (c.steps.drop i) a).length g W a kn true W4:=by
   rw [Xhdrop.o,Xhrun.o,if_pos hy];exact StepEnd.none XhE.o XhA.o XkW4.o
  clear hy;refine hd1 ?_ hend;clear hend;intro Xhend;refine qam [10,11] ?_
  iterate 2
   refine tkR (v:=?_) rfl XhT4.o ?_ ?_;rotate_left
   ·rintro Wq ⟨⟨x1,x2,x3,x4,x5,x6,x7,x8,x9,x10,x11,x12,x13,x14,x15,x16,x17,x18,x19⟩,s1,s2,s3,s4⟩;go_simp
    try simp only [hst]
    try with_reducible rfl
   try simp only [qan]
  refine qu ?_;refine qam [12,13,14,15] ?_
  iterate 4
   refine tkS rfl XhT4.o ?_
   try simp only [qan]
  refine qu ?_;refine qam [16,17] ?_
  iterate 2
   refine tkR (v:=?_) rfl XhT4.o ?_ ?_;rotate_left
   ·rintro Wq ⟨⟨x1,x2,x3,x4,x5,x6,x7,x8,x9,x10,x11,x12,x13,x14,x15,x16,x17,x18,x19⟩,s1,s2,s3,s4⟩;go_simp
    try with_reducible rfl
   try simp only [qan]
  refine qu ?_;refine qk (by kernel_rfl) (qm ?_);gi_wp2;rw [Exit.noGoto_ret];go_ret;exact⟨_,rfl,Xhend.o⟩
 ·have hst:=qfq hy;have hrn:=Xhrun.o;rw [if_neg hy]at hrn;have hc:=ih k0 g W4 a vals kn ((XhA.o.own XhE.o XkW4.o).skip Xhdrop.o Xhpn.o hrn);rw [Xhcast.o]at hc;clear hy;refine hd2 ?_ hrn hc;clear hrn hc;intro Xhrn Xhc;refine qam [10,11,12,13,14] ?_
  iterate 5
   refine tkR (v:=?_) rfl XhT4.o ?_ ?_;rotate_left
   ·rintro Wq ⟨⟨x1,x2,x3,x4,x5,x6,x7,x8,x9,x10,x11,x12,x13,x14,x15,x16,x17,x18,x19⟩,s1,s2,s3,s4⟩;go_simp
    try simp only [hst]
    try with_reducible rfl
   try simp only [qan]
  refine qu ?_;refine hoR 15 rfl fun K XhK2=>?_;gi_wp2;refine⟨trivial,rfl,(callsIn_wide.2 Xhc.o).mono ?_⟩;rintro e W5 ⟨ans,rfl,hend⟩;have hT5:=XhS2.o W5 (hend.same XhE.o);have hend2:StepEnd c U Vw all Jp Jx k0 (qbh LJ c.r.body (c.steps.drop i) a).length g W a kn ans W5:=by
   rw [Xhdrop.o,Xhrn.o];exact hend.from XkW4.o.size
  clear hend;refine hd2 ?_ hT5 hend2;clear hT5 hend2;intro XhT5 Xhend2;gi_wp2;refine XhK2.o _ _ (fun _=>XhT5.o) ?_;refine qam [16,17] ?_
  iterate 2
   refine tkR (v:=?_) rfl XhT5.o ?_ ?_;rotate_left
   ·rintro Wq ⟨⟨x1,x2,x3,x4,x5,x6,x7,x8,x9,x10,x11,x12,x13,x14,x15,x16,x17,x18,x19⟩,s1,s2,s3,s4⟩;go_simp
    try with_reducible rfl
   try simp only [qan]
  refine qu ?_;refine qk (by kernel_rfl) (qm ?_);gi_wp2;rw [Exit.noGoto_ret];go_ret;exact⟨_,rfl,Xhend2.o⟩
set_option maxRecDepth 100000 in
set_option maxHeartbeats 4000000 in
theorem qvg {n0 n1:Nat}{W0:World}{c:WkC}{LJ:qa7}{U:Nat->Prop}{nU:Nat}{Vw:World->Prop}{all:List Asg}{Jp Jx:Nat->Gh->World->Prop}(hE:qdv n0 n1 W0 c LJ U nU Vw all Jp Jx){i:Nat}(hi:i<c.steps.length)(hkind: ∀q,c.steps[i]?=some q->(c.r.body.getD q default).kind=2)(ih:qgt n1 c LJ U Vw all Jp Jx (i+1)):qgt n1 c LJ U Vw all Jp Jx i:=by
 intro k0 g W a vals kn hA;obtain⟨q,hq⟩: ∃q,c.steps[i]?=some q:=⟨_,getElem?_eq_getElem hi⟩;have hB:=hA.held;have hg:=hA.inv;have hnU:=(hE.hV W hA.v).2;obtain⟨L,k,sb,sc,ab,oa,cb,tb,ot,ct,vsa,vsc,hL,hk,hLm,hbl,hll,hpre⟩:=qnl hE hB hq;obtain⟨sp,hsp⟩:=ex ((k.store.map fun S=>(⟨S,0,none⟩:Addr)));rw [hsp]at hpre;have hkq:q<c.r.body.length:=(List.getElem?_eq_some_iff.1 hL).1;have hLd:c.r.body.getD q default=L:=by rw [getD_eq_getElem?_getD,hL];rfl
 have hkd:=hkind q hq;rw [hLd]at hkd;obtain⟨kd,hkd0⟩:=ex (L.kind);rw [hkd0]at hkd hpre;subst hkd;have hsW:SameW c U g W0 W:=SameW.of hg (fun _ _ h _=>h) (hE.hV W hA.v).1;have hsm: ∀X,Keep (fun _=>True) W X->SameW c U g W0 X:=fun X hX=>hsW.keep hX (fun _ _ _ _=>trivial) (fun _ _=>trivial) (fun b hb=>by have:=hE.hU b hb;omega);have hkeep: ∀X,Keep (fun _=>True) W X->qge c vals kn i q L k sb sc ab oa cb tb ot ct vsa vsc nU sp 2 X:=fun X hX=>hpre X (hsm X hX);have hdrop:c.steps.drop i=q::c.steps.drop (i+1):=by rw [drop_eq_getElem_cons hi,(List.getElem?_eq_some_iff.1 hq).2]
 have hP0:=hkeep W (Keep.refl _ _);have b1:=hP0.1;have lb1:=World.block_lt_of_cell? _ _ b1;simp only at lb1;have hne: ¬((i:Int)=(c.steps.length:Int)):=by omega
 have hi0:(0:Int)<=i:=by omega
 have hi1:(i:Int)<c.steps.length:=by omega
 have hi2:i<1073741824:=by have:=hE.sfew;omega
 have hq0:(0:Int)<=q:=by omega
 have hq1:(q:Int)<c.looks.length:=by rw [hE.looks];omega
 have hq2:(q:Int)<c.r.body.length:=by omega
 have hcast:((i+1:Nat):Int)=(i:Int)+1:=by omega
 clear hsW hP0;have hLt:qv L=L.atom.args:=by unfold qv;rw [if_neg (by rw [hkd0];omega)]
 have hknow: ∀t,t∈L.atom.args-> ∃y,qy a t=some y:=fun t ht=>by
  have:=hA.way;rw [hdrop]at this;have:=this.2.1;rw [hLd]at this;have:=this hkd0 t ht;unfold qy;by_cases hv:t.var=true
  ·rw [if_pos hv];exact this hv
  ·rw [if_neg hv];exact⟨_,rfl⟩
 have htexts:(qco c.vars L).map (qeb vals)=L.atom.args.map (qcs a):=by
  unfold qco;rw [hLt,map_map];refine map_congr_left fun t ht=>?_;obtain⟨y,hy⟩:=hknow t ht;unfold qcs;rw [hy,Function.comp,qnk hA.asg (hE.vin L t hLm (by rw [hLt];exact ht)) hy]
  rfl
 have hll2:(qco c.vars L).length=(qv L).length:=by unfold qco;rw [length_map]
 have hll3:(qv L).length=L.atom.args.length:=by rw [hLt]
 have hlv:vals.length<=1073741824:=by rw [hA.asg.lv];exact hE.few
 have htup: ∀X,Keep (fun _=>True) W X->Calls prog 87 #[.slice vsa (qv L).length vsc,qj c.Bt] X fun e w'=> ∃vo,e=.returned vo/\w'.ownsRow X.heap.size 9 1 vo L.atom.args.length ((L.atom.args.map (qcs a)).map .string)/\Keep (fun _=>True) X w':=fun X hX=>by
  obtain⟨x1,x2,x3,x4,x5,x6,x7,x8,x9,x10,x11,x12,x13,x14,x15,x16,x17,x18,x19⟩:=hkeep X hX;have:=qoe (hX.heap (hg.hold _ _ hB.t.1) trivial) ((hB.vals hg).keep hX trivial trivial) hlv nU (.slice vsa (qv L).length vsc) (qco c.vars L) x19 (by have:=hX.size;omega) (fun s hs=>by
   unfold qco at hs;obtain⟨t,ht,rfl⟩:=mem_map.1 hs;exact qo4 (hE.vin L t hLm ht) hA.asg.lv)
  rw [htexts,hll2,hll3]at this;rw [hll3];exact this
 obtain⟨qp,qa,-,qn⟩:=hA.look q L k hL hk;have qn:=qn hkd0;have hsz: ∀s,s∈L.atom.args.map (qcs a)->s.size<=1073741824:=fun s hs=>by
  obtain⟨t,ht,rfl⟩:=mem_map.1 hs;obtain⟨y,hy⟩:=hknow t ht;unfold qcs;rw [hy];unfold qy at hy;by_cases hv:t.var=true
  ·rw [if_pos hv]at hy;exact hA.asg.small _ _ hy
  ·rw [if_neg hv]at hy;cases hy;exact hE.small L t hLm (by rw [hLt];exact ht)
 have hpl:=hE.preds L hLm;obtain⟨pl,hplo⟩: ∃pl:Option Nat,(∀X vo,Keep (fun _=>True) W X->qae X.heap.size X vo (L.atom.args.map (qcs a))->Calls prog 70 #[.pointer sp,.agg #[.string k.pred,.int .i64 (k.arity:Int)],vo] X fun e w'=>e=.returned (qjw pl)/\Keep (fun _=>True) X w')/\(L.atom.args.map (qcs a)∈LJ.neg q↔ ∃j,pl=some j/\j<k.upto)/\(∀j,pl=some j->j<1073741824):=by
  rcases qn with ⟨q1,q2⟩ |⟨S,f,q1,q2,q3,q4⟩
  ·refine⟨none,fun X vo hX hvo=>?_,?_,fun j h=>by cases h⟩
   ·have:=qwi (k.pred,k.arity) vo X;rw [q1]at hsp;rw [←hsp];exact this
   ·rw [q2];constructor
    ·intro h;cases h
    ·rintro⟨j,h,_⟩;cases h
  ·refine⟨qdl (qo f k.pred k.arity) (L.atom.args.map (qcs a)),fun X vo hX hvo=>?_,?_,fun j h=>?_⟩
   ·have:=qoc ((hg.keep (hX.mono fun _ _ _=>trivial)).store S f q2) k.pred k.arity (by rw [qp];exact hpl) (by rw [qa,←hll3];exact hll) X.heap.size vo _ hvo (Nat.le_refl _) hsz;rw [q1]at hsp;rw [←hsp];exact this
   ·rw [←q4,qzl]
   ·have h1:=(List.getElem?_eq_some_iff.1 (qob h)).1;have h2:=qjo f k.pred k.arity;obtain⟨T,M,MX,vx,xs,rl,hP⟩:=hg.store S f q2;have:=hP.few;omega
 have hpn:qw c.r.body [q]= []:=by rw [qc3,hLd,if_pos (.inr hkd0)]
 have hrun:qbh LJ c.r.body (q::c.steps.drop (i+1)) a=if (∃j,pl=some j/\j<k.upto) then [] else qbh LJ c.r.body (c.steps.drop (i+1)) a:=by
  rw [show qbh LJ c.r.body (q::c.steps.drop (i+1)) a=if (c.r.body.getD q default).kind=3 then (if qy a (c.r.body.getD q default).left=qy a (c.r.body.getD q default).right then []else qbh LJ c.r.body (c.steps.drop (i+1)) a) else if (c.r.body.getD q default).kind=2 then (if (c.r.body.getD q default).atom.args.map (qcs a)∈LJ.neg q then []else qbh LJ c.r.body (c.steps.drop (i+1)) a) else _ from rfl,hLd,if_neg (by rw [hkd0];omega),if_pos hkd0];by_cases h: ∃j,pl=some j/\j<k.upto
  ·rw [if_pos h,if_pos (hplo.2.1.2 h)]
  ·rw [if_neg h,if_neg (fun e=>h (hplo.2.1.1 e))]
 have hplc:=hplo.1;have hpls:=hplo.2.2;have hafw:(L.atom.args.map (qcs a)).length=L.atom.args.length:=length_map _;clear hplo qn hknow htexts qp qa hLt hsz hll2;unfold WkC.bound;refine qc5 ?_ hsp hA hB hg hE hpre hsm hkeep hcast hL hk hLm hLd hq hdrop htup;clear hsp hA hB hg hE hpre hsm hkeep hcast hL hk hLm hLd hq hdrop htup;intro Xhsp XhA XhB Xhg XhE Xhpre Xhsm Xhkeep Xhcast XhL Xhk XhLm XhLd Xhq Xhdrop Xhtup;refine hd8 ?_ hplc hpls hrun hpn hafw hll3 hpl hlv;clear hplc hpls hrun hpn hafw hll3 hpl hlv;intro Xhplc Xhpls Xhrun Xhpn Xhafw Xhll3 Xhpl Xhlv;refine qbp Tryz.func88 rfl ?_;simp only [Tryz.ntmps88,qdz,Nat.reduceAdd,Nat.reduceSub];gi_wp2;refine wpIn_wide.2 ?_;refine wp_scope_straight ?_;refine(wpIn_wide (n:=0)).1 ?_;gi_wp2;have hP1:=Xhkeep.o W.drew kDr;clear b1 lb1;refine hd1 ?_ hP1;clear hP1;intro XhP1;refine qab ?_;refine qx rfl (fun X=>qge c vals kn i q L k sb sc ab oa cb tb ot ct vsa vsc nU sp 2 X) [] ?_;refine qam [0,1,2,3,4,5,6,7,8,9,10,11,12,13,14,15,16] ?_
 iterate 17
  refine tkR (v:=?_) rfl XhP1.o ?_ ?_;rotate_left
  ·rintro Wq ⟨x1,x2,x3,x4,x5,x6,x7,x8,x9,x10,x11,x12,x13,x14,x15,x16,x17,x18,x19⟩;go_simp
   try with_reducible rfl
  try simp only [qan]
 refine qu ?_;refine hoR 17 rfl fun K XhK0=>?_;gi_wp2;refine XhK0.o _ _ (fun _=>Xhkeep.o _ (kDr.trans kAl)) ?_;refine hoR 18 rfl fun K XhK1=>?_;gi_wp2;obtain⟨Nb,hNb⟩:=ex (W.heap.size);obtain⟨W1,hW1⟩:=ex ((W.alloc (.cells #[.pointer sp,.string k.pred,.int .i64 (k.arity:Int),.int .i64 (k.upto:Int)] 161)).drew);have k1:Keep (fun _=>True) W W1:=by rw [←hW1];exact kAl.trans kDr
 have nb1:W1.heap[Nb]?=some (.cells #[.pointer sp,.string k.pred,.int .i64 (k.arity:Int),.int .i64 (k.upto:Int)] 161 (0,0)):=by rw [←hW1,←hNb];exact qh _ _
 have hP2:=Xhkeep.o W1 k1;have hP3:=Xhkeep.o W1.drew (k1.trans kDr);rw [hW1,hNb];refine hd6 ?_ k1 nb1 hP2 hP3 hW1 hNb;clear k1 nb1 hP2 hP3 hW1 hNb;intro Xk1 Xnb1 XhP2 XhP3 XhW1 XhNb;refine XhK1.o _ _ (fun _=>XhP2.o) ?_;refine qam [19] ?_
 iterate 1
  refine tkR (v:=?_) rfl XhP2.o ?_ ?_;rotate_left
  ·rintro Wq ⟨x1,x2,x3,x4,x5,x6,x7,x8,x9,x10,x11,x12,x13,x14,x15,x16,x17,x18,x19⟩;go_simp
   try with_reducible rfl
  try simp only [qan]
 refine qu ?_;refine qk (by kernel_rfl) (qm ?_);clear XhK0 XhK1;gi_wp2;refine qab ?_;refine qx rfl (fun X=>qge c vals kn i q L k sb sc ab oa cb tb ot ct vsa vsc nU sp 2 X) [] ?_;refine qam [0,1,2,3,4,5,6,7,8,9,10,11] ?_
 iterate 12
  refine tkR (v:=?_) rfl XhP3.o ?_ ?_;rotate_left
  ·rintro Wq ⟨x1,x2,x3,x4,x5,x6,x7,x8,x9,x10,x11,x12,x13,x14,x15,x16,x17,x18,x19⟩;go_simp
   try with_reducible rfl
  try simp only [qan]
 refine qu ?_;refine qk (by kernel_rfl) (qm ?_);have k1d:Keep (fun _=>True) W W1.drew:=Xk1.o.trans kDr;have nb1d:W1.drew.heap[Nb]?=some (.cells #[.pointer sp,.string k.pred,.int .i64 (k.arity:Int),.int .i64 (k.upto:Int)] 161 (0,0)):=Xnb1.o;obtain⟨W2,hW2⟩:=ex (W1.drew);rw [hW2]at k1d nb1d⊢;clear Xk1 Xnb1 XhP2 XhP3 XhP1 XhW1 hW2 XhNb;refine hd2 ?_ k1d nb1d;clear k1d nb1d;intro Xk1d Xnb1d;gi_wp2;have hS2: ∀X,Keep (fun _=>True) W2 X->(qge c vals kn i q L k sb sc ab oa cb tb ot ct vsa vsc nU sp 2 X/\X.cell? ⟨Nb,0,none⟩=some (.pointer sp)/\X.cell? ⟨Nb,1,none⟩=some (.string k.pred)/\X.cell? ⟨Nb,2,none⟩=some (.int .i64 (k.arity:Int))/\X.cell? ⟨Nb,3,none⟩=some (.int .i64 (k.upto:Int))):=fun X hX=>by
  have hb:=hX.heap Xnb1d.o trivial;have e0:=qb hb 0 _ rfl;have e1:=qb hb 1 _ rfl;have e2:=qb hb 2 _ rfl;have e3:=qb hb 3 _ rfl;simp only [Nat.zero_add]at e0 e1 e2 e3;exact⟨Xhkeep.o X (Xk1d.o.trans hX),e0,e1,e2,e3⟩
 have hT2:=hS2 W2.drew kDr;refine hd2 ?_ hS2 hT2;clear hS2 hT2;intro XhS2 XhT2;refine qab ?_;refine qx rfl (fun X=>(qge c vals kn i q L k sb sc ab oa cb tb ot ct vsa vsc nU sp 2 X/\X.cell? ⟨Nb,0,none⟩=some (.pointer sp)/\X.cell? ⟨Nb,1,none⟩=some (.string k.pred)/\X.cell? ⟨Nb,2,none⟩=some (.int .i64 (k.arity:Int))/\X.cell? ⟨Nb,3,none⟩=some (.int .i64 (k.upto:Int)))) [] ?_;refine qam [0,1,2,3,4,5] ?_
 iterate 6
  refine tkR (v:=?_) rfl XhT2.o ?_ ?_;rotate_left
  ·rintro Wq ⟨⟨x1,x2,x3,x4,x5,x6,x7,x8,x9,x10,x11,x12,x13,x14,x15,x16,x17,x18,x19⟩,s1,s2,s3,s4⟩;go_simp
   try with_reducible rfl
  try simp only [qan]
 refine qu ?_;refine hoR 6 rfl fun K XhK0=>?_;gi_wp2;refine⟨trivial,rfl,(callsIn_wide.2 (Xhtup.o _ (Xk1d.o.trans kDr))).mono ?_⟩;rintro e W3 ⟨vo,rfl,o3,k3⟩;have k23:Keep (fun _=>True) W2 W3:=kDr.trans k3;have hT3:=XhS2.o W3 k23;obtain⟨ao,co,rfl⟩:=qi o3;have hvo:qae W3.heap.size W3 (.slice ao L.atom.args.length co) (L.atom.args.map (qcs a)):=by
  have o3':=o3;rw [←Xhafw.o]at o3'⊢;exact qcn o3' (by rw [Xhafw.o,←Xhll3.o];exact hll)
 have hcp:=Xhplc.o W3 _ (Xk1d.o.trans k23) hvo;clear k3 o3 hvo;refine hd3 ?_ k23 hT3 hcp;clear k23 hT3 hcp;intro Xk23 XhT3 Xhcp;gi_wp2;refine XhK0.o _ _ (fun _=>XhT3.o) ?_;refine hoR 7 rfl fun K XhK1=>?_;gi_wp2;refine⟨trivial,rfl,(callsIn_wide.2 Xhcp.o).mono ?_⟩;rintro e W4 ⟨rfl,k4⟩;have kW4:Keep (fun _=>True) W W4:=(Xk1d.o.trans Xk23.o).trans k4;have hT4:=XhS2.o W4 (Xk23.o.trans k4);clear k4;have hsum:SameW c U g W0 W4:=Xhsm.o W4 kW4;refine hd3 ?_ hT4 kW4 hsum;clear hT4 kW4 hsum;intro XhT4 XkW4 Xhsum;clear qn;obtain⟨-,-,-,-,u3⟩:=XhT4.o;have lNb:=World.block_lt_of_cell? _ _ u3;simp only at lNb;cases pl with
 |none=>
  unfold qjw;gi_wp2;refine XhK1.o _ _ (fun _=>XhT4.o) ?_;refine qam [8,9,10,11,12] ?_
  iterate 5
   refine tkR (v:=?_) rfl XhT4.o ?_ ?_;rotate_left
   ·rintro Wq ⟨⟨x1,x2,x3,x4,x5,x6,x7,x8,x9,x10,x11,x12,x13,x14,x15,x16,x17,x18,x19⟩,s1,s2,s3,s4⟩;go_simp
    try with_reducible rfl
   try simp only [qan]
  refine qu ?_;refine qk (by kernel_rfl) (qm ?_);clear XhK0 XhK1;have hrn:=Xhrun.o;rw [if_neg (fun h=>by obtain⟨j,h1,_⟩:=h;cases h1)]at hrn;have hc:=ih k0 g W4 a vals kn ((XhA.o.own XhE.o XkW4.o).skip Xhdrop.o Xhpn.o hrn);rw [Xhcast.o]at hc;have hbp:=(Xhpre.o W4 Xhsum.o).2.2.2.2.2.2.2.2.2.2.2.2.2.2.2.1;have lbp:=World.block_lt_of_cell? _ _ hbp;simp only at lbp;refine hd2 ?_ hrn hc;clear hrn hc;intro Xhrn Xhc;gi_wp2;refine⟨trivial,rfl,(callsIn_wide.2 Xhc.o).mono ?_⟩;rintro e W5 ⟨ans,rfl,hend⟩;have hend2:StepEnd c U Vw all Jp Jx k0 (qbh LJ c.r.body (c.steps.drop i) a).length g W a kn ans W5:=by
   rw [Xhdrop.o,Xhrn.o];exact hend.from XkW4.o.size
  clear hend;refine hd1 ?_ hend2;clear hend2;intro Xhend2;gi_wp2;rw [Exit.noGoto_ret];go_ret;exact⟨_,rfl,Xhend2.o⟩
 |some j=>
  unfold qjw;gi_wp2;refine XhK1.o _ _ (fun _=>XhT4.o) ?_;refine qam [8,9,10,11,12] ?_
  iterate 5
   refine tkR (v:=?_) rfl XhT4.o ?_ ?_;rotate_left
   ·rintro Wq ⟨⟨x1,x2,x3,x4,x5,x6,x7,x8,x9,x10,x11,x12,x13,x14,x15,x16,x17,x18,x19⟩,s1,s2,s3,s4⟩;go_simp
    try with_reducible rfl
   try simp only [qan]
  refine qu ?_;refine qk (by kernel_rfl) (qm ?_);clear XhK0 XhK1;have hj0:(0:Int)<=j:=by omega
  by_cases hju:j<k.upto
  ·have hj1:(j:Int)<k.upto:=by omega
   have hend:StepEnd c U Vw all Jp Jx k0 (qbh LJ c.r.body (c.steps.drop i) a).length g W a kn true W4:=by
    rw [Xhdrop.o,Xhrun.o,if_pos ⟨j,rfl,hju⟩];exact StepEnd.none XhE.o XhA.o XkW4.o
   clear hju;refine hd1 ?_ hend;clear hend;intro Xhend;gi_wp2;refine⟨fun _ h=>(by cases h),?_⟩;rename_i aK r1 r2 r3 r4;refine aK _ _ ?_;clear aK r4;gi_wp2;rw [Exit.noGoto_ret];go_ret;exact⟨_,rfl,Xhend.o⟩
  have hj1: ¬((j:Int)<k.upto):=by omega
  have hrn:=Xhrun.o;rw [if_neg (fun h=>by obtain⟨j',h1,h2⟩:=h;cases h1;exact hju h2)]at hrn;clear hju;have hc:=ih k0 g W4 a vals kn ((XhA.o.own XhE.o XkW4.o).skip Xhdrop.o Xhpn.o hrn);rw [Xhcast.o]at hc;have hbp:=(Xhpre.o W4 Xhsum.o).2.2.2.2.2.2.2.2.2.2.2.2.2.2.2.1;have lbp:=World.block_lt_of_cell? _ _ hbp;simp only at lbp;refine hd2 ?_ hrn hc;clear hrn hc;intro Xhrn Xhc;gi_wp2;refine⟨trivial,rfl,(callsIn_wide.2 Xhc.o).mono ?_⟩;rintro e W5 ⟨ans,rfl,hend⟩;have hend2:StepEnd c U Vw all Jp Jx k0 (qbh LJ c.r.body (c.steps.drop i) a).length g W a kn ans W5:=by
   rw [Xhdrop.o,Xhrn.o];exact hend.from XkW4.o.size
  clear hend;refine hd1 ?_ hend2;clear hend2;intro Xhend2;gi_wp2;rw [Exit.noGoto_ret];go_ret;exact⟨_,rfl,Xhend2.o⟩
end Go.Proofs

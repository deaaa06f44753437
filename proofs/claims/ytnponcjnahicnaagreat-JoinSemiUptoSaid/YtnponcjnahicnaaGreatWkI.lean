/- Parts of the proof. -/
import Derived.Test.YtnponcjnahicnaaGreatProg
import Derived.Test.YtnponcjnahicnaaGreatWkL
import Derived.WalkMore
import Derived.Test.YtnponcjnahicnaaGreatHdToKp
import Derived.Test.YtnponcjnahicnaaGreatHoistToRowC
set_option linter.unusedSimpArgs false
set_option linter.unusedVariables false
open Go.Proofs.Tryz(prog)
open List(append_assoc append_nil drop_eq_getElem_cons getD_eq_getElem?_getD getElem?_eq_getElem getElem?_map idxOf_lt_length_of_mem length_append length_map length_take map_append mem_filter mem_of_getElem? mem_of_mem_take take_length)
namespace Go.Proofs
open Go.RowKit Go.Ink R4
attribute [local go_sem] Oper.semAt_some
set_option maxRecDepth 100000 in
set_option maxHeartbeats 4000000 in
theorem qvh {n0 n1:Nat}{W0:World}{c:WkC}{LJ:qa7}{U:Nat->Prop}{nU:Nat}{Vw:World->Prop}{all:List Asg}{Jp Jx:Nat->Gh->World->Prop}(hE:qdv n0 n1 W0 c LJ U nU Vw all Jp Jx){i:Nat}(hi:i<c.steps.length)(hkind: ∀q,c.steps[i]?=some q->(c.r.body.getD q default).kind=1)(ih:qgt n1 c LJ U Vw all Jp Jx (i+1)):qgt n1 c LJ U Vw all Jp Jx i:=by
 intro k0 g W a vals kn hA;obtain⟨q,hq⟩: ∃q,c.steps[i]?=some q:=⟨_,getElem?_eq_getElem hi⟩;have hB:=hA.held;have hg:=hA.inv;have hnU:=(hE.hV W hA.v).2;obtain⟨L,k,sb,sc,ab,oa,cb,tb,ot,ct,vsa,vsc,hL,hk,hLm,hbl,hll,hpre⟩:=qnl hE hB hq;obtain⟨sp,hsp⟩:=ex ((k.store.map fun S=>(⟨S,0,none⟩:Addr)));rw [hsp]at hpre;have hkq:q<c.r.body.length:=(List.getElem?_eq_some_iff.1 hL).1;have hLd:c.r.body.getD q default=L:=by rw [getD_eq_getElem?_getD,hL];rfl
 have hkd:=hkind q hq;rw [hLd]at hkd;obtain⟨kd,hkd0⟩:=ex (L.kind);rw [hkd0]at hkd hpre;subst hkd;have hsW:SameW c U g W0 W:=SameW.of hg (fun _ _ h _=>h) (hE.hV W hA.v).1;have hsm: ∀X,Keep (fun _=>True) W X->SameW c U g W0 X:=fun X hX=>hsW.keep hX (fun _ _ _ _=>trivial) (fun _ _=>trivial) (fun b hb=>by have:=hE.hU b hb;omega);have hkeep: ∀X,Keep (fun _=>True) W X->qge c vals kn i q L k sb sc ab oa cb tb ot ct vsa vsc nU sp 1 X:=fun X hX=>hpre X (hsm X hX);have hdrop:c.steps.drop i=q::c.steps.drop (i+1):=by rw [drop_eq_getElem_cons hi,(List.getElem?_eq_some_iff.1 hq).2]
 have hP0:=hkeep W (Keep.refl _ _);have b1:=hP0.1;have lb1:=World.block_lt_of_cell? _ _ b1;simp only at lb1;have hne: ¬((i:Int)=(c.steps.length:Int)):=by omega
 have hi0:(0:Int)<=i:=by omega
 have hi1:(i:Int)<c.steps.length:=by omega
 have hi2:i<1073741824:=by have:=hE.sfew;omega
 have hq0:(0:Int)<=q:=by omega
 have hq1:(q:Int)<c.looks.length:=by rw [hE.looks];omega
 have hq2:(q:Int)<c.r.body.length:=by omega
 have hcast:((i+1:Nat):Int)=(i:Int)+1:=by omega
 clear hsW hP0;have hLt:qv L=L.atom.args:=by unfold qv;rw [if_neg (by rw [hkd0];omega)]
 obtain⟨ts,hts⟩:=ex (L.atom.args);have hLt2:qv L=ts:=by rw [hLt,hts]
 obtain⟨qp,qa,qn,-⟩:=hA.look q L k hL hk;obtain⟨S,f,q1,q2,q3,q4,q5⟩:=qn hkd0;have hspS:sp=some ⟨S,0,none⟩:=by rw [←hsp,q1];rfl
 subst hspS;have hvin: ∀t,t∈ts->qe6 c.vars t:=fun t ht=>hE.vin L t hLm (by rw [hLt2];exact ht);have hsmall: ∀t,t∈ts->t.text.size<=1073741824:=fun t ht=>hE.small L t hLm (by rw [hLt2];exact ht);have hpl:=hE.preds L hLm;have htl:ts.length<=1073741824:=by rw [←hLt2];exact hll
 have hta:k.arity=ts.length:=by rw [qa,hts]
 have hlv:vals.length<=1073741824:=by rw [hA.asg.lv];exact hE.few
 have hlk:kn.length<=1073741824:=by rw [hA.asg.lk];exact hE.few
 have hslot: ∀X,qge c vals kn i q L k sb sc ab oa cb tb ot ct vsa vsc nU (some ⟨S,0,none⟩) 1 X-> ∀(j:Nat) (t:TermD),ts[j]?=some t-> ∃zb zo,vsa=some ⟨zb,zo,none⟩/\zb<nU/\X.cell? ⟨zb,zo+j*2,none⟩=some (.int .i64 (qaw c.vars t).place)/\X.cell? ⟨zb,zo+j*2+1,none⟩=some (.string (qaw c.vars t).text):=fun X hX j t hj=>by
  obtain⟨x1,x2,x3,x4,x5,x6,x7,x8,x9,x10,x11,x12,x13,x14,x15,x16,x17,x18,va2,vc2,hv2,-,-,he2⟩:=hX;injection hv2 with hv2 _ _
  obtain⟨b3,o3,hb3,hb3n,r1,r2⟩:=he2 j (qaw c.vars t) (by unfold qco;rw [hLt2,getElem?_map,hj];rfl);exact⟨b3,o3,by rw [hv2];exact hb3,hb3n,r1,r2⟩
 have hconst: ∀t:TermD,t.var=false->qaw c.vars t=⟨-1,t.text⟩:=fun t h=>by unfold qaw;rw [if_neg (by rw [h];simp)]
 have hvar: ∀t:TermD,t∈ts->t.var=true-> ∃p,qaw c.vars t=⟨(p:Nat),⟨#[]⟩⟩/\c.vars[p]?=some t.text/\p<c.vars.length:=fun t ht h=>⟨c.vars.idxOf t.text,by unfold qaw;rw [if_pos h],qve (hvin t ht h),idxOf_lt_length_of_mem (hvin t ht h)⟩;have hval2:=hB.vals hg;have hkr:=hg.hold _ _ hB.knr;have hll3:(qv L).length=ts.length:=by rw [hLt2]
 have hUK: ¬U c.K:=fun h=>by have:=(hA.u _ h).2;rw [hB.knr] at this;cases this
 have hUV: ¬U c.V:=fun h=>by have:=(hA.u _ h).2;rw [hB.row] at this;cases this
 clear hLt;unfold WkC.bound;refine qc5 ?_ hsp hA hB hg hE hpre hsm hkeep hcast hL hk hLm hLd hq hdrop hLt2;clear hsp hA hB hg hE hpre hsm hkeep hcast hL hk hLm hLd hq hdrop hLt2;intro Xhsp XhA XhB Xhg XhE Xhpre Xhsm Xhkeep Xhcast XhL Xhk XhLm XhLd Xhq Xhdrop XhLt2;refine qc5 ?_ hts qp qa qn q1 q2 q3 q4 q5 hvin hsmall hpl htl hta hlv hlk;clear hts qp qa qn q1 q2 q3 q4 q5 hvin hsmall hpl htl hta hlv hlk;intro Xhts Xqp Xqa Xqn Xq1 Xq2 Xq3 Xq4 Xq5 Xhvin Xhsmall Xhpl Xhtl Xhta Xhlv Xhlk;refine hd8 ?_ hslot hconst hvar hval2 hkr hll3 hUK hUV;clear hslot hconst hvar hval2 hkr hll3 hUK hUV;intro Xhslot Xhconst Xhvar Xhval2 Xhkr Xhll3 XhUK XhUV;refine qbp Tryz.func88 rfl ?_;simp only [Tryz.ntmps88,qdz,Nat.reduceAdd,Nat.reduceSub];gi_wp2;refine wpIn_wide.2 ?_;refine wp_scope_straight ?_;refine(wpIn_wide (n:=0)).1 ?_;gi_wp2;have hP1:=Xhkeep.o W.drew kDr;clear b1 lb1;refine hd1 ?_ hP1;clear hP1;intro XhP1;refine qab ?_;refine qx rfl (fun X=>qge c vals kn i q L k sb sc ab oa cb tb ot ct vsa vsc nU (some ⟨S,0,none⟩) 1 X) [] ?_;refine qam [0,1,2,3,4,5,6,7,8,9,10,11,12,13,14,15,16] ?_
 iterate 17
  refine tkR (v:=?_) rfl XhP1.o ?_ ?_;rotate_left
  ·rintro Wq ⟨x1,x2,x3,x4,x5,x6,x7,x8,x9,x10,x11,x12,x13,x14,x15,x16,x17,x18,x19⟩;go_simp
   try with_reducible rfl
  try simp only [qan]
 refine qu ?_;refine hoR 17 rfl fun K XhK0=>?_;gi_wp2;refine XhK0.o _ _ (fun _=>Xhkeep.o _ (kDr.trans kAl)) ?_;refine hoR 18 rfl fun K XhK1=>?_;gi_wp2;obtain⟨Nb,hNb⟩:=ex (W.heap.size);obtain⟨W1,hW1⟩:=ex ((W.alloc (.cells #[.pointer (some ⟨S,0,none⟩),.string k.pred,.int .i64 (k.arity:Int),.int .i64 (k.upto:Int)] 161)).drew);have k1:Keep (fun _=>True) W W1:=by rw [←hW1];exact kAl.trans kDr
 have nb1:W1.heap[Nb]?=some (.cells #[.pointer (some ⟨S,0,none⟩),.string k.pred,.int .i64 (k.arity:Int),.int .i64 (k.upto:Int)] 161 (0,0)):=by rw [←hW1,←hNb];exact qh _ _
 have hP2:=Xhkeep.o W1 k1;have hP3:=Xhkeep.o W1.drew (k1.trans kDr);rw [hW1,hNb];refine hd6 ?_ k1 nb1 hP2 hP3 hW1 hNb;clear k1 nb1 hP2 hP3 hW1 hNb;intro Xk1 Xnb1 XhP2 XhP3 XhW1 XhNb;refine XhK1.o _ _ (fun _=>XhP2.o) ?_;refine qam [19] ?_
 iterate 1
  refine tkR (v:=?_) rfl XhP2.o ?_ ?_;rotate_left
  ·rintro Wq ⟨x1,x2,x3,x4,x5,x6,x7,x8,x9,x10,x11,x12,x13,x14,x15,x16,x17,x18,x19⟩;go_simp
   try with_reducible rfl
  try simp only [qan]
 refine qu ?_;refine qk (by kernel_rfl) (qm ?_);clear XhK0 XhK1;gi_wp2;refine qab ?_;refine qx rfl (fun X=>qge c vals kn i q L k sb sc ab oa cb tb ot ct vsa vsc nU (some ⟨S,0,none⟩) 1 X) [] ?_;refine qam [0,1,2,3,4,5,6,7,8,9,10,11] ?_
 iterate 12
  refine tkR (v:=?_) rfl XhP3.o ?_ ?_;rotate_left
  ·rintro Wq ⟨x1,x2,x3,x4,x5,x6,x7,x8,x9,x10,x11,x12,x13,x14,x15,x16,x17,x18,x19⟩;go_simp
   try with_reducible rfl
  try simp only [qan]
 refine qu ?_;refine qk (by kernel_rfl) (qm ?_);have k1d:Keep (fun _=>True) W W1.drew:=Xk1.o.trans kDr;have nb1d:W1.drew.heap[Nb]?=some (.cells #[.pointer (some ⟨S,0,none⟩),.string k.pred,.int .i64 (k.arity:Int),.int .i64 (k.upto:Int)] 161 (0,0)):=Xnb1.o;obtain⟨W2,hW2⟩:=ex (W1.drew);rw [hW2]at k1d nb1d⊢;clear Xk1 Xnb1 XhP2 XhP3 XhP1 XhW1 hW2 XhNb;refine Ink.hd2 ?_ k1d nb1d;clear k1d nb1d;intro Xk1d Xnb1d;gi_wp2;have z2:W.heap.size<=W2.heap.size:=Xk1d.o.size;gi_loopw [16,17,121] (fun x16 x17 i' wr=> ∃j:Nat,j<=(qv L).length/\i'=.int .i64 (j:Int)/\Keep (fun b=>b<W2.heap.size) W2 wr/\wr.ownsRow W2.heap.size 3 1 x16 (qao a (ts.take j) 0).length (((qao a (ts.take j) 0).map fun p=>(p.1:Int)).map (.int .i64))/\wr.ownsRow W2.heap.size 9 1 x17 (qao a (ts.take j) 0).length (((qao a (ts.take j) 0).map (·.2)).map .string)) (fun _ _ i _=>(qv L).length-(intOf i).toNat)
 case atStart=>exact⟨0,by omega,rfl,Keep.refl _ _,World.ownsRow_nil _ _ _ _,World.ownsRow_nil _ _ _ _⟩
 case round=>
  obtain⟨j,hj,rfl,hK,ho1,ho2⟩:=hrel;have hzr:=hK.size;by_cases hlt:j<(qv L).length
  ·have hlt1:(j:Int)<(qv L).length:=by omega
   have hj0:(0:Int)<=j:=by omega
   obtain⟨t,ht⟩: ∃t,ts[j]?=some t:=⟨_,getElem?_eq_getElem (by rw [←Xhll3.o];exact hlt)⟩;have htm:=mem_of_getElem? ht;have hKW:Keep (fun _=>True) W wr:=Xk1d.o.trans (hK.mono fun b hb _=>hb);have hPr:=Xhkeep.o wr hKW;obtain⟨zb,zo,hvsa,hzb,s1,s2⟩:=Xhslot.o wr hPr j t ht;subst hvsa;have hzw:zb<wr.heap.size:=by have:=hKW.size;omega
   have hsn:=qx0 a ts ht;cases hv:t.var with
   |false=>
    have hs:=Xhconst.o t hv;have hy:qy a t=some t.text:=by unfold qy;rw [if_neg (by rw [hv];simp)]
    rw [hs]at s1 s2;simp only at s1 s2;rw [hy]at hsn;simp only at hsn;obtain⟨a6,c6,rfl⟩:=qi ho1;obtain⟨a7,c7,rfl⟩:=qi ho2;obtain⟨Wa,hWa⟩:=ex (wr.alloc (.cells #[.int .i64 (-1),.string t.text] 93));have ka:Keep (fun _=>True) wr Wa:=by rw [←hWa];exact kAl
    have za:Wa.heap.size=wr.heap.size+1:=by rw [←hWa];simp
    have na:Wa.heap[wr.heap.size]?=some (.cells #[.int .i64 (-1),.string t.text] 93 (0,0)):=by rw [←hWa];exact qh _ _
    have hpn:(qao a (ts.take j) 0).length<=1073741824:=by
     have h1:=qmu a (ts.take j) 0;have h2:(ts.take j).length<=ts.length:=by rw [length_take];omega
     have h3:=Xhtl.o;omega
    obtain⟨v',W5,hr5,ho5,k5,g5,cap5,hv5,hgo5,hg5⟩:=qc4 (P:=prog) qk9 86 (qg ho1 ka (fun _ _=>trivial)) [.int .i64 (j:Int)] rfl (by simp [Value.oneCell']) (by omega) (by omega);subst hv5;rw [za,←hWa]at hr5;have ho2a:=qg (qg ho2 ka (fun _ _=>trivial)) k5 (fun b hb e=>qdg (qg ho2 ka (fun _ _=>trivial)) (qg ho1 ka (fun _ _=>trivial)) (by decide) hb e.symm);have k5k:Keep (fun b=>b<W2.heap.size) wr W5:=(ka.mono fun _ _ _=>trivial).trans (k5.mono fun b _ (hb:b<W2.heap.size) e=>by have:=(World.ownsRow.lt ho1 b e.symm).1;omega);have nb5:W5.heap[wr.heap.size]?=some (.cells #[.int .i64 (-1),.string t.text] 93 (0,0)):=k5.heap na (fun e=>by have:=(World.ownsRow.lt ho1 _ e.symm).2;omega);have m0:=qb nb5 0 _ rfl;have m1:=qb nb5 1 _ rfl;have lm:=qe nb5;have hKW5:Keep (fun _=>True) W W5:=Xk1d.o.trans (hK.trans k5k |>.mono fun b hb _=>hb);have hbt:=(Xhkeep.o W5 hKW5).2.2.2.2.2.2.2.2.2.2.2.2.2.1;have lbt:=World.block_lt_of_cell? _ _ hbt;simp only [Nat.zero_add]at m0 m1 lbt;have htc:=qg2 XhE.o XhA.o.asg (Xhvin.o t htm) hy (Xhval2.o.keep hKW5 trivial trivial);rw [hs]at htc;simp only at htc;clear ka na k5 ho1 ho2 hWa hPr ht htm nb5;refine qd9 ?_ hr5 ho5 ho2a k5k hKW5 htc hsn hK hgo5 hg5;clear hr5 ho5 ho2a k5k hKW5 htc hsn hK hgo5 hg5;intro Xhr5 Xho5 Xho2a Xk5k XhKW5 Xhtc Xhsn XhK Xhgo5 Xhg5
    gi_wp2_with (gi_at_builtin;refine qch (v:=.slice a6 (qao a (ts.take j) 0).length c6) (u:=.slice (some ⟨wr.heap.size+1,0,none⟩) 1 1) (v':=.slice (some ⟨g5,0,none⟩) ((qao a (ts.take j) 0).length+1) cap5) (w':=W5) rfl (.tmp 136) (.tmp 138) 86 rfl rfl rfl Xhr5.o ?_)
    refine⟨trivial,rfl,(callsIn_wide.2 Xhtc.o).mono ?_⟩;rintro e W6 ⟨rfl,k6⟩;have ho2b:=qg Xho2a.o k6 (fun _ _=>trivial);have ho5b:=qg Xho5.o k6 (fun _ _=>trivial);obtain⟨v',W7,hr7,ho7,k7,g7,cap7,hv7,hgo7,hg7⟩:=qc4 (P:=prog) qga 46 ho2b [.string t.text] rfl (by simp [Value.oneCell']) (by omega) (by have:=Xk5k.o.size;have:=k6.size;omega);subst hv7;have ho5c:=qg ho5b k7 (fun b hb e=>qdg ho5b ho2b (by decide) hb e.symm);have k7k:Keep (fun b=>b<W2.heap.size) wr W7:=(Xk5k.o.trans (k6.mono fun _ _ _=>trivial)).trans (k7.mono fun b _ (hb:b<W2.heap.size) e=>by have:=(World.ownsRow.lt ho2b b e.symm).1;omega);clear k6 k7 ho2b ho5b hgo7;refine hd5 ?_ hr7 ho7 ho5c k7k hg7;clear hr7 ho7 ho5c k7k hg7;intro Xhr7 Xho7 Xho5c Xk7k Xhg7
    gi_wp2_with (gi_at_builtin;refine qch (v:=.slice a7 (qao a (ts.take j) 0).length c7) (u:=.slice (some ⟨W6.heap.size,0,none⟩) 1 1) (v':=.slice (some ⟨g7,0,none⟩) ((qao a (ts.take j) 0).length+1) cap7) (w':=W7) rfl (.tmp 140) (.tmp 144) 46 rfl rfl rfl Xhr7.o ?_)
    go_roundw
    case rel=>
     refine⟨j+1,by omega,by go_num,XhK.o.trans Xk7k.o,?_,?_⟩
     ·rw [Xhsn.o,length_append,map_append,map_append];exact Xho5c.o
     ·rw [Xhsn.o,length_append,map_append,map_append];exact Xho7.o
    case measure=>simp [intOf];omega
   |true=>
    obtain⟨p,hs,hp,hpl2⟩:=Xhvar.o t htm hv;rw [hs]at s1 s2;simp only at s1 s2;have hp0:(0:Int)<=p:=by omega
    have hpn0: ¬((p:Int)<0):=by omega
    have hpk:(p:Int)<kn.length:=by rw [XhA.o.asg.lk];omega
    have hbk:=hPr.2.2.2.2.2.2.2.2.2.2.2.2.2.2.2.2.2.1;have lbk:=World.block_lt_of_cell? _ _ hbk;simp only at lbk;have hkc:kn[p]?=some (qy a t).isSome:=by
     have:=qxj XhA.o.asg (Xhvin.o t htm) hv;unfold qaw at hs;rw [if_pos hv]at hs;injection hs with h1 _
     have h2:c.vars.idxOf t.text=p:=by omega
     rw [h2]at this;exact this
    have hkK:=hKW.heap Xhkr.o trivial;have hkcell:wr.cell? ⟨c.K,p,none⟩=some (.bool (qy a t).isSome):=by
     have:=qb hkK p (.bool (qy a t).isSome) (by simp [getElem?_map,hkc])
     simpa using this
    have lK:=qe hkK;clear hkK hkc;cases hy:qy a t with
    |some y=>
     rw [hy]at hkcell;simp only [Option.isSome_some]at hkcell;rw [hy]at hsn;simp only at hsn;obtain⟨a6,c6,rfl⟩:=qi ho1;obtain⟨a7,c7,rfl⟩:=qi ho2;obtain⟨Wa,hWa⟩:=ex (wr.alloc (.cells #[.int .i64 (p:Int),.string ⟨#[]⟩] 93));have ka:Keep (fun _=>True) wr Wa:=by rw [←hWa];exact kAl
     have za:Wa.heap.size=wr.heap.size+1:=by rw [←hWa];simp
     have na:Wa.heap[wr.heap.size]?=some (.cells #[.int .i64 (p:Int),.string ⟨#[]⟩] 93 (0,0)):=by rw [←hWa];exact qh _ _
     have hpn:(qao a (ts.take j) 0).length<=1073741824:=by
      have h1:=qmu a (ts.take j) 0;have h2:(ts.take j).length<=ts.length:=by rw [length_take];omega
      have h3:=Xhtl.o;omega
     obtain⟨v',W5,hr5,ho5,k5,g5,cap5,hv5,hgo5,hg5⟩:=qc4 (P:=prog) qk9 86 (qg ho1 ka (fun _ _=>trivial)) [.int .i64 (j:Int)] rfl (by simp [Value.oneCell']) (by omega) (by omega);subst hv5;rw [za,←hWa]at hr5;have ho2a:=qg (qg ho2 ka (fun _ _=>trivial)) k5 (fun b hb e=>qdg (qg ho2 ka (fun _ _=>trivial)) (qg ho1 ka (fun _ _=>trivial)) (by decide) hb e.symm);have k5k:Keep (fun b=>b<W2.heap.size) wr W5:=(ka.mono fun _ _ _=>trivial).trans (k5.mono fun b _ (hb:b<W2.heap.size) e=>by have:=(World.ownsRow.lt ho1 b e.symm).1;omega);have nb5:W5.heap[wr.heap.size]?=some (.cells #[.int .i64 (p:Int),.string ⟨#[]⟩] 93 (0,0)):=k5.heap na (fun e=>by have:=(World.ownsRow.lt ho1 _ e.symm).2;omega);have m0:=qb nb5 0 _ rfl;have m1:=qb nb5 1 _ rfl;have lm:=qe nb5;have hKW5:Keep (fun _=>True) W W5:=Xk1d.o.trans (hK.trans k5k |>.mono fun b hb _=>hb);have hbt:=(Xhkeep.o W5 hKW5).2.2.2.2.2.2.2.2.2.2.2.2.2.1;have lbt:=World.block_lt_of_cell? _ _ hbt;simp only [Nat.zero_add]at m0 m1 lbt;have htc:=qg2 XhE.o XhA.o.asg (Xhvin.o t htm) hy (Xhval2.o.keep hKW5 trivial trivial);rw [hs]at htc;simp only at htc;clear ka na k5 ho1 ho2 hWa hPr ht htm nb5;refine qd9 ?_ hr5 ho5 ho2a k5k hKW5 htc hsn hK hgo5 hg5;clear hr5 ho5 ho2a k5k hKW5 htc hsn hK hgo5 hg5;intro Xhr5 Xho5 Xho2a Xk5k XhKW5 Xhtc Xhsn XhK Xhgo5 Xhg5
     gi_wp2_with (gi_at_builtin;refine qch (v:=.slice a6 (qao a (ts.take j) 0).length c6) (u:=.slice (some ⟨wr.heap.size+1,0,none⟩) 1 1) (v':=.slice (some ⟨g5,0,none⟩) ((qao a (ts.take j) 0).length+1) cap5) (w':=W5) rfl (.tmp 136) (.tmp 138) 86 rfl rfl rfl Xhr5.o ?_)
     refine⟨trivial,rfl,(callsIn_wide.2 Xhtc.o).mono ?_⟩;rintro e W6 ⟨rfl,k6⟩;have ho2b:=qg Xho2a.o k6 (fun _ _=>trivial);have ho5b:=qg Xho5.o k6 (fun _ _=>trivial);obtain⟨v',W7,hr7,ho7,k7,g7,cap7,hv7,hgo7,hg7⟩:=qc4 (P:=prog) qga 46 ho2b [.string y] rfl (by simp [Value.oneCell']) (by omega) (by have:=Xk5k.o.size;have:=k6.size;omega);subst hv7;have ho5c:=qg ho5b k7 (fun b hb e=>qdg ho5b ho2b (by decide) hb e.symm);have k7k:Keep (fun b=>b<W2.heap.size) wr W7:=(Xk5k.o.trans (k6.mono fun _ _ _=>trivial)).trans (k7.mono fun b _ (hb:b<W2.heap.size) e=>by have:=(World.ownsRow.lt ho2b b e.symm).1;omega);clear k6 k7 ho2b ho5b hgo7;refine hd5 ?_ hr7 ho7 ho5c k7k hg7;clear hr7 ho7 ho5c k7k hg7;intro Xhr7 Xho7 Xho5c Xk7k Xhg7
     gi_wp2_with (gi_at_builtin;refine qch (v:=.slice a7 (qao a (ts.take j) 0).length c7) (u:=.slice (some ⟨W6.heap.size,0,none⟩) 1 1) (v':=.slice (some ⟨g7,0,none⟩) ((qao a (ts.take j) 0).length+1) cap7) (w':=W7) rfl (.tmp 140) (.tmp 144) 46 rfl rfl rfl Xhr7.o ?_)
     go_roundw
     case rel=>
      refine⟨j+1,by omega,by go_num,XhK.o.trans Xk7k.o,?_,?_⟩
      ·rw [Xhsn.o,length_append,map_append,map_append];exact Xho5c.o
      ·rw [Xhsn.o,length_append,map_append,map_append];exact Xho7.o
     case measure=>simp [intOf];omega
    |none=>
     rw [hy]at hkcell hsn;simp only [Option.isSome_none,append_nil]at hkcell hsn;obtain⟨a6,c6,rfl⟩:=qi ho1;obtain⟨a7,c7,rfl⟩:=qi ho2;clear hPr ht htm;have hsl:(wr.alloc (.cells #[.int .i64 (p:Int),.string ⟨#[]⟩] 93)).heap.size=wr.heap.size+1:=by simp
     refine hd6 ?_ hsn hK ho1 ho2 hKW hsl;clear hsn hK ho1 ho2 hKW hsl;intro Xhsn XhK Xho1 Xho2 XhKW Xhsl;gi_wp2;go_roundw
     case rel=>
      have kl:Keep (fun _=>True) wr (wr.alloc (.cells #[.int .i64 (p:Int),.string ⟨#[]⟩] 93)):=kAl;refine⟨j+1,by omega,by go_num,XhK.o.trans (kl.mono fun _ _ _=>trivial),?_,?_⟩
      ·rw [Xhsn.o];exact qg Xho1.o kl (fun _ _=>trivial)
      ·rw [Xhsn.o];exact qg Xho2.o kl (fun _ _=>trivial)
     case measure=>simp [intOf];omega
  ·obtain rfl:j=(qv L).length:=by omega
   have ej:ts.take (qv L).length=ts:=by rw [Xhll3.o,take_length]
   rw [ej]at ho1 ho2;have hKW:Keep (fun _=>True) W wr:=Xk1d.o.trans (hK.mono fun b hb _=>hb);have nbw:=hK.heap Xnb1d.o (qe Xnb1d.o);have mb0:=qb nbw 0 _ rfl;have mb1:=qb nbw 1 _ rfl;have mb2:=qb nbw 2 _ rfl;have mb3:=qb nbw 3 _ rfl;have lNb:=qe nbw;simp only [Nat.zero_add]at mb0 mb1 mb2 mb3;obtain⟨a6,c6,rfl⟩:=qi ho1;obtain⟨a7,c7,rfl⟩:=qi ho2;have hpn:(qao a ts 0).length<=1073741824:=by
    have h1:=qmu a ts 0;have h3:=Xhtl.o;omega
   have hic:qap wr.heap.size wr (.slice a6 (qao a ts 0).length c6) (qi4 a ts):=qd8 ho1 (by unfold qi4;rw [length_map];exact hpn);have hsk:qae wr.heap.size wr (.slice a7 (qao a ts 0).length c7) (qok a ts):=qcn ho2 (by unfold qok;rw [length_map];exact hpn);have hmt:=qwj (n0:=n0) (Xhg.o.keep (hKW.mono fun _ _ _=>trivial)) Xq2.o k.pred k.arity (by rw [Xqp.o];exact Xhpl.o) (by rw [Xhta.o];exact Xhtl.o) wr.heap.size _ _ _ _ k.upto hic hsk (Nat.le_refl _) (fun s hs=>by
    obtain⟨t,ht,hy⟩:=q40 hs;exact qzn XhA.o.asg (Xhsmall.o t ht) hy) Xq3.o Xq4.o (by rw [Xhta.o];exact q4u a ts) (by unfold qok qi4;rw [length_map,length_map])
   have hrw:qjb f k.pred k.arity (qi4 a ts) (qok a ts) k.upto=(LJ.pos q).filter (qjp a ts):=by
    rw [←Xq5.o,Xhta.o];exact q4t
   rw [hrw]at hmt;unfold qdt at hmt;clear hrw hic hsk nbw ho1 ho2 ej hj hlt;refine Ink.hd3 ?_ hmt hKW hK;clear hmt hKW hK;intro Xhmt XhKW XhK;gi_wp2;refine wpIn_label ?_;gi_wp2;refine⟨trivial,rfl,(callsIn_wide.2 Xhmt.o).mono ?_⟩;rintro e Wm ⟨g',v,rfl,hstep,hst',hheld',hrows⟩;obtain⟨gm,hAm,hgm1,hgm2,hgm3⟩:=q4z XhE.o XhA.o XhKW.o hstep hst' hheld';obtain⟨rows,hrows0⟩:=ex ((LJ.pos q).filter (qjp a ts));rw [hrows0]at hrows;have hVl:c.V<W.heap.size:=qe (Xhg.o.hold _ _ XhB.o.row);have hKl:c.K<W.heap.size:=qe Xhkr.o;have hzWm:W.heap.size<=Wm.heap.size:=Nat.le_trans XhKW.o.size hstep.keep.size;have hrh:RowsHeld c gm Wm v rows:=by
    obtain⟨us,h1,h2,h3,h4⟩:=hrows;have hz:=XhKW.o.size;exact⟨us,h1,h2,fun b hb=>⟨hgm3 b (by have:=(h3 b hb).2;omega) (h3 b hb).1 (World.ownsRow.lt h2 b hb).2,by have:=(h3 b hb).2;exact⟨by omega,by omega⟩⟩,fun k u t hu ht=>⟨(h4 k u t hu ht).1,fun b hb=>⟨hgm3 b (by have:=((h4 k u t hu ht).2 b hb).2;omega) ((h4 k u t hu ht).2 b hb).1 (World.ownsRow.lt (h4 k u t hu ht).1 b hb).2,by have:=((h4 k u t hu ht).2 b hb).2;exact⟨by omega,by omega⟩⟩⟩⟩
   obtain⟨av,cv,rfl,hrmax,hrg⟩:=hrh.get (U:=U) (W0:=W0);simp only [maxLen]at hrmax;have hrl: ∀(j:Nat) (t:List ByteArray),rows[j]?=some t->t.length=ts.length:=fun j t hj=>by
    have:=mem_of_getElem? hj;rw [←hrows0,mem_filter,←Xq5.o]at this;rw [(qay.1 (mem_of_mem_take this.1)).2,Xhta.o]
   have hrs: ∀(j:Nat) (t:List ByteArray) (s:ByteArray),rows[j]?=some t->s∈t->s.size<=1073741824:=fun j t s hj hs=>by
    have:=mem_of_getElem? hj;rw [←hrows0,mem_filter]at this;exact XhE.o.texts q t s this.1 hs
   have hrun:qbh LJ c.r.body (c.steps.drop i) a=rows.flatMap (qha LJ c.r.body ts (c.steps.drop (i+1)) a):=by
    rw [Xhdrop.o,qxm XhLd.o hkd0,Xhts.o,hrows0]
   obtain⟨rf,hrf⟩:=ex (qha LJ c.r.body ts (c.steps.drop (i+1)) a);rw [hrf]at hrun;have hbase: ∀ans X,StepEnd c U Vw all Jp Jx k0 (rows.flatMap rf).length gm Wm a kn ans X->StepEnd c U Vw all Jp Jx k0 (qbh LJ c.r.body (c.steps.drop i) a).length g W a kn ans X:=fun ans X h=>by
    rw [hrun];exact h.base hgm1 hgm2 hzWm
   have hbase2: ∀m X,StepEnd c U Vw all Jp Jx k0 m gm Wm a kn false X->StepEnd c U Vw all Jp Jx k0 (qbh LJ c.r.body (c.steps.drop i) a).length g W a kn false X:=fun m X h=>by
    obtain⟨g',vals',h1,h2,h3,h4,h5,h6,h7,h8,h9⟩:=h.base hgm1 hgm2 hzWm;exact⟨g',vals',h1,h2,h3,h4,h5,h6,h7,h8,by rcases h9 with ⟨h,-⟩ |h;cases h;exact .inr h⟩
   have hnb:gm.held Nb=some (.cells #[.pointer (some ⟨S,0,none⟩),.string k.pred,.int .i64 (k.arity:Int),.int .i64 (k.upto:Int)] 161 (0,0))∨True:=.inr trivial;clear hrows hrh hgm3 hstep hst' hheld' hnb mb0 mb1 mb2 mb3 lNb hrun;refine qd9 ?_ hAm hgm1 hgm2 hrg hrl hrs hrf hbase hbase2 hrows0;clear hAm hgm1 hgm2 hrg hrl hrs hrf hbase hbase2 hrows0;intro XhAm Xhgm1 Xhgm2 Xhrg Xhrl Xhrs Xhrf Xhbase Xhbase2 Xhrows0;gi_wp2;gi_loopw [157] (fun i' X=> ∃j:Nat,j<=rows.length/\i'=.int .i64 (j:Int)/\StepEnd c U Vw all Jp Jx k0 ((rows.take j).flatMap rf).length gm Wm a kn true X) (fun i _=>rows.length-(intOf i).toNat)
   case atStart=>exact⟨0,by omega,rfl,StepEnd.none XhE.o XhAm.o (Keep.refl _ _)⟩
   case round=>
    obtain⟨j,hj,rfl,hSE⟩:=hrel;obtain⟨Xj,hXj⟩: ∃Xj,Xj=wr:=⟨_,rfl⟩;subst hXj;by_cases hlt:j<rows.length
    ·have hlt1:(j:Int)<rows.length:=by omega
     have hj0:(0:Int)<=j:=by omega
     obtain⟨t,ht⟩: ∃t,rows[j]?=some t:=⟨_,getElem?_eq_getElem hlt⟩;have htl2:=Xhrl.o j t ht;have hts2:=Xhrs.o j t;obtain⟨gb,ua,uc,hav,hrj,hrc⟩:=Xhrg.o j t ht;subst hav;have hWX:=hSE.same XhE.o;obtain⟨g2,vals2,e1,e2,e3,e4,e5,e6,e7,e8,e9⟩:=hSE;obtain⟨m,hm⟩:=ex (((rows.take j).flatMap rf).length);rw [hm]at e9;have hj9:Jp (k0+m) g2 Xj:=by
      rcases e9 with ⟨-,h⟩ |⟨h,-⟩
      ·exact h
      ·cases h
     have hgc:=hrj Xj hWX;have lgb:=World.block_lt_of_cell? _ _ hgc;simp only at lgb;have hVX:c.V<Xj.heap.size:=by omega
     have hKX:c.K<Xj.heap.size:=by omega
     have hnUX:nU<=Xj.heap.size:=(XhE.o.hV Xj e2).2;have hUX: ∀b,U b->b<Xj.heap.size:=fun b hb=>by have:=XhE.o.hU b hb;omega
     have hSM: ∀g3 X vals3 kn3,MidAt n0 c Vw g2 Xj g3 X vals3 kn3->SameW c U gm W0 X:=fun g3 X vals3 kn3 hX=>SameW.of hX.step.inv (fun b o hb hn=>(hX.held b hn).trans (e6 b o hb hn)) (XhE.o.hV X hX.v).1;have hPM: ∀g3 X vals3 kn3,MidAt n0 c Vw g2 Xj g3 X vals3 kn3->qge c vals kn i q L k sb sc ab oa cb tb ot ct vsa vsc nU (some ⟨S,0,none⟩) 1 X:=fun g3 X vals3 kn3 hX=>Xhpre.o X ((hSM g3 X vals3 kn3 hX).sub Xhgm1.o);have hgo: ∀g6 Z vals6,MidAt n0 c Vw g2 Xj g6 Z vals6 kn->qdu c.vars vals6 kn a->rf t= []->StepEnd c U Vw all Jp Jx k0 ((rows.take (j+1)).flatMap rf).length gm Wm a kn true Z:=fun g6 Z vals6 h1 h2 h3=>by
      rw [qsf rf rows j t ht,h3,append_nil,hm];exact qvi XhE.o e4 e3 hUX e6 e7 (.inl ⟨rfl,hj9⟩) h1 h2
     have hst:RowIn n0 c Vw a kn ts t g2 Xj 0 (.slice none 0 0) Xj:=RowIn.start e1 e5 e2 e8;have hon: ∀x X,RowIn n0 c Vw a kn ts t g2 Xj ts.length x X-> ∃gh vals' ac mine,StepAt n1 c LJ U Vw all Jp (i+1) (k0+m) gh X ac vals' (qbj kn mine true)/\(∀b,b<Xj.heap.size->c.nv b->gh.held b=g2.held b)/\(∀S f,gm.st S=some f-> ∃d,gh.st S=some (f++d))/\(∀p,p∈mine->kn[p]?=some false)/\mine.length<=ts.length/\
       X.ownsRow Xj.heap.size 3 1 x mine.length (mine.map fun p:Nat=>Value.int .i64 (p:Int))/\(∀b,x.ownBlock=some b->gh.held b=X.heap[b]?/\c.nv b)/\rf t=qbh LJ c.r.body (c.steps.drop (i+1)) ac/\ExtA a ac:=fun x X h=>by
      have:=h.on XhE.o (m:=m) XhAm.o Xhdrop.o XhLd.o hkd0 Xhts.o e1 e3 hUX e4 e7 hj9 (fun ac hac r b hb=>?_) htl2.symm hVX hKX
      ·rw [Xhrf.o]at this;exact this
      ·have h1:(rf t)[r]?=some b:=by
        rw [←Xhrf.o];unfold qha;rw [hac];exact hb
       have h2:=qzo rf ht h1;rw [hm]at h2;have h3:=XhAm.o.told (m+r) b (by
        rw [Xhdrop.o,qxm XhLd.o hkd0,Xhts.o,Xhrows0.o,Xhrf.o];exact h2)
       rw [←Nat.add_assoc]at h3;exact h3
     have hgo2: ∀(ans:Bool) (gh:Gh) (ac:Asg) (kn3:List Bool) (X8 Z:World) (g6:Gh) (vals6:List ByteArray) (mm:List Asg),(∀b,b<Xj.heap.size->c.nv b->gh.held b=g2.held b)->(∀S f,gm.st S=some f-> ∃d,gh.st S=some (f++d))->Xj.heap.size<=X8.heap.size->rf t=mm->ExtA a ac->
       ∀(g5:Gh) (Y:World) (vals5:List ByteArray),GInv g5 Y->Vw Y->(∀b,U b->g5.free b)->X8.heap.size<=Y.heap.size->(∀b o,gh.held b=some o->c.nv b->g5.held b=some o)->(∀S f,gh.st S=some f-> ∃d,g5.st S=some (f++d))->qdu c.vars vals5 kn3 ac->((ans=true/\Jp (k0+m+mm.length) g5 Y)∨(ans=false/\ ∃k,k<all.length/\Jx k g5 Y))->
       MidAt n0 c Vw g5 Y g6 Z vals5 kn->StepEnd c U Vw all Jp Jx k0 ((rows.take (j+1)).flatMap rf).length gm Wm a kn ans Z:=fun ans gh ac kn3 X8 Z g6 vals6 mm h1 h2 hz hmm hext g5 Y vals5 p1 p2 p3 p4 p5 p6 p7 p8 hM=>by
      rw [qsf rf rows j t ht,length_append,hm,hmm];refine qvi XhE.o (by omega) p3 (fun b hb=>by have:=hUX b hb;omega) (fun b o hb hn=>p5 b o ((h1 b (qe (e1.hold b o (e6 b o hb hn))) hn).trans (e6 b o hb hn)) hn) (fun S f hS=>?_) (by rw [←Nat.add_assoc];exact p8) hM (qo5 e8 p7 hext);obtain⟨d,hd⟩:=h2 S f hS;obtain⟨d2,hd2⟩:=p6 S _ hd;exact⟨d++d2,by rw [hd2,append_assoc]⟩
     clear hrj hWX e9 hj9;refine qc5 ?_ hgo hgo2 hon hPM hSM hrc hUX hst htl2 hts2 e1 e2 e3 e5 e6 e7;clear hgo hgo2 hon hPM hSM hrc hUX hst htl2 hts2 e1 e2 e3 e5 e6 e7;intro Xhgo Xhgo2 Xhon XhPM XhSM Xhrc XhUX Xhst Xhtl2 Xhts2 Xe1 Xe2 Xe3 Xe5 Xe6 Xe7;refine Ink.hd3 ?_ e8 ht hm;clear e8 ht hm;intro Xe8 Xht Xhm;gi_wp2;gi_loopw [22,163] (fun x22 i' X=> ∃cc:Nat,cc<=(qv L).length/\i'=.int .i64 (cc:Int)/\RowIn n0 c Vw a kn ts t g2 Xj cc x22 X) (fun _ i _=>(qv L).length-(intOf i).toNat)
     case atStart=>exact⟨0,by omega,rfl,Xhst.o⟩
     case round=>
      obtain⟨cc,hcc,rfl,hRI⟩:=hrel;by_cases hcl:cc<(qv L).length
      ·have hcl1:(cc:Int)<(qv L).length:=by omega
       have hc0:(0:Int)<=cc:=by omega
       have hcts:cc<ts.length:=by rw [←Xhll3.o];exact hcl
       obtain⟨tt,htt⟩: ∃tt,ts[cc]?=some tt:=⟨_,getElem?_eq_getElem hcts⟩;have hct:cc<t.length:=by rw [Xhtl2.o];exact hcts
       have hct1:(cc:Int)<t.length:=by omega
       obtain⟨y0,hy0⟩: ∃y0,t[cc]?=some y0:=⟨_,getElem?_eq_getElem hct⟩;obtain⟨ub,hua,hrcc⟩:=Xhrc.o cc y0 hy0;subst hua;have htm:=mem_of_getElem? htt;obtain⟨g3,vals3,ac,mine,hM,hfit,hasg,hmf,hml,ho22⟩:=hRI;have hPr:=XhPM.o g3 wr vals3 _ hM;obtain⟨zb,zo,hvsa,hzb,s1,s2⟩:=Xhslot.o wr hPr cc tt htt;subst hvsa;have hzw:zb<wr.heap.size:=by have:=hM.step.keep.size;omega
       obtain⟨a22,c22,rfl⟩:=qi ho22;cases hv:tt.var with
       |false=>
        have hs:=Xhconst.o tt hv;have hy:qy ac tt=some tt.text:=by unfold qy;rw [if_neg (by rw [hv];simp)]
        rw [hs]at s1 s2;simp only at s1 s2;have htc: ∀X,MidAt n0 c Vw g2 Xj g3 X vals3 (qbj kn mine true)->Calls prog 86 #[.agg #[.int .i64 (-1),.string tt.text],qj c.Bv] X fun e w'=>e=.returned (.string tt.text)/\Keep (fun _=>True) X w':=fun X hX=>by
         have:=qg2 XhE.o hasg (Xhvin.o tt htm) hy (hX.wk.vals hX.step.inv);rw [hs]at this;exact this
        obtain⟨Nx,hNx⟩:=ex (wr.heap.size);obtain⟨Wb,hWb⟩:=ex (wr.alloc (.cells #[.int .i64 (-1),.string tt.text] 93));have kb:Keep (fun _=>True) wr Wb:=by rw [←hWb];exact kAl
        have nbx:Wb.heap[Nx]?=some (.cells #[.int .i64 (-1),.string tt.text] 93 (0,0)):=by rw [←hWb,←hNx];exact qh _ _
        have hMb:=(hM.own XhE.o kb).own XhE.o kDr;have nbx2:=(Keep.drew (fun _=>True) _).heap nbx trivial;have hS3: ∀X,MidAt n0 c Vw g2 Xj g3 X vals3 (qbj kn mine true)->X.heap[Nx]?=some (.cells #[.int .i64 (-1),.string tt.text] 93 (0,0))->(X.cell? ⟨c.Bt,0,none⟩=some (.func (.func 86) #[] #[qj c.Bv])/\X.cell? ⟨Nx,0,none⟩=some (.int .i64 (-1))/\X.cell? ⟨Nx,1,none⟩=some (.string tt.text)/\X.cell? ⟨ub,cc,none⟩=some (.string y0)):=fun X hX hx=>by
         have x0:=qb hx 0 _ rfl;have x1:=qb hx 1 _ rfl;simp only [Nat.zero_add]at x0 x1;exact⟨(XhPM.o g3 X vals3 _ hX).2.2.2.2.2.2.2.2.2.2.2.2.2.1,x0,x1,hrcc X (XhSM.o g3 X vals3 _ hX)⟩
        have hT0:=hS3 _ hMb nbx2;have lx:Nx<Wb.heap.size:=qe nbx;clear hPr;refine qc5 ?_ htc hS3 hT0 hMb kb nbx nbx2 hWb hNx hM hfit hasg hmf hml ho22 hy;clear htc hS3 hT0 hMb kb nbx nbx2 hWb hNx hM hfit hasg hmf hml ho22 hy;intro Xhtc XhS3 XhT0 XhMb Xkb Xnbx Xnbx2 XhWb XhNx XhM Xhfit Xhasg Xhmf Xhml Xho22 Xhy;refine hd6 ?_ hs htt hy0 hrcc htm lx;clear hs htt hy0 hrcc htm lx;intro Xhs Xhtt Xhy0 Xhrcc Xhtm Xlx;gi_wp2;rw [XhWb.o,XhNx.o];refine qab ?_;refine qx rfl (fun X=>(X.cell? ⟨c.Bt,0,none⟩=some (.func (.func 86) #[] #[qj c.Bv])/\X.cell? ⟨Nx,0,none⟩=some (.int .i64 (-1))/\X.cell? ⟨Nx,1,none⟩=some (.string tt.text)/\X.cell? ⟨ub,cc,none⟩=some (.string y0))) [] ?_;refine qam [0,1,3,4,5,6] ?_
        iterate 6
         refine tkR (v:=?_) rfl XhT0.o ?_ ?_;rotate_left
         ·rintro Wq ⟨y1,y2,y3,y4⟩;go_simp
          try with_reducible rfl
         try simp only [qan]
        refine qu ?_;refine hoR 2 rfl fun K XhK0=>?_;gi_wp2;refine⟨trivial,rfl,(callsIn_wide.2 (Xhtc.o _ XhMb.o)).mono ?_⟩;rintro e W6 ⟨rfl,k6⟩;have hM6:=XhMb.o.own XhE.o k6;have hK6:Keep (fun _=>True) wr W6:=(Xkb.o.trans kDr).trans k6;have hT6:=XhS3.o W6 hM6 (k6.heap Xnbx2.o trivial);clear k6;refine Ink.hd3 ?_ hM6 hT6 hK6;clear hM6 hT6 hK6;intro XhM6 XhT6 XhK6;gi_wp2;refine XhK0.o _ _ (fun _=>XhT6.o) ?_;by_cases hyy:tt.text=y0
        ·have hst3:=qhm hyy;have hrow:RowIn n0 c Vw a kn ts t g2 Xj (cc+1) (.slice a22 mine.length c22) W6:=RowIn.same XhE.o XhM.o Xhfit.o Xhasg.o Xhmf.o Xhml.o Xho22.o Xhtt.o (by rw [Xhy0.o,hyy]) Xhy.o XhK6.o;clear hyy;refine hd1 ?_ hrow;clear hrow;intro Xhrow;refine qam [7] ?_
         iterate 1
          refine tkR (v:=?_) rfl XhT6.o ?_ ?_;rotate_left
          ·rintro Wq ⟨y1,y2,y3,y4⟩;go_simp
           try simp only [hst3]
           try with_reducible rfl
          try simp only [qan]
         refine qu ?_;refine qk (by kernel_rfl) (qm ?_);clear XhK0;gi_wp2;go_roundw
         case rel=>exact⟨cc+1,by omega,by go_num,Xhrow.o⟩
         case measure=>simp [intOf];omega
        ·have hst3:=qfq hyy;have hmiss:qcd a ts t=none:=(qkm Xhtt.o Xhy0.o Xhfit.o).2.2 _ Xhy.o hyy;have hrf0:rf t= []:=by rw [←Xhrf.o];unfold qha;rw [hmiss]
         have ho6:=qg Xho22.o XhK6.o (fun _ _=>trivial);have hmm:mine.length<=1073741824:=by have:=Xhml.o;have:=Xhtl.o;omega
         clear hyy hmiss;refine Ink.hd2 ?_ hrf0 ho6;clear hrf0 ho6;intro Xhrf0 Xho6;refine qam [7] ?_
         iterate 1
          refine tkR (v:=?_) rfl XhT6.o ?_ ?_;rotate_left
          ·rintro Wq ⟨y1,y2,y3,y4⟩;go_simp
           try simp only [hst3]
           try with_reducible rfl
          try simp only [qan]
         refine qu ?_;refine qk (by kernel_rfl) (qm ?_);clear XhK0;gi_wp2;gi_loopw [188] (fun i' X=> ∃q':Nat,q'<=mine.length/\i'=.int .i64 (q':Int)/\ClearIn n0 c Vw vals3 (qbj kn mine true) mine Xj.heap.size g2 Xj q' (.slice a22 mine.length c22) X) (fun i _=>mine.length-(intOf i).toNat)
         case atStart=>exact⟨0,by omega,rfl,g3,XhM6.o,Xho6.o⟩
         case round=>
          obtain⟨q',hq',rfl,hC⟩:=hrel;by_cases hlq:q'<mine.length
          ·have hlq1:(q':Int)<mine.length:=by omega
           have hlq0:(0:Int)<=q':=by omega
           obtain⟨p',hp'⟩: ∃p',mine[q']?=some p':=⟨_,getElem?_eq_getElem hlq⟩;have hpk':p'<kn.length:=(List.getElem?_eq_some_iff.1 (Xhmf.o p' (mem_of_getElem? hp'))).1;have hpk1:(p':Int)<kn.length:=by omega
           have hpk0:(0:Int)<=p':=by omega
           have hnext:=hC.next XhE.o XhUK.o hp' hKX;obtain⟨g4,hM4,ho4⟩:=hC;obtain⟨b22,hb22⟩: ∃b22,a22=some ⟨b22,0,none⟩:=by
            rcases ho4.2 with e |⟨gb',cap,cur,e1',_⟩
            ·have:=e.2;omega
            ·injection e1' with e1' _ _;exact⟨_,e1'⟩
           subst hb22;have hcm:=qb7 ho4 q' _ (qo8 hp');have lbm:=World.block_lt_of_cell? _ _ hcm;have hbk4:=(XhPM.o g4 wr vals3 _ hM4).2.2.2.2.2.2.2.2.2.2.2.2.2.2.2.2.2.1;have lbk4:=World.block_lt_of_cell? _ _ hbk4;have hkb4:=hM4.step.inv.hold _ _ hM4.wk.knr;have lK4:=qe hkb4;have hfr4:=qf hkb4 p';obtain⟨bv,hbv⟩: ∃bv,(qbj (qbj kn mine true) (mine.take q') false)[p']?=some bv:=⟨_,getElem?_eq_getElem (by rw [qgs,qgs];exact hpk')⟩;have hkc4:=qb hkb4 p' (.bool bv) (by simp [getElem?_map,hbv]);simp only [Nat.zero_add]at hkc4;clear hkb4 hbv;simp only at lbm lbk4;clear hM4 ho4 hp';refine hd1 ?_ hnext;clear hnext;intro Xhnext;gi_wp2;go_roundw
           case rel=>exact⟨q'+1,by omega,by go_num,Xhnext.o⟩
           case measure=>simp [intOf];omega
          ·obtain rfl:q'=mine.length:=by omega
           obtain⟨g4,hM4,-⟩:=hC;rw [take_length,ql8 Xhmf.o]at hM4;have hnx:=Xhgo.o g4 wr vals3 hM4 (qo5 Xe8.o Xhasg.o (qfn Xhfit.o).1) Xhrf0.o;clear hM4;refine hd1 ?_ hnx;clear hnx;intro Xhnx;gi_wp2;go_roundw
           case rel=>exact⟨j+1,by omega,by go_num,Xhnx.o⟩
           case measure=>simp [intOf];omega
       |true=>
        obtain⟨p,hs,hp,hpl2⟩:=Xhvar.o tt htm hv;rw [hs]at s1 s2;simp only at s1 s2;have hp0:(0:Int)<=p:=by omega
        have hpn0: ¬((p:Int)<0):=by omega
        have hpk:(p:Int)<kn.length:=by rw [XhA.o.asg.lk];omega
        have hbk:=hPr.2.2.2.2.2.2.2.2.2.2.2.2.2.2.2.2.2.1;have lbk:=World.block_lt_of_cell? _ _ hbk;simp only at lbk;have hkc:(qbj kn mine true)[p]?=some (qy ac tt).isSome:=by
         have:=qxj hasg (Xhvin.o tt htm) hv;unfold qaw at hs;rw [if_pos hv]at hs;injection hs with h1 _
         have h2:c.vars.idxOf tt.text=p:=by omega
         rw [h2]at this;exact this
        have hkK:=hM.step.inv.hold _ _ hM.wk.knr;have hkcell:wr.cell? ⟨c.K,p,none⟩=some (.bool (qy ac tt).isSome):=by
         have:=qb hkK p (.bool (qy ac tt).isSome) (by simp [getElem?_map,hkc])
         simpa using this
        have lK:=qe hkK;clear hkK;cases hy:qy ac tt with
        |some y=>
         rw [hy]at hkcell;simp only [Option.isSome_some]at hkcell;clear hkc;have htc: ∀X,MidAt n0 c Vw g2 Xj g3 X vals3 (qbj kn mine true)->Calls prog 86 #[.agg #[.int .i64 (p:Int),.string ⟨#[]⟩],qj c.Bv] X fun e w'=>e=.returned (.string y)/\Keep (fun _=>True) X w':=fun X hX=>by
          have:=qg2 XhE.o hasg (Xhvin.o tt htm) hy (hX.wk.vals hX.step.inv);rw [hs]at this;exact this
         obtain⟨Nx,hNx⟩:=ex (wr.heap.size);obtain⟨Wb,hWb⟩:=ex (wr.alloc (.cells #[.int .i64 (p:Int),.string ⟨#[]⟩] 93));have kb:Keep (fun _=>True) wr Wb:=by rw [←hWb];exact kAl
         have nbx:Wb.heap[Nx]?=some (.cells #[.int .i64 (p:Int),.string ⟨#[]⟩] 93 (0,0)):=by rw [←hWb,←hNx];exact qh _ _
         have hMb:=(hM.own XhE.o kb).own XhE.o kDr;have nbx2:=(Keep.drew (fun _=>True) _).heap nbx trivial;have hS3: ∀X,MidAt n0 c Vw g2 Xj g3 X vals3 (qbj kn mine true)->X.heap[Nx]?=some (.cells #[.int .i64 (p:Int),.string ⟨#[]⟩] 93 (0,0))->(X.cell? ⟨c.Bt,0,none⟩=some (.func (.func 86) #[] #[qj c.Bv])/\X.cell? ⟨Nx,0,none⟩=some (.int .i64 (p:Int))/\X.cell? ⟨Nx,1,none⟩=some (.string ⟨#[]⟩)/\X.cell? ⟨ub,cc,none⟩=some (.string y0)):=fun X hX hx=>by
          have x0:=qb hx 0 _ rfl;have x1:=qb hx 1 _ rfl;simp only [Nat.zero_add]at x0 x1;exact⟨(XhPM.o g3 X vals3 _ hX).2.2.2.2.2.2.2.2.2.2.2.2.2.1,x0,x1,hrcc X (XhSM.o g3 X vals3 _ hX)⟩
         have hT0:=hS3 _ hMb nbx2;have lx:Nx<Wb.heap.size:=qe nbx;clear hPr;refine qc5 ?_ htc hS3 hT0 hMb kb nbx nbx2 hWb hNx hM hfit hasg hmf hml ho22 hy;clear htc hS3 hT0 hMb kb nbx nbx2 hWb hNx hM hfit hasg hmf hml ho22 hy;intro Xhtc XhS3 XhT0 XhMb Xkb Xnbx Xnbx2 XhWb XhNx XhM Xhfit Xhasg Xhmf Xhml Xho22 Xhy;refine hd6 ?_ hs htt hy0 hrcc htm lx;clear hs htt hy0 hrcc htm lx;intro Xhs Xhtt Xhy0 Xhrcc Xhtm Xlx;gi_wp2;rw [XhWb.o,XhNx.o];refine qab ?_;refine qx rfl (fun X=>(X.cell? ⟨c.Bt,0,none⟩=some (.func (.func 86) #[] #[qj c.Bv])/\X.cell? ⟨Nx,0,none⟩=some (.int .i64 (p:Int))/\X.cell? ⟨Nx,1,none⟩=some (.string ⟨#[]⟩)/\X.cell? ⟨ub,cc,none⟩=some (.string y0))) [] ?_;refine qam [0,1,3,4,5,6] ?_
         iterate 6
          refine tkR (v:=?_) rfl XhT0.o ?_ ?_;rotate_left
          ·rintro Wq ⟨y1,y2,y3,y4⟩;go_simp
           try with_reducible rfl
          try simp only [qan]
         refine qu ?_;refine hoR 2 rfl fun K XhK0=>?_;gi_wp2;refine⟨trivial,rfl,(callsIn_wide.2 (Xhtc.o _ XhMb.o)).mono ?_⟩;rintro e W6 ⟨rfl,k6⟩;have hM6:=XhMb.o.own XhE.o k6;have hK6:Keep (fun _=>True) wr W6:=(Xkb.o.trans kDr).trans k6;have hT6:=XhS3.o W6 hM6 (k6.heap Xnbx2.o trivial);clear k6;refine Ink.hd3 ?_ hM6 hT6 hK6;clear hM6 hT6 hK6;intro XhM6 XhT6 XhK6;gi_wp2;refine XhK0.o _ _ (fun _=>XhT6.o) ?_;by_cases hyy:y=y0
         ·have hst3:=qhm hyy;have hrow:RowIn n0 c Vw a kn ts t g2 Xj (cc+1) (.slice a22 mine.length c22) W6:=RowIn.same XhE.o XhM.o Xhfit.o Xhasg.o Xhmf.o Xhml.o Xho22.o Xhtt.o (by rw [Xhy0.o,hyy]) Xhy.o XhK6.o;clear hyy;refine hd1 ?_ hrow;clear hrow;intro Xhrow;refine qam [7] ?_
          iterate 1
           refine tkR (v:=?_) rfl XhT6.o ?_ ?_;rotate_left
           ·rintro Wq ⟨y1,y2,y3,y4⟩;go_simp
            try simp only [hst3]
            try with_reducible rfl
           try simp only [qan]
          refine qu ?_;refine qk (by kernel_rfl) (qm ?_);clear XhK0;gi_wp2;go_roundw
          case rel=>exact⟨cc+1,by omega,by go_num,Xhrow.o⟩
          case measure=>simp [intOf];omega
         ·have hst3:=qfq hyy;have hmiss:qcd a ts t=none:=(qkm Xhtt.o Xhy0.o Xhfit.o).2.2 _ Xhy.o hyy;have hrf0:rf t= []:=by rw [←Xhrf.o];unfold qha;rw [hmiss]
          have ho6:=qg Xho22.o XhK6.o (fun _ _=>trivial);have hmm:mine.length<=1073741824:=by have:=Xhml.o;have:=Xhtl.o;omega
          clear hyy hmiss;refine Ink.hd2 ?_ hrf0 ho6;clear hrf0 ho6;intro Xhrf0 Xho6;refine qam [7] ?_
          iterate 1
           refine tkR (v:=?_) rfl XhT6.o ?_ ?_;rotate_left
           ·rintro Wq ⟨y1,y2,y3,y4⟩;go_simp
            try simp only [hst3]
            try with_reducible rfl
           try simp only [qan]
          refine qu ?_;refine qk (by kernel_rfl) (qm ?_);clear XhK0;gi_wp2;gi_loopw [188] (fun i' X=> ∃q':Nat,q'<=mine.length/\i'=.int .i64 (q':Int)/\ClearIn n0 c Vw vals3 (qbj kn mine true) mine Xj.heap.size g2 Xj q' (.slice a22 mine.length c22) X) (fun i _=>mine.length-(intOf i).toNat)
          case atStart=>exact⟨0,by omega,rfl,g3,XhM6.o,Xho6.o⟩
          case round=>
           obtain⟨q',hq',rfl,hC⟩:=hrel;by_cases hlq:q'<mine.length
           ·have hlq1:(q':Int)<mine.length:=by omega
            have hlq0:(0:Int)<=q':=by omega
            obtain⟨p',hp'⟩: ∃p',mine[q']?=some p':=⟨_,getElem?_eq_getElem hlq⟩;have hpk':p'<kn.length:=(List.getElem?_eq_some_iff.1 (Xhmf.o p' (mem_of_getElem? hp'))).1;have hpk1:(p':Int)<kn.length:=by omega
            have hpk0:(0:Int)<=p':=by omega
            have hnext:=hC.next XhE.o XhUK.o hp' hKX;obtain⟨g4,hM4,ho4⟩:=hC;obtain⟨b22,hb22⟩: ∃b22,a22=some ⟨b22,0,none⟩:=by
             rcases ho4.2 with e |⟨gb',cap,cur,e1',_⟩
             ·have:=e.2;omega
             ·injection e1' with e1' _ _;exact⟨_,e1'⟩
            subst hb22;have hcm:=qb7 ho4 q' _ (qo8 hp');have lbm:=World.block_lt_of_cell? _ _ hcm;have hbk4:=(XhPM.o g4 wr vals3 _ hM4).2.2.2.2.2.2.2.2.2.2.2.2.2.2.2.2.2.1;have lbk4:=World.block_lt_of_cell? _ _ hbk4;have hkb4:=hM4.step.inv.hold _ _ hM4.wk.knr;have lK4:=qe hkb4;have hfr4:=qf hkb4 p';obtain⟨bv,hbv⟩: ∃bv,(qbj (qbj kn mine true) (mine.take q') false)[p']?=some bv:=⟨_,getElem?_eq_getElem (by rw [qgs,qgs];exact hpk')⟩;have hkc4:=qb hkb4 p' (.bool bv) (by simp [getElem?_map,hbv]);simp only [Nat.zero_add]at hkc4;clear hkb4 hbv;simp only at lbm lbk4;clear hM4 ho4 hp';refine hd1 ?_ hnext;clear hnext;intro Xhnext;gi_wp2;go_roundw
            case rel=>exact⟨q'+1,by omega,by go_num,Xhnext.o⟩
            case measure=>simp [intOf];omega
           ·obtain rfl:q'=mine.length:=by omega
            obtain⟨g4,hM4,-⟩:=hC;rw [take_length,ql8 Xhmf.o]at hM4;have hnx:=Xhgo.o g4 wr vals3 hM4 (qo5 Xe8.o Xhasg.o (qfn Xhfit.o).1) Xhrf0.o;clear hM4;refine hd1 ?_ hnx;clear hnx;intro Xhnx;gi_wp2;go_roundw
            case rel=>exact⟨j+1,by omega,by go_num,Xhnx.o⟩
            case measure=>simp [intOf];omega
        |none=>
         rw [hy]at hkc hkcell;simp only [Option.isSome_none]at hkc hkcell;have hpv:(p:Int)<vals.length:=by rw [XhA.o.asg.lv];omega
         obtain⟨Nx,hNx⟩:=ex (wr.heap.size);obtain⟨Wb,hWb⟩:=ex (wr.alloc (.cells #[.int .i64 (p:Int),.string ⟨#[]⟩] 93));have kb:Keep (fun _=>True) wr Wb:=by rw [←hWb];exact kAl
         have nbx:Wb.heap[Nx]?=some (.cells #[.int .i64 (p:Int),.string ⟨#[]⟩] 93 (0,0)):=by rw [←hWb,←hNx];exact qh _ _
         have hMb:=(hM.own XhE.o kb).own XhE.o kDr;have nbx2:=(Keep.drew (fun _=>True) _).heap nbx trivial;obtain⟨Wd,hWd⟩:=ex (Wb.drew);have kd:Keep (fun _=>True) Wb Wd:=by rw [←hWd];exact kDr
         rw [hWd]at hMb nbx2;have hS4: ∀g4 X vals4 kn4,MidAt n0 c Vw g2 Xj g4 X vals4 kn4->X.heap[Nx]?=some (.cells #[.int .i64 (p:Int),.string ⟨#[]⟩] 93 (0,0))->(X.cell? ⟨c.Bk,0,none⟩=some (.slice (some ⟨c.K,0,none⟩) kn.length kn.length)/\X.cell? ⟨Nx,0,none⟩=some (.int .i64 (p:Int))/\X.cell? ⟨c.Bv,0,none⟩=some (.slice (some ⟨c.V,0,none⟩) vals.length vals.length)/\X.cell? ⟨ub,cc,none⟩=some (.string y0)):=fun g4 X vals4 kn4 hX hx=>by
          have x0:=qb hx 0 _ rfl;simp only [Nat.zero_add]at x0;have hp4:=XhPM.o g4 X vals4 kn4 hX;exact⟨hp4.2.2.2.2.2.2.2.2.2.2.2.2.2.2.2.2.2.1,x0,hp4.2.2.2.2.2.2.2.2.2.2.2.2.2.2.2.2.1,hrcc X (XhSM.o g4 X vals4 kn4 hX)⟩
         have hT0:=hS4 _ _ _ _ hMb nbx2;obtain⟨gK,hMK⟩:=hMb.setK XhE.o XhUK.o p true;obtain⟨gV,hMV⟩:=hMK.setV XhE.o XhUV.o p y0;have hkbK:=hMb.step.inv.hold _ _ hMb.wk.knr;have hkbV:=hMK.step.inv.hold _ _ hMK.wk.row;have frK:=qf hkbK p;have frV:=qf hkbV p;have cKp:=qb hkbK p (.bool false) (by simp [getElem?_map,hkc]);obtain⟨ov,hov⟩: ∃ov,vals3[p]?=some ov:=⟨_,getElem?_eq_getElem (by rw [hasg.lv];exact hpl2)⟩;have cVp:=qb hkbV p (.string ov) (by simp [getElem?_map,hov]);simp only [Nat.zero_add]at cKp cVp;clear hkbK hkbV hov;have hNX:Xj.heap.size<=Nx:=by rw [←hNx];exact hM.step.keep.size
         have nbx3:=(Keep.setCell (C:=fun b=>b≠c.K) Wd ⟨c.K,p,none⟩ (.bool true) (by simp)).heap nbx2 (by omega);have nbx4:=(Keep.setCell (C:=fun b=>b≠c.V) (Wd.setCell ⟨c.K,p,none⟩ (.bool true)) ⟨c.V,p,none⟩ (.string y0) (by simp)).heap nbx3 (by omega);have hT1:=hS4 _ _ _ _ hMK nbx3;have hT2:=hS4 _ _ _ _ hMV nbx4;have lx:Nx<Wb.heap.size:=qe nbx;have lbV:c.V<Wd.heap.size:=qe (hMb.step.inv.hold _ _ hMb.wk.row);have lbK:c.K<Wd.heap.size:=qe (hMb.step.inv.hold _ _ hMb.wk.knr);have ho6:=qg (qg ((qg (qg ho22 kb (fun _ _=>trivial)) kd (fun _ _=>trivial))) (Keep.setCell (C:=fun b=>b≠c.K) Wd ⟨c.K,p,none⟩ (.bool true) (by simp)) (fun b hb=>by have:=(World.ownsRow.lt ho22 b hb).1;omega)) (Keep.setCell (C:=fun b=>b≠c.V) (Wd.setCell ⟨c.K,p,none⟩ (.bool true)) ⟨c.V,p,none⟩ (.string y0) (by simp)) (fun b hb=>by have:=(World.ownsRow.lt ho22 b hb).1;omega);obtain⟨W6,hW6⟩:=ex ((Wd.setCell ⟨c.K,p,none⟩ (.bool true)).setCell ⟨c.V,p,none⟩ (.string y0));rw [hW6]at ho6 nbx4;have nn0:=qb nbx4 0 _ rfl;have ln:=qe nbx4;simp only [Nat.zero_add]at nn0;have hmm:mine.length<=1073741824:=by have:=Xhtl.o;omega
         obtain⟨v',W7,hr7,ho7,k7,g7,cap7,hv7,hgo7,hg7⟩:=qc4 (P:=prog) qk9 86 ho6 [.int .i64 (p:Int)] rfl (by simp [Value.oneCell']) (by omega) (by have:=hM.step.keep.size;have:=kb.size;have:=kd.size;rw [←hW6];simp;omega);subst hv7;have hrow:RowIn n0 c Vw a kn ts t g2 Xj (cc+1) (.slice (some ⟨g7,0,none⟩) (mine.length+1) cap7) W7:=by
          refine RowIn.bind XhE.o XhUK.o XhUV.o (tt:=tt) (y:=y0) (p:=p) hMb hfit hasg hmf hml Xe1.o hVX hKX XhUX.o htt hy0 hy hp hkc (Xhts2.o y0 Xht.o (mem_of_getElem? hy0)) ?_ ho7;rw [hW6];exact k7.mono fun b _ (hb:b<Xj.heap.size) e=>by have:=(World.ownsRow.lt ho6 b e.symm).1;omega
         clear hPr hkc hrcc nbx nbx2 nbx3 nbx4 hMK hMV hM hfit hasg ho22 ho7 ho6 k7 hgo7;refine qc5 ?_ hS4 hT0 hT1 hT2 hMb kb kd hWd hWb hNx hmf hml hy hs htt hy0;clear hS4 hT0 hT1 hT2 hMb kb kd hWd hWb hNx hmf hml hy hs htt hy0;intro XhS4 XhT0 XhT1 XhT2 XhMb Xkb Xkd XhWd XhWb XhNx Xhmf Xhml Xhy Xhs Xhtt Xhy0;refine hd5 ?_ htm hW6 hr7 hrow hp;clear htm hW6 hr7 hrow hp;intro Xhtm XhW6 Xhr7 Xhrow Xhp;gi_wp2;rw [XhWb.o,XhNx.o];refine qab ?_;refine qx rfl (fun X=>(X.cell? ⟨c.Bk,0,none⟩=some (.slice (some ⟨c.K,0,none⟩) kn.length kn.length)/\X.cell? ⟨Nx,0,none⟩=some (.int .i64 (p:Int))/\X.cell? ⟨c.Bv,0,none⟩=some (.slice (some ⟨c.V,0,none⟩) vals.length vals.length)/\X.cell? ⟨ub,cc,none⟩=some (.string y0))) [] ?_;rw [XhWd.o];refine qam [0,1,2,3,4,5,6,7,8,9,10] ?_
         iterate 11
          refine tkR (v:=?_) rfl XhT0.o ?_ ?_;rotate_left
          ·rintro Wq ⟨y1,y2,y3,y4⟩;go_simp
           try with_reducible rfl
          try simp only [qan]
         refine qu ?_;refine hoR 11 rfl fun K XhK0=>?_;gi_wp2;refine XhK0.o _ _ (fun _=>XhT1.o) ?_;refine qam [12] ?_
         iterate 1
          refine tkR (v:=?_) rfl XhT1.o ?_ ?_;rotate_left
          ·rintro Wq ⟨y1,y2,y3,y4⟩;go_simp
           try with_reducible rfl
          try simp only [qan]
         refine qu ?_;refine hoR 13 rfl fun K XhK1=>?_;gi_wp2;refine XhK1.o _ _ (fun _=>XhT2.o) ?_;refine qk (by kernel_rfl) (qm ?_);clear XhK0 XhK1;rw [XhW6.o]
         gi_wp2_with (gi_at_builtin;refine qch (v:=.slice a22 mine.length c22) (u:=.slice (some ⟨W6.heap.size,0,none⟩) 1 1) (v':=.slice (some ⟨g7,0,none⟩) (mine.length+1) cap7) (w':=W7) rfl (.tmp 208) (.tmp 211) 86 rfl rfl rfl Xhr7.o ?_)
         go_roundw
         case rel=>exact⟨cc+1,by omega,by go_num,Xhrow.o⟩
         case measure=>simp [intOf];omega
      ·obtain rfl:cc=(qv L).length:=by omega
       rw [Xhll3.o]at hRI;have hzx:Xj.heap.size<=wr.heap.size:=by
        obtain⟨_,_,_,_,hM,_⟩:=hRI;exact hM.step.keep.size
       obtain⟨gh,vals',ac,mine,hA1,o1,o2,hmf,o4,o5,o6,o7,o8⟩:=Xhon.o _ _ hRI;obtain⟨a22,c22,rfl⟩:=qi o5;have hmm:mine.length<=1073741824:=by have:=Xhtl.o;omega
       have hc:=ih (k0+m) gh wr ac vals' _ hA1;rw [Xhcast.o]at hc;have hbp:=qb (hA1.inv.hold _ _ hA1.held.p.1) 0 _ rfl;have lbp:=qe (hA1.inv.hold _ _ hA1.held.p.1);simp only [Nat.zero_add]at hbp;clear hRI hcl hcc hA1;refine hd8 ?_ hc o1 o2 o5 o6 o7 o8 hmf;clear hc o1 o2 o5 o6 o7 o8 hmf;intro Xhc Xo1 Xo2 Xo5 Xo6 Xo7 Xo8 Xhmf;gi_wp2;refine⟨trivial,rfl,(callsIn_wide.2 Xhc.o).mono ?_⟩;rintro e W8 ⟨ans,rfl,hend⟩;obtain⟨g5,vals5,p1,p2,p3,p4,p5,p6,p7,p8,p9⟩:=hend;have ho8:=qo7 Xo5.o (w':=W8) (fun b hb=>by
        have h:=Xo6.o b hb;obtain⟨o,ho⟩: ∃o,wr.heap[b]?=some o:=⟨_,Array.getElem?_eq_getElem (World.ownsRow.lt Xo5.o b hb).2⟩;rw [ho];exact p1.hold b o (p6 b o (h.1.trans ho) h.2))
       have hSM5: ∀g4 X vals4 kn4,MidAt n0 c Vw g5 W8 g4 X vals4 kn4->qge c vals kn i q L k sb sc ab oa cb tb ot ct vsa vsc nU (some ⟨S,0,none⟩) 1 X:=fun g4 X vals4 kn4 hX=>Xhpre.o X ((SameW.of (c:=c) (U:=U) (g:=gm) (W0:=W0) hX.step.inv (fun b o hb hn=>(hX.held b hn).trans (p6 b o ((Xo1.o b (qe (Xe1.o.hold b o (Xe6.o b o hb hn))) hn).trans (Xe6.o b o hb hn)) hn)) (XhE.o.hV X hX.v).1).sub Xhgm1.o);have hfin: ∀Z g6,MidAt n0 c Vw g5 W8 g6 Z vals5 kn->StepEnd c U Vw all Jp Jx k0 ((rows.take (j+1)).flatMap rf).length gm Wm a kn ans Z:=fun Z g6 hM=>Xhgo2.o ans gh ac _ wr Z g6 vals5 _ Xo1.o Xo2.o hzx Xo7.o Xo8.o g5 W8 vals5 p1 p2 p3 p4 p6 p7 p8 p9 hM;have hM0:MidAt n0 c Vw g5 W8 g5 W8 vals5 (qbj kn mine true):=MidAt.refl p1 p5 p2;clear p1 p2 p3 p5 p6 p7 p8 p9;refine Ink.hd4 ?_ ho8 hSM5 hfin hM0;clear ho8 hSM5 hfin hM0;intro Xho8 XhSM5 Xhfin XhM0;gi_wp2;gi_loopw [220] (fun i' X=> ∃q':Nat,q'<=mine.length/\i'=.int .i64 (q':Int)/\ClearIn n0 c Vw vals5 (qbj kn mine true) mine Xj.heap.size g5 W8 q' (.slice a22 mine.length c22) X) (fun i _=>mine.length-(intOf i).toNat)
       case atStart=>exact⟨0,by omega,rfl,g5,XhM0.o,Xho8.o⟩
       case round=>
        obtain⟨q',hq',rfl,hC⟩:=hrel;by_cases hlq:q'<mine.length
        ·have hlq1:(q':Int)<mine.length:=by omega
         have hlq0:(0:Int)<=q':=by omega
         obtain⟨p',hp'⟩: ∃p',mine[q']?=some p':=⟨_,getElem?_eq_getElem hlq⟩;have hpk':p'<kn.length:=(List.getElem?_eq_some_iff.1 (Xhmf.o p' (mem_of_getElem? hp'))).1;have hpk1:(p':Int)<kn.length:=by omega
         have hpk0:(0:Int)<=p':=by omega
         have hnext:=hC.next XhE.o XhUK.o hp' hKX;obtain⟨g4,hM4,ho4⟩:=hC;obtain⟨b22,hb22⟩: ∃b22,a22=some ⟨b22,0,none⟩:=by
          rcases ho4.2 with e |⟨gb',cap,cur,e1',_⟩
          ·have:=e.2;omega
          ·injection e1' with e1' _ _;exact⟨_,e1'⟩
         subst hb22;have hcm:=qb7 ho4 q' _ (qo8 hp');have lbm:=World.block_lt_of_cell? _ _ hcm;have hbk4:=(XhSM5.o g4 wr vals5 _ hM4).2.2.2.2.2.2.2.2.2.2.2.2.2.2.2.2.2.1;have lbk4:=World.block_lt_of_cell? _ _ hbk4;have hkb4:=hM4.step.inv.hold _ _ hM4.wk.knr;have lK4:=qe hkb4;have hfr4:=qf hkb4 p';obtain⟨bv,hbv⟩: ∃bv,(qbj (qbj kn mine true) (mine.take q') false)[p']?=some bv:=⟨_,getElem?_eq_getElem (by rw [qgs,qgs];exact hpk')⟩;have hkc4:=qb hkb4 p' (.bool bv) (by simp [getElem?_map,hbv]);simp only [Nat.zero_add]at hkc4;clear hkb4 hbv;simp only at lbm lbk4;clear hM4 ho4 hp';refine hd1 ?_ hnext;clear hnext;intro Xhnext;gi_wp2;go_roundw
         case rel=>exact⟨q'+1,by omega,by go_num,Xhnext.o⟩
         case measure=>simp [intOf];omega
        ·obtain rfl:q'=mine.length:=by omega
         obtain⟨g4,hM4,-⟩:=hC;rw [take_length,ql8 Xhmf.o]at hM4;have hnx:=Xhfin.o wr g4 hM4;clear hM4;cases ans with
         |true=>
          refine hd1 ?_ hnx;clear hnx;intro Xhnx;gi_wp2;go_roundw
          case rel=>exact⟨j+1,by omega,by go_num,Xhnx.o⟩
          case measure=>simp [intOf];omega
         |false=>
          have hex:=Xhbase2.o _ wr hnx;clear hnx;refine hd1 ?_ hex;clear hex;intro Xhex;gi_wp2;rw [Exit.noGoto_ret];go_ret;exact⟨_,rfl,Xhex.o⟩
    ·obtain rfl:j=rows.length:=by omega
     rw [take_length]at hSE;have hend:=Xhbase.o true Xj hSE;clear hSE hlt hj;refine hd1 ?_ hend;clear hend;intro Xhend;gi_wp2;rw [Exit.noGoto_ret];go_ret;exact⟨_,rfl,Xhend.o⟩
end Go.Proofs

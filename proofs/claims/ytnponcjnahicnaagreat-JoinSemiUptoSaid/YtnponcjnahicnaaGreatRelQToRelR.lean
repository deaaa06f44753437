/- Parts of the proof. -/
import Derived.Test.YtnponcjnahicnaaGreatProg
import Derived.Test.YtnponcjnahicnaaGreatRelOToRelP
import Derived.Test.YtnponcjnahicnaaGreatHdToKp
import Derived.Test.YtnponcjnahicnaaGreatHoistToRowC
set_option linter.unusedSimpArgs false
set_option linter.unusedVariables false
open Go.Proofs.Tryz(prog)
open List(all_eq_true filter_eq_nil_iff find?_eq_none find?_some getD_eq_getElem?_getD getElem?_eq_getElem getElem?_map getElem?_range getElem_mem length_take mem_append mem_append_left mem_cons mem_map mem_of_find?_eq_some mem_of_getElem? mem_range mem_singleton nil_append pairwise_cons pairwise_iff_getElem take_add_one take_length)
namespace Go.Proofs.R4
open Go.RowKit Go.Ink
attribute [local go_sem] Oper.semAt_some
theorem q1p: ∀w:World,(zeroValue 180).run prog w=.ok (.pointer none) w:=fun w=>by kernel_rfl
theorem q4a {tag tagN:qb2}{w1 w2:World}{B n:Nat}{ts:List (List Int)}{vD:Value}{P K:Nat}{lm:List (List Bool×Nat)}(h:qb6 tag w1 B n ts vD P K lm){c:List Bool}{L:Nat}{l:List Int}{vl:Value}{M:Nat}{m:List (List Int×Value)}
  (hl:LookAt tagN w1 n ts c L l vl M m) (hN: ∀b T,tagN b=some T->tag b=none/\b<w1.heap.size/\qb5 (some T)=some c) (hc:c∉lm.map (·.1)) (hm:qxd w2 K (setK lm c L)) (hk:Keep (fun b=>b≠K) w1 w2) (hold: ∀b T,tag b=some T->qb5 (some T)≠some c):
  qb6 (fun b=>match tagN b with |some T=>some T |none=>tag b) w2 B n ts vD P K (lm++ [(c,L)])/\TagLe tag (fun b=>match tagN b with |some T=>some T |none=>tag b):=by
 have hz:=hk.size;have hN0: ∀b T,tag b=some T->tagN b=none:=fun b T hb=>by
  cases hT:tagN b with
  |none=>rfl
  |some T'=>have:=(hN b T' hT).1;rw [hb] at this;cases this
 have htag: ∀b T,tag b=some T->(fun b=>match tagN b with |some T=>some T |none=>tag b) b=some T:=fun b T hb=>by simp only [hN0 b T hb];exact hb
 have hKn: ∀b T,tag b=some T->T≠.kmap->b≠K:=fun b T hb hT e=>hT (by rw [e,h.tagK] at hb;cases hb;rfl);refine⟨⟨htag B _ h.tagB,hk.heap h.box (hKn B _ h.tagB (fun e=>(by cases e))),h.n16,h.nodup,h.right,h.ok,qg h.own hk (fun b hb=>hKn b _ (h.tagD b hb) (fun e=>(by cases e))),fun b hb=>htag b _ (h.tagD b hb),htag P _ h.tagP,h.pmap.keep hk (hKn P _ h.tagP (fun e=>(by cases e))),htag K _ h.tagK,?_,?_,?_,?_⟩,fun b T hb=>.inl (htag b T hb)⟩
 ·have:setK lm c L=lm++ [(c,L)]:=by unfold setK;rw [if_neg hc]
  rw [←this];exact hm
 ·intro c' L' hcl;rcases mem_append.1 hcl with hcl |hcl
  ·obtain⟨l',vl',M',m',hl'⟩:=h.looks c' L' hcl;have hne:c'≠c:=fun e=>hc (e▸mem_map.2 ⟨_,hcl,rfl⟩);refine⟨l',vl',M',m',hl'.keep hk (fun b hb e=>?_) (fun b hb=>?_) (fun b hb=>?_)⟩
   ·subst e;rw [h.tagK] at hb;cases hb
   ·cases hT:tag b with
    |none=>rw [hT] at hb;cases hb
    |some T=>rw [←hT];exact(htag b T hT).trans hT.symm
   ·cases hT:tagN b with
    |none=>simp only [hT]
    |some T=>
     simp only [hT]at hb;exact absurd ((Option.some.inj (hb.symm.trans (hN b T hT).2.2))) hne
  ·simp only [mem_singleton,Prod.mk.injEq]at hcl;obtain⟨rfl,rfl⟩:=hcl;refine⟨l,vl,M,m,hl.keep hk (fun b hb e=>?_) (fun b hb=>?_) (fun b hb=>?_)⟩
   ·subst e;cases hT:tagN b with
    |none=>rw [hT] at hb;cases hb
    |some T=>have:=(hN b T hT).1;rw [h.tagK] at this;cases this
   ·cases hT:tagN b with
    |none=>rw [hT] at hb;cases hb
    |some T=>simp only [hT]
   ·cases hT:tagN b with
    |none=>
     simp only [hT]at hb⊢;cases hT2:tag b with
     |none=>rfl
     |some T2=>rw [hT2] at hb;exact absurd hb (hold b T2 hT2)
    |some T=>simp only [hT]
 ·intro b c' hb;cases hT:tagN b with
  |none=>
   simp only [hT]at hb;obtain⟨L',h1⟩:=h.ents b c' hb;exact⟨L',mem_append_left _ h1⟩
  |some T=>
   simp only [hT]at hb;have e:c'=c:=Option.some.inj (hb.symm.trans (hN b T hT).2.2);exact⟨L,by rw [e];simp⟩
 ·intro b T hb;cases hT:tagN b with
  |none=>simp only [hT] at hb;have:=h.lt b T hb;omega
  |some T'=>have:=(hN b T' hT).2.1;omega
set_option maxRecDepth 100000 in
set_option maxHeartbeats 4000000 in
theorem q7c {tag:qb2}{w:World}{B n:Nat}{ts:List (List Int)}{vD:Value}{P K:Nat}{lm:List (List Bool×Nat)}(h:qb6 tag w B n ts vD P K lm)(hl:ts.length<=134217728)(m:Nat)(v:Value)(l:List Int)(hs:qap m w v l)(hm:m<=w.heap.size)(hrow:qdo n l=true):
  Calls prog 180 #[.pointer (some ⟨B,0,none⟩),qh4 (qaq l),v] w fun e w'=> ∃L tag' lm',e=.returned (.pointer (some ⟨L,0,none⟩))/\
   Keep (fun b=>tag b=none) w w'/\qb6 tag' w' B n ts vD P K lm'/\(qaq l,L)∈lm'/\TagLe tag tag'/\TagNew tag tag' w/\ ∀p,p∈lm->p∈lm':=by
 obtain⟨a,cc,rfl,hlt,hct,het⟩:=id hs;have hB:=qe h.box;have hn16:=h.n16;have hll:l.length<=16:=by have:=qoy hrow;omega
 have hcok:=q7b (qj3 l);obtain⟨k0,k1,k2,k3,k4,k5,k6,k7,k8,k9,k10,k11,k12,k13,k14,k15,hpad⟩: ∃k0 k1 k2 k3 k4 k5 k6 k7 k8 k9 k10 k11 k12 k13 k14 k15,qaq l= [k0,k1,k2,k3,k4,k5,k6,k7,k8,k9,k10,k11,k12,k13,k14,k15]:=by
  have hlen:=qj3 l
  match h:qaq l,hlen with
  | [k0,k1,k2,k3,k4,k5,k6,k7,k8,k9,k10,k11,k12,k13,k14,k15],_=>exact⟨k0,k1,k2,k3,k4,k5,k6,k7,k8,k9,k10,k11,k12,k13,k14,k15,rfl⟩
 have hcv:qh4 (qaq l)=.agg #[.bool k0,.bool k1,.bool k2,.bool k3,.bool k4,.bool k5,.bool k6,.bool k7,.bool k8,.bool k9,.bool k10,.bool k11,.bool k12,.bool k13,.bool k14,.bool k15]:=by rw [hpad];rfl
 obtain⟨Wb,hWb⟩:=ex (w.alloc (.cells #[.bool k0,.bool k1,.bool k2,.bool k3,.bool k4,.bool k5,.bool k6,.bool k7,.bool k8,.bool k9,.bool k10,.bool k11,.bool k12,.bool k13,.bool k14,.bool k15] 179));obtain⟨Wd,hWd⟩:=ex (Wb.drew);have kwd:Keep (fun _=>True) w Wd:=by rw [←hWd,←hWb];exact kAl.trans kDr
 have hqd:Wd.heap[w.heap.size]?=some (.cells #[.bool k0,.bool k1,.bool k2,.bool k3,.bool k4,.bool k5,.bool k6,.bool k7,.bool k8,.bool k9,.bool k10,.bool k11,.bool k12,.bool k13,.bool k14,.bool k15] 179 (0,0)):=by rw [←hWd,←hWb];exact qh _ _
 have hzd:Wd.heap.size=w.heap.size+1:=by rw [←hWd,←hWb];simp
 have hd:=h.keep kwd (fun _ _ _ _=>trivial);have r0:=qb hqd 0 _ rfl;have r1:=qb hqd 1 _ rfl;have r2:=qb hqd 2 _ rfl;have r3:=qb hqd 3 _ rfl;have r4:=qb hqd 4 _ rfl;have r5:=qb hqd 5 _ rfl;have r6:=qb hqd 6 _ rfl;have r7:=qb hqd 7 _ rfl;have r8:=qb hqd 8 _ rfl;have r9:=qb hqd 9 _ rfl;have r10:=qb hqd 10 _ rfl;have r11:=qb hqd 11 _ rfl;have r12:=qb hqd 12 _ rfl;have r13:=qb hqd 13 _ rfl;have r14:=qb hqd 14 _ rfl;have r15:=qb hqd 15 _ rfl;have b4:=qb hd.box 4 _ rfl;simp only [Nat.zero_add]at b4 r0 r1 r2 r3 r4 r5 r6 r7 r8 r9 r10 r11 r12 r13 r14 r15;have hlk:=qd1 (P:=prog) Tryz.underlying169 qq2.law qug q1p hd.kmap (qaq l) hcok false;rw [hcv]at hlk⊢;have hBd:B<Wd.heap.size:=qe hd.box;have hsd:w.heap.size<Wd.heap.size:=by omega
 clear hpad;refine hd8 ?_ h hs het hrow hcok hcv hqd kwd;clear h hs het hrow hcok hcv hqd kwd;intro Xh Xhs Xhet Xhrow Xhcok Xhcv Xhqd Xkwd
 go_enter Tryz.func180,Tryz.ntmps180
 cases hkk:qc1 lm (qaq l) with
 |some L=>
  have hin:(qaq l,L)∈lm:=by
   unfold qc1 at hkk;cases hf:lm.find? (fun p=>decide (p.1=qaq l)) with
   |none=>rw [hf] at hkk;cases hkk
   |some p=>
    rw [hf]at hkk;have h1:=find?_some hf;have h2:=mem_of_find?_eq_some hf;simp only [decide_eq_true_eq]at h1;cases hkk;rw [←h1];exact h2
  rw [hkk]at hlk;simp only [Bool.false_eq_true,if_false]at hlk;refine hd3 ?_ hkk hin hd;clear hkk hin hd;intro Xhkk Xhin Xhd;go_wp2_with fail;subst hWd
  go_region
  clear r0 r1 r2 r3 r4 r5 r6 r7 r8 r9 r10 r11 r12 r13 r14 r15 b4 hlk hzd hBd hsd;go_wp2_with fail;go_ret;exact⟨L,tag,lm,rfl,Xkwd.o.mono (fun _ _ _=>trivial),Xhd.o,Xhin.o,TagLe.refl _,TagNew.refl _ _,fun _ h=>h⟩
 |none=>
  have hno:qaq l∉lm.map (·.1):=fun hm2=>by
   obtain⟨p,hp,he⟩:=mem_map.1 hm2;have:=find?_eq_none.1 (Option.map_eq_none_iff.1 hkk) p hp;simp [he]at this
  rw [hkk]at hlk;simp only [Bool.false_eq_true,if_false]at hlk;refine hd3 ?_ hkk hno hd;clear hkk hno hd;intro Xhkk Xhno Xhd;go_wp2_with fail;subst hWd
  go_region
  generalize Wb.drew=Wd at*;clear r0 r1 r2 r3 r4 r5 r6 r7 r8 r9 r10 r11 r12 r13 r14 r15 b4 hlk hWb;obtain⟨W1,hW1⟩:=ex (Wd.alloc (.cells #[] 3));have k1:Keep (fun _=>True) Wd W1:=by rw [←hW1];exact kAl
  have z1:W1.heap.size=Wd.heap.size+1:=by rw [←hW1];simp
  have ho1:W1.ownsRow 0 3 1 (.slice (some ⟨Wd.heap.size,0,none⟩) 0 0) 0 []:=by rw [←hW1];exact World.ownsRow_made Wd #[] 0 (Nat.zero_le _) (by simp [maxLen]) rfl
  have kf1:Keep (fun _=>True) w W1:=Xkwd.o.trans k1;have hs1:=qd2 Xhs.o (m:=m) (kf1.mono fun _ _ _=>trivial) (Nat.le_refl _);have hcl:=qf5 (sz:=1) ic (fun _=>rfl) (by omega) (E:=qfr) (fun b o x h j u hj=>by
   have hj0:j=0:=by have:=(List.getElem?_eq_some_iff.1 hj).1;simp [ic] at this;exact this
   subst hj0;simp [ic]at hj;subst hj;exact h) hs1 rfl
  obtain⟨vl,W2,hr2,ho2,hg2,kw2⟩:=qji (P:=prog) qm3 86 ho1 a l.length cc (l.flatMap ic) (qa0 _ 1 (fun _=>rfl) _) hcl.1 hcl.2 (qjk _ (by simp [ic,Value.oneCell']) _) (by omega) (Nat.zero_le _);rw [qm2,nil_append,Nat.zero_add]at ho2;obtain⟨al,cl,rfl⟩:=qi ho2;have hgl: ∀g,Value.ownBlock (.slice al l.length cl)=some g->Wd.heap.size<=g/\g<W2.heap.size:=fun g hgg=>⟨by
   rcases hg2 g hgg with h1 |h1
   ·simp only [Value.ownBlock,Option.some.injEq]at h1;omega
   ·omega,(World.ownsRow.lt ho2 g hgg).2⟩
  have hmm:= @run_makeMap prog;obtain⟨M,hM⟩:=ex (W2.heap.size);obtain⟨W3,hW3⟩:=ex (W2.alloc (.map #[] 0));obtain⟨L,hL⟩:=ex (W3.heap.size);obtain⟨W4,hW4⟩:=ex (W3.alloc (.cells #[.slice al l.length cl,.map (some M)] 229));have k3:Keep (fun _=>True) W2 W3:=by rw [←hW3];exact kAl
  have k4:Keep (fun _=>True) W3 W4:=by rw [←hW4];exact kAl
  have z3:W3.heap.size=W2.heap.size+1:=by rw [←hW3];simp
  have z4:W4.heap.size=W3.heap.size+1:=by rw [←hW4];simp
  have hzk:=kw2.size;have k24:Keep (fun b=>b<Wd.heap.size) Wd W4:=(k1.mono fun _ _ _=>trivial).trans ((kw2.mono fun b _ h e=>by have:=(hgl b e).1;omega).trans ((k3.mono fun _ _ _=>trivial).trans (k4.mono fun _ _ _=>trivial)));have kd0:=k24;have hLA0:LookAt (fun b=>if b=L then some (.lbox (qaq l)) else if b=M then some (.lmap (qaq l)) else if Value.ownBlock (.slice al l.length cl)=some b then some (.llist (qaq l)) else none) W4 n (ts.take 0) (qaq l) L l (.slice al l.length cl) M []:=by
   refine⟨Xhrow.o,rfl,if_pos rfl,by rw [←hW4,←hL];exact qh _ _,by rw [if_neg (by omega),if_pos rfl],?_,qg (qg ho2 k3 (fun _ _=>trivial)) k4 (fun _ _=>trivial),fun b hb=>?_,fun k=>by simp,by simp,fun k v hkv=>(by cases hkv),fun b k p hb j hj=>?_⟩
   ·have:=(qho (P:=prog) (K:=176) (ek:=qg5) (ev:=fun v:Value=>v) W2).keep (w':=W4) (C:=fun _=>True) (by rw [hW3];exact k4) trivial;rw [hM]at this;exact this
   ·have:=hgl b hb;rw [if_neg (by omega),if_neg (by omega),if_pos hb]
   ·split at hb
    ·cases hb
    ·split at hb
     ·cases hb
     ·split at hb<;>cases hb
  have hN0: ∀b T,(fun b=>if b=L then some (Tag.lbox (qaq l)) else if b=M then some (.lmap (qaq l)) else if Value.ownBlock (.slice al l.length cl)=some b then some (.llist (qaq l)) else none) b=some T->Wd.heap.size<=b/\b<W4.heap.size/\qb5 (some T)=some (qaq l):=by
   intro b T hb;simp only at hb;split at hb
   ·cases hb;exact⟨by omega,by omega,rfl⟩
   ·split at hb
    ·cases hb;exact⟨by omega,by omega,rfl⟩
    ·split at hb
     ·rename_i e;have:=hgl b e;cases hb;exact⟨by omega,by omega,rfl⟩
     ·cases hb
  have hq4:=k24.heap Xhqd.o hsd;have hd4:=Xhd.o.keep k24 (fun b T hb hlt=>hlt);have b2:=qb hd4.box 2 _ rfl;simp only [Nat.zero_add]at b2;have hB4:=qe hd4.box;clear k1 ho1 kf1 hs1 hcl ho2 hg2 kw2 hgl k3 k4 k24 hzk z1 z3 z4 hBd;refine hd7 ?_ hr2 kd0 hLA0 hN0 hq4 hd4 hzd;clear hr2 kd0 hLA0 hN0 hq4 hd4 hzd;intro Xhr2 Xkd0 XhLA0 XhN0 Xhq4 Xhd4 Xhzd;go_wp2_with (at_builtin;refine qcq (v:=.slice (some ⟨Wd.heap.size,0,none⟩) 0 0) (u:=.slice a l.length cc) (v':=.slice al l.length cl) (w':=W2) rfl (.tmp 19) (.tmp 20) 86 rfl rfl rfl Xhr2.o ?_);clear hW1 hM hW3 hL hW4 hmm b2 Xhr2
  go_loopw [29] (fun i wr=> ∃(k:Nat) (tagN:qb2) (mk:List (List Int×Value)),k<=ts.length/\i=.int .i64 k/\LookAt tagN wr n (ts.take k) (qaq l) L l (.slice al l.length cl) M mk/\(∀b T,tagN b=some T->Wd.heap.size<=b/\b<wr.heap.size/\qb5 (some T)=some (qaq l))/\Keep (fun b=>b<Wd.heap.size) Wd wr) (fun i _=>ts.length-(intOf i).toNat)
  case atStart=>exact⟨0,_,_,by omega,rfl,XhLA0.o,XhN0.o,Xkd0.o⟩
  case round=>
   obtain⟨k,tagN,mk,hk,rfl,hLA,hN,hK⟩:=hrel;have hdk:=Xhd.o.keep hK (fun b T hb hlt=>hlt);have hBk:=qe hdk.box;by_cases hlt':k<ts.length
   ·obtain⟨t,ht⟩: ∃t,ts[k]?=some t:=⟨_,getElem?_eq_getElem hlt'⟩;have hlt1:(k:Int)<ts.length:=by omega
    have hk0:(0:Int)<=k:=by omega
    have htk:ts.take (k+1)=ts.take k++ [t]:=by rw [take_add_one,ht];rfl
    have htl:(ts.take k).length=k:=by rw [length_take];omega
    refine hd7 ?_ hLA hN hK hdk ht htk htl;clear hLA hN hK hdk ht htk htl;intro XhLA XhN XhK Xhdk Xht Xhtk Xhtl;go_wp2_with fail;refine(qr4 Xhdk.o (by omega) k t Xht.o).mono ?_;rintro e w1 ⟨vt,rfl,kt1,zt1,hvt,htn⟩;have hvt1:qap w1.heap.size w1 vt t:=qpr (qd2 hvt (m:=wr.heap.size) (kt1.mono fun _ _ _=>trivial) (Nat.le_refl _)) kt1.size;have hLA1:=XhLA.o.keep kt1 (tag':=tagN) (fun _ _=>trivial) (fun _ _=>rfl) (fun _ _=>rfl);have hj:=qui hLA1 (fun b T hb=>Nat.lt_of_lt_of_le (XhN.o b T hb).2.1 kt1.size) hn16 (by rw [Xhtl.o];omega) vt t hvt1 htn (Xhdk.o.ok t (mem_of_getElem? Xht.o)) hll;rw [Xhtl.o]at hj;clear hvt hLA1 zt1 htn;refine hd3 ?_ hj kt1 hvt1;clear hj kt1 hvt1;intro Xhj Xkt1 Xhvt1;go_wp2_with fail;refine Xhj.o.mono ?_;rintro e w2 ⟨rfl,tag2,m2,hLA2,hst,hk2⟩;have hN2: ∀b T,tag2 b=some T->Wd.heap.size<=b/\b<w2.heap.size/\qb5 (some T)=some (qaq l):=fun b T hb=>by
     have hb2:=(hst.new b T hb).1;rcases Nat.lt_or_ge b w1.heap.size with hb1 |hb1
     ·cases hT:tagN b with
      |none=>
       have:=hst.old b hb1 (by rw [hT];exact fun e=>(by cases e));rw [hb,hT]at this;cases this
      |some T'=>
       have h3:=XhN.o b T' hT;refine⟨h3.1,hb2,?_⟩;rcases hst.le b T' hT with h4 |⟨c2,k2,p2,p3,rfl,h4,_⟩
       ·rw [hb]at h4;cases h4;exact h3.2.2
       ·rw [hb]at h4;cases h4;exact h3.2.2
     ·have h5:=(hst.new b T hb).2 hb1;refine⟨?_,hb2,h5⟩;have:=XhK.o.size;have:=Xkt1.o.size;omega
    have hK2:Keep (fun b=>b<Wd.heap.size) Wd w2:=XhK.o.trans ((Xkt1.o.mono fun _ _ _=>trivial).trans (hk2.mono fun b _ h=>by
     cases hT:tagN b with
     |none=>exact fun e=>(by cases e)
     |some T=>have:=(XhN.o b T hT).1;omega))
    rw [←Xhtk.o]at hLA2;clear hst hk2;refine hd3 ?_ hLA2 hN2 hK2;clear hLA2 hN2 hK2;intro XhLA2 XhN2 XhK2;go_wp2_with fail;go_roundw
    case rel=>exact⟨k+1,tag2,m2,by omega,by go_num,XhLA2.o,XhN2.o,XhK2.o⟩
    case measure=>simp [intOf];omega
   ·obtain rfl:k=ts.length:=by omega
    rw [take_length]at hLA;obtain⟨We,hWe⟩:=ex (wr.drew);have kwe:Keep (fun _=>True) wr We:=by rw [←hWe];exact kDr
    have hde:=hdk.keep kwe (fun _ _ _ _=>trivial);have hLAe:=hLA.keep kwe (tag':=tagN) (fun _ _=>trivial) (fun _ _=>rfl) (fun _ _=>rfl);have hKe:Keep (fun b=>b<Wd.heap.size) Wd We:=hK.trans (kwe.mono fun _ _ _=>trivial);have hqe:=hKe.heap Xhqd.o hsd;have r0:=qb hqe 0 _ rfl;have r1:=qb hqe 1 _ rfl;have r2:=qb hqe 2 _ rfl;have r3:=qb hqe 3 _ rfl;have r4:=qb hqe 4 _ rfl;have r5:=qb hqe 5 _ rfl;have r6:=qb hqe 6 _ rfl;have r7:=qb hqe 7 _ rfl;have r8:=qb hqe 8 _ rfl;have r9:=qb hqe 9 _ rfl;have r10:=qb hqe 10 _ rfl;have r11:=qb hqe 11 _ rfl;have r12:=qb hqe 12 _ rfl;have r13:=qb hqe 13 _ rfl;have r14:=qb hqe 14 _ rfl;have r15:=qb hqe 15 _ rfl;have b4:=qb hde.box 4 _ rfl;simp only [Nat.zero_add]at b4 r0 r1 r2 r3 r4 r5 r6 r7 r8 r9 r10 r11 r12 r13 r14 r15;obtain⟨W6,hup,hm6,kw6,hz6⟩:=qie (P:=prog) Tryz.underlying169 qq2.law qug hde.kmap (qaq l) Xhcok.o L;rw [Xhcv.o]at hup;obtain⟨hG6,hle6⟩:=q4a hde hLAe (fun b T hb=>⟨by
     cases hT:tag b with
     |none=>rfl
     |some T'=>have:=Xhd.o.lt b T' hT;have:=(hN b T hb).1;omega,by have:=(hN b T hb).2.1;have:=kwe.size;omega,(hN b T hb).2.2⟩) Xhno.o hm6 kw6 (fun b T hb e=>by
      obtain⟨L',h1⟩:=hde.ents b (qaq l) (by rw [hb];exact e);exact Xhno.o (mem_map.2 ⟨_,h1,rfl⟩))
    have hnew6:TagNew tag (fun b=>match tagN b with |some T=>some T |none=>tag b) w:=fun b T hb=>by
     cases hT:tagN b with
     |none=>simp only [hT] at hb;exact .inl ⟨T,hb⟩
     |some T'=>have:=(hN b T' hT).1;exact .inr (by omega)
    have kf6:Keep (fun b=>tag b=none) w W6:=by
     refine⟨kw6.os.trans (hKe.os.trans Xkwd.o.os),kw6.tape.trans (hKe.tape.trans Xkwd.o.tape),kw6.output.trans (hKe.output.trans Xkwd.o.output),?_,fun b hb hC=>?_⟩
     ·have:=kw6.size;have:=hKe.size;omega
     ·rw [kw6.block b (by have:=hKe.size;omega) (fun e=>by rw [e,Xhd.o.tagK]at hC;cases hC),hKe.block b (by omega) (by omega)];exact Xkwd.o.block b hb trivial
    have hBe:=qe hde.box;have hqel:=qe hqe;clear hde hLAe hKe hqe hm6 kw6 hz6 hN hLA hK hdk kwe;refine hd4 ?_ hG6 hle6 hnew6 kf6;clear hG6 hle6 hnew6 kf6;intro XhG6 Xhle6 Xhnew6 Xkf6;subst hWe;go_wp2_with fail
    go_region
    clear r0 r1 r2 r3 r4 r5 r6 r7 r8 r9 r10 r11 r12 r13 r14 r15 b4 hup;go_wp2_with fail;go_ret;exact⟨L,_,_,rfl,Xkf6.o,XhG6.o,by simp,Xhle6.o,Xhnew6.o,fun p hp=>mem_append_left _ hp⟩
theorem qr5 {P:Program}{ops:Array Oper}{Q:Exit->Act->World->Prop}{md:Region.Mode}{S S':World->Prop}{late:List Nat}(hS: ∀w,S' w->S w): ∀(fuel:Nat) (listed:Array Bool) (a:Act) (w:World),qd0 P md ops Q S' late fuel listed a w->qd0 P md ops Q S late fuel listed a w
 |0,_,_,_,h=>h
 |fuel+1,_,_,_,h=>⟨h.1,fun i hi=>wpOp_mono (fun a' w' h'=>⟨fun hl=>hS _ (h'.1 hl),qr5 hS fuel _ a' w' h'.2⟩) (h.2 i hi)⟩
def qum (tag:qb2)(w:World)(ts:List (List Int))(cols key:List Int)(v:Value):Prop:=
 w.ownsRow 0 3 1 v (idx ts cols (qa6 key)).length ((idx ts cols (qa6 key)).map qh5)/\ ∀b,v.ownBlock=some b->tag b=some (.ent (qaq cols) (qa6 key) (idx ts cols (qa6 key)).length)
theorem q59 {tag:qb2}{w:World}{n:Nat}{ts:List (List Int)}{c:List Bool}{L M:Nat}{l:List Int}{vl:Value}{m:List (List Int×Value)}(h:LookAt tag w n ts c L l vl M m){k:List Int}(hk:k∉m.map (·.1)):idx ts l k= []:=by
 refine filter_eq_nil_iff.2 fun i hi=>?_;rw [mem_range]at hi;simp only [decide_eq_true_eq];intro he;refine hk ((h.keys _).2 ⟨ts.getD i [],?_,he⟩);rw [getD_eq_getElem?_getD,getElem?_eq_getElem hi];exact getElem_mem hi
theorem qr6 {n:Nat}{l l':List Int}(h:qdo n l=true)(h':qdo n l'=true)(hn:n<=16)(hm:qaq l=qaq l'):l=l':=by
 have hmem: ∀x:Int,0<=x->x<16->(x∈l↔x∈l'):=fun x h0 h1=>by
  have:=congrArg (fun m=>m[x.toNat]?) hm;simp only [qaq,getElem?_map]at this;rw [getElem?_range (by omega)]at this;have hx:((x.toNat:Nat):Int)=x:=by omega
  simpa [hx]using this
 have hmem2: ∀x:Int,x∈l↔x∈l':=fun x=>by
  constructor
  ·intro hx;have:=qnq h x hx;exact(hmem x this.1 (by omega)).1 hx
  ·intro hx;have:=qnq h' x hx;exact(hmem x this.1 (by omega)).2 hx
 have hs: ∀{l:List Int},qdo n l=true->l.Pairwise (· < ·):=fun {l} h=>by
  rw [pairwise_iff_getElem];have hstep: ∀i,(hi:i+1<l.length)->l[i]<l[i+1]:=fun i hi=>by
   have:=all_eq_true.1 h (i+1) (by simpa using hi);simp only [qhw,Bool.and_eq_true,decide_eq_true_eq,Bool.or_eq_true,beq_iff_eq]at this;have h2:=this.2.resolve_left (by omega);rw [Nat.add_sub_cancel,getD_eq_getElem?_getD,getD_eq_getElem?_getD,getElem?_eq_getElem hi,getElem?_eq_getElem (by omega)]at h2;exact h2
  have hall: ∀d i,(hi:i+d+1<l.length)->l[i]<l[i+d+1]:=fun d=>by
   induction d with
   |zero=>exact fun i hi=>hstep i hi
   |succ d ih=>exact fun i hi=>Int.lt_trans (ih i (by omega)) (hstep (i+d+1) hi)
  intro i j hi hj hij;have:=hall (j-i-1) i (by omega);have e:i+(j-i-1)+1=j:=by omega
  simpa only [e]using this
 have go: ∀(a b:List Int),a.Pairwise (· < ·)->b.Pairwise (· < ·)->(∀x,x∈a↔x∈b)->a=b:=fun a=>by
  induction a with
  |nil=>
   intro b _ _ hab;cases b with
   |nil=>rfl
   |cons y b=>exact absurd ((hab y).2 (by simp)) (by simp)
  |cons x a ih=>
   intro b ha hb hab;cases b with
   |nil=>exact absurd ((hab x).1 (by simp)) (by simp)
   |cons y b=>
    rw [pairwise_cons]at ha hb;have hxy:x=y:=by
     rcases mem_cons.1 ((hab x).1 (by simp)) with h1 |h1
     ·exact h1
     ·rcases mem_cons.1 ((hab y).2 (by simp)) with h2 |h2
      ·exact h2.symm
      ·have:=ha.1 y h2;have:=hb.1 x h1;omega
    subst hxy;rw [ih b ha.2 hb.2 (fun z=>by
     constructor
     ·intro hz;rcases mem_cons.1 ((hab z).1 (by simp [hz])) with h1 |h1
      ·have:=ha.1 z hz;omega
      ·exact h1
     ·intro hz;rcases mem_cons.1 ((hab z).2 (by simp [hz])) with h1 |h1
      ·have:=hb.1 z hz;omega
      ·exact h1)]
 exact go l l' (hs h) (hs h') hmem2
set_option maxRecDepth 100000 in
set_option maxHeartbeats 4000000 in
theorem q1q {tag:qb2}{w:World}{B n:Nat}{ts:List (List Int)}{vD:Value}{P K:Nat}{lm:List (List Bool×Nat)}(h:qb6 tag w B n ts vD P K lm)(hl:ts.length<=134217728)(m:Nat)(vc vk:Value)(cols key:List Int)(hs:qap m w vc cols)(hsk:qap m w vk key)(hm:m<=w.heap.size)
  (hok:okT key) (hfk:qp4 tag vk):
  Calls prog 153 #[.pointer (some ⟨B,0,none⟩),vc,vk] w fun e w'=> ∃v tag' lm',e=.returned (.tuple #[v,.bool (qdo n cols&&decide (key.length=cols.length))])/\
   Keep (fun b=>tag b=none) w w'/\qb6 tag' w' B n ts vD P K lm'/\TagLe tag tag'/\TagNew tag tag' w/\(∀p,p∈lm->p∈lm')/\
   (qdo n cols=true->key.length=cols.length->qum tag' w' ts cols key v/\ ∃L,(qaq cols,L)∈lm')/\((qdo n cols&&decide (key.length=cols.length))=false->v=.slice none 0 0):=by
 obtain⟨a,cc,rfl,hlt,hct,het⟩:=id hs;obtain⟨ak,ck,rfl,hltk,hctk,hetk⟩:=id hsk;have hB:=qe h.box;have hn16:=h.n16;refine hd7 ?_ h hs het hsk hetk hok hfk;clear h hs het hsk hetk hok hfk;intro Xh Xhs Xhet Xhsk Xhetk Xhok Xhfk
 go_enter Tryz.func153,Tryz.ntmps153
 go_wp2_with fail;refine(ql0 Xh.o.box).mono ?_;rintro e w1 ⟨rfl,hw1⟩;have hw1:=hw1.symm;subst hw1;by_cases hlen:key.length=cols.length
 ·have hne:((key.length:Int) !=cols.length)=false:=by simp [hlen]
  have hd:decide (key.length=cols.length)=true:=decide_eq_true hlen;refine hd2 ?_ hlen hd;clear hlen hd;intro Xhlen Xhd;go_wp2_with fail;refine(q58 Xh.o.box hn16 m _ cols Xhs.o hm).mono ?_;rintro e W1 ⟨rfl,kw1⟩;obtain⟨k0,k1,k2,k3,k4,k5,k6,k7,k8,k9,k10,k11,k12,k13,k14,k15,hpad⟩: ∃k0 k1 k2 k3 k4 k5 k6 k7 k8 k9 k10 k11 k12 k13 k14 k15,qj4 n cols= [k0,k1,k2,k3,k4,k5,k6,k7,k8,k9,k10,k11,k12,k13,k14,k15]:=by
   have hlen:(qj4 n cols).length=16:=by unfold qj4;split<;>exact qj3 _
   match h:qj4 n cols,hlen with
   | [k0,k1,k2,k3,k4,k5,k6,k7,k8,k9,k10,k11,k12,k13,k14,k15],_=>exact⟨k0,k1,k2,k3,k4,k5,k6,k7,k8,k9,k10,k11,k12,k13,k14,k15,rfl⟩
  have hcv:qh4 (qj4 n cols)=.agg #[.bool k0,.bool k1,.bool k2,.bool k3,.bool k4,.bool k5,.bool k6,.bool k7,.bool k8,.bool k9,.bool k10,.bool k11,.bool k12,.bool k13,.bool k14,.bool k15]:=by rw [hpad];rfl
  rw [hcv];obtain⟨W0,hW0⟩:=ex (W1.alloc (.cells #[.bool false,.bool false,.bool false,.bool false,.bool false,.bool false,.bool false,.bool false,.bool false,.bool false,.bool false,.bool false,.bool false,.bool false,.bool false,.bool false] 179));obtain⟨nb,hnb⟩:=ex (W1.heap.size);have n1:W0.heap[nb]?=some (.cells #[.bool false,.bool false,.bool false,.bool false,.bool false,.bool false,.bool false,.bool false,.bool false,.bool false,.bool false,.bool false,.bool false,.bool false,.bool false,.bool false] 179 (0,0)):=by rw [←hW0,←hnb];exact qh _ _
  have kw0:Keep (fun b=>b<w.heap.size) w W0:=by rw [←hW0];exact kw1.trans kAl
  have s0:nb<W0.heap.size:=qe n1;have hwn:w.heap.size<=nb:=by rw [←hnb];exact kw1.size
  have z0:=qb n1 0 _ rfl;have f0:=qf n1 0;have z1:=qb n1 1 _ rfl;have f1:=qf n1 1;have z2:=qb n1 2 _ rfl;have f2:=qf n1 2;have z3:=qb n1 3 _ rfl;have f3:=qf n1 3;have z4:=qb n1 4 _ rfl;have f4:=qf n1 4;have z5:=qb n1 5 _ rfl;have f5:=qf n1 5;have z6:=qb n1 6 _ rfl;have f6:=qf n1 6;have z7:=qb n1 7 _ rfl;have f7:=qf n1 7;have z8:=qb n1 8 _ rfl;have f8:=qf n1 8;have z9:=qb n1 9 _ rfl;have f9:=qf n1 9;have z10:=qb n1 10 _ rfl;have f10:=qf n1 10;have z11:=qb n1 11 _ rfl;have f11:=qf n1 11;have z12:=qb n1 12 _ rfl;have f12:=qf n1 12;have z13:=qb n1 13 _ rfl;have f13:=qf n1 13;have z14:=qb n1 14 _ rfl;have f14:=qf n1 14;have z15:=qb n1 15 _ rfl;have f15:=qf n1 15;simp only [Nat.zero_add]at z0 z1 z2 z3 z4 z5 z6 z7 z8 z9 z10 z11 z12 z13 z14 z15;obtain⟨rd,hrd⟩:=ex (qdo n cols);rw [hrd];clear kw1 hpad;refine hd4 ?_ n1 kw0 hcv hrd;clear n1 kw0 hcv hrd;intro Xn1 Xkw0 Xhcv Xhrd;cases rd with
  |false=>
   go_wp2_with fail;refine qib (fun W=>Keep (fun k=>k<w.heap.size) w W) (w:=qgz nb [.bool k0,.bool k1,.bool k2,.bool k3,.bool k4,.bool k5,.bool k6,.bool k7,.bool k8,.bool k9,.bool k10,.bool k11,.bool k12,.bool k13,.bool k14,.bool k15] 0 W0) (Xkw0.o.trans ((qe4 _ _ _ _).mono (fun b _ h=>by omega))) ?_;clear z0 z1 z2 z3 z4 z5 z6 z7 z8 z9 z10 z11 z12 z13 z14 z15 f0 f1 f2 f3 f4 f5 f6 f7 f8 f9 f10 f11 f12 f13 f14 f15 Xn1 Xkw0 s0 hnb hW0;rintro W3 kw3;have hT:=Xh.o.keep kw3 (fun b T hb hlt=>hlt);refine hd2 ?_ kw3 hT;clear kw3 hT;intro Xkw3 XhT
   go_ret2
   exact⟨.slice none 0 0,tag,lm,by rw [Xhrd.o];rfl,Xkw3.o.mono (fun b hb _=>hb),XhT.o,TagLe.refl _,TagNew.refl _ _,fun _ h=>h,fun h=>(by rw [Xhrd.o] at h;cases h),fun _=>rfl⟩
  |true=>
   go_wp2_with fail;refine qy1 (fun W=>W.heap[nb]?=some (.cells #[.bool k0,.bool k1,.bool k2,.bool k3,.bool k4,.bool k5,.bool k6,.bool k7,.bool k8,.bool k9,.bool k10,.bool k11,.bool k12,.bool k13,.bool k14,.bool k15] 179 (0,0))/\Keep (fun k=>k<w.heap.size) w W) (w:=qgz nb [.bool k0,.bool k1,.bool k2,.bool k3,.bool k4,.bool k5,.bool k6,.bool k7,.bool k8,.bool k9,.bool k10,.bool k11,.bool k12,.bool k13,.bool k14,.bool k15] 0 W0) ⟨qg0 [.bool k0,.bool k1,.bool k2,.bool k3,.bool k4,.bool k5,.bool k6,.bool k7,.bool k8,.bool k9,.bool k10,.bool k11,.bool k12,.bool k13,.bool k14,.bool k15] Xn1.o rfl,Xkw0.o.trans ((qe4 _ _ _ _).mono (fun b _ h=>by omega))⟩ ?_;clear z0 z1 z2 z3 z4 z5 z6 z7 z8 z9 z10 z11 z12 z13 z14 z15 f0 f1 f2 f3 f4 f5 f6 f7 f8 f9 f10 f11 f12 f13 f14 f15 Xn1 Xkw0 s0 hnb hW0;rintro W3 ⟨hq,kw3⟩;have hcm:qh4 (qaq cols)=.agg #[.bool k0,.bool k1,.bool k2,.bool k3,.bool k4,.bool k5,.bool k6,.bool k7,.bool k8,.bool k9,.bool k10,.bool k11,.bool k12,.bool k13,.bool k14,.bool k15]:=by
    have:=Xhcv.o;unfold qj4 at this;rw [Xhrd.o,if_pos rfl]at this;exact this
   obtain⟨Wd,hWd⟩:=ex (W3.drew);have kwd:Keep (fun k=>k<w.heap.size) w Wd:=by rw [←hWd];exact kw3.trans kDr
   have hqd:Wd.heap[nb]?=some (.cells #[.bool k0,.bool k1,.bool k2,.bool k3,.bool k4,.bool k5,.bool k6,.bool k7,.bool k8,.bool k9,.bool k10,.bool k11,.bool k12,.bool k13,.bool k14,.bool k15] 179 (0,0)):=by rw [←hWd];exact hq
   have hT:=Xh.o.keep kwd (fun b T hb hlt=>hlt);have hsd:=qd2 Xhs.o (m:=m) (kwd.mono fun _ _ h=>by omega) (Nat.le_refl _);have hby:=q7c hT hl m _ cols hsd (by have:=kwd.size;omega) Xhrd.o;rw [hcm]at hby;have hnt:tag nb=none:=by
    cases hT2:tag nb with
    |none=>rfl
    |some T=>have:=Xh.o.lt nb T hT2;omega
   have hBd:=qe hT.box;have hnbd:=qe hqd;have mk16: ∀W:World,W.heap[nb]?=some (.cells #[.bool k0,.bool k1,.bool k2,.bool k3,.bool k4,.bool k5,.bool k6,.bool k7,.bool k8,.bool k9,.bool k10,.bool k11,.bool k12,.bool k13,.bool k14,.bool k15] 179 (0,0))->W.cell? ⟨nb,0,none⟩=some (.bool k0)/\W.cell? ⟨nb,1,none⟩=some (.bool k1)/\W.cell? ⟨nb,2,none⟩=some (.bool k2)/\W.cell? ⟨nb,3,none⟩=some (.bool k3)/\W.cell? ⟨nb,4,none⟩=some (.bool k4)/\W.cell? ⟨nb,5,none⟩=some (.bool k5)/\W.cell? ⟨nb,6,none⟩=some (.bool k6)/\W.cell? ⟨nb,7,none⟩=some (.bool k7)/\W.cell? ⟨nb,8,none⟩=some (.bool k8)/\W.cell? ⟨nb,9,none⟩=some (.bool k9)/\W.cell? ⟨nb,10,none⟩=some (.bool k10)/\W.cell? ⟨nb,11,none⟩=some (.bool k11)/\W.cell? ⟨nb,12,none⟩=some (.bool k12)/\W.cell? ⟨nb,13,none⟩=some (.bool k13)/\W.cell? ⟨nb,14,none⟩=some (.bool k14)/\W.cell? ⟨nb,15,none⟩=some (.bool k15):=fun W hW=>by
    refine⟨?_,?_,?_,?_,?_,?_,?_,?_,?_,?_,?_,?_,?_,?_,?_,?_⟩<;>simp [World.cell?,hW]
   have hS0:=mk16 Wd hqd;clear kw3 hq hT hsd hcm;refine hd6 ?_ kwd hqd hby hnt mk16 hS0;clear kwd hqd hby hnt mk16 hS0;intro Xkwd Xhqd Xhby Xhnt Xmk16 XhS0;subst hWd;refine qc7 rfl (fun W=>W.cell? ⟨nb,0,none⟩=some (.bool k0)/\W.cell? ⟨nb,1,none⟩=some (.bool k1)/\W.cell? ⟨nb,2,none⟩=some (.bool k2)/\W.cell? ⟨nb,3,none⟩=some (.bool k3)/\W.cell? ⟨nb,4,none⟩=some (.bool k4)/\W.cell? ⟨nb,5,none⟩=some (.bool k5)/\W.cell? ⟨nb,6,none⟩=some (.bool k6)/\W.cell? ⟨nb,7,none⟩=some (.bool k7)/\W.cell? ⟨nb,8,none⟩=some (.bool k8)/\W.cell? ⟨nb,9,none⟩=some (.bool k9)/\W.cell? ⟨nb,10,none⟩=some (.bool k10)/\W.cell? ⟨nb,11,none⟩=some (.bool k11)/\W.cell? ⟨nb,12,none⟩=some (.bool k12)/\W.cell? ⟨nb,13,none⟩=some (.bool k13)/\W.cell? ⟨nb,14,none⟩=some (.bool k14)/\W.cell? ⟨nb,15,none⟩=some (.bool k15)) [10,11] ?_;refine qam [0,1,2,7] ?_
   iterate 4
    refine tkN (v:=?_) rfl XhS0.o ?_ ?_;rotate_left
    ·rintro Wq ⟨x0,x1,x2,x3,x4,x5,x6,x7,x8,x9,x10,x11,x12,x13,x14,x15⟩;go_simp
     try with_reducible rfl
    try simp only [qan]
   refine qu ?_;refine ho 3 rfl fun K XhK0=>?_;go_wp2_with fail;refine Xhby.o.mono ?_;rintro e W4 ⟨L,tag4,lm4,rfl,k4,hG4,hin4,hle4,hnew4,hsub⟩;obtain⟨l,vl,M,mm,hLA⟩:=hG4.looks _ L hin4;have hlc:l=cols:=qr6 hLA.row Xhrd.o hn16 hLA.mask;subst hlc;have hq4:=k4.heap Xhqd.o Xhnt.o;have e1:W4.cell? ⟨L,1,none⟩=some (.map (some M)):=by have:=qb hLA.box 1 _ rfl;simpa using this
   have hL4:=qe hLA.box;have kf4:Keep (fun b=>tag b=none/\b<w.heap.size) w W4:=(Xkwd.o.mono fun _ _ h=>h.2).trans (k4.mono fun _ _ h=>h.1);have hsk4:=qne Xhsk.o Xhfk.o kf4 (fun b hb hbm=>⟨hb,by omega⟩);have hkl16:key.length<=16:=by have:=qoy Xhrd.o;have:=Xhlen.o;omega
   have hS0':=Xmk16.o W4 hq4;have hS1:=And.intro hS0' e1;have hm4:m<=W4.heap.size:=by have:=kf4.size;omega
   clear hS0' e1;refine qiz ?_ k4 hG4 hin4 hle4 hnew4 hsub hLA hq4 kf4 hsk4 hS1;clear k4 hG4 hin4 hle4 hnew4 hsub hLA hq4 kf4 hsk4 hS1;intro Xk4 XhG4 Xhin4 Xhle4 Xhnew4 Xhsub XhLA Xhq4 Xkf4 Xhsk4 XhS1;go_wp2_with fail;refine XhK0.o _ _ (fun _=>XhS1.o.1) ?_;refine qr5 (S':=fun W=>(W.cell? ⟨nb,0,none⟩=some (.bool k0)/\W.cell? ⟨nb,1,none⟩=some (.bool k1)/\W.cell? ⟨nb,2,none⟩=some (.bool k2)/\W.cell? ⟨nb,3,none⟩=some (.bool k3)/\W.cell? ⟨nb,4,none⟩=some (.bool k4)/\W.cell? ⟨nb,5,none⟩=some (.bool k5)/\W.cell? ⟨nb,6,none⟩=some (.bool k6)/\W.cell? ⟨nb,7,none⟩=some (.bool k7)/\W.cell? ⟨nb,8,none⟩=some (.bool k8)/\W.cell? ⟨nb,9,none⟩=some (.bool k9)/\W.cell? ⟨nb,10,none⟩=some (.bool k10)/\W.cell? ⟨nb,11,none⟩=some (.bool k11)/\W.cell? ⟨nb,12,none⟩=some (.bool k12)/\W.cell? ⟨nb,13,none⟩=some (.bool k13)/\W.cell? ⟨nb,14,none⟩=some (.bool k14)/\W.cell? ⟨nb,15,none⟩=some (.bool k15))/\W.cell? ⟨L,1,none⟩=some (.map (some M))) (fun _ h=>h.1) _ _ _ _ ?_;refine qam [4,5,6] ?_
   iterate 3
    refine tkN (v:=?_) rfl XhS1.o ?_ ?_;rotate_left
    ·rintro Wq ⟨⟨x0,x1,x2,x3,x4,x5,x6,x7,x8,x9,x10,x11,x12,x13,x14,x15⟩,y0⟩;go_simp
     try with_reducible rfl
    try simp only [qan]
   refine qu ?_;refine ho 8 rfl fun K XhK1=>?_;go_wp2_with fail;refine(qnd m _ key W4 Xhsk4.o hm4 hkl16).mono ?_;rintro e W5 ⟨rfl,k5⟩;have hG5:=XhG4.o.keep k5 (fun b T hb hlt=>hlt);have hLA5:=XhLA.o.keep k5 (tag':=tag4) (fun b hb=>by
    cases hT2:tag4 b with
    |none=>rw [hT2] at hb;cases hb
    |some T=>exact XhG4.o.lt b T hT2) (fun _ _=>rfl) (fun _ _=>rfl)
   have hq5:=k5.heap Xhq4.o (qe Xhq4.o);have e5:W5.cell? ⟨L,1,none⟩=some (.map (some M)):=by have:=qb hLA5.box 1 _ rfl;simpa using this
   have hS5:=And.intro (Xmk16.o W5 hq5) e5;have kf5:Keep (fun b=>tag b=none) w W5:=(Xkf4.o.trans (k5.mono fun b hb h=>by have:=Xkf4.o.size;omega)).mono (fun b hb h=>⟨h,hb⟩);have hkk:=qp2 (qhk hkl16) (qnu Xhok.o);have hlk:=qd1 (P:=prog) Tryz.underlying227 qk6.law qj1 quh hLA5.map (qa6 key) hkk false;have hnew5:TagNew tag tag4 w:=TagNew.trans (TagNew.refl _ _) Xhnew4.o Xkwd.o.size;clear e5 hq5 k5;refine hd5 ?_ hS5 kf5 hG5 hLA5 hnew5;clear hS5 kf5 hG5 hLA5 hnew5;intro XhS5 Xkf5 XhG5 XhLA5 Xhnew5;go_wp2_with fail;refine XhK1.o _ _ (fun _=>XhS5.o) ?_;obtain⟨vr,hvr,hF⟩: ∃vr,(match qc1 mm (qa6 key) with |some v=>v |none=>Value.slice none 0 0)=vr/\qum tag4 W5 ts l key vr:=by
    cases hkk2:qc1 mm (qa6 key) with
    |some v=>
     refine⟨v,rfl,XhLA5.o.ents (qa6 key) v ?_⟩;unfold qc1 at hkk2;cases hf:mm.find? (fun p=>decide (p.1=qa6 key)) with
     |none=>rw [hf] at hkk2;cases hkk2
     |some p=>
      rw [hf]at hkk2;have h1:=find?_some hf;have h2:=mem_of_find?_eq_some hf;simp only [decide_eq_true_eq]at h1;cases hkk2;rw [←h1];exact h2
    |none=>
     have hno:qa6 key∉mm.map (·.1):=fun hm2=>by
      obtain⟨p,hp,he⟩:=mem_map.1 hm2;have:=find?_eq_none.1 (Option.map_eq_none_iff.1 hkk2) p hp;simp [he]at this
     refine⟨_,rfl,?_⟩;unfold qum;rw [q59 XhLA5.o hno];exact⟨World.ownsRow_nil _ _ _ _,fun b hb=>by simp [Value.ownBlock] at hb⟩
   have hlk':(Instr.lookup 227 (.map (some M)) (qg5 (qa6 key)) false).run prog W5=.ok vr W5:=by
    rw [hlk,←hvr];cases qc1 mm (qa6 key)<;>rfl
   clear hlk hvr;refine hd1 ?_ hF;clear hF;intro XhF;refine ho 9 rfl fun K XhK2=>?_;go_wp2_with fail;refine XhK2.o _ _ (fun _=>XhS5.o) ?_;refine ho 10 rfl fun K XhK3=>?_;go_wp2_with fail;refine XhK3.o _ _ (fun h=>by simp at h) ?_;refine ho 11 rfl fun K XhK4=>?_;go_wp2_with fail;refine XhK4.o _ _ (fun h=>by simp at h) ?_;refine qee (by kernel_rfl) ?_;go_wp2_with fail
   go_ret2
   exact⟨vr,tag4,lm4,by rw [Xhrd.o,Xhd.o];rfl,Xkf5.o,XhG5.o,Xhle4.o,Xhnew5.o,Xhsub.o,fun _ _=>⟨XhF.o,L,Xhin4.o⟩,fun h=>by rw [Xhrd.o,Xhd.o] at h;cases h⟩
 ·have hne:((key.length:Int) !=cols.length)=true:=by simp;omega
  have hd:decide (key.length=cols.length)=false:=decide_eq_false hlen;refine hd2 ?_ hlen hd;clear hlen hd;intro Xhlen Xhd;go_wp2_with fail
  go_ret2
  exact⟨.slice none 0 0,tag,lm,by rw [Xhd.o,Bool.and_false];rfl,Keep.refl _ _,Xh.o,TagLe.refl _,TagNew.refl _ _,fun _ h=>h,fun _ h=>absurd h Xhlen.o,fun _=>rfl⟩
end Go.Proofs.R4

/- Parts of the proof. -/
import Derived.Test.YtnponcjnahicnaaGreatProg
import Derived.Test.YtnponcjnahicnaaGreatRelMToRelN
import Derived.Test.YtnponcjnahicnaaGreatHdToKp
import Derived.Deep.MidRow
set_option linter.unusedSimpArgs false
set_option linter.unusedVariables false
open Go.Proofs.Tryz(prog)
open List(all_eq_true ext_getElem? getD_eq_getElem?_getD getElem?_eq_getElem getElem?_map getElem?_range getElem?_set length_map length_range map_set range_succ take_add_one take_length take_zero)
namespace Go.Proofs.R4
open Go.RowKit Go.Ink
attribute [local go_sem] Oper.semAt_some
theorem MapRange.left_eq {κ ν:Type}{P:Program}{K:TypeId}{ek:κ->Value}{ev:ν->Value}{w:World}{b r cnt:Nat}{m:List (κ×ν)}{left:κ->Bool}(h:MapRange P K ek ev w b r m left cnt):w.rangeLeft b r=cnt:=by
 obtain⟨es,clock,since,seen,c0,hb,h2,hn,hok,hbc,hbn,hr,hold,hsc,hsk,rfl,hl⟩:=h;simp [World.rangeLeft,hb,hr]
theorem quk: ∀w:World,(zeroValue 3).run prog w=.ok (.int .i64 0) w:=fun w=>by kernel_rfl
def qp4 (tag:qb2)(v:Value):Prop:= ∀a n c,v=.slice (some a) n c->tag a.block=none
theorem qne {tag:qb2}{C:Nat->Prop}{m:Nat}{w w':World}{v:Value}{t:List Int}(h:qap m w v t)(hf:qp4 tag v)(hK:Keep C w w')(hC: ∀b,tag b=none->b<m->C b):qap m w' v t:=by
 obtain⟨a,c,rfl,h1,h2,h3⟩:=h;refine⟨a,c,rfl,h1,h2,fun k x hk=>?_⟩;obtain⟨b,o,rfl,hb,hx⟩:=h3 k x hk;exact⟨b,o,rfl,hb,hK.cell hx (hC b (hf _ _ _ rfl) hb)⟩
set_option maxRecDepth 100000 in
set_option maxHeartbeats 4000000 in
theorem qp5 {tag:qb2}{w:World}{B n:Nat}{ts:List (List Int)}{vD:Value}{P K:Nat}{lm:List (List Bool×Nat)}(h:qb6 tag w B n ts vD P K lm)(hl:ts.length<=134217728)(m:Nat)(v:Value)(t:List Int)(hs:qap m w v t)(hm:m<=w.heap.size)(hok:okT t)(hfree:qp4 tag v):
  Calls prog 58 #[.pointer (some ⟨B,0,none⟩),v] w fun e w'=>e=.returned (.tuple #[.int .i64 (qhh n ts t).1,.bool (qhh n ts t).2.1,.int .i64 (qhh n ts t).2.2])/\
   Keep (fun b=>tag b=none) w w'/\ ∃tag' vD',qb6 tag' w' B n (qku n ts t) vD' P K lm/\TagLe tag tag'/\TagNew tag tag' w:=by
 obtain⟨a,c,rfl,hlt,hct,het⟩:=id hs;have hB:=qe h.box;have hn16:=h.n16;refine hd5 ?_ h hs het hok hfree;clear h hs het hok hfree;intro Xh Xhs Xhet Xhok Xhfree
 go_enter Tryz.func58,Tryz.ntmps58
 go_wp2_with fail;refine(ql0 Xh.o.box).mono ?_;rintro e w1 ⟨rfl,hw1⟩;have hw1:=hw1.symm;subst hw1;go_wp2_with fail;refine(qr1 Xh.o.box m _ t Xhs.o hm).mono ?_;rintro e W1 ⟨rfl,kw1⟩;cases hrt:qdb n t with
 |false=>
  have hans:qhh n ts t=(0,false,2):=by unfold qhh;rw [hrt];rfl
  have hT:qku n ts t=ts:=by unfold qku;rw [hans];rfl
  have hO:=Xh.o.keep kw1 (fun _ _ _ _=>trivial);clear hrt;refine hd4 ?_ hans hT hO kw1;clear hans hT hO kw1;intro Xhans XhT XhO Xkw1;go_wp2_with fail
  go_ret3
  exact⟨by rw [Xhans.o];try rfl,Xkw1.o.mono fun _ _ _=>trivial,tag,vD,by rw [XhT.o];exact XhO.o,TagLe.refl _,TagNew.refl _ _⟩
 |true=>
  have htl:=ql3 hrt;have hs1:=qd2 Xhs.o (m:=m) (kw1.mono fun _ _ _=>trivial) (Nat.le_refl _);have htl16:t.length<=16:=by omega
  have hckl:(qa6 t).length=16:=qhk (by omega);have hkok: ∃q,keyOf prog 176 (qg5 (qa6 t))=some q:=qp2 hckl (qnu Xhok.o);obtain⟨k0,k1,k2,k3,k4,k5,k6,k7,k8,k9,k10,k11,k12,k13,k14,k15,hpad⟩: ∃k0 k1 k2 k3 k4 k5 k6 k7 k8 k9 k10 k11 k12 k13 k14 k15,qa6 t= [k0,k1,k2,k3,k4,k5,k6,k7,k8,k9,k10,k11,k12,k13,k14,k15]:=by
   match h:qa6 t,hckl with
   | [k0,k1,k2,k3,k4,k5,k6,k7,k8,k9,k10,k11,k12,k13,k14,k15],_=>exact⟨k0,k1,k2,k3,k4,k5,k6,k7,k8,k9,k10,k11,k12,k13,k14,k15,rfl⟩
  have hkv:qg5 (qa6 t)=.agg #[.int .i64 k0,.int .i64 k1,.int .i64 k2,.int .i64 k3,.int .i64 k4,.int .i64 k5,.int .i64 k6,.int .i64 k7,.int .i64 k8,.int .i64 k9,.int .i64 k10,.int .i64 k11,.int .i64 k12,.int .i64 k13,.int .i64 k14,.int .i64 k15]:=by rw [hpad];rfl
  have z1:=kw1.size;clear hckl hpad;refine hd6 ?_ kw1 hs1 hkok hkv hrt htl;clear kw1 hs1 hkok hkv hrt htl;intro Xkw1 Xhs1 Xhkok Xhkv Xhrt Xhtl;go_wp2_with fail;refine(qnd m _ t W1 Xhs1.o (by omega) htl16).mono ?_;rintro e W2 ⟨rfl,kw2⟩
  replace kw2:Keep (fun b=>b<w.heap.size) w W2:=(Xkw1.o.mono fun _ _ _=>trivial).trans (kw2.mono fun b _ h=>by omega)
  obtain⟨W0,hW0⟩:=ex (W2.alloc (.cells #[.int .i64 0,.int .i64 0,.int .i64 0,.int .i64 0,.int .i64 0,.int .i64 0,.int .i64 0,.int .i64 0,.int .i64 0,.int .i64 0,.int .i64 0,.int .i64 0,.int .i64 0,.int .i64 0,.int .i64 0,.int .i64 0] 176));obtain⟨nb,hnb⟩:=ex (W2.heap.size);have n1:W0.heap[nb]?=some (.cells #[.int .i64 0,.int .i64 0,.int .i64 0,.int .i64 0,.int .i64 0,.int .i64 0,.int .i64 0,.int .i64 0,.int .i64 0,.int .i64 0,.int .i64 0,.int .i64 0,.int .i64 0,.int .i64 0,.int .i64 0,.int .i64 0] 176 (0,0)):=by rw [←hW0,←hnb];exact qh _ _
  have kw0:Keep (fun b=>b<w.heap.size) w W0:=by rw [←hW0];exact kw2.trans kAl
  have s0:nb<W0.heap.size:=qe n1;have hwn:w.heap.size<=nb:=by rw [←hnb];exact kw2.size
  have z0:=qb n1 0 _ rfl;have f0:=qf n1 0;have z1:=qb n1 1 _ rfl;have f1:=qf n1 1;have z2:=qb n1 2 _ rfl;have f2:=qf n1 2;have z3:=qb n1 3 _ rfl;have f3:=qf n1 3;have z4:=qb n1 4 _ rfl;have f4:=qf n1 4;have z5:=qb n1 5 _ rfl;have f5:=qf n1 5;have z6:=qb n1 6 _ rfl;have f6:=qf n1 6;have z7:=qb n1 7 _ rfl;have f7:=qf n1 7;have z8:=qb n1 8 _ rfl;have f8:=qf n1 8;have z9:=qb n1 9 _ rfl;have f9:=qf n1 9;have z10:=qb n1 10 _ rfl;have f10:=qf n1 10;have z11:=qb n1 11 _ rfl;have f11:=qf n1 11;have z12:=qb n1 12 _ rfl;have f12:=qf n1 12;have z13:=qb n1 13 _ rfl;have f13:=qf n1 13;have z14:=qb n1 14 _ rfl;have f14:=qf n1 14;have z15:=qb n1 15 _ rfl;have f15:=qf n1 15;simp only [Nat.zero_add]at z0 z1 z2 z3 z4 z5 z6 z7 z8 z9 z10 z11 z12 z13 z14 z15;rw [Xhkv.o];clear kw2;refine hd2 ?_ n1 kw0;clear n1 kw0;intro Xn1 Xkw0;go_wp2_with fail;refine qy1 (fun W=>W.heap[nb]?=some (.cells #[.int .i64 k0,.int .i64 k1,.int .i64 k2,.int .i64 k3,.int .i64 k4,.int .i64 k5,.int .i64 k6,.int .i64 k7,.int .i64 k8,.int .i64 k9,.int .i64 k10,.int .i64 k11,.int .i64 k12,.int .i64 k13,.int .i64 k14,.int .i64 k15] 176 (0,0))/\Keep (fun k=>k<w.heap.size) w W) (w:=qgz nb [.int .i64 k0,.int .i64 k1,.int .i64 k2,.int .i64 k3,.int .i64 k4,.int .i64 k5,.int .i64 k6,.int .i64 k7,.int .i64 k8,.int .i64 k9,.int .i64 k10,.int .i64 k11,.int .i64 k12,.int .i64 k13,.int .i64 k14,.int .i64 k15] 0 W0) ⟨qg0 [.int .i64 k0,.int .i64 k1,.int .i64 k2,.int .i64 k3,.int .i64 k4,.int .i64 k5,.int .i64 k6,.int .i64 k7,.int .i64 k8,.int .i64 k9,.int .i64 k10,.int .i64 k11,.int .i64 k12,.int .i64 k13,.int .i64 k14,.int .i64 k15] Xn1.o rfl,Xkw0.o.trans ((qe4 _ _ _ _).mono (fun b _ h=>by omega))⟩ ?_;clear z0 z1 z2 z3 z4 z5 z6 z7 z8 z9 z10 z11 z12 z13 z14 z15 f0 f1 f2 f3 f4 f5 f6 f7 f8 f9 f10 f11 f12 f13 f14 f15 Xn1 Xkw0 s0 hnb hW0 Xkw1 Xhs1;rintro W3 ⟨hq,kw3⟩;obtain⟨Wd,hWd⟩:=ex (W3.drew);have kwd:Keep (fun k=>k<w.heap.size) w Wd:=by rw [←hWd];exact kw3.trans kDr
  have hqd:Wd.heap[nb]?=some (.cells #[.int .i64 k0,.int .i64 k1,.int .i64 k2,.int .i64 k3,.int .i64 k4,.int .i64 k5,.int .i64 k6,.int .i64 k7,.int .i64 k8,.int .i64 k9,.int .i64 k10,.int .i64 k11,.int .i64 k12,.int .i64 k13,.int .i64 k14,.int .i64 k15] 176 (0,0)):=by rw [←hWd];exact hq
  have hd:=Xh.o.keep kwd (fun b T hb hlt=>hlt);have r0:=qb hqd 0 _ rfl;have r1:=qb hqd 1 _ rfl;have r2:=qb hqd 2 _ rfl;have r3:=qb hqd 3 _ rfl;have r4:=qb hqd 4 _ rfl;have r5:=qb hqd 5 _ rfl;have r6:=qb hqd 6 _ rfl;have r7:=qb hqd 7 _ rfl;have r8:=qb hqd 8 _ rfl;have r9:=qb hqd 9 _ rfl;have r10:=qb hqd 10 _ rfl;have r11:=qb hqd 11 _ rfl;have r12:=qb hqd 12 _ rfl;have r13:=qb hqd 13 _ rfl;have r14:=qb hqd 14 _ rfl;have r15:=qb hqd 15 _ rfl;simp only [Nat.zero_add]at r0 r1 r2 r3 r4 r5 r6 r7 r8 r9 r10 r11 r12 r13 r14 r15;have b2:=qb hd.box 2 _ rfl;have b3:=qb hd.box 3 _ rfl;simp only [Nat.zero_add]at b2 b3;have hlk:=qd1 (P:=prog) Tryz.underlying168 qk6.law qj1 quk hd.pmap (qa6 t) Xhkok.o true;have hnd:((qd7 ts).map (·.1)).Nodup:=by
   obtain⟨_,_,_,_,hnd,_⟩:=hd.pmap;exact hnd
  rw [qp3 hd.len Xhtl.o hnd,Xhkv.o]at hlk;have hBd:B<Wd.heap.size:=qe hd.box;have hnbd:nb<Wd.heap.size:=qe hqd;clear hnd hq kw3;subst hWd;cases hpl:qe1 ts t with
  |some i=>
   have hans:qhh n ts t=((i:Int),false,0):=by unfold qhh;rw [Xhrt.o,hpl];rfl
   have hT:qku n ts t=ts:=by unfold qku;rw [hans];rfl
   rw [hpl]at hlk;simp only [if_true]at hlk;clear hpl hqd;refine hd4 ?_ hans hT hd kwd;clear hans hT hd kwd;intro Xhans XhT Xhd Xkwd
   go_region
   clear r0 r1 r2 r3 r4 r5 r6 r7 r8 r9 r10 r11 r12 r13 r14 r15 b3 hlk;go_wp2_with fail
   go_ret3
   exact⟨by rw [Xhans.o];try rfl,Xkwd.o.mono fun b hb _=>hb,tag,vD,by rw [XhT.o];exact Xhd.o,TagLe.refl _,TagNew.refl _ _⟩
  |none=>
   rw [hpl]at hlk;simp only [if_true]at hlk;refine hd4 ?_ hpl hqd hd kwd;clear hpl hqd hd kwd;intro Xhpl Xhqd Xhd Xkwd
   go_region
   generalize W3.drew=Wd at*;clear hlk b2 b3 r0 r1 r2 r3 r4 r5 r6 r7 r8 r9 r10 r11 r12 r13 r14 r15;obtain⟨We,hWe⟩:=ex (Wd.drew);have kwe:Keep (fun k=>k<w.heap.size) w We:=by rw [←hWe];exact Xkwd.o.trans kDr
   have hde:=Xh.o.keep kwe (fun b T hb hlt=>hlt);have hqe:We.heap[nb]?=some (.cells #[.int .i64 k0,.int .i64 k1,.int .i64 k2,.int .i64 k3,.int .i64 k4,.int .i64 k5,.int .i64 k6,.int .i64 k7,.int .i64 k8,.int .i64 k9,.int .i64 k10,.int .i64 k11,.int .i64 k12,.int .i64 k13,.int .i64 k14,.int .i64 k15] 176 (0,0)):=by rw [←hWe];exact Xhqd.o
   have b2:Wd.cell? ⟨B,2,none⟩=some (.int .i64 (ts.length:Int)):=by have:=qb Xhd.o.box 2 _ rfl;simpa using this
   have b3:=qb hde.box 3 _ rfl;have r0:=qb hqe 0 _ rfl;have r1:=qb hqe 1 _ rfl;have r2:=qb hqe 2 _ rfl;have r3:=qb hqe 3 _ rfl;have r4:=qb hqe 4 _ rfl;have r5:=qb hqe 5 _ rfl;have r6:=qb hqe 6 _ rfl;have r7:=qb hqe 7 _ rfl;have r8:=qb hqe 8 _ rfl;have r9:=qb hqe 9 _ rfl;have r10:=qb hqe 10 _ rfl;have r11:=qb hqe 11 _ rfl;have r12:=qb hqe 12 _ rfl;have r13:=qb hqe 13 _ rfl;have r14:=qb hqe 14 _ rfl;have r15:=qb hqe 15 _ rfl;simp only [Nat.zero_add]at b3 r0 r1 r2 r3 r4 r5 r6 r7 r8 r9 r10 r11 r12 r13 r14 r15;have hBe:B<We.heap.size:=qe hde.box;have hnbe:nb<We.heap.size:=qe hqe;obtain⟨W5,hup,hm5,kw5,hz5⟩:=qie (P:=prog) Tryz.underlying168 qk6.law qj1 hde.pmap (qa6 t) Xhkok.o ts.length;rw [Xhkv.o]at hup;have hPB:B≠P:=fun e=>by have:=hde.tagB;rw [e,hde.tagP] at this;cases this
   have hb5:=kw5.heap hde.box hPB;have hown5:=qg hde.own kw5 (fun b hb e=>by have:=hde.tagD b hb;rw [e,hde.tagP] at this;cases this);have kf5:Keep (fun b=>tag b=none) w W5:=⟨kw5.os.trans kwe.os,kw5.tape.trans kwe.tape,kw5.output.trans kwe.output,Nat.le_trans kwe.size kw5.size,fun b hb hC=>(kw5.block b (Nat.lt_of_lt_of_le hb kwe.size) (fun e=>by rw [e,Xh.o.tagP] at hC;cases hC)).trans (kwe.block b hb hb)⟩;have hs5:=qne Xhs.o Xhfree.o kf5 (fun b hb _=>hb);have hcl:=qf5 (sz:=1) ic (fun _=>rfl) (by omega) (E:=qfr) (fun b o x h j u hj=>by
    have hj0:j=0:=by have:=(List.getElem?_eq_some_iff.1 hj).1;simp [ic] at this;exact this
    subst hj0;simp [ic]at hj;subst hj;exact h) hs5 rfl
   have hfl:=qox hde.len;have hfl2:ts.flatten.length<=134217728*16:=by rw [hfl];exact Nat.mul_le_mul hl hn16
   obtain⟨vD',W6,hr6,ho6,hg6,kw6⟩:=qji (P:=prog) qm3 86 hown5 a t.length c (t.flatMap ic) (qa0 _ 1 (fun _=>rfl) _) hcl.1 hcl.2 (qjk _ (by simp [ic,Value.oneCell']) _) (by omega) (Nat.zero_le _);rw [qm2]at ho6;obtain⟨aD',lD',cD',rfl⟩: ∃aD' lD' cD',vD'=.slice aD' lD' cD':=by
    obtain⟨a1,c1,e⟩:=qi ho6;exact⟨_,_,_,e⟩
   have hBv:Value.ownBlock (.slice aD' lD' cD')≠some B:=fun e=>by
    rcases hg6 B e with h1 |h1
    ·have:=hde.tagD B h1;rw [hde.tagB] at this;cases this
    ·have:=qe hb5;omega
   have hb6:=kw6.heap hb5 hBv;obtain⟨W7,hW7⟩:=ex (W6.setCell ⟨B,1,none⟩ (.slice aD' lD' cD'));have hb7:W7.heap[B]?=some (.cells (([.int .i64 (n:Int),(.slice aD' lD' cD'),.int .i64 (ts.length:Int),.map (some P),.map (some K)]:List Value)).toArray 171 (0,0)):=by rw [←hW7];exact q8 1 (.slice aD' lD' cD') hb6
   obtain⟨W8,hW8⟩:=ex (W7.setCell ⟨B,2,none⟩ (.int .i64 ((ts.length:Int)+1)));have hb8:W8.heap[B]?=some (.cells (qfc n (.slice aD' lD' cD') (ts.length+1) P K).toArray 171 (0,0)):=by rw [←hW8];exact q8 2 (.int .i64 ((ts.length:Int)+1)) hb7
   have kw8:Keep (fun b=>b≠B) W6 W8:=by rw [←hW8,←hW7];exact(kSc).trans (kSc)
   obtain⟨tag8,hG8,hle8,hnew8,kf8,hsame8⟩:=q57 Xh.o Xhrt.o Xhok.o Xhpl.o kwe hm5 kw5 ho6 hg6 kw6 hb8 kw8;have c5:W5.cell? ⟨B,1,none⟩=some vD:=by have:=qb hb5 1 _ rfl;simpa using this
   have c6:W6.cell? ⟨B,1,none⟩=some vD:=by have:=qb hb6 1 _ rfl;simpa using this
   have f6:=qf hb6 1;have c7:W7.cell? ⟨B,2,none⟩=some (.int .i64 (ts.length:Int)):=by have:=qb hb7 2 _ rfl;simpa using this
   have f7:=qf hb7 2;have c8:W8.cell? ⟨B,4,none⟩=some (.map (some K)):=by have:=qb hb8 4 _ rfl;simpa using this
   have hB5:=qe hb5;have hB6:=qe hb6;have hB7:=qe hb7;have hB8:=qe hb8;have hl1:(ts.length:Int)+1<=536870912:=by omega
   have hans:qhh n ts t=((ts.length:Int),true,0):=by unfold qhh;rw [Xhrt.o,Xhpl.o];rfl
   have hT:qku n ts t=ts++ [t]:=by unfold qku;rw [hans];rfl
   have hw8:w.heap.size<=W8.heap.size:=kf8.size;subst hWe;clear kwe hde hqe hm5 kw5 hown5 kf5 hs5 hcl hfl hfl2 ho6 hg6 kw6 hb5 hb6 hb7 hb8 kw8 hPB hBv hz5 hsame8;refine hd7 ?_ hr6 hG8 hnew8 hle8 kf8 hans hT;clear hr6 hG8 hnew8 hle8 kf8 hans hT;intro Xhr6 XhG8 Xhnew8 Xhle8 Xkf8 Xhans XhT;go_wp2_with fail
   go_region
   clear r0 r1 r2 r3 r4 r5 r6 r7 r8 r9 r10 r11 r12 r13 r14 r15 b3 b2;have hkm8:=XhG8.o.kmap;refine hd1 ?_ hkm8;clear hkm8;intro Xhkm8;clear hw1 z1 hBd hnbd hwn hl1;go_wp2_with (first
    |(at_builtin;refine qcq (v:=vD) (u:=.slice a t.length c) (v':=(.slice aD' lD' cD')) (w':=W6) rfl (.tmp 47) (.tmp 48) 86 rfl rfl rfl Xhr6.o ?_)
    |(at_range;refine qya rfl _ 169 rfl Tryz.underlying169 rfl Xhkm8.o ?_;intro w0 hrg0 kw0 hz0))
   go_frame
   have hz8:w0.heap.size=W8.heap.size+1:=hz0;obtain⟨rb,hrb⟩:=ex (W8.heap.size);rw [hrb]at hrg0;rw [hrb];have hwrb:w.heap.size<=rb:=by omega
   have kf0:Keep (fun b=>tag b=none) w w0:=Xkf8.o.trans (kw0.mono fun _ _ _=>trivial);have hG0:RelG tag8 w0 B n (ts++ [t]) (fun c=>if (fun _:List Bool=>true) c then ts else ts++ [t]) (.slice aD' lD' cD') P K lm:=(XhG8.o.keep kw0 (fun _ _ _ _=>trivial)).to (fun _ _ _=>rfl);have hrb8:tag8 rb=none:=by
    cases hT8:tag8 rb with
    |none=>rfl
    |some T=>have:=XhG8.o.lt rb T hT8;omega
   clear c5 c6 f6 c7 f7 c8 hB5 hB6 hB7 hB8 hW7 hW8 hup Xhkm8 hz0 hz8 hw8 hBe hnbe;refine hd6 ?_ hrg0 kf0 hG0 hrb8 hrb kw0;clear hrg0 kf0 hG0 hrb8 hrb kw0;intro Xhrg0 Xkf0 XhG0 Xhrb8 Xhrb Xkw0
   go_loopw [12] (fun _ wr=> ∃left cnt tag',MapRange prog 179 qh4 qj wr K rb lm left cnt/\RelG tag' wr B n (ts++ [t]) (fun c=>if left c then ts else ts++ [t]) (.slice aD' lD' cD') P K lm/\TagLe tag tag'/\TagNew tag tag' w/\Keep (fun b=>tag b=none/\b<w.heap.size) w wr/\tag' rb=none)
    (fun _ wr=>wr.rangeLeft K rb)
   case atStart=>exact⟨_,_,tag8,Xhrg0.o,XhG0.o,Xhle8.o,Xhnew8.o,Xkf0.o.mono (fun b _ h=>h.1),Xhrb8.o⟩
   case round=>
    obtain⟨left,cnt,tag',hrg,hG,hle,hnew,hkf,hrbt⟩:=hrel;have hrl:=MapRange.left_eq hrg;refine hd7 ?_ hG hle hnew hkf hrbt hrg hrl;clear hG hle hnew hkf hrbt hrg hrl;intro XhG Xhle Xhnew Xhkf Xhrbt Xhrg Xhrl;go_wp2_with (at_next;refine q0t rfl _ rfl rfl Xhrg.o ?_ ?_)
    ·intro hc0 hl0;have hG':qb6 tag' wr B n (ts++ [t]) (.slice aD' lD' cD') P K lm:=XhG.o.to (fun c L hcl=>by rw [hl0 _ _ hcl];rfl);refine hd2 ?_ hl0 hG';clear hl0 hG';intro Xhl0 XhG';go_wp2_with fail
     go_ret3
     exact⟨by rw [Xhans.o];try rfl,Xhkf.o.mono (fun b hb h=>⟨h,hb⟩),tag',_,by rw [XhT.o];exact XhG'.o,Xhle.o,Xhnew.o⟩
    ·intro cm L w1 cnt1 hcl hlc hrg1 hlt1 hk1 hz1 hen;have hG1:=XhG.o.keep hk1 (fun b T hb _ e=>by subst e;have:=Xhrbt.o;rw [hb] at this;cases this);obtain⟨l,vl,M,mm,hLA⟩:=hG1.looks cm L hcl;have hLA1:LookAt tag' w1 n ts cm L l vl M mm:=by simpa [hlc] using hLA
     have hkf1:Keep (fun b=>tag b=none/\b<w.heap.size) w w1:=Xhkf.o.trans (hk1.mono fun b _ h=>by have:=h.2;omega);have hs1:qap w1.heap.size w1 (.slice a t.length c) t:=qpr (qne Xhs.o Xhfree.o hkf1 (fun b hb hbm=>⟨hb,by omega⟩)) (by have:=hkf1.size;omega);have hll:l.length<=16:=by have:=qoy hLA1.row;omega
     have hrbl:=hrg1.lt;clear hLA;refine hd8 ?_ hcl hlc hrg1 hk1 hG1 hLA1 hkf1 hs1;clear hcl hlc hrg1 hk1 hG1 hLA1 hkf1 hs1;intro Xhcl Xhlc Xhrg1 Xhk1 XhG1 XhLA1 Xhkf1 Xhs1;go_wp2_with fail;refine(qui XhLA1.o XhG1.o.lt hn16 (by omega) _ t Xhs1.o Xhtl.o Xhok.o hll).mono ?_;rintro e w2 ⟨rfl,tag'',m',hLA2,hst,hk2⟩;have hG2:=q38 (tsl':=fun x=>if (left x&&!decide (x=cm))=true then ts else ts++ [t]) XhG1.o Xhcl.o (by simp) (fun c' hc'=>by simp [hc']) hLA2 hst hk2;have hrg2:=Xhrg1.o.keep hk2 (by rw [XhG1.o.tagK];exact fun e=>(by cases e)) (by rw [Xhrbt.o];exact fun e=>(by cases e));have hrl2:=MapRange.left_eq hrg2;have hle2:=Xhle.o.trans hst.le;have hnew2:=Xhnew.o.trans hst.newT Xhkf1.o.size;have hkf2:Keep (fun b=>tag b=none/\b<w.heap.size) w w2:=Xhkf1.o.trans (hk2.mono fun b _ h=>by
      cases hT:tag' b with
      |none=>exact fun e=>(by cases e)
      |some T=>
       rcases Xhnew.o b T hT with ⟨T',h1⟩ |h1
       ·rw [h.1]at h1;cases h1
       ·have:=h.2;omega)
     have hrb2:tag'' rb=none:=(hst.old rb hrbl (by rw [Xhrbt.o];exact fun e=>(by cases e))).trans Xhrbt.o;clear hLA2 hst hk2;refine hd7 ?_ hG2 hrg2 hrl2 hle2 hnew2 hkf2 hrb2;clear hG2 hrg2 hrl2 hle2 hnew2 hkf2 hrb2;intro XhG2 Xhrg2 Xhrl2 Xhle2 Xhnew2 Xhkf2 Xhrb2;go_wp2_with fail;go_roundw
     case rel=>exact⟨_,_,tag'',Xhrg2.o,XhG2.o,Xhle2.o,Xhnew2.o,Xhkf2.o,Xhrb2.o⟩
     case measure=>rw [Xhrl2.o,Xhrl.o];exact hlt1
theorem qig (b:Nat): ∀(vs:List Value) (i:Nat) (w:World),World.setCells w b i vs=qgz b vs i w
 | [],_,_=>rfl
 |v::vs,i,w=>qig b vs (i+1) _
theorem qi0 {b t:Nat}{fr:Nat×Nat}{w:World}{cs:Array Value}(vs:List Value)(h:w.heap[b]?=some (.cells cs t fr))(hl:vs.length=cs.size):(World.setCells w b 0 vs).heap[b]?=some (.cells vs.toArray t fr):=by
 rw [qig];exact qg0 vs h hl
theorem qi1 (b:Nat)(vs:List Value)(i:Nat)(w:World):Keep (fun j=>j≠b) w (World.setCells w b i vs):=by
 rw [qig];exact qe4 b vs i w
theorem qj3 (l:List Int):(qaq l).length=16:=by simp [qaq]
theorem q39 {l:List Int}{x:Int}(h0:0<=x)(h16:x<16):((qaq l).map Value.bool).toArray.setIfInBounds x.toNat (.bool true)=((qaq (l++ [x])).map .bool).toArray:=by
 apply Array.ext';simp only [Array.toList_setIfInBounds];rw [←map_set]
 congr 1
 apply ext_getElem?;intro i;simp only [qaq,getElem?_set,getElem?_map,length_map,length_range];by_cases hi:x.toNat=i
 ·subst hi;rw [if_pos rfl,if_pos (by omega),getElem?_range (by omega)];have:((x.toNat:Nat):Int)=x:=by omega
  simp [this]
 ·rw [if_neg hi];cases hr:(List.range 16)[i]? with
  |none=>rfl
  |some j=>
   have hj:j=i:=by
    rw [List.getElem?_eq_some_iff]at hr;obtain⟨h1,h2⟩:=hr
    simpa using h2.symm
   subst hj;have:((j:Nat):Int)≠x:=by omega
   simp [this]
theorem qul:qaq []= [false,false,false,false,false,false,false,false,false,false,false,false,false,false,false,false]:=by simp [qaq,range_succ]
def qj4 (n:Nat)(l:List Int):List Bool:=if qdo n l=true then qaq l else qaq []
theorem q1o {n:Nat}{l:List Int}(hall: ∀i,i<l.length->qhw n l i=true):qdo n l=true:=all_eq_true.2 fun i hi=>hall i (by simpa using hi)
set_option maxRecDepth 100000 in
set_option maxHeartbeats 4000000 in
theorem q58 {w:World}{B n c P K:Nat}{vD:Value}(h:w.heap[B]?=some (.cells (qfc n vD c P K).toArray 171 (0,0)))(hn:n<=16)(m:Nat)(v:Value)(l:List Int)(hs:qap m w v l)(hm:m<=w.heap.size):
  Calls prog 179 #[.pointer (some ⟨B,0,none⟩),v] w fun e w'=>e=.returned (.tuple #[qh4 (qj4 n l),.bool (qdo n l)])/\Keep (fun k=>k<w.heap.size) w w':=by
 obtain⟨a,cc,rfl,hlt,hct,het⟩:=id hs;have hB:=qe h;obtain⟨W0,hW0⟩:=ex ((w.alloc (.cells #[.bool false,.bool false,.bool false,.bool false,.bool false,.bool false,.bool false,.bool false,.bool false,.bool false,.bool false,.bool false,.bool false,.bool false,.bool false,.bool false] 179)).alloc (.cells #[.bool false,.bool false,.bool false,.bool false,.bool false,.bool false,.bool false,.bool false,.bool false,.bool false,.bool false,.bool false,.bool false,.bool false,.bool false,.bool false] 179));have k0':Keep (fun _=>True) w W0:=by rw [←hW0];exact kAl.trans kAl
 have s0:W0.heap.size=w.heap.size+1+1:=by rw [←hW0];simp
 have n1:W0.heap[w.heap.size]?=some (.cells #[.bool false,.bool false,.bool false,.bool false,.bool false,.bool false,.bool false,.bool false,.bool false,.bool false,.bool false,.bool false,.bool false,.bool false,.bool false,.bool false] 179 (0,0)):=by rw [←hW0];exact qfm (qh _ _) _
 have n2:W0.heap[w.heap.size+1]?=some (.cells ((qaq (l.take 0)).map .bool).toArray 179 (0,0)):=by rw [←hW0];rw [take_zero,qul];simp only [qah,World.size_alloc];simp
 have hinfo:(prog.info? 179).map (·.size)=some 16:=by kernel_rfl
 refine hd7 ?_ h hs het n1 n2 k0' hinfo;clear h hs het n1 n2 k0' hinfo;intro Xh Xhs Xhet Xn1 Xn2 Xk0' Xhinfo
 go_enter Tryz.func179,Tryz.ntmps179
 go_wp2_with fail
 go_loopw [12,7] (fun i j wr=> ∃k:Nat,k<=l.length/\i=.int .i64 k/\j=.int .i64 (if k=0 then-1 else l.getD (k-1) 0)/\Keep (fun j=>j≠w.heap.size+1) W0 wr/\wr.heap[w.heap.size+1]?=some (.cells ((qaq (l.take k)).map .bool).toArray 179 (0,0))/\ ∀i,i<k->qhw n l i=true) (fun i j _=>l.length-(intOf i).toNat)
 case atStart=>exact⟨0,by omega,rfl,rfl,Keep.refl _ _,Xn2.o,fun i hi=>by omega⟩
 case round=>
  obtain⟨k,hk,rfl,rfl,hK,hblk,hall⟩:=hrel;have hszk:=hK.size;have hK2:Keep (fun j=>j<w.heap.size) w wr:=(Xk0'.o.mono fun _ _ _=>trivial).trans (hK.mono fun b _ h=>by omega);have hbox:=hK2.heap Xh.o hB;have h0w:=hK.heap Xn1.o (by omega);have c0:=qb hbox 0 _ rfl;have hth:wr.there w.heap.size 0 16:=fun j hj=>by
   rw [Nat.zero_add];refine⟨?_,qf h0w j⟩;simp [World.cell?,h0w];omega
  simp only [Nat.zero_add]at c0;have hBr:B<wr.heap.size:=by omega
  have l1:w.heap.size<wr.heap.size:=by omega
  have l2:w.heap.size+1<wr.heap.size:=by omega
  by_cases hlt':k<l.length
  ·obtain⟨x,hx⟩: ∃x,l[k]?=some x:=⟨_,getElem?_eq_getElem hlt'⟩;obtain⟨b,o,rfl,hb,hxa⟩:=Xhet.o k x hx;have hxa:=hK2.cell hxa (by simp only;omega);simp only [Nat.mul_one]at hxa;have hbw:b<wr.heap.size:=by omega
   have hlt1:(k:Int)<l.length:=by omega
   have hk0:(0:Int)<=k:=by omega
   have hxd:l.getD k 0=x:=by rw [getD_eq_getElem?_getD,hx];rfl
   obtain⟨last,hlast⟩:=ex ((if k=0 then (-1:Int) else l.getD (k-1) 0));have hlast0: -1<=last:=by
    rw [←hlast];split
    ·omega
    ·have:=hall (k-1) (by omega);simp only [qhw,Bool.and_eq_true,decide_eq_true_eq]at this;omega
   rw [hlast];have hok:qhw n l k=true↔last<x/\x<n:=by
    simp only [qhw,Bool.and_eq_true,decide_eq_true_eq,Bool.or_eq_true,beq_iff_eq,hxd];rw [←hlast];by_cases h0:k=0
    ·simp [h0];omega
    ·rw [if_neg h0];have:=hall (k-1) (by omega);simp only [qhw,Bool.and_eq_true,decide_eq_true_eq]at this;constructor
     ·rintro⟨⟨q1,q2⟩,q3⟩;exact⟨q3.resolve_left h0,q2⟩
     ·rintro⟨q1,q2⟩;exact⟨⟨by omega,q2⟩,.inr q1⟩
   by_cases hgood:last<x/\x<n
   ·obtain⟨g1,g2⟩:=hgood;have g3: ¬(x<=last):=by omega
    have g4: ¬((n:Int)<=x):=by omega
    have g5:(0:Int)<=x:=by omega
    have g6:x<16:=by omega
    have hset:=q8 x.toNat (.bool true) hblk;rw [q39 g5 g6]at hset;have hnext:l.take (k+1)=l.take k++ [x]:=by rw [take_add_one,hx];rfl
    rw [←hnext]at hset;have hfr:wr.frozen? ⟨w.heap.size+1,x.toNat,none⟩=false:=by simp [World.frozen?,hblk]
    obtain⟨u0,hu0⟩: ∃u0,wr.cell? ⟨w.heap.size+1,x.toNat,none⟩=some u0:=by
     have hl2:x.toNat<((qaq (l.take k)).map Value.bool).length:=by rw [length_map,qj3];omega
     have:=qb hblk x.toNat _ (by exact getElem?_eq_getElem hl2);rw [Nat.zero_add]at this;exact⟨_,this⟩
    have hall2: ∀i,i<k+1->qhw n l i=true:=fun i hi=>by
     rcases Nat.lt_or_ge i k with h1 |h1
     ·exact hall i h1
     ·have:i=k:=by omega
      subst this;exact hok.2 ⟨g1,g2⟩
    have hlast2:(if k+1=0 then (-1:Int) else l.getD (k+1-1) 0)=x:=by rw [if_neg (by omega),Nat.add_sub_cancel];exact hxd
    clear hok hall hbox h0w hblk hnext hx hxd hlast hth;refine hd5 ?_ hset hK hK2 hall2 hlast2;clear hset hK hK2 hall2 hlast2;intro Xhset XhK XhK2 Xhall2 Xhlast2;go_wp2_with fail;exact⟨⟨k+1,by omega,by simp,by rw [Xhlast2.o],XhK.o.trans (kSc),Xhset.o,Xhall2.o⟩,by simp [intOf];omega⟩
   ·have hans:qdo n l=false:=by
     rw [Bool.eq_false_iff];intro hrd;exact hgood (hok.1 (all_eq_true.1 hrd k (by simpa using hlt')))
    have hcvb:qh4 (qj4 n l)=.agg #[.bool false,.bool false,.bool false,.bool false,.bool false,.bool false,.bool false,.bool false,.bool false,.bool false,.bool false,.bool false,.bool false,.bool false,.bool false,.bool false]:=by
     unfold qj4;rw [hans,if_neg (by simp),qul]
     rfl
    by_cases g1:last<x
    ·have g2:(n:Int)<=x:=by
      rcases Int.lt_or_le x n with h1 |h1
      ·exact absurd ⟨g1,h1⟩ hgood
      ·exact h1
     have g3: ¬(x<=last):=by omega
     clear hgood;clear hok hall hbox hblk hx hxd hlast;refine hd6 ?_ h0w hK hK2 hans hcvb hth;clear h0w hK hK2 hans hcvb hth;intro Xh0w XhK XhK2 Xhans Xhcvb Xhth;go_wp2_with (refine wpList_store_mid rfl 179 _ _ rfl w.heap.size 0 #[.bool false,.bool false,.bool false,.bool false,.bool false,.bool false,.bool false,.bool false,.bool false,.bool false,.bool false,.bool false,.bool false,.bool false,.bool false,.bool false] rfl rfl Xhth.o Xhinfo.o (by simp [Value.oneCell']) ?_);refine qib (fun W=>W.heap[w.heap.size]?=some (.cells #[.bool false,.bool false,.bool false,.bool false,.bool false,.bool false,.bool false,.bool false,.bool false,.bool false,.bool false,.bool false,.bool false,.bool false,.bool false,.bool false] 179 (0,0))/\Keep (fun k=>k<w.heap.size) w W) (w:=World.setCells wr w.heap.size 0 [.bool false,.bool false,.bool false,.bool false,.bool false,.bool false,.bool false,.bool false,.bool false,.bool false,.bool false,.bool false,.bool false,.bool false,.bool false,.bool false]) ⟨qi0 [.bool false,.bool false,.bool false,.bool false,.bool false,.bool false,.bool false,.bool false,.bool false,.bool false,.bool false,.bool false,.bool false,.bool false,.bool false,.bool false] Xh0w.o rfl,XhK2.o.trans ((qi1 _ _ _ _).mono (fun b _ h=>by omega))⟩ ?_;rintro W2 ⟨hq,kq⟩;have r0:=qb hq 0 _ rfl;have r1:=qb hq 1 _ rfl;have r2:=qb hq 2 _ rfl;have r3:=qb hq 3 _ rfl;have r4:=qb hq 4 _ rfl;have r5:=qb hq 5 _ rfl;have r6:=qb hq 6 _ rfl;have r7:=qb hq 7 _ rfl;have r8:=qb hq 8 _ rfl;have r9:=qb hq 9 _ rfl;have r10:=qb hq 10 _ rfl;have r11:=qb hq 11 _ rfl;have r12:=qb hq 12 _ rfl;have r13:=qb hq 13 _ rfl;have r14:=qb hq 14 _ rfl;have r15:=qb hq 15 _ rfl;simp only [Nat.zero_add]at r0 r1 r2 r3 r4 r5 r6 r7 r8 r9 r10 r11 r12 r13 r14 r15;clear hq;refine hd1 ?_ kq;clear kq;intro Xkq;refine bodyPost_ret (v:=.tuple #[.agg #[.bool false,.bool false,.bool false,.bool false,.bool false,.bool false,.bool false,.bool false,.bool false,.bool false,.bool false,.bool false,.bool false,.bool false,.bool false,.bool false],.bool false]) (by simp [results,Tryz.results179,go_sem,r0,r1,r2,r3,r4,r5,r6,r7,r8,r9,r10,r11,r12,r13,r14,r15]) rfl ⟨by rw [Xhcvb.o,Xhans.o],Xkq.o⟩
    ·have g3:x<=last:=by omega
     clear hgood g1;clear hok hall hbox hblk hx hxd hlast;refine hd6 ?_ h0w hK hK2 hans hcvb hth;clear h0w hK hK2 hans hcvb hth;intro Xh0w XhK XhK2 Xhans Xhcvb Xhth;go_wp2_with (refine wpList_store_mid rfl 179 _ _ rfl w.heap.size 0 #[.bool false,.bool false,.bool false,.bool false,.bool false,.bool false,.bool false,.bool false,.bool false,.bool false,.bool false,.bool false,.bool false,.bool false,.bool false,.bool false] rfl rfl Xhth.o Xhinfo.o (by simp [Value.oneCell']) ?_);refine qib (fun W=>W.heap[w.heap.size]?=some (.cells #[.bool false,.bool false,.bool false,.bool false,.bool false,.bool false,.bool false,.bool false,.bool false,.bool false,.bool false,.bool false,.bool false,.bool false,.bool false,.bool false] 179 (0,0))/\Keep (fun k=>k<w.heap.size) w W) (w:=World.setCells wr w.heap.size 0 [.bool false,.bool false,.bool false,.bool false,.bool false,.bool false,.bool false,.bool false,.bool false,.bool false,.bool false,.bool false,.bool false,.bool false,.bool false,.bool false]) ⟨qi0 [.bool false,.bool false,.bool false,.bool false,.bool false,.bool false,.bool false,.bool false,.bool false,.bool false,.bool false,.bool false,.bool false,.bool false,.bool false,.bool false] Xh0w.o rfl,XhK2.o.trans ((qi1 _ _ _ _).mono (fun b _ h=>by omega))⟩ ?_;rintro W2 ⟨hq,kq⟩;have r0:=qb hq 0 _ rfl;have r1:=qb hq 1 _ rfl;have r2:=qb hq 2 _ rfl;have r3:=qb hq 3 _ rfl;have r4:=qb hq 4 _ rfl;have r5:=qb hq 5 _ rfl;have r6:=qb hq 6 _ rfl;have r7:=qb hq 7 _ rfl;have r8:=qb hq 8 _ rfl;have r9:=qb hq 9 _ rfl;have r10:=qb hq 10 _ rfl;have r11:=qb hq 11 _ rfl;have r12:=qb hq 12 _ rfl;have r13:=qb hq 13 _ rfl;have r14:=qb hq 14 _ rfl;have r15:=qb hq 15 _ rfl;simp only [Nat.zero_add]at r0 r1 r2 r3 r4 r5 r6 r7 r8 r9 r10 r11 r12 r13 r14 r15;clear hq;refine hd1 ?_ kq;clear kq;intro Xkq;refine bodyPost_ret (v:=.tuple #[.agg #[.bool false,.bool false,.bool false,.bool false,.bool false,.bool false,.bool false,.bool false,.bool false,.bool false,.bool false,.bool false,.bool false,.bool false,.bool false,.bool false],.bool false]) (by simp [results,Tryz.results179,go_sem,r0,r1,r2,r3,r4,r5,r6,r7,r8,r9,r10,r11,r12,r13,r14,r15]) rfl ⟨by rw [Xhcvb.o,Xhans.o],Xkq.o⟩
  ·generalize (if k=0 then (-1:Int) else l.getD (k-1) 0)=last;obtain rfl:k=l.length:=by omega
   rw [take_length]at hblk;have hans:qdo n l=true:=q1o hall;obtain⟨k0,k1,k2,k3,k4,k5,k6,k7,k8,k9,k10,k11,k12,k13,k14,k15,hpad⟩: ∃k0 k1 k2 k3 k4 k5 k6 k7 k8 k9 k10 k11 k12 k13 k14 k15,qaq l= [k0,k1,k2,k3,k4,k5,k6,k7,k8,k9,k10,k11,k12,k13,k14,k15]:=by
    have hlen:=qj3 l
    match h:qaq l,hlen with
    | [k0,k1,k2,k3,k4,k5,k6,k7,k8,k9,k10,k11,k12,k13,k14,k15],_=>exact⟨k0,k1,k2,k3,k4,k5,k6,k7,k8,k9,k10,k11,k12,k13,k14,k15,rfl⟩
   have hcv:qh4 (qj4 n l)=.agg #[.bool k0,.bool k1,.bool k2,.bool k3,.bool k4,.bool k5,.bool k6,.bool k7,.bool k8,.bool k9,.bool k10,.bool k11,.bool k12,.bool k13,.bool k14,.bool k15]:=by unfold qj4;rw [hans,if_pos rfl,hpad];rfl
   rw [hpad]at hblk;have hbw:wr.heap[w.heap.size+1]?=some (.cells #[.bool k0,.bool k1,.bool k2,.bool k3,.bool k4,.bool k5,.bool k6,.bool k7,.bool k8,.bool k9,.bool k10,.bool k11,.bool k12,.bool k13,.bool k14,.bool k15] 179 (0,0)):=hblk;have c1:=qb hbw 0 _ rfl;have c2:=qb hbw 1 _ rfl;have c3:=qb hbw 2 _ rfl;have c4:=qb hbw 3 _ rfl;have c5:=qb hbw 4 _ rfl;have c6:=qb hbw 5 _ rfl;have c7:=qb hbw 6 _ rfl;have c8:=qb hbw 7 _ rfl;have c9:=qb hbw 8 _ rfl;have c10:=qb hbw 9 _ rfl;have c11:=qb hbw 10 _ rfl;have c12:=qb hbw 11 _ rfl;have c13:=qb hbw 12 _ rfl;have c14:=qb hbw 13 _ rfl;have c15:=qb hbw 14 _ rfl;have c16:=qb hbw 15 _ rfl;simp only [Nat.zero_add]at c1 c2 c3 c4 c5 c6 c7 c8 c9 c10 c11 c12 c13 c14 c15 c16;clear hblk hpad hbw hall hbox;refine hd6 ?_ h0w hK hK2 hans hcv hth;clear h0w hK hK2 hans hcv hth;intro Xh0w XhK XhK2 Xhans Xhcv Xhth;go_wp2_with (refine wpList_store_mid rfl 179 _ _ rfl w.heap.size 0 #[.bool k0,.bool k1,.bool k2,.bool k3,.bool k4,.bool k5,.bool k6,.bool k7,.bool k8,.bool k9,.bool k10,.bool k11,.bool k12,.bool k13,.bool k14,.bool k15] rfl rfl Xhth.o Xhinfo.o (by simp [Value.oneCell']) ?_);refine qib (fun W=>W.heap[w.heap.size]?=some (.cells #[.bool k0,.bool k1,.bool k2,.bool k3,.bool k4,.bool k5,.bool k6,.bool k7,.bool k8,.bool k9,.bool k10,.bool k11,.bool k12,.bool k13,.bool k14,.bool k15] 179 (0,0))/\Keep (fun k=>k<w.heap.size) w W) (w:=World.setCells wr w.heap.size 0 [.bool k0,.bool k1,.bool k2,.bool k3,.bool k4,.bool k5,.bool k6,.bool k7,.bool k8,.bool k9,.bool k10,.bool k11,.bool k12,.bool k13,.bool k14,.bool k15]) ⟨qi0 [.bool k0,.bool k1,.bool k2,.bool k3,.bool k4,.bool k5,.bool k6,.bool k7,.bool k8,.bool k9,.bool k10,.bool k11,.bool k12,.bool k13,.bool k14,.bool k15] Xh0w.o rfl,XhK2.o.trans ((qi1 _ _ _ _).mono (fun b _ h=>by omega))⟩ ?_;rintro W2 ⟨hq,kq⟩;have r0:=qb hq 0 _ rfl;have r1:=qb hq 1 _ rfl;have r2:=qb hq 2 _ rfl;have r3:=qb hq 3 _ rfl;have r4:=qb hq 4 _ rfl;have r5:=qb hq 5 _ rfl
   have r6:=qb hq 6 _ rfl;have r7:=qb hq 7 _ rfl;have r8:=qb hq 8 _ rfl;have r9:=qb hq 9 _ rfl;have r10:=qb hq 10 _ rfl;have r11:=qb hq 11 _ rfl;have r12:=qb hq 12 _ rfl;have r13:=qb hq 13 _ rfl;have r14:=qb hq 14 _ rfl;have r15:=qb hq 15 _ rfl;simp only [Nat.zero_add]at r0 r1 r2 r3 r4 r5 r6 r7 r8 r9 r10 r11 r12 r13 r14 r15;clear hq;refine hd1 ?_ kq;clear kq;intro Xkq;refine bodyPost_ret (v:=.tuple #[.agg #[.bool k0,.bool k1,.bool k2,.bool k3,.bool k4,.bool k5,.bool k6,.bool k7,.bool k8,.bool k9,.bool k10,.bool k11,.bool k12,.bool k13,.bool k14,.bool k15],.bool true]) (by simp [results,Tryz.results179,go_sem,r0,r1,r2,r3,r4,r5,r6,r7,r8,r9,r10,r11,r12,r13,r14,r15]) rfl ⟨by rw [Xhcv.o,Xhans.o],Xkq.o⟩
end Go.Proofs.R4

/- Parts of the proof. -/
import Derived.Test.YtnponcjnahicnaaGreatProg
import Derived.Test.YtnponcjnahicnaaGreatMapsToRelG
import Derived.Laws.Cover3
import Derived.Test.YtnponcjnahicnaaGreatHdToKp
import Derived.Laws.CopyRow
set_option linter.unusedSimpArgs false
set_option linter.unusedVariables false
open Go.Proofs.Tryz(prog)
open List(all_append all_eq_true append_assoc append_inj append_nil drop_replicate eq_nil_of_length_eq_zero getD_eq_getElem?_getD getElem?_eq_getElem getElem?_set_self length_map length_take map_append map_cons map_replicate map_set mem_of_getElem? nil_append replicate_succ set_append_right set_cons_zero singleton_append take_add_one take_length take_of_length_le take_set_of_le take_zero)
namespace Go.Proofs.R4
open Go.RowKit Go.Ink
attribute [local go_sem] Oper.semAt_some
def qfc (n:Nat)(vD:Value)(c P K:Nat):List Value:= [.int .i64 (n:Int),vD,.int .i64 (c:Int),.map (some P),.map (some K)]
set_option maxRecDepth 100000 in
theorem q37 (w:World):Calls prog 96 #[.pointer none] w fun e w'=>e=.returned (.bool false)/\w'=w:=by
 go_enter Tryz.func96,Tryz.ntmps96
 go_wp2;go_ret;exact⟨rfl,rfl⟩
set_option maxRecDepth 100000 in
theorem ql0 {w:World}{B n c P K:Nat}{vD:Value}(h:w.heap[B]?=some (.cells (qfc n vD c P K).toArray 171 (0,0))):Calls prog 96 #[.pointer (some ⟨B,0,none⟩)] w fun e w'=>e=.returned (.bool true)/\w'=w:=by
 have c3:=qb h 3 _ rfl;have hB:=qe h;simp only [Nat.zero_add]at c3;clear h;have hne: ∀w',(binOp .neq 168 (.map (some P)) (.map none)).run prog w'=.ok (.bool true) w':=fun w'=>run_neq_map_nil w' _ _ _ (some P) Tryz.underlying168
 go_enter Tryz.func96,Tryz.ntmps96
 go_wp2;go_ret;exact⟨rfl,rfl⟩
set_option maxRecDepth 100000 in
theorem qyz (w:World):Calls prog 144 #[.pointer none] w fun e w'=>e=.returned (.int .i64 0)/\w'=w:=by
 go_enter Tryz.func144,Tryz.ntmps144
 go_wp2_with fail;refine(q37 w).mono ?_;rintro e w1 ⟨rfl,rfl⟩;go_wp2_with fail;go_ret;exact⟨rfl,rfl⟩
set_option maxRecDepth 100000 in
theorem qy0 {w:World}{B n c P K:Nat}{vD:Value}(h:w.heap[B]?=some (.cells (qfc n vD c P K).toArray 171 (0,0))):Calls prog 144 #[.pointer (some ⟨B,0,none⟩)] w fun e w'=>e=.returned (.int .i64 c)/\w'=w:=by
 have c2:=qb h 2 _ rfl;have hB:=qe h;simp only [Nat.zero_add]at c2;refine hd1 ?_ h;clear h;intro Xh
 go_enter Tryz.func144,Tryz.ntmps144
 go_wp2_with fail;refine(ql0 Xh.o).mono ?_;rintro e w1 ⟨rfl,rfl⟩;go_wp2_with fail;go_ret;exact⟨rfl,rfl⟩
set_option maxRecDepth 100000 in
theorem qr1 {w:World}{B n c P K:Nat}{vD:Value}(h:w.heap[B]?=some (.cells (qfc n vD c P K).toArray 171 (0,0)))(m:Nat)(v:Value)(t:List Int)(hs:qap m w v t)(hm:m<=w.heap.size):
  Calls prog 97 #[.pointer (some ⟨B,0,none⟩),v] w fun e w'=>e=.returned (.bool (qdb n t))/\Keep (fun _=>True) w w':=by
 obtain⟨a,cc,rfl,hl,hc,he⟩:=id hs;have hB:=qe h;refine hd3 ?_ h hs he;clear h hs he;intro Xh Xhs Xhe
 go_enter Tryz.func97,Tryz.ntmps97
 go_wp2_with fail
 go_loopw [9] (fun i wr=> ∃k:Nat,k<=t.length/\i=.int .i64 k/\Keep (fun _=>True) w wr/\(t.take k).all (fun x=>decide (0<=x))=true) (fun i _=>t.length-(intOf i).toNat)
 case atStart=>exact⟨0,by omega,rfl,Keep.refl _ _,rfl⟩
 case round=>
  obtain⟨k,hk,rfl,hK,hall⟩:=hrel;have hszk:=hK.size;by_cases hlt:k<t.length
  ·obtain⟨x,hx⟩: ∃x,t[k]?=some x:=⟨_,getElem?_eq_getElem hlt⟩;obtain⟨b,o,rfl,hb,hxa⟩:=Xhe.o k x hx;have hxa:=hK.cell hxa trivial;simp only [Nat.mul_one]at hxa;have hb1:b<wr.heap.size:=by omega
   have hlt1:(k:Int)<t.length:=by omega
   have hk0:(0:Int)<=k:=by omega
   by_cases hneg:x<0
   ·have hno:qdb n t=false:=by
     rw [Bool.eq_false_iff];intro h;simp only [qdb,Bool.and_eq_true,all_eq_true,decide_eq_true_eq]at h;have:=h.2 x (mem_of_getElem? hx);omega
    clear hall hx;refine hd2 ?_ hno hK;clear hno hK;intro Xhno XhK;go_wp2_with fail;go_ret;exact⟨by rw [Xhno.o];try rfl,XhK.o⟩
   ·have hall2:(t.take (k+1)).all (fun x=>decide (0<=x))=true:=by
     rw [take_add_one,hx,all_append,hall];simp;omega
    clear hall hx;refine hd2 ?_ hall2 hK;clear hall2 hK;intro Xhall2 XhK;go_wp2_with fail;go_roundw
    case rel=>exact⟨k+1,by omega,by go_num,XhK.o,Xhall2.o⟩
    case measure=>simp [intOf];omega
  ·obtain rfl:k=t.length:=by omega
   rw [take_length]at hall;have hbox:=hK.heap Xh.o trivial;have c0:=qb hbox 0 _ rfl;have hBr:B<wr.heap.size:=by omega
   simp only [Nat.zero_add]at c0;clear hbox;by_cases hlen:t.length=n
   ·have hans:qdb n t=true:=by simp only [qdb,hall,hlen];simp
    have hl1:((t.length:Int)==n)=true:=by simp [hlen]
    clear hall hlen;refine hd2 ?_ hans hK;clear hans hK;intro Xhans XhK;go_wp2_with fail;go_ret;exact⟨by rw [Xhans.o];try rfl,XhK.o⟩
   ·have hans:qdb n t=false:=by simp [qdb,hlen]
    have hl1:((t.length:Int)==n)=false:=by rw [beq_eq_false_iff_ne];omega
    clear hall hlen;refine hd2 ?_ hans hK;clear hans hK;intro Xhans XhK;go_wp2_with fail;go_ret;exact⟨by rw [Xhans.o];try rfl,XhK.o⟩
def qa6 (t:List Int):List Int:=t++List.replicate (16-t.length) 0
def qg5 (l:List Int):Value:=.agg (l.map (.int .i64)).toArray
theorem qhk {t:List Int}(h:t.length<=16):(qa6 t).length=16:=by simp [qa6];omega
theorem qq1 {s t:List Int}(h:qa6 s=qa6 t)(hl:s.length=t.length):s=t:=by
 unfold qa6 at h;exact(append_inj h hl).1
theorem qj1: ∀a b:List Int,qg5 a=qg5 b->a=b:=by
 intro a b h;unfold qg5 at h;injection h with h
 have h2:a.map (Value.int .i64)=b.map (.int .i64):=by simpa using congrArg Array.toList h
 clear h
 induction a generalizing b with
 |nil=>cases b with
  |nil=>rfl
  |cons y b=>simp at h2
 |cons x a ih=>cases b with
  |nil=>simp at h2
  |cons y b=>
   simp only [map_cons,List.cons.injEq,Value.int.injEq,true_and]at h2;rw [h2.1,ih b h2.2]
def qgz (b:Nat):List Value->Nat->World->World
 | [],_,w=>w
 |v::vs,i,w=>qgz b vs (i+1) (w.setCell ⟨b,i,none⟩ v)
theorem qp1 {b t:Nat}{fr:Nat×Nat}: ∀(vs:List Value) (i:Nat) (w:World) (cs:Array Value),w.heap[b]?=some (.cells cs t fr)->i+vs.length=cs.size->(qgz b vs i w).heap[b]?=some (.cells (cs.toList.take i++vs).toArray t fr)
 | [],i,w,cs,h,hl=>by
  have:i=cs.size:=by simpa using hl
  subst this;rw [qgz,h,append_nil];rw [take_of_length_le (by simp)]
 |v::vs,i,w,cs,h,hl=>by
  have hl2:i+1+vs.length=cs.size:=by simp at hl;omega
  have:=qp1 vs (i+1) (w.setCell ⟨b,i,none⟩ v) _ (q8 i v h) (by simpa using hl2);rw [qgz,this];have hi:i<cs.toList.length:=by simp;omega
  simp only [Array.toList_setIfInBounds,take_add_one,take_set_of_le (Nat.le_refl i),getElem?_set_self hi,Option.toList_some,append_assoc,singleton_append]
theorem qg0 {b t:Nat}{fr:Nat×Nat}{w:World}{cs:Array Value}(vs:List Value)(h:w.heap[b]?=some (.cells cs t fr))(hl:vs.length=cs.size):(qgz b vs 0 w).heap[b]?=some (.cells vs.toArray t fr):=by
 have:=qp1 vs 0 w cs h (by omega)
 simpa using this
theorem qe4 (b:Nat): ∀(vs:List Value) (i:Nat) (w:World),Keep (fun j=>j≠b) w (qgz b vs i w)
 | [],_,_=>Keep.refl _ _
 |v::vs,i,w=>(kSc).trans (qe4 b vs (i+1) _)
set_option maxRecDepth 100000 in
set_option maxHeartbeats 4000000 in
theorem qnd (n:Nat)(v:Value)(t:List Int)(w:World)(hs:qap n w v t)(hn:n<=w.heap.size)(hl:t.length<=16):
  Calls prog 98 #[v] w fun e w'=>e=.returned (qg5 (qa6 t))/\Keep (fun k=>k<w.heap.size) w w':=by
 obtain⟨a,c,rfl,hlt,hct,het⟩:=id hs;obtain⟨W0,hW0⟩:=ex ((w.alloc (.cells #[.int .i64 0,.int .i64 0,.int .i64 0,.int .i64 0,.int .i64 0,.int .i64 0,.int .i64 0,.int .i64 0,.int .i64 0,.int .i64 0,.int .i64 0,.int .i64 0,.int .i64 0,.int .i64 0,.int .i64 0,.int .i64 0] 176)).alloc (.cells #[.int .i64 0,.int .i64 0,.int .i64 0,.int .i64 0,.int .i64 0,.int .i64 0,.int .i64 0,.int .i64 0,.int .i64 0,.int .i64 0,.int .i64 0,.int .i64 0,.int .i64 0,.int .i64 0,.int .i64 0,.int .i64 0] 176));have k0':Keep (fun _=>True) w W0:=by rw [←hW0];exact kAl.trans kAl
 have s0:W0.heap.size=w.heap.size+1+1:=by rw [←hW0];simp
 have n1:W0.heap[w.heap.size]?=some (.cells #[.int .i64 0,.int .i64 0,.int .i64 0,.int .i64 0,.int .i64 0,.int .i64 0,.int .i64 0,.int .i64 0,.int .i64 0,.int .i64 0,.int .i64 0,.int .i64 0,.int .i64 0,.int .i64 0,.int .i64 0,.int .i64 0] 176 (0,0)):=by rw [←hW0];exact qfm (qh _ _) _
 have n2:W0.heap[w.heap.size+1]?=some (.cells #[.int .i64 0,.int .i64 0,.int .i64 0,.int .i64 0,.int .i64 0,.int .i64 0,.int .i64 0,.int .i64 0,.int .i64 0,.int .i64 0,.int .i64 0,.int .i64 0,.int .i64 0,.int .i64 0,.int .i64 0,.int .i64 0] 176 (0,0)):=by rw [←hW0];simp only [qah,World.size_alloc];simp
 have hs0:=qd2 hs (m:=n) (k0'.mono fun _ _ _=>trivial) (Nat.le_refl _);have hcl:=qf5 (sz:=1) ic (fun _=>rfl) (by omega) (E:=qfr) (fun b o x h j u hj=>by
  have hj0:j=0:=by have:=(List.getElem?_eq_some_iff.1 hj).1;simp [ic] at this;exact this
  subst hj0;simp [ic]at hj;subst hj;exact h) hs0 rfl
 have hinfo:(prog.info? 3).map (·.size)=some 1:=by kernel_rfl
 have hcopy: ∃r W1,(Builtin.copy_ #[86,86] 3 #[.slice (some ⟨w.heap.size+1,0,none⟩) 16 16,.slice a t.length c]).run prog W0=.ok r W1/\W1.heap[w.heap.size+1]?=some (.cells ((qa6 t).map (.int .i64)).toArray 176 (0,0))/\Keep (fun b=>b≠w.heap.size+1) W0 W1/\W1.heap.size=W0.heap.size:=by
  cases a with
  |none=>
   have ht:t= []:=eq_nil_of_length_eq_zero (hcl.2 rfl);subst ht;exact⟨_,_,run_copy_none W0 _ _ _ _ _ _ _ _ _ _ Tryz.underlying86 hinfo (by simp),n2,Keep.refl _ _,rfl⟩
  |some ad=>
   have hcs:=hcl.1 ad rfl;rw [qm2]at hcs;have hr:=run_copy_row (P:=prog) W0 86 86 3 3 (w.heap.size+1) 0 16 16 ad t.length c _ _ (t.map (.int .i64)) Tryz.underlying86 hinfo n2 (by rw [length_map];exact(Nat.min_eq_left hl).symm) hcs (by simp;omega) (by simp [Value.oneCell']);refine⟨_,_,hr,?_,?_,?_⟩
   ·rw [setRow_heap W0 _ _ _ _ _ n2];have hz:([.int .i64 0,.int .i64 0,.int .i64 0,.int .i64 0,.int .i64 0,.int .i64 0,.int .i64 0,.int .i64 0,.int .i64 0,.int .i64 0,.int .i64 0,.int .i64 0,.int .i64 0,.int .i64 0,.int .i64 0,.int .i64 0]:List Value)=List.replicate 16 (.int .i64 0):=rfl;simp only [hz,take_zero,nil_append,Nat.zero_add,length_map,drop_replicate,qa6,map_append,map_replicate]
   ·exact⟨rfl,rfl,rfl,by simp,fun k _ hk=>setRow_other _ _ _ _ hk⟩
   ·simp
 obtain⟨rv,W1,hr1,hb1,hk1,hz1⟩:=hcopy;obtain⟨k0,k1,k2,k3,k4,k5,k6,k7,k8,k9,k10,k11,k12,k13,k14,k15,hpad⟩: ∃k0 k1 k2 k3 k4 k5 k6 k7 k8 k9 k10 k11 k12 k13 k14 k15,qa6 t= [k0,k1,k2,k3,k4,k5,k6,k7,k8,k9,k10,k11,k12,k13,k14,k15]:=by
  have hlen:=qhk hl
  match h:qa6 t,hlen with
  | [k0,k1,k2,k3,k4,k5,k6,k7,k8,k9,k10,k11,k12,k13,k14,k15],_=>exact⟨k0,k1,k2,k3,k4,k5,k6,k7,k8,k9,k10,k11,k12,k13,k14,k15,rfl⟩
 rw [hpad]at hb1;rw [hpad];have hb1':W1.heap[w.heap.size+1]?=some (.cells #[.int .i64 k0,.int .i64 k1,.int .i64 k2,.int .i64 k3,.int .i64 k4,.int .i64 k5,.int .i64 k6,.int .i64 k7,.int .i64 k8,.int .i64 k9,.int .i64 k10,.int .i64 k11,.int .i64 k12,.int .i64 k13,.int .i64 k14,.int .i64 k15] 176 (0,0)):=hb1;have hb0:=hk1.heap n1 (by omega);have c0:=qb hb1' 0 _ rfl;have z0:=qb hb0 0 _ rfl;have f0:=qf hb0 0;have c1:=qb hb1' 1 _ rfl;have z1:=qb hb0 1 _ rfl;have f1:=qf hb0 1;have c2:=qb hb1' 2 _ rfl;have z2:=qb hb0 2 _ rfl;have f2:=qf hb0 2;have c3:=qb hb1' 3 _ rfl;have z3:=qb hb0 3 _ rfl;have f3:=qf hb0 3;have c4:=qb hb1' 4 _ rfl;have z4:=qb hb0 4 _ rfl;have f4:=qf hb0 4;have c5:=qb hb1' 5 _ rfl;have z5:=qb hb0 5 _ rfl;have f5:=qf hb0 5;have c6:=qb hb1' 6 _ rfl;have z6:=qb hb0 6 _ rfl;have f6:=qf hb0 6;have c7:=qb hb1' 7 _ rfl;have z7:=qb hb0 7 _ rfl;have f7:=qf hb0 7;have c8:=qb hb1' 8 _ rfl;have z8:=qb hb0 8 _ rfl;have f8:=qf hb0 8;have c9:=qb hb1' 9 _ rfl;have z9:=qb hb0 9 _ rfl;have f9:=qf hb0 9;have c10:=qb hb1' 10 _ rfl;have z10:=qb hb0 10 _ rfl;have f10:=qf hb0 10;have c11:=qb hb1' 11 _ rfl;have z11:=qb hb0 11 _ rfl;have f11:=qf hb0 11;have c12:=qb hb1' 12 _ rfl;have z12:=qb hb0 12 _ rfl;have f12:=qf hb0 12;have c13:=qb hb1' 13 _ rfl;have z13:=qb hb0 13 _ rfl;have f13:=qf hb0 13;have c14:=qb hb1' 14 _ rfl;have z14:=qb hb0 14 _ rfl;have f14:=qf hb0 14;have c15:=qb hb1' 15 _ rfl;have z15:=qb hb0 15 _ rfl;have f15:=qf hb0 15;simp only [Nat.zero_add]at c0 z0 c1 z1 c2 z2 c3 z3 c4 z4 c5 z5 c6 z6 c7 z7 c8 z8 c9 z9 c10 z10 c11 z11 c12 z12 c13 z13 c14 z14 c15 z15;have l1:w.heap.size<W1.heap.size:=by omega
 have l2:w.heap.size+1<W1.heap.size:=by omega
 have kw:Keep (fun k=>k<w.heap.size) w W1:=(k0'.mono fun _ _ _=>trivial).trans (hk1.mono fun b _ h=>by omega);clear hcl hs0 hinfo n1 n2 hb1 k0' hk1 hpad hz1;refine hd5 ?_ hs het hb0 hb1' kw;clear hs het hb0 hb1' kw;intro Xhs Xhet Xhb0 Xhb1' Xkw
 go_enter Tryz.func98,Tryz.ntmps98
 go_wp2_with fail;refine qib (fun W=>W.heap[w.heap.size]?=some (.cells #[.int .i64 k0,.int .i64 k1,.int .i64 k2,.int .i64 k3,.int .i64 k4,.int .i64 k5,.int .i64 k6,.int .i64 k7,.int .i64 k8,.int .i64 k9,.int .i64 k10,.int .i64 k11,.int .i64 k12,.int .i64 k13,.int .i64 k14,.int .i64 k15] 176 (0,0))/\Keep (fun k=>k<w.heap.size) w W) (w:=qgz w.heap.size [.int .i64 k0,.int .i64 k1,.int .i64 k2,.int .i64 k3,.int .i64 k4,.int .i64 k5,.int .i64 k6,.int .i64 k7,.int .i64 k8,.int .i64 k9,.int .i64 k10,.int .i64 k11,.int .i64 k12,.int .i64 k13,.int .i64 k14,.int .i64 k15] 0 W1) ⟨qg0 [.int .i64 k0,.int .i64 k1,.int .i64 k2,.int .i64 k3,.int .i64 k4,.int .i64 k5,.int .i64 k6,.int .i64 k7,.int .i64 k8,.int .i64 k9,.int .i64 k10,.int .i64 k11,.int .i64 k12,.int .i64 k13,.int .i64 k14,.int .i64 k15] Xhb0.o rfl,Xkw.o.trans ((qe4 _ _ _ _).mono (fun b _ h=>by omega))⟩ ?_;rintro W2 ⟨hq,kq⟩;have r0:=qb hq 0 _ rfl;have r1:=qb hq 1 _ rfl;have r2:=qb hq 2 _ rfl;have r3:=qb hq 3 _ rfl;have r4:=qb hq 4 _ rfl;have r5:=qb hq 5 _ rfl;have r6:=qb hq 6 _ rfl;have r7:=qb hq 7 _ rfl;have r8:=qb hq 8 _ rfl;have r9:=qb hq 9 _ rfl;have r10:=qb hq 10 _ rfl;have r11:=qb hq 11 _ rfl;have r12:=qb hq 12 _ rfl;have r13:=qb hq 13 _ rfl;have r14:=qb hq 14 _ rfl;have r15:=qb hq 15 _ rfl;simp only [Nat.zero_add]at r0 r1 r2 r3 r4 r5 r6 r7 r8 r9 r10 r11 r12 r13 r14 r15;clear hq;refine hd1 ?_ kq;clear kq;intro Xkq;refine bodyPost_ret (v:=.agg #[.int .i64 k0,.int .i64 k1,.int .i64 k2,.int .i64 k3,.int .i64 k4,.int .i64 k5,.int .i64 k6,.int .i64 k7,.int .i64 k8,.int .i64 k9,.int .i64 k10,.int .i64 k11,.int .i64 k12,.int .i64 k13,.int .i64 k14,.int .i64 k15]) (by simp [results,Tryz.results98,go_sem,r0,r1,r2,r3,r4,r5,r6,r7,r8,r9,r10,r11,r12,r13,r14,r15]) rfl ⟨rfl,Xkq.o⟩
def qen (t l:List Int):List Int:=l.map fun c=>t.getD c.toNat 0
def qcb (t l:List Int):List Int:=qa6 (qen t l)
theorem qj2 (t l:List Int):(qen t l).length=l.length:=by simp [qen]
theorem q54 {t:List Int}(x:Int)(h:t.length<16):((qa6 t).map (Value.int .i64)).toArray.setIfInBounds t.length (.int .i64 x)=((qa6 (t++ [x])).map (.int .i64)).toArray:=by
 apply Array.ext';simp only [Array.toList_setIfInBounds,←map_set]
 congr 1
 unfold qa6;have:16-t.length=(16-(t++ [x]).length)+1:=by simp;omega
 rw [this,replicate_succ,set_append_right _ _ (Nat.le_refl _),Nat.sub_self,set_cons_zero,append_assoc,singleton_append]
set_option maxRecDepth 100000 in
set_option maxHeartbeats 4000000 in
theorem q55 (w:World)(v vl:Value)(t l:List Int)(hs:qap w.heap.size w v t)(hl:qap w.heap.size w vl l)(hlen:l.length<=16)(hin: ∀c∈l,0<=c/\c<t.length):
  Calls prog 133 #[v,vl] w fun e w'=>e=.returned (qg5 (qcb t l))/\Keep (fun k=>k<w.heap.size) w w':=by
 obtain⟨a,c,rfl,hlt,hct,het⟩:=id hs;obtain⟨a2,c2,rfl,hlt2,hct2,het2⟩:=id hl;obtain⟨W0,hW0⟩:=ex ((w.alloc (.cells #[.int .i64 0,.int .i64 0,.int .i64 0,.int .i64 0,.int .i64 0,.int .i64 0,.int .i64 0,.int .i64 0,.int .i64 0,.int .i64 0,.int .i64 0,.int .i64 0,.int .i64 0,.int .i64 0,.int .i64 0,.int .i64 0] 176)).alloc (.cells #[.int .i64 0,.int .i64 0,.int .i64 0,.int .i64 0,.int .i64 0,.int .i64 0,.int .i64 0,.int .i64 0,.int .i64 0,.int .i64 0,.int .i64 0,.int .i64 0,.int .i64 0,.int .i64 0,.int .i64 0,.int .i64 0] 176));have k0':Keep (fun _=>True) w W0:=by rw [←hW0];exact kAl.trans kAl
 have s0:W0.heap.size=w.heap.size+1+1:=by rw [←hW0];simp
 have n1:W0.heap[w.heap.size]?=some (.cells #[.int .i64 0,.int .i64 0,.int .i64 0,.int .i64 0,.int .i64 0,.int .i64 0,.int .i64 0,.int .i64 0,.int .i64 0,.int .i64 0,.int .i64 0,.int .i64 0,.int .i64 0,.int .i64 0,.int .i64 0,.int .i64 0] 176 (0,0)):=by rw [←hW0];exact qfm (qh _ _) _
 have n2:W0.heap[w.heap.size+1]?=some (.cells ((qa6 (qen t (l.take 0))).map (.int .i64)).toArray 176 (0,0)):=by rw [←hW0];simp only [qah,World.size_alloc];simp;rfl
 refine hd8 ?_ hs hl het het2 hin n1 n2 k0';clear hs hl het het2 hin n1 n2 k0';intro Xhs Xhl Xhet Xhet2 Xhin Xn1 Xn2 Xk0'
 go_enter Tryz.func133,Tryz.ntmps133
 go_wp2_with fail
 go_loopw [10] (fun i wr=> ∃k:Nat,k<=l.length/\i=.int .i64 k/\Keep (fun j=>j≠w.heap.size+1) W0 wr/\wr.heap[w.heap.size+1]?=some (.cells ((qa6 (qen t (l.take k))).map (.int .i64)).toArray 176 (0,0))) (fun i _=>l.length-(intOf i).toNat)
 case atStart=>exact⟨0,by omega,rfl,Keep.refl _ _,Xn2.o⟩
 case round=>
  obtain⟨k,hk,rfl,hK,hblk⟩:=hrel;have hszk:=hK.size;have hK2:Keep (fun j=>j<w.heap.size) w wr:=(Xk0'.o.mono fun _ _ _=>trivial).trans (hK.mono fun b _ h=>by omega);by_cases hlt':k<l.length
  ·obtain⟨x,hx⟩: ∃x,l[k]?=some x:=⟨_,getElem?_eq_getElem hlt'⟩;have hxin:=Xhin.o x (mem_of_getElem? hx);obtain⟨y,hy⟩: ∃y,t[x.toNat]?=some y:=⟨_,getElem?_eq_getElem (by omega)⟩;obtain⟨b2,o2,rfl,hb2,hxa⟩:=Xhet2.o k x hx;obtain⟨b,o,rfl,hb,hya⟩:=Xhet.o x.toNat y hy;have hxa:=hK2.cell hxa hb2;have hya:=hK2.cell hya hb;simp only [Nat.mul_one]at hxa hya;have hbw:b<wr.heap.size:=by omega
   have hbw2:b2<wr.heap.size:=by omega
   have hlt1:(k:Int)<l.length:=by omega
   have hk0:(0:Int)<=k:=by omega
   have hx0:0<=x:=hxin.1;have hx1:x<t.length:=hxin.2;have hk16:(k:Int)<16:=by omega
   have hself:w.heap.size+1<wr.heap.size:=by omega
   have htl:(qen t (l.take k)).length=k:=by rw [qj2,length_take];omega
   have hset:=q8 k (.int .i64 y) hblk;have hnext:qen t (l.take (k+1))=qen t (l.take k)++ [y]:=by
    unfold qen;rw [take_add_one,hx];simp [getD_eq_getElem?_getD,hy]
   have hps:=q54 y (t:=qen t (l.take k)) (by omega);rw [htl]at hps;rw [hps,←hnext]at hset;have hfr:wr.frozen? ⟨w.heap.size+1,k,none⟩=false:=by simp [World.frozen?,hblk]
   obtain⟨u0,hu0⟩: ∃u0,wr.cell? ⟨w.heap.size+1,k,none⟩=some u0:=by
    have hl2:k<((qa6 (qen t (l.take k))).map (Value.int .i64)).length:=by rw [length_map,qhk (by omega)];omega
    have:=qb hblk k _ (by exact getElem?_eq_getElem hl2);rw [Nat.zero_add]at this;exact⟨_,this⟩
   have hxt:(x.toNat:Int)=x:=by omega
   clear hps hnext htl hblk hx hy hxin;refine hd3 ?_ hset hK hK2;clear hset hK hK2;intro Xhset XhK XhK2;go_wp2_with fail;go_roundw
   case rel=>exact⟨k+1,by omega,by go_num,XhK.o.trans (kSc),Xhset.o⟩
   case measure=>simp [intOf];omega
  ·obtain rfl:k=l.length:=by omega
   rw [take_length]at hblk;have hlen2:(qen t l).length<=16:=by rw [qj2];exact hlen
   obtain⟨k0,k1,k2,k3,k4,k5,k6,k7,k8,k9,k10,k11,k12,k13,k14,k15,hpad⟩: ∃k0 k1 k2 k3 k4 k5 k6 k7 k8 k9 k10 k11 k12 k13 k14 k15,qa6 (qen t l)= [k0,k1,k2,k3,k4,k5,k6,k7,k8,k9,k10,k11,k12,k13,k14,k15]:=by
    have hlen:=qhk hlen2
    match h:qa6 (qen t l),hlen with
    | [k0,k1,k2,k3,k4,k5,k6,k7,k8,k9,k10,k11,k12,k13,k14,k15],_=>exact⟨k0,k1,k2,k3,k4,k5,k6,k7,k8,k9,k10,k11,k12,k13,k14,k15,rfl⟩
   have hans:qg5 (qcb t l)=.agg #[.int .i64 k0,.int .i64 k1,.int .i64 k2,.int .i64 k3,.int .i64 k4,.int .i64 k5,.int .i64 k6,.int .i64 k7,.int .i64 k8,.int .i64 k9,.int .i64 k10,.int .i64 k11,.int .i64 k12,.int .i64 k13,.int .i64 k14,.int .i64 k15]:=by unfold qcb;rw [hpad];rfl
   rw [hpad]at hblk;have hbw:wr.heap[w.heap.size+1]?=some (.cells #[.int .i64 k0,.int .i64 k1,.int .i64 k2,.int .i64 k3,.int .i64 k4,.int .i64 k5,.int .i64 k6,.int .i64 k7,.int .i64 k8,.int .i64 k9,.int .i64 k10,.int .i64 k11,.int .i64 k12,.int .i64 k13,.int .i64 k14,.int .i64 k15] 176 (0,0)):=hblk;have h0w:=hK.heap Xn1.o (by omega);have c0:=qb hbw 0 _ rfl;have z0:=qb h0w 0 _ rfl;have f0:=qf h0w 0;have c1:=qb hbw 1 _ rfl;have z1:=qb h0w 1 _ rfl;have f1:=qf h0w 1;have c2:=qb hbw 2 _ rfl;have z2:=qb h0w 2 _ rfl;have f2:=qf h0w 2;have c3:=qb hbw 3 _ rfl;have z3:=qb h0w 3 _ rfl;have f3:=qf h0w 3;have c4:=qb hbw 4 _ rfl;have z4:=qb h0w 4 _ rfl;have f4:=qf h0w 4;have c5:=qb hbw 5 _ rfl;have z5:=qb h0w 5 _ rfl;have f5:=qf h0w 5;have c6:=qb hbw 6 _ rfl;have z6:=qb h0w 6 _ rfl;have f6:=qf h0w 6;have c7:=qb hbw 7 _ rfl;have z7:=qb h0w 7 _ rfl;have f7:=qf h0w 7;have c8:=qb hbw 8 _ rfl;have z8:=qb h0w 8 _ rfl;have f8:=qf h0w 8;have c9:=qb hbw 9 _ rfl;have z9:=qb h0w 9 _ rfl;have f9:=qf h0w 9;have c10:=qb hbw 10 _ rfl;have z10:=qb h0w 10 _ rfl;have f10:=qf h0w 10;have c11:=qb hbw 11 _ rfl;have z11:=qb h0w 11 _ rfl;have f11:=qf h0w 11;have c12:=qb hbw 12 _ rfl;have z12:=qb h0w 12 _ rfl;have f12:=qf h0w 12;have c13:=qb hbw 13 _ rfl;have z13:=qb h0w 13 _ rfl;have f13:=qf h0w 13;have c14:=qb hbw 14 _ rfl;have z14:=qb h0w 14 _ rfl;have f14:=qf h0w 14;have c15:=qb hbw 15 _ rfl;have z15:=qb h0w 15 _ rfl;have f15:=qf h0w 15;simp only [Nat.zero_add]at c0 z0 c1 z1 c2 z2 c3 z3 c4 z4 c5 z5 c6 z6 c7 z7 c8 z8 c9 z9 c10 z10 c11 z11 c12 z12 c13 z13 c14 z14 c15 z15;have l1:w.heap.size<wr.heap.size:=by omega
   have l2:w.heap.size+1<wr.heap.size:=by omega
   clear hblk hpad hbw;refine hd4 ?_ h0w hK2 hans hK;clear h0w hK2 hans hK;intro Xh0w XhK2 Xhans XhK;go_wp2_with fail;refine qib (fun W=>W.heap[w.heap.size]?=some (.cells #[.int .i64 k0,.int .i64 k1,.int .i64 k2,.int .i64 k3,.int .i64 k4,.int .i64 k5,.int .i64 k6,.int .i64 k7,.int .i64 k8,.int .i64 k9,.int .i64 k10,.int .i64 k11,.int .i64 k12,.int .i64 k13,.int .i64 k14,.int .i64 k15] 176 (0,0))/\Keep (fun k=>k<w.heap.size) w W) (w:=qgz w.heap.size [.int .i64 k0,.int .i64 k1,.int .i64 k2,.int .i64 k3,.int .i64 k4,.int .i64 k5,.int .i64 k6,.int .i64 k7,.int .i64 k8,.int .i64 k9,.int .i64 k10,.int .i64 k11,.int .i64 k12,.int .i64 k13,.int .i64 k14,.int .i64 k15] 0 wr) ⟨qg0 [.int .i64 k0,.int .i64 k1,.int .i64 k2,.int .i64 k3,.int .i64 k4,.int .i64 k5,.int .i64 k6,.int .i64 k7,.int .i64 k8,.int .i64 k9,.int .i64 k10,.int .i64 k11,.int .i64 k12,.int .i64 k13,.int .i64 k14,.int .i64 k15] Xh0w.o rfl,XhK2.o.trans ((qe4 _ _ _ _).mono (fun b _ h=>by omega))⟩ ?_;rintro W2 ⟨hq,kq⟩;have r0:=qb hq 0 _ rfl;have r1:=qb hq 1 _ rfl;have r2:=qb hq 2 _ rfl;have r3:=qb hq 3 _ rfl;have r4:=qb hq 4 _ rfl;have r5:=qb hq 5 _ rfl;have r6:=qb hq 6 _ rfl;have r7:=qb hq 7 _ rfl;have r8:=qb hq 8 _ rfl;have r9:=qb hq 9 _ rfl;have r10:=qb hq 10 _ rfl;have r11:=qb hq 11 _ rfl;have r12:=qb hq 12 _ rfl;have r13:=qb hq 13 _ rfl;have r14:=qb hq 14 _ rfl;have r15:=qb hq 15 _ rfl;simp only [Nat.zero_add]at r0 r1 r2 r3 r4 r5 r6 r7 r8 r9 r10 r11 r12 r13 r14 r15;clear hq;refine hd1 ?_ kq;clear kq;intro Xkq;refine bodyPost_ret (v:=.agg #[.int .i64 k0,.int .i64 k1,.int .i64 k2,.int .i64 k3,.int .i64 k4,.int .i64 k5,.int .i64 k6,.int .i64 k7,.int .i64 k8,.int .i64 k9,.int .i64 k10,.int .i64 k11,.int .i64 k12,.int .i64 k13,.int .i64 k14,.int .i64 k15]) (by simp [results,Tryz.results133,go_sem,r0,r1,r2,r3,r4,r5,r6,r7,r8,r9,r10,r11,r12,r13,r14,r15]) rfl ⟨by rw [Xhans.o],Xkq.o⟩
end Go.Proofs.R4

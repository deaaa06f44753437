/- Parts of the proof. -/
import Derived.WalkKit
import Derived.OrdersHeld
import Derived.Test.YtnponcjnahicnaaGreatDataToOwnB
import Derived.OrdersIn
import Derived.Deep.Onto
import Derived.Deep.QuietTactic
import Derived.BigQuiet
import Derived.Test.YtnponcjnahicnaaGreatHdToKp
set_option linter.unusedSimpArgs false
set_option linter.unusedVariables false
open List(all_eq_true ext_getElem? getElem?_eq_getElem getElem?_eq_none mem_flatMap setIfInBounds_toArray)
namespace Go.Ink
open Go.RowKit
section
variable {P : Program} {ops : Array Oper} {Q : Exit -> Act -> World -> Prop} {md : Region.Mode} {S : World -> Prop} {late : List Nat}
def qd0 (P:Program)(md:Region.Mode)(ops:Array Oper)(Q:Exit->Act->World->Prop)(S:World->Prop)(late:List Nat):Nat->Array Bool->Act->World->Prop
 |0,listed,a,w=>Region.ready md ops listed= []/\Q .normal a w
 |fuel+1,listed,a,w=>
  (Region.ready md ops listed= []->Q .normal a w)/\
  ∀i∈Region.ready md ops listed,wpOp P ops Q i (fun a' w'=>(late.contains i=false->S w')/\qd0 P md ops Q S late fuel (listed.setIfInBounds i true) a' w') a w
theorem qpg: ∀(fuel:Nat) (listed:Array Bool) (a:Act) (w:World),qd0 P md ops Q S late fuel listed a w->wpAny P md ops Q fuel listed a w
 |0,_,_,_,h=>h
 |fuel+1,_,_,_,h=>⟨h.1,fun i hi=>wpOp_mono (fun a' w' h'=>qpg fuel _ a' w' h'.2) (h.2 i hi)⟩
def qgm (md:Region.Mode)(ops:Array Oper)(late:List Nat)(i:Nat):Bool:=
 late.all fun j=>match ops[j]? with
  |some oj=>oj.after.any fun e=>Region.binds md e&&e.on==i
  |none=>false
theorem qtf {i:Nat}{oi:Oper}{v:Value}(hi:ops[i]?=some oi)(hsel: ∀(j:Nat) (o:Oper) cs b,ops[j]?=some o->o.op≠.select cs b)
  (hQ: ∀c a w,Q (.panic c) (a.put oi.dst v) w->Q (.panic c) a w) (hlate:qgm md ops late i=true):
  ∀(fuel:Nat) (listed:Array Bool) (a:Act) (w:World),
   (∀j oj,ops[j]?=some oj->j≠i->listed.getD j true=false->(∀e∈oj.after,Region.binds md e=true->e.on≠i)->oi.apart ops oj=true)->
   i∈Region.ready md ops listed->YieldsIf P ops S oi v a->S w->
   qd0 P md ops Q S late fuel (listed.setIfInBounds i true) (a.put oi.dst v) w->qd0 P md ops Q S late (fuel+1) listed a w:=by
 intro fuel
 induction fuel with
 |zero=>
  intro listed a w _ hr hy hS H;refine⟨fun h=>(by rw [h] at hr;cases hr),fun j hj=>?_⟩;by_cases hji:j=i
  ·subst hji;exact hy.wpOp hi hS ⟨fun _=>hS,H⟩
  ·have:=ready_mono hj hji;rw [H.1]at this;cases this
 |succ fuel ih=>
  intro listed a w hfree hr hy hS H;refine⟨fun h=>(by rw [h] at hr;cases hr),fun j hj=>?_⟩;by_cases hji:j=i
  ·subst hji;exact hy.wpOp hi hS ⟨fun _=>hS,H⟩
  ·have h1:=H.2 j (ready_mono hj hji);obtain⟨hjun,oj,hoj,hall⟩:=mem_ready.1 hj;have hnot: ∀e∈oj.after,Region.binds md e=true->e.on≠i:=fun e he hb heq=>by
    have h1:=hall e he hb;have h0:=(mem_ready.1 hr).1;rw [heq]at h1;rcases Nat.lt_or_ge i listed.size with h' |h'
    ·simp [h']at h0 h1;rw [h0]at h1;cases h1
    ·simp [Array.getElem?_eq_none h']at h1
   have hnl:late.contains j=false:=by
    cases hc:late.contains j with
    |false=>rfl
    |true=>
     have hm:j∈late:=by simpa using hc
     have:=all_eq_true.1 hlate j hm;rw [hoj]at this;simp only at this;obtain⟨e,he,hb⟩:=Array.any_eq_true'.1 this;simp only [Bool.and_eq_true,beq_iff_eq]at hb;exact absurd hb.2 (hnot e he hb.1)
   have h2:=wpOp_putIf hoj (hfree j oj hoj hji hjun hnot) (fun cs b=>hsel i oi cs b hi) (fun cs b=>hsel j oj cs b hoj) hQ hy h1;have hfree': ∀k ok,ops[k]?=some ok->k≠i->(listed.setIfInBounds j true).getD k true=false->
     (∀e∈ok.after,Region.binds md e=true->e.on≠i)->oi.apart ops ok=true:=fun k ok hk hki hun hno=>by
    refine hfree k ok hk hki ?_ hno;by_cases hjk:j=k
    ·subst hjk;exact hjun
    ·rw [getD_set_ne true hjk]at hun;exact hun
   refine wpOp_mono (fun a' w' h3=>⟨h3.2.1,ih (listed.setIfInBounds j true) a' w' hfree' (ready_mono hr (Ne.symm hji)) h3.1 (h3.2.1 hnl) ?_⟩) h2;rw [Array.setIfInBounds_comm _ _ hji];exact h3.2.2
theorem qxx {i:Nat}{oi:Oper}{v:Value}{fuel:Nat}{listed:Array Bool}{a:Act}{w:World}(hi:ops[i]?=some oi)
  (hs:Region.noSelect ops=true) (hf:Region.free md ops listed i=true) (hr:(Region.ready md ops listed).contains i=true) (hl:qgm md ops late i=true)
  (hQ: ∀c a w,Q (.panic c) (a.put oi.dst v) w->Q (.panic c) a w) (hS:S w) (hy:YieldsIf P ops S oi v a)
  (h:qd0 P md ops Q S late fuel (listed.setIfInBounds i true) (a.put oi.dst v) w):qd0 P md ops Q S late (fuel+1) listed a w:=
 qtf hi (Region.noSelect_spec hs) hQ hl fuel listed a w (Region.free_spec hi hf) (by simpa using hr) hy hS h
theorem qhn {i:Nat}{oi:Oper}{fuel:Nat}{listed:Array Bool}{a:Act}{w:World}(hi:ops[i]?=some oi)(hr:Region.ready md ops listed= [i])
  (h: ∀K:Act->World->Prop,(∀a' w',(late.contains i=false->S w')->qd0 P md ops Q S late fuel (listed.setIfInBounds i true) a' w'->K a' w')->wpList P ops (Exit.then K Q) [oi] a w):
  qd0 P md ops Q S late (fuel+1) listed a w:=by
 refine⟨fun h0=>(by rw [hr] at h0;cases h0),fun j hj=>?_⟩;rw [hr]at hj;have hji:j=i:=by simpa using hj
 subst hji;have h1:=h (fun a' w'=>(late.contains j=false->S w')/\qd0 P md ops Q S late fuel (listed.setIfInBounds j true) a' w') (fun a' w' x y=>⟨x,y⟩);unfold wpOp;rw [hi];unfold wpList at h1;simp only at h1⊢;split
 ·rename_i hw;rw [if_pos hw]at h1;rcases h1 with h1 |h1
  ·refine .inl ?_;unfold Oper.wp at h1⊢;generalize (execOp a.eval oi).run P w=r at h1⊢;cases r with
   |ok n w'=>
    cases n<;>simp only [Oper.upon] at h1⊢
    case value u=>exact h1
    case skip=>exact h1
    case defer d=>exact h1
    case enter f args=>exact Calls.mono h1 fun e w'' he=>by cases e<;>exact he
    case row row args=>exact Rows.mono h1 fun u w'' he=>he
   |halt x w'=>cases x<;>simp only [Oper.upon] at h1⊢;exact h1
  ·exact .inr h1
 ·rename_i hw;rw [if_neg hw]at h1;exact h1
theorem qee {fuel:Nat}{listed:Array Bool}{a:Act}{w:World}(hr:Region.ready md ops listed= [])(h:Q .normal a w):qd0 P md ops Q S late fuel listed a w:=by
 cases fuel with
 |zero=>exact⟨hr,h⟩
 |succ n=>exact⟨fun _=>h,fun i hi=>(by rw [hr] at hi;cases hi)⟩
theorem qc7 {id:Nat}{a:Act}{w:World}(hm:P.follows .mixedOrders=true)(S:World->Prop)(late:List Nat)
  (h:qd0 P .any ops Q S late ops.size (Array.replicate ops.size false) a w.drew):(Code.region id ops true).wp P Q a w:=
 wp_region_any hm (qpg _ _ _ _ h)
end
section
variable {F : Fence} {n : Nat} {P : Program} {ops : Array Oper} {Q : Exit -> Act -> World -> Prop} {md : Region.Mode} {S : World -> Prop} {late : List Nat}
theorem qma {i:Nat}{o:Oper}{v:Value}{a:Act}(hF: ∀f,F.fn f)(hnd: ∀c,o.op≠.defer c)(hi:ops[i]?=some o)(hy:YieldsIf P ops S o v a)
  {K:Act->World->Prop} {w:World} (hS:S w) (h:K (a.put o.dst v) w):wpOpIn F n P ops Q i K a w:=by
 unfold Go.wpOpIn;simp only [hi];rcases hy with ⟨hw,hv⟩ |⟨hw,rfl⟩
 ·simp only [hw,if_true];unfold Oper.wpIn;rw [Oper.semAt_plain F _ _ hnd,hv w hS];exact⟨fun f _=>hF f,h⟩
 ·simp only [hw,Bool.false_eq_true,if_false];exact⟨fun f _=>hF f,h⟩
theorem qtg {j:Nat}{oi oj:Oper}{v:Value}(hF: ∀f,F.fn f)(hnd: ∀c,oj.op≠.defer c)(hj:ops[j]?=some oj)(hap:oi.apart ops oj=true)
  (hsi: ∀cs b,oi.op≠.select cs b) (hsj: ∀cs b,oj.op≠.select cs b)
  (hQ: ∀c a w,Q (.panic c) (a.put oi.dst v) w->Q (.panic c) a w) {K:Act->World->Prop} {a:Act} {w:World}
  (hy:YieldsIf P ops S oi v a) (h:wpOpIn F n P ops Q j K (a.put oi.dst v) w):
  wpOpIn F n P ops Q j (fun a' w'=>YieldsIf P ops S oi v a'/\K (a'.put oi.dst v) w') a w:=by
 obtain⟨h1,h2,h3⟩:=Oper.apart_spec hap;have keep: ∀(a:Act),YieldsIf P ops S oi v a-> ∀u,YieldsIf P ops S oi v (a.put oj.dst u):=fun a hy u=>
  hy.of_same (execOp_put oi hsi a oj.dst u h3) (wanted_put oi a oj.dst u h3)
 have keepD: ∀d,YieldsIf P ops S oi v {a with defers:=d::a.defers}:=fun d=>hy.of_same rfl rfl;unfold wpOpIn at*;simp only [hj]at*;rw [wanted_put oj a oi.dst v h1]at h;split
 ·rename_i hw;simp only [hw,if_true]at h;unfold Oper.wpIn at*;refine⟨fun f _=>hF f,?_⟩;have h:=h.2;rw [Oper.semAt_plain F _ _ hnd,execOp_put oj hsj a oi.dst v h1]at h;rw [Oper.semAt_plain F _ _ hnd];generalize (execOp a.eval oj).run P w=r at*;cases r with
  |ok x w'=>
   cases x<;>simp only [Oper.uponIn] at h⊢
   case value u=>exact⟨keep a hy u,by rw [←Act.put_comm a v u h2];exact h⟩
   case skip=>exact⟨keep a hy _,by rw [←Act.put_comm a v undef h2];exact h⟩
   case defer d=>
    refine⟨keep _ (keepD d) _,?_⟩;rw [←Act.put_comm _ v undef h2,←Act.put_defers];exact h
   case enter f args=>
    refine⟨h.1,CallsIn.mono h.2 fun e w'' he=>?_⟩;cases e with
    |returned u=>exact⟨keep a hy u,by rw [←Act.put_comm a v u h2];exact he⟩
    |panicked c=>exact hQ _ _ _ he
    |outgrown=>exact he
   case row row args=>exact⟨h.1,RowsIn.mono h.2 fun u w'' he=>⟨keep a hy u,by rw [←Act.put_comm a v u h2];exact he⟩⟩
   case round l f tmps assign body=>
    refine⟨h.1,RoundIn.mono h.2 fun e w'' he=>?_⟩;cases e with
    |returned u=>exact⟨keep a hy u,by rw [←Act.put_comm a v u h2];exact he⟩
    |panicked c=>exact hQ _ _ _ he
    |outgrown=>exact he
  |halt x w'=>
   cases x<;>simp only [Oper.uponIn] at h⊢
   case panic u=>exact hQ _ _ _ h
 ·rename_i hw;simp only [hw]at h;exact⟨fun f _=>hF f,keep a hy _,by rw [←Act.put_comm a v undef h2];exact h.2⟩
def qcz (F:Fence)(n:Nat)(P:Program)(md:Region.Mode)(ops:Array Oper)(Q:Exit->Act->World->Prop)(S:World->Prop)(late:List Nat):Nat->Array Bool->Act->World->Prop
 |0,listed,a,w=>Region.ready md ops listed= []/\Q .normal a w
 |fuel+1,listed,a,w=>
  (Region.ready md ops listed= []->Q .normal a w)/\
  ∀i∈Region.ready md ops listed,wpOpIn F n P ops Q i (fun a' w'=>(late.contains i=false->S w')/\qcz F n P md ops Q S late fuel (listed.setIfInBounds i true) a' w') a w
theorem qmr: ∀(fuel:Nat) (listed:Array Bool) (a:Act) (w:World),qcz F n P md ops Q S late fuel listed a w->wpAnyIn F n P md ops Q fuel listed a w
 |0,_,_,_,h=>h
 |fuel+1,_,_,_,h=>⟨h.1,fun i hi=>wpOpIn_mono (fun a' w' h'=>qmr fuel _ a' w' h'.2) (h.2 i hi)⟩
theorem qth {i:Nat}{oi:Oper}{v:Value}(hF: ∀f,F.fn f)(hnd: ∀(j:Nat) (o:Oper) c,ops[j]?=some o->o.op≠.defer c)(hi:ops[i]?=some oi)(hsel: ∀(j:Nat) (o:Oper) cs b,ops[j]?=some o->o.op≠.select cs b)
  (hQ: ∀c a w,Q (.panic c) (a.put oi.dst v) w->Q (.panic c) a w) (hlate:qgm md ops late i=true):
  ∀(fuel:Nat) (listed:Array Bool) (a:Act) (w:World),
   (∀j oj,ops[j]?=some oj->j≠i->listed.getD j true=false->(∀e∈oj.after,Region.binds md e=true->e.on≠i)->oi.apart ops oj=true)->
   i∈Region.ready md ops listed->YieldsIf P ops S oi v a->S w->
   qcz F n P md ops Q S late fuel (listed.setIfInBounds i true) (a.put oi.dst v) w->qcz F n P md ops Q S late (fuel+1) listed a w:=by
 intro fuel
 induction fuel with
 |zero=>
  intro listed a w _ hr hy hS H;refine⟨fun h=>(by rw [h] at hr;cases hr),fun j hj=>?_⟩;by_cases hji:j=i
  ·subst hji;exact qma hF (fun c=>hnd j oi c hi) hi hy hS ⟨fun _=>hS,H⟩
  ·have:=ready_mono hj hji;rw [H.1]at this;cases this
 |succ fuel ih=>
  intro listed a w hfree hr hy hS H;refine⟨fun h=>(by rw [h] at hr;cases hr),fun j hj=>?_⟩;by_cases hji:j=i
  ·subst hji;exact qma hF (fun c=>hnd j oi c hi) hi hy hS ⟨fun _=>hS,H⟩
  ·have h1:=H.2 j (ready_mono hj hji);obtain⟨hjun,oj,hoj,hall⟩:=mem_ready.1 hj;have hnot: ∀e∈oj.after,Region.binds md e=true->e.on≠i:=fun e he hb heq=>by
    have h1:=hall e he hb;have h0:=(mem_ready.1 hr).1;rw [heq]at h1;rcases Nat.lt_or_ge i listed.size with h' |h'
    ·simp [h']at h0 h1;rw [h0]at h1;cases h1
    ·simp [Array.getElem?_eq_none h']at h1
   have hnl:late.contains j=false:=by
    cases hc:late.contains j with
    |false=>rfl
    |true=>
     have hm:j∈late:=by simpa using hc
     have:=all_eq_true.1 hlate j hm;rw [hoj]at this;simp only at this;obtain⟨e,he,hb⟩:=Array.any_eq_true'.1 this;simp only [Bool.and_eq_true,beq_iff_eq]at hb;exact absurd hb.2 (hnot e he hb.1)
   have h2:=qtg hF (fun c=>hnd j oj c hoj) hoj (hfree j oj hoj hji hjun hnot) (fun cs b=>hsel i oi cs b hi) (fun cs b=>hsel j oj cs b hoj) hQ hy h1;have hfree': ∀k ok,ops[k]?=some ok->k≠i->(listed.setIfInBounds j true).getD k true=false->
     (∀e∈ok.after,Region.binds md e=true->e.on≠i)->oi.apart ops ok=true:=fun k ok hk hki hun hno=>by
    refine hfree k ok hk hki ?_ hno;by_cases hjk:j=k
    ·subst hjk;exact hjun
    ·rw [getD_set_ne true hjk]at hun;exact hun
   refine wpOpIn_mono (fun a' w' h3=>⟨h3.2.1,ih (listed.setIfInBounds j true) a' w' hfree' (ready_mono hr (Ne.symm hji)) h3.1 (h3.2.1 hnl) ?_⟩) h2;rw [Array.setIfInBounds_comm _ _ hji];exact h3.2.2
def qnm (ops:Array Oper):Bool:=ops.all fun o=>match o.op with |.defer _=>false |_=>true
theorem qti {ops:Array Oper}(h:qnm ops=true)(j:Nat)(o:Oper)(c:Call)(hj:ops[j]?=some o):o.op≠.defer c:=fun e=>by
 have:=Array.all_eq_true_iff_forall_mem.1 h o (Array.mem_of_getElem? hj);rw [e]at this;cases this
theorem qn0 {i:Nat}{oi:Oper}{v:Value}{fuel:Nat}{listed:Array Bool}{a:Act}{w:World}(hF: ∀f,F.fn f)(hnd:qnm ops=true)(hi:ops[i]?=some oi)
  (hs:Region.noSelect ops=true) (hf:Region.free md ops listed i=true) (hr:(Region.ready md ops listed).contains i=true) (hl:qgm md ops late i=true)
  (hQ: ∀c a w,Q (.panic c) (a.put oi.dst v) w->Q (.panic c) a w) (hS:S w) (hy:YieldsIf P ops S oi v a)
  (h:qcz F n P md ops Q S late fuel (listed.setIfInBounds i true) (a.put oi.dst v) w):qcz F n P md ops Q S late (fuel+1) listed a w:=
 qth hF (fun j o c hj=>qti hnd j o c hj) hi (Region.noSelect_spec hs) hQ hl fuel listed a w (Region.free_spec hi hf) (by simpa using hr) hy hS h
theorem qfv {i:Nat}{oi:Oper}{fuel:Nat}{listed:Array Bool}{a:Act}{w:World}(hi:ops[i]?=some oi)(hr:Region.ready md ops listed= [i])
  (h: ∀K:Act->World->Prop,(∀a' w',(late.contains i=false->S w')->qcz F n P md ops Q S late fuel (listed.setIfInBounds i true) a' w'->K a' w')->wpListIn F n P ops (Exit.then K Q) [oi] a w):
  qcz F n P md ops Q S late (fuel+1) listed a w:=by
 refine⟨fun h0=>(by rw [hr] at h0;cases h0),fun j hj=>?_⟩;rw [hr]at hj;have hji:j=i:=by simpa using hj
 subst hji;have h1:=h (fun a' w'=>(late.contains j=false->S w')/\qcz F n P md ops Q S late fuel (listed.setIfInBounds j true) a' w') (fun a' w' x y=>⟨x,y⟩);unfold wpOpIn;rw [hi];unfold wpListIn at h1;simp only at h1⊢;split
 ·rename_i hw;rw [if_pos hw]at h1;unfold Oper.wpIn at h1⊢;refine⟨h1.1,?_⟩;have h1:=h1.2;generalize (oi.semAt F.round a.eval).run P w=r at h1⊢;cases r with
  |ok x w'=>
   cases x<;>simp only [Oper.uponIn] at h1⊢
   case value u=>exact h1
   case skip=>exact h1
   case defer d=>exact h1
   case enter f args=>exact⟨h1.1,CallsIn.mono h1.2 fun e w'' he=>by cases e<;>exact he⟩
   case row row args=>exact⟨h1.1,RowsIn.mono h1.2 fun u w'' he=>he⟩
   case round l f tmps assign body=>exact⟨h1.1,RoundIn.mono h1.2 fun e w'' he=>by cases e<;>exact he⟩
  |halt x w'=>cases x<;>simp only [Oper.uponIn] at h1⊢;exact h1
 ·rename_i hw;rw [if_neg hw]at h1;exact h1
theorem qk {fuel:Nat}{listed:Array Bool}{a:Act}{w:World}(hr:Region.ready md ops listed= [])(h:Q .normal a w):qcz F n P md ops Q S late fuel listed a w:=by
 cases fuel with
 |zero=>exact⟨hr,h⟩
 |succ k=>exact⟨fun _=>h,fun i hi=>(by rw [hr] at hi;cases hi)⟩
theorem qx {id:Nat}{a:Act}{w:World}(hm:P.follows .mixedOrders=true)(S:World->Prop)(late:List Nat)
  (h:qcz F n P .any ops Q S late ops.size (Array.replicate ops.size false) a w.drew):(Code.region id ops true).wpIn F n P Q a w:=
 wpIn_region_any hm (qmr _ _ _ _ h)
def qsu (K:Act->World->Prop):Exit->Act->World->Prop
 |.normal,a,w=>K a w
 |_,_,_=>False
theorem qm {K:Act->World->Prop}{a:Act}{w:World}(h:K a w):qsu K .normal a w:=h
theorem qab {c:Code}{a:Act}{w:World}(h:c.wpIn F n P (qsu fun a w=>Q .normal a w) a w):c.wpIn F n P Q a w:=
 wpIn_mono h fun e a w h=>by cases e<;>first |exact h |exact h.elim
end
def wpT (_:List Nat)(p:Prop):Prop:=p
theorem qam (l:List Nat){p:Prop}(h:wpT l p):p:=h
theorem qu {p:Prop}(h:p):wpT [] p:=h
theorem qan:(∀(a:Act) (d:Tmp) (v:Value),a.put (some d) v={a with tmps:=a.tmps.setIfInBounds d v})/\(∀(a:Act) (v:Value),a.put none v=a)/\
  (∀(α:Type) (l:List α) (i:Nat) (x:α),l.toArray.setIfInBounds i x=(l.set i x).toArray)/\(∀(α:Type) (l:List α) (a b:α),(a::l).set 0 b=b::l)/\(∀(α:Type) (l:List α) (i:Nat) (a b:α),(a::l).set (i+1) b=a::l.set i b)/\
  (∀(α:Type) (l:List α) (i:Nat) (h:i<l.toArray.size),l.toArray[i]=l[i])/\(∀(α:Type) (l:List α) (a:α) (h:0<(a::l).length),(a::l)[0]=a)/\(∀(α:Type) (l:List α) (a:α) (i:Nat) (h:i+1<(a::l).length),(a::l)[i+1]=l[i]'(Nat.lt_of_succ_lt_succ h)):=
 ⟨fun _ _ _=>rfl,fun _ _=>rfl,fun _ _ _ _=>setIfInBounds_toArray ..,fun _ _ _ _=>rfl,fun _ _ _ _ _=>rfl,fun _ _ _ _=>rfl,fun _ _ _ _=>rfl,fun _ _ _ _ _=>rfl⟩
section
variable {P : Program} {ops : Array Oper} {Q : Exit -> Act -> World -> Prop} {md : Region.Mode} {S : World -> Prop} {late : List Nat}
theorem ho (i:Nat){oi:Oper}{fuel:Nat}{listed:Array Bool}{a:Act}{w:World}(hi:ops[i]?=some oi)
  (h: ∀K:Act->World->Prop,Hid (∀a' w',(late.contains i=false->S w')->qd0 P md ops Q S late fuel (listed.setIfInBounds i true) a' w'->K a' w')->wpList P ops (Exit.then K Q) [oi] a w)
  (hr:Region.ready md ops listed= [i]:=by kernel_rfl):qd0 P md ops Q S late (fuel+1) listed a w:=qhn hi hr h
theorem tkN {i:Nat}{l:List Nat}{oi:Oper}{v:Value}{fuel:Nat}{listed:Array Bool}{a:Act}{w:World}(hi:ops[i]?=some oi)(hS:S w)(hy: ∀u,S u->(execOp a.eval oi).run P u=.ok (.value v) u)
  (h:wpT l (qd0 P md ops Q S late fuel (listed.setIfInBounds i true) (a.put oi.dst v) w)) (hw:Region.wanted oi (yielded ops a.tmps)=true:=by kernel_rfl)
  (hs:Region.noSelect ops=true:=by kernel_rfl) (hf:Region.free md ops listed i=true:=by kernel_rfl) (hr:(Region.ready md ops listed).contains i=true:=by kernel_rfl) (hl:qgm md ops late i=true:=by kernel_rfl)
  (hQ: ∀c a w,Q (.panic c) (a.put oi.dst v) w->Q (.panic c) a w:=by exact fun _ _ _ h=>h):wpT (i::l) (qd0 P md ops Q S late (fuel+1) listed a w):=
 qxx hi hs hf hr hl hQ hS (Or.inl ⟨hw,hy⟩) h
end
section
variable {F : Fence} {n : Nat} {P : Program} {ops : Array Oper} {Q : Exit -> Act -> World -> Prop} {md : Region.Mode} {S : World -> Prop} {late : List Nat}
theorem hoR (i:Nat){oi:Oper}{fuel:Nat}{listed:Array Bool}{a:Act}{w:World}(hi:ops[i]?=some oi)
  (h: ∀K:Act->World->Prop,Hid (∀a' w',(late.contains i=false->S w')->qcz F n P md ops Q S late fuel (listed.setIfInBounds i true) a' w'->K a' w')->wpListIn F n P ops (Exit.then K Q) [oi] a w)
  (hr:Region.ready md ops listed= [i]:=by kernel_rfl):qcz F n P md ops Q S late (fuel+1) listed a w:=qfv hi hr h
theorem tkR {i:Nat}{l:List Nat}{oi:Oper}{v:Value}{fuel:Nat}{listed:Array Bool}{a:Act}{w:World}(hi:ops[i]?=some oi)(hS:S w)(hy: ∀u,S u->(execOp a.eval oi).run P u=.ok (.value v) u)
  (h:wpT l (qcz F n P md ops Q S late fuel (listed.setIfInBounds i true) (a.put oi.dst v) w)) (hF: ∀f,F.fn f:=by exact fun _=>trivial) (hnd:qnm ops=true:=by kernel_rfl) (hw:Region.wanted oi (yielded ops a.tmps)=true:=by kernel_rfl)
  (hs:Region.noSelect ops=true:=by kernel_rfl) (hf:Region.free md ops listed i=true:=by kernel_rfl) (hr:(Region.ready md ops listed).contains i=true:=by kernel_rfl) (hl:qgm md ops late i=true:=by kernel_rfl)
  (hQ: ∀c a w,Q (.panic c) (a.put oi.dst v) w->Q (.panic c) a w:=by exact fun _ _ _ h=>h):wpT (i::l) (qcz F n P md ops Q S late (fuel+1) listed a w):=
 qn0 hF hnd hi hs hf hr hl hQ hS (Or.inl ⟨hw,hy⟩) h
theorem tkS {i:Nat}{l:List Nat}{oi:Oper}{fuel:Nat}{listed:Array Bool}{a:Act}{w:World}(hi:ops[i]?=some oi)(hS:S w)
  (h:wpT l (qcz F n P md ops Q S late fuel (listed.setIfInBounds i true) (a.put oi.dst undef) w)) (hF: ∀f,F.fn f:=by exact fun _=>trivial) (hnd:qnm ops=true:=by kernel_rfl) (hw:Region.wanted oi (yielded ops a.tmps)=false:=by kernel_rfl)
  (hs:Region.noSelect ops=true:=by kernel_rfl) (hf:Region.free md ops listed i=true:=by kernel_rfl) (hr:(Region.ready md ops listed).contains i=true:=by kernel_rfl) (hl:qgm md ops late i=true:=by kernel_rfl)
  (hQ: ∀c a w,Q (.panic c) (a.put oi.dst undef) w->Q (.panic c) a w:=by exact fun _ _ _ h=>h):wpT (i::l) (qcz F n P md ops Q S late (fuel+1) listed a w):=
 qn0 hF hnd hi hs hf hr hl hQ hS (Or.inr ⟨hw,rfl⟩) h
end
end Go.Ink
namespace Go.Proofs
open Go.RowKit Go.Ink
theorem qb7 {w:World}{base:Nat}{e:TypeId}{sz g n cap:Nat}{xs:List Value}(h:w.ownsRow base e sz (.slice (some ⟨g,0,none⟩) n cap) n xs)(j:Nat)(u:Value)(hu:xs[j]?=some u):w.cell? ⟨g,j,none⟩=some u:=by
 have:=h.cells (g:=g) rfl j u hu
 rwa [show((⟨g,0,none⟩:Addr).add j)=⟨g,j,none⟩ from by unfold Addr.add;split<;>simp_all] at this
theorem qkz {w:World}{base:Nat}{e:TypeId}{sz g n cap:Nat}{xs:List Value}(h:w.ownsRow base e sz (.slice (some ⟨g,0,none⟩) n cap) n xs):n<=cap/\cap<=maxLen/\g<w.heap.size/\base<=g:=by
 rcases h.2 with ⟨h,_⟩ |⟨g',c,cur,h,hb,hg,hnc,hc,_⟩
 ·cases h
 ·cases h;exact⟨hnc,hc,qe hg,hb⟩
theorem qi {w:World}{base:Nat}{e:TypeId}{sz:Nat}{v:Value}{n:Nat}{xs:List Value}(h:w.ownsRow base e sz v n xs): ∃a c,v=.slice a n c:=by
 rcases h.2 with ⟨h1,h2⟩ |⟨g,c,_,h1,_⟩
 ·exact⟨none,0,by rw [h1,h2]⟩
 ·exact⟨_,c,h1⟩
theorem qf5 {α:Type}{n:Nat}{w:World}{sz:Nat}{E:World->Nat->Nat->α->Prop}(cells:α->List Value)(hs: ∀x,(cells x).length=sz)(hsz:0<sz)(hE: ∀b o x,E w b o x->CellsE w b o (cells x)){v:Value}{xs:List α}{a:Option Addr}{c:Nat}(h:SliceIn n w sz E v xs)(hv:v=.slice a xs.length c):
  (∀b,a=some b-> ∀j u,(xs.flatMap cells)[j]?=some u->w.cell? (b.add j)=some u)/\(a=none->xs.length=0):=by
 obtain⟨a',cap,hv',hl,hc,he⟩:=h;rw [hv]at hv';cases hv';refine⟨fun b hb j u hj=>?_,fun ha=>?_⟩
 ·have hlt:=(List.getElem?_eq_some_iff.1 hj).1;rw [qa0 cells sz hs]at hlt;have hq:j/sz<xs.length:=Nat.div_lt_of_lt_mul (by rw [Nat.mul_comm];exact hlt);have hr:j%sz<sz:=Nat.mod_lt _ hsz;obtain⟨b',off,ha,hb',e⟩:=he (j/sz) (xs[j/sz]) (getElem?_eq_getElem hq);rw [hb]at ha;cases ha;have hk:=qbc cells sz hs xs (j/sz) (j%sz) _ (getElem?_eq_getElem hq) hr;rw [show j/sz*sz+j%sz=j from by rw [Nat.mul_comm];exact Nat.div_add_mod j sz]at hk;rw [hk]at hj;have:=hE _ _ _ e (j%sz) u hj;rw [show((⟨b',off,none⟩:Addr).add j)=⟨b',off+j,none⟩ from by unfold Addr.add;split<;>simp_all]
  rwa [Nat.add_assoc,show j/sz*sz+j%sz=j from by rw [Nat.mul_comm];exact Nat.div_add_mod j sz] at this
 ·by_cases h0:xs.length=0
  ·exact h0
  ·obtain⟨b,off,hb,_⟩:=he 0 xs[0] (getElem?_eq_getElem (by omega));rw [ha]at hb;cases hb
theorem qjk {α:Type}(cells:α->List Value)(h: ∀x,∀u∈cells x,u.oneCell'=true)(xs:List α): ∀u∈xs.flatMap cells,u.oneCell'=true:=by
 intro u hu;obtain⟨x,_,hx⟩:=mem_flatMap.1 hu;exact h x u hx
theorem Keep.drewN' (C:Nat->Prop)(w:World)(n:Nat):Keep C w (w.drewN n):=⟨rfl,rfl,rfl,Nat.le_refl _,fun _ _ _=>rfl⟩
theorem q7o {α:Type}[DecidableEq α]{xs ys:List α}(hl:xs.length=ys.length)(h: ∀j,j<xs.length->xs[j]?=ys[j]?):xs=ys:=by
 refine ext_getElem? fun j=>?_;rcases Nat.lt_or_ge j xs.length with hj |hj
 ·exact h j hj
 ·rw [getElem?_eq_none hj,getElem?_eq_none (by omega)]
theorem qxy {P:Program}{f:FuncId}{args:Array Value}{R:Ending->World->Prop}{w:World}(G:World->Prop)(h:G w)(k: ∀W,G W->Calls P f args W R):Calls P f args w R:=k w h
end Go.Proofs

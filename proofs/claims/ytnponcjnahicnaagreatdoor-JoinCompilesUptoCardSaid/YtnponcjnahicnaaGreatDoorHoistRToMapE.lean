/- Parts of the proof. -/
import Derived.OrdersIn
import Derived.Test.YtnponcjnahicnaaGreatDoorDataToHoist
import Derived.Deep.Onto
import Derived.BigQuiet
import Derived.DeepKeys4
import Derived.Maps.RangeWalk
import Derived.WideKeyEntry
set_option linter.unusedSimpArgs false
set_option linter.unusedVariables false
open List(find?_cons getElem?_cons_succ map_map)
namespace Go.Ink
open Go.RowKit
section
variable {F : Fence} {n : Nat} {P : Program} {ops : Array Oper} {Q : Exit -> Act -> World -> Prop} {md : Region.Mode} {S : World -> Prop} {late : List Nat}
theorem qlg {i:Nat}{o:Oper}{v:Value}{a:Act}(d: ∀f,F.fn f)(b: ∀c,o.op≠.defer c)(hi:ops[i]?=some o)(g:YieldsIf P ops S o v a)
  {K:Act->World->Prop} {w:World} (e:S w) (h:K (a.put o.dst v) w):wpOpIn F n P ops Q i K a w:=by
 unfold Go.wpOpIn;simp only [hi];rcases g with ⟨hw,hv⟩ |⟨hw,rfl⟩
 ·simp only [hw,yg];unfold Oper.wpIn;rw [Oper.semAt_plain F _ _ b,hv w e];exact⟨fun f _=>d f,h⟩
 ·simp only [hw,zy,yx];exact⟨fun f _=>d f,h⟩
theorem qsg {j:Nat}{g i:Oper}{v:Value}(hF: ∀f,F.fn f)(s: ∀c,i.op≠.defer c)(hj:ops[j]?=some i)(z:g.apart ops i=true)
  (R: ∀cs b,g.op≠.select cs b) (U: ∀cs b,i.op≠.select cs b)
  (y: ∀c a w,Q (.panic c) (a.put g.dst v) w->Q (.panic c) a w) {K:Act->World->Prop} {a:Act} {w:World}
  (m:YieldsIf P ops S g v a) (h:wpOpIn F n P ops Q j K (a.put g.dst v) w):
  wpOpIn F n P ops Q j (fun a' w'=>YieldsIf P ops S g v a'/\K (a'.put g.dst v) w') a w:=by
 obtain⟨X,p,Y⟩:=Oper.apart_spec z;have keep: ∀(a:Act),YieldsIf P ops S g v a-> ∀u,YieldsIf P ops S g v (a.put i.dst u):=fun a m u=>
  m.of_same (execOp_put g R a i.dst u Y) (wanted_put g a i.dst u Y)
 have q: ∀d,YieldsIf P ops S g v {a with defers:=d::a.defers}:=fun d=>m.of_same rfl rfl;unfold wpOpIn at*;simp only [hj]at*;rw [wanted_put i a g.dst v X]at h;split
 ·rename_i hw;simp only [hw,yg]at h;unfold Oper.wpIn at*;refine⟨fun f _=>hF f,?_⟩;have h:=h.2;rw [Oper.semAt_plain F _ _ s,execOp_put i U a g.dst v X]at h;rw [Oper.semAt_plain F _ _ s];generalize (execOp a.eval i).run P w=r at*;cases r with
  |ok x w'=>
   cases x<;>simp only [Oper.uponIn] at h⊢
   case value u=>exact⟨keep a m u,by rw [←Act.put_comm a v u p];exact h⟩
   case skip=>exact⟨keep a m _,by rw [←Act.put_comm a v undef p];exact h⟩
   case defer d=>
    refine⟨keep _ (q d) _,?_⟩;rw [←Act.put_comm _ v undef p,←Act.put_defers];exact h
   case enter f args=>
    refine⟨h.1,CallsIn.mono h.2 fun e t k=>?_⟩;cases e with
    |returned u=>exact⟨keep a m u,by rw [←Act.put_comm a v u p];exact k⟩
    |panicked c=>exact y _ _ _ k
    |outgrown=>exact k
   case row row args=>exact⟨h.1,RowsIn.mono h.2 fun u t k=>⟨keep a m u,by rw [←Act.put_comm a v u p];exact k⟩⟩
   case round l f tmps assign body=>
    refine⟨h.1,RoundIn.mono h.2 fun e t k=>?_⟩;cases e with
    |returned u=>exact⟨keep a m u,by rw [←Act.put_comm a v u p];exact k⟩
    |panicked c=>exact y _ _ _ k
    |outgrown=>exact k
  |halt x w'=>
   cases x<;>simp only [Oper.uponIn] at h⊢
   case panic u=>exact y _ _ _ h
 ·rename_i hw;simp only [hw]at h;exact⟨fun f _=>hF f,keep a m _,by rw [←Act.put_comm a v undef p];exact h.2⟩
def qbs (F:Fence)(n:Nat)(P:Program)(md:Region.Mode)(ops:Array Oper)(Q:Exit->Act->World->Prop)(S:World->Prop)(late:List Nat):Nat->Array Bool->Act->World->Prop
 |0,listed,a,w=>Region.ready md ops listed= []/\Q .normal a w
 |fuel+1,listed,a,w=>
  (Region.ready md ops listed= []->Q .normal a w)/\
  ∀i∈Region.ready md ops listed,wpOpIn F n P ops Q i (fun a' w'=>(late.contains i=false->S w')/\qbs F n P md ops Q S late fuel (listed.setIfInBounds i true) a' w') a w
theorem ql4: ∀(fuel:Nat) (listed:Array Bool) (a:Act) (w:World),qbs F n P md ops Q S late fuel listed a w->wpAnyIn F n P md ops Q fuel listed a w
 |0,_,_,_,h=>h
 |fuel+1,_,_,_,h=>⟨h.1,fun i hi=>wpOpIn_mono (fun a' w' h'=>ql4 fuel _ a' w' h'.2) (h.2 i hi)⟩
theorem qsh {i:Nat}{p:Oper}{v:Value}(hF: ∀f,F.fn f)(x: ∀(j:Nat) (o:Oper) c,ops[j]?=some o->o.op≠.defer c)(hi:ops[i]?=some p)(s: ∀(j:Nat) (o:Oper) cs b,ops[j]?=some o->o.op≠.select cs b)
  (hQ: ∀c a w,Q (.panic c) (a.put p.dst v) w->Q (.panic c) a w) (u:qee md ops late i=true):
  ∀(fuel:Nat) (listed:Array Bool) (a:Act) (w:World),
   (∀j oj,ops[j]?=some oj->j≠i->listed.getD j true=false->(∀e∈oj.after,Region.binds md e=true->e.on≠i)->p.apart ops oj=true)->
   i∈Region.ready md ops listed->YieldsIf P ops S p v a->S w->
   qbs F n P md ops Q S late fuel (listed.setIfInBounds i true) (a.put p.dst v) w->qbs F n P md ops Q S late (fuel+1) listed a w:=by
 intro fuel
 induction fuel with
 |zero=>
  intro listed a w _ y hy z H;refine⟨fun h=>(by rw [h] at y;cases y),fun j hj=>?_⟩;by_cases d:j=i
  ·subst d;exact qlg hF (fun c=>x j p c hi) hi hy z ⟨fun _=>z,H⟩
  ·have:=ready_mono hj d;rw [H.1]at this;cases this
 |succ fuel ih=>
  intro listed a w g y hy z H;refine⟨fun h=>(by rw [h] at y;cases y),fun j hj=>?_⟩;by_cases d:j=i
  ·subst d;exact qlg hF (fun c=>x j p c hi) hi hy z ⟨fun _=>z,H⟩
  ·have t:=H.2 j (ready_mono hj d);obtain⟨q,oj,l,R⟩:=mem_ready.1 hj;have r: ∀e∈oj.after,Region.binds md e=true->e.on≠i:=fun e he U ah=>by
    have t:=R e he U;have h0:=(mem_ready.1 y).1;rw [ah]at t;rcases yX i listed.size with h' |h'
    ·simp [h']at h0 t;rw [h0]at t;cases t
    ·simp [Array.getElem?_eq_none h']at t
   have aj:late.contains j=false:=by
    cases hc:late.contains j with
    |false=>rfl
    |true=>
     have hm:j∈late:=by simpa using hc
     have:=yL.1 u j hm;rw [l]at this;simp only at this;obtain⟨e,he,U⟩:=Array.any_eq_true'.1 this;simp only [zV,xB]at U;exact absurd U.2 (r e he U.1)
   have h2:=qsg hF (fun c=>x j oj c l) l (g j oj l d q r) (fun cs b=>s i p cs b hi) (fun cs b=>s j oj cs b l) hQ hy t;have m: ∀k ok,ops[k]?=some ok->k≠i->(listed.setIfInBounds j true).getD k true=false->
     (∀e∈ok.after,Region.binds md e=true->e.on≠i)->p.apart ops ok=true:=fun k ok hk ai Y ak=>by
    refine g k ok hk ai ?_ ak;by_cases X:j=k
    ·subst X;exact q
    ·rw [getD_set_ne true X]at Y;exact Y
   refine wpOpIn_mono (fun a' w' h3=>⟨h3.2.1,ih (listed.setIfInBounds j true) a' w' m (ready_mono y (Ne.symm d)) h3.1 (h3.2.1 aj) ?_⟩) h2;rw [Array.setIfInBounds_comm _ _ d];exact h3.2.2
def qka (ops:Array Oper):Bool:=ops.all fun o=>match o.op with |.defer _=>false |_=>true
theorem qsi {ops:Array Oper}(h:qka ops=true)(j:Nat)(o:Oper)(c:Call)(b:ops[j]?=some o):o.op≠.defer c:=fun e=>by
 have:=Array.all_eq_true_iff_forall_mem.1 h o (Array.mem_of_getElem? b);rw [e]at this;cases this
theorem qj2 {i:Nat}{e:Oper}{v:Value}{d:Nat}{b:Array Bool}{a:Act}{w:World}(k: ∀f,F.fn f)(g:qka ops=true)(hi:ops[i]?=some e)
  (t:Region.noSelect ops=true) (p:Region.free md ops b i=true) (s:(Region.ready md ops b).contains i=true) (r:qee md ops late i=true)
  (l: ∀c a w,Q (.panic c) (a.put e.dst v) w->Q (.panic c) a w) (m:S w) (u:YieldsIf P ops S e v a)
  (h:qbs F n P md ops Q S late d (b.setIfInBounds i true) (a.put e.dst v) w):qbs F n P md ops Q S late (d+1) b a w:=
 qsh k (fun j o c q=>qsi g j o c q) hi (Region.noSelect_spec t) l r d b a w (Region.free_spec hi p) (by simpa using s) u m h
theorem qfc {i:Nat}{q:Oper}{g:Nat}{b:Array Bool}{a:Act}{w:World}(hi:ops[i]?=some q)(v:Region.ready md ops b= [i])
  (h: ∀K:Act->World->Prop,(∀a' w',(late.contains i=false->S w')->qbs F n P md ops Q S late g (b.setIfInBounds i true) a' w'->K a' w')->wpListIn F n P ops (Exit.then K Q) [q] a w):
  qbs F n P md ops Q S late (g+1) b a w:=by
 refine⟨fun s=>(by rw [v] at s;cases s),fun j t=>?_⟩;rw [v]at t;have p:j=i:=by simpa using t
 subst p;have c:=h (fun a' w'=>(late.contains j=false->S w')/\qbs F n P md ops Q S late g (b.setIfInBounds j true) a' w') (fun a' w' x y=>⟨x,y⟩);unfold wpOpIn;rw [hi];unfold wpListIn at c;simp only at c⊢;split
 ·rename_i hw;rw [zI hw]at c;unfold Oper.wpIn at c⊢;refine⟨c.1,?_⟩;have c:=c.2;generalize (q.semAt F.round a.eval).run P w=r at c⊢;cases r with
  |ok x w'=>
   cases x<;>simp only [Oper.uponIn] at c⊢
   case value u=>exact c
   case skip=>exact c
   case defer d=>exact c
   case enter f args=>exact⟨c.1,CallsIn.mono c.2 fun e m k=>by cases e<;>exact k⟩
   case row row args=>exact⟨c.1,RowsIn.mono c.2 fun u m k=>k⟩
   case round l f tmps assign body=>exact⟨c.1,RoundIn.mono c.2 fun e m k=>by cases e<;>exact k⟩
  |halt x w'=>cases x<;>simp only [Oper.uponIn] at c⊢;exact c
 ·rename_i hw;rw [zF hw]at c;exact c
theorem qx {c:Nat}{b:Array Bool}{a:Act}{w:World}(d:Region.ready md ops b= [])(h:Q .normal a w):qbs F n P md ops Q S late c b a w:=by
 cases c with
 |zero=>exact⟨d,h⟩
 |succ k=>exact⟨fun _=>h,fun i hi=>(by rw [d] at hi;cases hi)⟩
theorem qw {c:Nat}{a:Act}{w:World}(b:P.follows .mixedOrders=true)(S:World->Prop)(late:List Nat)
  (h:qbs F n P .any ops Q S late ops.size (Array.replicate ops.size false) a w.drew):(Code.region c ops true).wpIn F n P Q a w:=
 wpIn_region_any b (ql4 _ _ _ _ h)
def qro (K:Act->World->Prop):Exit->Act->World->Prop
 |.normal,a,w=>K a w
 |_,_,_=>False
theorem qai {K:Act->World->Prop}{a:Act}{w:World}(h:K a w):qro K .normal a w:=h
theorem qag {c:Code}{a:Act}{w:World}(h:c.wpIn F n P (qro fun a w=>Q .normal a w) a w):c.wpIn F n P Q a w:=
 xq h fun e a w h=>by cases e<;>first |exact h |exact h.elim
end
def wpT (_:List Nat)(p:Prop):Prop:=p
theorem qab (l:List Nat){p:Prop}(h:wpT l p):p:=h
theorem qk {p:Prop}(h:p):wpT [] p:=h
theorem qac:(∀(a:Act) (d:Tmp) (v:Value),a.put (some d) v={a with tmps:=a.tmps.setIfInBounds d v})/\(∀(a:Act) (v:Value),a.put none v=a)/\
  (∀(α:Type) (l:List α) (i:Nat) (x:α),l.toArray.setIfInBounds i x=(l.set i x).toArray)/\(∀(α:Type) (l:List α) (a b:α),(a::l).set 0 b=b::l)/\(∀(α:Type) (l:List α) (i:Nat) (a b:α),(a::l).set (i+1) b=a::l.set i b)/\
  (∀(α:Type) (l:List α) (i:Nat) (h:i<l.toArray.size),l.toArray[i]=l[i])/\(∀(α:Type) (l:List α) (a:α) (h:0<(a::l).length),(a::l)[0]=a)/\(∀(α:Type) (l:List α) (a:α) (i:Nat) (h:i+1<(a::l).length),(a::l)[i+1]=l[i]'(Nat.lt_of_succ_lt_succ h)):=
 ⟨fun _ _ _=>rfl,fun _ _=>rfl,fun _ _ _ _=>yJ ..,fun _ _ _ _=>rfl,fun _ _ _ _ _=>rfl,fun _ _ _ _=>rfl,fun _ _ _ _=>rfl,fun _ _ _ _ _=>rfl⟩
section
variable {P : Program} {ops : Array Oper} {Q : Exit -> Act -> World -> Prop} {md : Region.Mode} {S : World -> Prop} {late : List Nat}
theorem ho (i:Nat){d:Oper}{c:Nat}{b:Array Bool}{a:Act}{w:World}(hi:ops[i]?=some d)
  (h: ∀K:Act->World->Prop,Hid (∀a' w',(late.contains i=false->S w')->qcz P md ops Q S late c (b.setIfInBounds i true) a' w'->K a' w')->wpList P ops (Exit.then K Q) [d] a w)
  (e:Region.ready md ops b= [i]:=by kernel_rfl):qcz P md ops Q S late (c+1) b a w:=qhe hi e h
theorem tkN {i:Nat}{l:List Nat}{e:Oper}{v:Value}{d:Nat}{b:Array Bool}{a:Act}{w:World}(hi:ops[i]?=some e)(f:S w)(j: ∀u,S u->(execOp a.eval e).run P u=.ok (.value v) u)
  (h:wpT l (qcz P md ops Q S late d (b.setIfInBounds i true) (a.put e.dst v) w)) (g:Region.wanted e (yielded ops a.tmps)=true:=by kernel_rfl)
  (hs:Region.noSelect ops=true:=by kernel_rfl) (hf:Region.free md ops b i=true:=by kernel_rfl) (hr:(Region.ready md ops b).contains i=true:=by kernel_rfl) (hl:qee md ops late i=true:=by kernel_rfl)
  (hQ: ∀c a w,Q (.panic c) (a.put e.dst v) w->Q (.panic c) a w:=by exact fun _ _ _ h=>h):wpT (i::l) (qcz P md ops Q S late (d+1) b a w):=
 qax hi hs hf hr hl hQ f (Or.inl ⟨g,j⟩) h
theorem tkA {i:Nat}{l:List Nat}{e:Oper}{v:Value}{d:Nat}{b:Array Bool}{a:Act}{w:World}(hi:ops[i]?=some e)(f:S w)
  (h:wpT l (qcz P md ops Q S late d (b.setIfInBounds i true) (a.put e.dst v) w)) (g: ∀u,S u->(execOp a.eval e).run P u=.ok (.value v) u:=by intro u;(first |(show(_/\_)->_;simp only [and_imp];intros) |(intro h;try dsimp only at h));go_simp;try with_reducible rfl) (hw:Region.wanted e (yielded ops a.tmps)=true:=by kernel_rfl)
  (hs:Region.noSelect ops=true:=by kernel_rfl) (hf:Region.free md ops b i=true:=by kernel_rfl) (hr:(Region.ready md ops b).contains i=true:=by kernel_rfl) (hl:qee md ops late i=true:=by kernel_rfl)
  (hQ: ∀c a w,Q (.panic c) (a.put e.dst v) w->Q (.panic c) a w:=by exact fun _ _ _ h=>h):wpT (i::l) (qcz P md ops Q S late (d+1) b a w):=
 qax hi hs hf hr hl hQ f (Or.inl ⟨hw,g⟩) h
end
section
variable {F : Fence} {n : Nat} {P : Program} {ops : Array Oper} {Q : Exit -> Act -> World -> Prop} {md : Region.Mode} {S : World -> Prop} {late : List Nat}
theorem hoR (i:Nat){d:Oper}{c:Nat}{b:Array Bool}{a:Act}{w:World}(hi:ops[i]?=some d)
  (h: ∀K:Act->World->Prop,Hid (∀a' w',(late.contains i=false->S w')->qbs F n P md ops Q S late c (b.setIfInBounds i true) a' w'->K a' w')->wpListIn F n P ops (Exit.then K Q) [d] a w)
  (e:Region.ready md ops b= [i]:=by kernel_rfl):qbs F n P md ops Q S late (c+1) b a w:=qfc hi e h
theorem tkR {i:Nat}{l:List Nat}{e:Oper}{v:Value}{d:Nat}{b:Array Bool}{a:Act}{w:World}(hi:ops[i]?=some e)(j:S w)(k: ∀u,S u->(execOp a.eval e).run P u=.ok (.value v) u)
  (h:wpT l (qbs F n P md ops Q S late d (b.setIfInBounds i true) (a.put e.dst v) w)) (g: ∀f,F.fn f:=by exact fun _=>wE) (hnd:qka ops=true:=by kernel_rfl) (hw:Region.wanted e (yielded ops a.tmps)=true:=by kernel_rfl)
  (hs:Region.noSelect ops=true:=by kernel_rfl) (hf:Region.free md ops b i=true:=by kernel_rfl) (hr:(Region.ready md ops b).contains i=true:=by kernel_rfl) (hl:qee md ops late i=true:=by kernel_rfl)
  (hQ: ∀c a w,Q (.panic c) (a.put e.dst v) w->Q (.panic c) a w:=by exact fun _ _ _ h=>h):wpT (i::l) (qbs F n P md ops Q S late (d+1) b a w):=
 qj2 g hnd hi hs hf hr hl hQ j (Or.inl ⟨hw,k⟩) h
theorem tkS {i:Nat}{l:List Nat}{e:Oper}{d:Nat}{b:Array Bool}{a:Act}{w:World}(hi:ops[i]?=some e)(j:S w)
  (h:wpT l (qbs F n P md ops Q S late d (b.setIfInBounds i true) (a.put e.dst undef) w)) (g: ∀f,F.fn f:=by exact fun _=>wE) (hnd:qka ops=true:=by kernel_rfl) (hw:Region.wanted e (yielded ops a.tmps)=false:=by kernel_rfl)
  (hs:Region.noSelect ops=true:=by kernel_rfl) (hf:Region.free md ops b i=true:=by kernel_rfl) (hr:(Region.ready md ops b).contains i=true:=by kernel_rfl) (hl:qee md ops late i=true:=by kernel_rfl)
  (hQ: ∀c a w,Q (.panic c) (a.put e.dst undef) w->Q (.panic c) a w:=by exact fun _ _ _ h=>h):wpT (i::l) (qbs F n P md ops Q S late (d+1) b a w):=
 qj2 g hnd hi hs hf hr hl hQ j (Or.inr ⟨hw,rfl⟩) h
theorem tkB {i:Nat}{l:List Nat}{e:Oper}{v:Value}{d:Nat}{b:Array Bool}{a:Act}{w:World}(hi:ops[i]?=some e)(g:S w)
  (h:wpT l (qbs F n P md ops Q S late d (b.setIfInBounds i true) (a.put e.dst v) w)) (j: ∀u,S u->(execOp a.eval e).run P u=.ok (.value v) u:=by intro u;(first |(show(_/\_)->_;simp only [and_imp];intros) |(intro h;try dsimp only at h));go_simp;try with_reducible rfl) (hF: ∀f,F.fn f:=by exact fun _=>wE) (hnd:qka ops=true:=by kernel_rfl) (hw:Region.wanted e (yielded ops a.tmps)=true:=by kernel_rfl)
  (hs:Region.noSelect ops=true:=by kernel_rfl) (hf:Region.free md ops b i=true:=by kernel_rfl) (hr:(Region.ready md ops b).contains i=true:=by kernel_rfl) (hl:qee md ops late i=true:=by kernel_rfl)
  (hQ: ∀c a w,Q (.panic c) (a.put e.dst v) w->Q (.panic c) a w:=by exact fun _ _ _ h=>h):wpT (i::l) (qbs F n P md ops Q S late (d+1) b a w):=
 qj2 hF hnd hi hs hf hr hl hQ g (Or.inl ⟨hw,j⟩) h
end
end Go.Ink
namespace Go.Proofs
open Go.RowKit Go.Ink
theorem qau {w:World}{base:Nat}{e:TypeId}{sz g n cap:Nat}{xs:List Value}(h:w.ownsRow base e sz (.slice (some ⟨g,0,none⟩) n cap) n xs)(j:Nat)(u:Value)(b:xs[j]?=some u):w.cell? ⟨g,j,none⟩=some u:=by
 have:=h.cells (g:=g) rfl j u b
 rwa [show((⟨g,0,none⟩:Addr).add j)=⟨g,j,none⟩ from by unfold Addr.add;split<;>simp_all] at this
theorem qcm {w:World}{base:Nat}{e:TypeId}{sz g n cap:Nat}{xs:List Value}(h:w.ownsRow base e sz (.slice (some ⟨g,0,none⟩) n cap) n xs):n<=cap/\cap<=maxLen/\g<w.heap.size/\base<=g:=by
 rcases h.2 with ⟨h,_⟩ |⟨g',c,cur,h,hb,hg,hnc,hc,_⟩
 ·cases h
 ·cases h;exact⟨hnc,hc,qe hg,hb⟩
theorem qi {w:World}{base:Nat}{e:TypeId}{sz:Nat}{v:Value}{n:Nat}{xs:List Value}(h:w.ownsRow base e sz v n xs): ∃a c,v=.slice a n c:=by
 rcases h.2 with ⟨h1,h2⟩ |⟨g,c,_,h1,_⟩
 ·exact⟨none,0,by rw [h1,h2]⟩
 ·exact⟨_,c,h1⟩
theorem qfo {α:Type}{n:Nat}{w:World}{sz:Nat}{E:World->Nat->Nat->α->Prop}(cells:α->List Value)(s: ∀x,(cells x).length=sz)(l:0<sz)(y: ∀b o x,E w b o x->CellsE w b o (cells x)){v:Value}{xs:List α}{a:Option Addr}{c:Nat}(h:SliceIn n w sz E v xs)(U:v=.slice a xs.length c):
  (∀b,a=some b-> ∀j u,(xs.flatMap cells)[j]?=some u->w.cell? (b.add j)=some u)/\(a=none->xs.length=0):=by
 obtain⟨a',cap,f,Y,X,p⟩:=h;rw [U]at f;cases f;refine⟨fun b i j u k=>?_,fun g=>?_⟩
 ·have d:=(zA.1 k).1;rw [qa1 cells sz s]at d;have r:j/sz<xs.length:=Nat.div_lt_of_lt_mul (by rw [xK];exact d);have R:j%sz<sz:=Nat.mod_lt _ l;obtain⟨m,off,g,z,e⟩:=p (j/sz) (xs[j/sz]) (zB r);rw [i]at g;cases g;have q:=qas cells sz s xs (j/sz) (j%sz) _ (zB r) R;rw [show j/sz*sz+j%sz=j from by rw [xK];exact Nat.div_add_mod j sz]at q;rw [q]at k;have:=y _ _ _ e (j%sz) u k;rw [show((⟨m,off,none⟩:Addr).add j)=⟨m,off+j,none⟩ from by unfold Addr.add;split<;>simp_all]
  rwa [xF,show j/sz*sz+j%sz=j from by rw [xK];exact Nat.div_add_mod j sz] at this
 ·by_cases t:xs.length=0
  ·exact t
  ·obtain⟨b,off,i,_⟩:=p 0 xs[0] (zB xz);rw [g]at i;cases i
theorem qi2 {α:Type}(cells:α->List Value)(h: ∀x,∀u∈cells x,u.oneCell'=true)(xs:List α): ∀u∈xs.flatMap cells,u.oneCell'=true:=by
 intro u b;obtain⟨x,_,c⟩:=xC.1 b;exact h x u c
theorem Keep.drewN' (C:Nat->Prop)(w:World)(n:Nat):Keep C w (w.drewN n):=⟨rfl,rfl,rfl,zG _,fun _ _ _=>rfl⟩
theorem q5y {α:Type}[DecidableEq α]{xs b:List α}(c:xs.length=b.length)(h: ∀j,j<xs.length->xs[j]?=b[j]?):xs=b:=by
 refine xW fun j=>?_;rcases yX j xs.length with hj |hj
 ·exact h j hj
 ·rw [xA hj,xA xz]
theorem qwn {P:Program}{f:FuncId}{args:Array Value}{R:Ending->World->Prop}{w:World}(G:World->Prop)(h:G w)(k: ∀W,G W->Calls P f args W R):Calls P f args w R:=k w h
end Go.Proofs
namespace Go.Ink
open Go.RowKit Go.WideMaps
section
variable {κ ν : Type}
def qct [DecidableEq κ](m:List (κ×ν))(k:κ):Option ν:=(m.find? fun p=>decide (p.1=k)).map (·.2)
def setK [DecidableEq κ](m:List (κ×ν))(k:κ)(v:ν):List (κ×ν):=if k∈m.map (·.1) then m.map fun p=>if p.1=k then (k,v) else p else m++ [(k,v)]
theorem qkq [DecidableEq κ]{m:List (κ×ν)}{k:κ}(h:k∉m.map (·.1)):qct m k=none:=by
 unfold qct;rw [ym.2]
 ·rfl
 ·intro p b;simp only [zT];exact fun e=>h (e▸yK.2 ⟨p,b,rfl⟩)
theorem qns [DecidableEq κ]{m:List (κ×ν)}(b:(m.map (·.1)).Nodup){j:Nat}{p:κ×ν}(h:m[j]?=some p):qct m p.1=some p.2:=by
 induction m generalizing j with
 |nil=>simp at h
 |cons q m ih=>
  rw [yW,xR]at b;cases j with
  |zero=>
   simp at h;subst h;simp [qct]
  |succ j=>
   simp only [getElem?_cons_succ]at h;have c:q.1≠p.1:=fun e=>b.1 (e▸yK.2 ⟨p,zH h,rfl⟩);have:=ih b.2 h;unfold qct at this⊢;rw [find?_cons];simp only [c,decide_false];exact this
theorem ql5 [DecidableEq κ]{m:List (κ×ν)}{k:κ}{v:ν}(h:k∈m.map (·.1)):(setK m k v).map (·.1)=m.map (·.1):=by
 unfold setK;rw [zI h,map_map];refine yz fun p _=>?_;simp only [Function.comp];split
 ·rename_i e;exact e.symm
 ·rfl
theorem qoo [DecidableEq κ]{m:List (κ×ν)}(d:(m.map (·.1)).Nodup)(k:κ)(v:ν):((setK m k v).map (·.1)).Nodup:=by
 by_cases h:k∈m.map (·.1)
 ·rw [ql5 h];exact d
 ·unfold setK;rw [zF h,zm,xV];exact⟨d,wB,fun a f b c e=>h (by simp at c;subst c;rw [←e];exact f)⟩
def MapIn (P:Program)(K:TypeId)(ek:κ->Value)(ev:ν->Value)(w:World)(b:Nat)(m:List (κ×ν)):Prop:=
 ∃es clock,w.heap[b]?=some (.map es clock)/\es.toList.map (fun e=>(e.key,e.val))=m.map (fun p=>(ek p.1,ev p.2))/\(m.map (·.1)).Nodup/\(∀p,p∈m-> ∃l,keyOf P K (ek p.1)=some l)/\(∀e∈es.toList,e.born<clock)/\(es.toList.map (·.born)).Nodup
variable {P : Program} {T K E : TypeId} {ek : κ -> Value} {ev : ν -> Value}
theorem MapIn.keep {w w':World}{b:Nat}{m:List (κ×ν)}{C:Nat->Prop}(h:MapIn P K ek ev w b m)(hK:Keep C w w')(g:C b):MapIn P K ek ev w' b m:=by
 obtain⟨d,c,e,f⟩:=h;exact⟨d,c,hK.heap e g,f⟩
theorem qhf (w:World):MapIn P K ek ev (w.alloc (.map #[] 0)) w.heap.size ([]:List (κ×ν)):=⟨#[],0,qh w _,rfl,wB,wB,wB,wB⟩
theorem MapIn.lt {w:World}{b:Nat}{m:List (κ×ν)}(h:MapIn P K ek ev w b m):b<w.heap.size:=by
 obtain⟨e,c,d,f⟩:=h;exact qe d
theorem qsj {w:World}{m:List (κ×ν)}{c:Array MapEntry}(x:KeyLaw P K)(i: ∀a b,ek a=ek b->a=b)(y:c.toList.map (fun e=>(e.key,e.val))=m.map (fun p=>(ek p.1,ev p.2)))(X:(m.map (·.1)).Nodup)(t: ∀p,p∈m-> ∃l,keyOf P K (ek p.1)=some l)
  (k:κ) (z: ∃l,keyOf P K (ek k)=some l):
  ((Instr.findKey K (ek k) c.toList).run P w=.ok none w/\k∉m.map (·.1))∨ ∃(j:Nat) (v:ν) (e:MapEntry),(Instr.findKey K (ek k) c.toList).run P w=.ok (some (j,ev v)) w/\c[j]?=some e/\e.key=ek k/\m[j]?=some (k,v):=by
 obtain⟨l,R⟩:=z;have d: ∀j:Nat,(c.toList[j]?).map (fun e=>(e.key,e.val))=(m[j]?).map (fun p=>(ek p.1,ev p.2)):=fun j=>by
  have:=yM (fun l=>l[j]?) y
  simpa only [zP]using this
 have r: ∀e,e∈c.toList-> ∃l,keyOf P K e.key=some l:=fun e g=>by
  obtain⟨j,s⟩:=zw.1 g;have h:=d j;rw [s]at h;cases f:m[j]? with
  |none=>simp [f] at h
  |some p=>
   rw [f]at h;simp at h;rw [h.1];exact t p (zH f)
 rcases x.find w R c.toList r with ⟨h1,h3⟩ |⟨j,e,h1,h3,h4⟩
 ·refine .inl ⟨h1,fun q=>?_⟩;obtain⟨p,U,rfl⟩:=yK.1 q;obtain⟨j,s⟩:=zw.1 U;have h:=d j;rw [s]at h;cases g:c.toList[j]? with
  |none=>simp [g] at h
  |some e=>
   rw [g]at h;simp at h;exact h3 e (zH g) h.1
 ·have h:=d j;rw [h3]at h;cases f:m[j]? with
  |none=>simp [f] at h
  |some p=>
   rw [f]at h;simp at h;have u:p.1=k:=i _ _ (by rw [←h.1,h4]);refine .inr ⟨j,p.2,e,by rw [h1,h.2],by simpa using h3,h4,?_⟩;rw [f,←u]
theorem qdn [DecidableEq κ](hT:P.underlying T=some (.map K E))(f:KeyLaw P K)(d: ∀a b,ek a=ek b->a=b){z:Value}(X: ∀w,(zeroValue E).run P w=.ok z w){w:World}{b:Nat}{m:List (κ×ν)}(h:MapIn P K ek ev w b m)(k:κ)(U: ∃l,keyOf P K (ek k)=some l)(g:Bool):
  (Instr.lookup T (.map (some b)) (ek k) g).run P w=.ok (match qct m k with
   |some v=>if g then .tuple #[ev v,.bool true] else ev v
   |none=>if g then .tuple #[z,.bool false] else z) w:=by
 obtain⟨p,c,u,x,t,i,y,R⟩:=h;have r:(getObj b).run P w=.ok (.map p c) w:=by simp [getObj,Sem.run,u]
 obtain⟨l,s⟩:=U;have q:=f.check w p.isEmpty s;rcases qsj (w:=w) f d x t i k ⟨l,s⟩ with ⟨hf,hno⟩ |⟨j,v,e,hf,_,_,hj⟩
 ·rw [qkq hno];cases g<;>simp [Instr.lookup,yp,yl hT,Result.andThen,r,q,hf,X]
 ·have:=qns t hj;simp only at this;rw [this];cases g<;>simp [Instr.lookup,yp,yl hT,Result.andThen,r,q,hf]
theorem qh3 [DecidableEq κ](hT:P.underlying T=some (.map K E))(X:KeyLaw P K)(aa: ∀a b,ek a=ek b->a=b){w:World}{b:Nat}{m:List (κ×ν)}(h:MapIn P K ek ev w b m)(k:κ)(hk: ∃l,keyOf P K (ek k)=some l)(v:ν):
  ∃w',(Instr.mapUpdate T (.map (some b)) (ek k) (ev v)).run P w=.ok () w'/\MapIn P K ek ev w' b (setK m k v)/\Keep (fun j=>j≠b) w w'/\w'.heap.size=w.heap.size:=by
 obtain⟨d,c,h1,h2,hn,R,u,Y⟩:=h;have hg:(getObj b).run P w=.ok (.map d c) w:=by simp [getObj,Sem.run,h1]
 have t: ∀o,(setObj b o).run P w=.ok () (w.putObj b o):=by intro o;simp [setObj,Sem.run,h1,World.putObj]
 have ah:=hk;obtain⟨l,hl⟩:=hk;have hc:=fun em=>X.check w em hl;rcases qsj (w:=w) X aa h2 hn R k ⟨l,hl⟩ with ⟨hf,hno⟩ |⟨j,v0,e,hf,g,hek,hj⟩
 ·refine⟨w.putObj b (.map (d.push {key:=ek k,val:=ev v,born:=c}) (c+1)),?_,?_,Keep.putObj _ _ _ wB,wB⟩
  ·simp [Instr.mapUpdate,yp,yl hT,Result.andThen,hg,hc,hf,t]
  ·refine⟨_,_,yy (qe h1),?_,qoo hn k v,?_,?_,?_⟩
   ·unfold setK;rw [zF hno];simp [h2]
   rotate_left
   ·intro e g;simp only [Array.toList_push,zn,zl]at g;rcases g with g |rfl
    ·have:=u e g;omega
    ·simp
   ·simp only [Array.toList_push,zm,yW,xi,xV];refine⟨Y,wB,fun a ha b hb e=>?_⟩;obtain⟨x,hx,rfl⟩:=yK.1 ha;simp only [zl]at hb;have:=u x hx;omega
   ·unfold setK;rw [zF hno];intro p s;rcases zn.1 s with s |s
    ·exact R p s
    ·simp at s;subst s;exact ah
 ·have r:k∈m.map (·.1):=yK.2 ⟨_,zH hj,rfl⟩;have ab:(d[j]?).map (·.key)=some (ek k):=by rw [g];simp [hek]
  have U:=X.stays w hl;refine⟨w.putObj b (.map (d.modify j fun e=>{e with key:=ek k,val:=ev v}) c),?_,?_,Keep.putObj _ _ _ wB,wB⟩
  ·simp [Instr.mapUpdate,yp,yl hT,Result.andThen,hg,hc,hf,t,ab,U]
  ·have ag: ∀i:Nat,((d.modify j fun e=>{e with key:=ek k,val:=ev v}).toList[i]?).map (·.born)=(d.toList[i]?).map (·.born):=by
    intro i;simp only [xg,Array.getElem?_modify];by_cases hi:j=i
    ·subst hi;rw [g];simp
    ·simp [hi]
   have f:(d.modify j fun e=>{e with key:=ek k,val:=ev v}).toList.map (·.born)=d.toList.map (·.born):=xW fun i=>by
    rw [zP,zP];exact ag i
   refine⟨_,_,yy (qe h1),?_,qoo hn k v,?_,?_,by rw [f];exact Y⟩
   rotate_right
   ·intro x hx;have:x.born∈(d.modify j fun e=>{e with key:=ek k,val:=ev v}).toList.map (·.born):=yK.2 ⟨x,hx,rfl⟩;rw [f]at this;obtain⟨y,hy,am⟩:=yK.1 this;rw [←am];exact u y hy
   ·unfold setK;rw [zI r];apply xW;intro i;have z:=yM (fun l=>l[i]?) h2;simp only [zP]at z;simp only [zP,xg,Array.getElem?_modify]at z⊢;by_cases hi:j=i
    ·subst hi;rw [hj,g];simp
    ·simp only [hi,yx];rw [z];cases hm:m[i]? with
     |none=>rfl
     |some q=>
      have hq:q.1≠k:=fun e=>by
       have h3:(m.map (·.1))[i]?=some k:=by rw [zP,hm];simp [e]
       have h4:(m.map (·.1))[j]?=some k:=by rw [zP,hj];rfl
       exact hi ((xv (zA.1 h4).1 hn).1 (h4.trans h3.symm))
      simp [hq]
   ·intro p s;have:p.1∈(setK m k v).map (·.1):=yK.2 ⟨p,s,rfl⟩;rw [ql5 r]at this;obtain⟨q,hq,ak⟩:=yK.1 this;rw [←ak];exact R q hq
def MapRange (P:Program)(K:TypeId)(ek:κ->Value)(ev:ν->Value)(w:World)(b r:Nat)(m:List (κ×ν))(left:κ->Bool)(cnt:Nat):Prop:=
 ∃es clock since seen c0,w.heap[b]?=some (.map es clock)/\es.toList.map (fun e=>(e.key,e.val))=m.map (fun p=>(ek p.1,ev p.2))/\(m.map (·.1)).Nodup/\(∀p,p∈m-> ∃l,keyOf P K (ek p.1)=some l)/\(∀e∈es.toList,e.born<clock)/\(es.toList.map (·.born)).Nodup/\
  w.heap[r]?=some (.mapIter (some b) since seen c0)/\(∀e∈es.toList,e.born<since)/\since<=c0/\since<=clock/\(leftOf es seen).size=cnt/\ ∀(j:Nat) e p,es.toList[j]?=some e->m[j]?=some p->left p.1=!seen.contains e.born
theorem MapRange.keep {w w':World}{b r cnt:Nat}{m:List (κ×ν)}{d:κ->Bool}{C:Nat->Prop}(h:MapRange P K ek ev w b r m d cnt)(hK:Keep C w w')(u:C b)(v:C r):MapRange P K ek ev w' b r m d cnt:=by
 obtain⟨f,c,s,x,e,g,i,j,k,l,p,q,t⟩:=h;exact⟨f,c,s,x,e,hK.heap g u,i,j,k,l,p,hK.heap q v,t⟩
theorem MapRange.map {w:World}{b r cnt:Nat}{m:List (κ×ν)}{d:κ->Bool}(h:MapRange P K ek ev w b r m d cnt):MapIn P K ek ev w b m:=by
 obtain⟨e,c,s,u,p,f,g,i,j,k,l,q,t⟩:=h;exact⟨e,c,f,g,i,j,k,l⟩
theorem MapRange.lt {w:World}{b r cnt:Nat}{m:List (κ×ν)}{d:κ->Bool}(h:MapRange P K ek ev w b r m d cnt):r<w.heap.size:=by
 obtain⟨g,c,s,u,f,i,j,k,l,p,q,e,t⟩:=h;exact qe e
theorem qyv {w:World}{b:Nat}{m:List (κ×ν)}(hT:P.underlying T=some (.map K E))(h:MapIn P K ek ev w b m):
  ∃w',(Instr.range T (.map (some b))).run P w=.ok (.pointer (some ⟨w.heap.size,0,none⟩)) w'/\MapRange P K ek ev w' b w.heap.size m (fun _=>true) m.length/\wD w w'/\w'.heap.size=w.heap.size+1:=by
 obtain⟨d,c,f,g,k,l,i,q⟩:=h;refine⟨_,run_range_map w T K E b d c hT f,⟨d,c,c,#[],c,qec f _,g,k,l,i,q,qh _ _,i,zG _,zG _,?_,?_⟩,kAl,wB⟩
 ·have:=yM List.length g;simp at this;rw [←this];simp [leftOf]
 ·intro j e p _ _;simp
theorem q1s {w:World}{b r cnt:Nat}{m:List (κ×ν)}{g:κ->Bool}[DecidableEq κ](ty:TypeId)(h:MapRange P K ek ev w b r m g cnt):
  (cnt=0/\(∀p∈m,g p.1=false)/\(Instr.next (.pointer (some ⟨r,0,none⟩)) false ty).run P w=.ok (.tuple #[.bool false]) w)∨
  ∃k v w' cnt',(k,v)∈m/\g k=true/\(Instr.next (.pointer (some ⟨r,0,none⟩)) false ty).run P w=.ok (.tuple #[.bool true,ek k,ev v]) w'/\MapRange P K ek ev w' b r m (fun x=>g x&&decide (x≠k)) cnt'/\cnt'<cnt/\Keep (fun j=>j≠r) w w'/\w'.heap.size=w.heap.size/\
   (Instr.entry (.pointer (some ⟨r,0,none⟩))).run P w'=.ok (.tuple #[ek k,ev v]) w':=by
 obtain⟨u,c,d,f,c0,hb,h2,hn,ar,am,z,hr,hold,av,ad,rfl,hl⟩:=h;have aj: ∀j:Nat,(u.toList[j]?).map (fun e=>(e.key,e.val))=(m[j]?).map (fun p=>(ek p.1,ev p.2)):=fun j=>by
  have:=yM (fun l=>l[j]?) h2
  simpa only [zP]using this
 have az:u.toList.length=m.length:=by have:=yM List.length h2;simpa using this
 have aq:r≠b:=fun e=>by rw [e,hb] at hr;cases hr
 rcases run_next_at (P:=P) w ty r b d c0 f u c hr hb hold av with ⟨h0,hrun⟩ |⟨e,he,w1,hal,hrun⟩
 ·refine .inl ⟨h0,fun p U=>?_,hrun⟩;obtain⟨j,y⟩:=zw.1 U;have ao:=(zA.1 y).1;obtain⟨e,he⟩: ∃e,u.toList[j]?=some e:=⟨_,zB xz⟩;rw [hl j e p he y,all_seen u f h0 e (zH he)]
  rfl
 ·obtain⟨ab,an⟩:=mem_left he;obtain⟨j,y⟩:=zw.1 ab;have ao:=(zA.1 y).1;obtain⟨p,U⟩: ∃p,m[j]?=some p:=⟨_,zB xz⟩;have t:=aj j;rw [y,U]at t;simp only [Option.map_some,yb,Prod.mk.injEq]at t;have au:w1.heap[r]?=some (.mapIter (some b) d f c0):=by rcases hal with rfl |rfl<;>exact hr
  have al:w1.heap[b]?=some (.map u c):=by rcases hal with rfl |rfl<;>exact hb
  have s:=Go.MapKept.heap_set (o':=.mapIter (some b) d (f.push e.born) c) au;have Y:(Go.ChangeMaps.setBlock w1 r (.mapIter (some b) d (f.push e.born) c)).heap[b]?=some (.map u c):=(s.2 b (fun X=>aq X.symm)).trans al;refine .inr ⟨p.1,p.2,_,_,zH U,?_,by rw [←t.1,←t.2];exact hrun,⟨u,c,d,f.push e.born,c,Y,h2,hn,ar,am,z,s.1,hold,ad,ad,rfl,?_⟩,left_shrinks u f e he,?_,?_,by rw [←t.1,←t.2];exact run_entry_at _ r b d f u c e s.1 Y ab z⟩
  ·rw [hl j e p y U,an];rfl
  ·intro i x q hx hq;show(g q.1&&decide (q.1≠p.1))=_;rw [hl i x q hx hq,contains_push];by_cases R:i=j
   ·subst R;rw [y]at hx;cases hx;rw [U]at hq;cases hq;simp
   ·have h1:q.1≠p.1:=fun X=>by
     have q1:(m.map (·.1))[i]?=some q.1:=by rw [zP,hq];rfl
     have q2:(m.map (·.1))[j]?=some q.1:=by rw [zP,U,X];rfl
     exact R ((xv (zA.1 q1).1 hn).1 (q1.trans q2.symm))
    have h3:(x.born==e.born)=false:=by
     rw [yZ];intro X;have q1:(u.toList.map (·.born))[i]?=some x.born:=by rw [zP,hx];rfl
     have q2:(u.toList.map (·.born))[j]?=some x.born:=by rw [zP,y,X];rfl
     exact R ((xv (zA.1 q1).1 z).1 (q1.trans q2.symm))
    simp [h1,h3]
  ·rcases hal with rfl |rfl<;>exact⟨rfl,rfl,rfl,by simp [Go.ChangeMaps.setBlock],fun i _ hi=>s.2 i hi⟩
  ·rcases hal with rfl |rfl<;>simp [Go.ChangeMaps.setBlock]
variable {ops : Array Oper} {rest : List Oper} {o : Oper} {a : Act} {Q : Exit -> Act -> World -> Prop}
theorem qwo {w:World}{b:Nat}{m:List (κ×ν)}(f:o.guard=none)(x:Operand)(t:TypeId)(e:o.op=Op.range t x)(hT:P.underlying t=some (.map K E))(g:a.eval x=.map (some b))(h:MapIn P K ek ev w b m)
  (hK: ∀w',MapRange P K ek ev w' b w.heap.size m (fun _=>true) m.length->wD w w'->w'.heap.size=w.heap.size+1->wpList P ops Q rest (a.put o.dst (.pointer (some ⟨w.heap.size,0,none⟩))) w'):
  wpList P ops Q (o::rest) a w:=by
 refine wpList_plain f fun l d=>?_;obtain⟨w',c,i,j,k⟩:=qyv hT h;unfold Oper.wp;simp [execOp,e,g,c,Result.andThen];exact d _ _ (hK w' i j k)
theorem qyw {w:World}{b r cnt:Nat}{m:List (κ×ν)}{c:κ->Bool}[DecidableEq κ](l:o.guard=none)(it:Operand)(i:o.op=Op.next it false)(g:a.eval it=.pointer (some ⟨r,0,none⟩))(h:MapRange P K ek ev w b r m c cnt)
  (d:cnt=0->(∀p∈m,c p.1=false)->wpList P ops Q rest (a.put o.dst (.tuple #[.bool false])) w)
  (e: ∀(k:κ) (v:ν) (w':World) (cnt':Nat),(k,v)∈m->c k=true->MapRange P K ek ev w' b r m (fun x=>c x&&decide (x≠k)) cnt'->cnt'<cnt->Keep (fun j=>j≠r) w w'->w'.heap.size=w.heap.size->
   (Instr.entry (.pointer (some ⟨r,0,none⟩))).run P w'=.ok (.tuple #[ek k,ev v]) w'->wpList P ops Q rest (a.put o.dst (.tuple #[.bool true,ek k,ev v])) w'):
  wpList P ops Q (o::rest) a w:=by
 refine wpList_plain l fun q f=>?_;unfold Oper.wp;rcases q1s o.type h with ⟨h0,hl,hrun⟩ |⟨k,v,w',cnt',h1,h2,hrun,h3,h4,h5,h6,h7⟩
 ·simp [execOp,i,g,hrun,Result.andThen];exact f _ _ (d h0 hl)
 ·simp [execOp,i,g,hrun,Result.andThen];exact f _ _ (e k v w' cnt' h1 h2 h3 h4 h5 h6 h7)
end
section
variable {κ ν : Type} {P : Program} {T K E : TypeId} {ek : κ -> Value} {ev : ν -> Value}
theorem qwp [DecidableEq κ](hT:P.underlying T=some (.map K E))(ah:KeyLaw P K)(f: ∀a b,ek a=ek b->a=b){z:Value}(hz: ∀w:World,(zeroValue E).run P w=.ok z w){w:World}{b:Nat}{m:List (κ×ν)}(h:MapIn P K ek ev w b m)(av:m.length<=maxLen)(k:κ)(hk: ∃l,keyOf P K (ek k)=some l):
  ∃(v0:Value) (st:Int) (w1:World),(Instr.mapEntry T (.map (some b)) (ek k)).run P w=.ok (.tuple #[v0,.int .i64 st]) w1/\((∃v,(k,v)∈m/\v0=ev v)∨(k∉m.map (·.1)/\v0=z))/\
   Keep (fun j=>j≠b) w w1/\w1.heap.size=w.heap.size/\
   ∀(w2:World),w2.heap[b]?=w1.heap[b]?-> ∀v:ν,∃w3,(Instr.entryStore T (.map (some b)) (.int .i64 st) (ev v)).run P w2=.ok () w3/\MapIn P K ek ev w3 b (setK m k v)/\Keep (fun j=>j≠b) w2 w3/\w3.heap.size=w2.heap.size:=by
 obtain⟨r,c,h1,h2,hn,ap,aj,ak⟩:=id h;obtain⟨l,hl⟩:=id hk;have aa: ∀j:Nat,(r.toList[j]?).map (fun e=>(e.key,e.val))=(m[j]?).map (fun p=>(ek p.1,ev p.2)):=fun j=>by
  have:=yM (fun l=>l[j]?) h2
  simpa only [zP]using this
 have ae:r.toList.length=m.length:=by have:=yM List.length h2;simpa using this
 have q: ∀e,e∈r.toList-> ∃p,p∈m/\e.key=ek p.1/\e.val=ev p.2:=fun e X=>by
  obtain⟨j,hj⟩:=zw.1 X;have al:=(zA.1 hj).1;obtain⟨p,g⟩: ∃p,m[j]?=some p:=⟨_,zB xz⟩;have:=aa j;rw [hj,g]at this;simp only [Option.map_some,yb,Prod.mk.injEq]at this;exact⟨p,zH g,this.1,this.2⟩
 have t: ∀p,p∈m-> ∃e,e∈r.toList/\e.key=ek p.1/\e.val=ev p.2:=fun p g=>by
  obtain⟨j,hj⟩:=zw.1 g;have al:=(zA.1 hj).1;obtain⟨e,X⟩: ∃e,r.toList[j]?=some e:=⟨_,zB xz⟩;have:=aa j;rw [hj,X]at this;simp only [Option.map_some,yb,Prod.mk.injEq]at this;exact⟨e,zH X,this.1,this.2⟩
 have y:r.toList.map (·.key)=(m.map (·.1)).map ek:=by
  have:=yM (List.map Prod.fst) h2
  simpa [map_map,Function.comp_def]using this
 have ab:Go.WideElems.Fit (H:=Unit) P K (fun _=>some (.nil,[])) r c:=by
  refine⟨by rw [←Array.length_toList,ae];exact av,⟨aj,ak,?_⟩,fun x hx=>?_⟩
  ·rw [y];exact List.Pairwise.map ek (fun a b ao e=>ao (f a b e)) hn
  ·obtain⟨p,g,Y,_⟩:=q x hx;obtain⟨l,hl⟩:=ap p g;exact⟨(l,.nil),by simp [Go.WideElems.rd,Y,hl]⟩
 obtain⟨v0,st,aB,c1,ag,hv,au⟩:=Go.WideElems.entry_then_store (P:=P) ah hT hz h1 ab hl;have d: ∀(u:World) (o:Obj),b<u.heap.size->(Go.ChangeMaps.setBlock u b o).heap[b]?=some o/\Keep (fun j=>j≠b) u (Go.ChangeMaps.setBlock u b o)/\(Go.ChangeMaps.setBlock u b o).heap.size=u.heap.size:=fun u o U=>by
  refine⟨by simp [Go.ChangeMaps.setBlock,U],⟨rfl,rfl,rfl,by simp [Go.ChangeMaps.setBlock],fun i _ hi=>?_⟩,by simp [Go.ChangeMaps.setBlock]⟩;simp only [Go.ChangeMaps.setBlock];rw [Array.getElem?_setIfInBounds_ne (fun e=>hi e.symm)]
 have U:=qe h1;refine⟨v0,st,_,ag,?_,(d w _ U).2.1,(d w _ U).2.2,fun w2 R v=>?_⟩
 ·rcases hv with ⟨e0,he0,hek,hev⟩ |⟨hno,hz0⟩
  ·obtain⟨p,g,Y,e2⟩:=q e0 he0;have:p.1=k:=f _ _ (by rw [←Y,hek]);exact .inl ⟨p.2,by rw [←this];exact g,by rw [hev,e2]⟩
  ·refine .inr ⟨fun am=>?_,hz0⟩;obtain⟨p,g,rfl⟩:=yK.1 am;obtain⟨e,X,Y,_⟩:=t p g;exact hno e X Y
 ·rw [(d w _ U).1]at R;obtain⟨aA,c',aq,ar⟩:=au w2 (ev v) R;obtain⟨w',af,hM,_,_⟩:=qh3 hT ah f h k hk v;rw [ar]at af;cases af;obtain⟨aC,c2,q1,q2,q3,q4,q5,q6⟩:=hM;rw [(d w _ U).1]at q1;cases q1;have s:=qe R;exact⟨_,aq,⟨_,_,(d w2 _ s).1,q2,q3,q4,q5,q6⟩,(d w2 _ s).2.1,(d w2 _ s).2.2⟩
end
end Go.Ink

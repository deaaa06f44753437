/- Layer 4, the law RelationPlays: one of the three places, be there a relation or not. -/
import Derived.Test.YtbaemcmagkmjiaaProg
import Derived.Test.YtbaemcmagkmjiaaRelGWToPlayA
import Derived.Test.YtbaemcmagkmjiaaPlayCToPlayD
import Derived.Test.YtbaemcmagkmjiaaPlayE
import Derived.Test.YtbaemcmagkmjiaaPlayFToPlayG
import Derived.Test.YtbaemcmagkmjiaaPlayH
namespace Go.Proofs
open Go.RowKit Go.Ink
set_option linter.unusedVariables false
set_option linter.unusedSimpArgs false
attribute [local go_sem] Oper.semAt_some

/-- what stands in a place -/
structure SlotD where
  B : Nat
  n : Nat
  P : Nat
  K : Nat
  s : RelS
  F : Nat → Prop
  Bf : Nat
  vL : Value
  svs : List Value
def SlotAt : Option SlotD → World → Prop
  | none, _ => True
  | some x, w => Both x.B x.n x.P x.K x.s x.F x.Bf x.vL x.svs w
def tV : Option SlotD → Value
  | none => .pointer none
  | some x => .pointer (some ⟨x.B, 0, none⟩)
def rV : Option SlotD → Value
  | none => .pointer none
  | some x => .pointer (some ⟨x.Bf, 0, none⟩)
def tsS : Option SlotD → List (List Int)
  | none => []
  | some x => x.s.ts
/-- what a step on the place does not write over -/
def outS : Option SlotD → Nat → Prop
  | none, _ => True
  | some x, b => OutW x.s x.Bf x.vL b
/-- what is no part of the place -/
def offS : Option SlotD → Nat → Prop
  | none, _ => True
  | some x, b => Outside x.s x.F b
/-- how the place may have gone on -/
def SlotOn : Option SlotD → Option SlotD → Nat → Prop
  | none, none, _ => True
  | some x, some y, m => y.B = x.B ∧ y.n = x.n ∧ y.P = x.P ∧ y.K = x.K ∧ y.Bf = x.Bf ∧ BothOn x.s x.F m y.s y.F ∧ ∀ b, y.vL.ownBlock = some b → x.vL.ownBlock = some b ∨ m ≤ b
  | _, _, _ => False
theorem SlotAt.off_out {d : Option SlotD} {w : World} (h : SlotAt d w) {b : Nat} (hb : offS d b) : outS d b := by
  cases d with
  | none => trivial
  | some x => exact ⟨hb.1, (RefOwn.notF h.ref hb.2).1, (RefOwn.notF h.ref hb.2).2⟩
theorem SlotAt.fresh {d : Option SlotD} {w : World} (h : SlotAt d w) {b : Nat} (hb : w.heap.size ≤ b) : offS d b := by
  cases d with
  | none => trivial
  | some x =>
    refine ⟨?_, fun hF => by have := h.lt b hF; omega⟩
    cases hT : x.s.tag b with
    | none => rfl
    | some T => have := h.rel.own.lt b T hT; omega
theorem SlotAt.keep {d : Option SlotD} {w w' : World} {C : Nat → Prop} (h : SlotAt d w) (hK : Keep C w w') (hC : ∀ b, b < w.heap.size → ¬ offS d b → C b) : SlotAt d w' := by
  cases d with
  | none => trivial
  | some x => exact Both.keep h hK (fun b hb hl => hC b hl (fun ho => hb.elim (fun h1 => h1 ho.1) ho.2))
theorem SlotAt.few {d : Option SlotD} {w : World} (h : SlotAt d w) : (tsS d).length ≤ 67108864 := by
  cases d with
  | none => simp [tsS]
  | some x => exact h.rel.few
theorem SlotOn.refl (d : Option SlotD) (m : Nat) : SlotOn d d m := by
  cases d with
  | none => trivial
  | some x => exact ⟨rfl, rfl, rfl, rfl, rfl, BothOn.refl _ _ _, fun b hb => .inl hb⟩
theorem SlotOn.trans {d d' d'' : Option SlotD} {m m' : Nat} (h : SlotOn d d' m) (g : SlotOn d' d'' m') (hm : m ≤ m') : SlotOn d d'' m := by
  cases d with
  | none =>
    cases d' with
    | none => cases d'' with
      | none => trivial
      | some z => exact g.elim
    | some y => exact h.elim
  | some x =>
    cases d' with
    | none => exact h.elim
    | some y => cases d'' with
      | none => exact g.elim
      | some z =>
        obtain ⟨h1, h2, h3, h4, h5, h6, h7⟩ := h
        obtain ⟨g1, g2, g3, g4, g5, g6, g7⟩ := g
        exact ⟨g1.trans h1, g2.trans h2, g3.trans h3, g4.trans h4, g5.trans h5, h6.trans g6 hm, fun b hb => (g7 b hb).elim (h7 b) (fun h => .inr (by omega))⟩
theorem SlotOn.out {d d' : Option SlotD} {m b : Nat} (h : SlotOn d d' m) (hb : b < m) (ho : outS d b) : outS d' b := by
  cases d with
  | none => cases d' with
    | none => trivial
    | some y => exact h.elim
  | some x => cases d' with
    | none => exact h.elim
    | some y =>
      obtain ⟨h1, h2, h3, h4, h5, h6, h7⟩ := h
      refine ⟨?_, by rw [h5]; exact ho.2.1, fun e => (h7 b e).elim ho.2.2 (fun h => by omega)⟩
      cases hT : y.s.tag b with
      | none => rfl
      | some T =>
        rcases h6.bd.new b T hT with ⟨T', h8⟩ | h8
        · rw [ho.1] at h8; cases h8
        · omega
theorem SlotOn.off {d d' : Option SlotD} {m b : Nat} (h : SlotOn d d' m) (hb : b < m) (ho : offS d b) : offS d' b := by
  cases d with
  | none => cases d' with
    | none => trivial
    | some y => exact h.elim
  | some x => cases d' with
    | none => exact h.elim
    | some y => exact h.2.2.2.2.2.1.out hb ho
theorem SlotOn.t {d d' : Option SlotD} {m : Nat} (h : SlotOn d d' m) : tV d' = tV d := by
  cases d with
  | none => cases d' with
    | none => rfl
    | some y => exact h.elim
  | some x => cases d' with
    | none => exact h.elim
    | some y => show Value.pointer _ = Value.pointer _; rw [h.1]
theorem SlotOn.r {d d' : Option SlotD} {m : Nat} (h : SlotOn d d' m) : rV d' = rV d := by
  cases d with
  | none => cases d' with
    | none => rfl
    | some y => exact h.elim
  | some x => cases d' with
    | none => exact h.elim
    | some y => show Value.pointer _ = Value.pointer _; rw [h.2.2.2.2.1]

/-- a step on the place -/
structure SlotGo (d : Option SlotD) (w : World) (d' : Option SlotD) (X : World) : Prop where
  here : SlotAt d' X
  on : SlotOn d d' w.heap.size
  keep : Keep (fun b => outS d b ∧ b < w.heap.size) w X
theorem SlotGo.refl {d : Option SlotD} {w : World} (h : SlotAt d w) : SlotGo d w d w := ⟨h, SlotOn.refl _ _, Keep.refl _ _⟩
theorem SlotGo.stay {d d' : Option SlotD} {w X Y : World} {C : Nat → Prop} (h : SlotGo d w d' X) (hK : Keep C X Y) (hC : ∀ b, b < X.heap.size → C b) : SlotGo d w d' Y :=
  ⟨h.here.keep hK (fun b hb _ => hC b hb), h.on, h.keep.trans (hK.mono fun b hb _ => hC b (by have := h.keep.size; omega))⟩
/-- memory that is new since the step began, and no part of the place, may be written over -/
theorem SlotGo.stayNew {d d' : Option SlotD} {w X Y : World} {C : Nat → Prop} (h : SlotGo d w d' X) (hK : Keep C X Y) (hC : ∀ b, b < X.heap.size → b < w.heap.size ∨ ¬ offS d' b → C b) : SlotGo d w d' Y :=
  ⟨h.here.keep hK (fun b hb hn => hC b hb (.inr hn)), h.on, h.keep.trans (hK.mono fun b hb hn => hC b (by have := h.keep.size; omega) (.inl hn.2))⟩
theorem SlotGo.trans {d d' d'' : Option SlotD} {w X Y : World} (h : SlotGo d w d' X) (g : SlotGo d' X d'' Y) : SlotGo d w d'' Y :=
  ⟨g.here, h.on.trans g.on h.keep.size, h.keep.trans (g.keep.mono fun b _ hb => ⟨h.on.out hb.2 hb.1, by have := h.keep.size; omega⟩)⟩
theorem SlotGo.off {d d' : Option SlotD} {w X : World} (h : SlotGo d w d' X) {b : Nat} (hb : b < w.heap.size) (ho : offS d b) : offS d' b := h.on.off hb ho

theorem slot_same {x : SlotD} {w X : World} {s' : RelS} (h : SlotAt (some x) w) (hi : RelInv x.B x.n x.P x.K s' X) (hs : RelSame x.s w s' X) : SlotGo (some x) w (some { x with s := s' }) X ∧ tsS (some { x with s := s' }) = tsS (some x) := by
  have hb : Both x.B x.n x.P x.K x.s x.F x.Bf x.vL x.svs w := h
  refine ⟨⟨?_, ⟨rfl, rfl, rfl, rfl, rfl, ⟨⟨⟨[], by simp [hs.same]⟩, hs.le, hs.new, hs.sub⟩, fun b hb => .inl hb⟩, fun b hb => .inl hb⟩, hs.keep.mono fun b _ hb => ⟨hb.1.1, hb.2⟩⟩, hs.same⟩
  refine ⟨hi, ?_, fun b hF => hs.free (hb.lt b hF) (hb.apart b hF), fun b hF => Nat.lt_of_lt_of_le (hb.lt b hF) hs.keep.size⟩
  show RefOwn x.F X x.Bf x.n s'.ts x.vL x.svs
  rw [hs.same]
  exact hb.ref.keep hs.keep (fun b hF hl => ⟨hb.apart b hF, hl⟩)

/-- what is asked of a slice that is handed to a relation -/
def Lends (d : Option SlotD) (w : World) (v : Value) (l : List Int) : Prop := IntsIn w.heap.size w v l ∧ ∀ a n c, v = .slice (some a) n c → offS d a.block ∧ a.block < w.heap.size
theorem Lends.go {d d' : Option SlotD} {w X : World} {v : Value} {l : List Int} (h : Lends d w v l) (hd : SlotAt d w) (g : SlotGo d w d' X) : Lends d' X v l := by
  obtain ⟨a, c, rfl, h1, h2, h3⟩ := h.1
  refine ⟨⟨a, c, rfl, h1, h2, fun k x hk => ?_⟩, fun a' n' c' e => ⟨g.off (h.2 a' n' c' e).2 (h.2 a' n' c' e).1, Nat.lt_of_lt_of_le (h.2 a' n' c' e).2 g.keep.size⟩⟩
  obtain ⟨b, o, rfl, hb, hx⟩ := h3 k x hk
  have ho := h.2 _ _ _ rfl
  exact ⟨b, o, rfl, Nat.lt_of_lt_of_le hb g.keep.size, g.keep.cell hx ⟨hd.off_out ho.1, ho.2⟩⟩
theorem Lends.stay {d : Option SlotD} {w X : World} {v : Value} {l : List Int} {C : Nat → Prop} (h : Lends d w v l) (hK : Keep C w X) (hC : ∀ b, b < w.heap.size → C b) : Lends d X v l :=
  ⟨ints_wider (ints_stay h.1 (m := w.heap.size) (hK.mono fun b _ hb => hC b hb) (Nat.le_refl _)) hK.size, fun a n c e => ⟨(h.2 a n c e).1, Nat.lt_of_lt_of_le (h.2 a n c e).2 hK.size⟩⟩
theorem Lends.ints {d : Option SlotD} {w : World} {v : Value} {l : List Int} (h : Lends d w v l) : IntsIn w.heap.size w v l := h.1
theorem lends_own {d : Option SlotD} {w : World} {base : Nat} {v : Value} {l : List Int} (h : w.ownsRow base 3 1 v l.length (l.map (.int .i64))) (hl : l.length ≤ 1073741824) (ho : ∀ b, v.ownBlock = some b → offS d b) : Lends d w v l :=
  ⟨own_ints h hl, fun a n' c' e => by
    rcases h.2 with ⟨h1, _⟩ | ⟨g, c, cur, h1, h2, h3, _⟩
    · rw [h1] at e; cases e
    · have h4 := ho g (by rw [h1]; rfl)
      rw [h1] at e
      injection e with e1
      injection e1 with e1
      subst e1
      exact ⟨h4, heap_lt h3⟩⟩
theorem Lends.free {x : SlotD} {w : World} {v : Value} {l : List Int} (h : Lends (some x) w v l) : FreeOf x.s.tag v := fun a n c e => (h.2 a n c e).1.1

theorem slotPlace {d : Option SlotD} {w : World} (h : SlotAt d w) (v : Value) (t : List Int) (hs : IntsIn w.heap.size w v t) (hok : okT t) :
    Calls Try.prog 53 #[tV d, v] w fun e w' => e = .returned (placeV (placeD (tsS d) t)) ∧ Keep (fun k => k < w.heap.size) w w' := by
  cases d with
  | none => exact (relPlace_nil v w).mono fun e w' ⟨h1, h2⟩ => ⟨h1, by rw [h2]; exact Keep.refl _ _⟩
  | some x => exact relPlace_any (Both.rel h).own w.heap.size v t hs (Nat.le_refl _) hok
theorem slotRefPlace {d : Option SlotD} {w : World} (h : SlotAt d w) (v : Value) (t : List Int) (hs : IntsIn w.heap.size w v t) :
    Calls Try.prog 51 #[rV d, v] w fun e w' => e = .returned (placeV (placeD (tsS d) t)) ∧ Keep (fun k => k < w.heap.size) w w' := by
  have hf := h.few
  cases d with
  | none => exact (refPlace_nil v w).mono fun e w' ⟨h1, h2⟩ => ⟨h1, by rw [h2]; exact Keep.refl _ _⟩
  | some x => exact (refPlace_any ((Both.ref h).lists (by simp only [tsS] at hf; omega)) w.heap.size v t hs (Nat.le_refl _)).mono fun e w' ⟨h1, h2⟩ => ⟨h1, h2.mono fun _ _ _ => trivial⟩

/-- what stands at a place -/
def atD (ts : List (List Int)) (i : Int) : Option (List Int) := if i < 0 then none else ts[i.toNat]?
theorem atD_some {ts : List (List Int)} {i : Int} {t : List Int} (h : atD ts i = some t) : ∃ k : Nat, i = (k : Int) ∧ ts[k]? = some t := by
  unfold atD at h
  split at h
  · cases h
  · exact ⟨i.toNat, by omega, h⟩
theorem atD_none {ts : List (List Int)} {i : Int} (h : atD ts i = none) : i < 0 ∨ (ts.length : Int) ≤ i := by
  unfold atD at h
  split at h
  · left; assumption
  · right; have := List.getElem?_eq_none_iff.1 h; omega
theorem slotAt {d : Option SlotD} {w : World} (h : SlotAt d w) (i : Int) :
    Calls Try.prog 21 #[tV d, .int .i64 i] w fun e w' => ∃ v, e = .returned (.tuple #[v, .bool (atD (tsS d) i).isSome]) ∧ w'.ownsRow w.heap.size 3 1 v ((atD (tsS d) i).getD []).length (((atD (tsS d) i).getD []).map (.int .i64)) ∧ ((atD (tsS d) i).getD []).length ≤ 1073741824 ∧ Keep (fun _ => True) w w' := by
  cases d with
  | none =>
    have e0 : atD (tsS none) i = none := by unfold atD tsS; split <;> simp
    rw [e0]
    exact (relAt_nil i w).mono fun e w' ⟨h1, h2⟩ => ⟨_, h1, World.ownsRow_nil _ _ _ _, by simp, by rw [h2]; exact Keep.refl _ _⟩
  | some x =>
    cases e0 : atD (tsS (some x)) i with
    | none => exact (relAt_bad (Both.rel h) i (atD_none e0)).mono fun e w' ⟨h1, h2⟩ => ⟨_, h1, World.ownsRow_nil _ _ _ _, by simp, h2⟩
    | some t =>
      obtain ⟨k, rfl, hk⟩ := atD_some e0
      exact (relAt_any (Both.rel h) k t hk).mono fun e w' ⟨v, h1, h2, h3, h4⟩ => ⟨v, h1, h2, h3, h4⟩
theorem slotRefAt {d : Option SlotD} {w0 w : World} (h : SlotAt d w0) (hK : Keep (fun _ => True) w0 w) (i : Int) :
    Calls Try.prog 54 #[rV d, .int .i64 i] w fun e w' => ∃ v, e = .returned (.tuple #[v, .bool (atD (tsS d) i).isSome]) ∧ IntsIn w0.heap.size w v ((atD (tsS d) i).getD []) ∧ w' = w := by
  have hf := h.few
  have hnil : IntsIn w0.heap.size w (.slice none 0 0) [] := ints_wider (nil_ints w) (Nat.zero_le _)
  cases d with
  | none =>
    have e0 : atD (tsS none) i = none := by unfold atD tsS; split <;> simp
    rw [e0]
    exact (refAt_nil i w).mono fun e w' ⟨h1, h2⟩ => ⟨_, h1, hnil, h2⟩
  | some x =>
    have hl0 := (Both.ref h).lists (by simp only [tsS] at hf; omega)
    have hl : RefAt w x.Bf w0.heap.size x.n x.s.ts x.vL := hl0.keep (m := w0.heap.size) (hK.mono fun _ _ _ => trivial) (Nat.le_refl _) (heap_lt hl0.box)
    cases e0 : atD (tsS (some x)) i with
    | none => exact (refAt_bad hl i (atD_none e0)).mono fun e w' ⟨h1, h2⟩ => ⟨_, h1, hnil, h2⟩
    | some t =>
      obtain ⟨k, rfl, hk⟩ := atD_some e0
      exact (refAt_any hl k t hk).mono fun e w' ⟨v, h1, h2, h3⟩ => ⟨v, h1, h2, h3⟩

def cntS (d : Option SlotD) (cols key : List Int) (lo hi : Int) : Int × Int := match d with | none => (0, 1) | some x => countD x.n x.s.ts cols key lo hi
def dstS (d : Option SlotD) (cols : List Int) : Int × Int := match d with | none => (0, 1) | some x => distD x.n x.s.ts cols
def arS (d : Option SlotD) : Int := match d with | none => 0 | some x => (x.n : Int)
def plS (d : Option SlotD) (cols key : List Int) (lo hi : Int) : List Nat := match d with | none => [] | some x => matchD x.n x.s.ts cols key lo hi
theorem SlotOn.pl {d d' : Option SlotD} {m : Nat} (h : SlotOn d d' m) (ht : tsS d' = tsS d) (cols key : List Int) (lo hi : Int) : plS d' cols key lo hi = plS d cols key lo hi := by
  cases d with
  | none => cases d' with
    | none => rfl
    | some y => exact h.elim
  | some x => cases d' with
    | none => exact h.elim
    | some y => show matchD y.n y.s.ts _ _ _ _ = matchD x.n x.s.ts _ _ _ _; rw [h.2.1]; have : y.s.ts = x.s.ts := ht; rw [this]
theorem SlotOn.cnt {d d' : Option SlotD} {m : Nat} (h : SlotOn d d' m) (ht : tsS d' = tsS d) (cols key : List Int) (lo hi : Int) : cntS d' cols key lo hi = cntS d cols key lo hi := by
  cases d with
  | none => cases d' with
    | none => rfl
    | some y => exact h.elim
  | some x => cases d' with
    | none => exact h.elim
    | some y => show countD y.n y.s.ts _ _ _ _ = countD x.n x.s.ts _ _ _ _; rw [h.2.1]; have : y.s.ts = x.s.ts := ht; rw [this]
theorem SlotOn.dst {d d' : Option SlotD} {m : Nat} (h : SlotOn d d' m) (ht : tsS d' = tsS d) (cols : List Int) : dstS d' cols = dstS d cols := by
  cases d with
  | none => cases d' with
    | none => rfl
    | some y => exact h.elim
  | some x => cases d' with
    | none => exact h.elim
    | some y => show distD y.n y.s.ts _ = distD x.n x.s.ts _; rw [h.2.1]; have : y.s.ts = x.s.ts := ht; rw [this]
theorem slotCount {d : Option SlotD} {w : World} (h : SlotAt d w) (vc vk : Value) (cols key : List Int) (lo hi : Int) (hc : Lends d w vc cols) (hk : Lends d w vk key) (hok : okT key) :
    Calls Try.prog 23 #[tV d, vc, vk, .int .i64 lo, .int .i64 hi] w fun e w' => e = .returned (.tuple #[.int .i64 (cntS d cols key lo hi).1, .int .i64 (cntS d cols key lo hi).2]) ∧ ∃ d', SlotGo d w d' w' ∧ tsS d' = tsS d := by
  cases d with
  | none => exact (relCount_nil vc vk lo hi w).mono fun e w' ⟨h1, h2⟩ => ⟨h1, none, by rw [h2]; exact SlotGo.refl h, rfl⟩
  | some x => exact (relCount_any (Both.rel h) w.heap.size vc vk cols key lo hi hc.1 hk.1 (Nat.le_refl _) hok hc.free hk.free).mono fun e w' ⟨h1, s', h2, h3⟩ => ⟨h1, _, slot_same h h2 h3⟩
theorem slotRefCount {d : Option SlotD} {w : World} (h : SlotAt d w) (vc vk : Value) (cols key : List Int) (lo hi : Int) (hc : IntsIn w.heap.size w vc cols) (hk : IntsIn w.heap.size w vk key) :
    Calls Try.prog 55 #[rV d, vc, vk, .int .i64 lo, .int .i64 hi] w fun e w' => e = .returned (.tuple #[.int .i64 (cntS d cols key lo hi).1, .int .i64 (cntS d cols key lo hi).2]) ∧ Keep (fun k => k < w.heap.size) w w' := by
  have hf := h.few
  cases d with
  | none => exact (refCount_nil vc vk lo hi w).mono fun e w' ⟨h1, h2⟩ => ⟨h1, by rw [h2]; exact Keep.refl _ _⟩
  | some x => exact refCount_any ((Both.ref h).lists (by simp only [tsS] at hf; omega)) (Both.rel h).own.len w.heap.size vc vk cols key lo hi hc hk (Nat.le_refl _)
theorem slotDistinct {d : Option SlotD} {w : World} (h : SlotAt d w) (vc : Value) (cols : List Int) (hc : Lends d w vc cols) :
    Calls Try.prog 20 #[tV d, vc] w fun e w' => e = .returned (.tuple #[.int .i64 (dstS d cols).1, .int .i64 (dstS d cols).2]) ∧ ∃ d', SlotGo d w d' w' ∧ tsS d' = tsS d := by
  cases d with
  | none => exact (relDistinct_nil vc w).mono fun e w' ⟨h1, h2⟩ => ⟨h1, none, by rw [h2]; exact SlotGo.refl h, rfl⟩
  | some x => exact (relDistinct_any (Both.rel h) w.heap.size vc cols hc.1 (Nat.le_refl _)).mono fun e w' ⟨h1, s', h2, h3⟩ => ⟨h1, _, slot_same h h2 h3⟩
theorem slotRefDistinct {d : Option SlotD} {w : World} (h : SlotAt d w) (vc : Value) (cols : List Int) (hc : IntsIn w.heap.size w vc cols) :
    Calls Try.prog 47 #[rV d, vc] w fun e w' => e = .returned (.tuple #[.int .i64 (dstS d cols).1, .int .i64 (dstS d cols).2]) ∧ Keep (fun k => k < w.heap.size) w w' := by
  have hf := h.few
  cases d with
  | none => exact (refDistinct_nil vc w).mono fun e w' ⟨h1, h2⟩ => ⟨h1, by rw [h2]; exact Keep.refl _ _⟩
  | some x => exact refDistinct_any ((Both.ref h).lists (by simp only [tsS] at hf; omega)) (Both.rel h).own.len (Both.rel h).own.n16 w.heap.size vc cols hc (Nat.le_refl _)
theorem slotLen {d : Option SlotD} {w : World} (h : SlotAt d w) : Calls Try.prog 19 #[tV d] w fun e w' => e = .returned (.int .i64 ((tsS d).length : Int)) ∧ w' = w := by
  cases d with
  | none => exact relLen_nil w
  | some x => exact relLen_any (Both.rel h).own.box
theorem slotRefLen {d : Option SlotD} {w : World} (h : SlotAt d w) : Calls Try.prog 8 #[rV d] w fun e w' => e = .returned (.int .i64 ((tsS d).length : Int)) ∧ w' = w := by
  have hf := h.few
  cases d with
  | none => exact refLen_nil w
  | some x => exact refLen_any ((Both.ref h).lists (by simp only [tsS] at hf; omega))
theorem slotArity {d : Option SlotD} {w : World} (h : SlotAt d w) : Calls Try.prog 48 #[tV d] w fun e w' => e = .returned (.int .i64 (arS d)) ∧ w' = w := by
  cases d with
  | none => exact relArity_nil w
  | some x => exact relArity_any (Both.rel h).own.box
theorem slotRefArity {d : Option SlotD} {w : World} (h : SlotAt d w) : Calls Try.prog 49 #[rV d] w fun e w' => e = .returned (.int .i64 (arS d)) ∧ w' = w := by
  have hf := h.few
  cases d with
  | none => exact refArity_nil w
  | some x => exact refArity_any ((Both.ref h).lists (by simp only [tsS] at hf; omega))

/-- an iterator of the place -/
def SlotIt (d : Option SlotD) (gf : Nat) (lb : Array Value) (cols key : List Int) (lo hi : Int) (n0 : Nat) (X : World) : Prop := match d with
  | none => ∃ V U, ItN gf lb V U n0 X
  | some x => ∃ N A V U, ItP x.B x.n x.P x.K gf lb (fun ts => matchD x.n ts cols key lo hi) N A V U n0 X
theorem SlotIt.stay {d : Option SlotD} {gf : Nat} {lb : Array Value} {cols key : List Int} {lo hi : Int} {n0 : Nat} {X Y : World} {C : Nat → Prop} (h : SlotIt d gf lb cols key lo hi n0 X) (hK : Keep C X Y) (hC : ∀ b, n0 ≤ b → b < X.heap.size → C b) : SlotIt d gf lb cols key lo hi n0 Y := by
  cases d with
  | none =>
    obtain ⟨V, U, h⟩ := h
    exact ⟨V, U, h.keep hK hC⟩
  | some x =>
    obtain ⟨N, A, V, U, h⟩ := h
    exact ⟨N, A, V, U, h.keep hK hC⟩
theorem SlotIt.on {d d' : Option SlotD} {gf : Nat} {lb : Array Value} {cols key : List Int} {lo hi : Int} {n0 m : Nat} {X : World} (h : SlotIt d gf lb cols key lo hi n0 X) (g : SlotOn d d' m) : SlotIt d' gf lb cols key lo hi n0 X := by
  cases d with
  | none => cases d' with
    | none => exact h
    | some y => exact g.elim
  | some x => cases d' with
    | none => exact g.elim
    | some y =>
      obtain ⟨N, A, V, U, h⟩ := h
      refine ⟨N, A, V, U, ?_⟩
      rw [g.1, g.2.1, g.2.2.1, g.2.2.2.1]
      exact h
theorem slotAll {d : Option SlotD} {w : World} (lo hi : Int) : Calls Try.prog 12 #[tV d, .int .i64 lo, .int .i64 hi] w fun e w' =>
    ∃ gf lb, e = .returned (.func (.func gf) #[] lb) ∧ Keep (fun _ => True) w w' ∧ SlotIt d gf lb [] [] lo hi w.heap.size w' := by
  cases d with
  | none => exact (relAllN_it w lo hi).mono fun e w' ⟨gf, lb, V, U, h1, h2, h3⟩ => ⟨gf, lb, h1, h2, V, U, h3⟩
  | some x => exact (relAll_it w x.B x.n x.P x.K lo hi).mono fun e w' ⟨gf, lb, N, A, V, U, h1, h2, h3⟩ => ⟨gf, lb, h1, h2, N, A, V, U, h3⟩
theorem slotMatch {d : Option SlotD} {w : World} (vc vk : Value) (cols key : List Int) (lo hi : Int) (hc : IntsIn w.heap.size w vc cols) (hk : IntsIn w.heap.size w vk key) (hok : okT key) : Calls Try.prog 10 #[tV d, vc, vk, .int .i64 lo, .int .i64 hi] w fun e w' =>
    ∃ gf lb, e = .returned (.func (.func gf) #[] lb) ∧ Keep (fun _ => True) w w' ∧ SlotIt d gf lb cols key lo hi w.heap.size w' := by
  cases d with
  | none => exact (relMatchN_it w w.heap.size vc vk cols key lo hi hc hk (Nat.le_refl _)).mono fun e w' ⟨gf, lb, V, U, h1, h2, h3⟩ => ⟨gf, lb, h1, h2, V, U, h3⟩
  | some x => exact (relMatch_it w x.B x.n x.P x.K w.heap.size vc vk cols key lo hi hc hk (Nat.le_refl _) hok).mono fun e w' ⟨gf, lb, N, A, V, U, h1, h2, h3⟩ => ⟨gf, lb, h1, h2, N, A, V, U, h3⟩

/-- the document's places in memory -/
def PlaceV (d : Option SlotD) (base : Nat) (w : World) (v : Value) (pl : List Nat) : Prop := w.ownsRow base 3 1 v pl.length (pl.map natV) ∧ (d = none → v = .slice none 0 0)
theorem slotRefMatch {d : Option SlotD} {w : World} (h : SlotAt d w) (vc vk : Value) (cols key : List Int) (lo hi : Int) (hc : IntsIn w.heap.size w vc cols) (hk : IntsIn w.heap.size w vk key) :
    Calls Try.prog 9 #[rV d, vc, vk, .int .i64 lo, .int .i64 hi] w fun e w' => ∃ v, e = .returned v ∧ Keep (fun k => k < w.heap.size) w w' ∧ PlaceV d w.heap.size w' v (plS d cols key lo hi) := by
  have hf := h.few
  cases d with
  | none => exact (refMatch_nil vc vk lo hi w).mono fun e w' ⟨h1, h2⟩ => ⟨_, h1, by rw [h2]; exact Keep.refl _ _, World.ownsRow_nil _ _ _ _, fun _ => rfl⟩
  | some x => exact (refMatch_any ((Both.ref h).lists (by simp only [tsS] at hf; omega)) (Both.rel h).own.len w.heap.size vc vk cols key lo hi hc hk (Nat.le_refl _)).mono fun e w' ⟨v, h1, h2, h3⟩ => ⟨v, h1, h2, h3, fun h => by cases h⟩
theorem slotRefAll {d : Option SlotD} {w : World} (h : SlotAt d w) (lo hi : Int) :
    Calls Try.prog 29 #[rV d, .int .i64 lo, .int .i64 hi] w fun e w' => ∃ v, e = .returned v ∧ Keep (fun k => k < w.heap.size) w w' ∧ PlaceV d w.heap.size w' v (plS d [] [] lo hi) := by
  have hf := h.few
  cases d with
  | none => exact (refAll_nil lo hi w).mono fun e w' ⟨h1, h2⟩ => ⟨_, h1, by rw [h2]; exact Keep.refl _ _, World.ownsRow_nil _ _ _ _, fun _ => rfl⟩
  | some x => exact (refAll_any ((Both.ref h).lists (by simp only [tsS] at hf; omega)) (Both.rel h).own.len lo hi).mono fun e w' ⟨v, h1, h2, h3⟩ => ⟨v, h1, h2, h3, fun h => by cases h⟩
theorem slotGoes {d : Option SlotD} {w : World} (h : SlotAt d w) (leave : Int) {gf : Nat} {lb : Array Value} {cols key : List Int} {lo hi : Int} {n0 base : Nat} (hi' : SlotIt d gf lb cols key lo hi n0 w) (hn0 : ∀ b, n0 ≤ b → offS d b) (vp : Value) (hp : PlaceV d base w vp (plS d cols key lo hi)) (hpo : ∀ b, vp.ownBlock = some b → offS d b) :
    Calls Try.prog 15 #[.func (.func gf) #[] lb, rV d, vp, .int .i64 leave] w fun e w' => e = .returned (.bool true) ∧ ∃ d', SlotGo d w d' w' ∧ tsS d' = tsS d := by
  cases d with
  | none =>
    obtain ⟨V, U, hi'⟩ := hi'
    rw [hp.2 rfl]
    exact (goes_nil leave hi').mono fun e w' ⟨h1, h2⟩ => ⟨h1, none, ⟨trivial, trivial, h2.mono fun _ _ h => h.2⟩, rfl⟩
  | some x =>
    obtain ⟨N, A, V, U, hi'⟩ := hi'
    have hp1 := hp.1
    exact (goes_it leave h hi' (fun b hb => (hn0 b hb).1) (matchD_len _ _ _ _ _ _) vp ⟨hp1.1, hp1.2.imp id (fun ⟨g, cap, cur, e1, e2, e3⟩ => ⟨g, cap, cur, e1, Nat.zero_le _, e3⟩)⟩ (fun b hb => (hpo b hb).1)).mono
      fun e w' ⟨h1, s', h2, h3⟩ => ⟨h1, _, slot_same h h2 h3⟩
end Go.Proofs

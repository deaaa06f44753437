/- Append of one element to a slice whose block is known, whatever its capacity. No program is named here. -/
import Derived.Test.YtbaemcmagkmjiaaOwnB
namespace Go.Ink
open Go.RowKit
set_option linter.unusedVariables false
set_option linter.unusedSimpArgs false
variable {P : Program}

/-- a slice of n elements of one cell that may be written: nil, or at the head of a block -/
def LooseIn (w : World) (e : TypeId) (v : Value) (n : Nat) : Prop :=
  (v = .slice none 0 0 ∧ n = 0) ∨ ∃ (g c : Nat) (cur : Array Value), v = .slice (some ⟨g, 0, none⟩) n c ∧ w.heap[g]? = some (.cells cur e (0, 0)) ∧ n ≤ c ∧ c ≤ maxLen ∧ c ≤ cur.size
theorem LooseIn.keep {w w' : World} {e : TypeId} {v : Value} {n : Nat} {C : Nat → Prop} (h : LooseIn w e v n) (hK : Keep C w w') (hC : ∀ b, v.ownBlock = some b → C b) : LooseIn w' e v n := by
  rcases h with h | ⟨g, c, cur, rfl, h1, h2⟩
  · exact .inl h
  · exact .inr ⟨g, c, cur, rfl, hK.heap h1 (hC g rfl), h2⟩
theorem LooseIn.of_own {w : World} {base : Nat} {e : TypeId} {v : Value} {n : Nat} {xs : List Value} (h : w.ownsRow base e 1 v n xs) : LooseIn w e v n := by
  rcases h.2 with ⟨e1, e2⟩ | ⟨g, cap, cur, e1, e2, e3, e4, e5, e6, e7⟩
  · exact .inl ⟨e1, e2⟩
  · exact .inr ⟨g, cap, cur, e1, e3, e4, e5, by omega⟩
theorem LooseIn.lt {w : World} {e : TypeId} {v : Value} {n : Nat} (h : LooseIn w e v n) : ∀ b, v.ownBlock = some b → b < w.heap.size := by
  rcases h with ⟨rfl, _⟩ | ⟨g, c, cur, rfl, h1, h2⟩
  · intro b hb; simp [Value.ownBlock] at hb
  · intro b hb
    simp only [Value.ownBlock, Option.some.injEq] at hb
    subst hb
    exact heap_lt h1

theorem appL {t e : TypeId} {bytes : Nat} (hE : ElemOf P t e 1 bytes) (ty : TypeId) {w : World} {v : Value} {n : Nat} (hown : LooseIn w e v n)
    (a : Addr) (c : Nat) (u : Value) (hu : w.cell? a = some u) (hadd : a.add 0 = a) (h1 : u.oneCell' = true) (hnm : n + 1 ≤ 8589934592) :
    ∃ v' w', (Builtin.append_ #[t, t] ty #[v, .slice (some a) 1 c]).run P w = .ok v' w' ∧ LooseIn w' e v' (n + 1) ∧ (∀ b, v'.ownBlock = some b → v.ownBlock = some b ∨ w.heap.size ≤ b) ∧ Keep (fun b => v'.ownBlock ≠ some b) w w' := by
  obtain ⟨ht, hsz, hby, i, z, hi, hz, hsize, hbytes, hzs⟩ := hE
  subst hbytes
  have hb47 : (n + 1) * i.bytes ≤ 140737488355328 := Nat.le_trans (Nat.mul_le_mul hnm hby) (by decide)
  have h63 : n + 1 ≤ maxLen := by simp only [maxLen]; omega
  have hnews : ∀ j u', ([u] : List Value)[j]? = some u' → w.cell? (a.add j) = some u' := fun j u' hj => by
    cases j with
    | zero => simp at hj; subst hj; rw [hadd]; exact hu
    | succ j => simp at hj
  have hone : ∀ x ∈ ([u] : List Value), x.oneCell' = true := fun x hx => by simp at hx; subst hx; exact h1
  have grown : ∀ (old : Nat) (xs : List Value), xs.length = n → old < n + 1 →
      LooseIn (w.drew.alloc (.cells (xs.toArray ++ #[u] ++ Builtin.zeroCells z.cells (grownCap w (n + 1) old e - (n + 1))) e)) e (.slice (some ⟨w.heap.size, 0, none⟩) (n + 1) (grownCap w (n + 1) old e)) (n + 1) ∧
      Keep (fun _ => True) w (w.drew.alloc (.cells (xs.toArray ++ #[u] ++ Builtin.zeroCells z.cells (grownCap w (n + 1) old e - (n + 1))) e)) := by
    intro old xs hxs ho
    have hge := grownCap_ge w (n + 1) old e
    have hcm : grownCap w (n + 1) old e ≤ maxLen := grownCap_le_maxLen w (n + 1) old e h63
    refine ⟨.inr ⟨w.heap.size, _, _, rfl, World.alloc_heap_new w.drew _, hge, hcm, ?_⟩, (Keep.drew _ _).trans (Keep.alloc _ _ _)⟩
    simp only [Array.size_append, List.size_toArray, size_zeroCells, hzs, hsize, hxs]
    simp
    omega
  rcases hown with ⟨rfl, rfl⟩ | ⟨g, cap, cur, rfl, hg, hnc, hcm, hcs⟩
  · have hr := run_append_nil (P := P) w t ty e i z ht hi hz a 1 c [u] (by simp [hsize]) hnews (by omega) (by omega) (by have hb := hb47; simp only [Nat.zero_add] at hb; omega)
    have hgr := grown 0 [] rfl (by omega)
    simp only [Nat.zero_add, Array.empty_append] at hgr ⊢
    refine ⟨_, _, hr, hgr.1, fun b hb => ?_, hgr.2.mono fun _ _ _ => trivial⟩
    simp only [Value.ownBlock, Option.some.injEq] at hb
    exact .inr (by omega)
  · by_cases hroom : n + 1 ≤ cap
    · have hr := run_append_room (P := P) w t ty e i ht hi g n cap cur hg a 1 c [u] (by simp [hsize]) hnews hone hroom (by rw [hsize]; simp; omega)
      refine ⟨_, _, hr, .inr ⟨g, cap, _, rfl, setRow_heap w g cur _ e _ hg, hroom, hcm, ?_⟩, fun b hb => .inl hb, ⟨rfl, rfl, rfl, by simp, fun k _ hk => setRow_other w g k _ (fun e => hk (by simp [Value.ownBlock, e]))⟩⟩
      simp only [List.size_toArray, List.length_append, List.length_take, List.length_drop, Array.length_toList, hsize]
      simp
      omega
    · have hlen : (cur.toList.take n).length = n := by rw [List.length_take, Array.length_toList]; omega
      have holds : ∀ j u', (cur.toList.take n)[j]? = some u' → w.cell? ((⟨g, 0, none⟩ : Addr).add j) = some u' := fun j u' hj => by
        have hjn := (List.getElem?_eq_some_iff.1 hj).1
        rw [hlen] at hjn
        rw [List.getElem?_take_of_lt hjn] at hj
        have := cells_of_block hg j u' hj
        rw [Nat.zero_add] at this
        rw [show ((⟨g, 0, none⟩ : Addr).add j) = ⟨g, j, none⟩ from by unfold Addr.add; split <;> simp_all]
        exact this
      have hr := run_append_grow (P := P) w t ty e i z ht hi hz ⟨g, 0, none⟩ n cap (cur.toList.take n) (by rw [hlen, hsize, Nat.mul_one]) holds a 1 c [u] (by simp [hsize]) hnews (by omega) (by omega) (growslice_fits (by omega) hb47)
      have hgr := grown cap (cur.toList.take n) hlen (by omega)
      refine ⟨_, _, hr, hgr.1, fun b hb => ?_, hgr.2.mono fun _ _ _ => trivial⟩
      simp only [Value.ownBlock, Option.some.injEq] at hb
      exact .inr (by omega)
/-- a store into it -/
theorem LooseIn.set {w : World} {e : TypeId} {n c g : Nat} (h : LooseIn w e (.slice (some ⟨g, 0, none⟩) n c) n) (j : Nat) (u : Value) : LooseIn (w.setCell ⟨g, j, none⟩ u) e (.slice (some ⟨g, 0, none⟩) n c) n := by
  rcases h with ⟨h, _⟩ | ⟨g', c', cur, h0, h1, h2, h3, h4⟩
  · cases h
  · injection h0 with q1 q2 q3
    injection q1 with q1
    injection q1 with q1
    subst q1
    subst q3
    exact .inr ⟨_, _, _, rfl, set_at j u h1, h2, h3, by simpa using h4⟩
end Go.Ink

/- Layer 4, the program's relation: what Add does in memory (no walk). -/
import Derived.Test.YtbaemcmagkmjiaaProg
import Derived.Test.YtbaemcmagkmjiaaRelLToRelM
import Derived.Test.YtbaemcmagkmjiaaRelGToRelH
namespace Go.Proofs
open Go.RowKit Go.Ink
set_option linter.unusedVariables false
set_option linter.unusedSimpArgs false

theorem placesM_add (ts : List (List Int)) (t : List Int) : placesM (ts ++ [t]) = placesM ts ++ [(padK t, ts.length)] := by
  simp [placesM, List.zipIdx_append]
theorem placesM_at (ts : List (List Int)) (i : Nat) : (placesM ts)[i]? = (ts[i]?).map fun t => (padK t, i) := by
  simp only [placesM, List.getElem?_map, List.getElem?_zipIdx, Option.map_map, Nat.zero_add]
  cases ts[i]? <;> rfl
theorem placeD_some {ts : List (List Int)} {t : List Int} {i : Nat} (h : placeD ts t = some i) : ts[i]? = some t := by
  have := List.find?_some h
  simpa using this
theorem placeD_none {ts : List (List Int)} {t : List Int} (h : placeD ts t = none) : t ∉ ts := by
  intro hm
  obtain ⟨i, hi⟩ := List.mem_iff_getElem?.1 hm
  have := List.find?_eq_none.1 h i (by rw [List.mem_range]; exact (List.getElem?_eq_some_iff.1 hi).1)
  simp [hi] at this
theorem place_look {n : Nat} {ts : List (List Int)} {t : List Int} (hts : ∀ s ∈ ts, s.length = n) (ht : t.length = n) (hk : ((placesM ts).map (·.1)).Nodup) : lookK (placesM ts) (padK t) = placeD ts t := by
  cases h : placeD ts t with
  | some i =>
    have h1 := placeD_some h
    exact lookK_at hk (j := i) (p := (padK t, i)) (by rw [placesM_at, h1]; rfl)
  | none =>
    refine lookK_none fun hm => ?_
    obtain ⟨p, hp, he⟩ := List.mem_map.1 hm
    obtain ⟨i, hi⟩ := List.mem_iff_getElem?.1 hp
    rw [placesM_at] at hi
    cases hs : ts[i]? with
    | none => rw [hs] at hi; cases hi
    | some s =>
      rw [hs] at hi
      simp only [Option.map_some, Option.some.injEq] at hi
      subst hi
      have : s = t := pad_inj he ((hts s (List.mem_of_getElem? hs)).trans ht.symm)
      subst this
      exact placeD_none h (List.mem_of_getElem? hs)
theorem rightD_len {n : Nat} {t : List Int} (h : rightD n t = true) : t.length = n := by
  simp only [rightD, Bool.and_eq_true, decide_eq_true_eq] at h
  exact h.1

/-- whoever is not tagged stays out of tags old enough -/
def TagNew (tag tag' : Tags) (w : World) : Prop := ∀ b T, tag' b = some T → (∃ T', tag b = some T') ∨ w.heap.size ≤ b
theorem TagNew.refl (tag : Tags) (w : World) : TagNew tag tag w := fun b T h => .inl ⟨T, h⟩
theorem TagNew.trans {s t u : Tags} {w w' : World} (h : TagNew s t w) (g : TagNew t u w') (hz : w.heap.size ≤ w'.heap.size) : TagNew s u w := fun b T hb => by
  rcases g b T hb with ⟨T', h1⟩ | h1
  · exact h b T' h1
  · exact .inr (by omega)
theorem TagStep.newT {c : List Bool} {tag tag' : Tags} {w w' : World} (h : TagStep c tag tag' w w') : TagNew tag tag' w := fun b T hb => by
  rcases Nat.lt_or_ge b w.heap.size with hl | hl
  · cases hT : tag b with
    | some T' => exact .inl ⟨T', rfl⟩
    | none =>
      have := h.old b hl (by rw [hT]; exact fun e => (by cases e))
      rw [hb, hT] at this
      cases this
  · exact .inr hl

/-- a new tuple is in the map, the row and the count; the looks do not know it yet -/
theorem add_mid {tag : Tags} {w w1 w2 w3 w4 : World} {B n : Nat} {ts : List (List Int)} {vD vD' : Value} {P K : Nat} {lm : List (List Bool × Nat)} (h : RelOwn tag w B n ts vD P K lm) {t : List Int} (hr : rightD n t = true) (hok : okT t) (hno : placeD ts t = none)
    (hk0 : Keep (fun b => b < w.heap.size) w w1) (hm : PlaceMap w2 P (setK (placesM ts) (padK t) ts.length)) (hk1 : Keep (fun b => b ≠ P) w1 w2) (ho : w3.ownsRow 0 3 1 vD' (ts.flatten.length + t.length) (ts.flatten.map (.int .i64) ++ t.map (.int .i64)))
    (hg : ∀ g, vD'.ownBlock = some g → vD.ownBlock = some g ∨ w2.heap.size ≤ g) (hk2 : Keep (fun b => vD'.ownBlock ≠ some b) w2 w3) (hb : w4.heap[B]? = some (.cells (relCells n vD' (ts.length + 1) P K).toArray 79 (0, 0))) (hk3 : Keep (fun b => b ≠ B) w3 w4) :
    ∃ tag', RelG tag' w4 B n (ts ++ [t]) (fun _ => ts) vD' P K lm ∧ TagLe tag tag' ∧ TagNew tag tag' w ∧ Keep (fun b => tag b = none) w w4 ∧ (∀ b, vD'.ownBlock ≠ some b → tag' b = tag b) := by
  have hw : w.heap.size ≤ w1.heap.size := hk0.size
  have hz1 := hk1.size
  have hz2 := hk2.size
  have hz3 := hk3.size
  have hgt : ∀ g, vD'.ownBlock = some g → (tag g = some .data ∨ (tag g = none ∧ w2.heap.size ≤ g)) ∧ g < w3.heap.size := fun g hgg => by
    refine ⟨?_, (World.ownsRow.lt ho g hgg).2⟩
    rcases hg g hgg with h1 | h1
    · exact .inl (h.tagD g h1)
    · refine .inr ⟨?_, h1⟩
      cases hT : tag g with
      | none => rfl
      | some T => have := h.lt g T hT; omega
  have hKK : Keep (fun b => b < w.heap.size ∧ b ≠ P ∧ vD'.ownBlock ≠ some b ∧ b ≠ B) w w4 := (hk0.mono fun b _ h => h.1).trans ((hk1.mono fun b _ h => h.2.1).trans ((hk2.mono fun b _ h => h.2.2.1).trans (hk3.mono fun b _ h => h.2.2.2)))
  have hne : ∀ b T, tag b = some T → T ≠ .data → vD'.ownBlock ≠ some b := fun b T hb hT e => by
    rcases (hgt b e).1 with h1 | ⟨h1, _⟩
    · rw [hb] at h1; cases h1; exact hT rfl
    · rw [hb] at h1; cases h1
  have hside : ∀ b T, tag b = some T → T ≠ .data → T ≠ .pmap → T ≠ .box → b < w.heap.size ∧ b ≠ P ∧ vD'.ownBlock ≠ some b ∧ b ≠ B := fun b T hb h1 h2 h3 =>
    ⟨h.lt b T hb, fun e => h2 (by rw [e, h.tagP] at hb; cases hb; rfl), hne b T hb h1, fun e => h3 (by rw [e, h.tagB] at hb; cases hb; rfl)⟩
  have htag : ∀ b, vD'.ownBlock ≠ some b → (fun b => if vD'.ownBlock = some b then some Tag.data else tag b) b = tag b := fun b hb => if_neg hb
  refine ⟨fun b => if vD'.ownBlock = some b then some .data else tag b, ?_, ?_, ?_, ?_, htag⟩
  · refine ⟨(htag B (hne B _ h.tagB (fun e => (by cases e)))).trans h.tagB, ?_, h.n16, ?_, ?_, ?_, ?_, ?_, (htag P (hne P _ h.tagP (fun e => (by cases e)))).trans h.tagP, ?_, (htag K (hne K _ h.tagK (fun e => (by cases e)))).trans h.tagK, ?_, ?_, ?_, ?_⟩
    · rw [List.length_append, List.length_singleton]; exact hb
    · rw [List.nodup_append]
      exact ⟨h.nodup, by simp, fun a ha b hb e => placeD_none hno (by simp at hb; subst hb; rw [← e]; exact ha)⟩
    · intro s hs
      rcases List.mem_append.1 hs with hs | hs
      · exact h.right s hs
      · simp at hs; subst hs; exact hr
    · intro s hs
      rcases List.mem_append.1 hs with hs | hs
      · exact h.ok s hs
      · simp at hs; subst hs; exact hok
    · have := own_kept ho hk3 (fun b hbo e => by rw [e] at hbo; exact hne B _ h.tagB (fun e => (by cases e)) hbo)
      simpa using this
    · intro b hb
      exact if_pos hb
    · have hkeys : padK t ∉ (placesM ts).map (·.1) := fun hm2 => by
        obtain ⟨p, hp, he⟩ := List.mem_map.1 hm2
        obtain ⟨i, hi⟩ := List.mem_iff_getElem?.1 hp
        rw [placesM_at] at hi
        cases hs : ts[i]? with
        | none => rw [hs] at hi; cases hi
        | some s =>
          rw [hs] at hi
          simp only [Option.map_some, Option.some.injEq] at hi
          subst hi
          have : s = t := pad_inj he ((h.len s (List.mem_of_getElem? hs)).trans (rightD_len hr).symm)
          subst this
          exact placeD_none hno (List.mem_of_getElem? hs)
      have hset : setK (placesM ts) (padK t) ts.length = placesM (ts ++ [t]) := by
        rw [placesM_add]
        unfold setK
        rw [if_neg hkeys]
      rw [← hset]
      exact (hm.keep hk2 (hne P _ h.tagP (fun e => (by cases e)))).keep hk3 (fun e => by have := h.tagP; rw [e, h.tagB] at this; cases this)
    · exact h.kmap.keep hKK (hside K _ h.tagK (fun e => (by cases e)) (fun e => (by cases e)) (fun e => (by cases e)))
    · intro c L hcl
      obtain ⟨l, vl, M, m, hl⟩ := h.looks c L hcl
      refine ⟨l, vl, M, m, hl.keep hKK (fun b hb => ?_) (fun b hb => ?_) (fun b hb => ?_)⟩
      · cases hT : tag b with
        | none => rw [hT] at hb; cases hb
        | some T =>
          rw [hT] at hb
          exact hside b T hT (fun e => by subst e; cases hb) (fun e => by subst e; cases hb) (fun e => by subst e; cases hb)
      · refine htag b fun e => ?_
        rcases (hgt b e).1 with h1 | ⟨h1, _⟩ <;> (rw [h1] at hb; cases hb)
      · by_cases e : vD'.ownBlock = some b
        · simp only [if_pos e] at hb
          cases hb
        · exact if_neg e
    · intro b c hb
      by_cases e : vD'.ownBlock = some b
      · simp only [if_pos e] at hb
        cases hb
      · simp only [if_neg e] at hb
        exact h.ents b c hb
    · intro b T hb
      by_cases e : vD'.ownBlock = some b
      · have := (hgt b e).2; omega
      · simp only [if_neg e] at hb
        have := h.lt b T hb; omega
  · intro b T hb
    by_cases e : vD'.ownBlock = some b
    · rcases (hgt b e).1 with h1 | ⟨h1, _⟩
      · rw [hb] at h1; cases h1
        exact .inl (if_pos e)
      · rw [hb] at h1; cases h1
    · exact .inl (by rw [← hb]; exact if_neg e)
  · intro b T hb
    by_cases e : vD'.ownBlock = some b
    · rcases (hgt b e).1 with h1 | ⟨_, h1⟩
      · exact .inl ⟨_, h1⟩
      · exact .inr (by omega)
    · simp only [if_neg e] at hb
      exact .inl ⟨T, hb⟩
  · refine ⟨hKK.os, hKK.tape, hKK.output, hKK.size, fun b hb hC => hKK.block b hb ⟨hb, fun e => ?_, fun e => ?_, fun e => ?_⟩⟩
    · rw [e, h.tagP] at hC; cases hC
    · rcases (hgt b e).1 with h1 | ⟨_, h1⟩
      · rw [h1] at hC; cases hC
      · omega
    · rw [e, h.tagB] at hC; cases hC

theorem RelG.to {tag : Tags} {w : World} {B n : Nat} {ts : List (List Int)} {tsl tsl' : List Bool → List (List Int)} {vD : Value} {P K : Nat} {lm : List (List Bool × Nat)} (h : RelG tag w B n ts tsl vD P K lm) (ht : ∀ c L, (c, L) ∈ lm → tsl c = tsl' c) : RelG tag w B n ts tsl' vD P K lm :=
  { h with looks := fun c L hcl => by rw [← ht c L hcl]; exact h.looks c L hcl }

theorem rowD_ge {n : Nat} {l : List Int} (h : rowD n l = true) : ∀ i, i < l.length → (i : Int) ≤ l.getD i 0
  | 0, hi => by
    have := List.all_eq_true.1 h 0 (by simpa using hi)
    simp only [okAt, Bool.and_eq_true, decide_eq_true_eq] at this
    exact this.1.1
  | i + 1, hi => by
    have := List.all_eq_true.1 h (i + 1) (by simpa using hi)
    simp only [okAt, Bool.and_eq_true, decide_eq_true_eq, Bool.or_eq_true, beq_iff_eq] at this
    have h1 := rowD_ge h i (by omega)
    rcases this.2 with h2 | h2
    · omega
    · have h3 : i + 1 - 1 = i := by omega
      rw [h3] at h2
      push_cast
      omega
theorem rowD_len {n : Nat} {l : List Int} (h : rowD n l = true) : l.length ≤ n := by
  rcases Nat.eq_zero_or_pos l.length with h0 | h0
  · omega
  · have h1 := rowD_ge h (l.length - 1) (by omega)
    have := List.all_eq_true.1 h (l.length - 1) (by simp; omega)
    simp only [okAt, Bool.and_eq_true, decide_eq_true_eq] at this
    omega

/-- one look more knows the tuple -/
theorem add_look {tag tag' : Tags} {w w' : World} {B n : Nat} {ts : List (List Int)} {tsl tsl' : List Bool → List (List Int)} {vD : Value} {P K : Nat} {lm : List (List Bool × Nat)} (h : RelG tag w B n ts tsl vD P K lm) {c : List Bool} {L : Nat} (hc : (c, L) ∈ lm) (ht1 : tsl' c = ts) (ht2 : ∀ c', c' ≠ c → tsl' c' = tsl c')
    {l : List Int} {vl : Value} {M : Nat} {m : List (List Int × Value)} (hl : LookAt tag' w' n ts c L l vl M m) (hs : TagStep c tag tag' w w') (hk : Keep (fun b => lookT (tag b) ≠ some c) w w') : RelG tag' w' B n ts tsl' vD P K lm := by
  have hold : ∀ b T, tag b = some T → lookT (some T) ≠ some c → tag' b = some T := fun b T hb hT => (hs.old b (h.lt b T hb) (by rw [hb]; exact hT)).trans hb
  have hk2 : ∀ b T, tag b = some T → lookT (some T) ≠ some c → lookT (tag b) ≠ some c := fun b T hb hT => by rw [hb]; exact hT
  obtain ⟨es0, c0, q1, q2, q3, q4, q5⟩ := id h.kmap
  have huniq : ∀ L', (c, L') ∈ lm → L' = L := fun L' hL' => by
    obtain ⟨i, hi⟩ := List.mem_iff_getElem?.1 hc
    obtain ⟨j, hj⟩ := List.mem_iff_getElem?.1 hL'
    have e1 : (lm.map (·.1))[i]? = some c := by rw [List.getElem?_map, hi]; rfl
    have e2 : (lm.map (·.1))[j]? = some c := by rw [List.getElem?_map, hj]; rfl
    have := (List.getElem?_inj (List.getElem?_eq_some_iff.1 e1).1 q3).1 (e1.trans e2.symm)
    subst this
    rw [hi] at hj
    cases hj
    rfl
  refine ⟨hold B _ h.tagB (fun e => (by cases e)), hk.heap h.box (hk2 B _ h.tagB (fun e => (by cases e))), h.n16, h.nodup, h.right, h.ok, own_kept h.own hk (fun b hb => hk2 b _ (h.tagD b hb) (fun e => (by cases e))), fun b hb => hold b _ (h.tagD b hb) (fun e => (by cases e)), hold P _ h.tagP (fun e => (by cases e)), h.pmap.keep hk (hk2 P _ h.tagP (fun e => (by cases e))), hold K _ h.tagK (fun e => (by cases e)), h.kmap.keep hk (hk2 K _ h.tagK (fun e => (by cases e))), ?_, ?_, fun b T hb => (hs.new b T hb).1⟩
  · intro c' L' hcl
    by_cases he : c' = c
    · subst he
      rw [huniq L' hcl, ht1]
      exact ⟨_, _, _, _, hl⟩
    · rw [ht2 c' he]
      obtain ⟨l', vl', M', m', hl'⟩ := h.looks c' L' hcl
      refine ⟨l', vl', M', m', hl'.keep hk (fun b hb => by rw [hb]; exact fun e => he (by injection e)) (fun b hb => ?_) (fun b hb => ?_)⟩
      · cases hT : tag b with
        | none => rw [hT] at hb; cases hb
        | some T => exact hold b T hT (by rw [← hT, hb]; exact fun e => he (by injection e))
      · cases hT : tag b with
        | none =>
          cases hT' : tag' b with
          | none => rfl
          | some T' =>
            rcases Nat.lt_or_ge b w.heap.size with hlt | hge
            · have := hs.old b hlt (by rw [hT]; exact fun e => (by cases e))
              rw [hT', hT] at this; cases this
            · have := (hs.new b T' hT').2 hge
              rw [← hT', hb] at this
              exact absurd (by injection this) he
        | some T =>
          by_cases hTc : lookT (some T) = some c
          · rcases hs.le b T hT with h1 | ⟨c2, k2, p2, p3, rfl, h1, _⟩
            · rw [h1, hTc] at hb
              exact absurd (by injection hb with hb; exact hb.symm) he
            · rw [h1] at hb
              have e1 : c2 = c := by simpa [lookT] using hTc
              have e2 : c2 = c' := by simpa [lookT] using hb
              exact absurd (e2.symm.trans e1) he
          · exact (hold b T hT hTc)
  · intro b c' hb
    rcases hs.ents b c' hb with h1 | h1
    · exact h.ents b c' h1
    · subst h1; exact ⟨L, hc⟩
end Go.Proofs

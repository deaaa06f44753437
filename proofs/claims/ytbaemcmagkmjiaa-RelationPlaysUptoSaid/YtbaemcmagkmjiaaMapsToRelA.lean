/- Maps with keys of any type that Go compares by parts: look up, store. No program is named here. -/
import Derived.WalkKit
import Derived.DeepKeys4
import Derived.WideKeyMaps
import Derived.Maps.RangeWalk
import Derived.Test.YtbaemcmagkmjiaaData
import Derived.Test.YtbaemcmagkmjiaaProg
import Derived.Test.YtbaemcmagkmjiaaOwnToRowC
import Derived.Deep.QuietTactic
import Derived.BigQuiet
import Derived.Laws.StructEq
namespace Go.Ink
open Go.RowKit Go.WideMaps
set_option linter.unusedVariables false
set_option linter.unusedSimpArgs false

section
variable {κ ν : Type}
def lookK [DecidableEq κ] (m : List (κ × ν)) (k : κ) : Option ν := (m.find? fun p => decide (p.1 = k)).map (·.2)
def setK [DecidableEq κ] (m : List (κ × ν)) (k : κ) (v : ν) : List (κ × ν) := if k ∈ m.map (·.1) then m.map fun p => if p.1 = k then (k, v) else p else m ++ [(k, v)]

theorem lookK_none [DecidableEq κ] {m : List (κ × ν)} {k : κ} (h : k ∉ m.map (·.1)) : lookK m k = none := by
  unfold lookK
  rw [List.find?_eq_none.2]
  · rfl
  · intro p hp
    simp only [decide_eq_true_eq]
    exact fun e => h (e ▸ List.mem_map.2 ⟨p, hp, rfl⟩)
theorem lookK_at [DecidableEq κ] {m : List (κ × ν)} (hn : (m.map (·.1)).Nodup) {j : Nat} {p : κ × ν} (h : m[j]? = some p) : lookK m p.1 = some p.2 := by
  induction m generalizing j with
  | nil => simp at h
  | cons q m ih =>
    rw [List.map_cons, List.nodup_cons] at hn
    cases j with
    | zero =>
      simp at h
      subst h
      simp [lookK]
    | succ j =>
      simp only [List.getElem?_cons_succ] at h
      have hne : q.1 ≠ p.1 := fun e => hn.1 (e ▸ List.mem_map.2 ⟨p, List.mem_of_getElem? h, rfl⟩)
      have := ih hn.2 h
      unfold lookK at this ⊢
      rw [List.find?_cons]
      simp only [hne, decide_false]
      exact this
theorem setK_keys [DecidableEq κ] {m : List (κ × ν)} {k : κ} {v : ν} (h : k ∈ m.map (·.1)) : (setK m k v).map (·.1) = m.map (·.1) := by
  unfold setK
  rw [if_pos h, List.map_map]
  refine List.map_congr_left fun p _ => ?_
  simp only [Function.comp]
  split
  · rename_i e; exact e.symm
  · rfl
theorem setK_nodup [DecidableEq κ] {m : List (κ × ν)} (hn : (m.map (·.1)).Nodup) (k : κ) (v : ν) : ((setK m k v).map (·.1)).Nodup := by
  by_cases h : k ∈ m.map (·.1)
  · rw [setK_keys h]; exact hn
  · unfold setK
    rw [if_neg h, List.map_append, List.nodup_append]
    exact ⟨hn, by simp, fun a ha b hb e => h (by simp at hb; subst hb; rw [← e]; exact ha)⟩

/-- block b is a map that holds just these -/
def MapIn (P : Program) (K : TypeId) (ek : κ → Value) (ev : ν → Value) (w : World) (b : Nat) (m : List (κ × ν)) : Prop :=
  ∃ es clock, w.heap[b]? = some (.map es clock) ∧ es.toList.map (fun e => (e.key, e.val)) = m.map (fun p => (ek p.1, ev p.2)) ∧ (m.map (·.1)).Nodup ∧ (∀ p, p ∈ m → ∃ l, keyOf P K (ek p.1) = some l) ∧ (∀ e ∈ es.toList, e.born < clock) ∧ (es.toList.map (·.born)).Nodup
variable {P : Program} {T K E : TypeId} {ek : κ → Value} {ev : ν → Value}
theorem MapIn.keep {w w' : World} {b : Nat} {m : List (κ × ν)} {C : Nat → Prop} (h : MapIn P K ek ev w b m) (hK : Keep C w w') (hC : C b) : MapIn P K ek ev w' b m := by
  obtain ⟨es, c, h1, h2⟩ := h
  exact ⟨es, c, hK.heap h1 hC, h2⟩
theorem mapIn_new (w : World) : MapIn P K ek ev (w.alloc (.map #[] 0)) w.heap.size ([] : List (κ × ν)) := ⟨#[], 0, new_block w _, rfl, by simp, by simp, by simp, by simp⟩
theorem MapIn.lt {w : World} {b : Nat} {m : List (κ × ν)} (h : MapIn P K ek ev w b m) : b < w.heap.size := by
  obtain ⟨es, c, h1, h2⟩ := h
  exact heap_lt h1

theorem map_find {w : World} {m : List (κ × ν)} {es : Array MapEntry} (law : KeyLaw P K) (hinj : ∀ a b, ek a = ek b → a = b) (h2 : es.toList.map (fun e => (e.key, e.val)) = m.map (fun p => (ek p.1, ev p.2))) (hn : (m.map (·.1)).Nodup) (hok : ∀ p, p ∈ m → ∃ l, keyOf P K (ek p.1) = some l)
    (k : κ) (hk : ∃ l, keyOf P K (ek k) = some l) :
    ((Instr.findKey K (ek k) es.toList).run P w = .ok none w ∧ k ∉ m.map (·.1)) ∨ ∃ (j : Nat) (v : ν) (e : MapEntry), (Instr.findKey K (ek k) es.toList).run P w = .ok (some (j, ev v)) w ∧ es[j]? = some e ∧ e.key = ek k ∧ m[j]? = some (k, v) := by
  obtain ⟨l, hl⟩ := hk
  have hat : ∀ j : Nat, (es.toList[j]?).map (fun e => (e.key, e.val)) = (m[j]?).map (fun p => (ek p.1, ev p.2)) := fun j => by
    have := congrArg (fun l => l[j]?) h2
    simpa only [List.getElem?_map] using this
  have hes : ∀ e, e ∈ es.toList → ∃ l, keyOf P K e.key = some l := fun e he => by
    obtain ⟨j, hj⟩ := List.mem_iff_getElem?.1 he
    have h := hat j
    rw [hj] at h
    cases hm : m[j]? with
    | none => simp [hm] at h
    | some p =>
      rw [hm] at h
      simp at h
      rw [h.1]
      exact hok p (List.mem_of_getElem? hm)
  rcases law.find w hl es.toList hes with ⟨h1, h3⟩ | ⟨j, e, h1, h3, h4⟩
  · refine .inl ⟨h1, fun hmem => ?_⟩
    obtain ⟨p, hp, rfl⟩ := List.mem_map.1 hmem
    obtain ⟨j, hj⟩ := List.mem_iff_getElem?.1 hp
    have h := hat j
    rw [hj] at h
    cases he : es.toList[j]? with
    | none => simp [he] at h
    | some e =>
      rw [he] at h
      simp at h
      exact h3 e (List.mem_of_getElem? he) h.1
  · have h := hat j
    rw [h3] at h
    cases hm : m[j]? with
    | none => simp [hm] at h
    | some p =>
      rw [hm] at h
      simp at h
      have hpk : p.1 = k := hinj _ _ (by rw [← h.1, h4])
      refine .inr ⟨j, p.2, e, by rw [h1, h.2], by simpa using h3, h4, ?_⟩
      rw [hm, ← hpk]

theorem run_lookK [DecidableEq κ] (hT : P.underlying T = some (.map K E)) (law : KeyLaw P K) (hinj : ∀ a b, ek a = ek b → a = b) {z : Value} (hz : ∀ w, (zeroValue E).run P w = .ok z w) {w : World} {b : Nat} {m : List (κ × ν)} (h : MapIn P K ek ev w b m) (k : κ) (hk : ∃ l, keyOf P K (ek k) = some l) (ok : Bool) :
    (Instr.lookup T (.map (some b)) (ek k) ok).run P w = .ok (match lookK m k with
      | some v => if ok then .tuple #[ev v, .bool true] else ev v
      | none => if ok then .tuple #[z, .bool false] else z) w := by
  obtain ⟨es, c, h1, h2, hn, hok, hbc, hbn⟩ := h
  have hg : (getObj b).run P w = .ok (.map es c) w := by simp [getObj, Sem.run, h1]
  obtain ⟨l, hl⟩ := hk
  have hc := law.check w es.isEmpty hl
  rcases map_find (w := w) law hinj h2 hn hok k ⟨l, hl⟩ with ⟨hf, hno⟩ | ⟨j, v, e, hf, _, _, hj⟩
  · rw [lookK_none hno]
    cases ok <;> simp [Instr.lookup, Sem.run_bind, run_underlying hT, Result.andThen, hg, hc, hf, hz]
  · have := lookK_at hn hj
    simp only at this
    rw [this]
    cases ok <;> simp [Instr.lookup, Sem.run_bind, run_underlying hT, Result.andThen, hg, hc, hf]

theorem run_setK [DecidableEq κ] (hT : P.underlying T = some (.map K E)) (law : KeyLaw P K) (hinj : ∀ a b, ek a = ek b → a = b) {w : World} {b : Nat} {m : List (κ × ν)} (h : MapIn P K ek ev w b m) (k : κ) (hk : ∃ l, keyOf P K (ek k) = some l) (v : ν) :
    ∃ w', (Instr.mapUpdate T (.map (some b)) (ek k) (ev v)).run P w = .ok () w' ∧ MapIn P K ek ev w' b (setK m k v) ∧ Keep (fun j => j ≠ b) w w' ∧ w'.heap.size = w.heap.size := by
  obtain ⟨es, c, h1, h2, hn, hok, hbc, hbn⟩ := h
  have hg : (getObj b).run P w = .ok (.map es c) w := by simp [getObj, Sem.run, h1]
  have hset : ∀ o, (setObj b o).run P w = .ok () (w.putObj b o) := by intro o; simp [setObj, Sem.run, h1, World.putObj]
  have hk' := hk
  obtain ⟨l, hl⟩ := hk
  have hc := fun em => law.check w em hl
  rcases map_find (w := w) law hinj h2 hn hok k ⟨l, hl⟩ with ⟨hf, hno⟩ | ⟨j, v0, e, hf, he, hek, hj⟩
  · refine ⟨w.putObj b (.map (es.push { key := ek k, val := ev v, born := c }) (c + 1)), ?_, ?_, Keep.putObj _ _ _ (by simp), by simp⟩
    · simp [Instr.mapUpdate, Sem.run_bind, run_underlying hT, Result.andThen, hg, hc, hf, hset]
    · refine ⟨_, _, World.putObj_heap_same (heap_lt h1), ?_, setK_nodup hn k v, ?_, ?_, ?_⟩
      · unfold setK
        rw [if_neg hno]
        simp [h2]
      rotate_left
      · intro e he
        simp only [Array.toList_push, List.mem_append, List.mem_singleton] at he
        rcases he with he | rfl
        · have := hbc e he; omega
        · simp
      · simp only [Array.toList_push, List.map_append, List.map_cons, List.map_nil, List.nodup_append]
        refine ⟨hbn, by simp, fun a ha b hb e => ?_⟩
        obtain ⟨x, hx, rfl⟩ := List.mem_map.1 ha
        simp only [List.mem_singleton] at hb
        have := hbc x hx; omega
      · unfold setK
        rw [if_neg hno]
        intro p hp
        rcases List.mem_append.1 hp with hp | hp
        · exact hok p hp
        · simp at hp; subst hp; exact hk'
  · have hmem : k ∈ m.map (·.1) := List.mem_map.2 ⟨_, List.mem_of_getElem? hj, rfl⟩
    have hkey : (es[j]?).map (·.key) = some (ek k) := by rw [he]; simp [hek]
    have hsame := law.stays w hl
    refine ⟨w.putObj b (.map (es.modify j fun e => { e with key := ek k, val := ev v }) c), ?_, ?_, Keep.putObj _ _ _ (by simp), by simp⟩
    · simp [Instr.mapUpdate, Sem.run_bind, run_underlying hT, Result.andThen, hg, hc, hf, hset, hkey, hsame]
    · have hbm : ∀ i : Nat, ((es.modify j fun e => { e with key := ek k, val := ev v }).toList[i]?).map (·.born) = (es.toList[i]?).map (·.born) := by
        intro i
        simp only [Array.getElem?_toList, Array.getElem?_modify]
        by_cases hi : j = i
        · subst hi; rw [he]; simp
        · simp [hi]
      have hbm2 : (es.modify j fun e => { e with key := ek k, val := ev v }).toList.map (·.born) = es.toList.map (·.born) := List.ext_getElem? fun i => by
        rw [List.getElem?_map, List.getElem?_map]; exact hbm i
      refine ⟨_, _, World.putObj_heap_same (heap_lt h1), ?_, setK_nodup hn k v, ?_, ?_, by rw [hbm2]; exact hbn⟩
      rotate_right
      · intro x hx
        have : x.born ∈ (es.modify j fun e => { e with key := ek k, val := ev v }).toList.map (·.born) := List.mem_map.2 ⟨x, hx, rfl⟩
        rw [hbm2] at this
        obtain ⟨y, hy, hye⟩ := List.mem_map.1 this
        rw [← hye]; exact hbc y hy
      · unfold setK
        rw [if_pos hmem]
        apply List.ext_getElem?
        intro i
        have hi2 := congrArg (fun l => l[i]?) h2
        simp only [List.getElem?_map] at hi2
        simp only [List.getElem?_map, Array.getElem?_toList, Array.getElem?_modify] at hi2 ⊢
        by_cases hi : j = i
        · subst hi
          rw [hj, he]
          simp
        · simp only [hi, if_false]
          rw [hi2]
          cases hm : m[i]? with
          | none => rfl
          | some q =>
            have hq : q.1 ≠ k := fun e => by
              have h3 : (m.map (·.1))[i]? = some k := by rw [List.getElem?_map, hm]; simp [e]
              have h4 : (m.map (·.1))[j]? = some k := by rw [List.getElem?_map, hj]; rfl
              exact hi ((List.getElem?_inj (List.getElem?_eq_some_iff.1 h4).1 hn).1 (h4.trans h3.symm))
            simp [hq]
      · intro p hp
        have : p.1 ∈ (setK m k v).map (·.1) := List.mem_map.2 ⟨p, hp, rfl⟩
        rw [setK_keys hmem] at this
        obtain ⟨q, hq, hqe⟩ := List.mem_map.1 this
        rw [← hqe]
        exact hok q hq

/-- a range over block b under way, its iterator in block r: who is still to come, how many -/
def MapRange (P : Program) (K : TypeId) (ek : κ → Value) (ev : ν → Value) (w : World) (b r : Nat) (m : List (κ × ν)) (left : κ → Bool) (cnt : Nat) : Prop :=
  ∃ es clock since seen c0, w.heap[b]? = some (.map es clock) ∧ es.toList.map (fun e => (e.key, e.val)) = m.map (fun p => (ek p.1, ev p.2)) ∧ (m.map (·.1)).Nodup ∧ (∀ p, p ∈ m → ∃ l, keyOf P K (ek p.1) = some l) ∧ (∀ e ∈ es.toList, e.born < clock) ∧ (es.toList.map (·.born)).Nodup ∧
    w.heap[r]? = some (.mapIter (some b) since seen c0) ∧ (∀ e ∈ es.toList, e.born < since) ∧ since ≤ c0 ∧ since ≤ clock ∧ (leftOf es seen).size = cnt ∧ ∀ (j : Nat) e p, es.toList[j]? = some e → m[j]? = some p → left p.1 = !seen.contains e.born
theorem MapRange.keep {w w' : World} {b r cnt : Nat} {m : List (κ × ν)} {left : κ → Bool} {C : Nat → Prop} (h : MapRange P K ek ev w b r m left cnt) (hK : Keep C w w') (hC : C b) (hr : C r) : MapRange P K ek ev w' b r m left cnt := by
  obtain ⟨es, c, s, sn, c0, h1, h2, h3, h4, h5, h6, h7, h8⟩ := h
  exact ⟨es, c, s, sn, c0, hK.heap h1 hC, h2, h3, h4, h5, h6, hK.heap h7 hr, h8⟩
theorem MapRange.map {w : World} {b r cnt : Nat} {m : List (κ × ν)} {left : κ → Bool} (h : MapRange P K ek ev w b r m left cnt) : MapIn P K ek ev w b m := by
  obtain ⟨es, c, s, sn, c0, h1, h2, h3, h4, h5, h6, h7, h8⟩ := h
  exact ⟨es, c, h1, h2, h3, h4, h5, h6⟩
theorem MapRange.lt {w : World} {b r cnt : Nat} {m : List (κ × ν)} {left : κ → Bool} (h : MapRange P K ek ev w b r m left cnt) : r < w.heap.size := by
  obtain ⟨es, c, s, sn, c0, h1, h2, h3, h4, h5, h6, h7, h8⟩ := h
  exact heap_lt h7
theorem run_range {w : World} {b : Nat} {m : List (κ × ν)} (hT : P.underlying T = some (.map K E)) (h : MapIn P K ek ev w b m) :
    ∃ w', (Instr.range T (.map (some b))).run P w = .ok (.pointer (some ⟨w.heap.size, 0, none⟩)) w' ∧ MapRange P K ek ev w' b w.heap.size m (fun _ => true) m.length ∧ Keep (fun _ => True) w w' ∧ w'.heap.size = w.heap.size + 1 := by
  obtain ⟨es, c, h1, h2, h3, h4, h5, h6⟩ := h
  refine ⟨_, run_range_map w T K E b es c hT h1, ⟨es, c, c, #[], c, old_block h1 _, h2, h3, h4, h5, h6, new_block _ _, h5, Nat.le_refl _, Nat.le_refl _, ?_, ?_⟩, Keep.alloc _ _ _, by simp⟩
  · have := congrArg List.length h2
    simp at this
    rw [← this]
    simp [leftOf]
  · intro j e p _ _; simp
theorem run_next {w : World} {b r cnt : Nat} {m : List (κ × ν)} {left : κ → Bool} [DecidableEq κ] (ty : TypeId) (h : MapRange P K ek ev w b r m left cnt) :
    (cnt = 0 ∧ (∀ p ∈ m, left p.1 = false) ∧ (Instr.next (.pointer (some ⟨r, 0, none⟩)) false ty).run P w = .ok (.tuple #[.bool false]) w) ∨
    ∃ k v w' cnt', (k, v) ∈ m ∧ left k = true ∧ (Instr.next (.pointer (some ⟨r, 0, none⟩)) false ty).run P w = .ok (.tuple #[.bool true, ek k, ev v]) w' ∧ MapRange P K ek ev w' b r m (fun x => left x && decide (x ≠ k)) cnt' ∧ cnt' < cnt ∧ Keep (fun j => j ≠ r) w w' ∧ w'.heap.size = w.heap.size ∧
      (Instr.entry (.pointer (some ⟨r, 0, none⟩))).run P w' = .ok (.tuple #[ek k, ev v]) w' := by
  obtain ⟨es, clock, since, seen, c0, hb, h2, hn, hok, hbc, hbn, hr, hold, hsc, hsk, rfl, hl⟩ := h
  have hat : ∀ j : Nat, (es.toList[j]?).map (fun e => (e.key, e.val)) = (m[j]?).map (fun p => (ek p.1, ev p.2)) := fun j => by
    have := congrArg (fun l => l[j]?) h2
    simpa only [List.getElem?_map] using this
  have hlen : es.toList.length = m.length := by have := congrArg List.length h2; simpa using this
  have hne : r ≠ b := fun e => by rw [e, hb] at hr; cases hr
  rcases run_next_at (P := P) w ty r b since c0 seen es clock hr hb hold hsc with ⟨h0, hrun⟩ | ⟨e, he, w1, hal, hrun⟩
  · refine .inl ⟨h0, fun p hp => ?_, hrun⟩
    obtain ⟨j, hj⟩ := List.mem_iff_getElem?.1 hp
    have hjl := (List.getElem?_eq_some_iff.1 hj).1
    obtain ⟨e, he⟩ : ∃ e, es.toList[j]? = some e := ⟨_, List.getElem?_eq_getElem (by omega)⟩
    rw [hl j e p he hj, all_seen es seen h0 e (List.mem_of_getElem? he)]
    rfl
  · obtain ⟨hem, hes⟩ := mem_left he
    obtain ⟨j, hj⟩ := List.mem_iff_getElem?.1 hem
    have hjl := (List.getElem?_eq_some_iff.1 hj).1
    obtain ⟨p, hp⟩ : ∃ p, m[j]? = some p := ⟨_, List.getElem?_eq_getElem (by omega)⟩
    have hkv := hat j
    rw [hj, hp] at hkv
    simp only [Option.map_some, Option.some.injEq, Prod.mk.injEq] at hkv
    have hr1 : w1.heap[r]? = some (.mapIter (some b) since seen c0) := by rcases hal with rfl | rfl <;> exact hr
    have hb1 : w1.heap[b]? = some (.map es clock) := by rcases hal with rfl | rfl <;> exact hb
    have hset := Go.MapKept.heap_set (o' := .mapIter (some b) since (seen.push e.born) clock) hr1
    have hb' : (Go.ChangeMaps.setBlock w1 r (.mapIter (some b) since (seen.push e.born) clock)).heap[b]? = some (.map es clock) := (hset.2 b (fun e1 => hne e1.symm)).trans hb1
    refine .inr ⟨p.1, p.2, _, _, List.mem_of_getElem? hp, ?_, by rw [← hkv.1, ← hkv.2]; exact hrun, ⟨es, clock, since, seen.push e.born, clock, hb', h2, hn, hok, hbc, hbn, hset.1, hold, hsk, hsk, rfl, ?_⟩, left_shrinks es seen e he, ?_, ?_, by rw [← hkv.1, ← hkv.2]; exact run_entry_at _ r b since seen es clock e hset.1 hb' hem hbn⟩
    · rw [hl j e p hj hp, hes]; rfl
    · intro i x q hx hq
      show (left q.1 && decide (q.1 ≠ p.1)) = _
      rw [hl i x q hx hq, contains_push]
      by_cases hij : i = j
      · subst hij
        rw [hj] at hx; cases hx
        rw [hp] at hq; cases hq
        simp
      · have h1 : q.1 ≠ p.1 := fun e1 => by
          have q1 : (m.map (·.1))[i]? = some q.1 := by rw [List.getElem?_map, hq]; rfl
          have q2 : (m.map (·.1))[j]? = some q.1 := by rw [List.getElem?_map, hp, e1]; rfl
          exact hij ((List.getElem?_inj (List.getElem?_eq_some_iff.1 q1).1 hn).1 (q1.trans q2.symm))
        have h3 : (x.born == e.born) = false := by
          rw [beq_eq_false_iff_ne]
          intro e1
          have q1 : (es.toList.map (·.born))[i]? = some x.born := by rw [List.getElem?_map, hx]; rfl
          have q2 : (es.toList.map (·.born))[j]? = some x.born := by rw [List.getElem?_map, hj, e1]; rfl
          exact hij ((List.getElem?_inj (List.getElem?_eq_some_iff.1 q1).1 hbn).1 (q1.trans q2.symm))
        simp [h1, h3]
    · rcases hal with rfl | rfl <;> exact ⟨rfl, rfl, rfl, by simp [Go.ChangeMaps.setBlock], fun i _ hi => hset.2 i hi⟩
    · rcases hal with rfl | rfl <;> simp [Go.ChangeMaps.setBlock]

variable {ops : Array Oper} {rest : List Oper} {o : Oper} {a : Act} {Q : Exit → Act → World → Prop}
/-- 'range m' as the walk meets it -/
theorem list_range {w : World} {b : Nat} {m : List (κ × ν)} (hg : o.guard = none) (x : Operand) (t : TypeId) (hop : o.op = Op.range t x) (hT : P.underlying t = some (.map K E)) (hx : a.eval x = .map (some b)) (h : MapIn P K ek ev w b m)
    (hK : ∀ w', MapRange P K ek ev w' b w.heap.size m (fun _ => true) m.length → Keep (fun _ => True) w w' → w'.heap.size = w.heap.size + 1 → wpList P ops Q rest (a.put o.dst (.pointer (some ⟨w.heap.size, 0, none⟩))) w') :
    wpList P ops Q (o :: rest) a w := by
  refine wpList_plain hg fun K' hK' => ?_
  obtain ⟨w', hrun, r1, r2, r3⟩ := run_range hT h
  unfold Oper.wp
  simp [execOp, hop, hx, hrun, Result.andThen]
  exact hK' _ _ (hK w' r1 r2 r3)
/-- the step -/
theorem list_next {w : World} {b r cnt : Nat} {m : List (κ × ν)} {left : κ → Bool} [DecidableEq κ] (hg : o.guard = none) (it : Operand) (hop : o.op = Op.next it false) (hit : a.eval it = .pointer (some ⟨r, 0, none⟩)) (h : MapRange P K ek ev w b r m left cnt)
    (hDone : cnt = 0 → (∀ p ∈ m, left p.1 = false) → wpList P ops Q rest (a.put o.dst (.tuple #[.bool false])) w)
    (hMore : ∀ (k : κ) (v : ν) (w' : World) (cnt' : Nat), (k, v) ∈ m → left k = true → MapRange P K ek ev w' b r m (fun x => left x && decide (x ≠ k)) cnt' → cnt' < cnt → Keep (fun j => j ≠ r) w w' → w'.heap.size = w.heap.size →
      (Instr.entry (.pointer (some ⟨r, 0, none⟩))).run P w' = .ok (.tuple #[ek k, ev v]) w' → wpList P ops Q rest (a.put o.dst (.tuple #[.bool true, ek k, ev v])) w') :
    wpList P ops Q (o :: rest) a w := by
  refine wpList_plain hg fun K' hK' => ?_
  unfold Oper.wp
  rcases run_next o.type h with ⟨h0, hl, hrun⟩ | ⟨k, v, w', cnt', h1, h2, hrun, h3, h4, h5, h6, h7⟩
  · simp [execOp, hop, hit, hrun, Result.andThen]
    exact hK' _ _ (hDone h0 hl)
  · simp [execOp, hop, hit, hrun, Result.andThen]
    exact hK' _ _ (hMore k v w' cnt' h1 h2 h3 h4 h5 h6 h7)
end
end Go.Ink

/- Layer 4: lists of numbers: inklingref04.Same, inklinglaw04.lent, left, num. -/
namespace Go.Proofs
open Go.RowKit Go.Ink
set_option linter.unusedVariables false
set_option linter.unusedSimpArgs false
attribute [local go_sem] Oper.semAt_some

def ic (x : Int) : List Value := [.int .i64 x]
theorem ic_map (l : List Int) : l.flatMap ic = l.map (.int .i64) := by
  induction l with
  | nil => rfl
  | cons a l ih => simp [ic, ih]
theorem el_int : ElemOf Try.prog 23 3 1 8 := elem_of (z := .int .i64 0) (by kernel_rfl) (by kernel_rfl) rfl (by decide) (by decide)
theorem ints_stay {n : Nat} {w w' : World} {v : Value} {ss : List Int} (h : IntsIn n w v ss) {m : Nat} (hK : Keep (fun k => k < m) w w') (hm : n ≤ m) : IntsIn n w' v ss :=
  h.mono fun _ _ _ hb h => hK.cell h (Nat.lt_of_lt_of_le hb hm)
theorem ints_wider {n n' : Nat} {w : World} {v : Value} {ss : List Int} (h : IntsIn n w v ss) (hn : n ≤ n') : IntsIn n' w v ss :=
  SliceIn.wider h hn fun _ _ _ _ h => h

set_option maxRecDepth 100000 in
theorem sameL_any (n : Nat) (va vb : Value) (xs ys : List Int) (w : World) (ha : IntsIn n w va xs) (hb : IntsIn n w vb ys) (hn : n ≤ w.heap.size) :
    Calls Try.prog 13 #[va, vb] w fun e w' => e = .returned (.bool (decide (xs = ys))) ∧ Keep (fun _ => True) w w' := by
  obtain ⟨aa, ca, rfl, hla, hca, hea⟩ := id ha
  obtain ⟨ab, cb, rfl, hlb, hcb, heb⟩ := id hb
  have Xha := Lib.hid ha
  have Xhb := Lib.hid hb
  have Xhea := Lib.hid hea
  have Xheb := Lib.hid heb
  clear ha hb hea heb
  go_enter Try.func13, Try.ntmps13
  by_cases hl : xs.length = ys.length
  · have hl1 : ((xs.length : Int) != ys.length) = false := by simp [hl]
    have Xhl := Lib.hid hl
    clear hl
    go_wp2_with fail
    go_loopw [5] (fun i wr => ∃ k : Nat, k ≤ xs.length ∧ i = .int .i64 k ∧ Keep (fun _ => True) w wr ∧ ∀ j, j < k → xs[j]? = ys[j]?) (fun i _ => xs.length - (intOf i).toNat)
    case atStart => exact ⟨0, by omega, rfl, Keep.refl _ _, fun j h => by omega⟩
    case round =>
      obtain ⟨k, hk, rfl, hK, hall⟩ := hrel
      have hll := Xhl.out
      by_cases hlt : k < xs.length
      · obtain ⟨x, hx⟩ : ∃ x, xs[k]? = some x := ⟨_, List.getElem?_eq_getElem hlt⟩
        obtain ⟨y, hy⟩ : ∃ y, ys[k]? = some y := ⟨_, List.getElem?_eq_getElem (by omega)⟩
        obtain ⟨ba, oa, rfl, hba, hxa⟩ := Xhea.out k x hx
        obtain ⟨bb, ob, rfl, hbb, hyb⟩ := Xheb.out k y hy
        have f1 := hK.cell hxa trivial
        have f2 := hK.cell hyb trivial
        simp only [Nat.mul_one] at f1 f2
        have hs := hK.size
        have hb1 : ba < wr.heap.size := by omega
        have hb2 : bb < wr.heap.size := by omega
        have hlt1 : (k : Int) < xs.length := by omega
        have hlt2 : (k : Int) < ys.length := by omega
        have hk0 : (0 : Int) ≤ k := by omega
        by_cases hxy : x = y
        · have hne : (x != y) = false := by simp [hxy]
          have hall2 : ∀ j, j < k + 1 → xs[j]? = ys[j]? := fun j hj => by
            rcases Nat.lt_succ_iff_lt_or_eq.1 hj with h | rfl
            · exact hall j h
            · rw [hx, hy, hxy]
          clear hall hx hy hxy hxa hyb hl1
          have Xhall2 := Lib.hid hall2
          have XhK := Lib.hid hK
          clear hall2 hK
          go_wp2_with fail
          go_quiet (fail)
          go_wp2_with fail
          go_roundw
          case rel => exact ⟨k + 1, by omega, by go_num, XhK.out.trans (Keep.drewN' _ _ _), Xhall2.out⟩
          case measure => simp [intOf]; omega
        · have hne : (x != y) = true := by simp [hxy]
          have hno : decide (xs = ys) = false := by
            simp only [decide_eq_false_iff_not]
            intro e; subst e; rw [hx] at hy; cases hy; exact hxy rfl
          clear hall hx hy hxy hxa hyb hl1
          have Xhno := Lib.hid hno
          have XhK := Lib.hid hK
          clear hno hK
          go_wp2_with fail
          go_quiet (fail)
          go_wp2_with fail
          go_ret
          exact ⟨by rw [Xhno.out]; try rfl, XhK.out.trans (Keep.drewN' _ _ _)⟩
      · have hyes : decide (xs = ys) = true := by
          simp only [decide_eq_true_eq]
          exact eq_at hll fun j hj => hall j (by omega)
        clear hall
        have Xhyes := Lib.hid hyes
        have XhK := Lib.hid hK
        clear hyes hK
        go_wp2_with fail
        go_ret
        exact ⟨by rw [Xhyes.out]; try rfl, XhK.out⟩
  · have hl1 : ((xs.length : Int) != ys.length) = true := by simp; omega
    have hno : decide (xs = ys) = false := by
      simp only [decide_eq_false_iff_not]
      intro e; exact hl (by rw [e])
    clear hl
    have Xhno := Lib.hid hno
    clear hno
    go_wp2_with fail
    go_ret
    exact ⟨by rw [Xhno.out]; try rfl, Keep.refl _ _⟩


/-- lent numbers: a copy with two marks behind -/
abbrev LentIn (base : Nat) (w : World) (v : Value) (l : List Int) : Prop := CopiedRow base 3 1 w v l.length (l.flatMap ic ++ [.int .i64 (-77), .int .i64 (-77)])
theorem LentIn.ints {base : Nat} {w : World} {v : Value} {l : List Int} (h : LentIn base w v l) (hl : l.length ≤ 1073741824) : IntsIn w.heap.size w v l :=
  CopiedRow.slice ic (fun _ => rfl) (fun b o x _ hc => by have := hc 0 _ rfl; simpa [IntE] using this) h hl

set_option maxRecDepth 100000 in
theorem lent_any (n : Nat) (v : Value) (l : List Int) (w : World) (hs : IntsIn n w v l) (hn : n ≤ w.heap.size) :
    Calls Try.prog 11 #[v] w fun e w' => ∃ v', e = .returned v' ∧ Keep (fun k => k < w.heap.size) w w' ∧ LentIn w.heap.size w' v' l := by
  obtain ⟨a, c, rfl, hl, hc, he⟩ := id hs
  have hcl := slice_cells (sz := 1) ic (fun _ => rfl) (by omega) (E := IntE) (fun b o x h j u hj => by
    have hj0 : j = 0 := by have := (List.getElem?_eq_some_iff.1 hj).1; simp [ic] at this; exact this
    subst hj0
    simp [ic] at hj
    subst hj
    exact h) hs rfl
  obtain ⟨v1, W1, g, cap, W2, hr1, hr2, ho, hk, z1⟩ := copy_row (P := Try.prog) el_int 23 w a l.length c (l.flatMap ic) [.int .i64 (-77), .int .i64 (-77)] (flatMap_len _ 1 (fun _ => rfl) _) hcl.1 hcl.2 (flat_one _ (by simp [ic, Value.oneCell']) _) hl rfl (by simp [Value.oneCell'])
  have hcp := own_cap ho
  have hcap : (l.length : Int) ≤ cap := by omega
  clear he hcl
  have Xhs := Lib.hid hs
  have Xhr1 := Lib.hid hr1
  have Xhr2 := Lib.hid hr2
  have Xho := Lib.hid ho
  have Xhk := Lib.hid hk
  clear hs hr1 hr2 ho hk
  go_enter Try.func11, Try.ntmps11
  go_wp2_with (at_builtin; first | refine go_app rfl _ _ _ rfl rfl rfl Xhr1.out ?_ | refine go_app rfl _ _ _ rfl rfl rfl Xhr2.out ?_)
  go_ret
  exact ⟨_, rfl, Xhk.out, g, cap, rfl, Xho.out⟩

set_option maxRecDepth 100000 in
theorem left_any (n base : Nat) (v v' : Value) (l : List Int) (w : World) (ha : LentIn base w v l) (hs : IntsIn n w v' l) (hn : n ≤ w.heap.size) (hl : l.length ≤ 1073741824) :
    Calls Try.prog 37 #[v, v'] w fun e w' => e = .returned (.bool true) ∧ Keep (fun _ => True) w w' := by
  have hi := ha.ints hl
  obtain ⟨g, cap, rfl, ho⟩ := id ha
  obtain ⟨a, c, rfl, hl, hc, he⟩ := id hs
  have hcp := own_cap ho
  have e0 : w.cell? ⟨g, l.length, none⟩ = some (.int .i64 (-77)) := by
    refine own_elem ho l.length _ ?_
    rw [List.getElem?_append_right (by rw [flatMap_len ic 1 (fun _ => rfl)]; omega), flatMap_len ic 1 (fun _ => rfl), Nat.mul_one, Nat.sub_self]
    rfl
  have e1 : w.cell? ⟨g, l.length + 1, none⟩ = some (.int .i64 (-77)) := by
    refine own_elem ho (l.length + 1) _ ?_
    rw [List.getElem?_append_right (by rw [flatMap_len ic 1 (fun _ => rfl)]; omega), flatMap_len ic 1 (fun _ => rfl), Nat.mul_one, show l.length + 1 - l.length = 1 from by omega]
    rfl
  have hcap : (l.length : Int) + 2 ≤ cap := by omega
  have hg : g < w.heap.size := hcp.2.2.1
  clear he
  have Xha := Lib.hid ha
  have Xhs := Lib.hid hs
  have Xhi := Lib.hid hi
  have Xho := Lib.hid ho
  clear ha hs hi ho
  go_enter Try.func37, Try.ntmps37
  go_wp2_with fail
  refine (sameL_any w.heap.size _ _ l l w Xhi.out (ints_wider Xhs.out hn) (Nat.le_refl _)).mono ?_
  rintro e W1 ⟨rfl, k1⟩
  rw [decide_eq_true (Eq.refl l)]
  have f0 := k1.cell e0 trivial
  have f1 := k1.cell e1 trivial
  have hgw : g < W1.heap.size := by have := k1.size; omega
  clear e0 e1
  have Xk1 := Lib.hid k1
  clear k1
  go_wp2_with fail
  go_ret
  exact ⟨rfl, Xk1.out⟩

theorem num_any (k : Int) (w : World) : Calls Try.prog 17 #[.int .i64 k] w fun e w' => e = .returned (.int .i64 k) ∧ w' = w := by
  go_enter Try.func17, Try.ntmps17
  go_wp2
  go_ret
  exact ⟨rfl, rfl⟩
end Go.Proofs

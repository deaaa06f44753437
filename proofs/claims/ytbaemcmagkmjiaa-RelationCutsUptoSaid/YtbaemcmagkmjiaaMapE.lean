/- Maps with keys of any type: 'm[k] = append(m[k], ..)' (entry, then store). No program is named here. -/
import Derived.WideKeyEntry
import Derived.Test.YtbaemcmagkmjiaaMaps
namespace Go.Ink
open Go.RowKit Go.WideMaps
set_option linter.unusedVariables false
set_option linter.unusedSimpArgs false
section
variable {κ ν : Type} {P : Program} {T K E : TypeId} {ek : κ → Value} {ev : ν → Value}

theorem run_entryK [DecidableEq κ] (hT : P.underlying T = some (.map K E)) (law : KeyLaw P K) (hinj : ∀ a b, ek a = ek b → a = b) {z : Value} (hz : ∀ w : World, (zeroValue E).run P w = .ok z w) {w : World} {b : Nat} {m : List (κ × ν)} (h : MapIn P K ek ev w b m) (hsz : m.length ≤ maxLen) (k : κ) (hk : ∃ l, keyOf P K (ek k) = some l) :
    ∃ (v0 : Value) (st : Int) (w1 : World), (Instr.mapEntry T (.map (some b)) (ek k)).run P w = .ok (.tuple #[v0, .int .i64 st]) w1 ∧ ((∃ v, (k, v) ∈ m ∧ v0 = ev v) ∨ (k ∉ m.map (·.1) ∧ v0 = z)) ∧
      Keep (fun j => j ≠ b) w w1 ∧ w1.heap.size = w.heap.size ∧
      ∀ (w2 : World), w2.heap[b]? = w1.heap[b]? → ∀ v : ν, ∃ w3, (Instr.entryStore T (.map (some b)) (.int .i64 st) (ev v)).run P w2 = .ok () w3 ∧ MapIn P K ek ev w3 b (setK m k v) ∧ Keep (fun j => j ≠ b) w2 w3 ∧ w3.heap.size = w2.heap.size := by
  obtain ⟨es, c, h1, h2, hn, hok, hbc, hbn⟩ := id h
  obtain ⟨l, hl⟩ := id hk
  have hat : ∀ j : Nat, (es.toList[j]?).map (fun e => (e.key, e.val)) = (m[j]?).map (fun p => (ek p.1, ev p.2)) := fun j => by
    have := congrArg (fun l => l[j]?) h2
    simpa only [List.getElem?_map] using this
  have hlen : es.toList.length = m.length := by have := congrArg List.length h2; simpa using this
  have hmem : ∀ e, e ∈ es.toList → ∃ p, p ∈ m ∧ e.key = ek p.1 ∧ e.val = ev p.2 := fun e he => by
    obtain ⟨j, hj⟩ := List.mem_iff_getElem?.1 he
    have hjl := (List.getElem?_eq_some_iff.1 hj).1
    obtain ⟨p, hp⟩ : ∃ p, m[j]? = some p := ⟨_, List.getElem?_eq_getElem (by omega)⟩
    have := hat j
    rw [hj, hp] at this
    simp only [Option.map_some, Option.some.injEq, Prod.mk.injEq] at this
    exact ⟨p, List.mem_of_getElem? hp, this.1, this.2⟩
  have hback : ∀ p, p ∈ m → ∃ e, e ∈ es.toList ∧ e.key = ek p.1 ∧ e.val = ev p.2 := fun p hp => by
    obtain ⟨j, hj⟩ := List.mem_iff_getElem?.1 hp
    have hjl := (List.getElem?_eq_some_iff.1 hj).1
    obtain ⟨e, he⟩ : ∃ e, es.toList[j]? = some e := ⟨_, List.getElem?_eq_getElem (by omega)⟩
    have := hat j
    rw [hj, he] at this
    simp only [Option.map_some, Option.some.injEq, Prod.mk.injEq] at this
    exact ⟨e, List.mem_of_getElem? he, this.1, this.2⟩
  have hkeys : es.toList.map (·.key) = (m.map (·.1)).map ek := by
    have := congrArg (List.map Prod.fst) h2
    simpa [List.map_map, Function.comp_def] using this
  have hfit : Go.WideElems.Fit (H := Unit) P K (fun _ => some (.nil, [])) es c := by
    refine ⟨by rw [← Array.length_toList, hlen]; exact hsz, ⟨hbc, hbn, ?_⟩, fun x hx => ?_⟩
    · rw [hkeys]
      exact List.Pairwise.map ek (fun a b hne e => hne (hinj a b e)) hn
    · obtain ⟨p, hp, e1, _⟩ := hmem x hx
      obtain ⟨l, hl⟩ := hok p hp
      exact ⟨(l, .nil), by simp [Go.WideElems.rd, e1, hl]⟩
  obtain ⟨v0, st, es1, c1, hrun, hv, hst⟩ := Go.WideElems.entry_then_store (P := P) law hT hz h1 hfit hl
  have hset : ∀ (u : World) (o : Obj), b < u.heap.size → (Go.ChangeMaps.setBlock u b o).heap[b]? = some o ∧ Keep (fun j => j ≠ b) u (Go.ChangeMaps.setBlock u b o) ∧ (Go.ChangeMaps.setBlock u b o).heap.size = u.heap.size := fun u o hb => by
    refine ⟨by simp [Go.ChangeMaps.setBlock, hb], ⟨rfl, rfl, rfl, by simp [Go.ChangeMaps.setBlock], fun i _ hi => ?_⟩, by simp [Go.ChangeMaps.setBlock]⟩
    simp only [Go.ChangeMaps.setBlock]
    rw [Array.getElem?_setIfInBounds_ne (fun e => hi e.symm)]
  have hb := heap_lt h1
  refine ⟨v0, st, _, hrun, ?_, (hset w _ hb).2.1, (hset w _ hb).2.2, fun w2 hw2 v => ?_⟩
  · rcases hv with ⟨e0, he0, hek, hev⟩ | ⟨hno, hz0⟩
    · obtain ⟨p, hp, e1, e2⟩ := hmem e0 he0
      have : p.1 = k := hinj _ _ (by rw [← e1, hek])
      exact .inl ⟨p.2, by rw [← this]; exact hp, by rw [hev, e2]⟩
    · refine .inr ⟨fun hkm => ?_, hz0⟩
      obtain ⟨p, hp, rfl⟩ := List.mem_map.1 hkm
      obtain ⟨e, he, e1, _⟩ := hback p hp
      exact hno e he e1
  · rw [(hset w _ hb).1] at hw2
    obtain ⟨es', c', hr1, hr2⟩ := hst w2 (ev v) hw2
    obtain ⟨w', hr3, hM, _, _⟩ := run_setK hT law hinj h k hk v
    rw [hr2] at hr3
    cases hr3
    obtain ⟨es2, c2, q1, q2, q3, q4, q5, q6⟩ := hM
    rw [(hset w _ hb).1] at q1
    cases q1
    have hb2 := heap_lt hw2
    exact ⟨_, hr1, ⟨_, _, (hset w2 _ hb2).1, q2, q3, q4, q5, q6⟩, (hset w2 _ hb2).2.1, (hset w2 _ hb2).2.2⟩
end
end Go.Ink

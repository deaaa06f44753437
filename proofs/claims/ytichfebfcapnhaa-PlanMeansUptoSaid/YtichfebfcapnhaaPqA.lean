/- Layer 16 (plan): the search for the least cost, as plain data; the steps' memory in it. No walk. -/
import Derived.Test.YtichfebfcapnhaaProg
import Derived.Test.YtichfebfcapnhaaPpGToPpH
import Derived.Test.YtichfebfcapnhaaFltC
namespace Go.Proofs
open Go.RowKit Go.Ink Go.Flt
set_option linter.unusedVariables false
set_option linter.unusedSimpArgs false

def knownS (ss : List StepD) : List ByteArray := ss.foldl (fun K x => learnP K x.new) []
theorem knownS_snoc (ss : List StepD) {k : Nat} {x : StepD} (h : ss[k]? = some x) : knownS (ss.take (k + 1)) = learnP (knownS (ss.take k)) x.new := by
  unfold knownS
  rw [List.take_add_one, h, List.foldl_append]
  rfl
theorem knownS_add (ss : List StepD) (x : StepD) : knownS (ss ++ [x]) = learnP (knownS ss) x.new := by
  unfold knownS
  rw [List.foldl_append]
  rfl
abbrev BestD := Option (Nat × List StepD)
def updB (best : BestD) (cost : Nat) (ss : List StepD) : BestD := match best with
  | none => some (cost, ss)
  | some (b, s) => if cost < b then some (cost, ss) else some (b, s)
def pruneB (best : BestD) (c : Nat) : Bool := match best with
  | none => false
  | some (b, _) => decide (b < c)
def visit (ls : List LitD) (sizes : List SizeD) (next : List Bool → Nat → Nat → List StepD → BestD → BestD) (tk : List Bool) (rows cost : Nat) (ss : List StepD) (best : BestD) (i : Nat) : BestD :=
  if tk.getD i true || !readyP (knownS ss) (ls.getD i default) then best
  else if pruneB best (fadd cost (behindD rows (ls.getD i default) (stepP (knownS ss) (ls.getD i default) i).bound sizes)) then best
  else next (tk.set i true) (behindD rows (ls.getD i default) (stepP (knownS ss) (ls.getD i default) i).bound sizes) (fadd cost (behindD rows (ls.getD i default) (stepP (knownS ss) (ls.getD i default) i).bound sizes)) (ss ++ [stepP (knownS ss) (ls.getD i default) i]) best
def dfs (ls : List LitD) (sizes : List SizeD) : Nat → List Bool → Nat → Nat → List StepD → BestD → BestD
  | 0, _, _, cost, ss, best => updB best cost ss
  | m + 1, tk, rows, cost, ss, best => (List.range ls.length).foldl (visit ls sizes (dfs ls sizes m) tk rows cost ss) best
def dfsTo (ls : List LitD) (sizes : List SizeD) (m : Nat) (tk : List Bool) (rows cost : Nat) (ss : List StepD) (best : BestD) (k : Nat) : BestD := (List.range k).foldl (visit ls sizes (dfs ls sizes m) tk rows cost ss) best
theorem dfsTo_succ (ls : List LitD) (sizes : List SizeD) (m : Nat) (tk : List Bool) (rows cost : Nat) (ss : List StepD) (best : BestD) (k : Nat) : dfsTo ls sizes m tk rows cost ss best (k + 1) = visit ls sizes (dfs ls sizes m) tk rows cost ss (dfsTo ls sizes m tk rows cost ss best k) k := by
  unfold dfsTo
  rw [List.range_succ, List.foldl_append]
  rfl
/-- what is held is a finite cost -/
def FineB (best : BestD) : Prop := ∀ b s, best = some (b, s) → b < 9218868437227405312
theorem updB_fine {best : BestD} (h : FineB best) {c : Nat} (hc : c < 9218868437227405312) (ss : List StepD) : FineB (updB best c ss) := by
  intro b s e
  unfold updB at e
  cases best with
  | none => cases e; exact hc
  | some p =>
    obtain ⟨b0, s0⟩ := p
    simp only at e
    split at e
    · cases e; exact hc
    · cases e; exact h _ _ rfl
theorem dfs_fine {ls : List LitD} {sizes : List SizeD} (hu : usableB sizes = true) (m : Nat) : ∀ (tk : List Bool) (rows cost : Nat) (ss : List StepD) (best : BestD), rows ≤ 9094988921128908188 → cost ≤ most ss.length → ss.length + m ≤ 256 → FineB best → FineB (dfs ls sizes m tk rows cost ss best) := by
  induction m with
  | zero =>
    intro tk rows cost ss best hr hc hl hb
    exact updB_fine hb (by have := most_fin (show ss.length ≤ 256 by omega); omega) ss
  | succ m ih =>
    intro tk rows cost ss best hr hc hl hb
    have hv : ∀ (best : BestD) (i : Nat), FineB best → FineB (visit ls sizes (dfs ls sizes m) tk rows cost ss best i) := by
      intro best i hb
      unfold visit
      split
      · exact hb
      · split
        · exact hb
        · refine ih _ _ _ _ _ (behind_le hr _ _ hu) ?_ (by rw [List.length_append, List.length_singleton]; omega) hb
          rw [List.length_append, List.length_singleton]
          exact sum_most (by omega) hc (behind_le hr _ _ hu)
    show FineB ((List.range ls.length).foldl _ best)
    generalize List.range ls.length = r
    induction r generalizing best with
    | nil => exact hb
    | cons i r ih2 => exact ih2 _ (hv best i hb)
theorem dfsTo_fine {ls : List LitD} {sizes : List SizeD} (hu : usableB sizes = true) (m : Nat) (tk : List Bool) (rows cost : Nat) (ss : List StepD) (best : BestD) (hr : rows ≤ 9094988921128908188) (hc : cost ≤ most ss.length) (hl : ss.length + (m + 1) ≤ 256) (hb : FineB best) (k : Nat) : FineB (dfsTo ls sizes m tk rows cost ss best k) := by
  induction k with
  | zero => exact hb
  | succ k ih =>
    rw [dfsTo_succ]
    unfold visit
    split
    · exact ih
    · split
      · exact ih
      · refine dfs_fine hu m _ _ _ _ _ (behind_le hr _ _ hu) ?_ (by rw [List.length_append, List.length_singleton]; omega) ih
        rw [List.length_append, List.length_singleton]
        exact sum_most (by omega) hc (behind_le hr _ _ hu)
/-- what is least so far, as a double: -1 where there is none -/
def lstB (best : BestD) : Nat := match best with
  | none => 13830554455654793216
  | some (b, _) => b
def stpB (best : BestD) : List StepD := match best with
  | none => []
  | some (_, s) => s
/-- whose steps are within bounds -/
def SizedB (best : BestD) : Prop := sizedS (stpB best)

theorem StepsOwn.cut {base : Nat} {w : World} {a : Option Addr} {n c : Nat} {ss : List StepD} {x : StepD} (h : StepsOwn base w (.slice a (n + 1) c) (ss ++ [x])) (hn : ss.length = n) : StepsOwn base w (.slice a n c) ss := by
  obtain ⟨qs, hq, ho, hall⟩ := h
  have hl : qs.length = n + 1 := by
    have := congrArg List.length hq
    rw [List.length_map, List.length_append, List.length_singleton] at this
    omega
  have hq2 : (qs.take n).map (·.1) = ss := by rw [List.map_take, hq, List.take_append_of_le_length (by omega), List.take_of_length_le (by omega)]
  refine ⟨qs.take n, hq2, ?_, fun q hm => hall q (List.mem_of_mem_take hm)⟩
  rw [List.length_append, List.length_singleton, hn] at ho
  rw [hn]
  have hfl : (qs.take n).flatMap stepC = (qs.flatMap stepC).take (n * 3) := by
    have h1 : ((qs.take n).flatMap stepC).length = n * 3 := by rw [flatMap_len stepC 3 (fun _ => rfl), List.length_take, hl, Nat.min_eq_left (by omega)]
    have e2 : qs.flatMap stepC = (qs.take n).flatMap stepC ++ (qs.drop n).flatMap stepC := by rw [← List.flatMap_append, List.take_append_drop]
    rw [e2, List.take_left' h1]
  rcases ho.2 with ⟨h1, h2⟩ | ⟨g, cap, cur, h1, hb, hg, hnc, hcm, hcs, ht⟩
  · cases h1
  · cases h1
    refine ⟨by rw [hfl, List.length_take, flatMap_len stepC 3 (fun _ => rfl), hl]; omega, .inr ⟨g, c, cur, rfl, hb, hg, by omega, hcm, hcs, ?_⟩⟩
    rw [hfl, ← ht, List.take_take]
    congr 1
    omega
theorem StepsOwn.keepO {base : Nat} {w w' : World} {v : Value} {ss : List StepD} {C : Nat → Prop} (h : StepsOwn base w v ss) (hK : Keep C w w') (h1 : ∀ b, v.ownBlock = some b → C b) (hC : ∀ b cs t, base ≤ b → w.heap[b]? = some (.cells cs t (0, 0)) → t = 3 ∨ t = 9 → C b) : StepsOwn base w' v ss := by
  obtain ⟨qs, hq, ho, hall⟩ := h
  refine ⟨qs, hq, own_kept ho hK h1, fun q hm => ⟨own_kept (hall q hm).1 hK (fun b hb => ?_), own_kept (hall q hm).2 hK (fun b hb => ?_)⟩⟩
  · obtain ⟨cs, ht⟩ := own_typed (hall q hm).1 hb
    exact hC b cs _ (World.ownsRow.lt (hall q hm).1 b hb).1 ht (.inl rfl)
  · obtain ⟨cs, ht⟩ := own_typed (hall q hm).2 hb
    exact hC b cs _ (World.ownsRow.lt (hall q hm).2 b hb).1 ht (.inr rfl)
theorem StepsOwn.typed {base : Nat} {w : World} {v : Value} {ss : List StepD} (h : StepsOwn base w v ss) {b : Nat} (hb : v.ownBlock = some b) : base ≤ b ∧ b < w.heap.size ∧ ∃ cs, w.heap[b]? = some (.cells cs 73 (0, 0)) := by
  obtain ⟨qs, hq, ho, hall⟩ := h
  have := World.ownsRow.lt ho b hb
  exact ⟨this.1, this.2, own_typed ho hb⟩
/-- a step more: the block of the answer is the old one or a new one -/
theorem StepsOwn.snocB {base : Nat} {w : World} {v : Value} {ss : List StepD} (h : StepsOwn base w v ss) (s : StepD) (vb vn : Value) (hb : w.ownsRow base 3 1 vb s.bound.length (s.bound.map (.int .i64))) (hn : w.ownsRow base 9 1 vn s.new.length (s.new.map .string)) (hl : ss.length ≤ 1073741824) (hbase : base ≤ w.heap.size) :
    ∃ v' w', (Builtin.append_ #[32, 32] 32 #[v, .slice (some ⟨w.heap.size, 0, none⟩) 1 1]).run Try.prog (w.alloc (.cells #[.int .i64 s.lit, vb, vn] 73)) = .ok v' w' ∧ StepsOwn base w' v' (ss ++ [s]) ∧ Keep (fun b => some b ≠ v.ownBlock) w w' ∧ ∀ g, v'.ownBlock = some g → v.ownBlock = some g ∨ w.heap.size ≤ g := by
  obtain ⟨qs, hq, ho, hall⟩ := h
  obtain ⟨ab, cb, hvb⟩ := own_form hb
  obtain ⟨an, cn, hvn⟩ := own_form hn
  obtain ⟨v', w', hr, ho2, hk, g, cap, hv, hg, hl2⟩ := app1 (P := Try.prog) el_steps 32 ho [.int .i64 s.lit, vb, vn] rfl (by rw [hvb, hvn]; simp [Value.oneCell']) (by omega) hbase
  refine ⟨v', w', hr, ⟨qs ++ [(s, vb, vn)], by rw [List.map_append, hq]; rfl, by rw [List.length_append, List.flatMap_append]; simpa [stepC] using ho2, fun q hm => ?_⟩, hk, fun g' hg' => by rw [hv] at hg'; simp [Value.ownBlock] at hg'; subst hg'; exact hg⟩
  have hoth : ∀ {e sz : Nat} {u : Value} {m : Nat} {xs : List Value}, w.ownsRow base e sz u m xs → e ≠ 73 → w'.ownsRow base e sz u m xs := fun ho3 he => own_kept ho3 hk (fun b hb e2 => by
    obtain ⟨c1, t1⟩ := own_typed ho3 hb
    obtain ⟨c2, t2⟩ := own_typed ho e2.symm
    rw [t1] at t2
    cases t2
    exact he rfl)
  rcases List.mem_append.1 hm with hm | hm
  · exact ⟨hoth (hall q hm).1 (by decide), hoth (hall q hm).2 (by decide)⟩
  · simp only [List.mem_singleton] at hm
    subst hm
    exact ⟨hoth hb (by decide), hoth hn (by decide)⟩
/-- a copy of the steps; their lists are shared -/
theorem StepsOwn.clone {base : Nat} {w : World} {a : Option Addr} {n c : Nat} {ss : List StepD} (h : StepsOwn base w (.slice a n c) ss) (hn : ss.length = n) (hl : n ≤ 1073741824) (hbase : base ≤ w.heap.size) :
    Calls Try.prog 60 #[.slice a n c] w fun e w' => ∃ v', e = .returned v' ∧ StepsOwn base w' v' ss ∧ (∀ b, v'.ownBlock = some b → w.heap.size ≤ b) ∧ Keep (fun _ => True) w w' := by
  obtain ⟨qs, hq, ho, hall⟩ := h
  have hql : qs.length = n := by have := congrArg List.length hq; rw [List.length_map] at this; omega
  rw [hn] at ho
  have hsrc := own_src ho
  have hone : ∀ u ∈ qs.flatMap stepC, u.oneCell' = true := by
    intro u hu
    obtain ⟨q, hqm, hx⟩ := List.mem_flatMap.1 hu
    obtain ⟨a1, c1, e1⟩ := own_form (hall q hqm).1
    obtain ⟨a2, c2, e2⟩ := own_form (hall q hqm).2
    unfold stepC at hx
    rw [e1, e2] at hx
    simp only [List.mem_cons, List.not_mem_nil, or_false] at hx
    rcases hx with rfl | rfl | rfl <;> rfl
  refine (cloneSteps_raw a n c (qs.flatMap stepC) w (by rw [flatMap_len stepC 3 (fun _ => rfl), hql]) hsrc.1 hsrc.2 hone hl).mono fun e w' ⟨v', he, ho', hk⟩ => ⟨v', he, ⟨qs, hq, ?_, fun q hm => ⟨own_kept (hall q hm).1 hk (fun _ _ => trivial), own_kept (hall q hm).2 hk (fun _ _ => trivial)⟩⟩, fun b hb => (World.ownsRow.lt ho' b hb).1, hk⟩
  rw [hn]
  exact ho'.mono hbase
end Go.Proofs

/- Layer 16 (plan): the law's own small things: term, pos, small, sizes. -/
import Derived.Test.YtichfebfcapnhaaProg
import Derived.Test.YtichfebfcapnhaaPnZ
namespace Go.Proofs
open Go.RowKit Go.Ink Go.Flt
set_option linter.unusedVariables false
set_option linter.unusedSimpArgs false
attribute [local go_sem] Oper.semAt_some

def termOf (s : ByteArray) : TermD := ⟨decide (headC s < 97), s⟩
set_option maxRecDepth 100000 in
theorem lawTerm_any (s : ByteArray) (hs : 0 < s.size) (w : World) : Calls Try.prog 62 #[.string s] w fun e w' => e = .returned (termV (termOf s)) ∧ Keep (fun _ => True) w w' := by
  have hh := head_at hs
  unfold termV termOf
  simp only
  have h0 : (0 : Int) < s.size := by omega
  obtain ⟨c, hc⟩ : ∃ c, headC s = c := ⟨_, rfl⟩
  rw [hc] at hh ⊢
  have hix : ∀ w, (Instr.index 9 (.string s) (.int .i64 0)).run Try.prog w = .ok (.int .u8 c) w := fun w => by
    have hg : s[0]? = some (s[0]) := by simp [hs]
    simp [Instr.index, asIntOf, run_underlying Try.underlying9, hg, hh]
  clear hc
  have Xhh := Lib.hid hh
  clear hh
  go_enter Try.func62, Try.ntmps62
  go_wp2_with fail
  refine bodyPost_ret (v := .agg #[.bool (decide (c < 97)), .string s]) (by simp [results, Try.results62, go_sem]) rfl ?_
  exact ⟨rfl, Keep.alloc _ _ _⟩
end Go.Proofs

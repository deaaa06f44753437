/- Layer 16 (plan): does a rule bind its variables: the program's. -/
import Derived.Test.YtichfebfcapnhaaProg
import Derived.Test.YtichfebfcapnhaaPnM
import Derived.Deep.RegionHeld3
import Derived.Laws.EntriesVeiled
import Derived.Test.YtichfebfcapnhaaOwnToRowC
namespace Go.Proofs
open Go.RowKit Go.Ink
set_option linter.unusedVariables false
set_option linter.unusedSimpArgs false
attribute [local go_sem] Oper.semAt_some

/-- what the positive literals bind -/
def factsK (ls : List LitD) : List ByteArray := ls.foldl (fun K L => if L.kind = 1 then K ++ newL K L.atom.args else K) []
theorem factsK_snoc (ls : List LitD) {k : Nat} {L : LitD} (h : ls[k]? = some L) : factsK (ls.take (k + 1)) = if L.kind = 1 then factsK (ls.take k) ++ newL (factsK (ls.take k)) L.atom.args else factsK (ls.take k) := by
  unfold factsK
  rw [List.take_add_one, h, List.foldl_append]
  rfl
def safeP (r : RuleD) : Bool := !r.head.args.any (openD (factsK r.body)) && r.body.all (readyP (factsK r.body))
theorem run_makeSet (w : World) : (Instr.makeMap 86 none).run Try.prog w = .ok (.map (some w.heap.size)) (w.alloc (.map #[] 0)) := by
  simp [Instr.makeMap, Sem.run_bind, run_underlying Try.underlying86, Result.andThen, run_newObj_alloc]

set_option maxRecDepth 100000 in
theorem notReady_any (n M B : Nat) (K : List ByteArray) (L : LitD) (sa : Value) (w : World) (hS : SetIn w M K) (hB : w.cell? ⟨B, 0, none⟩ = some (.map (some M))) (ha : TermsIn n w sa L.atom.args) (hn : n ≤ w.heap.size) : Calls Try.prog 89 #[litV L sa, .pointer (some ⟨B, 0, none⟩)] w fun e w' => e = .returned (.bool (!readyP K L)) ∧ Keep (fun b => b < w.heap.size) w w' := by
  have h := fun W (hK : Keep (fun _ => True) w W) => ready_any n M K L sa W (hS.keep hK trivial) (terms_keep ha (hK.mono fun _ _ _ => trivial)) (by have := hK.size; omega)
  obtain ⟨aa, ca, rfl, -, -, -⟩ := id ha
  obtain ⟨k, ⟨pr, args⟩, ⟨lv, lt⟩, ⟨rv, rt⟩⟩ := L
  unfold litV at h ⊢
  simp only at h ⊢
  obtain ⟨b1, hb1⟩ : ∃ b, readyP K ⟨k, ⟨pr, args⟩, ⟨lv, lt⟩, ⟨rv, rt⟩⟩ = b := ⟨_, rfl⟩
  simp only [hb1] at h
  rw [hb1]
  have l0 := World.block_lt_of_cell? w _ hB
  simp only at l0
  clear ha hS
  have Xh := Lib.hid h
  have Xhb1 := Lib.hid hb1
  clear h hb1
  go_enter Try.func89, Try.ntmps89
  go_wp2_with fail
  refine (Xh.out _ (Keep.alloc _ _ _)).mono ?_
  rintro e w1 ⟨rfl, k1⟩
  go_wp2_with fail
  go_ret
  exact ⟨rfl, (Keep.alloc _ _ _).trans (k1.mono fun b hb _ => by simp; omega)⟩

set_option maxRecDepth 100000 in
set_option maxHeartbeats 1000000 in
theorem safe_any (n : Nat) (r : RuleD) (sh sb : Value) (w : World) (hr : RuleIn n w sh sb r) (hn : n ≤ w.heap.size) : Calls Try.prog 63 #[ruleV r sh sb] w fun e w' => e = .returned (.bool (safeP r)) ∧ Keep (fun b => b < w.heap.size) w w' := by
  have hstep := fun i L (hL : r.body[i]? = some L) M K W (hS : SetIn W M K) (hK : Keep (fun b => b < w.heap.size) w W) => step_any n M K r sh sb i L hL W hS (hr.keep (hK.mono fun b _ h => by omega)) (by have := hK.size; omega)
  have hE : safeP r = (!r.head.args.any (openD (factsK r.body)) && r.body.all (readyP (factsK r.body))) := rfl
  obtain ⟨hh, hb⟩ := id hr
  have hhas := fun M K W (hS : SetIn W M K) (hK : Keep (fun b => b < w.heap.size) w W) => hasTerms_any (gf := 68) (bs := #[.map (some M)]) (lb := #[]) (enters Try.func68 (by kernel_rfl) rfl) (openD K) n sh r.head.args W (terms_keep hh (hK.mono fun b _ h => by omega)) (by have := hK.size; omega)
    (fun x _ W2 hK2 => (open_any M K x W2 (hS.keep hK2 (show M < W.heap.size from hS.lt))).mono fun e w' ⟨e1, k1⟩ => ⟨e1, k1.mono fun _ _ _ => trivial⟩)
  have hnot := fun B M K W (hS : SetIn W M K) (hK : Keep (fun b => b < w.heap.size) w W) (hB : W.cell? ⟨B, 0, none⟩ = some (.map (some M))) => hasLits_any (gf := 89) (bs := #[]) (lb := #[.pointer (some ⟨B, 0, none⟩)]) (enters Try.func89 (by kernel_rfl) rfl) (fun L => !readyP K L) n sb r.body W (lits_keep hb (hK.mono fun b _ h => by omega)) (by have := hK.size; omega)
    (fun x _ W2 hK2 sa hsa => notReady_any n M B K x sa W2 (hS.keep hK2 (show M < W.heap.size from hS.lt)) (hK2.cell hB (World.block_lt_of_cell? W _ hB)) hsa (by have := hK.size; have := hK2.size; omega))
  simp only [any_not] at hnot
  obtain ⟨⟨pr, args⟩, body⟩ := r
  unfold ruleV at hstep ⊢
  simp only at hstep hE hh hb hhas hnot ⊢
  obtain ⟨aa, ca, rfl, -, -, -⟩ := id hh
  obtain ⟨ab, cb, rfl, hlb, hcb, heb⟩ := id hb
  have hmm := fun w => run_makeSet w
  clear hh hb hr
  have Xhstep := Lib.hid hstep
  have XhE := Lib.hid hE
  have Xhhas := Lib.hid hhas
  have Xhnot := Lib.hid hnot
  have Xheb := Lib.hid heb
  clear hstep hE hhas hnot heb
  go_enter Try.func63, Try.ntmps63
  go_wp2_with fail
  refine wp_abs (fun W => Keep (fun b => b < w.heap.size) w W ∧ W.heap.size = w.heap.size + 1 + 1 + 1 ∧ W.heap[w.heap.size]? = some (.cells #[.string pr, .slice aa args.length ca, .slice ab body.length cb] 28 (0, 0)) ∧
    SetIn W (w.heap.size + 1) [] ∧ W.heap[w.heap.size + 1 + 1]? = some (.cells #[.map (some (w.heap.size + 1))] 86 (0, 0))) ⟨((Keep.alloc _ _ _).trans (Keep.alloc _ _ _)).trans (Keep.alloc _ _ _), by simp, by simp only [alloc_get, World.size_alloc]; simp; omega, by
      refine (SetIn.keep (w := (w.alloc (.cells #[.string pr, .slice aa args.length ca, .slice ab body.length cb] 28)).alloc (.map #[] 0)) ?_ (Keep.alloc (fun _ => True) _ _) trivial)
      have := setIn_new (w.alloc (.cells #[.string pr, .slice aa args.length ca, .slice ab body.length cb] 28))
      simpa using this, by simp only [alloc_get, World.size_alloc]; simp⟩ ?_
  rintro W0 ⟨k0, z0, a1, s0, a2⟩
  clear hmm
  obtain ⟨N, hN⟩ : ∃ N, w.heap.size = N := ⟨_, rfl⟩
  rw [hN] at k0 z0 a1 s0 a2 ⊢
  have hnN : n ≤ N := by omega
  have Xk0 := Lib.hid k0
  have Xa1 := Lib.hid a1
  have Xs0 := Lib.hid s0
  have Xa2 := Lib.hid a2
  have XhN := Lib.hid hN
  clear k0 a1 s0 a2 hN
  go_loopw [10] (fun i' wr => ∃ k : Nat, k ≤ body.length ∧ i' = .int .i64 (k : Int) ∧ Keep (fun b => b < N + 1 + 1 + 1 ∧ b ≠ N + 1) W0 wr ∧ SetIn wr (N + 1) (factsK (body.take k))) (fun i _ => body.length - (intOf i).toNat)
  case atStart => exact ⟨0, by omega, rfl, Keep.refl _ _, Xs0.out⟩
  case round =>
    obtain ⟨k, hk, rfl, hK, hS⟩ := hrel
    have hsz := hK.size
    have b1 := hK.heap Xa1.out (show N < N + 1 + 1 + 1 ∧ N ≠ N + 1 by omega)
    have b2 := hK.heap Xa2.out (show N + 1 + 1 < N + 1 + 1 + 1 ∧ N + 1 + 1 ≠ N + 1 by omega)
    have c0 := cells_of_block b1 0 _ rfl
    have c1 := cells_of_block b1 1 _ rfl
    have c2 := cells_of_block b1 2 _ rfl
    have c3 := cells_of_block b2 0 _ rfl
    simp only [Nat.zero_add] at c0 c1 c2 c3
    have hMl := hS.lt
    have hNl : N < wr.heap.size := by omega
    have hBl : N + 1 + 1 < wr.heap.size := by omega
    have kw : Keep (fun b => b < N) w wr := Xk0.out.trans (hK.mono fun b _ h => ⟨by omega, by omega⟩)
    by_cases hlt : k < body.length
    · have hlt1 : (k : Int) < body.length := by omega
      have hk0 : (0 : Int) ≤ k := by omega
      obtain ⟨x, hx⟩ : ∃ x, body[k]? = some x := ⟨_, List.getElem?_eq_getElem hlt⟩
      obtain ⟨b, o, rfl, hb, sa, hcl, hsa⟩ := Xheb.out k x hx
      obtain ⟨asa, csa, rfl, hlx, -, -⟩ := id hsa
      have g : ∀ j v, (litCells x (.slice asa x.atom.args.length csa))[j]? = some v → wr.cell? ⟨b, o + k * 7 + j, none⟩ = some v := fun j v h => kw.cell (hcl j v h) (show b < N by omega)
      have d0 := g 0 _ rfl
      have d1 := g 1 _ rfl
      have d2 := g 2 _ rfl
      have d3 := g 3 _ rfl
      have d4 := g 4 _ rfl
      have d5 := g 5 _ rfl
      have d6 := g 6 _ rfl
      simp only [Nat.add_zero] at d0
      have hbw : b < wr.heap.size := by omega
      have hfs := factsK_snoc body hx
      obtain ⟨W1, hW1⟩ : ∃ W1, wr.alloc (.cells #[.int .i64 x.kind, .string x.atom.pred, .slice asa x.atom.args.length csa, .bool x.left.var, .string x.left.text, .bool x.right.var, .string x.right.text] 78) = W1 := ⟨_, rfl⟩
      have k1 : Keep (fun _ => True) wr W1 := by rw [← hW1]; exact Keep.alloc _ _ _
      have hz1 := k1.size
      have hK1 : Keep (fun b => b < N + 1 + 1 + 1 ∧ b ≠ N + 1) W0 W1 := hK.trans (k1.mono fun _ _ _ => trivial)
      have hS1 := hS.keep k1 trivial
      have e0 := k1.cell c0 trivial
      have e1 := k1.cell c1 trivial
      have e2 := k1.cell c2 trivial
      have e3 := k1.cell c3 trivial
      clear g hcl hsa b1 b2
      by_cases hk1 : x.kind = 1
      · have hk1b : (x.kind == 1) = true := by simp [hk1]
        rw [if_pos hk1] at hfs
        have hst := Xhstep.out k x hx (N + 1) (factsK (body.take k)) W1.drew (hS1.keep (Keep.drew (fun _ => True) _) trivial) ((kw.trans (k1.mono fun _ _ _ => trivial)).trans (Keep.drew _ _) |>.mono fun b _ h => by have := XhN.out; omega)
        have hW1' : wr.alloc (.cells #[.int .i64 1, .string x.atom.pred, .slice asa x.atom.args.length csa, .bool x.left.var, .string x.left.text, .bool x.right.var, .string x.right.text] 78) = W1 := by rw [← hW1, hk1]
        have hnl := newL_len (factsK (body.take k)) x.atom.args
        have hstn : (stepP (factsK (body.take k)) x k).new = newL (factsK (body.take k)) x.atom.args := by unfold stepP; rw [if_neg (by omega)]
        have hlrn := learn_step (factsK (body.take k)) x k
        rw [hstn] at hlrn
        rw [← hlrn] at hfs
        rw [hstn] at hst
        clear hstn
        have hS1M := hS1.lt
        clear hk1
        have XhK := Lib.hid hK
        have XhS := Lib.hid hS
        have Xkw := Lib.hid kw
        have XhW1 := Lib.hid hW1
        have Xk1 := Lib.hid k1
        have XhK1 := Lib.hid hK1
        have XhS1 := Lib.hid hS1
        have Xhfs := Lib.hid hfs
        have Xhst := Lib.hid hst
        have Xhx := Lib.hid hx
        have XhW1' := Lib.hid hW1'
        have Xhlrn := Lib.hid hlrn
        clear hK hS kw hW1 k1 hK1 hS1 hfs hst hx hW1' hlrn
        go_wp2_with fail
        rw [XhW1.out]
        go_region_held3 (fun W => W.cell? ⟨N, 0, none⟩ = some (.string pr) ∧ W.cell? ⟨N, 1, none⟩ = some (.slice aa args.length ca) ∧ W.cell? ⟨N, 2, none⟩ = some (.slice (some ⟨b, o, none⟩) body.length cb) ∧ W.cell? ⟨N + 1 + 1, 0, none⟩ = some (.map (some (N + 1))))
          (first | (refine ⟨?_, ?_, ?_, ?_⟩ <;> assumption) | go_keep)
          (first
            | (go_at_call 41; refine Xhst.out.mono ?_; rintro e w1 ⟨vb, vn, rfl, ob, on, hq⟩; have q0 := hq.cell e0 (by simp; omega); have q1 := hq.cell e1 (by simp; omega); have q2 := hq.cell e2 (by simp; omega); have q3 := hq.cell e3 (by simp; omega); have zq := hq.size; simp only [World.size_drew] at zq; clear e0 e1 e2 e3)
            | (go_at_call 42; have hl := learn_any w1.heap.size (N + 1) (factsK (body.take k)) ⟨(k : Int), [], newL (factsK (body.take k)) x.atom.args⟩ vb vn w1 ((XhS1.out.keep (Keep.drew (fun _ => True) _) trivial).keep hq (by simp; omega)) (own_strs on (by simp only; omega)) (Nat.le_refl _); unfold stepV at hl; simp only at hl; refine hl.mono ?_; rintro e w2 ⟨rfl, hS2, hp⟩; have p0 := hp.cell q0 (show N ≠ N + 1 by omega); have p1 := hp.cell q1 (show N ≠ N + 1 by omega); have p2 := hp.cell q2 (show N ≠ N + 1 by omega); have p3 := hp.cell q3 (show N + 1 + 1 ≠ N + 1 by omega)))
        have hK2 : Keep (fun b => b < N + 1 + 1 + 1 ∧ b ≠ N + 1) W0 w2 := ((XhK1.out.trans (Keep.drew _ _)).trans (hq.mono fun b hb h => by simp; omega)).trans (hp.mono fun b hb h => h.2)
        have hS3 : SetIn w2 (N + 1) (factsK (body.take (k + 1))) := by rw [Xhfs.out]; exact hS2
        clear hq ob on hp hS2
        have XhK2 := Lib.hid hK2
        have XhS3 := Lib.hid hS3
        clear hK2 hS3
        go_wp2_with fail
        go_roundw
        case rel => exact ⟨k + 1, by omega, by go_num, XhK2.out, XhS3.out⟩
        case measure => simp [intOf]; omega
      · have hk1b : (x.kind == 1) = false := beq_eq_false_iff_ne.2 hk1
        rw [if_neg hk1] at hfs
        rw [← hfs] at hS1
        have XhK := Lib.hid hK
        have XhS := Lib.hid hS
        have Xkw := Lib.hid kw
        have XhW1 := Lib.hid hW1
        have Xk1 := Lib.hid k1
        have XhK1 := Lib.hid hK1
        have XhS1 := Lib.hid hS1
        have Xhfs := Lib.hid hfs
        have Xhx := Lib.hid hx
        clear hK hS kw hW1 k1 hK1 hS1 hfs hx
        go_wp2_with fail
        rw [XhW1.out]
        go_roundw
        case rel => exact ⟨k + 1, by omega, by go_num, XhK1.out, XhS1.out⟩
        case measure => simp [intOf]; omega
    · obtain rfl : k = body.length := by omega
      rw [List.take_length] at hS
      have hkN : Keep (fun b => b < w.heap.size) w wr := kw.mono fun b _ h => by have := XhN.out; omega
      have h1 := Xhhas.out (N + 1) (factsK body) wr hS hkN
      have h2 := fun W (hK2 : Keep (fun b => b < wr.heap.size) wr W) => Xhnot.out (N + 1 + 1) (N + 1) (factsK body) W (hS.keep hK2 hMl) (hkN.trans (hK2.mono fun b hb _ => hb)) (hK2.cell c3 hBl)
      obtain ⟨bh, hbh⟩ : ∃ b, args.any (openD (factsK body)) = b := ⟨_, rfl⟩
      obtain ⟨bl, hbl⟩ : ∃ b, body.all (readyP (factsK body)) = b := ⟨_, rfl⟩
      rw [hbh] at h1
      simp only [hbl] at h2
      have hE2 : safeP ⟨⟨pr, args⟩, body⟩ = (!bh && bl) := by rw [XhE.out, hbh, hbl]
      clear b1 b2 hbh hbl
      have XhK := Lib.hid hK
      have XhS := Lib.hid hS
      have Xkw := Lib.hid kw
      have Xh1 := Lib.hid h1
      have Xh2 := Lib.hid h2
      have XhE2 := Lib.hid hE2
      have XhkN := Lib.hid hkN
      clear hK hS kw h1 h2 hE2 hkN
      cases bh
      · go_wp2_with fail
        refine Xh1.out.mono ?_
        rintro e W2 ⟨rfl, k2⟩
        have f2 := k2.cell c2 hNl
        have f3 := k2.cell c3 hBl
        have hz2 := k2.size
        have hl2 : N < W2.heap.size := by omega
        have h3 := Xh2.out W2 k2
        have Xh3 := Lib.hid h3
        clear h3
        go_wp2_with fail
        refine Xh3.out.mono ?_
        rintro e W3 ⟨rfl, k3⟩
        go_wp2_with fail
        go_ret
        exact ⟨by rw [XhE2.out]; cases bl <;> rfl, (Xkw.out.trans (k2.mono fun b hb h => by omega)).trans (k3.mono fun b hb h => by omega) |>.mono fun b _ h => by have := XhN.out; omega⟩
      · go_wp2_with fail
        refine Xh1.out.mono ?_
        rintro e W2 ⟨rfl, k2⟩
        go_wp2_with fail
        go_ret
        exact ⟨by rw [XhE2.out]; rfl, (Xkw.out.trans (k2.mono fun b hb h => by omega)) |>.mono fun b _ h => by have := XhN.out; omega⟩
end Go.Proofs

/- Append to a slice of the call's own: only the block where it then lies is changed. No program is named here. -/
namespace Go.Ink
open Go.RowKit
set_option linter.unusedVariables false
set_option linter.unusedSimpArgs false
variable {P : Program}

theorem appK {t e : TypeId} {size bytes : Nat} (hE : ElemOf P t e size bytes) (ty : TypeId) {w : World} {base : Nat} {v : Value} {n : Nat} {xs : List Value} (hown : w.ownsRow base e size v n xs)
    (a : Addr) (m c : Nat) (news : List Value) (hl : news.length = m * size) (hnews : ∀ j u, news[j]? = some u → w.cell? (a.add j) = some u) (h1 : ∀ u ∈ news, u.oneCell' = true)
    (hm0 : 0 < m) (hnm : n + m ≤ 8589934592) (hbase : base ≤ w.heap.size) :
    ∃ v' w', (Builtin.append_ #[t, t] ty #[v, .slice (some a) m c]).run P w = .ok v' w' ∧ w'.ownsRow base e size v' (n + m) (xs ++ news) ∧
      ∃ g cap, v' = .slice (some ⟨g, 0, none⟩) (n + m) cap ∧ (v.ownBlock = some g ∨ w.heap.size ≤ g) ∧ g < w'.heap.size ∧ Keep (fun b => b ≠ g) w w' := by
  obtain ⟨ht, hsz, hby, i, z, hi, hz, hsize, hbytes, hzs⟩ := hE
  subst hsize
  subst hbytes
  have hb47 : (n + m) * i.bytes ≤ 140737488355328 := Nat.le_trans (Nat.mul_le_mul hnm hby) (by decide)
  have h63 : n + m ≤ maxLen := by simp only [maxLen]; omega
  have hlen : (xs ++ news).length = (n + m) * i.size := by rw [List.length_append, hown.1, hl, Nat.add_mul]
  have grown : ∀ (old : Nat), old < n + m → ∀ (row : Option Nat),
      (w.drew.alloc (.cells (xs.toArray ++ news.toArray ++ Builtin.zeroCells z.cells (grownCap w (n + m) old e - (n + m))) e)).ownsRow base e i.size
        (.slice (some ⟨w.heap.size, 0, none⟩) (n + m) (grownCap w (n + m) old e)) (n + m) (xs ++ news) ∧
      w.grownBy (w.drew.alloc (.cells (xs.toArray ++ news.toArray ++ Builtin.zeroCells z.cells (grownCap w (n + m) old e - (n + m))) e)) row := by
    intro old ho row
    have hge := grownCap_ge w (n + m) old e
    have hcm : grownCap w (n + m) old e ≤ maxLen := grownCap_le_maxLen w (n + m) old e h63
    refine ⟨⟨hlen, .inr ⟨w.heap.size, _, _, rfl, hbase, World.alloc_heap_new w.drew _, hge, hcm, ?_, ?_⟩⟩, ⟨rfl, rfl, rfl, by simp, fun k hk _ => Below.heap_alloc w.drew _ k hk⟩⟩
    · simp only [Array.size_append, List.size_toArray, size_zeroCells, hzs, hown.1, hl, ← Nat.add_mul]
      congr 1
      omega
    · simp only [Array.toList_append, List.append_assoc]
      rw [← List.append_assoc, ← hlen]
      exact List.take_left
  rcases hown.2 with ⟨rfl, rfl⟩ | ⟨g, cap, cur, rfl, hbg, hg, hnc, hcm, hcs, htake⟩
  · have hx : xs = [] := List.eq_nil_of_length_eq_zero (by simpa using hown.1)
    subst hx
    have hr := run_append_nil (P := P) w t ty e i z ht hi hz a m c news hl hnews (by omega) (by omega) (by have hb := hb47; simp only [Nat.zero_add] at hb; omega)
    have hgr := grown 0 (by omega) none
    simp only [Nat.zero_add, List.nil_append, Array.empty_append] at hgr ⊢
    exact ⟨_, _, hr, hgr.1, _, _, rfl, .inr (Nat.le_refl _), by simp, (Keep.of_grown hgr.2).mono fun _ _ _ => by simp⟩
  · by_cases hroom : n + m ≤ cap
    · have hfit : n * i.size + news.length ≤ cur.size := by rw [hl, hcs, ← Nat.add_mul]; exact Nat.mul_le_mul_right _ hroom
      have hr := run_append_room (P := P) w t ty e i ht hi g n cap cur hg a m c news hl hnews h1 hroom hfit
      have hG : w.grownBy (w.setRow g (cur.toList.take (n * i.size) ++ news ++ cur.toList.drop (n * i.size + news.length)).toArray) (some g) := ⟨rfl, rfl, rfl, by simp, fun k _ hk => setRow_other w g k _ (fun e => hk (by simp [e]))⟩
      refine ⟨_, _, hr, ⟨hlen, .inr ⟨g, cap, _, rfl, hbg, setRow_heap w g cur _ e _ hg, hroom, hcm, ?_, ?_⟩⟩, g, cap, rfl, .inl rfl, ?_, (Keep.of_grown hG).mono fun _ _ h => by simpa using h⟩
      · simp only [List.size_toArray, List.length_append, List.length_take, List.length_drop, Array.length_toList]
        omega
      · rw [htake, ← hlen]
        exact List.take_left
      · exact Nat.lt_of_lt_of_le (heap_lt hg) hG.size
    · have holds : ∀ j u, xs[j]? = some u → w.cell? ((⟨g, 0, none⟩ : Addr).add j) = some u := hown.cells (g := g) rfl
      have hr := run_append_grow (P := P) w t ty e i z ht hi hz ⟨g, 0, none⟩ n cap xs hown.1 holds a m c news hl hnews (by omega) (by omega) (growslice_fits (by omega) hb47)
      have hgr := grown cap (by omega) none
      exact ⟨_, _, hr, hgr.1, _, _, rfl, .inr (Nat.le_refl _), by simp, (Keep.of_grown hgr.2).mono fun _ _ _ => by simp⟩


/-- nothing is appended -/
theorem append_zero {t e : TypeId} {size bytes : Nat} (hE : ElemOf P t e size bytes) (ty : TypeId) (w : World) (b : Option Addr) (n cap : Nat) (hle : n ≤ cap) (a : Option Addr) (c : Nat) :
    (Builtin.append_ #[t, t] ty #[.slice b n cap, .slice a 0 c]).run P w = .ok (.slice b n cap) w := by
  obtain ⟨ht, hsz, hby, i, z, hi, hz, hsize, hbytes, hzs⟩ := hE
  cases a <;> cases b <;> simp [Builtin.append_, run_underlying ht, sizeOf, typeInfo, hi, Builtin.lenOf, Builtin.firstCells, loadCells, loadCellsFrom, hle, storeCells]
/-- 'append(s, l...)', the list maybe empty -/
theorem appA {t e : TypeId} {size bytes : Nat} (hE : ElemOf P t e size bytes) (ty : TypeId) {w : World} {base : Nat} {v : Value} {n : Nat} {xs : List Value} (hown : w.ownsRow base e size v n xs)
    (a : Option Addr) (m c : Nat) (news : List Value) (hl : news.length = m * size) (hnews : ∀ b, a = some b → ∀ j u, news[j]? = some u → w.cell? (b.add j) = some u) (hn : a = none → m = 0) (h1 : ∀ u ∈ news, u.oneCell' = true)
    (hnm : n + m ≤ 8589934592) (hbase : base ≤ w.heap.size) :
    ∃ v' w', (Builtin.append_ #[t, t] ty #[v, .slice a m c]).run P w = .ok v' w' ∧ w'.ownsRow base e size v' (n + m) (xs ++ news) ∧ (∀ g, v'.ownBlock = some g → v.ownBlock = some g ∨ w.heap.size ≤ g) ∧ Keep (fun b => v'.ownBlock ≠ some b) w w' := by
  by_cases h0 : m = 0
  · subst h0
    have : news = [] := List.eq_nil_of_length_eq_zero (by simpa using hl)
    subst this
    rw [List.append_nil]
    have hv : ∃ b n' cap, v = .slice b n' cap ∧ n' ≤ cap := by
      rcases hown.2 with ⟨e1, e2⟩ | ⟨g, cap, cur, e1, e2, e3, e4, e5, _⟩
      · exact ⟨none, 0, 0, e1, Nat.le_refl _⟩
      · exact ⟨_, _, _, e1, e4⟩
    obtain ⟨b, n', cap, rfl, hle⟩ := hv
    exact ⟨_, _, append_zero hE ty w b n' cap hle a c, hown, fun g hg => .inl hg, Keep.refl _ _⟩
  · cases a with
    | none => exact absurd (hn rfl) h0
    | some ad =>
      obtain ⟨v', w', hr, ho, g, cap, hv, hg, hlt, hK⟩ := appK hE ty hown ad m c news hl (hnews ad rfl) h1 (by omega) hnm hbase
      refine ⟨v', w', hr, ho, fun g' hg' => ?_, hK.mono fun b _ h e => h ?_⟩
      · rw [hv] at hg'; simp only [Value.ownBlock, Option.some.injEq] at hg'; subst hg'; exact hg
      · rw [hv, e]; rfl

end Go.Ink

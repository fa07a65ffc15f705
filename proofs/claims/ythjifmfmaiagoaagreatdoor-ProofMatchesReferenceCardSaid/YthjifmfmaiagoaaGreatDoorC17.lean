/- C17: texts R5 L0 L9. -/
import Derived.Test.YthjifmfmaiagoaaGreatDoorC02
import Derived.Test.YthjifmfmaiagoaaGreatDoorC06
import Derived.Test.YthjifmfmaiagoaaGreatDoorC13
import Derived.Test.YthjifmfmaiagoaaGreatDoorC14
set_option linter.all false

/- The references: Less, costs, Valid. -/
namespace Go.Proofs.YthjifmfmaiagoaaGreatDoor
open Go.RowKit

set_option maxHeartbeats 800000 in
/-- Less. -/
theorem f61_any (A A' : Option Addr) (n c n' c' : Nat) (a b : List Int) (w : World) (hr : RI w A n c a) (hr' : RI w A' n' c' b) :
    Calls Tryz.prog 61 #[.slice A n c, .slice A' n' c'] w fun e w' => e = .returned (.bool (decide (lexCmp a b < 0))) ∧ ∃ q, w' = w.drewN q := by
  have hn := hr.lenle
  have hn' := hr'.lenle
  have hc := hr.cell
  have hc' := hr'.cell
  have HL : Hid (a.length = n ∧ b.length = n') := ⟨hr.len, hr'.len⟩
  clear hr hr'
  go_enter Tryz.func61, Tryz.ntmps61
  go_wp2
  go_loopg [5] n (fun gg s5 wr => ∃ ii q : Nat, ii ≤ n ∧ n - ii ≤ gg ∧ s5 = .int .i64 ii ∧ wr = w.drewN q ∧ Aside (∀ j, j < ii → nth a j = nth b j))
  case atStart => exact ⟨0, 0, Nat.zero_le _, by omega, rfl, rfl, fun j hj => absurd hj (Nat.not_lt_zero _)⟩
  case round =>
    obtain ⟨ii, q, hii, hg, rfl, rfl, AA⟩ := hrel
    by_cases hlt : ii < n
    · have hltz : (ii : Int) < (n : Int) := by omega
      by_cases hlk : ii < n'
      · have hlkz : (ii : Int) < (n' : Int) := by omega
        obtain ⟨ad, rfl, hcell⟩ := hc ii hlt
        obtain ⟨ad', rfl, hcell'⟩ := hc' ii hlk
        clear hc hc'
        have HX : Hid (∀ x y, nth a ii = x → nth b ii = y → x ≠ y → decide (lexCmp a b < 0) = decide (x < y)) := by
          rintro x y rfl rfl h
          exact decide_eq_decide.2 (lex_at (by have := HL.out; omega) (by have := HL.out; omega) (fun j hj => AA.out j hj) h)
        generalize hx : nth a ii = x at hcell
        generalize hy : nth b ii = y at hcell'
        have HY : Hid (nth a ii = x ∧ nth b ii = y) := ⟨hx, hy⟩
        clear hx hy
        by_cases hxy : x = y
        · have d : (x == y) = true := by simpa using hxy
          have HE := hid hxy
          clear hxy
          go_wp2
          go_quiet (fail)
          go_wp2
          go_roundg (n - (ii + 1))
          case measure => omega
          case rel =>
            refine ⟨ii + 1, _, by omega, by omega, by go_num, by first | rfl | (simp [World.drewN_drewN]; rfl), (show Aside _ from fun j hj => ?_)⟩
            rcases Nat.lt_or_ge j ii with h1 | h1
            · exact AA.out j h1
            · obtain rfl : j = ii := by omega
              rw [HY.out.1, HY.out.2]
              exact HE.out
        · have d : (x == y) = false := by simpa using hxy
          have HF := hid (HX.out x y HY.out.1 HY.out.2 hxy)
          clear hxy
          go_wp2
          go_quiet (fail)
          go_wp2
          go_quiet (fail)
          go_wp2
          go_ret
          exact ⟨ret_bool HF.out.symm, _, by first | rfl | (simp [World.drewN_drewN]; rfl)⟩
      · have hlkz : ¬ (ii : Int) < (n' : Int) := by omega
        clear hc hc'
        have HF : Hid (decide (lexCmp a b < 0) = decide (n < n')) := hid (by
          rw [decide_eq_decide, lex_len (fun j h1 h2 => AA.out j (by have := HL.out; omega)), HL.out.1, HL.out.2])
        go_wp2
        go_ret
        exact ⟨ret_bool HF.out.symm, q, rfl⟩
    · have hltz : ¬ (ii : Int) < (n : Int) := by omega
      clear hc hc'
      have HF : Hid (decide (lexCmp a b < 0) = decide (n < n')) := hid (by
        rw [decide_eq_decide, lex_len (fun j h1 h2 => AA.out j (by have := HL.out; omega)), HL.out.1, HL.out.2])
      go_wp2
      go_ret
      exact ⟨ret_bool HF.out.symm, q, rfl⟩

theorem weighed_bad {N : Int} {l : List Int} {i : Nat} (hi : i < l.length) (h : badCost (nth l i) = true) : weighedB N l = false := by
  unfold weighedB
  rw [List.any_eq_true.2 ⟨i, List.mem_range.2 hi, h⟩]
  simp
set_option maxHeartbeats 800000 in
/-- costs. -/
theorem f105_any (A : Option Addr) (n c : Nat) (N : Int) (l : List Int) (w : World) (hr : RI w A n c l) :
    Calls Tryz.prog 105 #[.int .i64 N, .slice A n c] w fun e w' => e = .returned (.bool (weighedB N l)) ∧ w = w' := by
  have hn := hr.lenle
  have hc := hr.cell
  have HL : Hid (l.length = n) := hr.len
  clear hr
  by_cases h0 : N < 0
  · have HF : Hid (weighedB N l = false) := hid (by unfold weighedB; rw [decide_eq_false (show ¬ 0 ≤ N by omega)]; rfl)
    clear hc
    go_enter Tryz.func105, Tryz.ntmps105
    go_wp2
    go_ret
    exact ⟨ret_bool HF.out.symm, rfl⟩
  by_cases h1 : 4000 < N
  · have HF : Hid (weighedB N l = false) := hid (by unfold weighedB; rw [decide_eq_false (show ¬ N ≤ 4000 by omega)]; simp)
    have d1 : decide (N > 4000) = true := decide_eq_true (by omega)
    clear hc
    go_enter Tryz.func105, Tryz.ntmps105
    go_wp2
    go_ret
    exact ⟨ret_bool HF.out.symm, rfl⟩
  have d1 : decide (N > 4000) = false := decide_eq_false (by omega)
  by_cases h2 : (n : Int) = N
  · have d2 : ((n : Int) == N) = true := by simpa using h2
    subst h2
    have HG : Hid (n ≤ 4000) := hid (by omega)
    go_enter Tryz.func105, Tryz.ntmps105
    go_wp2
    go_loopg [5] n (fun gg s5 wr => ∃ kk : Nat, kk ≤ n ∧ n - kk ≤ gg ∧ s5 = .int .i64 kk ∧ w = wr ∧ Aside (∀ j, j < kk → badCost (nth l j) = false))
    case atStart => exact ⟨0, Nat.zero_le _, by omega, rfl, rfl, fun j hj => absurd hj (Nat.not_lt_zero _)⟩
    case round =>
      obtain ⟨kk, hkk, hg, rfl, rfl, AA⟩ := hrel
      by_cases hlt : kk < n
      · have hltz : (kk : Int) < (n : Int) := by omega
        obtain ⟨ad, rfl, hcell⟩ := hc kk hlt
        clear hc
        have HB : Hid (badCost (nth l kk) = true → weighedB (n : Int) l = false) := fun h => weighed_bad (by have := HL.out; omega) h
        generalize hy : nth l kk = y at hcell HB
        have HY := hid hy
        clear hy
        by_cases hx : y < 0
        · have HF : Hid (weighedB (n : Int) l = false) := HB.out (by unfold badCost; rw [decide_eq_true hx]; rfl)
          go_wp2
          go_ret
          exact ⟨ret_bool HF.out.symm, rfl⟩
        · by_cases hx' : 1000000000 < y
          · have HF : Hid (weighedB (n : Int) l = false) := HB.out (by unfold badCost; rw [decide_eq_true hx']; simp)
            have d3 : decide (y > 1000000000) = true := decide_eq_true (by omega)
            go_wp2
            go_ret
            exact ⟨ret_bool HF.out.symm, rfl⟩
          · have HF : Hid (badCost y = false) := by unfold badCost; rw [decide_eq_false hx, decide_eq_false hx']; rfl
            have d3 : decide (y > 1000000000) = false := decide_eq_false (by omega)
            go_wp2
            go_roundg (n - (kk + 1))
            case measure => omega
            case rel =>
              refine ⟨kk + 1, by omega, by omega, by go_num, rfl, (show Aside _ from fun j hj => ?_)⟩
              rcases Nat.lt_or_ge j kk with h1 | h1
              · exact AA.out j h1
              · obtain rfl : j = kk := by omega
                rw [HY.out]
                exact HF.out
      · have hltz : ¬ (kk : Int) < (n : Int) := by omega
        clear hc
        have HF : Hid (weighedB (n : Int) l = true) := by
          refine hid ?_
          unfold weighedB
          have := HL.out
          have := HG.out
          rw [decide_eq_true (show (0 : Int) ≤ (n : Int) by omega), decide_eq_true (show (n : Int) ≤ 4000 by omega), decide_eq_true (show (l.length : Int) = (n : Int) by omega), List.any_eq_false.2 (fun i hi => by
            rw [AA.out i (by have := List.mem_range.1 hi; omega)]
            simp)]
          rfl
        go_wp2
        go_ret
        exact ⟨ret_bool HF.out.symm, rfl⟩
  · have d2 : ((n : Int) == N) = false := by simpa using h2
    have HF : Hid (weighedB N l = false) := by
      refine hid ?_
      unfold weighedB
      rw [decide_eq_false (show ¬ (l.length : Int) = N by have := HL.out; omega)]
      simp
    clear hc
    go_enter Tryz.func105, Tryz.ntmps105
    go_wp2
    go_ret
    exact ⟨ret_bool HF.out.symm, rfl⟩

set_option maxHeartbeats 4000000 in
/-- Valid. -/
theorem f39_any (CA EA : Option Addr) (cn cc en ec : Nat) (g : Graph) (w : World) (hr : RG w CA cn cc EA en ec g) :
    Calls Tryz.prog 39 #[.agg #[.int .i64 g.n, .slice CA cn cc, .slice EA en ec]] w fun e w' => e = .returned (.bool (decide (Valid g))) ∧ Ext w w' := by
  obtain ⟨N, cost, edges⟩ := g
  simp only [] at *
  have hx0 : Ext w (w.alloc (.cells #[.int .i64 N, .slice CA cn cc, .slice EA en ec] 25)) := (by repeat' (first | exact Ext.refl _ | assumption | apply Ext.alloc | apply Ext.drewN | apply Ext.drew))
  have hr0 := hr.ext hx0
  have K105 := f105_any CA cn cc N cost (w.alloc (.cells #[.int .i64 N, .slice CA cn cc, .slice EA en ec] 25)) hr0.cost
  have HX := hid hx0
  have HL : Hid (edges.length = en) := hr0.edges.len
  have hen := hr0.edges.lenle
  have HR := hid hr0
  have hb0 : ((w.alloc (.cells #[.int .i64 N, .slice CA cn cc, .slice EA en ec] 25))).cell? ⟨w.heap.size, 0, none⟩ = some (.int .i64 N) := by simp
  have hb1 : ((w.alloc (.cells #[.int .i64 N, .slice CA cn cc, .slice EA en ec] 25))).cell? ⟨w.heap.size, 1, none⟩ = some (.slice CA cn cc) := by simp
  have hb2 : ((w.alloc (.cells #[.int .i64 N, .slice CA cn cc, .slice EA en ec] 25))).cell? ⟨w.heap.size, 2, none⟩ = some (.slice EA en ec) := by simp
  clear hx0 hr0 hr
  cases hw : weighedB N cost with
  | false =>
    rw [hw] at K105
    have HF : Hid (¬ Valid ⟨N, cost, edges⟩) := fun h => by have := h.1; unfold Costs at this; rw [hw] at this; cases this
    clear hw hb0 hb1 hb2
    go_enter Tryz.func39, Tryz.ntmps39
    go_wp2_with (go_at_call 105; refine K105.mono ?_; rintro e w1 ⟨rfl, rfl⟩)
    go_ret
    exact ⟨ret_bool (decide_eq_false HF.out).symm, HX.out⟩
  | true =>
    rw [hw] at K105
    have HW := hid hw
    clear hw
    by_cases h1 : 20000 < en
    · have d1 : decide ((en : Int) > 20000) = true := decide_eq_true (by omega)
      have HF : Hid (¬ Valid ⟨N, cost, edges⟩) := fun h => by have := h.2.1; have := HL.out; simp only [] at *; omega
      clear hb0 hb1 hb2
      go_enter Tryz.func39, Tryz.ntmps39
      go_wp2_with (go_at_call 105; refine K105.mono ?_; rintro e w1 ⟨rfl, rfl⟩)
      go_ret
      exact ⟨ret_bool (decide_eq_false HF.out).symm, HX.out⟩
    · have d1 : decide ((en : Int) > 20000) = false := decide_eq_false (by omega)
      have HB : Hid (en ≤ 20000) := hid (by omega)
      go_enter Tryz.func39, Tryz.ntmps39
      go_wp2_with (go_at_call 105; refine K105.mono ?_; rintro e w1 ⟨rfl, rfl⟩)
      clear K105
      generalize (w.alloc (.cells #[.int .i64 N, .slice CA cn cc, .slice EA en ec] 25)) = w0 at HX HR hb0 hb1 hb2 ⊢
      go_loopg [3, 4, 5] en (fun gg s3 s4 s5 wr => ∃ ii q : Nat, ii ≤ en ∧ en - ii ≤ gg ∧ s3 = .int .i64 ii ∧ wr = w0.drewN q ∧ Aside (∀ i, i < ii → RowOk ⟨N, cost, edges⟩ i ∧ ∀ k, k < en → k ≠ i → isSub (row edges k) (row edges i) = false))
      case atStart => exact ⟨0, 0, Nat.zero_le _, by omega, rfl, rfl, fun j hj => absurd hj (Nat.not_lt_zero _)⟩
      case round =>
        obtain ⟨ii, q, hii, hg, rfl, rfl, AA⟩ := hrel
        by_cases hlt : ii < en
        · have hltz : (ii : Int) < (en : Int) := by omega
          have HI := hid hlt
          obtain ⟨ad, B, m, d, rfl, hcell, hri⟩ := HR.out.edges.cell ii hlt
          have HRI := hid hri
          have hmm := hri.lenle
          have HM : Hid ((row edges ii).length = m) := hri.len
          have HF : Hid (¬ RowOk ⟨N, cost, edges⟩ ii → decide (Valid ⟨N, cost, edges⟩) = false) := fun h => decide_eq_false fun hv => h ((valid_iff.1 hv).2.2 ii (by have := HL.out; simp only [] at *; omega)).1
          have K106 : Hid (∀ W, Ext w0 W → Calls Tryz.prog 106 #[.slice B m d, .int .i64 N] W fun e w' => e = .returned (.bool (decide (Verts (row edges ii) N))) ∧ ∃ q, w' = W.drewN q) := fun W hW => f106_any B m d _ N W (HRI.out.ext hW)
          clear hri
          rcases Nat.eq_zero_or_pos m with h0 | h0
          · subst h0
            clear K106
            go_wp2
            go_ret
            refine ⟨ret_bool (HF.out fun h => h.1 (List.length_eq_zero_iff.1 HM.out)).symm, HX.out.trans (by repeat' (first | exact Ext.refl _ | assumption | apply Ext.alloc | apply Ext.drewN | apply Ext.drew))⟩
          · have d0 : ((m : Int) == 0) = false := by simpa using (show ¬ (m : Int) = 0 by omega)
            have HM0 := hid h0
            by_cases hv : Verts (row edges ii) N
            · rw [decide_eq_true hv] at K106
              have HV := hid hv
              clear hv
              rcases Nat.eq_zero_or_pos ii with hi0 | hi0
              · have HI0 := hid hi0
                have di : decide ((ii : Int) > 0) = false := decide_eq_false (by omega)
                have din : ¬ 0 < ii := by omega
                clear hi0
                have HOK : Hid (RowOk ⟨N, cost, edges⟩ ii) := ⟨fun h => by have := HM.out; simp only [] at h; rw [h] at this; simp at this; have := HM0.out; omega, HV.out, fun h => by have := HI0.out; omega⟩
                go_wp2_with (go_at_call 106; (with_reducible refine (K106.out _ (by repeat' (first | exact Ext.refl _ | assumption | apply Ext.alloc | apply Ext.drewN | apply Ext.drew))).mono ?_); rintro e w1 ⟨rfl, q1, rfl⟩)
                clear K106 HF
                go_loopg [5] en (fun g2 s5 wr2 => ∃ kk q2 : Nat, kk ≤ en ∧ en - kk ≤ g2 ∧ s5 = .int .i64 kk ∧ wr2 = w0.drewN q2 ∧ Aside (∀ k, k < kk → k ≠ ii → isSub (row edges k) (row edges ii) = false))
                case atStart => exact ⟨0, _, Nat.zero_le _, by omega, rfl, by first | rfl | (simp [World.drewN_drewN]; rfl), fun j hj => absurd hj (Nat.not_lt_zero _)⟩
                case round =>
                  obtain ⟨kk, q2, hkk, hg2, rfl, rfl, A2⟩ := hrel
                  by_cases hlk : kk < en
                  · have hlkz : (kk : Int) < (en : Int) := by omega
                    by_cases hki : kk = ii
                    · have d1 : ((kk : Int) == (ii : Int)) = true := by simpa using (show (kk : Int) = (ii : Int) by omega)
                      have d1n : (kk == ii) = true := by simpa using hki
                      have d1b : (kk != ii) = false := by simpa using hki
                      have d1c : ((kk : Int) = (ii : Int)) = True := eq_true (by omega)
                      have HKI := hid hki
                      clear hki
                      go_wp2
                      go_roundg (en - (kk + 1))
                      case measure => omega
                      case rel =>
                        refine ⟨kk + 1, q2, by omega, by omega, by go_num, rfl, (show Aside _ from fun j hj hne => ?_)⟩
                        rcases Nat.lt_or_ge j kk with h1 | h1
                        · exact A2.out j h1 hne
                        · exact absurd (show j = ii by have := HKI.out; omega) hne
                    · have d1 : ((kk : Int) == (ii : Int)) = false := by simpa using (show ¬ (kk : Int) = (ii : Int) by omega)
                      obtain ⟨ad2, B2, m2, dd2, hEA, hcell2, hri2⟩ := HR.out.edges.cell kk hlk
                      cases hEA
                      have K94 : Hid (∀ W, Ext w0 W → Calls Tryz.prog 94 #[.slice B m d, .slice B2 m2 dd2] W fun e w' => e = .returned (.bool (isSub (row edges kk) (row edges ii))) ∧ ∃ q, w' = W.drewN q) := fun W hW => f94_any B B2 m d m2 dd2 _ _ W (HRI.out.ext hW) (hri2.ext hW)
                      have d1n : (kk == ii) = false := by simpa using hki
                      have d1b : (kk != ii) = true := by simpa using hki
                      have HKI := hid hki
                      have HKE := hid hlk
                      clear hri2
                      cases hs : isSub (row edges kk) (row edges ii) with
                      | true =>
                        rw [hs] at K94
                        have HS := hid hs
                        clear hs
                        go_wp2_with (go_at_call 94; (with_reducible refine (K94.out _ (by repeat' (first | exact Ext.refl _ | assumption | apply Ext.alloc | apply Ext.drewN | apply Ext.drew))).mono ?_); rintro e w1 ⟨rfl, q4, rfl⟩)
                        go_ret
                        refine ⟨ret_bool (decide_eq_false fun hv => ?_).symm, HX.out.trans (by repeat' (first | exact Ext.refl _ | assumption | apply Ext.alloc | apply Ext.drewN | apply Ext.drew))⟩
                        have := ((valid_iff.1 hv).2.2 ii (by have := HL.out; have := HI.out; simp only [] at *; omega)).2 kk (by have := HL.out; have := HKE.out; simp only [] at *; omega) HKI.out
                        rw [HS.out] at this
                        cases this
                      | false =>
                        rw [hs] at K94
                        have HS := hid hs
                        clear hs
                        go_wp2_with (go_at_call 94; (with_reducible refine (K94.out _ (by repeat' (first | exact Ext.refl _ | assumption | apply Ext.alloc | apply Ext.drewN | apply Ext.drew))).mono ?_); rintro e w1 ⟨rfl, q4, rfl⟩)
                        go_roundg (en - (kk + 1))
                        case measure => omega
                        case rel =>
                          refine ⟨kk + 1, _, by omega, by omega, by go_num, by first | rfl | (simp [World.drewN_drewN]; rfl), (show Aside _ from fun j hj hne => ?_)⟩
                          rcases Nat.lt_or_ge j kk with h1 | h1
                          · exact A2.out j h1 hne
                          · obtain rfl : j = kk := by omega
                            exact HS.out
                  · have hlkz : ¬ (kk : Int) < (en : Int) := by omega
                    go_wp2
                    go_roundg (en - (ii + 1))
                    case measure => omega
                    case rel =>
                      refine ⟨ii + 1, q2, by omega, by omega, by go_num, rfl, (show Aside _ from fun j hj => ?_)⟩
                      rcases Nat.lt_or_ge j ii with h1 | h1
                      · exact AA.out j h1
                      · obtain rfl : j = ii := by omega
                        exact ⟨HOK.out, fun k hk hne => A2.out k (by omega) hne⟩
              · have di : decide ((ii : Int) > 0) = true := decide_eq_true (by omega)
                obtain ⟨ad1, B1, m1, dd1, hEA, hcell1, hri1⟩ := HR.out.edges.cell (ii - 1) (by omega)
                cases hEA
                have K61 : Hid (∀ W, Ext w0 W → Calls Tryz.prog 61 #[.slice B1 m1 dd1, .slice B m d] W fun e w' => e = .returned (.bool (decide (lexCmp (row edges (ii - 1)) (row edges ii) < 0))) ∧ ∃ q, w' = W.drewN q) := fun W hW => f61_any B1 B m1 dd1 m d _ _ W (hri1.ext hW) (HRI.out.ext hW)
                clear hri1
                have e1 : IntKind.i64.wrap ((ii : Int) - 1) = (ii : Int) - 1 := IntWalk.i64_in _ (by omega)
                have e2 : (0 : Int) ≤ (ii : Int) - 1 := by omega
                have e3 : ((ii : Int) - 1).toNat = ii - 1 := by omega
                have e4 : (ii : Int) - 1 < (en : Int) := by omega
                by_cases hlx : lexCmp (row edges (ii - 1)) (row edges ii) < 0
                · rw [decide_eq_true hlx] at K61
                  have HLX := hid hlx
                  clear hlx
                  have HOK : Hid (RowOk ⟨N, cost, edges⟩ ii) := ⟨fun h => by have := HM.out; simp only [] at h; rw [h] at this; simp at this; have := HM0.out; omega, HV.out, fun _ => HLX.out⟩
                  go_wp2_with (first
                    | (go_at_call 106; (with_reducible refine (K106.out _ (by repeat' (first | exact Ext.refl _ | assumption | apply Ext.alloc | apply Ext.drewN | apply Ext.drew))).mono ?_); rintro e w1 ⟨rfl, q1, rfl⟩)
                    | (go_at_call 61; (with_reducible refine (K61.out _ (by repeat' (first | exact Ext.refl _ | assumption | apply Ext.alloc | apply Ext.drewN | apply Ext.drew))).mono ?_); rintro e w1 ⟨rfl, q3, rfl⟩))
                  clear K106 HF K61 e1 e2 e3 e4 hcell1
                  go_loopg [5] en (fun g2 s5 wr2 => ∃ kk q2 : Nat, kk ≤ en ∧ en - kk ≤ g2 ∧ s5 = .int .i64 kk ∧ wr2 = w0.drewN q2 ∧ Aside (∀ k, k < kk → k ≠ ii → isSub (row edges k) (row edges ii) = false))
                  case atStart => exact ⟨0, _, Nat.zero_le _, by omega, rfl, by first | rfl | (simp [World.drewN_drewN]; rfl), fun j hj => absurd hj (Nat.not_lt_zero _)⟩
                  case round =>
                    obtain ⟨kk, q2, hkk, hg2, rfl, rfl, A2⟩ := hrel
                    by_cases hlk : kk < en
                    · have hlkz : (kk : Int) < (en : Int) := by omega
                      by_cases hki : kk = ii
                      · have d1 : ((kk : Int) == (ii : Int)) = true := by simpa using (show (kk : Int) = (ii : Int) by omega)
                        have d1n : (kk == ii) = true := by simpa using hki
                        have d1b : (kk != ii) = false := by simpa using hki
                        have d1c : ((kk : Int) = (ii : Int)) = True := eq_true (by omega)
                        have HKI := hid hki
                        clear hki
                        go_wp2
                        go_roundg (en - (kk + 1))
                        case measure => omega
                        case rel =>
                          refine ⟨kk + 1, q2, by omega, by omega, by go_num, rfl, (show Aside _ from fun j hj hne => ?_)⟩
                          rcases Nat.lt_or_ge j kk with h1 | h1
                          · exact A2.out j h1 hne
                          · exact absurd (show j = ii by have := HKI.out; omega) hne
                      · have d1 : ((kk : Int) == (ii : Int)) = false := by simpa using (show ¬ (kk : Int) = (ii : Int) by omega)
                        obtain ⟨ad2, B2, m2, dd2, hEA, hcell2, hri2⟩ := HR.out.edges.cell kk hlk
                        cases hEA
                        have K94 : Hid (∀ W, Ext w0 W → Calls Tryz.prog 94 #[.slice B m d, .slice B2 m2 dd2] W fun e w' => e = .returned (.bool (isSub (row edges kk) (row edges ii))) ∧ ∃ q, w' = W.drewN q) := fun W hW => f94_any B B2 m d m2 dd2 _ _ W (HRI.out.ext hW) (hri2.ext hW)
                        have d1n : (kk == ii) = false := by simpa using hki
                        have d1b : (kk != ii) = true := by simpa using hki
                        have HKI := hid hki
                        have HKE := hid hlk
                        clear hri2
                        cases hs : isSub (row edges kk) (row edges ii) with
                        | true =>
                          rw [hs] at K94
                          have HS := hid hs
                          clear hs
                          go_wp2_with (go_at_call 94; (with_reducible refine (K94.out _ (by repeat' (first | exact Ext.refl _ | assumption | apply Ext.alloc | apply Ext.drewN | apply Ext.drew))).mono ?_); rintro e w1 ⟨rfl, q4, rfl⟩)
                          go_ret
                          refine ⟨ret_bool (decide_eq_false fun hv => ?_).symm, HX.out.trans (by repeat' (first | exact Ext.refl _ | assumption | apply Ext.alloc | apply Ext.drewN | apply Ext.drew))⟩
                          have := ((valid_iff.1 hv).2.2 ii (by have := HL.out; have := HI.out; simp only [] at *; omega)).2 kk (by have := HL.out; have := HKE.out; simp only [] at *; omega) HKI.out
                          rw [HS.out] at this
                          cases this
                        | false =>
                          rw [hs] at K94
                          have HS := hid hs
                          clear hs
                          go_wp2_with (go_at_call 94; (with_reducible refine (K94.out _ (by repeat' (first | exact Ext.refl _ | assumption | apply Ext.alloc | apply Ext.drewN | apply Ext.drew))).mono ?_); rintro e w1 ⟨rfl, q4, rfl⟩)
                          go_roundg (en - (kk + 1))
                          case measure => omega
                          case rel =>
                            refine ⟨kk + 1, _, by omega, by omega, by go_num, by first | rfl | (simp [World.drewN_drewN]; rfl), (show Aside _ from fun j hj hne => ?_)⟩
                            rcases Nat.lt_or_ge j kk with h1 | h1
                            · exact A2.out j h1 hne
                            · obtain rfl : j = kk := by omega
                              exact HS.out
                    · have hlkz : ¬ (kk : Int) < (en : Int) := by omega
                      go_wp2
                      go_roundg (en - (ii + 1))
                      case measure => omega
                      case rel =>
                        refine ⟨ii + 1, q2, by omega, by omega, by go_num, rfl, (show Aside _ from fun j hj => ?_)⟩
                        rcases Nat.lt_or_ge j ii with h1 | h1
                        · exact AA.out j h1
                        · obtain rfl : j = ii := by omega
                          exact ⟨HOK.out, fun k hk hne => A2.out k (by omega) hne⟩
                · rw [decide_eq_false hlx] at K61
                  have HLX := hid hlx
                  have HI1 := hid hi0
                  clear hlx
                  go_wp2_with (first
                    | (go_at_call 106; (with_reducible refine (K106.out _ (by repeat' (first | exact Ext.refl _ | assumption | apply Ext.alloc | apply Ext.drewN | apply Ext.drew))).mono ?_); rintro e w1 ⟨rfl, q1, rfl⟩)
                    | (go_at_call 61; (with_reducible refine (K61.out _ (by repeat' (first | exact Ext.refl _ | assumption | apply Ext.alloc | apply Ext.drewN | apply Ext.drew))).mono ?_); rintro e w1 ⟨rfl, q3, rfl⟩))
                  go_ret
                  refine ⟨ret_bool (HF.out fun h => (by have h2 := HLX.out; have h3 := h.2.2 (by have := HI1.out; omega); simp only [] at h2 h3; omega)).symm, HX.out.trans (by repeat' (first | exact Ext.refl _ | assumption | apply Ext.alloc | apply Ext.drewN | apply Ext.drew))⟩
            · rw [decide_eq_false hv] at K106
              have HV := hid hv
              clear hv
              go_wp2_with (go_at_call 106; (with_reducible refine (K106.out _ (by repeat' (first | exact Ext.refl _ | assumption | apply Ext.alloc | apply Ext.drewN | apply Ext.drew))).mono ?_); rintro e w1 ⟨rfl, q1, rfl⟩)
              go_ret
              refine ⟨ret_bool (HF.out fun h => HV.out h.2.1).symm, HX.out.trans (by repeat' (first | exact Ext.refl _ | assumption | apply Ext.alloc | apply Ext.drewN | apply Ext.drew))⟩
        · have hltz : ¬ (ii : Int) < (en : Int) := by omega
          go_wp2
          go_ret
          refine ⟨ret_bool (decide_eq_true (valid_iff.2 ⟨HW.out, by have := HL.out; have := HB.out; simp only [] at *; omega, fun i hi => ?_⟩)).symm, HX.out.trans (by repeat' (first | exact Ext.refl _ | assumption | apply Ext.alloc | apply Ext.drewN | apply Ext.drew))⟩
          have hie : i < ii := by have := HL.out; simp only [] at *; omega
          have := AA.out i hie
          exact ⟨this.1, fun k hk hne => this.2 k (by have := HL.out; simp only [] at *; omega) hne⟩
end Go.Proofs.YthjifmfmaiagoaaGreatDoor

/- A row of steps of one's own, written step by step. -/
namespace Go.Proofs.YthjifmfmaiagoaaGreatDoor
open Go.RowKit

structure RowS (w : World) (T : Nat) (l : List Step) : Prop where
  cell : ∀ i, i < l.length → w.cell? ⟨T, i * 4, none⟩ = some (.int .i64 (stepv l i).kind) ∧ w.cell? ⟨T, i * 4 + 1, none⟩ = some (.int .i64 (stepv l i).at_) ∧ w.cell? ⟨T, i * 4 + 2, none⟩ = some (.int .i64 (stepv l i).in_) ∧ w.cell? ⟨T, i * 4 + 3, none⟩ = some (.int .i64 (stepv l i).out)
  fz : ∀ j, w.frozen? ⟨T, j, none⟩ = false
  lt : T < w.heap.size
theorem addz (T k : Nat) : (⟨T, 0, none⟩ : Addr).add k = ⟨T, k, none⟩ := by unfold Addr.add; split <;> simp_all
theorem RowS.rs {w : World} {T n c : Nat} {l : List Step} (h : RowS w T l) (hl : l.length = n) (hc : n ≤ c) (hb : c ≤ 9223372036854775807) : RS w (some ⟨T, 0, none⟩) n c l :=
  ⟨hl, hc, hb, fun i hi => by
    obtain ⟨h1, h2, h3, h4⟩ := h.cell i (by omega)
    exact ⟨_, rfl, by rw [addz]; exact h1, by rw [addz]; exact h2, by rw [addz]; exact h3, by rw [addz]; exact h4⟩⟩
theorem RowS.ext {w w' : World} {T : Nat} {l : List Step} (h : RowS w T l) (e : Ext w w') : RowS w' T l :=
  ⟨fun i hi => by
    obtain ⟨h1, h2, h3, h4⟩ := h.cell i hi
    exact ⟨e.cell h1, e.cell h2, e.cell h3, e.cell h4⟩, fun j => (e.frozen h.lt).trans (h.fz j), Nat.lt_of_lt_of_le h.lt e.size⟩
theorem own_rowS {W : World} {B n : Nat} {v : Value} {l : List Step} (hl : l.length = n) (h : W.ownsRow B 57 4 v n (stepVs l)) (h0 : 0 < n) : ∃ g c, v = .slice (some ⟨g, 0, none⟩) n c ∧ B ≤ g ∧ n ≤ c ∧ c ≤ 9223372036854775807 ∧ RowS W g l := by
  rcases h.2 with ⟨_, h1⟩ | ⟨g, cap, cur, rfl, h1, h2, h3, h4, h5, h6⟩
  · omega
  · refine ⟨g, cap, rfl, h1, h3, by simp only [maxLen] at h4; omega, ⟨fun i hi => ?_, fun j => by simp [World.frozen?, h2], (own_lt h rfl).1⟩⟩
    have key : ∀ r, r < 4 → ∀ u, ([.int .i64 (stepv l i).kind, .int .i64 (stepv l i).at_, .int .i64 (stepv l i).in_, .int .i64 (stepv l i).out] : List Value)[r]? = some u → W.cell? ((⟨g, 0, none⟩ : Addr).add (i * 4 + r)) = some u := fun r hr u hu =>
      h.cells (g := g) rfl (i * 4 + r) u (by rw [stepVs_at l i r (by omega) hr]; exact hu)
    have k0 := key 0 (by decide) _ rfl
    have k1 := key 1 (by decide) _ rfl
    have k2 := key 2 (by decide) _ rfl
    have k3 := key 3 (by decide) _ rfl
    rw [addz] at k0 k1 k2 k3
    exact ⟨k0, k1, k2, k3⟩
/-- Four cells are written. -/
def set4 (w : World) (T b : Nat) (v0 v1 v2 v3 : Value) : World := (((w.setCell ⟨T, b, none⟩ v0).setCell ⟨T, b + 1, none⟩ v1).setCell ⟨T, b + 2, none⟩ v2).setCell ⟨T, b + 3, none⟩ v3
theorem off_ne (T : Nat) {a b : Nat} (h : a ≠ b) : (⟨T, a, none⟩ : Addr) ≠ ⟨T, b, none⟩ := fun e => h (Addr.mk.inj e).2.1
theorem set4_other {w : World} {T b k : Nat} {v0 v1 v2 v3 : Value} (h : k < b ∨ b + 3 < k) : (set4 w T b v0 v1 v2 v3).cell? ⟨T, k, none⟩ = w.cell? ⟨T, k, none⟩ := by
  unfold set4
  rw [World.cell?_setCell_other _ _ _ _ (off_ne T (by omega)), World.cell?_setCell_other _ _ _ _ (off_ne T (by omega)), World.cell?_setCell_other _ _ _ _ (off_ne T (by omega)), World.cell?_setCell_other _ _ _ _ (off_ne T (by omega))]
theorem set4_steps {w : World} {T b : Nat} {u0 u1 u2 u3 : Value} (v0 v1 v2 v3 : Value) (h0 : w.cell? ⟨T, b, none⟩ = some u0) (h1 : w.cell? ⟨T, b + 1, none⟩ = some u1) (h2 : w.cell? ⟨T, b + 2, none⟩ = some u2) (h3 : w.cell? ⟨T, b + 3, none⟩ = some u3) :
    (w.setCell ⟨T, b, none⟩ v0).cell? ⟨T, b + 1, none⟩ = some u1 ∧ ((w.setCell ⟨T, b, none⟩ v0).setCell ⟨T, b + 1, none⟩ v1).cell? ⟨T, b + 2, none⟩ = some u2 ∧ (((w.setCell ⟨T, b, none⟩ v0).setCell ⟨T, b + 1, none⟩ v1).setCell ⟨T, b + 2, none⟩ v2).cell? ⟨T, b + 3, none⟩ = some u3 ∧
    (set4 w T b v0 v1 v2 v3).cell? ⟨T, b, none⟩ = some v0 ∧ (set4 w T b v0 v1 v2 v3).cell? ⟨T, b + 1, none⟩ = some v1 ∧ (set4 w T b v0 v1 v2 v3).cell? ⟨T, b + 2, none⟩ = some v2 ∧ (set4 w T b v0 v1 v2 v3).cell? ⟨T, b + 3, none⟩ = some v3 := by
  have a1 : (w.setCell ⟨T, b, none⟩ v0).cell? ⟨T, b + 1, none⟩ = some u1 := by rw [World.cell?_setCell_other _ _ _ _ (off_ne T (by omega))]; exact h1
  have a2 : ((w.setCell ⟨T, b, none⟩ v0).setCell ⟨T, b + 1, none⟩ v1).cell? ⟨T, b + 2, none⟩ = some u2 := by rw [World.cell?_setCell_other _ _ _ _ (off_ne T (by omega)), World.cell?_setCell_other _ _ _ _ (off_ne T (by omega))]; exact h2
  have a3 : (((w.setCell ⟨T, b, none⟩ v0).setCell ⟨T, b + 1, none⟩ v1).setCell ⟨T, b + 2, none⟩ v2).cell? ⟨T, b + 3, none⟩ = some u3 := by rw [World.cell?_setCell_other _ _ _ _ (off_ne T (by omega)), World.cell?_setCell_other _ _ _ _ (off_ne T (by omega)), World.cell?_setCell_other _ _ _ _ (off_ne T (by omega))]; exact h3
  refine ⟨a1, a2, a3, ?_, ?_, ?_, ?_⟩
  · unfold set4
    rw [World.cell?_setCell_other _ _ _ _ (off_ne T (by omega)), World.cell?_setCell_other _ _ _ _ (off_ne T (by omega)), World.cell?_setCell_other _ _ _ _ (off_ne T (by omega))]
    exact World.cell?_setCell_same _ _ _ h0
  · unfold set4
    rw [World.cell?_setCell_other _ _ _ _ (off_ne T (by omega)), World.cell?_setCell_other _ _ _ _ (off_ne T (by omega))]
    exact World.cell?_setCell_same _ _ _ a1
  · unfold set4
    rw [World.cell?_setCell_other _ _ _ _ (off_ne T (by omega))]
    exact World.cell?_setCell_same _ _ _ a2
  · exact World.cell?_setCell_same _ _ _ a3
theorem RowS.set {w : World} {T : Nat} {l : List Step} (h : RowS w T l) {i : Nat} (hi : i < l.length) (x : Step) : RowS (set4 w T (i * 4) (.int .i64 x.kind) (.int .i64 x.at_) (.int .i64 x.in_) (.int .i64 x.out)) T (l.set i x) := by
  obtain ⟨h0, h1, h2, h3⟩ := h.cell i hi
  have hs := set4_steps (.int .i64 x.kind) (.int .i64 x.at_) (.int .i64 x.in_) (.int .i64 x.out) h0 h1 h2 h3
  refine ⟨fun j hj => ?_, fun j => by unfold set4; rw [World.frozen?_setCell, World.frozen?_setCell, World.frozen?_setCell, World.frozen?_setCell]; exact h.fz j, by unfold set4; simp only [heap_setCell_size]; exact h.lt⟩
  have hj' : j < l.length := by rw [List.length_set] at hj; exact hj
  by_cases e : i = j
  · subst e
    have ex : stepv (l.set i x) i = x := by rw [stepv_eq hj, List.getElem_set_self]
    rw [ex]
    exact ⟨hs.2.2.2.1, hs.2.2.2.2.1, hs.2.2.2.2.2.1, hs.2.2.2.2.2.2⟩
  · have ex : stepv (l.set i x) j = stepv l j := by rw [stepv_eq hj, stepv_eq hj', List.getElem_set_ne e]
    rw [ex]
    obtain ⟨k0, k1, k2, k3⟩ := h.cell j hj'
    exact ⟨by rw [set4_other (by omega)]; exact k0, by rw [set4_other (by omega)]; exact k1, by rw [set4_other (by omega)]; exact k2, by rw [set4_other (by omega)]; exact k3⟩
theorem set4_ext {w0 w : World} (h : Ext w0 w) {T : Nat} (hT : w0.heap.size ≤ T) (b : Nat) (v0 v1 v2 v3 : Value) : Ext w0 (set4 w T b v0 v1 v2 v3) :=
  Below.setCell (Below.setCell (Below.setCell (Below.setCell h hT _) hT _) hT _) hT _
end Go.Proofs.YthjifmfmaiagoaaGreatDoor

/- ProofCut: the law's function returns true. -/
namespace Go.Proofs.YthjifmfmaiagoaaGreatDoor
open Go.RowKit
attribute [local go_sem] Oper.semAt_some

theorem none_cells : ∀ i, i < 1 → (#[.int .i64 5, .int .i64 0, .int .i64 0, .int .i64 0] : Array Value)[i * 4]? = some (.int .i64 (stepv noneP i).kind) ∧ (#[.int .i64 5, .int .i64 0, .int .i64 0, .int .i64 0] : Array Value)[i * 4 + 1]? = some (.int .i64 (stepv noneP i).at_) ∧ (#[.int .i64 5, .int .i64 0, .int .i64 0, .int .i64 0] : Array Value)[i * 4 + 2]? = some (.int .i64 (stepv noneP i).in_) ∧ (#[.int .i64 5, .int .i64 0, .int .i64 0, .int .i64 0] : Array Value)[i * 4 + 3]? = some (.int .i64 (stepv noneP i).out) := fun i hi => by
  match i, hi with
  | 0, _ => exact ⟨rfl, rfl, rfl, rfl⟩

set_option maxRecDepth 100000 in
set_option maxHeartbeats 4000000 in
theorem cut_any (CA EA WA SA : Option Addr) (cn cc en ec wn wc sn sc : Nat) (g : Graph) (ws : List Way) (ss : List Step) (hold : Bool) (w : World)
    (h : RG w CA cn cc EA en ec g) (hw : RW w WA wn wc ws) (hp : RS w SA sn sc ss) (hpn : SA = none → sc = 0) :
    Calls Tryz.prog 9 #[.agg #[.int .i64 g.n, .slice CA cn cc, .slice EA en ec], .slice WA wn wc, .bool hold, .agg #[.slice SA sn sc]] w fun e w' => e = .returned (.bool true) ∧ Ext w w' := by
  have hx0 : Ext w ((w.alloc (.cells #[.int .i64 g.n, .slice CA cn cc, .slice EA en ec] 25)).alloc (.cells #[.slice SA sn sc] 36)) := (by repeat' (first | exact Ext.refl _ | assumption | apply Ext.alloc | apply Ext.drewN | apply Ext.drew))
  have hsn := Nat.le_trans hp.cap hp.big
  have KH : Hid (∀ W, Calls Tryz.prog 29 #[] W fun e w' => e = .returned (.bool true) ∧ Ext W w') := head_any
  have K30 : Hid (∀ W, Ext ((w.alloc (.cells #[.int .i64 g.n, .slice CA cn cc, .slice EA en ec] 25)).alloc (.cells #[.slice SA sn sc] 36)) W → Calls Tryz.prog 30 #[.agg #[.int .i64 g.n, .slice CA cn cc, .slice EA en ec], .slice WA wn wc, .agg #[.slice SA sn sc]] W fun e w' => e = .returned (.bool (smallB g 12 40 && fewB ws sn 200)) ∧ Ext W w') := fun W hW => f30_any CA EA WA SA cn cc en ec wn wc sn sc g ws W (h.ext (hx0.trans hW)) (hw.ext (hx0.trans hW)) hsn
  have K39 : Hid (∀ W, Ext ((w.alloc (.cells #[.int .i64 g.n, .slice CA cn cc, .slice EA en ec] 25)).alloc (.cells #[.slice SA sn sc] 36)) W → Calls Tryz.prog 39 #[.agg #[.int .i64 g.n, .slice CA cn cc, .slice EA en ec]] W fun e w' => e = .returned (.bool (decide (Valid g))) ∧ Ext W w') := fun W hW => f39_any CA EA cn cc en ec g W (h.ext (hx0.trans hW))
  have QB : Hid (∀ W, Ext ((w.alloc (.cells #[.int .i64 g.n, .slice CA cn cc, .slice EA en ec] 25)).alloc (.cells #[.slice SA sn sc] 36)) W → W.cell? ⟨w.heap.size, 0, none⟩ = some (.int .i64 g.n) ∧ W.cell? ⟨w.heap.size, 1, none⟩ = some (.slice CA cn cc) ∧ W.cell? ⟨w.heap.size, 2, none⟩ = some (.slice EA en ec) ∧ W.cell? ⟨w.heap.size + 1, 0, none⟩ = some (.slice SA sn sc)) := fun W hW => by
    have hh := block_of (w := w) (o := .cells #[.int .i64 g.n, .slice CA cn cc, .slice EA en ec] 25) (W := W) (Ext.trans (Ext.alloc (Ext.refl _) _) hW) rfl
    exact ⟨(cell_heap hh 0).1, (cell_heap hh 1).1, (cell_heap hh 2).1, hW.cell (cellNew (by simp))⟩
  have HX0 := hid hx0
  cases y1 : (smallB g 12 40 && fewB ws sn 200) with
  | false =>
    rw [y1] at K30
    clear h hw hp hpn hx0 y1 K39
    go_enter Tryz.func9, Tryz.ntmps9
    go_wp2_with (first
      | (go_at_call 29; refine (KH.out _).mono ?_; rintro e w1 ⟨rfl, x1⟩; have X1 := hid x1; obtain ⟨q0, q1, q2, q3⟩ := QB.out w1 x1; clear x1)
      | (go_at_call 30; (with_reducible refine (K30.out w1 X1.out).mono ?_); rintro e w2 ⟨rfl, x2⟩; have X2 := hid (X1.out.trans x2); obtain ⟨r0, r1, r2, r3⟩ := QB.out w2 X2.out; clear x2))
    go_ret
    exact ⟨rfl, HX0.out.trans X2.out⟩
  | true =>
    rw [y1] at K30
    have hg3 : en ≤ 1000 ∧ (∀ e ∈ g.edges, e.length ≤ 10) ∧ g.n ≤ 100 := by
      have h1 := y1
      unfold smallB at h1
      simp only [Bool.and_eq_true, decide_eq_true_eq, List.all_eq_true] at h1
      have := h.edges.len
      exact ⟨by omega, h1.1.2.1, by omega⟩
    have hsn2 : sn ≤ 200 := by
      unfold fewB at y1
      simp only [Bool.and_eq_true, decide_eq_true_eq] at y1
      exact y1.2.2
    by_cases hv : Valid g
    · rw [decide_eq_true hv] at K39
      have KC : Hid (∀ W, Ext ((w.alloc (.cells #[.int .i64 g.n, .slice CA cn cc, .slice EA en ec] 25)).alloc (.cells #[.slice SA sn sc] 36)) W → ∀ (WA' : Option Addr) wn' wc' ws' (SA' : Option Addr) sn' sc' ss' hold', RW W WA' wn' wc' ws' → RS W SA' sn' sc' ss' → Calls Tryz.prog 34 #[.agg #[.int .i64 g.n, .slice CA cn cc, .slice EA en ec], .slice WA' wn' wc', .bool hold', .agg #[.slice SA' sn' sc']] W fun e w' => e = .returned (.bool (checkB g ws' hold' ss')) ∧ Ext W w') :=
        fun W hW WA' wn' wc' ws' SA' sn' sc' ss' hold' hw' hs' => check_any CA EA WA' SA' cn cc en ec wn' wc' sn' sc' g ws' ss' hold' W ⟨h.ext (hx0.trans hW), hw', hg3.1, hg3.2.1, hg3.2.2⟩ hs'
      have HNT : Hid (checkB g [] true noneP = true) := hid (check_none_true hv)
      have HNF : Hid (checkB g [] false noneP = false) := hid check_none_false
      have HW := hid hw
      have HP := hid hp
      have HPN := hid hpn
      have HPL : Hid (ss.length = sn) := hp.len
      have HWL : Hid (ws.length = wn) := hw.len
      cases hcb : checkB g ws hold ss with
      | false =>
        have HCB := hid hcb
        clear h hw hp hpn hx0 y1 hv hg3 hcb
        go_enter Tryz.func9, Tryz.ntmps9
        go_wp2_with (first
      | (go_at_call 29; refine (KH.out _).mono ?_; rintro e w1 ⟨rfl, x1⟩; have X1 := hid x1; obtain ⟨q0, q1, q2, q3⟩ := QB.out w1 x1; clear x1)
      | (go_at_call 30; (with_reducible refine (K30.out w1 X1.out).mono ?_); rintro e w2 ⟨rfl, x2⟩; have X2 := hid (X1.out.trans x2); obtain ⟨r0, r1, r2, r3⟩ := QB.out w2 X2.out; clear x2)
      | (go_at_call 39; (with_reducible refine (K39.out w2 X2.out).mono ?_); rintro e w3 ⟨rfl, x3⟩; have X3 := hid (X2.out.trans x3); obtain ⟨z0, z1, z2, z3⟩ := QB.out w3 X3.out; clear x3; have RN : Hid (∀ W, Ext ((w3.alloc (.cells #[.int .i64 5, .int .i64 0, .int .i64 0, .int .i64 0] 57)).alloc (.cells #[.slice (some ⟨w3.heap.size, 0, none⟩) 1 1] 36)) W → RS W (some ⟨w3.heap.size, 0, none⟩) 1 1 noneP) := hid fun W hW => RS_block (block_of (w := w3) (Ext.trans (Ext.alloc (Ext.refl _) _) hW) rfl) rfl (by decide) none_cells; have QQ : Hid (∀ W, Ext ((w3.alloc (.cells #[.int .i64 5, .int .i64 0, .int .i64 0, .int .i64 0] 57)).alloc (.cells #[.slice (some ⟨w3.heap.size, 0, none⟩) 1 1] 36)) W → W.cell? ⟨w.heap.size, 0, none⟩ = some (.int .i64 g.n) ∧ W.cell? ⟨w.heap.size, 1, none⟩ = some (.slice CA cn cc) ∧ W.cell? ⟨w.heap.size, 2, none⟩ = some (.slice EA en ec) ∧ W.cell? ⟨w.heap.size + 1, 0, none⟩ = some (.slice SA sn sc) ∧ W.cell? ⟨w3.heap.size + 1, 0, none⟩ = some (.slice (some ⟨w3.heap.size, 0, none⟩) 1 1)) := hid fun W hW => ⟨(QB.out W (X3.out.trans (Ext.trans (Ext.alloc (Ext.alloc (Ext.refl _) _) _) hW))).1, (QB.out W (X3.out.trans (Ext.trans (Ext.alloc (Ext.alloc (Ext.refl _) _) _) hW))).2.1, (QB.out W (X3.out.trans (Ext.trans (Ext.alloc (Ext.alloc (Ext.refl _) _) _) hW))).2.2.1, (QB.out W (X3.out.trans (Ext.trans (Ext.alloc (Ext.alloc (Ext.refl _) _) _) hW))).2.2.2, hW.cell (cellNew (by simp))⟩; obtain ⟨y0, y1, y2, y3, y4⟩ := QQ.out _ (Ext.refl _); have X4 : Hid (Ext ((w.alloc (.cells #[.int .i64 g.n, .slice CA cn cc, .slice EA en ec] 25)).alloc (.cells #[.slice SA sn sc] 36)) ((w3.alloc (.cells #[.int .i64 5, .int .i64 0, .int .i64 0, .int .i64 0] 57)).alloc (.cells #[.slice (some ⟨w3.heap.size, 0, none⟩) 1 1] 36))) := hid (X3.out.trans (Ext.alloc (Ext.alloc (Ext.refl _) _) _)))
      | (go_at_call 34; (with_reducible refine (KC.out _ X4.out none 0 0 [] (some ⟨w3.heap.size, 0, none⟩) 1 1 noneP true (RW.nil _) (RN.out _ (Ext.refl _))).mono ?_); rintro e w5 ⟨he, x5⟩; rw [HNT.out] at he; subst he; have X5 := hid x5; obtain ⟨a0, a1, a2, a3, a4⟩ := QQ.out w5 x5; clear x5)
      | (go_at_call 34; (with_reducible refine (KC.out _ (X4.out.trans X5.out) none 0 0 [] (some ⟨w3.heap.size, 0, none⟩) 1 1 noneP false (RW.nil _) (RN.out _ X5.out)).mono ?_); rintro e w6 ⟨he, x6⟩; rw [HNF.out] at he; subst he; have X6 := hid (X5.out.trans x6); obtain ⟨b0, b1, b2, b3, b4⟩ := QQ.out w6 X6.out; clear x6)
      | (go_at_call 34; (with_reducible refine (KC.out _ (X4.out.trans X6.out) WA wn wc ws SA sn sc ss hold (HW.out.ext (HX0.out.trans (X4.out.trans X6.out))) (HP.out.ext (HX0.out.trans (X4.out.trans X6.out)))).mono ?_); rintro e w7 ⟨he, x7⟩; rw [HCB.out] at he; subst he; have X7 := hid (X6.out.trans x7); obtain ⟨d0, d1, d2, d3, d4⟩ := QQ.out w7 X7.out; have db : (w7.alloc (.cells #[] 57)).cell? ⟨w.heap.size + 1, 0, none⟩ = some (.slice SA sn sc) := Ext.cell (Ext.alloc (Ext.refl _) _) d3; clear x7))
        go_ret
        exact ⟨rfl, HX0.out.trans (X4.out.trans X7.out)⟩
      | true =>
        have HCB := hid hcb
        have HSN0 : Hid (0 < sn) := hid (by have := (check_iff.1 hcb).2.1; rw [hp.len] at this; exact this)
        have hwn := hw.lenle
        clear h hw hp hpn hx0 y1 hv hg3 hcb
        go_enter Tryz.func9, Tryz.ntmps9
        go_wp2_with (first
      | (go_at_call 29; refine (KH.out _).mono ?_; rintro e w1 ⟨rfl, x1⟩; have X1 := hid x1; obtain ⟨q0, q1, q2, q3⟩ := QB.out w1 x1; clear x1)
      | (go_at_call 30; (with_reducible refine (K30.out w1 X1.out).mono ?_); rintro e w2 ⟨rfl, x2⟩; have X2 := hid (X1.out.trans x2); obtain ⟨r0, r1, r2, r3⟩ := QB.out w2 X2.out; clear x2)
      | (go_at_call 39; (with_reducible refine (K39.out w2 X2.out).mono ?_); rintro e w3 ⟨rfl, x3⟩; have X3 := hid (X2.out.trans x3); obtain ⟨z0, z1, z2, z3⟩ := QB.out w3 X3.out; clear x3; have RN : Hid (∀ W, Ext ((w3.alloc (.cells #[.int .i64 5, .int .i64 0, .int .i64 0, .int .i64 0] 57)).alloc (.cells #[.slice (some ⟨w3.heap.size, 0, none⟩) 1 1] 36)) W → RS W (some ⟨w3.heap.size, 0, none⟩) 1 1 noneP) := hid fun W hW => RS_block (block_of (w := w3) (Ext.trans (Ext.alloc (Ext.refl _) _) hW) rfl) rfl (by decide) none_cells; have QQ : Hid (∀ W, Ext ((w3.alloc (.cells #[.int .i64 5, .int .i64 0, .int .i64 0, .int .i64 0] 57)).alloc (.cells #[.slice (some ⟨w3.heap.size, 0, none⟩) 1 1] 36)) W → W.cell? ⟨w.heap.size, 0, none⟩ = some (.int .i64 g.n) ∧ W.cell? ⟨w.heap.size, 1, none⟩ = some (.slice CA cn cc) ∧ W.cell? ⟨w.heap.size, 2, none⟩ = some (.slice EA en ec) ∧ W.cell? ⟨w.heap.size + 1, 0, none⟩ = some (.slice SA sn sc) ∧ W.cell? ⟨w3.heap.size + 1, 0, none⟩ = some (.slice (some ⟨w3.heap.size, 0, none⟩) 1 1)) := hid fun W hW => ⟨(QB.out W (X3.out.trans (Ext.trans (Ext.alloc (Ext.alloc (Ext.refl _) _) _) hW))).1, (QB.out W (X3.out.trans (Ext.trans (Ext.alloc (Ext.alloc (Ext.refl _) _) _) hW))).2.1, (QB.out W (X3.out.trans (Ext.trans (Ext.alloc (Ext.alloc (Ext.refl _) _) _) hW))).2.2.1, (QB.out W (X3.out.trans (Ext.trans (Ext.alloc (Ext.alloc (Ext.refl _) _) _) hW))).2.2.2, hW.cell (cellNew (by simp))⟩; obtain ⟨y0, y1, y2, y3, y4⟩ := QQ.out _ (Ext.refl _); have X4 : Hid (Ext ((w.alloc (.cells #[.int .i64 g.n, .slice CA cn cc, .slice EA en ec] 25)).alloc (.cells #[.slice SA sn sc] 36)) ((w3.alloc (.cells #[.int .i64 5, .int .i64 0, .int .i64 0, .int .i64 0] 57)).alloc (.cells #[.slice (some ⟨w3.heap.size, 0, none⟩) 1 1] 36))) := hid (X3.out.trans (Ext.alloc (Ext.alloc (Ext.refl _) _) _)))
      | (go_at_call 34; (with_reducible refine (KC.out _ X4.out none 0 0 [] (some ⟨w3.heap.size, 0, none⟩) 1 1 noneP true (RW.nil _) (RN.out _ (Ext.refl _))).mono ?_); rintro e w5 ⟨he, x5⟩; rw [HNT.out] at he; subst he; have X5 := hid x5; obtain ⟨a0, a1, a2, a3, a4⟩ := QQ.out w5 x5; clear x5)
      | (go_at_call 34; (with_reducible refine (KC.out _ (X4.out.trans X5.out) none 0 0 [] (some ⟨w3.heap.size, 0, none⟩) 1 1 noneP false (RW.nil _) (RN.out _ X5.out)).mono ?_); rintro e w6 ⟨he, x6⟩; rw [HNF.out] at he; subst he; have X6 := hid (X5.out.trans x6); obtain ⟨b0, b1, b2, b3, b4⟩ := QQ.out w6 X6.out; clear x6)
      | (go_at_call 34; (with_reducible refine (KC.out _ (X4.out.trans X6.out) WA wn wc ws SA sn sc ss hold (HW.out.ext (HX0.out.trans (X4.out.trans X6.out))) (HP.out.ext (HX0.out.trans (X4.out.trans X6.out)))).mono ?_); rintro e w7 ⟨he, x7⟩; rw [HCB.out] at he; subst he; have X7 := hid (X6.out.trans x7); obtain ⟨d0, d1, d2, d3, d4⟩ := QQ.out w7 X7.out; have db : (w7.alloc (.cells #[] 57)).cell? ⟨w.heap.size + 1, 0, none⟩ = some (.slice SA sn sc) := Ext.cell (Ext.alloc (Ext.refl _) _) d3; clear x7)
      | (at_builtin; (with_reducible refine appN w7.heap.size rfl _ _ 34 57 (.agg #[.int .i64 0, .int .i64 0, .int .i64 0, .int .i64 0]) 4 32 rfl Tryz.underlying34 info57 rfl (by decide) (by decide) (.slice (some ⟨w7.heap.size, 0, none⟩) 0 0) 0 [] SA sn sc (stepVs ss) rfl rfl ((HP.out.ext ((HX0.out.trans (X4.out.trans X7.out)).trans (Ext.alloc (Ext.refl _) _))).src HPN.out) (World.ownsRow_made _ _ 0 (by simp) (by decide) rfl) (by simp) (by omega) ?_); rintro v1 w8 hp1; have E8 : Hid (Ext w7 w8) := Ext.grown (Ext.alloc (Ext.refl _) _) (World.ownsRow_made _ #[] 0 (size := 4) (e := 57) (by simp) (by decide) rfl) (Nat.le_refl _) hp1.2.1; have ho1 := hp1.1; rw [Nat.zero_add, List.nil_append] at ho1; (obtain ⟨g1, c1, rfl, hg1, hc1, hb1, hr1⟩ := own_rowS HPL.out ho1 HSN0.out); have HG1 : Hid (w7.heap.size ≤ g1 ∧ sn ≤ c1 ∧ c1 ≤ 9223372036854775807) := ⟨hg1, hc1, hb1⟩; have HR1 := hid hr1; clear hp1 ho1 hg1 hc1 hb1 hr1))
        have X0 : Hid (Ext ((w.alloc (.cells #[.int .i64 g.n, .slice CA cn cc, .slice EA en ec] 25)).alloc (.cells #[.slice SA sn sc] 36)) w7) := X4.out.trans X7.out
        clear db q0 q1 q2 q3 r0 r1 r2 r3 z0 z1 z2 z3 y0 y1 y2 y3 y4 a0 a1 a2 a3 a4 b0 b1 b2 b3 b4 d0 d1 d2 d3 d4
        go_loopg [12] sn (fun gg s12 wr => ∃ (kk : Nat) (l : List Step), kk ≤ sn ∧ sn - kk ≤ gg ∧ s12 = .int .i64 kk ∧ Hid (Ext w7 wr ∧ RowS wr g1 l ∧ l.length = sn ∧ ∀ i, i < sn → stepv l i = if i < kk ∧ (stepv ss i).kind ≠ 1 then ⟨4, wn, 0, 0⟩ else stepv ss i))
        case atStart => exact ⟨0, ss, Nat.zero_le _, by omega, rfl, hid ⟨E8.out, HR1.out, HPL.out, fun i hi => by rw [if_neg (fun h => absurd h.1 (Nat.not_lt_zero _))]⟩⟩
        case round =>
          obtain ⟨kk, l, hkk, hg, rfl, HI⟩ := hrel
          by_cases hlt : kk < sn
          · have hltz : (kk : Int) < (sn : Int) := by omega
            obtain ⟨c0, c1', c2, c3⟩ := HI.out.2.1.cell kk (by rw [HI.out.2.2.1]; exact hlt)
            have hfz := HI.out.2.1.fz
            have HL := hid (HI.out.2.2.2 kk hlt)
            have HK := hid hlt
            obtain ⟨hs1, hs2, hs3, _⟩ := set4_steps (.int .i64 4) (.int .i64 (wn : Int)) (.int .i64 0) (.int .i64 0) c0 c1' c2 c3
            have HL2 : Hid ((stepv l kk).kind = (stepv ss kk).kind) := hid (by rw [HL.out, if_neg (fun h => absurd h.1 (Nat.lt_irrefl _))])
            generalize (stepv l kk).kind = xk at c0 HL2
            by_cases hx : xk = 1
            · have HX := hid hx
              subst hx
              clear hs1 hs2 hs3
              go_wp2
              go_roundg (sn - (kk + 1))
              case measure => omega
              case rel =>
                refine ⟨kk + 1, l, by omega, by omega, by go_num, hid ⟨HI.out.1, HI.out.2.1, HI.out.2.2.1, fun i hi => ?_⟩⟩
                rw [HI.out.2.2.2 i hi]
                by_cases e : i = kk
                · subst e
                  rw [if_neg (fun h => absurd h.1 (Nat.lt_irrefl _)), if_neg (fun h => h.2 HL2.out.symm)]
                · by_cases h1 : i < kk ∧ (stepv ss i).kind ≠ 1
                  · rw [if_pos h1, if_pos ⟨by omega, h1.2⟩]
                  · rw [if_neg h1, if_neg (fun h => h1 ⟨by omega, h.2⟩)]
            · have d1 : (xk != 1) = true := by simpa using hx
              have HX := hid hx
              clear hx
              go_wp2
              go_roundg (sn - (kk + 1))
              case measure => omega
              case rel =>
                refine ⟨kk + 1, l.set kk ⟨4, wn, 0, 0⟩, by omega, by omega, by go_num, hid ⟨set4_ext HI.out.1 HG1.out.1 _ _ _ _ _, HI.out.2.1.set (by rw [HI.out.2.2.1]; exact HK.out) ⟨4, wn, 0, 0⟩, by rw [List.length_set]; exact HI.out.2.2.1, fun i hi => ?_⟩⟩
                by_cases e : i = kk
                · subst e
                  rw [stepv_eq (by rw [List.length_set, HI.out.2.2.1]; exact hi), List.getElem_set_self, if_pos ⟨by omega, by rw [← HL2.out]; exact HX.out⟩]
                · rw [stepv_eq (by rw [List.length_set, HI.out.2.2.1]; exact hi), List.getElem_set_ne (fun h => e h.symm), ← stepv_eq (by rw [HI.out.2.2.1]; exact hi), HI.out.2.2.2 i hi]
                  by_cases h1 : i < kk ∧ (stepv ss i).kind ≠ 1
                  · rw [if_pos h1, if_pos ⟨by omega, h1.2⟩]
                  · rw [if_neg h1, if_neg (fun h => h1 ⟨by omega, h.2⟩)]
          · have hltz : ¬ (kk : Int) < (sn : Int) := by omega
            have hkn : kk = sn := by omega
            have HF : Hid (checkB g ws hold l = false) := hid (check_cut fun i hi hk => by
              have h1 := HI.out.2.2.2 i (by rw [← HI.out.2.2.1]; exact hi)
              by_cases h2 : (stepv ss i).kind = 1
              · rw [if_neg (fun h => h.2 h2)] at h1
                rw [h1] at hk
                exact absurd h2 hk
              · rw [if_pos ⟨by have := HI.out.2.2.1; omega, h2⟩] at h1
                rw [h1]
                exact ⟨rfl, by show (ws.length : Int) ≤ (wn : Int); have := HWL.out; omega⟩)
            have KL := KC.out wr (X0.out.trans HI.out.1) WA wn wc ws (some ⟨g1, 0, none⟩) sn c1 l hold (HW.out.ext (HX0.out.trans (X0.out.trans HI.out.1))) (HI.out.2.1.rs HI.out.2.2.1 HG1.out.2.1 HG1.out.2.2)
            rw [HF.out] at KL
            obtain ⟨n0, n1, n2, n3⟩ := QB.out wr (X0.out.trans HI.out.1)
            clear hkn
            go_wp2_with (go_at_call 34; (with_reducible refine KL.mono ?_); rintro e w9 ⟨rfl, x9⟩; have X9 := hid x9; clear x9)
            go_ret
            exact ⟨rfl, (HX0.out.trans (X0.out.trans HI.out.1)).trans X9.out⟩
    · rw [decide_eq_false hv] at K39
      clear h hw hp hpn hx0 y1 hv hg3
      go_enter Tryz.func9, Tryz.ntmps9
      go_wp2_with (first
      | (go_at_call 29; refine (KH.out _).mono ?_; rintro e w1 ⟨rfl, x1⟩; have X1 := hid x1; obtain ⟨q0, q1, q2, q3⟩ := QB.out w1 x1; clear x1)
      | (go_at_call 30; (with_reducible refine (K30.out w1 X1.out).mono ?_); rintro e w2 ⟨rfl, x2⟩; have X2 := hid (X1.out.trans x2); obtain ⟨r0, r1, r2, r3⟩ := QB.out w2 X2.out; clear x2)
      | (go_at_call 39; (with_reducible refine (K39.out w2 X2.out).mono ?_); rintro e w3 ⟨rfl, x3⟩; have X3 := hid (X2.out.trans x3); obtain ⟨z0, z1, z2, z3⟩ := QB.out w3 X3.out; clear x3))
      go_ret
      exact ⟨rfl, HX0.out.trans X3.out⟩
end Go.Proofs.YthjifmfmaiagoaaGreatDoor

/- C18: texts R4 R6 R7 R8. -/
import Derived.Test.YthjifmfmaiagoaaGreatDoorC01
import Derived.Test.YthjifmfmaiagoaaGreatDoorC02
import Derived.Test.YthjifmfmaiagoaaGreatDoorC06
import Derived.Test.YthjifmfmaiagoaaGreatDoorC07
import Derived.Test.YthjifmfmaiagoaaGreatDoorC09
import Derived.Test.YthjifmfmaiagoaaGreatDoorC17
set_option linter.all false

/- The references: Set, a list as a set. -/
namespace Go.Proofs.YthjifmfmaiagoaaGreatDoor
open Go.RowKit

theorem info3r : (Tryz.prog.info? 3).map (fun i => (i.zero, i.size, i.bytes)) = some (some (.int .i64 0), 1, 8) := by kernel_rfl
theorem own_mono {w : World} {B B' : Nat} {e : TypeId} {size : Nat} {v : Value} {n : Nat} {xs : List Value} (h : w.ownsRow B e size v n xs) (hB : B' ≤ B) : w.ownsRow B' e size v n xs :=
  ⟨h.1, h.2.imp id fun ⟨g, cap, cur, h1, h2, h3⟩ => ⟨g, cap, cur, h1, Nat.le_trans hB h2, h3⟩⟩
theorem intVs'_append (a b : List Int) : intVs' (a ++ b) = intVs' a ++ intVs' b := List.map_append
theorem set_step {l s : List Int} {ii kk : Nat} {y : Int} (hs : Inc s) (hl : s.length ≤ ii) (hm : ∀ x, x ∈ s ↔ ∃ j, j < ii ∧ nth l j = x) (hy : nth l ii = y) (h1 : ∀ t, t < kk → t < s.length → nth s t < y) (h2 : ∀ t, kk ≤ t → t < s.length → y < nth s t) (_ : kk ≤ s.length) :
    Inc (putAt s kk y) ∧ (putAt s kk y).length ≤ ii + 1 ∧ ∀ x, x ∈ putAt s kk y ↔ ∃ j, j < ii + 1 ∧ nth l j = x := by
  refine ⟨inc_putAt hs h1 h2, by rw [putAt_length]; omega, fun x => ?_⟩
  rw [mem_putAt, hm]
  constructor
  · rintro (⟨j, hj, e⟩ | rfl)
    · exact ⟨j, by omega, e⟩
    · exact ⟨ii, by omega, hy⟩
  · rintro ⟨j, hj, e⟩
    rcases Nat.lt_or_ge j ii with h | h
    · exact .inl ⟨j, h, e⟩
    · obtain rfl : j = ii := by omega
      exact .inr (e.symm.trans hy)
theorem set_same {l s : List Int} {ii kk : Nat} {y : Int} (hm : ∀ x, x ∈ s ↔ ∃ j, j < ii ∧ nth l j = x) (hy : nth l ii = y) (hk : kk < s.length) (he : nth s kk = y) : ∀ x, x ∈ s ↔ ∃ j, j < ii + 1 ∧ nth l j = x := fun x => by
  rw [hm]
  constructor
  · rintro ⟨j, hj, e⟩
    exact ⟨j, by omega, e⟩
  · rintro ⟨j, hj, e⟩
    rcases Nat.lt_or_ge j ii with h | h
    · exact ⟨j, h, e⟩
    · obtain rfl : j = ii := by omega
      rw [← hm, ← e, hy, ← he]
      exact nth_mem hk

set_option maxRecDepth 100000 in
set_option maxHeartbeats 8000000 in
/-- Set. -/
theorem f44_any (A : Option Addr) (n c : Nat) (l : List Int) (w : World) (hr : RI w A n c l) (hbig : n ≤ 1000000) :
    Calls Tryz.prog 44 #[.slice A n c] w fun e w' => ∃ v s, e = .returned v ∧ w'.ownsRow w.heap.size 3 1 v s.length (intVs' s) ∧ Inc s ∧ (∀ x, x ∈ s ↔ x ∈ l) ∧ Ext w w' := by
  have hn := hr.lenle
  have HR := hid hr
  have HL : Hid (l.length = n) := hr.len
  clear hr
  go_enter Tryz.func44, Tryz.ntmps44
  go_wp2
  go_loopg [3, 4, 5] n (fun gg s3 s4 s5 wr => ∃ (ii : Nat) (s : List Int) (v : Value), ii ≤ n ∧ n - ii ≤ gg ∧ s3 = v ∧ s4 = .int .i64 ii ∧ Hid (wr.ownsRow w.heap.size 3 1 v s.length (intVs' s) ∧ Ext w wr ∧ Inc s ∧ s.length ≤ ii ∧ ∀ x, x ∈ s ↔ ∃ j, j < ii ∧ nth l j = x))
  case atStart =>
    refine ⟨0, [], _, Nat.zero_le _, by omega, rfl, rfl, World.ownsRow_nil _ _ _ _, Ext.refl _, List.Pairwise.nil, Nat.le_refl _, fun x => ⟨fun h => (by cases h), fun ⟨j, h, _⟩ => absurd h (Nat.not_lt_zero _)⟩⟩
  case round =>
    obtain ⟨ii, s, v, hii, hg, rfl, rfl, HI⟩ := hrel
    by_cases hlt : ii < n
    · have hltz : (ii : Int) < (n : Int) := by omega
      obtain ⟨B, cB, hv, hRI, hBn⟩ := own_RIn HI.out.1
      subst hv
      have HRI := hid hRI
      have HBn := hid hBn
      have hsl : s.length ≤ 1000000 := by have := HI.out.2.2.2.1; omega
      have hsl2 : s.length ≤ 9223372036854775807 := by omega
      obtain ⟨ad, rfl, hcell⟩ := HR.out.cell ii hlt
      have HC0 : Hid (∀ W, Ext w W → W.cell? (ad.add ii) = some (.int .i64 (nth l ii))) := fun W hW => hW.cell hcell
      generalize hy : nth l ii = y at HC0
      have HC := hid HC0.out
      have HY := hid hy
      clear hRI hBn hy hcell HC0
      obtain ⟨wo, hwo⟩ : ∃ wo, wo = wr := ⟨_, rfl⟩
      subst hwo
      have hcw := HC.out wo HI.out.2.1
      go_wp2
      go_loopg [5] s.length (fun g2 s5 wr2 => ∃ kk q : Nat, kk ≤ s.length ∧ s.length - kk ≤ g2 ∧ s5 = .int .i64 kk ∧ wr2 = wo.drewN q ∧ Aside (∀ t, t < kk → nth s t < y))
      case atStart => exact ⟨0, 0, Nat.zero_le _, by omega, rfl, rfl, fun t ht => absurd ht (Nat.not_lt_zero _)⟩
      case round =>
        obtain ⟨kk, q, hkk, hg2, rfl, rfl, AA⟩ := hrel
        have HKL := hid hkk
        by_cases hlk : kk < s.length
        · have hlkz : (kk : Int) < (s.length : Int) := by omega
          obtain ⟨ad2, hB, hcell2⟩ := HRI.out.cell kk hlk
          generalize hz : nth s kk = z at hcell2
          have HZ := hid hz
          by_cases h1 : z < y
          · have d1 : decide (z < y) = true := decide_eq_true h1
            subst hB
            clear hz
            go_wp2
            go_quiet (fail)
            go_wp2
            go_roundg (s.length - (kk + 1))
            case measure => omega
            case rel =>
              refine ⟨kk + 1, _, by omega, by omega, by go_num, by first | rfl | simp [World.drewN_drewN]; rfl, (show Aside _ from fun t ht => ?_)⟩
              rcases Nat.lt_or_ge t kk with h3 | h3
              · exact AA.out t h3
              · obtain rfl : t = kk := by omega
                rw [HZ.out]
                exact h1
          · have d1 : decide (z < y) = false := decide_eq_false h1
            by_cases h2 : z = y
            · have d2 : (z == y) = true := by simpa using h2
              have HM := set_same HI.out.2.2.2.2 HY.out hlk (HZ.out.trans h2)
              have HM := hid HM
              subst hB
              clear hz h2
              go_wp2
              go_quiet (fail)
              go_wp2
              go_quiet (fail)
              go_wp2
              go_roundg (n - (ii + 1))
              case measure => omega
              case rel =>
                exact ⟨ii + 1, s, _, by omega, by omega, rfl, by go_num, own_keep HI.out.1 (fun _ _ => by simp), HI.out.2.1.trans (by repeat' (first | exact Ext.refl _ | assumption | apply Ext.alloc | apply Ext.drewN | apply Ext.drew)), HI.out.2.2.1, Nat.le_succ_of_le HI.out.2.2.2.1, HM.out⟩
            · have d2 : (z == y) = false := by simpa using h2
              have HK : Hid ((∀ t, t < kk → t < s.length → nth s t < y) ∧ ∀ t, kk ≤ t → t < s.length → y < nth s t) := ⟨fun t ht _ => AA.out t ht, fun t ht1 ht2 => by
                have h3 := inc_le HI.out.2.2.1 ht1 ht2
                rw [HZ.out] at h3
                omega⟩
              clear hz h2
              have hB' := hB
              subst hB
              go_wp2
              go_quiet (fail)
              go_wp2
              go_quiet (fail)

              have hst : ∀ W, (Instr.slice 22 (.slice (some ad2) s.length cB) none (some (.int .i64 (kk : Int))) none).run Tryz.prog W = .ok (.slice (some ad2) kk cB) W := fun W => run_slice_to 22 3 1 Tryz.underlying22 (some ad2) s.length cB kk (by have := HRI.out.cap; have := HKL.out; omega) W (size3 W)
              have hsf : ∀ W, (Instr.slice 22 (.slice (some ad2) s.length cB) (some (.int .i64 (kk : Int))) none none).run Tryz.prog W = .ok (.slice (if cB = kk then (some ad2) else (some ad2).map fun a => a.add (kk * 1)) (s.length - kk) (cB - kk)) W := fun W => run_slice_from 22 3 1 Tryz.underlying22 (some ad2) s.length cB kk HKL.out HRI.out.cap W (size3 W)
              have HBf : Hid ((if cB = kk then (some ad2) else (some ad2).map fun a => a.add (kk * 1)) = none → cB - kk = 0) := by
                intro h
                by_cases e : cB = kk
                · omega
                · rw [if_neg e] at h
                  cases hB : (some ad2) with
                  | none => rw [HBn.out hB]; omega
                  | some a => rw [hB] at h; cases h
              generalize hBf : (if cB = kk then (some ad2) else (some ad2).map fun a => a.add (kk * 1)) = Bf at hsf HBf
              have HRf : Hid (RI wo Bf (s.length - kk) (cB - kk) (s.drop kk)) := by rw [← hBf]; exact HRI.out.from HKL.out
              clear hBf
              go_wp2_with (first
                | (at_builtin; refine appN wo.heap.size rfl _ _ 22 3 (.int .i64 0) 1 8 rfl Tryz.underlying22 info3r rfl (by decide) (by decide) (.slice (some ⟨wo.heap.size, 0, none⟩) 0 0) 0 [] (some ad2) kk cB (intVs' (s.take kk)) rfl rfl (((HRI.out.ext (by repeat' (first | exact Ext.refl _ | assumption | apply Ext.alloc | apply Ext.drewN | apply Ext.drew))).take HKL.out).src HBn.out) (World.ownsRow_made _ _ 0 (by simp) (by decide) rfl) (by simp) (by have := HKL.out; omega) ?_; rintro v1 w1 hp1; have HP1 := hid hp1; have E1 : Hid (Ext wo w1) := Ext.grown (by repeat' (first | exact Ext.refl _ | assumption | apply Ext.alloc | apply Ext.drewN | apply Ext.drew)) (World.ownsRow_made _ #[] 0 (size := 1) (e := 3) (by simp) (by decide) rfl) (Nat.le_refl _) hp1.2.1; have hc1 := HC.out w1 (HI.out.2.1.trans E1.out); clear hp1)
                | (at_builtin; (refine appN wo.heap.size rfl _ _ 22 3 (.int .i64 0) 1 8 rfl Tryz.underlying22 info3r rfl (by decide) (by decide) v1 (0 + kk) ([] ++ intVs' (s.take kk)) (some ⟨w1.heap.size, 0, none⟩) 1 1 [.int .i64 y] rfl rfl ⟨fun h => (by cases h), rfl, fun ad ha j u hu => (by cases ha; exact cell_one_new w1 _ 3 j u hu), fun u hu => (by rw [List.mem_singleton.1 hu]; rfl)⟩ (own_alloc HP1.out.1 _) (by have := E1.out.size; simp; omega) (by have := HKL.out; omega) ?_); rintro v2 w2 hp2; have HP2 := hid hp2; have E2 : Hid (Ext wo w2) := Ext.grown (E1.out.alloc _) (own_alloc HP1.out.1 _) (Nat.le_refl _) hp2.2.1; clear hp2)
                | (at_builtin; refine appN wo.heap.size rfl _ _ 22 3 (.int .i64 0) 1 8 rfl Tryz.underlying22 info3r rfl (by decide) (by decide) v2 (0 + kk + 1) ([] ++ intVs' (s.take kk) ++ [.int .i64 y]) Bf (s.length - kk) (cB - kk) (intVs' (s.drop kk)) rfl rfl ((HRf.out.ext E2.out).src HBf.out) HP2.out.1 E2.out.size (by have := HKL.out; omega) ?_; rintro v3 w3 hp3; have HP3 := hid hp3; have E3 : Hid (Ext wo w3) := Ext.grown E2.out HP2.out.1 (Nat.le_refl _) hp3.2.1; clear hp3))
              go_roundg (n - (ii + 1))
              case measure => omega
              case rel =>
                have HF := set_step HI.out.2.2.1 HI.out.2.2.2.1 HI.out.2.2.2.2 HY.out HK.out.1 HK.out.2 (by have := HKL.out; omega)
                refine ⟨ii + 1, putAt s kk y, v3, by omega, by omega, rfl, by go_num, ?_, HI.out.2.1.trans E3.out, HF⟩
                have h3 := own_mono HP3.out.1 HI.out.2.1.size
                rw [putAt_length, show (s.length + 1 : Nat) = 0 + kk + 1 + (s.length - kk) by have := HKL.out; omega, putAt, intVs'_append, intVs'_append]
                exact h3

        · have hlkz : ¬ (kk : Int) < (s.length : Int) := by omega
          have HK : Hid ((∀ t, t < kk → t < s.length → nth s t < y) ∧ ∀ t, kk ≤ t → t < s.length → y < nth s t) := ⟨fun t ht _ => AA.out t ht, fun t ht1 ht2 => by omega⟩
          go_wp2
          go_quiet (fail)
          go_wp2
          go_quiet (fail)

          have hst : ∀ W, (Instr.slice 22 (.slice B s.length cB) none (some (.int .i64 (kk : Int))) none).run Tryz.prog W = .ok (.slice B kk cB) W := fun W => run_slice_to 22 3 1 Tryz.underlying22 B s.length cB kk (by have := HRI.out.cap; have := HKL.out; omega) W (size3 W)
          have hsf : ∀ W, (Instr.slice 22 (.slice B s.length cB) (some (.int .i64 (kk : Int))) none none).run Tryz.prog W = .ok (.slice (if cB = kk then B else B.map fun a => a.add (kk * 1)) (s.length - kk) (cB - kk)) W := fun W => run_slice_from 22 3 1 Tryz.underlying22 B s.length cB kk HKL.out HRI.out.cap W (size3 W)
          have HBf : Hid ((if cB = kk then B else B.map fun a => a.add (kk * 1)) = none → cB - kk = 0) := by
            intro h
            by_cases e : cB = kk
            · omega
            · rw [if_neg e] at h
              cases hB : B with
              | none => rw [HBn.out hB]; omega
              | some a => rw [hB] at h; cases h
          generalize hBf : (if cB = kk then B else B.map fun a => a.add (kk * 1)) = Bf at hsf HBf
          have HRf : Hid (RI wo Bf (s.length - kk) (cB - kk) (s.drop kk)) := by rw [← hBf]; exact HRI.out.from HKL.out
          clear hBf
          go_wp2_with (first
            | (at_builtin; refine appN wo.heap.size rfl _ _ 22 3 (.int .i64 0) 1 8 rfl Tryz.underlying22 info3r rfl (by decide) (by decide) (.slice (some ⟨wo.heap.size, 0, none⟩) 0 0) 0 [] B kk cB (intVs' (s.take kk)) rfl rfl (((HRI.out.ext (by repeat' (first | exact Ext.refl _ | assumption | apply Ext.alloc | apply Ext.drewN | apply Ext.drew))).take HKL.out).src HBn.out) (World.ownsRow_made _ _ 0 (by simp) (by decide) rfl) (by simp) (by have := HKL.out; omega) ?_; rintro v1 w1 hp1; have HP1 := hid hp1; have E1 : Hid (Ext wo w1) := Ext.grown (by repeat' (first | exact Ext.refl _ | assumption | apply Ext.alloc | apply Ext.drewN | apply Ext.drew)) (World.ownsRow_made _ #[] 0 (size := 1) (e := 3) (by simp) (by decide) rfl) (Nat.le_refl _) hp1.2.1; have hc1 := HC.out w1 (HI.out.2.1.trans E1.out); clear hp1)
            | (at_builtin; (refine appN wo.heap.size rfl _ _ 22 3 (.int .i64 0) 1 8 rfl Tryz.underlying22 info3r rfl (by decide) (by decide) v1 (0 + kk) ([] ++ intVs' (s.take kk)) (some ⟨w1.heap.size, 0, none⟩) 1 1 [.int .i64 y] rfl rfl ⟨fun h => (by cases h), rfl, fun ad ha j u hu => (by cases ha; exact cell_one_new w1 _ 3 j u hu), fun u hu => (by rw [List.mem_singleton.1 hu]; rfl)⟩ (own_alloc HP1.out.1 _) (by have := E1.out.size; simp; omega) (by have := HKL.out; omega) ?_); rintro v2 w2 hp2; have HP2 := hid hp2; have E2 : Hid (Ext wo w2) := Ext.grown (E1.out.alloc _) (own_alloc HP1.out.1 _) (Nat.le_refl _) hp2.2.1; clear hp2)
            | (at_builtin; refine appN wo.heap.size rfl _ _ 22 3 (.int .i64 0) 1 8 rfl Tryz.underlying22 info3r rfl (by decide) (by decide) v2 (0 + kk + 1) ([] ++ intVs' (s.take kk) ++ [.int .i64 y]) Bf (s.length - kk) (cB - kk) (intVs' (s.drop kk)) rfl rfl ((HRf.out.ext E2.out).src HBf.out) HP2.out.1 E2.out.size (by have := HKL.out; omega) ?_; rintro v3 w3 hp3; have HP3 := hid hp3; have E3 : Hid (Ext wo w3) := Ext.grown E2.out HP2.out.1 (Nat.le_refl _) hp3.2.1; clear hp3))
          go_roundg (n - (ii + 1))
          case measure => omega
          case rel =>
            have HF := set_step HI.out.2.2.1 HI.out.2.2.2.1 HI.out.2.2.2.2 HY.out HK.out.1 HK.out.2 (by have := HKL.out; omega)
            refine ⟨ii + 1, putAt s kk y, v3, by omega, by omega, rfl, by go_num, ?_, HI.out.2.1.trans E3.out, HF⟩
            have h3 := own_mono HP3.out.1 HI.out.2.1.size
            rw [putAt_length, show (s.length + 1 : Nat) = 0 + kk + 1 + (s.length - kk) by have := HKL.out; omega, putAt, intVs'_append, intVs'_append]
            exact h3

    · have hltz : ¬ (ii : Int) < (n : Int) := by omega
      go_wp2
      refine bodyPost_ret (v := u3) (by simp [results, Tryz.results44, go_sem]) rfl ?_
      exact ⟨u3, rfl, s, HI.out.1, HI.out.2.2.1, fun x => by
        rw [HI.out.2.2.2.2, mem_iff_nth]
        exact ⟨fun ⟨j, h, e⟩ => ⟨j, by have := HL.out; omega, e⟩, fun ⟨j, h, e⟩ => ⟨j, by have := HL.out; omega, e⟩⟩, HI.out.2.1⟩
end Go.Proofs.YthjifmfmaiagoaaGreatDoor

/- The references: all, some, free (of the check of proofs). -/
namespace Go.Proofs.YthjifmfmaiagoaaGreatDoor
open Go.RowKit

set_option maxHeartbeats 800000 in
/-- all. -/
theorem f148_any (A A' : Option Addr) (n c n' c' : Nat) (st l : List Int) (want : Int) (w : World) (hr : RI w A n c st) (hr' : RI w A' n' c' l) (hb : ∀ v ∈ l, 0 ≤ v ∧ v < (n : Int)) :
    Calls Tryz.prog 148 #[.slice A n c, .slice A' n' c', .int .i64 want] w fun e w' => e = .returned (.bool (areB st want l)) ∧ w = w' := by
  have hn := hr.lenle
  have hn' := hr'.lenle
  have hc := hr.cell
  have hc' := hr'.cell
  have HL : Hid (l.length = n') := hr'.len
  have HB := hid hb
  clear hr hr' hb
  go_enter Tryz.func148, Tryz.ntmps148
  go_wp2
  go_loopg [7] n' (fun gg s7 wr => ∃ kk : Nat, kk ≤ n' ∧ n' - kk ≤ gg ∧ s7 = .int .i64 kk ∧ w = wr ∧ Aside (∀ j, j < kk → (stv st (nth l j) = want) = True))
  case atStart => exact ⟨0, Nat.zero_le _, by omega, rfl, rfl, fun j hj => absurd hj (Nat.not_lt_zero _)⟩
  case round =>
    obtain ⟨kk, hkk, hg, rfl, rfl, AA⟩ := hrel
    by_cases hlt : kk < n'
    · have hltz : (kk : Int) < (n' : Int) := by omega
      obtain ⟨ad', rfl, hcell'⟩ := hc' kk hlt
      have HM : Hid (nth l kk ∈ l) := nth_mem (by have := HL.out; omega)
      have hy0 := (HB.out _ HM.out).1
      have hy1 := (HB.out _ HM.out).2
      generalize hy : nth l kk = y at hcell' hy0 hy1 HM
      obtain ⟨ad, rfl, hcell⟩ := hc y.toNat (by omega)
      clear hc hc'
      have HZ : Hid (∀ z, nth st y.toNat = z → stv st y = z) := fun z h => h
      generalize hz : nth st y.toNat = z at hcell
      have HY : Hid (nth l kk = y ∧ stv st y = z) := ⟨hy, HZ.out z hz⟩
      clear hy hz HZ
      by_cases hx : z = want
      · have d : (z == want) = true := by simpa using hx
        have HX := hid hx
        clear hx
        go_wp2
        go_roundg (n' - (kk + 1))
        case measure => omega
        case rel =>
          refine ⟨kk + 1, by omega, by omega, by go_num, rfl, (show Aside _ from fun j hj => ?_)⟩
          rcases Nat.lt_or_ge j kk with h1 | h1
          · exact AA.out j h1
          · obtain rfl : j = kk := by omega
            rw [HY.out.1, HY.out.2]
            exact eq_true HX.out
      · have d : (z == want) = false := by simpa using hx
        have HX := hid hx
        clear hx
        go_wp2
        go_ret
        exact ⟨ret_bool (Bool.eq_false_iff.2 fun h => HX.out (HY.out.2.symm.trans (areB_iff.1 h _ HM.out))).symm, rfl⟩
    · have hltz : ¬ (kk : Int) < (n' : Int) := by omega
      clear hc hc'
      have HF : Hid (areB st want l = true) := by
        refine areB_iff.2 fun v hv => ?_
        obtain ⟨i, hi, rfl⟩ := mem_iff_nth.1 hv
        exact of_eq_true (AA.out i (by have := HL.out; omega))
      go_wp2
      go_ret
      exact ⟨ret_bool HF.out.symm, rfl⟩

set_option maxHeartbeats 800000 in
/-- some. -/
theorem f150_any (A A' : Option Addr) (n c n' c' : Nat) (st l : List Int) (want : Int) (w : World) (hr : RI w A n c st) (hr' : RI w A' n' c' l) (hb : ∀ v ∈ l, 0 ≤ v ∧ v < (n : Int)) :
    Calls Tryz.prog 150 #[.slice A n c, .slice A' n' c', .int .i64 want] w fun e w' => e = .returned (.bool (someB st want l)) ∧ w = w' := by
  have hn := hr.lenle
  have hn' := hr'.lenle
  have hc := hr.cell
  have hc' := hr'.cell
  have HL : Hid (l.length = n') := hr'.len
  have HB := hid hb
  clear hr hr' hb
  go_enter Tryz.func150, Tryz.ntmps150
  go_wp2
  go_loopg [7] n' (fun gg s7 wr => ∃ kk : Nat, kk ≤ n' ∧ n' - kk ≤ gg ∧ s7 = .int .i64 kk ∧ w = wr ∧ Aside (∀ j, j < kk → (stv st (nth l j) = want) = False))
  case atStart => exact ⟨0, Nat.zero_le _, by omega, rfl, rfl, fun j hj => absurd hj (Nat.not_lt_zero _)⟩
  case round =>
    obtain ⟨kk, hkk, hg, rfl, rfl, AA⟩ := hrel
    by_cases hlt : kk < n'
    · have hltz : (kk : Int) < (n' : Int) := by omega
      obtain ⟨ad', rfl, hcell'⟩ := hc' kk hlt
      have HM : Hid (nth l kk ∈ l) := nth_mem (by have := HL.out; omega)
      have hy0 := (HB.out _ HM.out).1
      have hy1 := (HB.out _ HM.out).2
      generalize hy : nth l kk = y at hcell' hy0 hy1 HM
      obtain ⟨ad, rfl, hcell⟩ := hc y.toNat (by omega)
      clear hc hc'
      have HZ : Hid (∀ z, nth st y.toNat = z → stv st y = z) := fun z h => h
      generalize hz : nth st y.toNat = z at hcell
      have HY : Hid (nth l kk = y ∧ stv st y = z) := ⟨hy, HZ.out z hz⟩
      clear hy hz HZ
      by_cases hx : z = want
      · have d : (z == want) = true := by simpa using hx
        have HX := hid hx
        clear hx
        go_wp2
        go_ret
        exact ⟨ret_bool (someB_iff.2 ⟨_, HM.out, HY.out.2.trans HX.out⟩).symm, rfl⟩
      · have d : (z == want) = false := by simpa using hx
        have HX := hid hx
        clear hx
        go_wp2
        go_roundg (n' - (kk + 1))
        case measure => omega
        case rel =>
          refine ⟨kk + 1, by omega, by omega, by go_num, rfl, (show Aside _ from fun j hj => ?_)⟩
          rcases Nat.lt_or_ge j kk with h1 | h1
          · exact AA.out j h1
          · obtain rfl : j = kk := by omega
            rw [HY.out.1, HY.out.2]
            exact eq_false HX.out
    · have hltz : ¬ (kk : Int) < (n' : Int) := by omega
      clear hc hc'
      have HF : Hid (someB st want l = false) := by
        refine Bool.eq_false_iff.2 fun h => ?_
        obtain ⟨v, hv, h⟩ := someB_iff.1 h
        obtain ⟨i, hi, rfl⟩ := mem_iff_nth.1 hv
        exact of_eq_false (AA.out i (by have := HL.out; omega)) h
      go_wp2
      go_ret
      exact ⟨ret_bool HF.out.symm, rfl⟩

theorem other_succ {st : List Int} {v : Int} {e : List Int} {k : Nat} (h : k < e.length) : otherB st v (e.take (k + 1)) = (otherB st v (e.take k) || (decide (nth e k ≠ v) && decide (stv st (nth e k) = 2))) := by
  unfold otherB
  rw [List.take_add_one, List.any_append, List.getElem?_eq_getElem h, nth_eq h]
  simp
def freeE (E : List (List Int)) (st : List Int) (v : Int) : Bool := E.all fun e => decide (v ∉ e) || otherB st v e

set_option maxHeartbeats 4000000 in
/-- free. -/
theorem f149_any (CA EA A : Option Addr) (cn cc en ec n c : Nat) (g : Graph) (st : List Int) (v : Int) (w : World) (hr : RG w CA cn cc EA en ec g) (hs : RI w A n c st) (hb : ∀ e ∈ g.edges, ∀ u ∈ e, 0 ≤ u ∧ u < (n : Int)) :
    Calls Tryz.prog 149 #[.agg #[.int .i64 g.n, .slice CA cn cc, .slice EA en ec], .slice A n c, .int .i64 v] w fun e w' => e = .returned (.bool (freeE g.edges st v)) ∧ Ext w w' := by
  obtain ⟨N, cost, edges⟩ := g
  simp only [] at *
  have hx0 : Ext w (w.alloc (.cells #[.int .i64 N, .slice CA cn cc, .slice EA en ec] 25)) := (by repeat' (first | exact Ext.refl _ | assumption | apply Ext.alloc | apply Ext.drewN | apply Ext.drew))
  have hr0 := hr.ext hx0
  have hs0 := hs.ext hx0
  have HX0 := hid hx0
  have HL : Hid (edges.length = en) := hr0.edges.len
  have hen := hr0.edges.lenle
  have HR := hid hr0
  have HS := hid hs0
  have hn := hs0.lenle
  have HB := hid hb
  have hb2 : ((w.alloc (.cells #[.int .i64 N, .slice CA cn cc, .slice EA en ec] 25))).cell? ⟨w.heap.size, 2, none⟩ = some (.slice EA en ec) := by simp
  clear hx0 hr0 hr hs hs0 hb
  go_enter Tryz.func149, Tryz.ntmps149
  go_wp2
  generalize (w.alloc (.cells #[.int .i64 N, .slice CA cn cc, .slice EA en ec] 25)) = w0 at HX0 HR HS hb2 ⊢
  go_loopg [7, 8, 9, 10] en (fun gg s7 s8 s9 s10 wr => ∃ ii : Nat, ii ≤ en ∧ en - ii ≤ gg ∧ s7 = .int .i64 ii ∧ w0 = wr ∧ Aside (∀ i, i < ii → (decide (v ∉ row edges i) || otherB st v (row edges i)) = true))
  case atStart => exact ⟨0, Nat.zero_le _, by omega, rfl, rfl, fun j hj => absurd hj (Nat.not_lt_zero _)⟩
  case round =>
    obtain ⟨ii, hii, hg, rfl, rfl, AA⟩ := hrel
    by_cases hlt : ii < en
    · have hltz : (ii : Int) < (en : Int) := by omega
      have HI := hid hlt
      obtain ⟨ad, B, m, d, rfl, hcell, hri⟩ := HR.out.edges.cell ii hlt
      have HRI := hid hri
      have hmm := hri.lenle
      have HM : Hid ((row edges ii).length = m) := hri.len
      have HE : Hid (row edges ii ∈ edges) := row_mem (by have := HL.out; omega)
      have K65 : Hid (∀ W, Ext w0 W → Calls Tryz.prog 65 #[.slice B m d, .int .i64 v] W fun e w' => e = .returned (.bool (decide (v ∈ row edges ii))) ∧ W = w') := fun W hW => f65_any B m d _ v W (HRI.out.ext hW)
      clear hri
      by_cases hv : v ∈ row edges ii
      · rw [decide_eq_true hv] at K65
        have HV := hid hv
        clear hv
        go_wp2_with (go_at_call 65; (with_reducible refine (K65.out _ (by repeat' (first | exact Ext.refl _ | assumption | apply Ext.alloc | apply Ext.drewN | apply Ext.drew))).mono ?_); rintro e w1 ⟨rfl, rfl⟩)
        go_loopg [8, 9, 10] m (fun g2 s8 s9 s10 wr2 => ∃ (jj : Nat) (b : Bool), jj ≤ m ∧ m - jj ≤ g2 ∧ s8 = .bool b ∧ s9 = .int .i64 jj ∧ w0 = wr2 ∧ Hid (b = otherB st v ((row edges ii).take jj)))
        case atStart => exact ⟨0, false, Nat.zero_le _, by omega, rfl, rfl, rfl, hid rfl⟩
        case round =>
          obtain ⟨jj, b, hjj, hg2, rfl, rfl, rfl, HO⟩ := hrel
          by_cases hlj : jj < m
          · have hljz : (jj : Int) < (m : Int) := by omega
            obtain ⟨ad2, rfl, hcell2⟩ := HRI.out.cell jj hlj
            have HU : Hid (nth (row edges ii) jj ∈ row edges ii) := nth_mem (by have := HM.out; omega)
            have hy0 := (HB.out _ HE.out _ HU.out).1
            have hy1 := (HB.out _ HE.out _ HU.out).2
            generalize hy : nth (row edges ii) jj = y at hcell2 hy0 hy1 HU
            have HY := hid hy
            clear hy
            cases b with
            | true =>
              go_wp2
              go_roundg (m - (jj + 1))
              case measure => omega
              case rel =>
                refine ⟨jj + 1, true, by omega, by omega, rfl, by go_num, rfl, hid ?_⟩
                rw [other_succ (by have := HM.out; omega), ← HO.out]
                rfl
            | false =>
              by_cases hx : y = v
              · have d1 : (y == v) = true := by simpa using hx
                have HX := hid hx
                clear hx
                go_wp2
                go_roundg (m - (jj + 1))
                case measure => omega
                case rel =>
                  refine ⟨jj + 1, false, by omega, by omega, rfl, by go_num, rfl, hid ?_⟩
                  rw [other_succ (by have := HM.out; omega), ← HO.out, HY.out]
                  simp [HX.out]
              · have d1 : (y == v) = false := by simpa using hx
                have HX := hid hx
                clear hx
                obtain ⟨ad3, rfl, hcell3⟩ := HS.out.cell y.toNat (by omega)
                have HZ : Hid (∀ z, nth st y.toNat = z → stv st y = z) := fun z h => h
                generalize hz : nth st y.toNat = z at hcell3
                have HYZ : Hid (stv st y = z) := HZ.out z hz
                clear hz HZ
                by_cases hq : z = 2
                · have d2 : (z == 2) = true := by simpa using hq
                  have HQ := hid hq
                  clear hq
                  go_wp2
                  go_roundg (m - (jj + 1))
                  case measure => omega
                  case rel =>
                    refine ⟨jj + 1, true, by omega, by omega, by simp [bne, d1], by go_num, rfl, hid ?_⟩
                    rw [other_succ (by have := HM.out; omega), ← HO.out, HY.out, HYZ.out, decide_eq_true HX.out, decide_eq_true HQ.out]
                    rfl
                · have d2 : (z == 2) = false := by simpa using hq
                  have HQ := hid hq
                  clear hq
                  go_wp2
                  go_roundg (m - (jj + 1))
                  case measure => omega
                  case rel =>
                    refine ⟨jj + 1, false, by omega, by omega, rfl, by go_num, rfl, hid ?_⟩
                    rw [other_succ (by have := HM.out; omega), ← HO.out, HY.out, HYZ.out, decide_eq_false HQ.out]
                    simp
          · have hljz : ¬ (jj : Int) < (m : Int) := by omega
            have HB2 : Hid (b = otherB st v (row edges ii)) := by
              rw [HO.out, List.take_of_length_le (by have := HM.out; omega)]
              exact hid rfl
            cases b with
            | true =>
              go_wp2
              go_roundg (en - (ii + 1))
              case measure => omega
              case rel =>
                refine ⟨ii + 1, by omega, by omega, by go_num, rfl, (show Aside _ from fun j hj => ?_)⟩
                rcases Nat.lt_or_ge j ii with h1 | h1
                · exact AA.out j h1
                · obtain rfl : j = ii := by omega
                  rw [← HB2.out]
                  simp
            | false =>
              go_wp2
              go_ret
              refine ⟨ret_bool ?_, HX0.out⟩
              refine (Bool.eq_false_iff.2 fun h => ?_).symm
              have := List.all_eq_true.1 h _ HE.out
              rw [← HB2.out, decide_eq_false (fun h => h HV.out)] at this
              cases this
      · rw [decide_eq_false hv] at K65
        have HV := hid hv
        clear hv
        go_wp2_with (go_at_call 65; (with_reducible refine (K65.out _ (by repeat' (first | exact Ext.refl _ | assumption | apply Ext.alloc | apply Ext.drewN | apply Ext.drew))).mono ?_); rintro e w1 ⟨rfl, rfl⟩)
        go_roundg (en - (ii + 1))
        case measure => omega
        case rel =>
          refine ⟨ii + 1, by omega, by omega, by go_num, rfl, (show Aside _ from fun j hj => ?_)⟩
          rcases Nat.lt_or_ge j ii with h1 | h1
          · exact AA.out j h1
          · obtain rfl : j = ii := by omega
            rw [decide_eq_true HV.out]
            rfl
    · have hltz : ¬ (ii : Int) < (en : Int) := by omega
      go_wp2
      go_ret
      refine ⟨ret_bool ?_, HX0.out⟩
      refine (List.all_eq_true.2 fun e he => ?_).symm
      obtain ⟨i, hi, e1⟩ := List.mem_iff_getElem.1 he
      have := AA.out i (by have := HL.out; omega)
      rw [row_eq hi, e1] at this
      exact this
end Go.Proofs.YthjifmfmaiagoaaGreatDoor

/- The references: ready. -/
namespace Go.Proofs.YthjifmfmaiagoaaGreatDoor
open Go.RowKit
attribute [local go_sem] Oper.semAt_some

set_option maxRecDepth 100000 in
set_option maxHeartbeats 4000000 in
/-- ready. -/
theorem f97_any (CA EA WA : Option Addr) (cn cc en ec wn wc : Nat) (g : Graph) (ws : List Way) (w : World) (hr : RG w CA cn cc EA en ec g) (hws : RW w WA wn wc ws) :
    Calls Tryz.prog 97 #[.agg #[.int .i64 g.n, .slice CA cn cc, .slice EA en ec], .slice WA wn wc] w fun e w' => e = .returned (.bool (readyB g ws)) ∧ Ext w w' := by
  obtain ⟨N, cost, edges⟩ := g
  simp only [] at *
  have hx0 : Ext w (w.alloc (.cells #[.int .i64 N, .slice CA cn cc, .slice EA en ec] 25)) := (by repeat' (first | exact Ext.refl _ | assumption | apply Ext.alloc | apply Ext.drewN | apply Ext.drew))
  have HX0 := hid hx0
  have HR := hid hr
  have HW := hid hws
  have HL : Hid (ws.length = wn) := hws.len
  have hn := hws.lenle
  have QB : Hid (∀ W, Ext (w.alloc (.cells #[.int .i64 N, .slice CA cn cc, .slice EA en ec] 25)) W → W.cell? ⟨w.heap.size, 0, none⟩ = some (.int .i64 N) ∧ W.cell? ⟨w.heap.size, 1, none⟩ = some (.slice CA cn cc) ∧ W.cell? ⟨w.heap.size, 2, none⟩ = some (.slice EA en ec)) := fun W hW => ⟨hW.cell (by simp), hW.cell (by simp), hW.cell (by simp)⟩
  clear hx0 hr hws
  go_enter Tryz.func97, Tryz.ntmps97
  go_wp2
  generalize hw0 : (w.alloc (.cells #[.int .i64 N, .slice CA cn cc, .slice EA en ec] 25)) = w0 at HX0 QB ⊢
  go_loopg [5] wn (fun gg s5 wr => ∃ kk : Nat, kk ≤ wn ∧ wn - kk ≤ gg ∧ s5 = .int .i64 kk ∧ Hid (Ext w0 wr) ∧ Aside (∀ j, j < kk → formedB' N (way ws j) = true))
  case atStart => exact ⟨0, Nat.zero_le _, by omega, rfl, hid (Ext.refl _), fun j hj => absurd hj (Nat.not_lt_zero _)⟩
  case round =>
    obtain ⟨kk, hkk, hg, rfl, HE, AA⟩ := hrel
    by_cases hlt : kk < wn
    · have hltz : (kk : Int) < (wn : Int) := by omega
      obtain ⟨ad, B, m, d', B', m', d'', rfl, hcell, hcell', hri, hri'⟩ := (HW.out.ext (HX0.out.trans HE.out)).cell kk hlt
      have K40 : Hid (∀ W, Ext wr W → Calls Tryz.prog 40 #[.agg #[.slice B m d', .slice B' m' d''], .int .i64 N] W fun e w' => e = .returned (.bool (formedB' N (way ws kk))) ∧ Ext W w') := fun W hW => f40_any W N (way ws kk) B B' m d' m' d'' (hri.ext hW) (hri'.ext hW)
      have hN := (QB.out wr HE.out).1
      have HK := hid hlt
      clear hri hri'
      generalize hf : formedB' N (way ws kk) = bf at K40
      have HF := hid hf
      clear hf
      cases bf with
      | false =>
        go_wp2_with fail
        have hcp : ∀ p : ExtOf wr, p.W.cell? (ad.add (kk * 2)) = some (.slice B m d') := fun p => p.h.cell hcell
        have hcp' : ∀ p : ExtOf wr, p.W.cell? ⟨(ad.add (kk * 2)).block, (ad.add (kk * 2)).off + 1, none⟩ = some (.slice B' m' d'') := fun p => p.h.cell hcell'
        have hnp : ∀ p : ExtOf wr, p.W.cell? ⟨w.heap.size, 0, none⟩ = some (.int .i64 N) := fun p => p.h.cell hN
        clear hcell hcell' hN
        have K40p : Hid (∀ p : ExtOf wr, Calls Tryz.prog 40 #[.agg #[.slice B m d', .slice B' m' d''], .int .i64 N] p.W fun e w' => e = .returned (.bool false) ∧ Ext p.W w') := fun p => K40.out p.W p.h
        clear K40
        refine wp_region_qw mixed' (by kernel_rfl) ?_
        repeat (refine QW.step (fun K hK => ?_); go_simp; first | (refine hK _ ?_; clear hK K) | (apply Exists.intro; refine ⟨fun _ => ?_, hK _ ?_⟩; (exact Calls.ext_of (K40p.out _)); clear hK K))
        refine QW.nil ?_
        rintro _ ⟨p1, rfl⟩
        obtain ⟨w1, hw1⟩ := p1
        dsimp only
        have HXr : Hid (Ext wr w1) := hw1
        clear hcp hcp' hnp hw1 K40p
        go_wp2_with fail
        go_ret
        refine ⟨ret_bool ?_, (HX0.out.trans HE.out).trans HXr.out⟩
        unfold readyB
        rw [show ws.all (formedB N) = false from List.all_eq_false.2 ⟨_, way_mem (i := kk) (by have := HL.out; have := HK.out; omega), by have := HF.out; unfold formedB' at this; unfold formedB; rw [this]; simp⟩]
        simp
      | true =>
        go_wp2_with fail
        have hcp : ∀ p : ExtOf wr, p.W.cell? (ad.add (kk * 2)) = some (.slice B m d') := fun p => p.h.cell hcell
        have hcp' : ∀ p : ExtOf wr, p.W.cell? ⟨(ad.add (kk * 2)).block, (ad.add (kk * 2)).off + 1, none⟩ = some (.slice B' m' d'') := fun p => p.h.cell hcell'
        have hnp : ∀ p : ExtOf wr, p.W.cell? ⟨w.heap.size, 0, none⟩ = some (.int .i64 N) := fun p => p.h.cell hN
        clear hcell hcell' hN
        have K40p : Hid (∀ p : ExtOf wr, Calls Tryz.prog 40 #[.agg #[.slice B m d', .slice B' m' d''], .int .i64 N] p.W fun e w' => e = .returned (.bool true) ∧ Ext p.W w') := fun p => K40.out p.W p.h
        clear K40
        refine wp_region_qw mixed' (by kernel_rfl) ?_
        repeat (refine QW.step (fun K hK => ?_); go_simp; first | (refine hK _ ?_; clear hK K) | (apply Exists.intro; refine ⟨fun _ => ?_, hK _ ?_⟩; (exact Calls.ext_of (K40p.out _)); clear hK K))
        refine QW.nil ?_
        rintro _ ⟨p1, rfl⟩
        obtain ⟨w1, hw1⟩ := p1
        dsimp only
        have HXr : Hid (Ext wr w1) := hw1
        clear hcp hcp' hnp hw1 K40p
        go_wp2_with fail
        go_roundg (wn - (kk + 1))
        case measure => omega
        case rel =>
          refine ⟨kk + 1, by omega, by omega, by go_num, HE.out.trans HXr.out, (show Aside _ from fun j hj => ?_)⟩
          rcases Nat.lt_or_ge j kk with h1 | h1
          · exact AA.out j h1
          · obtain rfl : j = kk := by omega
            exact HF.out
    · have hltz : ¬ (kk : Int) < (wn : Int) := by omega
      have HA : Hid (ws.all (formedB N) = true) := List.all_eq_true.2 fun e he => by
        obtain ⟨i, hi, e1⟩ := List.mem_iff_getElem.1 he
        have := AA.out i (by have := HL.out; omega)
        rw [way_eq hi, e1] at this
        exact this
      obtain ⟨b0, b1, b2⟩ := QB.out wr HE.out
      have K39 := f39_any CA EA cn cc en ec ⟨N, cost, edges⟩ wr (HR.out.ext (HX0.out.trans HE.out))
      simp only [] at K39
      generalize hv : decide (Valid ⟨N, cost, edges⟩) = bv at K39
      have HV := hid hv
      clear hv
      by_cases h4 : wn ≤ 400
      · have d4 : decide ((wn : Int) ≤ 400) = true := decide_eq_true (by omega)
        go_wp2_with (go_at_call 39; refine K39.mono ?_; rintro e w1 ⟨rfl, x1⟩; have X1 := hid x1; clear x1)
        go_ret
        refine ⟨ret_bool ?_, (HX0.out.trans HE.out).trans X1.out⟩
        unfold readyB
        rw [HA.out, HV.out, decide_eq_true (show ws.length ≤ 400 by have := HL.out; omega)]
        simp
      · have d4 : decide ((wn : Int) ≤ 400) = false := decide_eq_false (by omega)
        clear K39
        go_wp2
        go_ret
        refine ⟨ret_bool ?_, HX0.out.trans HE.out⟩
        unfold readyB
        rw [decide_eq_false (show ¬ ws.length ≤ 400 by have := HL.out; omega)]
        simp
end Go.Proofs.YthjifmfmaiagoaaGreatDoor

/- The references: right, the check of a step: words for its memory; where it refuses at once. -/
namespace Go.Proofs.YthjifmfmaiagoaaGreatDoor
open Go.RowKit
attribute [local go_sem] Oper.semAt_some

/-- What the reference's check of a step is handed, and what does not change. -/
structure D98 where
  w0 : World
  g : Graph
  ws : List Way
  hold : Bool
  ss : List Step
  CA : Option Addr
  cn : Nat
  cc : Nat
  EA : Option Addr
  en : Nat
  ec : Nat
  WA : Option Addr
  wn : Nat
  wc : Nat
  SA : Option Addr
  sn : Nat
  sc : Nat
  n : Nat
  U : Nat
structure In98 (k : D98) : Prop where
  rg : RG k.w0 k.CA k.cn k.cc k.EA k.en k.ec k.g
  rws : RW k.w0 k.WA k.wn k.wc k.ws
  rs : RS k.w0 k.SA k.sn k.sc k.ss
  hn : k.g.n = k.n
  n1 : k.n ≤ 4000
  u0 : k.w0.heap.size ≤ k.U
  ok : ∀ e ∈ k.g.edges, Verts e k.g.n
  okw : ∀ w ∈ k.ws, Verts w.pos k.g.n ∧ Verts w.neg k.g.n
structure Now98 (k : D98) (A : Option Addr) (c : Nat) (st : List Int) (seen : List Bool) (W : World) : Prop where
  ext : Ext k.w0 W
  lU : k.U < W.heap.size
  rst : RI W A k.n c st
  ne : ∀ ad, A = some ad → ad.block ≠ k.U
  nil : A = none → c = 0
  row : RowB W k.U seen
  hsn : seen.length = k.sn
/-- A step that is no branch. -/
def L98 (k : D98) (W : World) (seen : List Bool) (at_ : Nat) (b : Bool) (e : Ending) (w' : World) : Prop :=
  e = .returned (.bool b) ∧ Fr k.U k.U W w' ∧ RowB w' k.U (seen.set at_ true)
/-- What a call of the check gives. -/
def P98 (k : D98) (W : World) (m : Option (List Bool)) (e : Ending) (w' : World) : Prop :=
  e = .returned (.bool m.isSome) ∧ Fr k.U k.U W w' ∧ ∀ s2, m = some s2 → RowB w' k.U s2
def C98 (k : D98) (f : Nat) : Prop := ∀ (at_ : Nat) (A : Option Addr) (c : Nat) (st : List Int) (seen : List Bool) (W : World), Now98 k A c st seen W → at_ < k.sn → k.sn ≤ at_ + f →
  Calls Tryz.prog 98 #[.agg #[.int .i64 (k.n : Int), .slice k.CA k.cn k.cc, .slice k.EA k.en k.ec], .slice k.WA k.wn k.wc, .bool k.hold, .agg #[.slice k.SA k.sn k.sc], .int .i64 (at_ : Int), .slice A k.n c, .slice (some ⟨k.U, 0, none⟩) k.sn k.sn] W fun e w' => P98 k W (rightM k.g k.ws k.hold k.ss f at_ st seen) e w'
theorem Now98.fr2 {k : D98} {A : Option Addr} {c : Nat} {st : List Int} {seen : List Bool} {W : World} (N : Now98 k A c st seen W) (at_ : Nat) (o1 o2 : Obj) : Fr k.U k.U W ((((W.alloc o1).alloc o2)).setCell ⟨k.U, at_, none⟩ (.bool true)) :=
  (Fr.ext (by repeat' (first | exact Ext.refl _ | apply Ext.alloc))).trans (Fr.setU _ _ _)
theorem Now98.e2 {k : D98} (I : In98 k) {A : Option Addr} {c : Nat} {st : List Int} {seen : List Bool} {W : World} (N : Now98 k A c st seen W) (at_ : Nat) (o1 o2 : Obj) : Ext k.w0 ((((W.alloc o1).alloc o2)).setCell ⟨k.U, at_, none⟩ (.bool true)) :=
  Below.setCell ((N.ext.alloc o1).alloc o2) I.u0 _

set_option maxRecDepth 100000 in
set_option maxHeartbeats 4000000 in
theorem r98_seen {k : D98} {A : Option Addr} {c : Nat} {st : List Int} {seen : List Bool} {W : World} (N : Now98 k A c st seen W) {at_ : Nat} (ha : at_ < k.sn) (hs : nthB seen at_ = true) :
    Calls Tryz.prog 98 #[.agg #[.int .i64 (k.n : Int), .slice k.CA k.cn k.cc, .slice k.EA k.en k.ec], .slice k.WA k.wn k.wc, .bool k.hold, .agg #[.slice k.SA k.sn k.sc], .int .i64 (at_ : Int), .slice A k.n c, .slice (some ⟨k.U, 0, none⟩) k.sn k.sn] W fun e w' => e = .returned (.bool false) ∧ Ext W w' := by
  have haz : (at_ : Int) < (k.sn : Int) := by omega
  have hx : Ext W ((W.alloc (.cells #[.int .i64 (k.n : Int), .slice k.CA k.cn k.cc, .slice k.EA k.en k.ec] 25)).alloc (.cells #[.slice k.SA k.sn k.sc] 36)) := (by repeat' (first | exact Ext.refl _ | assumption | apply Ext.alloc | apply Ext.drewN | apply Ext.drew))
  have cU1 : ((W.alloc (.cells #[.int .i64 (k.n : Int), .slice k.CA k.cn k.cc, .slice k.EA k.en k.ec] 25)).alloc (.cells #[.slice k.SA k.sn k.sc] 36)).cell? ⟨k.U, at_, none⟩ = some (.bool true) := hx.cell (by rw [(N.row at_ (by rw [N.hsn]; exact ha)).1, hs])
  have HX := hid hx
  clear N hs ha hx
  go_enter Tryz.func98, Tryz.ntmps98
  go_wp2
  refine bodyPost_ret (v := .bool false) (by simp [results, Tryz.results98, go_sem]) rfl ?_
  exact ⟨rfl, HX.out⟩

set_option maxRecDepth 100000 in
set_option maxHeartbeats 4000000 in
theorem r98_bad1 {k : D98} (I : In98 k) {A : Option Addr} {c : Nat} {st : List Int} {seen : List Bool} {W : World} (N : Now98 k A c st seen W) {at_ : Nat} (ha : at_ < k.sn) (hs : nthB seen at_ = false) (h1 : (stepv k.ss at_).kind ≠ 1) (h2 : (stepv k.ss at_).in_ ≠ 0) :
    Calls Tryz.prog 98 #[.agg #[.int .i64 (k.n : Int), .slice k.CA k.cn k.cc, .slice k.EA k.en k.ec], .slice k.WA k.wn k.wc, .bool k.hold, .agg #[.slice k.SA k.sn k.sc], .int .i64 (at_ : Int), .slice A k.n c, .slice (some ⟨k.U, 0, none⟩) k.sn k.sn] W fun e w' => L98 k W seen at_ (false) e w' := by
  obtain ⟨w0, g, ws, hold, ss, CA, cn, cc, EA, en, ec, WA, wn, wc, SA, sn, sc, n, U⟩ := k
  have irs : RS w0 SA sn sc ss := I.rs
  have nrow : RowB W U seen := N.row
  have nsn : seen.length = sn := N.hsn
  have hlU : U < W.heap.size := N.lU
  have hE2 : Ext w0 (((W.alloc (.cells #[.int .i64 (n : Int), .slice CA cn cc, .slice EA en ec] 25)).alloc (.cells #[.slice SA sn sc] 36)).setCell ⟨U, at_, none⟩ (.bool true)) := N.e2 I at_ _ _
  have hF2 : Fr U U W (((W.alloc (.cells #[.int .i64 (n : Int), .slice CA cn cc, .slice EA en ec] 25)).alloc (.cells #[.slice SA sn sc] 36)).setCell ⟨U, at_, none⟩ (.bool true)) := N.fr2 at_ _ _
  have HI := hid I
  have HN := hid N
  clear I N
  simp only [] at *
  have haz : (at_ : Int) < (sn : Int) := by omega
  have hx : Ext W ((W.alloc (.cells #[.int .i64 (n : Int), .slice CA cn cc, .slice EA en ec] 25)).alloc (.cells #[.slice SA sn sc] 36)) := (by repeat' (first | exact Ext.refl _ | assumption | apply Ext.alloc | apply Ext.drewN | apply Ext.drew))
  have cU1 : ((W.alloc (.cells #[.int .i64 (n : Int), .slice CA cn cc, .slice EA en ec] 25)).alloc (.cells #[.slice SA sn sc] 36)).cell? ⟨U, at_, none⟩ = some (.bool false) := hx.cell (by rw [(nrow at_ (by rw [nsn]; exact ha)).1, hs])
  have fU1 : ((W.alloc (.cells #[.int .i64 (n : Int), .slice CA cn cc, .slice EA en ec] 25)).alloc (.cells #[.slice SA sn sc] 36)).frozen? ⟨U, at_, none⟩ = false := by rw [hx.frozen (show U < W.heap.size from hlU)]; exact (nrow at_ (by rw [nsn]; exact ha)).2
  obtain ⟨ad, hSA, s1, s2, s3, s4⟩ := (irs.ext hE2).cell at_ ha
  subst hSA
  have c36 : (((W.alloc (.cells #[.int .i64 (n : Int), .slice CA cn cc, .slice EA en ec] 25)).alloc (.cells #[.slice (some ad) sn sc] 36)).setCell ⟨U, at_, none⟩ (.bool true)).cell? ⟨W.heap.size + 1, 0, none⟩ = some (.slice (some ad) sn sc) := by rw [World.cell?_setCell_other _ _ _ _ (fun e => by have := (Addr.mk.inj e).1; omega)]; simp
  have g0 : (((W.alloc (.cells #[.int .i64 (n : Int), .slice CA cn cc, .slice EA en ec] 25)).alloc (.cells #[.slice (some ad) sn sc] 36)).setCell ⟨U, at_, none⟩ (.bool true)).cell? ⟨W.heap.size, 0, none⟩ = some (.int .i64 (n : Int)) := by rw [World.cell?_setCell_other _ _ _ _ (fun e => by have := (Addr.mk.inj e).1; omega)]; simp
  have g1 : (((W.alloc (.cells #[.int .i64 (n : Int), .slice CA cn cc, .slice EA en ec] 25)).alloc (.cells #[.slice (some ad) sn sc] 36)).setCell ⟨U, at_, none⟩ (.bool true)).cell? ⟨W.heap.size, 1, none⟩ = some (.slice CA cn cc) := by rw [World.cell?_setCell_other _ _ _ _ (fun e => by have := (Addr.mk.inj e).1; omega)]; simp
  have g2 : (((W.alloc (.cells #[.int .i64 (n : Int), .slice CA cn cc, .slice EA en ec] 25)).alloc (.cells #[.slice (some ad) sn sc] 36)).setCell ⟨U, at_, none⟩ (.bool true)).cell? ⟨W.heap.size, 2, none⟩ = some (.slice EA en ec) := by rw [World.cell?_setCell_other _ _ _ _ (fun e => by have := (Addr.mk.inj e).1; omega)]; simp
  generalize hxx : stepv ss at_ = x at s1 s2 s3 s4 h1 h2
  have HXX := hid hxx
  clear hxx
  obtain ⟨xk, xa, xi, xo⟩ := x
  simp only [] at s1 s2 s3 s4 h1 h2
  have hx3 : Ext (((W.alloc (.cells #[.int .i64 (n : Int), .slice CA cn cc, .slice EA en ec] 25)).alloc (.cells #[.slice (some ad) sn sc] 36)).setCell ⟨U, at_, none⟩ (.bool true)) ((((W.alloc (.cells #[.int .i64 (n : Int), .slice CA cn cc, .slice EA en ec] 25)).alloc (.cells #[.slice (some ad) sn sc] 36)).setCell ⟨U, at_, none⟩ (.bool true)).alloc (.cells #[.int .i64 xk, .int .i64 xa, .int .i64 xi, .int .i64 xo] 57)) := (by repeat' (first | exact Ext.refl _ | assumption | apply Ext.alloc | apply Ext.drewN | apply Ext.drew))
  have G0 : ((((W.alloc (.cells #[.int .i64 (n : Int), .slice CA cn cc, .slice EA en ec] 25)).alloc (.cells #[.slice (some ad) sn sc] 36)).setCell ⟨U, at_, none⟩ (.bool true)).alloc (.cells #[.int .i64 xk, .int .i64 xa, .int .i64 xi, .int .i64 xo] 57)).cell? ⟨W.heap.size, 0, none⟩ = some (.int .i64 (n : Int)) := hx3.cell g0
  have G1 : ((((W.alloc (.cells #[.int .i64 (n : Int), .slice CA cn cc, .slice EA en ec] 25)).alloc (.cells #[.slice (some ad) sn sc] 36)).setCell ⟨U, at_, none⟩ (.bool true)).alloc (.cells #[.int .i64 xk, .int .i64 xa, .int .i64 xi, .int .i64 xo] 57)).cell? ⟨W.heap.size, 1, none⟩ = some (.slice CA cn cc) := hx3.cell g1
  have G2 : ((((W.alloc (.cells #[.int .i64 (n : Int), .slice CA cn cc, .slice EA en ec] 25)).alloc (.cells #[.slice (some ad) sn sc] 36)).setCell ⟨U, at_, none⟩ (.bool true)).alloc (.cells #[.int .i64 xk, .int .i64 xa, .int .i64 xi, .int .i64 xo] 57)).cell? ⟨W.heap.size, 2, none⟩ = some (.slice EA en ec) := hx3.cell g2
  have P0 : ((((W.alloc (.cells #[.int .i64 (n : Int), .slice CA cn cc, .slice EA en ec] 25)).alloc (.cells #[.slice (some ad) sn sc] 36)).setCell ⟨U, at_, none⟩ (.bool true)).alloc (.cells #[.int .i64 xk, .int .i64 xa, .int .i64 xi, .int .i64 xo] 57)).cell? ⟨W.heap.size + 1, 0, none⟩ = some (.slice (some ad) sn sc) := hx3.cell c36
  have HF3 : Hid (Fr U U W ((((W.alloc (.cells #[.int .i64 (n : Int), .slice CA cn cc, .slice EA en ec] 25)).alloc (.cells #[.slice (some ad) sn sc] 36)).setCell ⟨U, at_, none⟩ (.bool true)).alloc (.cells #[.int .i64 xk, .int .i64 xa, .int .i64 xi, .int .i64 xo] 57))) := hF2.trans (Fr.ext hx3)
  have HB3 : Hid (RowB ((((W.alloc (.cells #[.int .i64 (n : Int), .slice CA cn cc, .slice EA en ec] 25)).alloc (.cells #[.slice (some ad) sn sc] 36)).setCell ⟨U, at_, none⟩ (.bool true)).alloc (.cells #[.int .i64 xk, .int .i64 xa, .int .i64 xi, .int .i64 xo] 57)) U (seen.set at_ true)) := hid ((RowB.set (RowB.ext nrow hx) (by rw [nsn]; exact ha) true).ext hx3)
  have hst3 : RI ((((W.alloc (.cells #[.int .i64 (n : Int), .slice CA cn cc, .slice EA en ec] 25)).alloc (.cells #[.slice (some ad) sn sc] 36)).setCell ⟨U, at_, none⟩ (.bool true)).alloc (.cells #[.int .i64 xk, .int .i64 xa, .int .i64 xi, .int .i64 xo] 57)) A n c st := RI.fr HN.out.rst HF3.out fun ad h => ⟨HN.out.ne ad h, HN.out.ne ad h⟩
  have HS3 := hid hst3
  clear hst3
  have HE3 : Hid (Ext w0 ((((W.alloc (.cells #[.int .i64 (n : Int), .slice CA cn cc, .slice EA en ec] 25)).alloc (.cells #[.slice (some ad) sn sc] 36)).setCell ⟨U, at_, none⟩ (.bool true)).alloc (.cells #[.int .i64 xk, .int .i64 xa, .int .i64 xi, .int .i64 xo] 57))) := hE2.trans hx3
  clear g0 g1 g2 hx3 hE2 hF2 hx nrow nsn irs
  have d1 : (xk != 1) = true := by simpa using h1
  have d2 : (xi != 0) = true := by simpa using h2
  clear h1 h2 HS3
  clear ha hs hlU HI HN HXX HE3
  go_enter Tryz.func98, Tryz.ntmps98
  go_wp2
  refine bodyPost_ret (v := .bool false) (by simp [results, Tryz.results98, go_sem]) rfl ?_
  exact ⟨rfl, HF3.out, HB3.out⟩

set_option maxRecDepth 100000 in
set_option maxHeartbeats 4000000 in
theorem r98_bad2 {k : D98} (I : In98 k) {A : Option Addr} {c : Nat} {st : List Int} {seen : List Bool} {W : World} (N : Now98 k A c st seen W) {at_ : Nat} (ha : at_ < k.sn) (hs : nthB seen at_ = false) (h1 : (stepv k.ss at_).kind ≠ 1) (h2 : (stepv k.ss at_).in_ = 0) (h3 : (stepv k.ss at_).out ≠ 0) :
    Calls Tryz.prog 98 #[.agg #[.int .i64 (k.n : Int), .slice k.CA k.cn k.cc, .slice k.EA k.en k.ec], .slice k.WA k.wn k.wc, .bool k.hold, .agg #[.slice k.SA k.sn k.sc], .int .i64 (at_ : Int), .slice A k.n c, .slice (some ⟨k.U, 0, none⟩) k.sn k.sn] W fun e w' => L98 k W seen at_ (false) e w' := by
  obtain ⟨w0, g, ws, hold, ss, CA, cn, cc, EA, en, ec, WA, wn, wc, SA, sn, sc, n, U⟩ := k
  have irs : RS w0 SA sn sc ss := I.rs
  have nrow : RowB W U seen := N.row
  have nsn : seen.length = sn := N.hsn
  have hlU : U < W.heap.size := N.lU
  have hE2 : Ext w0 (((W.alloc (.cells #[.int .i64 (n : Int), .slice CA cn cc, .slice EA en ec] 25)).alloc (.cells #[.slice SA sn sc] 36)).setCell ⟨U, at_, none⟩ (.bool true)) := N.e2 I at_ _ _
  have hF2 : Fr U U W (((W.alloc (.cells #[.int .i64 (n : Int), .slice CA cn cc, .slice EA en ec] 25)).alloc (.cells #[.slice SA sn sc] 36)).setCell ⟨U, at_, none⟩ (.bool true)) := N.fr2 at_ _ _
  have HI := hid I
  have HN := hid N
  clear I N
  simp only [] at *
  have haz : (at_ : Int) < (sn : Int) := by omega
  have hx : Ext W ((W.alloc (.cells #[.int .i64 (n : Int), .slice CA cn cc, .slice EA en ec] 25)).alloc (.cells #[.slice SA sn sc] 36)) := (by repeat' (first | exact Ext.refl _ | assumption | apply Ext.alloc | apply Ext.drewN | apply Ext.drew))
  have cU1 : ((W.alloc (.cells #[.int .i64 (n : Int), .slice CA cn cc, .slice EA en ec] 25)).alloc (.cells #[.slice SA sn sc] 36)).cell? ⟨U, at_, none⟩ = some (.bool false) := hx.cell (by rw [(nrow at_ (by rw [nsn]; exact ha)).1, hs])
  have fU1 : ((W.alloc (.cells #[.int .i64 (n : Int), .slice CA cn cc, .slice EA en ec] 25)).alloc (.cells #[.slice SA sn sc] 36)).frozen? ⟨U, at_, none⟩ = false := by rw [hx.frozen (show U < W.heap.size from hlU)]; exact (nrow at_ (by rw [nsn]; exact ha)).2
  obtain ⟨ad, hSA, s1, s2, s3, s4⟩ := (irs.ext hE2).cell at_ ha
  subst hSA
  have c36 : (((W.alloc (.cells #[.int .i64 (n : Int), .slice CA cn cc, .slice EA en ec] 25)).alloc (.cells #[.slice (some ad) sn sc] 36)).setCell ⟨U, at_, none⟩ (.bool true)).cell? ⟨W.heap.size + 1, 0, none⟩ = some (.slice (some ad) sn sc) := by rw [World.cell?_setCell_other _ _ _ _ (fun e => by have := (Addr.mk.inj e).1; omega)]; simp
  have g0 : (((W.alloc (.cells #[.int .i64 (n : Int), .slice CA cn cc, .slice EA en ec] 25)).alloc (.cells #[.slice (some ad) sn sc] 36)).setCell ⟨U, at_, none⟩ (.bool true)).cell? ⟨W.heap.size, 0, none⟩ = some (.int .i64 (n : Int)) := by rw [World.cell?_setCell_other _ _ _ _ (fun e => by have := (Addr.mk.inj e).1; omega)]; simp
  have g1 : (((W.alloc (.cells #[.int .i64 (n : Int), .slice CA cn cc, .slice EA en ec] 25)).alloc (.cells #[.slice (some ad) sn sc] 36)).setCell ⟨U, at_, none⟩ (.bool true)).cell? ⟨W.heap.size, 1, none⟩ = some (.slice CA cn cc) := by rw [World.cell?_setCell_other _ _ _ _ (fun e => by have := (Addr.mk.inj e).1; omega)]; simp
  have g2 : (((W.alloc (.cells #[.int .i64 (n : Int), .slice CA cn cc, .slice EA en ec] 25)).alloc (.cells #[.slice (some ad) sn sc] 36)).setCell ⟨U, at_, none⟩ (.bool true)).cell? ⟨W.heap.size, 2, none⟩ = some (.slice EA en ec) := by rw [World.cell?_setCell_other _ _ _ _ (fun e => by have := (Addr.mk.inj e).1; omega)]; simp
  generalize hxx : stepv ss at_ = x at s1 s2 s3 s4 h1 h2 h3
  have HXX := hid hxx
  clear hxx
  obtain ⟨xk, xa, xi, xo⟩ := x
  simp only [] at s1 s2 s3 s4 h1 h2 h3
  have hx3 : Ext (((W.alloc (.cells #[.int .i64 (n : Int), .slice CA cn cc, .slice EA en ec] 25)).alloc (.cells #[.slice (some ad) sn sc] 36)).setCell ⟨U, at_, none⟩ (.bool true)) ((((W.alloc (.cells #[.int .i64 (n : Int), .slice CA cn cc, .slice EA en ec] 25)).alloc (.cells #[.slice (some ad) sn sc] 36)).setCell ⟨U, at_, none⟩ (.bool true)).alloc (.cells #[.int .i64 xk, .int .i64 xa, .int .i64 xi, .int .i64 xo] 57)) := (by repeat' (first | exact Ext.refl _ | assumption | apply Ext.alloc | apply Ext.drewN | apply Ext.drew))
  have G0 : ((((W.alloc (.cells #[.int .i64 (n : Int), .slice CA cn cc, .slice EA en ec] 25)).alloc (.cells #[.slice (some ad) sn sc] 36)).setCell ⟨U, at_, none⟩ (.bool true)).alloc (.cells #[.int .i64 xk, .int .i64 xa, .int .i64 xi, .int .i64 xo] 57)).cell? ⟨W.heap.size, 0, none⟩ = some (.int .i64 (n : Int)) := hx3.cell g0
  have G1 : ((((W.alloc (.cells #[.int .i64 (n : Int), .slice CA cn cc, .slice EA en ec] 25)).alloc (.cells #[.slice (some ad) sn sc] 36)).setCell ⟨U, at_, none⟩ (.bool true)).alloc (.cells #[.int .i64 xk, .int .i64 xa, .int .i64 xi, .int .i64 xo] 57)).cell? ⟨W.heap.size, 1, none⟩ = some (.slice CA cn cc) := hx3.cell g1
  have G2 : ((((W.alloc (.cells #[.int .i64 (n : Int), .slice CA cn cc, .slice EA en ec] 25)).alloc (.cells #[.slice (some ad) sn sc] 36)).setCell ⟨U, at_, none⟩ (.bool true)).alloc (.cells #[.int .i64 xk, .int .i64 xa, .int .i64 xi, .int .i64 xo] 57)).cell? ⟨W.heap.size, 2, none⟩ = some (.slice EA en ec) := hx3.cell g2
  have P0 : ((((W.alloc (.cells #[.int .i64 (n : Int), .slice CA cn cc, .slice EA en ec] 25)).alloc (.cells #[.slice (some ad) sn sc] 36)).setCell ⟨U, at_, none⟩ (.bool true)).alloc (.cells #[.int .i64 xk, .int .i64 xa, .int .i64 xi, .int .i64 xo] 57)).cell? ⟨W.heap.size + 1, 0, none⟩ = some (.slice (some ad) sn sc) := hx3.cell c36
  have HF3 : Hid (Fr U U W ((((W.alloc (.cells #[.int .i64 (n : Int), .slice CA cn cc, .slice EA en ec] 25)).alloc (.cells #[.slice (some ad) sn sc] 36)).setCell ⟨U, at_, none⟩ (.bool true)).alloc (.cells #[.int .i64 xk, .int .i64 xa, .int .i64 xi, .int .i64 xo] 57))) := hF2.trans (Fr.ext hx3)
  have HB3 : Hid (RowB ((((W.alloc (.cells #[.int .i64 (n : Int), .slice CA cn cc, .slice EA en ec] 25)).alloc (.cells #[.slice (some ad) sn sc] 36)).setCell ⟨U, at_, none⟩ (.bool true)).alloc (.cells #[.int .i64 xk, .int .i64 xa, .int .i64 xi, .int .i64 xo] 57)) U (seen.set at_ true)) := hid ((RowB.set (RowB.ext nrow hx) (by rw [nsn]; exact ha) true).ext hx3)
  have hst3 : RI ((((W.alloc (.cells #[.int .i64 (n : Int), .slice CA cn cc, .slice EA en ec] 25)).alloc (.cells #[.slice (some ad) sn sc] 36)).setCell ⟨U, at_, none⟩ (.bool true)).alloc (.cells #[.int .i64 xk, .int .i64 xa, .int .i64 xi, .int .i64 xo] 57)) A n c st := RI.fr HN.out.rst HF3.out fun ad h => ⟨HN.out.ne ad h, HN.out.ne ad h⟩
  have HS3 := hid hst3
  clear hst3
  have HE3 : Hid (Ext w0 ((((W.alloc (.cells #[.int .i64 (n : Int), .slice CA cn cc, .slice EA en ec] 25)).alloc (.cells #[.slice (some ad) sn sc] 36)).setCell ⟨U, at_, none⟩ (.bool true)).alloc (.cells #[.int .i64 xk, .int .i64 xa, .int .i64 xi, .int .i64 xo] 57))) := hE2.trans hx3
  clear g0 g1 g2 hx3 hE2 hF2 hx nrow nsn irs
  have d1 : (xk != 1) = true := by simpa using h1
  have d3 : (xo != 0) = true := by simpa using h3
  subst h2
  clear h1 h3 HS3
  clear ha hs hlU HI HN HXX HE3
  go_enter Tryz.func98, Tryz.ntmps98
  go_wp2
  refine bodyPost_ret (v := .bool false) (by simp [results, Tryz.results98, go_sem]) rfl ?_
  exact ⟨rfl, HF3.out, HB3.out⟩

set_option maxRecDepth 100000 in
set_option maxHeartbeats 4000000 in
theorem r98_nobranch {k : D98} (I : In98 k) {A : Option Addr} {c : Nat} {st : List Int} {seen : List Bool} {W : World} (N : Now98 k A c st seen W) {at_ : Nat} (ha : at_ < k.sn) (hs : nthB seen at_ = false) (h1 : (stepv k.ss at_).kind = 1) (h2 : branchB k.g k.ss.length at_ st (stepv k.ss at_) = false) :
    Calls Tryz.prog 98 #[.agg #[.int .i64 (k.n : Int), .slice k.CA k.cn k.cc, .slice k.EA k.en k.ec], .slice k.WA k.wn k.wc, .bool k.hold, .agg #[.slice k.SA k.sn k.sc], .int .i64 (at_ : Int), .slice A k.n c, .slice (some ⟨k.U, 0, none⟩) k.sn k.sn] W fun e w' => L98 k W seen at_ (false) e w' := by
  obtain ⟨w0, g, ws, hold, ss, CA, cn, cc, EA, en, ec, WA, wn, wc, SA, sn, sc, n, U⟩ := k
  have irs : RS w0 SA sn sc ss := I.rs
  have nrow : RowB W U seen := N.row
  have nsn : seen.length = sn := N.hsn
  have hlU : U < W.heap.size := N.lU
  have hE2 : Ext w0 (((W.alloc (.cells #[.int .i64 (n : Int), .slice CA cn cc, .slice EA en ec] 25)).alloc (.cells #[.slice SA sn sc] 36)).setCell ⟨U, at_, none⟩ (.bool true)) := N.e2 I at_ _ _
  have hF2 : Fr U U W (((W.alloc (.cells #[.int .i64 (n : Int), .slice CA cn cc, .slice EA en ec] 25)).alloc (.cells #[.slice SA sn sc] 36)).setCell ⟨U, at_, none⟩ (.bool true)) := N.fr2 at_ _ _
  have HI := hid I
  have HN := hid N
  clear I N
  simp only [] at *
  have haz : (at_ : Int) < (sn : Int) := by omega
  have hx : Ext W ((W.alloc (.cells #[.int .i64 (n : Int), .slice CA cn cc, .slice EA en ec] 25)).alloc (.cells #[.slice SA sn sc] 36)) := (by repeat' (first | exact Ext.refl _ | assumption | apply Ext.alloc | apply Ext.drewN | apply Ext.drew))
  have cU1 : ((W.alloc (.cells #[.int .i64 (n : Int), .slice CA cn cc, .slice EA en ec] 25)).alloc (.cells #[.slice SA sn sc] 36)).cell? ⟨U, at_, none⟩ = some (.bool false) := hx.cell (by rw [(nrow at_ (by rw [nsn]; exact ha)).1, hs])
  have fU1 : ((W.alloc (.cells #[.int .i64 (n : Int), .slice CA cn cc, .slice EA en ec] 25)).alloc (.cells #[.slice SA sn sc] 36)).frozen? ⟨U, at_, none⟩ = false := by rw [hx.frozen (show U < W.heap.size from hlU)]; exact (nrow at_ (by rw [nsn]; exact ha)).2
  obtain ⟨ad, hSA, s1, s2, s3, s4⟩ := (irs.ext hE2).cell at_ ha
  subst hSA
  have c36 : (((W.alloc (.cells #[.int .i64 (n : Int), .slice CA cn cc, .slice EA en ec] 25)).alloc (.cells #[.slice (some ad) sn sc] 36)).setCell ⟨U, at_, none⟩ (.bool true)).cell? ⟨W.heap.size + 1, 0, none⟩ = some (.slice (some ad) sn sc) := by rw [World.cell?_setCell_other _ _ _ _ (fun e => by have := (Addr.mk.inj e).1; omega)]; simp
  have g0 : (((W.alloc (.cells #[.int .i64 (n : Int), .slice CA cn cc, .slice EA en ec] 25)).alloc (.cells #[.slice (some ad) sn sc] 36)).setCell ⟨U, at_, none⟩ (.bool true)).cell? ⟨W.heap.size, 0, none⟩ = some (.int .i64 (n : Int)) := by rw [World.cell?_setCell_other _ _ _ _ (fun e => by have := (Addr.mk.inj e).1; omega)]; simp
  have g1 : (((W.alloc (.cells #[.int .i64 (n : Int), .slice CA cn cc, .slice EA en ec] 25)).alloc (.cells #[.slice (some ad) sn sc] 36)).setCell ⟨U, at_, none⟩ (.bool true)).cell? ⟨W.heap.size, 1, none⟩ = some (.slice CA cn cc) := by rw [World.cell?_setCell_other _ _ _ _ (fun e => by have := (Addr.mk.inj e).1; omega)]; simp
  have g2 : (((W.alloc (.cells #[.int .i64 (n : Int), .slice CA cn cc, .slice EA en ec] 25)).alloc (.cells #[.slice (some ad) sn sc] 36)).setCell ⟨U, at_, none⟩ (.bool true)).cell? ⟨W.heap.size, 2, none⟩ = some (.slice EA en ec) := by rw [World.cell?_setCell_other _ _ _ _ (fun e => by have := (Addr.mk.inj e).1; omega)]; simp
  generalize hxx : stepv ss at_ = x at s1 s2 s3 s4 h1 h2
  have HXX := hid hxx
  clear hxx
  obtain ⟨xk, xa, xi, xo⟩ := x
  simp only [] at s1 s2 s3 s4 h1 h2
  have hx3 : Ext (((W.alloc (.cells #[.int .i64 (n : Int), .slice CA cn cc, .slice EA en ec] 25)).alloc (.cells #[.slice (some ad) sn sc] 36)).setCell ⟨U, at_, none⟩ (.bool true)) ((((W.alloc (.cells #[.int .i64 (n : Int), .slice CA cn cc, .slice EA en ec] 25)).alloc (.cells #[.slice (some ad) sn sc] 36)).setCell ⟨U, at_, none⟩ (.bool true)).alloc (.cells #[.int .i64 xk, .int .i64 xa, .int .i64 xi, .int .i64 xo] 57)) := (by repeat' (first | exact Ext.refl _ | assumption | apply Ext.alloc | apply Ext.drewN | apply Ext.drew))
  have G0 : ((((W.alloc (.cells #[.int .i64 (n : Int), .slice CA cn cc, .slice EA en ec] 25)).alloc (.cells #[.slice (some ad) sn sc] 36)).setCell ⟨U, at_, none⟩ (.bool true)).alloc (.cells #[.int .i64 xk, .int .i64 xa, .int .i64 xi, .int .i64 xo] 57)).cell? ⟨W.heap.size, 0, none⟩ = some (.int .i64 (n : Int)) := hx3.cell g0
  have G1 : ((((W.alloc (.cells #[.int .i64 (n : Int), .slice CA cn cc, .slice EA en ec] 25)).alloc (.cells #[.slice (some ad) sn sc] 36)).setCell ⟨U, at_, none⟩ (.bool true)).alloc (.cells #[.int .i64 xk, .int .i64 xa, .int .i64 xi, .int .i64 xo] 57)).cell? ⟨W.heap.size, 1, none⟩ = some (.slice CA cn cc) := hx3.cell g1
  have G2 : ((((W.alloc (.cells #[.int .i64 (n : Int), .slice CA cn cc, .slice EA en ec] 25)).alloc (.cells #[.slice (some ad) sn sc] 36)).setCell ⟨U, at_, none⟩ (.bool true)).alloc (.cells #[.int .i64 xk, .int .i64 xa, .int .i64 xi, .int .i64 xo] 57)).cell? ⟨W.heap.size, 2, none⟩ = some (.slice EA en ec) := hx3.cell g2
  have P0 : ((((W.alloc (.cells #[.int .i64 (n : Int), .slice CA cn cc, .slice EA en ec] 25)).alloc (.cells #[.slice (some ad) sn sc] 36)).setCell ⟨U, at_, none⟩ (.bool true)).alloc (.cells #[.int .i64 xk, .int .i64 xa, .int .i64 xi, .int .i64 xo] 57)).cell? ⟨W.heap.size + 1, 0, none⟩ = some (.slice (some ad) sn sc) := hx3.cell c36
  have HF3 : Hid (Fr U U W ((((W.alloc (.cells #[.int .i64 (n : Int), .slice CA cn cc, .slice EA en ec] 25)).alloc (.cells #[.slice (some ad) sn sc] 36)).setCell ⟨U, at_, none⟩ (.bool true)).alloc (.cells #[.int .i64 xk, .int .i64 xa, .int .i64 xi, .int .i64 xo] 57))) := hF2.trans (Fr.ext hx3)
  have HB3 : Hid (RowB ((((W.alloc (.cells #[.int .i64 (n : Int), .slice CA cn cc, .slice EA en ec] 25)).alloc (.cells #[.slice (some ad) sn sc] 36)).setCell ⟨U, at_, none⟩ (.bool true)).alloc (.cells #[.int .i64 xk, .int .i64 xa, .int .i64 xi, .int .i64 xo] 57)) U (seen.set at_ true)) := hid ((RowB.set (RowB.ext nrow hx) (by rw [nsn]; exact ha) true).ext hx3)
  have hst3 : RI ((((W.alloc (.cells #[.int .i64 (n : Int), .slice CA cn cc, .slice EA en ec] 25)).alloc (.cells #[.slice (some ad) sn sc] 36)).setCell ⟨U, at_, none⟩ (.bool true)).alloc (.cells #[.int .i64 xk, .int .i64 xa, .int .i64 xi, .int .i64 xo] 57)) A n c st := RI.fr HN.out.rst HF3.out fun ad h => ⟨HN.out.ne ad h, HN.out.ne ad h⟩
  have HS3 := hid hst3
  clear hst3
  have HE3 : Hid (Ext w0 ((((W.alloc (.cells #[.int .i64 (n : Int), .slice CA cn cc, .slice EA en ec] 25)).alloc (.cells #[.slice (some ad) sn sc] 36)).setCell ⟨U, at_, none⟩ (.bool true)).alloc (.cells #[.int .i64 xk, .int .i64 xa, .int .i64 xi, .int .i64 xo] 57))) := hE2.trans hx3
  clear g0 g1 g2 hx3 hE2 hF2 hx nrow nsn irs
  subst h1
  have HL : Hid (ss.length = sn) := HI.out.rs.len
  have hgn : g.n = (n : Int) := HI.out.hn
  have n1 : n ≤ 4000 := HI.out.n1
  have HT : Hid (0 ≤ xa → xa < (n : Int) → stv st xa = 0 → (at_ : Int) < xi → (at_ : Int) < xo → xi < (sn : Int) → xo < (sn : Int) → False) := fun a1 a2 a3 a4 a5 a6 a7 => by
    unfold branchB at h2
    simp only [] at h2
    rw [hgn, HL.out, decide_eq_true a1, decide_eq_true a2, decide_eq_true a3, decide_eq_true a4, decide_eq_true a5, decide_eq_true a6, decide_eq_true a7] at h2
    cases h2
  clear h2 hs ha HI HXX HL hgn HE3 hlU
  by_cases a1 : 0 ≤ xa
  · by_cases a2 : xa < (n : Int)
    · obtain ⟨adS, rfl, hcS⟩ := HS3.out.cell xa.toNat (by omega)
      have HZ : Hid (∀ z, nth st xa.toNat = z → stv st xa = z) := fun z h => h
      generalize hz : nth st xa.toNat = z at hcS
      have HYZ := hid (HZ.out z hz)
      clear hz HZ
      by_cases a3 : z = 0
      · subst a3
        by_cases a4 : (at_ : Int) < xi
        · have b4 : ¬ xi ≤ (at_ : Int) := by omega
          by_cases a5 : (at_ : Int) < xo
          · have b5 : ¬ xo ≤ (at_ : Int) := by omega
            by_cases a6 : xi < (sn : Int)
            · have b6 : ¬ (sn : Int) ≤ xi := by omega
              by_cases a7 : xo < (sn : Int)
              · exact absurd (HT.out a1 a2 HYZ.out a4 a5 a6 a7) id
              · have b7 : (sn : Int) ≤ xo := by omega
                clear HT
                go_enter Tryz.func98, Tryz.ntmps98
                go_wp2
                refine bodyPost_ret (v := .bool false) (by simp [results, Tryz.results98, go_sem]) rfl ?_
                exact ⟨rfl, HF3.out, HB3.out⟩
            · have b6 : (sn : Int) ≤ xi := by omega
              clear HT
              go_enter Tryz.func98, Tryz.ntmps98
              go_wp2
              refine bodyPost_ret (v := .bool false) (by simp [results, Tryz.results98, go_sem]) rfl ?_
              exact ⟨rfl, HF3.out, HB3.out⟩
          · have b5 : xo ≤ (at_ : Int) := by omega
            clear HT
            go_enter Tryz.func98, Tryz.ntmps98
            go_wp2
            refine bodyPost_ret (v := .bool false) (by simp [results, Tryz.results98, go_sem]) rfl ?_
            exact ⟨rfl, HF3.out, HB3.out⟩
        · have b4 : xi ≤ (at_ : Int) := by omega
          clear HT
          go_enter Tryz.func98, Tryz.ntmps98
          go_wp2
          refine bodyPost_ret (v := .bool false) (by simp [results, Tryz.results98, go_sem]) rfl ?_
          exact ⟨rfl, HF3.out, HB3.out⟩
      · have d3 : (z != 0) = true := by simpa using a3
        clear HT
        go_enter Tryz.func98, Tryz.ntmps98
        go_wp2
        refine bodyPost_ret (v := .bool false) (by simp [results, Tryz.results98, go_sem]) rfl ?_
        exact ⟨rfl, HF3.out, HB3.out⟩
    · clear HT
      go_enter Tryz.func98, Tryz.ntmps98
      go_wp2
      refine bodyPost_ret (v := .bool false) (by simp [results, Tryz.results98, go_sem]) rfl ?_
      exact ⟨rfl, HF3.out, HB3.out⟩
  · clear HT
    go_enter Tryz.func98, Tryz.ntmps98
    go_wp2
    refine bodyPost_ret (v := .bool false) (by simp [results, Tryz.results98, go_sem]) rfl ?_
    exact ⟨rfl, HF3.out, HB3.out⟩

set_option maxRecDepth 100000 in
set_option maxHeartbeats 4000000 in
theorem r98_nokind {k : D98} (I : In98 k) {A : Option Addr} {c : Nat} {st : List Int} {seen : List Bool} {W : World} (N : Now98 k A c st seen W) {at_ : Nat} (ha : at_ < k.sn) (hs : nthB seen at_ = false) (h1 : (stepv k.ss at_).kind ≠ 1) (h2 : (stepv k.ss at_).in_ = 0) (h3 : (stepv k.ss at_).out = 0) (h4 : (stepv k.ss at_).kind ≠ 2) (h5 : (stepv k.ss at_).kind ≠ 3) (h6 : (stepv k.ss at_).kind ≠ 4) (h7 : (stepv k.ss at_).kind ≠ 5) :
    Calls Tryz.prog 98 #[.agg #[.int .i64 (k.n : Int), .slice k.CA k.cn k.cc, .slice k.EA k.en k.ec], .slice k.WA k.wn k.wc, .bool k.hold, .agg #[.slice k.SA k.sn k.sc], .int .i64 (at_ : Int), .slice A k.n c, .slice (some ⟨k.U, 0, none⟩) k.sn k.sn] W fun e w' => L98 k W seen at_ (false) e w' := by
  obtain ⟨w0, g, ws, hold, ss, CA, cn, cc, EA, en, ec, WA, wn, wc, SA, sn, sc, n, U⟩ := k
  have irs : RS w0 SA sn sc ss := I.rs
  have nrow : RowB W U seen := N.row
  have nsn : seen.length = sn := N.hsn
  have hlU : U < W.heap.size := N.lU
  have hE2 : Ext w0 (((W.alloc (.cells #[.int .i64 (n : Int), .slice CA cn cc, .slice EA en ec] 25)).alloc (.cells #[.slice SA sn sc] 36)).setCell ⟨U, at_, none⟩ (.bool true)) := N.e2 I at_ _ _
  have hF2 : Fr U U W (((W.alloc (.cells #[.int .i64 (n : Int), .slice CA cn cc, .slice EA en ec] 25)).alloc (.cells #[.slice SA sn sc] 36)).setCell ⟨U, at_, none⟩ (.bool true)) := N.fr2 at_ _ _
  have HI := hid I
  have HN := hid N
  clear I N
  simp only [] at *
  have haz : (at_ : Int) < (sn : Int) := by omega
  have hx : Ext W ((W.alloc (.cells #[.int .i64 (n : Int), .slice CA cn cc, .slice EA en ec] 25)).alloc (.cells #[.slice SA sn sc] 36)) := (by repeat' (first | exact Ext.refl _ | assumption | apply Ext.alloc | apply Ext.drewN | apply Ext.drew))
  have cU1 : ((W.alloc (.cells #[.int .i64 (n : Int), .slice CA cn cc, .slice EA en ec] 25)).alloc (.cells #[.slice SA sn sc] 36)).cell? ⟨U, at_, none⟩ = some (.bool false) := hx.cell (by rw [(nrow at_ (by rw [nsn]; exact ha)).1, hs])
  have fU1 : ((W.alloc (.cells #[.int .i64 (n : Int), .slice CA cn cc, .slice EA en ec] 25)).alloc (.cells #[.slice SA sn sc] 36)).frozen? ⟨U, at_, none⟩ = false := by rw [hx.frozen (show U < W.heap.size from hlU)]; exact (nrow at_ (by rw [nsn]; exact ha)).2
  obtain ⟨ad, hSA, s1, s2, s3, s4⟩ := (irs.ext hE2).cell at_ ha
  subst hSA
  have c36 : (((W.alloc (.cells #[.int .i64 (n : Int), .slice CA cn cc, .slice EA en ec] 25)).alloc (.cells #[.slice (some ad) sn sc] 36)).setCell ⟨U, at_, none⟩ (.bool true)).cell? ⟨W.heap.size + 1, 0, none⟩ = some (.slice (some ad) sn sc) := by rw [World.cell?_setCell_other _ _ _ _ (fun e => by have := (Addr.mk.inj e).1; omega)]; simp
  have g0 : (((W.alloc (.cells #[.int .i64 (n : Int), .slice CA cn cc, .slice EA en ec] 25)).alloc (.cells #[.slice (some ad) sn sc] 36)).setCell ⟨U, at_, none⟩ (.bool true)).cell? ⟨W.heap.size, 0, none⟩ = some (.int .i64 (n : Int)) := by rw [World.cell?_setCell_other _ _ _ _ (fun e => by have := (Addr.mk.inj e).1; omega)]; simp
  have g1 : (((W.alloc (.cells #[.int .i64 (n : Int), .slice CA cn cc, .slice EA en ec] 25)).alloc (.cells #[.slice (some ad) sn sc] 36)).setCell ⟨U, at_, none⟩ (.bool true)).cell? ⟨W.heap.size, 1, none⟩ = some (.slice CA cn cc) := by rw [World.cell?_setCell_other _ _ _ _ (fun e => by have := (Addr.mk.inj e).1; omega)]; simp
  have g2 : (((W.alloc (.cells #[.int .i64 (n : Int), .slice CA cn cc, .slice EA en ec] 25)).alloc (.cells #[.slice (some ad) sn sc] 36)).setCell ⟨U, at_, none⟩ (.bool true)).cell? ⟨W.heap.size, 2, none⟩ = some (.slice EA en ec) := by rw [World.cell?_setCell_other _ _ _ _ (fun e => by have := (Addr.mk.inj e).1; omega)]; simp
  generalize hxx : stepv ss at_ = x at s1 s2 s3 s4 h1 h2 h3 h4 h5 h6 h7
  have HXX := hid hxx
  clear hxx
  obtain ⟨xk, xa, xi, xo⟩ := x
  simp only [] at s1 s2 s3 s4 h1 h2 h3 h4 h5 h6 h7
  have hx3 : Ext (((W.alloc (.cells #[.int .i64 (n : Int), .slice CA cn cc, .slice EA en ec] 25)).alloc (.cells #[.slice (some ad) sn sc] 36)).setCell ⟨U, at_, none⟩ (.bool true)) ((((W.alloc (.cells #[.int .i64 (n : Int), .slice CA cn cc, .slice EA en ec] 25)).alloc (.cells #[.slice (some ad) sn sc] 36)).setCell ⟨U, at_, none⟩ (.bool true)).alloc (.cells #[.int .i64 xk, .int .i64 xa, .int .i64 xi, .int .i64 xo] 57)) := (by repeat' (first | exact Ext.refl _ | assumption | apply Ext.alloc | apply Ext.drewN | apply Ext.drew))
  have G0 : ((((W.alloc (.cells #[.int .i64 (n : Int), .slice CA cn cc, .slice EA en ec] 25)).alloc (.cells #[.slice (some ad) sn sc] 36)).setCell ⟨U, at_, none⟩ (.bool true)).alloc (.cells #[.int .i64 xk, .int .i64 xa, .int .i64 xi, .int .i64 xo] 57)).cell? ⟨W.heap.size, 0, none⟩ = some (.int .i64 (n : Int)) := hx3.cell g0
  have G1 : ((((W.alloc (.cells #[.int .i64 (n : Int), .slice CA cn cc, .slice EA en ec] 25)).alloc (.cells #[.slice (some ad) sn sc] 36)).setCell ⟨U, at_, none⟩ (.bool true)).alloc (.cells #[.int .i64 xk, .int .i64 xa, .int .i64 xi, .int .i64 xo] 57)).cell? ⟨W.heap.size, 1, none⟩ = some (.slice CA cn cc) := hx3.cell g1
  have G2 : ((((W.alloc (.cells #[.int .i64 (n : Int), .slice CA cn cc, .slice EA en ec] 25)).alloc (.cells #[.slice (some ad) sn sc] 36)).setCell ⟨U, at_, none⟩ (.bool true)).alloc (.cells #[.int .i64 xk, .int .i64 xa, .int .i64 xi, .int .i64 xo] 57)).cell? ⟨W.heap.size, 2, none⟩ = some (.slice EA en ec) := hx3.cell g2
  have P0 : ((((W.alloc (.cells #[.int .i64 (n : Int), .slice CA cn cc, .slice EA en ec] 25)).alloc (.cells #[.slice (some ad) sn sc] 36)).setCell ⟨U, at_, none⟩ (.bool true)).alloc (.cells #[.int .i64 xk, .int .i64 xa, .int .i64 xi, .int .i64 xo] 57)).cell? ⟨W.heap.size + 1, 0, none⟩ = some (.slice (some ad) sn sc) := hx3.cell c36
  have HF3 : Hid (Fr U U W ((((W.alloc (.cells #[.int .i64 (n : Int), .slice CA cn cc, .slice EA en ec] 25)).alloc (.cells #[.slice (some ad) sn sc] 36)).setCell ⟨U, at_, none⟩ (.bool true)).alloc (.cells #[.int .i64 xk, .int .i64 xa, .int .i64 xi, .int .i64 xo] 57))) := hF2.trans (Fr.ext hx3)
  have HB3 : Hid (RowB ((((W.alloc (.cells #[.int .i64 (n : Int), .slice CA cn cc, .slice EA en ec] 25)).alloc (.cells #[.slice (some ad) sn sc] 36)).setCell ⟨U, at_, none⟩ (.bool true)).alloc (.cells #[.int .i64 xk, .int .i64 xa, .int .i64 xi, .int .i64 xo] 57)) U (seen.set at_ true)) := hid ((RowB.set (RowB.ext nrow hx) (by rw [nsn]; exact ha) true).ext hx3)
  have hst3 : RI ((((W.alloc (.cells #[.int .i64 (n : Int), .slice CA cn cc, .slice EA en ec] 25)).alloc (.cells #[.slice (some ad) sn sc] 36)).setCell ⟨U, at_, none⟩ (.bool true)).alloc (.cells #[.int .i64 xk, .int .i64 xa, .int .i64 xi, .int .i64 xo] 57)) A n c st := RI.fr HN.out.rst HF3.out fun ad h => ⟨HN.out.ne ad h, HN.out.ne ad h⟩
  have HS3 := hid hst3
  clear hst3
  have HE3 : Hid (Ext w0 ((((W.alloc (.cells #[.int .i64 (n : Int), .slice CA cn cc, .slice EA en ec] 25)).alloc (.cells #[.slice (some ad) sn sc] 36)).setCell ⟨U, at_, none⟩ (.bool true)).alloc (.cells #[.int .i64 xk, .int .i64 xa, .int .i64 xi, .int .i64 xo] 57))) := hE2.trans hx3
  clear g0 g1 g2 hx3 hE2 hF2 hx nrow nsn irs
  have d1 : (xk != 1) = true := by simpa using h1
  have e1 : (xk == 1) = false := by simpa using h1
  have e2 : (xk == 2) = false := by simpa using h4
  have e3 : (xk == 3) = false := by simpa using h5
  have e4 : (xk == 4) = false := by simpa using h6
  have e5 : (xk == 5) = false := by simpa using h7
  subst h2
  subst h3
  clear h1 h4 h5 h6 h7 HS3
  clear ha hs hlU HI HN HXX HE3
  by_cases a1 : 0 ≤ xa
  · go_enter Tryz.func98, Tryz.ntmps98
    go_wp2
    refine bodyPost_ret (v := .bool false) (by simp [results, Tryz.results98, go_sem]) rfl ?_
    exact ⟨rfl, HF3.out, HB3.out⟩
  · go_enter Tryz.func98, Tryz.ntmps98
    go_wp2
    refine bodyPost_ret (v := .bool false) (by simp [results, Tryz.results98, go_sem]) rfl ?_
    exact ⟨rfl, HF3.out, HB3.out⟩
end Go.Proofs.YthjifmfmaiagoaaGreatDoor

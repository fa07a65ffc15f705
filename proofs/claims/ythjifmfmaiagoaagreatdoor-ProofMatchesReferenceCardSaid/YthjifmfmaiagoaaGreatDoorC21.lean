/- C21: texts R13. -/
import Derived.Test.YthjifmfmaiagoaaGreatDoorC13
import Derived.Test.YthjifmfmaiagoaaGreatDoorC19
import Derived.Test.YthjifmfmaiagoaaGreatDoorC20
set_option linter.all false

/- The references: Claim. -/
namespace Go.Proofs.YthjifmfmaiagoaaGreatDoor
open Go.RowKit
attribute [local go_sem] Oper.semAt_some

theorem claim_eq {g : Graph} {ws : List Way} {lw lo : List Int} {ss : List Step} {xv : Int} {b7 b8 k1 k2 : Bool} (hr : readyB g ws = true) (h7 : (repB g lw && holdsAny ws lw) = b7) (h8 : (repB g lo && !holdsAny ws lo) = b8) (e1 : checkB g ws false ss = k1) (e2 : checkB g ws true ss = k2) :
    claimB g ws ⟨xv, lw, lo, ss⟩ = (if xv = 0 then decide (lw.length + lo.length + ss.length = 0) else if xv = 1 then decide (lo.length = 0) && b7 && k1 else if xv = 3 then decide (lw.length = 0) && b8 && k2 else if xv = 2 then decide (ss.length = 0) && b7 && b8 else false) := by
  unfold claimB
  simp only []
  rw [hr, h7, h8, e1, e2]
  rfl

set_option maxRecDepth 100000 in
set_option maxHeartbeats 16000000 in
/-- Claim. -/
theorem f37_any (CA EA WA A1 A2 SA : Option Addr) (cn cc en ec wn wc n1 c1 n2 c2 sn sc : Nat) (g : Graph) (ws : List Way) (xv : Int) (lw lo : List Int) (ss : List Step) (w : World) (h : RG w CA cn cc EA en ec g) (hws : RW w WA wn wc ws) (h1 : RI w A1 n1 c1 lw) (h2 : RI w A2 n2 c2 lo) (hs : RS w SA sn sc ss) (hb1 : n1 ≤ 1000) (hb2 : n2 ≤ 1000) (hb3 : sn ≤ 1000000) (z1 : A1 = none → c1 = 0) (z2 : A2 = none → c2 = 0) :
    Calls Tryz.prog 37 #[.agg #[.int .i64 g.n, .slice CA cn cc, .slice EA en ec], .slice WA wn wc, .agg #[.int .i64 xv, .slice A1 n1 c1, .slice A2 n2 c2, .slice SA sn sc]] w fun e w' => e = .returned (.bool (claimB g ws ⟨xv, lw, lo, ss⟩)) ∧ Ext w w' := by
  have hx0 : Ext w ((w.alloc (.cells #[.int .i64 g.n, .slice CA cn cc, .slice EA en ec] 25)).alloc (.cells #[.int .i64 xv, .slice A1 n1 c1, .slice A2 n2 c2, .slice SA sn sc] 38)) := (by repeat' (first | exact Ext.refl _ | assumption | apply Ext.alloc | apply Ext.drewN | apply Ext.drew))
  have HX0 := hid hx0
  have QB : Hid (∀ W, Ext ((w.alloc (.cells #[.int .i64 g.n, .slice CA cn cc, .slice EA en ec] 25)).alloc (.cells #[.int .i64 xv, .slice A1 n1 c1, .slice A2 n2 c2, .slice SA sn sc] 38)) W → W.cell? ⟨w.heap.size, 0, none⟩ = some (.int .i64 g.n) ∧ W.cell? ⟨w.heap.size, 1, none⟩ = some (.slice CA cn cc) ∧ W.cell? ⟨w.heap.size, 2, none⟩ = some (.slice EA en ec) ∧ W.cell? ⟨w.heap.size + 1, 0, none⟩ = some (.int .i64 xv) ∧ W.cell? ⟨w.heap.size + 1, 1, none⟩ = some (.slice A1 n1 c1) ∧ W.cell? ⟨w.heap.size + 1, 2, none⟩ = some (.slice A2 n2 c2) ∧ W.cell? ⟨w.heap.size + 1, 3, none⟩ = some (.slice SA sn sc)) := fun W hW => by
    have hh := block_of (w := w) (o := .cells #[.int .i64 g.n, .slice CA cn cc, .slice EA en ec] 25) (W := W) (Ext.trans (Ext.alloc (Ext.refl _) _) hW) rfl
    have hk := block_of (w := w.alloc (.cells #[.int .i64 g.n, .slice CA cn cc, .slice EA en ec] 25)) (b := w.heap.size + 1) hW (by simp)
    exact ⟨(cell_heap hh 0).1, (cell_heap hh 1).1, (cell_heap hh 2).1, (cell_heap hk 0).1, (cell_heap hk 1).1, (cell_heap hk 2).1, (cell_heap hk 3).1⟩
  have K97 : Hid (∀ W, Ext ((w.alloc (.cells #[.int .i64 g.n, .slice CA cn cc, .slice EA en ec] 25)).alloc (.cells #[.int .i64 xv, .slice A1 n1 c1, .slice A2 n2 c2, .slice SA sn sc] 38)) W → Calls Tryz.prog 97 #[.agg #[.int .i64 g.n, .slice CA cn cc, .slice EA en ec], .slice WA wn wc] W fun e w' => e = .returned (.bool (readyB g ws)) ∧ Ext W w') := fun W hW => f97_any CA EA WA cn cc en ec wn wc g ws W (h.ext (hx0.trans hW)) (hws.ext (hx0.trans hW))
  have HL : Hid (lw.length = n1 ∧ lo.length = n2 ∧ ss.length = sn) := ⟨h1.len, h2.len, hs.len⟩
  obtain ⟨y0, y1, y2, y3, y4, y5, y6⟩ := QB.out _ (Ext.refl _)
  cases hr : readyB g ws with
  | false =>
    rw [hr] at K97
    have HR := hid hr
    clear h hws h1 h2 hs hx0 hr
    go_enter Tryz.func37, Tryz.ntmps37
    go_wp2_with (go_at_call 97; (with_reducible refine (K97.out _ (Ext.refl _)).mono ?_); rintro e w1 ⟨rfl, x1⟩; have X1 := hid x1; obtain ⟨q0, q1, q2, q3, q4, q5, q6⟩ := QB.out w1 x1; clear x1)
    go_ret
    exact ⟨ret_bool (by unfold claimB; rw [HR.out]; rfl), HX0.out.trans X1.out⟩
  | true =>
    rw [hr] at K97
    obtain ⟨_, hform, hval⟩ := ready_iff.1 hr
    have hN : g.n ≤ 4000 := by
      have h1 := hval.1
      unfold Costs weighedB at h1
      simp only [Bool.and_eq_true, decide_eq_true_eq] at h1
      omega
    have hve : ∀ e ∈ g.edges, e ≠ [] ∧ Inc e := fun e he => ⟨(hval.2.2.1 e he).1, (hval.2.2.1 e he).2.1⟩
    have KR1 : Hid (∀ W, Ext ((w.alloc (.cells #[.int .i64 g.n, .slice CA cn cc, .slice EA en ec] 25)).alloc (.cells #[.int .i64 xv, .slice A1 n1 c1, .slice A2 n2 c2, .slice SA sn sc] 38)) W → Calls Tryz.prog 104 #[.agg #[.int .i64 g.n, .slice CA cn cc, .slice EA en ec], .slice A1 n1 c1] W fun e w' => e = .returned (.bool (repB g lw)) ∧ Ext W w') := fun W hW => f104_any CA EA A1 cn cc en ec n1 c1 g lw W (h.ext (hx0.trans hW)) (h1.ext (hx0.trans hW)) z1 hve hb1 hN
    have KR2 : Hid (∀ W, Ext ((w.alloc (.cells #[.int .i64 g.n, .slice CA cn cc, .slice EA en ec] 25)).alloc (.cells #[.int .i64 xv, .slice A1 n1 c1, .slice A2 n2 c2, .slice SA sn sc] 38)) W → Calls Tryz.prog 104 #[.agg #[.int .i64 g.n, .slice CA cn cc, .slice EA en ec], .slice A2 n2 c2] W fun e w' => e = .returned (.bool (repB g lo)) ∧ Ext W w') := fun W hW => f104_any CA EA A2 cn cc en ec n2 c2 g lo W (h.ext (hx0.trans hW)) (h2.ext (hx0.trans hW)) z2 hve hb2 hN
    have KS1 : Hid (∀ W, Ext ((w.alloc (.cells #[.int .i64 g.n, .slice CA cn cc, .slice EA en ec] 25)).alloc (.cells #[.int .i64 xv, .slice A1 n1 c1, .slice A2 n2 c2, .slice SA sn sc] 38)) W → Calls Tryz.prog 41 #[.slice WA wn wc, .slice A1 n1 c1] W fun e w' => e = .returned (.bool (holdsAny ws lw)) ∧ Ext W w') := fun W hW => f41_any ws lw WA A1 wn wc n1 c1 W (hws.ext (hx0.trans hW)) (h1.ext (hx0.trans hW))
    have KS2 : Hid (∀ W, Ext ((w.alloc (.cells #[.int .i64 g.n, .slice CA cn cc, .slice EA en ec] 25)).alloc (.cells #[.int .i64 xv, .slice A1 n1 c1, .slice A2 n2 c2, .slice SA sn sc] 38)) W → Calls Tryz.prog 41 #[.slice WA wn wc, .slice A2 n2 c2] W fun e w' => e = .returned (.bool (holdsAny ws lo)) ∧ Ext W w') := fun W hW => f41_any ws lo WA A2 wn wc n2 c2 W (hws.ext (hx0.trans hW)) (h2.ext (hx0.trans hW))
    have KC1 : Hid (∀ W, Ext ((w.alloc (.cells #[.int .i64 g.n, .slice CA cn cc, .slice EA en ec] 25)).alloc (.cells #[.int .i64 xv, .slice A1 n1 c1, .slice A2 n2 c2, .slice SA sn sc] 38)) W → Calls Tryz.prog 35 #[.agg #[.int .i64 g.n, .slice CA cn cc, .slice EA en ec], .slice WA wn wc, .bool false, .agg #[.slice SA sn sc]] W fun e w' => e = .returned (.bool (checkB g ws false ss)) ∧ Ext W w') := fun W hW => f35_any CA EA WA SA cn cc en ec wn wc sn sc g ws ss false W (h.ext (hx0.trans hW)) (hws.ext (hx0.trans hW)) (hs.ext (hx0.trans hW))
    have KC2 : Hid (∀ W, Ext ((w.alloc (.cells #[.int .i64 g.n, .slice CA cn cc, .slice EA en ec] 25)).alloc (.cells #[.int .i64 xv, .slice A1 n1 c1, .slice A2 n2 c2, .slice SA sn sc] 38)) W → Calls Tryz.prog 35 #[.agg #[.int .i64 g.n, .slice CA cn cc, .slice EA en ec], .slice WA wn wc, .bool true, .agg #[.slice SA sn sc]] W fun e w' => e = .returned (.bool (checkB g ws true ss)) ∧ Ext W w') := fun W hW => f35_any CA EA WA SA cn cc en ec wn wc sn sc g ws ss true W (h.ext (hx0.trans hW)) (hws.ext (hx0.trans hW)) (hs.ext (hx0.trans hW))
    have HCE2 : Hid (∀ b7 b8, (repB g lw && holdsAny ws lw) = b7 → (repB g lo && !holdsAny ws lo) = b8 → claimB g ws ⟨xv, lw, lo, ss⟩ = (if xv = 0 then decide (lw.length + lo.length + ss.length = 0) else if xv = 1 then decide (lo.length = 0) && b7 && checkB g ws false ss else if xv = 3 then decide (lw.length = 0) && b8 && checkB g ws true ss else if xv = 2 then decide (ss.length = 0) && b7 && b8 else false)) := hid fun b7 b8 h7 h8 => claim_eq hr h7 h8 rfl rfl
    have e1 : IntKind.i64.wrap ((n1 : Int) + (n2 : Int)) = (n1 : Int) + (n2 : Int) := IntWalk.i64_in _ (by omega)
    have e2 : IntKind.i64.wrap ((n1 : Int) + (n2 : Int) + (sn : Int)) = (n1 : Int) + (n2 : Int) + (sn : Int) := IntWalk.i64_in _ (by omega)
    clear h hws h1 h2 hs hx0 hr hval hform hN hve z1 z2
    generalize checkB g ws false ss = k1 at KC1 HCE2
    generalize checkB g ws true ss = k2 at KC2 HCE2
    generalize repB g lw = r1 at KR1 HCE2
    generalize holdsAny ws lw = s1 at KS1 HCE2
    generalize repB g lo = r2 at KR2 HCE2
    generalize holdsAny ws lo = s2 at KS2 HCE2
    have c1 : r1 = false ∨ (r1 = true ∧ s1 = false) ∨ (r1 = true ∧ s1 = true) := by cases r1 <;> cases s1 <;> simp
    have c2 : r2 = false ∨ (r2 = true ∧ s2 = false) ∨ (r2 = true ∧ s2 = true) := by cases r2 <;> cases s2 <;> simp
    rcases c1 with rfl | ⟨rfl, rfl⟩ | ⟨rfl, rfl⟩ <;> rcases c2 with rfl | ⟨rfl, rfl⟩ | ⟨rfl, rfl⟩
    · have HCB := hid (HCE2.out false false rfl rfl)
      clear HCE2
      by_cases v0 : xv = 0
      · subst v0
        have HCL : Hid (claimB g ws ⟨0, lw, lo, ss⟩ = decide (n1 + n2 + sn = 0)) := hid (by rw [HCB.out]; simp only [HL.out.1, HL.out.2.1, HL.out.2.2]; rfl)
        clear HCB
        by_cases s0 : n1 + n2 + sn = 0
        · have s1 : (n1 : Int) + (n2 : Int) + (sn : Int) = 0 := by omega
          have s2 : (((n1 : Int) + (n2 : Int) + (sn : Int)) == 0) = true := by simpa using s1
          have HS0 := hid s0
          clear s0
          go_enter Tryz.func37, Tryz.ntmps37
          go_wp2_with (first
                | (go_at_call 97; (with_reducible refine (K97.out _ (Ext.refl _)).mono ?_); rintro e w1 ⟨rfl, x1⟩; have X1 := hid x1; obtain ⟨q0, q1, q2, q3, q4, q5, q6⟩ := QB.out w1 x1; clear x1)
                | (go_at_call 104; (with_reducible refine (KR1.out _ X1.out).mono ?_); rintro e w2 ⟨rfl, x2⟩; have X2 := hid (X1.out.trans x2); obtain ⟨q0, q1, q2, q3, q4, q5, q6⟩ := QB.out w2 X2.out; clear x2)
                | (go_at_call 104; (with_reducible refine (KR2.out _ X2.out).mono ?_); rintro e w4 ⟨rfl, x4⟩; have X4 := hid (X2.out.trans x4); obtain ⟨q0, q1, q2, q3, q4, q5, q6⟩ := QB.out w4 X4.out; clear x4))
          go_ret
          exact ⟨ret_bool (by first | exact HCL.out.symm | (rw [HCL.out]; first | (simp [HS0.out]; done) | (have hq := HS0.out; simp; omega))), HX0.out.trans X4.out⟩
        · have s1 : ¬ (n1 : Int) + (n2 : Int) + (sn : Int) = 0 := by omega
          have s2 : (((n1 : Int) + (n2 : Int) + (sn : Int)) == 0) = false := by simpa using s1
          have HS0 := hid s0
          clear s0
          go_enter Tryz.func37, Tryz.ntmps37
          go_wp2_with (first
                | (go_at_call 97; (with_reducible refine (K97.out _ (Ext.refl _)).mono ?_); rintro e w1 ⟨rfl, x1⟩; have X1 := hid x1; obtain ⟨q0, q1, q2, q3, q4, q5, q6⟩ := QB.out w1 x1; clear x1)
                | (go_at_call 104; (with_reducible refine (KR1.out _ X1.out).mono ?_); rintro e w2 ⟨rfl, x2⟩; have X2 := hid (X1.out.trans x2); obtain ⟨q0, q1, q2, q3, q4, q5, q6⟩ := QB.out w2 X2.out; clear x2)
                | (go_at_call 104; (with_reducible refine (KR2.out _ X2.out).mono ?_); rintro e w4 ⟨rfl, x4⟩; have X4 := hid (X2.out.trans x4); obtain ⟨q0, q1, q2, q3, q4, q5, q6⟩ := QB.out w4 X4.out; clear x4))
          go_ret
          exact ⟨ret_bool (by first | exact HCL.out.symm | (rw [HCL.out]; first | (simp [HS0.out]; done) | (have hq := HS0.out; simp; omega))), HX0.out.trans X4.out⟩
      · have d0 : (xv == 0) = false := by simpa using v0
        by_cases v1 : xv = 1
        · subst v1
          have HCL : Hid (claimB g ws ⟨1, lw, lo, ss⟩ = (decide (n2 = 0) && (false) && k1)) := hid (by rw [HCB.out]; simp only [HL.out.2.1]; first | rfl | simp)
          clear HCB v0
          go_enter Tryz.func37, Tryz.ntmps37
          go_wp2_with (first
                | (go_at_call 97; (with_reducible refine (K97.out _ (Ext.refl _)).mono ?_); rintro e w1 ⟨rfl, x1⟩; have X1 := hid x1; obtain ⟨q0, q1, q2, q3, q4, q5, q6⟩ := QB.out w1 x1; clear x1)
                | (go_at_call 104; (with_reducible refine (KR1.out _ X1.out).mono ?_); rintro e w2 ⟨rfl, x2⟩; have X2 := hid (X1.out.trans x2); obtain ⟨q0, q1, q2, q3, q4, q5, q6⟩ := QB.out w2 X2.out; clear x2)
                | (go_at_call 104; (with_reducible refine (KR2.out _ X2.out).mono ?_); rintro e w4 ⟨rfl, x4⟩; have X4 := hid (X2.out.trans x4); obtain ⟨q0, q1, q2, q3, q4, q5, q6⟩ := QB.out w4 X4.out; clear x4))
          go_ret
          exact ⟨ret_bool (by first | exact HCL.out.symm | (rw [HCL.out]; simp)), HX0.out.trans X4.out⟩
        · have d1 : (xv == 1) = false := by simpa using v1
          by_cases v3 : xv = 3
          · subst v3
            have HCL : Hid (claimB g ws ⟨3, lw, lo, ss⟩ = (decide (n1 = 0) && (false) && k2)) := hid (by rw [HCB.out]; simp only [HL.out.1]; first | rfl | simp)
            clear HCB v0 v1
            go_enter Tryz.func37, Tryz.ntmps37
            go_wp2_with (first
                  | (go_at_call 97; (with_reducible refine (K97.out _ (Ext.refl _)).mono ?_); rintro e w1 ⟨rfl, x1⟩; have X1 := hid x1; obtain ⟨q0, q1, q2, q3, q4, q5, q6⟩ := QB.out w1 x1; clear x1)
                  | (go_at_call 104; (with_reducible refine (KR1.out _ X1.out).mono ?_); rintro e w2 ⟨rfl, x2⟩; have X2 := hid (X1.out.trans x2); obtain ⟨q0, q1, q2, q3, q4, q5, q6⟩ := QB.out w2 X2.out; clear x2)
                  | (go_at_call 104; (with_reducible refine (KR2.out _ X2.out).mono ?_); rintro e w4 ⟨rfl, x4⟩; have X4 := hid (X2.out.trans x4); obtain ⟨q0, q1, q2, q3, q4, q5, q6⟩ := QB.out w4 X4.out; clear x4))
            go_ret
            exact ⟨ret_bool (by first | exact HCL.out.symm | (rw [HCL.out]; simp)), HX0.out.trans X4.out⟩
          · have d3 : (xv == 3) = false := by simpa using v3
            by_cases v2 : xv = 2
            · subst v2
              have HCL : Hid (claimB g ws ⟨2, lw, lo, ss⟩ = (decide (sn = 0) && (false) && (false))) := hid (by rw [HCB.out]; simp only [HL.out.2.2]; first | rfl | simp)
              clear HCB v0 v1 v3
              go_enter Tryz.func37, Tryz.ntmps37
              go_wp2_with (first
                    | (go_at_call 97; (with_reducible refine (K97.out _ (Ext.refl _)).mono ?_); rintro e w1 ⟨rfl, x1⟩; have X1 := hid x1; obtain ⟨q0, q1, q2, q3, q4, q5, q6⟩ := QB.out w1 x1; clear x1)
                    | (go_at_call 104; (with_reducible refine (KR1.out _ X1.out).mono ?_); rintro e w2 ⟨rfl, x2⟩; have X2 := hid (X1.out.trans x2); obtain ⟨q0, q1, q2, q3, q4, q5, q6⟩ := QB.out w2 X2.out; clear x2)
                    | (go_at_call 104; (with_reducible refine (KR2.out _ X2.out).mono ?_); rintro e w4 ⟨rfl, x4⟩; have X4 := hid (X2.out.trans x4); obtain ⟨q0, q1, q2, q3, q4, q5, q6⟩ := QB.out w4 X4.out; clear x4))
              go_ret
              exact ⟨ret_bool (by first | exact HCL.out.symm | (rw [HCL.out]; simp)), HX0.out.trans X4.out⟩
            · have d2 : (xv == 2) = false := by simpa using v2
              have HCL : Hid (claimB g ws ⟨xv, lw, lo, ss⟩ = false) := hid (by rw [HCB.out]; simp only [if_neg v0, if_neg v1, if_neg v2, if_neg v3])
              clear HCB v0 v1 v2 v3
              go_enter Tryz.func37, Tryz.ntmps37
              go_wp2_with (first
                    | (go_at_call 97; (with_reducible refine (K97.out _ (Ext.refl _)).mono ?_); rintro e w1 ⟨rfl, x1⟩; have X1 := hid x1; obtain ⟨q0, q1, q2, q3, q4, q5, q6⟩ := QB.out w1 x1; clear x1)
                    | (go_at_call 104; (with_reducible refine (KR1.out _ X1.out).mono ?_); rintro e w2 ⟨rfl, x2⟩; have X2 := hid (X1.out.trans x2); obtain ⟨q0, q1, q2, q3, q4, q5, q6⟩ := QB.out w2 X2.out; clear x2)
                    | (go_at_call 104; (with_reducible refine (KR2.out _ X2.out).mono ?_); rintro e w4 ⟨rfl, x4⟩; have X4 := hid (X2.out.trans x4); obtain ⟨q0, q1, q2, q3, q4, q5, q6⟩ := QB.out w4 X4.out; clear x4))
              go_ret
              exact ⟨ret_bool (by first | exact HCL.out.symm | (rw [HCL.out]; simp)), HX0.out.trans X4.out⟩
    · have HCB := hid (HCE2.out false true rfl rfl)
      clear HCE2
      by_cases v0 : xv = 0
      · subst v0
        have HCL : Hid (claimB g ws ⟨0, lw, lo, ss⟩ = decide (n1 + n2 + sn = 0)) := hid (by rw [HCB.out]; simp only [HL.out.1, HL.out.2.1, HL.out.2.2]; rfl)
        clear HCB
        by_cases s0 : n1 + n2 + sn = 0
        · have s1 : (n1 : Int) + (n2 : Int) + (sn : Int) = 0 := by omega
          have s2 : (((n1 : Int) + (n2 : Int) + (sn : Int)) == 0) = true := by simpa using s1
          have HS0 := hid s0
          clear s0
          go_enter Tryz.func37, Tryz.ntmps37
          go_wp2_with (first
                | (go_at_call 97; (with_reducible refine (K97.out _ (Ext.refl _)).mono ?_); rintro e w1 ⟨rfl, x1⟩; have X1 := hid x1; obtain ⟨q0, q1, q2, q3, q4, q5, q6⟩ := QB.out w1 x1; clear x1)
                | (go_at_call 104; (with_reducible refine (KR1.out _ X1.out).mono ?_); rintro e w2 ⟨rfl, x2⟩; have X2 := hid (X1.out.trans x2); obtain ⟨q0, q1, q2, q3, q4, q5, q6⟩ := QB.out w2 X2.out; clear x2)
                | (go_at_call 104; (with_reducible refine (KR2.out _ X2.out).mono ?_); rintro e w4 ⟨rfl, x4⟩; have X4 := hid (X2.out.trans x4); obtain ⟨q0, q1, q2, q3, q4, q5, q6⟩ := QB.out w4 X4.out; clear x4)
                | (go_at_call 41; (with_reducible refine (KS2.out _ X4.out).mono ?_); rintro e w5 ⟨rfl, x5⟩; have X5 := hid (X4.out.trans x5); obtain ⟨q0, q1, q2, q3, q4, q5, q6⟩ := QB.out w5 X5.out; clear x5))
          go_ret
          exact ⟨ret_bool (by first | exact HCL.out.symm | (rw [HCL.out]; first | (simp [HS0.out]; done) | (have hq := HS0.out; simp; omega))), HX0.out.trans X5.out⟩
        · have s1 : ¬ (n1 : Int) + (n2 : Int) + (sn : Int) = 0 := by omega
          have s2 : (((n1 : Int) + (n2 : Int) + (sn : Int)) == 0) = false := by simpa using s1
          have HS0 := hid s0
          clear s0
          go_enter Tryz.func37, Tryz.ntmps37
          go_wp2_with (first
                | (go_at_call 97; (with_reducible refine (K97.out _ (Ext.refl _)).mono ?_); rintro e w1 ⟨rfl, x1⟩; have X1 := hid x1; obtain ⟨q0, q1, q2, q3, q4, q5, q6⟩ := QB.out w1 x1; clear x1)
                | (go_at_call 104; (with_reducible refine (KR1.out _ X1.out).mono ?_); rintro e w2 ⟨rfl, x2⟩; have X2 := hid (X1.out.trans x2); obtain ⟨q0, q1, q2, q3, q4, q5, q6⟩ := QB.out w2 X2.out; clear x2)
                | (go_at_call 104; (with_reducible refine (KR2.out _ X2.out).mono ?_); rintro e w4 ⟨rfl, x4⟩; have X4 := hid (X2.out.trans x4); obtain ⟨q0, q1, q2, q3, q4, q5, q6⟩ := QB.out w4 X4.out; clear x4)
                | (go_at_call 41; (with_reducible refine (KS2.out _ X4.out).mono ?_); rintro e w5 ⟨rfl, x5⟩; have X5 := hid (X4.out.trans x5); obtain ⟨q0, q1, q2, q3, q4, q5, q6⟩ := QB.out w5 X5.out; clear x5))
          go_ret
          exact ⟨ret_bool (by first | exact HCL.out.symm | (rw [HCL.out]; first | (simp [HS0.out]; done) | (have hq := HS0.out; simp; omega))), HX0.out.trans X5.out⟩
      · have d0 : (xv == 0) = false := by simpa using v0
        by_cases v1 : xv = 1
        · subst v1
          have HCL : Hid (claimB g ws ⟨1, lw, lo, ss⟩ = (decide (n2 = 0) && (false) && k1)) := hid (by rw [HCB.out]; simp only [HL.out.2.1]; first | rfl | simp)
          clear HCB v0
          go_enter Tryz.func37, Tryz.ntmps37
          go_wp2_with (first
                | (go_at_call 97; (with_reducible refine (K97.out _ (Ext.refl _)).mono ?_); rintro e w1 ⟨rfl, x1⟩; have X1 := hid x1; obtain ⟨q0, q1, q2, q3, q4, q5, q6⟩ := QB.out w1 x1; clear x1)
                | (go_at_call 104; (with_reducible refine (KR1.out _ X1.out).mono ?_); rintro e w2 ⟨rfl, x2⟩; have X2 := hid (X1.out.trans x2); obtain ⟨q0, q1, q2, q3, q4, q5, q6⟩ := QB.out w2 X2.out; clear x2)
                | (go_at_call 104; (with_reducible refine (KR2.out _ X2.out).mono ?_); rintro e w4 ⟨rfl, x4⟩; have X4 := hid (X2.out.trans x4); obtain ⟨q0, q1, q2, q3, q4, q5, q6⟩ := QB.out w4 X4.out; clear x4)
                | (go_at_call 41; (with_reducible refine (KS2.out _ X4.out).mono ?_); rintro e w5 ⟨rfl, x5⟩; have X5 := hid (X4.out.trans x5); obtain ⟨q0, q1, q2, q3, q4, q5, q6⟩ := QB.out w5 X5.out; clear x5))
          go_ret
          exact ⟨ret_bool (by first | exact HCL.out.symm | (rw [HCL.out]; simp)), HX0.out.trans X5.out⟩
        · have d1 : (xv == 1) = false := by simpa using v1
          by_cases v3 : xv = 3
          · subst v3
            have HCL : Hid (claimB g ws ⟨3, lw, lo, ss⟩ = (decide (n1 = 0) && (true) && k2)) := hid (by rw [HCB.out]; simp only [HL.out.1]; first | rfl | simp)
            clear HCB v0 v1
            rcases Nat.eq_zero_or_pos n1 with z0 | z0
            · have z1 : ((n1 : Int) == 0) = true := by simpa using (show (n1 : Int) = 0 by omega)
              have z2 : (n1 == 0) = true := by simpa using z0
              have HZ0 := hid z0
              clear z0
              go_enter Tryz.func37, Tryz.ntmps37
              go_wp2_with (first
                    | (go_at_call 97; (with_reducible refine (K97.out _ (Ext.refl _)).mono ?_); rintro e w1 ⟨rfl, x1⟩; have X1 := hid x1; obtain ⟨q0, q1, q2, q3, q4, q5, q6⟩ := QB.out w1 x1; clear x1)
                    | (go_at_call 104; (with_reducible refine (KR1.out _ X1.out).mono ?_); rintro e w2 ⟨rfl, x2⟩; have X2 := hid (X1.out.trans x2); obtain ⟨q0, q1, q2, q3, q4, q5, q6⟩ := QB.out w2 X2.out; clear x2)
                    | (go_at_call 104; (with_reducible refine (KR2.out _ X2.out).mono ?_); rintro e w4 ⟨rfl, x4⟩; have X4 := hid (X2.out.trans x4); obtain ⟨q0, q1, q2, q3, q4, q5, q6⟩ := QB.out w4 X4.out; clear x4)
                    | (go_at_call 41; (with_reducible refine (KS2.out _ X4.out).mono ?_); rintro e w5 ⟨rfl, x5⟩; have X5 := hid (X4.out.trans x5); obtain ⟨q0, q1, q2, q3, q4, q5, q6⟩ := QB.out w5 X5.out; clear x5)
                    | (go_at_call 35; (with_reducible refine (KC2.out _ X5.out).mono ?_); rintro e w6 ⟨rfl, x6⟩; have X6 := hid (X5.out.trans x6); obtain ⟨q0, q1, q2, q3, q4, q5, q6⟩ := QB.out w6 X6.out; clear x6))
              go_ret
              exact ⟨ret_bool (by first | exact HCL.out.symm | (rw [HCL.out]; simp [HZ0.out])), HX0.out.trans X6.out⟩
            · have z1 : ((n1 : Int) == 0) = false := by simpa using (show ¬ (n1 : Int) = 0 by omega)
              have z2 : (n1 == 0) = false := by simpa using (show ¬ n1 = 0 by omega)
              have HZ0 : Hid (¬ n1 = 0) := hid (by omega)
              clear z0
              go_enter Tryz.func37, Tryz.ntmps37
              go_wp2_with (first
                    | (go_at_call 97; (with_reducible refine (K97.out _ (Ext.refl _)).mono ?_); rintro e w1 ⟨rfl, x1⟩; have X1 := hid x1; obtain ⟨q0, q1, q2, q3, q4, q5, q6⟩ := QB.out w1 x1; clear x1)
                    | (go_at_call 104; (with_reducible refine (KR1.out _ X1.out).mono ?_); rintro e w2 ⟨rfl, x2⟩; have X2 := hid (X1.out.trans x2); obtain ⟨q0, q1, q2, q3, q4, q5, q6⟩ := QB.out w2 X2.out; clear x2)
                    | (go_at_call 104; (with_reducible refine (KR2.out _ X2.out).mono ?_); rintro e w4 ⟨rfl, x4⟩; have X4 := hid (X2.out.trans x4); obtain ⟨q0, q1, q2, q3, q4, q5, q6⟩ := QB.out w4 X4.out; clear x4)
                    | (go_at_call 41; (with_reducible refine (KS2.out _ X4.out).mono ?_); rintro e w5 ⟨rfl, x5⟩; have X5 := hid (X4.out.trans x5); obtain ⟨q0, q1, q2, q3, q4, q5, q6⟩ := QB.out w5 X5.out; clear x5))
              go_ret
              exact ⟨ret_bool (by first | exact HCL.out.symm | (rw [HCL.out]; simp [HZ0.out])), HX0.out.trans X5.out⟩
          · have d3 : (xv == 3) = false := by simpa using v3
            by_cases v2 : xv = 2
            · subst v2
              have HCL : Hid (claimB g ws ⟨2, lw, lo, ss⟩ = (decide (sn = 0) && (false) && (true))) := hid (by rw [HCB.out]; simp only [HL.out.2.2]; first | rfl | simp)
              clear HCB v0 v1 v3
              go_enter Tryz.func37, Tryz.ntmps37
              go_wp2_with (first
                    | (go_at_call 97; (with_reducible refine (K97.out _ (Ext.refl _)).mono ?_); rintro e w1 ⟨rfl, x1⟩; have X1 := hid x1; obtain ⟨q0, q1, q2, q3, q4, q5, q6⟩ := QB.out w1 x1; clear x1)
                    | (go_at_call 104; (with_reducible refine (KR1.out _ X1.out).mono ?_); rintro e w2 ⟨rfl, x2⟩; have X2 := hid (X1.out.trans x2); obtain ⟨q0, q1, q2, q3, q4, q5, q6⟩ := QB.out w2 X2.out; clear x2)
                    | (go_at_call 104; (with_reducible refine (KR2.out _ X2.out).mono ?_); rintro e w4 ⟨rfl, x4⟩; have X4 := hid (X2.out.trans x4); obtain ⟨q0, q1, q2, q3, q4, q5, q6⟩ := QB.out w4 X4.out; clear x4)
                    | (go_at_call 41; (with_reducible refine (KS2.out _ X4.out).mono ?_); rintro e w5 ⟨rfl, x5⟩; have X5 := hid (X4.out.trans x5); obtain ⟨q0, q1, q2, q3, q4, q5, q6⟩ := QB.out w5 X5.out; clear x5))
              go_ret
              exact ⟨ret_bool (by first | exact HCL.out.symm | (rw [HCL.out]; simp)), HX0.out.trans X5.out⟩
            · have d2 : (xv == 2) = false := by simpa using v2
              have HCL : Hid (claimB g ws ⟨xv, lw, lo, ss⟩ = false) := hid (by rw [HCB.out]; simp only [if_neg v0, if_neg v1, if_neg v2, if_neg v3])
              clear HCB v0 v1 v2 v3
              go_enter Tryz.func37, Tryz.ntmps37
              go_wp2_with (first
                    | (go_at_call 97; (with_reducible refine (K97.out _ (Ext.refl _)).mono ?_); rintro e w1 ⟨rfl, x1⟩; have X1 := hid x1; obtain ⟨q0, q1, q2, q3, q4, q5, q6⟩ := QB.out w1 x1; clear x1)
                    | (go_at_call 104; (with_reducible refine (KR1.out _ X1.out).mono ?_); rintro e w2 ⟨rfl, x2⟩; have X2 := hid (X1.out.trans x2); obtain ⟨q0, q1, q2, q3, q4, q5, q6⟩ := QB.out w2 X2.out; clear x2)
                    | (go_at_call 104; (with_reducible refine (KR2.out _ X2.out).mono ?_); rintro e w4 ⟨rfl, x4⟩; have X4 := hid (X2.out.trans x4); obtain ⟨q0, q1, q2, q3, q4, q5, q6⟩ := QB.out w4 X4.out; clear x4)
                    | (go_at_call 41; (with_reducible refine (KS2.out _ X4.out).mono ?_); rintro e w5 ⟨rfl, x5⟩; have X5 := hid (X4.out.trans x5); obtain ⟨q0, q1, q2, q3, q4, q5, q6⟩ := QB.out w5 X5.out; clear x5))
              go_ret
              exact ⟨ret_bool (by first | exact HCL.out.symm | (rw [HCL.out]; simp)), HX0.out.trans X5.out⟩
    · have HCB := hid (HCE2.out false false rfl rfl)
      clear HCE2
      by_cases v0 : xv = 0
      · subst v0
        have HCL : Hid (claimB g ws ⟨0, lw, lo, ss⟩ = decide (n1 + n2 + sn = 0)) := hid (by rw [HCB.out]; simp only [HL.out.1, HL.out.2.1, HL.out.2.2]; rfl)
        clear HCB
        by_cases s0 : n1 + n2 + sn = 0
        · have s1 : (n1 : Int) + (n2 : Int) + (sn : Int) = 0 := by omega
          have s2 : (((n1 : Int) + (n2 : Int) + (sn : Int)) == 0) = true := by simpa using s1
          have HS0 := hid s0
          clear s0
          go_enter Tryz.func37, Tryz.ntmps37
          go_wp2_with (first
                | (go_at_call 97; (with_reducible refine (K97.out _ (Ext.refl _)).mono ?_); rintro e w1 ⟨rfl, x1⟩; have X1 := hid x1; obtain ⟨q0, q1, q2, q3, q4, q5, q6⟩ := QB.out w1 x1; clear x1)
                | (go_at_call 104; (with_reducible refine (KR1.out _ X1.out).mono ?_); rintro e w2 ⟨rfl, x2⟩; have X2 := hid (X1.out.trans x2); obtain ⟨q0, q1, q2, q3, q4, q5, q6⟩ := QB.out w2 X2.out; clear x2)
                | (go_at_call 104; (with_reducible refine (KR2.out _ X2.out).mono ?_); rintro e w4 ⟨rfl, x4⟩; have X4 := hid (X2.out.trans x4); obtain ⟨q0, q1, q2, q3, q4, q5, q6⟩ := QB.out w4 X4.out; clear x4)
                | (go_at_call 41; (with_reducible refine (KS2.out _ X4.out).mono ?_); rintro e w5 ⟨rfl, x5⟩; have X5 := hid (X4.out.trans x5); obtain ⟨q0, q1, q2, q3, q4, q5, q6⟩ := QB.out w5 X5.out; clear x5))
          go_ret
          exact ⟨ret_bool (by first | exact HCL.out.symm | (rw [HCL.out]; first | (simp [HS0.out]; done) | (have hq := HS0.out; simp; omega))), HX0.out.trans X5.out⟩
        · have s1 : ¬ (n1 : Int) + (n2 : Int) + (sn : Int) = 0 := by omega
          have s2 : (((n1 : Int) + (n2 : Int) + (sn : Int)) == 0) = false := by simpa using s1
          have HS0 := hid s0
          clear s0
          go_enter Tryz.func37, Tryz.ntmps37
          go_wp2_with (first
                | (go_at_call 97; (with_reducible refine (K97.out _ (Ext.refl _)).mono ?_); rintro e w1 ⟨rfl, x1⟩; have X1 := hid x1; obtain ⟨q0, q1, q2, q3, q4, q5, q6⟩ := QB.out w1 x1; clear x1)
                | (go_at_call 104; (with_reducible refine (KR1.out _ X1.out).mono ?_); rintro e w2 ⟨rfl, x2⟩; have X2 := hid (X1.out.trans x2); obtain ⟨q0, q1, q2, q3, q4, q5, q6⟩ := QB.out w2 X2.out; clear x2)
                | (go_at_call 104; (with_reducible refine (KR2.out _ X2.out).mono ?_); rintro e w4 ⟨rfl, x4⟩; have X4 := hid (X2.out.trans x4); obtain ⟨q0, q1, q2, q3, q4, q5, q6⟩ := QB.out w4 X4.out; clear x4)
                | (go_at_call 41; (with_reducible refine (KS2.out _ X4.out).mono ?_); rintro e w5 ⟨rfl, x5⟩; have X5 := hid (X4.out.trans x5); obtain ⟨q0, q1, q2, q3, q4, q5, q6⟩ := QB.out w5 X5.out; clear x5))
          go_ret
          exact ⟨ret_bool (by first | exact HCL.out.symm | (rw [HCL.out]; first | (simp [HS0.out]; done) | (have hq := HS0.out; simp; omega))), HX0.out.trans X5.out⟩
      · have d0 : (xv == 0) = false := by simpa using v0
        by_cases v1 : xv = 1
        · subst v1
          have HCL : Hid (claimB g ws ⟨1, lw, lo, ss⟩ = (decide (n2 = 0) && (false) && k1)) := hid (by rw [HCB.out]; simp only [HL.out.2.1]; first | rfl | simp)
          clear HCB v0
          go_enter Tryz.func37, Tryz.ntmps37
          go_wp2_with (first
                | (go_at_call 97; (with_reducible refine (K97.out _ (Ext.refl _)).mono ?_); rintro e w1 ⟨rfl, x1⟩; have X1 := hid x1; obtain ⟨q0, q1, q2, q3, q4, q5, q6⟩ := QB.out w1 x1; clear x1)
                | (go_at_call 104; (with_reducible refine (KR1.out _ X1.out).mono ?_); rintro e w2 ⟨rfl, x2⟩; have X2 := hid (X1.out.trans x2); obtain ⟨q0, q1, q2, q3, q4, q5, q6⟩ := QB.out w2 X2.out; clear x2)
                | (go_at_call 104; (with_reducible refine (KR2.out _ X2.out).mono ?_); rintro e w4 ⟨rfl, x4⟩; have X4 := hid (X2.out.trans x4); obtain ⟨q0, q1, q2, q3, q4, q5, q6⟩ := QB.out w4 X4.out; clear x4)
                | (go_at_call 41; (with_reducible refine (KS2.out _ X4.out).mono ?_); rintro e w5 ⟨rfl, x5⟩; have X5 := hid (X4.out.trans x5); obtain ⟨q0, q1, q2, q3, q4, q5, q6⟩ := QB.out w5 X5.out; clear x5))
          go_ret
          exact ⟨ret_bool (by first | exact HCL.out.symm | (rw [HCL.out]; simp)), HX0.out.trans X5.out⟩
        · have d1 : (xv == 1) = false := by simpa using v1
          by_cases v3 : xv = 3
          · subst v3
            have HCL : Hid (claimB g ws ⟨3, lw, lo, ss⟩ = (decide (n1 = 0) && (false) && k2)) := hid (by rw [HCB.out]; simp only [HL.out.1]; first | rfl | simp)
            clear HCB v0 v1
            go_enter Tryz.func37, Tryz.ntmps37
            go_wp2_with (first
                  | (go_at_call 97; (with_reducible refine (K97.out _ (Ext.refl _)).mono ?_); rintro e w1 ⟨rfl, x1⟩; have X1 := hid x1; obtain ⟨q0, q1, q2, q3, q4, q5, q6⟩ := QB.out w1 x1; clear x1)
                  | (go_at_call 104; (with_reducible refine (KR1.out _ X1.out).mono ?_); rintro e w2 ⟨rfl, x2⟩; have X2 := hid (X1.out.trans x2); obtain ⟨q0, q1, q2, q3, q4, q5, q6⟩ := QB.out w2 X2.out; clear x2)
                  | (go_at_call 104; (with_reducible refine (KR2.out _ X2.out).mono ?_); rintro e w4 ⟨rfl, x4⟩; have X4 := hid (X2.out.trans x4); obtain ⟨q0, q1, q2, q3, q4, q5, q6⟩ := QB.out w4 X4.out; clear x4)
                  | (go_at_call 41; (with_reducible refine (KS2.out _ X4.out).mono ?_); rintro e w5 ⟨rfl, x5⟩; have X5 := hid (X4.out.trans x5); obtain ⟨q0, q1, q2, q3, q4, q5, q6⟩ := QB.out w5 X5.out; clear x5))
            go_ret
            exact ⟨ret_bool (by first | exact HCL.out.symm | (rw [HCL.out]; simp)), HX0.out.trans X5.out⟩
          · have d3 : (xv == 3) = false := by simpa using v3
            by_cases v2 : xv = 2
            · subst v2
              have HCL : Hid (claimB g ws ⟨2, lw, lo, ss⟩ = (decide (sn = 0) && (false) && (false))) := hid (by rw [HCB.out]; simp only [HL.out.2.2]; first | rfl | simp)
              clear HCB v0 v1 v3
              go_enter Tryz.func37, Tryz.ntmps37
              go_wp2_with (first
                    | (go_at_call 97; (with_reducible refine (K97.out _ (Ext.refl _)).mono ?_); rintro e w1 ⟨rfl, x1⟩; have X1 := hid x1; obtain ⟨q0, q1, q2, q3, q4, q5, q6⟩ := QB.out w1 x1; clear x1)
                    | (go_at_call 104; (with_reducible refine (KR1.out _ X1.out).mono ?_); rintro e w2 ⟨rfl, x2⟩; have X2 := hid (X1.out.trans x2); obtain ⟨q0, q1, q2, q3, q4, q5, q6⟩ := QB.out w2 X2.out; clear x2)
                    | (go_at_call 104; (with_reducible refine (KR2.out _ X2.out).mono ?_); rintro e w4 ⟨rfl, x4⟩; have X4 := hid (X2.out.trans x4); obtain ⟨q0, q1, q2, q3, q4, q5, q6⟩ := QB.out w4 X4.out; clear x4)
                    | (go_at_call 41; (with_reducible refine (KS2.out _ X4.out).mono ?_); rintro e w5 ⟨rfl, x5⟩; have X5 := hid (X4.out.trans x5); obtain ⟨q0, q1, q2, q3, q4, q5, q6⟩ := QB.out w5 X5.out; clear x5))
              go_ret
              exact ⟨ret_bool (by first | exact HCL.out.symm | (rw [HCL.out]; simp)), HX0.out.trans X5.out⟩
            · have d2 : (xv == 2) = false := by simpa using v2
              have HCL : Hid (claimB g ws ⟨xv, lw, lo, ss⟩ = false) := hid (by rw [HCB.out]; simp only [if_neg v0, if_neg v1, if_neg v2, if_neg v3])
              clear HCB v0 v1 v2 v3
              go_enter Tryz.func37, Tryz.ntmps37
              go_wp2_with (first
                    | (go_at_call 97; (with_reducible refine (K97.out _ (Ext.refl _)).mono ?_); rintro e w1 ⟨rfl, x1⟩; have X1 := hid x1; obtain ⟨q0, q1, q2, q3, q4, q5, q6⟩ := QB.out w1 x1; clear x1)
                    | (go_at_call 104; (with_reducible refine (KR1.out _ X1.out).mono ?_); rintro e w2 ⟨rfl, x2⟩; have X2 := hid (X1.out.trans x2); obtain ⟨q0, q1, q2, q3, q4, q5, q6⟩ := QB.out w2 X2.out; clear x2)
                    | (go_at_call 104; (with_reducible refine (KR2.out _ X2.out).mono ?_); rintro e w4 ⟨rfl, x4⟩; have X4 := hid (X2.out.trans x4); obtain ⟨q0, q1, q2, q3, q4, q5, q6⟩ := QB.out w4 X4.out; clear x4)
                    | (go_at_call 41; (with_reducible refine (KS2.out _ X4.out).mono ?_); rintro e w5 ⟨rfl, x5⟩; have X5 := hid (X4.out.trans x5); obtain ⟨q0, q1, q2, q3, q4, q5, q6⟩ := QB.out w5 X5.out; clear x5))
              go_ret
              exact ⟨ret_bool (by first | exact HCL.out.symm | (rw [HCL.out]; simp)), HX0.out.trans X5.out⟩
    · have HCB := hid (HCE2.out false false rfl rfl)
      clear HCE2
      by_cases v0 : xv = 0
      · subst v0
        have HCL : Hid (claimB g ws ⟨0, lw, lo, ss⟩ = decide (n1 + n2 + sn = 0)) := hid (by rw [HCB.out]; simp only [HL.out.1, HL.out.2.1, HL.out.2.2]; rfl)
        clear HCB
        by_cases s0 : n1 + n2 + sn = 0
        · have s1 : (n1 : Int) + (n2 : Int) + (sn : Int) = 0 := by omega
          have s2 : (((n1 : Int) + (n2 : Int) + (sn : Int)) == 0) = true := by simpa using s1
          have HS0 := hid s0
          clear s0
          go_enter Tryz.func37, Tryz.ntmps37
          go_wp2_with (first
                | (go_at_call 97; (with_reducible refine (K97.out _ (Ext.refl _)).mono ?_); rintro e w1 ⟨rfl, x1⟩; have X1 := hid x1; obtain ⟨q0, q1, q2, q3, q4, q5, q6⟩ := QB.out w1 x1; clear x1)
                | (go_at_call 104; (with_reducible refine (KR1.out _ X1.out).mono ?_); rintro e w2 ⟨rfl, x2⟩; have X2 := hid (X1.out.trans x2); obtain ⟨q0, q1, q2, q3, q4, q5, q6⟩ := QB.out w2 X2.out; clear x2)
                | (go_at_call 41; (with_reducible refine (KS1.out _ X2.out).mono ?_); rintro e w3 ⟨rfl, x3⟩; have X3 := hid (X2.out.trans x3); obtain ⟨q0, q1, q2, q3, q4, q5, q6⟩ := QB.out w3 X3.out; clear x3)
                | (go_at_call 104; (with_reducible refine (KR2.out _ X3.out).mono ?_); rintro e w4 ⟨rfl, x4⟩; have X4 := hid (X3.out.trans x4); obtain ⟨q0, q1, q2, q3, q4, q5, q6⟩ := QB.out w4 X4.out; clear x4))
          go_ret
          exact ⟨ret_bool (by first | exact HCL.out.symm | (rw [HCL.out]; first | (simp [HS0.out]; done) | (have hq := HS0.out; simp; omega))), HX0.out.trans X4.out⟩
        · have s1 : ¬ (n1 : Int) + (n2 : Int) + (sn : Int) = 0 := by omega
          have s2 : (((n1 : Int) + (n2 : Int) + (sn : Int)) == 0) = false := by simpa using s1
          have HS0 := hid s0
          clear s0
          go_enter Tryz.func37, Tryz.ntmps37
          go_wp2_with (first
                | (go_at_call 97; (with_reducible refine (K97.out _ (Ext.refl _)).mono ?_); rintro e w1 ⟨rfl, x1⟩; have X1 := hid x1; obtain ⟨q0, q1, q2, q3, q4, q5, q6⟩ := QB.out w1 x1; clear x1)
                | (go_at_call 104; (with_reducible refine (KR1.out _ X1.out).mono ?_); rintro e w2 ⟨rfl, x2⟩; have X2 := hid (X1.out.trans x2); obtain ⟨q0, q1, q2, q3, q4, q5, q6⟩ := QB.out w2 X2.out; clear x2)
                | (go_at_call 41; (with_reducible refine (KS1.out _ X2.out).mono ?_); rintro e w3 ⟨rfl, x3⟩; have X3 := hid (X2.out.trans x3); obtain ⟨q0, q1, q2, q3, q4, q5, q6⟩ := QB.out w3 X3.out; clear x3)
                | (go_at_call 104; (with_reducible refine (KR2.out _ X3.out).mono ?_); rintro e w4 ⟨rfl, x4⟩; have X4 := hid (X3.out.trans x4); obtain ⟨q0, q1, q2, q3, q4, q5, q6⟩ := QB.out w4 X4.out; clear x4))
          go_ret
          exact ⟨ret_bool (by first | exact HCL.out.symm | (rw [HCL.out]; first | (simp [HS0.out]; done) | (have hq := HS0.out; simp; omega))), HX0.out.trans X4.out⟩
      · have d0 : (xv == 0) = false := by simpa using v0
        by_cases v1 : xv = 1
        · subst v1
          have HCL : Hid (claimB g ws ⟨1, lw, lo, ss⟩ = (decide (n2 = 0) && (false) && k1)) := hid (by rw [HCB.out]; simp only [HL.out.2.1]; first | rfl | simp)
          clear HCB v0
          go_enter Tryz.func37, Tryz.ntmps37
          go_wp2_with (first
                | (go_at_call 97; (with_reducible refine (K97.out _ (Ext.refl _)).mono ?_); rintro e w1 ⟨rfl, x1⟩; have X1 := hid x1; obtain ⟨q0, q1, q2, q3, q4, q5, q6⟩ := QB.out w1 x1; clear x1)
                | (go_at_call 104; (with_reducible refine (KR1.out _ X1.out).mono ?_); rintro e w2 ⟨rfl, x2⟩; have X2 := hid (X1.out.trans x2); obtain ⟨q0, q1, q2, q3, q4, q5, q6⟩ := QB.out w2 X2.out; clear x2)
                | (go_at_call 41; (with_reducible refine (KS1.out _ X2.out).mono ?_); rintro e w3 ⟨rfl, x3⟩; have X3 := hid (X2.out.trans x3); obtain ⟨q0, q1, q2, q3, q4, q5, q6⟩ := QB.out w3 X3.out; clear x3)
                | (go_at_call 104; (with_reducible refine (KR2.out _ X3.out).mono ?_); rintro e w4 ⟨rfl, x4⟩; have X4 := hid (X3.out.trans x4); obtain ⟨q0, q1, q2, q3, q4, q5, q6⟩ := QB.out w4 X4.out; clear x4))
          go_ret
          exact ⟨ret_bool (by first | exact HCL.out.symm | (rw [HCL.out]; simp)), HX0.out.trans X4.out⟩
        · have d1 : (xv == 1) = false := by simpa using v1
          by_cases v3 : xv = 3
          · subst v3
            have HCL : Hid (claimB g ws ⟨3, lw, lo, ss⟩ = (decide (n1 = 0) && (false) && k2)) := hid (by rw [HCB.out]; simp only [HL.out.1]; first | rfl | simp)
            clear HCB v0 v1
            go_enter Tryz.func37, Tryz.ntmps37
            go_wp2_with (first
                  | (go_at_call 97; (with_reducible refine (K97.out _ (Ext.refl _)).mono ?_); rintro e w1 ⟨rfl, x1⟩; have X1 := hid x1; obtain ⟨q0, q1, q2, q3, q4, q5, q6⟩ := QB.out w1 x1; clear x1)
                  | (go_at_call 104; (with_reducible refine (KR1.out _ X1.out).mono ?_); rintro e w2 ⟨rfl, x2⟩; have X2 := hid (X1.out.trans x2); obtain ⟨q0, q1, q2, q3, q4, q5, q6⟩ := QB.out w2 X2.out; clear x2)
                  | (go_at_call 41; (with_reducible refine (KS1.out _ X2.out).mono ?_); rintro e w3 ⟨rfl, x3⟩; have X3 := hid (X2.out.trans x3); obtain ⟨q0, q1, q2, q3, q4, q5, q6⟩ := QB.out w3 X3.out; clear x3)
                  | (go_at_call 104; (with_reducible refine (KR2.out _ X3.out).mono ?_); rintro e w4 ⟨rfl, x4⟩; have X4 := hid (X3.out.trans x4); obtain ⟨q0, q1, q2, q3, q4, q5, q6⟩ := QB.out w4 X4.out; clear x4))
            go_ret
            exact ⟨ret_bool (by first | exact HCL.out.symm | (rw [HCL.out]; simp)), HX0.out.trans X4.out⟩
          · have d3 : (xv == 3) = false := by simpa using v3
            by_cases v2 : xv = 2
            · subst v2
              have HCL : Hid (claimB g ws ⟨2, lw, lo, ss⟩ = (decide (sn = 0) && (false) && (false))) := hid (by rw [HCB.out]; simp only [HL.out.2.2]; first | rfl | simp)
              clear HCB v0 v1 v3
              go_enter Tryz.func37, Tryz.ntmps37
              go_wp2_with (first
                    | (go_at_call 97; (with_reducible refine (K97.out _ (Ext.refl _)).mono ?_); rintro e w1 ⟨rfl, x1⟩; have X1 := hid x1; obtain ⟨q0, q1, q2, q3, q4, q5, q6⟩ := QB.out w1 x1; clear x1)
                    | (go_at_call 104; (with_reducible refine (KR1.out _ X1.out).mono ?_); rintro e w2 ⟨rfl, x2⟩; have X2 := hid (X1.out.trans x2); obtain ⟨q0, q1, q2, q3, q4, q5, q6⟩ := QB.out w2 X2.out; clear x2)
                    | (go_at_call 41; (with_reducible refine (KS1.out _ X2.out).mono ?_); rintro e w3 ⟨rfl, x3⟩; have X3 := hid (X2.out.trans x3); obtain ⟨q0, q1, q2, q3, q4, q5, q6⟩ := QB.out w3 X3.out; clear x3)
                    | (go_at_call 104; (with_reducible refine (KR2.out _ X3.out).mono ?_); rintro e w4 ⟨rfl, x4⟩; have X4 := hid (X3.out.trans x4); obtain ⟨q0, q1, q2, q3, q4, q5, q6⟩ := QB.out w4 X4.out; clear x4))
              go_ret
              exact ⟨ret_bool (by first | exact HCL.out.symm | (rw [HCL.out]; simp)), HX0.out.trans X4.out⟩
            · have d2 : (xv == 2) = false := by simpa using v2
              have HCL : Hid (claimB g ws ⟨xv, lw, lo, ss⟩ = false) := hid (by rw [HCB.out]; simp only [if_neg v0, if_neg v1, if_neg v2, if_neg v3])
              clear HCB v0 v1 v2 v3
              go_enter Tryz.func37, Tryz.ntmps37
              go_wp2_with (first
                    | (go_at_call 97; (with_reducible refine (K97.out _ (Ext.refl _)).mono ?_); rintro e w1 ⟨rfl, x1⟩; have X1 := hid x1; obtain ⟨q0, q1, q2, q3, q4, q5, q6⟩ := QB.out w1 x1; clear x1)
                    | (go_at_call 104; (with_reducible refine (KR1.out _ X1.out).mono ?_); rintro e w2 ⟨rfl, x2⟩; have X2 := hid (X1.out.trans x2); obtain ⟨q0, q1, q2, q3, q4, q5, q6⟩ := QB.out w2 X2.out; clear x2)
                    | (go_at_call 41; (with_reducible refine (KS1.out _ X2.out).mono ?_); rintro e w3 ⟨rfl, x3⟩; have X3 := hid (X2.out.trans x3); obtain ⟨q0, q1, q2, q3, q4, q5, q6⟩ := QB.out w3 X3.out; clear x3)
                    | (go_at_call 104; (with_reducible refine (KR2.out _ X3.out).mono ?_); rintro e w4 ⟨rfl, x4⟩; have X4 := hid (X3.out.trans x4); obtain ⟨q0, q1, q2, q3, q4, q5, q6⟩ := QB.out w4 X4.out; clear x4))
              go_ret
              exact ⟨ret_bool (by first | exact HCL.out.symm | (rw [HCL.out]; simp)), HX0.out.trans X4.out⟩
    · have HCB := hid (HCE2.out false true rfl rfl)
      clear HCE2
      by_cases v0 : xv = 0
      · subst v0
        have HCL : Hid (claimB g ws ⟨0, lw, lo, ss⟩ = decide (n1 + n2 + sn = 0)) := hid (by rw [HCB.out]; simp only [HL.out.1, HL.out.2.1, HL.out.2.2]; rfl)
        clear HCB
        by_cases s0 : n1 + n2 + sn = 0
        · have s1 : (n1 : Int) + (n2 : Int) + (sn : Int) = 0 := by omega
          have s2 : (((n1 : Int) + (n2 : Int) + (sn : Int)) == 0) = true := by simpa using s1
          have HS0 := hid s0
          clear s0
          go_enter Tryz.func37, Tryz.ntmps37
          go_wp2_with (first
                | (go_at_call 97; (with_reducible refine (K97.out _ (Ext.refl _)).mono ?_); rintro e w1 ⟨rfl, x1⟩; have X1 := hid x1; obtain ⟨q0, q1, q2, q3, q4, q5, q6⟩ := QB.out w1 x1; clear x1)
                | (go_at_call 104; (with_reducible refine (KR1.out _ X1.out).mono ?_); rintro e w2 ⟨rfl, x2⟩; have X2 := hid (X1.out.trans x2); obtain ⟨q0, q1, q2, q3, q4, q5, q6⟩ := QB.out w2 X2.out; clear x2)
                | (go_at_call 41; (with_reducible refine (KS1.out _ X2.out).mono ?_); rintro e w3 ⟨rfl, x3⟩; have X3 := hid (X2.out.trans x3); obtain ⟨q0, q1, q2, q3, q4, q5, q6⟩ := QB.out w3 X3.out; clear x3)
                | (go_at_call 104; (with_reducible refine (KR2.out _ X3.out).mono ?_); rintro e w4 ⟨rfl, x4⟩; have X4 := hid (X3.out.trans x4); obtain ⟨q0, q1, q2, q3, q4, q5, q6⟩ := QB.out w4 X4.out; clear x4)
                | (go_at_call 41; (with_reducible refine (KS2.out _ X4.out).mono ?_); rintro e w5 ⟨rfl, x5⟩; have X5 := hid (X4.out.trans x5); obtain ⟨q0, q1, q2, q3, q4, q5, q6⟩ := QB.out w5 X5.out; clear x5))
          go_ret
          exact ⟨ret_bool (by first | exact HCL.out.symm | (rw [HCL.out]; first | (simp [HS0.out]; done) | (have hq := HS0.out; simp; omega))), HX0.out.trans X5.out⟩
        · have s1 : ¬ (n1 : Int) + (n2 : Int) + (sn : Int) = 0 := by omega
          have s2 : (((n1 : Int) + (n2 : Int) + (sn : Int)) == 0) = false := by simpa using s1
          have HS0 := hid s0
          clear s0
          go_enter Tryz.func37, Tryz.ntmps37
          go_wp2_with (first
                | (go_at_call 97; (with_reducible refine (K97.out _ (Ext.refl _)).mono ?_); rintro e w1 ⟨rfl, x1⟩; have X1 := hid x1; obtain ⟨q0, q1, q2, q3, q4, q5, q6⟩ := QB.out w1 x1; clear x1)
                | (go_at_call 104; (with_reducible refine (KR1.out _ X1.out).mono ?_); rintro e w2 ⟨rfl, x2⟩; have X2 := hid (X1.out.trans x2); obtain ⟨q0, q1, q2, q3, q4, q5, q6⟩ := QB.out w2 X2.out; clear x2)
                | (go_at_call 41; (with_reducible refine (KS1.out _ X2.out).mono ?_); rintro e w3 ⟨rfl, x3⟩; have X3 := hid (X2.out.trans x3); obtain ⟨q0, q1, q2, q3, q4, q5, q6⟩ := QB.out w3 X3.out; clear x3)
                | (go_at_call 104; (with_reducible refine (KR2.out _ X3.out).mono ?_); rintro e w4 ⟨rfl, x4⟩; have X4 := hid (X3.out.trans x4); obtain ⟨q0, q1, q2, q3, q4, q5, q6⟩ := QB.out w4 X4.out; clear x4)
                | (go_at_call 41; (with_reducible refine (KS2.out _ X4.out).mono ?_); rintro e w5 ⟨rfl, x5⟩; have X5 := hid (X4.out.trans x5); obtain ⟨q0, q1, q2, q3, q4, q5, q6⟩ := QB.out w5 X5.out; clear x5))
          go_ret
          exact ⟨ret_bool (by first | exact HCL.out.symm | (rw [HCL.out]; first | (simp [HS0.out]; done) | (have hq := HS0.out; simp; omega))), HX0.out.trans X5.out⟩
      · have d0 : (xv == 0) = false := by simpa using v0
        by_cases v1 : xv = 1
        · subst v1
          have HCL : Hid (claimB g ws ⟨1, lw, lo, ss⟩ = (decide (n2 = 0) && (false) && k1)) := hid (by rw [HCB.out]; simp only [HL.out.2.1]; first | rfl | simp)
          clear HCB v0
          go_enter Tryz.func37, Tryz.ntmps37
          go_wp2_with (first
                | (go_at_call 97; (with_reducible refine (K97.out _ (Ext.refl _)).mono ?_); rintro e w1 ⟨rfl, x1⟩; have X1 := hid x1; obtain ⟨q0, q1, q2, q3, q4, q5, q6⟩ := QB.out w1 x1; clear x1)
                | (go_at_call 104; (with_reducible refine (KR1.out _ X1.out).mono ?_); rintro e w2 ⟨rfl, x2⟩; have X2 := hid (X1.out.trans x2); obtain ⟨q0, q1, q2, q3, q4, q5, q6⟩ := QB.out w2 X2.out; clear x2)
                | (go_at_call 41; (with_reducible refine (KS1.out _ X2.out).mono ?_); rintro e w3 ⟨rfl, x3⟩; have X3 := hid (X2.out.trans x3); obtain ⟨q0, q1, q2, q3, q4, q5, q6⟩ := QB.out w3 X3.out; clear x3)
                | (go_at_call 104; (with_reducible refine (KR2.out _ X3.out).mono ?_); rintro e w4 ⟨rfl, x4⟩; have X4 := hid (X3.out.trans x4); obtain ⟨q0, q1, q2, q3, q4, q5, q6⟩ := QB.out w4 X4.out; clear x4)
                | (go_at_call 41; (with_reducible refine (KS2.out _ X4.out).mono ?_); rintro e w5 ⟨rfl, x5⟩; have X5 := hid (X4.out.trans x5); obtain ⟨q0, q1, q2, q3, q4, q5, q6⟩ := QB.out w5 X5.out; clear x5))
          go_ret
          exact ⟨ret_bool (by first | exact HCL.out.symm | (rw [HCL.out]; simp)), HX0.out.trans X5.out⟩
        · have d1 : (xv == 1) = false := by simpa using v1
          by_cases v3 : xv = 3
          · subst v3
            have HCL : Hid (claimB g ws ⟨3, lw, lo, ss⟩ = (decide (n1 = 0) && (true) && k2)) := hid (by rw [HCB.out]; simp only [HL.out.1]; first | rfl | simp)
            clear HCB v0 v1
            rcases Nat.eq_zero_or_pos n1 with z0 | z0
            · have z1 : ((n1 : Int) == 0) = true := by simpa using (show (n1 : Int) = 0 by omega)
              have z2 : (n1 == 0) = true := by simpa using z0
              have HZ0 := hid z0
              clear z0
              go_enter Tryz.func37, Tryz.ntmps37
              go_wp2_with (first
                    | (go_at_call 97; (with_reducible refine (K97.out _ (Ext.refl _)).mono ?_); rintro e w1 ⟨rfl, x1⟩; have X1 := hid x1; obtain ⟨q0, q1, q2, q3, q4, q5, q6⟩ := QB.out w1 x1; clear x1)
                    | (go_at_call 104; (with_reducible refine (KR1.out _ X1.out).mono ?_); rintro e w2 ⟨rfl, x2⟩; have X2 := hid (X1.out.trans x2); obtain ⟨q0, q1, q2, q3, q4, q5, q6⟩ := QB.out w2 X2.out; clear x2)
                    | (go_at_call 41; (with_reducible refine (KS1.out _ X2.out).mono ?_); rintro e w3 ⟨rfl, x3⟩; have X3 := hid (X2.out.trans x3); obtain ⟨q0, q1, q2, q3, q4, q5, q6⟩ := QB.out w3 X3.out; clear x3)
                    | (go_at_call 104; (with_reducible refine (KR2.out _ X3.out).mono ?_); rintro e w4 ⟨rfl, x4⟩; have X4 := hid (X3.out.trans x4); obtain ⟨q0, q1, q2, q3, q4, q5, q6⟩ := QB.out w4 X4.out; clear x4)
                    | (go_at_call 41; (with_reducible refine (KS2.out _ X4.out).mono ?_); rintro e w5 ⟨rfl, x5⟩; have X5 := hid (X4.out.trans x5); obtain ⟨q0, q1, q2, q3, q4, q5, q6⟩ := QB.out w5 X5.out; clear x5)
                    | (go_at_call 35; (with_reducible refine (KC2.out _ X5.out).mono ?_); rintro e w6 ⟨rfl, x6⟩; have X6 := hid (X5.out.trans x6); obtain ⟨q0, q1, q2, q3, q4, q5, q6⟩ := QB.out w6 X6.out; clear x6))
              go_ret
              exact ⟨ret_bool (by first | exact HCL.out.symm | (rw [HCL.out]; simp [HZ0.out])), HX0.out.trans X6.out⟩
            · have z1 : ((n1 : Int) == 0) = false := by simpa using (show ¬ (n1 : Int) = 0 by omega)
              have z2 : (n1 == 0) = false := by simpa using (show ¬ n1 = 0 by omega)
              have HZ0 : Hid (¬ n1 = 0) := hid (by omega)
              clear z0
              go_enter Tryz.func37, Tryz.ntmps37
              go_wp2_with (first
                    | (go_at_call 97; (with_reducible refine (K97.out _ (Ext.refl _)).mono ?_); rintro e w1 ⟨rfl, x1⟩; have X1 := hid x1; obtain ⟨q0, q1, q2, q3, q4, q5, q6⟩ := QB.out w1 x1; clear x1)
                    | (go_at_call 104; (with_reducible refine (KR1.out _ X1.out).mono ?_); rintro e w2 ⟨rfl, x2⟩; have X2 := hid (X1.out.trans x2); obtain ⟨q0, q1, q2, q3, q4, q5, q6⟩ := QB.out w2 X2.out; clear x2)
                    | (go_at_call 41; (with_reducible refine (KS1.out _ X2.out).mono ?_); rintro e w3 ⟨rfl, x3⟩; have X3 := hid (X2.out.trans x3); obtain ⟨q0, q1, q2, q3, q4, q5, q6⟩ := QB.out w3 X3.out; clear x3)
                    | (go_at_call 104; (with_reducible refine (KR2.out _ X3.out).mono ?_); rintro e w4 ⟨rfl, x4⟩; have X4 := hid (X3.out.trans x4); obtain ⟨q0, q1, q2, q3, q4, q5, q6⟩ := QB.out w4 X4.out; clear x4)
                    | (go_at_call 41; (with_reducible refine (KS2.out _ X4.out).mono ?_); rintro e w5 ⟨rfl, x5⟩; have X5 := hid (X4.out.trans x5); obtain ⟨q0, q1, q2, q3, q4, q5, q6⟩ := QB.out w5 X5.out; clear x5))
              go_ret
              exact ⟨ret_bool (by first | exact HCL.out.symm | (rw [HCL.out]; simp [HZ0.out])), HX0.out.trans X5.out⟩
          · have d3 : (xv == 3) = false := by simpa using v3
            by_cases v2 : xv = 2
            · subst v2
              have HCL : Hid (claimB g ws ⟨2, lw, lo, ss⟩ = (decide (sn = 0) && (false) && (true))) := hid (by rw [HCB.out]; simp only [HL.out.2.2]; first | rfl | simp)
              clear HCB v0 v1 v3
              go_enter Tryz.func37, Tryz.ntmps37
              go_wp2_with (first
                    | (go_at_call 97; (with_reducible refine (K97.out _ (Ext.refl _)).mono ?_); rintro e w1 ⟨rfl, x1⟩; have X1 := hid x1; obtain ⟨q0, q1, q2, q3, q4, q5, q6⟩ := QB.out w1 x1; clear x1)
                    | (go_at_call 104; (with_reducible refine (KR1.out _ X1.out).mono ?_); rintro e w2 ⟨rfl, x2⟩; have X2 := hid (X1.out.trans x2); obtain ⟨q0, q1, q2, q3, q4, q5, q6⟩ := QB.out w2 X2.out; clear x2)
                    | (go_at_call 41; (with_reducible refine (KS1.out _ X2.out).mono ?_); rintro e w3 ⟨rfl, x3⟩; have X3 := hid (X2.out.trans x3); obtain ⟨q0, q1, q2, q3, q4, q5, q6⟩ := QB.out w3 X3.out; clear x3)
                    | (go_at_call 104; (with_reducible refine (KR2.out _ X3.out).mono ?_); rintro e w4 ⟨rfl, x4⟩; have X4 := hid (X3.out.trans x4); obtain ⟨q0, q1, q2, q3, q4, q5, q6⟩ := QB.out w4 X4.out; clear x4)
                    | (go_at_call 41; (with_reducible refine (KS2.out _ X4.out).mono ?_); rintro e w5 ⟨rfl, x5⟩; have X5 := hid (X4.out.trans x5); obtain ⟨q0, q1, q2, q3, q4, q5, q6⟩ := QB.out w5 X5.out; clear x5))
              go_ret
              exact ⟨ret_bool (by first | exact HCL.out.symm | (rw [HCL.out]; simp)), HX0.out.trans X5.out⟩
            · have d2 : (xv == 2) = false := by simpa using v2
              have HCL : Hid (claimB g ws ⟨xv, lw, lo, ss⟩ = false) := hid (by rw [HCB.out]; simp only [if_neg v0, if_neg v1, if_neg v2, if_neg v3])
              clear HCB v0 v1 v2 v3
              go_enter Tryz.func37, Tryz.ntmps37
              go_wp2_with (first
                    | (go_at_call 97; (with_reducible refine (K97.out _ (Ext.refl _)).mono ?_); rintro e w1 ⟨rfl, x1⟩; have X1 := hid x1; obtain ⟨q0, q1, q2, q3, q4, q5, q6⟩ := QB.out w1 x1; clear x1)
                    | (go_at_call 104; (with_reducible refine (KR1.out _ X1.out).mono ?_); rintro e w2 ⟨rfl, x2⟩; have X2 := hid (X1.out.trans x2); obtain ⟨q0, q1, q2, q3, q4, q5, q6⟩ := QB.out w2 X2.out; clear x2)
                    | (go_at_call 41; (with_reducible refine (KS1.out _ X2.out).mono ?_); rintro e w3 ⟨rfl, x3⟩; have X3 := hid (X2.out.trans x3); obtain ⟨q0, q1, q2, q3, q4, q5, q6⟩ := QB.out w3 X3.out; clear x3)
                    | (go_at_call 104; (with_reducible refine (KR2.out _ X3.out).mono ?_); rintro e w4 ⟨rfl, x4⟩; have X4 := hid (X3.out.trans x4); obtain ⟨q0, q1, q2, q3, q4, q5, q6⟩ := QB.out w4 X4.out; clear x4)
                    | (go_at_call 41; (with_reducible refine (KS2.out _ X4.out).mono ?_); rintro e w5 ⟨rfl, x5⟩; have X5 := hid (X4.out.trans x5); obtain ⟨q0, q1, q2, q3, q4, q5, q6⟩ := QB.out w5 X5.out; clear x5))
              go_ret
              exact ⟨ret_bool (by first | exact HCL.out.symm | (rw [HCL.out]; simp)), HX0.out.trans X5.out⟩
    · have HCB := hid (HCE2.out false false rfl rfl)
      clear HCE2
      by_cases v0 : xv = 0
      · subst v0
        have HCL : Hid (claimB g ws ⟨0, lw, lo, ss⟩ = decide (n1 + n2 + sn = 0)) := hid (by rw [HCB.out]; simp only [HL.out.1, HL.out.2.1, HL.out.2.2]; rfl)
        clear HCB
        by_cases s0 : n1 + n2 + sn = 0
        · have s1 : (n1 : Int) + (n2 : Int) + (sn : Int) = 0 := by omega
          have s2 : (((n1 : Int) + (n2 : Int) + (sn : Int)) == 0) = true := by simpa using s1
          have HS0 := hid s0
          clear s0
          go_enter Tryz.func37, Tryz.ntmps37
          go_wp2_with (first
                | (go_at_call 97; (with_reducible refine (K97.out _ (Ext.refl _)).mono ?_); rintro e w1 ⟨rfl, x1⟩; have X1 := hid x1; obtain ⟨q0, q1, q2, q3, q4, q5, q6⟩ := QB.out w1 x1; clear x1)
                | (go_at_call 104; (with_reducible refine (KR1.out _ X1.out).mono ?_); rintro e w2 ⟨rfl, x2⟩; have X2 := hid (X1.out.trans x2); obtain ⟨q0, q1, q2, q3, q4, q5, q6⟩ := QB.out w2 X2.out; clear x2)
                | (go_at_call 41; (with_reducible refine (KS1.out _ X2.out).mono ?_); rintro e w3 ⟨rfl, x3⟩; have X3 := hid (X2.out.trans x3); obtain ⟨q0, q1, q2, q3, q4, q5, q6⟩ := QB.out w3 X3.out; clear x3)
                | (go_at_call 104; (with_reducible refine (KR2.out _ X3.out).mono ?_); rintro e w4 ⟨rfl, x4⟩; have X4 := hid (X3.out.trans x4); obtain ⟨q0, q1, q2, q3, q4, q5, q6⟩ := QB.out w4 X4.out; clear x4)
                | (go_at_call 41; (with_reducible refine (KS2.out _ X4.out).mono ?_); rintro e w5 ⟨rfl, x5⟩; have X5 := hid (X4.out.trans x5); obtain ⟨q0, q1, q2, q3, q4, q5, q6⟩ := QB.out w5 X5.out; clear x5))
          go_ret
          exact ⟨ret_bool (by first | exact HCL.out.symm | (rw [HCL.out]; first | (simp [HS0.out]; done) | (have hq := HS0.out; simp; omega))), HX0.out.trans X5.out⟩
        · have s1 : ¬ (n1 : Int) + (n2 : Int) + (sn : Int) = 0 := by omega
          have s2 : (((n1 : Int) + (n2 : Int) + (sn : Int)) == 0) = false := by simpa using s1
          have HS0 := hid s0
          clear s0
          go_enter Tryz.func37, Tryz.ntmps37
          go_wp2_with (first
                | (go_at_call 97; (with_reducible refine (K97.out _ (Ext.refl _)).mono ?_); rintro e w1 ⟨rfl, x1⟩; have X1 := hid x1; obtain ⟨q0, q1, q2, q3, q4, q5, q6⟩ := QB.out w1 x1; clear x1)
                | (go_at_call 104; (with_reducible refine (KR1.out _ X1.out).mono ?_); rintro e w2 ⟨rfl, x2⟩; have X2 := hid (X1.out.trans x2); obtain ⟨q0, q1, q2, q3, q4, q5, q6⟩ := QB.out w2 X2.out; clear x2)
                | (go_at_call 41; (with_reducible refine (KS1.out _ X2.out).mono ?_); rintro e w3 ⟨rfl, x3⟩; have X3 := hid (X2.out.trans x3); obtain ⟨q0, q1, q2, q3, q4, q5, q6⟩ := QB.out w3 X3.out; clear x3)
                | (go_at_call 104; (with_reducible refine (KR2.out _ X3.out).mono ?_); rintro e w4 ⟨rfl, x4⟩; have X4 := hid (X3.out.trans x4); obtain ⟨q0, q1, q2, q3, q4, q5, q6⟩ := QB.out w4 X4.out; clear x4)
                | (go_at_call 41; (with_reducible refine (KS2.out _ X4.out).mono ?_); rintro e w5 ⟨rfl, x5⟩; have X5 := hid (X4.out.trans x5); obtain ⟨q0, q1, q2, q3, q4, q5, q6⟩ := QB.out w5 X5.out; clear x5))
          go_ret
          exact ⟨ret_bool (by first | exact HCL.out.symm | (rw [HCL.out]; first | (simp [HS0.out]; done) | (have hq := HS0.out; simp; omega))), HX0.out.trans X5.out⟩
      · have d0 : (xv == 0) = false := by simpa using v0
        by_cases v1 : xv = 1
        · subst v1
          have HCL : Hid (claimB g ws ⟨1, lw, lo, ss⟩ = (decide (n2 = 0) && (false) && k1)) := hid (by rw [HCB.out]; simp only [HL.out.2.1]; first | rfl | simp)
          clear HCB v0
          go_enter Tryz.func37, Tryz.ntmps37
          go_wp2_with (first
                | (go_at_call 97; (with_reducible refine (K97.out _ (Ext.refl _)).mono ?_); rintro e w1 ⟨rfl, x1⟩; have X1 := hid x1; obtain ⟨q0, q1, q2, q3, q4, q5, q6⟩ := QB.out w1 x1; clear x1)
                | (go_at_call 104; (with_reducible refine (KR1.out _ X1.out).mono ?_); rintro e w2 ⟨rfl, x2⟩; have X2 := hid (X1.out.trans x2); obtain ⟨q0, q1, q2, q3, q4, q5, q6⟩ := QB.out w2 X2.out; clear x2)
                | (go_at_call 41; (with_reducible refine (KS1.out _ X2.out).mono ?_); rintro e w3 ⟨rfl, x3⟩; have X3 := hid (X2.out.trans x3); obtain ⟨q0, q1, q2, q3, q4, q5, q6⟩ := QB.out w3 X3.out; clear x3)
                | (go_at_call 104; (with_reducible refine (KR2.out _ X3.out).mono ?_); rintro e w4 ⟨rfl, x4⟩; have X4 := hid (X3.out.trans x4); obtain ⟨q0, q1, q2, q3, q4, q5, q6⟩ := QB.out w4 X4.out; clear x4)
                | (go_at_call 41; (with_reducible refine (KS2.out _ X4.out).mono ?_); rintro e w5 ⟨rfl, x5⟩; have X5 := hid (X4.out.trans x5); obtain ⟨q0, q1, q2, q3, q4, q5, q6⟩ := QB.out w5 X5.out; clear x5))
          go_ret
          exact ⟨ret_bool (by first | exact HCL.out.symm | (rw [HCL.out]; simp)), HX0.out.trans X5.out⟩
        · have d1 : (xv == 1) = false := by simpa using v1
          by_cases v3 : xv = 3
          · subst v3
            have HCL : Hid (claimB g ws ⟨3, lw, lo, ss⟩ = (decide (n1 = 0) && (false) && k2)) := hid (by rw [HCB.out]; simp only [HL.out.1]; first | rfl | simp)
            clear HCB v0 v1
            go_enter Tryz.func37, Tryz.ntmps37
            go_wp2_with (first
                  | (go_at_call 97; (with_reducible refine (K97.out _ (Ext.refl _)).mono ?_); rintro e w1 ⟨rfl, x1⟩; have X1 := hid x1; obtain ⟨q0, q1, q2, q3, q4, q5, q6⟩ := QB.out w1 x1; clear x1)
                  | (go_at_call 104; (with_reducible refine (KR1.out _ X1.out).mono ?_); rintro e w2 ⟨rfl, x2⟩; have X2 := hid (X1.out.trans x2); obtain ⟨q0, q1, q2, q3, q4, q5, q6⟩ := QB.out w2 X2.out; clear x2)
                  | (go_at_call 41; (with_reducible refine (KS1.out _ X2.out).mono ?_); rintro e w3 ⟨rfl, x3⟩; have X3 := hid (X2.out.trans x3); obtain ⟨q0, q1, q2, q3, q4, q5, q6⟩ := QB.out w3 X3.out; clear x3)
                  | (go_at_call 104; (with_reducible refine (KR2.out _ X3.out).mono ?_); rintro e w4 ⟨rfl, x4⟩; have X4 := hid (X3.out.trans x4); obtain ⟨q0, q1, q2, q3, q4, q5, q6⟩ := QB.out w4 X4.out; clear x4)
                  | (go_at_call 41; (with_reducible refine (KS2.out _ X4.out).mono ?_); rintro e w5 ⟨rfl, x5⟩; have X5 := hid (X4.out.trans x5); obtain ⟨q0, q1, q2, q3, q4, q5, q6⟩ := QB.out w5 X5.out; clear x5))
            go_ret
            exact ⟨ret_bool (by first | exact HCL.out.symm | (rw [HCL.out]; simp)), HX0.out.trans X5.out⟩
          · have d3 : (xv == 3) = false := by simpa using v3
            by_cases v2 : xv = 2
            · subst v2
              have HCL : Hid (claimB g ws ⟨2, lw, lo, ss⟩ = (decide (sn = 0) && (false) && (false))) := hid (by rw [HCB.out]; simp only [HL.out.2.2]; first | rfl | simp)
              clear HCB v0 v1 v3
              go_enter Tryz.func37, Tryz.ntmps37
              go_wp2_with (first
                    | (go_at_call 97; (with_reducible refine (K97.out _ (Ext.refl _)).mono ?_); rintro e w1 ⟨rfl, x1⟩; have X1 := hid x1; obtain ⟨q0, q1, q2, q3, q4, q5, q6⟩ := QB.out w1 x1; clear x1)
                    | (go_at_call 104; (with_reducible refine (KR1.out _ X1.out).mono ?_); rintro e w2 ⟨rfl, x2⟩; have X2 := hid (X1.out.trans x2); obtain ⟨q0, q1, q2, q3, q4, q5, q6⟩ := QB.out w2 X2.out; clear x2)
                    | (go_at_call 41; (with_reducible refine (KS1.out _ X2.out).mono ?_); rintro e w3 ⟨rfl, x3⟩; have X3 := hid (X2.out.trans x3); obtain ⟨q0, q1, q2, q3, q4, q5, q6⟩ := QB.out w3 X3.out; clear x3)
                    | (go_at_call 104; (with_reducible refine (KR2.out _ X3.out).mono ?_); rintro e w4 ⟨rfl, x4⟩; have X4 := hid (X3.out.trans x4); obtain ⟨q0, q1, q2, q3, q4, q5, q6⟩ := QB.out w4 X4.out; clear x4)
                    | (go_at_call 41; (with_reducible refine (KS2.out _ X4.out).mono ?_); rintro e w5 ⟨rfl, x5⟩; have X5 := hid (X4.out.trans x5); obtain ⟨q0, q1, q2, q3, q4, q5, q6⟩ := QB.out w5 X5.out; clear x5))
              go_ret
              exact ⟨ret_bool (by first | exact HCL.out.symm | (rw [HCL.out]; simp)), HX0.out.trans X5.out⟩
            · have d2 : (xv == 2) = false := by simpa using v2
              have HCL : Hid (claimB g ws ⟨xv, lw, lo, ss⟩ = false) := hid (by rw [HCB.out]; simp only [if_neg v0, if_neg v1, if_neg v2, if_neg v3])
              clear HCB v0 v1 v2 v3
              go_enter Tryz.func37, Tryz.ntmps37
              go_wp2_with (first
                    | (go_at_call 97; (with_reducible refine (K97.out _ (Ext.refl _)).mono ?_); rintro e w1 ⟨rfl, x1⟩; have X1 := hid x1; obtain ⟨q0, q1, q2, q3, q4, q5, q6⟩ := QB.out w1 x1; clear x1)
                    | (go_at_call 104; (with_reducible refine (KR1.out _ X1.out).mono ?_); rintro e w2 ⟨rfl, x2⟩; have X2 := hid (X1.out.trans x2); obtain ⟨q0, q1, q2, q3, q4, q5, q6⟩ := QB.out w2 X2.out; clear x2)
                    | (go_at_call 41; (with_reducible refine (KS1.out _ X2.out).mono ?_); rintro e w3 ⟨rfl, x3⟩; have X3 := hid (X2.out.trans x3); obtain ⟨q0, q1, q2, q3, q4, q5, q6⟩ := QB.out w3 X3.out; clear x3)
                    | (go_at_call 104; (with_reducible refine (KR2.out _ X3.out).mono ?_); rintro e w4 ⟨rfl, x4⟩; have X4 := hid (X3.out.trans x4); obtain ⟨q0, q1, q2, q3, q4, q5, q6⟩ := QB.out w4 X4.out; clear x4)
                    | (go_at_call 41; (with_reducible refine (KS2.out _ X4.out).mono ?_); rintro e w5 ⟨rfl, x5⟩; have X5 := hid (X4.out.trans x5); obtain ⟨q0, q1, q2, q3, q4, q5, q6⟩ := QB.out w5 X5.out; clear x5))
              go_ret
              exact ⟨ret_bool (by first | exact HCL.out.symm | (rw [HCL.out]; simp)), HX0.out.trans X5.out⟩
    · have HCB := hid (HCE2.out true false rfl rfl)
      clear HCE2
      by_cases v0 : xv = 0
      · subst v0
        have HCL : Hid (claimB g ws ⟨0, lw, lo, ss⟩ = decide (n1 + n2 + sn = 0)) := hid (by rw [HCB.out]; simp only [HL.out.1, HL.out.2.1, HL.out.2.2]; rfl)
        clear HCB
        by_cases s0 : n1 + n2 + sn = 0
        · have s1 : (n1 : Int) + (n2 : Int) + (sn : Int) = 0 := by omega
          have s2 : (((n1 : Int) + (n2 : Int) + (sn : Int)) == 0) = true := by simpa using s1
          have HS0 := hid s0
          clear s0
          go_enter Tryz.func37, Tryz.ntmps37
          go_wp2_with (first
                | (go_at_call 97; (with_reducible refine (K97.out _ (Ext.refl _)).mono ?_); rintro e w1 ⟨rfl, x1⟩; have X1 := hid x1; obtain ⟨q0, q1, q2, q3, q4, q5, q6⟩ := QB.out w1 x1; clear x1)
                | (go_at_call 104; (with_reducible refine (KR1.out _ X1.out).mono ?_); rintro e w2 ⟨rfl, x2⟩; have X2 := hid (X1.out.trans x2); obtain ⟨q0, q1, q2, q3, q4, q5, q6⟩ := QB.out w2 X2.out; clear x2)
                | (go_at_call 41; (with_reducible refine (KS1.out _ X2.out).mono ?_); rintro e w3 ⟨rfl, x3⟩; have X3 := hid (X2.out.trans x3); obtain ⟨q0, q1, q2, q3, q4, q5, q6⟩ := QB.out w3 X3.out; clear x3)
                | (go_at_call 104; (with_reducible refine (KR2.out _ X3.out).mono ?_); rintro e w4 ⟨rfl, x4⟩; have X4 := hid (X3.out.trans x4); obtain ⟨q0, q1, q2, q3, q4, q5, q6⟩ := QB.out w4 X4.out; clear x4))
          go_ret
          exact ⟨ret_bool (by first | exact HCL.out.symm | (rw [HCL.out]; first | (simp [HS0.out]; done) | (have hq := HS0.out; simp; omega))), HX0.out.trans X4.out⟩
        · have s1 : ¬ (n1 : Int) + (n2 : Int) + (sn : Int) = 0 := by omega
          have s2 : (((n1 : Int) + (n2 : Int) + (sn : Int)) == 0) = false := by simpa using s1
          have HS0 := hid s0
          clear s0
          go_enter Tryz.func37, Tryz.ntmps37
          go_wp2_with (first
                | (go_at_call 97; (with_reducible refine (K97.out _ (Ext.refl _)).mono ?_); rintro e w1 ⟨rfl, x1⟩; have X1 := hid x1; obtain ⟨q0, q1, q2, q3, q4, q5, q6⟩ := QB.out w1 x1; clear x1)
                | (go_at_call 104; (with_reducible refine (KR1.out _ X1.out).mono ?_); rintro e w2 ⟨rfl, x2⟩; have X2 := hid (X1.out.trans x2); obtain ⟨q0, q1, q2, q3, q4, q5, q6⟩ := QB.out w2 X2.out; clear x2)
                | (go_at_call 41; (with_reducible refine (KS1.out _ X2.out).mono ?_); rintro e w3 ⟨rfl, x3⟩; have X3 := hid (X2.out.trans x3); obtain ⟨q0, q1, q2, q3, q4, q5, q6⟩ := QB.out w3 X3.out; clear x3)
                | (go_at_call 104; (with_reducible refine (KR2.out _ X3.out).mono ?_); rintro e w4 ⟨rfl, x4⟩; have X4 := hid (X3.out.trans x4); obtain ⟨q0, q1, q2, q3, q4, q5, q6⟩ := QB.out w4 X4.out; clear x4))
          go_ret
          exact ⟨ret_bool (by first | exact HCL.out.symm | (rw [HCL.out]; first | (simp [HS0.out]; done) | (have hq := HS0.out; simp; omega))), HX0.out.trans X4.out⟩
      · have d0 : (xv == 0) = false := by simpa using v0
        by_cases v1 : xv = 1
        · subst v1
          have HCL : Hid (claimB g ws ⟨1, lw, lo, ss⟩ = (decide (n2 = 0) && (true) && k1)) := hid (by rw [HCB.out]; simp only [HL.out.2.1]; first | rfl | simp)
          clear HCB v0
          rcases Nat.eq_zero_or_pos n2 with z0 | z0
          · have z1 : ((n2 : Int) == 0) = true := by simpa using (show (n2 : Int) = 0 by omega)
            have z2 : (n2 == 0) = true := by simpa using z0
            have HZ0 := hid z0
            clear z0
            go_enter Tryz.func37, Tryz.ntmps37
            go_wp2_with (first
                  | (go_at_call 97; (with_reducible refine (K97.out _ (Ext.refl _)).mono ?_); rintro e w1 ⟨rfl, x1⟩; have X1 := hid x1; obtain ⟨q0, q1, q2, q3, q4, q5, q6⟩ := QB.out w1 x1; clear x1)
                  | (go_at_call 104; (with_reducible refine (KR1.out _ X1.out).mono ?_); rintro e w2 ⟨rfl, x2⟩; have X2 := hid (X1.out.trans x2); obtain ⟨q0, q1, q2, q3, q4, q5, q6⟩ := QB.out w2 X2.out; clear x2)
                  | (go_at_call 41; (with_reducible refine (KS1.out _ X2.out).mono ?_); rintro e w3 ⟨rfl, x3⟩; have X3 := hid (X2.out.trans x3); obtain ⟨q0, q1, q2, q3, q4, q5, q6⟩ := QB.out w3 X3.out; clear x3)
                  | (go_at_call 104; (with_reducible refine (KR2.out _ X3.out).mono ?_); rintro e w4 ⟨rfl, x4⟩; have X4 := hid (X3.out.trans x4); obtain ⟨q0, q1, q2, q3, q4, q5, q6⟩ := QB.out w4 X4.out; clear x4)
                  | (go_at_call 35; (with_reducible refine (KC1.out _ X4.out).mono ?_); rintro e w6 ⟨rfl, x6⟩; have X6 := hid (X4.out.trans x6); obtain ⟨q0, q1, q2, q3, q4, q5, q6⟩ := QB.out w6 X6.out; clear x6))
            go_ret
            exact ⟨ret_bool (by first | exact HCL.out.symm | (rw [HCL.out]; simp [HZ0.out])), HX0.out.trans X6.out⟩
          · have z1 : ((n2 : Int) == 0) = false := by simpa using (show ¬ (n2 : Int) = 0 by omega)
            have z2 : (n2 == 0) = false := by simpa using (show ¬ n2 = 0 by omega)
            have HZ0 : Hid (¬ n2 = 0) := hid (by omega)
            clear z0
            go_enter Tryz.func37, Tryz.ntmps37
            go_wp2_with (first
                  | (go_at_call 97; (with_reducible refine (K97.out _ (Ext.refl _)).mono ?_); rintro e w1 ⟨rfl, x1⟩; have X1 := hid x1; obtain ⟨q0, q1, q2, q3, q4, q5, q6⟩ := QB.out w1 x1; clear x1)
                  | (go_at_call 104; (with_reducible refine (KR1.out _ X1.out).mono ?_); rintro e w2 ⟨rfl, x2⟩; have X2 := hid (X1.out.trans x2); obtain ⟨q0, q1, q2, q3, q4, q5, q6⟩ := QB.out w2 X2.out; clear x2)
                  | (go_at_call 41; (with_reducible refine (KS1.out _ X2.out).mono ?_); rintro e w3 ⟨rfl, x3⟩; have X3 := hid (X2.out.trans x3); obtain ⟨q0, q1, q2, q3, q4, q5, q6⟩ := QB.out w3 X3.out; clear x3)
                  | (go_at_call 104; (with_reducible refine (KR2.out _ X3.out).mono ?_); rintro e w4 ⟨rfl, x4⟩; have X4 := hid (X3.out.trans x4); obtain ⟨q0, q1, q2, q3, q4, q5, q6⟩ := QB.out w4 X4.out; clear x4))
            go_ret
            exact ⟨ret_bool (by first | exact HCL.out.symm | (rw [HCL.out]; simp [HZ0.out])), HX0.out.trans X4.out⟩
        · have d1 : (xv == 1) = false := by simpa using v1
          by_cases v3 : xv = 3
          · subst v3
            have HCL : Hid (claimB g ws ⟨3, lw, lo, ss⟩ = (decide (n1 = 0) && (false) && k2)) := hid (by rw [HCB.out]; simp only [HL.out.1]; first | rfl | simp)
            clear HCB v0 v1
            go_enter Tryz.func37, Tryz.ntmps37
            go_wp2_with (first
                  | (go_at_call 97; (with_reducible refine (K97.out _ (Ext.refl _)).mono ?_); rintro e w1 ⟨rfl, x1⟩; have X1 := hid x1; obtain ⟨q0, q1, q2, q3, q4, q5, q6⟩ := QB.out w1 x1; clear x1)
                  | (go_at_call 104; (with_reducible refine (KR1.out _ X1.out).mono ?_); rintro e w2 ⟨rfl, x2⟩; have X2 := hid (X1.out.trans x2); obtain ⟨q0, q1, q2, q3, q4, q5, q6⟩ := QB.out w2 X2.out; clear x2)
                  | (go_at_call 41; (with_reducible refine (KS1.out _ X2.out).mono ?_); rintro e w3 ⟨rfl, x3⟩; have X3 := hid (X2.out.trans x3); obtain ⟨q0, q1, q2, q3, q4, q5, q6⟩ := QB.out w3 X3.out; clear x3)
                  | (go_at_call 104; (with_reducible refine (KR2.out _ X3.out).mono ?_); rintro e w4 ⟨rfl, x4⟩; have X4 := hid (X3.out.trans x4); obtain ⟨q0, q1, q2, q3, q4, q5, q6⟩ := QB.out w4 X4.out; clear x4))
            go_ret
            exact ⟨ret_bool (by first | exact HCL.out.symm | (rw [HCL.out]; simp)), HX0.out.trans X4.out⟩
          · have d3 : (xv == 3) = false := by simpa using v3
            by_cases v2 : xv = 2
            · subst v2
              have HCL : Hid (claimB g ws ⟨2, lw, lo, ss⟩ = (decide (sn = 0) && (true) && (false))) := hid (by rw [HCB.out]; simp only [HL.out.2.2]; first | rfl | simp)
              clear HCB v0 v1 v3
              go_enter Tryz.func37, Tryz.ntmps37
              go_wp2_with (first
                    | (go_at_call 97; (with_reducible refine (K97.out _ (Ext.refl _)).mono ?_); rintro e w1 ⟨rfl, x1⟩; have X1 := hid x1; obtain ⟨q0, q1, q2, q3, q4, q5, q6⟩ := QB.out w1 x1; clear x1)
                    | (go_at_call 104; (with_reducible refine (KR1.out _ X1.out).mono ?_); rintro e w2 ⟨rfl, x2⟩; have X2 := hid (X1.out.trans x2); obtain ⟨q0, q1, q2, q3, q4, q5, q6⟩ := QB.out w2 X2.out; clear x2)
                    | (go_at_call 41; (with_reducible refine (KS1.out _ X2.out).mono ?_); rintro e w3 ⟨rfl, x3⟩; have X3 := hid (X2.out.trans x3); obtain ⟨q0, q1, q2, q3, q4, q5, q6⟩ := QB.out w3 X3.out; clear x3)
                    | (go_at_call 104; (with_reducible refine (KR2.out _ X3.out).mono ?_); rintro e w4 ⟨rfl, x4⟩; have X4 := hid (X3.out.trans x4); obtain ⟨q0, q1, q2, q3, q4, q5, q6⟩ := QB.out w4 X4.out; clear x4))
              go_ret
              exact ⟨ret_bool (by first | exact HCL.out.symm | (rw [HCL.out]; simp)), HX0.out.trans X4.out⟩
            · have d2 : (xv == 2) = false := by simpa using v2
              have HCL : Hid (claimB g ws ⟨xv, lw, lo, ss⟩ = false) := hid (by rw [HCB.out]; simp only [if_neg v0, if_neg v1, if_neg v2, if_neg v3])
              clear HCB v0 v1 v2 v3
              go_enter Tryz.func37, Tryz.ntmps37
              go_wp2_with (first
                    | (go_at_call 97; (with_reducible refine (K97.out _ (Ext.refl _)).mono ?_); rintro e w1 ⟨rfl, x1⟩; have X1 := hid x1; obtain ⟨q0, q1, q2, q3, q4, q5, q6⟩ := QB.out w1 x1; clear x1)
                    | (go_at_call 104; (with_reducible refine (KR1.out _ X1.out).mono ?_); rintro e w2 ⟨rfl, x2⟩; have X2 := hid (X1.out.trans x2); obtain ⟨q0, q1, q2, q3, q4, q5, q6⟩ := QB.out w2 X2.out; clear x2)
                    | (go_at_call 41; (with_reducible refine (KS1.out _ X2.out).mono ?_); rintro e w3 ⟨rfl, x3⟩; have X3 := hid (X2.out.trans x3); obtain ⟨q0, q1, q2, q3, q4, q5, q6⟩ := QB.out w3 X3.out; clear x3)
                    | (go_at_call 104; (with_reducible refine (KR2.out _ X3.out).mono ?_); rintro e w4 ⟨rfl, x4⟩; have X4 := hid (X3.out.trans x4); obtain ⟨q0, q1, q2, q3, q4, q5, q6⟩ := QB.out w4 X4.out; clear x4))
              go_ret
              exact ⟨ret_bool (by first | exact HCL.out.symm | (rw [HCL.out]; simp)), HX0.out.trans X4.out⟩
    · have HCB := hid (HCE2.out true true rfl rfl)
      clear HCE2
      by_cases v0 : xv = 0
      · subst v0
        have HCL : Hid (claimB g ws ⟨0, lw, lo, ss⟩ = decide (n1 + n2 + sn = 0)) := hid (by rw [HCB.out]; simp only [HL.out.1, HL.out.2.1, HL.out.2.2]; rfl)
        clear HCB
        by_cases s0 : n1 + n2 + sn = 0
        · have s1 : (n1 : Int) + (n2 : Int) + (sn : Int) = 0 := by omega
          have s2 : (((n1 : Int) + (n2 : Int) + (sn : Int)) == 0) = true := by simpa using s1
          have HS0 := hid s0
          clear s0
          go_enter Tryz.func37, Tryz.ntmps37
          go_wp2_with (first
                | (go_at_call 97; (with_reducible refine (K97.out _ (Ext.refl _)).mono ?_); rintro e w1 ⟨rfl, x1⟩; have X1 := hid x1; obtain ⟨q0, q1, q2, q3, q4, q5, q6⟩ := QB.out w1 x1; clear x1)
                | (go_at_call 104; (with_reducible refine (KR1.out _ X1.out).mono ?_); rintro e w2 ⟨rfl, x2⟩; have X2 := hid (X1.out.trans x2); obtain ⟨q0, q1, q2, q3, q4, q5, q6⟩ := QB.out w2 X2.out; clear x2)
                | (go_at_call 41; (with_reducible refine (KS1.out _ X2.out).mono ?_); rintro e w3 ⟨rfl, x3⟩; have X3 := hid (X2.out.trans x3); obtain ⟨q0, q1, q2, q3, q4, q5, q6⟩ := QB.out w3 X3.out; clear x3)
                | (go_at_call 104; (with_reducible refine (KR2.out _ X3.out).mono ?_); rintro e w4 ⟨rfl, x4⟩; have X4 := hid (X3.out.trans x4); obtain ⟨q0, q1, q2, q3, q4, q5, q6⟩ := QB.out w4 X4.out; clear x4)
                | (go_at_call 41; (with_reducible refine (KS2.out _ X4.out).mono ?_); rintro e w5 ⟨rfl, x5⟩; have X5 := hid (X4.out.trans x5); obtain ⟨q0, q1, q2, q3, q4, q5, q6⟩ := QB.out w5 X5.out; clear x5))
          go_ret
          exact ⟨ret_bool (by first | exact HCL.out.symm | (rw [HCL.out]; first | (simp [HS0.out]; done) | (have hq := HS0.out; simp; omega))), HX0.out.trans X5.out⟩
        · have s1 : ¬ (n1 : Int) + (n2 : Int) + (sn : Int) = 0 := by omega
          have s2 : (((n1 : Int) + (n2 : Int) + (sn : Int)) == 0) = false := by simpa using s1
          have HS0 := hid s0
          clear s0
          go_enter Tryz.func37, Tryz.ntmps37
          go_wp2_with (first
                | (go_at_call 97; (with_reducible refine (K97.out _ (Ext.refl _)).mono ?_); rintro e w1 ⟨rfl, x1⟩; have X1 := hid x1; obtain ⟨q0, q1, q2, q3, q4, q5, q6⟩ := QB.out w1 x1; clear x1)
                | (go_at_call 104; (with_reducible refine (KR1.out _ X1.out).mono ?_); rintro e w2 ⟨rfl, x2⟩; have X2 := hid (X1.out.trans x2); obtain ⟨q0, q1, q2, q3, q4, q5, q6⟩ := QB.out w2 X2.out; clear x2)
                | (go_at_call 41; (with_reducible refine (KS1.out _ X2.out).mono ?_); rintro e w3 ⟨rfl, x3⟩; have X3 := hid (X2.out.trans x3); obtain ⟨q0, q1, q2, q3, q4, q5, q6⟩ := QB.out w3 X3.out; clear x3)
                | (go_at_call 104; (with_reducible refine (KR2.out _ X3.out).mono ?_); rintro e w4 ⟨rfl, x4⟩; have X4 := hid (X3.out.trans x4); obtain ⟨q0, q1, q2, q3, q4, q5, q6⟩ := QB.out w4 X4.out; clear x4)
                | (go_at_call 41; (with_reducible refine (KS2.out _ X4.out).mono ?_); rintro e w5 ⟨rfl, x5⟩; have X5 := hid (X4.out.trans x5); obtain ⟨q0, q1, q2, q3, q4, q5, q6⟩ := QB.out w5 X5.out; clear x5))
          go_ret
          exact ⟨ret_bool (by first | exact HCL.out.symm | (rw [HCL.out]; first | (simp [HS0.out]; done) | (have hq := HS0.out; simp; omega))), HX0.out.trans X5.out⟩
      · have d0 : (xv == 0) = false := by simpa using v0
        by_cases v1 : xv = 1
        · subst v1
          have HCL : Hid (claimB g ws ⟨1, lw, lo, ss⟩ = (decide (n2 = 0) && (true) && k1)) := hid (by rw [HCB.out]; simp only [HL.out.2.1]; first | rfl | simp)
          clear HCB v0
          rcases Nat.eq_zero_or_pos n2 with z0 | z0
          · have z1 : ((n2 : Int) == 0) = true := by simpa using (show (n2 : Int) = 0 by omega)
            have z2 : (n2 == 0) = true := by simpa using z0
            have HZ0 := hid z0
            clear z0
            go_enter Tryz.func37, Tryz.ntmps37
            go_wp2_with (first
                  | (go_at_call 97; (with_reducible refine (K97.out _ (Ext.refl _)).mono ?_); rintro e w1 ⟨rfl, x1⟩; have X1 := hid x1; obtain ⟨q0, q1, q2, q3, q4, q5, q6⟩ := QB.out w1 x1; clear x1)
                  | (go_at_call 104; (with_reducible refine (KR1.out _ X1.out).mono ?_); rintro e w2 ⟨rfl, x2⟩; have X2 := hid (X1.out.trans x2); obtain ⟨q0, q1, q2, q3, q4, q5, q6⟩ := QB.out w2 X2.out; clear x2)
                  | (go_at_call 41; (with_reducible refine (KS1.out _ X2.out).mono ?_); rintro e w3 ⟨rfl, x3⟩; have X3 := hid (X2.out.trans x3); obtain ⟨q0, q1, q2, q3, q4, q5, q6⟩ := QB.out w3 X3.out; clear x3)
                  | (go_at_call 104; (with_reducible refine (KR2.out _ X3.out).mono ?_); rintro e w4 ⟨rfl, x4⟩; have X4 := hid (X3.out.trans x4); obtain ⟨q0, q1, q2, q3, q4, q5, q6⟩ := QB.out w4 X4.out; clear x4)
                  | (go_at_call 41; (with_reducible refine (KS2.out _ X4.out).mono ?_); rintro e w5 ⟨rfl, x5⟩; have X5 := hid (X4.out.trans x5); obtain ⟨q0, q1, q2, q3, q4, q5, q6⟩ := QB.out w5 X5.out; clear x5)
                  | (go_at_call 35; (with_reducible refine (KC1.out _ X5.out).mono ?_); rintro e w6 ⟨rfl, x6⟩; have X6 := hid (X5.out.trans x6); obtain ⟨q0, q1, q2, q3, q4, q5, q6⟩ := QB.out w6 X6.out; clear x6))
            go_ret
            exact ⟨ret_bool (by first | exact HCL.out.symm | (rw [HCL.out]; simp [HZ0.out])), HX0.out.trans X6.out⟩
          · have z1 : ((n2 : Int) == 0) = false := by simpa using (show ¬ (n2 : Int) = 0 by omega)
            have z2 : (n2 == 0) = false := by simpa using (show ¬ n2 = 0 by omega)
            have HZ0 : Hid (¬ n2 = 0) := hid (by omega)
            clear z0
            go_enter Tryz.func37, Tryz.ntmps37
            go_wp2_with (first
                  | (go_at_call 97; (with_reducible refine (K97.out _ (Ext.refl _)).mono ?_); rintro e w1 ⟨rfl, x1⟩; have X1 := hid x1; obtain ⟨q0, q1, q2, q3, q4, q5, q6⟩ := QB.out w1 x1; clear x1)
                  | (go_at_call 104; (with_reducible refine (KR1.out _ X1.out).mono ?_); rintro e w2 ⟨rfl, x2⟩; have X2 := hid (X1.out.trans x2); obtain ⟨q0, q1, q2, q3, q4, q5, q6⟩ := QB.out w2 X2.out; clear x2)
                  | (go_at_call 41; (with_reducible refine (KS1.out _ X2.out).mono ?_); rintro e w3 ⟨rfl, x3⟩; have X3 := hid (X2.out.trans x3); obtain ⟨q0, q1, q2, q3, q4, q5, q6⟩ := QB.out w3 X3.out; clear x3)
                  | (go_at_call 104; (with_reducible refine (KR2.out _ X3.out).mono ?_); rintro e w4 ⟨rfl, x4⟩; have X4 := hid (X3.out.trans x4); obtain ⟨q0, q1, q2, q3, q4, q5, q6⟩ := QB.out w4 X4.out; clear x4)
                  | (go_at_call 41; (with_reducible refine (KS2.out _ X4.out).mono ?_); rintro e w5 ⟨rfl, x5⟩; have X5 := hid (X4.out.trans x5); obtain ⟨q0, q1, q2, q3, q4, q5, q6⟩ := QB.out w5 X5.out; clear x5))
            go_ret
            exact ⟨ret_bool (by first | exact HCL.out.symm | (rw [HCL.out]; simp [HZ0.out])), HX0.out.trans X5.out⟩
        · have d1 : (xv == 1) = false := by simpa using v1
          by_cases v3 : xv = 3
          · subst v3
            have HCL : Hid (claimB g ws ⟨3, lw, lo, ss⟩ = (decide (n1 = 0) && (true) && k2)) := hid (by rw [HCB.out]; simp only [HL.out.1]; first | rfl | simp)
            clear HCB v0 v1
            rcases Nat.eq_zero_or_pos n1 with z0 | z0
            · have z1 : ((n1 : Int) == 0) = true := by simpa using (show (n1 : Int) = 0 by omega)
              have z2 : (n1 == 0) = true := by simpa using z0
              have HZ0 := hid z0
              clear z0
              go_enter Tryz.func37, Tryz.ntmps37
              go_wp2_with (first
                    | (go_at_call 97; (with_reducible refine (K97.out _ (Ext.refl _)).mono ?_); rintro e w1 ⟨rfl, x1⟩; have X1 := hid x1; obtain ⟨q0, q1, q2, q3, q4, q5, q6⟩ := QB.out w1 x1; clear x1)
                    | (go_at_call 104; (with_reducible refine (KR1.out _ X1.out).mono ?_); rintro e w2 ⟨rfl, x2⟩; have X2 := hid (X1.out.trans x2); obtain ⟨q0, q1, q2, q3, q4, q5, q6⟩ := QB.out w2 X2.out; clear x2)
                    | (go_at_call 41; (with_reducible refine (KS1.out _ X2.out).mono ?_); rintro e w3 ⟨rfl, x3⟩; have X3 := hid (X2.out.trans x3); obtain ⟨q0, q1, q2, q3, q4, q5, q6⟩ := QB.out w3 X3.out; clear x3)
                    | (go_at_call 104; (with_reducible refine (KR2.out _ X3.out).mono ?_); rintro e w4 ⟨rfl, x4⟩; have X4 := hid (X3.out.trans x4); obtain ⟨q0, q1, q2, q3, q4, q5, q6⟩ := QB.out w4 X4.out; clear x4)
                    | (go_at_call 41; (with_reducible refine (KS2.out _ X4.out).mono ?_); rintro e w5 ⟨rfl, x5⟩; have X5 := hid (X4.out.trans x5); obtain ⟨q0, q1, q2, q3, q4, q5, q6⟩ := QB.out w5 X5.out; clear x5)
                    | (go_at_call 35; (with_reducible refine (KC2.out _ X5.out).mono ?_); rintro e w6 ⟨rfl, x6⟩; have X6 := hid (X5.out.trans x6); obtain ⟨q0, q1, q2, q3, q4, q5, q6⟩ := QB.out w6 X6.out; clear x6))
              go_ret
              exact ⟨ret_bool (by first | exact HCL.out.symm | (rw [HCL.out]; simp [HZ0.out])), HX0.out.trans X6.out⟩
            · have z1 : ((n1 : Int) == 0) = false := by simpa using (show ¬ (n1 : Int) = 0 by omega)
              have z2 : (n1 == 0) = false := by simpa using (show ¬ n1 = 0 by omega)
              have HZ0 : Hid (¬ n1 = 0) := hid (by omega)
              clear z0
              go_enter Tryz.func37, Tryz.ntmps37
              go_wp2_with (first
                    | (go_at_call 97; (with_reducible refine (K97.out _ (Ext.refl _)).mono ?_); rintro e w1 ⟨rfl, x1⟩; have X1 := hid x1; obtain ⟨q0, q1, q2, q3, q4, q5, q6⟩ := QB.out w1 x1; clear x1)
                    | (go_at_call 104; (with_reducible refine (KR1.out _ X1.out).mono ?_); rintro e w2 ⟨rfl, x2⟩; have X2 := hid (X1.out.trans x2); obtain ⟨q0, q1, q2, q3, q4, q5, q6⟩ := QB.out w2 X2.out; clear x2)
                    | (go_at_call 41; (with_reducible refine (KS1.out _ X2.out).mono ?_); rintro e w3 ⟨rfl, x3⟩; have X3 := hid (X2.out.trans x3); obtain ⟨q0, q1, q2, q3, q4, q5, q6⟩ := QB.out w3 X3.out; clear x3)
                    | (go_at_call 104; (with_reducible refine (KR2.out _ X3.out).mono ?_); rintro e w4 ⟨rfl, x4⟩; have X4 := hid (X3.out.trans x4); obtain ⟨q0, q1, q2, q3, q4, q5, q6⟩ := QB.out w4 X4.out; clear x4)
                    | (go_at_call 41; (with_reducible refine (KS2.out _ X4.out).mono ?_); rintro e w5 ⟨rfl, x5⟩; have X5 := hid (X4.out.trans x5); obtain ⟨q0, q1, q2, q3, q4, q5, q6⟩ := QB.out w5 X5.out; clear x5))
              go_ret
              exact ⟨ret_bool (by first | exact HCL.out.symm | (rw [HCL.out]; simp [HZ0.out])), HX0.out.trans X5.out⟩
          · have d3 : (xv == 3) = false := by simpa using v3
            by_cases v2 : xv = 2
            · subst v2
              have HCL : Hid (claimB g ws ⟨2, lw, lo, ss⟩ = (decide (sn = 0) && (true) && (true))) := hid (by rw [HCB.out]; simp only [HL.out.2.2]; first | rfl | simp)
              clear HCB v0 v1 v3
              rcases Nat.eq_zero_or_pos sn with z0 | z0
              · have z1 : ((sn : Int) == 0) = true := by simpa using (show (sn : Int) = 0 by omega)
                have z2 : (sn == 0) = true := by simpa using z0
                have HZ0 := hid z0
                clear z0
                go_enter Tryz.func37, Tryz.ntmps37
                go_wp2_with (first
                      | (go_at_call 97; (with_reducible refine (K97.out _ (Ext.refl _)).mono ?_); rintro e w1 ⟨rfl, x1⟩; have X1 := hid x1; obtain ⟨q0, q1, q2, q3, q4, q5, q6⟩ := QB.out w1 x1; clear x1)
                      | (go_at_call 104; (with_reducible refine (KR1.out _ X1.out).mono ?_); rintro e w2 ⟨rfl, x2⟩; have X2 := hid (X1.out.trans x2); obtain ⟨q0, q1, q2, q3, q4, q5, q6⟩ := QB.out w2 X2.out; clear x2)
                      | (go_at_call 41; (with_reducible refine (KS1.out _ X2.out).mono ?_); rintro e w3 ⟨rfl, x3⟩; have X3 := hid (X2.out.trans x3); obtain ⟨q0, q1, q2, q3, q4, q5, q6⟩ := QB.out w3 X3.out; clear x3)
                      | (go_at_call 104; (with_reducible refine (KR2.out _ X3.out).mono ?_); rintro e w4 ⟨rfl, x4⟩; have X4 := hid (X3.out.trans x4); obtain ⟨q0, q1, q2, q3, q4, q5, q6⟩ := QB.out w4 X4.out; clear x4)
                      | (go_at_call 41; (with_reducible refine (KS2.out _ X4.out).mono ?_); rintro e w5 ⟨rfl, x5⟩; have X5 := hid (X4.out.trans x5); obtain ⟨q0, q1, q2, q3, q4, q5, q6⟩ := QB.out w5 X5.out; clear x5))
                go_ret
                exact ⟨ret_bool (by first | exact HCL.out.symm | (rw [HCL.out]; simp [HZ0.out])), HX0.out.trans X5.out⟩
              · have z1 : ((sn : Int) == 0) = false := by simpa using (show ¬ (sn : Int) = 0 by omega)
                have z2 : (sn == 0) = false := by simpa using (show ¬ sn = 0 by omega)
                have HZ0 : Hid (¬ sn = 0) := hid (by omega)
                clear z0
                go_enter Tryz.func37, Tryz.ntmps37
                go_wp2_with (first
                      | (go_at_call 97; (with_reducible refine (K97.out _ (Ext.refl _)).mono ?_); rintro e w1 ⟨rfl, x1⟩; have X1 := hid x1; obtain ⟨q0, q1, q2, q3, q4, q5, q6⟩ := QB.out w1 x1; clear x1)
                      | (go_at_call 104; (with_reducible refine (KR1.out _ X1.out).mono ?_); rintro e w2 ⟨rfl, x2⟩; have X2 := hid (X1.out.trans x2); obtain ⟨q0, q1, q2, q3, q4, q5, q6⟩ := QB.out w2 X2.out; clear x2)
                      | (go_at_call 41; (with_reducible refine (KS1.out _ X2.out).mono ?_); rintro e w3 ⟨rfl, x3⟩; have X3 := hid (X2.out.trans x3); obtain ⟨q0, q1, q2, q3, q4, q5, q6⟩ := QB.out w3 X3.out; clear x3)
                      | (go_at_call 104; (with_reducible refine (KR2.out _ X3.out).mono ?_); rintro e w4 ⟨rfl, x4⟩; have X4 := hid (X3.out.trans x4); obtain ⟨q0, q1, q2, q3, q4, q5, q6⟩ := QB.out w4 X4.out; clear x4)
                      | (go_at_call 41; (with_reducible refine (KS2.out _ X4.out).mono ?_); rintro e w5 ⟨rfl, x5⟩; have X5 := hid (X4.out.trans x5); obtain ⟨q0, q1, q2, q3, q4, q5, q6⟩ := QB.out w5 X5.out; clear x5))
                go_ret
                exact ⟨ret_bool (by first | exact HCL.out.symm | (rw [HCL.out]; simp [HZ0.out])), HX0.out.trans X5.out⟩
            · have d2 : (xv == 2) = false := by simpa using v2
              have HCL : Hid (claimB g ws ⟨xv, lw, lo, ss⟩ = false) := hid (by rw [HCB.out]; simp only [if_neg v0, if_neg v1, if_neg v2, if_neg v3])
              clear HCB v0 v1 v2 v3
              go_enter Tryz.func37, Tryz.ntmps37
              go_wp2_with (first
                    | (go_at_call 97; (with_reducible refine (K97.out _ (Ext.refl _)).mono ?_); rintro e w1 ⟨rfl, x1⟩; have X1 := hid x1; obtain ⟨q0, q1, q2, q3, q4, q5, q6⟩ := QB.out w1 x1; clear x1)
                    | (go_at_call 104; (with_reducible refine (KR1.out _ X1.out).mono ?_); rintro e w2 ⟨rfl, x2⟩; have X2 := hid (X1.out.trans x2); obtain ⟨q0, q1, q2, q3, q4, q5, q6⟩ := QB.out w2 X2.out; clear x2)
                    | (go_at_call 41; (with_reducible refine (KS1.out _ X2.out).mono ?_); rintro e w3 ⟨rfl, x3⟩; have X3 := hid (X2.out.trans x3); obtain ⟨q0, q1, q2, q3, q4, q5, q6⟩ := QB.out w3 X3.out; clear x3)
                    | (go_at_call 104; (with_reducible refine (KR2.out _ X3.out).mono ?_); rintro e w4 ⟨rfl, x4⟩; have X4 := hid (X3.out.trans x4); obtain ⟨q0, q1, q2, q3, q4, q5, q6⟩ := QB.out w4 X4.out; clear x4)
                    | (go_at_call 41; (with_reducible refine (KS2.out _ X4.out).mono ?_); rintro e w5 ⟨rfl, x5⟩; have X5 := hid (X4.out.trans x5); obtain ⟨q0, q1, q2, q3, q4, q5, q6⟩ := QB.out w5 X5.out; clear x5))
              go_ret
              exact ⟨ret_bool (by first | exact HCL.out.symm | (rw [HCL.out]; simp)), HX0.out.trans X5.out⟩
    · have HCB := hid (HCE2.out true false rfl rfl)
      clear HCE2
      by_cases v0 : xv = 0
      · subst v0
        have HCL : Hid (claimB g ws ⟨0, lw, lo, ss⟩ = decide (n1 + n2 + sn = 0)) := hid (by rw [HCB.out]; simp only [HL.out.1, HL.out.2.1, HL.out.2.2]; rfl)
        clear HCB
        by_cases s0 : n1 + n2 + sn = 0
        · have s1 : (n1 : Int) + (n2 : Int) + (sn : Int) = 0 := by omega
          have s2 : (((n1 : Int) + (n2 : Int) + (sn : Int)) == 0) = true := by simpa using s1
          have HS0 := hid s0
          clear s0
          go_enter Tryz.func37, Tryz.ntmps37
          go_wp2_with (first
                | (go_at_call 97; (with_reducible refine (K97.out _ (Ext.refl _)).mono ?_); rintro e w1 ⟨rfl, x1⟩; have X1 := hid x1; obtain ⟨q0, q1, q2, q3, q4, q5, q6⟩ := QB.out w1 x1; clear x1)
                | (go_at_call 104; (with_reducible refine (KR1.out _ X1.out).mono ?_); rintro e w2 ⟨rfl, x2⟩; have X2 := hid (X1.out.trans x2); obtain ⟨q0, q1, q2, q3, q4, q5, q6⟩ := QB.out w2 X2.out; clear x2)
                | (go_at_call 41; (with_reducible refine (KS1.out _ X2.out).mono ?_); rintro e w3 ⟨rfl, x3⟩; have X3 := hid (X2.out.trans x3); obtain ⟨q0, q1, q2, q3, q4, q5, q6⟩ := QB.out w3 X3.out; clear x3)
                | (go_at_call 104; (with_reducible refine (KR2.out _ X3.out).mono ?_); rintro e w4 ⟨rfl, x4⟩; have X4 := hid (X3.out.trans x4); obtain ⟨q0, q1, q2, q3, q4, q5, q6⟩ := QB.out w4 X4.out; clear x4)
                | (go_at_call 41; (with_reducible refine (KS2.out _ X4.out).mono ?_); rintro e w5 ⟨rfl, x5⟩; have X5 := hid (X4.out.trans x5); obtain ⟨q0, q1, q2, q3, q4, q5, q6⟩ := QB.out w5 X5.out; clear x5))
          go_ret
          exact ⟨ret_bool (by first | exact HCL.out.symm | (rw [HCL.out]; first | (simp [HS0.out]; done) | (have hq := HS0.out; simp; omega))), HX0.out.trans X5.out⟩
        · have s1 : ¬ (n1 : Int) + (n2 : Int) + (sn : Int) = 0 := by omega
          have s2 : (((n1 : Int) + (n2 : Int) + (sn : Int)) == 0) = false := by simpa using s1
          have HS0 := hid s0
          clear s0
          go_enter Tryz.func37, Tryz.ntmps37
          go_wp2_with (first
                | (go_at_call 97; (with_reducible refine (K97.out _ (Ext.refl _)).mono ?_); rintro e w1 ⟨rfl, x1⟩; have X1 := hid x1; obtain ⟨q0, q1, q2, q3, q4, q5, q6⟩ := QB.out w1 x1; clear x1)
                | (go_at_call 104; (with_reducible refine (KR1.out _ X1.out).mono ?_); rintro e w2 ⟨rfl, x2⟩; have X2 := hid (X1.out.trans x2); obtain ⟨q0, q1, q2, q3, q4, q5, q6⟩ := QB.out w2 X2.out; clear x2)
                | (go_at_call 41; (with_reducible refine (KS1.out _ X2.out).mono ?_); rintro e w3 ⟨rfl, x3⟩; have X3 := hid (X2.out.trans x3); obtain ⟨q0, q1, q2, q3, q4, q5, q6⟩ := QB.out w3 X3.out; clear x3)
                | (go_at_call 104; (with_reducible refine (KR2.out _ X3.out).mono ?_); rintro e w4 ⟨rfl, x4⟩; have X4 := hid (X3.out.trans x4); obtain ⟨q0, q1, q2, q3, q4, q5, q6⟩ := QB.out w4 X4.out; clear x4)
                | (go_at_call 41; (with_reducible refine (KS2.out _ X4.out).mono ?_); rintro e w5 ⟨rfl, x5⟩; have X5 := hid (X4.out.trans x5); obtain ⟨q0, q1, q2, q3, q4, q5, q6⟩ := QB.out w5 X5.out; clear x5))
          go_ret
          exact ⟨ret_bool (by first | exact HCL.out.symm | (rw [HCL.out]; first | (simp [HS0.out]; done) | (have hq := HS0.out; simp; omega))), HX0.out.trans X5.out⟩
      · have d0 : (xv == 0) = false := by simpa using v0
        by_cases v1 : xv = 1
        · subst v1
          have HCL : Hid (claimB g ws ⟨1, lw, lo, ss⟩ = (decide (n2 = 0) && (true) && k1)) := hid (by rw [HCB.out]; simp only [HL.out.2.1]; first | rfl | simp)
          clear HCB v0
          rcases Nat.eq_zero_or_pos n2 with z0 | z0
          · have z1 : ((n2 : Int) == 0) = true := by simpa using (show (n2 : Int) = 0 by omega)
            have z2 : (n2 == 0) = true := by simpa using z0
            have HZ0 := hid z0
            clear z0
            go_enter Tryz.func37, Tryz.ntmps37
            go_wp2_with (first
                  | (go_at_call 97; (with_reducible refine (K97.out _ (Ext.refl _)).mono ?_); rintro e w1 ⟨rfl, x1⟩; have X1 := hid x1; obtain ⟨q0, q1, q2, q3, q4, q5, q6⟩ := QB.out w1 x1; clear x1)
                  | (go_at_call 104; (with_reducible refine (KR1.out _ X1.out).mono ?_); rintro e w2 ⟨rfl, x2⟩; have X2 := hid (X1.out.trans x2); obtain ⟨q0, q1, q2, q3, q4, q5, q6⟩ := QB.out w2 X2.out; clear x2)
                  | (go_at_call 41; (with_reducible refine (KS1.out _ X2.out).mono ?_); rintro e w3 ⟨rfl, x3⟩; have X3 := hid (X2.out.trans x3); obtain ⟨q0, q1, q2, q3, q4, q5, q6⟩ := QB.out w3 X3.out; clear x3)
                  | (go_at_call 104; (with_reducible refine (KR2.out _ X3.out).mono ?_); rintro e w4 ⟨rfl, x4⟩; have X4 := hid (X3.out.trans x4); obtain ⟨q0, q1, q2, q3, q4, q5, q6⟩ := QB.out w4 X4.out; clear x4)
                  | (go_at_call 41; (with_reducible refine (KS2.out _ X4.out).mono ?_); rintro e w5 ⟨rfl, x5⟩; have X5 := hid (X4.out.trans x5); obtain ⟨q0, q1, q2, q3, q4, q5, q6⟩ := QB.out w5 X5.out; clear x5)
                  | (go_at_call 35; (with_reducible refine (KC1.out _ X5.out).mono ?_); rintro e w6 ⟨rfl, x6⟩; have X6 := hid (X5.out.trans x6); obtain ⟨q0, q1, q2, q3, q4, q5, q6⟩ := QB.out w6 X6.out; clear x6))
            go_ret
            exact ⟨ret_bool (by first | exact HCL.out.symm | (rw [HCL.out]; simp [HZ0.out])), HX0.out.trans X6.out⟩
          · have z1 : ((n2 : Int) == 0) = false := by simpa using (show ¬ (n2 : Int) = 0 by omega)
            have z2 : (n2 == 0) = false := by simpa using (show ¬ n2 = 0 by omega)
            have HZ0 : Hid (¬ n2 = 0) := hid (by omega)
            clear z0
            go_enter Tryz.func37, Tryz.ntmps37
            go_wp2_with (first
                  | (go_at_call 97; (with_reducible refine (K97.out _ (Ext.refl _)).mono ?_); rintro e w1 ⟨rfl, x1⟩; have X1 := hid x1; obtain ⟨q0, q1, q2, q3, q4, q5, q6⟩ := QB.out w1 x1; clear x1)
                  | (go_at_call 104; (with_reducible refine (KR1.out _ X1.out).mono ?_); rintro e w2 ⟨rfl, x2⟩; have X2 := hid (X1.out.trans x2); obtain ⟨q0, q1, q2, q3, q4, q5, q6⟩ := QB.out w2 X2.out; clear x2)
                  | (go_at_call 41; (with_reducible refine (KS1.out _ X2.out).mono ?_); rintro e w3 ⟨rfl, x3⟩; have X3 := hid (X2.out.trans x3); obtain ⟨q0, q1, q2, q3, q4, q5, q6⟩ := QB.out w3 X3.out; clear x3)
                  | (go_at_call 104; (with_reducible refine (KR2.out _ X3.out).mono ?_); rintro e w4 ⟨rfl, x4⟩; have X4 := hid (X3.out.trans x4); obtain ⟨q0, q1, q2, q3, q4, q5, q6⟩ := QB.out w4 X4.out; clear x4)
                  | (go_at_call 41; (with_reducible refine (KS2.out _ X4.out).mono ?_); rintro e w5 ⟨rfl, x5⟩; have X5 := hid (X4.out.trans x5); obtain ⟨q0, q1, q2, q3, q4, q5, q6⟩ := QB.out w5 X5.out; clear x5))
            go_ret
            exact ⟨ret_bool (by first | exact HCL.out.symm | (rw [HCL.out]; simp [HZ0.out])), HX0.out.trans X5.out⟩
        · have d1 : (xv == 1) = false := by simpa using v1
          by_cases v3 : xv = 3
          · subst v3
            have HCL : Hid (claimB g ws ⟨3, lw, lo, ss⟩ = (decide (n1 = 0) && (false) && k2)) := hid (by rw [HCB.out]; simp only [HL.out.1]; first | rfl | simp)
            clear HCB v0 v1
            go_enter Tryz.func37, Tryz.ntmps37
            go_wp2_with (first
                  | (go_at_call 97; (with_reducible refine (K97.out _ (Ext.refl _)).mono ?_); rintro e w1 ⟨rfl, x1⟩; have X1 := hid x1; obtain ⟨q0, q1, q2, q3, q4, q5, q6⟩ := QB.out w1 x1; clear x1)
                  | (go_at_call 104; (with_reducible refine (KR1.out _ X1.out).mono ?_); rintro e w2 ⟨rfl, x2⟩; have X2 := hid (X1.out.trans x2); obtain ⟨q0, q1, q2, q3, q4, q5, q6⟩ := QB.out w2 X2.out; clear x2)
                  | (go_at_call 41; (with_reducible refine (KS1.out _ X2.out).mono ?_); rintro e w3 ⟨rfl, x3⟩; have X3 := hid (X2.out.trans x3); obtain ⟨q0, q1, q2, q3, q4, q5, q6⟩ := QB.out w3 X3.out; clear x3)
                  | (go_at_call 104; (with_reducible refine (KR2.out _ X3.out).mono ?_); rintro e w4 ⟨rfl, x4⟩; have X4 := hid (X3.out.trans x4); obtain ⟨q0, q1, q2, q3, q4, q5, q6⟩ := QB.out w4 X4.out; clear x4)
                  | (go_at_call 41; (with_reducible refine (KS2.out _ X4.out).mono ?_); rintro e w5 ⟨rfl, x5⟩; have X5 := hid (X4.out.trans x5); obtain ⟨q0, q1, q2, q3, q4, q5, q6⟩ := QB.out w5 X5.out; clear x5))
            go_ret
            exact ⟨ret_bool (by first | exact HCL.out.symm | (rw [HCL.out]; simp)), HX0.out.trans X5.out⟩
          · have d3 : (xv == 3) = false := by simpa using v3
            by_cases v2 : xv = 2
            · subst v2
              have HCL : Hid (claimB g ws ⟨2, lw, lo, ss⟩ = (decide (sn = 0) && (true) && (false))) := hid (by rw [HCB.out]; simp only [HL.out.2.2]; first | rfl | simp)
              clear HCB v0 v1 v3
              go_enter Tryz.func37, Tryz.ntmps37
              go_wp2_with (first
                    | (go_at_call 97; (with_reducible refine (K97.out _ (Ext.refl _)).mono ?_); rintro e w1 ⟨rfl, x1⟩; have X1 := hid x1; obtain ⟨q0, q1, q2, q3, q4, q5, q6⟩ := QB.out w1 x1; clear x1)
                    | (go_at_call 104; (with_reducible refine (KR1.out _ X1.out).mono ?_); rintro e w2 ⟨rfl, x2⟩; have X2 := hid (X1.out.trans x2); obtain ⟨q0, q1, q2, q3, q4, q5, q6⟩ := QB.out w2 X2.out; clear x2)
                    | (go_at_call 41; (with_reducible refine (KS1.out _ X2.out).mono ?_); rintro e w3 ⟨rfl, x3⟩; have X3 := hid (X2.out.trans x3); obtain ⟨q0, q1, q2, q3, q4, q5, q6⟩ := QB.out w3 X3.out; clear x3)
                    | (go_at_call 104; (with_reducible refine (KR2.out _ X3.out).mono ?_); rintro e w4 ⟨rfl, x4⟩; have X4 := hid (X3.out.trans x4); obtain ⟨q0, q1, q2, q3, q4, q5, q6⟩ := QB.out w4 X4.out; clear x4)
                    | (go_at_call 41; (with_reducible refine (KS2.out _ X4.out).mono ?_); rintro e w5 ⟨rfl, x5⟩; have X5 := hid (X4.out.trans x5); obtain ⟨q0, q1, q2, q3, q4, q5, q6⟩ := QB.out w5 X5.out; clear x5))
              go_ret
              exact ⟨ret_bool (by first | exact HCL.out.symm | (rw [HCL.out]; simp)), HX0.out.trans X5.out⟩
            · have d2 : (xv == 2) = false := by simpa using v2
              have HCL : Hid (claimB g ws ⟨xv, lw, lo, ss⟩ = false) := hid (by rw [HCB.out]; simp only [if_neg v0, if_neg v1, if_neg v2, if_neg v3])
              clear HCB v0 v1 v2 v3
              go_enter Tryz.func37, Tryz.ntmps37
              go_wp2_with (first
                    | (go_at_call 97; (with_reducible refine (K97.out _ (Ext.refl _)).mono ?_); rintro e w1 ⟨rfl, x1⟩; have X1 := hid x1; obtain ⟨q0, q1, q2, q3, q4, q5, q6⟩ := QB.out w1 x1; clear x1)
                    | (go_at_call 104; (with_reducible refine (KR1.out _ X1.out).mono ?_); rintro e w2 ⟨rfl, x2⟩; have X2 := hid (X1.out.trans x2); obtain ⟨q0, q1, q2, q3, q4, q5, q6⟩ := QB.out w2 X2.out; clear x2)
                    | (go_at_call 41; (with_reducible refine (KS1.out _ X2.out).mono ?_); rintro e w3 ⟨rfl, x3⟩; have X3 := hid (X2.out.trans x3); obtain ⟨q0, q1, q2, q3, q4, q5, q6⟩ := QB.out w3 X3.out; clear x3)
                    | (go_at_call 104; (with_reducible refine (KR2.out _ X3.out).mono ?_); rintro e w4 ⟨rfl, x4⟩; have X4 := hid (X3.out.trans x4); obtain ⟨q0, q1, q2, q3, q4, q5, q6⟩ := QB.out w4 X4.out; clear x4)
                    | (go_at_call 41; (with_reducible refine (KS2.out _ X4.out).mono ?_); rintro e w5 ⟨rfl, x5⟩; have X5 := hid (X4.out.trans x5); obtain ⟨q0, q1, q2, q3, q4, q5, q6⟩ := QB.out w5 X5.out; clear x5))
              go_ret
              exact ⟨ret_bool (by first | exact HCL.out.symm | (rw [HCL.out]; simp)), HX0.out.trans X5.out⟩
end Go.Proofs.YthjifmfmaiagoaaGreatDoor

/- C22: texts L4. -/
import Derived.Test.YthjifmfmaiagoaaGreatDoorC02
import Derived.Test.YthjifmfmaiagoaaGreatDoorC14
import Derived.Test.YthjifmfmaiagoaaGreatDoorC21
set_option linter.all false

/- ProofMatchesReference: the law's function returns true. -/
namespace Go.Proofs.YthjifmfmaiagoaaGreatDoor
open Go.RowKit
attribute [local go_sem] Oper.semAt_some

set_option maxRecDepth 100000 in
set_option maxHeartbeats 8000000 in
theorem match_any (CA EA WA SA A1 A2 SB TA : Option Addr) (cn cc en ec wn wc sn sc n1 c1 n2 c2 sm sd tn tc : Nat) (g : Graph) (ws : List Way) (ss : List Step) (xv : Int) (lw lo : List Int) (ts : List Step) (set : List Int) (w : World)
    (h : RG w CA cn cc EA en ec g) (hw : RW w WA wn wc ws) (hp : RS w SA sn sc ss) (h1 : RI w A1 n1 c1 lw) (h2 : RI w A2 n2 c2 lo) (hq : RS w SB sm sd ts) (ht : RI w TA tn tc set)
    (hv1 : A1 = none → c1 = 0) (hv2 : A2 = none → c2 = 0) (hb1 : n1 ≤ 281474976710656) (hb2 : n2 ≤ 281474976710656) (hb3 : tn ≤ 281474976710656) :
    Calls Tryz.prog 4 #[.agg #[.int .i64 g.n, .slice CA cn cc, .slice EA en ec], .slice WA wn wc, .agg #[.slice SA sn sc], .agg #[.int .i64 xv, .slice A1 n1 c1, .slice A2 n2 c2, .slice SB sm sd], .slice TA tn tc] w fun e w' => e = .returned (.bool true) ∧ Ext w w' := by
  have hx0 : Ext w (((w.alloc (.cells #[.int .i64 g.n, .slice CA cn cc, .slice EA en ec] 25)).alloc (.cells #[.slice SA sn sc] 36)).alloc (.cells #[.int .i64 xv, .slice A1 n1 c1, .slice A2 n2 c2, .slice SB sm sd] 38)) := (by repeat' (first | exact Ext.refl _ | assumption | apply Ext.alloc | apply Ext.drewN | apply Ext.drew))
  have hsn := Nat.le_trans hp.cap hp.big
  have hsm := Nat.le_trans hq.cap hq.big
  have KH : Hid (∀ W, Calls Tryz.prog 29 #[] W fun e w' => e = .returned (.bool true) ∧ Ext W w') := head_any
  have K30 : Hid (∀ W, Ext (((w.alloc (.cells #[.int .i64 g.n, .slice CA cn cc, .slice EA en ec] 25)).alloc (.cells #[.slice SA sn sc] 36)).alloc (.cells #[.int .i64 xv, .slice A1 n1 c1, .slice A2 n2 c2, .slice SB sm sd] 38)) W → Calls Tryz.prog 30 #[.agg #[.int .i64 g.n, .slice CA cn cc, .slice EA en ec], .slice WA wn wc, .agg #[.slice SA sn sc]] W fun e w' => e = .returned (.bool (smallB g 12 40 && fewB ws sn 200)) ∧ Ext W w') := fun W hW => f30_any CA EA WA SA cn cc en ec wn wc sn sc g ws W (h.ext (hx0.trans hW)) (hw.ext (hx0.trans hW)) hsn
  have K31 : Hid (∀ W, Ext (((w.alloc (.cells #[.int .i64 g.n, .slice CA cn cc, .slice EA en ec] 25)).alloc (.cells #[.slice SA sn sc] 36)).alloc (.cells #[.int .i64 xv, .slice A1 n1 c1, .slice A2 n2 c2, .slice SB sm sd] 38)) W → Calls Tryz.prog 31 #[.slice none 0 0, .agg #[.slice SB sm sd], .int .i64 200] W fun e w' => e = .returned (.bool (fewB [] sm 200)) ∧ Ext W w') := fun W hW => f31_any none SB 0 0 sm sd 200 [] W (RW.nil _) hsm
  have QB : Hid (∀ W, Ext (((w.alloc (.cells #[.int .i64 g.n, .slice CA cn cc, .slice EA en ec] 25)).alloc (.cells #[.slice SA sn sc] 36)).alloc (.cells #[.int .i64 xv, .slice A1 n1 c1, .slice A2 n2 c2, .slice SB sm sd] 38)) W → W.cell? ⟨w.heap.size, 0, none⟩ = some (.int .i64 g.n) ∧ W.cell? ⟨w.heap.size, 1, none⟩ = some (.slice CA cn cc) ∧ W.cell? ⟨w.heap.size, 2, none⟩ = some (.slice EA en ec) ∧ W.cell? ⟨w.heap.size + 1, 0, none⟩ = some (.slice SA sn sc) ∧ W.cell? ⟨w.heap.size + 1 + 1, 0, none⟩ = some (.int .i64 xv) ∧ W.cell? ⟨w.heap.size + 1 + 1, 1, none⟩ = some (.slice A1 n1 c1) ∧ W.cell? ⟨w.heap.size + 1 + 1, 2, none⟩ = some (.slice A2 n2 c2) ∧ W.cell? ⟨w.heap.size + 1 + 1, 3, none⟩ = some (.slice SB sm sd)) := fun W hW => by
    have hh := block_of (w := w) (o := .cells #[.int .i64 g.n, .slice CA cn cc, .slice EA en ec] 25) (W := W) (Ext.trans (Ext.alloc (Ext.alloc (Ext.refl _) _) _) hW) rfl
    have hi := block_of (w := w.alloc (.cells #[.int .i64 g.n, .slice CA cn cc, .slice EA en ec] 25)) (b := w.heap.size + 1) (W := W) (Ext.trans (Ext.alloc (Ext.refl _) _) hW) (by simp)
    have hk := block_of (w := (w.alloc (.cells #[.int .i64 g.n, .slice CA cn cc, .slice EA en ec] 25)).alloc (.cells #[.slice SA sn sc] 36)) (b := w.heap.size + 1 + 1) (W := W) hW (by simp)
    exact ⟨(cell_heap hh 0).1, (cell_heap hh 1).1, (cell_heap hh 2).1, (cell_heap hi 0).1, (cell_heap hk 0).1, (cell_heap hk 1).1, (cell_heap hk 2).1, (cell_heap hk 3).1⟩
  have HX0 := hid hx0
  obtain ⟨y0, y1, y2, y3, y4, y5, y6, y7⟩ := QB.out _ (Ext.refl _)
  cases f1 : (smallB g 12 40 && fewB ws sn 200) with
  | false =>
    rw [f1] at K30
    clear h hw hp h1 h2 hq ht hv1 hv2 hx0 f1 K31
    go_enter Tryz.func4, Tryz.ntmps4
    go_wp2_with (first
      | (go_at_call 29; refine (KH.out _).mono ?_; rintro e w1 ⟨rfl, x1⟩; have X1 := hid x1; obtain ⟨q0, q1, q2, q3, q4, q5, q6, q7⟩ := QB.out w1 x1; clear x1)
      | (go_at_call 30; (with_reducible refine (K30.out w1 X1.out).mono ?_); rintro e w2 ⟨rfl, x2⟩; have X2 := hid (X1.out.trans x2); obtain ⟨r0, r1, r2, r3, r4, r5, r6, r7⟩ := QB.out w2 X2.out; clear x2))
    go_ret
    exact ⟨rfl, HX0.out.trans X2.out⟩
  | true =>
    rw [f1] at K30
    cases f2 : fewB [] sm 200 with
    | false =>
      rw [f2] at K31
      clear h hw hp h1 h2 hq ht hv1 hv2 hx0 f1 f2
      go_enter Tryz.func4, Tryz.ntmps4
      go_wp2_with (first
      | (go_at_call 29; refine (KH.out _).mono ?_; rintro e w1 ⟨rfl, x1⟩; have X1 := hid x1; obtain ⟨q0, q1, q2, q3, q4, q5, q6, q7⟩ := QB.out w1 x1; clear x1)
      | (go_at_call 30; (with_reducible refine (K30.out w1 X1.out).mono ?_); rintro e w2 ⟨rfl, x2⟩; have X2 := hid (X1.out.trans x2); obtain ⟨r0, r1, r2, r3, r4, r5, r6, r7⟩ := QB.out w2 X2.out; clear x2)
      | (go_at_call 31; (with_reducible refine (K31.out w2 X2.out).mono ?_); rintro e w3 ⟨rfl, x3⟩; have X3 := hid (X2.out.trans x3); obtain ⟨z0, z1, z2, z3, z4, z5, z6, z7⟩ := QB.out w3 X3.out; clear x3))
      go_ret
      exact ⟨rfl, HX0.out.trans X3.out⟩
    | true =>
      rw [f2] at K31
      have e1 : IntKind.i64.wrap ((n1 : Int) + (n2 : Int)) = (n1 : Int) + (n2 : Int) := IntWalk.i64_in _ (by omega)
      have e2 : IntKind.i64.wrap ((n1 : Int) + (n2 : Int) + (tn : Int)) = (n1 : Int) + (n2 : Int) + (tn : Int) := IntWalk.i64_in _ (by omega)
      by_cases f3 : n1 + n2 + tn > 60
      · have d3 : decide ((n1 : Int) + (n2 : Int) + (tn : Int) > 60) = true := decide_eq_true (by omega)
        clear h hw hp h1 h2 hq ht hv1 hv2 hx0 f1 f2
        go_enter Tryz.func4, Tryz.ntmps4
        go_wp2_with (first
      | (go_at_call 29; refine (KH.out _).mono ?_; rintro e w1 ⟨rfl, x1⟩; have X1 := hid x1; obtain ⟨q0, q1, q2, q3, q4, q5, q6, q7⟩ := QB.out w1 x1; clear x1)
      | (go_at_call 30; (with_reducible refine (K30.out w1 X1.out).mono ?_); rintro e w2 ⟨rfl, x2⟩; have X2 := hid (X1.out.trans x2); obtain ⟨r0, r1, r2, r3, r4, r5, r6, r7⟩ := QB.out w2 X2.out; clear x2)
      | (go_at_call 31; (with_reducible refine (K31.out w2 X2.out).mono ?_); rintro e w3 ⟨rfl, x3⟩; have X3 := hid (X2.out.trans x3); obtain ⟨z0, z1, z2, z3, z4, z5, z6, z7⟩ := QB.out w3 X3.out; clear x3))
        go_ret
        exact ⟨rfl, HX0.out.trans X3.out⟩
      · have d3 : decide ((n1 : Int) + (n2 : Int) + (tn : Int) > 60) = false := decide_eq_false (by omega)
        have hg3 : en ≤ 1000 ∧ (∀ e ∈ g.edges, e.length ≤ 10) ∧ g.n ≤ 100 := by
          have h1 := f1
          unfold smallB at h1
          simp only [Bool.and_eq_true, decide_eq_true_eq, List.all_eq_true] at h1
          have := h.edges.len
          exact ⟨by omega, h1.1.2.1, by omega⟩
        have hsm2 : sm ≤ 200 := by
          unfold fewB at f2
          simp only [Bool.and_eq_true, decide_eq_true_eq] at f2
          exact f2.2
        have KH1 : Hid (∀ W, Ext (((w.alloc (.cells #[.int .i64 g.n, .slice CA cn cc, .slice EA en ec] 25)).alloc (.cells #[.slice SA sn sc] 36)).alloc (.cells #[.int .i64 xv, .slice A1 n1 c1, .slice A2 n2 c2, .slice SB sm sd] 38)) W → ∀ B m d B' m' d' x, RI W B m d x.pos → RI W B' m' d' x.neg → Calls Tryz.prog 32 #[.agg #[.slice B m d, .slice B' m' d'], .slice TA tn tc] W fun e w' => e = .returned (.bool (decide (HoldsW x set))) ∧ Ext W w') := fun W hW B m d B' m' d' x hr hr' => holds_any B B' TA m d m' d' tn tc x set W hr hr' (ht.ext (hx0.trans hW)) (by omega)
        have KH2 : Hid (∀ W, Ext (((w.alloc (.cells #[.int .i64 g.n, .slice CA cn cc, .slice EA en ec] 25)).alloc (.cells #[.slice SA sn sc] 36)).alloc (.cells #[.int .i64 xv, .slice A1 n1 c1, .slice A2 n2 c2, .slice SB sm sd] 38)) W → ∀ B m d B' m' d' x, RI W B m d x.pos → RI W B' m' d' x.neg → Calls Tryz.prog 33 #[.agg #[.slice B m d, .slice B' m' d'], .slice TA tn tc] W fun e w' => e = .returned (.bool (decide (HoldsW x set))) ∧ Ext W w') := fun W hW B m d B' m' d' x hr hr' => f33_any x set B B' TA m d m' d' tn tc W hr hr' (ht.ext (hx0.trans hW))
        have K34 : Hid (∀ hold W, Ext (((w.alloc (.cells #[.int .i64 g.n, .slice CA cn cc, .slice EA en ec] 25)).alloc (.cells #[.slice SA sn sc] 36)).alloc (.cells #[.int .i64 xv, .slice A1 n1 c1, .slice A2 n2 c2, .slice SB sm sd] 38)) W → Calls Tryz.prog 34 #[.agg #[.int .i64 g.n, .slice CA cn cc, .slice EA en ec], .slice WA wn wc, .bool hold, .agg #[.slice SA sn sc]] W fun e w' => e = .returned (.bool (checkB g ws hold ss)) ∧ Ext W w') := fun hold W hW => check_any CA EA WA SA cn cc en ec wn wc sn sc g ws ss hold W ⟨h.ext (hx0.trans hW), hw.ext (hx0.trans hW), hg3.1, hg3.2.1, hg3.2.2⟩ (hp.ext (hx0.trans hW))
        have K35 : Hid (∀ hold W, Ext (((w.alloc (.cells #[.int .i64 g.n, .slice CA cn cc, .slice EA en ec] 25)).alloc (.cells #[.slice SA sn sc] 36)).alloc (.cells #[.int .i64 xv, .slice A1 n1 c1, .slice A2 n2 c2, .slice SB sm sd] 38)) W → Calls Tryz.prog 35 #[.agg #[.int .i64 g.n, .slice CA cn cc, .slice EA en ec], .slice WA wn wc, .bool hold, .agg #[.slice SA sn sc]] W fun e w' => e = .returned (.bool (checkB g ws hold ss)) ∧ Ext W w') := fun hold W hW => f35_any CA EA WA SA cn cc en ec wn wc sn sc g ws ss hold W (h.ext (hx0.trans hW)) (hw.ext (hx0.trans hW)) (hp.ext (hx0.trans hW))
        have K36 : Hid (∀ W, Ext (((w.alloc (.cells #[.int .i64 g.n, .slice CA cn cc, .slice EA en ec] 25)).alloc (.cells #[.slice SA sn sc] 36)).alloc (.cells #[.int .i64 xv, .slice A1 n1 c1, .slice A2 n2 c2, .slice SB sm sd] 38)) W → Calls Tryz.prog 36 #[.agg #[.int .i64 g.n, .slice CA cn cc, .slice EA en ec], .slice WA wn wc, .agg #[.int .i64 xv, .slice A1 n1 c1, .slice A2 n2 c2, .slice SB sm sd]] W fun e w' => e = .returned (.bool (claimB g ws ⟨xv, lw, lo, ts⟩)) ∧ Ext W w') := fun W hW => claim_any CA EA WA A1 A2 SB cn cc en ec wn wc n1 c1 n2 c2 sm sd g ws ⟨xv, lw, lo, ts⟩ W ⟨h.ext (hx0.trans hW), hw.ext (hx0.trans hW), hg3.1, hg3.2.1, hg3.2.2⟩ (h1.ext (hx0.trans hW)) (h2.ext (hx0.trans hW)) (hq.ext (hx0.trans hW)) (by omega) (by omega) (by omega)
        have K37 : Hid (∀ W, Ext (((w.alloc (.cells #[.int .i64 g.n, .slice CA cn cc, .slice EA en ec] 25)).alloc (.cells #[.slice SA sn sc] 36)).alloc (.cells #[.int .i64 xv, .slice A1 n1 c1, .slice A2 n2 c2, .slice SB sm sd] 38)) W → Calls Tryz.prog 37 #[.agg #[.int .i64 g.n, .slice CA cn cc, .slice EA en ec], .slice WA wn wc, .agg #[.int .i64 xv, .slice A1 n1 c1, .slice A2 n2 c2, .slice SB sm sd]] W fun e w' => e = .returned (.bool (claimB g ws ⟨xv, lw, lo, ts⟩)) ∧ Ext W w') := fun W hW => f37_any CA EA WA A1 A2 SB cn cc en ec wn wc n1 c1 n2 c2 sm sd g ws xv lw lo ts W (h.ext (hx0.trans hW)) (hw.ext (hx0.trans hW)) (h1.ext (hx0.trans hW)) (h2.ext (hx0.trans hW)) (hq.ext (hx0.trans hW)) (by omega) (by omega) (by omega) hv1 hv2
        have HW := hid hw
        have hwn := hw.lenle
        have HG := hid hg3
        clear h hw hp h1 h2 hq ht hv1 hv2 hx0 f1 f2 hg3
        go_enter Tryz.func4, Tryz.ntmps4
        go_wp2_with (first
      | (go_at_call 29; refine (KH.out _).mono ?_; rintro e w1 ⟨rfl, x1⟩; have X1 := hid x1; obtain ⟨q0, q1, q2, q3, q4, q5, q6, q7⟩ := QB.out w1 x1; clear x1)
      | (go_at_call 30; (with_reducible refine (K30.out w1 X1.out).mono ?_); rintro e w2 ⟨rfl, x2⟩; have X2 := hid (X1.out.trans x2); obtain ⟨r0, r1, r2, r3, r4, r5, r6, r7⟩ := QB.out w2 X2.out; clear x2)
      | (go_at_call 31; (with_reducible refine (K31.out w2 X2.out).mono ?_); rintro e w3 ⟨rfl, x3⟩; have X3 := hid (X2.out.trans x3); obtain ⟨z0, z1, z2, z3, z4, z5, z6, z7⟩ := QB.out w3 X3.out; clear x3))
        clear y0 y1 y2 y3 y4 y5 y6 y7 q0 q1 q2 q3 q4 q5 q6 q7 r0 r1 r2 r3 r4 r5 r6 r7 z0 z1 z2 z3 z4 z5 z6 z7 e1 e2 d3
        go_loopg [12] wn (fun gg s12 wr => ∃ kk : Nat, kk ≤ wn ∧ wn - kk ≤ gg ∧ s12 = .int .i64 kk ∧ Hid (Ext w3 wr))
        case atStart => exact ⟨0, Nat.zero_le _, by omega, rfl, hid (Ext.refl _)⟩
        case round =>
          obtain ⟨kk, hkk, hg, rfl, HE⟩ := hrel
          by_cases hlt : kk < wn
          · have hltz : (kk : Int) < (wn : Int) := by omega
            obtain ⟨ad, B, m, d, B', m', d', rfl, hcell, hcell', hri, hri'⟩ := (HW.out.ext (HX0.out.trans (X3.out.trans HE.out))).cell kk hlt
            have hcp : ∀ p : ExtOf wr, p.W.cell? (ad.add (kk * 2)) = some (.slice B m d) := fun p => p.h.cell hcell
            have hcp' : ∀ p : ExtOf wr, p.W.cell? ⟨(ad.add (kk * 2)).block, (ad.add (kk * 2)).off + 1, none⟩ = some (.slice B' m' d') := fun p => p.h.cell hcell'
            have K1 : Hid (∀ p : ExtOf wr, Calls Tryz.prog 32 #[.agg #[.slice B m d, .slice B' m' d'], .slice TA tn tc] p.W fun e w' => e = .returned (.bool (decide (HoldsW (way ws kk) set))) ∧ Ext p.W w') := fun p => KH1.out p.W ((X3.out.trans HE.out).trans p.h) B m d B' m' d' (way ws kk) (hri.ext p.h) (hri'.ext p.h)
            have K2 : Hid (∀ p : ExtOf wr, Calls Tryz.prog 33 #[.agg #[.slice B m d, .slice B' m' d'], .slice TA tn tc] p.W fun e w' => e = .returned (.bool (decide (HoldsW (way ws kk) set))) ∧ Ext p.W w') := fun p => KH2.out p.W ((X3.out.trans HE.out).trans p.h) B m d B' m' d' (way ws kk) (hri.ext p.h) (hri'.ext p.h)
            generalize decide (HoldsW (way ws kk) set) = b at K1 K2
            clear hri hri' hcell hcell'
            go_wp2_with fail
            refine wp_region_qw mixed' (by kernel_rfl) ?_
            repeat (refine QW.step (fun K hK => ?_); go_simp; first | (refine hK _ ?_; clear hK K) | (apply Exists.intro; refine ⟨fun _ => ?_, hK _ ?_⟩; (first | exact Calls.ext_of (K1.out _) | exact Calls.ext_of (K2.out _)); clear hK K))
            refine QW.nil ?_
            rintro _ ⟨p1, rfl⟩
            obtain ⟨w1, hw1⟩ := p1
            dsimp only
            have HXr : Hid (Ext wr w1) := hw1
            clear hcp hcp' hw1 K1 K2
            have db : (b != b) = false := by simp
            go_wp2_with fail
            go_roundg (wn - (kk + 1))
            case measure => omega
            case rel => exact ⟨kk + 1, by omega, by omega, by go_num, hid (HE.out.trans HXr.out)⟩
          · have hltz : ¬ (kk : Int) < (wn : Int) := by omega
            have HEx := hid (X3.out.trans HE.out)
            have F34 : Hid (∀ p : ExtOf wr, Calls Tryz.prog 34 #[.agg #[.int .i64 g.n, .slice CA cn cc, .slice EA en ec], .slice WA wn wc, .bool false, .agg #[.slice SA sn sc]] p.W fun e w' => e = .returned (.bool (checkB g ws false ss)) ∧ Ext p.W w') := fun p => K34.out false p.W (HEx.out.trans p.h)
            have F35 : Hid (∀ p : ExtOf wr, Calls Tryz.prog 35 #[.agg #[.int .i64 g.n, .slice CA cn cc, .slice EA en ec], .slice WA wn wc, .bool false, .agg #[.slice SA sn sc]] p.W fun e w' => e = .returned (.bool (checkB g ws false ss)) ∧ Ext p.W w') := fun p => K35.out false p.W (HEx.out.trans p.h)
            have T34 : Hid (∀ p : ExtOf wr, Calls Tryz.prog 34 #[.agg #[.int .i64 g.n, .slice CA cn cc, .slice EA en ec], .slice WA wn wc, .bool true, .agg #[.slice SA sn sc]] p.W fun e w' => e = .returned (.bool (checkB g ws true ss)) ∧ Ext p.W w') := fun p => K34.out true p.W (HEx.out.trans p.h)
            have T35 : Hid (∀ p : ExtOf wr, Calls Tryz.prog 35 #[.agg #[.int .i64 g.n, .slice CA cn cc, .slice EA en ec], .slice WA wn wc, .bool true, .agg #[.slice SA sn sc]] p.W fun e w' => e = .returned (.bool (checkB g ws true ss)) ∧ Ext p.W w') := fun p => K35.out true p.W (HEx.out.trans p.h)
            generalize checkB g ws false ss = kf at F34 F35
            generalize checkB g ws true ss = kt at T34 T35
            generalize claimB g ws ⟨xv, lw, lo, ts⟩ = cl at K36 K37
            have hall : ∀ p : ExtOf wr, p.W.cell? ⟨w.heap.size, 0, none⟩ = some (.int .i64 g.n) ∧ p.W.cell? ⟨w.heap.size, 1, none⟩ = some (.slice CA cn cc) ∧ p.W.cell? ⟨w.heap.size, 2, none⟩ = some (.slice EA en ec) ∧ p.W.cell? ⟨w.heap.size + 1, 0, none⟩ = some (.slice SA sn sc) ∧ p.W.cell? ⟨w.heap.size + 1 + 1, 0, none⟩ = some (.int .i64 xv) ∧ p.W.cell? ⟨w.heap.size + 1 + 1, 1, none⟩ = some (.slice A1 n1 c1) ∧ p.W.cell? ⟨w.heap.size + 1 + 1, 2, none⟩ = some (.slice A2 n2 c2) ∧ p.W.cell? ⟨w.heap.size + 1 + 1, 3, none⟩ = some (.slice SB sm sd) := fun p => QB.out p.W (HEx.out.trans p.h)
            have p0 : ∀ p : ExtOf wr, p.W.cell? ⟨w.heap.size, 0, none⟩ = some (.int .i64 g.n) := fun p => (hall p).1
            have p1 : ∀ p : ExtOf wr, p.W.cell? ⟨w.heap.size, 1, none⟩ = some (.slice CA cn cc) := fun p => (hall p).2.1
            have p2 : ∀ p : ExtOf wr, p.W.cell? ⟨w.heap.size, 2, none⟩ = some (.slice EA en ec) := fun p => (hall p).2.2.1
            have p3 : ∀ p : ExtOf wr, p.W.cell? ⟨w.heap.size + 1, 0, none⟩ = some (.slice SA sn sc) := fun p => (hall p).2.2.2.1
            clear hall
            cases kf <;> cases kt
            all_goals
              go_wp2_with fail
              refine wp_region_qw mixed' (by kernel_rfl) ?_
              repeat (refine QW.step (fun K hK => ?_); go_simp; first | (refine hK _ ?_; clear hK K) | (apply Exists.intro; refine ⟨fun _ => ?_, hK _ ?_⟩; (first | (with_reducible exact Calls.ext_of (F34.out _)) | (with_reducible exact Calls.ext_of (F35.out _)) | (with_reducible exact Calls.ext_of (T34.out _)) | (with_reducible exact Calls.ext_of (T35.out _))); clear hK K))
              refine QW.nil ?_
              rintro _ ⟨p1, rfl⟩
              obtain ⟨w1, hw1⟩ := p1
              dsimp only
              have HX1 : Hid (Ext wr w1) := hw1
              clear p0 p1 p2 p3 hw1 F34 F35 T34 T35
              have hall : ∀ p : ExtOf w1, p.W.cell? ⟨w.heap.size, 0, none⟩ = some (.int .i64 g.n) ∧ p.W.cell? ⟨w.heap.size, 1, none⟩ = some (.slice CA cn cc) ∧ p.W.cell? ⟨w.heap.size, 2, none⟩ = some (.slice EA en ec) ∧ p.W.cell? ⟨w.heap.size + 1, 0, none⟩ = some (.slice SA sn sc) ∧ p.W.cell? ⟨w.heap.size + 1 + 1, 0, none⟩ = some (.int .i64 xv) ∧ p.W.cell? ⟨w.heap.size + 1 + 1, 1, none⟩ = some (.slice A1 n1 c1) ∧ p.W.cell? ⟨w.heap.size + 1 + 1, 2, none⟩ = some (.slice A2 n2 c2) ∧ p.W.cell? ⟨w.heap.size + 1 + 1, 3, none⟩ = some (.slice SB sm sd) := fun p => QB.out p.W ((HEx.out.trans HX1.out).trans p.h)
              have p0 : ∀ p : ExtOf w1, p.W.cell? ⟨w.heap.size, 0, none⟩ = some (.int .i64 g.n) := fun p => (hall p).1
              have p1 : ∀ p : ExtOf w1, p.W.cell? ⟨w.heap.size, 1, none⟩ = some (.slice CA cn cc) := fun p => (hall p).2.1
              have p2 : ∀ p : ExtOf w1, p.W.cell? ⟨w.heap.size, 2, none⟩ = some (.slice EA en ec) := fun p => (hall p).2.2.1
              have p4 : ∀ p : ExtOf w1, p.W.cell? ⟨w.heap.size + 1 + 1, 0, none⟩ = some (.int .i64 xv) := fun p => (hall p).2.2.2.2.1
              have p5 : ∀ p : ExtOf w1, p.W.cell? ⟨w.heap.size + 1 + 1, 1, none⟩ = some (.slice A1 n1 c1) := fun p => (hall p).2.2.2.2.2.1
              have p6 : ∀ p : ExtOf w1, p.W.cell? ⟨w.heap.size + 1 + 1, 2, none⟩ = some (.slice A2 n2 c2) := fun p => (hall p).2.2.2.2.2.2.1
              have p7 : ∀ p : ExtOf w1, p.W.cell? ⟨w.heap.size + 1 + 1, 3, none⟩ = some (.slice SB sm sd) := fun p => (hall p).2.2.2.2.2.2.2
              clear hall
              have F36 : Hid (∀ p : ExtOf w1, Calls Tryz.prog 36 #[.agg #[.int .i64 g.n, .slice CA cn cc, .slice EA en ec], .slice WA wn wc, .agg #[.int .i64 xv, .slice A1 n1 c1, .slice A2 n2 c2, .slice SB sm sd]] p.W fun e w' => e = .returned (.bool cl) ∧ Ext p.W w') := fun p => K36.out p.W ((HEx.out.trans HX1.out).trans p.h)
              have F37 : Hid (∀ p : ExtOf w1, Calls Tryz.prog 37 #[.agg #[.int .i64 g.n, .slice CA cn cc, .slice EA en ec], .slice WA wn wc, .agg #[.int .i64 xv, .slice A1 n1 c1, .slice A2 n2 c2, .slice SB sm sd]] p.W fun e w' => e = .returned (.bool cl) ∧ Ext p.W w') := fun p => K37.out p.W ((HEx.out.trans HX1.out).trans p.h)
              go_wp2_with fail
              refine wp_region_qw mixed' (by kernel_rfl) ?_
              repeat (refine QW.step (fun K hK => ?_); go_simp; first | (refine hK _ ?_; clear hK K) | (apply Exists.intro; refine ⟨fun _ => ?_, hK _ ?_⟩; (first | (with_reducible exact Calls.ext_of (F36.out _)) | (with_reducible exact Calls.ext_of (F37.out _))); clear hK K))
              refine QW.nil ?_
              rintro _ ⟨p1, rfl⟩
              obtain ⟨w2, hw2⟩ := p1
              dsimp only
              have HX2 : Hid (Ext w1 w2) := hw2
              go_wp2_with fail
              go_ret
              exact ⟨by simp, ((HX0.out.trans HEx.out).trans HX1.out).trans HX2.out⟩
end Go.Proofs.YthjifmfmaiagoaaGreatDoor

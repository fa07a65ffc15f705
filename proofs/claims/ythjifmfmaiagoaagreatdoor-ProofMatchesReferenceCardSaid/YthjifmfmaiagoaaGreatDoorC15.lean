/- C15: texts H47 H48 H49 T0. -/
import Derived.Carry
import Derived.LaidMore
import Derived.OpenShut
import Derived.ProofKit
import Derived.Stop.Joined
import Derived.Test.YthjifmfmaiagoaaGreatDoorC02
import Derived.Test.YthjifmfmaiagoaaGreatDoorC09
import Derived.Test.YthjifmfmaiagoaaGreatDoorC10
import Derived.Test.YthjifmfmaiagoaaGreatDoorC13
import Derived.Test.YthjifmfmaiagoaaGreatDoorC14
import Derived.Test.YthjifmfmaiagoaaGreatDoorChecked
import Derived.Test.YthjifmfmaiagoaaGreatDoorRows
set_option linter.all false

/- ProofMonotone: the law's function returns true. -/
namespace Go.Proofs.YthjifmfmaiagoaaGreatDoor
open Go.RowKit
attribute [local go_sem] Oper.semAt_some

set_option maxRecDepth 100000 in
set_option maxHeartbeats 4000000 in
theorem mono_early (CA EA WA MA SA LA : Option Addr) (cn cc en ec wn wc mn mc sn sc ln lc : Nat) (g : Graph) (ws more : List Way) (ss l : List Step) (w : World)
    (h : RG w CA cn cc EA en ec g) (hw : RW w WA wn wc ws) (hm : RW w MA mn mc more) (hp : RS w SA sn sc ss) (hl : RS w LA ln lc l)
    (hno : ¬ ((smallB g 12 40 && fewB ws sn 200) = true ∧ (smallB g 12 40 && fewB more sn 200) = true ∧ ln ≤ 60)) :
    Calls Tryz.prog 8 #[.agg #[.int .i64 g.n, .slice CA cn cc, .slice EA en ec], .slice WA wn wc, .slice MA mn mc, .agg #[.slice SA sn sc], .slice LA ln lc] w fun e w' => e = .returned (.bool true) ∧ Ext w w' := by
  have hx0 : Ext w ((w.alloc (.cells #[.int .i64 g.n, .slice CA cn cc, .slice EA en ec] 25)).alloc (.cells #[.slice SA sn sc] 36)) := (by repeat' (first | exact Ext.refl _ | assumption | apply Ext.alloc | apply Ext.drewN | apply Ext.drew))
  have hsn := Nat.le_trans hp.cap hp.big
  have hln := Nat.le_trans hl.cap hl.big
  have KH : Hid (∀ W, Calls Tryz.prog 29 #[] W fun e w' => e = .returned (.bool true) ∧ Ext W w') := head_any
  have K30a : Hid (∀ W, Ext ((w.alloc (.cells #[.int .i64 g.n, .slice CA cn cc, .slice EA en ec] 25)).alloc (.cells #[.slice SA sn sc] 36)) W → Calls Tryz.prog 30 #[.agg #[.int .i64 g.n, .slice CA cn cc, .slice EA en ec], .slice WA wn wc, .agg #[.slice SA sn sc]] W fun e w' => e = .returned (.bool (smallB g 12 40 && fewB ws sn 200)) ∧ Ext W w') := fun W hW => f30_any CA EA WA SA cn cc en ec wn wc sn sc g ws W (h.ext (hx0.trans hW)) (hw.ext (hx0.trans hW)) hsn
  have K30b : Hid (∀ W, Ext ((w.alloc (.cells #[.int .i64 g.n, .slice CA cn cc, .slice EA en ec] 25)).alloc (.cells #[.slice SA sn sc] 36)) W → Calls Tryz.prog 30 #[.agg #[.int .i64 g.n, .slice CA cn cc, .slice EA en ec], .slice MA mn mc, .agg #[.slice SA sn sc]] W fun e w' => e = .returned (.bool (smallB g 12 40 && fewB more sn 200)) ∧ Ext W w') := fun W hW => f30_any CA EA MA SA cn cc en ec mn mc sn sc g more W (h.ext (hx0.trans hW)) (hm.ext (hx0.trans hW)) hsn
  have QB : Hid (∀ W, Ext ((w.alloc (.cells #[.int .i64 g.n, .slice CA cn cc, .slice EA en ec] 25)).alloc (.cells #[.slice SA sn sc] 36)) W → W.cell? ⟨w.heap.size, 0, none⟩ = some (.int .i64 g.n) ∧ W.cell? ⟨w.heap.size, 1, none⟩ = some (.slice CA cn cc) ∧ W.cell? ⟨w.heap.size, 2, none⟩ = some (.slice EA en ec) ∧ W.cell? ⟨w.heap.size + 1, 0, none⟩ = some (.slice SA sn sc)) := fun W hW => by
    have hh := block_of (w := w) (o := .cells #[.int .i64 g.n, .slice CA cn cc, .slice EA en ec] 25) (W := W) (Ext.trans (Ext.alloc (Ext.refl _) _) hW) rfl
    exact ⟨(cell_heap hh 0).1, (cell_heap hh 1).1, (cell_heap hh 2).1, hW.cell (cellNew (by simp))⟩
  have HX0 := hid hx0
  clear h hw hm hp hl hx0
  generalize (smallB g 12 40 && fewB ws sn 200) = b1 at K30a hno
  generalize (smallB g 12 40 && fewB more sn 200) = b2 at K30b hno
  obtain ⟨N, cost, edges⟩ := g
  simp only [] at *
  cases b1 with
  | false =>
    clear hno
    go_enter Tryz.func8, Tryz.ntmps8
    go_wp2_with (first
      | (go_at_call 29; refine (KH.out _).mono ?_; rintro e w1 ⟨rfl, x1⟩; have X1 := hid x1; obtain ⟨q0, q1, q2, q3⟩ := QB.out w1 x1; clear x1)
      | (go_at_call 30; (with_reducible refine (K30a.out w1 X1.out).mono ?_); rintro e w2 ⟨rfl, x2⟩; have X2 := hid (X1.out.trans x2); obtain ⟨r0, r1, r2, r3⟩ := QB.out w2 X2.out; clear x2))
    go_ret
    exact ⟨rfl, HX0.out.trans X2.out⟩
  | true =>
    cases b2 with
    | false =>
      clear hno
      go_enter Tryz.func8, Tryz.ntmps8
      go_wp2_with (first
      | (go_at_call 29; refine (KH.out _).mono ?_; rintro e w1 ⟨rfl, x1⟩; have X1 := hid x1; obtain ⟨q0, q1, q2, q3⟩ := QB.out w1 x1; clear x1)
      | (go_at_call 30; (with_reducible refine (K30a.out w1 X1.out).mono ?_); rintro e w2 ⟨rfl, x2⟩; have X2 := hid (X1.out.trans x2); obtain ⟨r0, r1, r2, r3⟩ := QB.out w2 X2.out; clear x2)
      | (go_at_call 30; refine (K30b.out _ X2.out).mono ?_; rintro e w3 ⟨rfl, x3⟩; have X3 := hid (X2.out.trans x3); obtain ⟨z0, z1, z2, z3⟩ := QB.out w3 X3.out; clear x3))
      go_ret
      exact ⟨rfl, HX0.out.trans X3.out⟩
    | true =>
      have d : decide ((ln : Int) > 60) = true := decide_eq_true (by
        have : ¬ ln ≤ 60 := fun h => hno ⟨rfl, rfl, h⟩
        omega)
      clear hno
      go_enter Tryz.func8, Tryz.ntmps8
      go_wp2_with (first
      | (go_at_call 29; refine (KH.out _).mono ?_; rintro e w1 ⟨rfl, x1⟩; have X1 := hid x1; obtain ⟨q0, q1, q2, q3⟩ := QB.out w1 x1; clear x1)
      | (go_at_call 30; (with_reducible refine (K30a.out w1 X1.out).mono ?_); rintro e w2 ⟨rfl, x2⟩; have X2 := hid (X1.out.trans x2); obtain ⟨r0, r1, r2, r3⟩ := QB.out w2 X2.out; clear x2)
      | (go_at_call 30; refine (K30b.out _ X2.out).mono ?_; rintro e w3 ⟨rfl, x3⟩; have X3 := hid (X2.out.trans x3); obtain ⟨z0, z1, z2, z3⟩ := QB.out w3 X3.out; clear x3))
      go_ret
      exact ⟨rfl, HX0.out.trans X3.out⟩
end Go.Proofs.YthjifmfmaiagoaaGreatDoor

/- ProofMonotone: the law's function returns true, its guards met. -/
namespace Go.Proofs.YthjifmfmaiagoaaGreatDoor
open Go.RowKit
attribute [local go_sem] Oper.semAt_some

theorem AppSrc.ext {W W' : World} {size : Nat} {A : Option Addr} {m c : Nat} {news : List Value} (h : AppSrc W size A m c news) (e : Ext W W') : AppSrc W' size A m c news := ⟨h.nil, h.len, fun ad ha j u hu => e.cell (h.cell ad ha j u hu), h.one⟩
set_option maxRecDepth 100000 in
set_option maxHeartbeats 4000000 in
theorem mono_main (CA EA WA MA SA LA : Option Addr) (cn cc en ec wn wc mn mc sn sc ln lc : Nat) (g : Graph) (ws more : List Way) (ss l : List Step) (w : World)
    (h : RG w CA cn cc EA en ec g) (hw : RW w WA wn wc ws) (hm : RW w MA mn mc more) (hp : RS w SA sn sc ss) (hl : RS w LA ln lc l) (hwn : WA = none → wc = 0) (hmn : MA = none → mc = 0) (hpn : SA = none → sc = 0) (hln0 : LA = none → lc = 0)
    (y1 : (smallB g 12 40 && fewB ws sn 200) = true) (y2 : (smallB g 12 40 && fewB more sn 200) = true) (y3 : ln ≤ 60) :
    Calls Tryz.prog 8 #[.agg #[.int .i64 g.n, .slice CA cn cc, .slice EA en ec], .slice WA wn wc, .slice MA mn mc, .agg #[.slice SA sn sc], .slice LA ln lc] w fun e w' => e = .returned (.bool true) ∧ Ext w w' := by
  have hx0 : Ext w ((w.alloc (.cells #[.int .i64 g.n, .slice CA cn cc, .slice EA en ec] 25)).alloc (.cells #[.slice SA sn sc] 36)) := (by repeat' (first | exact Ext.refl _ | assumption | apply Ext.alloc | apply Ext.drewN | apply Ext.drew))
  have hsn := Nat.le_trans hp.cap hp.big
  have hln := Nat.le_trans hl.cap hl.big
  have KH : Hid (∀ W, Calls Tryz.prog 29 #[] W fun e w' => e = .returned (.bool true) ∧ Ext W w') := head_any
  have K30a : Hid (∀ W, Ext ((w.alloc (.cells #[.int .i64 g.n, .slice CA cn cc, .slice EA en ec] 25)).alloc (.cells #[.slice SA sn sc] 36)) W → Calls Tryz.prog 30 #[.agg #[.int .i64 g.n, .slice CA cn cc, .slice EA en ec], .slice WA wn wc, .agg #[.slice SA sn sc]] W fun e w' => e = .returned (.bool (smallB g 12 40 && fewB ws sn 200)) ∧ Ext W w') := fun W hW => f30_any CA EA WA SA cn cc en ec wn wc sn sc g ws W (h.ext (hx0.trans hW)) (hw.ext (hx0.trans hW)) hsn
  have K30b : Hid (∀ W, Ext ((w.alloc (.cells #[.int .i64 g.n, .slice CA cn cc, .slice EA en ec] 25)).alloc (.cells #[.slice SA sn sc] 36)) W → Calls Tryz.prog 30 #[.agg #[.int .i64 g.n, .slice CA cn cc, .slice EA en ec], .slice MA mn mc, .agg #[.slice SA sn sc]] W fun e w' => e = .returned (.bool (smallB g 12 40 && fewB more sn 200)) ∧ Ext W w') := fun W hW => f30_any CA EA MA SA cn cc en ec mn mc sn sc g more W (h.ext (hx0.trans hW)) (hm.ext (hx0.trans hW)) hsn
  have QB : Hid (∀ W, Ext ((w.alloc (.cells #[.int .i64 g.n, .slice CA cn cc, .slice EA en ec] 25)).alloc (.cells #[.slice SA sn sc] 36)) W → W.cell? ⟨w.heap.size, 0, none⟩ = some (.int .i64 g.n) ∧ W.cell? ⟨w.heap.size, 1, none⟩ = some (.slice CA cn cc) ∧ W.cell? ⟨w.heap.size, 2, none⟩ = some (.slice EA en ec) ∧ W.cell? ⟨w.heap.size + 1, 0, none⟩ = some (.slice SA sn sc)) := fun W hW => by
    have hh := block_of (w := w) (o := .cells #[.int .i64 g.n, .slice CA cn cc, .slice EA en ec] 25) (W := W) (Ext.trans (Ext.alloc (Ext.refl _) _) hW) rfl
    exact ⟨(cell_heap hh 0).1, (cell_heap hh 1).1, (cell_heap hh 2).1, hW.cell (cellNew (by simp))⟩
  have HX0 := hid hx0
  rw [y1] at K30a
  rw [y2] at K30b
  have hsn2 : sn ≤ 200 := by
    unfold fewB at y1
    simp only [Bool.and_eq_true, decide_eq_true_eq] at y1
    exact y1.2.2
  have hwn30 : wn ≤ 30 ∧ mn ≤ 30 := by
    unfold fewB at y1 y2
    simp only [Bool.and_eq_true, decide_eq_true_eq] at y1 y2
    have e1 := hw.len
    have e2 := hm.len
    omega
  have d : decide ((ln : Int) > 60) = false := decide_eq_false (by omega)
  have HP := hid hp
  have HL := hid hl
  have HN1 := hid hpn
  have HN2 := hid hln0
  have HW := hid hw
  have HM := hid hm
  have HG := hid h
  have HN3 := hid hwn
  have HN4 := hid hmn
  obtain ⟨ps, hpw, hps⟩ := RW.src hw hwn
  obtain ⟨qs, hqw, hqs⟩ := RW.src hm hmn
  have HPw := hid hpw
  have HQw := hid hqw
  have HPs := hid hps
  have HQs := hid hqs
  clear hpw hqw hps hqs
  have HY := hid (And.intro y1 y2)
  clear h hw hm hp hl hx0 hwn hmn hpn hln0 y1 y2
  go_enter Tryz.func8, Tryz.ntmps8
  go_wp2_with (first
      | (go_at_call 29; refine (KH.out _).mono ?_; rintro e w1 ⟨rfl, x1⟩; have X1 := hid x1; obtain ⟨q0, q1, q2, q3⟩ := QB.out w1 x1; clear x1)
      | (go_at_call 30; (with_reducible refine (K30a.out w1 X1.out).mono ?_); rintro e w2 ⟨rfl, x2⟩; have X2 := hid (X1.out.trans x2); obtain ⟨r0, r1, r2, r3⟩ := QB.out w2 X2.out; clear x2)
      | (go_at_call 30; refine (K30b.out _ X2.out).mono ?_; rintro e w3 ⟨rfl, x3⟩; have X3 := hid (X2.out.trans x3); obtain ⟨z0, z1, z2, z3⟩ := QB.out w3 X3.out; have zb : (w3.alloc (.cells #[] 57)).cell? ⟨w.heap.size + 1, 0, none⟩ = some (.slice SA sn sc) := Ext.cell (by repeat' (first | exact Ext.refl _ | assumption | apply Ext.alloc | apply Ext.drewN | apply Ext.drew)) z3; clear x3)
      | (at_builtin; (with_reducible refine appN w3.heap.size rfl _ _ 34 57 (.agg #[.int .i64 0, .int .i64 0, .int .i64 0, .int .i64 0]) 4 32 rfl Tryz.underlying34 info57 rfl (by decide) (by decide) (.slice (some ⟨w3.heap.size, 0, none⟩) 0 0) 0 [] SA sn sc (stepVs ss) rfl rfl ((HP.out.ext ((HX0.out.trans X3.out).trans (by repeat' (first | exact Ext.refl _ | assumption | apply Ext.alloc | apply Ext.drewN | apply Ext.drew)))).src HN1.out) (World.ownsRow_made _ _ 0 (by simp) (by decide) rfl) (by simp) (by omega) ?_); rintro v1 w4 hp1; have HP1 := hid hp1; have E1 : Hid (Ext w3 w4) := Ext.grown (by repeat' (first | exact Ext.refl _ | assumption | apply Ext.alloc | apply Ext.drewN | apply Ext.drew)) (World.ownsRow_made _ #[] 0 (size := 4) (e := 57) (by simp) (by decide) rfl) (Nat.le_refl _) hp1.2.1; clear hp1)
      | (at_builtin; (refine appN w3.heap.size rfl _ _ 34 57 (.agg #[.int .i64 0, .int .i64 0, .int .i64 0, .int .i64 0]) 4 32 rfl Tryz.underlying34 info57 rfl (by decide) (by decide) v1 (0 + sn) ([] ++ stepVs ss) LA ln lc (stepVs l) rfl rfl ((HL.out.ext ((HX0.out.trans X3.out).trans E1.out)).src HN2.out) HP1.out.1 E1.out.size (by omega) ?_); rintro v2 w5 hp2; have E2 : Hid (Ext w3 w5) := Ext.grown E1.out HP1.out.1 (Nat.le_refl _) hp2.2.1; (obtain ⟨AL, cL, rfl, hrl, hnl⟩ := own_RS (B := w3.heap.size) (l := ss ++ l) (n := sn + ln) (by rw [List.length_append, HP.out.len, HL.out.len]) (by rw [stepVs_append]; have := hp2.1; rw [Nat.zero_add, List.nil_append] at this; exact this)); have HRL := hid hrl; clear hp2 hrl hnl)
      | (at_builtin; (refine appN (w5.heap.size + 1) rfl _ _ 26 43 (.agg #[.slice none 0 0, .slice none 0 0]) 2 48 rfl Tryz.underlying26 info43 rfl (by decide) (by decide) (.slice (some ⟨w5.heap.size + 1, 0, none⟩) 0 0) 0 [] WA wn wc (wayVs ps) rfl rfl (HPs.out.ext (Ext.trans ((HX0.out.trans X3.out).trans E2.out) (by repeat' (first | exact Ext.refl _ | assumption | apply Ext.alloc | apply Ext.drewN | apply Ext.drew)))) (by have := World.ownsRow_made (size := 2) (e := 43) (base := w5.heap.size + 1) (w5.alloc (.cells #[.slice AL (sn + ln) cL] 36)) #[] 0 (by simp) (by decide) rfl; simpa using this) (by simp) (by omega) ?_); rintro v3 w6 hp3; have HP3 := hid hp3; (have E3 : Hid (Ext (w5.alloc (.cells #[.slice AL (sn + ln) cL] 36)) w6) := Ext.grown (Ext.alloc (Ext.refl _) (.cells #[] 43)) (by have := World.ownsRow_made (size := 2) (e := 43) (base := w5.heap.size + 1) (w5.alloc (.cells #[.slice AL (sn + ln) cL] 36)) #[] 0 (by simp) (by decide) rfl; simpa using this) (by simp) hp3.2.1); clear hp3)
      | (at_builtin; (refine appN (w5.heap.size + 1) rfl _ _ 26 43 (.agg #[.slice none 0 0, .slice none 0 0]) 2 48 rfl Tryz.underlying26 info43 rfl (by decide) (by decide) v3 (0 + wn) ([] ++ wayVs ps) MA mn mc (wayVs qs) rfl rfl (HQs.out.ext (Ext.trans ((HX0.out.trans X3.out).trans E2.out) (Ext.trans (Ext.alloc (Ext.refl _) _) E3.out))) HP3.out.1 (by have := E3.out.size; simp at this; omega) (by omega) ?_); rintro v4 w7 hp4; (have E4 : Hid (Ext (w5.alloc (.cells #[.slice AL (sn + ln) cL] 36)) w7) := Ext.grown E3.out HP3.out.1 (by simp) hp4.2.1); (obtain ⟨AW, cW, rfl, hrw, _⟩ := own_RW (B := w5.heap.size + 1) (l := ws ++ more) (ps := ps ++ qs) (n := wn + mn) ((HPw.out.append HQw.out).ext (Ext.trans ((HX0.out.trans X3.out).trans E2.out) (Ext.trans (Ext.alloc (Ext.refl _) _) E4.out))) (by rw [List.length_append, HW.out.len, HM.out.len]) (by rw [wayVs_append]; have := hp4.1; rw [Nat.zero_add, List.nil_append] at this; exact this)); have HRW := hid hrw; clear hp4 hrw))
  have XL : Hid (Ext ((w.alloc (.cells #[.int .i64 g.n, .slice CA cn cc, .slice EA en ec] 25)).alloc (.cells #[.slice SA sn sc] 36)) w7) := (X3.out.trans E2.out).trans (Ext.trans (Ext.alloc (Ext.refl _) _) E4.out)
  have hmn0 := hwn30.2
  clear q0 q1 q2 q3 r0 r1 r2 r3 z0 z1 z2 z3 zb
  go_loopg [14] mn (fun gg s14 wr => ∃ kk : Nat, kk ≤ mn ∧ mn - kk ≤ gg ∧ s14 = .int .i64 kk ∧ Hid (Ext w7 wr) ∧ Aside (∀ j, j < kk → formedB' g.n (way more j) = true))
  case atStart => exact ⟨0, Nat.zero_le _, by omega, rfl, hid (Ext.refl _), fun j hj => absurd hj (Nat.not_lt_zero _)⟩
  case round =>
    obtain ⟨kk, hkk, hg, rfl, HE, AA⟩ := hrel
    by_cases hlt : kk < mn
    · have hltz : (kk : Int) < (mn : Int) := by omega
      obtain ⟨ad, B, m, d', B', m', d'', rfl, hcell, hcell', hri, hri'⟩ := (HM.out.ext ((HX0.out.trans XL.out).trans HE.out)).cell kk hlt
      have K40 : Hid (∀ W, Ext wr W → Calls Tryz.prog 40 #[.agg #[.slice B m d', .slice B' m' d''], .int .i64 g.n] W fun e w' => e = .returned (.bool (formedB' g.n (way more kk))) ∧ Ext W w') := fun W hW => f40_any W g.n (way more kk) B B' m d' m' d'' (hri.ext hW) (hri'.ext hW)
      have hN := (QB.out wr (XL.out.trans HE.out)).1
      have KS_ : Hid (∀ W, Ext wr W → W.cell? (ad.add (kk * 2)) = some (.slice B m d') ∧ W.cell? ⟨(ad.add (kk * 2)).block, (ad.add (kk * 2)).off + 1, none⟩ = some (.slice B' m' d'') ∧ W.cell? ⟨w.heap.size, 0, none⟩ = some (.int .i64 g.n)) := fun W hW => ⟨hW.cell hcell, hW.cell hcell', hW.cell hN⟩
      clear hri hri'
      generalize hf : formedB' g.n (way more kk) = bf at K40
      have HF := hid hf
      clear hf
      cases bf with
      | false =>
        go_wp2_with fail
        have hcp : ∀ p : ExtOf wr, p.W.cell? (ad.add (kk * 2)) = some (.slice B m d') := fun p => p.h.cell hcell
        have hcp' : ∀ p : ExtOf wr, p.W.cell? ⟨(ad.add (kk * 2)).block, (ad.add (kk * 2)).off + 1, none⟩ = some (.slice B' m' d'') := fun p => p.h.cell hcell'
        have hnp : ∀ p : ExtOf wr, p.W.cell? ⟨w.heap.size, 0, none⟩ = some (.int .i64 g.n) := fun p => p.h.cell hN
        clear hcell hcell' hN
        have K40p : Hid (∀ p : ExtOf wr, Calls Tryz.prog 40 #[.agg #[.slice B m d', .slice B' m' d''], .int .i64 g.n] p.W fun e w' => e = .returned (.bool false) ∧ Ext p.W w') := fun p => K40.out p.W p.h
        clear K40
        refine wp_region_qw mixed' (by kernel_rfl) ?_
        repeat (refine QW.step (fun K hK => ?_); go_simp; first | (refine hK _ ?_; clear hK K) | (apply Exists.intro; refine ⟨fun _ => ?_, hK _ ?_⟩; (exact Calls.ext_of (K40p.out _)); clear hK K))
        refine QW.nil ?_
        rintro _ ⟨p1, rfl⟩
        obtain ⟨w1, hw1⟩ := p1
        dsimp only
        have HXr : Hid (Ext wr w1) := hw1
        clear hcp hcp' hnp hw1 K40p
        go_wp2_with fail
        go_ret
        exact ⟨rfl, ((HX0.out.trans XL.out).trans HE.out).trans HXr.out⟩
      | true =>
        go_wp2_with fail
        have hcp : ∀ p : ExtOf wr, p.W.cell? (ad.add (kk * 2)) = some (.slice B m d') := fun p => p.h.cell hcell
        have hcp' : ∀ p : ExtOf wr, p.W.cell? ⟨(ad.add (kk * 2)).block, (ad.add (kk * 2)).off + 1, none⟩ = some (.slice B' m' d'') := fun p => p.h.cell hcell'
        have hnp : ∀ p : ExtOf wr, p.W.cell? ⟨w.heap.size, 0, none⟩ = some (.int .i64 g.n) := fun p => p.h.cell hN
        clear hcell hcell' hN
        have K40p : Hid (∀ p : ExtOf wr, Calls Tryz.prog 40 #[.agg #[.slice B m d', .slice B' m' d''], .int .i64 g.n] p.W fun e w' => e = .returned (.bool true) ∧ Ext p.W w') := fun p => K40.out p.W p.h
        clear K40
        refine wp_region_qw mixed' (by kernel_rfl) ?_
        repeat (refine QW.step (fun K hK => ?_); go_simp; first | (refine hK _ ?_; clear hK K) | (apply Exists.intro; refine ⟨fun _ => ?_, hK _ ?_⟩; (exact Calls.ext_of (K40p.out _)); clear hK K))
        refine QW.nil ?_
        rintro _ ⟨p1, rfl⟩
        obtain ⟨w1, hw1⟩ := p1
        dsimp only
        have HXr : Hid (Ext wr w1) := hw1
        clear hcp hcp' hnp hw1 K40p
        go_wp2_with fail
        go_roundg (mn - (kk + 1))
        case measure => omega
        case rel =>
          refine ⟨kk + 1, by omega, by omega, by go_num, HE.out.trans HXr.out, (show Aside _ from fun j hj => ?_)⟩
          rcases Nat.lt_or_ge j kk with h1 | h1
          · exact AA.out j h1
          · obtain rfl : j = kk := by omega
            exact HF.out
    · have hltz : ¬ (kk : Int) < (mn : Int) := by omega
      have e57 : Hid (Ext w5 w7) := Ext.trans (Ext.alloc (Ext.refl _) _) E4.out
      have hg3 : en ≤ 1000 ∧ (∀ e ∈ g.edges, e.length ≤ 10) ∧ g.n ≤ 100 := by
        have h1 := HY.out.1
        unfold smallB at h1
        simp only [Bool.and_eq_true, decide_eq_true_eq, List.all_eq_true] at h1
        have := HG.out.edges.len
        exact ⟨by omega, h1.1.2.1, by omega⟩
      have K1 : Hid (∀ W, Ext w7 W → Calls Tryz.prog 34 #[.agg #[.int .i64 g.n, .slice CA cn cc, .slice EA en ec], .slice WA wn wc, .bool false, .agg #[.slice SA sn sc]] W fun e w' => e = .returned (.bool (checkB g ws false ss)) ∧ Ext W w') := fun W hW => check_any CA EA WA SA cn cc en ec wn wc sn sc g _ _ false W ⟨HG.out.ext ((HX0.out.trans XL.out).trans hW), (HW.out.ext ((HX0.out.trans XL.out).trans hW)), hg3.1, hg3.2.1, hg3.2.2⟩ (HP.out.ext ((HX0.out.trans XL.out).trans hW))
      have K2 : Hid (∀ W, Ext w7 W → Calls Tryz.prog 34 #[.agg #[.int .i64 g.n, .slice CA cn cc, .slice EA en ec], .slice AW (wn + mn) cW, .bool false, .agg #[.slice SA sn sc]] W fun e w' => e = .returned (.bool (checkB g (ws ++ more) false ss)) ∧ Ext W w') := fun W hW => check_any CA EA AW SA cn cc en ec (wn + mn) cW sn sc g _ _ false W ⟨HG.out.ext ((HX0.out.trans XL.out).trans hW), (HRW.out.ext hW), hg3.1, hg3.2.1, hg3.2.2⟩ (HP.out.ext ((HX0.out.trans XL.out).trans hW))
      have K3 : Hid (∀ W, Ext w7 W → Calls Tryz.prog 34 #[.agg #[.int .i64 g.n, .slice CA cn cc, .slice EA en ec], .slice WA wn wc, .bool false, .agg #[.slice AL (sn + ln) cL]] W fun e w' => e = .returned (.bool (checkB g ws false (ss ++ l))) ∧ Ext W w') := fun W hW => check_any CA EA WA AL cn cc en ec wn wc (sn + ln) cL g _ _ false W ⟨HG.out.ext ((HX0.out.trans XL.out).trans hW), (HW.out.ext ((HX0.out.trans XL.out).trans hW)), hg3.1, hg3.2.1, hg3.2.2⟩ (HRL.out.ext (e57.out.trans hW))
      have K4 : Hid (∀ W, Ext w7 W → Calls Tryz.prog 34 #[.agg #[.int .i64 g.n, .slice CA cn cc, .slice EA en ec], .slice AW (wn + mn) cW, .bool true, .agg #[.slice SA sn sc]] W fun e w' => e = .returned (.bool (checkB g (ws ++ more) true ss)) ∧ Ext W w') := fun W hW => check_any CA EA AW SA cn cc en ec (wn + mn) cW sn sc g _ _ true W ⟨HG.out.ext ((HX0.out.trans XL.out).trans hW), (HRW.out.ext hW), hg3.1, hg3.2.1, hg3.2.2⟩ (HP.out.ext ((HX0.out.trans XL.out).trans hW))
      have K5 : Hid (∀ W, Ext w7 W → Calls Tryz.prog 34 #[.agg #[.int .i64 g.n, .slice CA cn cc, .slice EA en ec], .slice WA wn wc, .bool true, .agg #[.slice SA sn sc]] W fun e w' => e = .returned (.bool (checkB g ws true ss)) ∧ Ext W w') := fun W hW => check_any CA EA WA SA cn cc en ec wn wc sn sc g _ _ true W ⟨HG.out.ext ((HX0.out.trans XL.out).trans hW), (HW.out.ext ((HX0.out.trans XL.out).trans hW)), hg3.1, hg3.2.1, hg3.2.2⟩ (HP.out.ext ((HX0.out.trans XL.out).trans hW))
      have K6 : Hid (∀ W, Ext w7 W → Calls Tryz.prog 34 #[.agg #[.int .i64 g.n, .slice CA cn cc, .slice EA en ec], .slice AW (wn + mn) cW, .bool true, .agg #[.slice AL (sn + ln) cL]] W fun e w' => e = .returned (.bool (checkB g (ws ++ more) true (ss ++ l))) ∧ Ext W w') := fun W hW => check_any CA EA AW AL cn cc en ec (wn + mn) cW (sn + ln) cL g _ _ true W ⟨HG.out.ext ((HX0.out.trans XL.out).trans hW), (HRW.out.ext hW), hg3.1, hg3.2.1, hg3.2.2⟩ (HRL.out.ext (e57.out.trans hW))
      have QQ : Hid (∀ W, Ext w7 W → W.cell? ⟨w.heap.size, 0, none⟩ = some (.int .i64 g.n) ∧ W.cell? ⟨w.heap.size, 1, none⟩ = some (.slice CA cn cc) ∧ W.cell? ⟨w.heap.size, 2, none⟩ = some (.slice EA en ec) ∧ W.cell? ⟨w.heap.size + 1, 0, none⟩ = some (.slice SA sn sc) ∧ W.cell? ⟨w5.heap.size, 0, none⟩ = some (.slice AL (sn + ln) cL)) := fun W hW => by
        have hq := QB.out W (XL.out.trans hW)
        exact ⟨hq.1, hq.2.1, hq.2.2.1, hq.2.2.2, (E4.out.trans hW).cell (cellNew rfl)⟩
      have hF : ∀ x ∈ more, Verts x.pos g.n ∧ Verts x.neg g.n := fun x hx => by
        obtain ⟨i, hi, e1⟩ := List.mem_iff_getElem.1 hx
        have h1 := AA.out i (by have := HM.out.len; omega)
        rw [way_eq hi, e1] at h1
        unfold formedB' at h1
        simpa using h1
      have hl400 : (ws ++ more).length ≤ 400 := by rw [List.length_append, HW.out.len, HM.out.len]; omega
      have hl5 : (ss ++ l).length ≤ 100000 := by rw [List.length_append, HP.out.len, HL.out.len]; omega
      have L1 : Hid (checkB g ws false ss = true → checkB g (ws ++ more) false ss = true ∧ checkB g ws false (ss ++ l) = true) := fun h => ⟨check_more_ways h hF hl400, check_longer h hl5⟩
      have L2 : Hid (checkB g (ws ++ more) true ss = true → checkB g ws true ss = true ∧ checkB g (ws ++ more) true (ss ++ l) = true) := fun h => ⟨check_fewer_ways h, check_longer h hl5⟩
      obtain ⟨n0, n1, n2, n3, n4⟩ := QQ.out wr HE.out
      clear hF hl400 hl5 hg3
      generalize checkB g ws false ss = b1 at K1 L1
      generalize checkB g (ws ++ more) false ss = b2 at K2 L1
      generalize checkB g ws false (ss ++ l) = b3 at K3 L1
      generalize checkB g (ws ++ more) true ss = b4 at K4 L2
      generalize checkB g ws true ss = b5 at K5 L2
      generalize checkB g (ws ++ more) true (ss ++ l) = b6 at K6 L2
      have X1 : b1 = false ∨ (b1 = true ∧ b2 = true ∧ b3 = true) := by cases b1 with | false => exact .inl rfl | true => exact .inr ⟨rfl, L1.out rfl⟩
      have X2 : b4 = false ∨ (b4 = true ∧ b5 = true ∧ b6 = true) := by cases b4 with | false => exact .inl rfl | true => exact .inr ⟨rfl, L2.out rfl⟩
      clear L1 L2
      rcases X1 with rfl | ⟨rfl, rfl, rfl⟩
      · rcases X2 with rfl | ⟨rfl, rfl, rfl⟩
        all_goals
          go_wp2_with (first
            | (go_at_call 34; (with_reducible refine (K1.out _ HE.out).mono ?_); rintro e w8 ⟨rfl, x8⟩; have HE := hid (HE.out.trans x8); obtain ⟨n0, n1, n2, n3, n4⟩ := QQ.out w8 HE.out; clear x8)
            | (go_at_call 34; (with_reducible refine (K4.out _ HE.out).mono ?_); rintro e w8 ⟨rfl, x8⟩; have HE := hid (HE.out.trans x8); obtain ⟨n0, n1, n2, n3, n4⟩ := QQ.out w8 HE.out; clear x8)
            | (go_at_call 34; (with_reducible refine (K5.out _ HE.out).mono ?_); rintro e w8 ⟨rfl, x8⟩; have HE := hid (HE.out.trans x8); obtain ⟨n0, n1, n2, n3, n4⟩ := QQ.out w8 HE.out; clear x8)
            | (go_at_call 34; (with_reducible refine (K6.out _ HE.out).mono ?_); rintro e w8 ⟨rfl, x8⟩; have HE := hid (HE.out.trans x8); obtain ⟨n0, n1, n2, n3, n4⟩ := QQ.out w8 HE.out; clear x8))
          go_ret
          exact ⟨by simp, (HX0.out.trans XL.out).trans HE.out⟩
      · rcases X2 with rfl | ⟨rfl, rfl, rfl⟩
        all_goals
          go_wp2_with (first
            | (go_at_call 34; (with_reducible refine (K1.out _ HE.out).mono ?_); rintro e w8 ⟨rfl, x8⟩; have HE := hid (HE.out.trans x8); obtain ⟨n0, n1, n2, n3, n4⟩ := QQ.out w8 HE.out; clear x8)
            | (go_at_call 34; (with_reducible refine (K2.out _ HE.out).mono ?_); rintro e w8 ⟨rfl, x8⟩; have HE := hid (HE.out.trans x8); obtain ⟨n0, n1, n2, n3, n4⟩ := QQ.out w8 HE.out; clear x8)
            | (go_at_call 34; (with_reducible refine (K3.out _ HE.out).mono ?_); rintro e w8 ⟨rfl, x8⟩; have HE := hid (HE.out.trans x8); obtain ⟨n0, n1, n2, n3, n4⟩ := QQ.out w8 HE.out; clear x8)
            | (go_at_call 34; (with_reducible refine (K4.out _ HE.out).mono ?_); rintro e w8 ⟨rfl, x8⟩; have HE := hid (HE.out.trans x8); obtain ⟨n0, n1, n2, n3, n4⟩ := QQ.out w8 HE.out; clear x8)
            | (go_at_call 34; (with_reducible refine (K5.out _ HE.out).mono ?_); rintro e w8 ⟨rfl, x8⟩; have HE := hid (HE.out.trans x8); obtain ⟨n0, n1, n2, n3, n4⟩ := QQ.out w8 HE.out; clear x8)
            | (go_at_call 34; (with_reducible refine (K6.out _ HE.out).mono ?_); rintro e w8 ⟨rfl, x8⟩; have HE := hid (HE.out.trans x8); obtain ⟨n0, n1, n2, n3, n4⟩ := QQ.out w8 HE.out; clear x8))
          go_ret
          exact ⟨by simp, (HX0.out.trans XL.out).trans HE.out⟩
end Go.Proofs.YthjifmfmaiagoaaGreatDoor

/- ProofMonotone: the law's function returns true, whatever comes in. -/
namespace Go.Proofs.YthjifmfmaiagoaaGreatDoor
open Go.RowKit
theorem mono_any (CA EA WA MA SA LA : Option Addr) (cn cc en ec wn wc mn mc sn sc ln lc : Nat) (g : Graph) (ws more : List Way) (ss l : List Step) (w : World)
    (h : RG w CA cn cc EA en ec g) (hw : RW w WA wn wc ws) (hm : RW w MA mn mc more) (hp : RS w SA sn sc ss) (hl : RS w LA ln lc l) (hwn : WA = none → wc = 0) (hmn : MA = none → mc = 0) (hpn : SA = none → sc = 0) (hln0 : LA = none → lc = 0) :
    Calls Tryz.prog 8 #[.agg #[.int .i64 g.n, .slice CA cn cc, .slice EA en ec], .slice WA wn wc, .slice MA mn mc, .agg #[.slice SA sn sc], .slice LA ln lc] w fun e w' => e = .returned (.bool true) ∧ Ext w w' := by
  by_cases hno : (smallB g 12 40 && fewB ws sn 200) = true ∧ (smallB g 12 40 && fewB more sn 200) = true ∧ ln ≤ 60
  · exact mono_main CA EA WA MA SA LA cn cc en ec wn wc mn mc sn sc ln lc g ws more ss l w h hw hm hp hl hwn hmn hpn hln0 hno.1 hno.2.1 hno.2.2
  · exact mono_early CA EA WA MA SA LA cn cc en ec wn wc mn mc sn sc ln lc g ws more ss l w h hw hm hp hl hno
end Go.Proofs.YthjifmfmaiagoaaGreatDoor

/- What all rows share: the door's world meets the condition; a law that returns true and turns nothing meets its row. -/
namespace Go.Proofs.YthjifmfmaiagoaaGreatDoor
open Go.ChangeShapes Go.WideShapes Go.ChangeAt Go.RowKit

theorem own : ownKnob Tryz.prog.godebug = none := by kernel_rfl
abbrev laidM : List (String × DataW Unit) := Rows.proofMonotoneRow.laid
theorem door_met (os : Os) (args : Array Value) : laidMetH Tryz.prog laidM ((World.doorLaid Tryz.prog 4000 os).forCall (fun _ _ => 0) ⟨#[], args, []⟩).memory :=
  laidMetH_of_parts3 (fuel := 8) (laidMet_of_run' 8 (by kernel_rfl) (by kernel_rfl)) (by kernel_rfl) (by kernel_rfl)
theorem laid_out : laidOutB Tryz.prog = true := by kernel_rfl
noncomputable def readAll (ts : List TypeId) : Bool := ts.all fun t => Tryz.prog.readableRec t && decide (t < Tryz.prog.types.size)
set_option maxRecDepth 100000 in
theorem trodAll_keep {H : Type} {enc : TypeId × Value → H} {W W' : World} (hb : Ext W W') (ts : List TypeId) : ∀ (vs : List Value) (ds : List (DataW H)) (ps : List MemPlace), readAll ts = true → (∀ x ∈ ps, x.block < W.heap.size) →
    DataW.TrodAll enc Tryz.prog W 0 (fun _ => true) true ts vs ds ps → DataW.TrodAll enc Tryz.prog W' 0 (fun b => decide (b < W.heap.size)) true ts vs ds ps := by
  induction ts with
  | nil =>
    intro vs ds ps _ _ h
    obtain ⟨rfl, rfl, rfl⟩ := trodAll_nil h
    exact trodAll_mk0
  | cons t ts ih =>
    intro vs ds ps hr hlt h
    obtain ⟨v, vs', d, ds', p, q, rfl, rfl, rfl, h1, h2⟩ := trodAll_cons h
    have hr' : (Tryz.prog.readableRec t = true ∧ decide (t < Tryz.prog.types.size) = true) ∧ readAll ts = true := by
      unfold readAll at hr ⊢
      rw [List.all_cons, Bool.and_eq_true, Bool.and_eq_true] at hr
      exact hr
    exact ⟨p, q, Below.trod laid_out hr'.1.1 (of_decide_eq_true hr'.1.2) h1 hb (fun x hx => hlt x (List.mem_append_left _ hx)), ih vs' ds' q hr'.2 (fun x hx => hlt x (List.mem_append_right _ hx)) h2, rfl⟩
set_option maxRecDepth 100000 in
theorem post_true {H : Type} {enc : TypeId × Value → H} {f : Func} {s : ChangeSpec} {W W' : World} {args : Array Value} {ds gs : List (DataW H)} {before : List MemPlace}
    (hW : DataW.Whole enc Tryz.prog f.params.toList s.vars false W args.toList ds gs before) (hs : s.vars = []) (hx : Ext W W') (hr : f.resultTypes = #[4])
    (hfn : s.fn H (ds ++ []) = { results := [.lit (.bool true)], args := ds }) (hp : readAll f.params.toList = true) : s.post enc Tryz.prog f false true false false W args (.bool true) W' := by
  have hW' := hW
  obtain ⟨p, q, hA, hV, e, _, _⟩ := hW
  have hlt := hW'.lt
  rw [hs] at hV
  obtain ⟨rfl, rfl⟩ := trodVars_none hV
  subst e
  refine ⟨ds, [], _, [], p, [], hW', ?_, ?_, ?_, hx.frame _, fun h => (by cases h)⟩
  · rw [hfn, hr]
    exact trodAll_mk1 (shut_bool Tryz.underlying4 true)
  · rw [hfn]
    exact trodAll_keep hx _ _ _ _ hp (fun x hx => hlt x (List.mem_append_left _ hx)) hA
  · rw [hs, hfn]
    rfl
end Go.Proofs.YthjifmfmaiagoaaGreatDoor

/- C13: texts H43 H44 H45 A1 A2. -/
import Derived.Laws.EntriesVeiled
import Derived.Test.YthjifmfmaiagoaaGreatDoorC02
import Derived.Test.YthjifmfmaiagoaaGreatDoorC06
import Derived.Test.YthjifmfmaiagoaaGreatDoorC07
import Derived.Test.YthjifmfmaiagoaaGreatDoorC12
set_option linter.all false

/- Claim: its closures. -/
namespace Go.Proofs.YthjifmfmaiagoaaGreatDoor
open Go.RowKit
attribute [local go_sem] Oper.semAt_some

theorem e99 : ∀ args w, (callFunc 99 args).run Tryz.prog w = .ok (.enter 99 args) w := enters_of Tryz.func99 (by kernel_rfl) rfl
theorem e100 : ∀ args w, (callFunc 100 args).run Tryz.prog w = .ok (.enter 100 args) w := enters_of Tryz.func100 (by kernel_rfl) rfl

set_option maxHeartbeats 400000 in
theorem f100_any (b : Nat) (A : Option Addr) (n c : Nat) (l : List Int) (W : World) (hb : W.cell? ⟨b, 0, none⟩ = some (.slice A n c)) (hl : RI W A n c l) (hbig : n < 4611686018427387904) (x : Way) (B B' : Option Addr) (m d m' d' : Nat) (hr : RI W B m d x.pos) (hr' : RI W B' m' d' x.neg) :
    Calls Tryz.prog 100 #[.agg #[.slice B m d, .slice B' m' d'], .pointer (some ⟨b, 0, none⟩)] W fun e w' => e = .returned (.bool (decide (HoldsW x l))) ∧ Ext W w' := by
  have K : Hid (∀ W2, Ext W W2 → Calls Tryz.prog 32 #[.agg #[.slice B m d, .slice B' m' d'], .slice A n c] W2 fun e w' => e = .returned (.bool (decide (HoldsW x l))) ∧ Ext W2 w') := fun W2 h2 => holds_any B B' A m d m' d' n c x l W2 (hr.ext h2) (hr'.ext h2) (hl.ext h2) hbig
  have hb0 : (W.alloc (.cells #[.slice B m d, .slice B' m' d'] 43)).cell? ⟨b, 0, none⟩ = some (.slice A n c) := Ext.cell (by repeat' (first | exact Ext.refl _ | assumption | apply Ext.alloc | apply Ext.drewN | apply Ext.drew)) hb
  clear hb hl hr hr'
  generalize decide (HoldsW x l) = bb at K ⊢
  go_enter Tryz.func100, Tryz.ntmps100
  go_wp2_with (go_at_call 32; refine (K.out _ (by repeat' (first | exact Ext.refl _ | assumption | apply Ext.alloc | apply Ext.drewN | apply Ext.drew))).mono ?_; rintro e w1 ⟨rfl, hx1⟩)
  go_ret
  exact ⟨rfl, Ext.trans (by repeat' (first | exact Ext.refl _ | assumption | apply Ext.alloc | apply Ext.drewN | apply Ext.drew)) hx1⟩
set_option maxHeartbeats 400000 in
theorem f99_any (ws : List Way) (b1 : Nat) (WA A : Option Addr) (wn wc n c : Nat) (l : List Int) (W : World) (hw : RW W WA wn wc ws) (hb1 : W.cell? ⟨b1, 0, none⟩ = some (.slice WA wn wc)) (hl : RI W A n c l) (hbig : n < 4611686018427387904) :
    Calls Tryz.prog 99 #[.slice A n c, .pointer (some ⟨b1, 0, none⟩)] W fun e w' => e = .returned (.bool (holdsAny ws l)) ∧ Ext W w' := by
  have hx0 : Ext W (W.alloc (.cells #[.slice A n c] 22)) := (by repeat' (first | exact Ext.refl _ | assumption | apply Ext.alloc | apply Ext.drewN | apply Ext.drew))
  have K : Hid (Calls Tryz.prog 77 #[.slice WA wn wc, .func (.func 100) #[] #[.pointer (some ⟨W.heap.size, 0, none⟩)]] (W.alloc (.cells #[.slice A n c] 22)) fun e w' => e = .returned (.bool (holdsAny ws l)) ∧ Ext (W.alloc (.cells #[.slice A n c] 22)) w') :=
    f77_ext WA wn wc ws 100 _ e100 _ _ (hw.ext hx0) fun y hy B m d B' m' d' h1 h2 W2 hW2 => f100_any W.heap.size A n c l W2 (Ext.cell hW2 (cellNew rfl)) (hl.ext (hx0.trans hW2)) hbig y B B' m d m' d' (h1.ext hW2) (h2.ext hW2)
  have hb1' := hx0.cell hb1
  clear hw hb1 hl
  generalize holdsAny ws l = bb at K ⊢
  go_enter Tryz.func99, Tryz.ntmps99
  go_wp2_with (go_at_call 77; refine K.out.mono ?_; rintro e w1 ⟨rfl, hx1⟩)
  go_ret
  exact ⟨rfl, hx0.trans hx1⟩

set_option maxRecDepth 100000 in
set_option maxHeartbeats 1000000 in
theorem f101_any (k : CkD) (x : Claim) (b1 b2 b3 b4 : Nat) (A WA : Option Addr) (n c wn wc : Nat) (W : World) (h : Ck k W) (hw : RW W WA wn wc k.ws) (hn1 : k.n ≤ 100) (he10 : ∀ e ∈ k.g.edges, e.length ≤ 10) (hb1 : W.cell? ⟨b1, 0, none⟩ = some (.slice WA wn wc)) (hb2 : W.cell? ⟨b2, 1, none⟩ = some (.slice A n c))
    (hb3 : W.cell? ⟨b3, 0, none⟩ = some (.pointer (some ⟨k.C, 0, none⟩))) (hb4 : W.cell? ⟨b4, 0, none⟩ = some (.func (.func 99) #[] #[.pointer (some ⟨b1, 0, none⟩)])) (hr : RI W A n c x.with_) (hbig : n < 4611686018427387904) :
    Calls Tryz.prog 101 #[.pointer (some ⟨b3, 0, none⟩), .pointer (some ⟨b2, 0, none⟩), .pointer (some ⟨b4, 0, none⟩)] W fun e w' => e = .returned (.bool (repB k.g x.with_ && holdsAny k.ws x.with_)) ∧ Ext W w' := by
  have K1 : Hid (Calls Tryz.prog 102 #[.pointer (some ⟨k.C, 0, none⟩), .slice A n c] W fun e w' => e = .returned (.bool (repB k.g x.with_)) ∧ Ext W w') := repair_any k W h hn1 he10 A n c _ hr
  have K2 : Hid (∀ W2, Ext W W2 → Calls Tryz.prog 99 #[.slice A n c, .pointer (some ⟨b1, 0, none⟩)] W2 fun e w' => e = .returned (.bool (holdsAny k.ws x.with_)) ∧ Ext W2 w') := fun W2 h2 => f99_any k.ws b1 WA A wn wc n c x.with_ W2 (hw.ext h2) (h2.cell hb1) (hr.ext h2) hbig
  have HC : Hid (∀ W2, Ext W W2 → W2.cell? ⟨b2, 1, none⟩ = some (.slice A n c) ∧ W2.cell? ⟨b4, 0, none⟩ = some (.func (.func 99) #[] #[.pointer (some ⟨b1, 0, none⟩)])) := fun W2 h2 => ⟨h2.cell hb2, h2.cell hb4⟩
  have he99 := e99
  clear h hw hr hbig hb1 hb4 he10
  generalize holdsAny k.ws x.with_ = bh at K2 ⊢
  generalize repB k.g x.with_ = br at K1 ⊢
  cases br with
  | false =>
    go_enter Tryz.func101, Tryz.ntmps101
    go_wp2_with (go_at_call 102; refine K1.out.mono ?_; rintro e w2 ⟨rfl, hx2⟩)
    go_ret
    exact ⟨by simp, hx2⟩
  | true =>
    go_enter Tryz.func101, Tryz.ntmps101
    go_wp2_with (first
      | (go_at_call 102; refine K1.out.mono ?_; rintro e w2 ⟨rfl, hx2⟩; have HX2 := hid hx2; obtain ⟨d2, d4⟩ := HC.out w2 hx2; clear hx2)
      | (go_at_call 99; refine (K2.out _ HX2.out).mono ?_; rintro e w3 ⟨rfl, hx3⟩; have HX3 := hid hx3; clear hx3))
    go_ret
    exact ⟨by simp, HX2.out.trans HX3.out⟩

set_option maxRecDepth 100000 in
set_option maxHeartbeats 1000000 in
theorem f103_any (k : CkD) (x : Claim) (b1 b2 b3 b4 : Nat) (A WA : Option Addr) (n c wn wc : Nat) (W : World) (h : Ck k W) (hw : RW W WA wn wc k.ws) (hn1 : k.n ≤ 100) (he10 : ∀ e ∈ k.g.edges, e.length ≤ 10) (hb1 : W.cell? ⟨b1, 0, none⟩ = some (.slice WA wn wc)) (hb2 : W.cell? ⟨b2, 2, none⟩ = some (.slice A n c))
    (hb3 : W.cell? ⟨b3, 0, none⟩ = some (.pointer (some ⟨k.C, 0, none⟩))) (hb4 : W.cell? ⟨b4, 0, none⟩ = some (.func (.func 99) #[] #[.pointer (some ⟨b1, 0, none⟩)])) (hr : RI W A n c x.without) (hbig : n < 4611686018427387904) :
    Calls Tryz.prog 103 #[.pointer (some ⟨b3, 0, none⟩), .pointer (some ⟨b2, 0, none⟩), .pointer (some ⟨b4, 0, none⟩)] W fun e w' => e = .returned (.bool (repB k.g x.without && !holdsAny k.ws x.without)) ∧ Ext W w' := by
  have K1 : Hid (Calls Tryz.prog 102 #[.pointer (some ⟨k.C, 0, none⟩), .slice A n c] W fun e w' => e = .returned (.bool (repB k.g x.without)) ∧ Ext W w') := repair_any k W h hn1 he10 A n c _ hr
  have K2 : Hid (∀ W2, Ext W W2 → Calls Tryz.prog 99 #[.slice A n c, .pointer (some ⟨b1, 0, none⟩)] W2 fun e w' => e = .returned (.bool (holdsAny k.ws x.without)) ∧ Ext W2 w') := fun W2 h2 => f99_any k.ws b1 WA A wn wc n c x.without W2 (hw.ext h2) (h2.cell hb1) (hr.ext h2) hbig
  have HC : Hid (∀ W2, Ext W W2 → W2.cell? ⟨b2, 2, none⟩ = some (.slice A n c) ∧ W2.cell? ⟨b4, 0, none⟩ = some (.func (.func 99) #[] #[.pointer (some ⟨b1, 0, none⟩)])) := fun W2 h2 => ⟨h2.cell hb2, h2.cell hb4⟩
  have he99 := e99
  clear h hw hr hbig hb1 hb4 he10
  generalize holdsAny k.ws x.without = bh at K2 ⊢
  generalize repB k.g x.without = br at K1 ⊢
  cases br with
  | false =>
    go_enter Tryz.func103, Tryz.ntmps103
    go_wp2_with (go_at_call 102; refine K1.out.mono ?_; rintro e w2 ⟨rfl, hx2⟩)
    go_ret
    exact ⟨by simp, hx2⟩
  | true =>
    go_enter Tryz.func103, Tryz.ntmps103
    go_wp2_with (first
      | (go_at_call 102; refine K1.out.mono ?_; rintro e w2 ⟨rfl, hx2⟩; have HX2 := hid hx2; obtain ⟨d2, d4⟩ := HC.out w2 hx2; clear hx2)
      | (go_at_call 99; refine (K2.out _ HX2.out).mono ?_; rintro e w3 ⟨rfl, hx3⟩; have HX3 := hid hx3; clear hx3))
    go_ret
    exact ⟨by simp, HX2.out.trans HX3.out⟩

end Go.Proofs.YthjifmfmaiagoaaGreatDoor

/- Claim. -/
namespace Go.Proofs.YthjifmfmaiagoaaGreatDoor
open Go.RowKit
attribute [local go_sem] Oper.semAt_some

theorem e101 : ∀ args w, (callFunc 101 args).run Tryz.prog w = .ok (.enter 101 args) w := enters_of Tryz.func101 (by kernel_rfl) rfl
theorem e103 : ∀ args w, (callFunc 103 args).run Tryz.prog w = .ok (.enter 103 args) w := enters_of Tryz.func103 (by kernel_rfl) rfl
theorem Rdy.ext {k : CkD} {w w' : World} (h : Rdy k w) (e : Ext w w') : Rdy k w' :=
  { ck := h.ck.fr (Fr.ext e), hC := h.hC, lV := Nat.lt_of_lt_of_le h.lV e.size, neC := h.neC
    grid := by
      obtain ⟨B, vals, hg, hB⟩ := h.grid
      exact ⟨B, vals, hg.ext e, hB⟩
    row := h.row.ext e }
/-- The verdict's case, its parts given. -/
def caseB (v : Int) (n1 n2 sn : Nat) (bw bo s0 s1 : Bool) : Bool :=
  if v = 0 then decide (n1 + n2 + sn = 0) else if v = 1 then decide (n2 = 0) && bw && s0 else if v = 3 then decide (n1 = 0) && bo && s1 else if v = 2 then decide (sn = 0) && bw && bo else false
theorem claim_case {g : Graph} {ws : List Way} (x : Claim) (h : readyB g ws = true) : claimB g ws x = caseB x.verdict x.with_.length x.without.length x.steps.length (repB g x.with_ && holdsAny ws x.with_) (repB g x.without && !holdsAny ws x.without) (showsB g ws false x.steps) (showsB g ws true x.steps) := by
  unfold claimB caseB
  rw [check_eq, check_eq, h]
  simp only [Bool.true_and]

set_option maxRecDepth 100000 in
set_option maxHeartbeats 4000000 in
theorem claim_any (CA EA WA A1 A2 SA : Option Addr) (cn cc en ec wn wc n1 c1 n2 c2 sn sc : Nat) (g : Graph) (ws : List Way) (x : Claim) (w : World) (h : Given w CA cn cc EA en ec WA wn wc g ws) (h1 : RI w A1 n1 c1 x.with_) (h2 : RI w A2 n2 c2 x.without) (hs : RS w SA sn sc x.steps) (hb1 : n1 ≤ 1000000) (hb2 : n2 ≤ 1000000) (hb3 : sn ≤ 1000000) :
    Calls Tryz.prog 36 #[.agg #[.int .i64 g.n, .slice CA cn cc, .slice EA en ec], .slice WA wn wc, .agg #[.int .i64 x.verdict, .slice A1 n1 c1, .slice A2 n2 c2, .slice SA sn sc]] w fun e w' => e = .returned (.bool (claimB g ws x)) ∧ Ext w w' := by
  have hx1 : Ext w (((w.alloc (.cells #[.int .i64 g.n, .slice CA cn cc, .slice EA en ec] 25)).alloc (.cells #[.slice WA wn wc] 26)).alloc (.cells #[.int .i64 x.verdict, .slice A1 n1 c1, .slice A2 n2 c2, .slice SA sn sc] 38)) := (by repeat' (first | exact Ext.refl _ | assumption | apply Ext.alloc | apply Ext.drewN | apply Ext.drew))
  have HX := hid hx1
  cases hr : readyB g ws with
  | false =>
    have hcl : claimB g ws x = false := by unfold claimB; rw [hr]; rfl
    rw [hcl]
    have K : Hid (Calls Tryz.prog 95 #[.agg #[.int .i64 g.n, .slice CA cn cc, .slice EA en ec], .slice WA wn wc] (((w.alloc (.cells #[.int .i64 g.n, .slice CA cn cc, .slice EA en ec] 25)).alloc (.cells #[.slice WA wn wc] 26)).alloc (.cells #[.int .i64 x.verdict, .slice A1 n1 c1, .slice A2 n2 c2, .slice SA sn sc] 38)) fun e w' => e = .returned (.tuple #[.pointer none, .bool false]) ∧ Ext (((w.alloc (.cells #[.int .i64 g.n, .slice CA cn cc, .slice EA en ec] 25)).alloc (.cells #[.slice WA wn wc] 26)).alloc (.cells #[.int .i64 x.verdict, .slice A1 n1 c1, .slice A2 n2 c2, .slice SA sn sc] 38)) w') := ready_bad CA EA WA cn cc en ec wn wc g ws _ (h.ext hx1) hr
    clear h h1 h2 hs hr hcl hx1
    obtain ⟨N, cost, edges⟩ := g
    obtain ⟨xv, xw, xo, xs⟩ := x
    simp only [] at *
    go_enter Tryz.func36, Tryz.ntmps36
    go_wp2_with (go_at_call 95; refine K.out.mono ?_; rintro e w2 ⟨rfl, hx2⟩; have HX2 := hid hx2; clear hx2)
    go_ret
    exact ⟨rfl, Ext.trans HX.out (Ext.trans HX2.out (by repeat' (first | exact Ext.refl _ | assumption | apply Ext.alloc | apply Ext.drewN | apply Ext.drew)))⟩
  | true =>
    have K : Hid (Calls Tryz.prog 95 #[.agg #[.int .i64 g.n, .slice CA cn cc, .slice EA en ec], .slice WA wn wc] (((w.alloc (.cells #[.int .i64 g.n, .slice CA cn cc, .slice EA en ec] 25)).alloc (.cells #[.slice WA wn wc] 26)).alloc (.cells #[.int .i64 x.verdict, .slice A1 n1 c1, .slice A2 n2 c2, .slice SA sn sc] 38)) fun e w' => ∃ k : CkD, e = .returned (.tuple #[.pointer (some ⟨k.C, 0, none⟩), .bool true]) ∧ k.w0 = (((w.alloc (.cells #[.int .i64 g.n, .slice CA cn cc, .slice EA en ec] 25)).alloc (.cells #[.slice WA wn wc] 26)).alloc (.cells #[.int .i64 x.verdict, .slice A1 n1 c1, .slice A2 n2 c2, .slice SA sn sc] 38)) ∧ k.g = g ∧ k.ws = ws ∧ Ext (((w.alloc (.cells #[.int .i64 g.n, .slice CA cn cc, .slice EA en ec] 25)).alloc (.cells #[.slice WA wn wc] 26)).alloc (.cells #[.int .i64 x.verdict, .slice A1 n1 c1, .slice A2 n2 c2, .slice SA sn sc] 38)) w' ∧ Rdy k w') := ready_good CA EA WA cn cc en ec wn wc g ws _ (h.ext hx1) hr
    have HK : Hid (∀ (k : CkD) (w2 : World), k.w0 = (((w.alloc (.cells #[.int .i64 g.n, .slice CA cn cc, .slice EA en ec] 25)).alloc (.cells #[.slice WA wn wc] 26)).alloc (.cells #[.int .i64 x.verdict, .slice A1 n1 c1, .slice A2 n2 c2, .slice SA sn sc] 38)) → k.g = g → k.ws = ws → Ext (((w.alloc (.cells #[.int .i64 g.n, .slice CA cn cc, .slice EA en ec] 25)).alloc (.cells #[.slice WA wn wc] 26)).alloc (.cells #[.int .i64 x.verdict, .slice A1 n1 c1, .slice A2 n2 c2, .slice SA sn sc] 38)) w2 → Rdy k w2 →
        (∀ W, Ext ((w2.alloc (.cells #[.pointer (some ⟨k.C, 0, none⟩)] 104)).alloc (.cells #[.func (.func 99) #[] #[.pointer (some ⟨w.heap.size + 1, 0, none⟩)]] 97)) W → Calls Tryz.prog 101 #[.pointer (some ⟨w2.heap.size, 0, none⟩), .pointer (some ⟨w.heap.size + 2, 0, none⟩), .pointer (some ⟨w2.heap.size + 1, 0, none⟩)] W fun e w' => e = .returned (.bool (repB g x.with_ && holdsAny ws x.with_)) ∧ Ext W w') ∧
        (∀ W, Ext ((w2.alloc (.cells #[.pointer (some ⟨k.C, 0, none⟩)] 104)).alloc (.cells #[.func (.func 99) #[] #[.pointer (some ⟨w.heap.size + 1, 0, none⟩)]] 97)) W → Calls Tryz.prog 103 #[.pointer (some ⟨w2.heap.size, 0, none⟩), .pointer (some ⟨w.heap.size + 2, 0, none⟩), .pointer (some ⟨w2.heap.size + 1, 0, none⟩)] W fun e w' => e = .returned (.bool (repB g x.without && !holdsAny ws x.without)) ∧ Ext W w') ∧
        (∀ hold W, Ext ((w2.alloc (.cells #[.pointer (some ⟨k.C, 0, none⟩)] 104)).alloc (.cells #[.func (.func 99) #[] #[.pointer (some ⟨w.heap.size + 1, 0, none⟩)]] 97)) W → Calls Tryz.prog 96 #[.pointer (some ⟨k.C, 0, none⟩), .agg #[.slice SA sn sc], .bool hold] W fun e w' => e = .returned (.bool (if hold = true then showsB g ws true x.steps else showsB g ws false x.steps)) ∧ Ext (((w.alloc (.cells #[.int .i64 g.n, .slice CA cn cc, .slice EA en ec] 25)).alloc (.cells #[.slice WA wn wc] 26)).alloc (.cells #[.int .i64 x.verdict, .slice A1 n1 c1, .slice A2 n2 c2, .slice SA sn sc] 38)) w') ∧
        (∀ W, Ext ((w2.alloc (.cells #[.pointer (some ⟨k.C, 0, none⟩)] 104)).alloc (.cells #[.func (.func 99) #[] #[.pointer (some ⟨w.heap.size + 1, 0, none⟩)]] 97)) W → W.cell? ⟨w.heap.size + 2, 0, none⟩ = some (.int .i64 x.verdict) ∧ W.cell? ⟨w.heap.size + 2, 1, none⟩ = some (.slice A1 n1 c1) ∧ W.cell? ⟨w.heap.size + 2, 2, none⟩ = some (.slice A2 n2 c2) ∧ W.cell? ⟨w.heap.size + 2, 3, none⟩ = some (.slice SA sn sc) ∧ W.cell? ⟨w2.heap.size, 0, none⟩ = some (.pointer (some ⟨k.C, 0, none⟩)))) := by
      intro k w2 e1 e2 e3 x2 hk
      have xA : Ext w2 ((w2.alloc (.cells #[.pointer (some ⟨k.C, 0, none⟩)] 104)).alloc (.cells #[.func (.func 99) #[] #[.pointer (some ⟨w.heap.size + 1, 0, none⟩)]] 97)) := (by repeat' (first | exact Ext.refl _ | assumption | apply Ext.alloc | apply Ext.drewN | apply Ext.drew))
      have cl : ∀ W, Ext ((w2.alloc (.cells #[.pointer (some ⟨k.C, 0, none⟩)] 104)).alloc (.cells #[.func (.func 99) #[] #[.pointer (some ⟨w.heap.size + 1, 0, none⟩)]] 97)) W → W.cell? ⟨w.heap.size + 2, 0, none⟩ = some (.int .i64 x.verdict) ∧ W.cell? ⟨w.heap.size + 2, 1, none⟩ = some (.slice A1 n1 c1) ∧ W.cell? ⟨w.heap.size + 2, 2, none⟩ = some (.slice A2 n2 c2) ∧ W.cell? ⟨w.heap.size + 2, 3, none⟩ = some (.slice SA sn sc) := fun W hW => by
        have hh := heap_alloc_new ((w.alloc (.cells #[.int .i64 g.n, .slice CA cn cc, .slice EA en ec] 25)).alloc (.cells #[.slice WA wn wc] 26)) (.cells #[.int .i64 x.verdict, .slice A1 n1 c1, .slice A2 n2 c2, .slice SA sn sc] 38)
        have hz : ((w.alloc (.cells #[.int .i64 g.n, .slice CA cn cc, .slice EA en ec] 25)).alloc (.cells #[.slice WA wn wc] 26)).heap.size = w.heap.size + 2 := by simp
        rw [hz] at hh
        have hx : Ext (((w.alloc (.cells #[.int .i64 g.n, .slice CA cn cc, .slice EA en ec] 25)).alloc (.cells #[.slice WA wn wc] 26)).alloc (.cells #[.int .i64 x.verdict, .slice A1 n1 c1, .slice A2 n2 c2, .slice SA sn sc] 38)) W := (x2.trans xA).trans hW
        exact ⟨hx.cell (cell_heap hh 0).1, hx.cell (cell_heap hh 1).1, hx.cell (cell_heap hh 2).1, hx.cell (cell_heap hh 3).1⟩
      have cW : (((w.alloc (.cells #[.int .i64 g.n, .slice CA cn cc, .slice EA en ec] 25)).alloc (.cells #[.slice WA wn wc] 26)).alloc (.cells #[.int .i64 x.verdict, .slice A1 n1 c1, .slice A2 n2 c2, .slice SA sn sc] 38)).cell? ⟨w.heap.size + 1, 0, none⟩ = some (.slice WA wn wc) := Ext.cell (w := (w.alloc (.cells #[.int .i64 g.n, .slice CA cn cc, .slice EA en ec] 25)).alloc (.cells #[.slice WA wn wc] 26)) (by repeat' (first | exact Ext.refl _ | assumption | apply Ext.alloc | apply Ext.drewN | apply Ext.drew)) (cellNew (by simp))
      have cb3 : ((w2.alloc (.cells #[.pointer (some ⟨k.C, 0, none⟩)] 104)).alloc (.cells #[.func (.func 99) #[] #[.pointer (some ⟨w.heap.size + 1, 0, none⟩)]] 97)).cell? ⟨w2.heap.size, 0, none⟩ = some (.pointer (some ⟨k.C, 0, none⟩)) := Ext.cell (w := w2.alloc (.cells #[.pointer (some ⟨k.C, 0, none⟩)] 104)) (by repeat' (first | exact Ext.refl _ | assumption | apply Ext.alloc | apply Ext.drewN | apply Ext.drew)) (cellNew rfl)
      have cb4 : ((w2.alloc (.cells #[.pointer (some ⟨k.C, 0, none⟩)] 104)).alloc (.cells #[.func (.func 99) #[] #[.pointer (some ⟨w.heap.size + 1, 0, none⟩)]] 97)).cell? ⟨w2.heap.size + 1, 0, none⟩ = some (.func (.func 99) #[] #[.pointer (some ⟨w.heap.size + 1, 0, none⟩)]) := cellNew (by simp)
      have hwk : k.ws = ws := e3
      have hWA : ∀ W, Ext ((w2.alloc (.cells #[.pointer (some ⟨k.C, 0, none⟩)] 104)).alloc (.cells #[.func (.func 99) #[] #[.pointer (some ⟨w.heap.size + 1, 0, none⟩)]] 97)) W → W.cell? ⟨w.heap.size + 1, 0, none⟩ = some (.slice WA wn wc) := fun W hW => ((x2.trans xA).trans hW).cell cW
      have hk3 := hk.ck.c3
      have hn1 : k.n ≤ 100 := by have h5 := h.n100; have h6 := hk.ck.hn; rw [e2] at h6; omega
      have h10 : ∀ e ∈ k.g.edges, e.length ≤ 10 := by rw [e2]; exact h.small
      have hRW : ∀ W, Ext ((w2.alloc (.cells #[.pointer (some ⟨k.C, 0, none⟩)] 104)).alloc (.cells #[.func (.func 99) #[] #[.pointer (some ⟨w.heap.size + 1, 0, none⟩)]] 97)) W → RW W WA wn wc k.ws := fun W hW => by rw [e3]; exact h.rws.ext ((hx1.trans x2).trans (xA.trans hW))
      refine ⟨fun W hW => ?_, fun W hW => ?_, fun hold W hW => ?_, fun W hW => ?_⟩
      · have := f101_any k x (w.heap.size + 1) (w.heap.size + 2) w2.heap.size (w2.heap.size + 1) A1 WA n1 c1 wn wc W (hk.ck.fr (Fr.ext (xA.trans hW))) (hRW W hW) hn1 h10 (hWA W hW) (cl W hW).2.1 (hW.cell cb3) (hW.cell cb4) (h1.ext ((hx1.trans x2).trans (xA.trans hW))) (by omega)
        rw [e2, e3] at this
        exact this
      · have := f103_any k x (w.heap.size + 1) (w.heap.size + 2) w2.heap.size (w2.heap.size + 1) A2 WA n2 c2 wn wc W (hk.ck.fr (Fr.ext (xA.trans hW))) (hRW W hW) hn1 h10 (hWA W hW) (cl W hW).2.2.1 (hW.cell cb3) (hW.cell cb4) (h2.ext ((hx1.trans x2).trans (xA.trans hW))) (by omega)
        rw [e2, e3] at this
        exact this
      · have := shows_any k W (hk.ext (xA.trans hW)) SA sn sc x.steps (by rw [e1]; exact hs.ext hx1) hold
        rw [e1, e2, e3] at this
        cases hold <;> exact this
      · exact ⟨(cl W hW).1, (cl W hW).2.1, (cl W hW).2.2.1, (cl W hW).2.2.2, hW.cell cb3⟩
    have HAL : Hid (∀ (k : CkD) (w2 : World), Ext w2 ((w2.alloc (.cells #[.pointer (some ⟨k.C, 0, none⟩)] 104)).alloc (.cells #[.func (.func 99) #[] #[.pointer (some ⟨w.heap.size + 1, 0, none⟩)]] 97))) := fun k w2 => (by repeat' (first | exact Ext.refl _ | assumption | apply Ext.alloc | apply Ext.drewN | apply Ext.drew))
    rw [claim_case x hr, h1.len, h2.len, hs.len]
    have he101 := e101
    have he103 := e103
    clear h h1 h2 hs hr hx1
    generalize (repB g x.with_ && holdsAny ws x.with_) = bw at HK ⊢
    generalize (repB g x.without && !holdsAny ws x.without) = bo at HK ⊢
    generalize showsB g ws false x.steps = s0 at HK ⊢
    generalize showsB g ws true x.steps = s1 at HK ⊢
    generalize x.verdict = v at K HK HX ⊢
    unfold caseB
    by_cases v0 : v = 0
    · subst v0
      have ew1 : IntKind.i64.wrap ((n1 : Int) + (n2 : Int)) = (n1 : Int) + (n2 : Int) := IntWalk.i64_in _ (by omega)
      have ew2 : IntKind.i64.wrap ((n1 : Int) + (n2 : Int) + (sn : Int)) = (n1 : Int) + (n2 : Int) + (sn : Int) := IntWalk.i64_in _ (by omega)
      by_cases hs : n1 + n2 + sn = 0
      · obtain ⟨rfl, rfl, rfl⟩ : n1 = 0 ∧ n2 = 0 ∧ sn = 0 := ⟨by omega, by omega, by omega⟩
        go_enter Tryz.func36, Tryz.ntmps36
        go_wp2_with (first
        | (go_at_call 95; go_loud (refine K.out.mono ?_); rintro e w2 ⟨k, rfl, r1, r2, r3, r4, r5⟩; go_loud (obtain ⟨h101, h103, h96, hcl⟩ := HK.out k w2 r1 r2 r3 r4 r5); have H101 := hid h101; have H103 := hid h103; have H96 := hid h96; have HCL := hid hcl; have HR := hid (HX.out.trans r4); go_loud (obtain ⟨q0, q1, q2, q3, q4⟩ := hcl _ (Ext.refl _)); clear h101 h103 h96 r1 r2 r3 r4 r5))
        go_ret
        exact ⟨by simp, HR.out.trans (HAL.out k w2)⟩
      · have dd : ((n1 : Int) + (n2 : Int) + (sn : Int) == 0) = false := by simpa using (show ¬ (n1 : Int) + (n2 : Int) + (sn : Int) = 0 by omega)
        have dq : decide (n1 + n2 + sn = 0) = false := decide_eq_false hs
        go_enter Tryz.func36, Tryz.ntmps36
        go_wp2_with (first
        | (go_at_call 95; go_loud (refine K.out.mono ?_); rintro e w2 ⟨k, rfl, r1, r2, r3, r4, r5⟩; go_loud (obtain ⟨h101, h103, h96, hcl⟩ := HK.out k w2 r1 r2 r3 r4 r5); have H101 := hid h101; have H103 := hid h103; have H96 := hid h96; have HCL := hid hcl; have HR := hid (HX.out.trans r4); go_loud (obtain ⟨q0, q1, q2, q3, q4⟩ := hcl _ (Ext.refl _)); clear h101 h103 h96 r1 r2 r3 r4 r5))
        go_ret
        exact ⟨by simp; omega, HR.out.trans (HAL.out k w2)⟩
    by_cases v1 : v = 1
    · subst v1
      by_cases hs : n2 = 0
      · subst hs
        cases bw with
        | false =>
          go_enter Tryz.func36, Tryz.ntmps36
          go_wp2_with (first
        | (go_at_call 95; go_loud (refine K.out.mono ?_); rintro e w2 ⟨k, rfl, r1, r2, r3, r4, r5⟩; go_loud (obtain ⟨h101, h103, h96, hcl⟩ := HK.out k w2 r1 r2 r3 r4 r5); have H101 := hid h101; have H103 := hid h103; have H96 := hid h96; have HCL := hid hcl; have HR := hid (HX.out.trans r4); go_loud (obtain ⟨q0, q1, q2, q3, q4⟩ := hcl _ (Ext.refl _)); clear h101 h103 h96 r1 r2 r3 r4 r5)
        | (go_at_call 101; refine (H101.out _ (Ext.refl _)).mono ?_; rintro e w3 ⟨rfl, hx3⟩; have HX3 := hid hx3; obtain ⟨p0, p1, p2, p3, p4⟩ := HCL.out w3 HX3.out; clear hx3))
          go_ret
          exact ⟨by simp, (HR.out.trans (HAL.out k w2)).trans HX3.out⟩
        | true =>
          go_enter Tryz.func36, Tryz.ntmps36
          go_wp2_with (first
        | (go_at_call 95; go_loud (refine K.out.mono ?_); rintro e w2 ⟨k, rfl, r1, r2, r3, r4, r5⟩; go_loud (obtain ⟨h101, h103, h96, hcl⟩ := HK.out k w2 r1 r2 r3 r4 r5); have H101 := hid h101; have H103 := hid h103; have H96 := hid h96; have HCL := hid hcl; have HR := hid (HX.out.trans r4); go_loud (obtain ⟨q0, q1, q2, q3, q4⟩ := hcl _ (Ext.refl _)); clear h101 h103 h96 r1 r2 r3 r4 r5)
        | (go_at_call 101; refine (H101.out _ (Ext.refl _)).mono ?_; rintro e w3 ⟨rfl, hx3⟩; have HX3 := hid hx3; obtain ⟨p0, p1, p2, p3, p4⟩ := HCL.out w3 HX3.out; clear hx3)
        | (go_at_call 96; refine (H96.out _ _ HX3.out).mono ?_; rintro e w7 ⟨rfl, hx7⟩; have HX7 := hid hx7; clear hx7))
          go_ret
          exact ⟨by simp, HX.out.trans HX7.out⟩
      · have dd : ((n2 : Int) == 0) = false := by simpa using (show ¬ (n2 : Int) = 0 by omega)
        have dq : decide (n2 = 0) = false := decide_eq_false hs
        go_enter Tryz.func36, Tryz.ntmps36
        go_wp2_with (first
        | (go_at_call 95; go_loud (refine K.out.mono ?_); rintro e w2 ⟨k, rfl, r1, r2, r3, r4, r5⟩; go_loud (obtain ⟨h101, h103, h96, hcl⟩ := HK.out k w2 r1 r2 r3 r4 r5); have H101 := hid h101; have H103 := hid h103; have H96 := hid h96; have HCL := hid hcl; have HR := hid (HX.out.trans r4); go_loud (obtain ⟨q0, q1, q2, q3, q4⟩ := hcl _ (Ext.refl _)); clear h101 h103 h96 r1 r2 r3 r4 r5))
        go_ret
        exact ⟨by simp [dq], HR.out.trans (HAL.out k w2)⟩
    by_cases v3 : v = 3
    · subst v3
      by_cases hs : n1 = 0
      · subst hs
        cases bo with
        | false =>
          go_enter Tryz.func36, Tryz.ntmps36
          go_wp2_with (first
        | (go_at_call 95; go_loud (refine K.out.mono ?_); rintro e w2 ⟨k, rfl, r1, r2, r3, r4, r5⟩; go_loud (obtain ⟨h101, h103, h96, hcl⟩ := HK.out k w2 r1 r2 r3 r4 r5); have H101 := hid h101; have H103 := hid h103; have H96 := hid h96; have HCL := hid hcl; have HR := hid (HX.out.trans r4); go_loud (obtain ⟨q0, q1, q2, q3, q4⟩ := hcl _ (Ext.refl _)); clear h101 h103 h96 r1 r2 r3 r4 r5)
        | (go_at_call 103; refine (H103.out _ (Ext.refl _)).mono ?_; rintro e w5 ⟨rfl, hx5⟩; have HX5 := hid hx5; obtain ⟨p0, p1, p2, p3, p4⟩ := HCL.out w5 HX5.out; clear hx5))
          go_ret
          exact ⟨by simp, (HR.out.trans (HAL.out k w2)).trans HX5.out⟩
        | true =>
          go_enter Tryz.func36, Tryz.ntmps36
          go_wp2_with (first
        | (go_at_call 95; go_loud (refine K.out.mono ?_); rintro e w2 ⟨k, rfl, r1, r2, r3, r4, r5⟩; go_loud (obtain ⟨h101, h103, h96, hcl⟩ := HK.out k w2 r1 r2 r3 r4 r5); have H101 := hid h101; have H103 := hid h103; have H96 := hid h96; have HCL := hid hcl; have HR := hid (HX.out.trans r4); go_loud (obtain ⟨q0, q1, q2, q3, q4⟩ := hcl _ (Ext.refl _)); clear h101 h103 h96 r1 r2 r3 r4 r5)
        | (go_at_call 103; refine (H103.out _ (Ext.refl _)).mono ?_; rintro e w5 ⟨rfl, hx5⟩; have HX5 := hid hx5; obtain ⟨p0, p1, p2, p3, p4⟩ := HCL.out w5 HX5.out; clear hx5)
        | (go_at_call 96; refine (H96.out _ _ HX5.out).mono ?_; rintro e w7 ⟨rfl, hx7⟩; have HX7 := hid hx7; clear hx7))
          go_ret
          exact ⟨by simp, HX.out.trans HX7.out⟩
      · have dd : ((n1 : Int) == 0) = false := by simpa using (show ¬ (n1 : Int) = 0 by omega)
        have dq : decide (n1 = 0) = false := decide_eq_false hs
        go_enter Tryz.func36, Tryz.ntmps36
        go_wp2_with (first
        | (go_at_call 95; go_loud (refine K.out.mono ?_); rintro e w2 ⟨k, rfl, r1, r2, r3, r4, r5⟩; go_loud (obtain ⟨h101, h103, h96, hcl⟩ := HK.out k w2 r1 r2 r3 r4 r5); have H101 := hid h101; have H103 := hid h103; have H96 := hid h96; have HCL := hid hcl; have HR := hid (HX.out.trans r4); go_loud (obtain ⟨q0, q1, q2, q3, q4⟩ := hcl _ (Ext.refl _)); clear h101 h103 h96 r1 r2 r3 r4 r5))
        go_ret
        exact ⟨by simp [dq], HR.out.trans (HAL.out k w2)⟩
    by_cases v2 : v = 2
    · subst v2
      by_cases hs : sn = 0
      · subst hs
        cases bw with
        | false =>
          go_enter Tryz.func36, Tryz.ntmps36
          go_wp2_with (first
        | (go_at_call 95; go_loud (refine K.out.mono ?_); rintro e w2 ⟨k, rfl, r1, r2, r3, r4, r5⟩; go_loud (obtain ⟨h101, h103, h96, hcl⟩ := HK.out k w2 r1 r2 r3 r4 r5); have H101 := hid h101; have H103 := hid h103; have H96 := hid h96; have HCL := hid hcl; have HR := hid (HX.out.trans r4); go_loud (obtain ⟨q0, q1, q2, q3, q4⟩ := hcl _ (Ext.refl _)); clear h101 h103 h96 r1 r2 r3 r4 r5)
        | (go_at_call 101; refine (H101.out _ (Ext.refl _)).mono ?_; rintro e w3 ⟨rfl, hx3⟩; have HX3 := hid hx3; obtain ⟨p0, p1, p2, p3, p4⟩ := HCL.out w3 HX3.out; clear hx3))
          go_ret
          exact ⟨by simp, (HR.out.trans (HAL.out k w2)).trans HX3.out⟩
        | true =>
          go_enter Tryz.func36, Tryz.ntmps36
          go_wp2_with (first
        | (go_at_call 95; go_loud (refine K.out.mono ?_); rintro e w2 ⟨k, rfl, r1, r2, r3, r4, r5⟩; go_loud (obtain ⟨h101, h103, h96, hcl⟩ := HK.out k w2 r1 r2 r3 r4 r5); have H101 := hid h101; have H103 := hid h103; have H96 := hid h96; have HCL := hid hcl; have HR := hid (HX.out.trans r4); go_loud (obtain ⟨q0, q1, q2, q3, q4⟩ := hcl _ (Ext.refl _)); clear h101 h103 h96 r1 r2 r3 r4 r5)
        | (go_at_call 101; refine (H101.out _ (Ext.refl _)).mono ?_; rintro e w3 ⟨rfl, hx3⟩; have HX3 := hid hx3; obtain ⟨p0, p1, p2, p3, p4⟩ := HCL.out w3 HX3.out; clear hx3)
        | (go_at_call 103; refine (H103.out _ HX3.out).mono ?_; rintro e w5 ⟨rfl, hx5⟩; have HX5 := hid hx5; obtain ⟨p0, p1, p2, p3, p4⟩ := HCL.out w5 (HX3.out.trans HX5.out); clear hx5))
          go_ret
          exact ⟨by simp, ((HR.out.trans (HAL.out k w2)).trans HX3.out).trans HX5.out⟩
      · have dd : ((sn : Int) == 0) = false := by simpa using (show ¬ (sn : Int) = 0 by omega)
        have dq : decide (sn = 0) = false := decide_eq_false hs
        go_enter Tryz.func36, Tryz.ntmps36
        go_wp2_with (first
        | (go_at_call 95; go_loud (refine K.out.mono ?_); rintro e w2 ⟨k, rfl, r1, r2, r3, r4, r5⟩; go_loud (obtain ⟨h101, h103, h96, hcl⟩ := HK.out k w2 r1 r2 r3 r4 r5); have H101 := hid h101; have H103 := hid h103; have H96 := hid h96; have HCL := hid hcl; have HR := hid (HX.out.trans r4); go_loud (obtain ⟨q0, q1, q2, q3, q4⟩ := hcl _ (Ext.refl _)); clear h101 h103 h96 r1 r2 r3 r4 r5))
        go_ret
        exact ⟨by simp [dq], HR.out.trans (HAL.out k w2)⟩
    have y0 : (v == 0) = false := by simpa using v0
    have y1 : (v == 1) = false := by simpa using v1
    have y2 : (v == 2) = false := by simpa using v2
    have y3 : (v == 3) = false := by simpa using v3
    rw [if_neg v0, if_neg v1, if_neg v3, if_neg v2]
    go_enter Tryz.func36, Tryz.ntmps36
    go_wp2_with (first
        | (go_at_call 95; go_loud (refine K.out.mono ?_); rintro e w2 ⟨k, rfl, r1, r2, r3, r4, r5⟩; go_loud (obtain ⟨h101, h103, h96, hcl⟩ := HK.out k w2 r1 r2 r3 r4 r5); have H101 := hid h101; have H103 := hid h103; have H96 := hid h96; have HCL := hid hcl; have HR := hid (HX.out.trans r4); go_loud (obtain ⟨q0, q1, q2, q3, q4⟩ := hcl _ (Ext.refl _)); clear h101 h103 h96 r1 r2 r3 r4 r5))
    go_ret
    exact ⟨by simp, HR.out.trans (HAL.out k w2)⟩

end Go.Proofs.YthjifmfmaiagoaaGreatDoor

/- The chapter's example. -/
namespace Go.Proofs.YthjifmfmaiagoaaGreatDoor
open Go.RowKit
attribute [local go_sem] Oper.semAt_some




theorem add0 (b i : Nat) : (⟨b, 0, none⟩ : Addr).add i = ⟨b, i, none⟩ := by
  unfold Addr.add
  split <;> simp_all
theorem RI_block {w : World} {b : Nat} {t : TypeId} {cs : Array Value} {xs : List Int} {n : Nat} (h : w.heap[b]? = some (.cells cs t (0, 0))) (hn : xs.length = n) (hb : n ≤ 1000) (hc : ∀ i, i < n → cs[i]? = some (.int .i64 (nth xs i))) : RI w (some ⟨b, 0, none⟩) n n xs :=
  ⟨hn, Nat.le_refl _, by omega, fun i hi => ⟨_, rfl, by rw [add0, (cell_heap h i).1]; exact hc i hi⟩⟩
theorem RR_block {w : World} {b : Nat} {t : TypeId} {cs : Array Value} {xs : List (List Int)} {n : Nat} (h : w.heap[b]? = some (.cells cs t (0, 0))) (hn : xs.length = n) (hb : n ≤ 1000) (hc : ∀ i, i < n → ∃ B m d, cs[i]? = some (.slice B m d) ∧ RI w B m d (row xs i)) : RR w (some ⟨b, 0, none⟩) n n xs :=
  ⟨hn, Nat.le_refl _, by omega, fun i hi => by
    obtain ⟨B, m, d, h1, h2⟩ := hc i hi
    exact ⟨_, B, m, d, rfl, by rw [add0, (cell_heap h i).1]; exact h1, h2⟩⟩
theorem RW_block {w : World} {b : Nat} {t : TypeId} {cs : Array Value} {xs : List Way} {n : Nat} (h : w.heap[b]? = some (.cells cs t (0, 0))) (hn : xs.length = n) (hb : n ≤ 1000) (hc : ∀ i, i < n → ∃ B m d B' m' d', cs[i * 2]? = some (.slice B m d) ∧ cs[i * 2 + 1]? = some (.slice B' m' d') ∧ RI w B m d (way xs i).pos ∧ RI w B' m' d' (way xs i).neg) : RW w (some ⟨b, 0, none⟩) n n xs :=
  ⟨hn, Nat.le_refl _, by omega, fun i hi => by
    obtain ⟨B, m, d, B', m', d', h1, h2, h3, h4⟩ := hc i hi
    refine ⟨_, B, m, d, B', m', d', rfl, by rw [add0, (cell_heap h _).1]; exact h1, ?_, h3, h4⟩
    rw [add0]
    show w.cell? ⟨b, i * 2 + 1, none⟩ = _
    rw [(cell_heap h _).1]
    exact h2⟩
theorem RS_block {w : World} {b : Nat} {t : TypeId} {cs : Array Value} {xs : List Step} {n : Nat} (h : w.heap[b]? = some (.cells cs t (0, 0))) (hn : xs.length = n) (hb : n ≤ 1000) (hc : ∀ i, i < n → cs[i * 4]? = some (.int .i64 (stepv xs i).kind) ∧ cs[i * 4 + 1]? = some (.int .i64 (stepv xs i).at_) ∧ cs[i * 4 + 2]? = some (.int .i64 (stepv xs i).in_) ∧ cs[i * 4 + 3]? = some (.int .i64 (stepv xs i).out)) : RS w (some ⟨b, 0, none⟩) n n xs :=
  ⟨hn, Nat.le_refl _, by omega, fun i hi => by
    obtain ⟨h1, h2, h3, h4⟩ := hc i hi
    exact ⟨_, rfl, by rw [add0, (cell_heap h _).1]; exact h1, by rw [add0, (cell_heap h _).1]; exact h2, by rw [add0, (cell_heap h _).1]; exact h3, by rw [add0, (cell_heap h _).1]; exact h4⟩⟩
theorem block_of {w W : World} {o : Obj} {b : Nat} (e : Ext (w.alloc o) W) (hb : b = w.heap.size) : W.heap[b]? = some o := by
  subst hb
  exact (e.block _ (by simp)).trans (heap_alloc_new w o)

set_option maxHeartbeats 1000000 in
theorem f86_any (w : World) : Calls Tryz.prog 86 #[] w fun e w' => ∃ CA EA, e = .returned (.agg #[.int .i64 2, .slice CA 2 2, .slice EA 1 1]) ∧ RG w' CA 2 2 EA 1 1 pairG ∧ Ext w w' := by
  go_enter Tryz.func86, Tryz.ntmps86
  go_wp2
  refine bodyPost_ret (v := .agg #[.int .i64 2, .slice (some ⟨w.heap.size + 1, 0, none⟩) 2 2, .slice (some ⟨w.heap.size + 1 + 1 + 1, 0, none⟩) 1 1]) (by simp [results, Tryz.results86, go_sem]) rfl ⟨_, _, rfl, ?_, (by repeat' (first | exact Ext.refl _ | assumption | apply Ext.alloc | apply Ext.drewN | apply Ext.drew))⟩
  refine ⟨RI_block (block_of (w := w.alloc _) (by repeat' (first | exact Ext.refl _ | assumption | apply Ext.alloc | apply Ext.drewN | apply Ext.drew)) (by simp)) rfl (by decide) (fun i hi => ?_), RR_block (block_of (w := ((w.alloc _).alloc _).alloc _) (by repeat' (first | exact Ext.refl _ | assumption | apply Ext.alloc | apply Ext.drewN | apply Ext.drew)) (by simp)) rfl (by decide) (fun i hi => ?_), by decide⟩
  · match i, hi with
    | 0, _ => rfl
    | 1, _ => rfl
  · match i, hi with
    | 0, _ =>
      refine ⟨_, _, _, rfl, RI_block (block_of (w := (w.alloc _).alloc _) (by repeat' (first | exact Ext.refl _ | assumption | apply Ext.alloc | apply Ext.drewN | apply Ext.drew)) (by simp)) rfl (by decide) (fun i hi => ?_)⟩
      match i, hi with
      | 0, _ => rfl
      | 1, _ => rfl
set_option maxHeartbeats 1000000 in
theorem f87_any (w : World) : Calls Tryz.prog 87 #[] w fun e w' => ∃ WA, e = .returned (.slice WA 2 2) ∧ RW w' WA 2 2 eitherW ∧ Ext w w' := by
  go_enter Tryz.func87, Tryz.ntmps87
  go_wp2
  refine bodyPost_ret (v := .slice (some ⟨w.heap.size + 1 + 1, 0, none⟩) 2 2) (by simp [results, Tryz.results87, go_sem]) rfl ⟨_, rfl, ?_, (by repeat' (first | exact Ext.refl _ | assumption | apply Ext.alloc | apply Ext.drewN | apply Ext.drew))⟩
  refine RW_block (block_of (w := (w.alloc _).alloc _) (by repeat' (first | exact Ext.refl _ | assumption | apply Ext.alloc | apply Ext.drewN | apply Ext.drew)) (by simp)) rfl (by decide) (fun i hi => ?_)
  match i, hi with
  | 0, _ => exact ⟨_, _, _, _, _, _, rfl, rfl, RI_block (block_of (w := w) (by repeat' (first | exact Ext.refl _ | assumption | apply Ext.alloc | apply Ext.drewN | apply Ext.drew)) rfl) rfl (by decide) (fun i hi => by match i, hi with | 0, _ => rfl), RI.nil _⟩
  | 1, _ => exact ⟨_, _, _, _, _, _, rfl, rfl, RI_block (block_of (w := w.alloc _) (by repeat' (first | exact Ext.refl _ | assumption | apply Ext.alloc | apply Ext.drewN | apply Ext.drew)) (by simp)) rfl (by decide) (fun i hi => by match i, hi with | 0, _ => rfl), RI.nil _⟩
set_option maxHeartbeats 1000000 in
theorem f85_any (w : World) : Calls Tryz.prog 85 #[] w fun e w' => ∃ S, e = .returned (.agg #[.slice (some ⟨S, 0, none⟩) 5 5]) ∧ w.heap.size ≤ S ∧ w'.heap[S]? = some (.cells #[.int .i64 1, .int .i64 0, .int .i64 1, .int .i64 2, .int .i64 4, .int .i64 0, .int .i64 0, .int .i64 0, .int .i64 1, .int .i64 1, .int .i64 3, .int .i64 4, .int .i64 4, .int .i64 1, .int .i64 0, .int .i64 0, .int .i64 3, .int .i64 0, .int .i64 0, .int .i64 0] 57 (0, 0)) ∧ Ext w w' := by
  go_enter Tryz.func85, Tryz.ntmps85
  go_wp2
  exact bodyPost_ret (v := .agg #[.slice (some ⟨w.heap.size + 1, 0, none⟩) 5 5]) (by simp [results, Tryz.results85, go_sem]) rfl ⟨_, rfl, by omega, block_of (w := w.alloc _) (Ext.refl _) (by simp), (by repeat' (first | exact Ext.refl _ | assumption | apply Ext.alloc | apply Ext.drewN | apply Ext.drew))⟩
end Go.Proofs.YthjifmfmaiagoaaGreatDoor

/- append of steps and of ways: what is appended, and what an own row of them reads as. -/
namespace Go.Proofs.YthjifmfmaiagoaaGreatDoor
open Go.RowKit

theorem info57 : (Tryz.prog.info? 57).map (fun i => (i.zero, i.size, i.bytes)) = some (some (.agg #[.int .i64 0, .int .i64 0, .int .i64 0, .int .i64 0]), 4, 32) := by kernel_rfl
theorem info43 : (Tryz.prog.info? 43).map (fun i => (i.zero, i.size, i.bytes)) = some (some (.agg #[.slice none 0 0, .slice none 0 0]), 2, 48) := by kernel_rfl
def stepVs (l : List Step) : List Value := l.flatMap fun x => [.int .i64 x.kind, .int .i64 x.at_, .int .i64 x.in_, .int .i64 x.out]
theorem stepVs_length : ∀ l : List Step, (stepVs l).length = l.length * 4
  | [] => rfl
  | x :: l => by
    have := stepVs_length l
    unfold stepVs at this ⊢
    rw [List.flatMap_cons, List.length_append, this, List.length_cons]
    simp
    omega
theorem stepVs_at : ∀ (l : List Step) (i j : Nat), i < l.length → j < 4 → (stepVs l)[i * 4 + j]? = ([.int .i64 (stepv l i).kind, .int .i64 (stepv l i).at_, .int .i64 (stepv l i).in_, .int .i64 (stepv l i).out] : List Value)[j]?
  | [], i, _, h, _ => absurd h (Nat.not_lt_zero _)
  | x :: l, 0, j, _, hj => by
    unfold stepVs
    rw [List.flatMap_cons, Nat.zero_mul, Nat.zero_add, List.getElem?_append_left (by simpa using hj)]
    rfl
  | x :: l, i + 1, j, h, hj => by
    have := stepVs_at l i j (by simpa using h) hj
    unfold stepVs at this ⊢
    rw [List.flatMap_cons, List.getElem?_append_right (by simp; omega)]
    simp only [List.length_cons, List.length_nil]
    rw [show (i + 1) * 4 + j - (0 + 1 + 1 + 1 + 1) = i * 4 + j by omega, this]
    rfl
theorem RS.src {W : World} {A : Option Addr} {n c : Nat} {l : List Step} (h : RS W A n c l) (hA : A = none → c = 0) : AppSrc W 4 A n c (stepVs l) :=
  ⟨fun e => ⟨by have := hA e; have := h.cap; omega, hA e⟩, by rw [stepVs_length, h.len], fun ad ha j u hu => by
    have hjl : j < (stepVs l).length := (List.getElem?_eq_some_iff.1 hu).1
    rw [stepVs_length] at hjl
    obtain ⟨i, r, hr, rfl⟩ : ∃ i r, r < 4 ∧ j = i * 4 + r := ⟨j / 4, j % 4, Nat.mod_lt _ (by decide), by omega⟩
    have hi : i < l.length := by omega
    rw [stepVs_at l i r hi hr] at hu
    obtain ⟨ad', e, h1, h2, h3, h4⟩ := h.cell i (by rw [← h.len]; exact hi)
    rw [ha] at e
    cases e
    have hadd : ∀ r, 0 < r → ad.add (i * 4 + r) = ⟨(ad.add (i * 4)).block, (ad.add (i * 4)).off + r, none⟩ := fun r hr0 => by
      unfold Addr.add
      rw [if_neg (by omega)]
      split
      · rename_i h0
        simp [h0]
      · simp [Nat.add_assoc]
    match r, hr with
    | 0, _ => cases hu; exact h1
    | 1, _ => cases hu; rw [hadd 1 (by decide)]; exact h2
    | 2, _ => cases hu; rw [hadd 2 (by decide)]; exact h3
    | 3, _ => cases hu; rw [hadd 3 (by decide)]; exact h4, fun u hu => by
    unfold stepVs at hu
    obtain ⟨x, _, hx⟩ := List.mem_flatMap.1 hu
    simp only [List.mem_cons, List.not_mem_nil, or_false] at hx
    rcases hx with rfl | rfl | rfl | rfl <;> rfl⟩
theorem stepVs_append (a b : List Step) : stepVs (a ++ b) = stepVs a ++ stepVs b := by unfold stepVs; rw [List.flatMap_append]
/-- What an own row of steps reads as. -/
theorem own_RS {W : World} {B n : Nat} {v : Value} {l : List Step} (hl : l.length = n) (h : W.ownsRow B 57 4 v n (stepVs l)) : ∃ A c, v = .slice A n c ∧ RS W A n c l ∧ (A = none → c = 0) := by
  rcases h.2 with ⟨rfl, rfl⟩ | ⟨g, cap, cur, rfl, h1, h2, h3, h4, h5, h6⟩
  · exact ⟨none, 0, rfl, ⟨hl, Nat.le_refl _, Nat.zero_le _, fun i hi => absurd hi (Nat.not_lt_zero _)⟩, fun _ => rfl⟩
  · refine ⟨_, _, rfl, ⟨hl, h3, by simp only [maxLen] at h4; omega, fun i hi => ⟨_, rfl, ?_⟩⟩, fun e => by cases e⟩
    have key : ∀ r, r < 4 → ∀ u, ([.int .i64 (stepv l i).kind, .int .i64 (stepv l i).at_, .int .i64 (stepv l i).in_, .int .i64 (stepv l i).out] : List Value)[r]? = some u → W.cell? ((⟨g, 0, none⟩ : Addr).add (i * 4 + r)) = some u := fun r hr u hu =>
      h.cells (g := g) rfl (i * 4 + r) u (by rw [stepVs_at l i r (by omega) hr]; exact hu)
    have hadd : ∀ k, (⟨g, 0, none⟩ : Addr).add k = ⟨g, k, none⟩ := fun k => by unfold Addr.add; split <;> simp_all
    rw [hadd]
    have k0 := key 0 (by decide) _ rfl
    have k1 := key 1 (by decide) _ rfl
    have k2 := key 2 (by decide) _ rfl
    have k3 := key 3 (by decide) _ rfl
    rw [hadd] at k0 k1 k2 k3
    exact ⟨k0, k1, k2, k3⟩
end Go.Proofs.YthjifmfmaiagoaaGreatDoor

/- append of ways: what is appended, and what an own row of them reads as. -/
namespace Go.Proofs.YthjifmfmaiagoaaGreatDoor
open Go.RowKit

abbrev SlV := Option Addr × Nat × Nat
def wayVs (ps : List (SlV × SlV)) : List Value := ps.flatMap fun p => [.slice p.1.1 p.1.2.1 p.1.2.2, .slice p.2.1 p.2.2.1 p.2.2.2]
def pv (ps : List (SlV × SlV)) (i : Nat) : SlV × SlV := ps.getD i ((none, 0, 0), (none, 0, 0))
/-- Slices that read as ways. -/
structure WayVals (W : World) (ps : List (SlV × SlV)) (ws : List Way) : Prop where
  len : ps.length = ws.length
  at_ : ∀ i, i < ws.length → RI W (pv ps i).1.1 (pv ps i).1.2.1 (pv ps i).1.2.2 (way ws i).pos ∧ RI W (pv ps i).2.1 (pv ps i).2.2.1 (pv ps i).2.2.2 (way ws i).neg
theorem WayVals.ext {W W' : World} {ps : List (SlV × SlV)} {ws : List Way} (h : WayVals W ps ws) (e : Ext W W') : WayVals W' ps ws :=
  ⟨h.len, fun i hi => ⟨(h.at_ i hi).1.ext e, (h.at_ i hi).2.ext e⟩⟩
theorem wayVs_length : ∀ l : List (SlV × SlV), (wayVs l).length = l.length * 2
  | [] => rfl
  | x :: l => by
    have := wayVs_length l
    unfold wayVs at this ⊢
    rw [List.flatMap_cons, List.length_append, this, List.length_cons]
    simp
    omega
theorem wayVs_at : ∀ (l : List (SlV × SlV)) (i j : Nat), i < l.length → j < 2 → (wayVs l)[i * 2 + j]? = ([.slice (pv l i).1.1 (pv l i).1.2.1 (pv l i).1.2.2, .slice (pv l i).2.1 (pv l i).2.2.1 (pv l i).2.2.2] : List Value)[j]?
  | [], i, _, h, _ => absurd h (Nat.not_lt_zero _)
  | x :: l, 0, j, _, hj => by
    unfold wayVs
    rw [List.flatMap_cons, Nat.zero_mul, Nat.zero_add, List.getElem?_append_left (by simpa using hj)]
    rfl
  | x :: l, i + 1, j, h, hj => by
    have := wayVs_at l i j (by simpa using h) hj
    unfold wayVs at this ⊢
    rw [List.flatMap_cons, List.getElem?_append_right (by simp; omega)]
    simp only [List.length_cons, List.length_nil]
    rw [show (i + 1) * 2 + j - (0 + 1 + 1) = i * 2 + j by omega, this]
    rfl
theorem wayVs_append (a b : List (SlV × SlV)) : wayVs (a ++ b) = wayVs a ++ wayVs b := by unfold wayVs; rw [List.flatMap_append]
theorem pv_left {a b : List (SlV × SlV)} {i : Nat} (h : i < a.length) : pv (a ++ b) i = pv a i := by
  unfold pv
  rw [List.getD_eq_getElem?_getD, List.getD_eq_getElem?_getD, List.getElem?_append_left h]
theorem pv_right {a b : List (SlV × SlV)} {i : Nat} (h : a.length ≤ i) : pv (a ++ b) i = pv b (i - a.length) := by
  unfold pv
  rw [List.getD_eq_getElem?_getD, List.getD_eq_getElem?_getD, List.getElem?_append_right h]
theorem way_right {a b : List Way} {i : Nat} (h : a.length ≤ i) : way (a ++ b) i = way b (i - a.length) := by
  unfold way
  rw [List.getD_eq_getElem?_getD, List.getD_eq_getElem?_getD, List.getElem?_append_right h]
theorem WayVals.append {W : World} {ps qs : List (SlV × SlV)} {ws vs : List Way} (h : WayVals W ps ws) (k : WayVals W qs vs) : WayVals W (ps ++ qs) (ws ++ vs) :=
  ⟨by rw [List.length_append, List.length_append, h.len, k.len], fun i hi => by
    rw [List.length_append] at hi
    rcases Nat.lt_or_ge i ws.length with h1 | h1
    · rw [pv_left (by rw [h.len]; exact h1), show way (ws ++ vs) i = way ws i by unfold way; rw [List.getD_eq_getElem?_getD, List.getD_eq_getElem?_getD, List.getElem?_append_left h1]]
      exact h.at_ i h1
    · rw [pv_right (by rw [h.len]; exact h1), way_right h1, h.len]
      exact k.at_ _ (by omega)⟩
theorem RW.src {W : World} {A : Option Addr} {n c : Nat} {l : List Way} (h : RW W A n c l) (hA : A = none → c = 0) : ∃ ps, WayVals W ps l ∧ AppSrc W 2 A n c (wayVs ps) := by
  obtain ⟨X, Y, hX⟩ := h.fn
  have hlen : ((List.range n).map fun i => (X i, Y i)).length = n := by simp
  have hpv : ∀ i, i < n → pv ((List.range n).map fun i => (X i, Y i)) i = (X i, Y i) := fun i hi => by
    unfold pv
    rw [List.getD_eq_getElem?_getD, List.getElem?_map, List.getElem?_range hi]
    rfl
  refine ⟨(List.range n).map fun i => (X i, Y i), ⟨by rw [hlen, h.len], fun i hi => ?_⟩, fun e => ⟨by have := hA e; have := h.cap; omega, hA e⟩, by rw [wayVs_length, hlen], fun ad ha j u hu => ?_, fun u hu => ?_⟩
  · have hi' : i < n := by rw [← h.len]; exact hi
    rw [hpv i hi']
    exact (hX i hi').2
  · have hjl : j < (wayVs ((List.range n).map fun i => (X i, Y i))).length := (List.getElem?_eq_some_iff.1 hu).1
    rw [wayVs_length, hlen] at hjl
    obtain ⟨i, r, hr, rfl⟩ : ∃ i r, r < 2 ∧ j = i * 2 + r := ⟨j / 2, j % 2, Nat.mod_lt _ (by decide), by omega⟩
    have hi : i < n := by omega
    rw [wayVs_at _ i r (by rw [hlen]; exact hi) hr, hpv i hi] at hu
    obtain ⟨⟨ad', e, h1, h2⟩, _⟩ := hX i hi
    rw [ha] at e
    cases e
    match r, hr with
    | 0, _ => cases hu; exact h1
    | 1, _ =>
      cases hu
      have hadd : ad.add (i * 2 + 1) = ⟨(ad.add (i * 2)).block, (ad.add (i * 2)).off + 1, none⟩ := by
        unfold Addr.add
        rw [if_neg (by omega)]
        split
        · rename_i h0
          first | (simp; done) | (simp; omega)
        · simp [Nat.add_assoc]
      rw [hadd]
      exact h2
  · unfold wayVs at hu
    obtain ⟨x, _, hx⟩ := List.mem_flatMap.1 hu
    simp only [List.mem_cons, List.not_mem_nil, or_false] at hx
    rcases hx with rfl | rfl <;> rfl
theorem own_RW {W : World} {B n : Nat} {v : Value} {ps : List (SlV × SlV)} {l : List Way} (hw : WayVals W ps l) (hl : l.length = n) (h : W.ownsRow B 43 2 v n (wayVs ps)) : ∃ A c, v = .slice A n c ∧ RW W A n c l ∧ (A = none → c = 0) := by
  rcases h.2 with ⟨rfl, rfl⟩ | ⟨g, cap, cur, rfl, h1, h2, h3, h4, h5, h6⟩
  · exact ⟨none, 0, rfl, ⟨hl, Nat.le_refl _, Nat.zero_le _, fun i hi => absurd hi (Nat.not_lt_zero _)⟩, fun _ => rfl⟩
  · refine ⟨_, _, rfl, ⟨hl, h3, by simp only [maxLen] at h4; omega, fun i hi => ?_⟩, fun e => by cases e⟩
    have hip : i < ps.length := by rw [hw.len]; omega
    have key : ∀ r, r < 2 → ∀ u, ([.slice (pv ps i).1.1 (pv ps i).1.2.1 (pv ps i).1.2.2, .slice (pv ps i).2.1 (pv ps i).2.2.1 (pv ps i).2.2.2] : List Value)[r]? = some u → W.cell? ((⟨g, 0, none⟩ : Addr).add (i * 2 + r)) = some u := fun r hr u hu =>
      h.cells (g := g) rfl (i * 2 + r) u (by rw [wayVs_at ps i r hip hr]; exact hu)
    have hadd : ∀ k, (⟨g, 0, none⟩ : Addr).add k = ⟨g, k, none⟩ := fun k => by unfold Addr.add; split <;> simp_all
    have k0 := key 0 (by decide) _ rfl
    have k1 := key 1 (by decide) _ rfl
    rw [hadd] at k0 k1
    have hh := hw.at_ i (by omega)
    refine ⟨_, _, _, _, _, _, _, rfl, by rw [hadd]; exact k0, by rw [hadd]; exact k1, hh.1, hh.2⟩
end Go.Proofs.YthjifmfmaiagoaaGreatDoor

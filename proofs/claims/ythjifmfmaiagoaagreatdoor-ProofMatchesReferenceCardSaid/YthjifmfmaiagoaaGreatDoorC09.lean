/- C09: texts H27 H28 H29 H30 G1 O0. -/
import Derived.BigRegion
import Derived.ChangeArms
import Derived.ChangeShapes
import Derived.Deep.SlicePairs
import Derived.Deep.Slices
import Derived.Defers
import Derived.Test.YthjifmfmaiagoaaGreatDoorC02
import Derived.Test.YthjifmfmaiagoaaGreatDoorC07
import Derived.Test.YthjifmfmaiagoaaGreatDoorC08
set_option linter.all false

/- A proof's checker: the leaves none and free. -/
namespace Go.Proofs.YthjifmfmaiagoaaGreatDoor
open Go.RowKit
attribute [local go_sem] Oper.semAt_some

set_option maxRecDepth 100000 in
set_option maxHeartbeats 2000000 in
theorem f193_any (k : CkD) (b : Nat) (W : World) (st : List Int) (h : Ck k W) (hst : st.length = k.n) (hrow : RowI W k.T st) (hb : W.cell? ⟨b, 0, none⟩ = some (.pointer (some ⟨k.C, 0, none⟩))) (x : Way) (B B' : Option Addr) (m d m' d' : Nat) (hr : RI W B m d x.pos) (hr' : RI W B' m' d' x.neg) (hx : Below' k.n x.pos ∧ Below' k.n x.neg) :
    Calls Tryz.prog 193 #[.agg #[.slice B m d, .slice B' m' d'], .pointer (some ⟨b, 0, none⟩)] W fun e w' => e = .returned (.bool (!someB st 2 x.pos && !someB st 1 x.neg)) ∧ Ext W w' := by
  have HK1 : Hid (∀ W2, Ext W W2 → Calls Tryz.prog 194 #[.pointer (some ⟨k.C, 0, none⟩), .slice B m d, .int .i64 2] W2 fun e w' => e = .returned (.bool (someB st 2 x.pos)) ∧ Ext W2 w') := fun W2 hW => some_any k W2 st (h.fr (Fr.ext hW)) hst (hrow.ext hW) B m d _ 2 (hr.ext hW) hx.1
  have HK2 : Hid (∀ W2, Ext W W2 → Calls Tryz.prog 194 #[.pointer (some ⟨k.C, 0, none⟩), .slice B' m' d', .int .i64 1] W2 fun e w' => e = .returned (.bool (someB st 1 x.neg)) ∧ Ext W2 w') := fun W2 hW => some_any k W2 st (h.fr (Fr.ext hW)) hst (hrow.ext hW) B' m' d' _ 1 (hr'.ext hW) hx.2
  clear h hrow hr hr' hx
  generalize someB st 2 x.pos = b1 at HK1 ⊢
  generalize someB st 1 x.neg = b2 at HK2 ⊢
  have HB : Hid (∀ w2, Ext W w2 → w2.cell? ⟨b, 0, none⟩ = some (.pointer (some ⟨k.C, 0, none⟩))) := fun w2 h2 => h2.cell hb
  have hb0 : (W.alloc (.cells #[.slice B m d, .slice B' m' d'] 43)).cell? ⟨b, 0, none⟩ = some (.pointer (some ⟨k.C, 0, none⟩)) := Ext.cell (by repeat' (first | exact Ext.refl _ | assumption | apply Ext.alloc | apply Ext.drewN | apply Ext.drew)) hb
  clear hb
  cases b1 with
  | true =>
    go_enter Tryz.func193, Tryz.ntmps193
    go_wp2_with (go_at_call 194; refine (HK1.out _ (by repeat' (first | exact Ext.refl _ | assumption | apply Ext.alloc | apply Ext.drewN | apply Ext.drew))).mono ?_; rintro e w1 ⟨rfl, hx1⟩)
    go_ret
    exact ⟨by simp, Ext.trans (by repeat' (first | exact Ext.refl _ | assumption | apply Ext.alloc | apply Ext.drewN | apply Ext.drew)) hx1⟩
  | false =>
    go_enter Tryz.func193, Tryz.ntmps193
    go_wp2_with (first
      | (go_at_call 194; refine (HK1.out _ (by repeat' (first | exact Ext.refl _ | assumption | apply Ext.alloc | apply Ext.drewN | apply Ext.drew))).mono ?_; rintro e w1 ⟨rfl, hx1⟩; have hE : Ext W w1 := Ext.trans (by repeat' (first | exact Ext.refl _ | assumption | apply Ext.alloc | apply Ext.drewN | apply Ext.drew)) hx1; have hb1 := HB.out w1 hE; have hbx : w1.cell? ⟨W.heap.size, 1, none⟩ = some (.slice B' m' d') := Ext.cell hx1 (by simp))
      | (go_at_call 194; refine (HK2.out _ hE).mono ?_; rintro e w2 ⟨rfl, hx2⟩))
    go_ret
    exact ⟨by simp, hE.trans hx2⟩
end Go.Proofs.YthjifmfmaiagoaaGreatDoor

/- A proof's checker: the leaves none and free. -/
namespace Go.Proofs.YthjifmfmaiagoaaGreatDoor
open Go.RowKit
attribute [local go_sem] Oper.semAt_some

set_option maxRecDepth 100000 in
set_option maxHeartbeats 2000000 in
theorem none_any (k : CkD) (w : World) (st : List Int) (h : Ck k w) (hst : st.length = k.n) (hrow : RowI w k.T st) (at_ : Int) (x : Step) :
    Calls Tryz.prog 145 #[.pointer (some ⟨k.C, 0, none⟩), .int .i64 at_, .agg #[.int .i64 x.kind, .int .i64 x.at_, .int .i64 x.in_, .int .i64 x.out]] w fun e w' => e = .returned (.bool (noneB k.ws k.hold st x)) ∧ Ext w w' := by
  have HK : Hid (∀ W, Ext ((w.alloc (.cells #[.pointer (some ⟨k.C, 0, none⟩)] 104)).alloc (.cells #[.int .i64 x.kind, .int .i64 x.at_, .int .i64 x.in_, .int .i64 x.out] 57)) W → Calls Tryz.prog 77 #[.slice k.WA k.wn k.wc, .func (.func 193) #[] #[.pointer (some ⟨w.heap.size, 0, none⟩)]] W fun e w' => e = .returned (.bool (k.ws.any fun y => !someB st 2 y.pos && !someB st 1 y.neg)) ∧ Ext W w') := fun W hW => by
    have hx : Ext w W := Ext.trans (by repeat' (first | exact Ext.refl _ | assumption | apply Ext.alloc | apply Ext.drewN | apply Ext.drew)) hW
    refine f77_ext k.WA k.wn k.wc k.ws 193 _ e193 _ W (h.rws.ext (h.ext.trans hx)) fun y hy B m d B' m' d' h1 h2 W2 hW2 => ?_
    have hx2 := hx.trans hW2
    exact f193_any k w.heap.size W2 st (h.fr (Fr.ext hx2)) hst (hrow.ext hx2) (Ext.cell (hW.trans hW2) (Ext.cell (w := w.alloc (.cells #[.pointer (some ⟨k.C, 0, none⟩)] 104)) (by repeat' (first | exact Ext.refl _ | assumption | apply Ext.alloc | apply Ext.drewN | apply Ext.drew)) (by simp))) y B B' m d m' d' (h1.ext hW2) (h2.ext hW2) (h.wbelow hy)
  have c3 := Ext.cell (w' := (w.alloc (.cells #[.pointer (some ⟨k.C, 0, none⟩)] 104)).alloc (.cells #[.int .i64 x.kind, .int .i64 x.at_, .int .i64 x.in_, .int .i64 x.out] 57)) (by repeat' (first | exact Ext.refl _ | assumption | apply Ext.alloc | apply Ext.drewN | apply Ext.drew)) h.c3
  have c4 := Ext.cell (w' := (w.alloc (.cells #[.pointer (some ⟨k.C, 0, none⟩)] 104)).alloc (.cells #[.int .i64 x.kind, .int .i64 x.at_, .int .i64 x.in_, .int .i64 x.out] 57)) (by repeat' (first | exact Ext.refl _ | assumption | apply Ext.alloc | apply Ext.drewN | apply Ext.drew)) h.c4
  have c1 : ((w.alloc (.cells #[.pointer (some ⟨k.C, 0, none⟩)] 104)).alloc (.cells #[.int .i64 x.kind, .int .i64 x.at_, .int .i64 x.in_, .int .i64 x.out] 57)).cell? ⟨w.heap.size, 0, none⟩ = some (.pointer (some ⟨k.C, 0, none⟩)) := Ext.cell (w := w.alloc (.cells #[.pointer (some ⟨k.C, 0, none⟩)] 104)) (by repeat' (first | exact Ext.refl _ | assumption | apply Ext.alloc | apply Ext.drewN | apply Ext.drew)) (by simp)
  unfold noneB
  clear h hrow
  generalize (k.ws.any fun y => !someB st 2 y.pos && !someB st 1 y.neg) = b at HK ⊢
  obtain ⟨xk, xa, xi, xo⟩ := x
  simp only [] at c1 c3 c4 HK ⊢
  cases hh : k.hold with
  | false =>
    rw [hh] at c4
    go_enter Tryz.func145, Tryz.ntmps145
    go_wp2
    go_ret
    exact ⟨by simp, (by repeat' (first | exact Ext.refl _ | assumption | apply Ext.alloc | apply Ext.drewN | apply Ext.drew))⟩
  | true =>
    rw [hh] at c4
    by_cases h0 : xa = 0
    · have d0 : decide (xa = 0) = true := decide_eq_true h0
      rw [d0]
      subst h0
      go_enter Tryz.func145, Tryz.ntmps145
      go_wp2_with (go_at_call 77; refine (HK.out _ (Ext.refl _)).mono ?_; rintro e w1 ⟨rfl, hx1⟩)
      go_ret
      exact ⟨by simp, Ext.trans (by repeat' (first | exact Ext.refl _ | assumption | apply Ext.alloc | apply Ext.drewN | apply Ext.drew)) hx1⟩
    · have d0 : decide (xa = 0) = false := decide_eq_false h0
      rw [d0]
      have d1 : (xa == 0) = false := by simpa using h0
      go_enter Tryz.func145, Tryz.ntmps145
      go_wp2
      go_ret
      exact ⟨by simp, (by repeat' (first | exact Ext.refl _ | assumption | apply Ext.alloc | apply Ext.drewN | apply Ext.drew))⟩

set_option maxRecDepth 100000 in
set_option maxHeartbeats 2000000 in
theorem f192_any (bc bx C T n v : Nat) (s xa : Int) (W : World) (h1 : W.cell? ⟨bc, 0, none⟩ = some (.pointer (some ⟨C, 0, none⟩))) (h7 : W.cell? ⟨C, 7, none⟩ = some (.slice (some ⟨T, 0, none⟩) n n)) (ht : W.cell? ⟨T, v, none⟩ = some (.int .i64 s)) (h2 : W.cell? ⟨bx, 1, none⟩ = some (.int .i64 xa)) (hv : v < n) :
    Calls Tryz.prog 192 #[.int .i64 (v : Int), .pointer (some ⟨bx, 0, none⟩), .pointer (some ⟨bc, 0, none⟩)] W fun e w' => e = .returned (.bool (decide ((v : Int) ≠ xa) && decide (s = 2))) ∧ W = w' := by
  have hvz : (v : Int) < (n : Int) := by omega
  by_cases h : (v : Int) = xa
  · have d : decide ((v : Int) ≠ xa) = false := decide_eq_false fun h' => h' h
    rw [d]
    have d2 : ((v : Int) != xa) = false := by simpa using h
    go_enter Tryz.func192, Tryz.ntmps192
    go_wp2
    all_goals (go_ret; exact ⟨by simp, rfl⟩)
  · have d : decide ((v : Int) ≠ xa) = true := decide_eq_true h
    rw [d]
    have d2 : ((v : Int) != xa) = true := by simpa using h
    go_enter Tryz.func192, Tryz.ntmps192
    go_wp2
    all_goals (go_ret; exact ⟨by by_cases hs : s = 2 <;> simp [hs], rfl⟩)
end Go.Proofs.YthjifmfmaiagoaaGreatDoor

/- A proof's checker: the leaf free. -/
namespace Go.Proofs.YthjifmfmaiagoaaGreatDoor
open Go.RowKit
attribute [local go_sem] Oper.semAt_some

set_option maxRecDepth 100000 in
set_option maxHeartbeats 2000000 in
theorem f191_any (k : CkD) (bc bx j : Nat) (xa : Int) (W : World) (st : List Int) (h : Ck k W) (hst : st.length = k.n) (hrow : RowI W k.T st) (hc : W.cell? ⟨bc, 0, none⟩ = some (.pointer (some ⟨k.C, 0, none⟩))) (hx : W.cell? ⟨bx, 1, none⟩ = some (.int .i64 xa)) (hj : j < k.en) :
    Calls Tryz.prog 191 #[.int .i64 (j : Int), .pointer (some ⟨bc, 0, none⟩), .pointer (some ⟨bx, 0, none⟩)] W fun e w' => e = .returned (.bool (!otherB st xa (row k.g.edges j))) ∧ Ext W w' := by
  obtain ⟨ad, B, m, d, hEA, hce, hri, hmem⟩ := edge_at h.rg hj
  have hjz : (j : Int) < (k.en : Int) := by omega
  have hce' := h.ext.cell hce
  have c2 := h.c2
  have HK : Hid (∀ W2, Ext W W2 → Calls Tryz.prog 89 #[.slice B m d, .func (.func 192) #[] #[.pointer (some ⟨bx, 0, none⟩), .pointer (some ⟨bc, 0, none⟩)]] W2 fun e w' => e = .returned (.bool (otherB st xa (row k.g.edges j))) ∧ Ext W2 w') := fun W2 hW2 => by
    unfold otherB
    refine f89_ext B m d (row k.g.edges j) 192 _ e192 (fun u => decide (u ≠ xa) && decide (stv st u = 2)) W2 (hri.ext (h.ext.trans hW2)) fun u hu W3 hW3 => ?_
    have hx3 := hW2.trans hW3
    have hb := h.below hmem u hu
    obtain ⟨v, rfl⟩ : ∃ v : Nat, u = v := ⟨u.toNat, by omega⟩
    have hv : v < k.n := by omega
    refine (f192_any bc bx k.C k.T k.n v (nth st v) xa W3 (hx3.cell hc) (hx3.cell h.c7) (hx3.cell (hrow v (by omega)).1) (hx3.cell hx) hv).mono ?_
    rintro e w' ⟨rfl, rfl⟩
    exact ⟨rfl, Ext.refl _⟩
  clear h hrow hri hmem hce
  rw [hEA] at c2
  generalize otherB st xa (row k.g.edges j) = b at HK ⊢
  go_enter Tryz.func191, Tryz.ntmps191
  go_wp2_with (go_at_call 89; refine (HK.out _ (Ext.refl _)).mono ?_; rintro e w1 ⟨rfl, hx1⟩)
  go_ret
  exact ⟨rfl, hx1⟩

theorem free_law {k : CkD} {w : World} (h : Ck k w) (st : List Int) {v : Nat} (hv : v < k.n) : (!(row k.evs v).any fun e => !otherB st v (row k.g.edges e.toNat)) = k.g.edges.all fun e => decide ((v : Int) ∉ e) || otherB st v e := by
  rw [Bool.eq_iff_iff]
  simp only [Bool.not_eq_true', List.any_eq_false, List.all_eq_true, Bool.or_eq_true, decide_eq_true_eq, Bool.not_eq_true, Bool.not_eq_false]
  constructor
  · intro h1 e he
    by_cases hm : (v : Int) ∈ e
    · obtain ⟨j, hj, hje⟩ := List.mem_iff_getElem.1 he
      have hj' : j < k.en := by rw [← h.rg.edges.len]; exact hj
      have h2 := h1 (j : Int) ((h.evl v hv j).2 ⟨j, rfl, hj', by rw [row_eq hj, hje]; exact hm⟩)
      rw [Int.toNat_natCast, row_eq hj, hje] at h2
      exact .inr h2
    · exact .inl hm
  · intro h1 e he
    obtain ⟨j, rfl, hj, hm⟩ := (h.evl v hv e).1 he
    rw [Int.toNat_natCast]
    exact (h1 _ (row_mem (by rw [h.rg.edges.len]; exact hj))).resolve_left fun h' => h' hm

set_option maxRecDepth 100000 in
set_option maxHeartbeats 4000000 in
theorem free_any (k : CkD) (w : World) (st : List Int) (h : Ck k w) (hst : st.length = k.n) (hrow : RowI w k.T st) (at_ : Int) (x : Step) :
    Calls Tryz.prog 143 #[.pointer (some ⟨k.C, 0, none⟩), .int .i64 at_, .agg #[.int .i64 x.kind, .int .i64 x.at_, .int .i64 x.in_, .int .i64 x.out]] w fun e w' => e = .returned (.bool (freeB k.g st x)) ∧ Ext w w' := by
  have hx0 : Ext w ((w.alloc (.cells #[.pointer (some ⟨k.C, 0, none⟩)] 104)).alloc (.cells #[.int .i64 x.kind, .int .i64 x.at_, .int .i64 x.in_, .int .i64 x.out] 57)) := (by repeat' (first | exact Ext.refl _ | assumption | apply Ext.alloc | apply Ext.drewN | apply Ext.drew))
  have H := hid h
  have hn := h.hn
  have cc : ∀ p : ExtOf ((w.alloc (.cells #[.pointer (some ⟨k.C, 0, none⟩)] 104)).alloc (.cells #[.int .i64 x.kind, .int .i64 x.at_, .int .i64 x.in_, .int .i64 x.out] 57)), p.W.cell? ⟨w.heap.size, 0, none⟩ = some (.pointer (some ⟨k.C, 0, none⟩)) := fun p => Ext.cell p.h (Ext.cell (w := w.alloc (.cells #[.pointer (some ⟨k.C, 0, none⟩)] 104)) (by repeat' (first | exact Ext.refl _ | assumption | apply Ext.alloc | apply Ext.drewN | apply Ext.drew)) (by simp))
  have cx : ∀ p : ExtOf ((w.alloc (.cells #[.pointer (some ⟨k.C, 0, none⟩)] 104)).alloc (.cells #[.int .i64 x.kind, .int .i64 x.at_, .int .i64 x.in_, .int .i64 x.out] 57)), p.W.cell? ⟨w.heap.size + 1, 1, none⟩ = some (.int .i64 x.at_) := fun p => Ext.cell p.h (by simp)
  have c0 : ∀ p : ExtOf ((w.alloc (.cells #[.pointer (some ⟨k.C, 0, none⟩)] 104)).alloc (.cells #[.int .i64 x.kind, .int .i64 x.at_, .int .i64 x.in_, .int .i64 x.out] 57)), p.W.cell? ⟨k.C, 0, none⟩ = some (.int .i64 k.n) := fun p => Ext.cell (hx0.trans p.h) h.c0
  have c7 : ∀ p : ExtOf ((w.alloc (.cells #[.pointer (some ⟨k.C, 0, none⟩)] 104)).alloc (.cells #[.int .i64 x.kind, .int .i64 x.at_, .int .i64 x.in_, .int .i64 x.out] 57)), p.W.cell? ⟨k.C, 7, none⟩ = some (.slice (some ⟨k.T, 0, none⟩) k.n k.n) := fun p => Ext.cell (hx0.trans p.h) h.c7
  by_cases h0 : 0 ≤ x.at_
  · by_cases h1 : x.at_ < (k.n : Int)
    · obtain ⟨j, hj⟩ : ∃ j : Nat, x.at_ = j := ⟨x.at_.toNat, by omega⟩
      have hjn : j < k.n := by omega
      have cT : ∀ p : ExtOf ((w.alloc (.cells #[.pointer (some ⟨k.C, 0, none⟩)] 104)).alloc (.cells #[.int .i64 x.kind, .int .i64 x.at_, .int .i64 x.in_, .int .i64 x.out] 57)), p.W.cell? ⟨k.T, j, none⟩ = some (.int .i64 (nth st j)) := fun p => Ext.cell (hx0.trans p.h) (hrow j (by omega)).1
      by_cases h2 : nth st j = 2
      · obtain ⟨B, m, d, hce, hri, hbb⟩ := h.evs j hjn
        have c6 : ∀ p : ExtOf ((w.alloc (.cells #[.pointer (some ⟨k.C, 0, none⟩)] 104)).alloc (.cells #[.int .i64 x.kind, .int .i64 x.at_, .int .i64 x.in_, .int .i64 x.out] 57)), p.W.cell? ⟨k.C, 6, none⟩ = some (.slice (some ⟨k.V, 0, none⟩) k.n k.n) := fun p => Ext.cell (hx0.trans p.h) h.c6
        have cV : ∀ p : ExtOf ((w.alloc (.cells #[.pointer (some ⟨k.C, 0, none⟩)] 104)).alloc (.cells #[.int .i64 x.kind, .int .i64 x.at_, .int .i64 x.in_, .int .i64 x.out] 57)), p.W.cell? ⟨k.V, j, none⟩ = some (.slice B m d) := fun p => Ext.cell (hx0.trans p.h) hce
        have HK : Hid (∀ p : ExtOf ((w.alloc (.cells #[.pointer (some ⟨k.C, 0, none⟩)] 104)).alloc (.cells #[.int .i64 x.kind, .int .i64 x.at_, .int .i64 x.in_, .int .i64 x.out] 57)), Calls Tryz.prog 89 #[.slice B m d, .func (.func 191) #[] #[.pointer (some ⟨w.heap.size, 0, none⟩), .pointer (some ⟨w.heap.size + 1, 0, none⟩)]] p.W fun e w' => e = .returned (.bool ((row k.evs j).any fun e => !otherB st j (row k.g.edges e.toNat))) ∧ Ext p.W w') := fun p => by
          have hxp := hx0.trans p.h
          refine f89_ext B m d (row k.evs j) 191 _ e191 (fun e => !otherB st j (row k.g.edges e.toNat)) p.W (hri.ext hxp) fun e he W3 hW3 => ?_
          obtain ⟨i, rfl, hi, _⟩ := (h.evl j hjn e).1 he
          have := f191_any k w.heap.size (w.heap.size + 1) i (j : Int) W3 st (h.fr (Fr.ext (hxp.trans hW3))) hst (hrow.ext (hxp.trans hW3)) (hW3.cell (cc p)) (hW3.cell (by rw [cx p, hj])) hi
          exact this
        have hB : freeB k.g st x = !((row k.evs j).any fun e => !otherB st j (row k.g.edges e.toNat)) := by
          unfold freeB
          rw [free_law h st hjn, decide_eq_true h0, decide_eq_true (show x.at_ < k.g.n by rw [hn]; exact h1), decide_eq_true (show stv st x.at_ = 2 by rw [hj]; exact h2), hj]
          simp
        rw [hB]
        rw [h2] at cT
        clear hB hrow h hri hbb hce
        generalize ((row k.evs j).any fun e => !otherB st j (row k.g.edges e.toNat)) = b at HK ⊢
        obtain ⟨xk, xa, xi, xo⟩ := x
        simp only [] at hj h0 h1 hx0 cc cx c0 c7 cT c6 cV HK ⊢
        subst hj
        go_enter Tryz.func143, Tryz.ntmps143
        go_wp2
        refine wp_region_qw mixed' (by kernel_rfl) ?_
        repeat (refine QW.step (fun K hK => ?_); go_simp; first | (refine hK _ ?_; clear hK K) | (apply Exists.intro; refine ⟨fun _ => ?_, hK _ ?_⟩; fail; clear hK K))
        refine QW.nil ?_
        rintro _ ⟨p1, rfl⟩
        obtain ⟨w1, hw1⟩ := p1
        dsimp only
        have HW1 := hid hw1
        have cc := fun p : ExtOf w1 => cc ⟨p.W, hw1.trans p.h⟩
        have cx := fun p : ExtOf w1 => cx ⟨p.W, hw1.trans p.h⟩
        have c6 := fun p : ExtOf w1 => c6 ⟨p.W, hw1.trans p.h⟩
        have cV := fun p : ExtOf w1 => cV ⟨p.W, hw1.trans p.h⟩
        have HK := hid fun p : ExtOf w1 => HK.out ⟨p.W, hw1.trans p.h⟩
        simp only [] at cc cx c6 cV HK
        clear hw1
        go_wp2
        refine wp_region_qw mixed' (by kernel_rfl) ?_
        repeat (refine QW.step (fun K hK => ?_); go_simp; first | (refine hK _ ?_; clear hK K) | (apply Exists.intro; refine ⟨fun _ => ?_, hK _ ?_⟩; exact Calls.ext_of (HK.out _); clear hK K))
        refine QW.nil ?_
        rintro _ ⟨p1, rfl⟩
        obtain ⟨w1, hw1⟩ := p1
        dsimp only
        go_wp2
        go_ret
        exact ⟨rfl, hx0.trans (HW1.out.trans hw1)⟩
      · have hB : freeB k.g st x = false := by
          unfold freeB
          rw [decide_eq_false (show ¬ stv st x.at_ = 2 by rw [hj]; exact h2)]
          simp
        rw [hB]
        clear hB hrow h
        obtain ⟨xk, xa, xi, xo⟩ := x
        simp only [] at hj h0 h1 hx0 cc cx c0 c7 cT ⊢
        subst hj
        generalize nth st j = s at cT h2
        have d2 : (s != 2) = true := by simpa using h2
        go_enter Tryz.func143, Tryz.ntmps143
        go_wp2
        refine wp_region_qw mixed' (by kernel_rfl) ?_
        repeat (refine QW.step (fun K hK => ?_); go_simp; first | (refine hK _ ?_; clear hK K) | (apply Exists.intro; refine ⟨fun _ => ?_, hK _ ?_⟩; fail; clear hK K))
        refine QW.nil ?_
        rintro _ ⟨p1, rfl⟩
        obtain ⟨w1, hw1⟩ := p1
        dsimp only
        go_wp2
        go_ret
        exact ⟨rfl, hx0.trans hw1⟩
    · have hB : freeB k.g st x = false := by
        unfold freeB
        rw [decide_eq_false (show ¬ x.at_ < k.g.n by rw [hn]; exact h1)]
        simp
      rw [hB]
      clear hB hrow h
      obtain ⟨xk, xa, xi, xo⟩ := x
      simp only [] at h0 h1 hx0 cc cx c0 c7 ⊢
      have d1 : decide (xa ≥ (k.n : Int)) = true := decide_eq_true (by omega)
      have d0 : decide (xa < 0) = false := decide_eq_false (by omega)
      go_enter Tryz.func143, Tryz.ntmps143
      go_wp2
      refine wp_region_qw mixed' (by kernel_rfl) ?_
      repeat (refine QW.step (fun K hK => ?_); go_simp; first | (refine hK _ ?_; clear hK K) | (apply Exists.intro; refine ⟨fun _ => ?_, hK _ ?_⟩; fail; clear hK K))
      refine QW.nil ?_
      rintro _ ⟨p1, rfl⟩
      obtain ⟨w1, hw1⟩ := p1
      dsimp only
      go_wp2
      go_ret
      exact ⟨rfl, hx0.trans hw1⟩
  · have hB : freeB k.g st x = false := by
      unfold freeB
      rw [decide_eq_false h0]
      simp
    rw [hB]
    clear hB hrow h
    obtain ⟨xk, xa, xi, xo⟩ := x
    simp only [] at h0 hx0 cc cx c0 c7 ⊢
    have d0 : decide (xa < 0) = true := decide_eq_true (by omega)
    go_enter Tryz.func143, Tryz.ntmps143
    go_wp2
    refine wp_region_qw mixed' (by kernel_rfl) ?_
    repeat (refine QW.step (fun K hK => ?_); go_simp; first | (refine hK _ ?_; clear hK K) | (apply Exists.intro; refine ⟨fun _ => ?_, hK _ ?_⟩; fail; clear hK K))
    refine QW.nil ?_
    rintro _ ⟨p1, rfl⟩
    obtain ⟨w1, hw1⟩ := p1
    dsimp only
    go_wp2
    go_ret
    exact ⟨rfl, hx0.trans hw1⟩
end Go.Proofs.YthjifmfmaiagoaaGreatDoor

/- A proof's checker: a decision on a vertex, taken back behind it. -/
namespace Go.Proofs.YthjifmfmaiagoaaGreatDoor
open Go.RowKit
attribute [local go_sem] Oper.semAt_some

theorem nth_set {st : List Int} {v i : Nat} (x : Int) (hi : i < st.length) : nth (st.set v x) i = if v = i then x else nth st i := by
  rw [nth_eq (by simpa using hi), List.getElem_set, nth_eq hi]
theorem nthB_set {s : List Bool} {v i : Nat} (x : Bool) (hi : i < s.length) : nthB (s.set v x) i = if v = i then x else nthB s i := by
  rw [nthB_eq (by simpa using hi), List.getElem_set, nthB_eq hi]
theorem RowI.set {w : World} {T v : Nat} {st : List Int} (h : RowI w T st) (hv : v < st.length) (x : Int) : RowI (w.setCell ⟨T, v, none⟩ (.int .i64 x)) T (st.set v x) := by
  intro i hi
  have hi' : i < st.length := by simpa using hi
  refine ⟨?_, by rw [World.frozen?_setCell]; exact (h i hi').2⟩
  rw [nth_set x hi']
  by_cases e : v = i
  · subst e
    rw [if_pos rfl]
    exact World.cell?_setCell_same _ _ _ (h v hv).1
  · rw [if_neg e]
    exact (World.cell?_setCell_other _ _ _ _ (by intro e'; simp only [Addr.mk.injEq] at e'; omega)).trans (h i hi').1
theorem RowB.set {w : World} {U v : Nat} {s : List Bool} (h : RowB w U s) (hv : v < s.length) (x : Bool) : RowB (w.setCell ⟨U, v, none⟩ (.bool x)) U (s.set v x) := by
  intro i hi
  have hi' : i < s.length := by simpa using hi
  refine ⟨?_, by rw [World.frozen?_setCell]; exact (h i hi').2⟩
  rw [nthB_set x hi']
  by_cases e : v = i
  · subst e
    rw [if_pos rfl]
    exact World.cell?_setCell_same _ _ _ (h v hv).1
  · rw [if_neg e]
    exact (World.cell?_setCell_other _ _ _ _ (by intro e'; simp only [Addr.mk.injEq] at e'; omega)).trans (h i hi').1
theorem RowI.other {w : World} {T U o : Nat} {st : List Int} (h : RowI w T st) (hne : U ≠ T) (x : Value) : RowI (w.setCell ⟨U, o, none⟩ x) T st := fun i hi =>
  ⟨(World.cell?_setCell_other _ _ _ _ (by intro e'; simp only [Addr.mk.injEq] at e'; omega)).trans (h i hi).1, by rw [World.frozen?_setCell]; exact (h i hi).2⟩
theorem RowB.other {w : World} {T U o : Nat} {s : List Bool} (h : RowB w U s) (hne : T ≠ U) (x : Value) : RowB (w.setCell ⟨T, o, none⟩ x) U s := fun i hi =>
  ⟨(World.cell?_setCell_other _ _ _ _ (by intro e'; simp only [Addr.mk.injEq] at e'; omega)).trans (h i hi).1, by rw [World.frozen?_setCell]; exact (h i hi).2⟩
theorem RowB.ext {w w' : World} {U : Nat} {s : List Bool} (h : RowB w U s) (e : Ext w w') : RowB w' U s :=
  fun i hi => ⟨e.cell (h i hi).1, (Ext.frozen e (World.block_lt_of_cell? w _ (h i hi).1)).trans (h i hi).2⟩

set_option maxRecDepth 100000 in
theorem f218_deferred (b4 b5 C T n v : Nat) (u : FrameMode) (w : World) (s : Int) (h1 : w.cell? ⟨b4, 0, none⟩ = some (.pointer (some ⟨C, 0, none⟩))) (h2 : w.cell? ⟨b5, 0, none⟩ = some (.int .i64 (v : Int))) (h7 : w.cell? ⟨C, 7, none⟩ = some (.slice (some ⟨T, 0, none⟩) n n)) (ht : w.cell? ⟨T, v, none⟩ = some (.int .i64 s)) (hf : w.frozen? ⟨T, v, none⟩ = false) (hv : v < n) :
    CallsD Tryz.prog 218 #[.pointer (some ⟨b4, 0, none⟩), .pointer (some ⟨b5, 0, none⟩)] u w fun e u' w' => u' = u ∧ (e = .returned (.tuple #[]) ∧ w' = (w.setCell ⟨T, v, none⟩ (.int .i64 0)).drew) := by
  have hvz : (v : Int) < (n : Int) := by omega
  go_enter_d Tryz.func218, Tryz.ntmps218
  go_wp2
  go_big_region
  go_wp2
  go_end0
  exact ⟨rfl, rfl⟩

/-- What checking a step leaves. -/
def RightP (k : CkD) (st : List Int) (w : World) (r : Option (List Bool)) (e : Ending) (w' : World) : Prop :=
  e = .returned (.bool r.isSome) ∧ Fr k.T k.U w w' ∧ RowI w' k.T st ∧ ∃ s2 : List Bool, s2.length = k.sn ∧ RowB w' k.U s2 ∧ ∀ s3, r = some s3 → s2 = s3
/-- What is asked of the checker before a step is checked. -/
structure RightI (k : CkD) (st : List Int) (seen : List Bool) (w : World) : Prop where
  ck : Ck k w
  tu : k.T ≠ k.U
  sv : ∃ c, k.sv = .slice (some ⟨k.U, 0, none⟩) k.sn c
  hst : st.length = k.n
  row : RowI w k.T st
  hsn : seen.length = k.sn
  rowb : RowB w k.U seen
  lU : k.U < w.heap.size

set_option maxRecDepth 100000 in
set_option maxHeartbeats 2000000 in
theorem decide_any (k : CkD) (st : List Int) (seen : List Bool) (w : World) (I : RightI k st seen w) (v : Nat) (what step : Int) (hv : v < k.n) (h0 : nth st v = 0) (r : Option (List Bool))
    (hr : ∀ W, RightI k (st.set v what) seen W → Calls Tryz.prog 147 #[.pointer (some ⟨k.C, 0, none⟩), .int .i64 step] W fun e w' => RightP k (st.set v what) W r e w') :
    Calls Tryz.prog 189 #[.pointer (some ⟨k.C, 0, none⟩), .int .i64 (v : Int), .int .i64 what, .int .i64 step] w fun e w' => RightP k st w r e w' := by
  have hx : Ext w ((w.alloc (.cells #[.pointer (some ⟨k.C, 0, none⟩)] 104)).alloc (.cells #[.int .i64 (v : Int)] 3)) := (by repeat' (first | exact Ext.refl _ | assumption | apply Ext.alloc | apply Ext.drewN | apply Ext.drew))
  have hvz : (v : Int) < (k.n : Int) := by omega
  have hvl : v < st.length := by rw [I.hst]; exact hv
  have c7 := hx.cell I.ck.c7
  have ct := hx.cell (I.row v hvl).1
  have cf := ((I.row.ext hx) v hvl).2
  have cb4 : ((w.alloc (.cells #[.pointer (some ⟨k.C, 0, none⟩)] 104)).alloc (.cells #[.int .i64 (v : Int)] 3)).cell? ⟨w.heap.size, 0, none⟩ = some (.pointer (some ⟨k.C, 0, none⟩)) := Ext.cell (w := w.alloc (.cells #[.pointer (some ⟨k.C, 0, none⟩)] 104)) (by repeat' (first | exact Ext.refl _ | assumption | apply Ext.alloc | apply Ext.drewN | apply Ext.drew)) (by simp)
  have HI := hid I
  have HR := hid hr
  have HX := hid hx
  have H0 := hid h0
  have cb5 : ((w.alloc (.cells #[.pointer (some ⟨k.C, 0, none⟩)] 104)).alloc (.cells #[.int .i64 (v : Int)] 3)).cell? ⟨w.heap.size + 1, 0, none⟩ = some (.int .i64 (v : Int)) := by simp
  have htl := I.ck.lT
  have HW : Hid (∀ W, W = (((w.setCell ⟨k.T, v, none⟩ (.int .i64 what)).alloc (.cells #[.pointer (some ⟨k.C, 0, none⟩)] 104)).alloc (.cells #[.int .i64 (v : Int)] 3)).drew → W.cell? ⟨w.heap.size, 0, none⟩ = some (.pointer (some ⟨k.C, 0, none⟩)) ∧ W.cell? ⟨w.heap.size + 1, 0, none⟩ = some (.int .i64 (v : Int)) ∧ w.heap.size + 1 < W.heap.size ∧ Fr k.T k.U w W ∧ RightI k (st.set v what) seen W) := by
    rintro W rfl
    have hf : Fr k.T k.U w (((w.setCell ⟨k.T, v, none⟩ (.int .i64 what)).alloc (.cells #[.pointer (some ⟨k.C, 0, none⟩)] 104)).alloc (.cells #[.int .i64 (v : Int)] 3)).drew := (Fr.setT w v _).trans (Fr.ext (by repeat' (first | exact Ext.refl _ | assumption | apply Ext.alloc | apply Ext.drewN | apply Ext.drew)))
    have he : Ext (w.setCell ⟨k.T, v, none⟩ (.int .i64 what)) (((w.setCell ⟨k.T, v, none⟩ (.int .i64 what)).alloc (.cells #[.pointer (some ⟨k.C, 0, none⟩)] 104)).alloc (.cells #[.int .i64 (v : Int)] 3)).drew := (by repeat' (first | exact Ext.refl _ | assumption | apply Ext.alloc | apply Ext.drewN | apply Ext.drew))
    have hz : (w.setCell ⟨k.T, v, none⟩ (.int .i64 what)).heap.size = w.heap.size := by simp
    refine ⟨?_, ?_, ?_, hf, ?_⟩
    · exact Ext.cell (w := (w.setCell ⟨k.T, v, none⟩ (.int .i64 what)).alloc (.cells #[.pointer (some ⟨k.C, 0, none⟩)] 104)) (by repeat' (first | exact Ext.refl _ | assumption | apply Ext.alloc | apply Ext.drewN | apply Ext.drew)) (cellNew hz.symm)
    · exact cellNew (W := (w.setCell ⟨k.T, v, none⟩ (.int .i64 what)).alloc (.cells #[.pointer (some ⟨k.C, 0, none⟩)] 104)) (b := w.heap.size + 1) (by simp)
    · show _ < (World.alloc (World.alloc _ _) _).heap.size
      simp
    · exact ⟨I.ck.fr hf, I.tu, I.sv, by rw [List.length_set]; exact I.hst, (I.row.set hvl what).ext he, I.hsn, (I.rowb.other I.tu _).ext he, Nat.lt_of_lt_of_le I.lU hf.size⟩
  clear I hr hx h0
  have hmf : ∀ (fn : Fn) (first cap : Array Value) (w : World), (Instr.makeFunc fn first cap).run Tryz.prog w = .ok (.func fn first cap) w := fun _ _ _ _ => rfl
  go_enter_defers Tryz.func189, Tryz.ntmps189
  go_wp2
  go_big_region
  generalize hW : (((w.setCell ⟨k.T, v, none⟩ (.int .i64 what)).alloc (.cells #[.pointer (some ⟨k.C, 0, none⟩)] 104)).alloc (.cells #[.int .i64 (v : Int)] 3)).drew = W1
  obtain ⟨d4, d5, hsz, hf1, hi1⟩ := HW.out W1 hW.symm
  have HD := hid (And.intro d4 (And.intro d5 (And.intro hsz (And.intro hf1 hi1))))
  clear hW HW c7 ct cf cb4 cb5 d5 hsz hf1 hi1
  go_wp2_with (go_at_call 147; go_loud (refine (HR.out _ HD.out.2.2.2.2).mono ?_; rintro e w2 ⟨rfl, hf2, hr2, s2, hs2, hb2, hq2⟩; have H2 := hid (And.intro hf2 (And.intro hr2 (And.intro hs2 (And.intro hb2 hq2)))); clear hf2 hr2 hs2 hb2 hq2))
  obtain ⟨hf2, hr2, hs2, hb2, hq2⟩ := H2.out
  obtain ⟨d4, d5, hsz, hf1, hi1⟩ := HD.out
  have hne := HI.out.ck.lT
  have hlu := HI.out.lU
  have hvl2 : v < (st.set v what).length := by simpa using hvl
  refine leaves_cons (f := 218) (args := #[.pointer (some ⟨w.heap.size, 0, none⟩), .pointer (some ⟨w.heap.size + 1, 0, none⟩)]) (by simp) (by simp [go_sem]) ?_
  refine (f218_deferred w.heap.size (w.heap.size + 1) k.C k.T k.n v .returning w2 _ (hf2.cell d4 (by show w.heap.size ≠ k.T; omega) (by show w.heap.size ≠ k.U; omega)) (hf2.cell d5 (by show w.heap.size + 1 ≠ k.T; omega) (by show w.heap.size + 1 ≠ k.U; omega)) (hi1.ck.fr hf2).c7 (hr2 v hvl2).1 (hr2 v hvl2).2 hv).mono ?_
  rintro e u' w3 ⟨rfl, rfl, rfl⟩
  refine ⟨_, results_tmp rfl _ _ _, rfl, ((hf1.trans hf2).trans (Fr.setT _ _ _)).trans (Fr.ext (by repeat' (first | exact Ext.refl _ | assumption | apply Ext.alloc | apply Ext.drewN | apply Ext.drew))), ?_, s2, hs2, (hb2.other HI.out.tu _).ext (by repeat' (first | exact Ext.refl _ | assumption | apply Ext.alloc | apply Ext.drewN | apply Ext.drew)), hq2⟩
  have h3 := (hr2.set hvl2 0).ext (w' := (w2.setCell ⟨k.T, v, none⟩ (.int .i64 0)).drew) (by repeat' (first | exact Ext.refl _ | assumption | apply Ext.alloc | apply Ext.drewN | apply Ext.drew))
  have e0 : (st.set v what).set v 0 = st := by
    rw [List.set_set]
    refine List.ext_getElem (by simp) fun i h1 h2 => ?_
    rw [List.getElem_set]
    split
    · rename_i h
      subst h
      rw [← nth_eq h2]
      exact H0.out.symm
    · rfl
  rw [e0] at h3
  exact h3
end Go.Proofs.YthjifmfmaiagoaaGreatDoor

/- A row of rows of the call's own: each row grows by one number at a time. -/
namespace Go.Proofs.YthjifmfmaiagoaaGreatDoor
open Go.RowKit

/-- Block V holds n slices, each of the call's own memory from B on, no two of them in one block. -/
structure Grid (w : World) (B V n : Nat) (vals : Nat → Value) (L : Nat → List Int) : Prop where
  cell : ∀ v, v < n → w.cell? ⟨V, v, none⟩ = some (vals v) ∧ w.frozen? ⟨V, v, none⟩ = false
  own : ∀ v, v < n → w.ownsRow B 3 1 (vals v) (L v).length (intVs' (L v))
  notV : ∀ v, v < n → (vals v).ownBlock ≠ some V
  apart : ∀ u v, u < n → v < n → u ≠ v → ∀ b, (vals u).ownBlock = some b → (vals v).ownBlock ≠ some b
theorem Grid.ltV {w : World} {B V n : Nat} {vals : Nat → Value} {L : Nat → List Int} (h : Grid w B V n vals L) (hn : 0 < n) : V < w.heap.size := World.block_lt_of_cell? w _ (h.cell 0 hn).1
theorem Grid.keep {w w' : World} {B V n : Nat} {vals : Nat → Value} {L : Nat → List Int} (h : Grid w B V n vals L) (hk : ∀ b, b < w.heap.size → (b = V ∨ ∃ v, v < n ∧ (vals v).ownBlock = some b) → w'.heap[b]? = w.heap[b]?) : Grid w' B V n vals L :=
  ⟨fun v hv => by
    have hb := hk V (World.block_lt_of_cell? w _ (h.cell v hv).1) (.inl rfl)
    exact ⟨(World.cell?_of_block (w := w) hb).trans (h.cell v hv).1, (World.frozen?_of_block (w := w) hb).trans (h.cell v hv).2⟩,
   fun v hv => own_keep (h.own v hv) fun b hb => hk b (own_lt (h.own v hv) hb).1 (.inr ⟨v, hv, hb⟩), h.notV, h.apart⟩
theorem Grid.ext {w w' : World} {B V n : Nat} {vals : Nat → Value} {L : Nat → List Int} (h : Grid w B V n vals L) (e : Ext w w') : Grid w' B V n vals L := h.keep fun b hb _ => e.block b hb
/-- A number behind one of the rows. -/
theorem Grid.push {w w1 : World} {B V n : Nat} {vals : Nat → Value} {L : Nat → List Int} (h : Grid w B V n vals L) {v : Nat} (hv : v < n) {y : Int} {v1 : Value} (ho : w1.ownsRow B 3 1 v1 ((L v).length + 1) (intVs' (L v) ++ [.int .i64 y]))
    (hg : w.grownBy w1 (vals v).ownBlock) (hat : v1.ownBlock = (vals v).ownBlock ∨ ∃ b, v1.ownBlock = some b ∧ w.heap.size ≤ b) :
    Grid (w1.setCell ⟨V, v, none⟩ v1) B V n (fun u => if u = v then v1 else vals u) (fun u => if u = v then L v ++ [y] else L u) := by
  have hV : V < w.heap.size := World.block_lt_of_cell? w _ (h.cell v hv).1
  have hVv := h.notV v hv
  have hb1 : ∀ k, k < w.heap.size → (vals v).ownBlock ≠ some k → w1.heap[k]? = w.heap[k]? := fun k hk hne => hg.5 k hk (fun e => hne e.symm)
  have hVb := hb1 V hV hVv
  have hset : ∀ k, k ≠ V → (w1.setCell ⟨V, v, none⟩ v1).heap[k]? = w1.heap[k]? := fun k hk => Below.heap_setCell _ _ _ _ hk
  have hv1V : v1.ownBlock ≠ some V := by
    rcases hat with e | ⟨b, e, hb⟩
    · rw [e]; exact hVv
    · rw [e]
      intro hh
      cases hh
      omega
  have hcell1 : ∀ u, u < n → w1.cell? ⟨V, u, none⟩ = some (vals u) ∧ w1.frozen? ⟨V, u, none⟩ = false := fun u hu => ⟨(World.cell?_of_block (w := w) hVb).trans (h.cell u hu).1, (World.frozen?_of_block (w := w) hVb).trans (h.cell u hu).2⟩
  refine ⟨fun u hu => ?_, fun u hu => ?_, fun u hu => ?_, fun u x hu hx hne b hb => ?_⟩
  · by_cases e : u = v
    · subst e
      rw [if_pos rfl]
      exact ⟨World.cell?_setCell_same _ _ _ (hcell1 u hu).1, by rw [World.frozen?_setCell]; exact (hcell1 u hu).2⟩
    · rw [if_neg e]
      exact ⟨by rw [World.cell?_setCell_other _ _ _ _ (by simpa using e)]; exact (hcell1 u hu).1, by rw [World.frozen?_setCell]; exact (hcell1 u hu).2⟩
  · by_cases e : u = v
    · subst e
      simp only [if_pos]
      rw [List.length_append, List.length_singleton]
      refine own_keep (xs := intVs' (L u ++ [y])) (by unfold intVs' at ho ⊢; rw [List.map_append]; exact ho) fun b hb => hset b fun e => hv1V (by rw [hb, e])
    · simp only [if_neg e]
      refine own_keep (h.own u hu) fun b hb => (hset b fun e2 => h.notV u hu (by rw [hb, e2])).trans (hb1 b (own_lt (h.own u hu) hb).1 (h.apart u v hu hv e b hb))
  · by_cases e : u = v
    · simp only [if_pos e]
      exact hv1V
    · simp only [if_neg e]
      exact h.notV u hu
  · by_cases e : u = v
    · subst e
      simp only [if_pos] at hb
      rw [if_neg (fun e => hne e.symm)]
      rcases hat with e1 | ⟨b', e1, hb'⟩
      · exact h.apart u x hu hx hne b (by rw [← e1]; exact hb)
      · rw [e1] at hb
        cases hb
        intro hh
        have := (own_lt (h.own x hx) hh).1
        omega
    · simp only [if_neg e] at hb
      by_cases e2 : x = v
      · subst e2
        rw [if_pos rfl]
        rcases hat with e1 | ⟨b', e1, hb'⟩
        · rw [e1]
          exact h.apart u x hu hx hne b hb
        · rw [e1]
          intro hh
          cases hh
          have := (own_lt (h.own u hu) hb).1
          omega
      · rw [if_neg e2]
        exact h.apart u x hu hx hne b hb
/-- What a row of the grid reads as. -/
theorem Grid.row {w : World} {B V n : Nat} {vals : Nat → Value} {L : Nat → List Int} (h : Grid w B V n vals L) {v : Nat} (hv : v < n) :
    ∃ A m d, vals v = .slice A m d ∧ RI w A m d (L v) ∧ ∀ ad, A = some ad → (vals v).ownBlock = some ad.block ∧ B ≤ ad.block ∧ ad.block < w.heap.size := by
  have ho := h.own v hv
  rcases ho.2 with ⟨e, h0⟩ | ⟨g, cap, cur, e, h1, h2, h3, h4, h5, h6⟩
  · refine ⟨none, 0, 0, e, ?_, fun ad ha => by cases ha⟩
    rw [List.length_eq_zero_iff.1 h0]
    exact RI.nil w
  · refine ⟨_, _, _, e, ⟨rfl, h3, by simp only [maxLen] at h4; omega, fun i hi => ⟨_, rfl, ?_⟩⟩, fun ad ha => ?_⟩
    · have hc := ho.cells (g := g) (by rw [e]; rfl) i (.int .i64 (nth (L v) i)) (by
        unfold intVs'
        rw [List.getElem?_map, List.getElem?_eq_getElem hi, nth_eq hi]
        rfl)
      exact hc
    · cases ha
      have := own_lt ho (b := g) (by rw [e]; rfl)
      exact ⟨by rw [e]; rfl, h1, this.1⟩
end Go.Proofs.YthjifmfmaiagoaaGreatDoor

/- Opening of a row's arguments: numbers, lists, ways, steps, graphs as they lie in memory. -/
namespace Go.Proofs.YthjifmfmaiagoaaGreatDoor
open Go.RowKit Go.ChangeShapes Go.WideShapes Go.Deep

section
variable {H : Type} {enc : TypeId × Value → H} {w : World} {base : Nat} {sp : Nat → Bool} {held : Bool}

theorem getD_map_range {α : Type} (z : Nat → α) (d : α) {n i : Nat} (hi : i < n) : ((List.range n).map z).getD i d = z i := by
  rw [List.getD_eq_getElem?_getD, List.getElem?_map, List.getElem?_range hi]
  rfl
theorem opn_int {fuel : Nat} {cs : List Value} {x : DataW H × List MemPlace} (h : DataW.trod enc Tryz.prog w base sp held fuel 3 cs = some x) : ∃ n, cs = [.int .i64 n] ∧ -9223372036854775808 ≤ n ∧ n ≤ 9223372036854775807 := by
  obtain ⟨n, h1, _, h2⟩ := DataW.trod_int Tryz.underlying3 h
  refine ⟨n, h1, ?_⟩
  have e1 : IntKind.i64.min = -9223372036854775808 := by decide
  have e2 : IntKind.i64.max = 9223372036854775807 := by decide
  simp only [Lit.wf, Bool.and_eq_true, decide_eq_true_eq, e1, e2] at h2
  exact h2
theorem opn_RI {fuel : Nat} {cs : List Value} {x : DataW H × List MemPlace} (h : DataW.trod enc Tryz.prog w base sp held fuel 22 cs = some x) : ∃ A n c l, cs = [.slice A n c] ∧ RI w A n c l := by
  rcases open_slice1 Tryz.underlying22 (by kernel_rfl) h with ⟨rfl, _⟩ | ⟨a, len, cap, m, n, V, D, Pl, rfl, hb, hl, hm, hmm, _, hx⟩
  · exact ⟨none, 0, 0, [], rfl, RI.nil w⟩
  · have hlm : len ≤ m := by rw [hmm]; split <;> omega
    have hz : ∀ i, ∃ z : Int, i < len → V i = .int .i64 z := fun i => by
      by_cases hi : i < len
      · obtain ⟨z, hz, _⟩ := opn_int (hx i (by omega)).2
        exact ⟨z, fun _ => by simpa using hz⟩
      · exact ⟨0, fun h => absurd h hi⟩
    obtain ⟨z, hz⟩ := Classical.axiomOfChoice hz
    refine ⟨some a, len, cap, (List.range len).map z, rfl, by simp, hl, by simp only [maxLen] at hm; omega, fun i hi => ⟨a, rfl, ?_⟩⟩
    rw [(hx i (by omega)).1, hz i hi, nth, getD_map_range z 0 hi]
theorem opn_RR {fuel : Nat} {cs : List Value} {x : DataW H × List MemPlace} (h : DataW.trod enc Tryz.prog w base sp held fuel 23 cs = some x) : ∃ A n c l, cs = [.slice A n c] ∧ RR w A n c l := by
  rcases open_slice1 Tryz.underlying23 (by kernel_rfl) h with ⟨rfl, _⟩ | ⟨a, len, cap, m, n, V, D, Pl, rfl, hb, hl, hm, hmm, _, hx⟩
  · exact ⟨none, 0, 0, [], rfl, RR.nil w⟩
  · have hlm : len ≤ m := by rw [hmm]; split <;> omega
    have hz : ∀ i, ∃ z : List Int, i < len → ∃ B m d, V i = .slice B m d ∧ RI w B m d z := fun i => by
      by_cases hi : i < len
      · obtain ⟨B, m, d, l, hz, hr⟩ := opn_RI (hx i (by omega)).2
        exact ⟨l, fun _ => ⟨B, m, d, by simpa using hz, hr⟩⟩
      · exact ⟨[], fun h => absurd h hi⟩
    obtain ⟨z, hz⟩ := Classical.axiomOfChoice hz
    refine ⟨some a, len, cap, (List.range len).map z, rfl, by simp, hl, by simp only [maxLen] at hm; omega, fun i hi => ?_⟩
    obtain ⟨B, m', d, h1, h2⟩ := hz i hi
    exact ⟨a, B, m', d, rfl, by rw [(hx i (by omega)).1, h1], by rw [row, getD_map_range z [] hi]; exact h2⟩
theorem add_off {a : Addr} {i j : Nat} (h : 0 < i + j) : (⟨(a.add i).block, (a.add i).off + j, none⟩ : Addr) = a.add (i + j) := by
  unfold Addr.add
  rw [if_neg (show ¬ i + j = 0 by omega)]
  split
  · rename_i h0
    subst h0
    simp
  · simp [Nat.add_assoc]
theorem opn_RW {fuel : Nat} {cs : List Value} {x : DataW H × List MemPlace} (h : DataW.trod enc Tryz.prog w base sp held fuel 26 cs = some x) : ∃ A n c l, cs = [.slice A n c] ∧ RW w A n c l ∧ (A = none → c = 0) := by
  rcases open_slice_pairs Tryz.underlying26 Tryz.underlying43 (by kernel_rfl) rfl rfl (by kernel_rfl) (by kernel_rfl) h with ⟨rfl, _⟩ | ⟨a, len, cap, m, n, V0, V1, D0, D1, P0, P1, rfl, hb, hl, hm, hmm, _, hx⟩
  · exact ⟨none, 0, 0, [], rfl, RW.nil w, fun _ => rfl⟩
  · have hlm : len ≤ m := by rw [hmm]; split <;> omega
    have hz : ∀ i, ∃ z : Way, i < len → ∃ B m d B' m' d', V0 i = .slice B m d ∧ V1 i = .slice B' m' d' ∧ RI w B m d z.pos ∧ RI w B' m' d' z.neg := fun i => by
      by_cases hi : i < len
      · obtain ⟨B, m, d, l, h1, hr⟩ := opn_RI (hx i (by omega)).2.2.1
        obtain ⟨B', m', d', l', h1', hr'⟩ := opn_RI (hx i (by omega)).2.2.2
        exact ⟨⟨l, l'⟩, fun _ => ⟨B, m, d, B', m', d', by simpa using h1, by simpa using h1', hr, hr'⟩⟩
      · exact ⟨⟨[], []⟩, fun h => absurd h hi⟩
    obtain ⟨z, hz⟩ := Classical.axiomOfChoice hz
    refine ⟨some a, len, cap, (List.range len).map z, rfl, ⟨by simp, hl, by simp only [maxLen] at hm; omega, fun i hi => ?_⟩, fun e => (by cases e)⟩
    obtain ⟨B, m', d, B', m'', d', h1, h2, h3, h4⟩ := hz i hi
    have hxx := hx i (by omega)
    refine ⟨a, B, m', d, B', m'', d', rfl, by rw [hxx.1, h1], ?_, by rw [way, getD_map_range z ⟨[], []⟩ hi]; exact h3, by rw [way, getD_map_range z ⟨[], []⟩ hi]; exact h4⟩
    rw [add_off (by omega), hxx.2.1, h2]
set_option maxRecDepth 100000 in
theorem opn_RS {fuel : Nat} {cs : List Value} {x : DataW H × List MemPlace} (h : DataW.trod enc Tryz.prog w base sp held fuel 34 cs = some x) : ∃ A n c l, cs = [.slice A n c] ∧ RS w A n c l ∧ (A = none → c = 0) := by
  rcases open_slice Tryz.underlying34 h with ⟨rfl, _⟩ | ⟨a, len, cap, m, n, D, Pl, rfl, hb, hl, hm, hmm, _, hx⟩
  · exact ⟨none, 0, 0, [], rfl, ⟨rfl, Nat.le_refl _, by omega, fun i hi => absurd hi (Nat.not_lt_zero _)⟩, fun _ => rfl⟩
  · have hlm : len ≤ m := by rw [hmm]; split <;> omega
    have h4 : Tryz.prog.cellsOf 57 = 4 := by kernel_rfl
    have c3 : Tryz.prog.cellsOf 3 = 1 := by kernel_rfl
    rw [h4] at hx
    have hz : ∀ i, ∃ z : Step, i < len → w.cell? (a.add (i * 4)) = some (.int .i64 z.kind) ∧ w.cell? (a.add (i * 4 + 1)) = some (.int .i64 z.at_) ∧ w.cell? (a.add (i * 4 + 2)) = some (.int .i64 z.in_) ∧ w.cell? (a.add (i * 4 + 3)) = some (.int .i64 z.out) := fun i => by
      by_cases hi : i < len
      · obtain ⟨cs', h1, h2⟩ := hx i (by omega)
        obtain ⟨_, hlen, hcell⟩ := World.cells?_some h1
        obtain ⟨xs, k, hk, _, _, hxl, hf⟩ := DataW.trod_struct Tryz.underlying57 h2
        match cs', hlen with
        | [v0, v1, v2, v3], _ =>
          match xs, hxl with
          | [y0, y1, y2, y3], _ =>
            have g0 := hf 0 _ rfl
            have g1 := hf 1 _ rfl
            have g2 := hf 2 _ rfl
            have g3 := hf 3 _ rfl
            simp [c3] at g0 g1 g2 g3
            have e0 := hcell 0 (by omega)
            have e1 := hcell 1 (by omega)
            have e2 := hcell 2 (by omega)
            have e3 := hcell 3 (by omega)
            rw [add_add] at e0 e1 e2 e3
            obtain ⟨z0, hz0, _⟩ := opn_int g0
            obtain ⟨z1, hz1, _⟩ := opn_int g1
            obtain ⟨z2, hz2, _⟩ := opn_int g2
            obtain ⟨z3, hz3, _⟩ := opn_int g3
            cases hz0; cases hz1; cases hz2; cases hz3
            exact ⟨⟨z0, z1, z2, z3⟩, fun _ => ⟨by simpa using e0, by simpa using e1, by simpa using e2, by simpa using e3⟩⟩
      · exact ⟨⟨0, 0, 0, 0⟩, fun h => absurd h hi⟩
    obtain ⟨z, hz⟩ := Classical.axiomOfChoice hz
    refine ⟨some a, len, cap, (List.range len).map z, rfl, ⟨by simp, hl, by simp only [maxLen] at hm; omega, fun i hi => ?_⟩, fun e => (by cases e)⟩
    obtain ⟨h1, h2, h3, h4⟩ := hz i hi
    rw [stepv, getD_map_range z ⟨0, 0, 0, 0⟩ hi]
    exact ⟨a, rfl, h1, by rw [add_off (by omega)]; exact h2, by rw [add_off (by omega)]; exact h3, by rw [add_off (by omega)]; exact h4⟩
end
end Go.Proofs.YthjifmfmaiagoaaGreatDoor

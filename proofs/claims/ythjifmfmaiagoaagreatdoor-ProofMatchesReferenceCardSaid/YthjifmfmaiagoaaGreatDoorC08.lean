/- C08: texts H26. -/
import Derived.Test.YthjifmfmaiagoaaGreatDoorC07
set_option linter.all false

/- A proof's checker: the leaves way, none and free. -/
namespace Go.Proofs.YthjifmfmaiagoaaGreatDoor
open Go.RowKit
attribute [local go_sem] Oper.semAt_some

theorem RowI.ext {w w' : World} {T : Nat} {st : List Int} (h : RowI w T st) (e : Ext w w') : RowI w' T st :=
  fun i hi => ⟨e.cell (h i hi).1, (Ext.frozen e (World.block_lt_of_cell? w _ (h i hi).1)).trans (h i hi).2⟩
theorem way_at {k : CkD} (rw' : RW k.w0 k.WA k.wn k.wc k.ws) {j : Nat} (hj : j < k.wn) : ∃ ad B m d B' m' d', k.WA = some ad ∧ k.w0.cell? (ad.add (j * 2)) = some (.slice B m d) ∧ k.w0.cell? ⟨(ad.add (j * 2)).block, (ad.add (j * 2)).off + 1, none⟩ = some (.slice B' m' d') ∧ RI k.w0 B m d (way k.ws j).pos ∧ RI k.w0 B' m' d' (way k.ws j).neg ∧ way k.ws j ∈ k.ws := by
  obtain ⟨ad, B, m, d, B', m', d', h1, h2, h3, h4, h5⟩ := rw'.cell j hj
  exact ⟨ad, B, m, d, B', m', d', h1, h2, h3, h4, h5, way_mem (by rw [rw'.len]; exact hj)⟩
theorem Ck.wbelow {k : CkD} {w : World} (h : Ck k w) {x : Way} (hx : x ∈ k.ws) : Below' k.n x.pos ∧ Below' k.n x.neg := by
  have h1 := h.okw x hx
  have h2 := h.hn
  refine ⟨fun v hv => ?_, fun v hv => ?_⟩
  · have := h1.1.2 v hv
    omega
  · have := h1.2.2 v hv
    omega

set_option maxRecDepth 100000 in
set_option maxHeartbeats 4000000 in
theorem way_any (k : CkD) (w : World) (st : List Int) (h : Ck k w) (hst : st.length = k.n) (hrow : RowI w k.T st) (at_ : Int) (x : Step) :
    Calls Tryz.prog 144 #[.pointer (some ⟨k.C, 0, none⟩), .int .i64 at_, .agg #[.int .i64 x.kind, .int .i64 x.at_, .int .i64 x.in_, .int .i64 x.out]] w fun e w' => e = .returned (.bool (wayB k.ws k.hold st x)) ∧ Ext w w' := by
  have hwl := h.rws.len
  have H := hid h
  have c3 : ∀ p : ExtOf (w.alloc (.cells #[.int .i64 x.kind, .int .i64 x.at_, .int .i64 x.in_, .int .i64 x.out] 57)), p.W.cell? ⟨k.C, 3, none⟩ = some (.slice k.WA k.wn k.wc) := fun p => Ext.cell (Ext.trans (by repeat' (first | exact Ext.refl _ | assumption | apply Ext.alloc | apply Ext.drewN | apply Ext.drew)) p.h) h.c3
  have c4 : ∀ p : ExtOf (w.alloc (.cells #[.int .i64 x.kind, .int .i64 x.at_, .int .i64 x.in_, .int .i64 x.out] 57)), p.W.cell? ⟨k.C, 4, none⟩ = some (.bool k.hold) := fun p => Ext.cell (Ext.trans (by repeat' (first | exact Ext.refl _ | assumption | apply Ext.alloc | apply Ext.drewN | apply Ext.drew)) p.h) h.c4
  have cx : ∀ p : ExtOf (w.alloc (.cells #[.int .i64 x.kind, .int .i64 x.at_, .int .i64 x.in_, .int .i64 x.out] 57)), p.W.cell? ⟨w.heap.size, 1, none⟩ = some (.int .i64 x.at_) := fun p => Ext.cell p.h (by simp)
  cases hh : k.hold with
  | true =>
    rw [hh] at c4
    have hB : wayB k.ws true st x = false := by simp [wayB]
    rw [hB]
    clear hB hrow h
    obtain ⟨xk, xa, xi, xo⟩ := x
    simp only [] at c3 c4 cx ⊢
    go_enter Tryz.func144, Tryz.ntmps144
    go_wp2
    refine wp_region_qw mixed' (by kernel_rfl) ?_
    repeat (refine QW.step (fun K hK => ?_); go_simp; first | (refine hK _ ?_; clear hK K) | (apply Exists.intro; refine ⟨fun _ => ?_, hK _ ?_⟩; fail; clear hK K))
    refine QW.nil ?_
    rintro _ ⟨⟨w1, hw1⟩, rfl⟩
    go_wp2
    go_ret
    exact ⟨rfl, Ext.trans (by repeat' (first | exact Ext.refl _ | assumption | apply Ext.alloc | apply Ext.drewN | apply Ext.drew)) hw1⟩
  | false =>
    rw [hh] at c4
    by_cases h0 : 0 ≤ x.at_
    · by_cases h1 : x.at_ < (k.wn : Int)
      · obtain ⟨j, hj⟩ : ∃ j : Nat, x.at_ = j := ⟨x.at_.toNat, by omega⟩
        have hjn : j < k.wn := by omega
        obtain ⟨ad, B, m, d, B', m', d', hWA, hc, hc', hri, hri', hmem⟩ := way_at h.rws hjn
        have HK1 : Hid (∀ p : ExtOf (w.alloc (.cells #[.int .i64 x.kind, .int .i64 x.at_, .int .i64 x.in_, .int .i64 x.out] 57)), Calls Tryz.prog 190 #[.pointer (some ⟨k.C, 0, none⟩), .slice B m d, .int .i64 1] p.W fun e w' => e = .returned (.bool (areB st 1 (way k.ws j).pos)) ∧ Ext p.W w') := fun p =>
          are_any k p.W st (h.fr (Fr.ext (Ext.trans (by repeat' (first | exact Ext.refl _ | assumption | apply Ext.alloc | apply Ext.drewN | apply Ext.drew)) p.h))) hst (hrow.ext (Ext.trans (by repeat' (first | exact Ext.refl _ | assumption | apply Ext.alloc | apply Ext.drewN | apply Ext.drew)) p.h)) B m d _ 1 (hri.ext (h.ext.trans (Ext.trans (by repeat' (first | exact Ext.refl _ | assumption | apply Ext.alloc | apply Ext.drewN | apply Ext.drew)) p.h))) (h.wbelow hmem).1
        have HK2 : Hid (∀ p : ExtOf (w.alloc (.cells #[.int .i64 x.kind, .int .i64 x.at_, .int .i64 x.in_, .int .i64 x.out] 57)), Calls Tryz.prog 190 #[.pointer (some ⟨k.C, 0, none⟩), .slice B' m' d', .int .i64 2] p.W fun e w' => e = .returned (.bool (areB st 2 (way k.ws j).neg)) ∧ Ext p.W w') := fun p =>
          are_any k p.W st (h.fr (Fr.ext (Ext.trans (by repeat' (first | exact Ext.refl _ | assumption | apply Ext.alloc | apply Ext.drewN | apply Ext.drew)) p.h))) hst (hrow.ext (Ext.trans (by repeat' (first | exact Ext.refl _ | assumption | apply Ext.alloc | apply Ext.drewN | apply Ext.drew)) p.h)) B' m' d' _ 2 (hri'.ext (h.ext.trans (Ext.trans (by repeat' (first | exact Ext.refl _ | assumption | apply Ext.alloc | apply Ext.drewN | apply Ext.drew)) p.h))) (h.wbelow hmem).2
        have ce : ∀ p : ExtOf (w.alloc (.cells #[.int .i64 x.kind, .int .i64 x.at_, .int .i64 x.in_, .int .i64 x.out] 57)), p.W.cell? (ad.add (j * 2)) = some (.slice B m d) := fun p => Ext.cell (h.ext.trans (Ext.trans (by repeat' (first | exact Ext.refl _ | assumption | apply Ext.alloc | apply Ext.drewN | apply Ext.drew)) p.h)) hc
        have ce' : ∀ p : ExtOf (w.alloc (.cells #[.int .i64 x.kind, .int .i64 x.at_, .int .i64 x.in_, .int .i64 x.out] 57)), p.W.cell? ⟨(ad.add (j * 2)).block, (ad.add (j * 2)).off + 1, none⟩ = some (.slice B' m' d') := fun p => Ext.cell (h.ext.trans (Ext.trans (by repeat' (first | exact Ext.refl _ | assumption | apply Ext.alloc | apply Ext.drewN | apply Ext.drew)) p.h)) hc'
        have hB : wayB k.ws false st x = (areB st 1 (way k.ws j).pos && areB st 2 (way k.ws j).neg) := by
          unfold wayB
          rw [decide_eq_true h0, decide_eq_true (show x.at_ < (k.ws.length : Int) by rw [hwl]; exact h1), hj]
          simp
        rw [hB]
        clear hB hrow h hmem hri hri' hc hc'
        generalize areB st 1 (way k.ws j).pos = b1 at HK1 ⊢
        generalize areB st 2 (way k.ws j).neg = b2 at HK2 ⊢
        obtain ⟨xk, xa, xi, xo⟩ := x
        simp only [] at hj h0 h1 c3 c4 cx ce ce' HK1 HK2 ⊢
        subst hj
        rw [hWA] at c3
        cases b1 with
        | true =>
          go_enter Tryz.func144, Tryz.ntmps144
          go_wp2
          refine wp_region_qw mixed' (by kernel_rfl) ?_
          repeat (refine QW.step (fun K hK => ?_); go_simp; first | (refine hK _ ?_; clear hK K) | (apply Exists.intro; refine ⟨fun _ => ?_, hK _ ?_⟩; (first | exact Calls.ext_of (HK1.out _) | exact Calls.ext_of (HK2.out _)); clear hK K))
          refine QW.nil ?_
          rintro _ ⟨⟨w1, hw1⟩, rfl⟩
          go_wp2
          go_ret
          exact ⟨by simp, Ext.trans (by repeat' (first | exact Ext.refl _ | assumption | apply Ext.alloc | apply Ext.drewN | apply Ext.drew)) hw1⟩
        | false =>
          go_enter Tryz.func144, Tryz.ntmps144
          go_wp2
          refine wp_region_qw mixed' (by kernel_rfl) ?_
          repeat (refine QW.step (fun K hK => ?_); go_simp; first | (refine hK _ ?_; clear hK K) | (apply Exists.intro; refine ⟨fun _ => ?_, hK _ ?_⟩; (first | exact Calls.ext_of (HK1.out _) | exact Calls.ext_of (HK2.out _)); clear hK K))
          refine QW.nil ?_
          rintro _ ⟨⟨w1, hw1⟩, rfl⟩
          go_wp2
          go_ret
          exact ⟨by simp, Ext.trans (by repeat' (first | exact Ext.refl _ | assumption | apply Ext.alloc | apply Ext.drewN | apply Ext.drew)) hw1⟩
      · have hB : wayB k.ws false st x = false := by
          unfold wayB
          rw [decide_eq_false (show ¬ x.at_ < (k.ws.length : Int) by rw [hwl]; exact h1)]
          simp
        rw [hB]
        clear hB hrow h
        obtain ⟨xk, xa, xi, xo⟩ := x
        simp only [] at h0 h1 c3 c4 cx ⊢
        have d1 : decide (xa < (k.wn : Int)) = false := decide_eq_false h1
        have d0 : decide (xa ≥ 0) = true := decide_eq_true h0
        go_enter Tryz.func144, Tryz.ntmps144
        go_wp2
        refine wp_region_qw mixed' (by kernel_rfl) ?_
        repeat (refine QW.step (fun K hK => ?_); go_simp; first | (refine hK _ ?_; clear hK K) | (apply Exists.intro; refine ⟨fun _ => ?_, hK _ ?_⟩; fail; clear hK K))
        refine QW.nil ?_
        rintro _ ⟨⟨w1, hw1⟩, rfl⟩
        go_wp2
        go_ret
        exact ⟨rfl, Ext.trans (by repeat' (first | exact Ext.refl _ | assumption | apply Ext.alloc | apply Ext.drewN | apply Ext.drew)) hw1⟩
    · have hB : wayB k.ws false st x = false := by
        unfold wayB
        rw [decide_eq_false h0]
        simp
      rw [hB]
      clear hB hrow h
      obtain ⟨xk, xa, xi, xo⟩ := x
      simp only [] at h0 c3 c4 cx ⊢
      have d0 : decide (xa ≥ 0) = false := decide_eq_false h0
      go_enter Tryz.func144, Tryz.ntmps144
      go_wp2
      refine wp_region_qw mixed' (by kernel_rfl) ?_
      repeat (refine QW.step (fun K hK => ?_); go_simp; first | (refine hK _ ?_; clear hK K) | (apply Exists.intro; refine ⟨fun _ => ?_, hK _ ?_⟩; fail; clear hK K))
      refine QW.nil ?_
      rintro _ ⟨⟨w1, hw1⟩, rfl⟩
      go_wp2
      go_ret
      exact ⟨rfl, Ext.trans (by repeat' (first | exact Ext.refl _ | assumption | apply Ext.alloc | apply Ext.drewN | apply Ext.drew)) hw1⟩

end Go.Proofs.YthjifmfmaiagoaaGreatDoor

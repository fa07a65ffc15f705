/- C10: texts H31 H32 H33 H34 H35 H36 O1. -/
import Derived.Test.YthjifmfmaiagoaaGreatDoorC09
set_option linter.all false

/- A proof's checker: a branch. -/
namespace Go.Proofs.YthjifmfmaiagoaaGreatDoor
open Go.RowKit
attribute [local go_sem] Oper.semAt_some

theorem RightI.ext {k : CkD} {st : List Int} {seen : List Bool} {w w' : World} (h : RightI k st seen w) (e : Ext w w') : RightI k st seen w' :=
  ⟨h.ck.fr (Fr.ext e), h.tu, h.sv, h.hst, h.row.ext e, h.hsn, h.rowb.ext e, Nat.lt_of_lt_of_le h.lU e.size⟩
/-- Checking a step, by its contract. -/
def RightC (k : CkD) (f : Nat) : Prop := ∀ (at_ : Nat) (st : List Int) (seen : List Bool) (W : World), RightI k st seen W → at_ < k.sn → k.sn ≤ at_ + f →
  Calls Tryz.prog 147 #[.pointer (some ⟨k.C, 0, none⟩), .int .i64 (at_ : Int)] W fun e w' => RightP k st W (rightM k.g k.ws k.hold k.ss f at_ st seen) e w'

set_option maxRecDepth 100000 in
set_option maxHeartbeats 4000000 in
theorem branch_no (k : CkD) (w : World) (st : List Int) (seen : List Bool) (I : RightI k st seen w) (at_ : Nat) (x : Step) (hb : branchB k.g k.sn at_ st x = false) :
    Calls Tryz.prog 141 #[.pointer (some ⟨k.C, 0, none⟩), .int .i64 (at_ : Int), .agg #[.int .i64 x.kind, .int .i64 x.at_, .int .i64 x.in_, .int .i64 x.out]] w fun e w' => e = .returned (.bool false) ∧ Ext w w' := by
  have hx0 : Ext w (w.alloc (.cells #[.int .i64 x.kind, .int .i64 x.at_, .int .i64 x.in_, .int .i64 x.out] 57)) := (by repeat' (first | exact Ext.refl _ | assumption | apply Ext.alloc | apply Ext.drewN | apply Ext.drew))
  have hn := I.ck.hn
  have cx : ∀ p : ExtOf (w.alloc (.cells #[.int .i64 x.kind, .int .i64 x.at_, .int .i64 x.in_, .int .i64 x.out] 57)), p.W.cell? ⟨w.heap.size, 1, none⟩ = some (.int .i64 x.at_) := fun p => Ext.cell p.h (by simp)
  have cx2 : ∀ p : ExtOf (w.alloc (.cells #[.int .i64 x.kind, .int .i64 x.at_, .int .i64 x.in_, .int .i64 x.out] 57)), p.W.cell? ⟨w.heap.size, 2, none⟩ = some (.int .i64 x.in_) := fun p => Ext.cell p.h (by simp)
  have cx3 : ∀ p : ExtOf (w.alloc (.cells #[.int .i64 x.kind, .int .i64 x.at_, .int .i64 x.in_, .int .i64 x.out] 57)), p.W.cell? ⟨w.heap.size, 3, none⟩ = some (.int .i64 x.out) := fun p => Ext.cell p.h (by simp)
  have c0 : ∀ p : ExtOf (w.alloc (.cells #[.int .i64 x.kind, .int .i64 x.at_, .int .i64 x.in_, .int .i64 x.out] 57)), p.W.cell? ⟨k.C, 0, none⟩ = some (.int .i64 k.n) := fun p => Ext.cell (hx0.trans p.h) I.ck.c0
  have c5 : ∀ p : ExtOf (w.alloc (.cells #[.int .i64 x.kind, .int .i64 x.at_, .int .i64 x.in_, .int .i64 x.out] 57)), p.W.cell? ⟨k.C, 5, none⟩ = some (.slice k.SA k.sn k.sc) := fun p => Ext.cell (hx0.trans p.h) I.ck.c5
  have c7 : ∀ p : ExtOf (w.alloc (.cells #[.int .i64 x.kind, .int .i64 x.at_, .int .i64 x.in_, .int .i64 x.out] 57)), p.W.cell? ⟨k.C, 7, none⟩ = some (.slice (some ⟨k.T, 0, none⟩) k.n k.n) := fun p => Ext.cell (hx0.trans p.h) I.ck.c7
  by_cases h0 : 0 ≤ x.at_
  · by_cases h1 : x.at_ < (k.n : Int)
    · obtain ⟨j, hj⟩ : ∃ j : Nat, x.at_ = j := ⟨x.at_.toNat, by omega⟩
      have hjn : j < k.n := by omega
      have cT : ∀ p : ExtOf (w.alloc (.cells #[.int .i64 x.kind, .int .i64 x.at_, .int .i64 x.in_, .int .i64 x.out] 57)), p.W.cell? ⟨k.T, j, none⟩ = some (.int .i64 (nth st j)) := fun p => Ext.cell (hx0.trans p.h) (I.row j (by rw [I.hst]; exact hjn)).1
      by_cases h2 : nth st j = 0
      · have hb2 : (min x.in_ x.out ≤ (at_ : Int)) ∨ ((k.sn : Int) ≤ max x.in_ x.out) := by
          unfold branchB at hb
          rw [decide_eq_true h0, decide_eq_true (show x.at_ < k.g.n by rw [hn]; exact h1), decide_eq_true (show stv st x.at_ = 0 by rw [hj]; exact h2)] at hb
          simp at hb
          omega
        rw [h2] at cT
        have HI := hid I
        clear I hb
        obtain ⟨xk, xa, xi, xo⟩ := x
        simp only [] at hj h0 h1 hx0 cx cx2 cx3 c0 c5 c7 cT hb2 ⊢
        subst hj
        by_cases h3 : min xi xo ≤ (at_ : Int)
        · have d3 : decide (min xi xo ≤ (at_ : Int)) = true := decide_eq_true h3
          go_enter Tryz.func141, Tryz.ntmps141
          go_wp2
          refine wp_region_qw mixed' (by kernel_rfl) ?_
          repeat (refine QW.step (fun K hK => ?_); go_simp; first | (refine hK _ ?_; clear hK K) | (apply Exists.intro; refine ⟨fun _ => ?_, hK _ ?_⟩; fail; clear hK K))
          refine QW.nil ?_
          rintro _ ⟨p1, rfl⟩
          obtain ⟨w1, hw1⟩ := p1
          dsimp only
          go_wp2
          go_ret
          exact ⟨rfl, hx0.trans hw1⟩
        · have d3 : decide (min xi xo ≤ (at_ : Int)) = false := decide_eq_false h3
          have h4 : max xi xo ≥ (k.sn : Int) := by omega
          have d4 : decide (max xi xo ≥ (k.sn : Int)) = true := decide_eq_true h4
          go_enter Tryz.func141, Tryz.ntmps141
          go_wp2
          refine wp_region_qw mixed' (by kernel_rfl) ?_
          repeat (refine QW.step (fun K hK => ?_); go_simp; first | (refine hK _ ?_; clear hK K) | (apply Exists.intro; refine ⟨fun _ => ?_, hK _ ?_⟩; fail; clear hK K))
          refine QW.nil ?_
          rintro _ ⟨p1, rfl⟩
          obtain ⟨w1, hw1⟩ := p1
          dsimp only
          go_wp2
          go_ret
          exact ⟨rfl, hx0.trans hw1⟩
      · have HI := hid I
        clear I hb
        obtain ⟨xk, xa, xi, xo⟩ := x
        simp only [] at hj h0 h1 hx0 cx cx2 cx3 c0 c5 c7 cT ⊢
        subst hj
        generalize nth st j = s at cT h2
        have d2 : (s != 0) = true := by simpa using h2
        go_enter Tryz.func141, Tryz.ntmps141
        go_wp2
        refine wp_region_qw mixed' (by kernel_rfl) ?_
        repeat (refine QW.step (fun K hK => ?_); go_simp; first | (refine hK _ ?_; clear hK K) | (apply Exists.intro; refine ⟨fun _ => ?_, hK _ ?_⟩; fail; clear hK K))
        refine QW.nil ?_
        rintro _ ⟨p1, rfl⟩
        obtain ⟨w1, hw1⟩ := p1
        dsimp only
        go_wp2
        go_ret
        exact ⟨rfl, hx0.trans hw1⟩
    · clear I hb
      obtain ⟨xk, xa, xi, xo⟩ := x
      simp only [] at h0 h1 hx0 cx cx2 cx3 c0 c5 c7 ⊢
      have d1 : decide (xa ≥ (k.n : Int)) = true := decide_eq_true (by omega)
      have d0 : decide (xa < 0) = false := decide_eq_false (by omega)
      go_enter Tryz.func141, Tryz.ntmps141
      go_wp2
      refine wp_region_qw mixed' (by kernel_rfl) ?_
      repeat (refine QW.step (fun K hK => ?_); go_simp; first | (refine hK _ ?_; clear hK K) | (apply Exists.intro; refine ⟨fun _ => ?_, hK _ ?_⟩; fail; clear hK K))
      refine QW.nil ?_
      rintro _ ⟨p1, rfl⟩
      obtain ⟨w1, hw1⟩ := p1
      dsimp only
      go_wp2
      go_ret
      exact ⟨rfl, hx0.trans hw1⟩
  · clear I hb
    obtain ⟨xk, xa, xi, xo⟩ := x
    simp only [] at h0 hx0 cx cx2 cx3 c0 c5 c7 ⊢
    have d0 : decide (xa < 0) = true := decide_eq_true (by omega)
    go_enter Tryz.func141, Tryz.ntmps141
    go_wp2
    refine wp_region_qw mixed' (by kernel_rfl) ?_
    repeat (refine QW.step (fun K hK => ?_); go_simp; first | (refine hK _ ?_; clear hK K) | (apply Exists.intro; refine ⟨fun _ => ?_, hK _ ?_⟩; fail; clear hK K))
    refine QW.nil ?_
    rintro _ ⟨p1, rfl⟩
    obtain ⟨w1, hw1⟩ := p1
    dsimp only
    go_wp2
    go_ret
    exact ⟨rfl, hx0.trans hw1⟩
end Go.Proofs.YthjifmfmaiagoaaGreatDoor

/- A proof's checker: a branch that is taken. -/
namespace Go.Proofs.YthjifmfmaiagoaaGreatDoor
open Go.RowKit
attribute [local go_sem] Oper.semAt_some

theorem RightP.next {k : CkD} {st : List Int} {seen s2 : List Bool} {w w' : World} {e : Ending} (I : RightI k st seen w) (h : RightP k st w (some s2) e w') : RightI k st s2 w' := by
  obtain ⟨_, hf, hr, s3, hs3, hb3, hq3⟩ := h
  have := hq3 s2 rfl
  subst this
  exact ⟨I.ck.fr hf, I.tu, I.sv, I.hst, hr, hs3, hb3, Nat.lt_of_lt_of_le I.lU hf.size⟩
theorem RightP.frame {k : CkD} {st : List Int} {w0 w w' : World} {r : Option (List Bool)} {e : Ending} (h : RightP k st w r e w') (hf : Fr k.T k.U w0 w) : RightP k st w0 r e w' :=
  ⟨h.1, hf.trans h.2.1, h.2.2⟩

set_option maxRecDepth 100000 in
set_option maxHeartbeats 4000000 in
theorem branch_yes (k : CkD) (f : Nat) (hC : RightC k f) (w : World) (st : List Int) (seen : List Bool) (I : RightI k st seen w) (at_ : Nat) (hf : k.sn ≤ at_ + 1 + f) (x : Step) (hb : branchB k.g k.sn at_ st x = true) :
    Calls Tryz.prog 141 #[.pointer (some ⟨k.C, 0, none⟩), .int .i64 (at_ : Int), .agg #[.int .i64 x.kind, .int .i64 x.at_, .int .i64 x.in_, .int .i64 x.out]] w fun e w' =>
      RightP k st w ((rightM k.g k.ws k.hold k.ss f x.in_.toNat (st.set x.at_.toNat 1) seen).bind fun s2 => rightM k.g k.ws k.hold k.ss f x.out.toNat (st.set x.at_.toNat 2) s2) e w' := by
  have hx0 : Ext w (w.alloc (.cells #[.int .i64 x.kind, .int .i64 x.at_, .int .i64 x.in_, .int .i64 x.out] 57)) := (by repeat' (first | exact Ext.refl _ | assumption | apply Ext.alloc | apply Ext.drewN | apply Ext.drew))
  have hn := I.ck.hn
  unfold branchB at hb
  simp only [Bool.and_eq_true, decide_eq_true_eq] at hb
  obtain ⟨⟨⟨⟨⟨⟨h0, h1⟩, h2⟩, h3⟩, h4⟩, h5⟩, h6⟩ := hb
  have cx : ∀ p : ExtOf (w.alloc (.cells #[.int .i64 x.kind, .int .i64 x.at_, .int .i64 x.in_, .int .i64 x.out] 57)), p.W.cell? ⟨w.heap.size, 1, none⟩ = some (.int .i64 x.at_) := fun p => Ext.cell p.h (by simp)
  have cx2 : ∀ p : ExtOf (w.alloc (.cells #[.int .i64 x.kind, .int .i64 x.at_, .int .i64 x.in_, .int .i64 x.out] 57)), p.W.cell? ⟨w.heap.size, 2, none⟩ = some (.int .i64 x.in_) := fun p => Ext.cell p.h (by simp)
  have cx3 : ∀ p : ExtOf (w.alloc (.cells #[.int .i64 x.kind, .int .i64 x.at_, .int .i64 x.in_, .int .i64 x.out] 57)), p.W.cell? ⟨w.heap.size, 3, none⟩ = some (.int .i64 x.out) := fun p => Ext.cell p.h (by simp)
  have c0 : ∀ p : ExtOf (w.alloc (.cells #[.int .i64 x.kind, .int .i64 x.at_, .int .i64 x.in_, .int .i64 x.out] 57)), p.W.cell? ⟨k.C, 0, none⟩ = some (.int .i64 k.n) := fun p => Ext.cell (hx0.trans p.h) I.ck.c0
  have c5 : ∀ p : ExtOf (w.alloc (.cells #[.int .i64 x.kind, .int .i64 x.at_, .int .i64 x.in_, .int .i64 x.out] 57)), p.W.cell? ⟨k.C, 5, none⟩ = some (.slice k.SA k.sn k.sc) := fun p => Ext.cell (hx0.trans p.h) I.ck.c5
  have c7 : ∀ p : ExtOf (w.alloc (.cells #[.int .i64 x.kind, .int .i64 x.at_, .int .i64 x.in_, .int .i64 x.out] 57)), p.W.cell? ⟨k.C, 7, none⟩ = some (.slice (some ⟨k.T, 0, none⟩) k.n k.n) := fun p => Ext.cell (hx0.trans p.h) I.ck.c7
  obtain ⟨j, hj⟩ : ∃ j : Nat, x.at_ = j := ⟨x.at_.toNat, by omega⟩
  have hjn : j < k.n := by omega
  have hjz : (j : Int) < (k.n : Int) := by omega
  rw [hj] at h2
  have cT : ∀ p : ExtOf (w.alloc (.cells #[.int .i64 x.kind, .int .i64 x.at_, .int .i64 x.in_, .int .i64 x.out] 57)), p.W.cell? ⟨k.T, j, none⟩ = some (.int .i64 0) := fun p => Ext.cell (hx0.trans p.h) (by rw [(I.row j (by rw [I.hst]; exact hjn)).1]; exact congrArg (fun z => some (Value.int .i64 z)) h2)
  obtain ⟨i1, hi1⟩ : ∃ i : Nat, x.in_ = i := ⟨x.in_.toNat, by omega⟩
  obtain ⟨i2, hi2⟩ : ∃ i : Nat, x.out = i := ⟨x.out.toNat, by omega⟩
  have K1 : Hid (∀ W, Ext w W → Calls Tryz.prog 189 #[.pointer (some ⟨k.C, 0, none⟩), .int .i64 (j : Int), .int .i64 1, .int .i64 (i1 : Int)] W fun e w' => RightP k st W (rightM k.g k.ws k.hold k.ss f i1 (st.set j 1) seen) e w') := fun W hW =>
    decide_any k st seen W (I.ext hW) j 1 i1 hjn h2 _ fun W2 I2 => hC i1 _ _ W2 I2 (by omega) (by omega)
  have K2 : Hid (∀ s2 W, RightI k st s2 W → Calls Tryz.prog 189 #[.pointer (some ⟨k.C, 0, none⟩), .int .i64 (j : Int), .int .i64 2, .int .i64 (i2 : Int)] W fun e w' => RightP k st W (rightM k.g k.ws k.hold k.ss f i2 (st.set j 2) s2) e w') := fun s2 W IW =>
    decide_any k st s2 W IW j 2 i2 hjn h2 _ fun W2 I2 => hC i2 _ _ W2 I2 (by omega) (by omega)
  have hlT := I.ck.lT
  have hlU := I.lU
  have HI := hid I
  clear I h2
  obtain ⟨xk, xa, xi, xo⟩ := x
  simp only [] at hj h0 h1 h3 h4 h5 h6 hi1 hi2 hx0 cx cx2 cx3 c0 c5 c7 cT ⊢
  subst hj hi1 hi2
  rw [Int.toNat_natCast, Int.toNat_natCast, Int.toNat_natCast]
  have d3 : decide (min (i1 : Int) (i2 : Int) ≤ (at_ : Int)) = false := decide_eq_false (by omega)
  have d4 : decide (max (i1 : Int) (i2 : Int) ≥ (k.sn : Int)) = false := decide_eq_false (by omega)
  have HX0 := hid hx0
  cases hr1 : rightM k.g k.ws k.hold k.ss f i1 (st.set j 1) seen with
  | none =>
    rw [hr1] at K1
    clear hr1
    simp only [Option.bind_none]
    go_enter Tryz.func141, Tryz.ntmps141
    go_wp2
    refine wp_region_qw mixed' (by kernel_rfl) ?_
    repeat (refine QW.step (fun K hK => ?_); go_simp; first | (refine hK _ ?_; clear hK K) | (apply Exists.intro; refine ⟨fun _ => ?_, hK _ ?_⟩; fail; clear hK K))
    refine QW.nil ?_
    rintro _ ⟨p1, rfl⟩
    obtain ⟨w1, hw1⟩ := p1
    dsimp only
    have HW1 := hid hw1
    have e1 := cx ⟨w1, hw1⟩
    have e2 := cx2 ⟨w1, hw1⟩
    dsimp only at e1 e2
    clear cx cx2 cx3 c0 c5 c7 cT hw1
    go_wp2_with (go_at_call 189; refine (K1.out _ (HX0.out.trans HW1.out)).mono ?_; rintro e w2 ⟨rfl, hf2, hp2⟩; have H2 := hid (And.intro hf2 hp2); clear hf2 hp2)
    go_ret
    exact ⟨rfl, (Fr.ext (HX0.out.trans HW1.out)).trans H2.out.1, H2.out.2⟩
  | some s2 =>
    rw [hr1] at K1
    clear hr1
    simp only [Option.bind_some]
    have K3 : Hid (∀ W, Ext w W → Calls Tryz.prog 189 #[.pointer (some ⟨k.C, 0, none⟩), .int .i64 (j : Int), .int .i64 1, .int .i64 (i1 : Int)] W fun e w' => e = .returned (.bool true) ∧ Fr k.T k.U W w' ∧ RightI k st s2 w') := fun W hW => (K1.out W hW).mono fun e w' h => ⟨h.1, h.2.1, h.next (HI.out.ext hW)⟩
    clear K1
    go_enter Tryz.func141, Tryz.ntmps141
    go_wp2
    refine wp_region_qw mixed' (by kernel_rfl) ?_
    repeat (refine QW.step (fun K hK => ?_); go_simp; first | (refine hK _ ?_; clear hK K) | (apply Exists.intro; refine ⟨fun _ => ?_, hK _ ?_⟩; fail; clear hK K))
    refine QW.nil ?_
    rintro _ ⟨p1, rfl⟩
    obtain ⟨w1, hw1⟩ := p1
    dsimp only
    have HW1 := hid hw1
    have e1 := cx ⟨w1, hw1⟩
    have e2 := cx2 ⟨w1, hw1⟩
    have e3 := cx3 ⟨w1, hw1⟩
    have HEW : Hid (Ext w w1) := HX0.out.trans hw1
    have HIW : Hid (RightI k st seen w1) := HI.out.ext HEW.out
    dsimp only at e1 e2 e3
    clear cx cx2 cx3 c0 c5 c7 cT hw1
    go_wp2_with (first
      | (go_at_call 189; (with_reducible refine (K3.out _ HEW.out).mono ?_); rintro e w2 ⟨rfl, hf2, hi2⟩; have H2 := hid (And.intro hf2 hi2); have e1' := H2.out.1.cell e1 (by show w.heap.size ≠ k.T; omega) (by show w.heap.size ≠ k.U; omega); have e3' := H2.out.1.cell e3 (by show w.heap.size ≠ k.T; omega) (by show w.heap.size ≠ k.U; omega); clear hf2 hi2)
      | (go_at_call 189; (with_reducible refine (K2.out s2 _ H2.out.2).mono ?_); rintro e w3 ⟨rfl, hf3, hp3⟩; have H3 := hid (And.intro hf3 hp3); clear hf3 hp3))
    go_ret
    exact ⟨rfl, ((Fr.ext (HX0.out.trans HW1.out)).trans H2.out.1).trans H3.out.1, H3.out.2⟩
end Go.Proofs.YthjifmfmaiagoaaGreatDoor

/- A proof's checker: a step. -/
namespace Go.Proofs.YthjifmfmaiagoaaGreatDoor
open Go.RowKit
attribute [local go_sem] Oper.semAt_some

/-- The function that checks a step of kind x. -/
def kindV (x : Int) : Value := (kindF x).getD .nilFunc
theorem look_kind {k : CkD} {w : World} (h : Ck k w) (x : Int) : (Instr.lookup 141 (.map (some k.K)) (.int .i64 x) false).run Tryz.prog w = .ok (kindV x) w :=
  run_look keys_int Tryz.underlying141 Tryz.underlying3 Tryz.zeroValue144 h.kinds x false

theorem kindV_cases (x : Int) : kindV x = .nilFunc ∨ ∃ g, kindV x = .func (.func g) #[] #[] := by
  unfold kindV kindF
  by_cases h1 : x = 1
  · exact .inr ⟨141, by simp [h1]⟩
  · by_cases h2 : x = 2
    · exact .inr ⟨142, by simp [h2]⟩
    · by_cases h3 : x = 3
      · exact .inr ⟨143, by simp [h3]⟩
      · by_cases h4 : x = 4
        · exact .inr ⟨144, by simp [h4]⟩
        · by_cases h5 : x = 5
          · exact .inr ⟨145, by simp [h5]⟩
          · exact .inl (by simp [h1, h2, h3, h4, h5])

theorem equalIn_nil (w : World) (d : Nat) : (Op.equalIn (d + 1) 144 .nilFunc .nilFunc).run Tryz.prog w = .ok true w := by
  simp [Op.equalIn, run_underlying Tryz.underlying144]
theorem equalIn_func (g : Nat) (w : World) (d : Nat) : (Op.equalIn (d + 1) 144 (.func (.func g) #[] #[]) .nilFunc).run Tryz.prog w = .ok false w := by
  simp [Op.equalIn, run_underlying Tryz.underlying144]
theorem eql_nil (w : World) : (binOp .eql 144 .nilFunc .nilFunc).run Tryz.prog w = .ok (.bool true) w := by
  simp only [binOp]
  simp [Op.equal, Op.maxDepth, equalIn_nil w 9999]
theorem eql_func (g : Nat) (w : World) : (binOp .eql 144 (.func (.func g) #[] #[]) .nilFunc).run Tryz.prog w = .ok (.bool false) w := by
  simp only [binOp]
  simp [Op.equal, Op.maxDepth, equalIn_func g w 9999]

set_option maxRecDepth 100000 in
set_option maxHeartbeats 4000000 in
theorem right_seen (k : CkD) (w : World) (st : List Int) (seen : List Bool) (I : RightI k st seen w) (at_ : Nat) (ha : at_ < k.sn) (hs : nthB seen at_ = true) :
    Calls Tryz.prog 147 #[.pointer (some ⟨k.C, 0, none⟩), .int .i64 (at_ : Int)] w fun e w' => e = .returned (.bool false) ∧ Ext w w' := by
  have haz : (at_ : Int) < (k.sn : Int) := by omega
  obtain ⟨ad, hSA, s1, s2, s3, s4⟩ := I.ck.rs.cell at_ ha
  have s1 := I.ck.ext.cell s1
  have s2 := I.ck.ext.cell s2
  have s3 := I.ck.ext.cell s3
  have s4 := I.ck.ext.cell s4
  have c5 := I.ck.c5
  rw [hSA] at c5
  have hx0 : Ext w (w.alloc (.cells #[.int .i64 (stepv k.ss at_).kind, .int .i64 (stepv k.ss at_).at_, .int .i64 (stepv k.ss at_).in_, .int .i64 (stepv k.ss at_).out] 57)) := (by repeat' (first | exact Ext.refl _ | assumption | apply Ext.alloc | apply Ext.drewN | apply Ext.drew))
  have cx : ∀ p : ExtOf (w.alloc (.cells #[.int .i64 (stepv k.ss at_).kind, .int .i64 (stepv k.ss at_).at_, .int .i64 (stepv k.ss at_).in_, .int .i64 (stepv k.ss at_).out] 57)), p.W.cell? ⟨w.heap.size, 0, none⟩ = some (.int .i64 (stepv k.ss at_).kind) := fun p => Ext.cell p.h (by simp)
  have c9 : ∀ p : ExtOf (w.alloc (.cells #[.int .i64 (stepv k.ss at_).kind, .int .i64 (stepv k.ss at_).at_, .int .i64 (stepv k.ss at_).in_, .int .i64 (stepv k.ss at_).out] 57)), p.W.cell? ⟨k.C, 9, none⟩ = some (.map (some k.K)) := fun p => Ext.cell (hx0.trans p.h) I.ck.c9
  have hlk : ∀ p : ExtOf (w.alloc (.cells #[.int .i64 (stepv k.ss at_).kind, .int .i64 (stepv k.ss at_).at_, .int .i64 (stepv k.ss at_).in_, .int .i64 (stepv k.ss at_).out] 57)), (Instr.lookup 141 (.map (some k.K)) (.int .i64 (stepv k.ss at_).kind) false).run Tryz.prog p.W = .ok (kindV (stepv k.ss at_).kind) p.W := fun p => look_kind (I.ck.fr (Fr.ext (hx0.trans p.h))) _
  have c8 : ∀ p : ExtOf (w.alloc (.cells #[.int .i64 (stepv k.ss at_).kind, .int .i64 (stepv k.ss at_).at_, .int .i64 (stepv k.ss at_).in_, .int .i64 (stepv k.ss at_).out] 57)), p.W.cell? ⟨k.C, 8, none⟩ = some k.sv := fun p => Ext.cell (hx0.trans p.h) I.ck.c8
  obtain ⟨c, hsv⟩ := I.sv
  rw [hsv] at c8
  have cU : ∀ p : ExtOf (w.alloc (.cells #[.int .i64 (stepv k.ss at_).kind, .int .i64 (stepv k.ss at_).at_, .int .i64 (stepv k.ss at_).in_, .int .i64 (stepv k.ss at_).out] 57)), p.W.cell? ⟨k.U, at_, none⟩ = some (.bool true) := fun p => Ext.cell (hx0.trans p.h) (by rw [(I.rowb at_ (by rw [I.hsn]; exact ha)).1, hs])
  clear I hs hsv
  rcases kindV_cases (stepv k.ss at_).kind with hk | ⟨g, hk⟩
  all_goals
    rw [hk] at hlk
    have hq1 := eql_nil
    have hq2 := eql_func
    go_enter Tryz.func147, Tryz.ntmps147
    go_wp2
    refine wp_region_qw mixed' (by kernel_rfl) ?_
    repeat (refine QW.step (fun K hK => ?_); go_simp; first | (refine hK _ ?_; clear hK K) | (apply Exists.intro; refine ⟨fun _ => ?_, hK _ ?_⟩; fail; clear hK K))
    refine QW.nil ?_
    rintro _ ⟨p1, rfl⟩
    obtain ⟨w1, hw1⟩ := p1
    dsimp only
    have e8 := c8 ⟨w1, hw1⟩
    have eU := cU ⟨w1, hw1⟩
    have ex := cx ⟨w1, hw1⟩
    dsimp only at e8 eU ex
    clear c8 cU cx c9 hlk
    go_wp2
    go_ret
    exact ⟨rfl, hx0.trans hw1⟩
end Go.Proofs.YthjifmfmaiagoaaGreatDoor

/- A proof's checker: a step that is checked. -/
namespace Go.Proofs.YthjifmfmaiagoaaGreatDoor
open Go.RowKit
attribute [local go_sem] Oper.semAt_some

set_option maxRecDepth 100000 in
set_option maxHeartbeats 4000000 in
theorem right_bad (k : CkD) (w : World) (st : List Int) (seen : List Bool) (I : RightI k st seen w) (at_ : Nat) (ha : at_ < k.sn) (hs : nthB seen at_ = false)
    (hbad : kindV (stepv k.ss at_).kind = .nilFunc ∨ ((stepv k.ss at_).kind ≠ 1 ∧ ¬ ((stepv k.ss at_).in_ = 0 ∧ (stepv k.ss at_).out = 0))) :
    Calls Tryz.prog 147 #[.pointer (some ⟨k.C, 0, none⟩), .int .i64 (at_ : Int)] w fun e w' => e = .returned (.bool false) ∧ Ext w w' := by
  have haz : (at_ : Int) < (k.sn : Int) := by omega
  obtain ⟨ad, hSA, s1, s2, s3, s4⟩ := I.ck.rs.cell at_ ha
  have s1 := I.ck.ext.cell s1
  have s2 := I.ck.ext.cell s2
  have s3 := I.ck.ext.cell s3
  have s4 := I.ck.ext.cell s4
  have c5 := I.ck.c5
  rw [hSA] at c5
  have hx0 : Ext w (w.alloc (.cells #[.int .i64 (stepv k.ss at_).kind, .int .i64 (stepv k.ss at_).at_, .int .i64 (stepv k.ss at_).in_, .int .i64 (stepv k.ss at_).out] 57)) := (by repeat' (first | exact Ext.refl _ | assumption | apply Ext.alloc | apply Ext.drewN | apply Ext.drew))
  have cx : ∀ p : ExtOf (w.alloc (.cells #[.int .i64 (stepv k.ss at_).kind, .int .i64 (stepv k.ss at_).at_, .int .i64 (stepv k.ss at_).in_, .int .i64 (stepv k.ss at_).out] 57)), p.W.cell? ⟨w.heap.size, 0, none⟩ = some (.int .i64 (stepv k.ss at_).kind) := fun p => Ext.cell p.h (by simp)
  have cx2 : ∀ p : ExtOf (w.alloc (.cells #[.int .i64 (stepv k.ss at_).kind, .int .i64 (stepv k.ss at_).at_, .int .i64 (stepv k.ss at_).in_, .int .i64 (stepv k.ss at_).out] 57)), p.W.cell? ⟨w.heap.size, 2, none⟩ = some (.int .i64 (stepv k.ss at_).in_) := fun p => Ext.cell p.h (by simp)
  have cx3 : ∀ p : ExtOf (w.alloc (.cells #[.int .i64 (stepv k.ss at_).kind, .int .i64 (stepv k.ss at_).at_, .int .i64 (stepv k.ss at_).in_, .int .i64 (stepv k.ss at_).out] 57)), p.W.cell? ⟨w.heap.size, 3, none⟩ = some (.int .i64 (stepv k.ss at_).out) := fun p => Ext.cell p.h (by simp)
  have c9 : ∀ p : ExtOf (w.alloc (.cells #[.int .i64 (stepv k.ss at_).kind, .int .i64 (stepv k.ss at_).at_, .int .i64 (stepv k.ss at_).in_, .int .i64 (stepv k.ss at_).out] 57)), p.W.cell? ⟨k.C, 9, none⟩ = some (.map (some k.K)) := fun p => Ext.cell (hx0.trans p.h) I.ck.c9
  have hlk : ∀ p : ExtOf (w.alloc (.cells #[.int .i64 (stepv k.ss at_).kind, .int .i64 (stepv k.ss at_).at_, .int .i64 (stepv k.ss at_).in_, .int .i64 (stepv k.ss at_).out] 57)), (Instr.lookup 141 (.map (some k.K)) (.int .i64 (stepv k.ss at_).kind) false).run Tryz.prog p.W = .ok (kindV (stepv k.ss at_).kind) p.W := fun p => look_kind (I.ck.fr (Fr.ext (hx0.trans p.h))) _
  have c8 : ∀ p : ExtOf (w.alloc (.cells #[.int .i64 (stepv k.ss at_).kind, .int .i64 (stepv k.ss at_).at_, .int .i64 (stepv k.ss at_).in_, .int .i64 (stepv k.ss at_).out] 57)), p.W.cell? ⟨k.C, 8, none⟩ = some k.sv := fun p => Ext.cell (hx0.trans p.h) I.ck.c8
  obtain ⟨c, hsv⟩ := I.sv
  rw [hsv] at c8
  have cU : ∀ p : ExtOf (w.alloc (.cells #[.int .i64 (stepv k.ss at_).kind, .int .i64 (stepv k.ss at_).at_, .int .i64 (stepv k.ss at_).in_, .int .i64 (stepv k.ss at_).out] 57)), p.W.cell? ⟨k.U, at_, none⟩ = some (.bool false) := fun p => Ext.cell (hx0.trans p.h) (by rw [(I.rowb at_ (by rw [I.hsn]; exact ha)).1, hs])
  clear I hs hsv
  rcases kindV_cases (stepv k.ss at_).kind with hk | ⟨g, hk⟩
  · rw [hk] at hlk
    have hq1 := eql_nil
    clear hbad
    go_enter Tryz.func147, Tryz.ntmps147
    go_wp2
    refine wp_region_qw mixed' (by kernel_rfl) ?_
    repeat (refine QW.step (fun K hK => ?_); go_simp; first | (refine hK _ ?_; clear hK K) | (apply Exists.intro; refine ⟨fun _ => ?_, hK _ ?_⟩; fail; clear hK K))
    refine QW.nil ?_
    rintro _ ⟨p1, rfl⟩
    obtain ⟨w1, hw1⟩ := p1
    dsimp only
    clear c8 cU cx c9 hlk cx2 cx3
    go_wp2
    go_ret
    exact ⟨rfl, hx0.trans hw1⟩
  · have hb2 := hbad.resolve_left (by rw [hk]; simp)
    clear hbad
    rw [hk] at hlk
    have hq2 := eql_func
    obtain ⟨b1, b2⟩ := hb2
    have d1 : ((stepv k.ss at_).kind != 1) = true := by simpa using b1
    generalize stepv k.ss at_ = x at *
    obtain ⟨xk, xa, xi, xo⟩ := x
    simp only [] at *
    by_cases hi : xi = 0
    · subst hi
      have ho : (xo != 0) = true := by simpa using b2
      clear b2
      go_enter Tryz.func147, Tryz.ntmps147
      go_wp2
      refine wp_region_qw mixed' (by kernel_rfl) ?_
      repeat (refine QW.step (fun K hK => ?_); go_simp; first | (refine hK _ ?_; clear hK K) | (apply Exists.intro; refine ⟨fun _ => ?_, hK _ ?_⟩; fail; clear hK K))
      refine QW.nil ?_
      rintro _ ⟨p1, rfl⟩
      obtain ⟨w1, hw1⟩ := p1
      dsimp only
      have e8 := c8 ⟨w1, hw1⟩
      have eU := cU ⟨w1, hw1⟩
      have ex := cx ⟨w1, hw1⟩
      have ex2 := cx2 ⟨w1, hw1⟩
      have ex3 := cx3 ⟨w1, hw1⟩
      dsimp only at e8 eU ex ex2 ex3
      clear c8 cU cx c9 hlk cx2 cx3
      go_wp2
      go_ret
      exact ⟨rfl, hx0.trans hw1⟩
    · have hi' : (xi != 0) = true := by simpa using hi
      go_enter Tryz.func147, Tryz.ntmps147
      go_wp2
      refine wp_region_qw mixed' (by kernel_rfl) ?_
      repeat (refine QW.step (fun K hK => ?_); go_simp; first | (refine hK _ ?_; clear hK K) | (apply Exists.intro; refine ⟨fun _ => ?_, hK _ ?_⟩; fail; clear hK K))
      refine QW.nil ?_
      rintro _ ⟨p1, rfl⟩
      obtain ⟨w1, hw1⟩ := p1
      dsimp only
      have e8 := c8 ⟨w1, hw1⟩
      have eU := cU ⟨w1, hw1⟩
      have ex := cx ⟨w1, hw1⟩
      have ex2 := cx2 ⟨w1, hw1⟩
      have ex3 := cx3 ⟨w1, hw1⟩
      dsimp only at e8 eU ex ex2 ex3
      clear c8 cU cx c9 hlk cx2 cx3
      go_wp2
      go_ret
      exact ⟨rfl, hx0.trans hw1⟩
end Go.Proofs.YthjifmfmaiagoaaGreatDoor

/- A proof's checker: a step whose kind's function is called. -/
namespace Go.Proofs.YthjifmfmaiagoaaGreatDoor
open Go.RowKit
attribute [local go_sem] Oper.semAt_some

set_option maxRecDepth 100000 in
set_option maxHeartbeats 4000000 in
theorem right_go (k : CkD) (w : World) (st : List Int) (seen : List Bool) (I : RightI k st seen w) (at_ : Nat) (ha : at_ < k.sn) (hs : nthB seen at_ = false) (g : Nat) (hk : kindV (stepv k.ss at_).kind = .func (.func g) #[] #[]) (eg : ∀ args w, (callFunc g args).run Tryz.prog w = .ok (.enter g args) w)
    (hok : (stepv k.ss at_).kind = 1 ∨ ((stepv k.ss at_).in_ = 0 ∧ (stepv k.ss at_).out = 0)) (R : Ending → World → Prop) (hR : ∀ e w', R e w' → ∃ b : Bool, e = .returned (.bool b))
    (hcall : ∀ W, Fr k.T k.U w W → RightI k st (seen.set at_ true) W → Calls Tryz.prog g #[.pointer (some ⟨k.C, 0, none⟩), .int .i64 (at_ : Int), .agg #[.int .i64 (stepv k.ss at_).kind, .int .i64 (stepv k.ss at_).at_, .int .i64 (stepv k.ss at_).in_, .int .i64 (stepv k.ss at_).out]] W R) :
    Calls Tryz.prog 147 #[.pointer (some ⟨k.C, 0, none⟩), .int .i64 (at_ : Int)] w R := by
  have haz : (at_ : Int) < (k.sn : Int) := by omega
  obtain ⟨ad, hSA, s1, s2, s3, s4⟩ := I.ck.rs.cell at_ ha
  have s1 := I.ck.ext.cell s1
  have s2 := I.ck.ext.cell s2
  have s3 := I.ck.ext.cell s3
  have s4 := I.ck.ext.cell s4
  have c5 := I.ck.c5
  rw [hSA] at c5
  have hx0 : Ext w (w.alloc (.cells #[.int .i64 (stepv k.ss at_).kind, .int .i64 (stepv k.ss at_).at_, .int .i64 (stepv k.ss at_).in_, .int .i64 (stepv k.ss at_).out] 57)) := (by repeat' (first | exact Ext.refl _ | assumption | apply Ext.alloc | apply Ext.drewN | apply Ext.drew))
  have cx : ∀ p : ExtOf (w.alloc (.cells #[.int .i64 (stepv k.ss at_).kind, .int .i64 (stepv k.ss at_).at_, .int .i64 (stepv k.ss at_).in_, .int .i64 (stepv k.ss at_).out] 57)), p.W.cell? ⟨w.heap.size, 0, none⟩ = some (.int .i64 (stepv k.ss at_).kind) := fun p => Ext.cell p.h (by simp)
  have c9 : ∀ p : ExtOf (w.alloc (.cells #[.int .i64 (stepv k.ss at_).kind, .int .i64 (stepv k.ss at_).at_, .int .i64 (stepv k.ss at_).in_, .int .i64 (stepv k.ss at_).out] 57)), p.W.cell? ⟨k.C, 9, none⟩ = some (.map (some k.K)) := fun p => Ext.cell (hx0.trans p.h) I.ck.c9
  have hlk : ∀ p : ExtOf (w.alloc (.cells #[.int .i64 (stepv k.ss at_).kind, .int .i64 (stepv k.ss at_).at_, .int .i64 (stepv k.ss at_).in_, .int .i64 (stepv k.ss at_).out] 57)), (Instr.lookup 141 (.map (some k.K)) (.int .i64 (stepv k.ss at_).kind) false).run Tryz.prog p.W = .ok (kindV (stepv k.ss at_).kind) p.W := fun p => look_kind (I.ck.fr (Fr.ext (hx0.trans p.h))) _
  rw [hk] at hlk
  obtain ⟨c, hsv⟩ := I.sv
  have HP : Hid (∀ w1, Ext (w.alloc (.cells #[.int .i64 (stepv k.ss at_).kind, .int .i64 (stepv k.ss at_).at_, .int .i64 (stepv k.ss at_).in_, .int .i64 (stepv k.ss at_).out] 57)) w1 → w1.cell? ⟨k.C, 8, none⟩ = some (.slice (some ⟨k.U, 0, none⟩) k.sn c) ∧ w1.cell? ⟨k.U, at_, none⟩ = some (.bool false) ∧ w1.frozen? ⟨k.U, at_, none⟩ = false ∧ w1.cell? ⟨w.heap.size, 0, none⟩ = some (.int .i64 (stepv k.ss at_).kind) ∧ w1.cell? ⟨w.heap.size, 1, none⟩ = some (.int .i64 (stepv k.ss at_).at_) ∧ w1.cell? ⟨w.heap.size, 2, none⟩ = some (.int .i64 (stepv k.ss at_).in_) ∧ w1.cell? ⟨w.heap.size, 3, none⟩ = some (.int .i64 (stepv k.ss at_).out)) := fun w1 h => by
    have h2 := ((I.rowb.ext hx0).ext h) at_ (by rw [I.hsn]; exact ha)
    rw [hs] at h2
    refine ⟨Ext.cell (hx0.trans h) (by rw [I.ck.c8, hsv]), h2.1, h2.2, Ext.cell h (by simp), Ext.cell h (by simp), Ext.cell h (by simp), Ext.cell h (by simp)⟩
  have hlU := I.lU
  have HI := hid I
  have HC := hid hcall
  clear I hs hsv hcall
  have hq2 := eql_func
  generalize stepv k.ss at_ = x at *
  obtain ⟨xk, xa, xi, xo⟩ := x
  simp only [] at *
  by_cases h1 : xk = 1
  · subst h1
    clear hok
    go_enter Tryz.func147, Tryz.ntmps147
    go_wp2
    refine wp_region_qw mixed' (by kernel_rfl) ?_
    repeat (refine QW.step (fun K hK => ?_); go_simp; first | (refine hK _ ?_; clear hK K) | (apply Exists.intro; refine ⟨fun _ => ?_, hK _ ?_⟩; fail; clear hK K))
    refine QW.nil ?_
    rintro _ ⟨p1, rfl⟩
    obtain ⟨w1, hw1⟩ := p1
    dsimp only
    obtain ⟨e8, eU, fU, ex, ex1, ex2, ex3⟩ := HP.out w1 hw1
    have HF : Hid (Fr k.T k.U w (w1.setCell ⟨k.U, at_, none⟩ (.bool true))) := (Fr.ext (hx0.trans hw1)).trans (Fr.setU _ _ _)
    have HN : Hid (RightI k st (seen.set at_ true) (w1.setCell ⟨k.U, at_, none⟩ (.bool true))) := by
      have I1 := HI.out.ext (hx0.trans hw1)
      exact ⟨I1.ck.fr (Fr.setU _ _ _), I1.tu, I1.sv, I1.hst, I1.row.other (fun e => I1.tu e.symm) _, by rw [List.length_set]; exact I1.hsn, I1.rowb.set (by rw [I1.hsn]; exact ha) true, by simpa using I1.lU⟩
    clear cx c9 hlk
    go_wp2_with (go_at_fn g; go_loud (refine (HC.out _ HF.out HN.out).mono ?_); rintro e w2 hr; go_loud (obtain ⟨b, he⟩ := hR e w2 hr; subst he; have HRR := hid hr; clear hr))
    all_goals first | (simpa using HRR.out) | (go_ret; exact HRR.out)
  · obtain ⟨rfl, rfl⟩ := hok.resolve_left h1
    have d1 : (xk != 1) = true := by simpa using h1
    clear hok
    go_enter Tryz.func147, Tryz.ntmps147
    go_wp2
    refine wp_region_qw mixed' (by kernel_rfl) ?_
    repeat (refine QW.step (fun K hK => ?_); go_simp; first | (refine hK _ ?_; clear hK K) | (apply Exists.intro; refine ⟨fun _ => ?_, hK _ ?_⟩; fail; clear hK K))
    refine QW.nil ?_
    rintro _ ⟨p1, rfl⟩
    obtain ⟨w1, hw1⟩ := p1
    dsimp only
    obtain ⟨e8, eU, fU, ex, ex1, ex2, ex3⟩ := HP.out w1 hw1
    have HF : Hid (Fr k.T k.U w (w1.setCell ⟨k.U, at_, none⟩ (.bool true))) := (Fr.ext (hx0.trans hw1)).trans (Fr.setU _ _ _)
    have HN : Hid (RightI k st (seen.set at_ true) (w1.setCell ⟨k.U, at_, none⟩ (.bool true))) := by
      have I1 := HI.out.ext (hx0.trans hw1)
      exact ⟨I1.ck.fr (Fr.setU _ _ _), I1.tu, I1.sv, I1.hst, I1.row.other (fun e => I1.tu e.symm) _, by rw [List.length_set]; exact I1.hsn, I1.rowb.set (by rw [I1.hsn]; exact ha) true, by simpa using I1.lU⟩
    clear cx c9 hlk
    go_wp2_with (go_at_fn g; go_loud (refine (HC.out _ HF.out HN.out).mono ?_); rintro e w2 hr; go_loud (obtain ⟨b, he⟩ := hR e w2 hr; subst he; have HRR := hid hr; clear hr))
    all_goals first | (simpa using HRR.out) | (go_ret; exact HRR.out)
end Go.Proofs.YthjifmfmaiagoaaGreatDoor

/- A proof's checker: right, the check of a step, at every fuel. -/
namespace Go.Proofs.YthjifmfmaiagoaaGreatDoor
open Go.RowKit
attribute [local go_sem] Oper.semAt_some

theorem e141 : ∀ args w, (callFunc 141 args).run Tryz.prog w = .ok (.enter 141 args) w := enters_of Tryz.func141 (by kernel_rfl) rfl
theorem e142 : ∀ args w, (callFunc 142 args).run Tryz.prog w = .ok (.enter 142 args) w := enters_of Tryz.func142 (by kernel_rfl) rfl
theorem e143 : ∀ args w, (callFunc 143 args).run Tryz.prog w = .ok (.enter 143 args) w := enters_of Tryz.func143 (by kernel_rfl) rfl
theorem e144 : ∀ args w, (callFunc 144 args).run Tryz.prog w = .ok (.enter 144 args) w := enters_of Tryz.func144 (by kernel_rfl) rfl
theorem e145 : ∀ args w, (callFunc 145 args).run Tryz.prog w = .ok (.enter 145 args) w := enters_of Tryz.func145 (by kernel_rfl) rfl

theorem RightP.leaf {k : CkD} {st : List Int} {seen : List Bool} {w w' : World} {e : Ending} (I : RightI k st seen w) (b : Bool) (he : e = .returned (.bool b)) (hx : Ext w w') : RightP k st w (if b = true then some seen else none) e w' :=
  ⟨by rw [he]; cases b <;> rfl, Fr.ext hx, I.row.ext hx, seen, I.hsn, I.rowb.ext hx, fun s3 h => by cases b <;> simp_all⟩
theorem RightP.no {k : CkD} {st : List Int} {seen : List Bool} {w w' : World} {e : Ending} (I : RightI k st seen w) (he : e = .returned (.bool false)) (hx : Ext w w') : RightP k st w none e w' :=
  ⟨he, Fr.ext hx, I.row.ext hx, seen, I.hsn, I.rowb.ext hx, fun s3 h => by cases h⟩

theorem leaf_step2 (k : CkD) (w : World) (st : List Int) (seen : List Bool) (I : RightI k st seen w) (at_ : Nat) (ha : at_ < k.sn) (h1 : nthB seen at_ = false) (h2 : (stepv k.ss at_).kind = 2) (h4 : (stepv k.ss at_).in_ = 0 ∧ (stepv k.ss at_).out = 0) :
    Calls Tryz.prog 147 #[.pointer (some ⟨k.C, 0, none⟩), .int .i64 (at_ : Int)] w fun e w' => RightP k st w (if leafB k.g k.ws k.hold st (stepv k.ss at_) = true then some (seen.set at_ true) else none) e w' := by
  have hl : leafB k.g k.ws k.hold st (stepv k.ss at_) = clashB k.g st (stepv k.ss at_) := by unfold leafB; rw [h2]; rfl
  rw [hl]
  refine right_go k w st seen I at_ ha h1 142 (by rw [h2]; rfl) e142 (.inr h4) _ (fun e w' h => ⟨_, h.1⟩) fun W2 hF I2 => ?_
  exact (clash_any k W2 st I2.ck I2.hst I2.row at_ (stepv k.ss at_)).mono fun e w' h => (RightP.leaf I2 _ h.1 h.2).frame hF

theorem leaf_step3 (k : CkD) (w : World) (st : List Int) (seen : List Bool) (I : RightI k st seen w) (at_ : Nat) (ha : at_ < k.sn) (h1 : nthB seen at_ = false) (h2 : (stepv k.ss at_).kind = 3) (h4 : (stepv k.ss at_).in_ = 0 ∧ (stepv k.ss at_).out = 0) :
    Calls Tryz.prog 147 #[.pointer (some ⟨k.C, 0, none⟩), .int .i64 (at_ : Int)] w fun e w' => RightP k st w (if leafB k.g k.ws k.hold st (stepv k.ss at_) = true then some (seen.set at_ true) else none) e w' := by
  have hl : leafB k.g k.ws k.hold st (stepv k.ss at_) = freeB k.g st (stepv k.ss at_) := by unfold leafB; rw [h2]; rfl
  rw [hl]
  refine right_go k w st seen I at_ ha h1 143 (by rw [h2]; rfl) e143 (.inr h4) _ (fun e w' h => ⟨_, h.1⟩) fun W2 hF I2 => ?_
  exact (free_any k W2 st I2.ck I2.hst I2.row at_ (stepv k.ss at_)).mono fun e w' h => (RightP.leaf I2 _ h.1 h.2).frame hF

theorem leaf_step4 (k : CkD) (w : World) (st : List Int) (seen : List Bool) (I : RightI k st seen w) (at_ : Nat) (ha : at_ < k.sn) (h1 : nthB seen at_ = false) (h2 : (stepv k.ss at_).kind = 4) (h4 : (stepv k.ss at_).in_ = 0 ∧ (stepv k.ss at_).out = 0) :
    Calls Tryz.prog 147 #[.pointer (some ⟨k.C, 0, none⟩), .int .i64 (at_ : Int)] w fun e w' => RightP k st w (if leafB k.g k.ws k.hold st (stepv k.ss at_) = true then some (seen.set at_ true) else none) e w' := by
  have hl : leafB k.g k.ws k.hold st (stepv k.ss at_) = wayB k.ws k.hold st (stepv k.ss at_) := by unfold leafB; rw [h2]; rfl
  rw [hl]
  refine right_go k w st seen I at_ ha h1 144 (by rw [h2]; rfl) e144 (.inr h4) _ (fun e w' h => ⟨_, h.1⟩) fun W2 hF I2 => ?_
  exact (way_any k W2 st I2.ck I2.hst I2.row at_ (stepv k.ss at_)).mono fun e w' h => (RightP.leaf I2 _ h.1 h.2).frame hF

theorem leaf_step5 (k : CkD) (w : World) (st : List Int) (seen : List Bool) (I : RightI k st seen w) (at_ : Nat) (ha : at_ < k.sn) (h1 : nthB seen at_ = false) (h2 : (stepv k.ss at_).kind = 5) (h4 : (stepv k.ss at_).in_ = 0 ∧ (stepv k.ss at_).out = 0) :
    Calls Tryz.prog 147 #[.pointer (some ⟨k.C, 0, none⟩), .int .i64 (at_ : Int)] w fun e w' => RightP k st w (if leafB k.g k.ws k.hold st (stepv k.ss at_) = true then some (seen.set at_ true) else none) e w' := by
  have hl : leafB k.g k.ws k.hold st (stepv k.ss at_) = noneB k.ws k.hold st (stepv k.ss at_) := by unfold leafB; rw [h2]; rfl
  rw [hl]
  refine right_go k w st seen I at_ ha h1 145 (by rw [h2]; rfl) e145 (.inr h4) _ (fun e w' h => ⟨_, h.1⟩) fun W2 hF I2 => ?_
  exact (none_any k W2 st I2.ck I2.hst I2.row at_ (stepv k.ss at_)).mono fun e w' h => (RightP.leaf I2 _ h.1 h.2).frame hF

theorem right_step (k : CkD) (f : Nat) (hC : RightC k f) : RightC k (f + 1) := by
  intro at_ st seen W I ha hf
  have hsn : k.ss.length = k.sn := I.ck.rs.len
  rw [rightM]
  skip
  by_cases h1 : nthB seen at_ = true
  · rw [if_pos h1]
    exact (right_seen k W st seen I at_ ha h1).mono fun e w' h => RightP.no I h.1 h.2
  · rw [if_neg h1]
    have h1' : nthB seen at_ = false := by simpa using h1
    by_cases h2 : (stepv k.ss at_).kind = 1
    · rw [if_pos h2]
      refine right_go k W st seen I at_ ha h1' 141 (by rw [h2]; rfl) e141 (.inl h2) _ (fun e w' h => ⟨_, h.1⟩) fun W2 hF I2 => ?_
      by_cases h3 : branchB k.g k.ss.length at_ st (stepv k.ss at_) = true
      · rw [if_pos h3]
        exact (branch_yes k f hC W2 st _ I2 at_ (by omega) _ (by rw [← hsn]; exact h3)).mono fun e w' h => h.frame hF
      · rw [if_neg h3]
        exact (branch_no k W2 st _ I2 at_ _ (by rw [← hsn]; simpa using h3)).mono fun e w' h => (RightP.no I2 h.1 h.2).frame hF
    · rw [if_neg h2]
      have hbad : ∀ h : kindV (stepv k.ss at_).kind = .nilFunc ∨ ((stepv k.ss at_).kind ≠ 1 ∧ ¬ ((stepv k.ss at_).in_ = 0 ∧ (stepv k.ss at_).out = 0)), Calls Tryz.prog 147 #[.pointer (some ⟨k.C, 0, none⟩), .int .i64 (at_ : Int)] W fun e w' => RightP k st W none e w' :=
        fun h => (right_bad k W st seen I at_ ha h1' h).mono fun e w' h => RightP.no I h.1 h.2
      by_cases h4 : (stepv k.ss at_).in_ = 0 ∧ (stepv k.ss at_).out = 0
      · have hc : ∀ b : Bool, (if (stepv k.ss at_).in_ = 0 ∧ (stepv k.ss at_).out = 0 ∧ b = true then some (seen.set at_ true) else none) = if b = true then some (seen.set at_ true) else none := fun b => by
          simp [h4.1, h4.2]
        rw [hc]
        by_cases k2 : (stepv k.ss at_).kind = 2
        · exact leaf_step2 k W st seen I at_ ha h1' k2 h4
        · by_cases k3 : (stepv k.ss at_).kind = 3
          · exact leaf_step3 k W st seen I at_ ha h1' k3 h4
          · by_cases k4 : (stepv k.ss at_).kind = 4
            · exact leaf_step4 k W st seen I at_ ha h1' k4 h4
            · by_cases k5 : (stepv k.ss at_).kind = 5
              · exact leaf_step5 k W st seen I at_ ha h1' k5 h4
              · have hl : leafB k.g k.ws k.hold st (stepv k.ss at_) = false := by unfold leafB; rw [if_neg k2, if_neg k3, if_neg k4, if_neg k5]
                rw [hl]
                exact hbad (.inl (by unfold kindV kindF; rw [if_neg h2, if_neg k2, if_neg k3, if_neg k4, if_neg k5]; rfl))
      · rw [if_neg (fun h => h4 ⟨h.1, h.2.1⟩)]
        exact hbad (.inr ⟨h2, h4⟩)

theorem right_any (k : CkD) : ∀ f, RightC k f
  | 0 => fun at_ st seen W I ha hf => by omega
  | f + 1 => right_step k f (right_any k f)
end Go.Proofs.YthjifmfmaiagoaaGreatDoor

/- Opening of a row's arguments: a graph, a proof. -/
namespace Go.Proofs.YthjifmfmaiagoaaGreatDoor
open Go.RowKit Go.ChangeShapes Go.WideShapes Go.Deep
section
variable {H : Type} {enc : TypeId × Value → H} {w : World} {base : Nat} {sp : Nat → Bool} {held : Bool}
set_option maxRecDepth 100000 in
theorem opn_RG {fuel : Nat} {cs : List Value} {x : DataW H × List MemPlace} (h : DataW.trod enc Tryz.prog w base sp held fuel 25 cs = some x) : ∃ CA cn cc EA en ec g, cs = [.int .i64 g.n, .slice CA cn cc, .slice EA en ec] ∧ RG w CA cn cc EA en ec g := by
  obtain ⟨xs, k, hk, _, hlen, hxl, hf⟩ := DataW.trod_struct Tryz.underlying25 h
  have k25 : Tryz.prog.cellsOf 25 = 3 := by kernel_rfl
  have c3 : Tryz.prog.cellsOf 3 = 1 := by kernel_rfl
  have c22 : Tryz.prog.cellsOf 22 = 1 := by kernel_rfl
  have c23 : Tryz.prog.cellsOf 23 = 1 := by kernel_rfl
  rw [k25] at hlen
  match cs, hlen with
  | [v0, v1, v2], _ =>
    match xs, hxl with
    | [y0, y1, y2], _ =>
      have g0 := hf 0 _ rfl
      have g1 := hf 1 _ rfl
      have g2 := hf 2 _ rfl
      simp [c3, c22, c23] at g0 g1 g2
      obtain ⟨z0, hz0, hr⟩ := opn_int g0
      obtain ⟨CA, cn, cc, cost, hz1, h1⟩ := opn_RI g1
      obtain ⟨EA, en, ec, edges, hz2, h2⟩ := opn_RR g2
      cases hz0; cases hz1; cases hz2
      exact ⟨CA, cn, cc, EA, en, ec, ⟨z0, cost, edges⟩, rfl, h1, h2, hr⟩
set_option maxRecDepth 100000 in
theorem opn_RP {fuel : Nat} {cs : List Value} {x : DataW H × List MemPlace} (h : DataW.trod enc Tryz.prog w base sp held fuel 36 cs = some x) : ∃ A n c l, cs = [.slice A n c] ∧ RS w A n c l ∧ (A = none → c = 0) := by
  obtain ⟨xs, k, hk, _, hlen, hxl, hf⟩ := DataW.trod_struct Tryz.underlying36 h
  have k36 : Tryz.prog.cellsOf 36 = 1 := by kernel_rfl
  have c34 : Tryz.prog.cellsOf 34 = 1 := by kernel_rfl
  rw [k36] at hlen
  match cs, hlen with
  | [v0], _ =>
    match xs, hxl with
    | [y0], _ =>
      have g0 := hf 0 _ rfl
      simp [c34] at g0
      exact opn_RS g0
end
end Go.Proofs.YthjifmfmaiagoaaGreatDoor

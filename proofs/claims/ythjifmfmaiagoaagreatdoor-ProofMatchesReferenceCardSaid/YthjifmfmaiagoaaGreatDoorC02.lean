/- C02: texts H4 H5 G0 R0 R1 R2 R3 A0. -/
import Derived.Deep.OwnRows
import Derived.Laws.OwnMore
import Derived.MapKept
import Derived.Maps.OwnIn
import Derived.Test.YthjifmfmaiagoaaGreatDoorC01
set_option linter.all false

/- proof.set, proof.below, proof.has, proof.Holds: what they return. -/
namespace Go.Proofs.YthjifmfmaiagoaaGreatDoor
open Go.RowKit

theorem any_nth (l : List Int) (p : Int → Bool) : (List.range l.length).any (fun i => p (nth l i)) = l.any p := by
  rw [Bool.eq_iff_iff, List.any_eq_true, List.any_eq_true]
  constructor
  · rintro ⟨i, hi, h⟩
    exact ⟨nth l i, nth_mem (List.mem_range.1 hi), h⟩
  · rintro ⟨x, hx, h⟩
    obtain ⟨i, hi, rfl⟩ := mem_iff_nth.1 hx
    exact ⟨i, List.mem_range.2 hi, h⟩
theorem not_inc {l : List Int} {k : Nat} (h0 : 0 < k) (h1 : k < l.length) (h : nth l k ≤ nth l (k - 1)) : ¬ Inc l := fun hh => by
  have := (inc_iff l).1 hh (k - 1) k (by omega) h1
  omega
set_option maxHeartbeats 400000 in
theorem f88_any (A : Option Addr) (n c : Nat) (l : List Int) (w : World) (hr : RI w A n c l) :
    Calls Tryz.prog 88 #[.slice A n c] w fun e w' => e = .returned (.bool (decide (Inc l))) ∧ ∃ q, w' = w.drewN q := by
  have hn := hr.lenle
  have hc := hr.cell
  have HL : Hid (l.length = n) := hr.len
  clear hr
  go_enter Tryz.func88, Tryz.ntmps88
  go_wp2
  go_loopg [3] n (fun gg s3 wr => ∃ kk q : Nat, 1 ≤ kk ∧ (kk ≤ n ∨ kk = 1) ∧ n - kk ≤ gg ∧ s3 = .int .i64 kk ∧ wr = w.drewN q ∧ Aside (∀ j, 0 < j → j < kk → nth l (j - 1) < nth l j))
  case atStart => exact ⟨1, 0, Nat.le_refl _, .inr rfl, by omega, rfl, rfl, fun j hj hk => by omega⟩
  case round =>
    obtain ⟨kk, q, hk1, hkk, hg, rfl, rfl, AA⟩ := hrel
    by_cases hlt : kk < n
    · have hltz : (kk : Int) < (n : Int) := by omega
      obtain ⟨ad, rfl, hcell⟩ := hc kk hlt
      obtain ⟨ad', e, hcell2⟩ := hc (kk - 1) (by omega)
      cases e
      clear hc
      have HX : Hid (∀ x y, nth l kk = x → nth l (kk - 1) = y → x ≤ y → ¬ Inc l) := by
        rintro x y rfl rfl h
        exact not_inc (by omega) (by have := HL.out; omega) h
      generalize hx : nth l kk = x at hcell
      generalize hy : nth l (kk - 1) = y at hcell2
      have HY : Hid (nth l kk = x ∧ nth l (kk - 1) = y) := ⟨hx, hy⟩
      clear hx hy
      have e1 : IntKind.i64.wrap ((kk : Int) - 1) = (kk : Int) - 1 := IntWalk.i64_in _ (by omega)
      have e2 : (0 : Int) ≤ (kk : Int) - 1 := by omega
      have e3 : ((kk : Int) - 1).toNat = kk - 1 := by omega
      by_cases hxy : x ≤ y
      · go_wp2
        go_quiet (fail)
        clear e1 e2 e3
        go_wp2
        go_ret
        exact ⟨ret_bool (decide_eq_false (HX.out x y HY.out.1 HY.out.2 hxy)).symm, _, by first | rfl | simp [World.drewN_drewN]; rfl⟩
      · go_wp2
        go_quiet (fail)
        clear e1 e2 e3
        go_wp2
        go_roundg (n - (kk + 1))
        case measure => omega
        case rel =>
          refine ⟨kk + 1, _, by omega, by omega, by omega, by go_num, by first | rfl | simp [World.drewN_drewN]; rfl, (show Aside _ from fun j hj hjk => ?_)⟩
          rcases Nat.lt_or_ge j kk with h1 | h1
          · exact AA.out j hj h1
          · obtain rfl : j = kk := by omega
            rw [HY.out.1, HY.out.2]
            omega
    · have hltz : ¬ (kk : Int) < (n : Int) := by omega
      clear hc
      go_wp2
      go_ret
      exact ⟨ret_bool (decide_eq_true (inc_of_steps fun i h0 hi => AA.out i h0 (by have := HL.out; omega))).symm, q, rfl⟩

set_option maxHeartbeats 400000 in
theorem f140_any (A : Option Addr) (n c : Nat) (l : List Int) (N : Int) (w : World) (hr : RI w A n c l) :
    Calls Tryz.prog 140 #[.slice A n c, .int .i64 N] w fun e w' => e = .returned (.bool (decide (Verts l N))) ∧ ∃ q, w' = w.drewN q := by
  have hn := hr.lenle
  have hcall := f88_any A n c l w hr
  have HV := hid (verts_iff l N)
  have HL : Hid (l.length = n) := hr.len
  by_cases hi : Inc l
  · rw [decide_eq_true hi] at hcall
    have HI := hid hi
    clear hi
    rcases Nat.eq_zero_or_pos n with h0 | h0
    · subst h0
      clear hr
      go_enter Tryz.func140, Tryz.ntmps140
      go_wp2_with (go_at_call 88; refine hcall.mono ?_; rintro e w' ⟨rfl, q, rfl⟩)
      go_ret
      exact ⟨ret_bool (decide_eq_true (HV.out.2 ⟨HI.out, .inl HL.out⟩)).symm, q, rfl⟩
    · obtain ⟨ad, rfl, hcell⟩ := hr.cell 0 h0
      obtain ⟨ad', e, hcell2⟩ := hr.cell (n - 1) (by omega)
      cases e
      clear hr
      have hcell0 : w.cell? ad = some (.int .i64 (nth l 0)) := by simpa [Addr.add] using hcell
      have HX : Hid (∀ x y, nth l 0 = x → nth l (n - 1) = y → decide (Verts l N) = (decide (0 ≤ x) && decide (y < N))) := by
        rintro x y rfl rfl
        rw [← Bool.decide_and]
        refine decide_eq_decide.2 ?_
        rw [HV.out, HL.out]
        constructor
        · rintro ⟨_, h | h⟩
          · omega
          · exact h
        · exact fun h => ⟨HI.out, .inr h⟩
      generalize hx : nth l 0 = x at hcell hcell0
      generalize hy : nth l (n - 1) = y at hcell2
      have HY := hid (HX.out x y hx hy)
      clear hx hy HX
      go_enter Tryz.func140, Tryz.ntmps140
      go_wp2_with (go_at_call 88; refine hcall.mono ?_; rintro e w' ⟨rfl, q, rfl⟩)
      all_goals (go_ret; refine ⟨ret_bool ?_, _, rfl⟩; rw [HY.out, Bool.eq_iff_iff]; simp; omega)
  · rw [decide_eq_false hi] at hcall
    have HI := hid hi
    clear hi hr
    go_enter Tryz.func140, Tryz.ntmps140
    go_wp2_with (go_at_call 88; refine hcall.mono ?_; rintro e w' ⟨rfl, q, rfl⟩)
    go_ret
    exact ⟨ret_bool (decide_eq_false fun h => HI.out h.1).symm, q, rfl⟩

set_option maxHeartbeats 400000 in
theorem f91_any (A : Option Addr) (n c : Nat) (l : List Int) (x : Int) (w : World) (hr : RI w A n c l) (hbig : n < 4611686018427387904) (hs : Inc l) :
    Calls Tryz.prog 91 #[.slice A n c, .int .i64 x] w fun e w' => e = .returned (.bool (decide (x ∈ l))) ∧ w = w' := by
  have hcall := search_any A n c l x w hr hbig hs
  clear hr hs
  generalize decide (x ∈ l) = b at hcall ⊢
  go_enter Tryz.func91, Tryz.ntmps91
  go_wp2_with (go_at_call 138; refine hcall.mono ?_; rintro e w' ⟨rfl, rfl⟩)
  go_ret
  exact ⟨rfl, rfl⟩

set_option maxHeartbeats 400000 in
theorem f90_any (B : Nat) (A : Option Addr) (n c : Nat) (l : List Int) (x : Int) (w : World) (hr : RI w A n c l) (hbig : n < 4611686018427387904) (hs : Inc l) (hB : w.cell? ⟨B, 0, none⟩ = some (.slice A n c)) :
    Calls Tryz.prog 90 #[.int .i64 x, .pointer (some ⟨B, 0, none⟩)] w fun e w' => e = .returned (.bool (decide (x ∉ l))) ∧ w = w' := by
  have hcall := f91_any A n c l x w hr hbig hs
  clear hr hs
  rw [decide_not]
  generalize decide (x ∈ l) = b at hcall ⊢
  go_enter Tryz.func90, Tryz.ntmps90
  go_wp2_with (go_at_call 91; refine hcall.mono ?_; rintro e w' ⟨rfl, rfl⟩)
  go_ret
  exact ⟨rfl, rfl⟩
set_option maxHeartbeats 400000 in
theorem f92_any (B : Nat) (A : Option Addr) (n c : Nat) (l : List Int) (x : Int) (w : World) (hr : RI w A n c l) (hbig : n < 4611686018427387904) (hs : Inc l) (hB : w.cell? ⟨B, 0, none⟩ = some (.slice A n c)) :
    Calls Tryz.prog 92 #[.int .i64 x, .pointer (some ⟨B, 0, none⟩)] w fun e w' => e = .returned (.bool (decide (x ∈ l))) ∧ w = w' := by
  have hcall := f91_any A n c l x w hr hbig hs
  clear hr hs
  generalize decide (x ∈ l) = b at hcall ⊢
  go_enter Tryz.func92, Tryz.ntmps92
  go_wp2_with (go_at_call 91; refine hcall.mono ?_; rintro e w' ⟨rfl, rfl⟩)
  go_ret
  exact ⟨rfl, rfl⟩

/-- A search whose function value leaves the world as it is. -/
theorem some_same {n : Nat} {p : Nat → Bool} {w : World} {e : Ending} {w' : World} (h : FoundB n p (fun _ W => w = W) (fun _ W => w = W) e w') : e = .returned (.bool ((List.range n).any p)) ∧ w = w' := by
  rcases h with ⟨i, h1, h2, _, rfl, h⟩ | ⟨h1, rfl, h⟩
  · exact ⟨ret_bool (List.any_eq_true.2 ⟨i, List.mem_range.2 h1, h2⟩).symm, h⟩
  · exact ⟨ret_bool (List.any_eq_false.2 fun i hi => by rw [h1 i (List.mem_range.1 hi)]; simp).symm, h⟩
/-- A search whose function value makes memory of its own alone. -/
theorem some_ext {n : Nat} {p : Nat → Bool} {w : World} {e : Ending} {w' : World} (h : FoundB n p (fun _ W => Ext w W) (fun _ W => Ext w W) e w') : e = .returned (.bool ((List.range n).any p)) ∧ Ext w w' := by
  rcases h with ⟨i, h1, h2, _, rfl, h⟩ | ⟨h1, rfl, h⟩
  · exact ⟨ret_bool (List.any_eq_true.2 ⟨i, List.mem_range.2 h1, h2⟩).symm, h⟩
  · exact ⟨ret_bool (List.any_eq_false.2 fun i hi => by rw [h1 i (List.mem_range.1 hi)]; simp).symm, h⟩
/-- slices.ContainsFunc over numbers, the function value leaving the world as it is. -/
theorem f89_same (A : Option Addr) (n c : Nat) (l : List Int) (g : Nat) (lb : Array Value) (eg : ∀ args w, (callFunc g args).run Tryz.prog w = .ok (.enter g args) w) (p : Int → Bool) (w : World) (hr : RI w A n c l)
    (hc : ∀ x ∈ l, Calls Tryz.prog g (#[.int .i64 x] ++ lb) w fun e w' => e = .returned (.bool (p x)) ∧ w = w') :
    Calls Tryz.prog 89 #[.slice A n c, .func (.func g) #[] lb] w fun e w' => e = .returned (.bool (l.any p)) ∧ w = w' := by
  refine (f89_any A n c g lb eg (fun i => .int .i64 (nth l i)) (fun i => p (nth l i)) (fun _ W => w = W) (fun _ W => w = W) w hr.lenle rfl (fun i hi W hW => by subst hW; exact hr.cell i hi) (fun i hi W hW => by
    subst hW
    exact (hc _ (nth_mem (by rw [hr.len]; exact hi))).mono fun e W' ⟨he, hw⟩ => ⟨he, by subst hw; split <;> rfl⟩)).mono fun e w' h => ?_
  obtain ⟨h1, h2⟩ := some_same h
  refine ⟨h1.trans (ret_bool ?_), h2⟩
  rw [← hr.len]
  exact any_nth l p
end Go.Proofs.YthjifmfmaiagoaaGreatDoor

/- proof.Holds: what it returns. -/
namespace Go.Proofs.YthjifmfmaiagoaaGreatDoor
open Go.RowKit

theorem e90 : ∀ args w, (callFunc 90 args).run Tryz.prog w = .ok (.enter 90 args) w := enters_of Tryz.func90 (by kernel_rfl) rfl
theorem e92 : ∀ args w, (callFunc 92 args).run Tryz.prog w = .ok (.enter 92 args) w := enters_of Tryz.func92 (by kernel_rfl) rfl

set_option maxHeartbeats 1000000 in
theorem holds_any (PA NA LA : Option Addr) (pn pc nn nc ln lc : Nat) (x : Way) (l : List Int) (w : World) (hp : RI w PA pn pc x.pos) (hq : RI w NA nn nc x.neg) (hl : RI w LA ln lc l) (hbig : ln < 4611686018427387904) :
    Calls Tryz.prog 32 #[.agg #[.slice PA pn pc, .slice NA nn nc], .slice LA ln lc] w fun e w' => e = .returned (.bool (decide (HoldsW x l))) ∧ Ext w w' := by
  have h1 : ∀ W, Ext w W → Calls Tryz.prog 88 #[.slice PA pn pc] W fun e w' => e = .returned (.bool (decide (Inc x.pos))) ∧ ∃ q, w' = W.drewN q := fun W h => f88_any _ _ _ _ W (hp.ext h)
  have h2 : ∀ W, Ext w W → Calls Tryz.prog 88 #[.slice NA nn nc] W fun e w' => e = .returned (.bool (decide (Inc x.neg))) ∧ ∃ q, w' = W.drewN q := fun W h => f88_any _ _ _ _ W (hq.ext h)
  have h3 : ∀ W, Ext w W → Calls Tryz.prog 88 #[.slice LA ln lc] W fun e w' => e = .returned (.bool (decide (Inc l))) ∧ ∃ q, w' = W.drewN q := fun W h => f88_any _ _ _ _ W (hl.ext h)
  have h4 : Inc l → ∀ W B, Ext w W → W.cell? ⟨B, 0, none⟩ = some (.slice LA ln lc) → Calls Tryz.prog 89 #[.slice PA pn pc, .func (.func 90) #[] #[.pointer (some ⟨B, 0, none⟩)]] W fun e w' => e = .returned (.bool (x.pos.any fun v => decide (v ∉ l))) ∧ W = w' :=
    fun hi W B h hB => f89_same _ _ _ _ _ _ e90 _ W (hp.ext h) fun v _ => f90_any B LA ln lc l v W (hl.ext h) hbig hi hB
  have h5 : Inc l → ∀ W B, Ext w W → W.cell? ⟨B, 0, none⟩ = some (.slice LA ln lc) → Calls Tryz.prog 89 #[.slice NA nn nc, .func (.func 92) #[] #[.pointer (some ⟨B, 0, none⟩)]] W fun e w' => e = .returned (.bool (x.neg.any fun v => decide (v ∈ l))) ∧ W = w' :=
    fun hi W B h hB => f89_same _ _ _ _ _ _ e92 _ W (hq.ext h) fun v _ => f92_any B LA ln lc l v W (hl.ext h) hbig hi hB
  clear hp hq hl
  have HX : Hid (HoldsW x l ↔ Inc x.pos ∧ Inc x.neg ∧ Inc l ∧ (∀ v ∈ x.pos, v ∈ l) ∧ ∀ v ∈ x.neg, v ∉ l) := Iff.rfl
  have H4 := hid h4
  have H5 := hid h5
  have H1 := hid h1
  have H2 := hid h2
  have H3 := hid h3
  clear h1 h2 h3 h4 h5
  by_cases i1 : Inc x.pos
  · have H1 : Hid (∀ W, Ext w W → Calls Tryz.prog 88 #[.slice PA pn pc] W fun e w' => e = .returned (.bool true) ∧ ∃ q, w' = W.drewN q) := by
      have := H1.out
      rwa [decide_eq_true i1] at this
    by_cases i2 : Inc x.neg
    · have H2 : Hid (∀ W, Ext w W → Calls Tryz.prog 88 #[.slice NA nn nc] W fun e w' => e = .returned (.bool true) ∧ ∃ q, w' = W.drewN q) := by
        have := H2.out
        rwa [decide_eq_true i2] at this
      by_cases i3 : Inc l
      · have H3 : Hid (∀ W, Ext w W → Calls Tryz.prog 88 #[.slice LA ln lc] W fun e w' => e = .returned (.bool true) ∧ ∃ q, w' = W.drewN q) := by
          have := H3.out
          rwa [decide_eq_true i3] at this
        have I : Hid (Inc x.pos ∧ Inc x.neg ∧ Inc l) := ⟨i1, i2, i3⟩
        clear i1 i2 i3
        go_enter Tryz.func32, Tryz.ntmps32
        go_wp2_with fail
        refine (H1.out _ (by repeat' (first | exact Ext.refl _ | assumption | apply Ext.alloc | apply Ext.drewN | apply Ext.drew))).mono ?_
        rintro e w' ⟨rfl, q1, rfl⟩
        go_wp2_with fail
        refine (H2.out _ (by repeat' (first | exact Ext.refl _ | assumption | apply Ext.alloc | apply Ext.drewN | apply Ext.drew))).mono ?_
        rintro e w' ⟨rfl, q2, rfl⟩
        go_wp2_with fail
        refine (H3.out _ (by repeat' (first | exact Ext.refl _ | assumption | apply Ext.alloc | apply Ext.drewN | apply Ext.drew))).mono ?_
        rintro e w' ⟨rfl, q3, rfl⟩
        go_wp2_with fail
        refine (H4.out I.out.2.2 _ _ (by repeat' (first | exact Ext.refl _ | assumption | apply Ext.alloc | apply Ext.drewN | apply Ext.drew)) (by simp)).mono ?_
        rintro e w' ⟨rfl, rfl⟩
        cases ha : x.pos.any fun v => decide (v ∉ l) with
        | true =>
          have HA := hid ha
          clear ha
          go_wp2
          go_ret
          exact ⟨ret_bool (decide_eq_false fun h => by
            obtain ⟨v, hv, h1⟩ := List.any_eq_true.1 HA.out
            exact (of_decide_eq_true h1) (h.2.2.2.1 v hv)).symm, (by repeat' (first | exact Ext.refl _ | assumption | apply Ext.alloc | apply Ext.drewN | apply Ext.drew))⟩
        | false =>
          have HA := hid ha
          clear ha
          go_wp2_with fail
          refine (H5.out I.out.2.2 _ _ (by repeat' (first | exact Ext.refl _ | assumption | apply Ext.alloc | apply Ext.drewN | apply Ext.drew)) (by simp)).mono ?_
          rintro e w' ⟨rfl, rfl⟩
          cases hb : x.neg.any fun v => decide (v ∈ l) with
          | true =>
            have HB := hid hb
            clear hb
            go_wp2
            go_ret
            exact ⟨ret_bool (decide_eq_false fun h => by
              obtain ⟨v, hv, h1⟩ := List.any_eq_true.1 HB.out
              exact h.2.2.2.2 v hv (of_decide_eq_true h1)).symm, (by repeat' (first | exact Ext.refl _ | assumption | apply Ext.alloc | apply Ext.drewN | apply Ext.drew))⟩
          | false =>
            have HB := hid hb
            clear hb
            go_wp2
            go_ret
            exact ⟨ret_bool (decide_eq_true ⟨I.out.1, I.out.2.1, I.out.2.2, fun v hv => by
              have := List.any_eq_false.1 HA.out v hv
              simpa using this, fun v hv => by
              have := List.any_eq_false.1 HB.out v hv
              simpa using this⟩).symm, (by repeat' (first | exact Ext.refl _ | assumption | apply Ext.alloc | apply Ext.drewN | apply Ext.drew))⟩
      · have H3 : Hid (∀ W, Ext w W → Calls Tryz.prog 88 #[.slice LA ln lc] W fun e w' => e = .returned (.bool false) ∧ ∃ q, w' = W.drewN q) := by
          have := H3.out
          rwa [decide_eq_false i3] at this
        have I : Hid (¬ Inc l) := i3
        clear i1 i2 i3
        go_enter Tryz.func32, Tryz.ntmps32
        go_wp2_with fail
        refine (H1.out _ (by repeat' (first | exact Ext.refl _ | assumption | apply Ext.alloc | apply Ext.drewN | apply Ext.drew))).mono ?_
        rintro e w' ⟨rfl, q1, rfl⟩
        go_wp2_with fail
        refine (H2.out _ (by repeat' (first | exact Ext.refl _ | assumption | apply Ext.alloc | apply Ext.drewN | apply Ext.drew))).mono ?_
        rintro e w' ⟨rfl, q2, rfl⟩
        go_wp2_with fail
        refine (H3.out _ (by repeat' (first | exact Ext.refl _ | assumption | apply Ext.alloc | apply Ext.drewN | apply Ext.drew))).mono ?_
        rintro e w' ⟨rfl, q3, rfl⟩
        go_wp2
        go_ret
        exact ⟨ret_bool (decide_eq_false fun h => I.out h.2.2.1).symm, (by repeat' (first | exact Ext.refl _ | assumption | apply Ext.alloc | apply Ext.drewN | apply Ext.drew))⟩
    · have H2 : Hid (∀ W, Ext w W → Calls Tryz.prog 88 #[.slice NA nn nc] W fun e w' => e = .returned (.bool false) ∧ ∃ q, w' = W.drewN q) := by
        have := H2.out
        rwa [decide_eq_false i2] at this
      have I : Hid (¬ Inc x.neg) := i2
      clear i1 i2
      go_enter Tryz.func32, Tryz.ntmps32
      go_wp2_with fail
      refine (H1.out _ (by repeat' (first | exact Ext.refl _ | assumption | apply Ext.alloc | apply Ext.drewN | apply Ext.drew))).mono ?_
      rintro e w' ⟨rfl, q1, rfl⟩
      go_wp2_with fail
      refine (H2.out _ (by repeat' (first | exact Ext.refl _ | assumption | apply Ext.alloc | apply Ext.drewN | apply Ext.drew))).mono ?_
      rintro e w' ⟨rfl, q2, rfl⟩
      go_wp2
      go_ret
      exact ⟨ret_bool (decide_eq_false fun h => I.out h.2.1).symm, (by repeat' (first | exact Ext.refl _ | assumption | apply Ext.alloc | apply Ext.drewN | apply Ext.drew))⟩
  · have H1 : Hid (∀ W, Ext w W → Calls Tryz.prog 88 #[.slice PA pn pc] W fun e w' => e = .returned (.bool false) ∧ ∃ q, w' = W.drewN q) := by
      have := H1.out
      rwa [decide_eq_false i1] at this
    have I : Hid (¬ Inc x.pos) := i1
    clear i1
    go_enter Tryz.func32, Tryz.ntmps32
    go_wp2_with fail
    refine (H1.out _ (by repeat' (first | exact Ext.refl _ | assumption | apply Ext.alloc | apply Ext.drewN | apply Ext.drew))).mono ?_
    rintro e w' ⟨rfl, q1, rfl⟩
    go_wp2
    go_ret
    exact ⟨ret_bool (decide_eq_false fun h => I.out h.1).symm, (by repeat' (first | exact Ext.refl _ | assumption | apply Ext.alloc | apply Ext.drewN | apply Ext.drew))⟩
end Go.Proofs.YthjifmfmaiagoaaGreatDoor

/- Maps of the call's own, read as functions: what a look-up gives, what a store leaves. -/
namespace Go.Proofs.YthjifmfmaiagoaaGreatDoor
open Go.RowKit Go.Instr

section
variable {κ : Type} [DecidableEq κ]
/-- The first entry of a key, and its place. -/
def look : List (κ × Value) → κ → Option (Nat × Value)
  | [], _ => none
  | (a, v) :: D, k => if k = a then some (0, v) else (look D k).map fun p => (p.1 + 1, p.2)
/-- How a type's keys stand as values. -/
structure Keys (td : TypeDesc) (enc : κ → Value) : Prop where
  same : ∀ a b, sameNow td (enc a) (enc b) = some (decide (a = b))
  bits : ∀ a, sameBits 10000 (enc a) (enc a) = true
  plain : (∃ k, td = .int k) ∨ td = .string
theorem keys_int : Keys (.int .i64) (Value.int .i64) :=
  ⟨fun a b => by simp only [sameNow, if_true]; exact congrArg some (by rw [Bool.eq_iff_iff]; simp), fun a => by unfold sameBits; simp, .inl ⟨_, rfl⟩⟩
theorem keys_string : Keys .string (Value.string) :=
  ⟨fun a b => by simp only [sameNow]; exact congrArg some (by rw [Bool.eq_iff_iff, Go.MapKept.bytes_beq]; simp), fun a => by unfold sameBits; exact (Go.MapKept.bytes_beq a a).2 rfl, .inr rfl⟩

theorem findNow_look {td : TypeDesc} {enc : κ → Value} (K : Keys td enc) (k : κ) : ∀ (es : List MapEntry) (D : List (κ × Value)) (i : Nat), es.map (fun e => (e.key, e.val)) = D.map (fun p => (enc p.1, p.2)) →
    findNow td (enc k) es i = some ((look D k).map fun p => (i + p.1, p.2)) := by
  intro es
  induction es with
  | nil =>
    intro D i h
    cases D with
    | nil => rfl
    | cons p D => simp at h
  | cons e es ih =>
    intro D i h
    cases D with
    | nil => simp at h
    | cons p D =>
      obtain ⟨a, v⟩ := p
      simp only [List.map_cons, List.cons.injEq, Prod.mk.injEq] at h
      obtain ⟨⟨h1, h2⟩, h3⟩ := h
      unfold findNow
      rw [h1, K.same]
      by_cases hk : k = a
      · subst hk
        simp [look, h2]
      · simp only [look, if_neg hk, decide_eq_false hk]
        rw [ih D (i + 1) h3]
        cases look D k <;> simp <;> omega

/-- Block b of w is a map that reads as the function f. -/
def MapFn (enc : κ → Value) (w : World) (b : Nat) (f : κ → Option Value) : Prop :=
  ∃ es clock, ∃ D : List (κ × Value), w.heap[b]? = some (.map es clock) ∧ es.toList.map (fun e => (e.key, e.val)) = D.map (fun p => (enc p.1, p.2)) ∧ ∀ k, f k = (look D k).map (·.2)

theorem MapFn.keep {enc : κ → Value} {w w' : World} {b : Nat} {f : κ → Option Value} (h : MapFn enc w b f) (e : w'.heap[b]? = w.heap[b]?) : MapFn enc w' b f := by
  obtain ⟨es, clock, D, h1, h2⟩ := h
  exact ⟨es, clock, D, e.trans h1, h2⟩
theorem MapFn.lt {enc : κ → Value} {w : World} {b : Nat} {f : κ → Option Value} (h : MapFn enc w b f) : b < w.heap.size := by
  obtain ⟨es, clock, D, h1, _⟩ := h
  exact (Array.getElem?_eq_some_iff.1 h1).1
theorem MapFn.made (enc : κ → Value) (w : World) : MapFn enc (w.alloc (.map #[] 0)) w.heap.size (fun _ => none) :=
  ⟨#[], 0, [], heap_alloc_new w _, rfl, fun _ => rfl⟩

theorem look_push (D : List (κ × Value)) (k : κ) (v : Value) (h : look D k = none) (x : κ) : ((look (D ++ [(k, v)]) x).map (·.2)) = if x = k then some v else (look D x).map (·.2) := by
  induction D with
  | nil => by_cases hx : x = k <;> simp [look, hx]
  | cons p D ih =>
    obtain ⟨a, u⟩ := p
    unfold look at h
    by_cases hka : k = a
    · rw [if_pos hka] at h; simp at h
    · rw [if_neg hka] at h
      have h' : look D k = none := by simpa using h
      have ih := ih h'
      simp only [List.cons_append, look]
      by_cases hxa : x = a
      · subst hxa
        rw [if_pos rfl, if_neg (by intro e; exact hka e.symm), if_pos rfl]
      · rw [if_neg hxa, if_neg hxa]
        simpa [Option.map_map, Function.comp_def] using ih
theorem look_some {D : List (κ × Value)} {k : κ} {p : Nat × Value} (h : look D k = some p) : ∃ hlt : p.1 < D.length, D[p.1].1 = k := by
  induction D generalizing p with
  | nil => simp [look] at h
  | cons q D ih =>
    obtain ⟨a, u⟩ := q
    unfold look at h
    by_cases hka : k = a
    · rw [if_pos hka] at h
      obtain rfl : (0, u) = p := Option.some.inj h
      exact ⟨by simp, hka.symm⟩
    · rw [if_neg hka] at h
      obtain ⟨p', h1, rfl⟩ := Option.map_eq_some_iff.1 h
      obtain ⟨h2, h3⟩ := ih h1
      exact ⟨by simp; omega, by simpa using h3⟩
theorem look_set {D : List (κ × Value)} {k : κ} {p : Nat × Value} (h : look D k = some p) (v : Value) (x : κ) : ((look (D.set p.1 (k, v)) x).map (·.2)) = if x = k then some v else (look D x).map (·.2) := by
  induction D generalizing p with
  | nil => simp [look] at h
  | cons q D ih =>
    obtain ⟨a, u⟩ := q
    unfold look at h
    by_cases hka : k = a
    · rw [if_pos hka] at h
      obtain rfl : (0, u) = p := Option.some.inj h
      subst hka
      by_cases hx : x = k <;> simp [look, hx]
    · rw [if_neg hka] at h
      obtain ⟨p', h1, rfl⟩ := Option.map_eq_some_iff.1 h
      have ih := ih h1
      simp only [List.set_cons_succ, look]
      by_cases hxa : x = a
      · subst hxa
        rw [if_pos rfl, if_neg (by intro e; exact hka e.symm), if_pos rfl]
      · rw [if_neg hxa, if_neg hxa]
        simpa [Option.map_map, Function.comp_def] using ih
theorem run_look {td : TypeDesc} {enc : κ → Value} (K : Keys td enc) {T kt et : TypeId} (hT : Tryz.prog.underlying T = some (.map kt et)) (hk : Tryz.prog.underlying kt = some td) {z : Value} (hz : ∀ w, (zeroValue et).run Tryz.prog w = .ok z w)
    {w : World} {b : Nat} {f : κ → Option Value} (h : MapFn enc w b f) (k : κ) (ok : Bool) :
    (Instr.lookup T (.map (some b)) (enc k) ok).run Tryz.prog w = .ok (if ok then .tuple #[(f k).getD z, .bool (f k).isSome] else (f k).getD z) w := by
  obtain ⟨es, clock, D, h1, h2, h3⟩ := h
  have h4 := findNow_look K k es.toList D 0 h2
  have hchk : ∀ (em : Bool) (v : Value) (w : World), (checkKey em 10000 kt v).run Tryz.prog w = .ok () w := by
    intro em v w
    unfold checkKey
    rcases K.plain with ⟨q, rfl⟩ | rfl <;> simp [run_underlying hk, Sem.run_bind]
  rw [h3 k]
  unfold Instr.lookup
  have hobj : ∀ w', w'.heap[b]? = some (.map es clock) → (getObj b).run Tryz.prog w' = .ok (.map es clock) w' := fun w' h => by simp [getObj, Sem.run, h]
  have hfk : ∀ w, (findKey kt (enc k) es.toList).run Tryz.prog w = .ok ((look D k).map fun p => (0 + p.1, p.2)) w := fun w => by
    unfold findKey
    simp only [Sem.run_bind, run_underlying hk, Result.andThen_ok, h4, Sem.run_pure]
  simp only [Sem.run_bind, run_underlying hT, Result.andThen_ok, hobj _ h1, Sem.run_pure, hchk, hfk]
  cases hl : look D k with
  | none => cases ok <;> simp [hz]
  | some p => cases ok <;> simp

theorem run_store {td : TypeDesc} {enc : κ → Value} (K : Keys td enc) {T kt et : TypeId} (hT : Tryz.prog.underlying T = some (.map kt et)) (hk : Tryz.prog.underlying kt = some td)
    {w : World} {b : Nat} {f : κ → Option Value} (h : MapFn enc w b f) (k : κ) (v : Value) :
    ∃ w', (Instr.mapUpdate T (.map (some b)) (enc k) v).run Tryz.prog w = .ok () w' ∧ MapFn enc w' b (fun x => if x = k then some v else f x) ∧ w.grownBy w' (some b) := by
  obtain ⟨es, clock, D, h1, h2, h3⟩ := h
  have h4 := findNow_look K k es.toList D 0 h2
  have hb : b < w.heap.size := (Array.getElem?_eq_some_iff.1 h1).1
  have hchk : ∀ (em : Bool) (v : Value) (w : World), (checkKey em 10000 kt v).run Tryz.prog w = .ok () w := by
    intro em v w
    unfold checkKey
    rcases K.plain with ⟨q, rfl⟩ | rfl <;> simp [run_underlying hk, Sem.run_bind]
  have hobj : ∀ w', w'.heap[b]? = some (.map es clock) → (getObj b).run Tryz.prog w' = .ok (.map es clock) w' := fun w' h => by simp [getObj, Sem.run, h]
  have hfk : ∀ w, (findKey kt (enc k) es.toList).run Tryz.prog w = .ok ((look D k).map fun p => (0 + p.1, p.2)) w := fun w => by
    unfold findKey
    simp only [Sem.run_bind, run_underlying hk, Result.andThen_ok, h4, Sem.run_pure]
  have hset : ∀ o, (setObj b o).run Tryz.prog w = .ok () { w with heap := w.heap.setIfInBounds b o } := fun o => by simp [setObj, Sem.run, h1]
  have hg : ∀ o, w.grownBy { w with heap := w.heap.setIfInBounds b o } (some b) := fun o =>
    ⟨rfl, rfl, rfl, by simp, fun j _ hj => by
      show (w.heap.setIfInBounds b o)[j]? = _
      rw [Array.getElem?_setIfInBounds, if_neg (by intro e; exact hj (by rw [e]))]⟩
  unfold Instr.mapUpdate
  simp only [Sem.run_bind, run_underlying hT, Result.andThen_ok, hobj _ h1, hchk, hfk]
  cases hl : look D k with
  | none =>
    refine ⟨{ w with heap := w.heap.setIfInBounds b (.map (es.push { key := enc k, val := v, born := clock }) (clock + 1)) }, by simp [hset], ⟨es.push { key := enc k, val := v, born := clock }, clock + 1, D ++ [(k, v)], by simp [hb], by simp [h2], fun x => ?_⟩, hg _⟩
    rw [look_push D k v hl]
    show (if x = k then some v else f x) = _
    rw [h3]
  | some p =>
    obtain ⟨i, u⟩ := p
    obtain ⟨hi, hD⟩ := look_some hl
    have hlen : es.toList.length = D.length := by
      have := congrArg List.length h2
      simpa using this
    have hies : i < es.size := by simp at hlen; omega
    have hkey : (es[i]).key = enc k := by
      have := congrArg (fun l => l[i]?) h2
      simp only [List.getElem?_map, Array.getElem?_toList, Array.getElem?_eq_getElem hies, List.getElem?_eq_getElem hi, Option.map_some, Option.some.injEq, Prod.mk.injEq] at this
      rw [this.1, hD]
    have hks : ∀ w, (keyThatStays (((es[i]?).map (·.key)).getD (enc k)) (enc k)).run Tryz.prog w = .ok (enc k) w := fun w => by
      rw [Array.getElem?_eq_getElem hies]
      simp only [Option.map_some, Option.getD_some, hkey]
      unfold keyThatStays
      rw [if_pos (K.bits k)]
      rfl
    refine ⟨{ w with heap := w.heap.setIfInBounds b (.map (es.modify i fun e => { e with key := enc k, val := v }) clock) }, ?_, ⟨es.modify i fun e => { e with key := enc k, val := v }, clock, D.set i (k, v), by simp [hb], ?_, fun x => ?_⟩, hg _⟩
    · simp only [Option.map_some, Nat.zero_add, Sem.run_bind, hks, Result.andThen_ok, hset]
    · rw [Array.toList_modify]
      refine List.ext_getElem? fun j => ?_
      have hj := congrArg (fun l => l[j]?) h2
      simp only [List.getElem?_map] at hj
      simp only [List.getElem?_map, List.getElem?_modify, List.getElem?_set]
      by_cases hij : i = j
      · subst hij
        have hi' : i < D.length := hi
        simp [hi', hies]
      · rw [if_neg hij]
        simpa [hij] using hj
    · rw [look_set hl]
      show (if x = k then some v else f x) = _
      rw [h3]
end
theorem add_block (a : Addr) (i : Nat) : (a.add i).block = a.block := by
  unfold Addr.add
  split <;> rfl

theorem Ext.frozen {w w' : World} (h : Ext w w') {a : Addr} (ha : a.block < w.heap.size) : w'.frozen? a = w.frozen? a := Below.frozen h ha
theorem cellNew {W : World} {v : Value} {t : TypeId} {b : Nat} (h : b = W.heap.size) : (W.alloc (.cells #[v] t)).cell? ⟨b, 0, none⟩ = some v := by
  subst h
  simp
theorem frozenNew {W : World} {v : Value} {t : TypeId} {b : Nat} (h : b = W.heap.size) : (W.alloc (.cells #[v] t)).frozen? ⟨b, 0, none⟩ = false := by
  subst h
  simp
end Go.Proofs.YthjifmfmaiagoaaGreatDoor

/- The references' small functions: increasing lists, sets of vertices, membership, sizes. -/
namespace Go.Proofs.YthjifmfmaiagoaaGreatDoor
open Go.RowKit

set_option maxHeartbeats 400000 in
theorem f93_any (A : Option Addr) (n c : Nat) (l : List Int) (w : World) (hr : RI w A n c l) :
    Calls Tryz.prog 93 #[.slice A n c] w fun e w' => e = .returned (.bool (decide (Inc l))) ∧ ∃ q, w' = w.drewN q := by
  have hn := hr.lenle
  have hc := hr.cell
  have HL : Hid (l.length = n) := hr.len
  clear hr
  go_enter Tryz.func93, Tryz.ntmps93
  go_wp2
  go_loopg [3] n (fun gg s3 wr => ∃ kk q : Nat, 1 ≤ kk ∧ (kk ≤ n ∨ kk = 1) ∧ n - kk ≤ gg ∧ s3 = .int .i64 kk ∧ wr = w.drewN q ∧ Aside (∀ j, 0 < j → j < kk → nth l (j - 1) < nth l j))
  case atStart => exact ⟨1, 0, Nat.le_refl _, .inr rfl, by omega, rfl, rfl, fun j hj hk => by omega⟩
  case round =>
    obtain ⟨kk, q, hk1, hkk, hg, rfl, rfl, AA⟩ := hrel
    by_cases hlt : kk < n
    · have hltz : (kk : Int) < (n : Int) := by omega
      obtain ⟨ad, rfl, hcell⟩ := hc kk hlt
      obtain ⟨ad', e, hcell2⟩ := hc (kk - 1) (by omega)
      cases e
      clear hc
      have HX : Hid (∀ x y, nth l kk = x → nth l (kk - 1) = y → x ≤ y → ¬ Inc l) := by
        rintro x y rfl rfl h
        exact not_inc (by omega) (by have := HL.out; omega) h
      generalize hx : nth l kk = x at hcell
      generalize hy : nth l (kk - 1) = y at hcell2
      have HY : Hid (nth l kk = x ∧ nth l (kk - 1) = y) := ⟨hx, hy⟩
      clear hx hy
      have e1 : IntKind.i64.wrap ((kk : Int) - 1) = (kk : Int) - 1 := IntWalk.i64_in _ (by omega)
      have e2 : (0 : Int) ≤ (kk : Int) - 1 := by omega
      have e3 : ((kk : Int) - 1).toNat = kk - 1 := by omega
      by_cases hxy : x ≤ y
      · go_wp2
        go_quiet (fail)
        clear e1 e2 e3
        go_wp2
        go_ret
        exact ⟨ret_bool (decide_eq_false (HX.out x y HY.out.1 HY.out.2 hxy)).symm, _, by first | rfl | simp [World.drewN_drewN]; rfl⟩
      · go_wp2
        go_quiet (fail)
        clear e1 e2 e3
        go_wp2
        go_roundg (n - (kk + 1))
        case measure => omega
        case rel =>
          refine ⟨kk + 1, _, by omega, by omega, by omega, by go_num, by first | rfl | simp [World.drewN_drewN]; rfl, (show Aside _ from fun j hj hjk => ?_)⟩
          rcases Nat.lt_or_ge j kk with h1 | h1
          · exact AA.out j hj h1
          · obtain rfl : j = kk := by omega
            rw [HY.out.1, HY.out.2]
            omega
    · have hltz : ¬ (kk : Int) < (n : Int) := by omega
      clear hc
      go_wp2
      go_ret
      exact ⟨ret_bool (decide_eq_true (inc_of_steps fun i h0 hi => AA.out i h0 (by have := HL.out; omega))).symm, q, rfl⟩

set_option maxHeartbeats 400000 in
theorem f106_any (A : Option Addr) (n c : Nat) (l : List Int) (N : Int) (w : World) (hr : RI w A n c l) :
    Calls Tryz.prog 106 #[.slice A n c, .int .i64 N] w fun e w' => e = .returned (.bool (decide (Verts l N))) ∧ ∃ q, w' = w.drewN q := by
  have hn := hr.lenle
  have hcall := f93_any A n c l w hr
  have HV := hid (verts_iff l N)
  have HL : Hid (l.length = n) := hr.len
  by_cases hi : Inc l
  · rw [decide_eq_true hi] at hcall
    have HI := hid hi
    clear hi
    rcases Nat.eq_zero_or_pos n with h0 | h0
    · subst h0
      clear hr
      go_enter Tryz.func106, Tryz.ntmps106
      go_wp2_with (go_at_call 93; refine hcall.mono ?_; rintro e w' ⟨rfl, q, rfl⟩)
      go_ret
      exact ⟨ret_bool (decide_eq_true (HV.out.2 ⟨HI.out, .inl HL.out⟩)).symm, q, rfl⟩
    · obtain ⟨ad, rfl, hcell⟩ := hr.cell 0 h0
      obtain ⟨ad', e, hcell2⟩ := hr.cell (n - 1) (by omega)
      cases e
      clear hr
      have hcell0 : w.cell? ad = some (.int .i64 (nth l 0)) := by simpa [Addr.add] using hcell
      have HX : Hid (∀ x y, nth l 0 = x → nth l (n - 1) = y → decide (Verts l N) = (decide (0 ≤ x) && decide (y < N))) := by
        rintro x y rfl rfl
        rw [← Bool.decide_and]
        refine decide_eq_decide.2 ?_
        rw [HV.out, HL.out]
        constructor
        · rintro ⟨_, h | h⟩
          · omega
          · exact h
        · exact fun h => ⟨HI.out, .inr h⟩
      generalize hx : nth l 0 = x at hcell hcell0
      generalize hy : nth l (n - 1) = y at hcell2
      have HY := hid (HX.out x y hx hy)
      clear hx hy HX
      go_enter Tryz.func106, Tryz.ntmps106
      go_wp2_with (go_at_call 93; refine hcall.mono ?_; rintro e w' ⟨rfl, q, rfl⟩)
      all_goals (go_ret; refine ⟨ret_bool ?_, _, rfl⟩; rw [HY.out, Bool.eq_iff_iff]; simp; omega)
  · rw [decide_eq_false hi] at hcall
    have HI := hid hi
    clear hi hr
    go_enter Tryz.func106, Tryz.ntmps106
    go_wp2_with (go_at_call 93; refine hcall.mono ?_; rintro e w' ⟨rfl, q, rfl⟩)
    go_ret
    exact ⟨ret_bool (decide_eq_false fun h => HI.out h.1).symm, q, rfl⟩


set_option maxHeartbeats 400000 in
/-- In: membership. -/
theorem f65_any (A : Option Addr) (n c : Nat) (l : List Int) (x : Int) (w : World) (hr : RI w A n c l) :
    Calls Tryz.prog 65 #[.slice A n c, .int .i64 x] w fun e w' => e = .returned (.bool (decide (x ∈ l))) ∧ w = w' := by
  have hn := hr.lenle
  have hc := hr.cell
  have HL : Hid (l.length = n) := hr.len
  clear hr
  go_enter Tryz.func65, Tryz.ntmps65
  go_wp2
  go_loopg [5] n (fun gg s5 wr => ∃ kk : Nat, kk ≤ n ∧ n - kk ≤ gg ∧ s5 = .int .i64 kk ∧ w = wr ∧ Aside (∀ j, j < kk → nth l j ≠ x))
  case atStart => exact ⟨0, Nat.zero_le _, by omega, rfl, rfl, fun j hj => absurd hj (Nat.not_lt_zero _)⟩
  case round =>
    obtain ⟨kk, hkk, hg, rfl, rfl, AA⟩ := hrel
    by_cases hlt : kk < n
    · have hltz : (kk : Int) < (n : Int) := by omega
      obtain ⟨ad, rfl, hcell⟩ := hc kk hlt
      clear hc
      have HM : Hid (nth l kk ∈ l) := nth_mem (by have := HL.out; omega)
      generalize hy : nth l kk = y at hcell HM
      have HY := hid hy
      clear hy
      by_cases hx : y = x
      · subst hx
        have d : (y == y) = true := by simp
        go_wp2
        go_ret
        exact ⟨ret_bool (decide_eq_true HM.out).symm, rfl⟩
      · have d : (y == x) = false := by simpa using hx
        have HX := hid hx
        clear hx
        go_wp2
        go_roundg (n - (kk + 1))
        case measure => omega
        case rel =>
          refine ⟨kk + 1, by omega, by omega, by go_num, rfl, (show Aside _ from fun j hj => ?_)⟩
          rcases Nat.lt_or_ge j kk with h1 | h1
          · exact AA.out j h1
          · obtain rfl : j = kk := by omega
            rw [HY.out]
            exact HX.out
    · have hltz : ¬ (kk : Int) < (n : Int) := by omega
      clear hc
      go_wp2
      go_ret
      refine ⟨ret_bool (decide_eq_false fun h => ?_).symm, rfl⟩
      obtain ⟨i, hi, e⟩ := mem_iff_nth.1 h
      exact AA.out i (by have := HL.out; omega) e

set_option maxHeartbeats 400000 in
/-- Few: at most most edges, of at most 10 elements. -/
theorem f125_any (A : Option Addr) (n c : Nat) (l : List (List Int)) (most : Nat) (w : World) (hr : RR w A n c l) :
    Calls Tryz.prog 125 #[.slice A n c, .int .i64 (most : Int)] w fun e w' => e = .returned (.bool ((l.all fun e => decide (e.length ≤ 10)) && decide (l.length ≤ most))) ∧ w = w' := by
  have hn := hr.lenle
  have hc := hr.cell
  have HL : Hid (l.length = n) := hr.len
  rw [hr.len]
  clear hr
  go_enter Tryz.func125, Tryz.ntmps125
  go_wp2
  go_loopg [5] n (fun gg s5 wr => ∃ kk : Nat, kk ≤ n ∧ n - kk ≤ gg ∧ s5 = .int .i64 kk ∧ w = wr ∧ Aside (∀ j, j < kk → (row l j).length ≤ 10))
  case atStart => exact ⟨0, Nat.zero_le _, by omega, rfl, rfl, fun j hj => absurd hj (Nat.not_lt_zero _)⟩
  case round =>
    obtain ⟨kk, hkk, hg, rfl, rfl, AA⟩ := hrel
    by_cases hlt : kk < n
    · have hltz : (kk : Int) < (n : Int) := by omega
      obtain ⟨ad, B, m, d, rfl, hcell, hri⟩ := hc kk hlt
      clear hc
      have HM : Hid ((row l kk).length = m) := hri.len
      have hmm := hri.lenle
      clear hri
      by_cases hx : 10 < m
      · have dd : decide ((m : Int) > 10) = true := decide_eq_true (by omega)
        go_wp2
        go_ret
        refine ⟨ret_bool ?_, rfl⟩
        rw [Bool.and_eq_false_imp.2 fun h => ?_]
        have := List.all_eq_true.1 h (row l kk) (row_mem (by have := HL.out; omega))
        have h2 := of_decide_eq_true this
        have := HM.out
        omega
      · have dd : decide ((m : Int) > 10) = false := decide_eq_false (by omega)
        go_wp2
        go_roundg (n - (kk + 1))
        case measure => omega
        case rel =>
          refine ⟨kk + 1, by omega, by omega, by go_num, rfl, (show Aside _ from fun j hj => ?_)⟩
          rcases Nat.lt_or_ge j kk with h1 | h1
          · exact AA.out j h1
          · obtain rfl : j = kk := by omega
            rw [HM.out]
            omega
    · have hltz : ¬ (kk : Int) < (n : Int) := by omega
      have hkn : kk = n := by omega
      subst hkn
      clear hc
      have HA : Hid ((l.all fun e => decide (e.length ≤ 10)) = true) := List.all_eq_true.2 fun e he => decide_eq_true (by
        obtain ⟨i, hi, e1⟩ := List.mem_iff_getElem.1 he
        have := AA.out i (by have := HL.out; omega)
        rw [row_eq hi, e1] at this
        exact this)
      by_cases hx : kk ≤ most
      · have dd : decide ((kk : Int) ≤ (most : Int)) = true := decide_eq_true (by omega)
        go_wp2
        go_ret
        refine ⟨ret_bool ?_, rfl⟩
        simp [HA.out, hx]
      · have dd : decide ((kk : Int) ≤ (most : Int)) = false := decide_eq_false (by omega)
        go_wp2
        go_ret
        refine ⟨ret_bool ?_, rfl⟩
        simp [HA.out, hx]
end Go.Proofs.YthjifmfmaiagoaaGreatDoor

/- The references' sizes: Small, Few, few; Formed. -/
namespace Go.Proofs.YthjifmfmaiagoaaGreatDoor
open Go.RowKit

def smallB (g : Graph) (n most : Nat) : Bool := decide (g.n ≤ (n : Int)) && decide (g.cost.length ≤ n) && ((g.edges.all fun e => decide (e.length ≤ 10)) && decide (g.edges.length ≤ most))
def fewB (ws : List Way) (sn steps : Nat) : Bool := (ws.all fun x => decide (x.pos.length ≤ 30) && decide (x.neg.length ≤ 30)) && decide (ws.length ≤ 30) && decide (sn ≤ steps)

set_option maxHeartbeats 400000 in
theorem f59_any (CA EA : Option Addr) (cn cc en ec n most : Nat) (g : Graph) (w : World) (hr : RG w CA cn cc EA en ec g) :
    Calls Tryz.prog 59 #[.agg #[.int .i64 g.n, .slice CA cn cc, .slice EA en ec], .int .i64 (n : Int), .int .i64 (most : Int)] w fun e w' => e = .returned (.bool (smallB g n most)) ∧ Ext w w' := by
  have hx0 : Ext w (w.alloc (.cells #[.int .i64 g.n, .slice CA cn cc, .slice EA en ec] 25)) := (by repeat' (first | exact Ext.refl _ | assumption | apply Ext.alloc | apply Ext.drewN | apply Ext.drew))
  have K := f125_any EA en ec g.edges most (w.alloc (.cells #[.int .i64 g.n, .slice CA cn cc, .slice EA en ec] 25)) (hr.edges.ext hx0)
  unfold smallB
  rw [hr.cost.len]
  have hcn := hr.cost.lenle
  clear hr
  generalize ((g.edges.all fun e => decide (e.length ≤ 10)) && decide (g.edges.length ≤ most)) = b at K ⊢
  obtain ⟨N, cost, edges⟩ := g
  simp only [] at *
  by_cases h1 : N ≤ (n : Int)
  · have d1 := decide_eq_true h1
    by_cases h2 : cn ≤ n
    · have d2 := decide_eq_true h2
      have d3 : decide ((cn : Int) ≤ (n : Int)) = true := decide_eq_true (by omega)
      rw [d1, d2]
      clear h1
      go_enter Tryz.func59, Tryz.ntmps59
      go_wp2_with (go_at_call 125; refine K.mono ?_; rintro e w1 ⟨rfl, rfl⟩)
      go_ret
      exact ⟨by simp, hx0⟩
    · have d2 := decide_eq_false h2
      have d3 : decide ((cn : Int) ≤ (n : Int)) = false := decide_eq_false (by omega)
      rw [d1, d2]
      clear h1 K
      go_enter Tryz.func59, Tryz.ntmps59
      go_wp2
      go_ret
      exact ⟨by simp, hx0⟩
  · have d1 := decide_eq_false h1
    rw [d1]
    clear h1 K
    go_enter Tryz.func59, Tryz.ntmps59
    go_wp2
    go_ret
    exact ⟨by simp, hx0⟩

set_option maxHeartbeats 800000 in
theorem f31_any (WA SA : Option Addr) (wn wc sn sc steps : Nat) (ws : List Way) (w : World) (hr : RW w WA wn wc ws) (hs : sn ≤ 9223372036854775807) :
    Calls Tryz.prog 31 #[.slice WA wn wc, .agg #[.slice SA sn sc], .int .i64 (steps : Int)] w fun e w' => e = .returned (.bool (fewB ws sn steps)) ∧ Ext w w' := by
  have hx0 : Ext w (w.alloc (.cells #[.slice SA sn sc] 36)) := (by repeat' (first | exact Ext.refl _ | assumption | apply Ext.alloc | apply Ext.drewN | apply Ext.drew))
  have hn := hr.lenle
  have hc := (hr.ext hx0).cell
  have HL : Hid (ws.length = wn) := hr.len
  have hc0 : (w.alloc (.cells #[.slice SA sn sc] 36)).cell? ⟨w.heap.size, 0, none⟩ = some (.slice SA sn sc) := by simp
  unfold fewB
  rw [hr.len]
  have HX := hid hx0
  clear hr
  go_enter Tryz.func31, Tryz.ntmps31
  go_wp2
  clear hx0
  generalize hw1 : (w.alloc (.cells #[.slice SA sn sc] 36)) = w1 at hc hc0 HX ⊢
  clear hw1
  go_loopg [7] wn (fun gg s7 wr => ∃ kk : Nat, kk ≤ wn ∧ wn - kk ≤ gg ∧ s7 = .int .i64 kk ∧ w1 = wr ∧ Aside (∀ j, j < kk → (way ws j).pos.length ≤ 30 ∧ (way ws j).neg.length ≤ 30))
  case atStart => exact ⟨0, Nat.zero_le _, by omega, rfl, rfl, fun j hj => absurd hj (Nat.not_lt_zero _)⟩
  case round =>
    obtain ⟨kk, hkk, hg, rfl, rfl, AA⟩ := hrel
    by_cases hlt : kk < wn
    · have hltz : (kk : Int) < (wn : Int) := by omega
      obtain ⟨ad, B, m, d, B', m', d', rfl, hcell, hcell', hri, hri'⟩ := hc kk hlt
      clear hc
      have HM : Hid ((way ws kk).pos.length = m ∧ (way ws kk).neg.length = m') := ⟨hri.len, hri'.len⟩
      have hmm := hri.lenle
      have hmm' := hri'.lenle
      clear hri hri'
      have HF : Hid (¬ (m ≤ 30 ∧ m' ≤ 30) → (ws.all fun x => decide (x.pos.length ≤ 30) && decide (x.neg.length ≤ 30)) = false) := fun h => by
        rw [← Bool.not_eq_true]
        intro h1
        have h2 := List.all_eq_true.1 h1 (way ws kk) (way_mem (by have := HL.out; omega))
        rw [Bool.and_eq_true, decide_eq_true_eq, decide_eq_true_eq, HM.out.1, HM.out.2] at h2
        exact h h2
      by_cases hx : 30 < m
      · have dd : decide ((m : Int) > 30) = true := decide_eq_true (by omega)
        go_wp2
        go_ret
        refine ⟨ret_bool ?_, HX.out⟩
        rw [HF.out (by omega)]
        rfl
      · have dd : decide ((m : Int) > 30) = false := decide_eq_false (by omega)
        by_cases hx' : 30 < m'
        · have dd' : decide ((m' : Int) > 30) = true := decide_eq_true (by omega)
          go_wp2
          go_ret
          refine ⟨ret_bool ?_, HX.out⟩
          rw [HF.out (by omega)]
          rfl
        · have dd' : decide ((m' : Int) > 30) = false := decide_eq_false (by omega)
          go_wp2
          go_roundg (wn - (kk + 1))
          case measure => omega
          case rel =>
            refine ⟨kk + 1, by omega, by omega, by go_num, rfl, (show Aside _ from fun j hj => ?_)⟩
            rcases Nat.lt_or_ge j kk with h1 | h1
            · exact AA.out j h1
            · obtain rfl : j = kk := by omega
              rw [HM.out.1, HM.out.2]
              omega
    · have hltz : ¬ (kk : Int) < (wn : Int) := by omega
      have hkn : kk = wn := by omega
      subst hkn
      clear hc
      have HA : Hid ((ws.all fun x => decide (x.pos.length ≤ 30) && decide (x.neg.length ≤ 30)) = true) := List.all_eq_true.2 fun e he => by
        obtain ⟨i, hi, e1⟩ := List.mem_iff_getElem.1 he
        have := AA.out i (by have := HL.out; omega)
        rw [way_eq hi, e1] at this
        rw [Bool.and_eq_true, decide_eq_true_eq, decide_eq_true_eq]
        exact this
      by_cases h1 : kk ≤ 30
      · have d1 : decide ((kk : Int) ≤ 30) = true := decide_eq_true (by omega)
        by_cases h2 : sn ≤ steps
        · have d2 : decide ((sn : Int) ≤ (steps : Int)) = true := decide_eq_true (by omega)
          go_wp2
          go_ret
          exact ⟨ret_bool (by simp [HA.out, h1, h2]), HX.out⟩
        · have d2 : decide ((sn : Int) ≤ (steps : Int)) = false := decide_eq_false (by omega)
          go_wp2
          go_ret
          exact ⟨ret_bool (by simp [HA.out, h1, h2]), HX.out⟩
      · have d1 : decide ((kk : Int) ≤ 30) = false := decide_eq_false (by omega)
        go_wp2
        go_ret
        exact ⟨ret_bool (by simp [HA.out, h1]), HX.out⟩

set_option maxHeartbeats 400000 in
/-- few of the laws on proofs. -/
theorem f30_any (CA EA WA SA : Option Addr) (cn cc en ec wn wc sn sc : Nat) (g : Graph) (ws : List Way) (w : World) (hr : RG w CA cn cc EA en ec g) (hw : RW w WA wn wc ws) (hs : sn ≤ 9223372036854775807) :
    Calls Tryz.prog 30 #[.agg #[.int .i64 g.n, .slice CA cn cc, .slice EA en ec], .slice WA wn wc, .agg #[.slice SA sn sc]] w fun e w' => e = .returned (.bool (smallB g 12 40 && fewB ws sn 200)) ∧ Ext w w' := by
  have K1 : Hid (∀ W, Ext w W → Calls Tryz.prog 59 #[.agg #[.int .i64 g.n, .slice CA cn cc, .slice EA en ec], .int .i64 12, .int .i64 40] W fun e w' => e = .returned (.bool (smallB g 12 40)) ∧ Ext W w') := fun W hW => f59_any CA EA cn cc en ec 12 40 g W (hr.ext hW)
  have K2 : Hid (∀ W, Ext w W → Calls Tryz.prog 31 #[.slice WA wn wc, .agg #[.slice SA sn sc], .int .i64 200] W fun e w' => e = .returned (.bool (fewB ws sn 200)) ∧ Ext W w') := fun W hW => f31_any WA SA wn wc sn sc 200 ws W (hw.ext hW) hs
  clear hr hw
  generalize smallB g 12 40 = b1 at K1 ⊢
  generalize fewB ws sn 200 = b2 at K2 ⊢
  cases b1 with
  | false =>
    go_enter Tryz.func30, Tryz.ntmps30
    go_wp2_with (go_at_call 59; refine (K1.out _ (by repeat' (first | exact Ext.refl _ | assumption | apply Ext.alloc | apply Ext.drewN | apply Ext.drew))).mono ?_; rintro e w1 ⟨rfl, hx1⟩)
    go_ret
    exact ⟨by simp, Ext.trans (by repeat' (first | exact Ext.refl _ | assumption | apply Ext.alloc | apply Ext.drewN | apply Ext.drew)) hx1⟩
  | true =>
    go_enter Tryz.func30, Tryz.ntmps30
    go_wp2_with (first
      | (go_at_call 59; refine (K1.out _ (by repeat' (first | exact Ext.refl _ | assumption | apply Ext.alloc | apply Ext.drewN | apply Ext.drew))).mono ?_; rintro e w1 ⟨rfl, hx1⟩; have hE : Ext w w1 := Ext.trans (by repeat' (first | exact Ext.refl _ | assumption | apply Ext.alloc | apply Ext.drewN | apply Ext.drew)) hx1; have hb1 : w1.cell? ⟨w.heap.size + 1, 0, none⟩ = some (.slice SA sn sc) := Ext.cell hx1 (by simp))
      | (go_at_call 31; refine (K2.out _ hE).mono ?_; rintro e w2 ⟨rfl, hx2⟩))
    go_ret
    exact ⟨by simp, hE.trans hx2⟩

def formedB' (n : Int) (w : Way) : Bool := decide (Verts w.pos n) && decide (Verts w.neg n)
set_option maxHeartbeats 400000 in
/-- Formed. -/
theorem f40_any (W : World) (N : Int) (x : Way) (B B' : Option Addr) (m d m' d' : Nat) (hr : RI W B m d x.pos) (hr' : RI W B' m' d' x.neg) :
    Calls Tryz.prog 40 #[.agg #[.slice B m d, .slice B' m' d'], .int .i64 N] W fun e w' => e = .returned (.bool (formedB' N x)) ∧ Ext W w' := by
  have HK1 : Hid (∀ W2, Ext W W2 → Calls Tryz.prog 106 #[.slice B m d, .int .i64 N] W2 fun e w' => e = .returned (.bool (decide (Verts x.pos N))) ∧ ∃ q, w' = W2.drewN q) := fun W2 hW => f106_any B m d _ N W2 (hr.ext hW)
  have HK2 : Hid (∀ W2, Ext W W2 → Calls Tryz.prog 106 #[.slice B' m' d', .int .i64 N] W2 fun e w' => e = .returned (.bool (decide (Verts x.neg N))) ∧ ∃ q, w' = W2.drewN q) := fun W2 hW => f106_any B' m' d' _ N W2 (hr'.ext hW)
  clear hr hr'
  unfold formedB'
  generalize decide (Verts x.pos N) = b1 at HK1 ⊢
  generalize decide (Verts x.neg N) = b2 at HK2 ⊢
  cases b1 with
  | false =>
    go_enter Tryz.func40, Tryz.ntmps40
    go_wp2_with (go_at_call 106; refine (HK1.out _ (by repeat' (first | exact Ext.refl _ | assumption | apply Ext.alloc | apply Ext.drewN | apply Ext.drew))).mono ?_; rintro e w1 ⟨rfl, q, rfl⟩)
    go_ret
    exact ⟨by simp, (by repeat' (first | exact Ext.refl _ | assumption | apply Ext.alloc | apply Ext.drewN | apply Ext.drew))⟩
  | true =>
    go_enter Tryz.func40, Tryz.ntmps40
    go_wp2_with (first
      | (go_at_call 106; (with_reducible refine (HK1.out _ (by repeat' (first | exact Ext.refl _ | assumption | apply Ext.alloc | apply Ext.drewN | apply Ext.drew))).mono ?_); rintro e w1 ⟨rfl, q, rfl⟩)
      | (go_at_call 106; (with_reducible refine (HK2.out _ (by repeat' (first | exact Ext.refl _ | assumption | apply Ext.alloc | apply Ext.drewN | apply Ext.drew))).mono ?_); rintro e w2 ⟨rfl, q2, rfl⟩))
    go_ret
    exact ⟨by simp, (by repeat' (first | exact Ext.refl _ | assumption | apply Ext.alloc | apply Ext.drewN | apply Ext.drew))⟩
end Go.Proofs.YthjifmfmaiagoaaGreatDoor

/- The references: Contains, Free, Holds, Some. -/
namespace Go.Proofs.YthjifmfmaiagoaaGreatDoor
open Go.RowKit

set_option maxHeartbeats 800000 in
/-- Contains. -/
theorem f94_any (A A' : Option Addr) (n c n' c' : Nat) (a b : List Int) (w : World) (hr : RI w A n c a) (hr' : RI w A' n' c' b) :
    Calls Tryz.prog 94 #[.slice A n c, .slice A' n' c'] w fun e w' => e = .returned (.bool (isSub b a)) ∧ ∃ q, w' = w.drewN q := by
  have hn := hr.lenle
  have hn' := hr'.lenle
  have hc := hr.cell
  have hc' := hr'.cell
  have HL : Hid (a.length = n ∧ b.length = n') := ⟨hr.len, hr'.len⟩
  clear hr hr'
  go_enter Tryz.func94, Tryz.ntmps94
  go_wp2
  go_loopg [5, 6] n (fun gg s5 s6 wr => ∃ kk ii q : Nat, kk ≤ n' ∧ ii ≤ n ∧ n - ii ≤ gg ∧ s5 = .int .i64 kk ∧ s6 = .int .i64 ii ∧ wr = w.drewN q ∧ Hid (isSub b a = isSub (b.drop kk) (a.drop ii)))
  case atStart => exact ⟨0, 0, 0, Nat.zero_le _, Nat.zero_le _, by omega, rfl, rfl, rfl, by rw [List.drop_zero, List.drop_zero]; exact hid rfl⟩
  case round =>
    obtain ⟨kk, ii, q, hkk, hii, hg, rfl, rfl, rfl, HS⟩ := hrel
    by_cases hlt : ii < n
    · have hltz : (ii : Int) < (n : Int) := by omega
      by_cases hlk : kk < n'
      · have hlkz : (kk : Int) < (n' : Int) := by omega
        obtain ⟨ad, rfl, hcell⟩ := hc ii hlt
        obtain ⟨ad', rfl, hcell'⟩ := hc' kk hlk
        clear hc hc'
        by_cases hx : nth a ii = nth b kk
        · have HX : Hid (isSub b a = isSub (b.drop (kk + 1)) (a.drop (ii + 1))) := by rw [HS.out]; exact isSub_eq (by have := HL.out.1; omega) (by have := HL.out.2; omega) hx
          clear HS
          have d : (nth a ii == nth b kk) = true := by simpa using hx
          clear hx
          generalize nth a ii = x at hcell d
          generalize nth b kk = y at hcell' d
          go_wp2
          go_quiet (fail)
          go_wp2
          go_roundg (n - (ii + 1))
          case measure => omega
          case rel => exact ⟨kk + 1, ii + 1, _, by omega, by omega, by omega, by go_num, by go_num, by first | rfl | simp [World.drewN_drewN]; rfl, HX⟩
        · have HX : Hid (isSub b a = isSub (b.drop kk) (a.drop (ii + 1))) := by rw [HS.out]; exact isSub_ne (by have := HL.out.1; omega) (by have := HL.out.2; omega) hx
          clear HS
          have d : (nth a ii == nth b kk) = false := by simpa using hx
          clear hx
          generalize nth a ii = x at hcell d
          generalize nth b kk = y at hcell' d
          go_wp2
          go_quiet (fail)
          go_wp2
          go_roundg (n - (ii + 1))
          case measure => omega
          case rel => exact ⟨kk, ii + 1, _, by omega, by omega, by omega, by go_num, by go_num, by first | rfl | simp [World.drewN_drewN]; rfl, HX⟩
      · have hlkz : ¬ (kk : Int) < (n' : Int) := by omega
        have hkn : kk = n' := by omega
        subst hkn
        clear hc hc'
        go_wp2
        go_ret
        refine ⟨ret_bool ?_, q, rfl⟩
        rw [HS.out, List.drop_of_length_le (by have := HL.out.2; omega), isSub_nil]
        first | done | simp
    · have hltz : ¬ (ii : Int) < (n : Int) := by omega
      have hin : ii = n := by omega
      subst hin
      clear hc hc'
      by_cases hlk : kk = n'
      · subst hlk
        have dd : ((kk : Int) == (kk : Int)) = true := by simp
        go_wp2
        go_ret
        refine ⟨ret_bool ?_, q, rfl⟩
        rw [HS.out, List.drop_of_length_le (l := b) (by have := HL.out.2; omega), isSub_nil]
      · have dd : ((kk : Int) == (n' : Int)) = false := by simpa using (show ¬ (kk : Int) = (n' : Int) by omega)
        have HK : Hid (isSub b a = false) := by
          rw [HS.out, List.drop_of_length_le (l := a) (by have := HL.out.1; omega), drop_cons (l := b) (by have := HL.out.2; omega)]
          rfl
        go_wp2
        go_ret
        exact ⟨ret_bool (by rw [HK.out]), q, rfl⟩

set_option maxHeartbeats 400000 in
/-- Free. -/
theorem f154_any (A A' : Option Addr) (n c n' c' : Nat) (es : List (List Int)) (l : List Int) (w : World) (hr : RR w A n c es) (hr' : RI w A' n' c' l) :
    Calls Tryz.prog 154 #[.slice A n c, .slice A' n' c'] w fun e w' => e = .returned (.bool (freeB' es l)) ∧ ∃ q, w' = w.drewN q := by
  have hn := hr.lenle
  have HR : Hid (RR w A n c es) := hr
  have HR' : Hid (RI w A' n' c' l) := hr'
  have hc := hr.cell
  have HL : Hid (es.length = n) := hr.len
  clear hr hr'
  go_enter Tryz.func154, Tryz.ntmps154
  go_wp2
  go_loopg [5] n (fun gg s5 wr => ∃ kk q : Nat, kk ≤ n ∧ n - kk ≤ gg ∧ s5 = .int .i64 kk ∧ wr = w.drewN q ∧ Aside (∀ j, j < kk → (decide (row es j = []) || !isSub (row es j) l) = true))
  case atStart => exact ⟨0, 0, Nat.zero_le _, by omega, rfl, rfl, fun j hj => absurd hj (Nat.not_lt_zero _)⟩
  case round =>
    obtain ⟨kk, q, hkk, hg, rfl, rfl, AA⟩ := hrel
    by_cases hlt : kk < n
    · have hltz : (kk : Int) < (n : Int) := by omega
      obtain ⟨ad, B, m, d, rfl, hcell, hri⟩ := hc kk hlt
      clear hc
      have HM : Hid ((row es kk).length = m) := hri.len
      have hmm := hri.lenle
      have HMem : Hid (row es kk ∈ es) := row_mem (by have := HL.out; omega)
      have K : Hid (Calls Tryz.prog 94 #[.slice A' n' c', .slice B m d] (w.drewN q) fun e w' => e = .returned (.bool (isSub (row es kk) l)) ∧ ∃ q', w' = (w.drewN q).drewN q') :=
        f94_any A' B n' c' m d l (row es kk) (w.drewN q) (HR'.out.ext (by repeat' (first | exact Ext.refl _ | assumption | apply Ext.alloc | apply Ext.drewN | apply Ext.drew))) (hri.ext (by repeat' (first | exact Ext.refl _ | assumption | apply Ext.alloc | apply Ext.drewN | apply Ext.drew)))
      clear hri
      rcases Nat.eq_zero_or_pos m with h0 | h0
      · subst h0
        clear K
        go_wp2
        go_roundg (n - (kk + 1))
        case measure => omega
        case rel =>
          refine ⟨kk + 1, q, by omega, by omega, by go_num, rfl, (show Aside _ from fun j hj => ?_)⟩
          rcases Nat.lt_or_ge j kk with h1 | h1
          · exact AA.out j h1
          · obtain rfl : j = kk := by omega
            rw [List.length_eq_zero_iff.1 HM.out]
            rfl
      · have dd : decide ((m : Int) > 0) = true := decide_eq_true (by omega)
        have hne : Hid (row es kk ≠ []) := fun e => by have := HM.out; rw [e] at this; simp at this; omega
        cases hb : isSub (row es kk) l with
        | true =>
          rw [hb] at K
          have HB := hid hb
          clear hb
          go_wp2_with (go_at_call 94; refine K.out.mono ?_; rintro e w1 ⟨rfl, q', rfl⟩)
          go_ret
          refine ⟨ret_bool ?_, _, by first | rfl | (simp [World.drewN_drewN]; rfl)⟩
          unfold freeB'
          refine (List.all_eq_false.2 ⟨row es kk, HMem.out, ?_⟩).symm
          rw [HB.out, decide_eq_false hne.out]
          simp
        | false =>
          rw [hb] at K
          have HB := hid hb
          clear hb
          go_wp2_with (go_at_call 94; refine K.out.mono ?_; rintro e w1 ⟨rfl, q', rfl⟩)
          go_roundg (n - (kk + 1))
          case measure => omega
          case rel =>
            refine ⟨kk + 1, _, by omega, by omega, by go_num, by first | rfl | simp [World.drewN_drewN]; rfl, (show Aside _ from fun j hj => ?_)⟩
            rcases Nat.lt_or_ge j kk with h1 | h1
            · exact AA.out j h1
            · obtain rfl : j = kk := by omega
              rw [HB.out]
              simp
    · have hltz : ¬ (kk : Int) < (n : Int) := by omega
      clear hc
      go_wp2
      go_ret
      refine ⟨ret_bool ?_, q, rfl⟩
      unfold freeB'
      refine (List.all_eq_true.2 fun e he => ?_).symm
      obtain ⟨i, hi, e1⟩ := List.mem_iff_getElem.1 he
      have := AA.out i (by have := HL.out; omega)
      rw [row_eq hi, e1] at this
      exact this
end Go.Proofs.YthjifmfmaiagoaaGreatDoor

/- The references: Holds, Some. -/
namespace Go.Proofs.YthjifmfmaiagoaaGreatDoor
open Go.RowKit

set_option maxHeartbeats 2000000 in
/-- Holds. -/
theorem f33_any (x : Way) (l : List Int) (B B' A : Option Addr) (m d m' d' n c : Nat) (w : World) (hr : RI w B m d x.pos) (hr' : RI w B' m' d' x.neg) (hl : RI w A n c l) :
    Calls Tryz.prog 33 #[.agg #[.slice B m d, .slice B' m' d'], .slice A n c] w fun e w' => e = .returned (.bool (decide (HoldsW x l))) ∧ Ext w w' := by
  have hx0 : Ext w (w.alloc (.cells #[.slice B m d, .slice B' m' d'] 43)) := (by repeat' (first | exact Ext.refl _ | assumption | apply Ext.alloc | apply Ext.drewN | apply Ext.drew))
  have K1 : Hid (∀ W, Ext w W → Calls Tryz.prog 93 #[.slice B m d] W fun e w' => e = .returned (.bool (decide (Inc x.pos))) ∧ ∃ q, w' = W.drewN q) := fun W hW => f93_any B m d _ W (hr.ext hW)
  have K2 : Hid (∀ W, Ext w W → Calls Tryz.prog 93 #[.slice B' m' d'] W fun e w' => e = .returned (.bool (decide (Inc x.neg))) ∧ ∃ q, w' = W.drewN q) := fun W hW => f93_any B' m' d' _ W (hr'.ext hW)
  have K3 : Hid (∀ W, Ext w W → Calls Tryz.prog 93 #[.slice A n c] W fun e w' => e = .returned (.bool (decide (Inc l))) ∧ ∃ q, w' = W.drewN q) := fun W hW => f93_any A n c _ W (hl.ext hW)
  have K4 : Hid (∀ W, Ext w W → Calls Tryz.prog 94 #[.slice A n c, .slice B m d] W fun e w' => e = .returned (.bool (isSub x.pos l)) ∧ ∃ q, w' = W.drewN q) := fun W hW => f94_any A B n c m d l x.pos W (hl.ext hW) (hr.ext hW)
  have K5 : Hid (∀ y W, Ext w W → Calls Tryz.prog 65 #[.slice A n c, .int .i64 y] W fun e w' => e = .returned (.bool (decide (y ∈ l))) ∧ W = w') := fun y W hW => f65_any A n c l y W (hl.ext hW)
  have hn := hr'.lenle
  have hc := hr'.cell
  have HL : Hid (x.neg.length = m') := hr'.len
  have HX := hid hx0
  by_cases h1 : Inc x.pos
  · by_cases h2 : Inc x.neg
    · by_cases h3 : Inc l
      · have HSub : Hid (isSub x.pos l = true ↔ ∀ v ∈ x.pos, v ∈ l) := isSub_iff h3 h1
        have HI : Hid (Inc x.pos ∧ Inc x.neg ∧ Inc l) := ⟨h1, h2, h3⟩
        rw [decide_eq_true h1] at K1
        rw [decide_eq_true h2] at K2
        rw [decide_eq_true h3] at K3
        clear h1 h2 h3 hr hr' hl
        cases h4 : isSub x.pos l with
        | true =>
          rw [h4] at K4
          have H4 : Hid (∀ v ∈ x.pos, v ∈ l) := HSub.out.1 h4
          clear h4 HSub
          go_enter Tryz.func33, Tryz.ntmps33
          go_wp2_with (first
      | (go_at_call 93; (with_reducible refine (K1.out _ (by repeat' (first | exact Ext.refl _ | assumption | apply Ext.alloc | apply Ext.drewN | apply Ext.drew))).mono ?_); rintro e w1 ⟨rfl, q1, rfl⟩)
      | (go_at_call 93; (with_reducible refine (K2.out _ (by repeat' (first | exact Ext.refl _ | assumption | apply Ext.alloc | apply Ext.drewN | apply Ext.drew))).mono ?_); rintro e w2 ⟨rfl, q2, rfl⟩)
      | (go_at_call 93; (with_reducible refine (K3.out _ (by repeat' (first | exact Ext.refl _ | assumption | apply Ext.alloc | apply Ext.drewN | apply Ext.drew))).mono ?_); rintro e w3 ⟨rfl, q3, rfl⟩)
            | (go_at_call 94; (with_reducible refine (K4.out _ (by repeat' (first | exact Ext.refl _ | assumption | apply Ext.alloc | apply Ext.drewN | apply Ext.drew))).mono ?_); rintro e w4 ⟨rfl, q4, rfl⟩))
          have HE : Hid (Ext w ((w.alloc (.cells #[.slice B m d, .slice B' m' d'] 43)).drewN (q1 + q2 + q3 + q4))) := (by repeat' (first | exact Ext.refl _ | assumption | apply Ext.alloc | apply Ext.drewN | apply Ext.drew))
          have cw : ((w.alloc (.cells #[.slice B m d, .slice B' m' d'] 43)).drewN (q1 + q2 + q3 + q4)).cell? ⟨w.heap.size, 1, none⟩ = some (.slice B' m' d') := by simp
          have hcx : ∀ i, i < m' → ∃ ad, B' = some ad ∧ ((w.alloc (.cells #[.slice B m d, .slice B' m' d'] 43)).drewN (q1 + q2 + q3 + q4)).cell? (ad.add i) = some (.int .i64 (nth x.neg i)) := fun i hi => by
            obtain ⟨ad, h1, h2⟩ := hc i hi
            exact ⟨ad, h1, Ext.cell (by repeat' (first | exact Ext.refl _ | assumption | apply Ext.alloc | apply Ext.drewN | apply Ext.drew)) h2⟩
          generalize (w.alloc (.cells #[.slice B m d, .slice B' m' d'] 43)).drewN (q1 + q2 + q3 + q4) = w1 at HE cw hcx ⊢
          clear hc hx0 K1 K2 K3 K4
          go_loopg [5] m' (fun gg s5 wr => ∃ kk : Nat, kk ≤ m' ∧ m' - kk ≤ gg ∧ s5 = .int .i64 kk ∧ w1 = wr ∧ Aside (∀ j, j < kk → nth x.neg j ∉ l))
          case atStart => exact ⟨0, Nat.zero_le _, by omega, rfl, rfl, fun j hj => absurd hj (Nat.not_lt_zero _)⟩
          case round =>
            obtain ⟨kk, hkk, hg, rfl, rfl, AA⟩ := hrel
            by_cases hlt : kk < m'
            · have hltz : (kk : Int) < (m' : Int) := by omega
              obtain ⟨ad, rfl, hcell⟩ := hcx kk hlt
              clear hcx
              have HM : Hid (nth x.neg kk ∈ x.neg) := nth_mem (by have := HL.out; omega)
              generalize hy : nth x.neg kk = y at hcell HM
              have HY := hid hy
              clear hy
              by_cases hx : y ∈ l
              · have K := K5.out y w1 HE.out
                rw [decide_eq_true hx] at K
                have HB := hid hx
                clear hx
                go_wp2_with (go_at_call 65; refine K.mono ?_; rintro e w2 ⟨rfl, rfl⟩)
                go_ret
                exact ⟨ret_bool (decide_eq_false fun h => h.2.2.2.2 y HM.out HB.out).symm, HE.out⟩
              · have K := K5.out y w1 HE.out
                rw [decide_eq_false hx] at K
                have HB := hid hx
                clear hx
                go_wp2_with (go_at_call 65; refine K.mono ?_; rintro e w2 ⟨rfl, rfl⟩)
                go_roundg (m' - (kk + 1))
                case measure => omega
                case rel =>
                  refine ⟨kk + 1, by omega, by omega, by go_num, rfl, (show Aside _ from fun j hj => ?_)⟩
                  rcases Nat.lt_or_ge j kk with h1 | h1
                  · exact AA.out j h1
                  · obtain rfl : j = kk := by omega
                    rw [HY.out]
                    exact HB.out
            · have hltz : ¬ (kk : Int) < (m' : Int) := by omega
              clear hcx
              go_wp2
              go_ret
              refine ⟨ret_bool (decide_eq_true ⟨HI.out.1, HI.out.2.1, HI.out.2.2, H4.out, fun v hv hvl => ?_⟩).symm, HE.out⟩
              obtain ⟨i, hi, e⟩ := mem_iff_nth.1 hv
              exact AA.out i (by have := HL.out; omega) (e ▸ hvl)
        | false =>
          rw [h4] at K4
          have H4 : Hid (¬ ∀ v ∈ x.pos, v ∈ l) := fun h => by have := HSub.out.2 h; rw [h4] at this; simp at this
          clear h4 HSub
          go_enter Tryz.func33, Tryz.ntmps33
          go_wp2_with (first
      | (go_at_call 93; (with_reducible refine (K1.out _ (by repeat' (first | exact Ext.refl _ | assumption | apply Ext.alloc | apply Ext.drewN | apply Ext.drew))).mono ?_); rintro e w1 ⟨rfl, q1, rfl⟩)
      | (go_at_call 93; (with_reducible refine (K2.out _ (by repeat' (first | exact Ext.refl _ | assumption | apply Ext.alloc | apply Ext.drewN | apply Ext.drew))).mono ?_); rintro e w2 ⟨rfl, q2, rfl⟩)
      | (go_at_call 93; (with_reducible refine (K3.out _ (by repeat' (first | exact Ext.refl _ | assumption | apply Ext.alloc | apply Ext.drewN | apply Ext.drew))).mono ?_); rintro e w3 ⟨rfl, q3, rfl⟩)
            | (go_at_call 94; (with_reducible refine (K4.out _ (by repeat' (first | exact Ext.refl _ | assumption | apply Ext.alloc | apply Ext.drewN | apply Ext.drew))).mono ?_); rintro e w4 ⟨rfl, q4, rfl⟩))
          go_ret
          exact ⟨ret_bool (decide_eq_false fun h => H4.out h.2.2.2.1).symm, (by repeat' (first | exact Ext.refl _ | assumption | apply Ext.alloc | apply Ext.drewN | apply Ext.drew))⟩
      · have H3 := hid h3
        rw [decide_eq_true h1] at K1
        rw [decide_eq_true h2] at K2
        rw [decide_eq_false h3] at K3
        clear h1 h2 h3 hr hr' hl
        go_enter Tryz.func33, Tryz.ntmps33
        go_wp2_with (first
      | (go_at_call 93; (with_reducible refine (K1.out _ (by repeat' (first | exact Ext.refl _ | assumption | apply Ext.alloc | apply Ext.drewN | apply Ext.drew))).mono ?_); rintro e w1 ⟨rfl, q1, rfl⟩)
      | (go_at_call 93; (with_reducible refine (K2.out _ (by repeat' (first | exact Ext.refl _ | assumption | apply Ext.alloc | apply Ext.drewN | apply Ext.drew))).mono ?_); rintro e w2 ⟨rfl, q2, rfl⟩)
      | (go_at_call 93; (with_reducible refine (K3.out _ (by repeat' (first | exact Ext.refl _ | assumption | apply Ext.alloc | apply Ext.drewN | apply Ext.drew))).mono ?_); rintro e w3 ⟨rfl, q3, rfl⟩))
        go_ret
        exact ⟨ret_bool (decide_eq_false fun h => H3.out h.2.2.1).symm, (by repeat' (first | exact Ext.refl _ | assumption | apply Ext.alloc | apply Ext.drewN | apply Ext.drew))⟩
    · have H2 := hid h2
      rw [decide_eq_true h1] at K1
      rw [decide_eq_false h2] at K2
      clear h1 h2 hr hr' hl
      go_enter Tryz.func33, Tryz.ntmps33
      go_wp2_with (first
      | (go_at_call 93; (with_reducible refine (K1.out _ (by repeat' (first | exact Ext.refl _ | assumption | apply Ext.alloc | apply Ext.drewN | apply Ext.drew))).mono ?_); rintro e w1 ⟨rfl, q1, rfl⟩)
      | (go_at_call 93; (with_reducible refine (K2.out _ (by repeat' (first | exact Ext.refl _ | assumption | apply Ext.alloc | apply Ext.drewN | apply Ext.drew))).mono ?_); rintro e w2 ⟨rfl, q2, rfl⟩))
      go_ret
      exact ⟨ret_bool (decide_eq_false fun h => H2.out h.2.1).symm, (by repeat' (first | exact Ext.refl _ | assumption | apply Ext.alloc | apply Ext.drewN | apply Ext.drew))⟩
  · have H1 := hid h1
    rw [decide_eq_false h1] at K1
    clear h1 hr hr' hl
    go_enter Tryz.func33, Tryz.ntmps33
    go_wp2_with (first
      | (go_at_call 93; (with_reducible refine (K1.out _ (by repeat' (first | exact Ext.refl _ | assumption | apply Ext.alloc | apply Ext.drewN | apply Ext.drew))).mono ?_); rintro e w1 ⟨rfl, q1, rfl⟩))
    go_ret
    exact ⟨ret_bool (decide_eq_false fun h => H1.out h.1).symm, (by repeat' (first | exact Ext.refl _ | assumption | apply Ext.alloc | apply Ext.drewN | apply Ext.drew))⟩

set_option maxHeartbeats 400000 in
/-- Some. -/
theorem f41_any (ws : List Way) (l : List Int) (WA A : Option Addr) (wn wc n c : Nat) (w : World) (hw : RW w WA wn wc ws) (hl : RI w A n c l) :
    Calls Tryz.prog 41 #[.slice WA wn wc, .slice A n c] w fun e w' => e = .returned (.bool (holdsAny ws l)) ∧ Ext w w' := by
  have hn := hw.lenle
  have HW : Hid (RW w WA wn wc ws) := hw
  have HL : Hid (ws.length = wn) := hw.len
  have HLi := hid hl
  clear hw hl
  go_enter Tryz.func41, Tryz.ntmps41
  go_wp2
  go_loopg [5] wn (fun gg s5 wr => ∃ kk : Nat, kk ≤ wn ∧ wn - kk ≤ gg ∧ s5 = .int .i64 kk ∧ Hid (Ext w wr) ∧ Aside (∀ j, j < kk → ¬ HoldsW (way ws j) l))
  case atStart => exact ⟨0, Nat.zero_le _, by omega, rfl, hid (Ext.refl _), fun j hj => absurd hj (Nat.not_lt_zero _)⟩
  case round =>
    obtain ⟨kk, hkk, hg, rfl, HE, AA⟩ := hrel
    by_cases hlt : kk < wn
    · have hltz : (kk : Int) < (wn : Int) := by omega
      obtain ⟨ad, B, m, d, B', m', d', hA, hcell, hcell', hri, hri'⟩ := (HW.out.ext HE.out).cell kk hlt
      have HM : Hid (way ws kk ∈ ws) := way_mem (by have := HL.out; omega)
      have K := f33_any (way ws kk) l B B' A m d m' d' n c wr hri hri' (HLi.out.ext HE.out)
      subst hA
      clear hri hri'
      by_cases hx : HoldsW (way ws kk) l
      · rw [decide_eq_true hx] at K
        have HB := hid hx
        clear hx
        go_wp2_with (go_at_call 33; refine K.mono ?_; rintro e w2 ⟨rfl, hx2⟩)
        go_ret
        exact ⟨ret_bool (List.any_eq_true.2 ⟨_, HM.out, decide_eq_true HB.out⟩).symm, HE.out.trans hx2⟩
      · rw [decide_eq_false hx] at K
        have HB := hid hx
        clear hx
        go_wp2_with (go_at_call 33; refine K.mono ?_; rintro e w2 ⟨rfl, hx2⟩)
        go_roundg (wn - (kk + 1))
        case measure => omega
        case rel =>
          refine ⟨kk + 1, by omega, by omega, by go_num, HE.out.trans hx2, (show Aside _ from fun j hj => ?_)⟩
          rcases Nat.lt_or_ge j kk with h1 | h1
          · exact AA.out j h1
          · obtain rfl : j = kk := by omega
            exact HB.out
    · have hltz : ¬ (kk : Int) < (wn : Int) := by omega
      go_wp2
      go_ret
      refine ⟨ret_bool (List.any_eq_false.2 fun e he h => ?_).symm, HE.out⟩
      obtain ⟨i, hi, e1⟩ := List.mem_iff_getElem.1 he
      have := AA.out i (by have := HL.out; omega)
      rw [way_eq hi, e1] at this
      exact this (of_decide_eq_true h)
end Go.Proofs.YthjifmfmaiagoaaGreatDoor

/- append(v, x...), v a row of the call's own, x any slice: as a law for the walk and for a region that draws. -/
namespace Go.Proofs.YthjifmfmaiagoaaGreatDoor
open Go.RowKit

/-- What is appended: a slice of m elements, nil or not, whose cells are known. -/
structure AppSrc (W : World) (size : Nat) (A : Option Addr) (m c : Nat) (news : List Value) : Prop where
  nil : A = none → m = 0 ∧ c = 0
  len : news.length = m * size
  cell : ∀ ad, A = some ad → ∀ j u, news[j]? = some u → W.cell? (ad.add j) = some u
  one : ∀ u ∈ news, u.oneCell' = true
/-- What append leaves. -/
def AppPost (B : Nat) (e : TypeId) (size n m : Nat) (v : Value) (xs news : List Value) (W : World) (v1 : Value) (w1 : World) : Prop :=
  w1.ownsRow B e size v1 (n + m) (xs ++ news) ∧ W.grownBy w1 v.ownBlock ∧ (v1.ownBlock = v.ownBlock ∨ ∃ b, v1.ownBlock = some b ∧ W.heap.size ≤ b)
theorem run_app {W : World} (B : Nat) (t ty e : TypeId) (z : Value) (size bytes : Nat) (ht : Tryz.prog.underlying t = some (.slice e)) (hinfo : (Tryz.prog.info? e).map (fun i => (i.zero, i.size, i.bytes)) = some (some z, size, bytes))
    (hz : z.cells.size = size) (hs0 : 0 < size) (hb0 : 0 < bytes) (v : Value) (n : Nat) (xs : List Value) (A : Option Addr) (m c : Nat) (news : List Value) (S : AppSrc W size A m c news)
    (HO : W.ownsRow B e size v n xs) (hB : B ≤ W.heap.size) (hl : (n + m) * bytes ≤ 140737488355328) :
    ∃ v1 w1, (Builtin.append_ #[t, t] ty #[v, .slice A m c]).run Tryz.prog W = .ok v1 w1 ∧ AppPost B e size n m v xs news W v1 w1 := by
  obtain ⟨i0, hi, hzz⟩ := Option.map_eq_some_iff.1 hinfo
  simp only [Prod.mk.injEq] at hzz
  obtain ⟨hz0, hz1, hz2⟩ := hzz
  have hlen : n + m ≤ 140737488355328 := Nat.le_trans (Nat.le_mul_of_pos_right _ hb0) hl
  cases A with
  | none =>
    obtain ⟨rfl, rfl⟩ := S.nil rfl
    have hnews : news = [] := List.length_eq_zero_iff.1 (by rw [S.len]; simp)
    subst hnews
    refine ⟨v, W, run_append_owned_none (P := Tryz.prog) (w := W) B t ty e i0 size ht hi v n xs HO, by simpa using HO, ⟨rfl, rfl, rfl, Nat.le_refl _, fun _ _ _ => rfl⟩, .inl rfl⟩
  | some ad =>
    obtain ⟨v', w', hr, h2, h3, _, h5⟩ := run_append_own_at (P := Tryz.prog) W B t ty e i0 z size bytes ht hi hz0 hz1 hz2 hz hs0 v n xs HO ad m c news S.len (S.cell ad rfl) S.one (by simp only [maxLen]; omega) hl hB
    exact ⟨v', w', hr, h2, h3, h5.imp id fun h => ⟨_, h, Nat.le_refl _⟩⟩
/-- As a law at one operation. -/
theorem wpApp {o : Oper} {a : Act} {K : Act → World → Prop} {Q : Exit → Act → World → Prop} {W : World} (B : Nat) (s x : Operand) (t e : TypeId) (z : Value) (size bytes : Nat)
    (ho : o.op = .call { callee := .builtin .append, args := #[s, x], argTypes := #[t, t] })
    (ht : Tryz.prog.underlying t = some (.slice e)) (hinfo : (Tryz.prog.info? e).map (fun i => (i.zero, i.size, i.bytes)) = some (some z, size, bytes)) (hz : z.cells.size = size) (hs0 : 0 < size) (hb0 : 0 < bytes)
    (v : Value) (n : Nat) (xs : List Value) (A : Option Addr) (m c : Nat) (news : List Value) (hs : a.eval s = v) (hx : a.eval x = .slice A m c) (S : AppSrc W size A m c news)
    (HO : W.ownsRow B e size v n xs) (hB : B ≤ W.heap.size) (hl : (n + m) * bytes ≤ 140737488355328)
    (h : ∀ v1 w1, AppPost B e size n m v xs news W v1 w1 → K (a.put o.dst v1) w1) : o.wp Tryz.prog a W K Q := by
  obtain ⟨v1, w1, hr, hp⟩ := run_app B t o.type e z size bytes ht hinfo hz hs0 hb0 v n xs A m c news S HO hB hl
  unfold Oper.wp execOp
  simp only [ho, resolve, invoke, builtin, Sem.run_bind, Sem.run_pure, Result.andThen_ok, List.map_toArray, List.map_cons, List.map_nil, hs, hx, hr]
  exact h v1 w1 hp
theorem appN {ops : Array Oper} {rest : List Oper} {o : Oper} {a : Act} {Q : Exit → Act → World → Prop} {W : World} (B : Nat) (hgd : o.guard = none) (s x : Operand) (t e : TypeId) (z : Value) (size bytes : Nat)
    (ho : o.op = .call { callee := .builtin .append, args := #[s, x], argTypes := #[t, t] })
    (ht : Tryz.prog.underlying t = some (.slice e)) (hinfo : (Tryz.prog.info? e).map (fun i => (i.zero, i.size, i.bytes)) = some (some z, size, bytes)) (hz : z.cells.size = size) (hs0 : 0 < size) (hb0 : 0 < bytes)
    (v : Value) (n : Nat) (xs : List Value) (A : Option Addr) (m c : Nat) (news : List Value) (hs : a.eval s = v) (hx : a.eval x = .slice A m c) (S : AppSrc W size A m c news)
    (HO : W.ownsRow B e size v n xs) (hB : B ≤ W.heap.size) (hl : (n + m) * bytes ≤ 140737488355328)
    (h : ∀ v1 w1, AppPost B e size n m v xs news W v1 w1 → wpList Tryz.prog ops Q rest (a.put o.dst v1) w1) : wpList Tryz.prog ops Q (o :: rest) a W :=
  wpList_plain hgd fun _ hK => wpApp B s x t e z size bytes ho ht hinfo hz hs0 hb0 v n xs A m c news hs hx S HO hB hl fun v1 w1 hp => hK _ _ (h v1 w1 hp)
def intVs' (l : List Int) : List Value := l.map (Value.int .i64)
theorem intVs'_one (l : List Int) : ∀ u ∈ intVs' l, u.oneCell' = true := fun u hu => by
  obtain ⟨x, _, rfl⟩ := List.mem_map.1 hu
  rfl
/-- A list of numbers as what is appended. -/
theorem RI.src {W : World} {A : Option Addr} {n c : Nat} {l : List Int} (h : RI W A n c l) (hA : A = none → c = 0) : AppSrc W 1 A n c (intVs' l) :=
  ⟨fun e => ⟨by have := hA e; have := h.cap; omega, hA e⟩, by unfold intVs'; rw [List.length_map, h.len, Nat.mul_one], fun ad ha j u hu => by
    unfold intVs' at hu
    rw [List.getElem?_map] at hu
    obtain ⟨y, hy, rfl⟩ := Option.map_eq_some_iff.1 hu
    obtain ⟨hj, rfl⟩ := List.getElem?_eq_some_iff.1 hy
    obtain ⟨ad', e, hc⟩ := h.cell j (by rw [← h.len]; exact hj)
    rw [ha] at e
    cases e
    rw [hc, nth_eq hj], intVs'_one l⟩
/-- What an own row of numbers reads as. -/
theorem own_RIn {W : World} {B n : Nat} {v : Value} {l : List Int} (h : W.ownsRow B 3 1 v n (intVs' l)) : ∃ A c, v = .slice A n c ∧ RI W A n c l ∧ (A = none → c = 0) := by
  have hl : l.length = n := by have := h.1; unfold intVs' at this; rw [List.length_map] at this; omega
  rcases h.2 with ⟨rfl, rfl⟩ | ⟨g, cap, cur, rfl, h1, h2, h3, h4, h5, h6⟩
  · exact ⟨none, 0, rfl, by rw [List.length_eq_zero_iff.1 hl]; exact RI.nil W, fun _ => rfl⟩
  · refine ⟨_, _, rfl, ⟨hl, h3, by simp only [maxLen] at h4; omega, fun i hi => ⟨_, rfl, ?_⟩⟩, fun e => by cases e⟩
    exact h.cells (g := g) rfl i (.int .i64 (nth l i)) (by
      unfold intVs'
      rw [List.getElem?_map, List.getElem?_eq_getElem (by omega), nth_eq (by omega)]
      rfl)
theorem own_lt {w : World} {B : Nat} {e : TypeId} {size : Nat} {v : Value} {n : Nat} {xs : List Value} (h : w.ownsRow B e size v n xs) {b : Nat} (hb : v.ownBlock = some b) : b < w.heap.size ∧ B ≤ b := by
  rcases h.2 with ⟨rfl, _⟩ | ⟨g, cap, cur, rfl, h1, h2, _⟩
  · cases hb
  · cases hb
    refine ⟨?_, h1⟩
    rcases Nat.lt_or_ge g w.heap.size with h3 | h3
    · exact h3
    · rw [Array.getElem?_eq_none h3] at h2
      cases h2
theorem own_keep {w w' : World} {B : Nat} {e : TypeId} {size : Nat} {v : Value} {n : Nat} {xs : List Value} (h : w.ownsRow B e size v n xs) (hk : ∀ b, v.ownBlock = some b → w'.heap[b]? = w.heap[b]?) : w'.ownsRow B e size v n xs :=
  ⟨h.1, h.2.imp id fun ⟨g, cap, cur, h1, h2, h3, h4⟩ => ⟨g, cap, cur, h1, h2, (hk g (by rw [h1]; rfl)).trans h3, h4⟩⟩

theorem own_drewN {w : World} {B : Nat} {e : TypeId} {size : Nat} {v : Value} {n : Nat} {xs : List Value} (h : w.ownsRow B e size v n xs) (q : Nat) : (w.drewN q).ownsRow B e size v n xs := own_keep h fun _ _ => by simp
theorem own_alloc {w : World} {B : Nat} {e : TypeId} {size : Nat} {v : Value} {n : Nat} {xs : List Value} (h : w.ownsRow B e size v n xs) (o : Obj) : (w.alloc o).ownsRow B e size v n xs := h.alloc o
/-- v[:k] -/
theorem run_slice_to (t e : TypeId) (size : Nat) (ht : Tryz.prog.underlying t = some (.slice e)) (A : Option Addr) (n c k : Nat) (hk : k ≤ c) (w : World) (hs : (sizeOf e).run Tryz.prog w = .ok size w) :
    (Instr.slice t (.slice A n c) none (some (.int .i64 (k : Int))) none).run Tryz.prog w = .ok (.slice A k c) w := by
  have h1 : (0 : Int) ≤ (k : Int) ∧ (k : Int) ≤ (c : Int) := ⟨by omega, by omega⟩
  cases A with
  | none => simp [Instr.slice, run_underlying ht, Instr.sliceBounds, Instr.sliceBound, asIntOf, h1, hs, hk]
  | some ad => simp [Instr.slice, run_underlying ht, Instr.sliceBounds, Instr.sliceBound, asIntOf, h1, hs, hk, Addr.add]
/-- v[k:] -/
theorem run_slice_from (t e : TypeId) (size : Nat) (ht : Tryz.prog.underlying t = some (.slice e)) (A : Option Addr) (n c k : Nat) (hk : k ≤ n) (hc : n ≤ c) (w : World) (hs : (sizeOf e).run Tryz.prog w = .ok size w) :
    (Instr.slice t (.slice A n c) (some (.int .i64 (k : Int))) none none).run Tryz.prog w = .ok (.slice (if c = k then A else A.map fun a => a.add (k * size)) (n - k) (c - k)) w := by
  have h1 : (0 : Int) ≤ (k : Int) ∧ (k : Int) ≤ (n : Int) := ⟨by omega, by omega⟩
  simp [Instr.slice, run_underlying ht, Instr.sliceBounds, Instr.sliceBound, asIntOf, h1, hs, hk]
theorem size3 (w : World) : (sizeOf 3).run Tryz.prog w = .ok 1 w := by kernel_rfl
theorem RI.take {w : World} {A : Option Addr} {n c : Nat} {l : List Int} (h : RI w A n c l) {k : Nat} (hk : k ≤ n) : RI w A k c (l.take k) :=
  ⟨by rw [List.length_take, h.len]; omega, Nat.le_trans hk h.cap, h.big, fun i hi => by
    obtain ⟨ad, ha, hc⟩ := h.cell i (by omega)
    refine ⟨ad, ha, ?_⟩
    rw [hc]
    unfold nth
    rw [List.getD_eq_getElem?_getD, List.getD_eq_getElem?_getD, List.getElem?_take, if_pos hi]⟩
theorem RI.from {w : World} {A : Option Addr} {n c : Nat} {l : List Int} (h : RI w A n c l) {k : Nat} (hk : k ≤ n) : RI w (if c = k then A else A.map fun a => a.add (k * 1)) (n - k) (c - k) (l.drop k) :=
  ⟨by rw [List.length_drop, h.len], by have := h.cap; omega, by have := h.big; omega, fun i hi => by
    obtain ⟨ad, ha, hc⟩ := h.cell (k + i) (by omega)
    refine ⟨ad.add k, ?_, ?_⟩
    · rw [if_neg (by have := h.cap; omega), ha, Nat.mul_one]
      rfl
    · rw [nth_drop, ← hc]
      congr 1
      unfold Addr.add
      split
      · rename_i h0
        subst h0
        rw [Nat.add_zero]
      · split
        · rename_i h0 h1
          subst h1
          rw [if_neg (by omega)]
          simp
        · rw [if_neg (by omega)]
          simp [Nat.add_assoc]⟩
end Go.Proofs.YthjifmfmaiagoaaGreatDoor

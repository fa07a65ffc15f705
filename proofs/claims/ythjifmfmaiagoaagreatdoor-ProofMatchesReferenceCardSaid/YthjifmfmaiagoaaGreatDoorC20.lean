/- C20: texts R12. -/
import Derived.Deep.RegionHeld3
import Derived.Test.YthjifmfmaiagoaaGreatDoorC11
import Derived.Test.YthjifmfmaiagoaaGreatDoorC18
set_option linter.all false

/- The references: Repair. -/
namespace Go.Proofs.YthjifmfmaiagoaaGreatDoor
open Go.RowKit
attribute [local go_sem] Oper.semAt_some

theorem free_eq {E : List (List Int)} {R : List Int} (hv : ∀ e ∈ E, e ≠ [] ∧ Inc e) (hR : Inc R) : freeB' E R = E.all fun e => e.any fun u => decide (u ∉ R) := by
  unfold freeB'
  rw [Bool.eq_iff_iff, List.all_eq_true, List.all_eq_true]
  refine forall_congr' fun e => forall_congr' fun he => ?_
  rw [decide_eq_false (hv e he).1, Bool.false_or, Bool.not_eq_true', ← Bool.not_eq_true, isSub_iff hR (hv e he).2, List.any_eq_true]
  constructor
  · intro h
    rcases Classical.not_forall.1 h with ⟨u, hu⟩
    rcases Classical.not_imp.1 hu with ⟨h1, h2⟩
    exact ⟨u, h1, decide_eq_true h2⟩
  · rintro ⟨u, h1, h2⟩ h
    exact of_decide_eq_true h2 (h u h1)
theorem free_more {E : List (List Int)} {R s : List Int} {v : Int} (hv : ∀ e ∈ E, e ≠ [] ∧ Inc e) (hs : Inc s) (hm : ∀ x, x ∈ s ↔ x ∈ R ∨ x = v) (hf : (E.all fun e => e.any fun u => decide (u ∉ R)) = true) :
    freeB' E s = !E.any fun e => decide (v ∈ e) && e.all fun u => decide (u = v) || decide (u ∈ R) := by
  rw [free_eq hv hs, Bool.eq_iff_iff, List.all_eq_true, Bool.not_eq_true', List.any_eq_false]
  refine forall_congr' fun e => forall_congr' fun he => ?_
  have h1 := List.all_eq_true.1 hf e he
  obtain ⟨u0, hu0, hn0⟩ := List.any_eq_true.1 h1
  have hn0 := of_decide_eq_true hn0
  rw [List.any_eq_true]
  constructor
  · rintro ⟨u, hu, hn⟩ h
    rw [Bool.and_eq_true, List.all_eq_true] at h
    have hn := of_decide_eq_true hn
    have h2 := h.2 u hu
    rw [Bool.or_eq_true, decide_eq_true_eq, decide_eq_true_eq] at h2
    exact hn ((hm u).2 h2.symm)
  · intro h
    by_cases hve : v ∈ e
    · have h2 : ¬ (e.all fun u => decide (u = v) || decide (u ∈ R)) = true := fun h3 => h (by rw [decide_eq_true hve, h3]; rfl)
      rw [List.all_eq_true] at h2
      rcases Classical.not_forall.1 h2 with ⟨u, hu⟩
      rcases Classical.not_imp.1 hu with ⟨h3, h4⟩
      refine ⟨u, h3, decide_eq_true fun h5 => h4 ?_⟩
      rw [Bool.or_eq_true, decide_eq_true_eq, decide_eq_true_eq]
      exact ((hm u).1 h5).symm
    · refine ⟨u0, hu0, decide_eq_true fun h5 => ?_⟩
      rcases (hm u0).1 h5 with h6 | h6
      · exact hn0 h6
      · exact hve (h6 ▸ hu0)
/-- append inside a region that draws its order, behind a guard. -/
theorem stepAppG {ops : Array Oper} {o : Oper} {a : Act} {K : Act → World → Prop} {Q : Exit → Act → World → Prop} {E : Prop} {W : World} (B : Nat) (hw : Region.wanted o (yielded ops a.tmps) = true) (s x : Operand) (t e : TypeId) (z : Value) (size bytes : Nat)
    (ho : o.op = .call { callee := .builtin .append, args := #[s, x], argTypes := #[t, t] })
    (ht : Tryz.prog.underlying t = some (.slice e)) (hinfo : (Tryz.prog.info? e).map (fun i => (i.zero, i.size, i.bytes)) = some (some z, size, bytes)) (hz : z.cells.size = size) (hs0 : 0 < size) (hb0 : 0 < bytes)
    (v : Value) (n : Nat) (xs : List Value) (A : Option Addr) (m c : Nat) (news : List Value) (hs : a.eval s = v) (hx : a.eval x = .slice A m c) (S : AppSrc W size A m c news)
    (HO : W.ownsRow B e size v n xs) (hB : B ≤ W.heap.size) (hl : (n + m) * bytes ≤ 140737488355328)
    (h : ∀ v1 w1, AppPost B e size n m v xs news W v1 w1 → K (a.put o.dst v1) w1) : if Region.wanted o (yielded ops a.tmps) = true then Oper.wp Tryz.prog o a W K Q else E := by
  rw [if_pos hw]
  exact wpApp B s x t e z size bytes ho ht hinfo hz hs0 hb0 v n xs A m c news hs hx S HO hB hl h

theorem one_cell {W : World} {b : Nat} {v : Value} (h : W.cell? ⟨b, 0, none⟩ = some v) : ∀ (j : Nat) (u : Value), ([v] : List Value)[j]? = some u → W.cell? ((⟨b, 0, none⟩ : Addr).add j) = some u := fun j u hu => by
  match j with
  | 0 => cases hu; exact h
theorem one_src {W : World} {b : Nat} {x : Int} (h : ∀ (j : Nat) (u : Value), ([.int .i64 x] : List Value)[j]? = some u → W.cell? ((⟨b, 0, none⟩ : Addr).add j) = some u) : AppSrc W 1 (some ⟨b, 0, none⟩) 1 1 [.int .i64 x] :=
  ⟨fun h => (by cases h), rfl, fun ad ha j u hu => (by cases ha; exact h j u hu), fun u hu => (by rw [List.mem_singleton.1 hu]; rfl)⟩

set_option maxRecDepth 100000 in
set_option maxHeartbeats 8000000 in
/-- Repair. -/
theorem f104_any (CA EA A : Option Addr) (cn cc en ec n c : Nat) (g : Graph) (l : List Int) (w : World) (hr : RG w CA cn cc EA en ec g) (hl : RI w A n c l) (hA : A = none → c = 0) (hv : ∀ e ∈ g.edges, e ≠ [] ∧ Inc e) (hn : n ≤ 1000) (hN : g.n ≤ 4000) :
    Calls Tryz.prog 104 #[.agg #[.int .i64 g.n, .slice CA cn cc, .slice EA en ec], .slice A n c] w fun e w' => e = .returned (.bool (repB g l)) ∧ Ext w w' := by
  obtain ⟨N, cost, edges⟩ := g
  simp only [] at *
  have hx0 : Ext w (w.alloc (.cells #[.int .i64 N, .slice CA cn cc, .slice EA en ec] 25)) := (by repeat' (first | exact Ext.refl _ | assumption | apply Ext.alloc | apply Ext.drewN | apply Ext.drew))
  have HX0 := hid hx0
  have HR := hid hr
  have HL := hid hl
  have HA := hid hA
  have HV := hid hv
  have hn63 := hl.lenle
  have QB : Hid (∀ W, Ext (w.alloc (.cells #[.int .i64 N, .slice CA cn cc, .slice EA en ec] 25)) W → W.cell? ⟨w.heap.size, 0, none⟩ = some (.int .i64 N) ∧ W.cell? ⟨w.heap.size, 2, none⟩ = some (.slice EA en ec)) := fun W hW => ⟨hW.cell (by simp), hW.cell (by simp)⟩
  have K106 := f106_any A n c l N (w.alloc (.cells #[.int .i64 N, .slice CA cn cc, .slice EA en ec] 25)) (hl.ext hx0)
  have K154 : Hid (∀ W, Ext (w.alloc (.cells #[.int .i64 N, .slice CA cn cc, .slice EA en ec] 25)) W → Calls Tryz.prog 154 #[.slice EA en ec, .slice A n c] W fun e w' => e = .returned (.bool (freeB' edges l)) ∧ ∃ q, w' = W.drewN q) := fun W hW => f154_any EA A en ec n c edges l W (hr.edges.ext (hx0.trans hW)) (hl.ext (hx0.trans hW))
  obtain ⟨b0, b2⟩ := QB.out _ (Ext.refl _)
  clear hr hl hA hv hx0
  by_cases hvr : Verts l N
  · rw [decide_eq_true hvr] at K106
    have HVR := hid hvr
    have hfe := free_eq (E := edges) HV.out hvr.1
    rw [hfe] at K154
    clear hvr hfe
    cases hf : (edges.all fun e => e.any fun u => decide (u ∉ l)) with
    | false =>
      rw [hf] at K154
      have HF := hid hf
      clear hf
      go_enter Tryz.func104, Tryz.ntmps104
      go_wp2_with (first
        | (go_at_call 106; refine K106.mono ?_; rintro e w1 ⟨rfl, q1, rfl⟩)
        | (go_at_call 154; (with_reducible refine (K154.out _ (by repeat' (first | exact Ext.refl _ | assumption | apply Ext.alloc | apply Ext.drewN | apply Ext.drew))).mono ?_); rintro e w1 ⟨rfl, q2, rfl⟩))
      go_ret
      refine ⟨ret_bool ?_, HX0.out.trans (by repeat' (first | exact Ext.refl _ | assumption | apply Ext.alloc | apply Ext.drewN | apply Ext.drew))⟩
      unfold repB
      simp only []
      rw [HF.out]
      simp
    | true =>
      rw [hf] at K154
      have HF := hid hf
      clear hf
      go_enter Tryz.func104, Tryz.ntmps104
      go_wp2_with (first
        | (go_at_call 106; refine K106.mono ?_; rintro e w1 ⟨rfl, q1, rfl⟩)
        | (go_at_call 154; (with_reducible refine (K154.out _ (by repeat' (first | exact Ext.refl _ | assumption | apply Ext.alloc | apply Ext.drewN | apply Ext.drew))).mono ?_); rintro e w1 ⟨rfl, q2, rfl⟩))
      clear K106 b0 b2
      have E0 : Hid (Ext (w.alloc (.cells #[.int .i64 N, .slice CA cn cc, .slice EA en ec] 25)) ((w.alloc (.cells #[.int .i64 N, .slice CA cn cc, .slice EA en ec] 25)).drewN (q1 + q2))) := hid (by repeat' (first | exact Ext.refl _ | assumption | apply Ext.alloc | apply Ext.drewN | apply Ext.drew))
      generalize ((w.alloc (.cells #[.int .i64 N, .slice CA cn cc, .slice EA en ec] 25)).drewN (q1 + q2)) = w1 at E0 ⊢
      go_loopg [5] N.toNat (fun gg s5 wr => ∃ kk : Nat, kk ≤ N.toNat ∧ N.toNat - kk ≤ gg ∧ s5 = .int .i64 kk ∧ Hid (Ext (w.alloc (.cells #[.int .i64 N, .slice CA cn cc, .slice EA en ec] 25)) wr) ∧ Aside (∀ j : Nat, j < kk → (decide ((j : Int) ∈ l) || edges.any fun e => decide ((j : Int) ∈ e) && e.all fun u => decide (u = (j : Int)) || decide (u ∈ l)) = true))
      case atStart => exact ⟨0, Nat.zero_le _, by omega, rfl, E0, fun j hj => absurd hj (Nat.not_lt_zero _)⟩
      case round =>
        obtain ⟨kk, hkk, hg, rfl, HE, AA⟩ := hrel
        obtain ⟨b0, b2⟩ := QB.out wr HE.out
        by_cases hlt : kk < N.toNat
        · have hltz : (kk : Int) < N := by omega
          have HK := hid hlt
          have K65 : Hid (∀ W, Ext wr W → Calls Tryz.prog 65 #[.slice A n c, .int .i64 (kk : Int)] W fun e w' => e = .returned (.bool (decide ((kk : Int) ∈ l))) ∧ W = w') := fun W hW => f65_any A n c l (kk : Int) W (HL.out.ext ((HX0.out.trans HE.out).trans hW))
          by_cases hm : (kk : Int) ∈ l
          · rw [decide_eq_true hm] at K65
            have HM := hid hm
            clear hm
            go_wp2_with fail
            have K65p : Hid (∀ p : ExtOf wr, Calls Tryz.prog 65 #[.slice A n c, .int .i64 (kk : Int)] p.W fun e w' => e = .returned (.bool true) ∧ Ext p.W w') := fun p => (K65.out p.W p.h).mono fun e w' h => ⟨h.1, by rw [← h.2]; exact Ext.refl _⟩
            clear K65
            refine wp_region_qw mixed' (by kernel_rfl) ?_
            repeat (refine QW.step (fun K hK => ?_); go_simp; first | (refine hK _ ?_; clear hK K) | (apply Exists.intro; refine ⟨fun _ => ?_, hK _ ?_⟩; (exact Calls.ext_of (K65p.out _)); clear hK K))
            refine QW.nil ?_
            rintro _ ⟨p1, rfl⟩
            obtain ⟨w1, hw1⟩ := p1
            dsimp only
            have HXr : Hid (Ext wr w1) := hw1
            clear hw1 K65p
            go_wp2_with fail
            go_roundg (N.toNat - (kk + 1))
            case measure => omega
            case rel =>
              refine ⟨kk + 1, by omega, by omega, by go_num, hid (HE.out.trans HXr.out), (show Aside _ from fun j hj => ?_)⟩
              rcases Nat.lt_or_ge j kk with h1 | h1
              · exact AA.out j h1
              · obtain rfl : j = kk := by omega
                rw [decide_eq_true HM.out]; rfl
          · rw [decide_eq_false hm] at K65
            have HM := hid hm
            clear hm
            go_wp2_with fail
            have HS : Hid (∀ W, Ext wr W → W.cell? ⟨w.heap.size, 2, none⟩ = some (.slice EA en ec)) := fun W hW => hW.cell b2
            have HLr : Hid (∀ W, Ext wr W → RI W A n c l) := fun W hW => HL.out.ext ((HX0.out.trans HE.out).trans hW)
            have HO1 : Hid (((wr.alloc (.cells #[] 3)).drew).ownsRow wr.heap.size 3 1 (.slice (some ⟨wr.heap.size, 0, none⟩) 0 0) 0 []) := hid (own_keep (World.ownsRow_made wr #[] 0 (Nat.le_refl _) (by decide) rfl) (fun _ _ => rfl))
            have HO2 : Hid ((((wr.alloc (.cells #[] 3)).alloc (.cells #[.int .i64 (kk : Int)] 3)).drew).ownsRow wr.heap.size 3 1 (.slice (some ⟨wr.heap.size, 0, none⟩) 0 0) 0 []) := hid (own_keep (own_alloc (World.ownsRow_made wr #[] 0 (Nat.le_refl _) (by decide) rfl) (.cells #[.int .i64 (kk : Int)] 3)) (fun _ _ => rfl))
            have HO3 : Hid ((((wr.alloc (.cells #[.int .i64 (kk : Int)] 3)).alloc (.cells #[] 3)).drew).ownsRow wr.heap.size 3 1 (.slice (some ⟨wr.heap.size + 1, 0, none⟩) 0 0) 0 []) := by
              refine hid ?_
              have := World.ownsRow_made (base := wr.heap.size) (e := 3) (size := 1) (wr.alloc (.cells #[.int .i64 (kk : Int)] 3)) #[] 0 (by simp) (by decide) rfl
              have := own_keep (w' := (((wr.alloc (.cells #[.int .i64 (kk : Int)] 3)).alloc (.cells #[] 3)).drew)) this (fun _ _ => rfl)
              simpa using this
            have HC2 : Hid ((((wr.alloc (.cells #[] 3)).alloc (.cells #[.int .i64 (kk : Int)] 3)).drew).cell? ⟨wr.heap.size + 1, 0, none⟩ = some (.int .i64 (kk : Int))) := hid (Ext.cell (w := (wr.alloc (.cells #[] 3)).alloc (.cells #[.int .i64 (kk : Int)] 3)) (by repeat' (first | exact Ext.refl _ | assumption | apply Ext.alloc | apply Ext.drewN | apply Ext.drew)) (cellNew (by simp)))
            have HC3 : Hid ((((wr.alloc (.cells #[.int .i64 (kk : Int)] 3)).alloc (.cells #[] 3)).drew).cell? ⟨wr.heap.size, 0, none⟩ = some (.int .i64 (kk : Int))) := hid (Ext.cell (w := wr.alloc (.cells #[.int .i64 (kk : Int)] 3)) (by repeat' (first | exact Ext.refl _ | assumption | apply Ext.alloc | apply Ext.drewN | apply Ext.drew)) (cellNew rfl))
            have hfm : ∀ s4, Inc s4 → (∀ x, x ∈ s4 ↔ x ∈ l ∨ x = (kk : Int)) → freeB' edges s4 = !edges.any fun e => decide ((kk : Int) ∈ e) && e.all fun u => decide (u = (kk : Int)) || decide (u ∈ l) := fun s4 h1 h2 => free_more HV.out h1 h2 HF.out
            have hm0 : decide ((kk : Int) ∈ l) = false := decide_eq_false HM.out
            generalize ha : (edges.any fun e => decide ((kk : Int) ∈ e) && e.all fun u => decide (u = (kk : Int)) || decide (u ∈ l)) = av at hfm
            have KF : Hid (∀ W B m d s4, Ext wr W → RI W B m d s4 → Inc s4 → (∀ x, x ∈ s4 ↔ x ∈ l ∨ x = (kk : Int)) → Calls Tryz.prog 154 #[.slice EA en ec, .slice B m d] W fun e w' => e = .returned (.bool (!av)) ∧ ∃ q, w' = W.drewN q) := fun W B m d s4 hW h1 h2 h3 => by
              rw [← hfm s4 h2 h3]
              exact f154_any EA B en ec m d edges s4 W (HR.out.edges.ext ((HX0.out.trans HE.out).trans hW)) h1
            have HAV := hid ha
            have HM0 := hid hm0
            clear hfm ha hm0
            cases av with
            | true =>
              go_region_held3 (fun w' => w'.cell? ⟨w.heap.size, 2, none⟩ = some (.slice EA en ec)) (exact HS.out _ (by repeat' (first | exact Ext.refl _ | assumption | apply Ext.alloc | apply Ext.drewN | apply Ext.drew))) (first
                | (go_at_call 65; (with_reducible refine (K65.out _ (by repeat' (first | exact Ext.refl _ | assumption | apply Ext.alloc | apply Ext.drewN | apply Ext.drew))).mono ?_); rintro e w2 ⟨rfl, rfl⟩)
                | ((refine stepAppG wr.heap.size (by rfl) _ _ 22 3 (.int .i64 0) 1 8 (by rfl) Tryz.underlying22 info3r rfl (by decide) (by decide) (.slice (some ⟨wr.heap.size, 0, none⟩) 0 0) 0 [] A n c (intVs' l) (by rfl) (by rfl) ((HLr.out _ (by repeat' (first | exact Ext.refl _ | assumption | apply Ext.alloc | apply Ext.drewN | apply Ext.drew))).src HA.out) HO1.out (by simp <;> omega) (by omega) ?_); rintro v1 w2 hp1; have e2 : Ext wr w2 := Ext.grown (by repeat' (first | exact Ext.refl _ | assumption | apply Ext.alloc | apply Ext.drewN | apply Ext.drew)) HO1.out (Nat.le_refl _) hp1.2.1; have HP1 := hid hp1.1; clear hp1)
                | ((refine stepAppG wr.heap.size (by rfl) _ _ 22 3 (.int .i64 0) 1 8 (by rfl) Tryz.underlying22 info3r rfl (by decide) (by decide) (.slice (some ⟨wr.heap.size, 0, none⟩) 0 0) 0 [] A n c (intVs' l) (by rfl) (by rfl) ((HLr.out _ (by repeat' (first | exact Ext.refl _ | assumption | apply Ext.alloc | apply Ext.drewN | apply Ext.drew))).src HA.out) HO2.out (by simp <;> omega) (by omega) ?_); rintro v1 w2 hp1; have e2 : Ext wr w2 := Ext.grown (by repeat' (first | exact Ext.refl _ | assumption | apply Ext.alloc | apply Ext.drewN | apply Ext.drew)) HO2.out (Nat.le_refl _) hp1.2.1; have HP1 := hid hp1.1; have HCK := hid ((hp1.2.1.cell_far ⟨wr.heap.size + 1, 0, none⟩ (by simp <;> omega) (by simp [Value.ownBlock])).trans HC2.out); clear hp1)
                | ((refine stepAppG wr.heap.size (by rfl) _ _ 22 3 (.int .i64 0) 1 8 (by rfl) Tryz.underlying22 info3r rfl (by decide) (by decide) (.slice (some ⟨wr.heap.size + 1, 0, none⟩) 0 0) 0 [] A n c (intVs' l) (by rfl) (by rfl) ((HLr.out _ (by repeat' (first | exact Ext.refl _ | assumption | apply Ext.alloc | apply Ext.drewN | apply Ext.drew))).src HA.out) HO3.out (by simp <;> omega) (by omega) ?_); rintro v1 w2 hp1; have e2 : Ext wr w2 := Ext.grown (by repeat' (first | exact Ext.refl _ | assumption | apply Ext.alloc | apply Ext.drewN | apply Ext.drew)) HO3.out (Nat.le_refl _) hp1.2.1; have HP1 := hid hp1.1; have HCK := hid ((hp1.2.1.cell_far ⟨wr.heap.size, 0, none⟩ (by simp <;> omega) (by simp [Value.ownBlock])).trans HC3.out); clear hp1)
                | ((refine stepAppG wr.heap.size (by rfl) _ _ 22 3 (.int .i64 0) 1 8 (by rfl) Tryz.underlying22 info3r rfl (by decide) (by decide) v1 (0 + n) ([] ++ intVs' l) (some ⟨w2.heap.size, 0, none⟩) 1 1 [.int .i64 (kk : Int)] (by rfl) (by rfl) (one_src (cell_one_new w2 _ 3)) (own_alloc HP1.out _) (by first | exact e2.size | (have := e2.size; simp; omega)) (by omega) ?_); rintro v2 w3 hp2; have e3 : Ext wr w3 := Ext.grown (Ext.alloc e2 _) (own_alloc HP1.out _) (Nat.le_refl _) hp2.2.1; (obtain ⟨A2, c2, rfl, hr2, _⟩ := own_RIn (l := l ++ [(kk : Int)]) (n := n + 1) (by have := hp2.1; rw [List.nil_append, Nat.zero_add] at this; rw [intVs'_append]; exact this)); have HR2 := hid hr2; clear hp2 hr2)
                | ((refine stepAppG wr.heap.size (by rfl) _ _ 22 3 (.int .i64 0) 1 8 (by rfl) Tryz.underlying22 info3r rfl (by decide) (by decide) v1 (0 + n) ([] ++ intVs' l) (some ⟨wr.heap.size + 1, 0, none⟩) 1 1 [.int .i64 (kk : Int)] (by rfl) (by rfl) (one_src (one_cell HCK.out)) HP1.out (by first | exact e2.size | (have := e2.size; simp; omega)) (by omega) ?_); rintro v2 w3 hp2; have e3 : Ext wr w3 := Ext.grown e2 HP1.out (Nat.le_refl _) hp2.2.1; (obtain ⟨A2, c2, rfl, hr2, _⟩ := own_RIn (l := l ++ [(kk : Int)]) (n := n + 1) (by have := hp2.1; rw [List.nil_append, Nat.zero_add] at this; rw [intVs'_append]; exact this)); have HR2 := hid hr2; clear hp2 hr2)
                | ((refine stepAppG wr.heap.size (by rfl) _ _ 22 3 (.int .i64 0) 1 8 (by rfl) Tryz.underlying22 info3r rfl (by decide) (by decide) v1 (0 + n) ([] ++ intVs' l) (some ⟨wr.heap.size, 0, none⟩) 1 1 [.int .i64 (kk : Int)] (by rfl) (by rfl) (one_src (one_cell HCK.out)) HP1.out (by first | exact e2.size | (have := e2.size; simp; omega)) (by omega) ?_); rintro v2 w3 hp2; have e3 : Ext wr w3 := Ext.grown e2 HP1.out (Nat.le_refl _) hp2.2.1; (obtain ⟨A2, c2, rfl, hr2, _⟩ := own_RIn (l := l ++ [(kk : Int)]) (n := n + 1) (by have := hp2.1; rw [List.nil_append, Nat.zero_add] at this; rw [intVs'_append]; exact this)); have HR2 := hid hr2; clear hp2 hr2)
                | (go_at_call 44; (with_reducible refine (f44_any A2 (n + 1) c2 (l ++ [(kk : Int)]) w3 HR2.out (by omega)).mono ?_); rintro e w4 ⟨v4, s4, rfl, ho4, hi4, hm4, x4⟩; have e4 : Ext wr w4 := e3.trans x4; (obtain ⟨B4, c4, rfl, hr4, _⟩ := own_RIn ho4); have HR4 := hid hr4; have HI4 := hid hi4; have HM4 : Hid (∀ x, x ∈ s4 ↔ x ∈ l ∨ x = (kk : Int)) := hid (fun x => by rw [hm4]; simp); clear ho4 hi4 hm4 x4 hr4)
                | (go_at_call 154; (with_reducible refine (KF.out w4 B4 _ c4 s4 e4 HR4.out HI4.out HM4.out).mono ?_); rintro e w5 ⟨rfl, q5, rfl⟩; have e5 : Ext wr (w4.drewN q5) := e4.drewN _))
              all_goals
                go_wp2
                go_roundg (N.toNat - (kk + 1))
                case measure => omega
                case rel =>
                  refine ⟨kk + 1, by omega, by omega, by go_num, hid (HE.out.trans e5), (show Aside _ from fun j hj => ?_)⟩
                  rcases Nat.lt_or_ge j kk with h1 | h1
                  · exact AA.out j h1
                  · obtain rfl : j = kk := by omega
                    rw [HM0.out, HAV.out]; rfl
            | false =>
              go_region_held3 (fun w' => w'.cell? ⟨w.heap.size, 2, none⟩ = some (.slice EA en ec)) (exact HS.out _ (by repeat' (first | exact Ext.refl _ | assumption | apply Ext.alloc | apply Ext.drewN | apply Ext.drew))) (first
                | (go_at_call 65; (with_reducible refine (K65.out _ (by repeat' (first | exact Ext.refl _ | assumption | apply Ext.alloc | apply Ext.drewN | apply Ext.drew))).mono ?_); rintro e w2 ⟨rfl, rfl⟩)
                | ((refine stepAppG wr.heap.size (by rfl) _ _ 22 3 (.int .i64 0) 1 8 (by rfl) Tryz.underlying22 info3r rfl (by decide) (by decide) (.slice (some ⟨wr.heap.size, 0, none⟩) 0 0) 0 [] A n c (intVs' l) (by rfl) (by rfl) ((HLr.out _ (by repeat' (first | exact Ext.refl _ | assumption | apply Ext.alloc | apply Ext.drewN | apply Ext.drew))).src HA.out) HO1.out (by simp <;> omega) (by omega) ?_); rintro v1 w2 hp1; have e2 : Ext wr w2 := Ext.grown (by repeat' (first | exact Ext.refl _ | assumption | apply Ext.alloc | apply Ext.drewN | apply Ext.drew)) HO1.out (Nat.le_refl _) hp1.2.1; have HP1 := hid hp1.1; clear hp1)
                | ((refine stepAppG wr.heap.size (by rfl) _ _ 22 3 (.int .i64 0) 1 8 (by rfl) Tryz.underlying22 info3r rfl (by decide) (by decide) (.slice (some ⟨wr.heap.size, 0, none⟩) 0 0) 0 [] A n c (intVs' l) (by rfl) (by rfl) ((HLr.out _ (by repeat' (first | exact Ext.refl _ | assumption | apply Ext.alloc | apply Ext.drewN | apply Ext.drew))).src HA.out) HO2.out (by simp <;> omega) (by omega) ?_); rintro v1 w2 hp1; have e2 : Ext wr w2 := Ext.grown (by repeat' (first | exact Ext.refl _ | assumption | apply Ext.alloc | apply Ext.drewN | apply Ext.drew)) HO2.out (Nat.le_refl _) hp1.2.1; have HP1 := hid hp1.1; have HCK := hid ((hp1.2.1.cell_far ⟨wr.heap.size + 1, 0, none⟩ (by simp <;> omega) (by simp [Value.ownBlock])).trans HC2.out); clear hp1)
                | ((refine stepAppG wr.heap.size (by rfl) _ _ 22 3 (.int .i64 0) 1 8 (by rfl) Tryz.underlying22 info3r rfl (by decide) (by decide) (.slice (some ⟨wr.heap.size + 1, 0, none⟩) 0 0) 0 [] A n c (intVs' l) (by rfl) (by rfl) ((HLr.out _ (by repeat' (first | exact Ext.refl _ | assumption | apply Ext.alloc | apply Ext.drewN | apply Ext.drew))).src HA.out) HO3.out (by simp <;> omega) (by omega) ?_); rintro v1 w2 hp1; have e2 : Ext wr w2 := Ext.grown (by repeat' (first | exact Ext.refl _ | assumption | apply Ext.alloc | apply Ext.drewN | apply Ext.drew)) HO3.out (Nat.le_refl _) hp1.2.1; have HP1 := hid hp1.1; have HCK := hid ((hp1.2.1.cell_far ⟨wr.heap.size, 0, none⟩ (by simp <;> omega) (by simp [Value.ownBlock])).trans HC3.out); clear hp1)
                | ((refine stepAppG wr.heap.size (by rfl) _ _ 22 3 (.int .i64 0) 1 8 (by rfl) Tryz.underlying22 info3r rfl (by decide) (by decide) v1 (0 + n) ([] ++ intVs' l) (some ⟨w2.heap.size, 0, none⟩) 1 1 [.int .i64 (kk : Int)] (by rfl) (by rfl) (one_src (cell_one_new w2 _ 3)) (own_alloc HP1.out _) (by first | exact e2.size | (have := e2.size; simp; omega)) (by omega) ?_); rintro v2 w3 hp2; have e3 : Ext wr w3 := Ext.grown (Ext.alloc e2 _) (own_alloc HP1.out _) (Nat.le_refl _) hp2.2.1; (obtain ⟨A2, c2, rfl, hr2, _⟩ := own_RIn (l := l ++ [(kk : Int)]) (n := n + 1) (by have := hp2.1; rw [List.nil_append, Nat.zero_add] at this; rw [intVs'_append]; exact this)); have HR2 := hid hr2; clear hp2 hr2)
                | ((refine stepAppG wr.heap.size (by rfl) _ _ 22 3 (.int .i64 0) 1 8 (by rfl) Tryz.underlying22 info3r rfl (by decide) (by decide) v1 (0 + n) ([] ++ intVs' l) (some ⟨wr.heap.size + 1, 0, none⟩) 1 1 [.int .i64 (kk : Int)] (by rfl) (by rfl) (one_src (one_cell HCK.out)) HP1.out (by first | exact e2.size | (have := e2.size; simp; omega)) (by omega) ?_); rintro v2 w3 hp2; have e3 : Ext wr w3 := Ext.grown e2 HP1.out (Nat.le_refl _) hp2.2.1; (obtain ⟨A2, c2, rfl, hr2, _⟩ := own_RIn (l := l ++ [(kk : Int)]) (n := n + 1) (by have := hp2.1; rw [List.nil_append, Nat.zero_add] at this; rw [intVs'_append]; exact this)); have HR2 := hid hr2; clear hp2 hr2)
                | ((refine stepAppG wr.heap.size (by rfl) _ _ 22 3 (.int .i64 0) 1 8 (by rfl) Tryz.underlying22 info3r rfl (by decide) (by decide) v1 (0 + n) ([] ++ intVs' l) (some ⟨wr.heap.size, 0, none⟩) 1 1 [.int .i64 (kk : Int)] (by rfl) (by rfl) (one_src (one_cell HCK.out)) HP1.out (by first | exact e2.size | (have := e2.size; simp; omega)) (by omega) ?_); rintro v2 w3 hp2; have e3 : Ext wr w3 := Ext.grown e2 HP1.out (Nat.le_refl _) hp2.2.1; (obtain ⟨A2, c2, rfl, hr2, _⟩ := own_RIn (l := l ++ [(kk : Int)]) (n := n + 1) (by have := hp2.1; rw [List.nil_append, Nat.zero_add] at this; rw [intVs'_append]; exact this)); have HR2 := hid hr2; clear hp2 hr2)
                | (go_at_call 44; (with_reducible refine (f44_any A2 (n + 1) c2 (l ++ [(kk : Int)]) w3 HR2.out (by omega)).mono ?_); rintro e w4 ⟨v4, s4, rfl, ho4, hi4, hm4, x4⟩; have e4 : Ext wr w4 := e3.trans x4; (obtain ⟨B4, c4, rfl, hr4, _⟩ := own_RIn ho4); have HR4 := hid hr4; have HI4 := hid hi4; have HM4 : Hid (∀ x, x ∈ s4 ↔ x ∈ l ∨ x = (kk : Int)) := hid (fun x => by rw [hm4]; simp); clear ho4 hi4 hm4 x4 hr4)
                | (go_at_call 154; (with_reducible refine (KF.out w4 B4 _ c4 s4 e4 HR4.out HI4.out HM4.out).mono ?_); rintro e w5 ⟨rfl, q5, rfl⟩; have e5 : Ext wr (w4.drewN q5) := e4.drewN _))
              all_goals
                go_wp2
                go_ret
                refine ⟨ret_bool ?_, (HX0.out.trans HE.out).trans e5⟩
                unfold repB
                simp only []
                rw [show ((List.range N.toNat).all fun v => decide ((v : Int) ∈ l) || edges.any fun e => decide ((v : Int) ∈ e) && e.all fun u => decide (u = (v : Int)) || decide (u ∈ l)) = false from List.all_eq_false.2 ⟨kk, List.mem_range.2 HK.out, by rw [HM0.out, HAV.out]; simp⟩]
                simp
        · have hltz : ¬ (kk : Int) < N := by omega
          have hkn : kk = N.toNat := by omega
          go_wp2
          go_ret
          refine ⟨ret_bool ?_, HX0.out.trans HE.out⟩
          unfold repB
          simp only []
          rw [decide_eq_true HVR.out, HF.out, List.all_eq_true.2 fun j hj => AA.out j (by have := List.mem_range.1 hj; omega)]
          rfl
  · rw [decide_eq_false hvr] at K106
    have HVR := hid hvr
    clear hvr
    go_enter Tryz.func104, Tryz.ntmps104
    go_wp2_with (go_at_call 106; refine K106.mono ?_; rintro e w1 ⟨rfl, q1, rfl⟩)
    go_ret
    refine ⟨ret_bool ?_, HX0.out.trans (by repeat' (first | exact Ext.refl _ | assumption | apply Ext.alloc | apply Ext.drewN | apply Ext.drew))⟩
    unfold repB
    simp only []
    rw [decide_eq_false HVR.out]
    rfl
end Go.Proofs.YthjifmfmaiagoaaGreatDoor

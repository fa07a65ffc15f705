/- C14: texts H46. -/
import Derived.Deep.RegionHeld
import Derived.Test.YthjifmfmaiagoaaGreatDoorC13
set_option linter.all false

/- head of the laws on proofs: the chapter's examples. -/
namespace Go.Proofs.YthjifmfmaiagoaaGreatDoor
open Go.RowKit
attribute [local go_sem] Oper.semAt_some

theorem steps_cells {W : World} {S : Nat} (h : W.heap[S]? = some (.cells #[.int .i64 1, .int .i64 0, .int .i64 1, .int .i64 2, .int .i64 4, .int .i64 0, .int .i64 0, .int .i64 0, .int .i64 1, .int .i64 1, .int .i64 3, .int .i64 4, .int .i64 4, .int .i64 1, .int .i64 0, .int .i64 0, .int .i64 3, .int .i64 0, .int .i64 0, .int .i64 0] 57 (0, 0))) : W.cell? ⟨S, 3, none⟩ = some (.int .i64 2) ∧ W.cell? ⟨S, 12, none⟩ = some (.int .i64 4) ∧ W.cell? ⟨S, 13, none⟩ = some (.int .i64 1) ∧ W.cell? ⟨S, 14, none⟩ = some (.int .i64 0) ∧ W.cell? ⟨S, 15, none⟩ = some (.int .i64 0) ∧ ∀ j, W.frozen? ⟨S, j, none⟩ = false :=
  ⟨(cell_heap h 3).1, (cell_heap h 12).1, (cell_heap h 13).1, (cell_heap h 14).1, (cell_heap h 15).1, fun j => (cell_heap h j).2⟩

set_option maxRecDepth 100000 in
theorem bad_RS {W : World} {S : Nat} (h : W.heap[S]? = some (.cells #[.int .i64 1, .int .i64 0, .int .i64 1, .int .i64 2, .int .i64 4, .int .i64 0, .int .i64 0, .int .i64 0, .int .i64 1, .int .i64 1, .int .i64 3, .int .i64 4, .int .i64 4, .int .i64 1, .int .i64 0, .int .i64 0, .int .i64 3, .int .i64 0, .int .i64 0, .int .i64 0] 57 (0, 0))) : RS ((((W.setCell ⟨S, 12, none⟩ (.int .i64 2)).setCell ⟨S, 13, none⟩ (.int .i64 0)).setCell ⟨S, 14, none⟩ (.int .i64 0)).setCell ⟨S, 15, none⟩ (.int .i64 0)) (some ⟨S, 0, none⟩) 5 5 badP :=
  ⟨rfl, Nat.le_refl _, by decide, fun i hi => by
    obtain ⟨a3, a12, a13, a14, a15, af⟩ := steps_cells h
    have ne : ∀ a b : Nat, a ≠ b → (⟨S, a, none⟩ : Addr) ≠ ⟨S, b, none⟩ := fun a b hab e => hab (Addr.mk.inj e).2.1
    have ho : ∀ k, k ≠ 12 → k ≠ 13 → k ≠ 14 → k ≠ 15 → ((((W.setCell ⟨S, 12, none⟩ (.int .i64 2)).setCell ⟨S, 13, none⟩ (.int .i64 0)).setCell ⟨S, 14, none⟩ (.int .i64 0)).setCell ⟨S, 15, none⟩ (.int .i64 0)).cell? ⟨S, k, none⟩ = (#[.int .i64 1, .int .i64 0, .int .i64 1, .int .i64 2, .int .i64 4, .int .i64 0, .int .i64 0, .int .i64 0, .int .i64 1, .int .i64 1, .int .i64 3, .int .i64 4, .int .i64 4, .int .i64 1, .int .i64 0, .int .i64 0, .int .i64 3, .int .i64 0, .int .i64 0, .int .i64 0] : Array Value)[k]? := fun k h12 h13 h14 h15 => by
      rw [World.cell?_setCell_other _ _ _ _ (ne _ _ (Ne.symm h15)), World.cell?_setCell_other _ _ _ _ (ne _ _ (Ne.symm h14)), World.cell?_setCell_other _ _ _ _ (ne _ _ (Ne.symm h13)), World.cell?_setCell_other _ _ _ _ (ne _ _ (Ne.symm h12)), (cell_heap h k).1]
    have hs12 : ((((W.setCell ⟨S, 12, none⟩ (.int .i64 2)).setCell ⟨S, 13, none⟩ (.int .i64 0)).setCell ⟨S, 14, none⟩ (.int .i64 0)).setCell ⟨S, 15, none⟩ (.int .i64 0)).cell? ⟨S, 12, none⟩ = some (.int .i64 2) := by
      rw [World.cell?_setCell_other _ _ _ _ (ne _ _ (by decide)), World.cell?_setCell_other _ _ _ _ (ne _ _ (by decide)), World.cell?_setCell_other _ _ _ _ (ne _ _ (by decide))]
      exact World.cell?_setCell_same _ _ _ a12
    have hs13 : ((((W.setCell ⟨S, 12, none⟩ (.int .i64 2)).setCell ⟨S, 13, none⟩ (.int .i64 0)).setCell ⟨S, 14, none⟩ (.int .i64 0)).setCell ⟨S, 15, none⟩ (.int .i64 0)).cell? ⟨S, 13, none⟩ = some (.int .i64 0) := by
      rw [World.cell?_setCell_other _ _ _ _ (ne _ _ (by decide)), World.cell?_setCell_other _ _ _ _ (ne _ _ (by decide))]
      exact World.cell?_setCell_same _ _ _ (by rw [World.cell?_setCell_other _ _ _ _ (ne _ _ (by decide))]; exact a13)
    have hs14 : ((((W.setCell ⟨S, 12, none⟩ (.int .i64 2)).setCell ⟨S, 13, none⟩ (.int .i64 0)).setCell ⟨S, 14, none⟩ (.int .i64 0)).setCell ⟨S, 15, none⟩ (.int .i64 0)).cell? ⟨S, 14, none⟩ = some (.int .i64 0) := by
      rw [World.cell?_setCell_other _ _ _ _ (ne _ _ (by decide))]
      exact World.cell?_setCell_same _ _ _ (by rw [World.cell?_setCell_other _ _ _ _ (ne _ _ (by decide)), World.cell?_setCell_other _ _ _ _ (ne _ _ (by decide))]; exact a14)
    have hs15 : ((((W.setCell ⟨S, 12, none⟩ (.int .i64 2)).setCell ⟨S, 13, none⟩ (.int .i64 0)).setCell ⟨S, 14, none⟩ (.int .i64 0)).setCell ⟨S, 15, none⟩ (.int .i64 0)).cell? ⟨S, 15, none⟩ = some (.int .i64 0) :=
      World.cell?_setCell_same _ _ _ (by rw [World.cell?_setCell_other _ _ _ _ (ne _ _ (by decide)), World.cell?_setCell_other _ _ _ _ (ne _ _ (by decide)), World.cell?_setCell_other _ _ _ _ (ne _ _ (by decide))]; exact a15)
    match i, hi with
    | 0, _ => exact ⟨_, rfl, ho 0 (by decide) (by decide) (by decide) (by decide), ho 1 (by decide) (by decide) (by decide) (by decide), ho 2 (by decide) (by decide) (by decide) (by decide), ho 3 (by decide) (by decide) (by decide) (by decide)⟩
    | 1, _ => exact ⟨_, rfl, ho 4 (by decide) (by decide) (by decide) (by decide), ho 5 (by decide) (by decide) (by decide) (by decide), ho 6 (by decide) (by decide) (by decide) (by decide), ho 7 (by decide) (by decide) (by decide) (by decide)⟩
    | 2, _ => exact ⟨_, rfl, ho 8 (by decide) (by decide) (by decide) (by decide), ho 9 (by decide) (by decide) (by decide) (by decide), ho 10 (by decide) (by decide) (by decide) (by decide), ho 11 (by decide) (by decide) (by decide) (by decide)⟩
    | 3, _ => exact ⟨_, rfl, hs12, hs13, hs14, hs15⟩
    | 4, _ => exact ⟨_, rfl, ho 16 (by decide) (by decide) (by decide) (by decide), ho 17 (by decide) (by decide) (by decide) (by decide), ho 18 (by decide) (by decide) (by decide) (by decide), ho 19 (by decide) (by decide) (by decide) (by decide)⟩
    ⟩
set_option maxRecDepth 100000 in
theorem shared_RS {W : World} {S : Nat} (h : W.heap[S]? = some (.cells #[.int .i64 1, .int .i64 0, .int .i64 1, .int .i64 2, .int .i64 4, .int .i64 0, .int .i64 0, .int .i64 0, .int .i64 1, .int .i64 1, .int .i64 3, .int .i64 4, .int .i64 4, .int .i64 1, .int .i64 0, .int .i64 0, .int .i64 3, .int .i64 0, .int .i64 0, .int .i64 0] 57 (0, 0))) : RS (W.setCell ⟨S, 3, none⟩ (.int .i64 1)) (some ⟨S, 0, none⟩) 5 5 sharedP :=
  ⟨rfl, Nat.le_refl _, by decide, fun i hi => by
    obtain ⟨a3, a12, a13, a14, a15, af⟩ := steps_cells h
    have ne : ∀ a b : Nat, a ≠ b → (⟨S, a, none⟩ : Addr) ≠ ⟨S, b, none⟩ := fun a b hab e => hab (Addr.mk.inj e).2.1
    have ho : ∀ k, k ≠ 3 → (W.setCell ⟨S, 3, none⟩ (.int .i64 1)).cell? ⟨S, k, none⟩ = (#[.int .i64 1, .int .i64 0, .int .i64 1, .int .i64 2, .int .i64 4, .int .i64 0, .int .i64 0, .int .i64 0, .int .i64 1, .int .i64 1, .int .i64 3, .int .i64 4, .int .i64 4, .int .i64 1, .int .i64 0, .int .i64 0, .int .i64 3, .int .i64 0, .int .i64 0, .int .i64 0] : Array Value)[k]? := fun k h3 => by
      rw [World.cell?_setCell_other _ _ _ _ (ne _ _ (Ne.symm h3)), (cell_heap h k).1]
    have hs3 : (W.setCell ⟨S, 3, none⟩ (.int .i64 1)).cell? ⟨S, 3, none⟩ = some (.int .i64 1) := World.cell?_setCell_same _ _ _ a3
    match i, hi with
    | 0, _ => exact ⟨_, rfl, ho 0 (by decide), ho 1 (by decide), ho 2 (by decide), hs3⟩
    | 1, _ => exact ⟨_, rfl, ho 4 (by decide), ho 5 (by decide), ho 6 (by decide), ho 7 (by decide)⟩
    | 2, _ => exact ⟨_, rfl, ho 8 (by decide), ho 9 (by decide), ho 10 (by decide), ho 11 (by decide)⟩
    | 3, _ => exact ⟨_, rfl, ho 12 (by decide), ho 13 (by decide), ho 14 (by decide), ho 15 (by decide)⟩
    | 4, _ => exact ⟨_, rfl, ho 16 (by decide), ho 17 (by decide), ho 18 (by decide), ho 19 (by decide)⟩
    ⟩

theorem steps_RS {W : World} {S : Nat} (h : W.heap[S]? = some (.cells #[.int .i64 1, .int .i64 0, .int .i64 1, .int .i64 2, .int .i64 4, .int .i64 0, .int .i64 0, .int .i64 0, .int .i64 1, .int .i64 1, .int .i64 3, .int .i64 4, .int .i64 4, .int .i64 1, .int .i64 0, .int .i64 0, .int .i64 3, .int .i64 0, .int .i64 0, .int .i64 0] 57 (0, 0))) : RS W (some ⟨S, 0, none⟩) 5 5 stepsP := RS_block h rfl (by decide) (fun i hi => by
  match i, hi with
  | 0, _ => exact ⟨rfl, rfl, rfl, rfl⟩
  | 1, _ => exact ⟨rfl, rfl, rfl, rfl⟩
  | 2, _ => exact ⟨rfl, rfl, rfl, rfl⟩
  | 3, _ => exact ⟨rfl, rfl, rfl, rfl⟩
  | 4, _ => exact ⟨rfl, rfl, rfl, rfl⟩)
theorem RW.one {W : World} {A : Option Addr} (h : RW W A 2 2 eitherW) : RW W A 1 2 [⟨[0], []⟩] := ⟨rfl, by decide, by decide, fun i hi => by
  match i, hi with
  | 0, _ => exact h.cell 0 (by decide)⟩
theorem size43 (w : World) : (sizeOf 43).run Tryz.prog w = .ok 2 w := by kernel_rfl

theorem one0 : ∀ i, i < 1 → (#[.int .i64 0] : Array Value)[i]? = some (.int .i64 (nth [0] i)) := fun i hi => by
  match i, hi with
  | 0, _ => rfl
theorem one1 : ∀ i, i < 1 → (#[.int .i64 1] : Array Value)[i]? = some (.int .i64 (nth [1] i)) := fun i hi => by
  match i, hi with
  | 0, _ => rfl
theorem two12 : ∀ i, i < 2 → (#[.int .i64 1, .int .i64 2] : Array Value)[i]? = some (.int .i64 (nth [1, 2] i)) := fun i hi => by
  match i, hi with
  | 0, _ => rfl
  | 1, _ => rfl
theorem RS.nil (w : World) : RS w none 0 0 [] := ⟨rfl, Nat.le_refl _, Nat.zero_le _, fun i hi => absurd hi (Nat.not_lt_zero _)⟩

set_option maxRecDepth 100000 in
set_option maxHeartbeats 4000000 in
theorem head_any (w : World) : Calls Tryz.prog 29 #[] w fun e w' => e = .returned (.bool true) ∧ Ext w w' := by
  have K85 : Hid (Calls Tryz.prog 85 #[] w fun e w' => ∃ S, e = .returned (.agg #[.slice (some ⟨S, 0, none⟩) 5 5]) ∧ w.heap.size ≤ S ∧ w'.heap[S]? = some (.cells #[.int .i64 1, .int .i64 0, .int .i64 1, .int .i64 2, .int .i64 4, .int .i64 0, .int .i64 0, .int .i64 0, .int .i64 1, .int .i64 1, .int .i64 3, .int .i64 4, .int .i64 4, .int .i64 1, .int .i64 0, .int .i64 0, .int .i64 3, .int .i64 0, .int .i64 0, .int .i64 0] 57 (0, 0)) ∧ Ext w w') := f85_any w
  go_enter Tryz.func29, Tryz.ntmps29
  go_wp2_with (first
    | (go_at_call 85; (with_reducible refine K85.out.mono ?_); rintro e w1 ⟨S, rfl, s1, s2, s3⟩; have HS := hid (And.intro s1 (And.intro s2 s3)); obtain ⟨a3, a12, a13, a14, a15, af⟩ := steps_cells (show (w1.alloc (.cells #[.slice (some ⟨S, 0, none⟩) 5 5] 36)).heap[S]? = some (.cells #[.int .i64 1, .int .i64 0, .int .i64 1, .int .i64 2, .int .i64 4, .int .i64 0, .int .i64 0, .int .i64 0, .int .i64 1, .int .i64 1, .int .i64 3, .int .i64 4, .int .i64 4, .int .i64 1, .int .i64 0, .int .i64 0, .int .i64 3, .int .i64 0, .int .i64 0, .int .i64 0] 57 (0, 0)) from ((Ext.alloc (Ext.refl w1) _).block S (Array.getElem?_eq_some_iff.1 s2).1).trans s2); clear s1 s2 s3)
    | (go_at_call 85; refine (f85_any _).mono ?_; rintro e w2 ⟨S2, rfl, t1, t2, t3⟩; have HT := hid (And.intro t1 (And.intro t2 t3)); obtain ⟨b3, _, _, _, _, bf⟩ := steps_cells (show (w2.alloc (.cells #[.slice (some ⟨S2, 0, none⟩) 5 5] 36)).heap[S2]? = some (.cells #[.int .i64 1, .int .i64 0, .int .i64 1, .int .i64 2, .int .i64 4, .int .i64 0, .int .i64 0, .int .i64 0, .int .i64 1, .int .i64 1, .int .i64 3, .int .i64 4, .int .i64 4, .int .i64 1, .int .i64 0, .int .i64 0, .int .i64 3, .int .i64 0, .int .i64 0, .int .i64 0] 57 (0, 0)) from ((Ext.alloc (Ext.refl w2) _).block S2 (Array.getElem?_eq_some_iff.1 t2).1).trans t2); clear t1 t2 t3))

  clear a3 a12 a13 a14 a15 af b3 bf
  obtain ⟨s1, s2, s3⟩ := HS.out
  obtain ⟨t1, t2, t3⟩ := HT.out
  have hSl : S < w1.heap.size := (Array.getElem?_eq_some_iff.1 s2).1
  have hTl : S2 < w2.heap.size := (Array.getElem?_eq_some_iff.1 t2).1
  have szB : (((((w1.alloc (.cells #[.slice (some ⟨S, 0, none⟩) 5 5] 36)).setCell ⟨S, 12, none⟩ (.int .i64 2)).setCell ⟨S, 13, none⟩ (.int .i64 0)).setCell ⟨S, 14, none⟩ (.int .i64 0)).setCell ⟨S, 15, none⟩ (.int .i64 0)).heap.size = w1.heap.size + 1 := by simp
  rw [szB] at t1
  have eB : Ext w (((((w1.alloc (.cells #[.slice (some ⟨S, 0, none⟩) 5 5] 36)).setCell ⟨S, 12, none⟩ (.int .i64 2)).setCell ⟨S, 13, none⟩ (.int .i64 0)).setCell ⟨S, 14, none⟩ (.int .i64 0)).setCell ⟨S, 15, none⟩ (.int .i64 0)) := Below.setCell (Below.setCell (Below.setCell (Below.setCell (Ext.alloc s3 _) s1 _) s1 _) s1 _) s1 _
  have t3' := t3.size
  rw [szB] at t3'
  have e5 : Ext (((((w1.alloc (.cells #[.slice (some ⟨S, 0, none⟩) 5 5] 36)).setCell ⟨S, 12, none⟩ (.int .i64 2)).setCell ⟨S, 13, none⟩ (.int .i64 0)).setCell ⟨S, 14, none⟩ (.int .i64 0)).setCell ⟨S, 15, none⟩ (.int .i64 0)) ((((w2.alloc (.cells #[.slice (some ⟨S2, 0, none⟩) 5 5] 36)).setCell ⟨S2, 3, none⟩ (.int .i64 1)).alloc (.cells #[.int .i64 5, .int .i64 0, .int .i64 0, .int .i64 0] 57)).alloc (.cells #[.slice (some ⟨w2.heap.size + 1, 0, none⟩) 1 1] 36)) := Ext.alloc (Ext.alloc (Below.setCell (Ext.alloc t3 _) (by rw [szB]; exact t1) _) _) _
  have HE5 : Hid (Ext w ((((w2.alloc (.cells #[.slice (some ⟨S2, 0, none⟩) 5 5] 36)).setCell ⟨S2, 3, none⟩ (.int .i64 1)).alloc (.cells #[.int .i64 5, .int .i64 0, .int .i64 0, .int .i64 0] 57)).alloc (.cells #[.slice (some ⟨w2.heap.size + 1, 0, none⟩) 1 1] 36))) := eB.trans e5
  have C1 : Hid (((((w2.alloc (.cells #[.slice (some ⟨S2, 0, none⟩) 5 5] 36)).setCell ⟨S2, 3, none⟩ (.int .i64 1)).alloc (.cells #[.int .i64 5, .int .i64 0, .int .i64 0, .int .i64 0] 57)).alloc (.cells #[.slice (some ⟨w2.heap.size + 1, 0, none⟩) 1 1] 36)).cell? ⟨w1.heap.size, 0, none⟩ = some (.slice (some ⟨S, 0, none⟩) 5 5)) := e5.cell (by
    have ne : ∀ j, (⟨S, j, none⟩ : Addr) ≠ ⟨w1.heap.size, 0, none⟩ := fun j e => by have := (Addr.mk.inj e).1; omega
    rw [World.cell?_setCell_other _ _ _ _ (ne _), World.cell?_setCell_other _ _ _ _ (ne _), World.cell?_setCell_other _ _ _ _ (ne _), World.cell?_setCell_other _ _ _ _ (ne _)]
    exact cellNew rfl)
  have R1 : Hid (RS ((((w2.alloc (.cells #[.slice (some ⟨S2, 0, none⟩) 5 5] 36)).setCell ⟨S2, 3, none⟩ (.int .i64 1)).alloc (.cells #[.int .i64 5, .int .i64 0, .int .i64 0, .int .i64 0] 57)).alloc (.cells #[.slice (some ⟨w2.heap.size + 1, 0, none⟩) 1 1] 36)) (some ⟨S, 0, none⟩) 5 5 badP) := (bad_RS (((Ext.alloc (Ext.refl w1) _).block S hSl).trans s2)).ext e5
  have hA : Ext ((w2.alloc (.cells #[.slice (some ⟨S2, 0, none⟩) 5 5] 36)).setCell ⟨S2, 3, none⟩ (.int .i64 1)) ((((w2.alloc (.cells #[.slice (some ⟨S2, 0, none⟩) 5 5] 36)).setCell ⟨S2, 3, none⟩ (.int .i64 1)).alloc (.cells #[.int .i64 5, .int .i64 0, .int .i64 0, .int .i64 0] 57)).alloc (.cells #[.slice (some ⟨w2.heap.size + 1, 0, none⟩) 1 1] 36)) := Ext.alloc (Ext.alloc (Ext.refl _) _) _
  have C2 : Hid (((((w2.alloc (.cells #[.slice (some ⟨S2, 0, none⟩) 5 5] 36)).setCell ⟨S2, 3, none⟩ (.int .i64 1)).alloc (.cells #[.int .i64 5, .int .i64 0, .int .i64 0, .int .i64 0] 57)).alloc (.cells #[.slice (some ⟨w2.heap.size + 1, 0, none⟩) 1 1] 36)).cell? ⟨w2.heap.size, 0, none⟩ = some (.slice (some ⟨S2, 0, none⟩) 5 5)) := hA.cell (by
    rw [World.cell?_setCell_other _ _ _ _ (fun e => by have := (Addr.mk.inj e).1; omega)]
    exact cellNew rfl)
  have R2 : Hid (RS ((((w2.alloc (.cells #[.slice (some ⟨S2, 0, none⟩) 5 5] 36)).setCell ⟨S2, 3, none⟩ (.int .i64 1)).alloc (.cells #[.int .i64 5, .int .i64 0, .int .i64 0, .int .i64 0] 57)).alloc (.cells #[.slice (some ⟨w2.heap.size + 1, 0, none⟩) 1 1] 36)) (some ⟨S2, 0, none⟩) 5 5 sharedP) := (shared_RS (((Ext.alloc (Ext.refl w2) _).block S2 hTl).trans t2)).ext hA
  have C3 : Hid (((((w2.alloc (.cells #[.slice (some ⟨S2, 0, none⟩) 5 5] 36)).setCell ⟨S2, 3, none⟩ (.int .i64 1)).alloc (.cells #[.int .i64 5, .int .i64 0, .int .i64 0, .int .i64 0] 57)).alloc (.cells #[.slice (some ⟨w2.heap.size + 1, 0, none⟩) 1 1] 36)).cell? ⟨w2.heap.size + 1 + 1, 0, none⟩ = some (.slice (some ⟨w2.heap.size + 1, 0, none⟩) 1 1)) := cellNew (by simp)
  have R3 : Hid (RS ((((w2.alloc (.cells #[.slice (some ⟨S2, 0, none⟩) 5 5] 36)).setCell ⟨S2, 3, none⟩ (.int .i64 1)).alloc (.cells #[.int .i64 5, .int .i64 0, .int .i64 0, .int .i64 0] 57)).alloc (.cells #[.slice (some ⟨w2.heap.size + 1, 0, none⟩) 1 1] 36)) (some ⟨w2.heap.size + 1, 0, none⟩) 1 1 noneP) := RS_block (block_of (w := (w2.alloc (.cells #[.slice (some ⟨S2, 0, none⟩) 5 5] 36)).setCell ⟨S2, 3, none⟩ (.int .i64 1)) (Ext.alloc (Ext.refl _) _) (by simp)) rfl (by decide) (fun i hi => by
    match i, hi with
    | 0, _ => exact ⟨rfl, rfl, rfl, rfl⟩)
  clear s1 s2 s3 t1 t2 t3 t3' hSl hTl szB eB e5 hA HS HT K85
  generalize ((((w2.alloc (.cells #[.slice (some ⟨S2, 0, none⟩) 5 5] 36)).setCell ⟨S2, 3, none⟩ (.int .i64 1)).alloc (.cells #[.int .i64 5, .int .i64 0, .int .i64 0, .int .i64 0] 57)).alloc (.cells #[.slice (some ⟨w2.heap.size + 1, 0, none⟩) 1 1] 36)) = w5 at HE5 C1 R1 C2 R2 C3 R3 ⊢
  have c1 := C1.out
  have c2 := C2.out
  have c3 := C3.out

  have KC : Hid (∀ W CA EA WA wn wc SA sn sc ws ss hold, RG W CA 2 2 EA 1 1 pairG → RW W WA wn wc ws → RS W SA sn sc ss → Calls Tryz.prog 34 #[.agg #[.int .i64 2, .slice CA 2 2, .slice EA 1 1], .slice WA wn wc, .bool hold, .agg #[.slice SA sn sc]] W fun e w' => e = .returned (.bool (checkB pairG ws hold ss)) ∧ Ext W w') :=
    fun W CA EA WA wn wc SA sn sc ws ss hold h1 h2 h3 => check_any CA EA WA SA 2 2 1 1 wn wc sn sc pairG ws ss hold W ⟨h1, h2, by decide, by decide, by decide⟩ h3
  have KL : Hid (∀ W CA EA WA wn wc A1 n1 c1 A2 n2 c2 SA sn sc ws (x : Claim), RG W CA 2 2 EA 1 1 pairG → RW W WA wn wc ws → RI W A1 n1 c1 x.with_ → RI W A2 n2 c2 x.without → RS W SA sn sc x.steps → n1 ≤ 1000 → n2 ≤ 1000 → sn ≤ 1000 →
      Calls Tryz.prog 36 #[.agg #[.int .i64 2, .slice CA 2 2, .slice EA 1 1], .slice WA wn wc, .agg #[.int .i64 x.verdict, .slice A1 n1 c1, .slice A2 n2 c2, .slice SA sn sc]] W fun e w' => e = .returned (.bool (claimB pairG ws x)) ∧ Ext W w') :=
    fun W CA EA WA wn wc A1 n1 c1 A2 n2 c2 SA sn sc ws x h1 h2 h3 h4 h5 b1 b2 b3 => claim_any CA EA WA A1 A2 SA 2 2 1 1 wn wc n1 c1 n2 c2 sn sc pairG ws x W ⟨h1, h2, by decide, by decide, by decide⟩ h3 h4 h5 (by omega) (by omega) (by omega)
  have hsl : ∀ (A : Option Addr) (W : World), (Instr.slice 26 (.slice A 2 2) none (some (.int .i64 1)) none).run Tryz.prog W = .ok (.slice A 1 2) W := fun A W => run_slice_to 26 43 2 Tryz.underlying26 A 2 2 1 (by decide) W (size43 W)
  have KP : Hid (∀ W, Ext w5 W → W.cell? ⟨w1.heap.size, 0, none⟩ = some (.slice (some ⟨S, 0, none⟩) 5 5) ∧ W.cell? ⟨w2.heap.size, 0, none⟩ = some (.slice (some ⟨S2, 0, none⟩) 5 5) ∧ W.cell? ⟨w2.heap.size + 1 + 1, 0, none⟩ = some (.slice (some ⟨w2.heap.size + 1, 0, none⟩) 1 1)) := fun W h => ⟨h.cell C1.out, h.cell C2.out, h.cell C3.out⟩
  have HX : Hid (Ext w5 w5.drew) := (by repeat' (first | exact Ext.refl _ | assumption | apply Ext.alloc | apply Ext.drewN | apply Ext.drew))
  refine wp_mono (Q := fun x a' w' => match x with | .normal => ∃ u7 u8 u9 u10 u11 u12 u13 u14 u15 u16 u17 u18 u19 u20 u21 u22 u23 u24 u25 u26 u27 u28 u29 u30 u31 u32 u33 u34 u35 u36 u37 u38 u39 u40 u41 u42 u43 u44 u45, a' = ({ tmps := List.toArray (.bool false :: .pointer (some ⟨w1.heap.size, 0, none⟩) :: .pointer (some ⟨w2.heap.size, 0, none⟩) :: .pointer (some ⟨w2.heap.size + 1 + 1, 0, none⟩) :: .bool true :: undef :: undef :: u7 :: u8 :: u9 :: u10 :: u11 :: u12 :: u13 :: u14 :: u15 :: u16 :: u17 :: u18 :: u19 :: u20 :: u21 :: u22 :: u23 :: u24 :: u25 :: u26 :: u27 :: u28 :: u29 :: u30 :: u31 :: u32 :: u33 :: u34 :: u35 :: u36 :: u37 :: u38 :: u39 :: u40 :: u41 :: u42 :: u43 :: u44 :: u45 :: undef :: undef :: undef :: undef :: undef :: undef :: undef :: undef :: undef :: undef :: undef :: undef :: undef :: undef :: undef :: undef :: undef :: undef :: undef :: undef :: undef :: undef :: undef :: undef :: undef :: undef :: undef :: undef :: undef :: undef :: undef :: undef :: undef :: undef :: undef :: undef :: undef :: undef :: undef :: undef :: undef :: undef :: undef :: undef :: undef :: undef :: undef :: undef :: undef :: undef :: undef :: undef :: undef :: []), defers := [] } : Act) ∧ Ext w5 w' | _ => False) ?_ ?_
  · go_region_held (fun W => W.cell? ⟨w1.heap.size, 0, none⟩ = some (.slice (some ⟨S, 0, none⟩) 5 5) ∧ W.cell? ⟨w2.heap.size, 0, none⟩ = some (.slice (some ⟨S2, 0, none⟩) 5 5) ∧ W.cell? ⟨w2.heap.size + 1 + 1, 0, none⟩ = some (.slice (some ⟨w2.heap.size + 1, 0, none⟩) 1 1)) (exact KP.out _ HX.out) (first
      | (go_at_call 86; refine (f86_any _).mono ?_; rintro e wA ⟨CA, EA, rfl, rg, xA⟩; have HX := hid (HX.out.trans xA); have HG := hid rg; clear rg xA)
      | (go_at_call 87; refine (f87_any _).mono ?_; rintro e wB ⟨WA, rfl, rw0, xB⟩; have HX := hid (HX.out.trans xB); have HG := hid (HG.out.ext xB); have HW := hid rw0; clear rw0 xB)
      | (go_at_call 85; refine (f85_any _).mono ?_; rintro e wC ⟨S4, rfl, t1, t2, xC⟩; have HX := hid (HX.out.trans xC); have HG := hid (HG.out.ext xC); have HW := hid (HW.out.ext xC); have HS4 := hid (steps_RS t2); clear t1 t2 xC)
      | (go_at_call 34; (with_reducible refine (KC.out _ CA EA WA _ _ (some ⟨S4, 0, none⟩) 5 5 eitherW stepsP false HG.out HW.out HS4.out).mono ?_); rintro e wD ⟨he, xD⟩; rw [x1] at he; subst he; have HX := hid (HX.out.trans xD); clear xD)
      | (go_at_call 34; (with_reducible refine (KC.out _ CA EA WA _ _ (some ⟨S4, 0, none⟩) 5 5 eitherW stepsP true HG.out HW.out HS4.out).mono ?_); rintro e wD ⟨he, xD⟩; rw [x4] at he; subst he; have HX := hid (HX.out.trans xD); clear xD)
      | (go_at_call 34; (with_reducible refine (KC.out _ CA EA WA _ _ (some ⟨S, 0, none⟩) 5 5 [⟨[0], []⟩] badP false HG.out HW.out.one (R1.out.ext HX.out)).mono ?_); rintro e wD ⟨he, xD⟩; rw [x2] at he; subst he; have HX := hid (HX.out.trans xD); clear xD)
      | (go_at_call 34; (with_reducible refine (KC.out _ CA EA WA _ _ (some ⟨S2, 0, none⟩) 5 5 eitherW sharedP false HG.out HW.out (R2.out.ext HX.out)).mono ?_); rintro e wD ⟨he, xD⟩; rw [x3] at he; subst he; have HX := hid (HX.out.trans xD); clear xD))
    exact ⟨_, _, _, _, _, _, _, _, _, _, _, _, _, _, _, _, _, _, _, _, _, _, _, _, _, _, _, _, _, _, _, _, _, _, _, _, _, _, _, rfl, HX.out⟩
  · intro e a' w6 hQ
    cases e with
    | normal =>
      obtain ⟨u7, u8, u9, u10, u11, u12, u13, u14, u15, u16, u17, u18, u19, u20, u21, u22, u23, u24, u25, u26, u27, u28, u29, u30, u31, u32, u33, u34, u35, u36, u37, u38, u39, u40, u41, u42, u43, u44, u45, rfl, hx6⟩ := hQ
      have HX := hid hx6
      clear hx6
      show Exit.then _ _ _ _ _
      go_wp2_with (first
        | (go_at_call 86; refine (f86_any _).mono ?_; rintro e wA ⟨CA, EA, rfl, rg, xA⟩; have HX := hid (HX.out.trans xA); have HG := hid rg; clear rg xA)
        | (go_at_call 87; refine (f87_any _).mono ?_; rintro e wB ⟨WA, rfl, rw0, xB⟩; have HX := hid (HX.out.trans xB); have HG := hid (HG.out.ext xB); have HW := hid rw0; clear rw0 xB)
        | (go_at_call 85; refine (f85_any _).mono ?_; rintro e wC ⟨S4, rfl, t1, t2, xC⟩; (have HX := hid (HX.out.trans (Ext.trans (by repeat' (first | exact Ext.refl _ | assumption | apply Ext.alloc | apply Ext.drewN | apply Ext.drew)) xC))); (have HG := hid (HG.out.ext (Ext.trans (by repeat' (first | exact Ext.refl _ | assumption | apply Ext.alloc | apply Ext.drewN | apply Ext.drew)) xC))); (have HW := hid (HW.out.ext (Ext.trans (by repeat' (first | exact Ext.refl _ | assumption | apply Ext.alloc | apply Ext.drewN | apply Ext.drew)) xC))); have HS4 := hid (steps_RS t2); (have HR1 := hid ((RI_block (xs := [1]) (n := 1) (block_of (w := wB) (Ext.refl _) rfl) rfl (by decide) one1).ext xC)); clear t1 t2 xC)
        | (go_at_call 36; (with_reducible refine (KL.out _ CA EA WA 1 2 (some ⟨wB.heap.size, 0, none⟩) 1 1 (some ⟨wB.heap.size + 1, 0, none⟩) 1 1 none 0 0 [⟨[0], []⟩] ⟨2, [0], [1], []⟩ (HG.out.ext (by repeat' (first | exact Ext.refl _ | assumption | apply Ext.alloc | apply Ext.drewN | apply Ext.drew))) (HW.out.one.ext (by repeat' (first | exact Ext.refl _ | assumption | apply Ext.alloc | apply Ext.drewN | apply Ext.drew))) (RI_block (block_of (w := wB) (Ext.alloc (Ext.refl _) _) rfl) rfl (by decide) one0) (RI_block (block_of (w := wB.alloc _) (Ext.refl _) (by simp)) rfl (by decide) one1) (RS.nil _) (by decide) (by decide) (by decide)).mono ?_); rintro e wD ⟨he, xD⟩; rw [x5] at he; subst he; have HX := hid (HX.out.trans (Ext.trans (by repeat' (first | exact Ext.refl _ | assumption | apply Ext.alloc | apply Ext.drewN | apply Ext.drew)) xD)); clear xD)
        | (go_at_call 36; (with_reducible refine (KL.out _ CA EA WA 2 2 (some ⟨wB.heap.size, 0, none⟩) 1 1 none 0 0 (some ⟨S4, 0, none⟩) 5 5 eitherW ⟨1, [1], [], stepsP⟩ HG.out HW.out HR1.out (RI.nil _) HS4.out (by decide) (by decide) (by decide)).mono ?_); rintro e wE ⟨he, xE⟩; rw [x6] at he; subst he; have HX := hid (HX.out.trans xE); clear xE))
      go_region_held (fun W => W.cell? ⟨w1.heap.size, 0, none⟩ = some (.slice (some ⟨S, 0, none⟩) 5 5) ∧ W.cell? ⟨w2.heap.size, 0, none⟩ = some (.slice (some ⟨S2, 0, none⟩) 5 5) ∧ W.cell? ⟨w2.heap.size + 1 + 1, 0, none⟩ = some (.slice (some ⟨w2.heap.size + 1, 0, none⟩) 1 1)) (exact KP.out _ (Ext.trans HX.out (by repeat' (first | exact Ext.refl _ | assumption | apply Ext.alloc | apply Ext.drewN | apply Ext.drew)))) (first
        | (go_at_call 86; refine (f86_any _).mono ?_; rintro e wA ⟨CA, EA, rfl, rg, xA⟩; have HX := hid (HX.out.trans (Ext.trans (by repeat' (first | exact Ext.refl _ | assumption | apply Ext.alloc | apply Ext.drewN | apply Ext.drew)) xA)); have HG := hid rg; have XA := hid xA; clear rg xA)
        | (go_at_call 34; (with_reducible refine (KC.out _ CA EA none _ _ (some ⟨w2.heap.size + 1, 0, none⟩) 1 1 [] noneP true HG.out (RW.nil _) (R3.out.ext HX.out)).mono ?_); rintro e wD ⟨he, xD⟩; rw [x7] at he; subst he; have HX := hid (HX.out.trans xD); clear xD)
        | (go_at_call 36; (with_reducible refine (KL.out _ CA EA none 0 0 none 0 0 (some ⟨wA.heap.size, 0, none⟩) 1 1 (some ⟨w2.heap.size + 1, 0, none⟩) 1 1 [] ⟨3, [], [0], noneP⟩ (HG.out.ext (by repeat' (first | exact Ext.refl _ | assumption | apply Ext.alloc | apply Ext.drewN | apply Ext.drew))) (RW.nil _) (RI.nil _) (RI_block (xs := [0]) (n := 1) (block_of (w := wA) (Ext.refl _) rfl) rfl (by decide) one0) (R3.out.ext (Ext.trans HX.out (by repeat' (first | exact Ext.refl _ | assumption | apply Ext.alloc | apply Ext.drewN | apply Ext.drew)))) (by decide) (by decide) (by decide)).mono ?_); rintro e wF ⟨he, xF⟩; rw [x8] at he; subst he; have HX := hid (HX.out.trans (Ext.trans (by repeat' (first | exact Ext.refl _ | assumption | apply Ext.alloc | apply Ext.drewN | apply Ext.drew)) xF)); clear xF)
        | (go_at_call 36; (with_reducible refine (KL.out _ CA EA none 0 0 none 0 0 (some ⟨wD.heap.size, 0, none⟩) 1 1 (some ⟨w2.heap.size + 1, 0, none⟩) 1 1 [] ⟨3, [], [0], noneP⟩ HG.out (RW.nil _) (RI.nil _) (RI_block (xs := [0]) (n := 1) (block_of (w := wD) XA.out rfl) rfl (by decide) one0) (R3.out.ext (Ext.trans HX.out (by repeat' (first | exact Ext.refl _ | assumption | apply Ext.alloc | apply Ext.drewN | apply Ext.drew)))) (by decide) (by decide) (by decide)).mono ?_); rintro e wF ⟨he, xF⟩; rw [x8] at he; subst he; have HX := hid (HX.out.trans (Ext.trans (by repeat' (first | exact Ext.refl _ | assumption | apply Ext.alloc | apply Ext.drewN | apply Ext.drew)) xF)); clear xF)
        | (go_at_call 36; (with_reducible refine (KL.out _ CA EA none 0 0 none 0 0 none 0 0 (some ⟨w2.heap.size + 1, 0, none⟩) 1 1 [] ⟨3, [], [], noneP⟩ HG.out (RW.nil _) (RI.nil _) (RI.nil _) (R3.out.ext HX.out) (by decide) (by decide) (by decide)).mono ?_); rintro e wG ⟨he, xG⟩; rw [x9] at he; subst he; have HX := hid (HX.out.trans xG); have HXG := hid (Ext.refl wG); clear xG))
      all_goals
        go_wp2_with (first
          | (go_at_call 32; (with_reducible refine (holds_any (some ⟨wG.heap.size, 0, none⟩) (some ⟨wG.heap.size + 1, 0, none⟩) (some ⟨wG.heap.size + 1 + 1, 0, none⟩) 1 1 1 1 2 2 ⟨[1], [0]⟩ [1, 2] _ (RI_block (block_of (w := wG) (by repeat' (first | exact Ext.refl _ | assumption | apply Ext.alloc | apply Ext.drewN | apply Ext.drew)) rfl) rfl (by decide) one1) (RI_block (block_of (w := wG.alloc _) (by repeat' (first | exact Ext.refl _ | assumption | apply Ext.alloc | apply Ext.drewN | apply Ext.drew)) (by simp)) rfl (by decide) one0) (RI_block (block_of (w := (wG.alloc _).alloc _) (Ext.refl _) (by simp)) rfl (by decide) two12) (by decide)).mono ?_); rintro e wH ⟨he, xH⟩; rw [decide_eq_true x10] at he; subst he; have HX := hid (HX.out.trans (Ext.trans (by repeat' (first | exact Ext.refl _ | assumption | apply Ext.alloc | apply Ext.drewN | apply Ext.drew)) xH)); clear xH)
          | (go_at_call 32; (with_reducible refine (holds_any none (some ⟨wH.heap.size, 0, none⟩) (some ⟨wH.heap.size + 1, 0, none⟩) 0 0 1 1 1 1 ⟨[], [1]⟩ [1] _ (RI.nil _) (RI_block (block_of (w := wH) (by repeat' (first | exact Ext.refl _ | assumption | apply Ext.alloc | apply Ext.drewN | apply Ext.drew)) rfl) rfl (by decide) one1) (RI_block (block_of (w := wH.alloc _) (Ext.refl _) (by simp)) rfl (by decide) one1) (by decide)).mono ?_); rintro e wI ⟨he, xI⟩; rw [decide_eq_false x11] at he; subst he; have HX := hid (HX.out.trans (Ext.trans (by repeat' (first | exact Ext.refl _ | assumption | apply Ext.alloc | apply Ext.drewN | apply Ext.drew)) xI)); clear xI))
        go_ret
        exact ⟨rfl, HE5.out.trans HX.out⟩
    | _ => exact hQ.elim
end Go.Proofs.YthjifmfmaiagoaaGreatDoor

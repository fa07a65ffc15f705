/- C12: texts H39 H40 H41 H42. -/
import Derived.Test.YthjifmfmaiagoaaGreatDoorC06
import Derived.Test.YthjifmfmaiagoaaGreatDoorC11
set_option linter.all false

/- shows: a proof's steps are handed to the checker, and the first is checked. -/
namespace Go.Proofs.YthjifmfmaiagoaaGreatDoor
open Go.RowKit
attribute [local go_sem] Oper.semAt_some

def showsB (g : Graph) (ws : List Way) (hold : Bool) (ss : List Step) : Bool := decide (0 < ss.length ∧ ss.length ≤ 100000) && (rightM g ws hold ss ss.length 0 (List.replicate g.n.toNat 0) (List.replicate ss.length false)).isSome
theorem info4 : (Tryz.prog.info? 4).map (fun i => (i.zero, i.size, i.bytes)) = some (some (.bool false), 1, 1) := by kernel_rfl

/-- The checker with its question. -/
theorem mk_right {k : CkD} {w wS : World} (h : Rdy k w) {SA : Option Addr} {sn sc : Nat} {ss : List Step} (hs : RS k.w0 SA sn sc ss) (hold : Bool) {u : Nat} (hu : w.heap.size ≤ u)
    (os : wS.os = w.os) (tape : wS.tape = w.tape) (output : wS.output = w.output) (size : w.heap.size ≤ wS.heap.size) (hb : ∀ j, j < w.heap.size → j ≠ k.C → wS.heap[j]? = w.heap[j]?)
    (hcC : ∀ o x, o ≠ 4 → o ≠ 5 → o ≠ 8 → w.cell? ⟨k.C, o, none⟩ = some x → wS.cell? ⟨k.C, o, none⟩ = some x) (fz : ∀ j, wS.frozen? ⟨k.C, j, none⟩ = false)
    (c4 : wS.cell? ⟨k.C, 4, none⟩ = some (.bool hold)) (c5 : wS.cell? ⟨k.C, 5, none⟩ = some (.slice SA sn sc)) (c8 : wS.cell? ⟨k.C, 8, none⟩ = some (.slice (some ⟨u, 0, none⟩) sn sn))
    (hU : ∀ i, i < sn → wS.cell? ⟨u, i, none⟩ = some (.bool false) ∧ wS.frozen? ⟨u, i, none⟩ = false) (lU : u < wS.heap.size) :
    ∃ k' : CkD, k'.C = k.C ∧ k'.w0 = k.w0 ∧ k'.g = k.g ∧ k'.ws = k.ws ∧ k'.hold = hold ∧ k'.ss = ss ∧ k'.sn = sn ∧ RightI k' (List.replicate k.n 0) (List.replicate sn false) wS := by
  obtain ⟨B, vals, hg, hCB⟩ := h.grid
  have hV : ∀ v, v < k.n → k.V < w.heap.size := fun v hv => World.block_lt_of_cell? w _ (hg.cell v hv).1
  have w0w := h.ck.ext.size
  have hCl := h.ck.lC
  have x0 : Ext k.w0 wS := ⟨os.trans h.ck.ext.os, tape.trans h.ck.ext.tape, output.trans h.ck.ext.output, Nat.le_trans w0w size, fun j hj => (hb j (by omega) (by have := h.hC; omega)).trans (h.ck.ext.block j hj)⟩
  refine ⟨{ k with U := u, hold := hold, ss := ss, SA := SA, sn := sn, sc := sc, sv := .slice (some ⟨u, 0, none⟩) sn sn }, rfl, rfl, rfl, rfl, rfl, rfl, rfl, ?_⟩
  have hKl := MapFn.lt h.ck.kinds
  refine { ck := ?_, tu := by show k.T ≠ u; have := h.ck.lT; omega, sv := ⟨sn, rfl⟩, hst := by show (List.replicate k.n (0 : Int)).length = k.n; simp, row := ?_, hsn := by show (List.replicate sn false).length = sn; simp, rowb := ?_, lU := lU }
  · exact { ext := x0, rg := h.ck.rg, rws := h.ck.rws, rs := hs, hn := h.ck.hn, n1 := h.ck.n1, tC := ⟨h.ck.tC.1, by show k.C ≠ u; omega⟩,
            tV := ⟨h.ck.tV.1, by
              show k.V ≠ u
              rcases Nat.eq_zero_or_pos k.n with h0 | h0
              · exact fun e => by have := h.lV; omega
              · have := hV 0 h0; omega⟩
            tK := ⟨h.ck.tK.1, by show k.K ≠ u; omega⟩, t0 := ⟨h.ck.t0.1, by show k.w0.heap.size ≤ u; omega⟩, lC := by show k.C < wS.heap.size; omega
            lT := by show k.T < wS.heap.size; have := h.ck.lT; omega
            c0 := hcC 0 _ (by decide) (by decide) (by decide) h.ck.c0, c2 := hcC 2 _ (by decide) (by decide) (by decide) h.ck.c2, c3 := hcC 3 _ (by decide) (by decide) (by decide) h.ck.c3, c4 := c4, c5 := c5
            c6 := hcC 6 _ (by decide) (by decide) (by decide) h.ck.c6, c7 := hcC 7 _ (by decide) (by decide) (by decide) h.ck.c7, c8 := c8, c9 := hcC 9 _ (by decide) (by decide) (by decide) h.ck.c9, fz := fz
            kinds := MapFn.keep h.ck.kinds (hb _ hKl (fun e => h.neC.2.1 e.symm))
            evs := fun v hv => by
              obtain ⟨A, m, d, e1, e2, e3⟩ := hg.row hv
              have hVl := hV v hv
              refine ⟨A, m, d, by rw [← e1]; exact (World.cell?_of_block (w := w) (hb _ hVl (fun e => h.neC.1 e.symm))).trans (hg.cell v hv).1, ⟨e2.len, e2.cap, e2.big, fun i hi => ?_⟩, fun ad ha => ?_⟩
              · obtain ⟨ad, ha, hc⟩ := e2.cell i hi
                have h1 := (e3 ad ha).2
                exact ⟨ad, ha, (World.cell?_of_block (w := w) (by rw [add_block]; exact hb _ h1.2 (by omega))).trans hc⟩
              · have h1 := (e3 ad ha).2
                obtain ⟨B', m', d', e4, _, e6⟩ := h.ck.evs v hv
                have e7 : (.slice A m d : Value) = .slice B' m' d' := by
                  have := (hg.cell v hv).1
                  rw [e1, e4] at this
                  exact (Option.some.inj this).symm
                cases e7
                exact ⟨(e6 ad ha).1, by show ad.block ≠ u; omega, by show ad.block < wS.heap.size; omega⟩
            evl := h.ck.evl, ok := h.ck.ok, okw := h.ck.okw }
  · intro i hi
    have hi' : i < k.n := by rw [List.length_replicate] at hi; exact hi
    have hr := h.row i (by rw [List.length_replicate]; exact hi')
    have hbT := hb k.T h.ck.lT (fun e => h.ck.tC.1 e.symm)
    exact ⟨(World.cell?_of_block (w := w) hbT).trans hr.1, (World.frozen?_of_block (w := w) hbT).trans hr.2⟩
  · intro i hi
    have hi' : i < sn := by rw [List.length_replicate] at hi; exact hi
    show wS.cell? ⟨u, i, none⟩ = some (.bool (nthB (List.replicate sn false) i)) ∧ wS.frozen? ⟨u, i, none⟩ = false
    rw [nthB_eq hi, List.getElem_replicate]
    exact hU i hi'

set_option maxRecDepth 100000 in
set_option maxHeartbeats 4000000 in
theorem shows_any (k : CkD) (w : World) (h : Rdy k w) (SA : Option Addr) (sn sc : Nat) (ss : List Step) (hs : RS k.w0 SA sn sc ss) (hold : Bool) :
    Calls Tryz.prog 96 #[.pointer (some ⟨k.C, 0, none⟩), .agg #[.slice SA sn sc], .bool hold] w fun e w' => e = .returned (.bool (showsB k.g k.ws hold ss)) ∧ Ext k.w0 w' := by
  have hsn := hs.len
  have hn64 := Nat.le_trans hs.cap hs.big
  unfold showsB
  rw [hsn]
  have HH := hid h
  have HS := hid hs
  have hx0 : Ext w (w.alloc (.cells #[.slice SA sn sc] 36)) := (by repeat' (first | exact Ext.refl _ | assumption | apply Ext.alloc | apply Ext.drewN | apply Ext.drew))
  by_cases h0 : sn = 0
  · subst h0
    clear h hs
    go_enter Tryz.func96, Tryz.ntmps96
    go_wp2
    go_ret
    exact ⟨by simp, HH.out.ck.ext.trans hx0⟩
  · have h0z : ((sn : Int) == 0) = false := by simpa using (show ¬ (sn : Int) = 0 by omega)
    by_cases h1 : sn ≤ 100000
    · have d1 : decide ((sn : Int) > 100000) = false := decide_eq_false (by omega)
      have hms : ∀ W, (Instr.makeSlice 109 (.int .i64 (sn : Int)) (.int .i64 (sn : Int))).run Tryz.prog W = .ok (.slice (some ⟨W.heap.size, 0, none⟩) sn sn) (W.alloc (.cells (madeCells #[.bool false] sn) 4)) := fun W => run_make_row' 109 4 (.bool false) 1 Tryz.underlying109 info4 rfl .i64 .i64 sn (by omega) (by omega) W
      have f4 : ∀ j, w.frozen? ⟨k.C, j, none⟩ = false := h.ck.fz
      have c4 := h.ck.c4
      have c5 := h.ck.c5
      have c8 := h.ck.c8
      have hlC := h.ck.lC
      have HM : Hid (Calls Tryz.prog 147 #[.pointer (some ⟨k.C, 0, none⟩), .int .i64 0] (((((w.setCell ⟨k.C, 4, none⟩ (.bool hold)).setCell ⟨k.C, 5, none⟩ (.slice SA sn sc)).setCell ⟨k.C, 8, none⟩ (.slice (some ⟨w.heap.size + 1, 0, none⟩) sn sn)).alloc (.cells #[.slice SA sn sc] 36)).alloc (.cells (madeCells #[.bool false] sn) 4)).drew fun e w' => e = .returned (.bool (rightM k.g k.ws hold ss sn 0 (List.replicate k.g.n.toNat 0) (List.replicate sn false)).isSome) ∧ Ext k.w0 w') := by
        have hset : ∀ j, j ≠ k.C → (((w.setCell ⟨k.C, 4, none⟩ (.bool hold)).setCell ⟨k.C, 5, none⟩ (.slice SA sn sc)).setCell ⟨k.C, 8, none⟩ (.slice (some ⟨w.heap.size + 1, 0, none⟩) sn sn)).heap[j]? = w.heap[j]? := fun j hj =>
          ((Below.heap_setCell _ _ _ _ hj).trans (Below.heap_setCell _ _ _ _ hj)).trans (Below.heap_setCell _ _ _ _ hj)
        have hE : Ext (((w.setCell ⟨k.C, 4, none⟩ (.bool hold)).setCell ⟨k.C, 5, none⟩ (.slice SA sn sc)).setCell ⟨k.C, 8, none⟩ (.slice (some ⟨w.heap.size + 1, 0, none⟩) sn sn)) (((((w.setCell ⟨k.C, 4, none⟩ (.bool hold)).setCell ⟨k.C, 5, none⟩ (.slice SA sn sc)).setCell ⟨k.C, 8, none⟩ (.slice (some ⟨w.heap.size + 1, 0, none⟩) sn sn)).alloc (.cells #[.slice SA sn sc] 36)).alloc (.cells (madeCells #[.bool false] sn) 4)).drew := by repeat' (first | exact Ext.refl _ | apply Ext.drew | apply Ext.alloc)
        have hsz : (((w.setCell ⟨k.C, 4, none⟩ (.bool hold)).setCell ⟨k.C, 5, none⟩ (.slice SA sn sc)).setCell ⟨k.C, 8, none⟩ (.slice (some ⟨w.heap.size + 1, 0, none⟩) sn sn)).heap.size = w.heap.size := by simp
        have hw1 : (((w.setCell ⟨k.C, 4, none⟩ (.bool hold)).setCell ⟨k.C, 5, none⟩ (.slice SA sn sc)).setCell ⟨k.C, 8, none⟩ (.slice (some ⟨w.heap.size + 1, 0, none⟩) sn sn)).os = w.os ∧ (((w.setCell ⟨k.C, 4, none⟩ (.bool hold)).setCell ⟨k.C, 5, none⟩ (.slice SA sn sc)).setCell ⟨k.C, 8, none⟩ (.slice (some ⟨w.heap.size + 1, 0, none⟩) sn sn)).tape = w.tape ∧ (((w.setCell ⟨k.C, 4, none⟩ (.bool hold)).setCell ⟨k.C, 5, none⟩ (.slice SA sn sc)).setCell ⟨k.C, 8, none⟩ (.slice (some ⟨w.heap.size + 1, 0, none⟩) sn sn)).output = w.output := by
          have b1 := Below.setCell (Below.refl k.C w) (p := ⟨k.C, 4, none⟩) (Nat.le_refl _) (.bool hold)
          have b2 := Below.setCell b1 (p := ⟨k.C, 5, none⟩) (Nat.le_refl _) (.slice SA sn sc)
          have b3 := Below.setCell b2 (p := ⟨k.C, 8, none⟩) (Nat.le_refl _) (.slice (some ⟨w.heap.size + 1, 0, none⟩) sn sn)
          exact ⟨b3.os, b3.tape, b3.output⟩
        have hU : ∀ i, i < sn → (((((w.setCell ⟨k.C, 4, none⟩ (.bool hold)).setCell ⟨k.C, 5, none⟩ (.slice SA sn sc)).setCell ⟨k.C, 8, none⟩ (.slice (some ⟨w.heap.size + 1, 0, none⟩) sn sn)).alloc (.cells #[.slice SA sn sc] 36)).alloc (.cells (madeCells #[.bool false] sn) 4)).drew.cell? ⟨w.heap.size + 1, i, none⟩ = some (.bool false) ∧ (((((w.setCell ⟨k.C, 4, none⟩ (.bool hold)).setCell ⟨k.C, 5, none⟩ (.slice SA sn sc)).setCell ⟨k.C, 8, none⟩ (.slice (some ⟨w.heap.size + 1, 0, none⟩) sn sn)).alloc (.cells #[.slice SA sn sc] 36)).alloc (.cells (madeCells #[.bool false] sn) 4)).drew.frozen? ⟨w.heap.size + 1, i, none⟩ = false := fun i hi => by
          have hh : (((((w.setCell ⟨k.C, 4, none⟩ (.bool hold)).setCell ⟨k.C, 5, none⟩ (.slice SA sn sc)).setCell ⟨k.C, 8, none⟩ (.slice (some ⟨w.heap.size + 1, 0, none⟩) sn sn)).alloc (.cells #[.slice SA sn sc] 36)).alloc (.cells (madeCells #[.bool false] sn) 4)).drew.heap[w.heap.size + 1]? = some (.cells (madeCells #[.bool false] sn) 4 (0, 0)) := by
            have h2 := heap_alloc_new ((((w.setCell ⟨k.C, 4, none⟩ (.bool hold)).setCell ⟨k.C, 5, none⟩ (.slice SA sn sc)).setCell ⟨k.C, 8, none⟩ (.slice (some ⟨w.heap.size + 1, 0, none⟩) sn sn)).alloc (.cells #[.slice SA sn sc] 36)) (.cells (madeCells #[.bool false] sn) 4)
            have h3 : ((((w.setCell ⟨k.C, 4, none⟩ (.bool hold)).setCell ⟨k.C, 5, none⟩ (.slice SA sn sc)).setCell ⟨k.C, 8, none⟩ (.slice (some ⟨w.heap.size + 1, 0, none⟩) sn sn)).alloc (.cells #[.slice SA sn sc] 36)).heap.size = w.heap.size + 1 := by simp
            rw [h3] at h2
            exact h2
          exact ⟨(cell_heap hh i).1.trans (made_at _ sn i hi), (cell_heap hh i).2⟩
        obtain ⟨k', e1, e2, e3, e4, e5, e6, e7, hI⟩ := mk_right (wS := (((((w.setCell ⟨k.C, 4, none⟩ (.bool hold)).setCell ⟨k.C, 5, none⟩ (.slice SA sn sc)).setCell ⟨k.C, 8, none⟩ (.slice (some ⟨w.heap.size + 1, 0, none⟩) sn sn)).alloc (.cells #[.slice SA sn sc] 36)).alloc (.cells (madeCells #[.bool false] sn) 4)).drew) HH.out HS.out hold (u := w.heap.size + 1) (by omega)
          (hE.os.trans hw1.1) (hE.tape.trans hw1.2.1) (hE.output.trans hw1.2.2) (by have := hE.size; omega) (fun j hj hC => (hE.block j (by omega)).trans (hset j hC))
          (fun o x h4 h5 h8 hc => hE.cell (by rw [World.cell?_setCell_other _ _ _ _ (fun e => h8 (Addr.mk.inj e).2.1.symm), World.cell?_setCell_other _ _ _ _ (fun e => h5 (Addr.mk.inj e).2.1.symm), World.cell?_setCell_other _ _ _ _ (fun e => h4 (Addr.mk.inj e).2.1.symm)]; exact hc))
          (fun j => (Ext.frozen hE (by rw [hsz]; exact hlC)).trans (by rw [World.frozen?_setCell, World.frozen?_setCell, World.frozen?_setCell]; exact f4 j))
          (hE.cell (by rw [World.cell?_setCell_other _ _ _ _ (by simp), World.cell?_setCell_other _ _ _ _ (by simp)]; exact World.cell?_setCell_same _ _ _ c4))
          (hE.cell (by rw [World.cell?_setCell_other _ _ _ _ (by simp)]; exact World.cell?_setCell_same _ _ _ (by rw [World.cell?_setCell_other _ _ _ _ (by simp)]; exact c5)))
          (hE.cell (World.cell?_setCell_same _ _ _ (by rw [World.cell?_setCell_other _ _ _ _ (by simp), World.cell?_setCell_other _ _ _ _ (by simp)]; exact c8)))
          hU (by simp)
        have hR := right_any k' sn 0 (List.replicate k.n 0) (List.replicate sn false) (((((w.setCell ⟨k.C, 4, none⟩ (.bool hold)).setCell ⟨k.C, 5, none⟩ (.slice SA sn sc)).setCell ⟨k.C, 8, none⟩ (.slice (some ⟨w.heap.size + 1, 0, none⟩) sn sn)).alloc (.cells #[.slice SA sn sc] 36)).alloc (.cells (madeCells #[.bool false] sn) 4)).drew hI (by omega) (by omega)
        rw [e1, e3, e4, e5, e6] at hR
        refine hR.mono fun e w' hP => ⟨?_, ?_⟩
        · rw [hP.1, show k.g.n.toNat = k.n by rw [HH.out.ck.hn]; rfl]
        · have hx := hI.ck.ext
          have ht := hI.ck.t0
          rw [e2] at hx ht
          have hF := hP.2.1
          exact ⟨hF.os.trans hx.os, hF.tape.trans hx.tape, hF.output.trans hx.output, Nat.le_trans hx.size hF.size, fun j hj => (hF.block j (Nat.lt_of_lt_of_le hj hx.size) (by have := ht.1; omega) (by have := ht.2; omega)).trans (hx.block j hj)⟩
      clear h hs
      go_enter Tryz.func96, Tryz.ntmps96
      go_wp2_with fail
      have hne : ¬ k.C = w.heap.size := by omega
      go_region_held (fun w' => w'.cell? ⟨w.heap.size, 0, none⟩ = some (.slice SA sn sc)) (first | (go_keep; done) | exact Ext.cell (w := World.alloc _ (.cells #[.slice SA sn sc] 36)) (by repeat' (first | exact Ext.refl _ | apply Ext.drew | apply Ext.alloc)) (cellNew (by simp))) (fail)
      all_goals
        generalize (((((w.setCell ⟨k.C, 4, none⟩ (.bool hold)).setCell ⟨k.C, 5, none⟩ (.slice SA sn sc)).setCell ⟨k.C, 8, none⟩ (.slice (some ⟨w.heap.size + 1, 0, none⟩) sn sn)).alloc (.cells #[.slice SA sn sc] 36)).alloc (.cells (madeCells #[.bool false] sn) 4)).drew = wS at HM ⊢
        go_wp2_with (go_at_call 147; refine HM.out.mono ?_; rintro e w2 ⟨rfl, hx2⟩; have HX2 := hid hx2; clear hx2)
        go_ret
        exact ⟨by simp [h1, Nat.pos_of_ne_zero h0], HX2.out⟩
    · have d1 : decide ((sn : Int) > 100000) = true := decide_eq_true (by omega)
      clear h hs
      go_enter Tryz.func96, Tryz.ntmps96
      go_wp2
      go_ret
      exact ⟨by simp [h1], HH.out.ck.ext.trans hx0⟩
end Go.Proofs.YthjifmfmaiagoaaGreatDoor

/- Check. -/
namespace Go.Proofs.YthjifmfmaiagoaaGreatDoor
open Go.RowKit
attribute [local go_sem] Oper.semAt_some

theorem check_eq (g : Graph) (ws : List Way) (hold : Bool) (ss : List Step) : checkB g ws hold ss = (readyB g ws && showsB g ws hold ss) := by
  unfold checkB showsB
  rw [Bool.and_assoc]
set_option maxRecDepth 100000 in
set_option maxHeartbeats 4000000 in
theorem check_any (CA EA WA SA : Option Addr) (cn cc en ec wn wc sn sc : Nat) (g : Graph) (ws : List Way) (ss : List Step) (hold : Bool) (w : World) (h : Given w CA cn cc EA en ec WA wn wc g ws) (hs : RS w SA sn sc ss) :
    Calls Tryz.prog 34 #[.agg #[.int .i64 g.n, .slice CA cn cc, .slice EA en ec], .slice WA wn wc, .bool hold, .agg #[.slice SA sn sc]] w fun e w' => e = .returned (.bool (checkB g ws hold ss)) ∧ Ext w w' := by
  have hx1 : Ext w ((w.alloc (.cells #[.int .i64 g.n, .slice CA cn cc, .slice EA en ec] 25)).alloc (.cells #[.slice SA sn sc] 36)) := (by repeat' (first | exact Ext.refl _ | assumption | apply Ext.alloc | apply Ext.drewN | apply Ext.drew))
  have HX := hid hx1
  rw [check_eq]
  cases hr : readyB g ws with
  | false =>
    have K : Hid (Calls Tryz.prog 95 #[.agg #[.int .i64 g.n, .slice CA cn cc, .slice EA en ec], .slice WA wn wc] ((w.alloc (.cells #[.int .i64 g.n, .slice CA cn cc, .slice EA en ec] 25)).alloc (.cells #[.slice SA sn sc] 36)) fun e w' => e = .returned (.tuple #[.pointer none, .bool false]) ∧ Ext ((w.alloc (.cells #[.int .i64 g.n, .slice CA cn cc, .slice EA en ec] 25)).alloc (.cells #[.slice SA sn sc] 36)) w') := ready_bad CA EA WA cn cc en ec wn wc g ws _ (h.ext hx1) hr
    clear h hs hr hx1
    obtain ⟨N, cost, edges⟩ := g
    simp only [] at *
    go_enter Tryz.func34, Tryz.ntmps34
    go_wp2_with (go_at_call 95; refine K.out.mono ?_; rintro e w2 ⟨rfl, hx2⟩; have HX2 := hid hx2; clear hx2)
    go_ret
    exact ⟨by simp, HX.out.trans HX2.out⟩
  | true =>
    have K : Hid (Calls Tryz.prog 95 #[.agg #[.int .i64 g.n, .slice CA cn cc, .slice EA en ec], .slice WA wn wc] ((w.alloc (.cells #[.int .i64 g.n, .slice CA cn cc, .slice EA en ec] 25)).alloc (.cells #[.slice SA sn sc] 36)) fun e w' => ∃ k : CkD, e = .returned (.tuple #[.pointer (some ⟨k.C, 0, none⟩), .bool true]) ∧ k.w0 = ((w.alloc (.cells #[.int .i64 g.n, .slice CA cn cc, .slice EA en ec] 25)).alloc (.cells #[.slice SA sn sc] 36)) ∧ k.g = g ∧ k.ws = ws ∧ Ext ((w.alloc (.cells #[.int .i64 g.n, .slice CA cn cc, .slice EA en ec] 25)).alloc (.cells #[.slice SA sn sc] 36)) w' ∧ Rdy k w') := ready_good CA EA WA cn cc en ec wn wc g ws _ (h.ext hx1) hr
    have K2 : Hid (∀ (k : CkD) w2, k.w0 = ((w.alloc (.cells #[.int .i64 g.n, .slice CA cn cc, .slice EA en ec] 25)).alloc (.cells #[.slice SA sn sc] 36)) → k.g = g → k.ws = ws → Rdy k w2 → Calls Tryz.prog 96 #[.pointer (some ⟨k.C, 0, none⟩), .agg #[.slice SA sn sc], .bool hold] w2 fun e w' => e = .returned (.bool (showsB g ws hold ss)) ∧ Ext ((w.alloc (.cells #[.int .i64 g.n, .slice CA cn cc, .slice EA en ec] 25)).alloc (.cells #[.slice SA sn sc] 36)) w') := fun k w2 e1 e2 e3 hk => by
      have := shows_any k w2 hk SA sn sc ss (by rw [e1]; exact hs.ext hx1) hold
      rw [e1, e2, e3] at this
      exact this
    have HP : Hid (∀ w2, Ext ((w.alloc (.cells #[.int .i64 g.n, .slice CA cn cc, .slice EA en ec] 25)).alloc (.cells #[.slice SA sn sc] 36)) w2 → w2.cell? ⟨w.heap.size + 1, 0, none⟩ = some (.slice SA sn sc)) := fun w2 h2 => Ext.cell h2 (by simp)
    clear h hs hr hx1
    generalize showsB g ws hold ss = bb at K2 ⊢
    go_enter Tryz.func34, Tryz.ntmps34
    go_wp2_with (first
      | (go_at_call 95; refine K.out.mono ?_; rintro e w2 ⟨k, rfl, r1, r2, r3, r4, r5⟩; have HR := hid (And.intro r1 (And.intro r2 (And.intro r3 r5))); have hc2 := HP.out w2 r4; clear r1 r2 r3 r4 r5)
      | (go_at_call 96; refine (K2.out k _ HR.out.1 HR.out.2.1 HR.out.2.2.1 HR.out.2.2.2).mono ?_; rintro e w3 ⟨rfl, hx3⟩; have HX3 := hid hx3; clear hx3))
    go_ret
    exact ⟨by simp, HX.out.trans HX3.out⟩
end Go.Proofs.YthjifmfmaiagoaaGreatDoor

/- Rows of truth values: missing, Clone, Contains. -/
namespace Go.Proofs.YthjifmfmaiagoaaGreatDoor
open Go.RowKit
attribute [local go_sem] Oper.semAt_some

def boolVs (s : List Bool) : List Value := s.map Value.bool
/-- A slice reads as a row of truth values. -/
structure RB (w : World) (A : Option Addr) (n c : Nat) (s : List Bool) : Prop where
  len : s.length = n
  cap : n ≤ c
  big : c ≤ 9223372036854775807
  cell : ∀ i, i < n → ∃ ad, A = some ad ∧ w.cell? (ad.add i) = some (.bool (nthB s i))
theorem RB.ext {w w' : World} {A : Option Addr} {n c : Nat} {s : List Bool} (h : RB w A n c s) (e : Ext w w') : RB w' A n c s :=
  ⟨h.len, h.cap, h.big, fun i hi => by
    obtain ⟨ad, ha, hc⟩ := h.cell i hi
    exact ⟨ad, ha, e.cell hc⟩⟩
theorem RowB.rb {w : World} {U n : Nat} {s : List Bool} (h : RowB w U s) (hl : s.length = n) (hn : n ≤ 4000) : RB w (some ⟨U, 0, none⟩) n n s :=
  ⟨hl, Nat.le_refl _, by omega, fun i hi => ⟨_, rfl, by
    have := (h i (by omega)).1
    rw [← this]
    congr 1
    unfold Addr.add
    split <;> simp_all⟩⟩
set_option maxHeartbeats 400000 in
theorem f195_any (A : Option Addr) (n c : Nat) (s : List Bool) (v : Bool) (w : World) (hr : RB w A n c s) :
    Calls Tryz.prog 195 #[.slice A n c, .bool v] w fun e w' => (∃ i : Int, e = .returned (.int .i64 i) ∧ (decide (i ≥ 0) = s.any fun x => x == v)) ∧ w = w' := by
  have hn := Nat.le_trans hr.cap hr.big
  have hc := hr.cell
  have HL : Hid (s.length = n) := hr.len
  clear hr
  go_enter Tryz.func195, Tryz.ntmps195
  go_wp2
  go_loopg [8] n (fun gg s8 wr => ∃ kk : Nat, kk ≤ n ∧ n - kk ≤ gg ∧ s8 = .int .i64 kk ∧ w = wr ∧ Aside (∀ j, j < kk → nthB s j ≠ v))
  case atStart => exact ⟨0, Nat.zero_le _, by omega, rfl, rfl, fun j hj => absurd hj (Nat.not_lt_zero _)⟩
  case round =>
    obtain ⟨kk, hkk, hg, rfl, rfl, AA⟩ := hrel
    by_cases hlt : kk < n
    · have hltz : (kk : Int) < (n : Int) := by omega
      obtain ⟨ad, rfl, hcell⟩ := hc kk hlt
      clear hc
      generalize hy : nthB s kk = y at hcell
      have HY := hid hy
      clear hy
      by_cases hx : y = v
      · subst hx
        have d : (y == y) = true := by simp
        go_wp2
        exact bodyPost_ret (v := .int .i64 kk) (by simp [results, Tryz.results195, go_sem]) rfl ⟨⟨kk, rfl, by
          rw [decide_eq_true (by omega)]
          refine (List.any_eq_true.2 ⟨nthB s kk, ?_, by rw [HY.out]; simp⟩).symm
          rw [nthB_eq (by have := HL.out; omega)]
          exact List.getElem_mem _⟩, rfl⟩
      · have d : (v == y) = false := by
          cases v <;> cases y <;> simp_all
        have HX := hid hx
        clear hx
        go_wp2
        go_roundg (n - (kk + 1))
        case measure => omega
        case rel =>
          refine ⟨kk + 1, by omega, by omega, by go_num, rfl, (show Aside _ from fun j hj => ?_)⟩
          rcases Nat.lt_or_ge j kk with h1 | h1
          · exact AA.out j h1
          · obtain rfl : j = kk := by omega
            rw [HY.out]
            exact HX.out
    · have hltz : ¬ (kk : Int) < (n : Int) := by omega
      clear hc
      go_wp2
      exact bodyPost_ret (v := .int .i64 (-1)) (by simp [results, Tryz.results195, go_sem]) rfl ⟨⟨-1, rfl, by
        rw [decide_eq_false (by omega)]
        refine (List.any_eq_false.2 fun x hx h => ?_).symm
        obtain ⟨i, hi, e1⟩ := List.mem_iff_getElem.1 hx
        have := AA.out i (by have := HL.out; omega)
        rw [nthB_eq hi, e1] at this
        exact this (by simpa using h)⟩, rfl⟩
theorem f153_any (A : Option Addr) (n c : Nat) (s : List Bool) (v : Bool) (w : World) (hr : RB w A n c s) :
    Calls Tryz.prog 153 #[.slice A n c, .bool v] w fun e w' => e = .returned (.bool (s.any fun x => x == v)) ∧ w = w' := by
  have K := f195_any A n c s v w hr
  clear hr
  generalize (s.any fun x => x == v) = bb at K ⊢
  go_enter Tryz.func153, Tryz.ntmps153
  go_wp2_with (go_at_call 195; refine K.mono ?_; rintro e w' ⟨⟨i, rfl, hi⟩, rfl⟩; subst hi)
  go_ret
  exact ⟨rfl, rfl⟩
theorem equalIn_slice (ad : Addr) (n c : Nat) (w : World) (d : Nat) : (Op.equalIn (d + 1) 109 (.slice (some ad) n c) (.slice none 0 0)).run Tryz.prog w = .ok false w := by
  simp [Op.equalIn, run_underlying Tryz.underlying109]
theorem eql_slice (ad : Addr) (n c : Nat) (w : World) : (binOp .eql 109 (.slice (some ad) n c) (.slice none 0 0)).run Tryz.prog w = .ok (.bool false) w := by
  simp only [binOp]
  simp [Op.equal, Op.maxDepth, equalIn_slice ad n c w 9999]
set_option maxRecDepth 100000 in
set_option maxHeartbeats 400000 in
theorem f152_any (M n c : Nat) (s : List Bool) (w : World) (hr : RB w (some ⟨M, 0, none⟩) n c s) (hn : n ≤ 4000) :
    Calls Tryz.prog 152 #[.slice (some ⟨M, 0, none⟩) n c] w fun e w' => (∃ v, e = .returned v ∧ w'.ownsRow w.heap.size 4 1 v n (boolVs s)) ∧ Ext w w' := by
  have HS : Hid (AppSrc (w.alloc (.cells #[] 4)) 1 (some ⟨M, 0, none⟩) n c (boolVs s)) := ⟨fun h => (by cases h), by unfold boolVs; rw [List.length_map, hr.len, Nat.mul_one], fun ad ha j u hu => by
      cases ha
      unfold boolVs at hu
      rw [List.getElem?_map] at hu
      obtain ⟨y, hy, rfl⟩ := Option.map_eq_some_iff.1 hu
      obtain ⟨hj, rfl⟩ := List.getElem?_eq_some_iff.1 hy
      obtain ⟨ad', e, hc⟩ := hr.cell j (by rw [← hr.len]; exact hj)
      cases e
      exact Ext.cell (w := w) (by repeat' (first | exact Ext.refl _ | assumption | apply Ext.alloc | apply Ext.drewN | apply Ext.drew)) (hc.trans (by rw [nthB_eq hj])), fun u hu => by
      unfold boolVs at hu
      obtain ⟨x, _, rfl⟩ := List.mem_map.1 hu
      rfl⟩
  have heq := eql_slice
  clear hr
  go_enter Tryz.func152, Tryz.ntmps152
  go_wp2_with (at_builtin; refine appN w.heap.size rfl _ _ 109 4 (.bool false) 1 1 rfl Tryz.underlying109 info4 rfl (by decide) (by decide) (.slice (some ⟨w.heap.size, 0, none⟩) 0 0) 0 [] (some ⟨M, 0, none⟩) n c (boolVs s) rfl rfl HS.out (World.ownsRow_made _ _ 0 (by simp) (by decide) rfl) (by simp) (by omega) ?_; rintro v1 w1 hp1; have HP1 := hid hp1; have E1 : Hid (Ext w w1) := Ext.grown (by repeat' (first | exact Ext.refl _ | assumption | apply Ext.alloc | apply Ext.drewN | apply Ext.drew)) (World.ownsRow_made _ #[] 0 (size := 1) (e := 4) (by simp) (by decide) rfl) (Nat.le_refl _) hp1.2.1; clear hp1)
  exact bodyPost_ret (v := v1) (by simp [results, Tryz.results152, go_sem]) rfl ⟨⟨v1, rfl, by have := HP1.out.1; rw [Nat.zero_add, List.nil_append] at this; exact this⟩, E1.out⟩
set_option maxHeartbeats 800000 in
/-- missing: how many vertices of an edge are not members. -/
theorem f151_any (A : Option Addr) (m d b M n : Nat) (e : List Int) (s : List Bool) (w : World) (hr : RI w A m d e) (hb : w.cell? ⟨b, 0, none⟩ = some (.slice (some ⟨M, 0, none⟩) n n)) (hM : RowB w M s) (hs : s.length = n) (hin : ∀ x ∈ e, 0 ≤ x ∧ x < (n : Int)) (hm : m ≤ 4000) :
    Calls Tryz.prog 151 #[.slice A m d, .pointer (some ⟨b, 0, none⟩)] w fun e' w' => e' = .returned (.int .i64 (e.countP (fun v => !nthB s v.toNat) : Nat)) ∧ w = w' := by
  have hc := hr.cell
  have HL : Hid (e.length = m) := hr.len
  have HI := hid hin
  have HM := hid hM
  have HSL := hid hs
  clear hr hin hM hs
  go_enter Tryz.func151, Tryz.ntmps151
  go_wp2
  go_loopg [4, 9] m (fun gg s4 s9 wr => ∃ kk : Nat, kk ≤ m ∧ m - kk ≤ gg ∧ s9 = .int .i64 kk ∧ s4 = .int .i64 ((e.take kk).countP (fun v => !nthB s v.toNat) : Nat) ∧ w = wr)
  case atStart => exact ⟨0, Nat.zero_le _, by omega, rfl, by simp, rfl⟩
  case round =>
    obtain ⟨kk, hkk, hg, rfl, rfl, rfl⟩ := hrel
    by_cases hlt : kk < m
    · have hltz : (kk : Int) < (m : Int) := by omega
      obtain ⟨ad, rfl, hcell⟩ := hc kk hlt
      clear hc
      have hv := HI.out (nth e kk) (nth_mem (by have := HL.out; omega))
      obtain ⟨v, hvv⟩ : ∃ v : Nat, nth e kk = (v : Int) := ⟨_, (Int.toNat_of_nonneg hv.1).symm⟩
      have hvn : v < n := by rw [hvv] at hv; omega
      have hvz : (v : Int) < (n : Int) := by omega
      have hcm := (HM.out v (by have := HSL.out; omega)).1
      have HT : Hid ((e.take (kk + 1)).countP (fun v => !nthB s v.toNat) = (e.take kk).countP (fun v => !nthB s v.toNat) + if (!nthB s v) = true then 1 else 0) := by
        show _ = _
        rw [take_succ' (by have := HL.out; omega), List.countP_append, hvv, List.countP_singleton, Int.toNat_natCast]
      have hcnt : (e.take kk).countP (fun v => !nthB s v.toNat) ≤ kk := Nat.le_trans List.countP_le_length (by rw [List.length_take]; omega)
      rw [hvv] at hcell
      clear hv hvv
      generalize (e.take kk).countP (fun v => !nthB s v.toNat) = q at HT hcnt
      cases hb2 : nthB s v with
      | true =>
        rw [hb2] at hcm HT
        clear hb2
        go_wp2
        go_roundg (m - (kk + 1))
        case measure => omega
        case rel => exact ⟨kk + 1, by omega, by omega, by go_num, by rw [HT.out]; simp, rfl⟩
      | false =>
        rw [hb2] at hcm HT
        clear hb2
        have e1 : IntKind.i64.wrap ((q : Int) + 1) = (q : Int) + 1 := IntWalk.i64_in _ (by omega)
        go_wp2
        go_roundg (m - (kk + 1))
        case measure => omega
        case rel => exact ⟨kk + 1, by omega, by omega, by go_num, by rw [HT.out]; simp, rfl⟩
    · have hltz : ¬ (kk : Int) < (m : Int) := by omega
      have hk : kk = m := by omega
      subst hk
      clear hc
      have HE : Hid (e.take kk = e) := List.take_of_length_le (by have := HL.out; omega)
      rw [HE.out]
      go_wp2
      go_ret
      exact ⟨rfl, rfl⟩
end Go.Proofs.YthjifmfmaiagoaaGreatDoor

/- repair: whether a set is a repair. -/
namespace Go.Proofs.YthjifmfmaiagoaaGreatDoor
open Go.RowKit
attribute [local go_sem] Oper.semAt_some

theorem e151 : ∀ args w, (callFunc 151 args).run Tryz.prog w = .ok (.enter 151 args) w := enters_of Tryz.func151 (by kernel_rfl) rfl
/-- A row of truth values that may be written, in a block of its own. -/
structure NR (w : World) (lo M bx : Nat) (A : Option Addr) (n : Nat) (t : List Bool) : Prop where
  len : t.length = n
  at_ : ∀ i, i < n → ∃ G, A = some ⟨G, 0, none⟩ ∧ lo ≤ G ∧ G ≠ M ∧ G ≠ bx ∧ w.cell? ⟨G, i, none⟩ = some (.bool (nthB t i)) ∧ w.frozen? ⟨G, i, none⟩ = false
theorem NR.set {w : World} {lo M bx G n v : Nat} {t : List Bool} (h : NR w lo M bx (some ⟨G, 0, none⟩) n t) (hv : v < n) (x : Bool) : NR (w.setCell ⟨G, v, none⟩ (.bool x)) lo M bx (some ⟨G, 0, none⟩) n (t.set v x) :=
  ⟨by rw [List.length_set]; exact h.len, fun i hi => by
    obtain ⟨G', e, h1, h2, h3, h4, h5⟩ := h.at_ i hi
    cases e
    refine ⟨G, rfl, h1, h2, h3, ?_, by rw [World.frozen?_setCell]; exact h5⟩
    rw [nthB_set x (by rw [h.len]; exact hi)]
    by_cases e : v = i
    · subst e
      rw [if_pos rfl]
      exact World.cell?_setCell_same _ _ _ h4
    · rw [if_neg e, World.cell?_setCell_other _ _ _ _ (fun e2 => e (Addr.mk.inj e2).2.1)]
      exact h4⟩
theorem NR.rb {w : World} {lo M bx n c : Nat} {A : Option Addr} {t : List Bool} (h : NR w lo M bx A n t) (hc : n ≤ c) (hb : c ≤ 9223372036854775807) : RB w A n c t :=
  ⟨h.len, hc, hb, fun i hi => by
    obtain ⟨G, e, _, _, _, h4, _⟩ := h.at_ i hi
    refine ⟨_, e, ?_⟩
    rw [← h4]
    congr 1
    unfold Addr.add
    split <;> simp_all⟩
/-- What Clone has made. -/
theorem own_NR {w w2 : World} {M bx n : Nat} {v : Value} {s : List Bool} (hl : s.length = n) (hM : M < w.heap.size) (hb : bx < w.heap.size) (h : w2.ownsRow w.heap.size 4 1 v n (boolVs s)) : ∃ A c, v = .slice A n c ∧ n ≤ c ∧ c ≤ 9223372036854775807 ∧ NR w2 w.heap.size M bx A n s := by
  rcases h.2 with ⟨rfl, rfl⟩ | ⟨g, cap, cur, rfl, h1, h2, h3, h4, h5, h6⟩
  · exact ⟨none, 0, rfl, Nat.le_refl _, by omega, hl, fun i hi => absurd hi (Nat.not_lt_zero _)⟩
  · refine ⟨_, _, rfl, h3, by simp only [maxLen] at h4; omega, hl, fun i hi => ⟨g, rfl, h1, by omega, by omega, ?_, (cell_heap h2 i).2⟩⟩
    have hcc := h.cells (g := g) rfl i (.bool (nthB s i)) (by
      unfold boolVs
      rw [List.getElem?_map, List.getElem?_eq_getElem (by omega), nthB_eq (by omega)]
      rfl)
    rw [← hcc]
    congr 1
    unfold Addr.add
    split <;> simp_all
theorem nthB_rep (n i : Nat) : nthB (List.replicate n false) i = false := by
  unfold nthB
  rw [List.getD_eq_getElem?_getD, List.getElem?_replicate]
  split <;> rfl
theorem take_step {l : List Int} {kk v : Nat} (h : kk < l.length) (hv : nth l kk = (v : Int)) (i : Nat) : decide ((i : Int) ∈ l.take (kk + 1)) = if v = i then true else decide ((i : Int) ∈ l.take kk) := by
  rw [take_succ' h, hv]
  by_cases e : v = i
  · subst e
    rw [if_pos rfl]
    simp
  · rw [if_neg e]
    refine decide_eq_decide.2 ⟨fun hm => ?_, fun hm => List.mem_append_left _ hm⟩
    rcases List.mem_append.1 hm with h1 | h1
    · exact h1
    · have := List.mem_singleton.1 h1
      omega

set_option maxRecDepth 100000 in
set_option maxHeartbeats 8000000 in
theorem repair_any (k : CkD) (w : World) (h : Ck k w) (hn1 : k.n ≤ 100) (he10 : ∀ e ∈ k.g.edges, e.length ≤ 10) (A : Option Addr) (m c : Nat) (l : List Int) (hr : RI w A m c l) :
    Calls Tryz.prog 102 #[.pointer (some ⟨k.C, 0, none⟩), .slice A m c] w fun e w' => e = .returned (.bool (repB k.g l)) ∧ Ext w w' := by
  have hn := h.hn
  have K0 : Hid (Calls Tryz.prog 140 #[.slice A m c, .int .i64 (k.n : Int)] w fun e w' => e = .returned (.bool (decide (Verts l (k.n : Int)))) ∧ ∃ q, w' = w.drewN q) := f140_any A m c l k.n w hr
  have c0 := h.c0
  have hm := hr.lenle
  by_cases hv : Verts l (k.n : Int)
  · rw [decide_eq_true hv] at K0
    have HB := rep_by hn h.ok (l := l) (by rw [hn]; exact hv)
    rw [HB]
    clear HB
    have HV := hid hv
    have HRI := hid hr
    have HL : Hid (l.length = m) := hr.len
    have HRG := hid h.rg
    have hel := h.rg.edges.len
    have hen := h.rg.edges.lenle
    have HOK : Hid (∀ e ∈ k.g.edges, Verts e (k.n : Int)) := by rw [← hn]; exact h.ok
    have H10 := hid he10
    have HX0 := hid h.ext
    have hms : ∀ W, (Instr.makeSlice 109 (.int .i64 (k.n : Int)) (.int .i64 (k.n : Int))).run Tryz.prog W = .ok (.slice (some ⟨W.heap.size, 0, none⟩) k.n k.n) (W.alloc (.cells (madeCells #[.bool false] k.n) 4)) := fun W => run_make_row' 109 4 (.bool false) 1 Tryz.underlying109 info4 rfl .i64 .i64 k.n (by omega) (by omega) W
    have C2 : Hid (∀ W, Ext w W → W.cell? ⟨k.C, 2, none⟩ = some (.slice k.EA k.en k.ec)) := fun W hW => hW.cell h.c2
    have he151 := e151
    rw [hel]
    clear hv hr he10 hel
    have hc0d : ∀ q, (w.drewN q).cell? ⟨k.C, 0, none⟩ = some (.int .i64 k.n) := fun q => Ext.cell (Ext.drewN (Ext.refl w) q) c0
    clear h
    generalize k.EA = EA0 at HRG C2
    go_enter Tryz.func102, Tryz.ntmps102
    go_wp2_with (go_at_call 140; refine K0.out.mono ?_; rintro e w2 ⟨rfl, q, rfl⟩)
    have E3 : Hid (Ext w (((w.drewN q).alloc (.cells (madeCells #[.bool false] k.n) 4)).alloc (.cells #[.slice (some ⟨w.heap.size, 0, none⟩) k.n k.n] 109))) := (by repeat' (first | exact Ext.refl _ | assumption | apply Ext.alloc | apply Ext.drewN | apply Ext.drew))
    have hh : (((w.drewN q).alloc (.cells (madeCells #[.bool false] k.n) 4)).alloc (.cells #[.slice (some ⟨w.heap.size, 0, none⟩) k.n k.n] 109)).heap[w.heap.size]? = some (.cells (madeCells #[.bool false] k.n) 4 (0, 0)) := by
      have h1 := heap_alloc_new (w.drewN q) (.cells (madeCells #[.bool false] k.n) 4)
      have h2 : Ext ((w.drewN q).alloc (.cells (madeCells #[.bool false] k.n) 4)) (((w.drewN q).alloc (.cells (madeCells #[.bool false] k.n) 4)).alloc (.cells #[.slice (some ⟨w.heap.size, 0, none⟩) k.n k.n] 109)) := Ext.alloc (Ext.refl _) _
      exact (h2.block _ (by simp)).trans h1
    have M3 : Hid (RowB (((w.drewN q).alloc (.cells (madeCells #[.bool false] k.n) 4)).alloc (.cells #[.slice (some ⟨w.heap.size, 0, none⟩) k.n k.n] 109)) w.heap.size (List.replicate k.n false)) := fun i hi => by
      rw [List.length_replicate] at hi
      rw [nthB_rep]
      exact ⟨(cell_heap hh i).1.trans (made_at _ _ i hi), (cell_heap hh i).2⟩
    have B3 : Hid ((((w.drewN q).alloc (.cells (madeCells #[.bool false] k.n) 4)).alloc (.cells #[.slice (some ⟨w.heap.size, 0, none⟩) k.n k.n] 109)).cell? ⟨w.heap.size + 1, 0, none⟩ = some (.slice (some ⟨w.heap.size, 0, none⟩) k.n k.n)) := cellNew (by simp)
    have S3 : Hid ((((w.drewN q).alloc (.cells (madeCells #[.bool false] k.n) 4)).alloc (.cells #[.slice (some ⟨w.heap.size, 0, none⟩) k.n k.n] 109)).heap.size = w.heap.size + 2) := by simp [Hid]
    clear hh
    generalize (((w.drewN q).alloc (.cells (madeCells #[.bool false] k.n) 4)).alloc (.cells #[.slice (some ⟨w.heap.size, 0, none⟩) k.n k.n] 109)) = w3 at E3 M3 B3 S3 ⊢
    go_loopg [30] m (fun gg s30 wr => ∃ (kk : Nat) (s : List Bool), kk ≤ m ∧ m - kk ≤ gg ∧ s30 = .int .i64 kk ∧ Hid (Ext w wr ∧ RowB wr w.heap.size s ∧ s.length = k.n ∧ wr.cell? ⟨w.heap.size + 1, 0, none⟩ = some (.slice (some ⟨w.heap.size, 0, none⟩) k.n k.n) ∧ w3.heap.size ≤ wr.heap.size ∧ ∀ v, v < k.n → nthB s v = decide ((v : Int) ∈ l.take kk)))
    case atStart => exact ⟨0, _, Nat.zero_le _, by omega, rfl, E3.out, M3.out, by simp, B3.out, Nat.le_refl _, fun v hv => by rw [nthB_rep]; simp⟩
    case round =>
      obtain ⟨kk, s, hkk, hg, rfl, HI⟩ := hrel
      by_cases hlt : kk < m
      · have hltz : (kk : Int) < (m : Int) := by omega
        obtain ⟨ad, rfl, hcell⟩ := (HRI.out.ext HI.out.1).cell kk hlt
        have hmem := HV.out.2 (nth l kk) (nth_mem (by rw [HL.out]; exact hlt))
        obtain ⟨v, hvv⟩ : ∃ v : Nat, nth l kk = (v : Int) := ⟨_, (Int.toNat_of_nonneg hmem.1).symm⟩
        have hvn : v < k.n := by rw [hvv] at hmem; omega
        have hvz : (v : Int) < (k.n : Int) := by omega
        have HVV := hid hvv
        rw [hvv] at hcell
        have hb := HI.out.2.2.2.1
        have hrow := HI.out.2.1 v (by rw [HI.out.2.2.1]; exact hvn)
        obtain ⟨hr1, hr2⟩ := hrow
        have HN : Hid (Ext w (wr.setCell ⟨w.heap.size, v, none⟩ (.bool true)) ∧ RowB (wr.setCell ⟨w.heap.size, v, none⟩ (.bool true)) w.heap.size (s.set v true) ∧ (s.set v true).length = k.n ∧ (wr.setCell ⟨w.heap.size, v, none⟩ (.bool true)).cell? ⟨w.heap.size + 1, 0, none⟩ = some (.slice (some ⟨w.heap.size, 0, none⟩) k.n k.n) ∧ w3.heap.size ≤ (wr.setCell ⟨w.heap.size, v, none⟩ (.bool true)).heap.size ∧ ∀ i, i < k.n → nthB (s.set v true) i = decide ((i : Int) ∈ l.take (kk + 1))) :=
          ⟨Below.setCell HI.out.1 (Nat.le_refl _) _, HI.out.2.1.set (by rw [HI.out.2.2.1]; exact hvn) true, by rw [List.length_set]; exact HI.out.2.2.1, by rw [World.cell?_setCell_other _ _ _ _ (by simp)]; exact hb, by simp; exact HI.out.2.2.2.2.1, fun i hi => by
            rw [nthB_set true (by rw [HI.out.2.2.1]; exact hi), take_step (by rw [HL.out]; exact hlt) HVV.out, HI.out.2.2.2.2.2 i hi]⟩
        clear hmem hvv
        go_wp2
        go_roundg (m - (kk + 1))
        case measure => omega
        case rel => exact ⟨kk + 1, s.set v true, by omega, by omega, by go_num, HN.out⟩
      · have hltz : ¬ (kk : Int) < (m : Int) := by omega
        have hk : kk = m := by omega
        subst hk
        obtain ⟨wo, hwo⟩ : ∃ wo, wo = wr := ⟨_, rfl⟩
        subst hwo
        have HS : Hid (∀ v, v < k.n → nthB s v = decide ((v : Int) ∈ l)) := fun v hv => by rw [HI.out.2.2.2.2.2 v hv, List.take_of_length_le (by rw [HL.out]; exact Nat.le_refl _)]
        have hb := HI.out.2.2.2.1
        have KC : Hid (Calls Tryz.prog 152 #[.slice (some ⟨w.heap.size, 0, none⟩) k.n k.n] wo fun e w' => (∃ v, e = .returned v ∧ w'.ownsRow wo.heap.size 4 1 v k.n (boolVs s)) ∧ Ext wo w') := f152_any w.heap.size k.n k.n s wo (HI.out.2.1.rb HI.out.2.2.1 (by omega)) (by omega)
        have hsz : w.heap.size + 1 < wo.heap.size := by have := HI.out.2.2.2.2.1; have := S3.out; omega
        have HC2 := C2.out
        go_wp2_with (go_at_call 152; refine KC.out.mono ?_; rintro e w5 ⟨⟨v5, rfl, ho5⟩, hx5⟩; obtain ⟨A5, c5, rfl, hc5, hb5, hN5⟩ := own_NR (M := w.heap.size) (bx := w.heap.size + 1) HI.out.2.2.1 (by omega) hsz ho5; have H5 := hid (And.intro hx5 hN5); have hc2 := HC2 w5 (HI.out.1.trans hx5); clear ho5 hx5 hN5)
        clear HC2
        have N5 : Hid (NR w5 wo.heap.size w.heap.size (w.heap.size + 1) A5 k.n s) := H5.out.2
        have X5 : Hid (Ext wo w5) := H5.out.1
        have X05 : Hid (Ext w wo) := HI.out.1
        have MB : Hid (RowB wo w.heap.size s ∧ s.length = k.n ∧ wo.cell? ⟨w.heap.size + 1, 0, none⟩ = some (.slice (some ⟨w.heap.size, 0, none⟩) k.n k.n)) := ⟨HI.out.2.1, HI.out.2.2.1, HI.out.2.2.2.1⟩
        have he1 := HRG.out.edges
        clear he1 hb hc2 H5 HI
        go_loopg [47] k.en (fun gg s47 wr => ∃ (jj : Nat) (t : List Bool), jj ≤ k.en ∧ k.en - jj ≤ gg ∧ s47 = .int .i64 jj ∧ Hid (Ext wo wr ∧ NR wr wo.heap.size w.heap.size (w.heap.size + 1) A5 k.n t ∧ (∀ v, v < k.n → nthB t v = needB k.g.edges l jj v) ∧ ∀ i, i < jj → missC l (row k.g.edges i) ≠ 0))
        case atStart => exact ⟨0, s, Nat.zero_le _, by omega, rfl, X5.out, N5.out, fun v hv => by rw [HS.out v hv, needB_zero], fun i hi => absurd hi (Nat.not_lt_zero _)⟩
        case round =>
          obtain ⟨jj, t, hjj, hg2, rfl, HJ⟩ := hrel
          by_cases hlt2 : jj < k.en
          · have hltz2 : (jj : Int) < (k.en : Int) := by omega
            have hxw : Hid (Ext w wr) := X05.out.trans HJ.out.1
            obtain ⟨ad2, B, m2, d2, hEA, hcell20, hri0⟩ := ((HRG.out.edges).ext (HX0.out.trans X05.out)).cell jj hlt2
            have hcell2 := HJ.out.1.cell hcell20
            have hri2 := hri0.ext HJ.out.1
            have HRe := hid hri0
            have hmemE : row k.g.edges jj ∈ k.g.edges := row_mem (by rw [HRG.out.edges.len]; exact hlt2)
            have HVe : Hid (Verts (row k.g.edges jj) (k.n : Int)) := HOK.out _ hmemE
            have hm2 : m2 ≤ 10 := by rw [← hri2.len]; exact H10.out _ hmemE
            have hcnt : Hid ((row k.g.edges jj).countP (fun v => !nthB s v.toNat) = missC l (row k.g.edges jj)) := by
              show _ = _
              unfold missC
              refine List.countP_congr fun v hv => ?_
              have h1 := HVe.out.2 v hv
              rw [HS.out v.toNat (by omega), Int.toNat_of_nonneg h1.1]
              simp
            have KM : Hid (Calls Tryz.prog 151 #[.slice B m2 d2, .pointer (some ⟨w.heap.size + 1, 0, none⟩)] wr fun e' w' => e' = .returned (.int .i64 (missC l (row k.g.edges jj) : Nat)) ∧ wr = w') := by
              have := f151_any B m2 d2 (w.heap.size + 1) w.heap.size k.n (row k.g.edges jj) s wr hri2 (HJ.out.1.cell MB.out.2.2) (MB.out.1.ext HJ.out.1) MB.out.2.1 HVe.out.2 (by omega)
              rw [hcnt.out] at this
              exact this
            have HME := hid hmemE
            clear hri2 hri0 hcell20 hmemE hcnt
            have HF : Hid (missC l (row k.g.edges jj) = 0 → (k.g.edges.all fun e => decide (missC l e ≠ 0)) = false) := fun h0 => by
              rw [← Bool.not_eq_true]
              intro h1
              exact of_decide_eq_true (List.all_eq_true.1 h1 _ HME.out) h0
            have HQ : Hid (∀ v, needB k.g.edges l (jj + 1) v = (needB k.g.edges l jj v || (decide (missC l (row k.g.edges jj) = 1) && decide ((v : Int) ∈ row k.g.edges jj)))) := fun v => needB_succ _ _ _ _
            generalize hq : missC l (row k.g.edges jj) = q at KM HF HQ
            have HQQ := hid hq
            clear hq
            subst hEA
            by_cases q0 : q = 0
            · subst q0
              have HF0 := hid (HF.out rfl)
              clear HF
              go_wp2_with (go_at_call 151; refine KM.out.mono ?_; rintro e w6 ⟨rfl, rfl⟩)
              go_ret
              exact ⟨by rw [HF0.out]; rfl, hxw.out⟩
            · have q0z : ((q : Int) == 0) = false := by simpa using (show ¬ (q : Int) = 0 by omega)
              by_cases q1 : q = 1
              · subst q1
                obtain ⟨w6, hw6⟩ : ∃ w6, w6 = wr := ⟨_, rfl⟩
                subst hw6
                go_wp2_with (go_at_call 151; refine KM.out.mono ?_; rintro e w7 ⟨rfl, rfl⟩)
                go_loopg [60] m2 (fun g3 s60 wr3 => ∃ (ii : Nat) (t3 : List Bool), ii ≤ m2 ∧ m2 - ii ≤ g3 ∧ s60 = .int .i64 ii ∧ Hid (Ext wo wr3 ∧ NR wr3 wo.heap.size w.heap.size (w.heap.size + 1) A5 k.n t3 ∧ ∀ v, v < k.n → nthB t3 v = (needB k.g.edges l jj v || decide ((v : Int) ∈ (row k.g.edges jj).take ii))))
                case atStart => exact ⟨0, t, Nat.zero_le _, by omega, rfl, HJ.out.1, HJ.out.2.1, fun v hv => by rw [HJ.out.2.2.1 v hv]; simp⟩
                case round =>
                  obtain ⟨ii, t3, hii, hg3, rfl, HT3⟩ := hrel
                  by_cases hlt3 : ii < m2
                  · have hltz3 : (ii : Int) < (m2 : Int) := by omega
                    obtain ⟨ad3, hB, hcell3⟩ := HRe.out.cell ii hlt3
                    have hcell3 := HT3.out.1.cell hcell3
                    have hmem := HVe.out.2 (nth (row k.g.edges jj) ii) (nth_mem (by rw [HRe.out.len]; exact hlt3))
                    obtain ⟨v, hvv⟩ : ∃ v : Nat, nth (row k.g.edges jj) ii = (v : Int) := ⟨_, (Int.toNat_of_nonneg hmem.1).symm⟩
                    have hvn : v < k.n := by rw [hvv] at hmem; omega
                    have hvz : (v : Int) < (k.n : Int) := by omega
                    have HVV := hid hvv
                    rw [hvv] at hcell3
                    obtain ⟨G, hA5, hG1, hG2, hG3, hG4, hG5⟩ := HT3.out.2.1.at_ v hvn
                    clear hmem hvv
                    subst hA5 hB
                    have HN : Hid (Ext wo (wr.setCell ⟨G, v, none⟩ (.bool true)) ∧ NR (wr.setCell ⟨G, v, none⟩ (.bool true)) wo.heap.size w.heap.size (w.heap.size + 1) (some ⟨G, 0, none⟩) k.n (t3.set v true) ∧ ∀ i, i < k.n → nthB (t3.set v true) i = (needB k.g.edges l jj i || decide ((i : Int) ∈ (row k.g.edges jj).take (ii + 1)))) :=
                      ⟨Below.setCell HT3.out.1 hG1 _, HT3.out.2.1.set hvn true, fun i hi => by
                        rw [nthB_set true (by rw [HT3.out.2.1.len]; exact hi), take_step (by rw [HRe.out.len]; exact hlt3) HVV.out, HT3.out.2.2 i hi]
                        split <;> simp⟩
                    clear hG1 hG2 hG3
                    go_wp2_with fail
                    go_roundg (m2 - (ii + 1))
                    case measure => omega
                    case rel => exact ⟨ii + 1, t3.set v true, by omega, by omega, by go_num, HN.out⟩
                  · have hltz3 : ¬ (ii : Int) < (m2 : Int) := by omega
                    have hi3 : ii = m2 := by omega
                    subst hi3
                    go_wp2_with fail
                    go_roundg (k.en - (jj + 1))
                    case measure => omega
                    case rel =>
                      refine ⟨jj + 1, t3, by omega, by omega, by go_num, HT3.out.1, HT3.out.2.1, fun v hv => ?_, fun i hi => ?_⟩
                      · rw [HT3.out.2.2 v hv, HQ.out v, List.take_of_length_le (by rw [HRe.out.len]; exact Nat.le_refl _)]
                        simp
                      · rcases Nat.lt_or_ge i jj with h1 | h1
                        · exact HJ.out.2.2.2 i h1
                        · obtain rfl : i = jj := by omega
                          rw [HQQ.out]
                          decide
              · have q1z : ((q : Int) == 1) = false := by simpa using (show ¬ (q : Int) = 1 by omega)
                go_wp2_with (go_at_call 151; refine KM.out.mono ?_; rintro e w6 ⟨rfl, rfl⟩)
                go_roundg (k.en - (jj + 1))
                case measure => omega
                case rel =>
                  refine ⟨jj + 1, t, by omega, by omega, by go_num, HJ.out.1, HJ.out.2.1, fun v hv => ?_, fun i hi => ?_⟩
                  · rw [HJ.out.2.2.1 v hv, HQ.out v, decide_eq_false q1]
                    simp
                  · rcases Nat.lt_or_ge i jj with h1 | h1
                    · exact HJ.out.2.2.2 i h1
                    · obtain rfl : i = jj := by omega
                      rw [HQQ.out]
                      exact q0
          · have hltz2 : ¬ (jj : Int) < (k.en : Int) := by omega
            have hj : jj = k.en := by omega
            have HA : Hid ((k.g.edges.all fun e => decide (missC l e ≠ 0)) = true) := List.all_eq_true.2 fun e he => decide_eq_true (by
              obtain ⟨i, hi, e1⟩ := List.mem_iff_getElem.1 he
              have := HJ.out.2.2.2 i (by have := HRG.out.edges.len; omega)
              rw [row_eq hi, e1] at this
              exact this)
            have HT : Hid ((!(t.any fun x => x == false)) = (List.range k.n).all fun v => needB k.g.edges l k.en v) := by
              show _ = _
              have hlen := HJ.out.2.1.len
              rw [Bool.eq_iff_iff, Bool.not_eq_true', List.any_eq_false, List.all_eq_true]
              constructor
              · intro h v hv
                have hv := List.mem_range.1 hv
                have h2 := h (nthB t v) (by rw [nthB_eq (by omega)]; exact List.getElem_mem _)
                rw [← hj, ← HJ.out.2.2.1 v hv]
                cases hb : nthB t v <;> simp_all
              · intro h x hx
                obtain ⟨i, hi, e1⟩ := List.mem_iff_getElem.1 hx
                have h2 := h i (List.mem_range.2 (by omega))
                rw [← hj, ← HJ.out.2.2.1 i (by omega), nthB_eq hi, e1] at h2
                rw [h2]
                simp
            have KF : Hid (Calls Tryz.prog 153 #[.slice A5 k.n c5, .bool false] wr fun e w' => e = .returned (.bool (t.any fun x => x == false)) ∧ wr = w') := f153_any A5 k.n c5 t false wr (HJ.out.2.1.rb hc5 hb5)
            obtain ⟨bb, hbb⟩ : ∃ bb, (t.any fun x => x == false) = bb := ⟨_, rfl⟩
            rw [hbb] at KF HT
            clear hbb
            go_wp2_with (go_at_call 153; refine KF.out.mono ?_; rintro e w6 ⟨rfl, rfl⟩)
            go_ret
            exact ⟨by rw [HA.out, Bool.true_and, ← HT.out]; rfl, X05.out.trans HJ.out.1⟩
  · rw [decide_eq_false hv] at K0
    have HB : Hid (repB k.g l = false) := rep_not (by rw [hn]; exact hv)
    rw [HB.out]
    clear h hr hv
    go_enter Tryz.func102, Tryz.ntmps102
    go_wp2_with (go_at_call 140; refine K0.out.mono ?_; rintro e w2 ⟨rfl, q, rfl⟩)
    go_ret
    exact ⟨rfl, (by repeat' (first | exact Ext.refl _ | assumption | apply Ext.alloc | apply Ext.drewN | apply Ext.drew))⟩
end Go.Proofs.YthjifmfmaiagoaaGreatDoor

/- C11: texts G2 G3 H37 H38. -/
import Derived.Deep.RegionHeld
import Derived.Test.YthjifmfmaiagoaaGreatDoorC06
import Derived.Test.YthjifmfmaiagoaaGreatDoorC07
import Derived.Test.YthjifmfmaiagoaaGreatDoorC09
import Derived.Test.YthjifmfmaiagoaaGreatDoorC10
set_option linter.all false

/- The closure that notes an edge at a vertex. -/
namespace Go.Proofs.YthjifmfmaiagoaaGreatDoor
open Go.RowKit

theorem info3g : (Tryz.prog.info? 3).map (fun i => (i.zero, i.size, i.bytes)) = some (some (.int .i64 0), 1, 8) := by kernel_rfl
/-- append as one step of a region that draws. -/
theorem stepApp {ops : Array Oper} {o : Oper} {a : Act} {K : Act → World → Prop} {Q : Exit → Act → World → Prop} {E : Prop} {W : World} (B : Nat) (hgd : o.guard = none) (s x : Operand) (t e : TypeId) (z : Value) (size bytes : Nat)
    (ho : o.op = .call { callee := .builtin .append, args := #[s, x], argTypes := #[t, t] })
    (ht : Tryz.prog.underlying t = some (.slice e)) (hinfo : (Tryz.prog.info? e).map (fun i => (i.zero, i.size, i.bytes)) = some (some z, size, bytes)) (hz : z.cells.size = size) (hs0 : 0 < size) (hb0 : 0 < bytes)
    (v : Value) (n : Nat) (xs : List Value) (A : Option Addr) (m c : Nat) (news : List Value) (hs : a.eval s = v) (hx : a.eval x = .slice A m c) (S : AppSrc W size A m c news)
    (HO : W.ownsRow B e size v n xs) (hB : B ≤ W.heap.size) (hl : (n + m) * bytes ≤ 140737488355328)
    (h : ∀ v1 w1, AppPost B e size n m v xs news W v1 w1 → K (a.put o.dst v1) w1) : if Region.wanted o (yielded ops a.tmps) = true then Oper.wp Tryz.prog o a W K Q else E := by
  have hw : Region.wanted o (yielded ops a.tmps) = true := by simp [Region.wanted, hgd]
  rw [if_pos hw]
  exact wpApp B s x t e z size bytes ho ht hinfo hz hs0 hb0 v n xs A m c news hs hx S HO hB hl h

theorem own_form {w : World} {B : Nat} {e : TypeId} {size : Nat} {v : Value} {n : Nat} {xs : List Value} (h : w.ownsRow B e size v n xs) : ∃ A c, v = .slice A n c := by
  rcases h.2 with ⟨rfl, rfl⟩ | ⟨g, cap, cur, rfl, _⟩
  · exact ⟨none, 0, rfl⟩
  · exact ⟨_, _, rfl⟩
/-- What lies outside a grid is as it was, and stays outside. -/
structure Kp (n V : Nat) (W : World) (vals : Nat → Value) (W' : World) (vals' : Nat → Value) : Prop where
  os : W'.os = W.os
  tape : W'.tape = W.tape
  output : W'.output = W.output
  size : W.heap.size ≤ W'.heap.size
  out : ∀ k, k < W.heap.size → k ≠ V → (∀ v, v < n → (vals v).ownBlock ≠ some k) → W'.heap[k]? = W.heap[k]? ∧ ∀ v, v < n → (vals' v).ownBlock ≠ some k
theorem heap_setCell_size (w : World) (a : Addr) (v : Value) : (w.setCell a v).heap.size = w.heap.size := by simp
section
variable {n V B v : Nat} {vals : Nat → Value} {L : Nat → List Int} {W W' w1 : World} {v1 : Value} {y : Int}
theorem note_post (hg : Grid W B V n vals L) (hv : v < n) (e : Ext W W') (hp : AppPost B 3 1 (L v).length 1 (vals v) (intVs' (L v)) [.int .i64 y] W' v1 w1) :
    ∃ vals', Grid (w1.setCell ⟨V, v, none⟩ v1) B V n vals' (fun u => if u = v then L v ++ [y] else L u) ∧ Kp n V W vals (w1.setCell ⟨V, v, none⟩ v1) vals' := by
  have hg' := hg.ext e
  refine ⟨_, hg'.push hv hp.1 hp.2.1 hp.2.2, ?_⟩
  have hset := Below.setCell (Below.refl V w1) (p := ⟨V, v, none⟩) (Nat.le_refl V) v1
  have h := hp.2.1
  refine ⟨hset.os.trans (h.1.trans e.os), hset.tape.trans (h.2.trans e.tape), hset.output.trans (h.3.trans e.output), Nat.le_trans e.size (Nat.le_trans h.4 hset.size), fun k hk hkV hko => ⟨?_, fun u hu => ?_⟩⟩
  · have hk' : k < W'.heap.size := Nat.lt_of_lt_of_le hk e.size
    rw [Below.heap_setCell _ _ _ _ hkV, h.5 k hk' (fun e2 => hko v hv e2.symm)]
    exact e.block k hk
  · by_cases e2 : u = v
    · simp only [if_pos e2]
      rcases hp.2.2 with e3 | ⟨b, e3, hb⟩
      · rw [e3]; exact hko v hv
      · rw [e3]
        intro h4
        cases h4
        have := e.size
        omega
    · simp only [if_neg e2]
      exact hko u hu
theorem note_keeps (hg : Grid W B V n vals L) (hv : v < n) (e : Ext W W') (hp : AppPost B 3 1 (L v).length 1 (vals v) (intVs' (L v)) [.int .i64 y] W' v1 w1) {a : Addr} {x : Value} (hc : W.cell? a = some x) (haV : a.block ≠ V) (hao : (vals v).ownBlock ≠ some a.block) :
    w1.cell? a = some x ∧ (w1.setCell ⟨V, v, none⟩ v1).cell? a = some x := by
  have hk := World.block_lt_of_cell? W a hc
  have hk' : a.block < W'.heap.size := Nat.lt_of_lt_of_le hk e.size
  have h1 : w1.cell? a = some x := (World.cell?_of_block (w := W) ((hp.2.1.5 a.block hk' (fun e2 => hao e2.symm)).trans (e.block a.block hk))).trans hc
  refine ⟨h1, ?_⟩
  rw [World.cell?_setCell_other _ _ _ _ (fun e => haV (by rw [← e]))]
  exact h1
theorem note_cell (hg : Grid W B V n vals L) (hv : v < n) (e : Ext W W') (hp : AppPost B 3 1 (L v).length 1 (vals v) (intVs' (L v)) [.int .i64 y] W' v1 w1) :
    w1.cell? ⟨V, v, none⟩ = some (vals v) ∧ w1.frozen? ⟨V, v, none⟩ = false := by
  have hc := hg.cell v hv
  have hk := World.block_lt_of_cell? W _ hc.1
  have hk' : V < W'.heap.size := Nat.lt_of_lt_of_le hk e.size
  have hb := (hp.2.1.5 V hk' (fun e2 => hg.notV v hv e2.symm)).trans (e.block V hk)
  exact ⟨(World.cell?_of_block (w := W) hb).trans hc.1, (World.frozen?_of_block (w := W) hb).trans hc.2⟩
end

set_option maxHeartbeats 4000000 in
theorem f146_any (b bi C V n i v B : Nat) (vals : Nat → Value) (L : Nat → List Int) (W : World) (hg : Grid W B V n vals L) (hv : v < n) (hn : n ≤ 4000) (hB : B ≤ W.heap.size) (hl : (L v).length ≤ 100000)
    (h1 : W.cell? ⟨b, 0, none⟩ = some (.pointer (some ⟨C, 0, none⟩))) (h2 : W.cell? ⟨C, 6, none⟩ = some (.slice (some ⟨V, 0, none⟩) n n)) (h3 : W.cell? ⟨bi, 0, none⟩ = some (.int .i64 (i : Int)))
    (hbV : b ≠ V) (hbo : ∀ u, u < n → (vals u).ownBlock ≠ some b) (hCV : C ≠ V) (hCo : ∀ u, u < n → (vals u).ownBlock ≠ some C) (hiV : bi ≠ V) (hio : ∀ u, u < n → (vals u).ownBlock ≠ some bi) :
    Calls Tryz.prog 146 #[.int .i64 (v : Int), .pointer (some ⟨b, 0, none⟩), .pointer (some ⟨bi, 0, none⟩)] W fun e w' => e = .returned (.tuple #[]) ∧ ∃ vals', Grid w' B V n vals' (fun u => if u = v then L v ++ [(i : Int)] else L u) ∧ Kp n V W vals w' vals' := by
  have hvz : (v : Int) < (n : Int) := by omega
  have hcv := (hg.cell v hv).1
  have hfz := (hg.cell v hv).2
  have HG := hid hg
  have HE : Hid (Ext W (W.drew.alloc (.cells #[.int .i64 (i : Int)] 3))) := (by repeat' (first | exact Ext.refl _ | assumption | apply Ext.alloc | apply Ext.drewN | apply Ext.drew))
  have HSrc : Hid (AppSrc (W.drew.alloc (.cells #[.int .i64 (i : Int)] 3)) 1 (some ⟨W.heap.size, 0, none⟩) 1 1 [.int .i64 (i : Int)]) := ⟨fun h => (by cases h), rfl, fun ad ha j u hu => (by cases ha; exact cell_one_new W.drew _ 3 j u hu), fun u hu => (by rw [List.mem_singleton.1 hu]; rfl)⟩
  have HOwn : Hid ((W.drew.alloc (.cells #[.int .i64 (i : Int)] 3)).ownsRow B 3 1 (vals v) (L v).length (intVs' (L v))) := (hg.ext HE.out).own v hv
  have HBB : Hid (B ≤ (W.drew.alloc (.cells #[.int .i64 (i : Int)] 3)).heap.size) := Nat.le_trans hB HE.out.size
  have a1 : (W.drew.alloc (.cells #[.int .i64 (i : Int)] 3)).cell? ⟨b, 0, none⟩ = some (.pointer (some ⟨C, 0, none⟩)) := HE.out.cell h1
  have a2 : (W.drew.alloc (.cells #[.int .i64 (i : Int)] 3)).cell? ⟨C, 6, none⟩ = some (.slice (some ⟨V, 0, none⟩) n n) := HE.out.cell h2
  have a3 : (W.drew.alloc (.cells #[.int .i64 (i : Int)] 3)).cell? ⟨bi, 0, none⟩ = some (.int .i64 (i : Int)) := HE.out.cell h3
  have a4 : (W.drew.alloc (.cells #[.int .i64 (i : Int)] 3)).cell? ⟨V, v, none⟩ = some (vals v) := HE.out.cell hcv
  have a5 : (W.alloc (.cells #[.int .i64 (i : Int)] 3)).cell? ⟨V, v, none⟩ = some (vals v) := Ext.cell (by repeat' (first | exact Ext.refl _ | assumption | apply Ext.alloc | apply Ext.drewN | apply Ext.drew)) hcv
  have HA := hid (And.intro a1 (And.intro a2 a3))
  clear hg
  go_enter Tryz.func146, Tryz.ntmps146
  go_wp2
  refine wp_region_held_drew (S := fun w' => w'.cell? ⟨b, 0, none⟩ = some (.pointer (some ⟨C, 0, none⟩)) ∧ w'.cell? ⟨C, 6, none⟩ = some (.slice (some ⟨V, 0, none⟩) n n) ∧ w'.cell? ⟨bi, 0, none⟩ = some (.int .i64 (i : Int))) mixed' ⟨h1, h2, h3⟩ (fun hS => ?_)
  refine wpAnyH_take (i := 0) (oi := { dst := some 4, op := Go.Op.load 104 (Go.Operand.tmp 1), type := 104, pos := "proof.go:67", after := #[], guard := none }) (v := ?v0) rfl (by kernel_rfl) (by kernel_rfl) (by kernel_rfl) (fun _ _ _ h => h) (Or.inl ⟨by rfl, ?hy0⟩) hS ?_
  case hy0 => (intro W hSw; (try dsimp only at hSw); go_simp; try with_reducible rfl)
  try simp only [Act.put, List.setIfInBounds_toArray, List.set_cons_zero, List.set_cons_succ]
  refine wpAnyH_take (i := 1) (oi := { dst := some 5, op := Go.Op.nilCheck (Go.Operand.tmp 4), type := 0, pos := "proof.go:67", after := #[{ on := 0, ground := Go.Ground.data }], guard := none }) (v := ?v1) rfl (by kernel_rfl) (by kernel_rfl) (by kernel_rfl) (fun _ _ _ h => h) (Or.inl ⟨by rfl, ?hy1⟩) hS ?_
  case hy1 => (intro W hSw; (try dsimp only at hSw); go_simp; try with_reducible rfl)
  try simp only [Act.put, List.setIfInBounds_toArray, List.set_cons_zero, List.set_cons_succ]
  refine wpAnyH_take (i := 2) (oi := { dst := some 6, op := Go.Op.fieldAddr 143 (Go.Operand.tmp 5) 4, type := 0, pos := "proof.go:67", after := #[{ on := 1, ground := Go.Ground.data }], guard := none }) (v := ?v2) rfl (by kernel_rfl) (by kernel_rfl) (by kernel_rfl) (fun _ _ _ h => h) (Or.inl ⟨by rfl, ?hy2⟩) hS ?_
  case hy2 => (intro W hSw; (try dsimp only at hSw); go_simp; try with_reducible rfl)
  try simp only [Act.put, List.setIfInBounds_toArray, List.set_cons_zero, List.set_cons_succ]
  refine wpAnyH_take (i := 3) (oi := { dst := some 7, op := Go.Op.load 23 (Go.Operand.tmp 6), type := 23, pos := "proof.go:67", after := #[{ on := 2, ground := Go.Ground.data }], guard := none }) (v := ?v3) rfl (by kernel_rfl) (by kernel_rfl) (by kernel_rfl) (fun _ _ _ h => h) (Or.inl ⟨by rfl, ?hy3⟩) hS ?_
  case hy3 => (intro W hSw; (try dsimp only at hSw); go_simp; try with_reducible rfl)
  try simp only [Act.put, List.setIfInBounds_toArray, List.set_cons_zero, List.set_cons_succ]
  refine wpAnyH_take (i := 4) (oi := { dst := some 8, op := Go.Op.move (Go.Operand.tmp 0), type := 3, pos := "proof.go:67", after := #[], guard := none }) (v := ?v4) rfl (by kernel_rfl) (by kernel_rfl) (by kernel_rfl) (fun _ _ _ h => h) (Or.inl ⟨by rfl, ?hy4⟩) hS ?_
  case hy4 => (intro W hSw; (try dsimp only at hSw); go_simp; try with_reducible rfl)
  try simp only [Act.put, List.setIfInBounds_toArray, List.set_cons_zero, List.set_cons_succ]
  refine wpAnyH_take (i := 5) (oi := { dst := some 9, op := Go.Op.load 104 (Go.Operand.tmp 1), type := 104, pos := "proof.go:67", after := #[], guard := none }) (v := ?v5) rfl (by kernel_rfl) (by kernel_rfl) (by kernel_rfl) (fun _ _ _ h => h) (Or.inl ⟨by rfl, ?hy5⟩) hS ?_
  case hy5 => (intro W hSw; (try dsimp only at hSw); go_simp; try with_reducible rfl)
  try simp only [Act.put, List.setIfInBounds_toArray, List.set_cons_zero, List.set_cons_succ]
  refine wpAnyH_take (i := 6) (oi := { dst := some 10, op := Go.Op.nilCheck (Go.Operand.tmp 9), type := 0, pos := "proof.go:67", after := #[{ on := 5, ground := Go.Ground.data }], guard := none }) (v := ?v6) rfl (by kernel_rfl) (by kernel_rfl) (by kernel_rfl) (fun _ _ _ h => h) (Or.inl ⟨by rfl, ?hy6⟩) hS ?_
  case hy6 => (intro W hSw; (try dsimp only at hSw); go_simp; try with_reducible rfl)
  try simp only [Act.put, List.setIfInBounds_toArray, List.set_cons_zero, List.set_cons_succ]
  refine wpAnyH_take (i := 7) (oi := { dst := some 11, op := Go.Op.fieldAddr 143 (Go.Operand.tmp 10) 4, type := 0, pos := "proof.go:67", after := #[{ on := 6, ground := Go.Ground.data }], guard := none }) (v := ?v7) rfl (by kernel_rfl) (by kernel_rfl) (by kernel_rfl) (fun _ _ _ h => h) (Or.inl ⟨by rfl, ?hy7⟩) hS ?_
  case hy7 => (intro W hSw; (try dsimp only at hSw); go_simp; try with_reducible rfl)
  try simp only [Act.put, List.setIfInBounds_toArray, List.set_cons_zero, List.set_cons_succ]
  refine wpAnyH_take (i := 8) (oi := { dst := some 12, op := Go.Op.load 23 (Go.Operand.tmp 11), type := 23, pos := "proof.go:67", after := #[{ on := 7, ground := Go.Ground.data }], guard := none }) (v := ?v8) rfl (by kernel_rfl) (by kernel_rfl) (by kernel_rfl) (fun _ _ _ h => h) (Or.inl ⟨by rfl, ?hy8⟩) hS ?_
  case hy8 => (intro W hSw; (try dsimp only at hSw); go_simp; try with_reducible rfl)
  try simp only [Act.put, List.setIfInBounds_toArray, List.set_cons_zero, List.set_cons_succ]
  refine wpAnyH_take (i := 9) (oi := { dst := some 13, op := Go.Op.move (Go.Operand.tmp 0), type := 3, pos := "proof.go:67", after := #[], guard := none }) (v := ?v9) rfl (by kernel_rfl) (by kernel_rfl) (by kernel_rfl) (fun _ _ _ h => h) (Or.inl ⟨by rfl, ?hy9⟩) hS ?_
  case hy9 => (intro W hSw; (try dsimp only at hSw); go_simp; try with_reducible rfl)
  try simp only [Act.put, List.setIfInBounds_toArray, List.set_cons_zero, List.set_cons_succ]
  refine wpAnyH_take (i := 10) (oi := { dst := some 14, op := Go.Op.indexAddr 23 (Go.Operand.tmp 12) (Go.Operand.tmp 13), type := 0, pos := "proof.go:67", after := #[{ on := 8, ground := Go.Ground.data }, { on := 9, ground := Go.Ground.data }], guard := none }) (v := ?v10) rfl (by kernel_rfl) (by kernel_rfl) (by kernel_rfl) (fun _ _ _ h => h) (Or.inl ⟨by rfl, ?hy10⟩) hS ?_
  case hy10 => (intro W hSw; (try dsimp only at hSw); go_simp; try with_reducible rfl)
  try simp only [Act.put, List.setIfInBounds_toArray, List.set_cons_zero, List.set_cons_succ]
  refine wpAnyH_take (i := 12) (oi := { dst := some 16, op := Go.Op.load 3 (Go.Operand.tmp 2), type := 3, pos := "proof.go:67", after := #[], guard := none }) (v := ?v12) rfl (by kernel_rfl) (by kernel_rfl) (by kernel_rfl) (fun _ _ _ h => h) (Or.inl ⟨by rfl, ?hy12⟩) hS ?_
  case hy12 => (intro W hSw; (try dsimp only at hSw); go_simp; try with_reducible rfl)
  try simp only [Act.put, List.setIfInBounds_toArray, List.set_cons_zero, List.set_cons_succ]
  refine wpAnyH_ready (rs := [11, 13]) (by kernel_rfl) (by simp) ?_
  refine AllReadyH.cons rfl (fun K hK => ?_) ?_
  · go_simp
    refine hK.out _ _ hS (fun _ => ?_)
    clear hK K
    refine wpAnyH_ready (rs := [13]) (by kernel_rfl) (by simp) ?_
    refine AllReadyH.cons rfl (fun K hK => ?_) AllReadyH.nil
    go_simp
    refine hK.out _ _ HA.out (fun _ => ?_)
    clear hK K
    refine wpAnyH_ready (rs := [14]) (by kernel_rfl) (by simp) ?_
    refine AllReadyH.cons rfl (fun K hK => ?_) AllReadyH.nil
    refine stepApp B rfl (.tmp 15) (.tmp 17) 22 3 (.int .i64 0) 1 8 rfl Tryz.underlying22 info3g rfl (by decide) (by decide) (vals v) (L v).length (intVs' (L v)) (some ⟨W.heap.size, 0, none⟩) 1 1 [.int .i64 (i : Int)] (by simp [Act.eval]) (by simp [Act.eval]) HSrc.out HOwn.out HBB.out (by omega) ?_
    intro v1 w1 hp
    obtain ⟨A1, c1, rfl⟩ := own_form hp.1
    have HN := hid (note_post HG.out hv HE.out hp)
    have hS1 := note_keeps HG.out hv HE.out hp h1 hbV (hbo v hv)
    have hS2 := note_keeps HG.out hv HE.out hp h2 hCV (hCo v hv)
    have hS3 := note_keeps HG.out hv HE.out hp h3 hiV (hio v hv)
    have hV1 := note_cell HG.out hv HE.out hp
    have hS1' := hS1.1
    have hS2' := hS2.1
    have hS3' := hS3.1
    have hV1' := hV1.1
    have hV1f := hV1.2
    refine hK.out _ _ ⟨hS1', hS2', hS3'⟩ (fun hS => ?_)
    clear hK K hp
    try simp only [Act.put, List.setIfInBounds_toArray, List.set_cons_zero, List.set_cons_succ]
    refine wpAnyH_take (i := 15) (oi := { dst := some 19, op := Go.Op.indexAddr 23 (Go.Operand.tmp 7) (Go.Operand.tmp 8), type := 0, pos := "proof.go:67", after := #[{ on := 3, ground := Go.Ground.data }, { on := 4, ground := Go.Ground.data }, { on := 0, ground := Go.Ground.phase }, { on := 1, ground := Go.Ground.phase }, { on := 2, ground := Go.Ground.phase }, { on := 3, ground := Go.Ground.phase }, { on := 4, ground := Go.Ground.phase }, { on := 5, ground := Go.Ground.phase }, { on := 6, ground := Go.Ground.phase }, { on := 7, ground := Go.Ground.phase }, { on := 8, ground := Go.Ground.phase }, { on := 9, ground := Go.Ground.phase }, { on := 10, ground := Go.Ground.phase }, { on := 11, ground := Go.Ground.phase }, { on := 12, ground := Go.Ground.phase }, { on := 13, ground := Go.Ground.phase }, { on := 14, ground := Go.Ground.phase }], guard := none }) (v := ?v15) rfl (by kernel_rfl) (by kernel_rfl) (by kernel_rfl) (fun _ _ _ h => h) (Or.inl ⟨by rfl, ?hy15⟩) hS ?_
    case hy15 => (intro W hSw; (try dsimp only at hSw); go_simp; try with_reducible rfl)
    try simp only [Act.put, List.setIfInBounds_toArray, List.set_cons_zero, List.set_cons_succ]
    refine wpAnyH_ready (rs := [16]) (by kernel_rfl) (by simp) ?_
    refine AllReadyH.cons rfl (fun K hK => ?_) AllReadyH.nil
    go_simp
    refine hK.out _ _ ⟨hS1.2, hS2.2, hS3.2⟩ (fun _ => ?_)
    clear hK K
    refine wpAnyH_done (by kernel_rfl) ?_ _
    go_wp2
    go_end0
    exact ⟨rfl, HN.out⟩
  refine AllReadyH.cons rfl (fun K hK => ?_) AllReadyH.nil
  go_simp
  refine hK.out _ _ HA.out (fun _ => ?_)
  clear hK K
  refine wpAnyH_ready (rs := [11]) (by kernel_rfl) (by simp) ?_
  refine AllReadyH.cons rfl (fun K hK => ?_) AllReadyH.nil
  go_simp
  refine hK.out _ _ HA.out (fun _ => ?_)
  clear hK K
  refine wpAnyH_ready (rs := [14]) (by kernel_rfl) (by simp) ?_
  refine AllReadyH.cons rfl (fun K hK => ?_) AllReadyH.nil
  refine stepApp B rfl (.tmp 15) (.tmp 17) 22 3 (.int .i64 0) 1 8 rfl Tryz.underlying22 info3g rfl (by decide) (by decide) (vals v) (L v).length (intVs' (L v)) (some ⟨W.heap.size, 0, none⟩) 1 1 [.int .i64 (i : Int)] (by simp [Act.eval]) (by simp [Act.eval]) HSrc.out HOwn.out HBB.out (by omega) ?_
  intro v1 w1 hp
  obtain ⟨A1, c1, rfl⟩ := own_form hp.1
  have HN := hid (note_post HG.out hv HE.out hp)
  have hS1 := note_keeps HG.out hv HE.out hp h1 hbV (hbo v hv)
  have hS2 := note_keeps HG.out hv HE.out hp h2 hCV (hCo v hv)
  have hS3 := note_keeps HG.out hv HE.out hp h3 hiV (hio v hv)
  have hV1 := note_cell HG.out hv HE.out hp
  have hS1' := hS1.1
  have hS2' := hS2.1
  have hS3' := hS3.1
  have hV1' := hV1.1
  have hV1f := hV1.2
  refine hK.out _ _ ⟨hS1', hS2', hS3'⟩ (fun hS => ?_)
  clear hK K hp
  try simp only [Act.put, List.setIfInBounds_toArray, List.set_cons_zero, List.set_cons_succ]
  refine wpAnyH_take (i := 15) (oi := { dst := some 19, op := Go.Op.indexAddr 23 (Go.Operand.tmp 7) (Go.Operand.tmp 8), type := 0, pos := "proof.go:67", after := #[{ on := 3, ground := Go.Ground.data }, { on := 4, ground := Go.Ground.data }, { on := 0, ground := Go.Ground.phase }, { on := 1, ground := Go.Ground.phase }, { on := 2, ground := Go.Ground.phase }, { on := 3, ground := Go.Ground.phase }, { on := 4, ground := Go.Ground.phase }, { on := 5, ground := Go.Ground.phase }, { on := 6, ground := Go.Ground.phase }, { on := 7, ground := Go.Ground.phase }, { on := 8, ground := Go.Ground.phase }, { on := 9, ground := Go.Ground.phase }, { on := 10, ground := Go.Ground.phase }, { on := 11, ground := Go.Ground.phase }, { on := 12, ground := Go.Ground.phase }, { on := 13, ground := Go.Ground.phase }, { on := 14, ground := Go.Ground.phase }], guard := none }) (v := ?v15) rfl (by kernel_rfl) (by kernel_rfl) (by kernel_rfl) (fun _ _ _ h => h) (Or.inl ⟨by rfl, ?hy15⟩) hS ?_
  case hy15 => (intro W hSw; (try dsimp only at hSw); go_simp; try with_reducible rfl)
  try simp only [Act.put, List.setIfInBounds_toArray, List.set_cons_zero, List.set_cons_succ]
  refine wpAnyH_ready (rs := [16]) (by kernel_rfl) (by simp) ?_
  refine AllReadyH.cons rfl (fun K hK => ?_) AllReadyH.nil
  go_simp
  refine hK.out _ _ ⟨hS1.2, hS2.2, hS3.2⟩ (fun _ => ?_)
  clear hK K
  refine wpAnyH_done (by kernel_rfl) ?_ _
  go_wp2
  go_end0
  exact ⟨rfl, HN.out⟩
end Go.Proofs.YthjifmfmaiagoaaGreatDoor

/- The edges of each vertex, noted one by one; the map of the kinds. -/
namespace Go.Proofs.YthjifmfmaiagoaaGreatDoor
open Go.RowKit

/-- The edges below kk that contain v. -/
def notes (E : List (List Int)) (kk v : Nat) : List Int := ((List.range kk).filter fun j => decide ((v : Int) ∈ row E j)).map fun (j : Nat) => (j : Int)
theorem notes_zero (E : List (List Int)) (v : Nat) : notes E 0 v = [] := rfl
theorem notes_succ (E : List (List Int)) (kk v : Nat) : notes E (kk + 1) v = notes E kk v ++ if (v : Int) ∈ row E kk then [(kk : Int)] else [] := by
  unfold notes
  rw [List.range_succ, List.filter_append, List.map_append]
  congr 1
  by_cases h : (v : Int) ∈ row E kk
  · rw [if_pos h, List.filter_cons, if_pos (decide_eq_true h)]
    rfl
  · rw [if_neg h, List.filter_cons, if_neg (by rw [decide_eq_false h]; simp)]
    rfl
theorem notes_length (E : List (List Int)) (kk v : Nat) : (notes E kk v).length ≤ kk := by
  unfold notes
  rw [List.length_map]
  exact Nat.le_trans (List.length_filter_le _ _) (by rw [List.length_range]; exact Nat.le_refl _)
theorem mem_notes {E : List (List Int)} {kk v : Nat} {i : Int} : i ∈ notes E kk v ↔ ∃ j : Nat, i = j ∧ j < kk ∧ (v : Int) ∈ row E j := by
  unfold notes
  simp only [List.mem_map, List.mem_filter, List.mem_range, decide_eq_true_eq]
  exact ⟨fun ⟨j, ⟨h1, h2⟩, h3⟩ => ⟨j, h3.symm, h1, h2⟩, fun ⟨j, h1, h2, h3⟩ => ⟨j, ⟨h2, h3⟩, h1.symm⟩⟩
/-- What the first jj vertices of an edge add. -/
def part (e : List Int) (jj kk v : Nat) : List Int := if (v : Int) ∈ e.take jj then [(kk : Int)] else []
theorem part_zero (e : List Int) (kk v : Nat) : part e 0 kk v = [] := by unfold part; simp
theorem part_all (e : List Int) (kk v : Nat) : part e e.length kk v = if (v : Int) ∈ e then [(kk : Int)] else [] := by unfold part; rw [List.take_length]
theorem take_succ' {e : List Int} {jj : Nat} (h : jj < e.length) : e.take (jj + 1) = e.take jj ++ [nth e jj] := by
  rw [List.take_add_one, List.getElem?_eq_getElem h, nth_eq h]
  rfl
theorem not_mem_take {e : List Int} (hi : Inc e) {jj : Nat} (h : jj < e.length) : nth e jj ∉ e.take jj := fun hm => by
  obtain ⟨i, hi2, he⟩ := List.mem_iff_getElem.1 hm
  rw [List.length_take] at hi2
  have := (inc_iff e).1 hi i jj (by omega) h
  rw [List.getElem_take] at he
  rw [nth_eq (by omega : i < e.length), he] at this
  omega
theorem part_step {e : List Int} (hi : Inc e) {jj kk u v : Nat} (h : jj < e.length) (hu : nth e jj = (u : Int)) (N : Nat → List Int) :
    (if v = u then (N u ++ part e jj kk u) ++ [(kk : Int)] else N v ++ part e jj kk v) = N v ++ part e (jj + 1) kk v := by
  unfold part
  rw [take_succ' h, hu]
  by_cases hv : v = u
  · subst hv
    rw [if_pos rfl, if_neg (by rw [← hu]; exact not_mem_take hi h), if_pos (by simp), List.append_nil]
  · rw [if_neg hv]
    congr 1
    by_cases hm : (v : Int) ∈ e.take jj
    · rw [if_pos hm, if_pos (List.mem_append_left _ hm)]
    · rw [if_neg hm, if_neg (fun h2 => by
        rcases List.mem_append.1 h2 with h3 | h3
        · exact hm h3
        · have := List.mem_singleton.1 h3
          omega)]
theorem Grid.congr {w : World} {B V n : Nat} {vals : Nat → Value} {L L' : Nat → List Int} (h : Grid w B V n vals L) (hL : ∀ v, v < n → L v = L' v) : Grid w B V n vals L' :=
  ⟨h.cell, fun v hv => by rw [← hL v hv]; exact h.own v hv, h.notV, h.apart⟩
section
variable {n V : Nat} {W W' W'' : World} {vals vals' vals'' : Nat → Value}
theorem Kp.refl (n V : Nat) (W : World) (vals : Nat → Value) : Kp n V W vals W vals := ⟨rfl, rfl, rfl, Nat.le_refl _, fun k _ _ ho => ⟨rfl, ho⟩⟩
theorem Kp.trans (h : Kp n V W vals W' vals') (k : Kp n V W' vals' W'' vals'') : Kp n V W vals W'' vals'' :=
  ⟨k.os.trans h.os, k.tape.trans h.tape, k.output.trans h.output, Nat.le_trans h.size k.size, fun j hj hV ho => by
    have h1 := h.out j hj hV ho
    have h2 := k.out j (Nat.lt_of_lt_of_le hj h.size) hV h1.2
    exact ⟨h2.1.trans h1.1, h2.2⟩⟩
theorem Kp.ext (h : Kp n V W vals W' vals') (e : Ext W' W'') : Kp n V W vals W'' vals' :=
  ⟨e.os.trans h.os, e.tape.trans h.tape, e.output.trans h.output, Nat.le_trans h.size e.size, fun j hj hV ho => by
    have h1 := h.out j hj hV ho
    exact ⟨(e.block j (Nat.lt_of_lt_of_le hj h.size)).trans h1.1, h1.2⟩⟩
theorem Kp.cell (h : Kp n V W vals W' vals') {a : Addr} {x : Value} (hc : W.cell? a = some x) (hV : a.block ≠ V) (ho : ∀ v, v < n → (vals v).ownBlock ≠ some a.block) : W'.cell? a = some x :=
  (World.cell?_of_block (w := W) (h.out _ (World.block_lt_of_cell? W a hc) hV ho).1).trans hc
/-- Before anything is noted. -/
theorem Grid.start {B : Nat} (hc : ∀ v, v < n → W.cell? ⟨V, v, none⟩ = some (.slice none 0 0) ∧ W.frozen? ⟨V, v, none⟩ = false) : Grid W B V n (fun _ => .slice none 0 0) (fun _ => []) :=
  ⟨hc, fun _ _ => World.ownsRow_nil _ _ _ _, fun _ _ h => (by cases h), fun _ _ _ _ _ _ h => (by cases h)⟩
theorem none_out (b : Nat) : ∀ v, v < n → (Value.slice none 0 0).ownBlock ≠ some b := fun _ _ h => by cases h
end
/-- The map of the kinds. -/
theorem kinds_made (w : World) : ∃ w4 w5 w6 w7 w8, (Instr.mapUpdate 141 (.map (some w.heap.size)) (.int .i64 1) (.func (.func 141) #[] #[])).run Tryz.prog (w.alloc (.map #[] 0)) = .ok () w4 ∧
    (Instr.mapUpdate 141 (.map (some w.heap.size)) (.int .i64 2) (.func (.func 142) #[] #[])).run Tryz.prog w4 = .ok () w5 ∧
    (Instr.mapUpdate 141 (.map (some w.heap.size)) (.int .i64 3) (.func (.func 143) #[] #[])).run Tryz.prog w5 = .ok () w6 ∧
    (Instr.mapUpdate 141 (.map (some w.heap.size)) (.int .i64 4) (.func (.func 144) #[] #[])).run Tryz.prog w6 = .ok () w7 ∧
    (Instr.mapUpdate 141 (.map (some w.heap.size)) (.int .i64 5) (.func (.func 145) #[] #[])).run Tryz.prog w7 = .ok () w8 ∧ MapFn (Value.int .i64) w8 w.heap.size kindF ∧ Ext w w8 := by
  obtain ⟨w4, s1, m1, g1⟩ := run_store keys_int Tryz.underlying141 Tryz.underlying3 (MapFn.made (Value.int .i64) w) 1 (.func (.func 141) #[] #[])
  obtain ⟨w5, s2, m2, g2⟩ := run_store keys_int Tryz.underlying141 Tryz.underlying3 m1 2 (.func (.func 142) #[] #[])
  obtain ⟨w6, s3, m3, g3⟩ := run_store keys_int Tryz.underlying141 Tryz.underlying3 m2 3 (.func (.func 143) #[] #[])
  obtain ⟨w7, s4, m4, g4⟩ := run_store keys_int Tryz.underlying141 Tryz.underlying3 m3 4 (.func (.func 144) #[] #[])
  obtain ⟨w8, s5, m5, g5⟩ := run_store keys_int Tryz.underlying141 Tryz.underlying3 m4 5 (.func (.func 145) #[] #[])
  have gr : ∀ {a b : World}, Ext w a → a.grownBy b (some w.heap.size) → Ext w b := fun {a b} h g => Below.grown h g h.size fun k hk => by cases hk; exact Nat.le_refl _
  refine ⟨w4, w5, w6, w7, w8, s1, s2, s3, s4, s5, ?_, gr (gr (gr (gr (gr (Ext.alloc (Ext.refl w) _) g1) g2) g3) g4) g5⟩
  have e : kindF = fun x : Int => if x = 5 then some (.func (.func 145) #[] #[]) else if x = 4 then some (.func (.func 144) #[] #[]) else if x = 3 then some (.func (.func 143) #[] #[]) else if x = 2 then some (.func (.func 142) #[] #[]) else if x = 1 then some (.func (.func 141) #[] #[]) else none := by
    funext x
    unfold kindF
    by_cases h1 : x = 1
    · subst h1; rfl
    by_cases h2 : x = 2
    · subst h2; rfl
    by_cases h3 : x = 3
    · subst h3; rfl
    by_cases h4 : x = 4
    · subst h4; rfl
    by_cases h5 : x = 5
    · subst h5; rfl
    rw [if_neg h1, if_neg h2, if_neg h3, if_neg h4, if_neg h5, if_neg h5, if_neg h4, if_neg h3, if_neg h2, if_neg h1]
  rw [e]
  exact m5
end Go.Proofs.YthjifmfmaiagoaaGreatDoor

/- A proof's checker: the tests that come first. -/
namespace Go.Proofs.YthjifmfmaiagoaaGreatDoor
open Go.RowKit
attribute [local go_sem] Oper.semAt_some

theorem e139 : ∀ args w, (callFunc 139 args).run Tryz.prog w = .ok (.enter 139 args) w := enters_of Tryz.func139 (by kernel_rfl) rfl

set_option maxHeartbeats 1000000 in
theorem f139_any (b : Nat) (W : World) (N : Int) (hb : W.cell? ⟨b, 0, none⟩ = some (.int .i64 N)) (x : Way) (B B' : Option Addr) (m d m' d' : Nat) (hr : RI W B m d x.pos) (hr' : RI W B' m' d' x.neg) :
    Calls Tryz.prog 139 #[.agg #[.slice B m d, .slice B' m' d'], .pointer (some ⟨b, 0, none⟩)] W fun e w' => e = .returned (.bool (!formedB N x)) ∧ Ext W w' := by
  have HK1 : Hid (∀ W2, Ext W W2 → Calls Tryz.prog 140 #[.slice B m d, .int .i64 N] W2 fun e w' => e = .returned (.bool (decide (Verts x.pos N))) ∧ ∃ q, w' = W2.drewN q) := fun W2 hW => f140_any B m d _ N W2 (hr.ext hW)
  have HK2 : Hid (∀ W2, Ext W W2 → Calls Tryz.prog 140 #[.slice B' m' d', .int .i64 N] W2 fun e w' => e = .returned (.bool (decide (Verts x.neg N))) ∧ ∃ q, w' = W2.drewN q) := fun W2 hW => f140_any B' m' d' _ N W2 (hr'.ext hW)
  clear hr hr'
  unfold formedB
  generalize decide (Verts x.pos N) = b1 at HK1 ⊢
  generalize decide (Verts x.neg N) = b2 at HK2 ⊢
  have hb0 : (W.alloc (.cells #[.slice B m d, .slice B' m' d'] 43)).cell? ⟨b, 0, none⟩ = some (.int .i64 N) := Ext.cell (by repeat' (first | exact Ext.refl _ | assumption | apply Ext.alloc | apply Ext.drewN | apply Ext.drew)) hb
  clear hb
  cases b1 with
  | false =>
    go_enter Tryz.func139, Tryz.ntmps139
    go_wp2_with (go_at_call 140; refine (HK1.out _ (by repeat' (first | exact Ext.refl _ | assumption | apply Ext.alloc | apply Ext.drewN | apply Ext.drew))).mono ?_; rintro e w1 ⟨rfl, q, rfl⟩)
    go_ret
    exact ⟨by simp, (by repeat' (first | exact Ext.refl _ | assumption | apply Ext.alloc | apply Ext.drewN | apply Ext.drew))⟩
  | true =>
    go_enter Tryz.func139, Tryz.ntmps139
    go_wp2_with (first
      | (go_at_call 140; (with_reducible refine (HK1.out _ (by repeat' (first | exact Ext.refl _ | assumption | apply Ext.alloc | apply Ext.drewN | apply Ext.drew))).mono ?_); rintro e w1 ⟨rfl, q, rfl⟩)
      | (go_at_call 140; (with_reducible refine (HK2.out _ (by repeat' (first | exact Ext.refl _ | assumption | apply Ext.alloc | apply Ext.drewN | apply Ext.drew))).mono ?_); rintro e w2 ⟨rfl, q2, rfl⟩))
    go_ret
    exact ⟨by simp, (by repeat' (first | exact Ext.refl _ | assumption | apply Ext.alloc | apply Ext.drewN | apply Ext.drew))⟩

/-- What is given of a graph and ways before a checker is made. -/
structure Given (w : World) (CA : Option Addr) (cn cc : Nat) (EA : Option Addr) (en ec : Nat) (WA : Option Addr) (wn wc : Nat) (g : Graph) (ws : List Way) : Prop where
  rg : RG w CA cn cc EA en ec g
  rws : RW w WA wn wc ws
  e1000 : en ≤ 1000
  small : ∀ e ∈ g.edges, e.length ≤ 10
  n100 : g.n ≤ 100
theorem Given.ext {w w' : World} {CA EA WA : Option Addr} {cn cc en ec wn wc : Nat} {g : Graph} {ws : List Way} (h : Given w CA cn cc EA en ec WA wn wc g ws) (e : Ext w w') : Given w' CA cn cc EA en ec WA wn wc g ws :=
  ⟨h.rg.ext e, h.rws.ext e, h.e1000, h.small, h.n100⟩

set_option maxRecDepth 100000 in
set_option maxHeartbeats 4000000 in
theorem ready_bad (CA EA WA : Option Addr) (cn cc en ec wn wc : Nat) (g : Graph) (ws : List Way) (w : World) (h : Given w CA cn cc EA en ec WA wn wc g ws) (hb : readyB g ws = false) :
    Calls Tryz.prog 95 #[.agg #[.int .i64 g.n, .slice CA cn cc, .slice EA en ec], .slice WA wn wc] w fun e w' => e = .returned (.tuple #[.pointer none, .bool false]) ∧ Ext w w' := by
  have hwn := h.rws.len
  have hx0 : Ext w (w.alloc (.cells #[.int .i64 g.n, .slice CA cn cc, .slice EA en ec] 25)) := (by repeat' (first | exact Ext.refl _ | assumption | apply Ext.alloc | apply Ext.drewN | apply Ext.drew))
  have K1 : Hid (∀ W, Ext (w.alloc (.cells #[.int .i64 g.n, .slice CA cn cc, .slice EA en ec] 25)) W → Calls Tryz.prog 77 #[.slice WA wn wc, .func (.func 139) #[] #[.pointer (some ⟨w.heap.size, 0, none⟩)]] W fun e w' => e = .returned (.bool (!ws.all (formedB g.n))) ∧ Ext W w') := fun W hW => by
    rw [List.not_all_eq_any_not]
    exact f77_ext WA wn wc ws 139 _ e139 _ W (h.rws.ext (hx0.trans hW)) fun y hy B m d B' m' d' h1 h2 W2 hW2 =>
      f139_any w.heap.size W2 g.n (Ext.cell (hW.trans hW2) (by simp)) y B B' m d m' d' (h1.ext hW2) (h2.ext hW2)
  have K2 : Hid (∀ W, Ext (w.alloc (.cells #[.int .i64 g.n, .slice CA cn cc, .slice EA en ec] 25)) W → Calls Tryz.prog 108 #[.agg #[.int .i64 g.n, .slice CA cn cc, .slice EA en ec]] W fun e w' => e = .returned (.bool (decide (Valid g))) ∧ Ext W w') := fun W hW =>
    valid_any CA EA cn cc en ec g W (h.rg.ext (hx0.trans hW)) h.e1000 h.small h.n100
  have cg : ∀ W, Ext (w.alloc (.cells #[.int .i64 g.n, .slice CA cn cc, .slice EA en ec] 25)) W → W.cell? ⟨w.heap.size, 0, none⟩ = some (.int .i64 g.n) ∧ W.cell? ⟨w.heap.size, 1, none⟩ = some (.slice CA cn cc) ∧ W.cell? ⟨w.heap.size, 2, none⟩ = some (.slice EA en ec) := fun W hW => ⟨Ext.cell hW (by simp), Ext.cell hW (by simp), Ext.cell hW (by simp)⟩
  have HG := hid cg
  unfold readyB at hb
  rw [hwn] at hb
  clear h cg
  generalize ws.all (formedB g.n) = b1 at K1 hb
  generalize decide (Valid g) = b2 at K2 hb
  by_cases h4 : wn ≤ 400
  · rw [decide_eq_true h4, Bool.true_and] at hb
    have d4 : decide ((wn : Int) > 400) = false := decide_eq_false (by omega)
    cases b1 with
    | false =>
      clear hb K2
      go_enter Tryz.func95, Tryz.ntmps95
      go_wp2_with (go_at_call 77; refine (K1.out _ (Ext.refl _)).mono ?_; rintro e w1 ⟨rfl, hx1⟩)
      exact bodyPost_ret (v := .tuple #[.pointer none, .bool false]) (by simp [results, Tryz.results95, go_sem]) rfl ⟨rfl, hx0.trans hx1⟩
    | true =>
      rw [Bool.true_and] at hb
      subst hb
      go_enter Tryz.func95, Tryz.ntmps95
      go_wp2_with (first
        | (go_at_call 77; refine (K1.out _ (Ext.refl _)).mono ?_; rintro e w1 ⟨rfl, hx1⟩; have HX1 := hid hx1; obtain ⟨g0, g1, g2⟩ := HG.out w1 hx1; clear hx1)
        | (go_at_call 108; refine (K2.out _ HX1.out).mono ?_; rintro e w2 ⟨rfl, hx2⟩))
      exact bodyPost_ret (v := .tuple #[.pointer none, .bool false]) (by simp [results, Tryz.results95, go_sem]) rfl ⟨rfl, (hx0.trans HX1.out).trans hx2⟩
  · have d4 : decide ((wn : Int) > 400) = true := decide_eq_true (by omega)
    clear K1 K2 hb
    go_enter Tryz.func95, Tryz.ntmps95
    go_wp2
    exact bodyPost_ret (v := .tuple #[.pointer none, .bool false]) (by simp [results, Tryz.results95, go_sem]) rfl ⟨rfl, hx0⟩
end Go.Proofs.YthjifmfmaiagoaaGreatDoor

/- A proof's checker is made. -/
namespace Go.Proofs.YthjifmfmaiagoaaGreatDoor
open Go.RowKit
attribute [local go_sem] Oper.semAt_some

/-- What has been made for a checker. -/
structure Fresh95 (n : Nat) (CA : Option Addr) (cn cc : Nat) (EA : Option Addr) (en ec : Nat) (WA : Option Addr) (wn wc : Nat) (w2 w' : World) (V T C b : Nat) : Prop where
  ext : Ext w2 w'
  hV : w2.heap.size ≤ V
  hT : w2.heap.size ≤ T
  hC : w2.heap.size ≤ C
  hb : w2.heap.size ≤ b
  lV : V < w'.heap.size
  lT : T < w'.heap.size
  ne : V ≠ T ∧ V ≠ C ∧ V ≠ b ∧ T ≠ C ∧ T ≠ b ∧ C ≠ b
  cb : w'.cell? ⟨b, 0, none⟩ = some (.pointer (some ⟨C, 0, none⟩))
  c0 : w'.cell? ⟨C, 0, none⟩ = some (.int .i64 (n : Int))
  c2 : w'.cell? ⟨C, 2, none⟩ = some (.slice EA en ec)
  c3 : w'.cell? ⟨C, 3, none⟩ = some (.slice WA wn wc)
  c4 : w'.cell? ⟨C, 4, none⟩ = some (.bool false)
  c5 : w'.cell? ⟨C, 5, none⟩ = some (.slice none 0 0)
  c6 : w'.cell? ⟨C, 6, none⟩ = some (.slice (some ⟨V, 0, none⟩) n n)
  c7 : w'.cell? ⟨C, 7, none⟩ = some (.slice (some ⟨T, 0, none⟩) n n)
  c8 : w'.cell? ⟨C, 8, none⟩ = some (.slice none 0 0)
  c9 : w'.cell? ⟨C, 9, none⟩ = some (.map none)
  fz : ∀ j, w'.frozen? ⟨C, j, none⟩ = false
  vv : ∀ v, v < n → w'.cell? ⟨V, v, none⟩ = some (.slice none 0 0) ∧ w'.frozen? ⟨V, v, none⟩ = false
  tt : ∀ v, v < n → w'.cell? ⟨T, v, none⟩ = some (.int .i64 0) ∧ w'.frozen? ⟨T, v, none⟩ = false

/-- A checker that has been made, before it is asked. -/
structure Rdy (k : CkD) (w : World) : Prop where
  ck : Ck k w
  hC : k.w0.heap.size ≤ k.C
  lV : k.V < w.heap.size
  neC : k.C ≠ k.V ∧ k.C ≠ k.K ∧ k.C ≠ k.T
  grid : ∃ B vals, Grid w B k.V k.n vals (row k.evs) ∧ k.C < B
  row : RowI w k.T (List.replicate k.n 0)

theorem heap4 (w : World) (o0 o1 o2 o3 : Obj) : ((((w.alloc o0).alloc o1).alloc o2).alloc o3).drew.heap[w.heap.size]? = some o0 ∧ ((((w.alloc o0).alloc o1).alloc o2).alloc o3).drew.heap[w.heap.size + 1]? = some o1 ∧
    ((((w.alloc o0).alloc o1).alloc o2).alloc o3).drew.heap[w.heap.size + 1 + 1]? = some o2 ∧ ((((w.alloc o0).alloc o1).alloc o2).alloc o3).drew.heap[w.heap.size + 1 + 1 + 1]? = some o3 := by
  have h0 := heap_alloc_new w o0
  have h1 := heap_alloc_new (w.alloc o0) o1
  have h2 := heap_alloc_new ((w.alloc o0).alloc o1) o2
  have h3 := heap_alloc_new (((w.alloc o0).alloc o1).alloc o2) o3
  have s1 : (w.alloc o0).heap.size = w.heap.size + 1 := by simp
  have s2 : ((w.alloc o0).alloc o1).heap.size = w.heap.size + 1 + 1 := by simp
  have s3 : (((w.alloc o0).alloc o1).alloc o2).heap.size = w.heap.size + 1 + 1 + 1 := by simp
  rw [s1] at h1
  rw [s2] at h2
  rw [s3] at h3
  have k1 : Ext (w.alloc o0) (((((w.alloc o0).alloc o1).alloc o2).alloc o3).drew) := by repeat' (first | exact Ext.refl _ | apply Ext.alloc | apply Ext.drew)
  have k2 : Ext ((w.alloc o0).alloc o1) (((((w.alloc o0).alloc o1).alloc o2).alloc o3).drew) := by repeat' (first | exact Ext.refl _ | apply Ext.alloc | apply Ext.drew)
  have k3 : Ext (((w.alloc o0).alloc o1).alloc o2) (((((w.alloc o0).alloc o1).alloc o2).alloc o3).drew) := by repeat' (first | exact Ext.refl _ | apply Ext.alloc | apply Ext.drew)
  have k4 : Ext ((((w.alloc o0).alloc o1).alloc o2).alloc o3) (((((w.alloc o0).alloc o1).alloc o2).alloc o3).drew) := by repeat' (first | exact Ext.refl _ | apply Ext.alloc | apply Ext.drew)
  exact ⟨(k1.block _ (by omega)).trans h0, (k2.block _ (by omega)).trans h1, (k3.block _ (by omega)).trans h2, (k4.block _ (by simp)).trans h3⟩
theorem cell_heap {w : World} {b : Nat} {cs : Array Value} {t : TypeId} (h : w.heap[b]? = some (.cells cs t (0, 0))) (j : Nat) : w.cell? ⟨b, j, none⟩ = cs[j]? ∧ w.frozen? ⟨b, j, none⟩ = false :=
  ⟨cell_of_row w b j cs t (0, 0) h, by simp [World.frozen?, h]⟩
theorem made_at (z : Value) (n v : Nat) (hv : v < n) : (madeCells #[z] n)[v]? = some z := by simp [madeCells, hv, Nat.mod_one]
theorem fresh_of {n : Nat} {CA : Option Addr} {cn cc : Nat} {EA : Option Addr} {en ec : Nat} {WA : Option Addr} {wn wc : Nat} {w2 w' : World} {V T C b : Nat} (e : Ext w2 w') (hs : w2.heap.size ≤ V ∧ w2.heap.size ≤ T ∧ w2.heap.size ≤ C ∧ w2.heap.size ≤ b) (ne : V ≠ T ∧ V ≠ C ∧ V ≠ b ∧ T ≠ C ∧ T ≠ b ∧ C ≠ b)
    (oV : w'.heap[V]? = some (.cells (madeCells #[.slice none 0 0] n) 22 (0, 0))) (oT : w'.heap[T]? = some (.cells (madeCells #[.int .i64 0] n) 3 (0, 0)))
    (oC : w'.heap[C]? = some (.cells #[.int .i64 (n : Int), .slice CA cn cc, .slice EA en ec, .slice WA wn wc, .bool false, .slice none 0 0, .slice (some ⟨V, 0, none⟩) n n, .slice (some ⟨T, 0, none⟩) n n, .slice none 0 0, .map none] 143 (0, 0)))
    (ob : w'.heap[b]? = some (.cells #[.pointer (some ⟨C, 0, none⟩)] 104 (0, 0))) : Fresh95 n CA cn cc EA en ec WA wn wc w2 w' V T C b :=
  ⟨e, hs.1, hs.2.1, hs.2.2.1, hs.2.2.2, (Array.getElem?_eq_some_iff.1 oV).1, (Array.getElem?_eq_some_iff.1 oT).1, ne, (cell_heap ob 0).1, (cell_heap oC 0).1, (cell_heap oC 2).1, (cell_heap oC 3).1, (cell_heap oC 4).1, (cell_heap oC 5).1, (cell_heap oC 6).1, (cell_heap oC 7).1, (cell_heap oC 8).1, (cell_heap oC 9).1, fun j => (cell_heap oC j).2,
   fun v hv => ⟨((cell_heap oV v).1).trans (made_at _ n v hv), (cell_heap oV v).2⟩, fun v hv => ⟨((cell_heap oT v).1).trans (made_at _ n v hv), (cell_heap oT v).2⟩⟩

theorem Grid_own_lt {w : World} {B V n : Nat} {vals : Nat → Value} {L : Nat → List Int} (h : Grid w B V n vals L) : ∀ v, v < n → (vals v).ownBlock ≠ some w.heap.size := fun v hv e => by
  have := (own_lt (h.own v hv) e).1
  omega
/-- The checker, out of what has been made. -/
theorem mk_rdy {CA EA WA : Option Addr} {cn cc en ec wn wc : Nat} {g : Graph} {ws : List Way} {w w2 w3 w8 w9 wr : World} {n V T C b : Nat} {vals : Nat → Value}
    (HG : Given w CA cn cc EA en ec WA wn wc g ws) (hn : g.n = n) (hn1 : n ≤ 100) (hval : Valid g) (hform : ∀ x ∈ ws, Verts x.pos g.n ∧ Verts x.neg g.n) (hx : Ext w w2) (hF : Fresh95 n CA cn cc EA en ec WA wn wc w2 w3 V T C b) (e8 : Ext w3 w8) (mK : MapFn (Value.int .i64) w8 w3.heap.size kindF)
    (h9 : w9 = w8.setCell ⟨C, 9, none⟩ (.map (some w3.heap.size))) (hg : Grid wr w9.heap.size V n vals (notes g.edges en)) (hk : Kp n V w9 (fun _ => .slice none 0 0) wr vals) :
    ∃ k : CkD, k.C = C ∧ k.w0 = w ∧ k.g = g ∧ k.ws = ws ∧ Ext w wr ∧ Rdy k wr := by
  have l3 : w3.heap.size ≤ w8.heap.size := e8.size
  have l9 : w9.heap.size = w8.heap.size := by rw [h9]; simp
  have lV : n = 0 ∨ V < w3.heap.size := by
    rcases Nat.eq_zero_or_pos n with h0 | h0
    · exact .inl h0
    · exact .inr (World.block_lt_of_cell? w3 _ (hF.vv 0 h0).1)
  have lC : C < w3.heap.size := World.block_lt_of_cell? w3 _ hF.c0
  have wV : w.heap.size ≤ V := Nat.le_trans hx.size hF.hV
  have wT : w.heap.size ≤ T := Nat.le_trans hx.size hF.hT
  have wC : w.heap.size ≤ C := Nat.le_trans hx.size hF.hC
  have b9 : ∀ j, j ≠ C → w9.heap[j]? = w8.heap[j]? := fun j hj => by rw [h9]; exact Below.heap_setCell _ _ _ _ hj
  have x9 : Ext w w9 := by rw [h9]; exact Below.setCell (((hx.trans hF.ext).trans e8)) wC _
  have br : ∀ j, j < w9.heap.size → j ≠ V → wr.heap[j]? = w9.heap[j]? := fun j hj hV => (hk.out j hj hV (none_out j)).1
  have xr : Ext w wr := ⟨hk.os.trans x9.os, hk.tape.trans x9.tape, hk.output.trans x9.output, Nat.le_trans x9.size hk.size, fun j hj => (br j (Nat.lt_of_lt_of_le hj x9.size) (by omega)).trans (x9.block j hj)⟩
  have cC : ∀ o x, o ≠ 9 → w3.cell? ⟨C, o, none⟩ = some x → wr.cell? ⟨C, o, none⟩ = some x := fun o x ho hc => by
    have h1 : w9.cell? ⟨C, o, none⟩ = some x := by
      rw [h9, World.cell?_setCell_other _ _ _ _ (fun e => ho (Addr.mk.inj e).2.1.symm)]
      exact e8.cell hc
    exact hk.cell h1 (fun e => hF.ne.2.1 e.symm) (none_out C)
  have c9 : wr.cell? ⟨C, 9, none⟩ = some (.map (some w3.heap.size)) := hk.cell (by rw [h9]; exact World.cell?_setCell_same _ _ _ (e8.cell hF.c9)) (fun e => hF.ne.2.1 e.symm) (none_out C)
  have fz : ∀ j, wr.frozen? ⟨C, j, none⟩ = false := fun j => by
    have h1 : wr.frozen? ⟨C, j, none⟩ = w9.frozen? ⟨C, j, none⟩ := World.frozen?_of_block (w := w9) (br C (by omega) (fun e => hF.ne.2.1 e.symm))
    rw [h1, h9, World.frozen?_setCell]
    exact (Ext.frozen e8 lC).trans (hF.fz j)
  have hrow : ∀ v, v < n → row ((List.range n).map (notes g.edges en)) v = notes g.edges en v := fun v hv => by
    unfold row
    rw [List.getD_eq_getElem?_getD, List.getElem?_map, List.getElem?_range hv]
    rfl
  have lT : n = 0 ∨ T < w3.heap.size := by
    rcases Nat.eq_zero_or_pos n with h0 | h0
    · exact .inl h0
    · exact .inr (World.block_lt_of_cell? w3 _ (hF.tt 0 h0).1)
  refine ⟨{ w0 := w, C := C, T := T, U := T, V := V, K := w3.heap.size, CA := CA, cn := cn, cc := cc, EA := EA, en := en, ec := ec, WA := WA, wn := wn, wc := wc, SA := none, sn := 0, sc := 0, n := n, g := g, ws := ws, hold := false, ss := [], sv := .slice none 0 0, evs := (List.range n).map (notes g.edges en) }, rfl, rfl, rfl, rfl, xr, ?_⟩
  have lT' : T < w3.heap.size := hF.lT
  refine { ck := ?_, hC := wC, neC := ⟨fun e => hF.ne.2.1 e.symm, by show C ≠ w3.heap.size; omega, fun e => hF.ne.2.2.2.1 e.symm⟩, grid := ⟨w9.heap.size, vals, hg.congr (fun v hv => (hrow v hv).symm), by show C < w9.heap.size; omega⟩, lV := by show V < wr.heap.size; have := hk.size; have := hF.lV; omega
           row := ?_ }
  · exact { ext := xr, rg := HG.rg, rws := HG.rws, rs := ⟨rfl, Nat.le_refl _, Nat.zero_le _, fun i hi => absurd hi (Nat.not_lt_zero _)⟩, hn := hn, n1 := by show n ≤ 4000; omega,
            tC := ⟨fun e => hF.ne.2.2.2.1 e.symm, fun e => hF.ne.2.2.2.1 e.symm⟩, tV := ⟨hF.ne.1, hF.ne.1⟩, tK := ⟨by show w3.heap.size ≠ T; omega, by show w3.heap.size ≠ T; omega⟩, t0 := ⟨wT, wT⟩,
            lC := by show C < wr.heap.size; have := hk.size; omega
            lT := by show T < wr.heap.size; have := hk.size; omega
            c0 := cC 0 _ (by decide) hF.c0, c2 := cC 2 _ (by decide) hF.c2, c3 := cC 3 _ (by decide) hF.c3, c4 := cC 4 _ (by decide) hF.c4, c5 := cC 5 _ (by decide) hF.c5, c6 := cC 6 _ (by decide) hF.c6, c7 := cC 7 _ (by decide) hF.c7, c8 := cC 8 _ (by decide) hF.c8, c9 := c9, fz := fz
            kinds := by
              refine MapFn.keep mK ?_
              have hK : w3.heap.size < w9.heap.size := by have := MapFn.lt mK; omega
              show wr.heap[w3.heap.size]? = _
              rcases lV with h0 | h0
              · by_cases e : w3.heap.size = V
                · exact absurd hF.lV (by omega)
                · exact (br _ hK e).trans (b9 _ (by omega))
              · exact (br _ hK (by omega)).trans (b9 _ (by omega))
            evs := fun v hv => by
              obtain ⟨A, m, d, e1, e2, e3⟩ := hg.row hv
              refine ⟨A, m, d, by rw [← e1]; exact (hg.cell v hv).1, by show RI wr A m d (row ((List.range n).map (notes g.edges en)) v); rw [hrow v hv]; exact e2, fun ad ha => ?_⟩
              have h1 := (e3 ad ha).2
              exact ⟨by show ad.block ≠ T; omega, by show ad.block ≠ T; omega, h1.2⟩
            evl := fun v hv i => by
              show i ∈ row ((List.range n).map (notes g.edges en)) v ↔ _
              rw [hrow v hv]
              exact mem_notes
            ok := hval.verts, okw := hform }
  · intro i hi
    have hi' : i < n := by rw [List.length_replicate] at hi; exact hi
    have hT := hF.tt i hi'
    have hTV : T ≠ V := fun e => hF.ne.1 e.symm
    have hb : wr.heap[T]? = w3.heap[T]? := ((br T (by omega) hTV).trans (b9 T hF.ne.2.2.2.1)).trans (e8.block T lT')
    have hz : nth (List.replicate n (0 : Int)) i = 0 := by rw [nth_eq hi, List.getElem_replicate]
    show wr.cell? ⟨T, i, none⟩ = some (.int .i64 (nth (List.replicate n (0 : Int)) i)) ∧ wr.frozen? ⟨T, i, none⟩ = false
    rw [hz]
    exact ⟨(World.cell?_of_block (w := w3) hb).trans hT.1, (World.frozen?_of_block (w := w3) hb).trans hT.2⟩

theorem e146 : ∀ args w, (callFunc 146 args).run Tryz.prog w = .ok (.enter 146 args) w := enters_of Tryz.func146 (by kernel_rfl) rfl

set_option maxRecDepth 100000 in
set_option maxHeartbeats 4000000 in
theorem ready_good (CA EA WA : Option Addr) (cn cc en ec wn wc : Nat) (g : Graph) (ws : List Way) (w : World) (h : Given w CA cn cc EA en ec WA wn wc g ws) (hb : readyB g ws = true) :
    Calls Tryz.prog 95 #[.agg #[.int .i64 g.n, .slice CA cn cc, .slice EA en ec], .slice WA wn wc] w fun e w' => ∃ k : CkD, e = .returned (.tuple #[.pointer (some ⟨k.C, 0, none⟩), .bool true]) ∧ k.w0 = w ∧ k.g = g ∧ k.ws = ws ∧ Ext w w' ∧ Rdy k w' := by
  have hwn := h.rws.len
  have HG0 := hid h
  have hx0 : Ext w (w.alloc (.cells #[.int .i64 g.n, .slice CA cn cc, .slice EA en ec] 25)) := (by repeat' (first | exact Ext.refl _ | assumption | apply Ext.alloc | apply Ext.drewN | apply Ext.drew))
  obtain ⟨hw4, hform, hval⟩ := ready_iff.1 hb
  have K1 : Hid (∀ W, Ext (w.alloc (.cells #[.int .i64 g.n, .slice CA cn cc, .slice EA en ec] 25)) W → Calls Tryz.prog 77 #[.slice WA wn wc, .func (.func 139) #[] #[.pointer (some ⟨w.heap.size, 0, none⟩)]] W fun e w' => e = .returned (.bool false) ∧ Ext W w') := fun W hW => by
    have e : ws.any (fun x => !formedB g.n x) = false := by
      rw [List.any_eq_false]
      intro x hx
      have := hform x hx
      unfold formedB
      rw [decide_eq_true this.1, decide_eq_true this.2]
      simp
    rw [← e]
    exact f77_ext WA wn wc ws 139 _ e139 _ W (h.rws.ext (hx0.trans hW)) fun y hy B m d B' m' d' h1 h2 W2 hW2 =>
      f139_any w.heap.size W2 g.n (Ext.cell (hW.trans hW2) (by simp)) y B B' m d m' d' (h1.ext hW2) (h2.ext hW2)
  have K2 : Hid (∀ W, Ext (w.alloc (.cells #[.int .i64 g.n, .slice CA cn cc, .slice EA en ec] 25)) W → Calls Tryz.prog 108 #[.agg #[.int .i64 g.n, .slice CA cn cc, .slice EA en ec]] W fun e w' => e = .returned (.bool true) ∧ Ext W w') := fun W hW => by
    rw [← decide_eq_true hval]
    exact valid_any CA EA cn cc en ec g W (h.rg.ext (hx0.trans hW)) h.e1000 h.small h.n100
  have cg : ∀ W, Ext (w.alloc (.cells #[.int .i64 g.n, .slice CA cn cc, .slice EA en ec] 25)) W → W.cell? ⟨w.heap.size, 0, none⟩ = some (.int .i64 g.n) ∧ W.cell? ⟨w.heap.size, 1, none⟩ = some (.slice CA cn cc) ∧ W.cell? ⟨w.heap.size, 2, none⟩ = some (.slice EA en ec) := fun W hW => ⟨Ext.cell hW (by simp), Ext.cell hW (by simp), Ext.cell hW (by simp)⟩
  have HG := hid cg
  obtain ⟨n, hn⟩ : ∃ n : Nat, g.n = n := ⟨g.n.toNat, hval.nat⟩
  have hn1 : n ≤ 100 := by have := h.n100; omega
  rw [hwn] at hw4
  have d4 : decide ((wn : Int) > 400) = false := decide_eq_false (by omega)
  have HV := hid hval
  have HF := hid hform
  have HN := hid hn
  clear h cg hform hval hb hwn
  rw [hn] at K1 K2 HG hx0 ⊢
  go_enter Tryz.func95, Tryz.ntmps95
  go_wp2_with (first
    | (go_at_call 77; refine (K1.out _ (Ext.refl _)).mono ?_; rintro e w1 ⟨rfl, hx1⟩; have HX1 := hid hx1; obtain ⟨g0, g1, g2⟩ := HG.out w1 hx1; clear hx1)
    | (go_at_call 108; refine (K2.out _ HX1.out).mono ?_; rintro e w2 ⟨rfl, hx2⟩; have HX2 := hid hx2; clear hx2))
  have E2 : Hid (Ext (w.alloc (.cells #[.int .i64 (n : Int), .slice CA cn cc, .slice EA en ec] 25)) w2) := HX1.out.trans HX2.out
  obtain ⟨c0, c1, c2⟩ := HG.out w2 E2.out
  have hmk1 : ∀ W, (Instr.makeSlice 23 (.int .i64 (n : Int)) (.int .i64 (n : Int))).run Tryz.prog W = .ok (.slice (some ⟨W.heap.size, 0, none⟩) n n) (W.alloc (.cells (madeCells #[.slice none 0 0] n) 22)) := fun W => run_make_row' 23 22 (.slice none 0 0) 24 Tryz.underlying23 info22 rfl .i64 .i64 n (by omega) (by omega) W
  have hmk2 : ∀ W, (Instr.makeSlice 22 (.int .i64 (n : Int)) (.int .i64 (n : Int))).run Tryz.prog W = .ok (.slice (some ⟨W.heap.size, 0, none⟩) n n) (W.alloc (.cells (madeCells #[.int .i64 0] n) 3)) := fun W => run_make_row' 22 3 (.int .i64 0) 8 Tryz.underlying22 info3g rfl .i64 .i64 n (by omega) (by omega) W
  have HS : Hid (∀ W, Ext w2 W → W.cell? ⟨w.heap.size, 0, none⟩ = some (.int .i64 (n : Int)) ∧ W.cell? ⟨w.heap.size, 1, none⟩ = some (.slice CA cn cc) ∧ W.cell? ⟨w.heap.size, 2, none⟩ = some (.slice EA en ec)) := fun W hW => HG.out W (E2.out.trans hW)
  refine wp_mono (Q := fun x a' w' => match x with | .normal => ∃ V T C b u25 u26 u27 u28 u29 u30 u31 u32 u33, a' = ({ tmps := List.toArray (.agg #[.int .i64 (n : Int), .slice CA cn cc, .slice EA en ec] :: .slice WA wn wc :: .pointer (some ⟨w.heap.size, 0, none⟩) :: undef :: .pointer none :: .bool false :: .pointer (some ⟨b, 0, none⟩) :: undef :: undef :: undef :: undef :: undef :: .slice WA wn wc :: .int .i64 (wn : Int) :: .bool false :: .bool false :: .slice WA wn wc :: .func (.func 139) #[] #[.pointer (some ⟨w.heap.size, 0, none⟩)] :: .bool false :: .bool false :: .bool false :: .agg #[.int .i64 (n : Int), .slice CA cn cc, .slice EA en ec] :: .bool true :: .bool false :: .bool false :: u25 :: u26 :: u27 :: u28 :: u29 :: u30 :: u31 :: u32 :: u33 :: .pointer (some ⟨C, 0, none⟩) :: undef :: undef :: undef :: undef :: undef :: undef :: undef :: undef :: undef :: undef :: undef :: undef :: undef :: undef :: undef :: undef :: undef :: undef :: undef :: undef :: undef :: undef :: undef :: undef :: undef :: undef :: []), defers := [] } : Act) ∧ Fresh95 n CA cn cc EA en ec WA wn wc w2 w' V T C b | _ => False) ?_ ?_
  · go_region_held (fun w' => w'.cell? ⟨w.heap.size, 0, none⟩ = some (.int .i64 (n : Int)) ∧ w'.cell? ⟨w.heap.size, 1, none⟩ = some (.slice CA cn cc) ∧ w'.cell? ⟨w.heap.size, 2, none⟩ = some (.slice EA en ec)) (exact HS.out _ (by repeat' (first | exact Ext.refl _ | assumption | apply Ext.alloc | apply Ext.drewN | apply Ext.drew | (refine Below.setCell ?_ (by simp) _)))) (fail)
    · dsimp only
      refine ⟨w2.heap.size, w2.heap.size + 1, w2.heap.size + 1 + 1, w2.heap.size + 1 + 1 + 1, _, _, _, _, _, _, _, _, _, rfl, ?_⟩
      refine fresh_of (by repeat' (first | exact Ext.refl _ | assumption | apply Ext.alloc | apply Ext.drewN | apply Ext.drew)) ⟨by omega, by omega, by omega, by omega⟩ ⟨by omega, by omega, by omega, by omega, by omega, by omega⟩ (heap4 w2 _ _ _ _).1 (heap4 w2 _ _ _ _).2.1 (heap4 w2 _ _ _ _).2.2.1 (heap4 w2 _ _ _ _).2.2.2
    · dsimp only
      refine ⟨w2.heap.size, w2.heap.size + 1, w2.heap.size + 1 + 1 + 1, w2.heap.size + 1 + 1, _, _, _, _, _, _, _, _, _, rfl, ?_⟩
      refine fresh_of (by repeat' (first | exact Ext.refl _ | assumption | apply Ext.alloc | apply Ext.drewN | apply Ext.drew)) ⟨by omega, by omega, by omega, by omega⟩ ⟨by omega, by omega, by omega, by omega, by omega, by omega⟩ (heap4 w2 _ _ _ _).1 (heap4 w2 _ _ _ _).2.1 (heap4 w2 _ _ _ _).2.2.2 (heap4 w2 _ _ _ _).2.2.1
    · dsimp only
      refine ⟨w2.heap.size, w2.heap.size + 1 + 1, w2.heap.size + 1 + 1 + 1, w2.heap.size + 1, _, _, _, _, _, _, _, _, _, rfl, ?_⟩
      refine fresh_of (by repeat' (first | exact Ext.refl _ | assumption | apply Ext.alloc | apply Ext.drewN | apply Ext.drew)) ⟨by omega, by omega, by omega, by omega⟩ ⟨by omega, by omega, by omega, by omega, by omega, by omega⟩ (heap4 w2 _ _ _ _).1 (heap4 w2 _ _ _ _).2.2.1 (heap4 w2 _ _ _ _).2.2.2 (heap4 w2 _ _ _ _).2.1
    · dsimp only
      refine ⟨w2.heap.size + 1, w2.heap.size, w2.heap.size + 1 + 1, w2.heap.size + 1 + 1 + 1, _, _, _, _, _, _, _, _, _, rfl, ?_⟩
      refine fresh_of (by repeat' (first | exact Ext.refl _ | assumption | apply Ext.alloc | apply Ext.drewN | apply Ext.drew)) ⟨by omega, by omega, by omega, by omega⟩ ⟨by omega, by omega, by omega, by omega, by omega, by omega⟩ (heap4 w2 _ _ _ _).2.1 (heap4 w2 _ _ _ _).1 (heap4 w2 _ _ _ _).2.2.1 (heap4 w2 _ _ _ _).2.2.2
    · dsimp only
      refine ⟨w2.heap.size + 1, w2.heap.size, w2.heap.size + 1 + 1 + 1, w2.heap.size + 1 + 1, _, _, _, _, _, _, _, _, _, rfl, ?_⟩
      refine fresh_of (by repeat' (first | exact Ext.refl _ | assumption | apply Ext.alloc | apply Ext.drewN | apply Ext.drew)) ⟨by omega, by omega, by omega, by omega⟩ ⟨by omega, by omega, by omega, by omega, by omega, by omega⟩ (heap4 w2 _ _ _ _).2.1 (heap4 w2 _ _ _ _).1 (heap4 w2 _ _ _ _).2.2.2 (heap4 w2 _ _ _ _).2.2.1
    · dsimp only
      refine ⟨w2.heap.size + 1 + 1, w2.heap.size, w2.heap.size + 1 + 1 + 1, w2.heap.size + 1, _, _, _, _, _, _, _, _, _, rfl, ?_⟩
      refine fresh_of (by repeat' (first | exact Ext.refl _ | assumption | apply Ext.alloc | apply Ext.drewN | apply Ext.drew)) ⟨by omega, by omega, by omega, by omega⟩ ⟨by omega, by omega, by omega, by omega, by omega, by omega⟩ (heap4 w2 _ _ _ _).2.2.1 (heap4 w2 _ _ _ _).1 (heap4 w2 _ _ _ _).2.2.2 (heap4 w2 _ _ _ _).2.1
    · dsimp only
      refine ⟨w2.heap.size + 1, w2.heap.size + 1 + 1, w2.heap.size + 1 + 1 + 1, w2.heap.size, _, _, _, _, _, _, _, _, _, rfl, ?_⟩
      refine fresh_of (by repeat' (first | exact Ext.refl _ | assumption | apply Ext.alloc | apply Ext.drewN | apply Ext.drew)) ⟨by omega, by omega, by omega, by omega⟩ ⟨by omega, by omega, by omega, by omega, by omega, by omega⟩ (heap4 w2 _ _ _ _).2.1 (heap4 w2 _ _ _ _).2.2.1 (heap4 w2 _ _ _ _).2.2.2 (heap4 w2 _ _ _ _).1
    · dsimp only
      refine ⟨w2.heap.size + 1 + 1, w2.heap.size + 1, w2.heap.size + 1 + 1 + 1, w2.heap.size, _, _, _, _, _, _, _, _, _, rfl, ?_⟩
      refine fresh_of (by repeat' (first | exact Ext.refl _ | assumption | apply Ext.alloc | apply Ext.drewN | apply Ext.drew)) ⟨by omega, by omega, by omega, by omega⟩ ⟨by omega, by omega, by omega, by omega, by omega, by omega⟩ (heap4 w2 _ _ _ _).2.2.1 (heap4 w2 _ _ _ _).2.1 (heap4 w2 _ _ _ _).2.2.2 (heap4 w2 _ _ _ _).1
  · intro e a' w3 hQ
    cases e with
    | normal =>
      obtain ⟨V, T, C, b, u25, u26, u27, u28, u29, u30, u31, u32, u33, rfl, hF⟩ := hQ
      obtain ⟨w4, w5, w6, w7, w8, s1, s2, s3, s4, s5, mK, eK⟩ := kinds_made w3
      have hmm := @run_makeMap Tryz.prog
      have E8 : Hid (Ext w2 w8) := hF.ext.trans eK
      have HF0 := hid hF
      have HK := hid mK
      have EK := hid eK
      have HW8 : Hid (Ext w w8) := (hx0.trans E2.out).trans E8.out
      have k9 := eK.cell hF.c9
      have kfz : w8.frozen? ⟨C, 9, none⟩ = false := (Ext.frozen eK (World.block_lt_of_cell? w3 _ hF.c9)).trans (hF.fz 9)
      have kb := hF.cb
      have kg := HG.out w8 (E2.out.trans E8.out)
      have kg2 : (w8.setCell ⟨C, 9, none⟩ (.map (some w3.heap.size))).cell? ⟨w.heap.size, 2, none⟩ = some (.slice EA en ec) := by
        rw [World.cell?_setCell_other _ _ _ _ (by simp)]
        exact kg.2.2
      clear hF mK eK
      show Exit.then _ _ _ _ _
      go_wp2_with fail
      have hL := HF0.out
      have X9 : Hid (Ext w (w8.setCell ⟨C, 9, none⟩ (.map (some w3.heap.size)))) := Below.setCell HW8.out (Nat.le_trans (hx0.trans E2.out).size hL.hC) _
      have l98 : (w8.setCell ⟨C, 9, none⟩ (.map (some w3.heap.size))).heap.size = w8.heap.size := by simp
      have CB : Hid ((w8.setCell ⟨C, 9, none⟩ (.map (some w3.heap.size))).cell? ⟨b, 0, none⟩ = some (.pointer (some ⟨C, 0, none⟩)) ∧ (w8.setCell ⟨C, 9, none⟩ (.map (some w3.heap.size))).cell? ⟨C, 6, none⟩ = some (.slice (some ⟨V, 0, none⟩) n n)) :=
        ⟨by rw [World.cell?_setCell_other _ _ _ _ (by simp)]; exact EK.out.cell hL.cb, by rw [World.cell?_setCell_other _ _ _ _ (by simp)]; exact EK.out.cell hL.c6⟩
      have GS : Hid (Grid (w8.setCell ⟨C, 9, none⟩ (.map (some w3.heap.size))) (w8.setCell ⟨C, 9, none⟩ (.map (some w3.heap.size))).heap.size V n (fun _ => .slice none 0 0) (fun _ => [])) := Grid.start fun v hv => by
        have h1 := hL.vv v hv
        have hb : (w8.setCell ⟨C, 9, none⟩ (.map (some w3.heap.size))).heap[V]? = w3.heap[V]? := (Below.heap_setCell _ _ _ _ hL.ne.2.1).trans (EK.out.block V hL.lV)
        exact ⟨(World.cell?_of_block (w := w3) hb).trans h1.1, (World.frozen?_of_block (w := w3) hb).trans h1.2⟩
      have NE : Hid (w.heap.size ≤ V ∧ b ≠ V ∧ C ≠ V) := ⟨Nat.le_trans (hx0.trans E2.out).size hL.hV, fun e => hL.ne.2.2.1 e.symm, fun e => hL.ne.2.1 e.symm⟩
      clear hL hmm s1 s2 s3 s4 s5 k9 kfz kb kg kg2
      generalize hw9 : w8.setCell ⟨C, 9, none⟩ (.map (some w3.heap.size)) = w9 at X9 CB GS ⊢
      have HW9 := hid hw9
      clear hw9 l98
      have hen := HG0.out.rg.edges.lenle
      have he1000 := HG0.out.e1000
      have OLD : Hid (∀ wr vals, Kp n V w9 (fun _ => .slice none 0 0) wr vals → ∀ a x, w.cell? a = some x → wr.cell? a = some x) := fun wr vals hk a x hc =>
        hk.cell (X9.out.cell hc) (by have h1 := World.block_lt_of_cell? w a hc; have h2 := NE.out.1; omega) (none_out _)
      have he146 := e146
      go_loopg [43] en (fun gg s43 wr => ∃ (kk : Nat) (vals : Nat → Value), kk ≤ en ∧ en - kk ≤ gg ∧ s43 = .int .i64 kk ∧ Hid (Grid wr w9.heap.size V n vals (notes g.edges kk) ∧ Kp n V w9 (fun _ => .slice none 0 0) wr vals))
      case atStart => exact ⟨0, _, Nat.zero_le _, by omega, rfl, GS.out, Kp.refl _ _ _ _⟩
      case round =>
        obtain ⟨kk, vals, hkk, hg1, rfl, HI⟩ := hrel
        by_cases hlt : kk < en
        · have hltz : (kk : Int) < (en : Int) := by omega
          obtain ⟨ad, B, m, d, rfl, hcell0, hri0⟩ := HG0.out.rg.edges.cell kk hlt
          have hcell := OLD.out wr vals HI.out.2 _ _ hcell0
          have hm := hri0.lenle
          have HRI := hid hri0
          have HE : Hid (Verts (row g.edges kk) (n : Int)) := by rw [← HN.out]; exact HV.out.verts _ (row_mem (by rw [HG0.out.rg.edges.len]; exact hlt))
          clear hcell0 hri0
          have KB : Hid (∀ wr2 vals2, Kp n V (wr.alloc (.cells #[.int .i64 (kk : Int)] 3)) vals wr2 vals2 → Kp n V w9 (fun _ => .slice none 0 0) wr2 vals2) := fun wr2 vals2 h => (HI.out.2.ext (Ext.alloc (Ext.refl _) _)).trans h
          have hbi : Hid ((wr.alloc (.cells #[.int .i64 (kk : Int)] 3)).cell? ⟨wr.heap.size, 0, none⟩ = some (.int .i64 (kk : Int))) := by simp [Hid]
          have HBV : Hid (wr.heap.size ≠ V) := by have h1 := HF0.out.lV; have h2 := HI.out.2.size; have h3 := EK.out.size; have h4 : w9.heap.size = w8.heap.size := by rw [← HW9.out]; simp
                                                  exact fun e => by omega
          have HBO : Hid (∀ v, v < n → (vals v).ownBlock ≠ some wr.heap.size) := Grid_own_lt HI.out.1
          have HGi : Hid (Grid (wr.alloc (.cells #[.int .i64 (kk : Int)] 3)) w9.heap.size V n vals (notes g.edges kk)) := HI.out.1.ext (Ext.alloc (Ext.refl _) _)
          obtain ⟨wo, hwo⟩ : ∃ wo, wo = wr := ⟨_, rfl⟩
          subst hwo
          go_wp2_with fail
          go_loopg [51] m (fun g2 s51 wr2 => ∃ (jj : Nat) (vals2 : Nat → Value), jj ≤ m ∧ m - jj ≤ g2 ∧ s51 = .int .i64 jj ∧ Hid (Grid wr2 w9.heap.size V n vals2 (fun v => notes g.edges kk v ++ part (row g.edges kk) jj kk v) ∧ Kp n V (wo.alloc (.cells #[.int .i64 (kk : Int)] 3)) vals wr2 vals2))
          case atStart => exact ⟨0, vals, Nat.zero_le _, by omega, rfl, HGi.out.congr (fun v _ => by rw [part_zero, List.append_nil]), Kp.refl _ _ _ _⟩
          case round =>
            obtain ⟨jj, vals2, hjj, hg2, rfl, HJ⟩ := hrel
            by_cases hlt2 : jj < m
            · have hltz2 : (jj : Int) < (m : Int) := by omega
              have KT : Hid (Kp n V w9 (fun _ => .slice none 0 0) wr vals2) := KB.out wr vals2 HJ.out.2
              obtain ⟨ad2, rfl, hcell2⟩ := HRI.out.cell jj hlt2
              have hcell2 := OLD.out wr vals2 KT.out _ _ hcell2
              have hmem : nth (row g.edges kk) jj ∈ row g.edges kk := nth_mem (by rw [HRI.out.len]; exact hlt2)
              have hvv := HE.out.2 _ hmem
              obtain ⟨u, hu⟩ : ∃ u : Nat, nth (row g.edges kk) jj = (u : Int) := ⟨_, (Int.toNat_of_nonneg hvv.1).symm⟩
              have hun : u < n := by rw [hu] at hvv; omega
              have HU := hid hu
              rw [hu] at hcell2
              clear hu hmem hvv
              have hbl := World.block_lt_of_cell? w9 _ CB.out.1
              have hcl := World.block_lt_of_cell? w9 _ CB.out.2
              have K : Hid (Calls Tryz.prog 146 #[.int .i64 (u : Int), .pointer (some ⟨b, 0, none⟩), .pointer (some ⟨wo.heap.size, 0, none⟩)] wr fun e w' => e = .returned (.tuple #[]) ∧ ∃ vals', Grid w' w9.heap.size V n vals' (fun v => if v = u then (notes g.edges kk u ++ part (row g.edges kk) jj kk u) ++ [(kk : Int)] else notes g.edges kk v ++ part (row g.edges kk) jj kk v) ∧ Kp n V wr vals2 w' vals') :=
                f146_any b wo.heap.size C V n kk u w9.heap.size vals2 _ wr HJ.out.1 hun (by omega) KT.out.size (by have h1 := notes_length g.edges kk u; rw [List.length_append]; unfold part; split <;> simp <;> omega)
                  (KT.out.cell CB.out.1 NE.out.2.1 (none_out _)) (KT.out.cell CB.out.2 NE.out.2.2 (none_out _)) (HJ.out.2.cell hbi.out HBV.out HBO.out) NE.out.2.1 (KT.out.out b hbl NE.out.2.1 (none_out _)).2 NE.out.2.2 (KT.out.out C hcl NE.out.2.2 (none_out _)).2 HBV.out (HJ.out.2.out wo.heap.size (by simp) HBV.out HBO.out).2
              clear hbl hcl
              go_wp2_with (go_at_call 146; refine K.out.mono ?_; rintro e w5' ⟨rfl, vals', hg', hk'⟩; have HP := hid (And.intro hg' hk'); clear hg' hk')
              go_roundg (m - (jj + 1))
              case measure => omega
              case rel => exact ⟨jj + 1, vals', by omega, by omega, by go_num, HP.out.1.congr (fun v hv => part_step HE.out.1 (by rw [HRI.out.len]; exact hlt2) HU.out _), HJ.out.2.trans HP.out.2⟩
            · have hltz2 : ¬ (jj : Int) < (m : Int) := by omega
              have hjm : jj = m := by omega
              subst hjm
              go_wp2_with fail
              go_roundg (en - (kk + 1))
              case measure => omega
              case rel => exact ⟨kk + 1, vals2, by omega, by omega, by go_num, HJ.out.1.congr (fun v hv => by rw [notes_succ, ← HRI.out.len, part_all]), KB.out _ _ HJ.out.2⟩
        · have hltz : ¬ (kk : Int) < (en : Int) := by omega
          have hkn : kk = en := by omega
          subst hkn
          have hcb : wr.cell? ⟨b, 0, none⟩ = some (.pointer (some ⟨C, 0, none⟩)) := HI.out.2.cell CB.out.1 NE.out.2.1 (none_out _)
          obtain ⟨k, r1, r2, r3, r4, r5, r6⟩ := mk_rdy HG0.out HN.out hn1 HV.out HF.out (hx0.trans E2.out) HF0.out EK.out HK.out HW9.out.symm HI.out.1 HI.out.2
          have HR : Hid (∃ k : CkD, k.C = C ∧ k.w0 = w ∧ k.g = g ∧ k.ws = ws ∧ Ext w wr ∧ Rdy k wr) := ⟨k, r1, r2, r3, r4, r5, r6⟩
          clear r1 r2 r3 r4 r5 r6 k
          go_wp2_with fail
          obtain ⟨k, r1, r2, r3, r4, r5, r6⟩ := HR.out
          exact bodyPost_ret (v := .tuple #[.pointer (some ⟨C, 0, none⟩), .bool true]) (by simp [results, Tryz.results95, go_sem]) rfl ⟨k, by rw [r1], r2, r3, r4, r5, r6⟩
    | _ => exact hQ.elim
end Go.Proofs.YthjifmfmaiagoaaGreatDoor

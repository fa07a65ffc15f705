/- C19: texts R9 R10 R11. -/
import Derived.Deep.RegionHeld
import Derived.Test.YthjifmfmaiagoaaGreatDoorC01
import Derived.Test.YthjifmfmaiagoaaGreatDoorC02
import Derived.Test.YthjifmfmaiagoaaGreatDoorC12
import Derived.Test.YthjifmfmaiagoaaGreatDoorC18
set_option linter.all false

/- The references: right, the leaves. -/
namespace Go.Proofs.YthjifmfmaiagoaaGreatDoor
open Go.RowKit
attribute [local go_sem] Oper.semAt_some

set_option maxRecDepth 100000 in
set_option maxHeartbeats 4000000 in
theorem r98_clash {k : D98} (I : In98 k) {A : Option Addr} {c : Nat} {st : List Int} {seen : List Bool} {W : World} (N : Now98 k A c st seen W) {at_ : Nat} (ha : at_ < k.sn) (hs : nthB seen at_ = false) (h1 : (stepv k.ss at_).kind = 2) (h2 : (stepv k.ss at_).in_ = 0) (h3 : (stepv k.ss at_).out = 0) :
    Calls Tryz.prog 98 #[.agg #[.int .i64 (k.n : Int), .slice k.CA k.cn k.cc, .slice k.EA k.en k.ec], .slice k.WA k.wn k.wc, .bool k.hold, .agg #[.slice k.SA k.sn k.sc], .int .i64 (at_ : Int), .slice A k.n c, .slice (some ⟨k.U, 0, none⟩) k.sn k.sn] W fun e w' => L98 k W seen at_ (clashB k.g st (stepv k.ss at_)) e w' := by
  obtain ⟨w0, g, ws, hold, ss, CA, cn, cc, EA, en, ec, WA, wn, wc, SA, sn, sc, n, U⟩ := k
  have irs : RS w0 SA sn sc ss := I.rs
  have nrow : RowB W U seen := N.row
  have nsn : seen.length = sn := N.hsn
  have hlU : U < W.heap.size := N.lU
  have hE2 : Ext w0 (((W.alloc (.cells #[.int .i64 (n : Int), .slice CA cn cc, .slice EA en ec] 25)).alloc (.cells #[.slice SA sn sc] 36)).setCell ⟨U, at_, none⟩ (.bool true)) := N.e2 I at_ _ _
  have hF2 : Fr U U W (((W.alloc (.cells #[.int .i64 (n : Int), .slice CA cn cc, .slice EA en ec] 25)).alloc (.cells #[.slice SA sn sc] 36)).setCell ⟨U, at_, none⟩ (.bool true)) := N.fr2 at_ _ _
  have HI := hid I
  have HN := hid N
  clear I N
  simp only [] at *
  have haz : (at_ : Int) < (sn : Int) := by omega
  have hx : Ext W ((W.alloc (.cells #[.int .i64 (n : Int), .slice CA cn cc, .slice EA en ec] 25)).alloc (.cells #[.slice SA sn sc] 36)) := (by repeat' (first | exact Ext.refl _ | assumption | apply Ext.alloc | apply Ext.drewN | apply Ext.drew))
  have cU1 : ((W.alloc (.cells #[.int .i64 (n : Int), .slice CA cn cc, .slice EA en ec] 25)).alloc (.cells #[.slice SA sn sc] 36)).cell? ⟨U, at_, none⟩ = some (.bool false) := hx.cell (by rw [(nrow at_ (by rw [nsn]; exact ha)).1, hs])
  have fU1 : ((W.alloc (.cells #[.int .i64 (n : Int), .slice CA cn cc, .slice EA en ec] 25)).alloc (.cells #[.slice SA sn sc] 36)).frozen? ⟨U, at_, none⟩ = false := by rw [hx.frozen (show U < W.heap.size from hlU)]; exact (nrow at_ (by rw [nsn]; exact ha)).2
  obtain ⟨ad, hSA, s1, s2, s3, s4⟩ := (irs.ext hE2).cell at_ ha
  subst hSA
  have c36 : (((W.alloc (.cells #[.int .i64 (n : Int), .slice CA cn cc, .slice EA en ec] 25)).alloc (.cells #[.slice (some ad) sn sc] 36)).setCell ⟨U, at_, none⟩ (.bool true)).cell? ⟨W.heap.size + 1, 0, none⟩ = some (.slice (some ad) sn sc) := by rw [World.cell?_setCell_other _ _ _ _ (fun e => by have := (Addr.mk.inj e).1; omega)]; simp
  have g0 : (((W.alloc (.cells #[.int .i64 (n : Int), .slice CA cn cc, .slice EA en ec] 25)).alloc (.cells #[.slice (some ad) sn sc] 36)).setCell ⟨U, at_, none⟩ (.bool true)).cell? ⟨W.heap.size, 0, none⟩ = some (.int .i64 (n : Int)) := by rw [World.cell?_setCell_other _ _ _ _ (fun e => by have := (Addr.mk.inj e).1; omega)]; simp
  have g1 : (((W.alloc (.cells #[.int .i64 (n : Int), .slice CA cn cc, .slice EA en ec] 25)).alloc (.cells #[.slice (some ad) sn sc] 36)).setCell ⟨U, at_, none⟩ (.bool true)).cell? ⟨W.heap.size, 1, none⟩ = some (.slice CA cn cc) := by rw [World.cell?_setCell_other _ _ _ _ (fun e => by have := (Addr.mk.inj e).1; omega)]; simp
  have g2 : (((W.alloc (.cells #[.int .i64 (n : Int), .slice CA cn cc, .slice EA en ec] 25)).alloc (.cells #[.slice (some ad) sn sc] 36)).setCell ⟨U, at_, none⟩ (.bool true)).cell? ⟨W.heap.size, 2, none⟩ = some (.slice EA en ec) := by rw [World.cell?_setCell_other _ _ _ _ (fun e => by have := (Addr.mk.inj e).1; omega)]; simp
  generalize hxx : stepv ss at_ = x at s1 s2 s3 s4 h1 h2 h3 ⊢
  have HXX := hid hxx
  clear hxx
  obtain ⟨xk, xa, xi, xo⟩ := x
  simp only [] at s1 s2 s3 s4 h1 h2 h3 ⊢
  have hx3 : Ext (((W.alloc (.cells #[.int .i64 (n : Int), .slice CA cn cc, .slice EA en ec] 25)).alloc (.cells #[.slice (some ad) sn sc] 36)).setCell ⟨U, at_, none⟩ (.bool true)) ((((W.alloc (.cells #[.int .i64 (n : Int), .slice CA cn cc, .slice EA en ec] 25)).alloc (.cells #[.slice (some ad) sn sc] 36)).setCell ⟨U, at_, none⟩ (.bool true)).alloc (.cells #[.int .i64 xk, .int .i64 xa, .int .i64 xi, .int .i64 xo] 57)) := (by repeat' (first | exact Ext.refl _ | assumption | apply Ext.alloc | apply Ext.drewN | apply Ext.drew))
  have G0 : ((((W.alloc (.cells #[.int .i64 (n : Int), .slice CA cn cc, .slice EA en ec] 25)).alloc (.cells #[.slice (some ad) sn sc] 36)).setCell ⟨U, at_, none⟩ (.bool true)).alloc (.cells #[.int .i64 xk, .int .i64 xa, .int .i64 xi, .int .i64 xo] 57)).cell? ⟨W.heap.size, 0, none⟩ = some (.int .i64 (n : Int)) := hx3.cell g0
  have G1 : ((((W.alloc (.cells #[.int .i64 (n : Int), .slice CA cn cc, .slice EA en ec] 25)).alloc (.cells #[.slice (some ad) sn sc] 36)).setCell ⟨U, at_, none⟩ (.bool true)).alloc (.cells #[.int .i64 xk, .int .i64 xa, .int .i64 xi, .int .i64 xo] 57)).cell? ⟨W.heap.size, 1, none⟩ = some (.slice CA cn cc) := hx3.cell g1
  have G2 : ((((W.alloc (.cells #[.int .i64 (n : Int), .slice CA cn cc, .slice EA en ec] 25)).alloc (.cells #[.slice (some ad) sn sc] 36)).setCell ⟨U, at_, none⟩ (.bool true)).alloc (.cells #[.int .i64 xk, .int .i64 xa, .int .i64 xi, .int .i64 xo] 57)).cell? ⟨W.heap.size, 2, none⟩ = some (.slice EA en ec) := hx3.cell g2
  have P0 : ((((W.alloc (.cells #[.int .i64 (n : Int), .slice CA cn cc, .slice EA en ec] 25)).alloc (.cells #[.slice (some ad) sn sc] 36)).setCell ⟨U, at_, none⟩ (.bool true)).alloc (.cells #[.int .i64 xk, .int .i64 xa, .int .i64 xi, .int .i64 xo] 57)).cell? ⟨W.heap.size + 1, 0, none⟩ = some (.slice (some ad) sn sc) := hx3.cell c36
  have HF3 : Hid (Fr U U W ((((W.alloc (.cells #[.int .i64 (n : Int), .slice CA cn cc, .slice EA en ec] 25)).alloc (.cells #[.slice (some ad) sn sc] 36)).setCell ⟨U, at_, none⟩ (.bool true)).alloc (.cells #[.int .i64 xk, .int .i64 xa, .int .i64 xi, .int .i64 xo] 57))) := hF2.trans (Fr.ext hx3)
  have HB3 : Hid (RowB ((((W.alloc (.cells #[.int .i64 (n : Int), .slice CA cn cc, .slice EA en ec] 25)).alloc (.cells #[.slice (some ad) sn sc] 36)).setCell ⟨U, at_, none⟩ (.bool true)).alloc (.cells #[.int .i64 xk, .int .i64 xa, .int .i64 xi, .int .i64 xo] 57)) U (seen.set at_ true)) := hid ((RowB.set (RowB.ext nrow hx) (by rw [nsn]; exact ha) true).ext hx3)
  have hst3 : RI ((((W.alloc (.cells #[.int .i64 (n : Int), .slice CA cn cc, .slice EA en ec] 25)).alloc (.cells #[.slice (some ad) sn sc] 36)).setCell ⟨U, at_, none⟩ (.bool true)).alloc (.cells #[.int .i64 xk, .int .i64 xa, .int .i64 xi, .int .i64 xo] 57)) A n c st := RI.fr HN.out.rst HF3.out fun ad h => ⟨HN.out.ne ad h, HN.out.ne ad h⟩
  have HS3 := hid hst3
  clear hst3
  have HE3 : Hid (Ext w0 ((((W.alloc (.cells #[.int .i64 (n : Int), .slice CA cn cc, .slice EA en ec] 25)).alloc (.cells #[.slice (some ad) sn sc] 36)).setCell ⟨U, at_, none⟩ (.bool true)).alloc (.cells #[.int .i64 xk, .int .i64 xa, .int .i64 xi, .int .i64 xo] 57))) := hE2.trans hx3
  clear g0 g1 g2 hx3 hE2 hF2 hx nrow nsn irs
  subst h1
  subst h2
  subst h3
  have hgn : g.n = (n : Int) := HI.out.hn
  have n1 : n ≤ 4000 := HI.out.n1
  have HL : Hid (g.edges.length = en) := HI.out.rg.edges.len
  have hen := HI.out.rg.edges.lenle
  have HOK : Hid (∀ e ∈ g.edges, ∀ v ∈ e, 0 ≤ v ∧ v < (n : Int)) := fun e he v hv => by rw [← hgn]; exact (HI.out.ok e he).2 v hv
  have HR : Hid (RG ((((W.alloc (.cells #[.int .i64 (n : Int), .slice CA cn cc, .slice EA en ec] 25)).alloc (.cells #[.slice (some ad) sn sc] 36)).setCell ⟨U, at_, none⟩ (.bool true)).alloc (.cells #[.int .i64 2, .int .i64 xa, .int .i64 0, .int .i64 0] 57)) CA cn cc EA en ec g) := HI.out.rg.ext HE3.out
  clear hs ha hlU HN HXX HI hgn
  by_cases a1 : 0 ≤ xa
  · by_cases a2 : xa < (en : Int)
    · obtain ⟨ad2, B, m, d, rfl, hcell2, hri2⟩ := HR.out.edges.cell xa.toNat (by omega)
      have K148 := f148_any A B n c m d st (row g.edges xa.toNat) 1 ((((W.alloc (.cells #[.int .i64 (n : Int), .slice CA cn cc, .slice (some ad2) en ec] 25)).alloc (.cells #[.slice (some ad) sn sc] 36)).setCell ⟨U, at_, none⟩ (.bool true)).alloc (.cells #[.int .i64 2, .int .i64 xa, .int .i64 0, .int .i64 0] 57)) HS3.out hri2 (HOK.out _ (row_mem (by have := HL.out; omega)))
      have HA := hid a2
      clear hri2
      go_enter Tryz.func98, Tryz.ntmps98
      go_wp2_with (go_at_call 148; refine K148.mono ?_; rintro e w4 ⟨rfl, rfl⟩)
      refine bodyPost_ret (v := .bool (areB st 1 (row g.edges xa.toNat))) (by simp [results, Tryz.results98, go_sem]) rfl ?_
      refine ⟨ret_bool ?_, HF3.out, HB3.out⟩
      unfold clashB
      simp only []
      rw [decide_eq_true a1, decide_eq_true (show xa < (g.edges.length : Int) by have := HL.out; have := HA.out; omega)]
      simp
    · have HA := hid a2
      have HC : Hid (clashB g st ⟨2, xa, 0, 0⟩ = false) := by
        refine hid ?_
        unfold clashB
        simp only []
        rw [decide_eq_false (show ¬ xa < (g.edges.length : Int) by have := HL.out; omega)]
        simp
      go_enter Tryz.func98, Tryz.ntmps98
      go_wp2
      refine bodyPost_ret (v := .bool false) (by simp [results, Tryz.results98, go_sem]) rfl ?_
      exact ⟨ret_bool HC.out.symm, HF3.out, HB3.out⟩
  · have HC : Hid (clashB g st ⟨2, xa, 0, 0⟩ = false) := by
      refine hid ?_
      unfold clashB
      simp only []
      rw [decide_eq_false a1]
      simp
    go_enter Tryz.func98, Tryz.ntmps98
    go_wp2
    refine bodyPost_ret (v := .bool false) (by simp [results, Tryz.results98, go_sem]) rfl ?_
    exact ⟨ret_bool HC.out.symm, HF3.out, HB3.out⟩

set_option maxRecDepth 100000 in
set_option maxHeartbeats 4000000 in
theorem r98_free {k : D98} (I : In98 k) {A : Option Addr} {c : Nat} {st : List Int} {seen : List Bool} {W : World} (N : Now98 k A c st seen W) {at_ : Nat} (ha : at_ < k.sn) (hs : nthB seen at_ = false) (h1 : (stepv k.ss at_).kind = 3) (h2 : (stepv k.ss at_).in_ = 0) (h3 : (stepv k.ss at_).out = 0) :
    Calls Tryz.prog 98 #[.agg #[.int .i64 (k.n : Int), .slice k.CA k.cn k.cc, .slice k.EA k.en k.ec], .slice k.WA k.wn k.wc, .bool k.hold, .agg #[.slice k.SA k.sn k.sc], .int .i64 (at_ : Int), .slice A k.n c, .slice (some ⟨k.U, 0, none⟩) k.sn k.sn] W fun e w' => L98 k W seen at_ (freeB k.g st (stepv k.ss at_)) e w' := by
  obtain ⟨w0, g, ws, hold, ss, CA, cn, cc, EA, en, ec, WA, wn, wc, SA, sn, sc, n, U⟩ := k
  have irs : RS w0 SA sn sc ss := I.rs
  have nrow : RowB W U seen := N.row
  have nsn : seen.length = sn := N.hsn
  have hlU : U < W.heap.size := N.lU
  have hE2 : Ext w0 (((W.alloc (.cells #[.int .i64 (n : Int), .slice CA cn cc, .slice EA en ec] 25)).alloc (.cells #[.slice SA sn sc] 36)).setCell ⟨U, at_, none⟩ (.bool true)) := N.e2 I at_ _ _
  have hF2 : Fr U U W (((W.alloc (.cells #[.int .i64 (n : Int), .slice CA cn cc, .slice EA en ec] 25)).alloc (.cells #[.slice SA sn sc] 36)).setCell ⟨U, at_, none⟩ (.bool true)) := N.fr2 at_ _ _
  have HI := hid I
  have HN := hid N
  clear I N
  simp only [] at *
  have haz : (at_ : Int) < (sn : Int) := by omega
  have hx : Ext W ((W.alloc (.cells #[.int .i64 (n : Int), .slice CA cn cc, .slice EA en ec] 25)).alloc (.cells #[.slice SA sn sc] 36)) := (by repeat' (first | exact Ext.refl _ | assumption | apply Ext.alloc | apply Ext.drewN | apply Ext.drew))
  have cU1 : ((W.alloc (.cells #[.int .i64 (n : Int), .slice CA cn cc, .slice EA en ec] 25)).alloc (.cells #[.slice SA sn sc] 36)).cell? ⟨U, at_, none⟩ = some (.bool false) := hx.cell (by rw [(nrow at_ (by rw [nsn]; exact ha)).1, hs])
  have fU1 : ((W.alloc (.cells #[.int .i64 (n : Int), .slice CA cn cc, .slice EA en ec] 25)).alloc (.cells #[.slice SA sn sc] 36)).frozen? ⟨U, at_, none⟩ = false := by rw [hx.frozen (show U < W.heap.size from hlU)]; exact (nrow at_ (by rw [nsn]; exact ha)).2
  obtain ⟨ad, hSA, s1, s2, s3, s4⟩ := (irs.ext hE2).cell at_ ha
  subst hSA
  have c36 : (((W.alloc (.cells #[.int .i64 (n : Int), .slice CA cn cc, .slice EA en ec] 25)).alloc (.cells #[.slice (some ad) sn sc] 36)).setCell ⟨U, at_, none⟩ (.bool true)).cell? ⟨W.heap.size + 1, 0, none⟩ = some (.slice (some ad) sn sc) := by rw [World.cell?_setCell_other _ _ _ _ (fun e => by have := (Addr.mk.inj e).1; omega)]; simp
  have g0 : (((W.alloc (.cells #[.int .i64 (n : Int), .slice CA cn cc, .slice EA en ec] 25)).alloc (.cells #[.slice (some ad) sn sc] 36)).setCell ⟨U, at_, none⟩ (.bool true)).cell? ⟨W.heap.size, 0, none⟩ = some (.int .i64 (n : Int)) := by rw [World.cell?_setCell_other _ _ _ _ (fun e => by have := (Addr.mk.inj e).1; omega)]; simp
  have g1 : (((W.alloc (.cells #[.int .i64 (n : Int), .slice CA cn cc, .slice EA en ec] 25)).alloc (.cells #[.slice (some ad) sn sc] 36)).setCell ⟨U, at_, none⟩ (.bool true)).cell? ⟨W.heap.size, 1, none⟩ = some (.slice CA cn cc) := by rw [World.cell?_setCell_other _ _ _ _ (fun e => by have := (Addr.mk.inj e).1; omega)]; simp
  have g2 : (((W.alloc (.cells #[.int .i64 (n : Int), .slice CA cn cc, .slice EA en ec] 25)).alloc (.cells #[.slice (some ad) sn sc] 36)).setCell ⟨U, at_, none⟩ (.bool true)).cell? ⟨W.heap.size, 2, none⟩ = some (.slice EA en ec) := by rw [World.cell?_setCell_other _ _ _ _ (fun e => by have := (Addr.mk.inj e).1; omega)]; simp
  generalize hxx : stepv ss at_ = x at s1 s2 s3 s4 h1 h2 h3 ⊢
  have HXX := hid hxx
  clear hxx
  obtain ⟨xk, xa, xi, xo⟩ := x
  simp only [] at s1 s2 s3 s4 h1 h2 h3 ⊢
  have hx3 : Ext (((W.alloc (.cells #[.int .i64 (n : Int), .slice CA cn cc, .slice EA en ec] 25)).alloc (.cells #[.slice (some ad) sn sc] 36)).setCell ⟨U, at_, none⟩ (.bool true)) ((((W.alloc (.cells #[.int .i64 (n : Int), .slice CA cn cc, .slice EA en ec] 25)).alloc (.cells #[.slice (some ad) sn sc] 36)).setCell ⟨U, at_, none⟩ (.bool true)).alloc (.cells #[.int .i64 xk, .int .i64 xa, .int .i64 xi, .int .i64 xo] 57)) := (by repeat' (first | exact Ext.refl _ | assumption | apply Ext.alloc | apply Ext.drewN | apply Ext.drew))
  have G0 : ((((W.alloc (.cells #[.int .i64 (n : Int), .slice CA cn cc, .slice EA en ec] 25)).alloc (.cells #[.slice (some ad) sn sc] 36)).setCell ⟨U, at_, none⟩ (.bool true)).alloc (.cells #[.int .i64 xk, .int .i64 xa, .int .i64 xi, .int .i64 xo] 57)).cell? ⟨W.heap.size, 0, none⟩ = some (.int .i64 (n : Int)) := hx3.cell g0
  have G1 : ((((W.alloc (.cells #[.int .i64 (n : Int), .slice CA cn cc, .slice EA en ec] 25)).alloc (.cells #[.slice (some ad) sn sc] 36)).setCell ⟨U, at_, none⟩ (.bool true)).alloc (.cells #[.int .i64 xk, .int .i64 xa, .int .i64 xi, .int .i64 xo] 57)).cell? ⟨W.heap.size, 1, none⟩ = some (.slice CA cn cc) := hx3.cell g1
  have G2 : ((((W.alloc (.cells #[.int .i64 (n : Int), .slice CA cn cc, .slice EA en ec] 25)).alloc (.cells #[.slice (some ad) sn sc] 36)).setCell ⟨U, at_, none⟩ (.bool true)).alloc (.cells #[.int .i64 xk, .int .i64 xa, .int .i64 xi, .int .i64 xo] 57)).cell? ⟨W.heap.size, 2, none⟩ = some (.slice EA en ec) := hx3.cell g2
  have P0 : ((((W.alloc (.cells #[.int .i64 (n : Int), .slice CA cn cc, .slice EA en ec] 25)).alloc (.cells #[.slice (some ad) sn sc] 36)).setCell ⟨U, at_, none⟩ (.bool true)).alloc (.cells #[.int .i64 xk, .int .i64 xa, .int .i64 xi, .int .i64 xo] 57)).cell? ⟨W.heap.size + 1, 0, none⟩ = some (.slice (some ad) sn sc) := hx3.cell c36
  have HF3 : Hid (Fr U U W ((((W.alloc (.cells #[.int .i64 (n : Int), .slice CA cn cc, .slice EA en ec] 25)).alloc (.cells #[.slice (some ad) sn sc] 36)).setCell ⟨U, at_, none⟩ (.bool true)).alloc (.cells #[.int .i64 xk, .int .i64 xa, .int .i64 xi, .int .i64 xo] 57))) := hF2.trans (Fr.ext hx3)
  have HB3 : Hid (RowB ((((W.alloc (.cells #[.int .i64 (n : Int), .slice CA cn cc, .slice EA en ec] 25)).alloc (.cells #[.slice (some ad) sn sc] 36)).setCell ⟨U, at_, none⟩ (.bool true)).alloc (.cells #[.int .i64 xk, .int .i64 xa, .int .i64 xi, .int .i64 xo] 57)) U (seen.set at_ true)) := hid ((RowB.set (RowB.ext nrow hx) (by rw [nsn]; exact ha) true).ext hx3)
  have hst3 : RI ((((W.alloc (.cells #[.int .i64 (n : Int), .slice CA cn cc, .slice EA en ec] 25)).alloc (.cells #[.slice (some ad) sn sc] 36)).setCell ⟨U, at_, none⟩ (.bool true)).alloc (.cells #[.int .i64 xk, .int .i64 xa, .int .i64 xi, .int .i64 xo] 57)) A n c st := RI.fr HN.out.rst HF3.out fun ad h => ⟨HN.out.ne ad h, HN.out.ne ad h⟩
  have HS3 := hid hst3
  clear hst3
  have HE3 : Hid (Ext w0 ((((W.alloc (.cells #[.int .i64 (n : Int), .slice CA cn cc, .slice EA en ec] 25)).alloc (.cells #[.slice (some ad) sn sc] 36)).setCell ⟨U, at_, none⟩ (.bool true)).alloc (.cells #[.int .i64 xk, .int .i64 xa, .int .i64 xi, .int .i64 xo] 57))) := hE2.trans hx3
  clear g0 g1 g2 hx3 hE2 hF2 hx nrow nsn irs
  subst h1
  subst h2
  subst h3
  have hgn : g.n = (n : Int) := HI.out.hn
  have n1 : n ≤ 4000 := HI.out.n1
  have HOK : Hid (∀ e ∈ g.edges, ∀ v ∈ e, 0 ≤ v ∧ v < (n : Int)) := fun e he v hv => by rw [← hgn]; exact (HI.out.ok e he).2 v hv
  have HR : Hid (RG ((((W.alloc (.cells #[.int .i64 (n : Int), .slice CA cn cc, .slice EA en ec] 25)).alloc (.cells #[.slice (some ad) sn sc] 36)).setCell ⟨U, at_, none⟩ (.bool true)).alloc (.cells #[.int .i64 3, .int .i64 xa, .int .i64 0, .int .i64 0] 57)) CA cn cc EA en ec g) := HI.out.rg.ext HE3.out
  have K149 := f149_any CA EA A cn cc en ec n c g st xa ((((W.alloc (.cells #[.int .i64 (n : Int), .slice CA cn cc, .slice EA en ec] 25)).alloc (.cells #[.slice (some ad) sn sc] 36)).setCell ⟨U, at_, none⟩ (.bool true)).alloc (.cells #[.int .i64 3, .int .i64 xa, .int .i64 0, .int .i64 0] 57)) HR.out HS3.out HOK.out
  rw [hgn] at K149
  have HG := hid hgn
  clear hs ha hlU HN HXX HI hgn
  by_cases a1 : 0 ≤ xa
  · by_cases a2 : xa < (n : Int)
    · obtain ⟨adS, rfl, hcS⟩ := HS3.out.cell xa.toNat (by omega)
      have HZ : Hid (∀ z, nth st xa.toNat = z → stv st xa = z) := fun z h => h
      generalize hz : nth st xa.toNat = z at hcS
      have HYZ := hid (HZ.out z hz)
      clear hz HZ
      by_cases a3 : z = 2
      · have d3 : (z == 2) = true := by simpa using a3
        have HA : Hid (0 ≤ xa ∧ xa < (n : Int) ∧ z = 2) := ⟨a1, a2, a3⟩
        clear a3
        go_enter Tryz.func98, Tryz.ntmps98
        go_wp2_with (go_at_call 149; refine K149.mono ?_; rintro e w4 ⟨rfl, x4⟩)
        refine bodyPost_ret (v := .bool (freeE g.edges st xa)) (by simp [results, Tryz.results98, go_sem]) rfl ?_
        refine ⟨ret_bool ?_, HF3.out.trans (Fr.ext x4), HB3.out.ext x4⟩
        unfold freeB freeE
        simp only []
        rw [decide_eq_true HA.out.1, HG.out, decide_eq_true HA.out.2.1, HYZ.out, decide_eq_true HA.out.2.2]
        simp
      · have d3 : (z == 2) = false := by simpa using a3
        have HC : Hid (freeB g st ⟨3, xa, 0, 0⟩ = false) := by
          refine hid ?_
          unfold freeB
          simp only []
          rw [HYZ.out, decide_eq_false a3]
          simp
        clear a3 K149
        go_enter Tryz.func98, Tryz.ntmps98
        go_wp2
        refine bodyPost_ret (v := .bool false) (by simp [results, Tryz.results98, go_sem]) rfl ?_
        exact ⟨ret_bool HC.out.symm, HF3.out, HB3.out⟩
    · have HC : Hid (freeB g st ⟨3, xa, 0, 0⟩ = false) := by
        refine hid ?_
        unfold freeB
        simp only []
        rw [decide_eq_false (show ¬ xa < g.n by rw [HG.out]; exact a2)]
        simp
      clear K149
      go_enter Tryz.func98, Tryz.ntmps98
      go_wp2
      refine bodyPost_ret (v := .bool false) (by simp [results, Tryz.results98, go_sem]) rfl ?_
      exact ⟨ret_bool HC.out.symm, HF3.out, HB3.out⟩
  · have HC : Hid (freeB g st ⟨3, xa, 0, 0⟩ = false) := by
      refine hid ?_
      unfold freeB
      simp only []
      rw [decide_eq_false a1]
      simp
    clear K149
    go_enter Tryz.func98, Tryz.ntmps98
    go_wp2
    refine bodyPost_ret (v := .bool false) (by simp [results, Tryz.results98, go_sem]) rfl ?_
    exact ⟨ret_bool HC.out.symm, HF3.out, HB3.out⟩

set_option maxRecDepth 100000 in
set_option maxHeartbeats 4000000 in
theorem r98_way {k : D98} (I : In98 k) {A : Option Addr} {c : Nat} {st : List Int} {seen : List Bool} {W : World} (N : Now98 k A c st seen W) {at_ : Nat} (ha : at_ < k.sn) (hs : nthB seen at_ = false) (h1 : (stepv k.ss at_).kind = 4) (h2 : (stepv k.ss at_).in_ = 0) (h3 : (stepv k.ss at_).out = 0) :
    Calls Tryz.prog 98 #[.agg #[.int .i64 (k.n : Int), .slice k.CA k.cn k.cc, .slice k.EA k.en k.ec], .slice k.WA k.wn k.wc, .bool k.hold, .agg #[.slice k.SA k.sn k.sc], .int .i64 (at_ : Int), .slice A k.n c, .slice (some ⟨k.U, 0, none⟩) k.sn k.sn] W fun e w' => L98 k W seen at_ (wayB k.ws k.hold st (stepv k.ss at_)) e w' := by
  obtain ⟨w0, g, ws, hold, ss, CA, cn, cc, EA, en, ec, WA, wn, wc, SA, sn, sc, n, U⟩ := k
  have irs : RS w0 SA sn sc ss := I.rs
  have nrow : RowB W U seen := N.row
  have nsn : seen.length = sn := N.hsn
  have hlU : U < W.heap.size := N.lU
  have hE2 : Ext w0 (((W.alloc (.cells #[.int .i64 (n : Int), .slice CA cn cc, .slice EA en ec] 25)).alloc (.cells #[.slice SA sn sc] 36)).setCell ⟨U, at_, none⟩ (.bool true)) := N.e2 I at_ _ _
  have hF2 : Fr U U W (((W.alloc (.cells #[.int .i64 (n : Int), .slice CA cn cc, .slice EA en ec] 25)).alloc (.cells #[.slice SA sn sc] 36)).setCell ⟨U, at_, none⟩ (.bool true)) := N.fr2 at_ _ _
  have HI := hid I
  have HN := hid N
  clear I N
  simp only [] at *
  have haz : (at_ : Int) < (sn : Int) := by omega
  have hx : Ext W ((W.alloc (.cells #[.int .i64 (n : Int), .slice CA cn cc, .slice EA en ec] 25)).alloc (.cells #[.slice SA sn sc] 36)) := (by repeat' (first | exact Ext.refl _ | assumption | apply Ext.alloc | apply Ext.drewN | apply Ext.drew))
  have cU1 : ((W.alloc (.cells #[.int .i64 (n : Int), .slice CA cn cc, .slice EA en ec] 25)).alloc (.cells #[.slice SA sn sc] 36)).cell? ⟨U, at_, none⟩ = some (.bool false) := hx.cell (by rw [(nrow at_ (by rw [nsn]; exact ha)).1, hs])
  have fU1 : ((W.alloc (.cells #[.int .i64 (n : Int), .slice CA cn cc, .slice EA en ec] 25)).alloc (.cells #[.slice SA sn sc] 36)).frozen? ⟨U, at_, none⟩ = false := by rw [hx.frozen (show U < W.heap.size from hlU)]; exact (nrow at_ (by rw [nsn]; exact ha)).2
  obtain ⟨ad, hSA, s1, s2, s3, s4⟩ := (irs.ext hE2).cell at_ ha
  subst hSA
  have c36 : (((W.alloc (.cells #[.int .i64 (n : Int), .slice CA cn cc, .slice EA en ec] 25)).alloc (.cells #[.slice (some ad) sn sc] 36)).setCell ⟨U, at_, none⟩ (.bool true)).cell? ⟨W.heap.size + 1, 0, none⟩ = some (.slice (some ad) sn sc) := by rw [World.cell?_setCell_other _ _ _ _ (fun e => by have := (Addr.mk.inj e).1; omega)]; simp
  have g0 : (((W.alloc (.cells #[.int .i64 (n : Int), .slice CA cn cc, .slice EA en ec] 25)).alloc (.cells #[.slice (some ad) sn sc] 36)).setCell ⟨U, at_, none⟩ (.bool true)).cell? ⟨W.heap.size, 0, none⟩ = some (.int .i64 (n : Int)) := by rw [World.cell?_setCell_other _ _ _ _ (fun e => by have := (Addr.mk.inj e).1; omega)]; simp
  have g1 : (((W.alloc (.cells #[.int .i64 (n : Int), .slice CA cn cc, .slice EA en ec] 25)).alloc (.cells #[.slice (some ad) sn sc] 36)).setCell ⟨U, at_, none⟩ (.bool true)).cell? ⟨W.heap.size, 1, none⟩ = some (.slice CA cn cc) := by rw [World.cell?_setCell_other _ _ _ _ (fun e => by have := (Addr.mk.inj e).1; omega)]; simp
  have g2 : (((W.alloc (.cells #[.int .i64 (n : Int), .slice CA cn cc, .slice EA en ec] 25)).alloc (.cells #[.slice (some ad) sn sc] 36)).setCell ⟨U, at_, none⟩ (.bool true)).cell? ⟨W.heap.size, 2, none⟩ = some (.slice EA en ec) := by rw [World.cell?_setCell_other _ _ _ _ (fun e => by have := (Addr.mk.inj e).1; omega)]; simp
  generalize hxx : stepv ss at_ = x at s1 s2 s3 s4 h1 h2 h3 ⊢
  have HXX := hid hxx
  clear hxx
  obtain ⟨xk, xa, xi, xo⟩ := x
  simp only [] at s1 s2 s3 s4 h1 h2 h3 ⊢
  have hx3 : Ext (((W.alloc (.cells #[.int .i64 (n : Int), .slice CA cn cc, .slice EA en ec] 25)).alloc (.cells #[.slice (some ad) sn sc] 36)).setCell ⟨U, at_, none⟩ (.bool true)) ((((W.alloc (.cells #[.int .i64 (n : Int), .slice CA cn cc, .slice EA en ec] 25)).alloc (.cells #[.slice (some ad) sn sc] 36)).setCell ⟨U, at_, none⟩ (.bool true)).alloc (.cells #[.int .i64 xk, .int .i64 xa, .int .i64 xi, .int .i64 xo] 57)) := (by repeat' (first | exact Ext.refl _ | assumption | apply Ext.alloc | apply Ext.drewN | apply Ext.drew))
  have G0 : ((((W.alloc (.cells #[.int .i64 (n : Int), .slice CA cn cc, .slice EA en ec] 25)).alloc (.cells #[.slice (some ad) sn sc] 36)).setCell ⟨U, at_, none⟩ (.bool true)).alloc (.cells #[.int .i64 xk, .int .i64 xa, .int .i64 xi, .int .i64 xo] 57)).cell? ⟨W.heap.size, 0, none⟩ = some (.int .i64 (n : Int)) := hx3.cell g0
  have G1 : ((((W.alloc (.cells #[.int .i64 (n : Int), .slice CA cn cc, .slice EA en ec] 25)).alloc (.cells #[.slice (some ad) sn sc] 36)).setCell ⟨U, at_, none⟩ (.bool true)).alloc (.cells #[.int .i64 xk, .int .i64 xa, .int .i64 xi, .int .i64 xo] 57)).cell? ⟨W.heap.size, 1, none⟩ = some (.slice CA cn cc) := hx3.cell g1
  have G2 : ((((W.alloc (.cells #[.int .i64 (n : Int), .slice CA cn cc, .slice EA en ec] 25)).alloc (.cells #[.slice (some ad) sn sc] 36)).setCell ⟨U, at_, none⟩ (.bool true)).alloc (.cells #[.int .i64 xk, .int .i64 xa, .int .i64 xi, .int .i64 xo] 57)).cell? ⟨W.heap.size, 2, none⟩ = some (.slice EA en ec) := hx3.cell g2
  have P0 : ((((W.alloc (.cells #[.int .i64 (n : Int), .slice CA cn cc, .slice EA en ec] 25)).alloc (.cells #[.slice (some ad) sn sc] 36)).setCell ⟨U, at_, none⟩ (.bool true)).alloc (.cells #[.int .i64 xk, .int .i64 xa, .int .i64 xi, .int .i64 xo] 57)).cell? ⟨W.heap.size + 1, 0, none⟩ = some (.slice (some ad) sn sc) := hx3.cell c36
  have HF3 : Hid (Fr U U W ((((W.alloc (.cells #[.int .i64 (n : Int), .slice CA cn cc, .slice EA en ec] 25)).alloc (.cells #[.slice (some ad) sn sc] 36)).setCell ⟨U, at_, none⟩ (.bool true)).alloc (.cells #[.int .i64 xk, .int .i64 xa, .int .i64 xi, .int .i64 xo] 57))) := hF2.trans (Fr.ext hx3)
  have HB3 : Hid (RowB ((((W.alloc (.cells #[.int .i64 (n : Int), .slice CA cn cc, .slice EA en ec] 25)).alloc (.cells #[.slice (some ad) sn sc] 36)).setCell ⟨U, at_, none⟩ (.bool true)).alloc (.cells #[.int .i64 xk, .int .i64 xa, .int .i64 xi, .int .i64 xo] 57)) U (seen.set at_ true)) := hid ((RowB.set (RowB.ext nrow hx) (by rw [nsn]; exact ha) true).ext hx3)
  have hst3 : RI ((((W.alloc (.cells #[.int .i64 (n : Int), .slice CA cn cc, .slice EA en ec] 25)).alloc (.cells #[.slice (some ad) sn sc] 36)).setCell ⟨U, at_, none⟩ (.bool true)).alloc (.cells #[.int .i64 xk, .int .i64 xa, .int .i64 xi, .int .i64 xo] 57)) A n c st := RI.fr HN.out.rst HF3.out fun ad h => ⟨HN.out.ne ad h, HN.out.ne ad h⟩
  have HS3 := hid hst3
  clear hst3
  have HE3 : Hid (Ext w0 ((((W.alloc (.cells #[.int .i64 (n : Int), .slice CA cn cc, .slice EA en ec] 25)).alloc (.cells #[.slice (some ad) sn sc] 36)).setCell ⟨U, at_, none⟩ (.bool true)).alloc (.cells #[.int .i64 xk, .int .i64 xa, .int .i64 xi, .int .i64 xo] 57))) := hE2.trans hx3
  clear g0 g1 g2 hx3 hE2 hF2 hx nrow nsn irs
  subst h1
  subst h2
  subst h3
  have hgn : g.n = (n : Int) := HI.out.hn
  have n1 : n ≤ 4000 := HI.out.n1
  have HL : Hid (ws.length = wn) := HI.out.rws.len
  have hen := HI.out.rws.lenle
  have HOK : Hid (∀ x ∈ ws, (∀ v ∈ x.pos, 0 ≤ v ∧ v < (n : Int)) ∧ ∀ v ∈ x.neg, 0 ≤ v ∧ v < (n : Int)) := fun x hx => by rw [← hgn]; exact ⟨(HI.out.okw x hx).1.2, (HI.out.okw x hx).2.2⟩
  have HR : Hid (RW ((((W.alloc (.cells #[.int .i64 (n : Int), .slice CA cn cc, .slice EA en ec] 25)).alloc (.cells #[.slice (some ad) sn sc] 36)).setCell ⟨U, at_, none⟩ (.bool true)).alloc (.cells #[.int .i64 4, .int .i64 xa, .int .i64 0, .int .i64 0] 57)) WA wn wc ws) := HI.out.rws.ext HE3.out
  clear hs ha hlU HN HXX HI hgn
  cases hold with
  | true =>
    have HC : Hid (wayB ws true st ⟨4, xa, 0, 0⟩ = false) := by refine hid ?_; unfold wayB; simp
    by_cases a1 : 0 ≤ xa
    · go_enter Tryz.func98, Tryz.ntmps98
      go_wp2
      refine bodyPost_ret (v := .bool false) (by simp [results, Tryz.results98, go_sem]) rfl ?_
      exact ⟨ret_bool HC.out.symm, HF3.out, HB3.out⟩
    · go_enter Tryz.func98, Tryz.ntmps98
      go_wp2
      refine bodyPost_ret (v := .bool false) (by simp [results, Tryz.results98, go_sem]) rfl ?_
      exact ⟨ret_bool HC.out.symm, HF3.out, HB3.out⟩
  | false =>
    by_cases a1 : 0 ≤ xa
    · by_cases a2 : xa < (wn : Int)
      · obtain ⟨ad2, B, m, d, B', m', d', rfl, hcell2, hcell2', hri2, hri2'⟩ := HR.out.cell xa.toNat (by omega)
        have HM : Hid (way ws xa.toNat ∈ ws) := way_mem (by have := HL.out; omega)
        have K1 := f148_any A B n c m d st (way ws xa.toNat).pos 1 ((((W.alloc (.cells #[.int .i64 (n : Int), .slice CA cn cc, .slice EA en ec] 25)).alloc (.cells #[.slice (some ad) sn sc] 36)).setCell ⟨U, at_, none⟩ (.bool true)).alloc (.cells #[.int .i64 4, .int .i64 xa, .int .i64 0, .int .i64 0] 57)) HS3.out hri2 (HOK.out _ HM.out).1
        have K2 := f148_any A B' n c m' d' st (way ws xa.toNat).neg 2 ((((W.alloc (.cells #[.int .i64 (n : Int), .slice CA cn cc, .slice EA en ec] 25)).alloc (.cells #[.slice (some ad) sn sc] 36)).setCell ⟨U, at_, none⟩ (.bool true)).alloc (.cells #[.int .i64 4, .int .i64 xa, .int .i64 0, .int .i64 0] 57)) HS3.out hri2' (HOK.out _ HM.out).2
        have HW : Hid (wayB ws false st ⟨4, xa, 0, 0⟩ = (areB st 1 (way ws xa.toNat).pos && areB st 2 (way ws xa.toNat).neg)) := by
          refine hid ?_
          unfold wayB
          simp only []
          rw [decide_eq_true a1, decide_eq_true (show xa < (ws.length : Int) by have := HL.out; omega)]
          simp
        clear hri2 hri2'
        generalize areB st 1 (way ws xa.toNat).pos = b1 at K1 HW
        generalize areB st 2 (way ws xa.toNat).neg = b2 at K2 HW
        cases b1 with
        | true =>
          go_enter Tryz.func98, Tryz.ntmps98
          go_wp2_with (first
            | (go_at_call 148; (with_reducible refine K1.mono ?_); rintro e w4 ⟨rfl, rfl⟩)
            | (go_at_call 148; (with_reducible refine K2.mono ?_); rintro e w4 ⟨rfl, rfl⟩))
          refine bodyPost_ret (v := .bool b2) (by simp [results, Tryz.results98, go_sem]) rfl ?_
          exact ⟨ret_bool (by rw [HW.out]; rfl), HF3.out, HB3.out⟩
        | false =>
          go_enter Tryz.func98, Tryz.ntmps98
          go_wp2_with (go_at_call 148; (with_reducible refine K1.mono ?_); rintro e w4 ⟨rfl, rfl⟩)
          refine bodyPost_ret (v := .bool false) (by simp [results, Tryz.results98, go_sem]) rfl ?_
          exact ⟨ret_bool (by rw [HW.out]; rfl), HF3.out, HB3.out⟩
      · have HC : Hid (wayB ws false st ⟨4, xa, 0, 0⟩ = false) := by
          refine hid ?_
          unfold wayB
          simp only []
          rw [decide_eq_false (show ¬ xa < (ws.length : Int) by have := HL.out; omega)]
          simp
        go_enter Tryz.func98, Tryz.ntmps98
        go_wp2
        refine bodyPost_ret (v := .bool false) (by simp [results, Tryz.results98, go_sem]) rfl ?_
        exact ⟨ret_bool HC.out.symm, HF3.out, HB3.out⟩
    · have HC : Hid (wayB ws false st ⟨4, xa, 0, 0⟩ = false) := by
        refine hid ?_
        unfold wayB
        simp only []
        rw [decide_eq_false a1]
        simp
      go_enter Tryz.func98, Tryz.ntmps98
      go_wp2
      refine bodyPost_ret (v := .bool false) (by simp [results, Tryz.results98, go_sem]) rfl ?_
      exact ⟨ret_bool HC.out.symm, HF3.out, HB3.out⟩

set_option maxRecDepth 100000 in
set_option maxHeartbeats 4000000 in
theorem r98_none {k : D98} (I : In98 k) {A : Option Addr} {c : Nat} {st : List Int} {seen : List Bool} {W : World} (N : Now98 k A c st seen W) {at_ : Nat} (ha : at_ < k.sn) (hs : nthB seen at_ = false) (h1 : (stepv k.ss at_).kind = 5) (h2 : (stepv k.ss at_).in_ = 0) (h3 : (stepv k.ss at_).out = 0) :
    Calls Tryz.prog 98 #[.agg #[.int .i64 (k.n : Int), .slice k.CA k.cn k.cc, .slice k.EA k.en k.ec], .slice k.WA k.wn k.wc, .bool k.hold, .agg #[.slice k.SA k.sn k.sc], .int .i64 (at_ : Int), .slice A k.n c, .slice (some ⟨k.U, 0, none⟩) k.sn k.sn] W fun e w' => L98 k W seen at_ (noneB k.ws k.hold st (stepv k.ss at_)) e w' := by
  obtain ⟨w0, g, ws, hold, ss, CA, cn, cc, EA, en, ec, WA, wn, wc, SA, sn, sc, n, U⟩ := k
  have irs : RS w0 SA sn sc ss := I.rs
  have nrow : RowB W U seen := N.row
  have nsn : seen.length = sn := N.hsn
  have hlU : U < W.heap.size := N.lU
  have hE2 : Ext w0 (((W.alloc (.cells #[.int .i64 (n : Int), .slice CA cn cc, .slice EA en ec] 25)).alloc (.cells #[.slice SA sn sc] 36)).setCell ⟨U, at_, none⟩ (.bool true)) := N.e2 I at_ _ _
  have hF2 : Fr U U W (((W.alloc (.cells #[.int .i64 (n : Int), .slice CA cn cc, .slice EA en ec] 25)).alloc (.cells #[.slice SA sn sc] 36)).setCell ⟨U, at_, none⟩ (.bool true)) := N.fr2 at_ _ _
  have HI := hid I
  have HN := hid N
  clear I N
  simp only [] at *
  have haz : (at_ : Int) < (sn : Int) := by omega
  have hx : Ext W ((W.alloc (.cells #[.int .i64 (n : Int), .slice CA cn cc, .slice EA en ec] 25)).alloc (.cells #[.slice SA sn sc] 36)) := (by repeat' (first | exact Ext.refl _ | assumption | apply Ext.alloc | apply Ext.drewN | apply Ext.drew))
  have cU1 : ((W.alloc (.cells #[.int .i64 (n : Int), .slice CA cn cc, .slice EA en ec] 25)).alloc (.cells #[.slice SA sn sc] 36)).cell? ⟨U, at_, none⟩ = some (.bool false) := hx.cell (by rw [(nrow at_ (by rw [nsn]; exact ha)).1, hs])
  have fU1 : ((W.alloc (.cells #[.int .i64 (n : Int), .slice CA cn cc, .slice EA en ec] 25)).alloc (.cells #[.slice SA sn sc] 36)).frozen? ⟨U, at_, none⟩ = false := by rw [hx.frozen (show U < W.heap.size from hlU)]; exact (nrow at_ (by rw [nsn]; exact ha)).2
  obtain ⟨ad, hSA, s1, s2, s3, s4⟩ := (irs.ext hE2).cell at_ ha
  subst hSA
  have c36 : (((W.alloc (.cells #[.int .i64 (n : Int), .slice CA cn cc, .slice EA en ec] 25)).alloc (.cells #[.slice (some ad) sn sc] 36)).setCell ⟨U, at_, none⟩ (.bool true)).cell? ⟨W.heap.size + 1, 0, none⟩ = some (.slice (some ad) sn sc) := by rw [World.cell?_setCell_other _ _ _ _ (fun e => by have := (Addr.mk.inj e).1; omega)]; simp
  have g0 : (((W.alloc (.cells #[.int .i64 (n : Int), .slice CA cn cc, .slice EA en ec] 25)).alloc (.cells #[.slice (some ad) sn sc] 36)).setCell ⟨U, at_, none⟩ (.bool true)).cell? ⟨W.heap.size, 0, none⟩ = some (.int .i64 (n : Int)) := by rw [World.cell?_setCell_other _ _ _ _ (fun e => by have := (Addr.mk.inj e).1; omega)]; simp
  have g1 : (((W.alloc (.cells #[.int .i64 (n : Int), .slice CA cn cc, .slice EA en ec] 25)).alloc (.cells #[.slice (some ad) sn sc] 36)).setCell ⟨U, at_, none⟩ (.bool true)).cell? ⟨W.heap.size, 1, none⟩ = some (.slice CA cn cc) := by rw [World.cell?_setCell_other _ _ _ _ (fun e => by have := (Addr.mk.inj e).1; omega)]; simp
  have g2 : (((W.alloc (.cells #[.int .i64 (n : Int), .slice CA cn cc, .slice EA en ec] 25)).alloc (.cells #[.slice (some ad) sn sc] 36)).setCell ⟨U, at_, none⟩ (.bool true)).cell? ⟨W.heap.size, 2, none⟩ = some (.slice EA en ec) := by rw [World.cell?_setCell_other _ _ _ _ (fun e => by have := (Addr.mk.inj e).1; omega)]; simp
  generalize hxx : stepv ss at_ = x at s1 s2 s3 s4 h1 h2 h3 ⊢
  have HXX := hid hxx
  clear hxx
  obtain ⟨xk, xa, xi, xo⟩ := x
  simp only [] at s1 s2 s3 s4 h1 h2 h3 ⊢
  have hx3 : Ext (((W.alloc (.cells #[.int .i64 (n : Int), .slice CA cn cc, .slice EA en ec] 25)).alloc (.cells #[.slice (some ad) sn sc] 36)).setCell ⟨U, at_, none⟩ (.bool true)) ((((W.alloc (.cells #[.int .i64 (n : Int), .slice CA cn cc, .slice EA en ec] 25)).alloc (.cells #[.slice (some ad) sn sc] 36)).setCell ⟨U, at_, none⟩ (.bool true)).alloc (.cells #[.int .i64 xk, .int .i64 xa, .int .i64 xi, .int .i64 xo] 57)) := (by repeat' (first | exact Ext.refl _ | assumption | apply Ext.alloc | apply Ext.drewN | apply Ext.drew))
  have G0 : ((((W.alloc (.cells #[.int .i64 (n : Int), .slice CA cn cc, .slice EA en ec] 25)).alloc (.cells #[.slice (some ad) sn sc] 36)).setCell ⟨U, at_, none⟩ (.bool true)).alloc (.cells #[.int .i64 xk, .int .i64 xa, .int .i64 xi, .int .i64 xo] 57)).cell? ⟨W.heap.size, 0, none⟩ = some (.int .i64 (n : Int)) := hx3.cell g0
  have G1 : ((((W.alloc (.cells #[.int .i64 (n : Int), .slice CA cn cc, .slice EA en ec] 25)).alloc (.cells #[.slice (some ad) sn sc] 36)).setCell ⟨U, at_, none⟩ (.bool true)).alloc (.cells #[.int .i64 xk, .int .i64 xa, .int .i64 xi, .int .i64 xo] 57)).cell? ⟨W.heap.size, 1, none⟩ = some (.slice CA cn cc) := hx3.cell g1
  have G2 : ((((W.alloc (.cells #[.int .i64 (n : Int), .slice CA cn cc, .slice EA en ec] 25)).alloc (.cells #[.slice (some ad) sn sc] 36)).setCell ⟨U, at_, none⟩ (.bool true)).alloc (.cells #[.int .i64 xk, .int .i64 xa, .int .i64 xi, .int .i64 xo] 57)).cell? ⟨W.heap.size, 2, none⟩ = some (.slice EA en ec) := hx3.cell g2
  have P0 : ((((W.alloc (.cells #[.int .i64 (n : Int), .slice CA cn cc, .slice EA en ec] 25)).alloc (.cells #[.slice (some ad) sn sc] 36)).setCell ⟨U, at_, none⟩ (.bool true)).alloc (.cells #[.int .i64 xk, .int .i64 xa, .int .i64 xi, .int .i64 xo] 57)).cell? ⟨W.heap.size + 1, 0, none⟩ = some (.slice (some ad) sn sc) := hx3.cell c36
  have HF3 : Hid (Fr U U W ((((W.alloc (.cells #[.int .i64 (n : Int), .slice CA cn cc, .slice EA en ec] 25)).alloc (.cells #[.slice (some ad) sn sc] 36)).setCell ⟨U, at_, none⟩ (.bool true)).alloc (.cells #[.int .i64 xk, .int .i64 xa, .int .i64 xi, .int .i64 xo] 57))) := hF2.trans (Fr.ext hx3)
  have HB3 : Hid (RowB ((((W.alloc (.cells #[.int .i64 (n : Int), .slice CA cn cc, .slice EA en ec] 25)).alloc (.cells #[.slice (some ad) sn sc] 36)).setCell ⟨U, at_, none⟩ (.bool true)).alloc (.cells #[.int .i64 xk, .int .i64 xa, .int .i64 xi, .int .i64 xo] 57)) U (seen.set at_ true)) := hid ((RowB.set (RowB.ext nrow hx) (by rw [nsn]; exact ha) true).ext hx3)
  have hst3 : RI ((((W.alloc (.cells #[.int .i64 (n : Int), .slice CA cn cc, .slice EA en ec] 25)).alloc (.cells #[.slice (some ad) sn sc] 36)).setCell ⟨U, at_, none⟩ (.bool true)).alloc (.cells #[.int .i64 xk, .int .i64 xa, .int .i64 xi, .int .i64 xo] 57)) A n c st := RI.fr HN.out.rst HF3.out fun ad h => ⟨HN.out.ne ad h, HN.out.ne ad h⟩
  have HS3 := hid hst3
  clear hst3
  have HE3 : Hid (Ext w0 ((((W.alloc (.cells #[.int .i64 (n : Int), .slice CA cn cc, .slice EA en ec] 25)).alloc (.cells #[.slice (some ad) sn sc] 36)).setCell ⟨U, at_, none⟩ (.bool true)).alloc (.cells #[.int .i64 xk, .int .i64 xa, .int .i64 xi, .int .i64 xo] 57))) := hE2.trans hx3
  clear g0 g1 g2 hx3 hE2 hF2 hx nrow nsn irs
  subst h1
  subst h2
  subst h3
  have hgn : g.n = (n : Int) := HI.out.hn
  have n1 : n ≤ 4000 := HI.out.n1
  have HL : Hid (ws.length = wn) := HI.out.rws.len
  have hen := HI.out.rws.lenle
  have HOK : Hid (∀ x ∈ ws, (∀ v ∈ x.pos, 0 ≤ v ∧ v < (n : Int)) ∧ ∀ v ∈ x.neg, 0 ≤ v ∧ v < (n : Int)) := fun x hx => by rw [← hgn]; exact ⟨(HI.out.okw x hx).1.2, (HI.out.okw x hx).2.2⟩
  have HR : Hid (RW ((((W.alloc (.cells #[.int .i64 (n : Int), .slice CA cn cc, .slice EA en ec] 25)).alloc (.cells #[.slice (some ad) sn sc] 36)).setCell ⟨U, at_, none⟩ (.bool true)).alloc (.cells #[.int .i64 5, .int .i64 xa, .int .i64 0, .int .i64 0] 57)) WA wn wc ws) := HI.out.rws.ext HE3.out
  clear hs ha hlU HN HXX HI hgn
  cases hold with
  | false =>
    have HC : Hid (noneB ws false st ⟨5, xa, 0, 0⟩ = false) := by refine hid ?_; unfold noneB; simp
    by_cases a1 : 0 ≤ xa
    · go_enter Tryz.func98, Tryz.ntmps98
      go_wp2
      refine bodyPost_ret (v := .bool false) (by simp [results, Tryz.results98, go_sem]) rfl ?_
      exact ⟨ret_bool HC.out.symm, HF3.out, HB3.out⟩
    · go_enter Tryz.func98, Tryz.ntmps98
      go_wp2
      refine bodyPost_ret (v := .bool false) (by simp [results, Tryz.results98, go_sem]) rfl ?_
      exact ⟨ret_bool HC.out.symm, HF3.out, HB3.out⟩
  | true =>
    by_cases a0 : xa = 0
    · subst a0
      go_enter Tryz.func98, Tryz.ntmps98
      go_wp2
      generalize ((((W.alloc (.cells #[.int .i64 (n : Int), .slice CA cn cc, .slice EA en ec] 25)).alloc (.cells #[.slice (some ad) sn sc] 36)).setCell ⟨U, at_, none⟩ (.bool true)).alloc (.cells #[.int .i64 5, .int .i64 0, .int .i64 0, .int .i64 0] 57)) = w3 at HE3 HF3 HB3 HS3 HR G0 G1 G2 P0 ⊢
      clear cU1 fU1 c36 s1 s2 s3 s4
      go_loopg [19] wn (fun gg s19 wr => ∃ kk : Nat, kk ≤ wn ∧ wn - kk ≤ gg ∧ s19 = .int .i64 kk ∧ w3 = wr ∧ Aside (∀ j, j < kk → (someB st 2 (way ws j).pos || someB st 1 (way ws j).neg) = true))
      case atStart => exact ⟨0, Nat.zero_le _, by omega, rfl, rfl, fun j hj => absurd hj (Nat.not_lt_zero _)⟩
      case round =>
        obtain ⟨kk, hkk, hg, rfl, rfl, AA⟩ := hrel
        by_cases hlt : kk < wn
        · have hltz : (kk : Int) < (wn : Int) := by omega
          obtain ⟨ad2, B, m, d, B', m', d', rfl, hcell2, hcell2', hri2, hri2'⟩ := HR.out.cell kk hlt
          have HM : Hid (way ws kk ∈ ws) := way_mem (by have := HL.out; omega)
          have K1 := f150_any A B n c m d st (way ws kk).pos 2 w3 HS3.out hri2 (HOK.out _ HM.out).1
          have K2 := f150_any A B' n c m' d' st (way ws kk).neg 1 w3 HS3.out hri2' (HOK.out _ HM.out).2
          clear hri2 hri2'
          generalize hb1 : someB st 2 (way ws kk).pos = b1 at K1
          generalize hb2 : someB st 1 (way ws kk).neg = b2 at K2
          have HV : Hid (someB st 2 (way ws kk).pos = b1 ∧ someB st 1 (way ws kk).neg = b2) := ⟨hb1, hb2⟩
          clear hb1 hb2
          cases b1 with
          | true =>
            go_wp2_with (go_at_call 150; (with_reducible refine K1.mono ?_); rintro e w4 ⟨rfl, rfl⟩)
            go_roundg (wn - (kk + 1))
            case measure => omega
            case rel =>
              refine ⟨kk + 1, by omega, by omega, by go_num, rfl, (show Aside _ from fun j hj => ?_)⟩
              rcases Nat.lt_or_ge j kk with h1 | h1
              · exact AA.out j h1
              · obtain rfl : j = kk := by omega
                rw [HV.out.1]
                rfl
          | false =>
            cases b2 with
            | true =>
              go_wp2_with (first
            | (go_at_call 150; (with_reducible refine K1.mono ?_); rintro e w4 ⟨rfl, rfl⟩)
            | (go_at_call 150; (with_reducible refine K2.mono ?_); rintro e w4 ⟨rfl, rfl⟩))
              go_roundg (wn - (kk + 1))
              case measure => omega
              case rel =>
                refine ⟨kk + 1, by omega, by omega, by go_num, rfl, (show Aside _ from fun j hj => ?_)⟩
                rcases Nat.lt_or_ge j kk with h1 | h1
                · exact AA.out j h1
                · obtain rfl : j = kk := by omega
                  rw [HV.out.1]
                  (rw [HV.out.2]; rfl)
            | false =>
              go_wp2_with (first
            | (go_at_call 150; (with_reducible refine K1.mono ?_); rintro e w4 ⟨rfl, rfl⟩)
            | (go_at_call 150; (with_reducible refine K2.mono ?_); rintro e w4 ⟨rfl, rfl⟩))
              refine bodyPost_ret (v := .bool false) (by simp [results, Tryz.results98, go_sem]) rfl ?_
              refine ⟨ret_bool ?_, HF3.out, HB3.out⟩
              unfold noneB
              simp only []
              rw [List.any_eq_true.2 ⟨_, HM.out, by rw [HV.out.1, HV.out.2]; rfl⟩]
              simp
        · have hltz : ¬ (kk : Int) < (wn : Int) := by omega
          have HF : Hid (noneB ws true st ⟨5, 0, 0, 0⟩ = true) := by
            refine hid ?_
            unfold noneB
            simp only []
            rw [List.any_eq_false.2 fun x hx => by
              obtain ⟨i, hi, e1⟩ := List.mem_iff_getElem.1 hx
              have := AA.out i (by have := HL.out; omega)
              rw [way_eq hi, e1] at this
              revert this
              cases someB st 2 x.pos <;> cases someB st 1 x.neg <;> simp]
            rfl
          go_wp2
          refine bodyPost_ret (v := .bool true) (by simp [results, Tryz.results98, go_sem]) rfl ?_
          exact ⟨ret_bool HF.out.symm, HF3.out, HB3.out⟩
    · have d0 : (xa != 0) = true := by simpa using a0
      have HC : Hid (noneB ws true st ⟨5, xa, 0, 0⟩ = false) := by refine hid ?_; unfold noneB; simp only []; rw [decide_eq_false a0]; simp
      clear a0
      by_cases a1 : 0 ≤ xa
      · go_enter Tryz.func98, Tryz.ntmps98
        go_wp2
        refine bodyPost_ret (v := .bool false) (by simp [results, Tryz.results98, go_sem]) rfl ?_
        exact ⟨ret_bool HC.out.symm, HF3.out, HB3.out⟩
      · go_enter Tryz.func98, Tryz.ntmps98
        go_wp2
        refine bodyPost_ret (v := .bool false) (by simp [results, Tryz.results98, go_sem]) rfl ?_
        exact ⟨ret_bool HC.out.symm, HF3.out, HB3.out⟩
end Go.Proofs.YthjifmfmaiagoaaGreatDoor

/- The references: right, a branch that is taken; right at every fuel. -/
namespace Go.Proofs.YthjifmfmaiagoaaGreatDoor
open Go.RowKit
attribute [local go_sem] Oper.semAt_some

theorem info3s : (Tryz.prog.info? 3).map (fun i => (i.zero, i.size, i.bytes)) = some (some (.int .i64 0), 1, 8) := by kernel_rfl
/-- A row of one's own that is not empty: its block. -/
theorem own_row {W : World} {B n : Nat} {v : Value} {l : List Int} (h : W.ownsRow B 3 1 v n (intVs' l)) (h0 : 0 < n) : ∃ g c, v = .slice (some ⟨g, 0, none⟩) n c ∧ B ≤ g ∧ g < W.heap.size ∧ n ≤ c ∧ c ≤ 9223372036854775807 ∧ RowI W g l := by
  have hl : l.length = n := by have := h.1; unfold intVs' at this; rw [List.length_map] at this; omega
  rcases h.2 with ⟨_, h1⟩ | ⟨g, cap, cur, rfl, h1, h2, h3, h4, h5, h6⟩
  · omega
  · refine ⟨g, cap, rfl, h1, (own_lt h rfl).1, h3, by simp only [maxLen] at h4; omega, fun i hi => ⟨?_, by simp [World.frozen?, h2]⟩⟩
    have := h.cells (g := g) rfl i (.int .i64 (nth l i)) (by
      unfold intVs'
      rw [List.getElem?_map, List.getElem?_eq_getElem (by omega), nth_eq (by omega)]
      rfl)
    rwa [show (⟨g, 0, none⟩ : Addr).add i = ⟨g, i, none⟩ by unfold Addr.add; split <;> simp_all] at this
theorem RowI.ri {w : World} {T n c : Nat} {l : List Int} (h : RowI w T l) (hl : l.length = n) (hc : n ≤ c) (hb : c ≤ 9223372036854775807) : RI w (some ⟨T, 0, none⟩) n c l :=
  ⟨hl, hc, hb, fun i hi => ⟨_, rfl, by rw [show (⟨T, 0, none⟩ : Addr).add i = ⟨T, i, none⟩ by unfold Addr.add; split <;> simp_all]; exact (h i (by omega)).1⟩⟩

theorem branch_made {k : D98} {st : List Int} {seen : List Bool} {w3 w4 w5 : World} {g1 c1 g2 c2 v : Nat} (I : In98 k) (h3 : Ext k.w0 w3) (hB : RowB w3 k.U seen) (hsn : seen.length = k.sn) (hU : k.U < w3.heap.size) (E1 : Ext w3 w4) (E2 : Ext w4 w5)
    (G1 : w3.heap.size ≤ g1 ∧ g1 < w4.heap.size ∧ k.n ≤ c1 ∧ c1 ≤ 9223372036854775807 ∧ RowI w4 g1 st) (G2 : w4.heap.size ≤ g2 ∧ g2 < w5.heap.size ∧ k.n ≤ c2 ∧ c2 ≤ 9223372036854775807 ∧ RowI w5 g2 st) (hst : st.length = k.n) (hv : v < k.n) :
    w5.cell? ⟨g1, v, none⟩ = some (.int .i64 (nth st v)) ∧ w5.frozen? ⟨g1, v, none⟩ = false ∧ (w5.setCell ⟨g1, v, none⟩ (.int .i64 1)).cell? ⟨g2, v, none⟩ = some (.int .i64 (nth st v)) ∧ (w5.setCell ⟨g1, v, none⟩ (.int .i64 1)).frozen? ⟨g2, v, none⟩ = false ∧
    Now98 k (some ⟨g1, 0, none⟩) c1 (st.set v 1) seen ((w5.setCell ⟨g1, v, none⟩ (.int .i64 1)).setCell ⟨g2, v, none⟩ (.int .i64 2)) ∧
    RI ((w5.setCell ⟨g1, v, none⟩ (.int .i64 1)).setCell ⟨g2, v, none⟩ (.int .i64 2)) (some ⟨g2, 0, none⟩) k.n c2 (st.set v 2) ∧
    Ext w3 ((w5.setCell ⟨g1, v, none⟩ (.int .i64 1)).setCell ⟨g2, v, none⟩ (.int .i64 2)) ∧ Ext w3 (w5.setCell ⟨g1, v, none⟩ (.int .i64 1)) := by
  obtain ⟨a1, a2, a3, a4, r1⟩ := G1
  obtain ⟨b1, b2, b3, b4, r2⟩ := G2
  have s1 := E1.size
  have s2 := E2.size
  have ne : g1 ≠ g2 := by omega
  have r1' := r1.ext E2
  have hx : Ext w3 ((w5.setCell ⟨g1, v, none⟩ (.int .i64 1)).setCell ⟨g2, v, none⟩ (.int .i64 2)) := Below.setCell (Below.setCell (E1.trans E2) a1 _) (show w3.heap.size ≤ g2 by omega) _
  have R1 : RowI ((w5.setCell ⟨g1, v, none⟩ (.int .i64 1)).setCell ⟨g2, v, none⟩ (.int .i64 2)) g1 (st.set v 1) := (r1'.set (by omega) 1).other ne.symm _
  have R2 : RowI ((w5.setCell ⟨g1, v, none⟩ (.int .i64 1)).setCell ⟨g2, v, none⟩ (.int .i64 2)) g2 (st.set v 2) := (r2.other ne _).set (by omega) 2
  refine ⟨(r1' v (by omega)).1, (r1' v (by omega)).2, (r2.other ne _ v (by omega)).1, (r2.other ne _ v (by omega)).2, ⟨h3.trans hx, by have := hx.size; omega, R1.ri (by rw [List.length_set]; exact hst) a3 a4, fun ad h => by cases h; show g1 ≠ k.U; omega, fun h => (by cases h), hB.ext hx, hsn⟩, R2.ri (by rw [List.length_set]; exact hst) b3 b4, hx, Below.setCell (E1.trans E2) a1 _⟩

theorem now_next {k : D98} {B : Addr} {c1 c2 : Nat} {st1 st2 : List Int} {seen s2 : List Bool} {w7 w8 : World} {g2 : Nat} (hg : g2 ≠ k.U) (N : Now98 k (some B) c1 st1 seen w7) (R : RI w7 (some ⟨g2, 0, none⟩) k.n c2 st2) (F : Fr k.U k.U w7 w8) (hE : Ext k.w0 w8) (hR : RowB w8 k.U s2) (hl : s2.length = k.sn) : Now98 k (some ⟨g2, 0, none⟩) c2 st2 s2 w8 :=
  ⟨hE, by have := N.lU; have := F.size; omega, R.fr F fun ad h => by cases h; exact ⟨hg, hg⟩, fun ad h => by cases h; exact hg, fun h => (by cases h), hR, hl⟩
theorem Now98.e0 {k : D98} (I : In98 k) {A : Option Addr} {c : Nat} {st : List Int} {seen : List Bool} {w7 w8 : World} (N : Now98 k A c st seen w7) (F : Fr k.U k.U w7 w8) : Ext k.w0 w8 :=
  ⟨F.os.trans N.ext.os, F.tape.trans N.ext.tape, F.output.trans N.ext.output, Nat.le_trans N.ext.size F.size, fun j hj => (F.block j (Nat.lt_of_lt_of_le hj N.ext.size) (by have := I.u0; omega) (by have := I.u0; omega)).trans (N.ext.block j hj)⟩

set_option maxRecDepth 100000 in
set_option maxHeartbeats 8000000 in
theorem r98_branch {k : D98} {f : Nat} (IH : C98 k f) (I : In98 k) {A : Option Addr} {c : Nat} {st : List Int} {seen : List Bool} {W : World} (N : Now98 k A c st seen W) {at_ : Nat} (ha : at_ < k.sn) (hf : k.sn ≤ at_ + (f + 1)) (hs : nthB seen at_ = false) (h1 : (stepv k.ss at_).kind = 1) (h2 : branchB k.g k.ss.length at_ st (stepv k.ss at_) = true) :
    Calls Tryz.prog 98 #[.agg #[.int .i64 (k.n : Int), .slice k.CA k.cn k.cc, .slice k.EA k.en k.ec], .slice k.WA k.wn k.wc, .bool k.hold, .agg #[.slice k.SA k.sn k.sc], .int .i64 (at_ : Int), .slice A k.n c, .slice (some ⟨k.U, 0, none⟩) k.sn k.sn] W fun e w' => P98 k W ((rightM k.g k.ws k.hold k.ss f (stepv k.ss at_).in_.toNat (st.set (stepv k.ss at_).at_.toNat 1) (seen.set at_ true)).bind fun s2 => rightM k.g k.ws k.hold k.ss f (stepv k.ss at_).out.toNat (st.set (stepv k.ss at_).at_.toNat 2) s2) e w' := by
  have hsl : k.ss.length = k.sn := I.rs.len
  have hkn : k.g.n = (k.n : Int) := I.hn
  obtain ⟨a1, a2, a3, a4, a5, a6, a7⟩ := branchB_true h2
  rw [hsl] at a6 a7
  rw [hkn] at a2
  have IH1 := fun (A1 : Option Addr) c1 W' (N' : Now98 k A1 c1 (st.set (stepv k.ss at_).at_.toNat 1) (seen.set at_ true) W') => IH (stepv k.ss at_).in_.toNat A1 c1 _ _ W' N' (by omega) (by omega)
  have IH2 := fun (A1 : Option Addr) c1 W' s2 (N' : Now98 k A1 c1 (st.set (stepv k.ss at_).at_.toNat 2) s2 W') => IH (stepv k.ss at_).out.toNat A1 c1 _ _ W' N' (by omega) (by omega)
  have hlen : ∀ s2, rightM k.g k.ws k.hold k.ss f (stepv k.ss at_).in_.toNat (st.set (stepv k.ss at_).at_.toNat 1) (seen.set at_ true) = some s2 → s2.length = k.sn := fun s2 h => by
    have := rightM_length _ _ _ _ _ _ _ _ _ h
    rw [this, List.length_set]
    exact N.hsn
  rw [Int.toNat_of_nonneg (show 0 ≤ (stepv k.ss at_).in_ by omega)] at IH1
  rw [Int.toNat_of_nonneg (show 0 ≤ (stepv k.ss at_).out by omega)] at IH2
  have hslen : st.length = k.n := N.rst.len
  clear IH hsl hkn hf h2
  obtain ⟨w0, g, ws, hold, ss, CA, cn, cc, EA, en, ec, WA, wn, wc, SA, sn, sc, n, U⟩ := k
  have irs : RS w0 SA sn sc ss := I.rs
  have nrow : RowB W U seen := N.row
  have nsn : seen.length = sn := N.hsn
  have hlU : U < W.heap.size := N.lU
  have hE2 : Ext w0 (((W.alloc (.cells #[.int .i64 (n : Int), .slice CA cn cc, .slice EA en ec] 25)).alloc (.cells #[.slice SA sn sc] 36)).setCell ⟨U, at_, none⟩ (.bool true)) := N.e2 I at_ _ _
  have hF2 : Fr U U W (((W.alloc (.cells #[.int .i64 (n : Int), .slice CA cn cc, .slice EA en ec] 25)).alloc (.cells #[.slice SA sn sc] 36)).setCell ⟨U, at_, none⟩ (.bool true)) := N.fr2 at_ _ _
  have HI := hid I
  have HN := hid N
  clear I N
  simp only [] at *
  have haz : (at_ : Int) < (sn : Int) := by omega
  have hx : Ext W ((W.alloc (.cells #[.int .i64 (n : Int), .slice CA cn cc, .slice EA en ec] 25)).alloc (.cells #[.slice SA sn sc] 36)) := (by repeat' (first | exact Ext.refl _ | assumption | apply Ext.alloc | apply Ext.drewN | apply Ext.drew))
  have cU1 : ((W.alloc (.cells #[.int .i64 (n : Int), .slice CA cn cc, .slice EA en ec] 25)).alloc (.cells #[.slice SA sn sc] 36)).cell? ⟨U, at_, none⟩ = some (.bool false) := hx.cell (by rw [(nrow at_ (by rw [nsn]; exact ha)).1, hs])
  have fU1 : ((W.alloc (.cells #[.int .i64 (n : Int), .slice CA cn cc, .slice EA en ec] 25)).alloc (.cells #[.slice SA sn sc] 36)).frozen? ⟨U, at_, none⟩ = false := by rw [hx.frozen (show U < W.heap.size from hlU)]; exact (nrow at_ (by rw [nsn]; exact ha)).2
  obtain ⟨ad, hSA, s1, s2, s3, s4⟩ := (irs.ext hE2).cell at_ ha
  subst hSA
  have c36 : (((W.alloc (.cells #[.int .i64 (n : Int), .slice CA cn cc, .slice EA en ec] 25)).alloc (.cells #[.slice (some ad) sn sc] 36)).setCell ⟨U, at_, none⟩ (.bool true)).cell? ⟨W.heap.size + 1, 0, none⟩ = some (.slice (some ad) sn sc) := by rw [World.cell?_setCell_other _ _ _ _ (fun e => by have := (Addr.mk.inj e).1; omega)]; simp
  have g0 : (((W.alloc (.cells #[.int .i64 (n : Int), .slice CA cn cc, .slice EA en ec] 25)).alloc (.cells #[.slice (some ad) sn sc] 36)).setCell ⟨U, at_, none⟩ (.bool true)).cell? ⟨W.heap.size, 0, none⟩ = some (.int .i64 (n : Int)) := by rw [World.cell?_setCell_other _ _ _ _ (fun e => by have := (Addr.mk.inj e).1; omega)]; simp
  have g1 : (((W.alloc (.cells #[.int .i64 (n : Int), .slice CA cn cc, .slice EA en ec] 25)).alloc (.cells #[.slice (some ad) sn sc] 36)).setCell ⟨U, at_, none⟩ (.bool true)).cell? ⟨W.heap.size, 1, none⟩ = some (.slice CA cn cc) := by rw [World.cell?_setCell_other _ _ _ _ (fun e => by have := (Addr.mk.inj e).1; omega)]; simp
  have g2 : (((W.alloc (.cells #[.int .i64 (n : Int), .slice CA cn cc, .slice EA en ec] 25)).alloc (.cells #[.slice (some ad) sn sc] 36)).setCell ⟨U, at_, none⟩ (.bool true)).cell? ⟨W.heap.size, 2, none⟩ = some (.slice EA en ec) := by rw [World.cell?_setCell_other _ _ _ _ (fun e => by have := (Addr.mk.inj e).1; omega)]; simp
  generalize hxx : stepv ss at_ = x at s1 s2 s3 s4 h1 a1 a2 a3 a4 a5 a6 a7 IH1 IH2 hlen ⊢
  have HXX := hid hxx
  clear hxx
  obtain ⟨xk, xa, xi, xo⟩ := x
  simp only [] at s1 s2 s3 s4 h1 a1 a2 a3 a4 a5 a6 a7 IH1 IH2 hlen ⊢
  have hx3 : Ext (((W.alloc (.cells #[.int .i64 (n : Int), .slice CA cn cc, .slice EA en ec] 25)).alloc (.cells #[.slice (some ad) sn sc] 36)).setCell ⟨U, at_, none⟩ (.bool true)) ((((W.alloc (.cells #[.int .i64 (n : Int), .slice CA cn cc, .slice EA en ec] 25)).alloc (.cells #[.slice (some ad) sn sc] 36)).setCell ⟨U, at_, none⟩ (.bool true)).alloc (.cells #[.int .i64 xk, .int .i64 xa, .int .i64 xi, .int .i64 xo] 57)) := (by repeat' (first | exact Ext.refl _ | assumption | apply Ext.alloc | apply Ext.drewN | apply Ext.drew))
  have G0 : ((((W.alloc (.cells #[.int .i64 (n : Int), .slice CA cn cc, .slice EA en ec] 25)).alloc (.cells #[.slice (some ad) sn sc] 36)).setCell ⟨U, at_, none⟩ (.bool true)).alloc (.cells #[.int .i64 xk, .int .i64 xa, .int .i64 xi, .int .i64 xo] 57)).cell? ⟨W.heap.size, 0, none⟩ = some (.int .i64 (n : Int)) := hx3.cell g0
  have G1 : ((((W.alloc (.cells #[.int .i64 (n : Int), .slice CA cn cc, .slice EA en ec] 25)).alloc (.cells #[.slice (some ad) sn sc] 36)).setCell ⟨U, at_, none⟩ (.bool true)).alloc (.cells #[.int .i64 xk, .int .i64 xa, .int .i64 xi, .int .i64 xo] 57)).cell? ⟨W.heap.size, 1, none⟩ = some (.slice CA cn cc) := hx3.cell g1
  have G2 : ((((W.alloc (.cells #[.int .i64 (n : Int), .slice CA cn cc, .slice EA en ec] 25)).alloc (.cells #[.slice (some ad) sn sc] 36)).setCell ⟨U, at_, none⟩ (.bool true)).alloc (.cells #[.int .i64 xk, .int .i64 xa, .int .i64 xi, .int .i64 xo] 57)).cell? ⟨W.heap.size, 2, none⟩ = some (.slice EA en ec) := hx3.cell g2
  have P0 : ((((W.alloc (.cells #[.int .i64 (n : Int), .slice CA cn cc, .slice EA en ec] 25)).alloc (.cells #[.slice (some ad) sn sc] 36)).setCell ⟨U, at_, none⟩ (.bool true)).alloc (.cells #[.int .i64 xk, .int .i64 xa, .int .i64 xi, .int .i64 xo] 57)).cell? ⟨W.heap.size + 1, 0, none⟩ = some (.slice (some ad) sn sc) := hx3.cell c36
  have HF3 : Hid (Fr U U W ((((W.alloc (.cells #[.int .i64 (n : Int), .slice CA cn cc, .slice EA en ec] 25)).alloc (.cells #[.slice (some ad) sn sc] 36)).setCell ⟨U, at_, none⟩ (.bool true)).alloc (.cells #[.int .i64 xk, .int .i64 xa, .int .i64 xi, .int .i64 xo] 57))) := hF2.trans (Fr.ext hx3)
  have HB3 : Hid (RowB ((((W.alloc (.cells #[.int .i64 (n : Int), .slice CA cn cc, .slice EA en ec] 25)).alloc (.cells #[.slice (some ad) sn sc] 36)).setCell ⟨U, at_, none⟩ (.bool true)).alloc (.cells #[.int .i64 xk, .int .i64 xa, .int .i64 xi, .int .i64 xo] 57)) U (seen.set at_ true)) := hid ((RowB.set (RowB.ext nrow hx) (by rw [nsn]; exact ha) true).ext hx3)
  have hst3 : RI ((((W.alloc (.cells #[.int .i64 (n : Int), .slice CA cn cc, .slice EA en ec] 25)).alloc (.cells #[.slice (some ad) sn sc] 36)).setCell ⟨U, at_, none⟩ (.bool true)).alloc (.cells #[.int .i64 xk, .int .i64 xa, .int .i64 xi, .int .i64 xo] 57)) A n c st := RI.fr HN.out.rst HF3.out fun ad h => ⟨HN.out.ne ad h, HN.out.ne ad h⟩
  have HS3 := hid hst3
  clear hst3
  have HE3 : Hid (Ext w0 ((((W.alloc (.cells #[.int .i64 (n : Int), .slice CA cn cc, .slice EA en ec] 25)).alloc (.cells #[.slice (some ad) sn sc] 36)).setCell ⟨U, at_, none⟩ (.bool true)).alloc (.cells #[.int .i64 xk, .int .i64 xa, .int .i64 xi, .int .i64 xo] 57))) := hE2.trans hx3
  clear g0 g1 g2 hx3 hE2 hF2 hx nrow nsn irs
  subst h1
  have hx3s : ((((W.alloc (.cells #[.int .i64 (n : Int), .slice CA cn cc, .slice EA en ec] 25)).alloc (.cells #[.slice (some ad) sn sc] 36)).setCell ⟨U, at_, none⟩ (.bool true)).alloc (.cells #[.int .i64 1, .int .i64 xa, .int .i64 xi, .int .i64 xo] 57)).heap.size = W.heap.size + 1 + 1 + 1 := by simp
  have hx2s : (((W.alloc (.cells #[.int .i64 (n : Int), .slice CA cn cc, .slice EA en ec] 25)).alloc (.cells #[.slice (some ad) sn sc] 36)).setCell ⟨U, at_, none⟩ (.bool true)).heap.size = W.heap.size + 1 + 1 := by simp
  have n1 : n ≤ 4000 := HI.out.n1
  have b4 : ¬ xi ≤ (at_ : Int) := by omega
  have b5 : ¬ xo ≤ (at_ : Int) := by omega
  have b6 : ¬ (sn : Int) ≤ xi := by omega
  have b7 : ¬ (sn : Int) ≤ xo := by omega
  have HV : Hid (xa.toNat < n) := hid (by omega)
  have HN0 : Hid (0 < n) := hid (by omega)
  have HLEN := hid hslen
  have HNIL : Hid (A = none → c = 0) := HN.out.nil
  have HSN : Hid ((seen.set at_ true).length = sn) := by rw [List.length_set]; exact HN.out.hsn
  have HU3 : Hid (U < ((((W.alloc (.cells #[.int .i64 (n : Int), .slice CA cn cc, .slice EA en ec] 25)).alloc (.cells #[.slice (some ad) sn sc] 36)).setCell ⟨U, at_, none⟩ (.bool true)).alloc (.cells #[.int .i64 1, .int .i64 xa, .int .i64 xi, .int .i64 xo] 57)).heap.size) := hid (by rw [hx3s]; omega)
  have x1 : ((((W.alloc (.cells #[.int .i64 (n : Int), .slice CA cn cc, .slice EA en ec] 25)).alloc (.cells #[.slice (some ad) sn sc] 36)).setCell ⟨U, at_, none⟩ (.bool true)).alloc (.cells #[.int .i64 1, .int .i64 xa, .int .i64 xi, .int .i64 xo] 57)).cell? ⟨W.heap.size + 1 + 1, 1, none⟩ = some (.int .i64 xa) := by rw [← hx2s]; exact (cell_of_row _ _ 1 _ _ _ (heap_alloc_new _ _)).trans rfl
  have x2 : ((((W.alloc (.cells #[.int .i64 (n : Int), .slice CA cn cc, .slice EA en ec] 25)).alloc (.cells #[.slice (some ad) sn sc] 36)).setCell ⟨U, at_, none⟩ (.bool true)).alloc (.cells #[.int .i64 1, .int .i64 xa, .int .i64 xi, .int .i64 xo] 57)).cell? ⟨W.heap.size + 1 + 1, 2, none⟩ = some (.int .i64 xi) := by rw [← hx2s]; exact (cell_of_row _ _ 2 _ _ _ (heap_alloc_new _ _)).trans rfl
  have x3 : ((((W.alloc (.cells #[.int .i64 (n : Int), .slice CA cn cc, .slice EA en ec] 25)).alloc (.cells #[.slice (some ad) sn sc] 36)).setCell ⟨U, at_, none⟩ (.bool true)).alloc (.cells #[.int .i64 1, .int .i64 xa, .int .i64 xi, .int .i64 xo] 57)).cell? ⟨W.heap.size + 1 + 1, 3, none⟩ = some (.int .i64 xo) := by rw [← hx2s]; exact (cell_of_row _ _ 3 _ _ _ (heap_alloc_new _ _)).trans rfl
  have HX3S := hid hx3s
  have HO : Hid ((((((W.alloc (.cells #[.int .i64 (n : Int), .slice CA cn cc, .slice EA en ec] 25)).alloc (.cells #[.slice (some ad) sn sc] 36)).setCell ⟨U, at_, none⟩ (.bool true)).alloc (.cells #[.int .i64 1, .int .i64 xa, .int .i64 xi, .int .i64 xo] 57)).alloc (.cells #[] 3)).ownsRow (W.heap.size + 1 + 1 + 1) 3 1 (.slice (some ⟨W.heap.size + 1 + 1 + 1, 0, none⟩) 0 0) 0 []) := by
    refine hid ?_
    have := World.ownsRow_made (base := ((((W.alloc (.cells #[.int .i64 (n : Int), .slice CA cn cc, .slice EA en ec] 25)).alloc (.cells #[.slice (some ad) sn sc] 36)).setCell ⟨U, at_, none⟩ (.bool true)).alloc (.cells #[.int .i64 1, .int .i64 xa, .int .i64 xi, .int .i64 xo] 57)).heap.size) (e := 3) (size := 1) ((((W.alloc (.cells #[.int .i64 (n : Int), .slice CA cn cc, .slice EA en ec] 25)).alloc (.cells #[.slice (some ad) sn sc] 36)).setCell ⟨U, at_, none⟩ (.bool true)).alloc (.cells #[.int .i64 1, .int .i64 xa, .int .i64 xi, .int .i64 xo] 57)) #[] 0 (Nat.le_refl _) (by decide) rfl
    rw [hx3s] at this
    exact this
  have QB : Hid (∀ W', Fr U U ((((W.alloc (.cells #[.int .i64 (n : Int), .slice CA cn cc, .slice EA en ec] 25)).alloc (.cells #[.slice (some ad) sn sc] 36)).setCell ⟨U, at_, none⟩ (.bool true)).alloc (.cells #[.int .i64 1, .int .i64 xa, .int .i64 xi, .int .i64 xo] 57)) W' → W'.cell? ⟨W.heap.size, 0, none⟩ = some (.int .i64 (n : Int)) ∧ W'.cell? ⟨W.heap.size, 1, none⟩ = some (.slice CA cn cc) ∧ W'.cell? ⟨W.heap.size, 2, none⟩ = some (.slice EA en ec) ∧ W'.cell? ⟨W.heap.size + 1, 0, none⟩ = some (.slice (some ad) sn sc) ∧ W'.cell? ⟨W.heap.size + 1 + 1, 1, none⟩ = some (.int .i64 xa) ∧ W'.cell? ⟨W.heap.size + 1 + 1, 2, none⟩ = some (.int .i64 xi) ∧ W'.cell? ⟨W.heap.size + 1 + 1, 3, none⟩ = some (.int .i64 xo)) := fun W' hF =>
    ⟨hF.cell G0 (by show W.heap.size ≠ U; omega) (by show W.heap.size ≠ U; omega), hF.cell G1 (by show W.heap.size ≠ U; omega) (by show W.heap.size ≠ U; omega), hF.cell G2 (by show W.heap.size ≠ U; omega) (by show W.heap.size ≠ U; omega), hF.cell P0 (by show W.heap.size + 1 ≠ U; omega) (by show W.heap.size + 1 ≠ U; omega),
     hF.cell x1 (by show W.heap.size + 1 + 1 ≠ U; omega) (by show W.heap.size + 1 + 1 ≠ U; omega), hF.cell x2 (by show W.heap.size + 1 + 1 ≠ U; omega) (by show W.heap.size + 1 + 1 ≠ U; omega), hF.cell x3 (by show W.heap.size + 1 + 1 ≠ U; omega) (by show W.heap.size + 1 + 1 ≠ U; omega)⟩
  have HUW : Hid (U < W.heap.size) := hlU
  have HLEN2 := hid hlen
  obtain ⟨adS, rfl, hcS⟩ := HS3.out.cell xa.toNat (by omega)
  have hz : nth st xa.toNat = 0 := a3
  rw [hz] at hcS
  clear x1 x2 x3 hx2s
  clear hs ha hlU HXX hlen a3 hz hslen hx3s
  cases hm1 : rightM g ws hold ss f xi.toNat (st.set xa.toNat 1) (seen.set at_ true) with
  | none =>
    have K1 : Hid (∀ A1 c1 W', Now98 { w0 := w0, g := g, ws := ws, hold := hold, ss := ss, CA := CA, cn := cn, cc := cc, EA := EA, en := en, ec := ec, WA := WA, wn := wn, wc := wc, SA := some ad, sn := sn, sc := sc, n := n, U := U } A1 c1 (st.set xa.toNat 1) (seen.set at_ true) W' → Calls Tryz.prog 98 #[.agg #[.int .i64 (n : Int), .slice CA cn cc, .slice EA en ec], .slice WA wn wc, .bool hold, .agg #[.slice (some ad) sn sc], .int .i64 xi, .slice A1 n c1, .slice (some ⟨U, 0, none⟩) sn sn] W' fun e w' => e = .returned (.bool false) ∧ Fr U U W' w' ∧ True) := hid fun A1 c1 W' N' => (IH1 A1 c1 W' N').mono fun e w' h => ⟨by rw [h.1, hm1]; rfl, h.2.1, trivial⟩
    have HM := hid hm1
    clear hm1 IH2 IH1
    go_enter Tryz.func98, Tryz.ntmps98
    go_wp2_with (first
      | (at_builtin; (with_reducible refine appN (W.heap.size + 1 + 1 + 1) rfl _ _ 22 3 (.int .i64 0) 1 8 rfl Tryz.underlying22 info3s rfl (by decide) (by decide) (.slice (some ⟨W.heap.size + 1 + 1 + 1, 0, none⟩) 0 0) 0 [] (some adS) n c (intVs' st) rfl rfl ((HS3.out.ext (Ext.alloc (Ext.refl _) _)).src HNIL.out) HO.out (by simp) (by omega) ?_); rintro v1 w4 hp1; have E1 : Hid (Ext ((((W.alloc (.cells #[.int .i64 (n : Int), .slice CA cn cc, .slice EA en ec] 25)).alloc (.cells #[.slice (some ad) sn sc] 36)).setCell ⟨U, at_, none⟩ (.bool true)).alloc (.cells #[.int .i64 1, .int .i64 xa, .int .i64 xi, .int .i64 xo] 57)) w4) := Ext.grown (Ext.alloc (Ext.refl _) _) HO.out (by rw [HX3S.out]; exact Nat.le_refl _) hp1.2.1; have ho1 := hp1.1; rw [Nat.zero_add, List.nil_append] at ho1; (obtain ⟨g1, c1, rfl, hg1, hl1, hc1, hb1, hr1⟩ := own_row ho1 HN0.out); have HG1 : Hid (((((W.alloc (.cells #[.int .i64 (n : Int), .slice CA cn cc, .slice EA en ec] 25)).alloc (.cells #[.slice (some ad) sn sc] 36)).setCell ⟨U, at_, none⟩ (.bool true)).alloc (.cells #[.int .i64 1, .int .i64 xa, .int .i64 xi, .int .i64 xo] 57)).heap.size ≤ g1 ∧ g1 < w4.heap.size ∧ n ≤ c1 ∧ c1 ≤ 9223372036854775807 ∧ RowI w4 g1 st) := ⟨by rw [HX3S.out]; exact hg1, hl1, hc1, hb1, hr1⟩; clear hp1 ho1 hg1 hl1 hc1 hb1 hr1)
      | (at_builtin; (refine appN w4.heap.size rfl _ _ 22 3 (.int .i64 0) 1 8 rfl Tryz.underlying22 info3s rfl (by decide) (by decide) (.slice (some ⟨w4.heap.size, 0, none⟩) 0 0) 0 [] (some adS) n c (intVs' st) rfl rfl ((HS3.out.ext (E1.out.trans (Ext.alloc (Ext.refl _) _))).src HNIL.out) (World.ownsRow_made _ _ 0 (by simp) (by decide) rfl) (by simp) (by omega) ?_); rintro v2 w5 hp2; have E2 : Hid (Ext w4 w5) := Ext.grown (by repeat' (first | exact Ext.refl _ | assumption | apply Ext.alloc | apply Ext.drewN | apply Ext.drew)) (World.ownsRow_made _ #[] 0 (size := 1) (e := 3) (by simp) (by decide) rfl) (Nat.le_refl _) hp2.2.1; have ho2 := hp2.1; rw [Nat.zero_add, List.nil_append] at ho2; (obtain ⟨g2, c2, rfl, hg2, hl2, hc2, hb2, hr2⟩ := own_row ho2 HN0.out); have HG2U : Hid (g2 ≠ U) := hid (by have := HU3.out; have := E1.out.size; have := hg2; omega); have HG2 : Hid (w4.heap.size ≤ g2 ∧ g2 < w5.heap.size ∧ n ≤ c2 ∧ c2 ≤ 9223372036854775807 ∧ RowI w5 g2 st) := ⟨hg2, hl2, hc2, hb2, hr2⟩; clear hp2 ho2 hg2 hl2 hc2 hb2 hr2; (obtain ⟨m1, m2, m3, m4, m5, m6, m7, m8⟩ := branch_made HI.out HE3.out HB3.out HSN.out HU3.out E1.out E2.out HG1.out HG2.out HLEN.out HV.out); have M5 := hid m5; have M6 := hid m6; have M7 := hid m7; (obtain ⟨q1, q2, q3, q4, q5, q6, q7⟩ := QB.out _ (Fr.ext m7)); have u5 := (QB.out _ (Fr.ext (E1.out.trans E2.out))).2.2.2.2.1; have v5 := (QB.out _ (Fr.ext m8)).2.2.2.2.1; clear m5 m6 m7 m8)
      | (go_at_call 98; (with_reducible refine (K1.out _ _ _ M5.out).mono ?_); rintro e w8 ⟨rfl, f8, r8⟩; have F8 := hid f8; have R8 := hid r8; (obtain ⟨t1, t2, t3, t4, t5, t6, t7⟩ := QB.out w8 ((Fr.ext M7.out).trans f8)); clear f8 r8))
    refine bodyPost_ret (v := .bool false) (by simp [results, Tryz.results98, go_sem]) rfl ?_
    refine ⟨rfl, (HF3.out.trans (Fr.ext M7.out)).trans F8.out, fun s2 h => (by cases h)⟩
  | some s1 =>
    have HS2 : Hid (s1.length = sn) := HLEN2.out s1 hm1
    have K1 : Hid (∀ A1 c1 W', Now98 { w0 := w0, g := g, ws := ws, hold := hold, ss := ss, CA := CA, cn := cn, cc := cc, EA := EA, en := en, ec := ec, WA := WA, wn := wn, wc := wc, SA := some ad, sn := sn, sc := sc, n := n, U := U } A1 c1 (st.set xa.toNat 1) (seen.set at_ true) W' → Calls Tryz.prog 98 #[.agg #[.int .i64 (n : Int), .slice CA cn cc, .slice EA en ec], .slice WA wn wc, .bool hold, .agg #[.slice (some ad) sn sc], .int .i64 xi, .slice A1 n c1, .slice (some ⟨U, 0, none⟩) sn sn] W' fun e w' => e = .returned (.bool true) ∧ Fr U U W' w' ∧ RowB w' U s1) := hid fun A1 c1 W' N' => (IH1 A1 c1 W' N').mono fun e w' h => ⟨by rw [h.1, hm1]; rfl, h.2.1, h.2.2 s1 hm1⟩
    have K2 : Hid (∀ A1 c1 W', Now98 { w0 := w0, g := g, ws := ws, hold := hold, ss := ss, CA := CA, cn := cn, cc := cc, EA := EA, en := en, ec := ec, WA := WA, wn := wn, wc := wc, SA := some ad, sn := sn, sc := sc, n := n, U := U } A1 c1 (st.set xa.toNat 2) s1 W' → Calls Tryz.prog 98 #[.agg #[.int .i64 (n : Int), .slice CA cn cc, .slice EA en ec], .slice WA wn wc, .bool hold, .agg #[.slice (some ad) sn sc], .int .i64 xo, .slice A1 n c1, .slice (some ⟨U, 0, none⟩) sn sn] W' fun e w' => e = .returned (.bool (rightM g ws hold ss f xo.toNat (st.set xa.toNat 2) s1).isSome) ∧ Fr U U W' w' ∧ ∀ s2, rightM g ws hold ss f xo.toNat (st.set xa.toNat 2) s1 = some s2 → RowB w' U s2) := hid fun A1 c1 W' N' => IH2 A1 c1 W' s1 N'
    clear hm1 IH2 IH1
    simp only [Option.bind_some]
    generalize rightM g ws hold ss f xo.toNat (st.set xa.toNat 2) s1 = mz at K2 ⊢
    go_enter Tryz.func98, Tryz.ntmps98
    go_wp2_with (first
      | (at_builtin; (with_reducible refine appN (W.heap.size + 1 + 1 + 1) rfl _ _ 22 3 (.int .i64 0) 1 8 rfl Tryz.underlying22 info3s rfl (by decide) (by decide) (.slice (some ⟨W.heap.size + 1 + 1 + 1, 0, none⟩) 0 0) 0 [] (some adS) n c (intVs' st) rfl rfl ((HS3.out.ext (Ext.alloc (Ext.refl _) _)).src HNIL.out) HO.out (by simp) (by omega) ?_); rintro v1 w4 hp1; have E1 : Hid (Ext ((((W.alloc (.cells #[.int .i64 (n : Int), .slice CA cn cc, .slice EA en ec] 25)).alloc (.cells #[.slice (some ad) sn sc] 36)).setCell ⟨U, at_, none⟩ (.bool true)).alloc (.cells #[.int .i64 1, .int .i64 xa, .int .i64 xi, .int .i64 xo] 57)) w4) := Ext.grown (Ext.alloc (Ext.refl _) _) HO.out (by rw [HX3S.out]; exact Nat.le_refl _) hp1.2.1; have ho1 := hp1.1; rw [Nat.zero_add, List.nil_append] at ho1; (obtain ⟨g1, c1, rfl, hg1, hl1, hc1, hb1, hr1⟩ := own_row ho1 HN0.out); have HG1 : Hid (((((W.alloc (.cells #[.int .i64 (n : Int), .slice CA cn cc, .slice EA en ec] 25)).alloc (.cells #[.slice (some ad) sn sc] 36)).setCell ⟨U, at_, none⟩ (.bool true)).alloc (.cells #[.int .i64 1, .int .i64 xa, .int .i64 xi, .int .i64 xo] 57)).heap.size ≤ g1 ∧ g1 < w4.heap.size ∧ n ≤ c1 ∧ c1 ≤ 9223372036854775807 ∧ RowI w4 g1 st) := ⟨by rw [HX3S.out]; exact hg1, hl1, hc1, hb1, hr1⟩; clear hp1 ho1 hg1 hl1 hc1 hb1 hr1)
      | (at_builtin; (refine appN w4.heap.size rfl _ _ 22 3 (.int .i64 0) 1 8 rfl Tryz.underlying22 info3s rfl (by decide) (by decide) (.slice (some ⟨w4.heap.size, 0, none⟩) 0 0) 0 [] (some adS) n c (intVs' st) rfl rfl ((HS3.out.ext (E1.out.trans (Ext.alloc (Ext.refl _) _))).src HNIL.out) (World.ownsRow_made _ _ 0 (by simp) (by decide) rfl) (by simp) (by omega) ?_); rintro v2 w5 hp2; have E2 : Hid (Ext w4 w5) := Ext.grown (by repeat' (first | exact Ext.refl _ | assumption | apply Ext.alloc | apply Ext.drewN | apply Ext.drew)) (World.ownsRow_made _ #[] 0 (size := 1) (e := 3) (by simp) (by decide) rfl) (Nat.le_refl _) hp2.2.1; have ho2 := hp2.1; rw [Nat.zero_add, List.nil_append] at ho2; (obtain ⟨g2, c2, rfl, hg2, hl2, hc2, hb2, hr2⟩ := own_row ho2 HN0.out); have HG2U : Hid (g2 ≠ U) := hid (by have := HU3.out; have := E1.out.size; have := hg2; omega); have HG2 : Hid (w4.heap.size ≤ g2 ∧ g2 < w5.heap.size ∧ n ≤ c2 ∧ c2 ≤ 9223372036854775807 ∧ RowI w5 g2 st) := ⟨hg2, hl2, hc2, hb2, hr2⟩; clear hp2 ho2 hg2 hl2 hc2 hb2 hr2; (obtain ⟨m1, m2, m3, m4, m5, m6, m7, m8⟩ := branch_made HI.out HE3.out HB3.out HSN.out HU3.out E1.out E2.out HG1.out HG2.out HLEN.out HV.out); have M5 := hid m5; have M6 := hid m6; have M7 := hid m7; (obtain ⟨q1, q2, q3, q4, q5, q6, q7⟩ := QB.out _ (Fr.ext m7)); have u5 := (QB.out _ (Fr.ext (E1.out.trans E2.out))).2.2.2.2.1; have v5 := (QB.out _ (Fr.ext m8)).2.2.2.2.1; clear m5 m6 m7 m8)
      | (go_at_call 98; (with_reducible refine (K1.out _ _ _ M5.out).mono ?_); rintro e w8 ⟨rfl, f8, r8⟩; have F8 := hid f8; have R8 := hid r8; (obtain ⟨t1, t2, t3, t4, t5, t6, t7⟩ := QB.out w8 ((Fr.ext M7.out).trans f8)); clear f8 r8)
      | (go_at_call 98; (with_reducible refine (K2.out _ _ _ (now_next HG2U.out M5.out M6.out F8.out (Now98.e0 HI.out M5.out F8.out) R8.out HS2.out)).mono ?_); rintro e w9 ⟨rfl, f9, r9⟩; have F9 := hid f9; have R9 := hid r9; clear f9 r9))
    refine bodyPost_ret (v := .bool mz.isSome) (by simp [results, Tryz.results98, go_sem]) rfl ?_
    exact ⟨rfl, ((HF3.out.trans (Fr.ext M7.out)).trans F8.out).trans F9.out, fun s2 h => R9.out s2 h⟩

theorem L98.p {k : D98} {W : World} {seen : List Bool} {at_ : Nat} {b : Bool} {e : Ending} {w' : World} (h : L98 k W seen at_ b e w') : P98 k W (if b = true then some (seen.set at_ true) else none) e w' := by
  obtain ⟨h1, h2, h3⟩ := h
  cases b
  · exact ⟨h1, h2, fun s2 h => (by cases h)⟩
  · exact ⟨h1, h2, fun s2 h => by cases h; exact h3⟩
theorem c98_step {k : D98} (I : In98 k) {f : Nat} (IH : C98 k f) : C98 k (f + 1) := by
  intro at_ A c st seen W N ha hf
  rw [rightM]
  skip
  by_cases h0 : nthB seen at_ = true
  · rw [if_pos h0]
    exact (r98_seen N ha h0).mono fun e w' h => ⟨h.1, Fr.ext h.2, fun s2 h => (by cases h)⟩
  · rw [if_neg h0]
    have hs : nthB seen at_ = false := by simpa using h0
    by_cases h1 : (stepv k.ss at_).kind = 1
    · rw [if_pos h1]
      by_cases h2 : branchB k.g k.ss.length at_ st (stepv k.ss at_) = true
      · rw [if_pos h2]
        exact r98_branch IH I N ha hf hs h1 h2
      · rw [if_neg h2]
        exact (r98_nobranch I N ha hs h1 (by simpa using h2)).mono fun e w' h => h.p
    · rw [if_neg h1]
      by_cases h2 : (stepv k.ss at_).in_ = 0
      · by_cases h3 : (stepv k.ss at_).out = 0
        · have hc : ∀ b : Bool, (if (stepv k.ss at_).in_ = 0 ∧ (stepv k.ss at_).out = 0 ∧ b = true then some (seen.set at_ true) else none) = if b = true then some (seen.set at_ true) else none := fun b => by
            simp [h2, h3]
          rw [hc]
          unfold leafB
          by_cases k2 : (stepv k.ss at_).kind = 2
          · simp only [if_pos k2]
            exact (r98_clash I N ha hs k2 h2 h3).mono fun e w' h => h.p
          · simp only [if_neg k2]
            by_cases k3 : (stepv k.ss at_).kind = 3
            · simp only [if_pos k3]
              exact (r98_free I N ha hs k3 h2 h3).mono fun e w' h => h.p
            · simp only [if_neg k3]
              by_cases k4 : (stepv k.ss at_).kind = 4
              · simp only [if_pos k4]
                exact (r98_way I N ha hs k4 h2 h3).mono fun e w' h => h.p
              · simp only [if_neg k4]
                by_cases k5 : (stepv k.ss at_).kind = 5
                · simp only [if_pos k5]
                  exact (r98_none I N ha hs k5 h2 h3).mono fun e w' h => h.p
                · simp only [if_neg k5]
                  exact (r98_nokind I N ha hs h1 h2 h3 k2 k3 k4 k5).mono fun e w' h => h.p
        · rw [if_neg (fun h => h3 h.2.1)]
          exact (r98_bad2 I N ha hs h1 h2 h3).mono fun e w' h => h.p
      · rw [if_neg (fun h => h2 h.1)]
        exact (r98_bad1 I N ha hs h1 h2).mono fun e w' h => h.p
/-- right, at every fuel. -/
theorem c98_any {k : D98} (I : In98 k) : ∀ f, C98 k f
  | 0 => fun at_ A c st seen W N ha hf => absurd hf (by omega)
  | f + 1 => c98_step I (c98_any I f)
end Go.Proofs.YthjifmfmaiagoaaGreatDoor

/- The references: Check. -/
namespace Go.Proofs.YthjifmfmaiagoaaGreatDoor
open Go.RowKit
attribute [local go_sem] Oper.semAt_some

theorem two_made {w W' : World} {o0 o1 : Obj} (e : Ext ((w.alloc o0).alloc o1) W') : W'.heap[w.heap.size]? = some o0 ∧ W'.heap[w.heap.size + 1]? = some o1 := by
  have h0 := heap_alloc_new w o0
  have h1 := heap_alloc_new (w.alloc o0) o1
  have s1 : (w.alloc o0).heap.size = w.heap.size + 1 := by simp
  rw [s1] at h1
  have e0 : Ext (w.alloc o0) W' := Ext.trans (Ext.alloc (Ext.refl _) _) e
  exact ⟨(e0.block _ (by omega)).trans h0, (e.block _ (by simp)).trans h1⟩
theorem rowI_made {w : World} {T n : Nat} (h : w.heap[T]? = some (.cells (madeCells #[.int .i64 0] n) 3 (0, 0))) : RowI w T (List.replicate n 0) := fun i hi => by
  have hi' : i < n := by rw [List.length_replicate] at hi; exact hi
  rw [show nth (List.replicate n (0 : Int)) i = 0 by rw [nth_eq hi, List.getElem_replicate]]
  exact ⟨((cell_heap h i).1).trans (made_at _ n i hi'), (cell_heap h i).2⟩
theorem rowB_made {w : World} {T n : Nat} (h : w.heap[T]? = some (.cells (madeCells #[.bool false] n) 4 (0, 0))) : RowB w T (List.replicate n false) := fun i hi => by
  have hi' : i < n := by rw [List.length_replicate] at hi; exact hi
  rw [show nthB (List.replicate n false) i = false by rw [nthB_eq hi, List.getElem_replicate]]
  exact ⟨((cell_heap h i).1).trans (made_at _ n i hi'), (cell_heap h i).2⟩
theorem check_start {k : D98} (I : In98 k) {W : World} {T : Nat} (hx : Ext k.w0 W) (hU : k.w0.heap.size ≤ k.U) (hT : T ≠ k.U) (oT : W.heap[T]? = some (.cells (madeCells #[.int .i64 0] k.n) 3 (0, 0))) (oU : W.heap[k.U]? = some (.cells (madeCells #[.bool false] k.sn) 4 (0, 0))) :
    Now98 k (some ⟨T, 0, none⟩) k.n (List.replicate k.n 0) (List.replicate k.sn false) W :=
  ⟨hx, (Array.getElem?_eq_some_iff.1 oU).1, (rowI_made oT).ri (by rw [List.length_replicate]) (Nat.le_refl _) (by have := I.n1; omega), fun ad h => by cases h; exact hT, fun h => (by cases h), rowB_made oU, by rw [List.length_replicate]⟩
theorem check_call {k : D98} (I : In98 k) {W : World} {T : Nat} (hx : Ext k.w0 W) (hU : k.w0.heap.size ≤ k.U) (hT : T ≠ k.U) (oT : W.heap[T]? = some (.cells (madeCells #[.int .i64 0] k.n) 3 (0, 0))) (oU : W.heap[k.U]? = some (.cells (madeCells #[.bool false] k.sn) 4 (0, 0))) (h0 : 0 < k.sn) :
    Calls Tryz.prog 98 #[.agg #[.int .i64 (k.n : Int), .slice k.CA k.cn k.cc, .slice k.EA k.en k.ec], .slice k.WA k.wn k.wc, .bool k.hold, .agg #[.slice k.SA k.sn k.sc], .int .i64 0, .slice (some ⟨T, 0, none⟩) k.n k.n, .slice (some ⟨k.U, 0, none⟩) k.sn k.sn] W
      fun e w' => e = .returned (.bool (rightM k.g k.ws k.hold k.ss k.sn 0 (List.replicate k.n 0) (List.replicate k.sn false)).isSome) ∧ Ext k.w0 w' :=
  (c98_any I k.sn 0 _ _ _ _ W (check_start I hx hU hT oT oU) h0 (by omega)).mono fun e w' h => ⟨h.1, Now98.e0 I (check_start I hx hU hT oT oU) h.2.1⟩

set_option maxRecDepth 100000 in
set_option maxHeartbeats 4000000 in
/-- Check. -/
theorem f35_any (CA EA WA SA : Option Addr) (cn cc en ec wn wc sn sc : Nat) (g : Graph) (ws : List Way) (ss : List Step) (hold : Bool) (w : World) (hr : RG w CA cn cc EA en ec g) (hws : RW w WA wn wc ws) (hss : RS w SA sn sc ss) :
    Calls Tryz.prog 35 #[.agg #[.int .i64 g.n, .slice CA cn cc, .slice EA en ec], .slice WA wn wc, .bool hold, .agg #[.slice SA sn sc]] w fun e w' => e = .returned (.bool (checkB g ws hold ss)) ∧ Ext w w' := by
  have HL : Hid (ss.length = sn) := hss.len
  have hsn : sn ≤ 9223372036854775807 := Nat.le_trans hss.cap hss.big
  cases hb : readyB g ws with
  | false =>
    have hx0 : Ext w ((w.alloc (.cells #[.int .i64 g.n, .slice CA cn cc, .slice EA en ec] 25)).alloc (.cells #[.slice SA sn sc] 36)) := (by repeat' (first | exact Ext.refl _ | assumption | apply Ext.alloc | apply Ext.drewN | apply Ext.drew))
    have QB : Hid (∀ W, Ext ((w.alloc (.cells #[.int .i64 g.n, .slice CA cn cc, .slice EA en ec] 25)).alloc (.cells #[.slice SA sn sc] 36)) W → W.cell? ⟨w.heap.size, 0, none⟩ = some (.int .i64 g.n) ∧ W.cell? ⟨w.heap.size, 1, none⟩ = some (.slice CA cn cc) ∧ W.cell? ⟨w.heap.size, 2, none⟩ = some (.slice EA en ec) ∧ W.cell? ⟨w.heap.size + 1, 0, none⟩ = some (.slice SA sn sc)) := fun W hW => ⟨hW.cell (by simp), hW.cell (by simp), hW.cell (by simp), hW.cell (by simp)⟩
    obtain ⟨g0, g1, g2, p0⟩ := QB.out _ (Ext.refl _)
    have K97 := f97_any CA EA WA cn cc en ec wn wc g ws ((w.alloc (.cells #[.int .i64 g.n, .slice CA cn cc, .slice EA en ec] 25)).alloc (.cells #[.slice SA sn sc] 36)) (hr.ext hx0) (hws.ext hx0)
    rw [hb] at K97
    have HX := hid hx0
    have HB := hid hb
    clear hr hws hss hx0 hb QB
    go_enter Tryz.func35, Tryz.ntmps35
    go_wp2_with (go_at_call 97; refine K97.mono ?_; rintro e w2 ⟨rfl, x2⟩; have X2 := hid x2; clear x2)
    go_ret
    refine ⟨ret_bool ?_, HX.out.trans X2.out⟩
    unfold checkB
    rw [HB.out]
    rfl
  | true =>
    obtain ⟨h4, hform, hval⟩ := ready_iff.1 hb
    obtain ⟨n, hn⟩ : ∃ n : Nat, g.n = n := ⟨g.n.toNat, hval.nat⟩
    have hn1 : n ≤ 4000 := by
      have h1 := hval.1
      unfold Costs weighedB at h1
      simp only [Bool.and_eq_true, decide_eq_true_eq] at h1
      omega
    have hx0 : Ext w ((w.alloc (.cells #[.int .i64 (n : Int), .slice CA cn cc, .slice EA en ec] 25)).alloc (.cells #[.slice SA sn sc] 36)) := (by repeat' (first | exact Ext.refl _ | assumption | apply Ext.alloc | apply Ext.drewN | apply Ext.drew))
    have QB : Hid (∀ W, Ext ((w.alloc (.cells #[.int .i64 (n : Int), .slice CA cn cc, .slice EA en ec] 25)).alloc (.cells #[.slice SA sn sc] 36)) W → W.cell? ⟨w.heap.size, 0, none⟩ = some (.int .i64 (n : Int)) ∧ W.cell? ⟨w.heap.size, 1, none⟩ = some (.slice CA cn cc) ∧ W.cell? ⟨w.heap.size, 2, none⟩ = some (.slice EA en ec) ∧ W.cell? ⟨w.heap.size + 1, 0, none⟩ = some (.slice SA sn sc)) := fun W hW => ⟨hW.cell (by simp), hW.cell (by simp), hW.cell (by simp), hW.cell (by simp)⟩
    obtain ⟨g0, g1, g2, p0⟩ := QB.out _ (Ext.refl _)
    have K97 := f97_any CA EA WA cn cc en ec wn wc g ws ((w.alloc (.cells #[.int .i64 (n : Int), .slice CA cn cc, .slice EA en ec] 25)).alloc (.cells #[.slice SA sn sc] 36)) (hr.ext hx0) (hws.ext hx0)
    rw [hb, hn] at K97
    have HX := hid hx0
    have HB := hid hb
    have HN := hid hn
    rw [hn]
    have hcheck : checkB g ws hold ss = (decide (0 < sn ∧ sn ≤ 100000) && (rightM g ws hold ss sn 0 (List.replicate n 0) (List.replicate sn false)).isSome) := by
      unfold checkB
      rw [hb, HL.out, hn]
      rfl
    have HC := hid hcheck
    have HRG := hid hr
    have HRW := hid hws
    have HRS := hid hss
    have HVal := hid hval
    have HForm := hid hform
    clear hr hws hss hx0 hb hcheck hval hform hn h4
    rcases Nat.eq_zero_or_pos sn with h0 | h0
    · subst h0
      go_enter Tryz.func35, Tryz.ntmps35
      go_wp2_with (go_at_call 97; refine K97.mono ?_; rintro e w2 ⟨rfl, x2⟩; have X2 := hid x2; obtain ⟨q0, q1, q2, q3⟩ := QB.out w2 x2; clear x2)
      go_ret
      exact ⟨ret_bool (by rw [HC.out]; rfl), HX.out.trans X2.out⟩
    · have d0 : ((sn : Int) == 0) = false := by simpa using (show ¬ (sn : Int) = 0 by omega)
      have d0n : (sn == 0) = false := by simpa using (show ¬ sn = 0 by omega)
      by_cases h1 : 100000 < sn
      · have d1 : decide ((sn : Int) > 100000) = true := decide_eq_true (by omega)
        have HS1 := hid h1
        go_enter Tryz.func35, Tryz.ntmps35
        go_wp2_with (go_at_call 97; refine K97.mono ?_; rintro e w2 ⟨rfl, x2⟩; have X2 := hid x2; obtain ⟨q0, q1, q2, q3⟩ := QB.out w2 x2; clear x2)
        go_ret
        exact ⟨ret_bool (by rw [HC.out, decide_eq_false (fun h => by have := h.2; have := HS1.out; omega)]; rfl), HX.out.trans X2.out⟩
      · have d1 : decide ((sn : Int) > 100000) = false := decide_eq_false (by omega)
        have hmk1 : ∀ W, (Instr.makeSlice 22 (.int .i64 (n : Int)) (.int .i64 (n : Int))).run Tryz.prog W = .ok (.slice (some ⟨W.heap.size, 0, none⟩) n n) (W.alloc (.cells (madeCells #[.int .i64 0] n) 3)) := fun W => run_make_row' 22 3 (.int .i64 0) 8 Tryz.underlying22 info3g rfl .i64 .i64 n (by omega) (by omega) W
        have hmk2 : ∀ W, (Instr.makeSlice 109 (.int .i64 (sn : Int)) (.int .i64 (sn : Int))).run Tryz.prog W = .ok (.slice (some ⟨W.heap.size, 0, none⟩) sn sn) (W.alloc (.cells (madeCells #[.bool false] sn) 4)) := fun W => run_make_row' 109 4 (.bool false) 1 Tryz.underlying109 info4 rfl .i64 .i64 sn (by omega) (by omega) W
        have HS1 : Hid (0 < sn ∧ sn ≤ 100000) := hid ⟨h0, by omega⟩
        have HN1 := hid hn1
        clear h0 h1 hn1
        go_enter Tryz.func35, Tryz.ntmps35
        go_wp2_with (go_at_call 97; refine K97.mono ?_; rintro e w2 ⟨rfl, x2⟩; have X2 := hid x2; obtain ⟨q0, q1, q2, q3⟩ := QB.out w2 x2; clear x2)
        have HS : Hid (∀ W, Ext w2 W → W.cell? ⟨w.heap.size, 0, none⟩ = some (.int .i64 (n : Int)) ∧ W.cell? ⟨w.heap.size, 1, none⟩ = some (.slice CA cn cc) ∧ W.cell? ⟨w.heap.size, 2, none⟩ = some (.slice EA en ec) ∧ W.cell? ⟨w.heap.size + 1, 0, none⟩ = some (.slice SA sn sc)) := fun W hW => QB.out W (X2.out.trans hW)
        have HI : Hid (∀ U, w2.heap.size ≤ U → In98 ⟨w2, g, ws, hold, ss, CA, cn, cc, EA, en, ec, WA, wn, wc, SA, sn, sc, n, U⟩) := fun U hU => ⟨HRG.out.ext (HX.out.trans X2.out), HRW.out.ext (HX.out.trans X2.out), HRS.out.ext (HX.out.trans X2.out), HN.out, HN1.out, hU, HVal.out.verts, HForm.out⟩
        have KA : Hid (∀ W', Ext ((w2.alloc (.cells (madeCells #[.int .i64 0] n) 3)).alloc (.cells (madeCells #[.bool false] sn) 4)) W' → Calls Tryz.prog 98 #[.agg #[.int .i64 (n : Int), .slice CA cn cc, .slice EA en ec], .slice WA wn wc, .bool hold, .agg #[.slice SA sn sc], .int .i64 0, .slice (some ⟨w2.heap.size, 0, none⟩) n n, .slice (some ⟨w2.heap.size + 1, 0, none⟩) sn sn] W' fun e w' => e = .returned (.bool (rightM g ws hold ss sn 0 (List.replicate n 0) (List.replicate sn false)).isSome) ∧ Ext w2 w') := fun W' hW =>
          check_call (k := ⟨w2, g, ws, hold, ss, CA, cn, cc, EA, en, ec, WA, wn, wc, SA, sn, sc, n, w2.heap.size + 1⟩) (HI.out _ (by omega)) (T := w2.heap.size) (Ext.trans (by repeat' (first | exact Ext.refl _ | assumption | apply Ext.alloc | apply Ext.drewN | apply Ext.drew)) hW) (by show w2.heap.size ≤ w2.heap.size + 1; omega) (by show w2.heap.size ≠ w2.heap.size + 1; omega) (two_made hW).1 (two_made hW).2 HS1.out.1
        have KB : Hid (∀ W', Ext ((w2.alloc (.cells (madeCells #[.bool false] sn) 4)).alloc (.cells (madeCells #[.int .i64 0] n) 3)) W' → Calls Tryz.prog 98 #[.agg #[.int .i64 (n : Int), .slice CA cn cc, .slice EA en ec], .slice WA wn wc, .bool hold, .agg #[.slice SA sn sc], .int .i64 0, .slice (some ⟨w2.heap.size + 1, 0, none⟩) n n, .slice (some ⟨w2.heap.size, 0, none⟩) sn sn] W' fun e w' => e = .returned (.bool (rightM g ws hold ss sn 0 (List.replicate n 0) (List.replicate sn false)).isSome) ∧ Ext w2 w') := fun W' hW =>
          check_call (k := ⟨w2, g, ws, hold, ss, CA, cn, cc, EA, en, ec, WA, wn, wc, SA, sn, sc, n, w2.heap.size⟩) (HI.out _ (by omega)) (T := w2.heap.size + 1) (Ext.trans (by repeat' (first | exact Ext.refl _ | assumption | apply Ext.alloc | apply Ext.drewN | apply Ext.drew)) hW) (by show w2.heap.size ≤ w2.heap.size; omega) (by show w2.heap.size + 1 ≠ w2.heap.size; omega) (two_made hW).2 (two_made hW).1 HS1.out.1
        clear g0 g1 g2 p0 K97
        generalize hm : (rightM g ws hold ss sn 0 (List.replicate n 0) (List.replicate sn false)).isSome = b at KA KB HC
        clear hm
        go_region_held (fun w' => w'.cell? ⟨w.heap.size, 0, none⟩ = some (.int .i64 (n : Int)) ∧ w'.cell? ⟨w.heap.size, 1, none⟩ = some (.slice CA cn cc) ∧ w'.cell? ⟨w.heap.size, 2, none⟩ = some (.slice EA en ec) ∧ w'.cell? ⟨w.heap.size + 1, 0, none⟩ = some (.slice SA sn sc)) (exact HS.out _ (by repeat' (first | exact Ext.refl _ | assumption | apply Ext.alloc | apply Ext.drewN | apply Ext.drew))) (first
          | (go_at_call 98; (with_reducible refine (KA.out _ (by repeat' (first | exact Ext.refl _ | assumption | apply Ext.alloc | apply Ext.drewN | apply Ext.drew))).mono ?_); rintro e w9 ⟨rfl, x9⟩; have X9 := hid x9)
          | (go_at_call 98; (with_reducible refine (KB.out _ (by repeat' (first | exact Ext.refl _ | assumption | apply Ext.alloc | apply Ext.drewN | apply Ext.drew))).mono ?_); rintro e w9 ⟨rfl, x9⟩; have X9 := hid x9))
        all_goals
          go_wp2
          go_ret
          exact ⟨ret_bool (by rw [HC.out, decide_eq_true HS1.out]; rfl), (HX.out.trans X2.out).trans (Ext.trans X9.out (by repeat' (first | exact Ext.refl _ | assumption | apply Ext.alloc | apply Ext.drewN | apply Ext.drew)))⟩
end Go.Proofs.YthjifmfmaiagoaaGreatDoor

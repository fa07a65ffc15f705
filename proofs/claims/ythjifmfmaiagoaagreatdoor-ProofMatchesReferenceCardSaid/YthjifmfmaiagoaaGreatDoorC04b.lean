/- C04b: texts H13 H14. -/
import Derived.BigRegion
import Derived.Deep.LoopGhost
import Derived.Shelf.SlSortCmp.Kit1
import Derived.Test.YthjifmfmaiagoaaGreatDoorC01
import Derived.Test.YthjifmfmaiagoaaGreatDoorC03
import Derived.Test.YthjifmfmaiagoaaGreatDoorC04
set_option linter.all false

/- The stable sort's walks. -/
namespace Go.Proofs.YthjifmfmaiagoaaGreatDoor
open Go.Shelf Go.RowKit Go.Lib Go.Sort
attribute [local go_sem] Oper.semAt_some

set_option maxHeartbeats 4000000 in
set_option maxRecDepth 1000000 in
theorem f263_any {α : Type} [Inhabited α] (enc : α → Value) (cf : α → α → Int) (g : Nat) (cb : Array Value) (blk off cap : Nat) (d0 : Array α) (w0 : World) (eg : ∀ args w, (callFunc g args).run Tryz.prog w = .ok (.enter g args) w) (hcmp : CmpLays1 Tryz.prog g cb enc cf blk off d0.size w0) (R : Row1 enc w0 blk off d0) (hsz : d0.size < 4611686018427387904) (a b n : Nat) (d : Array α) (w : World) (hs : d.size = d0.size) (S : SW enc w0 blk off d w) (h1 : a + n ≤ b) (h2 : b + n ≤ d.size) :
    Calls Tryz.prog 263 #[.slice (some ⟨blk, off, none⟩) d0.size cap, .int .i64 a, .int .i64 b, .int .i64 n, .func (.func g) #[] cb] w fun e w' => e = .returned (.tuple #[]) ∧ SW enc w0 blk off (swapTo d a b n) w' := by
  have hcl0 := R.hO.cells
  simp only [Value.cells] at hcl0
  have hst := R.hO.store Tryz.prog
  have S0 : Aside (SW enc w0 blk off d w) := S
  clear S hcmp eg
  go_enter Tryz.func263, Tryz.ntmps263
  go_wp2
  go_loopg [10] n (fun gg vi wr => ∃ (i : Nat) (dk : Array α), vi = .int .i64 i ∧ i + gg = n ∧ dk.size = d.size ∧ Aside (SW enc w0 blk off dk wr) ∧ Hid (dk = swapTo d a b i))
  case atStart => exact ⟨0, d, by go_num, by omega, rfl, S0, rfl⟩
  case round =>
    clear S0
    obtain ⟨i, dk, rfl, hg, hsk, S1, HD⟩ := hrel
    by_cases hlt : i < n
    · have hltz : (i : Int) < (n : Int) := by omega
      go_wp2_with fail
      obtain ⟨iN1, hiN1⟩ : ∃ q, q = a + i := ⟨_, rfl⟩
      obtain ⟨jN1, hjN1⟩ : ∃ q, q = b + i := ⟨_, rfl⟩
      have ea1 : ((a : Int) + (i : Int)).toNat = iN1 := by omega
      have pa1 : (0 : Int) ≤ (a : Int) + (i : Int) := by omega
      have ba1 : (a : Int) + (i : Int) < (d0.size : Int) := by omega
      have ra1 : IntKind.i64.wrap ((a : Int) + (i : Int)) = (a : Int) + (i : Int) := by rw [IntKind.wrap_i64]; omega
      have ec1 : ((b : Int) + (i : Int)).toNat = jN1 := by omega
      have pc1 : (0 : Int) ≤ (b : Int) + (i : Int) := by omega
      have bc1 : (b : Int) + (i : Int) < (d0.size : Int) := by omega
      have rc1 : IntKind.i64.wrap ((b : Int) + (i : Int)) = (b : Int) + (i : Int) := by rw [IntKind.wrap_i64]; omega
      obtain ⟨x1, hx1⟩ : ∃ x, x = dk[a + i]! := ⟨_, rfl⟩
      obtain ⟨y1, hy1⟩ : ∃ x, x = dk[b + i]! := ⟨_, rfl⟩
      have S3 : Aside (SW enc w0 blk off (swp dk (a + i) (b + i)) ((wr.setCell ⟨blk, off + iN1, none⟩ (enc y1)).setCell ⟨blk, off + jN1, none⟩ (enc x1)).drew) := by rw [hiN1, hjN1, hx1, hy1]; exact S1.out.swapped R (a + i) (b + i) (by omega) (by omega)
      have c1a := S1.out.c1 R (by omega) (a + i) (by omega)
      have c1b := S1.out.c1 R (by omega) (b + i) (by omega)
      have f1a := S1.out.f1 R (by omega) (a + i) (by omega)
      have f1b := S1.out.f1 R (by omega) (b + i) (by omega)
      obtain ⟨u1, c1c⟩ := S1.out.c2 R (by omega) (a + i) (b + i) (by omega) (by omega) (enc y1)
      rw [← hjN1, ← hiN1] at c1c
      rw [← hx1, ← hiN1] at c1a
      rw [← hy1, ← hjN1] at c1b
      rw [← hiN1] at f1a
      rw [← hjN1] at f1b
      clear S1 hx1 hy1 hiN1 hjN1
      go_wp2_with fail
      go_big_region
      clear c1a c1b c1c f1a f1b
      generalize ((wr.setCell ⟨blk, off + iN1, none⟩ (enc y1)).setCell ⟨blk, off + jN1, none⟩ (enc x1)).drew = w3 at S3 ⊢
      clear ea1 ec1
      go_wp2
      go_roundg (n - (i + 1))
      case measure => omega
      case rel => exact ⟨i + 1, swp dk (a + i) (b + i), by go_num, by omega, by rw [size_swp]; exact hsk, S3, (show Hid _ from by have h := HD.out; exact (by rw [h]; rfl : swp dk (a + i) (b + i) = swapTo d a b (i + 1)))⟩
    · have hltz : ¬ (i : Int) < (n : Int) := by omega
      go_wp2
      try go_end0
      have : i = n := by omega
      subst this
      exact ⟨rfl, by have h := HD.out; rw [← h]; exact S1.out⟩

set_option maxHeartbeats 4000000 in
set_option maxRecDepth 1000000 in
theorem f257_any {α : Type} [Inhabited α] (enc : α → Value) (cf : α → α → Int) (g : Nat) (cb : Array Value) (blk off cap : Nat) (d0 : Array α) (w0 : World) (eg : ∀ args w, (callFunc g args).run Tryz.prog w = .ok (.enter g args) w) (hcmp : CmpLays1 Tryz.prog g cb enc cf blk off d0.size w0) (R : Row1 enc w0 blk off d0) (hsz : d0.size < 4611686018427387904) (a m b : Nat) (d : Array α) (w : World) (hs : d.size = d0.size) (S : SW enc w0 blk off d w) (h1 : a < m) (h2 : m < b) (h3 : b ≤ d.size) :
    Calls Tryz.prog 257 #[.slice (some ⟨blk, off, none⟩) d0.size cap, .int .i64 a, .int .i64 m, .int .i64 b, .func (.func g) #[] cb] w fun e w' => e = .returned (.tuple #[]) ∧ ∃ d', Rotated d a m b d' ∧ SW enc w0 blk off d' w' := by
  have H263 := hid (fun (x y n : Nat) (c : Array α) (W : World) (k : c.size = d0.size) (s : SW enc w0 blk off c W) (k1 : x + n ≤ y) (k2 : y + n ≤ c.size) => f263_any enc cf g cb blk off cap d0 w0 eg hcmp R hsz x y n c W k s k1 k2)
  have S0 : Aside (SW enc w0 blk off d w) := S
  have HR := hid (Rot.start d a m b (by omega) (by omega))
  obtain ⟨t, ht⟩ : ∃ t : Nat → α, t = fun k => if a ≤ k ∧ k < a + (b - m) then d[k + (m - a)]! else if a + (b - m) ≤ k ∧ k < b then d[k - (b - m)]! else d[k]! := ⟨_, rfl⟩
  rw [← ht] at HR
  have HT := hid ht
  have q1 : IntKind.i64.wrap ((m : Int) - (a : Int)) = ((m - a : Nat) : Int) := by rw [IntKind.wrap_i64]; omega
  have q2 : IntKind.i64.wrap ((b : Int) - (m : Int)) = ((b - m : Nat) : Int) := by rw [IntKind.wrap_i64]; omega
  clear S hcmp eg ht
  go_enter Tryz.func257, Tryz.ntmps257
  go_wp2
  go_loopg [10, 11] (m - a + (b - m)) (fun gg vi vj wr => ∃ (i j : Nat) (c : Array α), vi = .int .i64 i ∧ vj = .int .i64 j ∧ gg = i + j ∧ 1 ≤ i ∧ 1 ≤ j ∧ i ≤ m - a ∧ j ≤ b - m ∧ c.size = d.size ∧ Hid (PermIn a b d c) ∧ Aside (SW enc w0 blk off c wr) ∧ Hid (Rot t m i j c))
  case atStart => exact ⟨m - a, b - m, d, rfl, rfl, rfl, by omega, by omega, by omega, by omega, rfl, permIn_refl d a b, S0, HR⟩
  case round =>
    clear S0 HR q1 q2
    obtain ⟨i, j, c, rfl, rfl, hg, i1, j1, im, jm, hsc, HP, S1, HRot⟩ := hrel
    have q1 : IntKind.i64.wrap ((m : Int) - (i : Int)) = ((m - i : Nat) : Int) := by rw [IntKind.wrap_i64]; omega
    by_cases hij : i = j
    · subst hij
      have hz : ((i : Int) ≠ (i : Int)) = False := by simp
      have K := hid (H263.out (m - i) m i c wr (by omega) S1.out (by omega) (by omega))
      go_wp2_with (go_at_call 263; refine K.out.mono ?_; rintro e w' ⟨rfl, S2⟩)
      try go_end0
      refine ⟨rfl, swapTo c (m - i) m i, ⟨permIn_trans _ _ _ a b HP.out (swapTo_perm c (m - i) m a b (by omega) i (by omega) (by omega) (by omega)), fun k => ?_⟩, S2⟩
      have h := HRot.out.last (by omega) (by omega) k
      rw [HT.out] at h
      exact h
    · have hz : ¬ ((i : Int) = (j : Int)) := by omega
      by_cases hlt : j < i
      · have hltz : (j : Int) < (i : Int) := by omega
        have q2 : IntKind.i64.wrap ((i : Int) - (j : Int)) = ((i - j : Nat) : Int) := by rw [IntKind.wrap_i64]; omega
        have K := hid (H263.out (m - i) m j c wr (by omega) S1.out (by omega) (by omega))
        go_wp2_with (go_at_call 263; refine K.out.mono ?_; rintro e w' ⟨rfl, S2⟩)
        go_roundg (i - j + j)
        case measure => omega
        case rel => exact ⟨i - j, j, swapTo c (m - i) m j, by first | rfl | go_num, rfl, rfl, by omega, by omega, by omega, by omega, by rw [size_swapTo]; exact hsc, permIn_trans _ _ _ a b HP.out (swapTo_perm c (m - i) m a b (by omega) j (by omega) (by omega) (by omega)), S2, HRot.out.left hlt (by omega) (by omega)⟩
      · have hltz : ¬ (j : Int) < (i : Int) := by omega
        have q2 : IntKind.i64.wrap ((j : Int) - (i : Int)) = ((j - i : Nat) : Int) := by rw [IntKind.wrap_i64]; omega
        have q3 : IntKind.i64.wrap ((m : Int) + (j : Int)) = (m : Int) + (j : Int) := by rw [IntKind.wrap_i64]; omega
        have q4 : IntKind.i64.wrap ((m : Int) + (j : Int) - (i : Int)) = (m : Int) + (j : Int) - (i : Int) := by rw [IntKind.wrap_i64]; omega
        have q5 : ((m + j - i : Nat) : Int) = (m : Int) + (j : Int) - (i : Int) := by omega
        have K := H263.out (m - i) (m + j - i) i c wr (by omega) S1.out (by omega) (by omega)
        rw [q5] at K
        have K := hid K
        clear q5
        go_wp2_with (go_at_call 263; refine K.out.mono ?_; rintro e w' ⟨rfl, S2⟩)
        go_roundg (i + (j - i))
        case measure => omega
        case rel => exact ⟨i, j - i, swapTo c (m - i) (m + j - i) i, rfl, by first | rfl | go_num, rfl, by omega, by omega, by omega, by omega, by rw [size_swapTo]; exact hsc, permIn_trans _ _ _ a b HP.out (swapTo_perm c (m - i) (m + j - i) a b (by omega) i (by omega) (by omega) (by omega)), S2, HRot.out.right (by omega) (by omega) (by omega)⟩
end Go.Proofs.YthjifmfmaiagoaaGreatDoor

/- The stable sort's merge. -/
namespace Go.Proofs.YthjifmfmaiagoaaGreatDoor
open Go.Shelf Go.RowKit Go.Lib Go.Sort
attribute [local go_sem] Oper.semAt_some
variable {β : Type} [Inhabited β] {lt : β → β → Bool}

/-- The first has been moved to place k. -/
def MovedUp (d : Array β) (a k : Nat) (c : Array β) : Prop := ∀ t, c[t]! = if a ≤ t ∧ t < k then d[t + 1]! else if t = k then d[a]! else d[t]!
theorem MovedUp.start (d : Array β) (a : Nat) : MovedUp d a a d := fun t => by
  rw [if_neg (by omega)]
  split
  · rename_i h; rw [h]
  · rfl
theorem MovedUp.step {d c : Array β} {a k : Nat} (h : MovedUp d a k c) (hak : a ≤ k) (hk : k + 1 < c.size) : MovedUp d a (k + 1) (swp c k (k + 1)) := by
  intro t
  rw [swp_get _ (by omega) hk, h k, h (k + 1), h t]
  by_cases e1 : t = k + 1
  · subst e1
    rw [if_pos rfl, if_neg (by omega), if_pos rfl, if_neg (by omega), if_pos rfl]
  · rw [if_neg e1]
    by_cases e2 : t = k
    · subst e2
      rw [if_pos rfl, if_neg (by omega), if_neg (by omega), if_pos (by omega)]
    · rw [if_neg e2]
      by_cases e3 : a ≤ t ∧ t < k
      · rw [if_pos e3, if_pos (by omega)]
      · rw [if_neg e3, if_neg e2, if_neg (c := a ≤ t ∧ t < k + 1) (by omega), if_neg e1]
/-- The last has been moved to place k. -/
def MovedDown (d : Array β) (m k : Nat) (c : Array β) : Prop := ∀ t, c[t]! = if k < t ∧ t ≤ m then d[t - 1]! else if t = k then d[m]! else d[t]!
theorem MovedDown.start (d : Array β) (m : Nat) : MovedDown d m m d := fun t => by
  rw [if_neg (by omega)]
  split
  · rename_i h; rw [h]
  · rfl
theorem MovedDown.step {d c : Array β} {m k : Nat} (h : MovedDown d m (k + 1) c) (hm : k + 1 ≤ m) (hk : m < c.size) : MovedDown d m k (swp c (k + 1) k) := by
  intro t
  rw [swp_get _ (by omega) (by omega), h k, h (k + 1), h t]
  by_cases e1 : t = k
  · subst e1
    rw [if_pos rfl, if_neg (by omega), if_pos rfl, if_neg (by omega), if_pos rfl]
  · rw [if_neg e1]
    by_cases e2 : t = k + 1
    · subst e2
      rw [if_pos rfl, if_neg (by omega), if_neg (by omega), if_pos (by omega), Nat.add_sub_cancel]
    · rw [if_neg e2]
      by_cases e3 : k + 1 < t ∧ t ≤ m
      · rw [if_pos e3, if_pos (by omega)]
      · rw [if_neg e3, if_neg e2, if_neg (c := k < t ∧ t ≤ m) (by omega), if_neg e1]

theorem sorted_le (hS : SWO lt) {a b : Nat} {d : Array β} (h : SortedIn lt a b d) {i j : Nat} (h1 : a ≤ i) (h2 : i ≤ j) (h3 : j < b) : lt d[j]! d[i]! = false := by
  rcases Nat.lt_or_eq_of_le h2 with k | k
  · exact h i j h1 k h3
  · rw [k]; exact hS.irrefl _
theorem SWO.lt_of (hS : SWO lt) {x y z : β} (h1 : lt x y = true) (h2 : lt z y = false) : lt x z = true := by
  cases h : lt x z with
  | true => rfl
  | false => exact absurd (hS.ntrans x z y h h2) (by rw [h1]; simp)
theorem SWO.of_lt (hS : SWO lt) {x y z : β} (h1 : lt x y = true) (h2 : lt x z = false) : lt z y = true := by
  cases h : lt z y with
  | true => rfl
  | false => exact absurd (hS.ntrans x z y h2 h) (by rw [h1]; simp)

/-- The place among the right ones, for the one on the left. -/
structure FoundUp (lt : β → β → Bool) (a m b i j : Nat) (d : Array β) : Prop where
  mi : m ≤ i
  ij : i ≤ j
  jb : j ≤ b
  low : ∀ t, m ≤ t → t < i → lt d[t]! d[a]! = true
  high : ∀ t, j ≤ t → t < b → lt d[t]! d[a]! = false
theorem FoundUp.yes (hS : SWO lt) {a m b i j h : Nat} {d : Array β} (F : FoundUp lt a m b i j d) (hs : SortedIn lt m b d) (h1 : i ≤ h) (h2 : h < j) (hl : lt d[h]! d[a]! = true) : FoundUp lt a m b (h + 1) j d :=
  ⟨by have := F.mi; omega, by omega, F.jb, fun t k1 k2 => SWO.of_lt hS hl (sorted_le hS hs k1 (by omega) (by have := F.jb; omega)), F.high⟩
theorem FoundUp.no (hS : SWO lt) {a m b i j h : Nat} {d : Array β} (F : FoundUp lt a m b i j d) (hs : SortedIn lt m b d) (h1 : i ≤ h) (h2 : h < j) (hl : lt d[h]! d[a]! = false) : FoundUp lt a m b i h d :=
  ⟨F.mi, h1, by have := F.jb; omega, F.low, fun t k1 k2 => hS.ntrans _ _ _ (sorted_le hS hs (by have := F.mi; omega) k1 k2) hl⟩
theorem FoundUp.sorted (hS : SWO lt) {a b i : Nat} {d c : Array β} (F : FoundUp lt a (a + 1) b i i d) (hs : SortedIn lt (a + 1) b d) (h : MovedUp d a (i - 1) c) : SortedIn lt a b c := by
  obtain ⟨f1, f2, f3, f4, f5⟩ := F
  intro p q hp hpq hq
  rw [h p, h q]
  by_cases c1 : a ≤ q ∧ q < i - 1
  · rw [if_pos c1, if_pos (by omega)]
    exact hs _ _ (by omega) (by omega) (by omega)
  · rw [if_neg c1]
    by_cases c2 : q = i - 1
    · rw [if_pos c2, if_pos (by omega)]
      exact hS.asymmA (f4 _ (by omega) (by omega))
    · rw [if_neg c2]
      by_cases c3 : a ≤ p ∧ p < i - 1
      · rw [if_pos c3]
        exact hs _ _ (by omega) (by omega) (by omega)
      · rw [if_neg c3]
        by_cases c4 : p = i - 1
        · rw [if_pos c4]
          exact f5 _ (by omega) (by omega)
        · rw [if_neg c4]
          exact hs _ _ (by omega) (by omega) (by omega)
/-- The place among the left ones, for the one on the right. -/
structure FoundDown (lt : β → β → Bool) (a m i j : Nat) (d : Array β) : Prop where
  ai : a ≤ i
  ij : i ≤ j
  jm : j ≤ m
  low : ∀ t, a ≤ t → t < i → lt d[m]! d[t]! = false
  high : ∀ t, j ≤ t → t < m → lt d[m]! d[t]! = true
theorem FoundDown.no (hS : SWO lt) {a m i j h : Nat} {d : Array β} (F : FoundDown lt a m i j d) (hs : SortedIn lt a m d) (h1 : i ≤ h) (h2 : h < j) (hl : lt d[m]! d[h]! = false) : FoundDown lt a m (h + 1) j d :=
  ⟨by have := F.ai; omega, by omega, F.jm, fun t k1 k2 => hS.ntrans _ _ _ hl (sorted_le hS hs k1 (by omega) (by have := F.jm; omega)), F.high⟩
theorem FoundDown.yes (hS : SWO lt) {a m i j h : Nat} {d : Array β} (F : FoundDown lt a m i j d) (hs : SortedIn lt a m d) (h1 : i ≤ h) (h2 : h < j) (hl : lt d[m]! d[h]! = true) : FoundDown lt a m i h d :=
  ⟨F.ai, h1, by have := F.jm; omega, F.low, fun t k1 k2 => SWO.lt_of hS hl (sorted_le hS hs (by have := F.ai; omega) k1 k2)⟩
theorem FoundDown.sorted (hS : SWO lt) {a m i : Nat} {d c : Array β} (F : FoundDown lt a m i i d) (hs : SortedIn lt a m d) (h : MovedDown d m i c) : SortedIn lt a (m + 1) c := by
  obtain ⟨f1, f2, f3, f4, f5⟩ := F
  intro p q hp hpq hq
  rw [h p, h q]
  by_cases c1 : i < q ∧ q ≤ m
  · rw [if_pos c1]
    by_cases c2 : i < p ∧ p ≤ m
    · rw [if_pos c2]
      exact hs _ _ (by omega) (by omega) (by omega)
    · rw [if_neg c2]
      by_cases c3 : p = i
      · rw [if_pos c3]
        exact hS.asymmA (f5 _ (by omega) (by omega))
      · rw [if_neg c3]
        exact sorted_le hS hs (by omega) (by omega) (by omega)
  · rw [if_neg c1, if_neg (c := i < p ∧ p ≤ m) (by omega), if_neg (c := p = i) (by omega)]
    by_cases c3 : q = i
    · rw [if_pos c3]
      exact f4 _ (by omega) (by omega)
    · rw [if_neg c3]
      exact hs _ _ (by omega) (by omega) (by omega)

set_option maxHeartbeats 4000000 in
set_option maxRecDepth 1000000 in
theorem f242_left {α : Type} [Inhabited α] (enc : α → Value) (cf : α → α → Int) (g : Nat) (cb : Array Value) (blk off cap : Nat) (d0 : Array α) (w0 : World) (eg : ∀ args w, (callFunc g args).run Tryz.prog w = .ok (.enter g args) w) (hcmp : CmpLays1 Tryz.prog g cb enc cf blk off d0.size w0) (R : Row1 enc w0 blk off d0) (hsz : d0.size < 4611686018427387904) (hS : SWO (ltOf cf)) (a b : Nat) (d : Array α) (w : World) (hs : d.size = d0.size) (S : SW enc w0 blk off d w) (h2 : a + 1 < b) (h3 : b ≤ d.size) (hR : SortedIn (ltOf cf) (a + 1) b d) :
    Calls Tryz.prog 242 #[.slice (some ⟨blk, off, none⟩) d0.size cap, .int .i64 a, .int .i64 ((a + 1 : Nat) : Int), .int .i64 b, .func (.func g) #[] cb] w fun e w' => e = .returned (.tuple #[]) ∧ ∃ d', PermIn a b d d' ∧ SortedIn (ltOf cf) a b d' ∧ SW enc w0 blk off d' w' := by
  have hcl0 := R.hO.cells
  simp only [Value.cells] at hcl0
  have hst := R.hO.store Tryz.prog
  have mixed : Tryz.prog.follows .mixedOrders = true := by kernel_rfl
  have S0 : Aside (SW enc w0 blk off d w) := S
  have HR := hid hR
  have HS := hid hS
  have HC : Aside _ := hcmp
  clear S hcmp hR hS
  obtain ⟨m, hm⟩ : ∃ m, m = a + 1 := ⟨_, rfl⟩
  rw [← hm] at HR ⊢
  have hm1 : a < m := by omega
  have hm2 : m ≤ a + 1 := by omega
  have q0 : IntKind.i64.wrap ((m : Int) - (a : Int)) = 1 := by rw [IntKind.wrap_i64]; omega
  clear hm
  go_enter Tryz.func242, Tryz.ntmps242
  go_wp2
  clear q0
  go_loopg [10, 11, 12] (b - m) (fun gg vi vj _ wr => ∃ (i j : Nat), vi = .int .i64 i ∧ vj = .int .i64 j ∧ m ≤ i ∧ i ≤ j ∧ j ≤ b ∧ j - i ≤ gg ∧ Aside (SW enc w0 blk off d wr) ∧ Hid (FoundUp (ltOf cf) a m b i j d))
  case atStart => exact ⟨m, b, rfl, rfl, by omega, by omega, by omega, by omega, S0, ⟨by omega, by omega, by omega, fun t k1 k2 => by omega, fun t k1 k2 => by omega⟩⟩
  case round =>
    clear S0
    obtain ⟨i, j, rfl, rfl, hmi, hij, hjb, hg, S1, HF⟩ := hrel
    by_cases hlt : i < j
    · have hltz : (i : Int) < (j : Int) := by omega
      obtain ⟨h, hh⟩ : ∃ h, h = (i + j) / 2 := ⟨_, rfl⟩
      have qh : ((i : Int) + (j : Int)) / 2 = (h : Int) := by omega
      have hh1 : i ≤ h := by omega
      have hh2 : h < j := by omega
      clear hh
      cases hlv : (ltOf cf) d[h]! d[a]! with
      | true =>
        go_wp2_with fail
        obtain ⟨iN1, hiN1⟩ : ∃ q, q = h := ⟨_, rfl⟩
        obtain ⟨jN1, hjN1⟩ : ∃ q, q = a := ⟨_, rfl⟩
        have ea1 : ((h : Int)).toNat = iN1 := by omega
        have pa1 : (0 : Int) ≤ (h : Int) := by omega
        have ba1 : (h : Int) < (d0.size : Int) := by omega
        have ra1 : IntKind.i64.wrap ((h : Int)) = (h : Int) := by rw [IntKind.wrap_i64]; omega
        have ec1 : ((a : Int)).toNat = jN1 := by omega
        have pc1 : (0 : Int) ≤ (a : Int) := by omega
        have bc1 : (a : Int) < (d0.size : Int) := by omega
        have rc1 : IntKind.i64.wrap ((a : Int)) = (a : Int) := by rw [IntKind.wrap_i64]; omega
        obtain ⟨x1, hx1⟩ : ∃ x, x = d[h]! := ⟨_, rfl⟩
        obtain ⟨y1, hy1⟩ : ∃ x, x = d[a]! := ⟨_, rfl⟩
        have l1a := S1.out.cl R (by omega) (h) (by omega)
        have l1b := S1.out.cl R (by omega) (a) (by omega)
        rw [← hx1, ← hiN1] at l1a
        rw [← hy1, ← hjN1] at l1b
        have hc1 := S1.out.cmp HC.out (by omega) x1 y1
        have hv1 : cf x1 y1 < 0 := by rw [hx1, hy1]; exact of_decide_eq_true hlv
        have hd1 : decide (cf x1 y1 < 0) = true := decide_eq_true hv1
        clear hx1 hy1 hiN1 hjN1
        go_wp2_with fail
        go_quiet_grown (first | (go_at_fn g; refine Calls.grown_of (hc1 _ _)))
        have S2 : Aside (SW enc w0 blk off d (grow (wr.drewN nq) osq)) := S1.out.grown nq osq
        clear l1a l1b hc1 S1
        generalize grow (wr.drewN nq) osq = w2 at S2 ⊢
        clear nq osq
        clear ea1 ec1
        go_wp2
        go_roundg (j - (h + 1))
        case measure => omega
        case rel => exact ⟨h + 1, j, by go_num, rfl, by omega, by omega, by omega, Nat.le_refl _, S2, HF.out.yes HS.out HR.out hh1 hh2 hlv⟩
      | false =>
        go_wp2_with fail
        obtain ⟨iN2, hiN2⟩ : ∃ q, q = h := ⟨_, rfl⟩
        obtain ⟨jN2, hjN2⟩ : ∃ q, q = a := ⟨_, rfl⟩
        have ea2 : ((h : Int)).toNat = iN2 := by omega
        have pa2 : (0 : Int) ≤ (h : Int) := by omega
        have ba2 : (h : Int) < (d0.size : Int) := by omega
        have ra2 : IntKind.i64.wrap ((h : Int)) = (h : Int) := by rw [IntKind.wrap_i64]; omega
        have ec2 : ((a : Int)).toNat = jN2 := by omega
        have pc2 : (0 : Int) ≤ (a : Int) := by omega
        have bc2 : (a : Int) < (d0.size : Int) := by omega
        have rc2 : IntKind.i64.wrap ((a : Int)) = (a : Int) := by rw [IntKind.wrap_i64]; omega
        obtain ⟨x2, hx2⟩ : ∃ x, x = d[h]! := ⟨_, rfl⟩
        obtain ⟨y2, hy2⟩ : ∃ x, x = d[a]! := ⟨_, rfl⟩
        have l2a := S1.out.cl R (by omega) (h) (by omega)
        have l2b := S1.out.cl R (by omega) (a) (by omega)
        rw [← hx2, ← hiN2] at l2a
        rw [← hy2, ← hjN2] at l2b
        have hc2 := S1.out.cmp HC.out (by omega) x2 y2
        have hv2 : ¬ cf x2 y2 < 0 := by rw [hx2, hy2]; exact of_decide_eq_false hlv
        have hd2 : decide (cf x2 y2 < 0) = false := decide_eq_false hv2
        clear hx2 hy2 hiN2 hjN2
        go_wp2_with fail
        go_quiet_grown (first | (go_at_fn g; refine Calls.grown_of (hc2 _ _)))
        have S2 : Aside (SW enc w0 blk off d (grow (wr.drewN nq) osq)) := S1.out.grown nq osq
        clear l2a l2b hc2 S1
        generalize grow (wr.drewN nq) osq = w2 at S2 ⊢
        clear nq osq
        clear ea2 ec2
        go_wp2
        go_roundg (h - i)
        case measure => omega
        case rel => exact ⟨i, h, rfl, by go_num, by omega, by omega, by omega, Nat.le_refl _, S2, HF.out.no HS.out HR.out hh1 hh2 hlv⟩
    · have hji : j = i := by omega
      subst hji
      have hltz : ¬ (j : Int) < (j : Int) := by omega
      go_wp2
      obtain ⟨wo, rfl⟩ : ∃ wo : World, wo = wr := ⟨_, rfl⟩
      go_loopg [13] (j - 1 - a) (fun gg vk wr => ∃ (k : Nat) (dk : Array α), vk = .int .i64 k ∧ a ≤ k ∧ k + gg = j - 1 ∧ dk.size = d0.size ∧ Hid (PermIn a b d dk) ∧ Aside (SW enc w0 blk off dk wr) ∧ Hid (MovedUp d a k dk))
      case atStart => exact ⟨a, d, rfl, by omega, by omega, hs, permIn_refl d a b, S1, MovedUp.start d a⟩
      case round =>
        clear S1
        obtain ⟨k, dk, rfl, hak, hg2, hsk, HP, S1, HM⟩ := hrel
        have qj : IntKind.i64.wrap ((j : Int) - 1) = ((j - 1 : Nat) : Int) := by rw [IntKind.wrap_i64]; omega
        by_cases hkj : k < j - 1
        · have hkz : (k : Int) < ((j - 1 : Nat) : Int) := by omega
          go_wp2_with fail
          obtain ⟨iN3, hiN3⟩ : ∃ q, q = k := ⟨_, rfl⟩
          obtain ⟨jN3, hjN3⟩ : ∃ q, q = k + 1 := ⟨_, rfl⟩
          have ea3 : ((k : Int)).toNat = iN3 := by omega
          have pa3 : (0 : Int) ≤ (k : Int) := by omega
          have ba3 : (k : Int) < (d0.size : Int) := by omega
          have ra3 : IntKind.i64.wrap ((k : Int)) = (k : Int) := by rw [IntKind.wrap_i64]; omega
          have ec3 : ((k : Int) + 1).toNat = jN3 := by omega
          have pc3 : (0 : Int) ≤ (k : Int) + 1 := by omega
          have bc3 : (k : Int) + 1 < (d0.size : Int) := by omega
          have rc3 : IntKind.i64.wrap ((k : Int) + 1) = (k : Int) + 1 := by rw [IntKind.wrap_i64]; omega
          obtain ⟨x3, hx3⟩ : ∃ x, x = dk[k]! := ⟨_, rfl⟩
          obtain ⟨y3, hy3⟩ : ∃ x, x = dk[k + 1]! := ⟨_, rfl⟩
          have S3 : Aside (SW enc w0 blk off (swp dk (k) (k + 1)) ((wr.setCell ⟨blk, off + iN3, none⟩ (enc y3)).setCell ⟨blk, off + jN3, none⟩ (enc x3)).drew) := by rw [hiN3, hjN3, hx3, hy3]; exact S1.out.swapped R (k) (k + 1) (by omega) (by omega)
          have c3a := S1.out.c1 R (by omega) (k) (by omega)
          have c3b := S1.out.c1 R (by omega) (k + 1) (by omega)
          have f3a := S1.out.f1 R (by omega) (k) (by omega)
          have f3b := S1.out.f1 R (by omega) (k + 1) (by omega)
          obtain ⟨u3, c3c⟩ := S1.out.c2 R (by omega) (k) (k + 1) (by omega) (by omega) (enc y3)
          rw [← hjN3, ← hiN3] at c3c
          rw [← hx3, ← hiN3] at c3a
          rw [← hy3, ← hjN3] at c3b
          rw [← hiN3] at f3a
          rw [← hjN3] at f3b
          clear S1 hx3 hy3 hiN3 hjN3
          go_wp2_with fail
          go_big_region
          clear c3a c3b c3c f3a f3b
          generalize ((wr.setCell ⟨blk, off + iN3, none⟩ (enc y3)).setCell ⟨blk, off + jN3, none⟩ (enc x3)).drew = w3 at S3 ⊢
          clear ea3 ec3
          go_wp2
          go_roundg (j - 1 - (k + 1))
          case measure => omega
          case rel => exact ⟨k + 1, swp dk k (k + 1), by go_num, by omega, by omega, by rw [size_swp]; exact hsk, permIn_trans _ _ _ a b HP.out (swp_permIn _ a b k (k + 1) (by omega) (by omega) (by omega) (by omega) (by omega)), S3, HM.out.step hak (by omega)⟩
        · have hkz : ¬ (k : Int) < ((j - 1 : Nat) : Int) := by omega
          go_wp2
          have : k = j - 1 := by omega
          subst this
          obtain rfl : m = a + 1 := by omega
          exact bodyPost_ret (v := .tuple #[]) (by simp [results, Tryz.results242, go_sem]) rfl ⟨rfl, dk, HP.out, HF.out.sorted HS.out HR.out HM.out, S1.out⟩

set_option maxHeartbeats 4000000 in
set_option maxRecDepth 1000000 in
theorem f242_right {α : Type} [Inhabited α] (enc : α → Value) (cf : α → α → Int) (g : Nat) (cb : Array Value) (blk off cap : Nat) (d0 : Array α) (w0 : World) (eg : ∀ args w, (callFunc g args).run Tryz.prog w = .ok (.enter g args) w) (hcmp : CmpLays1 Tryz.prog g cb enc cf blk off d0.size w0) (R : Row1 enc w0 blk off d0) (hsz : d0.size < 4611686018427387904) (hS : SWO (ltOf cf)) (a m : Nat) (d : Array α) (w : World) (hs : d.size = d0.size) (S : SW enc w0 blk off d w) (h2 : a + 1 < m) (h3 : m + 1 ≤ d.size) (hR : SortedIn (ltOf cf) a m d) :
    Calls Tryz.prog 242 #[.slice (some ⟨blk, off, none⟩) d0.size cap, .int .i64 a, .int .i64 m, .int .i64 ((m + 1 : Nat) : Int), .func (.func g) #[] cb] w fun e w' => e = .returned (.tuple #[]) ∧ ∃ d', PermIn a (m + 1) d d' ∧ SortedIn (ltOf cf) a (m + 1) d' ∧ SW enc w0 blk off d' w' := by
  have hcl0 := R.hO.cells
  simp only [Value.cells] at hcl0
  have hst := R.hO.store Tryz.prog
  have mixed : Tryz.prog.follows .mixedOrders = true := by kernel_rfl
  have S0 : Aside (SW enc w0 blk off d w) := S
  have HR := hid hR
  have HS := hid hS
  have HC : Aside _ := hcmp
  clear S hcmp hR hS
  obtain ⟨b, hb⟩ : ∃ b, b = m + 1 := ⟨_, rfl⟩
  rw [← hb] at h3 ⊢
  have hb1 : m < b := by omega
  have hb2 : b ≤ m + 1 := by omega
  have q0 : IntKind.i64.wrap ((m : Int) - (a : Int)) = ((m - a : Nat) : Int) := by rw [IntKind.wrap_i64]; omega
  have q1 : IntKind.i64.wrap ((b : Int) - (m : Int)) = 1 := by rw [IntKind.wrap_i64]; omega
  have q2 : ¬ (((m - a : Nat) : Int) = 1) := by omega
  have q2b : (((m - a : Nat) : Int) == 1) = false := by simpa using q2
  clear hb
  go_enter Tryz.func242, Tryz.ntmps242
  go_wp2
  clear q0 q1 q2
  go_loopg [14, 15, 16] (m - a) (fun gg vi vj _ wr => ∃ (i j : Nat), vi = .int .i64 i ∧ vj = .int .i64 j ∧ a ≤ i ∧ i ≤ j ∧ j ≤ m ∧ j - i ≤ gg ∧ Aside (SW enc w0 blk off d wr) ∧ Hid (FoundDown (ltOf cf) a m i j d))
  case atStart => exact ⟨a, m, rfl, rfl, by omega, by omega, by omega, by omega, S0, ⟨by omega, by omega, by omega, fun t k1 k2 => by omega, fun t k1 k2 => by omega⟩⟩
  case round =>
    clear S0
    obtain ⟨i, j, rfl, rfl, hmi, hij, hjb, hg, S1, HF⟩ := hrel
    by_cases hlt : i < j
    · have hltz : (i : Int) < (j : Int) := by omega
      obtain ⟨h, hh⟩ : ∃ h, h = (i + j) / 2 := ⟨_, rfl⟩
      have qh : ((i : Int) + (j : Int)) / 2 = (h : Int) := by omega
      have hh1 : i ≤ h := by omega
      have hh2 : h < j := by omega
      clear hh
      cases hlv : (ltOf cf) d[m]! d[h]! with
      | true =>
        go_wp2_with fail
        obtain ⟨iN1, hiN1⟩ : ∃ q, q = m := ⟨_, rfl⟩
        obtain ⟨jN1, hjN1⟩ : ∃ q, q = h := ⟨_, rfl⟩
        have ea1 : ((m : Int)).toNat = iN1 := by omega
        have pa1 : (0 : Int) ≤ (m : Int) := by omega
        have ba1 : (m : Int) < (d0.size : Int) := by omega
        have ra1 : IntKind.i64.wrap ((m : Int)) = (m : Int) := by rw [IntKind.wrap_i64]; omega
        have ec1 : ((h : Int)).toNat = jN1 := by omega
        have pc1 : (0 : Int) ≤ (h : Int) := by omega
        have bc1 : (h : Int) < (d0.size : Int) := by omega
        have rc1 : IntKind.i64.wrap ((h : Int)) = (h : Int) := by rw [IntKind.wrap_i64]; omega
        obtain ⟨x1, hx1⟩ : ∃ x, x = d[m]! := ⟨_, rfl⟩
        obtain ⟨y1, hy1⟩ : ∃ x, x = d[h]! := ⟨_, rfl⟩
        have l1a := S1.out.cl R (by omega) (m) (by omega)
        have l1b := S1.out.cl R (by omega) (h) (by omega)
        rw [← hx1, ← hiN1] at l1a
        rw [← hy1, ← hjN1] at l1b
        have hc1 := S1.out.cmp HC.out (by omega) x1 y1
        have hv1 : cf x1 y1 < 0 := by rw [hx1, hy1]; exact of_decide_eq_true hlv
        have hd1 : decide (cf x1 y1 < 0) = true := decide_eq_true hv1
        clear hx1 hy1 hiN1 hjN1
        go_wp2_with fail
        go_quiet_grown (first | (go_at_fn g; refine Calls.grown_of (hc1 _ _)))
        have S2 : Aside (SW enc w0 blk off d (grow (wr.drewN nq) osq)) := S1.out.grown nq osq
        clear l1a l1b hc1 S1
        generalize grow (wr.drewN nq) osq = w2 at S2 ⊢
        clear nq osq
        clear ea1 ec1
        go_wp2
        go_roundg (h - i)
        case measure => omega
        case rel => exact ⟨i, h, rfl, by go_num, by omega, by omega, by omega, Nat.le_refl _, S2, HF.out.yes HS.out HR.out hh1 hh2 hlv⟩
      | false =>
        go_wp2_with fail
        obtain ⟨iN2, hiN2⟩ : ∃ q, q = m := ⟨_, rfl⟩
        obtain ⟨jN2, hjN2⟩ : ∃ q, q = h := ⟨_, rfl⟩
        have ea2 : ((m : Int)).toNat = iN2 := by omega
        have pa2 : (0 : Int) ≤ (m : Int) := by omega
        have ba2 : (m : Int) < (d0.size : Int) := by omega
        have ra2 : IntKind.i64.wrap ((m : Int)) = (m : Int) := by rw [IntKind.wrap_i64]; omega
        have ec2 : ((h : Int)).toNat = jN2 := by omega
        have pc2 : (0 : Int) ≤ (h : Int) := by omega
        have bc2 : (h : Int) < (d0.size : Int) := by omega
        have rc2 : IntKind.i64.wrap ((h : Int)) = (h : Int) := by rw [IntKind.wrap_i64]; omega
        obtain ⟨x2, hx2⟩ : ∃ x, x = d[m]! := ⟨_, rfl⟩
        obtain ⟨y2, hy2⟩ : ∃ x, x = d[h]! := ⟨_, rfl⟩
        have l2a := S1.out.cl R (by omega) (m) (by omega)
        have l2b := S1.out.cl R (by omega) (h) (by omega)
        rw [← hx2, ← hiN2] at l2a
        rw [← hy2, ← hjN2] at l2b
        have hc2 := S1.out.cmp HC.out (by omega) x2 y2
        have hv2 : ¬ cf x2 y2 < 0 := by rw [hx2, hy2]; exact of_decide_eq_false hlv
        have hd2 : decide (cf x2 y2 < 0) = false := decide_eq_false hv2
        clear hx2 hy2 hiN2 hjN2
        go_wp2_with fail
        go_quiet_grown (first | (go_at_fn g; refine Calls.grown_of (hc2 _ _)))
        have S2 : Aside (SW enc w0 blk off d (grow (wr.drewN nq) osq)) := S1.out.grown nq osq
        clear l2a l2b hc2 S1
        generalize grow (wr.drewN nq) osq = w2 at S2 ⊢
        clear nq osq
        clear ea2 ec2
        go_wp2
        go_roundg (j - (h + 1))
        case measure => omega
        case rel => exact ⟨h + 1, j, by go_num, rfl, by omega, by omega, by omega, Nat.le_refl _, S2, HF.out.no HS.out HR.out hh1 hh2 hlv⟩
    · have hji : j = i := by omega
      subst hji
      have hltz : ¬ (j : Int) < (j : Int) := by omega
      go_wp2
      obtain ⟨wo, rfl⟩ : ∃ wo : World, wo = wr := ⟨_, rfl⟩
      go_loopg [17] (m - j) (fun gg vk wr => ∃ (k : Nat) (dk : Array α), vk = .int .i64 k ∧ k ≤ m ∧ j ≤ k ∧ k ≤ j + gg ∧ dk.size = d0.size ∧ Hid (PermIn a b d dk) ∧ Aside (SW enc w0 blk off dk wr) ∧ Hid (MovedDown d m k dk))
      case atStart => exact ⟨m, d, rfl, by omega, by omega, by omega, hs, permIn_refl d a b, S1, MovedDown.start d m⟩
      case round =>
        clear S1
        obtain ⟨k, dk, rfl, hak, hjk, hg2, hsk, HP, S1, HM⟩ := hrel
        by_cases hkj : j < k
        · obtain ⟨kq, hq⟩ : ∃ kq, k = kq + 1 := ⟨k - 1, by omega⟩
          have hq1 : kq < k := by omega
          have hq2 : k ≤ kq + 1 := by omega
          clear hq
          have hkz : (j : Int) < (k : Int) := by omega
          have zq : IntKind.i64.wrap ((k : Int) - 1) = (kq : Int) := by rw [IntKind.wrap_i64]; omega
          go_wp2_with fail
          obtain ⟨iN3, hiN3⟩ : ∃ q, q = k := ⟨_, rfl⟩
          obtain ⟨jN3, hjN3⟩ : ∃ q, q = kq := ⟨_, rfl⟩
          have ea3 : ((k : Int)).toNat = iN3 := by omega
          have pa3 : (0 : Int) ≤ (k : Int) := by omega
          have ba3 : (k : Int) < (d0.size : Int) := by omega
          have ra3 : IntKind.i64.wrap ((k : Int)) = (k : Int) := by rw [IntKind.wrap_i64]; omega
          have ec3 : ((kq : Int)).toNat = jN3 := by omega
          have pc3 : (0 : Int) ≤ (kq : Int) := by omega
          have bc3 : (kq : Int) < (d0.size : Int) := by omega
          have rc3 : IntKind.i64.wrap ((kq : Int)) = (kq : Int) := by rw [IntKind.wrap_i64]; omega
          obtain ⟨x3, hx3⟩ : ∃ x, x = dk[k]! := ⟨_, rfl⟩
          obtain ⟨y3, hy3⟩ : ∃ x, x = dk[kq]! := ⟨_, rfl⟩
          have S3 : Aside (SW enc w0 blk off (swp dk (k) (kq)) ((wr.setCell ⟨blk, off + iN3, none⟩ (enc y3)).setCell ⟨blk, off + jN3, none⟩ (enc x3)).drew) := by rw [hiN3, hjN3, hx3, hy3]; exact S1.out.swapped R (k) (kq) (by omega) (by omega)
          have c3a := S1.out.c1 R (by omega) (k) (by omega)
          have c3b := S1.out.c1 R (by omega) (kq) (by omega)
          have f3a := S1.out.f1 R (by omega) (k) (by omega)
          have f3b := S1.out.f1 R (by omega) (kq) (by omega)
          obtain ⟨u3, c3c⟩ := S1.out.c2 R (by omega) (k) (kq) (by omega) (by omega) (enc y3)
          rw [← hjN3, ← hiN3] at c3c
          rw [← hx3, ← hiN3] at c3a
          rw [← hy3, ← hjN3] at c3b
          rw [← hiN3] at f3a
          rw [← hjN3] at f3b
          clear S1 hx3 hy3 hiN3 hjN3
          go_wp2_with fail
          go_big_region
          clear c3a c3b c3c f3a f3b
          generalize ((wr.setCell ⟨blk, off + iN3, none⟩ (enc y3)).setCell ⟨blk, off + jN3, none⟩ (enc x3)).drew = w3 at S3 ⊢
          clear ea3 ec3
          go_wp2
          go_roundg (kq - j)
          case measure => omega
          case rel =>
            obtain rfl : k = kq + 1 := by omega
            exact ⟨kq, swp dk (kq + 1) kq, by first | rfl | go_num, by omega, by omega, by omega, by rw [size_swp]; exact hsk, permIn_trans _ _ _ a b HP.out (swp_permIn _ a b (kq + 1) kq (by omega) (by omega) (by omega) (by omega) (by omega)), S3, HM.out.step (by omega) (by omega)⟩
        · have hkz : ¬ (j : Int) < (k : Int) := by omega
          go_wp2
          have : k = j := by omega
          subst this
          obtain rfl : b = m + 1 := by omega
          exact bodyPost_ret (v := .tuple #[]) (by simp [results, Tryz.results242, go_sem]) rfl ⟨rfl, dk, HP.out, HF.out.sorted HS.out HR.out HM.out, S1.out⟩
end Go.Proofs.YthjifmfmaiagoaaGreatDoor

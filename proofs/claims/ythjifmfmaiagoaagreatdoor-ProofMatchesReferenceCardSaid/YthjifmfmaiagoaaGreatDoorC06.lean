/- C06: texts H16 H17 H18 M5 M7 M8 M11 M12 M13. -/
import Derived.Test.YthjifmfmaiagoaaGreatDoorC01
import Derived.Test.YthjifmfmaiagoaaGreatDoorC03
import Derived.Test.YthjifmfmaiagoaaGreatDoorC05
set_option linter.all false

/- The stable sort, whole. -/
namespace Go.Proofs.YthjifmfmaiagoaaGreatDoor
open Go.Shelf Go.RowKit Go.Lib Go.Sort
attribute [local go_sem] Oper.semAt_some
section
variable {β : Type} [Inhabited β] {lt : β → β → Bool}

theorem Blocks.low {bs q n : Nat} {d d' : Array β} (h : Blocks lt bs 0 (q * bs) n d) (he : ∀ k, k < q * bs → d'[k]! = d[k]!) : Blocks lt bs 0 (q * bs) n d' := by
  intro k h1 h2
  refine SortedIn.same (h k h1 h2) fun i k1 k2 => he i ?_
  have hkq : k < q := Nat.lt_of_mul_lt_mul_right h2
  have h3 : (k + 1) * bs ≤ q * bs := Nat.mul_le_mul_right bs hkq
  rw [Nat.add_mul, Nat.one_mul] at h3
  omega
theorem Blocks.up {bs lo lo' hi n : Nat} {d d' : Array β} (h : Blocks lt bs lo hi n d) (hl : lo ≤ lo') (he : ∀ k, lo' ≤ k → d'[k]! = d[k]!) : Blocks lt bs lo' hi n d' :=
  fun k h1 h2 => SortedIn.same (h k (by omega) h2) fun i k1 _ => he i (by omega)
/-- Between two merges: blocks of the double length on the left, of the single one on the right. -/
structure Half (lt : β → β → Bool) (bs n a : Nat) (d : Array β) : Prop where
  at_ : ∃ q, a = q * (2 * bs)
  low : Blocks lt (2 * bs) 0 a n d
  up : Blocks lt bs a n n d
theorem Half.start {bs n : Nat} {d : Array β} (h : Blocks lt bs 0 n n d) : Half lt bs n 0 d := ⟨⟨0, by simp⟩, fun k _ h2 => absurd h2 (by omega), h⟩
theorem Half.first {bs n a : Nat} {d : Array β} (h : Half lt bs n a d) (ha : a < n) : SortedIn lt a (min (a + bs) n) d := by
  obtain ⟨q, hq⟩ := h.at_
  have e : 2 * q * bs = a := by rw [hq, Nat.mul_comm 2 q, Nat.mul_assoc]
  have := h.up (2 * q) (by omega) (by omega)
  rwa [e] at this
theorem Half.second {bs n a : Nat} {d : Array β} (h : Half lt bs n a d) (ha : a + bs < n) : SortedIn lt (a + bs) (min (a + bs + bs) n) d := by
  obtain ⟨q, hq⟩ := h.at_
  have e : (2 * q + 1) * bs = a + bs := by rw [hq, Nat.add_mul, Nat.one_mul, Nat.mul_comm 2 q, Nat.mul_assoc]
  have := h.up (2 * q + 1) (by omega) (by omega)
  rwa [e] at this
theorem Half.snoc {bs n a e : Nat} {d d' : Array β} (h : Half lt bs n a d) (hbs : 0 < bs) (he : e = min (a + 2 * bs) n) (hp : PermIn a e d d') (hs : SortedIn lt a e d') : Blocks lt (2 * bs) 0 (a + 2 * bs) n d' := by
  obtain ⟨q, hq⟩ := h.at_
  have e1 : a + 2 * bs = (q + 1) * (2 * bs) := by rw [hq, Nat.add_mul, Nat.one_mul]
  rw [e1]
  refine Blocks.snoc (Blocks.low ?_ fun k hk => hp.2.1 k (by omega)) ?_ (by omega)
  · have := h.low
    rwa [hq] at this
  · rw [← hq, ← he]
    exact hs
theorem Half.step {bs n a : Nat} {d d' : Array β} (h : Half lt bs n a d) (hbs : 0 < bs) (ha : a + 2 * bs ≤ n) (hp : PermIn a (a + 2 * bs) d d') (hs : SortedIn lt a (a + 2 * bs) d') : Half lt bs n (a + 2 * bs) d' := by
  have h2 := h.snoc hbs (show a + 2 * bs = min (a + 2 * bs) n by omega) hp hs
  obtain ⟨q, hq⟩ := h.at_
  exact ⟨⟨q + 1, by rw [hq, Nat.add_mul, Nat.one_mul]⟩, h2, h.up.up (by omega) fun k hk => hp.2.1 k (by omega)⟩
theorem Blocks.all {bs hi n : Nat} {d : Array β} (h : Blocks lt bs 0 hi n d) (hn : n ≤ hi) : Blocks lt bs 0 n n d := fun k h1 h2 => h k h1 (by omega)
theorem Half.last {bs n a : Nat} {d d' : Array β} (h : Half lt bs n a d) (hbs : 0 < bs) (ha : n < a + 2 * bs) (hp : PermIn a n d d') (hs : SortedIn lt a n d') : Blocks lt (2 * bs) 0 n n d' :=
  (h.snoc hbs (show n = min (a + 2 * bs) n by omega) hp hs).all (by omega)
theorem Half.none {bs n a : Nat} {d : Array β} (h : Half lt bs n a d) (hbs : 0 < bs) (han : a ≤ n) (ha : n ≤ a + bs) : Blocks lt (2 * bs) 0 n n d := by
  refine h.last hbs (by omega) (permIn_refl _ _ _) ?_
  by_cases c : a < n
  · have := h.first c
    rwa [show min (a + bs) n = n by omega] at this
  · intro i j _ _ _
    omega
theorem Blocks.done {bs n : Nat} {d : Array β} (h : Blocks lt bs 0 n n d) (hn : n ≤ bs) : SortedIn lt 0 n d := by
  by_cases c : 0 < n
  · have := h 0 (Nat.zero_le _) (by omega)
    simp only [Nat.zero_mul, Nat.zero_add] at this
    rwa [show min bs n = n by omega] at this
  · intro i j _ _ _
    omega
end

set_option maxHeartbeats 8000000 in
set_option maxRecDepth 1000000 in
theorem f223_any {α : Type} [Inhabited α] (enc : α → Value) (cf : α → α → Int) (g : Nat) (cb : Array Value) (blk off cap : Nat) (d0 : Array α) (w0 : World) (eg : ∀ args w, (callFunc g args).run Tryz.prog w = .ok (.enter g args) w) (hcmp : CmpLays1 Tryz.prog g cb enc cf blk off d0.size w0) (R : Row1 enc w0 blk off d0) (hsz : d0.size < 1000000000) (hS : SWO (ltOf cf)) (d : Array α) (w : World) (hs : d.size = d0.size) (S : SW enc w0 blk off d w) :
    Calls Tryz.prog 223 #[.slice (some ⟨blk, off, none⟩) d0.size cap, .int .i64 d0.size, .func (.func g) #[] cb] w fun e w' => e = .returned (.tuple #[]) ∧ ∃ d', PermIn 0 d0.size d d' ∧ SortedIn (ltOf cf) 0 d0.size d' ∧ SW enc w0 blk off d' w' := by
  have HI : Hid (∀ (a b : Nat) (c : Array α) (W : World), c.size = d0.size → SW enc w0 blk off c W → a ≤ b → b ≤ d0.size →
      Calls Tryz.prog 241 #[.slice (some ⟨blk, off, none⟩) d0.size cap, .int .i64 a, .int .i64 b, .func (.func g) #[] cb] W fun e w' => e = .returned (.tuple #[]) ∧ ∃ d', PermIn a b c d' ∧ SortedIn (ltOf cf) a b d' ∧ SW enc w0 blk off d' w') := fun a b c W k s k1 k2 => by
    have h := Tryz.insertionSortCmpFunc_s enc cf g cb blk off cap a b d0 c w0 W eg hcmp R k.symm s k1 (by omega) (by omega)
    rw [k] at h
    refine h.mono ?_
    rintro e w' ⟨rfl, hw⟩
    obtain ⟨h1, h2⟩ := insertionSort_holds hS c a b k1 (by omega)
    exact ⟨rfl, _, h1, h2, hw⟩
  have HM : Hid (∀ (a m b : Nat) (c : Array α) (W : World), c.size = d0.size → SW enc w0 blk off c W → a < m → m < b → b ≤ d0.size → SortedIn (ltOf cf) a m c → SortedIn (ltOf cf) m b c →
      Calls Tryz.prog 242 #[.slice (some ⟨blk, off, none⟩) d0.size cap, .int .i64 a, .int .i64 m, .int .i64 b, .func (.func g) #[] cb] W fun e w' => e = .returned (.tuple #[]) ∧ ∃ d', PermIn a b c d' ∧ SortedIn (ltOf cf) a b d' ∧ SW enc w0 blk off d' w') := fun a m b c W k s k1 k2 k3 k4 k5 =>
    f242_any enc cf g cb blk off cap d0 w0 eg hcmp R (by omega) hS (b - a + 1) a m b c W (by omega) k s k1 k2 (by omega) k4 k5
  have S0 : Aside (SW enc w0 blk off d w) := S
  obtain ⟨n, hn⟩ : ∃ n, n = d0.size := ⟨_, rfl⟩
  rw [← hn] at HI HM hsz ⊢
  have HN := hid hn
  have HD := hid (hs.trans hn.symm)
  clear S hcmp R eg hn hs hS
  go_enter Tryz.func223, Tryz.ntmps223
  go_wp2
  go_loopg [7, 8] n (fun gg va vb wr => ∃ (a : Nat) (c : Array α), va = .int .i64 a ∧ vb = .int .i64 ((a : Int) + 20) ∧ a ≤ n ∧ n - a ≤ gg ∧ Hid (c.size = n) ∧ Hid (PermIn 0 n d c) ∧ Aside (SW enc w0 blk off c wr) ∧ Hid ((∃ q, a = q * 20) ∧ Blocks (ltOf cf) 20 0 a n c))
  case atStart => exact ⟨0, d, rfl, rfl, by omega, by omega, HD.out, permIn_refl _ _ _, S0, ⟨⟨0, rfl⟩, fun k _ h2 => absurd h2 (by omega)⟩⟩
  case round =>
    clear S0 HD
    obtain ⟨a, c, rfl, rfl, han, hg, HZ, HP, S1, HB⟩ := hrel
    by_cases hlt : a + 20 ≤ n
    · have hltz : (a : Int) + 20 ≤ (n : Int) := by omega
      have z20 : ((a + 20 : Nat) : Int) = (a : Int) + 20 := by omega
      have K := HI.out a (a + 20) c wr HZ.out S1.out (by omega) hlt
      rw [z20] at K
      have K := hid K
      clear z20
      go_wp2_with (go_at_call 241; with_reducible refine K.out.mono ?_; rintro e w' ⟨rfl, c2, hp, hq, hw⟩; have HC2 := hid (And.intro hp (And.intro hq hw)); clear hp hq hw)
      go_roundg (n - (a + 20))
      case measure => omega
      case rel =>
        obtain ⟨hp, hq, hw⟩ := HC2.out
        obtain ⟨⟨q, hqa⟩, hb⟩ := HB.out
        refine ⟨a + 20, c2, by first | rfl | go_num, by first | rfl | go_num, hlt, Nat.le_refl _, hp.1.trans HZ.out, permIn_trans _ _ _ 0 n HP.out (permIn_mono _ _ a (a + 20) 0 n (by omega) (by omega) (by rw [HZ.out]; exact Nat.le_refl _) hp), hw, ⟨⟨q + 1, by omega⟩, ?_⟩⟩
        have e1 : a + 20 = (q + 1) * 20 := by omega
        rw [e1]
        refine Blocks.snoc (Blocks.low (by rw [← hqa]; exact hb) fun k hk => hp.2.1 k (by omega)) ?_ (by omega)
        rw [← hqa, show min (a + 20) n = a + 20 by omega]
        exact hq
    · have hltz : ¬ (a : Int) + 20 ≤ (n : Int) := by omega
      have K := hid (HI.out a n c wr HZ.out S1.out han (Nat.le_refl n))
      go_wp2_with (go_at_call 241; with_reducible refine K.out.mono ?_; rintro e w' ⟨rfl, c2, hp, hq, hw⟩; have HC2 := hid (And.intro hp (And.intro hq hw)); clear hp hq hw)
      have HB2 : Hid (c2.size = n ∧ PermIn 0 n d c2 ∧ SW enc w0 blk off c2 w' ∧ Blocks (ltOf cf) 20 0 n n c2) := by
        obtain ⟨hp, hq, hw⟩ := HC2.out
        obtain ⟨⟨q, hqa⟩, hb⟩ := HB.out
        refine ⟨hp.1.trans HZ.out, permIn_trans _ _ _ 0 n HP.out (permIn_mono _ _ a n 0 n (by omega) (by omega) (by rw [HZ.out]; exact Nat.le_refl _) hp), hw, Blocks.all (hi := (q + 1) * 20) ?_ (by omega)⟩
        refine Blocks.snoc (Blocks.low (by rw [← hqa]; exact hb) fun k hk => hp.2.1 k (by omega)) ?_ (by omega)
        rw [← hqa, show min (a + 20) n = n by omega]
        exact hq
      clear HC2 HB K HI HP S1 HZ
      obtain ⟨wo, hwo⟩ : ∃ wo : World, wo = w' := ⟨_, rfl⟩
      subst hwo
      go_loopg [6, 7, 8, 9] n (fun gg vbs _ _ _ wr => ∃ (bs : Nat) (c : Array α), vbs = .int .i64 bs ∧ 20 ≤ bs ∧ bs ≤ 2000000000 ∧ n - bs ≤ gg ∧ Hid (c.size = n ∧ PermIn 0 n d c ∧ SW enc w0 blk off c wr ∧ Blocks (ltOf cf) bs 0 n n c))
      case atStart => exact ⟨20, c2, rfl, by omega, by omega, by omega, HB2⟩
      case round =>
        clear HB2
        obtain ⟨bs, c, rfl, hb1, hb2, hg3, HB⟩ := hrel
        by_cases hbn : bs < n
        · have hbz : (bs : Int) < (n : Int) := by omega
          go_wp2
          obtain ⟨wo, hwo⟩ : ∃ wo : World, wo = wr := ⟨_, rfl⟩
          subst hwo
          go_loopg [7, 8] n (fun gg va vb wr => ∃ (a : Nat) (c : Array α), va = .int .i64 a ∧ vb = .int .i64 ((a : Int) + 2 * (bs : Int)) ∧ a ≤ n ∧ n - a ≤ gg ∧ Hid (c.size = n ∧ PermIn 0 n d c ∧ SW enc w0 blk off c wr ∧ Half (ltOf cf) bs n a c))
          case atStart => exact ⟨0, c, rfl, by first | rfl | go_num, by omega, by omega, ⟨HB.out.1, HB.out.2.1, HB.out.2.2.1, Half.start HB.out.2.2.2⟩⟩
          case round =>
            clear HB
            obtain ⟨a, c, rfl, rfl, han, hg4, HB⟩ := hrel
            have qa1 : IntKind.i64.wrap ((a : Int) + (bs : Int)) = (a : Int) + (bs : Int) := by rw [IntKind.wrap_i64]; omega
            by_cases hab : a + 2 * bs ≤ n
            · have habz : (a : Int) + 2 * (bs : Int) ≤ (n : Int) := by omega
              have z1 : ((a + bs : Nat) : Int) = (a : Int) + (bs : Int) := by omega
              have z2 : ((a + 2 * bs : Nat) : Int) = (a : Int) + 2 * (bs : Int) := by omega
              have K := HM.out a (a + bs) (a + 2 * bs) c wr HB.out.1 HB.out.2.2.1 (by omega) (by omega) hab (by
                have h := HB.out.2.2.2.first (by omega)
                rwa [show min (a + bs) n = a + bs by omega] at h) (by
                have h := HB.out.2.2.2.second (by omega)
                rwa [show min (a + bs + bs) n = a + 2 * bs by omega] at h)
              rw [z1, z2] at K
              have K := hid K
              clear z1 z2
              go_wp2_with (go_at_call 242; with_reducible refine K.out.mono ?_; rintro e w' ⟨rfl, c3, hp, hq, hw⟩; have HC2 := hid (And.intro hp (And.intro hq hw)); clear hp hq hw)
              go_roundg (n - (a + 2 * bs))
              case measure => omega
              case rel =>
                obtain ⟨hp, hq, hw⟩ := HC2.out
                obtain ⟨b1, b2, b3, b4⟩ := HB.out
                exact ⟨a + 2 * bs, c3, by first | rfl | go_num, by first | rfl | go_num, hab, Nat.le_refl _, ⟨hp.1.trans b1, permIn_trans _ _ _ 0 n b2 (permIn_mono _ _ a (a + 2 * bs) 0 n (by omega) (by omega) (by rw [b1]; exact Nat.le_refl _) hp), hw, b4.step (by omega) hab hp hq⟩⟩
            · have habz : ¬ (a : Int) + 2 * (bs : Int) ≤ (n : Int) := by omega
              by_cases hmn : a + bs < n
              · have hmz : (a : Int) + (bs : Int) < (n : Int) := by omega
                have z1 : ((a + bs : Nat) : Int) = (a : Int) + (bs : Int) := by omega
                have K := HM.out a (a + bs) n c wr HB.out.1 HB.out.2.2.1 (by omega) (by omega) (Nat.le_refl n) (by
                  have h := HB.out.2.2.2.first (by omega)
                  rwa [show min (a + bs) n = a + bs by omega] at h) (by
                  have h := HB.out.2.2.2.second (by omega)
                  rwa [show min (a + bs + bs) n = n by omega] at h)
                rw [z1] at K
                have K := hid K
                clear z1
                go_wp2_with (go_at_call 242; with_reducible refine K.out.mono ?_; rintro e w' ⟨rfl, c3, hp, hq, hw⟩; have HC2 := hid (And.intro hp (And.intro hq hw)); clear hp hq hw)
                go_roundg (n - bs * 2)
                case measure => omega
                case rel =>
                  obtain ⟨hp, hq, hw⟩ := HC2.out
                  obtain ⟨b1, b2, b3, b4⟩ := HB.out
                  refine ⟨bs * 2, c3, by first | rfl | go_num, by omega, by omega, Nat.le_refl _, ⟨hp.1.trans b1, permIn_trans _ _ _ 0 n b2 (permIn_mono _ _ a n 0 n (by omega) (by omega) (by rw [b1]; exact Nat.le_refl _) hp), hw, ?_⟩⟩
                  rw [Nat.mul_comm bs 2]
                  exact b4.last (by omega) (by omega) hp hq
              · have hmz : ¬ (a : Int) + (bs : Int) < (n : Int) := by omega
                go_wp2
                go_roundg (n - bs * 2)
                case measure => omega
                case rel =>
                  obtain ⟨b1, b2, b3, b4⟩ := HB.out
                  refine ⟨bs * 2, c, by first | rfl | go_num, by omega, by omega, Nat.le_refl _, ⟨b1, b2, b3, ?_⟩⟩
                  rw [Nat.mul_comm bs 2]
                  exact b4.none (by omega) han (by omega)
        · have hbz : ¬ (bs : Int) < (n : Int) := by omega
          go_wp2
          try go_end0
          obtain ⟨b1, b2, b3, b4⟩ := HB.out
          exact ⟨rfl, c, b2, b4.done (by omega), b3⟩

set_option maxHeartbeats 4000000 in
theorem f198_any {α : Type} [Inhabited α] (enc : α → Value) (cf : α → α → Int) (g : Nat) (cb : Array Value) (blk off cap : Nat) (d0 : Array α) (w0 : World) (eg : ∀ args w, (callFunc g args).run Tryz.prog w = .ok (.enter g args) w) (hcmp : CmpLays1 Tryz.prog g cb enc cf blk off d0.size w0) (R : Row1 enc w0 blk off d0) (hsz : d0.size < 1000000000) (hS : SWO (ltOf cf)) (d : Array α) (w : World) (hs : d.size = d0.size) (S : SW enc w0 blk off d w) :
    Calls Tryz.prog 198 #[.slice (some ⟨blk, off, none⟩) d0.size cap, .func (.func g) #[] cb] w fun e w' => e = .returned (.tuple #[]) ∧ ∃ d', PermIn 0 d0.size d d' ∧ SortedIn (ltOf cf) 0 d0.size d' ∧ SW enc w0 blk off d' w' := by
  have K := hid (f223_any enc cf g cb blk off cap d0 w0 eg hcmp R hsz hS d w hs S)
  clear hcmp R eg hS hs S
  go_enter Tryz.func198, Tryz.ntmps198
  go_wp2_with (go_at_call 223; with_reducible refine K.out.mono ?_; rintro e w' ⟨rfl, hw⟩)
  try go_end0
  exact ⟨rfl, hw⟩
end Go.Proofs.YthjifmfmaiagoaaGreatDoor

/- Rows of slices; the two orders by which they are sorted. -/
namespace Go.Proofs.YthjifmfmaiagoaaGreatDoor
open Go.Shelf Go.RowKit Go.Lib Go.Sort
attribute [local go_sem] Oper.semAt_some

abbrev Sl := Option Addr × Nat × Nat
def encS (x : Sl) : Value := .slice x.1 x.2.1 x.2.2

/-- A row of the call's own, read. -/
theorem own_any {α : Type} [Inhabited α] {enc : α → Value} {e : TypeId} {w : World} {base n : Nat} {v : Value} {l : List α} (h : w.ownsRow base e 1 v n (l.map enc)) (h0 : 0 < n) :
    ∃ g cap, v = .slice (some ⟨g, 0, none⟩) n cap ∧ base ≤ g ∧ g < w.heap.size ∧ l.length = n ∧ n ≤ cap ∧ cap ≤ 9223372036854775807 ∧ Holds enc w g 0 l.toArray := by
  obtain ⟨hl, h | ⟨g, cap, cur, rfl, hg, hh, hn, hm, hsz, ht⟩⟩ := h
  · omega
  · rw [List.length_map, Nat.mul_one] at hl
    rw [Nat.mul_one] at hsz ht
    have hgs : g < w.heap.size := (Array.getElem?_eq_some_iff.1 hh).1
    refine ⟨g, cap, rfl, hg, hgs, hl, hn, by simp only [maxLen] at hm; omega, fun j hj => ?_⟩
    simp only [List.size_toArray] at hj
    rw [Nat.zero_add]
    refine ⟨?_, by simp [World.frozen?, hh]⟩
    simp only [World.cell?, hh]
    have e1 : (cur.toList.take n)[j]? = cur[j]? := by
      rw [List.getElem?_take, if_pos (by omega)]
      simp
    show cur[j]? = _
    rw [← e1, ht, List.getElem?_map, List.getElem?_eq_getElem hj, getElem!_pos _ j (by simpa using hj)]
    simp

/-- A slice that reads as l, in a block other than blk. -/
structure Ent (w : World) (blk : Nat) where
  x : Sl
  l : List Int
  hr : RI w x.1 x.2.1 x.2.2 l
  hn : x.2.1 ≤ 1000
  hb : ∀ ad, x.1 = some ad → 0 < x.2.1 → ad.block ≠ blk
instance (w : World) (blk : Nat) : Inhabited (Ent w blk) := ⟨⟨(none, 0, 0), [], RI.nil w, by simp, fun _ h => by simp at h⟩⟩
def encE {w : World} {blk : Nat} (e : Ent w blk) : Value := encS e.x
theorem oneE {w : World} {blk : Nat} : OneCell (encE (w := w) (blk := blk)) := fun _ => rfl
theorem Ent.read {w : World} {blk : Nat} (e : Ent w blk) (enc : Ent w blk → Value) (off m : Nat) (dk : Array (Ent w blk)) (os : Array Obj) : RI (sortWorld enc w blk off m dk os) e.x.1 e.x.2.1 e.x.2.2 e.l :=
  ⟨e.hr.len, e.hr.cap, e.hr.big, fun i hi => by
    obtain ⟨ad, ha, hc⟩ := e.hr.cell i hi
    refine ⟨ad, ha, ?_⟩
    have hbl := World.block_lt_of_cell? w _ hc
    unfold sortWorld
    rw [cell?_grow _ _ _ (by rw [Go.Sort.size_putRow]; exact hbl), cell?_putRow_other _ _ _ _ _ _ (.inl (by rw [add_block]; exact e.hb ad ha (by omega)))]
    exact hc⟩

/-- The lengths' difference. -/
theorem f199_any (A B : Option Addr) (n c m d : Nat) (w : World) (hn : n ≤ 1000) (hm : m ≤ 1000) :
    Calls Tryz.prog 199 #[.slice A n c, .slice B m d] w fun e w' => e = .returned (.int .i64 ((n : Int) - (m : Int))) ∧ w = w' := by
  have q : IntKind.i64.wrap ((n : Int) - (m : Int)) = (n : Int) - (m : Int) := by rw [IntKind.wrap_i64]; omega
  go_enter Tryz.func199, Tryz.ntmps199
  go_wp2
  go_ret
  exact ⟨rfl, rfl⟩
theorem e199 : ∀ args w, (callFunc 199 args).run Tryz.prog w = .ok (.enter 199 args) w := enters_of Tryz.func199 (by kernel_rfl) rfl
theorem e203 : ∀ args w, (callFunc 203 args).run Tryz.prog w = .ok (.enter 203 args) w := enters_of Tryz.func203 (by kernel_rfl) rfl
def cfLen {w : World} {blk : Nat} (a b : Ent w blk) : Int := (a.x.2.1 : Int) - (b.x.2.1 : Int)
theorem swoLen {w : World} {blk : Nat} : SWO (ltOf (cfLen (w := w) (blk := blk))) where
  irrefl x := by unfold ltOf cfLen; rw [decide_eq_false_iff_not]; omega
  trans x y z h1 h2 := by unfold ltOf cfLen at *; rw [decide_eq_true_eq] at *; omega
  ntrans x y z h1 h2 := by unfold ltOf cfLen at *; rw [decide_eq_false_iff_not] at *; omega
theorem cmpLen {w : World} {blk : Nat} (off size : Nat) : CmpLays1 Tryz.prog 199 #[] (encE (w := w) (blk := blk)) cfLen blk off size w := fun m os dk _ x y =>
  (f199_any x.x.1 y.x.1 x.x.2.1 x.x.2.2 y.x.2.1 y.x.2.2 _ x.hn y.hn).mono fun e w' ⟨he, hw⟩ => ⟨he, 0, #[], by rw [← hw, grow_empty]; rfl⟩

/-- The order of lists. -/
def lexCmp : List Int → List Int → Int
  | [], [] => 0
  | [], _ :: _ => -1
  | _ :: _, [] => 1
  | x :: xs, y :: ys => if x < y then -1 else if y < x then 1 else lexCmp xs ys
theorem lex_self : ∀ l : List Int, lexCmp l l = 0
  | [] => rfl
  | x :: xs => by rw [lexCmp, if_neg (by omega), if_neg (by omega)]; exact lex_self xs
theorem lex_eq : ∀ (l k : List Int), lexCmp l k = 0 → l = k
  | [], [], _ => rfl
  | [], _ :: _, h => by simp [lexCmp] at h
  | _ :: _, [], h => by simp [lexCmp] at h
  | x :: xs, y :: ys, h => by
    rw [lexCmp] at h
    by_cases c1 : x < y
    · rw [if_pos c1] at h; omega
    · rw [if_neg c1] at h
      by_cases c2 : y < x
      · rw [if_pos c2] at h; omega
      · rw [if_neg c2] at h
        rw [lex_eq xs ys h, show x = y by omega]
theorem lex_anti : ∀ (l k : List Int), lexCmp l k = - lexCmp k l
  | [], [] => rfl
  | [], _ :: _ => rfl
  | _ :: _, [] => rfl
  | x :: xs, y :: ys => by
    rw [lexCmp, lexCmp]
    by_cases c1 : x < y
    · rw [if_pos c1, if_neg (by omega), if_pos c1]
    · rw [if_neg c1]
      by_cases c2 : y < x
      · rw [if_pos c2, if_pos c2]; omega
      · rw [if_neg c2, if_neg c2, if_neg c1]
        exact lex_anti xs ys
theorem lex_vals : ∀ (l k : List Int), lexCmp l k = 0 ∨ lexCmp l k = 1 ∨ lexCmp l k = -1
  | [], [] => .inl rfl
  | [], _ :: _ => .inr (.inr rfl)
  | _ :: _, [] => .inr (.inl rfl)
  | x :: xs, y :: ys => by
    rw [lexCmp]
    by_cases c1 : x < y
    · rw [if_pos c1]; exact .inr (.inr rfl)
    · rw [if_neg c1]
      by_cases c2 : y < x
      · rw [if_pos c2]; exact .inr (.inl rfl)
      · rw [if_neg c2]
        exact lex_vals xs ys
theorem lex_trans_lt : ∀ (a b c : List Int), lexCmp a b < 0 → lexCmp b c < 0 → lexCmp a c < 0
  | [], [], _, h, _ => by simp [lexCmp] at h
  | _ :: _, [], _, h, _ => by simp [lexCmp] at h
  | _, _ :: _, [], _, h => by simp [lexCmp] at h
  | [], _ :: _, _ :: _, _, _ => by simp [lexCmp]
  | x :: xs, y :: ys, z :: zs, h1, h2 => by
    rw [lexCmp] at h1 h2 ⊢
    by_cases c1 : x < y
    · by_cases c2 : y < z
      · rw [if_pos (by omega)]; omega
      · rw [if_neg c2] at h2
        by_cases c3 : z < y
        · rw [if_pos c3] at h2; omega
        · rw [if_pos (by omega)]; omega
    · rw [if_neg c1] at h1
      by_cases c2 : y < x
      · rw [if_pos c2] at h1; omega
      · rw [if_neg c2] at h1
        by_cases c3 : y < z
        · rw [if_pos (by omega)]; omega
        · rw [if_neg c3] at h2
          by_cases c4 : z < y
          · rw [if_pos c4] at h2; omega
          · rw [if_neg c4] at h2
            rw [if_neg (by omega), if_neg (by omega)]
            exact lex_trans_lt xs ys zs h1 h2
theorem lex_trans_nlt (a b c : List Int) (h1 : ¬ lexCmp a b < 0) (h2 : ¬ lexCmp b c < 0) : ¬ lexCmp a c < 0 := by
  intro h3
  rcases Int.lt_trichotomy (lexCmp a b) 0 with h | h | h
  · exact h1 h
  · rw [lex_eq a b h] at h3; exact h2 h3
  · have h4 : lexCmp b a < 0 := by rw [lex_anti]; omega
    exact h2 (lex_trans_lt b a c h4 h3)
def cfLex {w : World} {blk : Nat} (a b : Ent w blk) : Int := lexCmp a.l b.l
theorem swoLex {w : World} {blk : Nat} : SWO (ltOf (cfLex (w := w) (blk := blk))) where
  irrefl x := by unfold ltOf cfLex; rw [decide_eq_false_iff_not, lex_self]; omega
  trans x y z h1 h2 := by unfold ltOf cfLex at *; rw [decide_eq_true_eq] at *; exact lex_trans_lt _ _ _ h1 h2
  ntrans x y z h1 h2 := by unfold ltOf cfLex at *; rw [decide_eq_false_iff_not] at *; exact lex_trans_nlt _ _ _ h1 h2

def cmp3 (x y : Int) : Int := if x < y then -1 else if y < x then 1 else 0
theorem f229_any (x y : Int) (w : World) : Calls Tryz.prog 229 #[.int .i64 x, .int .i64 y] w fun e w' => e = .returned (.int .i64 (cmp3 x y)) ∧ w = w' := by
  unfold cmp3
  go_enter Tryz.func229, Tryz.ntmps229
  go_wp2_with (go_at_call 217; refine (f217_any _ _).mono ?_; rintro e w' ⟨rfl, rfl⟩)
  all_goals (go_ret; first | exact ⟨by simp [*], rfl⟩ | exact ⟨by rw [if_neg (by omega)]; simp [*], rfl⟩ | exact ⟨by rw [if_neg (by omega), if_neg (by omega)], rfl⟩)
theorem lex_drop {l k : List Int} {i : Nat} (h1 : i < l.length) (h2 : i < k.length) : lexCmp (l.drop i) (k.drop i) = if cmp3 (nth l i) (nth k i) = 0 then lexCmp (l.drop (i + 1)) (k.drop (i + 1)) else cmp3 (nth l i) (nth k i) := by
  rw [List.drop_eq_getElem_cons h1, List.drop_eq_getElem_cons h2, lexCmp, nth_eq h1, nth_eq h2]
  unfold cmp3
  by_cases c1 : l[i] < k[i]
  · simp [c1]
  · by_cases c2 : k[i] < l[i]
    · simp [c1, c2]
    · simp [c1, c2]
set_option maxHeartbeats 1000000 in
theorem f203_any (A B : Option Addr) (n c m d : Nat) (l k : List Int) (w : World) (hr : RI w A n c l) (hs : RI w B m d k) :
    Calls Tryz.prog 203 #[.slice A n c, .slice B m d] w fun e w' => e = .returned (.int .i64 (lexCmp l k)) ∧ w = w' := by
  have hn := hr.lenle
  have hm := hs.lenle
  have hl := hid hr.len
  have hk := hid hs.len
  have cl := hr.cell
  have ck := hs.cell
  clear hr hs
  go_enter Tryz.func203, Tryz.ntmps203
  go_wp2
  go_loopg [5, 6, 7, 8, 11] n (fun gg _ _ _ _ v11 wr => ∃ kk : Nat, kk ≤ n ∧ kk ≤ m ∧ n - kk ≤ gg ∧ v11 = .int .i64 kk ∧ wr = w ∧ Hid (lexCmp l k = lexCmp (l.drop kk) (k.drop kk)))
  case atStart => exact ⟨0, by omega, by omega, by omega, by go_num, rfl, rfl⟩
  case round =>
    obtain ⟨kk, hkn, hkm, hg, rfl, rfl, HX⟩ := hrel
    by_cases hlt : kk < n
    · have hltz : (kk : Int) < (n : Int) := by omega
      obtain ⟨ad, rfl, cc⟩ := cl kk hlt
      by_cases hmm : kk < m
      · have hmz : (kk : Int) < (m : Int) := by omega
        obtain ⟨bd, rfl, cd⟩ := ck kk hmm
        have HD := hid (lex_drop (l := l) (k := k) (i := kk) (by rw [hl.out]; exact hlt) (by rw [hk.out]; exact hmm))
        clear cl ck
        generalize nth l kk = x at cc HD
        generalize nth k kk = y at cd HD
        have h229 := hid (f229_any x y)
        by_cases hz : cmp3 x y = 0
        · go_wp2_with (go_at_call 229; refine (h229.out _).mono ?_; rintro e w' ⟨rfl, rfl⟩)
          go_roundg (n - (kk + 1))
          case measure => omega
          case rel => exact ⟨kk + 1, by omega, by omega, by omega, by go_num, rfl, by show _ = _; rw [HX.out, HD.out, if_pos hz]⟩
        · have hq : lexCmp l k = cmp3 x y := by rw [HX.out, HD.out, if_neg hz]
          have HQ := hid hq
          clear hq HX HD
          go_wp2_with (go_at_call 229; refine (h229.out _).mono ?_; rintro e w' ⟨rfl, rfl⟩)
          exact bodyPost_ret (v := .int .i64 (cmp3 x y)) (by simp [results, Tryz.results203, go_sem]) rfl ⟨by rw [HQ.out], rfl⟩
      · have hmz : ¬ (kk : Int) < (m : Int) := by omega
        have hq : lexCmp l k = 1 := by
          rw [HX.out, (List.drop_eq_nil_of_le (by rw [hk.out]; omega) : k.drop kk = []), List.drop_eq_getElem_cons (by rw [hl.out]; exact hlt)]
          rfl
        have HQ := hid hq
        clear hq HX cl ck
        go_wp2
        exact bodyPost_ret (v := .int .i64 1) (by simp [results, Tryz.results203, go_sem]) rfl ⟨by rw [HQ.out], rfl⟩
    · have hkn' : kk = n := by omega
      subst hkn'
      have hltz : ¬ (kk : Int) < (kk : Int) := by omega
      by_cases hmm : kk < m
      · have hmz : (kk : Int) < (m : Int) := by omega
        have hq : lexCmp l k = -1 := by
          rw [HX.out, (List.drop_eq_nil_of_le (by rw [hl.out]; omega) : l.drop kk = []), List.drop_eq_getElem_cons (by rw [hk.out]; exact hmm)]
          rfl
        have HQ := hid hq
        clear hq HX cl ck
        go_wp2
        exact bodyPost_ret (v := .int .i64 (-1)) (by simp [results, Tryz.results203, go_sem]) rfl ⟨by rw [HQ.out], rfl⟩
      · have hmz : ¬ (kk : Int) < (m : Int) := by omega
        have hq : lexCmp l k = 0 := by
          rw [HX.out, (List.drop_eq_nil_of_le (by rw [hl.out]; omega) : l.drop kk = []), (List.drop_eq_nil_of_le (by rw [hk.out]; omega) : k.drop kk = [])]
          rfl
        have HQ := hid hq
        clear hq HX cl ck
        go_wp2
        exact bodyPost_ret (v := .int .i64 0) (by simp [results, Tryz.results203, go_sem]) rfl ⟨by rw [HQ.out], rfl⟩
theorem cmpLex {w : World} {blk : Nat} (off size : Nat) : CmpLays1 Tryz.prog 203 #[] (encE (w := w) (blk := blk)) cfLex blk off size w := fun m os dk _ x y =>
  (f203_any x.x.1 y.x.1 x.x.2.1 x.x.2.2 y.x.2.1 y.x.2.2 x.l y.l _ (x.read _ _ _ _ _) (y.read _ _ _ _ _)).mono fun e w' ⟨he, hw⟩ => ⟨he, 0, #[], by rw [← hw, grow_empty]; rfl⟩
end Go.Proofs.YthjifmfmaiagoaaGreatDoor

/- hyper.Minimal's plain law, and what a valid graph is. -/
namespace Go.Proofs.YthjifmfmaiagoaaGreatDoor
open Go.Shelf Go.RowKit Go.Lib Go.Sort
attribute [local go_sem] Oper.semAt_some

def keepMin (acc : List (List Int)) : List (List Int) → List (List Int)
  | [] => acc
  | e :: es => keepMin (if acc.any (subB e) then acc else acc ++ [e]) es
theorem keepMin_snoc (acc : List (List Int)) : ∀ (es : List (List Int)) (e : List Int), keepMin acc (es ++ [e]) = if (keepMin acc es).any (subB e) then keepMin acc es else keepMin acc es ++ [e]
  | [], e => rfl
  | x :: xs, e => by rw [List.cons_append, keepMin, keepMin, keepMin_snoc _ xs e]
theorem keepMin_sub : ∀ (es acc : List (List Int)), ∀ x ∈ keepMin acc es, x ∈ acc ∨ x ∈ es
  | [], _, _, h => .inl h
  | e :: es, acc, x, h => by
    rw [keepMin] at h
    rcases keepMin_sub es _ x h with h | h
    · split at h
      · exact .inl h
      · rcases List.mem_append.1 h with h | h
        · exact .inl h
        · exact .inr (by rw [List.mem_singleton.1 h]; exact List.mem_cons_self ..)
    · exact .inr (List.mem_cons_of_mem _ h)
theorem subB_iff {a b : List Int} : subB a b = true ↔ ∀ x ∈ b, x ∈ a := by
  unfold subB
  exact decide_eq_true_iff
theorem subB_self (a : List Int) : subB a a = true := subB_iff.2 fun _ h => h
/-- No one is a part of the other. -/
def Apart (a b : List Int) : Prop := subB a b = false ∧ subB b a = false
theorem Apart.symm {a b : List Int} (h : Apart a b) : Apart b a := ⟨h.2, h.1⟩
theorem inc_nodup {l : List Int} (h : Inc l) : l.Nodup := List.Pairwise.imp (fun h => by omega) h
/-- Among increasing lists: a part that is not shorter is the whole. -/
theorem sub_list : ∀ (a b : List Int), Inc a → Inc b → (∀ x ∈ b, x ∈ a) → b.Sublist a
  | a, [], _, _, _ => List.nil_sublist a
  | [], y :: _, _, _, h => absurd (h y (List.mem_cons_self ..)) (by simp)
  | x :: a, y :: b, ha, hb, h => by
    obtain ⟨p1, p2⟩ := List.pairwise_cons.1 ha
    obtain ⟨q1, q2⟩ := List.pairwise_cons.1 hb
    by_cases c : y = x
    · subst c
      refine List.Sublist.cons₂ _ (sub_list a b p2 q2 fun z hz => ?_)
      rcases List.mem_cons.1 (h z (List.mem_cons_of_mem _ hz)) with h1 | h1
      · have := q1 z hz; omega
      · exact h1
    · have hy : y ∈ a := (List.mem_cons.1 (h y (List.mem_cons_self ..))).resolve_left c
      have hxy := p1 y hy
      refine List.Sublist.cons _ (sub_list a (y :: b) p2 hb fun z hz => ?_)
      rcases List.mem_cons.1 (h z hz) with h1 | h1
      · rcases List.mem_cons.1 hz with h2 | h2
        · omega
        · have := q1 z h2; omega
      · exact h1
theorem sub_eq {a b : List Int} (ha : Inc a) (hb : Inc b) (hs : ∀ x ∈ b, x ∈ a) (hl : a.length ≤ b.length) : a = b :=
  ((sub_list a b ha hb hs).eq_of_length_le hl).symm
theorem keepMin_apart : ∀ (es acc : List (List Int)), acc.Pairwise Apart → (∀ a ∈ acc, Inc a) → (∀ e ∈ es, Inc e) → (∀ a ∈ acc, ∀ e ∈ es, a.length ≤ e.length) → es.Pairwise (fun a b => a.length ≤ b.length) → (keepMin acc es).Pairwise Apart
  | [], _, h, _, _, _, _ => h
  | e :: es, acc, h, ha, he, hl, hp => by
    rw [keepMin]
    obtain ⟨p1, p2⟩ := List.pairwise_cons.1 hp
    by_cases c : acc.any (subB e) = true
    · rw [if_pos c]
      exact keepMin_apart es acc h ha (fun x hx => he x (List.mem_cons_of_mem _ hx)) (fun a k x hx => hl a k x (List.mem_cons_of_mem _ hx)) p2
    · rw [if_neg c]
      have c' : ∀ a ∈ acc, subB e a = false := fun a k => by
        have := fun h' : subB e a = true => c (List.any_eq_true.2 ⟨a, k, h'⟩)
        exact Bool.eq_false_iff.2 this
      refine keepMin_apart es _ (List.pairwise_append.2 ⟨h, List.pairwise_singleton _ _, fun a k b hb => ?_⟩) ?_ (fun x hx => he x (List.mem_cons_of_mem _ hx)) ?_ p2
      · rw [List.mem_singleton.1 hb]
        refine ⟨Bool.eq_false_iff.2 fun h' => ?_, c' a k⟩
        have e1 := sub_eq (ha a k) (he e (List.mem_cons_self ..)) (subB_iff.1 h') (hl a k e (List.mem_cons_self ..))
        have := c' a k
        rw [e1, subB_self] at this
        cases this
      · intro a k
        rcases List.mem_append.1 k with k | k
        · exact ha a k
        · rw [List.mem_singleton.1 k]; exact he e (List.mem_cons_self ..)
      · intro a k x hx
        rcases List.mem_append.1 k with k | k
        · exact hl a k x (List.mem_cons_of_mem _ hx)
        · rw [List.mem_singleton.1 k]; exact p1 x hx
theorem keepMin_all : ∀ (es acc : List (List Int)), (acc ++ es).Pairwise Apart → keepMin acc es = acc ++ es
  | [], acc, _ => by rw [keepMin, List.append_nil]
  | e :: es, acc, h => by
    rw [keepMin]
    have c : ¬ acc.any (subB e) = true := by
      intro c
      obtain ⟨a, k, hs⟩ := List.any_eq_true.1 c
      have := ((List.pairwise_append.1 h).2.2 a k e (List.mem_cons_self ..)).2
      rw [hs] at this
      cases this
    rw [if_neg c, keepMin_all es (acc ++ [e]) (by rw [List.append_assoc]; exact h), List.append_assoc]
    rfl
/-- Ascending, no two alike. -/
def StrictLex (E : List (List Int)) : Prop := E.Pairwise fun a b => lexCmp a b < 0
instance (E : List (List Int)) : Decidable (StrictLex E) := inferInstanceAs (Decidable (E.Pairwise _))
instance (a b : List Int) : Decidable (Apart a b) := inferInstanceAs (Decidable (_ ∧ _))
/-- The sorted least ones are the edges themselves exactly if these ascend and no one contains another. -/
theorem minimal_iff {E E' R : List (List Int)} (hi : ∀ e ∈ E, Inc e) (hp : E.Perm E') (hl : E'.Pairwise fun a b => a.length ≤ b.length) (hr : (keepMin [] E').Perm R) (hs : R.Pairwise fun a b => ¬ lexCmp b a < 0) :
    R = E ↔ StrictLex E ∧ E.Pairwise Apart := by
  constructor
  · rintro rfl
    have hk : (keepMin [] E').Pairwise Apart := keepMin_apart E' [] List.Pairwise.nil (fun _ h => by cases h) (fun e he => hi e (hp.symm.subset he)) (fun _ h => by cases h) hl
    have ha : R.Pairwise Apart := hk.perm hr Apart.symm
    refine ⟨(hs.and ha).imp ?_, ha⟩
    rintro a b ⟨h1, h2⟩
    rcases lex_vals a b with h | h | h
    · rw [lex_eq a b h, Apart, subB_self] at h2
      exact absurd h2.1 (by simp)
    · rw [lex_anti] at h1
      omega
    · omega
  · rintro ⟨h1, h2⟩
    have h3 : E'.Pairwise Apart := h2.perm hp Apart.symm
    rw [keepMin_all E' [] h3, List.nil_append] at hr
    refine List.Perm.eq_of_pairwise (le := fun a b => ¬ lexCmp b a < 0) (fun a b _ _ k1 k2 => ?_) hs (h1.imp fun {a b} h => by rw [lex_anti]; omega) (hr.symm.trans hp.symm)
    refine lex_eq a b ?_
    rw [lex_anti] at k1
    omega

/-- A graph's edges are right: sets of vertices, ascending, no one within another. -/
def EdgesOk (g : Graph) : Prop := g.edges.length ≤ 20000 ∧ (∀ e ∈ g.edges, e ≠ [] ∧ Verts e g.n) ∧ StrictLex g.edges ∧ g.edges.Pairwise Apart
def Costs (g : Graph) : Prop := weighedB g.n g.cost = true
def Valid (g : Graph) : Prop := Costs g ∧ EdgesOk g
instance (g : Graph) : Decidable (EdgesOk g) := inferInstanceAs (Decidable (_ ∧ _))
instance (g : Graph) : Decidable (Costs g) := inferInstanceAs (Decidable (_ = _))
instance (g : Graph) : Decidable (Valid g) := inferInstanceAs (Decidable (_ ∧ _))
theorem isSetB_iff (l : List Int) (N : Int) : isSetB l N = true ↔ Verts l N := by
  unfold isSetB
  rw [List.all_eq_true]
  constructor
  · intro h
    have h' : ∀ i, i < l.length → setAt l N i = true := fun i hi => h i (List.mem_range.2 hi)
    unfold setAt at h'
    simp only [Bool.and_eq_true, Bool.or_eq_true, decide_eq_true_eq] at h'
    refine ⟨inc_of_steps fun i h0 hi => ?_, fun x hx => ?_⟩
    · have := (h' i hi).2
      omega
    · obtain ⟨i, hi, rfl⟩ := mem_iff_nth.1 hx
      exact (h' i hi).1
  · rintro ⟨h1, h2⟩ i hi
    have hi := List.mem_range.1 hi
    unfold setAt
    simp only [Bool.and_eq_true, Bool.or_eq_true, decide_eq_true_eq]
    refine ⟨h2 _ (nth_mem hi), ?_⟩
    by_cases c : i = 0
    · exact .inl c
    · exact .inr ((inc_iff l).1 h1 (i - 1) i (by omega) hi)

theorem f241_nil (p : Option Addr) (cap : Nat) (fv : Value) (w : World) : Calls Tryz.prog 241 #[.slice p 0 cap, .int .i64 0, .int .i64 0, fv] w fun e w' => e = .returned (.tuple #[]) ∧ w' = w :=
  AnyF.insertionSortCmpFunc_none { Tryz.laysSlF20_f241 with } p cap fv w
theorem f202_nil (p : Option Addr) (cap : Nat) (fv : Value) (w : World) : Calls Tryz.prog 202 #[.slice p 0 cap, fv] w fun e w' => e = .returned (.tuple #[]) ∧ w' = w :=
  AnyF.slices_SortFunc_none { Tryz.laysSlF6_f202 with } p cap fv w
theorem f223_nil (p : Option Addr) (cap : Nat) (fv : Value) (w : World) : Calls Tryz.prog 223 #[.slice p 0 cap, .int .i64 0, fv] w fun e w' => e = .returned (.tuple #[]) ∧ w' = w := by
  go_enter Tryz.func223, Tryz.ntmps223
  go_wp2
  refine wp_loop_rounds 1 ?_
  rw [rounds_succ]
  go_wp2_with (go_at_call 241; refine (f241_nil p cap fv _).mono ?_; rintro e w' ⟨rfl, rfl⟩)
  refine wp_loop_rounds 1 ?_
  rw [rounds_succ]
  go_wp2
  go_end0
  exact ⟨rfl, rfl⟩
theorem f198_nil (p : Option Addr) (cap : Nat) (fv : Value) (w : World) : Calls Tryz.prog 198 #[.slice p 0 cap, fv] w fun e w' => e = .returned (.tuple #[]) ∧ w' = w := by
  go_enter Tryz.func198, Tryz.ntmps198
  go_wp2_with (go_at_call 223; refine (f223_nil p cap fv _).mono ?_; rintro e w' ⟨rfl, rfl⟩)
  go_end0
  exact ⟨rfl, rfl⟩
end Go.Proofs.YthjifmfmaiagoaaGreatDoor

/- Plain law: what Check and Claim return, and what follows from it. -/
namespace Go.Proofs.YthjifmfmaiagoaaGreatDoor

def formedB (n : Int) (w : Way) : Bool := decide (Verts w.pos n) && decide (Verts w.neg n)
def readyB (g : Graph) (ws : List Way) : Bool := decide (ws.length ≤ 400) && ws.all (formedB g.n) && decide (Valid g)
def checkB (g : Graph) (ws : List Way) (hold : Bool) (ss : List Step) : Bool :=
  readyB g ws && decide (0 < ss.length ∧ ss.length ≤ 100000) && (rightM g ws hold ss ss.length 0 (List.replicate g.n.toNat 0) (List.replicate ss.length false)).isSome
structure Claim where
  verdict : Int
  with_ : List Int
  without : List Int
  steps : List Step
  deriving DecidableEq
def repB (g : Graph) (R : List Int) : Bool :=
  decide (Verts R g.n) && (g.edges.all fun e => e.any fun u => decide (u ∉ R)) && (List.range g.n.toNat).all fun v => decide ((v : Int) ∈ R) || g.edges.any fun e => decide ((v : Int) ∈ e) && e.all fun u => decide (u = v) || decide (u ∈ R)
def claimB (g : Graph) (ws : List Way) (c : Claim) : Bool :=
  readyB g ws && (if c.verdict = 0 then decide (c.with_.length + c.without.length + c.steps.length = 0)
    else if c.verdict = 1 then decide (c.without.length = 0) && (repB g c.with_ && holdsAny ws c.with_) && checkB g ws false c.steps
    else if c.verdict = 3 then decide (c.with_.length = 0) && (repB g c.without && !holdsAny ws c.without) && checkB g ws true c.steps
    else if c.verdict = 2 then decide (c.steps.length = 0) && (repB g c.with_ && holdsAny ws c.with_) && (repB g c.without && !holdsAny ws c.without)
    else false)
theorem repB_iff {g : Graph} (R : List Int) : repB g R = true ↔ Rep g R := by
  unfold repB Rep
  simp only [Bool.and_eq_true, decide_eq_true_eq, List.all_eq_true, List.any_eq_true, Bool.or_eq_true, List.mem_range, and_assoc]
  refine and_congr_right fun _ => and_congr_right fun _ => ?_
  constructor
  · intro h v hv hn
    rcases h v (by omega) with h1 | ⟨e, h1, h2, h3⟩
    · exact absurd h1 hn
    · exact ⟨e, h1, h2, fun u hu hne => (h3 u hu).resolve_left hne⟩
  · intro h v hv
    by_cases hm : (v : Int) ∈ R
    · exact .inl hm
    · obtain ⟨e, h1, h2, h3⟩ := h v (by omega) hm
      refine .inr ⟨e, h1, h2, fun u hu => ?_⟩
      by_cases hne : u = (v : Int)
      · exact .inl hne
      · exact .inr (h3 u hu hne)
theorem Valid.nat {g : Graph} (h : Valid g) : g.n = (g.n.toNat : Int) := by
  have h1 := h.1
  unfold Costs weighedB at h1
  simp only [Bool.and_eq_true, decide_eq_true_eq] at h1
  omega
theorem Valid.verts {g : Graph} (h : Valid g) : ∀ e ∈ g.edges, Verts e g.n := fun e he => (h.2.2.1 e he).2
theorem ready_iff {g : Graph} {ws : List Way} : readyB g ws = true ↔ ws.length ≤ 400 ∧ (∀ w ∈ ws, Verts w.pos g.n ∧ Verts w.neg g.n) ∧ Valid g := by
  unfold readyB formedB
  simp only [Bool.and_eq_true, decide_eq_true_eq, List.all_eq_true, and_assoc]
theorem check_iff {g : Graph} {ws : List Way} {hold : Bool} {ss : List Step} : checkB g ws hold ss = true ↔ readyB g ws = true ∧ 0 < ss.length ∧ ss.length ≤ 100000 ∧ ∃ s2, rightM g ws hold ss ss.length 0 (List.replicate g.n.toNat 0) (List.replicate ss.length false) = some s2 := by
  unfold checkB
  simp only [Bool.and_eq_true, decide_eq_true_eq, Option.isSome_iff_exists, and_assoc]
theorem check_more_ways {g : Graph} {ws more : List Way} {ss : List Step} (h : checkB g ws false ss = true) (hm : ∀ w ∈ more, Verts w.pos g.n ∧ Verts w.neg g.n) (hl : (ws ++ more).length ≤ 400) : checkB g (ws ++ more) false ss = true := by
  rw [check_iff] at h ⊢
  obtain ⟨h1, h2, h3, s2, h4⟩ := h
  rw [ready_iff] at h1 ⊢
  exact ⟨⟨hl, fun w hw => (List.mem_append.1 hw).elim (h1.2.1 w) (hm w), h1.2.2⟩, h2, h3, s2, rightM_ways (fun st x => leafB_more st x) _ _ _ _ _ h4⟩
theorem check_fewer_ways {g : Graph} {ws more : List Way} {ss : List Step} (h : checkB g (ws ++ more) true ss = true) : checkB g ws true ss = true := by
  rw [check_iff] at h ⊢
  obtain ⟨h1, h2, h3, s2, h4⟩ := h
  rw [ready_iff] at h1 ⊢
  refine ⟨⟨?_, fun w hw => h1.2.1 w (List.mem_append_left _ hw), h1.2.2⟩, h2, h3, s2, rightM_ways (fun st x => leafB_less st x) _ _ _ _ _ h4⟩
  have := h1.1
  rw [List.length_append] at this
  omega
theorem check_longer {g : Graph} {ws : List Way} {hold : Bool} {ss l : List Step} (h : checkB g ws hold ss = true) (hl : (ss ++ l).length ≤ 100000) : checkB g ws hold (ss ++ l) = true := by
  rw [check_iff] at h ⊢
  obtain ⟨h1, h2, h3, s2, h4⟩ := h
  refine ⟨h1, by rw [List.length_append]; omega, hl, s2 ++ List.replicate l.length false, ?_⟩
  have h5 := rightM_more (l := l) (pad := List.replicate l.length false) _ _ _ _ _ (by simp) h2 h4 (ss ++ l).length (by rw [List.length_append]; omega)
  rw [show List.replicate (ss ++ l).length false = List.replicate ss.length false ++ List.replicate l.length false by rw [List.length_append, List.replicate_append_replicate]]
  exact h5
theorem check_cut {g : Graph} {ws : List Way} {hold : Bool} {ss : List Step} (hl : ∀ i, i < ss.length → (stepv ss i).kind ≠ 1 → (stepv ss i).kind = 4 ∧ (ws.length : Int) ≤ (stepv ss i).at_) : checkB g ws hold ss = false := by
  rw [← Bool.not_eq_true, check_iff]
  rintro ⟨h1, h2, h3, s2, h4⟩
  rw [rightM_cut (fun i hi hk st => ?_) _ _ _ _ h2] at h4
  · simp at h4
  · obtain ⟨k4, ha⟩ := hl i hi hk
    unfold leafB
    rw [if_neg (by omega), if_neg (by omega), if_pos k4]
    unfold wayB
    rw [decide_eq_false (show ¬ (stepv ss i).at_ < (ws.length : Int) by omega)]
    simp
theorem check_none_true {g : Graph} (h : Valid g) : checkB g [] true [⟨5, 0, 0, 0⟩] = true := by
  rw [check_iff]
  refine ⟨ready_iff.2 ⟨by simp, fun w hw => by simp at hw, h⟩, by simp, by simp, _, rightM_leaf rfl (by decide) rfl rfl ?_⟩
  rfl
theorem check_none_false {g : Graph} : checkB g [] false [⟨5, 0, 0, 0⟩] = false := by
  rw [← Bool.not_eq_true, check_iff]
  rintro ⟨h1, h2, h3, s2, h4⟩
  have h5 : rightM g [] false [⟨5, 0, 0, 0⟩] 1 0 (List.replicate g.n.toNat 0) [false] = none := rfl
  rw [show rightM g [] false [⟨5, 0, 0, 0⟩] [(⟨5, 0, 0, 0⟩ : Step)].length 0 (List.replicate g.n.toNat 0) (List.replicate [(⟨5, 0, 0, 0⟩ : Step)].length false) = none from h5] at h4
  simp at h4
theorem cons_open {n : Nat} {R : List Int} : Cons (List.replicate n 0) R := fun v hv => by
  rw [nth_eq hv, List.getElem_replicate]
  exact ⟨fun h => by omega, fun h => by omega⟩
theorem check_sound {g : Graph} {ws : List Way} {hold : Bool} {ss : List Step} (h : checkB g ws hold ss = true) {R : List Int} (hR : Rep g R) : holdsAny ws R = !hold := by
  rw [check_iff] at h
  obtain ⟨h1, h2, h3, s2, h4⟩ := h
  rw [ready_iff] at h1
  exact rightM_sound h1.2.2.verts h1.2.1 hR _ _ _ _ _ h4 (by rw [List.length_replicate]; exact h1.2.2.nat.symm) cons_open
theorem valid_rep {g : Graph} (h : Valid g) : ∃ R, Rep g R := rep_exists h.nat h.2.2.1
/-- The proof by branching on all vertices is right. -/
theorem check_grow {g : Graph} {ws : List Way} {hold : Bool} {out : List Step} (hr : readyB g ws = true) (hn : g.n ≤ 12) (h : growM g ws hold g.n.toNat (List.replicate g.n.toNat 0) [] 0 = some out) : checkB g ws hold out = true := by
  rw [check_iff]
  have hv := (ready_iff.1 hr).2.2
  obtain ⟨h1, h2, h3⟩ := growM_keeps _ _ _ _ _ h
  have h4 : 2 ^ (g.n.toNat + 1) ≤ 2 ^ 13 := Nat.pow_le_pow_right (by omega) (by have := hv.nat; omega)
  rw [List.length_nil] at h1 h2
  obtain ⟨s2, h5, _⟩ := growM_right hv.nat (S := out) g.n.toNat _ _ _ _ h (by simp) (by omega) (fun i _ => by
    unfold nth
    rw [List.getD_eq_getElem?_getD, List.getElem?_replicate]
    split <;> rfl) (Nat.le_refl _) (fun i _ _ => rfl) (g.n.toNat + 1 + out.length) (List.replicate out.length false) (by omega) (by simp) (fun i _ _ => by
    unfold nthB
    rw [List.getD_eq_getElem?_getD, List.getElem?_replicate]
    split <;> rfl)
  refine ⟨hr, h1, by omega, ?_⟩
  cases h6 : rightM g ws hold out out.length 0 (List.replicate g.n.toNat 0) (List.replicate out.length false) with
  | some s3 => exact ⟨s3, rfl⟩
  | none =>
    exfalso
    rw [List.length_nil, show g.n.toNat + 1 + out.length = out.length + (g.n.toNat + 1) by omega, rightM_enough _ _ _ _ _ (by omega), h6] at h5
    simp at h5
end Go.Proofs.YthjifmfmaiagoaaGreatDoor

/- Plain law: verdicts without a search. -/
namespace Go.Proofs.YthjifmfmaiagoaaGreatDoor

/-- No edge contains v. -/
def freeV (g : Graph) (v : Int) : Bool := !g.edges.any fun e => decide (v ∈ e)
/-- v is an edge alone. -/
def barV (g : Graph) (v : Int) : Bool := g.edges.any fun e => decide (e = [v])
def certainW (g : Graph) (w : Way) : Bool := w.pos.all (freeV g) && w.neg.all (barV g)
def neverW (g : Graph) (w : Way) : Bool := w.neg.any (freeV g) || w.neg.any (fun v => decide (v ∈ w.pos)) || g.edges.any fun e => e.all fun u => decide (u ∈ w.pos)
def quickM (g : Graph) (ws : List Way) : Int := if readyB g ws = true then (if ws.any (certainW g) = true then 1 else if ws.all (neverW g) = true then 3 else 0) else 0

theorem freeV_in {g : Graph} {R : List Int} (hR : Rep g R) {v : Int} (h0 : 0 ≤ v) (h1 : v < g.n) (h : freeV g v = true) : v ∈ R := by
  refine Classical.byContradiction fun hn => ?_
  obtain ⟨k, rfl⟩ : ∃ k : Nat, v = k := ⟨v.toNat, by omega⟩
  obtain ⟨e, he, hv, _⟩ := hR.2.2 k h1 hn
  unfold freeV at h
  rw [Bool.not_eq_true', List.any_eq_false] at h
  exact h e he (decide_eq_true hv)
theorem barV_out {g : Graph} {R : List Int} (hR : Rep g R) {v : Int} (h : barV g v = true) : v ∉ R := by
  unfold barV at h
  obtain ⟨e, he, h1⟩ := List.any_eq_true.1 h
  have h1 := of_decide_eq_true h1
  subst h1
  obtain ⟨u, hu, hn⟩ := hR.2.1 _ he
  obtain rfl := List.mem_singleton.1 hu
  exact hn
theorem certainW_holds {g : Graph} {R : List Int} (hR : Rep g R) {w : Way} (hw : Verts w.pos g.n ∧ Verts w.neg g.n) (h : certainW g w = true) : HoldsW w R := by
  unfold certainW at h
  rw [Bool.and_eq_true, List.all_eq_true, List.all_eq_true] at h
  exact ⟨hw.1.1, hw.2.1, hR.1.1, fun v hv => freeV_in hR (hw.1.2 v hv).1 (hw.1.2 v hv).2 (h.1 v hv), fun v hv => barV_out hR (h.2 v hv)⟩
theorem neverW_not {g : Graph} {R : List Int} (hR : Rep g R) {w : Way} (hw : Verts w.pos g.n ∧ Verts w.neg g.n) (h : neverW g w = true) : ¬ HoldsW w R := fun hh => by
  unfold neverW at h
  rw [Bool.or_eq_true, Bool.or_eq_true, List.any_eq_true, List.any_eq_true, List.any_eq_true] at h
  rcases h with (⟨v, hv, h⟩ | ⟨v, hv, h⟩) | ⟨e, he, h⟩
  · exact hh.2.2.2.2 v hv (freeV_in hR (hw.2.2 v hv).1 (hw.2.2 v hv).2 h)
  · exact hh.2.2.2.2 v hv (hh.2.2.2.1 v (of_decide_eq_true h))
  · rw [List.all_eq_true] at h
    obtain ⟨u, hu, hn⟩ := hR.2.1 e he
    exact hn (hh.2.2.2.1 u (of_decide_eq_true (h u hu)))
theorem quickM_cases (g : Graph) (ws : List Way) : quickM g ws = 0 ∨ (readyB g ws = true ∧ quickM g ws = 1 ∧ ∃ w ∈ ws, certainW g w = true) ∨ (readyB g ws = true ∧ quickM g ws = 3 ∧ ∀ w ∈ ws, neverW g w = true) := by
  unfold quickM
  by_cases h0 : readyB g ws = true
  · rw [if_pos h0]
    by_cases h1 : ws.any (certainW g) = true
    · rw [if_pos h1]
      exact .inr (.inl ⟨h0, rfl, List.any_eq_true.1 h1⟩)
    · rw [if_neg h1]
      by_cases h2 : ws.all (neverW g) = true
      · rw [if_pos h2]
        exact .inr (.inr ⟨h0, rfl, List.all_eq_true.1 h2⟩)
      · rw [if_neg h2]
        exact .inl rfl
  · rw [if_neg h0]
    exact .inl rfl
/-- The verdict is true in every repair. -/
theorem quickM_true {g : Graph} {ws : List Way} {R : List Int} (hR : Rep g R) (h : quickM g ws ≠ 0) : (quickM g ws = 1 ∨ quickM g ws = 3) ∧ holdsAny ws R = decide (quickM g ws = 1) := by
  rcases quickM_cases g ws with h0 | ⟨h0, h1, w, hw, hc⟩ | ⟨h0, h1, hc⟩
  · exact absurd h0 h
  · have hr := (ready_iff.1 h0).2.1
    refine ⟨.inl h1, ?_⟩
    rw [h1, decide_eq_true rfl]
    exact List.any_eq_true.2 ⟨w, hw, decide_eq_true (certainW_holds hR (hr w hw) hc)⟩
  · have hr := (ready_iff.1 h0).2.1
    refine ⟨.inr h1, ?_⟩
    rw [h1, decide_eq_false (by decide)]
    exact List.any_eq_false.2 fun w hw hh => neverW_not hR (hr w hw) (hc w hw) (of_decide_eq_true hh)
theorem quickM_reverse (g : Graph) (ws : List Way) : quickM g ws.reverse = quickM g ws := by
  unfold quickM readyB
  rw [List.length_reverse, List.all_reverse, List.any_reverse, List.all_reverse]
theorem quickM_more {g : Graph} {one two : List Way} (hr : readyB g (one ++ two) = true) : (quickM g one = 1 → quickM g (one ++ two) = 1) ∧ (quickM g (one ++ two) = 3 → quickM g one = 3) := by
  have hr1 : readyB g one = true := by
    rw [ready_iff] at hr ⊢
    refine ⟨?_, fun w hw => hr.2.1 w (List.mem_append_left _ hw), hr.2.2⟩
    have := hr.1
    rw [List.length_append] at this
    omega
  constructor
  · intro h
    rcases quickM_cases g one with h0 | ⟨_, _, w, hw, hc⟩ | ⟨_, h1, _⟩
    · omega
    · unfold quickM
      rw [if_pos hr, if_pos (List.any_eq_true.2 ⟨w, List.mem_append_left _ hw, hc⟩)]
    · omega
  · intro h
    rcases quickM_cases g (one ++ two) with h0 | ⟨_, h1, _⟩ | ⟨_, _, hc⟩
    · omega
    · omega
    · have hno : ¬ one.any (certainW g) = true := fun h2 => by
        unfold quickM at h
        rw [if_pos hr, List.any_append, h2] at h
        simp at h
      unfold quickM
      rw [if_pos hr1, if_neg hno, if_pos (List.all_eq_true.2 fun w hw => hc w (List.mem_append_left _ hw))]
end Go.Proofs.YthjifmfmaiagoaaGreatDoor

/- Plain law: bounds of sums over components. -/
namespace Go.Proofs.YthjifmfmaiagoaaGreatDoor

def leastL (l : List Int) : Int := l.foldl min (l.headD 0)
def mostL (l : List Int) : Int := l.foldl max (l.headD 0)
def blockB (g : Graph) (c : List Int) : Bool := decide (2 ≤ c.length) && decide (c.Pairwise fun a b => [a, b] ∈ g.edges)
def lowC (g : Graph) (W : List Int) (c : List Int) : Int := if c.length = 1 then (if barV g (nth c 0) = true then 0 else stv W (nth c 0)) else if blockB g c = true then leastL (c.map (stv W)) else (c.map fun v => min (stv W v) 0).sum
def highC (g : Graph) (W : List Int) (c : List Int) : Int := if c.length = 1 then (if barV g (nth c 0) = true then 0 else stv W (nth c 0)) else if blockB g c = true then mostL (c.map (stv W)) else (c.map fun v => max (stv W v) 0).sum
def lowM (g : Graph) (W : List Int) (cs : List (List Int)) : Int := (cs.map (lowC g W)).sum
def highM (g : Graph) (W : List Int) (cs : List (List Int)) : Int := (cs.map (highC g W)).sum

theorem foldl_min_le : ∀ (l : List Int) (a : Int), l.foldl min a ≤ a ∧ ∀ x ∈ l, l.foldl min a ≤ x
  | [], a => ⟨Int.le_refl _, fun x hx => by cases hx⟩
  | y :: l, a => by
    have ih := foldl_min_le l (min a y)
    rw [List.foldl_cons]
    refine ⟨Int.le_trans ih.1 (Int.min_le_left _ _), fun x hx => ?_⟩
    rcases List.mem_cons.1 hx with rfl | hx
    · exact Int.le_trans ih.1 (Int.min_le_right _ _)
    · exact ih.2 x hx
theorem le_foldl_max : ∀ (l : List Int) (a : Int), a ≤ l.foldl max a ∧ ∀ x ∈ l, x ≤ l.foldl max a
  | [], a => ⟨Int.le_refl _, fun x hx => by cases hx⟩
  | y :: l, a => by
    have ih := le_foldl_max l (max a y)
    rw [List.foldl_cons]
    refine ⟨Int.le_trans (Int.le_max_left _ _) ih.1, fun x hx => ?_⟩
    rcases List.mem_cons.1 hx with rfl | hx
    · exact Int.le_trans (Int.le_max_right _ _) ih.1
    · exact ih.2 x hx
theorem leastL_le {l : List Int} {x : Int} (h : x ∈ l) : leastL l ≤ x := (foldl_min_le l _).2 x h
theorem le_mostL {l : List Int} {x : Int} (h : x ∈ l) : x ≤ mostL l := (le_foldl_max l _).2 x h
theorem sum_le {α : Type} (f h : α → Int) : ∀ (l : List α), (∀ x ∈ l, f x ≤ h x) → (l.map f).sum ≤ (l.map h).sum
  | [], _ => Int.le_refl _
  | x :: l, hh => by
    rw [List.map_cons, List.map_cons, List.sum_cons, List.sum_cons]
    have h1 := hh x (List.mem_cons_self ..)
    have h2 := sum_le f h l fun y hy => hh y (List.mem_cons_of_mem _ hy)
    omega
theorem sum_add {α : Type} (f h : α → Int) : ∀ (l : List α), (l.map fun x => f x + h x).sum = (l.map f).sum + (l.map h).sum
  | [] => rfl
  | x :: l => by
    rw [List.map_cons, List.map_cons, List.map_cons, List.sum_cons, List.sum_cons, List.sum_cons, sum_add f h l]
    omega
theorem sum_zero {α : Type} (f : α → Int) : ∀ (l : List α), (∀ x ∈ l, f x = 0) → (l.map f).sum = 0
  | [], _ => rfl
  | x :: l, h => by
    rw [List.map_cons, List.sum_cons, h x (List.mem_cons_self ..), sum_zero f l fun y hy => h y (List.mem_cons_of_mem _ hy)]
    rfl
theorem sum_one {α : Type} [DecidableEq α] (f : α → Int) (u : α) : ∀ (l : List α), l.Nodup → u ∈ l → (∀ x ∈ l, x ≠ u → f x = 0) → (l.map f).sum = f u
  | [], _, h, _ => by cases h
  | x :: l, hd, hu, h => by
    obtain ⟨d1, d2⟩ := List.nodup_cons.1 hd
    rw [List.map_cons, List.sum_cons]
    by_cases e : x = u
    · subst e
      rw [sum_zero f l fun y hy => h y (List.mem_cons_of_mem _ hy) fun e => d1 (e ▸ hy)]
      omega
    · rw [h x (List.mem_cons_self ..) e, sum_one f u l d2 ((List.mem_cons.1 hu).resolve_left fun e2 => e e2.symm) fun y hy => h y (List.mem_cons_of_mem _ hy)]
      omega
theorem sum_congr {α : Type} {f h : α → Int} {l : List α} (hh : ∀ x ∈ l, f x = h x) : (l.map f).sum = (l.map h).sum := by rw [List.map_congr_left hh]
/-- Two sums change places. -/
theorem sum_comm {α β : Type} (f : α → β → Int) (m : List β) : ∀ (l : List α), (l.map fun x => (m.map fun y => f x y).sum).sum = (m.map fun y => (l.map fun x => f x y).sum).sum
  | [] => (sum_zero _ _ fun _ _ => rfl).symm
  | x :: l => by
    rw [List.map_cons, List.sum_cons, sum_comm f m l, ← sum_add]
    refine sum_congr fun y _ => ?_
    rw [List.map_cons, List.sum_cons]
theorem sum_filter {α : Type} (f : α → Int) (p : α → Bool) : ∀ (l : List α), ((l.filter p).map f).sum = (l.map fun x => if p x = true then f x else 0).sum
  | [] => rfl
  | x :: l => by
    rw [List.map_cons, List.sum_cons, List.filter_cons]
    split
    · rename_i h
      rw [List.map_cons, List.sum_cons, sum_filter f p l]
    · rename_i h
      rw [sum_filter f p l]
      omega
theorem sum_setOf (f : Int → Int) (n : Nat) (p : Nat → Bool) : ((setOf n p).map f).sum = ((List.range n).map fun v : Nat => if p v = true then f v else 0).sum := by
  unfold setOf
  rw [List.map_map, sum_filter]
  rfl
/-- A sum over all vertices, component by component. -/
theorem sum_comps {E : List (List Int)} {n : Nat} {r : Nat → Nat} (hr : RootOf E n r) (hE : Inside E n) (f : Int → Int) : ((compsOf n r).map fun c => (c.map f).sum).sum = ((List.range n).map fun v : Nat => f v).sum := by
  unfold compsOf
  rw [List.map_map, sum_filter, sum_congr (h := fun i => ((List.range n).map fun v : Nat => if r v = i then f v else 0).sum) (fun i hi => ?_), sum_comm]
  · refine sum_congr fun v hv => ?_
    have hv := List.mem_range.1 hv
    rw [sum_one (fun i => if r v = i then f v else 0) (r v) _ List.nodup_range (List.mem_range.2 (Nat.lt_of_le_of_lt (hr.le v hv) hv)) fun x _ hx => if_neg fun e => hx e.symm, if_pos rfl]
  · show (if decide (r i = i) = true then ((setOf n fun v => decide (r v = i)).map f).sum else 0) = _
    have hi := List.mem_range.1 hi
    by_cases e : r i = i
    · rw [if_pos (decide_eq_true e), sum_setOf]
      refine sum_congr fun v _ => ?_
      by_cases e2 : r v = i
      · rw [if_pos (decide_eq_true e2), if_pos e2]
      · rw [if_neg (by rw [decide_eq_false e2]; simp), if_neg e2]
    · rw [if_neg (by rw [decide_eq_false e]; simp)]
      refine (sum_zero _ _ fun v hv => if_neg fun e2 => e ?_).symm
      rw [← e2]
      exact hr.idem hE (List.mem_range.1 hv)
theorem inside_of {g : Graph} {n : Nat} (hn : g.n = n) (he : ∀ e ∈ g.edges, Verts e g.n) : Inside g.edges n := fun e hee x hx => by
  have := (he e hee).2 x hx
  omega
theorem Valid.inside {g : Graph} (h : Valid g) : Inside g.edges g.n.toNat := inside_of h.nat h.verts
/-- What a component is. -/
theorem mem_comps {n : Nat} {r : Nat → Nat} {c : List Int} : c ∈ compsOf n r ↔ ∃ i, i < n ∧ r i = i ∧ c = setOf n fun v => decide (r v = i) := by
  unfold compsOf
  simp only [List.mem_map, List.mem_filter, List.mem_range, decide_eq_true_eq]
  exact ⟨fun ⟨i, ⟨h1, h2⟩, h3⟩ => ⟨i, h1, h2, h3.symm⟩, fun ⟨i, h1, h2, h3⟩ => ⟨i, ⟨h1, h2⟩, h3.symm⟩⟩
/-- An edge lies in one component. -/
theorem edge_in {g : Graph} {n : Nat} {r : Nat → Nat} (hr : RootOf g.edges n r) (hE : Inside g.edges n) {e : List Int} (he : e ∈ g.edges) {u v : Nat} (hu : (u : Int) ∈ e) (hv : (v : Int) ∈ e) : r u = r v := by
  have h1 := (hE e he _ hu).2
  have h2 := (hE e he _ hv).2
  exact hr.same e he u v (by omega) (by omega) hu hv
theorem apart_sub {a b : List Int} (h : Apart a b) (hs : ∀ x ∈ a, x ∈ b) : False := by
  have h2 := h.2
  unfold subB at h2
  exact of_decide_eq_false h2 hs
/-- No edge of a valid graph is part of another. -/
theorem Valid.antichain {g : Graph} (h : Valid g) {a b : List Int} (ha : a ∈ g.edges) (hb : b ∈ g.edges) (hne : a ≠ b) : ∃ x ∈ a, x ∉ b := by
  refine Classical.byContradiction fun hn => ?_
  have hs : ∀ x ∈ a, x ∈ b := fun x hx => Classical.byContradiction fun h => hn ⟨x, hx, h⟩
  have hp := h.2.2.2.2
  obtain ⟨i, hi, rfl⟩ := List.mem_iff_getElem.1 ha
  obtain ⟨j, hj, rfl⟩ := List.mem_iff_getElem.1 hb
  rw [List.pairwise_iff_getElem] at hp
  rcases Nat.lt_trichotomy i j with h1 | h1 | h1
  · exact apart_sub (hp i j hi hj h1) hs
  · subst h1; exact hne rfl
  · exact apart_sub (hp j i hj hi h1).symm hs
/-- The bounds of one component. -/
theorem comp_bounds {g : Graph} (hv : Valid g) {r : Nat → Nat} (hr : RootOf g.edges g.n.toNat r) (W : List Int) {R : List Int} (hR : Rep g R) {c : List Int} (hc : c ∈ compsOf g.n.toNat r) :
    lowC g W c ≤ (c.map fun v => if v ∈ R then stv W v else 0).sum ∧ (c.map fun v => if v ∈ R then stv W v else 0).sum ≤ highC g W c := by
  have hE := hv.inside
  obtain ⟨i, hi, hri, rfl⟩ := mem_comps.1 hc
  generalize hcc : (setOf g.n.toNat fun v => decide (r v = i)) = c at *
  have hmem : ∀ v : Nat, (v : Int) ∈ c ↔ v < g.n.toNat ∧ r v = i := fun v => by rw [← hcc, mem_setOf_nat, decide_eq_true_eq]
  have hnat : ∀ x ∈ c, ∃ v : Nat, x = v ∧ v < g.n.toNat ∧ r v = i := fun x hx => by
    rw [← hcc] at hx
    obtain ⟨v, h1, h2, h3⟩ := mem_setOf.1 hx
    exact ⟨v, h3, h1, of_decide_eq_true h2⟩
  have hinc : Inc c := by rw [← hcc]; exact inc_setOf _ _
  have hself : ∀ {e : List Int}, e ∈ g.edges → ∀ {v : Nat}, (v : Int) ∈ e → r v = i → ∀ x ∈ e, x ∈ c := fun he v hve hvi x hx => by
    have h1 := hE _ he x hx
    obtain ⟨k, rfl⟩ : ∃ k : Nat, x = k := ⟨x.toNat, by omega⟩
    exact (hmem k).2 ⟨by omega, (edge_in hr hE he hx hve).trans hvi⟩
  have hgn := hv.nat
  unfold lowC highC
  by_cases h1 : c.length = 1
  · rw [if_pos h1, if_pos h1]
    obtain ⟨x, rfl⟩ := List.length_eq_one_iff.1 h1
    obtain ⟨v, rfl, hvn, hvi⟩ := hnat x (List.mem_singleton.2 rfl)
    have hs : ([(v : Int)].map fun v => if v ∈ R then stv W v else 0).sum = if (v : Int) ∈ R then stv W v else 0 := by simp
    rw [hs]
    show (if barV g (v : Int) = true then 0 else stv W v) ≤ _ ∧ _ ≤ (if barV g (v : Int) = true then 0 else stv W v)
    by_cases hb : barV g v = true
    · rw [if_pos hb, if_neg (barV_out hR hb)]
      exact ⟨Int.le_refl _, Int.le_refl _⟩
    · have hin : (v : Int) ∈ R := by
        refine Classical.byContradiction fun hn => hb ?_
        obtain ⟨e, he, hve, hall⟩ := hR.2.2 v (by omega) hn
        have hev : e = [(v : Int)] := by
          have hsub := hself he hve hvi
          have hne := (hv.2.2.1 e he)
          exact inc_extq hne.2.1 (by unfold Inc; simp) fun x => ⟨hsub x, fun hx => by rw [List.mem_singleton.1 hx]; exact hve⟩
        exact List.any_eq_true.2 ⟨e, he, decide_eq_true hev⟩
      rw [if_neg hb, if_pos hin]
      exact ⟨Int.le_refl _, Int.le_refl _⟩
  · rw [if_neg h1, if_neg h1]
    by_cases h2 : blockB g c = true
    · rw [if_pos h2, if_pos h2]
      unfold blockB at h2
      rw [Bool.and_eq_true, decide_eq_true_eq, decide_eq_true_eq] at h2
      have hpair : ∀ a b : Int, a ∈ c → b ∈ c → a ≠ b → ∃ e ∈ g.edges, (∀ x, x ∈ e ↔ x = a ∨ x = b) := fun a b ha hb hne => by
        obtain ⟨p, hp, rfl⟩ := List.mem_iff_getElem.1 ha
        obtain ⟨q, hq, rfl⟩ := List.mem_iff_getElem.1 hb
        have hpw := List.pairwise_iff_getElem.1 h2.2
        rcases Nat.lt_trichotomy p q with h | h | h
        · exact ⟨_, hpw p q hp hq h, fun x => by simp⟩
        · subst h; exact absurd rfl hne
        · exact ⟨_, hpw q p hq hp h, fun x => by simp; exact or_comm⟩
      -- one of them is in
      have hone : ∃ u ∈ c, u ∈ R := by
        refine Classical.byContradiction fun hn => ?_
        have hn2 : ∀ u ∈ c, u ∉ R := fun u hu h => hn ⟨u, hu, h⟩
        have hx0 : nth c 0 ∈ c := nth_mem (by omega)
        obtain ⟨v, hv0, hvn, hvi⟩ := hnat _ hx0
        obtain ⟨e, he, hve, hall⟩ := hR.2.2 v (by omega) (hv0 ▸ hn2 _ hx0)
        have hev : ∀ x ∈ e, x = (v : Int) := fun x hx => Classical.byContradiction fun hne => hn2 x (hself he hve hvi x hx) (hall x hx hne)
        have hx1 : nth c 1 ∈ c := nth_mem (by omega)
        have hlt := (inc_iff c).1 hinc 0 1 (by omega) (by omega)
        obtain ⟨f, hf, hfm⟩ := hpair (v : Int) (nth c 1) (hv0 ▸ hx0) hx1 (by omega)
        have hef : e ≠ f := fun e1 => by
          have := hev (nth c 1) (e1 ▸ (hfm _).2 (.inr rfl))
          omega
        obtain ⟨x, hx, hxf⟩ := hv.antichain he hf hef
        exact hxf ((hfm x).2 (.inl (hev x hx)))
      obtain ⟨u, huc, huR⟩ := hone
      have huniq : ∀ x ∈ c, x ≠ u → x ∉ R := fun x hx hne hxR => by
        obtain ⟨e, he, hem⟩ := hpair x u hx huc hne
        obtain ⟨y, hy, hyR⟩ := hR.2.1 e he
        rcases (hem y).1 hy with rfl | rfl
        · exact hyR hxR
        · exact hyR huR
      rw [sum_one (fun v => if v ∈ R then stv W v else 0) u c (inc_nodup hinc) huc fun x hx hne => if_neg (huniq x hx hne), if_pos huR]
      exact ⟨leastL_le (List.mem_map.2 ⟨u, huc, rfl⟩), le_mostL (List.mem_map.2 ⟨u, huc, rfl⟩)⟩
    · rw [if_neg h2, if_neg h2]
      refine ⟨sum_le _ _ _ fun x _ => ?_, sum_le _ _ _ fun x _ => ?_⟩
      · split <;> omega
      · split <;> omega
/-- The sum of a repair is within the bounds. -/
theorem range_true {g : Graph} (hv : Valid g) {r : Nat → Nat} (hr : RootOf g.edges g.n.toNat r) (W : List Int) {R : List Int} (hR : Rep g R) :
    lowM g W (compsOf g.n.toNat r) ≤ (R.map (stv W)).sum ∧ (R.map (stv W)).sum ≤ highM g W (compsOf g.n.toNat r) := by
  have h1 : (R.map (stv W)).sum = ((compsOf g.n.toNat r).map fun c => (c.map fun v => if v ∈ R then stv W v else 0).sum).sum := by
    rw [sum_comps hr hv.inside]
    have hR1 := hR.1
    rw [hv.nat] at hR1
    have h2 := verts_eq hR1
    rw [congrArg (fun l => (List.map (stv W) l).sum) h2, sum_setOf]
    refine sum_congr fun v _ => ?_
    by_cases h : (v : Int) ∈ R
    · rw [if_pos (decide_eq_true h), if_pos h]
    · rw [if_neg (by rw [decide_eq_false h]; simp), if_neg h]
  rw [h1]
  exact ⟨sum_le _ _ _ fun c hc => (comp_bounds hv hr W hR hc).1, sum_le _ _ _ fun c hc => (comp_bounds hv hr W hR hc).2⟩
end Go.Proofs.YthjifmfmaiagoaaGreatDoor

/- Plain law: a repair, by how many vertices each edge misses. -/
namespace Go.Proofs.YthjifmfmaiagoaaGreatDoor

def missC (l e : List Int) : Nat := e.countP fun v => decide (v ∉ l)
def needB (E : List (List Int)) (l : List Int) (kk v : Nat) : Bool := decide ((v : Int) ∈ l) || (List.range kk).any fun j => decide (missC l (row E j) = 1) && decide ((v : Int) ∈ row E j)
theorem needB_zero (E : List (List Int)) (l : List Int) (v : Nat) : needB E l 0 v = decide ((v : Int) ∈ l) := by unfold needB; simp
theorem needB_succ (E : List (List Int)) (l : List Int) (kk v : Nat) : needB E l (kk + 1) v = (needB E l kk v || (decide (missC l (row E kk) = 1) && decide ((v : Int) ∈ row E kk))) := by
  unfold needB
  rw [List.range_succ, List.any_append, Bool.or_assoc]
  simp
theorem missC_zero {l e : List Int} : missC l e = 0 ↔ ∀ u ∈ e, u ∈ l := by
  unfold missC
  rw [List.countP_eq_zero]
  constructor
  · intro h u hu
    have := h u hu
    simpa using this
  · intro h u hu
    simpa using h u hu
theorem missC_one {l e : List Int} (he : Inc e) {v : Int} (hv : v ∈ e) (hn : v ∉ l) : missC l e = 1 ↔ ∀ u ∈ e, u ≠ v → u ∈ l := by
  have hF : Inc (e.filter fun u => decide (u ∉ l)) := List.Pairwise.filter _ he
  have hmem : ∀ u, u ∈ (e.filter fun u => decide (u ∉ l)) ↔ u ∈ e ∧ u ∉ l := fun u => by simp
  unfold missC
  rw [List.countP_eq_length_filter]
  constructor
  · intro h u hu hne
    obtain ⟨x, hx⟩ := List.length_eq_one_iff.1 h
    refine Classical.byContradiction fun hul => hne ?_
    have h1 := (hmem u).2 ⟨hu, hul⟩
    have h2 := (hmem v).2 ⟨hv, hn⟩
    rw [hx] at h1 h2
    rw [List.mem_singleton.1 h1, List.mem_singleton.1 h2]
  · intro h
    rw [inc_ext hF (k := [v]) (by unfold Inc; simp) fun u => by
      rw [hmem, List.mem_singleton]
      constructor
      · rintro ⟨h1, h2⟩
        exact Classical.byContradiction fun hne => h2 (h u h1 hne)
      · rintro rfl
        exact ⟨hv, hn⟩]
    rfl
/-- A set of vertices is a repair: no edge misses nothing, and every vertex is needed. -/
theorem rep_by {g : Graph} {n : Nat} (hn : g.n = n) (he : ∀ e ∈ g.edges, Verts e g.n) {l : List Int} (hl : Verts l g.n) :
    repB g l = ((g.edges.all fun e => decide (missC l e ≠ 0)) && (List.range n).all fun v => needB g.edges l g.edges.length v) := by
  rw [Bool.eq_iff_iff, repB_iff, Bool.and_eq_true, List.all_eq_true, List.all_eq_true]
  unfold Rep
  constructor
  · rintro ⟨_, h1, h2⟩
    refine ⟨fun e hee => decide_eq_true fun h0 => ?_, fun v hv => ?_⟩
    · obtain ⟨u, hu, hul⟩ := h1 e hee
      exact hul (missC_zero.1 h0 u hu)
    · have hv := List.mem_range.1 hv
      unfold needB
      by_cases hm : (v : Int) ∈ l
      · rw [decide_eq_true hm]; rfl
      · obtain ⟨e, hee, hve, hall⟩ := h2 v (by omega) hm
        rw [Bool.or_eq_true]
        refine .inr (List.any_eq_true.2 ?_)
        obtain ⟨j, hj, rfl⟩ := List.mem_iff_getElem.1 hee
        refine ⟨j, List.mem_range.2 hj, ?_⟩
        rw [row_eq hj, Bool.and_eq_true, decide_eq_true_eq, decide_eq_true_eq]
        exact ⟨(missC_one (he _ hee).1 hve hm).2 hall, hve⟩
  · rintro ⟨h1, h2⟩
    refine ⟨hl, fun e hee => ?_, fun v hv hm => ?_⟩
    · have h3 := of_decide_eq_true (h1 e hee)
      refine Classical.byContradiction fun hc => h3 (missC_zero.2 fun u hu => Classical.byContradiction fun hul => hc ⟨u, hu, hul⟩)
    · have h3 := h2 v (List.mem_range.2 (by omega))
      unfold needB at h3
      rw [decide_eq_false hm, Bool.false_or, List.any_eq_true] at h3
      obtain ⟨j, hj, h4⟩ := h3
      have hj := List.mem_range.1 hj
      rw [row_eq hj, Bool.and_eq_true, decide_eq_true_eq, decide_eq_true_eq] at h4
      have hee := List.getElem_mem hj
      exact ⟨_, hee, h4.2, (missC_one (he _ hee).1 h4.2 hm).1 h4.1⟩
theorem rep_not {g : Graph} {l : List Int} (hl : ¬ Verts l g.n) : repB g l = false := by
  unfold repB
  rw [decide_eq_false hl]
  rfl
end Go.Proofs.YthjifmfmaiagoaaGreatDoor

/- Plain law: the chapter's example, reckoned. -/
namespace Go.Proofs.YthjifmfmaiagoaaGreatDoor

def pairG : Graph := ⟨2, [0, 0], [[0, 1]]⟩
def eitherW : List Way := [⟨[0], []⟩, ⟨[1], []⟩]
def stepsP : List Step := [⟨1, 0, 1, 2⟩, ⟨4, 0, 0, 0⟩, ⟨1, 1, 3, 4⟩, ⟨4, 1, 0, 0⟩, ⟨3, 0, 0, 0⟩]
def badP : List Step := [⟨1, 0, 1, 2⟩, ⟨4, 0, 0, 0⟩, ⟨1, 1, 3, 4⟩, ⟨2, 0, 0, 0⟩, ⟨3, 0, 0, 0⟩]
def sharedP : List Step := [⟨1, 0, 1, 1⟩, ⟨4, 0, 0, 0⟩, ⟨1, 1, 3, 4⟩, ⟨4, 1, 0, 0⟩, ⟨3, 0, 0, 0⟩]
def noneP : List Step := [⟨5, 0, 0, 0⟩]
theorem pair_valid : Valid pairG := by decide
theorem x1 : checkB pairG eitherW false stepsP = true := by decide
theorem x2 : checkB pairG [⟨[0], []⟩] false badP = false := by decide
theorem x3 : checkB pairG eitherW false sharedP = false := by decide
theorem x4 : checkB pairG eitherW true stepsP = false := by decide
theorem x5 : claimB pairG [⟨[0], []⟩] ⟨2, [0], [1], []⟩ = true := by decide
theorem x6 : claimB pairG eitherW ⟨1, [1], [], stepsP⟩ = true := by decide
theorem x7 : checkB pairG [] true noneP = true := by decide
theorem x8 : claimB pairG [] ⟨3, [], [0], noneP⟩ = true := by decide
theorem x9 : claimB pairG [] ⟨3, [], [], noneP⟩ = false := by decide
theorem x10 : HoldsW ⟨[1], [0]⟩ [1, 2] := by decide
theorem x11 : ¬ HoldsW ⟨[], [1]⟩ [1] := by decide
end Go.Proofs.YthjifmfmaiagoaaGreatDoor

/- Plain law: a valid graph, edge by edge. -/
namespace Go.Proofs.YthjifmfmaiagoaaGreatDoor

theorem strict_of_steps {E : List (List Int)} (h : ∀ i, 0 < i → i < E.length → lexCmp (row E (i - 1)) (row E i) < 0) : StrictLex E := by
  have key : ∀ d i, i + 1 + d < E.length → lexCmp (row E i) (row E (i + 1 + d)) < 0 := by
    intro d
    induction d with
    | zero => exact fun i hi => by have := h (i + 1) (by omega) hi; simpa using this
    | succ d ih =>
      intro i hi
      have h1 := ih i (by omega)
      have h2 := h (i + 1 + (d + 1)) (by omega) hi
      rw [show i + 1 + (d + 1) - 1 = i + 1 + d by omega] at h2
      exact lex_trans_lt _ _ _ h1 h2
  unfold StrictLex
  rw [List.pairwise_iff_getElem]
  intro i j hi hj hij
  have h1 := key (j - i - 1) i (by omega)
  rw [show i + 1 + (j - i - 1) = j by omega, row_eq hi, row_eq hj] at h1
  exact h1
theorem strict_step {E : List (List Int)} (h : StrictLex E) {i : Nat} (h0 : 0 < i) (hi : i < E.length) : lexCmp (row E (i - 1)) (row E i) < 0 := by
  unfold StrictLex at h
  rw [List.pairwise_iff_getElem] at h
  have := h (i - 1) i (by omega) hi (by omega)
  rwa [row_eq (by omega : i - 1 < E.length), row_eq hi]
def RowOk (g : Graph) (i : Nat) : Prop := row g.edges i ≠ [] ∧ Verts (row g.edges i) g.n ∧ (0 < i → lexCmp (row g.edges (i - 1)) (row g.edges i) < 0)
theorem valid_iff {g : Graph} : Valid g ↔ weighedB g.n g.cost = true ∧ g.edges.length ≤ 20000 ∧ ∀ i, i < g.edges.length → RowOk g i ∧ ∀ k, k < g.edges.length → k ≠ i → isSub (row g.edges k) (row g.edges i) = false := by
  constructor
  · rintro ⟨h1, h2, h3, h4, h5⟩
    refine ⟨h1, h2, fun i hi => ⟨⟨(h3 _ (row_mem hi)).1, (h3 _ (row_mem hi)).2, fun h0 => strict_step h4 h0 hi⟩, fun k hk hne => ?_⟩⟩
    rw [← Bool.not_eq_true]
    intro hs
    have hm := isSub_mem _ _ hs
    rw [List.pairwise_iff_getElem] at h5
    rw [row_eq hk, row_eq hi] at hm
    rcases Nat.lt_or_gt_of_ne hne with h | h
    · have := (h5 k i hk hi h).2
      rw [subB_iff.2 hm] at this
      cases this
    · have := (h5 i k hi hk h).1
      rw [subB_iff.2 hm] at this
      cases this
  · rintro ⟨h1, h2, h3⟩
    have hR : ∀ e ∈ g.edges, e ≠ [] ∧ Verts e g.n := fun e he => by
      obtain ⟨i, hi, e1⟩ := List.mem_iff_getElem.1 he
      have := (h3 i hi).1
      unfold RowOk at this
      rw [row_eq hi, e1] at this
      exact ⟨this.1, this.2.1⟩
    refine ⟨h1, h2, hR, strict_of_steps fun i h0 hi => (h3 i hi).1.2.2 h0, ?_⟩
    rw [List.pairwise_iff_getElem]
    intro i j hi hj hij
    have hI : Inc (row g.edges i) := (h3 i hi).1.2.1.1
    have hJ : Inc (row g.edges j) := (h3 j hj).1.2.1.1
    have a := (h3 i hi).2 j hj (by omega)
    have b := (h3 j hj).2 i hi (by omega)
    rw [row_eq hi] at hI
    rw [row_eq hj] at hJ
    rw [row_eq hi, row_eq hj] at a b
    unfold Apart
    refine ⟨Bool.eq_false_iff.2 fun h => ?_, Bool.eq_false_iff.2 fun h => ?_⟩
    · rw [isSub_of _ _ hI hJ (subB_iff.1 h)] at a
      cases a
    · rw [isSub_of _ _ hJ hI (subB_iff.1 h)] at b
      cases b
/-- The lists' order, a place at a time. -/
theorem lex_at {a b : List Int} {i : Nat} (ha : i < a.length) (hb : i < b.length) (he : ∀ j, j < i → nth a j = nth b j) (hne : nth a i ≠ nth b i) : lexCmp a b < 0 ↔ nth a i < nth b i := by
  induction i generalizing a b with
  | zero =>
    cases a with
    | nil => simp at ha
    | cons x a =>
      cases b with
      | nil => simp at hb
      | cons y b =>
        have e1 : nth (x :: a) 0 = x := rfl
        have e2 : nth (y :: b) 0 = y := rfl
        rw [e1, e2] at hne ⊢
        rw [lexCmp]
        split
        · omega
        · split <;> omega
  | succ i ih =>
    cases a with
    | nil => simp at ha
    | cons x a =>
      cases b with
      | nil => simp at hb
      | cons y b =>
        have h0 : x = y := he 0 (by omega)
        subst h0
        rw [lexCmp, if_neg (by omega), if_neg (by omega)]
        exact ih (a := a) (b := b) (by simpa using ha) (by simpa using hb) (fun j hj => he (j + 1) (by omega)) hne
theorem lex_len {a b : List Int} (he : ∀ j, j < a.length → j < b.length → nth a j = nth b j) : lexCmp a b < 0 ↔ a.length < b.length := by
  induction a generalizing b with
  | nil => cases b <;> simp [lexCmp]
  | cons x a ih =>
    cases b with
    | nil => simp [lexCmp]
    | cons y b =>
      have h0 : x = y := he 0 (by simp) (by simp)
      subst h0
      rw [lexCmp, if_neg (by omega), if_neg (by omega), ih (fun j h1 h2 => he (j + 1) (by simpa using h1) (by simpa using h2))]
      simp
end Go.Proofs.YthjifmfmaiagoaaGreatDoor

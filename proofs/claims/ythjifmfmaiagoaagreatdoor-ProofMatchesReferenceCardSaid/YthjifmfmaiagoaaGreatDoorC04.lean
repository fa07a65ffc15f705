/- C04: texts H12. -/
import Derived.Sort.LotA
set_option linter.all false

/- The stable sort's plain law: exchange of ranges, rotation, and the merge by rotation. -/
namespace Go.Proofs.YthjifmfmaiagoaaGreatDoor
open Go.Sort
variable {α : Type} [Inhabited α] {lt : α → α → Bool}

def swapTo (d : Array α) (a b : Nat) : Nat → Array α
  | 0 => d
  | i + 1 => swp (swapTo d a b i) (a + i) (b + i)
theorem size_swapTo (d : Array α) (a b : Nat) : ∀ n, (swapTo d a b n).size = d.size
  | 0 => rfl
  | n + 1 => by rw [swapTo, size_swp, size_swapTo d a b n]
theorem swapTo_get (d : Array α) (a b : Nat) : ∀ n, a + n ≤ b → b + n ≤ d.size → ∀ k, (swapTo d a b n)[k]! = if a ≤ k ∧ k < a + n then d[k + (b - a)]! else if b ≤ k ∧ k < b + n then d[k - (b - a)]! else d[k]!
  | 0, _, _, k => by rw [swapTo, if_neg (by omega), if_neg (by omega)]
  | n + 1, h1, h2, k => by
    have ih := swapTo_get d a b n (by omega) (by omega)
    have hs := size_swapTo d a b n
    rw [swapTo, swp_get _ (by omega) (by omega)]
    by_cases e1 : k = b + n
    · subst e1
      rw [if_pos rfl, ih, if_neg (by omega), if_neg (by omega), if_neg (by omega), if_pos (by omega)]
      congr 1
      omega
    · rw [if_neg e1]
      by_cases e2 : k = a + n
      · subst e2
        rw [if_pos rfl, ih, if_neg (by omega), if_neg (by omega), if_pos (by omega)]
        congr 1
        omega
      · rw [if_neg e2, ih]
        by_cases c1 : a ≤ k ∧ k < a + n
        · rw [if_pos c1, if_pos (by omega)]
        · rw [if_neg c1, if_neg (c := a ≤ k ∧ k < a + (n + 1)) (by omega)]
          by_cases c2 : b ≤ k ∧ k < b + n
          · rw [if_pos c2, if_pos (by omega)]
          · rw [if_neg c2, if_neg (c := b ≤ k ∧ k < b + (n + 1)) (by omega)]
theorem swapTo_perm (d : Array α) (a b lo hi : Nat) (hlo : lo ≤ a) : ∀ n, a + n ≤ b → b + n ≤ hi → hi ≤ d.size → PermIn lo hi d (swapTo d a b n)
  | 0, _, _, _ => permIn_refl d lo hi
  | n + 1, h1, h2, h3 => by
    have hs := size_swapTo d a b n
    exact permIn_trans _ _ _ lo hi (swapTo_perm d a b lo hi hlo n (by omega) (by omega) h3) (swp_permIn (swapTo d a b n) lo hi (a + n) (b + n) (by omega) (by omega) (by omega) (by omega) (by omega))

/-- The rotation: [a, m) and [m, b) change places. -/
def Rotated (d : Array α) (a m b : Nat) (d' : Array α) : Prop :=
  PermIn a b d d' ∧ ∀ k, d'[k]! = if a ≤ k ∧ k < a + (b - m) then d[k + (m - a)]! else if a + (b - m) ≤ k ∧ k < b then d[k - (b - m)]! else d[k]!
/-- Between two rounds: what lies at the places yet to be turned. -/
def Rot (t : Nat → α) (m i j : Nat) (c : Array α) : Prop :=
  ∀ k, t k = if m ≤ k + i ∧ k + i < m + j then c[k + i]! else if m + j ≤ k + i ∧ k < m + j then c[k - j]! else c[k]!
theorem Rot.start (d : Array α) (a m b : Nat) (h1 : a ≤ m) (h2 : m ≤ b) : Rot (fun k => if a ≤ k ∧ k < a + (b - m) then d[k + (m - a)]! else if a + (b - m) ≤ k ∧ k < b then d[k - (b - m)]! else d[k]!) m (m - a) (b - m) d := by
  intro k
  simp only []
  by_cases c1 : a ≤ k ∧ k < a + (b - m)
  · rw [if_pos c1, if_pos (by omega)]
  · rw [if_neg c1, if_neg (c := m ≤ k + (m - a) ∧ k + (m - a) < m + (b - m)) (by omega)]
    by_cases c2 : a + (b - m) ≤ k ∧ k < b
    · rw [if_pos c2, if_pos (by omega)]
    · rw [if_neg c2, if_neg (by omega)]
theorem Rot.left {t : Nat → α} {m i j : Nat} {c : Array α} (h : Rot t m i j c) (hij : j < i) (him : i ≤ m) (hs : m + j ≤ c.size) : Rot t m (i - j) j (swapTo c (m - i) m j) := by
  intro k
  have g := swapTo_get c (m - i) m j (by omega) (by omega)
  rw [h k, g, g, g]
  have e0 : m - (m - i) = i := by omega
  rw [e0]
  by_cases c1 : m ≤ k + i ∧ k + i < m + j
  · rw [if_pos c1, if_neg (by omega), if_neg (by omega), if_pos (by omega)]
  · rw [if_neg c1]
    by_cases c2 : m + j ≤ k + i ∧ k < m + j
    · rw [if_pos c2]
      by_cases c3 : m ≤ k + (i - j) ∧ k + (i - j) < m + j
      · rw [if_pos c3, if_neg (by omega), if_pos (by omega)]
        congr 1
        omega
      · rw [if_neg c3, if_pos (by omega), if_neg (by omega), if_neg (by omega)]
    · rw [if_neg c2, if_neg (by omega), if_neg (by omega), if_neg (by omega), if_neg (by omega)]
theorem Rot.right {t : Nat → α} {m i j : Nat} {c : Array α} (h : Rot t m i j c) (hij : i < j) (him : i ≤ m) (hs : m + j ≤ c.size) : Rot t m i (j - i) (swapTo c (m - i) (m + j - i) i) := by
  intro k
  have g := swapTo_get c (m - i) (m + j - i) i (by omega) (by omega)
  rw [h k, g, g, g]
  have e0 : m + j - i - (m - i) = j := by omega
  rw [e0]
  by_cases c1 : m ≤ k + i ∧ k + i < m + j
  · rw [if_pos c1]
    by_cases c3 : m ≤ k + i ∧ k + i < m + (j - i)
    · rw [if_pos c3, if_neg (by omega), if_neg (by omega)]
    · rw [if_neg c3]
      by_cases c4 : m + (j - i) ≤ k + i ∧ k < m + (j - i)
      · rw [if_pos c4, if_pos (by omega)]
        congr 1
        omega
      · omega
  · rw [if_neg c1]
    by_cases c2 : m + j ≤ k + i ∧ k < m + j
    · rw [if_pos c2, if_neg (by omega), if_neg (by omega), if_neg (by omega), if_pos (by omega)]
    · rw [if_neg c2, if_neg (by omega), if_neg (by omega), if_neg (by omega), if_neg (by omega)]
theorem Rot.last {t : Nat → α} {m i : Nat} {c : Array α} (h : Rot t m i i c) (him : i ≤ m) (hs : m + i ≤ c.size) (k : Nat) : (swapTo c (m - i) m i)[k]! = t k := by
  have g := swapTo_get c (m - i) m i (by omega) (by omega)
  have e0 : m - (m - i) = i := by omega
  rw [h k, g, e0]
  by_cases c1 : m ≤ k + i ∧ k + i < m + i
  · rw [if_pos c1, if_pos (by omega)]
  · rw [if_neg c1, if_neg (c := m - i ≤ k ∧ k < m - i + i) (by omega)]
    by_cases c2 : m + i ≤ k + i ∧ k < m + i
    · rw [if_pos c2, if_pos (by omega)]
    · rw [if_neg c2, if_neg (by omega)]

theorem SortedIn.same {a b : Nat} {d d' : Array α} (h : SortedIn lt a b d) (he : ∀ k, a ≤ k → k < b → d'[k]! = d[k]!) : SortedIn lt a b d' := by
  intro i j h1 h2 h3
  rw [he i h1 (by omega), he j (by omega) h3]
  exact h i j h1 h2 h3
/-- Two sorted parts of which no place on the right comes before one on the left. -/
theorem SortedIn.join {a m b : Nat} {d : Array α} (h1 : SortedIn lt a m d) (h2 : SortedIn lt m b d) (h3 : ∀ i j, a ≤ i → i < m → m ≤ j → j < b → lt d[j]! d[i]! = false) : SortedIn lt a b d := by
  intro i j hi hij hj
  by_cases c1 : j < m
  · exact h1 i j hi hij c1
  · by_cases c2 : m ≤ i
    · exact h2 i j c2 hij hj
    · exact h3 i j hi (by omega) (by omega) hj

/-- What the search for the place of the cut has found. -/
structure Cut (lt : α → α → Bool) (a m b s e : Nat) (d : Array α) : Prop where
  as : a ≤ s
  sm : s ≤ m
  me : m ≤ e
  eb : e ≤ b
  /-- nothing of [e, b) comes before anything of [a, s) -/
  left : a < s → e < b → lt d[e]! d[s - 1]! = false
  /-- what lies in [m, e) comes before what lies in [s, m) -/
  right : s < m → m < e → lt d[e - 1]! d[s]! = true
/-- Behind the rotation: two halves, each of two sorted parts, and nothing of the right one comes before anything of the left one. -/
theorem Cut.halves (hS : SWO lt) {a m b s e : Nat} {d d' : Array α} (h : Cut lt a m b s e d) (h1 : SortedIn lt a m d) (h2 : SortedIn lt m b d) (hr : Rotated d s m e d') :
    SortedIn lt a s d' ∧ SortedIn lt s (s + (e - m)) d' ∧ SortedIn lt (s + (e - m)) e d' ∧ SortedIn lt e b d' ∧ ∀ i j, a ≤ i → i < s + (e - m) → s + (e - m) ≤ j → j < b → lt d'[j]! d'[i]! = false := by
  obtain ⟨i1, i2, i3, i4, i5, i6⟩ := h
  have g := hr.2
  refine ⟨?_, ?_, ?_, ?_, ?_⟩
  · intro i j hi hij hj
    rw [g, g, if_neg (by omega), if_neg (by omega), if_neg (by omega), if_neg (by omega)]
    exact h1 i j hi hij (by omega)
  · intro i j hi hij hj
    rw [g, g, if_pos (by omega), if_pos (by omega)]
    exact h2 _ _ (by omega) (by omega) (by omega)
  · intro i j hi hij hj
    rw [g, g, if_neg (by omega), if_pos (by omega), if_neg (by omega), if_pos (by omega)]
    exact h1 _ _ (by omega) (by omega) (by omega)
  · intro i j hi hij hj
    rw [g, g, if_neg (by omega), if_neg (by omega), if_neg (by omega), if_neg (by omega)]
    exact h2 i j (by omega) hij (by omega)
  · intro i j hi him hmj hj
    -- where the two came from
    have hA : ∀ x y, a ≤ x → x ≤ y → y < m → lt d[y]! d[x]! = false := fun x y k1 k2 k3 => by
      rcases Nat.lt_or_eq_of_le k2 with k | k
      · exact h1 x y k1 k k3
      · rw [k]; exact hS.irrefl _
    have hB : ∀ x y, m ≤ x → x ≤ y → y < b → lt d[y]! d[x]! = false := fun x y k1 k2 k3 => by
      rcases Nat.lt_or_eq_of_le k2 with k | k
      · exact h2 x y k1 k k3
      · rw [k]; exact hS.irrefl _
    have hi' : (i < s ∧ d'[i]! = d[i]!) ∨ (s ≤ i ∧ d'[i]! = d[i + (m - s)]!) := by
      rw [g]
      by_cases c : s ≤ i
      · exact .inr ⟨c, by rw [if_pos (by omega)]⟩
      · exact .inl ⟨by omega, by rw [if_neg (by omega), if_neg (by omega)]⟩
    have hj' : (j < e ∧ d'[j]! = d[j - (e - m)]!) ∨ (e ≤ j ∧ d'[j]! = d[j]!) := by
      rw [g]
      by_cases c : j < e
      · exact .inl ⟨c, by rw [if_neg (by omega), if_pos (by omega)]⟩
      · exact .inr ⟨by omega, by rw [if_neg (by omega), if_neg (by omega)]⟩
    rcases hi' with ⟨k1, e1⟩ | ⟨k1, e1⟩ <;> rcases hj' with ⟨k2, e2⟩ | ⟨k2, e2⟩
    · rw [e1, e2]
      exact hA _ _ hi (by omega) (by omega)
    · rw [e1, e2]
      have q1 := i5 (by omega) (by omega)
      exact hS.ntrans _ _ _ (hS.ntrans _ _ _ (hB e j (by omega) (by omega) hj) q1) (hA i (s - 1) hi (by omega) (by omega))
    · rw [e1, e2]
      have q1 := hS.asymmA (i6 (by omega) (by omega))
      exact hS.ntrans _ _ _ (hS.ntrans _ _ _ (hA s _ (by omega) (by omega) (by omega)) q1) (hB _ (e - 1) (by omega) (by omega) (by omega))
    · rw [e1, e2]
      exact hB _ _ (by omega) (by omega) hj
/-- A permutation of a part leaves a bound on all that lies in it. -/
theorem PermIn.sep {a m b : Nat} {d d1 d2 : Array α} (hb : b ≤ d.size) (hp1 : PermIn a m d d1) (hp2 : PermIn m b d1 d2) (ham : a ≤ m) (hmb : m ≤ b) (h : ∀ i j, a ≤ i → i < m → m ≤ j → j < b → lt d[j]! d[i]! = false) :
    ∀ i j, a ≤ i → i < m → m ≤ j → j < b → lt d2[j]! d2[i]! = false := by
  intro i j hi him hmj hj
  have s1 : ∀ i, a ≤ i → i < m → ∀ j, m ≤ j → j < b → lt d[j]! d1[i]! = false :=
    permIn_all d d1 a m (fun x => ∀ j, m ≤ j → j < b → lt d[j]! x = false) (by omega) hp1 (fun i k1 k2 j k3 k4 => h i j k1 k2 k3 k4)
  have s2 : ∀ j, m ≤ j → j < b → ∀ i, a ≤ i → i < m → lt d2[j]! d1[i]! = false :=
    permIn_all d1 d2 m b (fun x => ∀ i, a ≤ i → i < m → lt x d1[i]! = false) (by rw [hp1.1]; omega) hp2 (fun j k1 k2 i k3 k4 => by rw [hp1.2.1 j (by omega)]; exact s1 i k3 k4 j k1 k2)
  rw [hp2.2.1 i (by omega)]
  exact s2 j hmj hj i hi him

/-- Blocks of one length, each sorted. -/
def Blocks (lt : α → α → Bool) (bs lo hi n : Nat) (d : Array α) : Prop := ∀ k, lo ≤ k * bs → k * bs < hi → SortedIn lt (k * bs) (min (k * bs + bs) n) d
theorem Blocks.same {bs lo hi n : Nat} {d d' : Array α} (h : Blocks lt bs lo hi n d) (he : ∀ k, lo ≤ k → k < min n (hi + bs) → d'[k]! = d[k]!) : Blocks lt bs lo hi n d' :=
  fun k h1 h2 => SortedIn.same (h k h1 h2) fun i k1 k2 => he i (by omega) (by omega)
theorem Blocks.snoc {bs q n : Nat} {d : Array α} (h : Blocks lt bs 0 (q * bs) n d) (h2 : SortedIn lt (q * bs) (min (q * bs + bs) n) d) (hbs : 0 < bs) : Blocks lt bs 0 ((q + 1) * bs) n d := by
  intro k h1 h3
  have hk : k < q + 1 := Nat.lt_of_mul_lt_mul_right h3
  rcases Nat.lt_or_ge k q with c | c
  · exact h k h1 (Nat.mul_lt_mul_of_pos_right c hbs)
  · have : k = q := by omega
    subst this
    exact h2
end Go.Proofs.YthjifmfmaiagoaaGreatDoor

/- C01: texts M0 M1 M2 M3 M4 M6 M9 M10 H0 H1 H2 H3. -/
import Derived.BigQuiet
import Derived.Deep.AppendLies
import Derived.Deep.LoopGhost
import Derived.Deep.QuietTactic
import Derived.IntWalk
import Derived.Lib.Walk
import Derived.Maps.AppendAt
import Derived.Shelf.Abstract
import Derived.WalkKit
import Derived.WalkSpells
import Derived.Test.YthjifmfmaiagoaaGreatDoorProg
set_option linter.all false

/- Plain words on lists of numbers: elements by their place, increasing lists; ways and graphs as data. Nothing of the program stands here. -/
namespace Go.Proofs.YthjifmfmaiagoaaGreatDoor

/-- Element i of a list of numbers. -/
def nth (l : List Int) (i : Nat) : Int := l.getD i 0
theorem nth_eq {l : List Int} {i : Nat} (h : i < l.length) : nth l i = l[i] := by
  unfold nth
  rw [List.getD_eq_getElem?_getD, List.getElem?_eq_getElem h]
  rfl
theorem nth_mem {l : List Int} {i : Nat} (h : i < l.length) : nth l i ∈ l := by
  rw [nth_eq h]
  exact List.getElem_mem h
/-- Element i of a list of lists. -/
def row (l : List (List Int)) (i : Nat) : List Int := l.getD i []
theorem row_eq {l : List (List Int)} {i : Nat} (h : i < l.length) : row l i = l[i] := by
  unfold row
  rw [List.getD_eq_getElem?_getD, List.getElem?_eq_getElem h]
  rfl
theorem row_mem {l : List (List Int)} {i : Nat} (h : i < l.length) : row l i ∈ l := by
  rw [row_eq h]
  exact List.getElem_mem h

/-- A way. -/
structure Way where
  pos : List Int
  neg : List Int
  deriving DecidableEq
def way (l : List Way) (i : Nat) : Way := l.getD i ⟨[], []⟩
theorem way_eq {l : List Way} {i : Nat} (h : i < l.length) : way l i = l[i] := by
  unfold way
  rw [List.getD_eq_getElem?_getD, List.getElem?_eq_getElem h]
  rfl
theorem way_mem {l : List Way} {i : Nat} (h : i < l.length) : way l i ∈ l := by
  rw [way_eq h]
  exact List.getElem_mem h
/-- A graph. -/
structure Graph where
  n : Int
  cost : List Int
  edges : List (List Int)
  deriving DecidableEq
/-- Increasing. -/
def Inc (l : List Int) : Prop := l.Pairwise (· < ·)
instance (l : List Int) : Decidable (Inc l) := inferInstanceAs (Decidable (l.Pairwise (· < ·)))
theorem inc_iff (l : List Int) : Inc l ↔ ∀ i j, i < j → j < l.length → nth l i < nth l j := by
  unfold Inc
  rw [List.pairwise_iff_getElem]
  constructor
  · intro h i j hij hj
    rw [nth_eq (by omega : i < l.length), nth_eq hj]
    exact h i j (by omega) hj hij
  · intro h i j hi hj hij
    have := h i j hij hj
    rwa [nth_eq hi, nth_eq hj] at this
theorem inc_of_steps {l : List Int} (h : ∀ i, 0 < i → i < l.length → nth l (i - 1) < nth l i) : Inc l := by
  rw [inc_iff]
  intro i j hij hj
  obtain ⟨d, rfl⟩ : ∃ d, j = i + 1 + d := ⟨j - (i + 1), by omega⟩
  clear hij
  induction d with
  | zero => exact h (i + 1) (by omega) hj
  | succ d ih => exact Int.lt_trans (ih (by omega)) (h (i + 1 + (d + 1)) (by omega) hj)
theorem inc_le {l : List Int} (h : Inc l) {i j : Nat} (hij : i ≤ j) (hj : j < l.length) : nth l i ≤ nth l j := by
  rcases Nat.lt_or_ge i j with h1 | h1
  · exact Int.le_of_lt ((inc_iff l).1 h i j h1 hj)
  · obtain rfl : i = j := by omega
    exact Int.le_refl _
/-- A set of numbers from 0 on, below N. -/
def Verts (l : List Int) (N : Int) : Prop := Inc l ∧ ∀ x ∈ l, 0 ≤ x ∧ x < N
instance (l : List Int) (N : Int) : Decidable (Verts l N) := inferInstanceAs (Decidable (_ ∧ _))
theorem mem_iff_nth {l : List Int} {x : Int} : x ∈ l ↔ ∃ i, i < l.length ∧ nth l i = x := by
  constructor
  · intro h
    obtain ⟨i, hi, e⟩ := List.mem_iff_getElem.1 h
    exact ⟨i, hi, by rw [nth_eq hi]; exact e⟩
  · rintro ⟨i, hi, rfl⟩
    exact nth_mem hi

/-- How many elements are less than x. -/
def below (l : List Int) (x : Int) : Nat := l.countP (· < x)
theorem below_le (l : List Int) (x : Int) : below l x ≤ l.length := List.countP_le_length
theorem search_end {l : List Int} (hs : Inc l) (x : Int) (k : Nat) (hk : k ≤ l.length) (h1 : ∀ t, t < k → nth l t < x) (h2 : ∀ t, k ≤ t → t < l.length → x ≤ nth l t) :
    below l x = k ∧ (x ∈ l ↔ k < l.length ∧ nth l k = x) := by
  constructor
  · unfold below
    have e : l = l.take k ++ l.drop k := (List.take_append_drop k l).symm
    rw [e, List.countP_append, List.countP_eq_length.2, List.countP_eq_zero.2]
    · rw [List.length_take]; omega
    · intro a ha
      obtain ⟨i, hi, rfl⟩ := List.mem_iff_getElem.1 ha
      rw [List.length_drop] at hi
      have := h2 (k + i) (by omega) (by omega)
      rw [nth_eq (by omega : k + i < l.length)] at this
      rw [List.getElem_drop]
      simp
      omega
    · intro a ha
      obtain ⟨i, hi, rfl⟩ := List.mem_iff_getElem.1 ha
      rw [List.length_take] at hi
      have := h1 i (by omega)
      rw [nth_eq (by omega : i < l.length)] at this
      rw [List.getElem_take]
      simp
      omega
  · rw [mem_iff_nth]
    constructor
    · rintro ⟨i, hi, e⟩
      rcases Nat.lt_trichotomy i k with h | h | h
      · have := h1 i h
        omega
      · subst h
        exact ⟨hi, e⟩
      · have h3 := (inc_iff l).1 hs k i h hi
        have h4 := h2 k (Nat.le_refl _) (by omega)
        omega
    · rintro ⟨h, e⟩
      exact ⟨k, h, e⟩
theorem below_spec {l : List Int} (hs : Inc l) (x : Int) : (∀ t, t < below l x → nth l t < x) ∧ (∀ t, below l x ≤ t → t < l.length → x ≤ nth l t) := by
  -- the first place that is not less
  have key : ∀ d k, k + d = l.length → (∀ t, t < k → nth l t < x) → ∃ m, k ≤ m ∧ m ≤ l.length ∧ (∀ t, t < m → nth l t < x) ∧ (m < l.length → x ≤ nth l m) := by
    intro d
    induction d with
    | zero => exact fun k hk h => ⟨k, Nat.le_refl _, by omega, h, fun h2 => by omega⟩
    | succ d ih =>
      intro k hk h
      by_cases hx : nth l k < x
      · obtain ⟨m, h1, h2⟩ := ih (k + 1) (by omega) (fun t ht => by
          rcases Nat.lt_or_ge t k with h3 | h3
          · exact h t h3
          · obtain rfl : t = k := by omega
            exact hx)
        exact ⟨m, by omega, h2⟩
      · exact ⟨k, Nat.le_refl _, by omega, h, fun _ => by omega⟩
  obtain ⟨m, _, hm, h1, h2⟩ := key l.length 0 (by omega) (fun t ht => absurd ht (Nat.not_lt_zero _))
  have h3 : ∀ t, m ≤ t → t < l.length → x ≤ nth l t := fun t ht htl => Int.le_trans (h2 (by omega)) (inc_le hs ht htl)
  have := (search_end hs x m hm h1 h3).1
  rw [this]
  exact ⟨h1, h3⟩
theorem below_mem {l : List Int} (hs : Inc l) {x : Int} (hx : x ∈ l) : below l x < l.length ∧ nth l (below l x) = x := by
  have h := below_spec hs x
  exact (search_end hs x (below l x) (below_le l x) h.1 h.2).2.1 hx
theorem inc_drop {l : List Int} (hs : Inc l) (k : Nat) : Inc (l.drop k) := List.Pairwise.sublist (List.drop_sublist k l) hs
theorem nth_drop (l : List Int) (k i : Nat) : nth (l.drop k) i = nth l (k + i) := by
  unfold nth
  rw [List.getD_eq_getElem?_getD, List.getD_eq_getElem?_getD, List.getElem?_drop]
theorem mem_drop {r : List Int} (hs : Inc r) {v x : Int} (hv : v ∈ r) (hx : v < x) : x ∈ r ↔ x ∈ r.drop (below r v + 1) := by
  constructor
  · intro h
    obtain ⟨i, hi, rfl⟩ := mem_iff_nth.1 h
    have hb := below_mem hs hv
    have : below r v < i := by
      rcases Nat.lt_or_ge (below r v) i with h1 | h1
      · exact h1
      · have := inc_le hs h1 hb.1
        omega
    refine mem_iff_nth.2 ⟨i - (below r v + 1), by rw [List.length_drop]; omega, ?_⟩
    rw [nth_drop]
    congr 1
    omega
  · exact fun h => List.mem_of_mem_drop h
theorem verts_iff (l : List Int) (N : Int) : Verts l N ↔ Inc l ∧ (l.length = 0 ∨ 0 ≤ nth l 0 ∧ nth l (l.length - 1) < N) := by
  constructor
  · rintro ⟨h, hh⟩
    refine ⟨h, ?_⟩
    rcases Nat.eq_zero_or_pos l.length with h0 | h0
    · exact .inl h0
    · exact .inr ⟨(hh _ (nth_mem (by omega))).1, (hh _ (nth_mem (by omega))).2⟩
  · rintro ⟨h, hh⟩
    refine ⟨h, fun x hx => ?_⟩
    obtain ⟨i, hi, rfl⟩ := mem_iff_nth.1 hx
    rcases hh with hh | ⟨h1, h2⟩
    · omega
    · have h3 := inc_le h (Nat.zero_le i) hi
      have h4 := inc_le h (show i ≤ l.length - 1 by omega) (by omega)
      omega
/-- A way holds in a set. -/
def HoldsW (w : Way) (l : List Int) : Prop := Inc w.pos ∧ Inc w.neg ∧ Inc l ∧ (∀ v ∈ w.pos, v ∈ l) ∧ ∀ v ∈ w.neg, v ∉ l
instance (w : Way) (l : List Int) : Decidable (HoldsW w l) := inferInstanceAs (Decidable (_ ∧ _))
end Go.Proofs.YthjifmfmaiagoaaGreatDoor

/- The plain law of a proof's check. -/
namespace Go.Proofs.YthjifmfmaiagoaaGreatDoor

/-- A step of a proof. -/
structure Step where
  kind : Int
  at_ : Int
  in_ : Int
  out : Int
  deriving DecidableEq
def stepv (l : List Step) (i : Nat) : Step := l.getD i ⟨0, 0, 0, 0⟩
theorem stepv_eq {l : List Step} {i : Nat} (h : i < l.length) : stepv l i = l[i] := by
  unfold stepv
  rw [List.getD_eq_getElem?_getD, List.getElem?_eq_getElem h]
  rfl
def nthB (l : List Bool) (i : Nat) : Bool := l.getD i false
theorem nthB_eq {l : List Bool} {i : Nat} (h : i < l.length) : nthB l i = l[i] := by
  unfold nthB
  rw [List.getD_eq_getElem?_getD, List.getElem?_eq_getElem h]
  rfl
/-- The decision on a vertex. -/
def stv (st : List Int) (v : Int) : Int := nth st v.toNat
def areB (st : List Int) (want : Int) (l : List Int) : Bool := !l.any fun v => decide (stv st v ≠ want)
def someB (st : List Int) (want : Int) (l : List Int) : Bool := l.any fun v => decide (stv st v = want)
def otherB (st : List Int) (v : Int) (e : List Int) : Bool := e.any fun u => decide (u ≠ v) && decide (stv st u = 2)
def clashB (g : Graph) (st : List Int) (x : Step) : Bool := decide (0 ≤ x.at_) && decide (x.at_ < (g.edges.length : Int)) && areB st 1 (row g.edges x.at_.toNat)
def freeB (g : Graph) (st : List Int) (x : Step) : Bool := decide (0 ≤ x.at_) && decide (x.at_ < g.n) && decide (stv st x.at_ = 2) && g.edges.all fun e => decide (x.at_ ∉ e) || otherB st x.at_ e
def wayB (ws : List Way) (hold : Bool) (st : List Int) (x : Step) : Bool := !hold && decide (0 ≤ x.at_) && decide (x.at_ < (ws.length : Int)) && areB st 1 (way ws x.at_.toNat).pos && areB st 2 (way ws x.at_.toNat).neg
def noneB (ws : List Way) (hold : Bool) (st : List Int) (x : Step) : Bool := hold && decide (x.at_ = 0) && !ws.any fun w => !someB st 2 w.pos && !someB st 1 w.neg
def leafB (g : Graph) (ws : List Way) (hold : Bool) (st : List Int) (x : Step) : Bool :=
  if x.kind = 2 then clashB g st x else if x.kind = 3 then freeB g st x else if x.kind = 4 then wayB ws hold st x else if x.kind = 5 then noneB ws hold st x else false
/-- A branch may be taken. -/
def branchB (g : Graph) (m : Nat) (at_ : Nat) (st : List Int) (x : Step) : Bool :=
  decide (0 ≤ x.at_) && decide (x.at_ < g.n) && decide (stv st x.at_ = 0) && decide ((at_ : Int) < x.in_) && decide ((at_ : Int) < x.out) && decide (x.in_ < (m : Int)) && decide (x.out < (m : Int))
/-- Checking a step: the steps that were seen, or nothing. -/
def rightM (g : Graph) (ws : List Way) (hold : Bool) (ss : List Step) : Nat → Nat → List Int → List Bool → Option (List Bool)
  | 0, _, _, _ => none
  | f + 1, at_, st, seen =>
    let x := stepv ss at_
    if nthB seen at_ then none
    else if x.kind = 1 then
      if branchB g ss.length at_ st x then
        (rightM g ws hold ss f x.in_.toNat (st.set x.at_.toNat 1) (seen.set at_ true)).bind fun s2 => rightM g ws hold ss f x.out.toNat (st.set x.at_.toNat 2) s2
      else none
    else if x.in_ = 0 ∧ x.out = 0 ∧ leafB g ws hold st x = true then some (seen.set at_ true) else none
theorem rightM_length (g : Graph) (ws : List Way) (hold : Bool) (ss : List Step) : ∀ (f at_ : Nat) (st : List Int) (seen s2 : List Bool), rightM g ws hold ss f at_ st seen = some s2 → s2.length = seen.length
  | 0, _, _, _, _, h => by simp [rightM] at h
  | f + 1, at_, st, seen, s2, h => by
    rw [rightM] at h
    by_cases c1 : nthB seen at_ = true
    · rw [if_pos c1] at h; simp at h
    · rw [if_neg c1] at h
      by_cases c2 : (stepv ss at_).kind = 1
      · rw [if_pos c2] at h
        by_cases c3 : branchB g ss.length at_ st (stepv ss at_) = true
        · rw [if_pos c3] at h
          obtain ⟨s1, h1, h2⟩ := Option.bind_eq_some_iff.1 h
          rw [rightM_length g ws hold ss f _ _ _ _ h2, rightM_length g ws hold ss f _ _ _ _ h1, List.length_set]
        · rw [if_neg c3] at h; simp at h
      · rw [if_neg c2] at h
        split at h
        · cases h; simp
        · simp at h
end Go.Proofs.YthjifmfmaiagoaaGreatDoor

/- The plain law of a proof's check: more ways, more steps, no leaves, and that what is checked is so. -/
namespace Go.Proofs.YthjifmfmaiagoaaGreatDoor

theorem way_append {ws more : List Way} {i : Nat} (h : i < ws.length) : way (ws ++ more) i = way ws i := by
  unfold way
  rw [List.getD_eq_getElem?_getD, List.getD_eq_getElem?_getD, List.getElem?_append_left h]
theorem stepv_append {ss l : List Step} {i : Nat} (h : i < ss.length) : stepv (ss ++ l) i = stepv ss i := by
  unfold stepv
  rw [List.getD_eq_getElem?_getD, List.getD_eq_getElem?_getD, List.getElem?_append_left h]
theorem nthB_append {s l : List Bool} {i : Nat} (h : i < s.length) : nthB (s ++ l) i = nthB s i := by
  unfold nthB
  rw [List.getD_eq_getElem?_getD, List.getD_eq_getElem?_getD, List.getElem?_append_left h]

/-- What one check of a step that is right says. -/
theorem rightM_some {g : Graph} {ws : List Way} {hold : Bool} {ss : List Step} {f at_ : Nat} {st : List Int} {seen s2 : List Bool} (h : rightM g ws hold ss (f + 1) at_ st seen = some s2) :
    nthB seen at_ = false ∧ (((stepv ss at_).kind = 1 ∧ branchB g ss.length at_ st (stepv ss at_) = true ∧ ∃ s1, rightM g ws hold ss f (stepv ss at_).in_.toNat (st.set (stepv ss at_).at_.toNat 1) (seen.set at_ true) = some s1 ∧ rightM g ws hold ss f (stepv ss at_).out.toNat (st.set (stepv ss at_).at_.toNat 2) s1 = some s2)
      ∨ ((stepv ss at_).kind ≠ 1 ∧ (stepv ss at_).in_ = 0 ∧ (stepv ss at_).out = 0 ∧ leafB g ws hold st (stepv ss at_) = true ∧ s2 = seen.set at_ true)) := by
  rw [rightM] at h
  by_cases c1 : nthB seen at_ = true
  · rw [if_pos c1] at h; simp at h
  · rw [if_neg c1] at h
    refine ⟨by simpa using c1, ?_⟩
    by_cases c2 : (stepv ss at_).kind = 1
    · rw [if_pos c2] at h
      by_cases c3 : branchB g ss.length at_ st (stepv ss at_) = true
      · rw [if_pos c3] at h
        obtain ⟨s1, h1, h2⟩ := Option.bind_eq_some_iff.1 h
        exact .inl ⟨c2, c3, s1, h1, h2⟩
      · rw [if_neg c3] at h; simp at h
    · rw [if_neg c2] at h
      split at h
      · rename_i c4
        cases h
        exact .inr ⟨c2, c4.1, c4.2.1, c4.2.2, rfl⟩
      · simp at h
theorem rightM_branch {g : Graph} {ws : List Way} {hold : Bool} {ss : List Step} {f at_ : Nat} {st : List Int} {seen s1 s2 : List Bool} (h0 : nthB seen at_ = false) (h1 : (stepv ss at_).kind = 1) (h2 : branchB g ss.length at_ st (stepv ss at_) = true)
    (h3 : rightM g ws hold ss f (stepv ss at_).in_.toNat (st.set (stepv ss at_).at_.toNat 1) (seen.set at_ true) = some s1) (h4 : rightM g ws hold ss f (stepv ss at_).out.toNat (st.set (stepv ss at_).at_.toNat 2) s1 = some s2) :
    rightM g ws hold ss (f + 1) at_ st seen = some s2 := by
  rw [rightM]
  rw [if_neg (by rw [h0]; simp), if_pos h1, if_pos h2, h3]
  exact h4
theorem rightM_leaf {g : Graph} {ws : List Way} {hold : Bool} {ss : List Step} {f at_ : Nat} {st : List Int} {seen : List Bool} (h0 : nthB seen at_ = false) (h1 : (stepv ss at_).kind ≠ 1) (h2 : (stepv ss at_).in_ = 0) (h3 : (stepv ss at_).out = 0) (h4 : leafB g ws hold st (stepv ss at_) = true) :
    rightM g ws hold ss (f + 1) at_ st seen = some (seen.set at_ true) := by
  rw [rightM]
  rw [if_neg (by rw [h0]; simp), if_neg h1, if_pos ⟨h2, h3, h4⟩]
theorem branchB_true {g : Graph} {m at_ : Nat} {st : List Int} {x : Step} (h : branchB g m at_ st x = true) : 0 ≤ x.at_ ∧ x.at_ < g.n ∧ stv st x.at_ = 0 ∧ (at_ : Int) < x.in_ ∧ (at_ : Int) < x.out ∧ x.in_ < (m : Int) ∧ x.out < (m : Int) := by
  unfold branchB at h
  simp only [Bool.and_eq_true, decide_eq_true_eq] at h
  omega

/-- As many rounds as there are steps behind are enough. -/
theorem rightM_enough {g : Graph} {ws : List Way} {hold : Bool} {ss : List Step} : ∀ (f at_ : Nat) (st : List Int) (seen : List Bool) (k : Nat), ss.length ≤ at_ + f → rightM g ws hold ss (f + k) at_ st seen = rightM g ws hold ss f at_ st seen
  | 0, at_, st, seen, 0, _ => rfl
  | 0, at_, st, seen, k + 1, h => by
    have hx : stepv ss at_ = ⟨0, 0, 0, 0⟩ := by
      unfold stepv
      rw [List.getD_eq_getElem?_getD, List.getElem?_eq_none (by omega)]
      rfl
    rw [Nat.zero_add]
    show rightM g ws hold ss (k + 1) at_ st seen = none
    rw [rightM, hx]
    simp [leafB]
  | f + 1, at_, st, seen, k, h => by
    rw [show f + 1 + k = (f + k) + 1 by omega, rightM, rightM]
    split
    · rfl
    · split
      · split
        · rename_i hb
          have hb := branchB_true hb
          rw [rightM_enough f _ _ _ k (by omega)]
          congr 1
          funext s2
          rw [rightM_enough f _ _ _ k (by omega)]
        · rfl
      · rfl

/-- Other ways by which every leaf stays right. -/
theorem rightM_ways {g : Graph} {ws ws' : List Way} {hold : Bool} {ss : List Step} (hl : ∀ st x, leafB g ws hold st x = true → leafB g ws' hold st x = true) :
    ∀ (f at_ : Nat) (st : List Int) (seen s2 : List Bool), rightM g ws hold ss f at_ st seen = some s2 → rightM g ws' hold ss f at_ st seen = some s2
  | 0, _, _, _, _, h => by simp [rightM] at h
  | f + 1, at_, st, seen, s2, h => by
    obtain ⟨h0, ⟨h1, h2, s1, h3, h4⟩ | ⟨h1, h2, h3, h4, rfl⟩⟩ := rightM_some h
    · exact rightM_branch h0 h1 h2 (rightM_ways hl f _ _ _ _ h3) (rightM_ways hl f _ _ _ _ h4)
    · exact rightM_leaf h0 h1 h2 h3 (hl _ _ h4)
theorem leafB_more {g : Graph} {ws more : List Way} (st : List Int) (x : Step) (h : leafB g ws false st x = true) : leafB g (ws ++ more) false st x = true := by
  unfold leafB at h ⊢
  by_cases k2 : x.kind = 2
  · rw [if_pos k2] at h ⊢; exact h
  rw [if_neg k2] at h ⊢
  by_cases k3 : x.kind = 3
  · rw [if_pos k3] at h ⊢; exact h
  rw [if_neg k3] at h ⊢
  by_cases k4 : x.kind = 4
  · rw [if_pos k4] at h ⊢
    unfold wayB at h ⊢
    simp only [Bool.and_eq_true, decide_eq_true_eq] at h ⊢
    obtain ⟨⟨⟨⟨h0, h1⟩, h2⟩, h3⟩, h4⟩ := h
    rw [way_append (by omega)]
    rw [List.length_append]
    exact ⟨⟨⟨⟨h0, h1⟩, by omega⟩, h3⟩, h4⟩
  rw [if_neg k4] at h ⊢
  by_cases k5 : x.kind = 5
  · rw [if_pos k5] at h
    unfold noneB at h
    simp at h
  · rw [if_neg k5] at h
    simp at h
theorem leafB_less {g : Graph} {ws more : List Way} (st : List Int) (x : Step) (h : leafB g (ws ++ more) true st x = true) : leafB g ws true st x = true := by
  unfold leafB at h ⊢
  by_cases k2 : x.kind = 2
  · rw [if_pos k2] at h ⊢; exact h
  rw [if_neg k2] at h ⊢
  by_cases k3 : x.kind = 3
  · rw [if_pos k3] at h ⊢; exact h
  rw [if_neg k3] at h ⊢
  by_cases k4 : x.kind = 4
  · rw [if_pos k4] at h
    unfold wayB at h
    simp at h
  rw [if_neg k4] at h ⊢
  by_cases k5 : x.kind = 5
  · rw [if_pos k5] at h ⊢
    unfold noneB at h ⊢
    rw [List.any_append] at h
    simp only [Bool.and_eq_true, Bool.not_eq_true', Bool.or_eq_false_iff] at h ⊢
    exact ⟨h.1, h.2.1⟩
  · rw [if_neg k5] at h
    simp at h

/-- Further steps and further fuel. -/
theorem rightM_more {g : Graph} {ws : List Way} {hold : Bool} {ss l : List Step} {pad : List Bool} :
    ∀ (f at_ : Nat) (st : List Int) (seen s2 : List Bool), seen.length = ss.length → at_ < ss.length → rightM g ws hold ss f at_ st seen = some s2 → ∀ f', f ≤ f' → rightM g ws hold (ss ++ l) f' at_ st (seen ++ pad) = some (s2 ++ pad)
  | 0, _, _, _, _, _, _, h, _, _ => by simp [rightM] at h
  | f + 1, at_, st, seen, s2, hs, ha, h, f', hf => by
    obtain ⟨f'', rfl⟩ : ∃ f'', f' = f'' + 1 := ⟨f' - 1, by omega⟩
    have e0 : stepv (ss ++ l) at_ = stepv ss at_ := stepv_append ha
    have e1 : nthB (seen ++ pad) at_ = nthB seen at_ := nthB_append (by omega)
    have e2 : (seen ++ pad).set at_ true = seen.set at_ true ++ pad := List.set_append_left _ _ (by omega)
    obtain ⟨h0, ⟨h1, h2, s1, h3, h4⟩ | ⟨h1, h2, h3, h4, rfl⟩⟩ := rightM_some h
    · have hb := branchB_true h2
      have i1 := rightM_more (l := l) (pad := pad) f _ _ _ _ (by rw [List.length_set]; exact hs) (by omega) h3 f'' (by omega)
      have hl1 := rightM_length _ _ _ _ _ _ _ _ _ h3
      rw [List.length_set] at hl1
      have i2 := rightM_more (l := l) (pad := pad) f _ _ _ _ (by omega) (by omega) h4 f'' (by omega)
      refine rightM_branch (by rw [e1]; exact h0) (by rw [e0]; exact h1) ?_ (by rw [e0, e2]; exact i1) (by rw [e0]; exact i2)
      rw [e0]
      unfold branchB at h2 ⊢
      rw [List.length_append]
      simp only [Bool.and_eq_true, decide_eq_true_eq] at h2 ⊢
      omega
    · rw [← e2]
      exact rightM_leaf (by rw [e1]; exact h0) (by rw [e0]; exact h1) (by rw [e0]; exact h2) (by rw [e0]; exact h3) (by rw [e0]; exact h4)

/-- Without a right leaf nothing is shown. -/
theorem rightM_cut {g : Graph} {ws : List Way} {hold : Bool} {ss : List Step} (hl : ∀ i, i < ss.length → (stepv ss i).kind ≠ 1 → ∀ st, leafB g ws hold st (stepv ss i) = false) :
    ∀ (f at_ : Nat) (st : List Int) (seen : List Bool), at_ < ss.length → rightM g ws hold ss f at_ st seen = none
  | 0, _, _, _, _ => rfl
  | f + 1, at_, st, seen, ha => by
    cases h : rightM g ws hold ss (f + 1) at_ st seen with
    | none => rfl
    | some s2 =>
      obtain ⟨h0, ⟨h1, h2, s1, h3, h4⟩ | ⟨h1, h2, h3, h4, rfl⟩⟩ := rightM_some h
      · have hb := branchB_true h2
        rw [rightM_cut hl f _ _ _ (by omega)] at h3
        simp at h3
      · rw [hl at_ ha h1] at h4
        simp at h4

/-- A repair: a greatest set of vertices that contains no edge. -/
def Rep (g : Graph) (R : List Int) : Prop := Verts R g.n ∧ (∀ e ∈ g.edges, ∃ u ∈ e, u ∉ R) ∧ ∀ v : Nat, (v : Int) < g.n → (v : Int) ∉ R → ∃ e ∈ g.edges, (v : Int) ∈ e ∧ ∀ u ∈ e, u ≠ v → u ∈ R
/-- What is decided is so in a set. -/
def Cons (st : List Int) (R : List Int) : Prop := ∀ v : Nat, v < st.length → (nth st v = 1 → (v : Int) ∈ R) ∧ (nth st v = 2 → (v : Int) ∉ R)
theorem nth_set' {st : List Int} {v i : Nat} (x : Int) (hi : i < st.length) : nth (st.set v x) i = if v = i then x else nth st i := by
  rw [nth_eq (by rw [List.length_set]; exact hi), nth_eq hi, List.getElem_set]
theorem Cons.set_in {st R : List Int} (h : Cons st R) {v : Nat} (hv : (v : Int) ∈ R) : Cons (st.set v 1) R := fun i hi => by
  rw [List.length_set] at hi
  rw [nth_set' _ hi]
  by_cases e : v = i
  · subst e
    rw [if_pos rfl]
    exact ⟨fun _ => hv, fun h => by omega⟩
  · rw [if_neg e]
    exact h i hi
theorem Cons.set_out {st R : List Int} (h : Cons st R) {v : Nat} (hv : (v : Int) ∉ R) : Cons (st.set v 2) R := fun i hi => by
  rw [List.length_set] at hi
  rw [nth_set' _ hi]
  by_cases e : v = i
  · subst e
    rw [if_pos rfl]
    exact ⟨fun h => by omega, fun _ => hv⟩
  · rw [if_neg e]
    exact h i hi
theorem Cons.at {st R : List Int} (h : Cons st R) {n : Int} (hst : (st.length : Int) = n) {x : Int} (h0 : 0 ≤ x) (h1 : x < n) : (stv st x = 1 → x ∈ R) ∧ (stv st x = 2 → x ∉ R) := by
  obtain ⟨v, rfl⟩ : ∃ v : Nat, x = v := ⟨x.toNat, by omega⟩
  exact h v (by omega)
/-- Some way holds in a set. -/
def holdsAny (ws : List Way) (R : List Int) : Bool := ws.any fun w => decide (HoldsW w R)
theorem areB_iff {st : List Int} {want : Int} {l : List Int} : areB st want l = true ↔ ∀ v ∈ l, stv st v = want := by
  unfold areB
  simp
theorem someB_iff {st : List Int} {want : Int} {l : List Int} : someB st want l = true ↔ ∃ v ∈ l, stv st v = want := by
  unfold someB
  simp
theorem otherB_iff {st : List Int} {v : Int} {e : List Int} : otherB st v e = true ↔ ∃ u ∈ e, u ≠ v ∧ stv st u = 2 := by
  unfold otherB
  simp
/-- What is checked is so in every repair that agrees with the decisions. -/
theorem leafB_sound {g : Graph} {ws : List Way} {hold : Bool} (he : ∀ e ∈ g.edges, Verts e g.n) (hw : ∀ w ∈ ws, Verts w.pos g.n ∧ Verts w.neg g.n) {st R : List Int} (hst : (st.length : Int) = g.n) (hR : Rep g R) (hc : Cons st R) {x : Step} (h : leafB g ws hold st x = true) :
    holdsAny ws R = !hold := by
  unfold leafB at h
  by_cases k2 : x.kind = 2
  · rw [if_pos k2] at h
    exfalso
    unfold clashB at h
    simp only [Bool.and_eq_true, decide_eq_true_eq] at h
    obtain ⟨⟨h0, h1⟩, h2⟩ := h
    have hm : row g.edges x.at_.toNat ∈ g.edges := row_mem (by omega)
    obtain ⟨u, hu, hn⟩ := hR.2.1 _ hm
    have := (he _ hm).2 u hu
    exact hn ((hc.at hst this.1 this.2).1 (areB_iff.1 h2 u hu))
  rw [if_neg k2] at h
  by_cases k3 : x.kind = 3
  · rw [if_pos k3] at h
    exfalso
    unfold freeB at h
    simp only [Bool.and_eq_true, decide_eq_true_eq, List.all_eq_true, Bool.or_eq_true] at h
    obtain ⟨⟨⟨h0, h1⟩, h2⟩, h3⟩ := h
    obtain ⟨v, hv⟩ : ∃ v : Nat, x.at_ = v := ⟨x.at_.toNat, by omega⟩
    rw [hv] at h0 h1 h2 h3
    obtain ⟨e, hee, hve, hall⟩ := hR.2.2 v h1 ((hc.at hst h0 h1).2 h2)
    rcases h3 e hee with h4 | h4
    · exact h4 hve
    · obtain ⟨u, hu, hne, hu2⟩ := otherB_iff.1 h4
      have := (he _ hee).2 u hu
      exact (hc.at hst this.1 this.2).2 hu2 (hall u hu hne)
  rw [if_neg k3] at h
  by_cases k4 : x.kind = 4
  · rw [if_pos k4] at h
    unfold wayB at h
    simp only [Bool.and_eq_true, decide_eq_true_eq, Bool.not_eq_true'] at h
    obtain ⟨⟨⟨⟨h0, h1⟩, h2⟩, h3⟩, h4⟩ := h
    subst h0
    unfold holdsAny
    rw [Bool.not_false, List.any_eq_true]
    have hm : way ws x.at_.toNat ∈ ws := way_mem (by omega)
    have hv := hw _ hm
    refine ⟨_, hm, decide_eq_true ⟨hv.1.1, hv.2.1, hR.1.1, fun v hv1 => ?_, fun v hv1 => ?_⟩⟩
    · have := hv.1.2 v hv1
      exact (hc.at hst this.1 this.2).1 (areB_iff.1 h3 v hv1)
    · have := hv.2.2 v hv1
      exact (hc.at hst this.1 this.2).2 (areB_iff.1 h4 v hv1)
  rw [if_neg k4] at h
  by_cases k5 : x.kind = 5
  · rw [if_pos k5] at h
    unfold noneB at h
    simp only [Bool.and_eq_true, decide_eq_true_eq, Bool.not_eq_true', List.any_eq_false, Bool.not_eq_true] at h
    obtain ⟨⟨h0, h1⟩, h2⟩ := h
    subst h0
    unfold holdsAny
    rw [Bool.not_true, List.any_eq_false]
    intro w hww hh
    have hh := of_decide_eq_true hh
    have hv := hw w hww
    have h3 := h2 w hww
    have ha : someB st 2 w.pos = false := by
      rw [← Bool.not_eq_true, someB_iff]
      rintro ⟨v, hv1, hv2⟩
      have := hv.1.2 v hv1
      exact (hc.at hst this.1 this.2).2 hv2 (hh.2.2.2.1 v hv1)
    have hb : someB st 1 w.neg = false := by
      rw [← Bool.not_eq_true, someB_iff]
      rintro ⟨v, hv1, hv2⟩
      have := hv.2.2 v hv1
      exact hh.2.2.2.2 v hv1 ((hc.at hst this.1 this.2).1 hv2)
    rw [ha, hb] at h3
    simp at h3
  · rw [if_neg k5] at h
    simp at h
theorem rightM_sound {g : Graph} {ws : List Way} {hold : Bool} {ss : List Step} (he : ∀ e ∈ g.edges, Verts e g.n) (hw : ∀ w ∈ ws, Verts w.pos g.n ∧ Verts w.neg g.n) {R : List Int} (hR : Rep g R) :
    ∀ (f at_ : Nat) (st : List Int) (seen s2 : List Bool), rightM g ws hold ss f at_ st seen = some s2 → (st.length : Int) = g.n → Cons st R → holdsAny ws R = !hold
  | 0, _, _, _, _, h, _, _ => by simp [rightM] at h
  | f + 1, at_, st, seen, s2, h, hst, hc => by
    obtain ⟨h0, ⟨h1, h2, s1, h3, h4⟩ | ⟨h1, h2, h3, h4, rfl⟩⟩ := rightM_some h
    · by_cases hv : ((stepv ss at_).at_.toNat : Int) ∈ R
      · exact rightM_sound he hw hR f _ _ _ _ h3 (by rw [List.length_set]; exact hst) (hc.set_in hv)
      · exact rightM_sound he hw hR f _ _ _ _ h4 (by rw [List.length_set]; exact hst) (hc.set_out hv)
    · exact leafB_sound he hw hst hR hc h4
end Go.Proofs.YthjifmfmaiagoaaGreatDoor

/- Plain law: sets by their members, the sets of a number's bits, and that a repair exists. -/
namespace Go.Proofs.YthjifmfmaiagoaaGreatDoor

/-- The increasing list of the numbers below n that have a property. -/
def setOf (n : Nat) (p : Nat → Bool) : List Int := ((List.range n).filter p).map fun (v : Nat) => (v : Int)
theorem mem_setOf {n : Nat} {p : Nat → Bool} {x : Int} : x ∈ setOf n p ↔ ∃ v : Nat, v < n ∧ p v = true ∧ x = v := by
  unfold setOf
  simp only [List.mem_map, List.mem_filter, List.mem_range]
  exact ⟨fun ⟨v, ⟨h1, h2⟩, h3⟩ => ⟨v, h1, h2, h3.symm⟩, fun ⟨v, h1, h2, h3⟩ => ⟨v, ⟨h1, h2⟩, h3.symm⟩⟩
theorem mem_setOf_nat {n : Nat} {p : Nat → Bool} {v : Nat} : (v : Int) ∈ setOf n p ↔ v < n ∧ p v = true := by
  rw [mem_setOf]
  constructor
  · rintro ⟨u, h1, h2, h3⟩
    obtain rfl : u = v := by omega
    exact ⟨h1, h2⟩
  · exact fun h => ⟨v, h.1, h.2, rfl⟩
theorem inc_setOf (n : Nat) (p : Nat → Bool) : Inc (setOf n p) := by
  unfold Inc setOf
  rw [List.pairwise_map]
  exact (List.Pairwise.filter p List.pairwise_lt_range).imp fun h => by omega
theorem verts_setOf (n : Nat) (p : Nat → Bool) : Verts (setOf n p) n :=
  ⟨inc_setOf n p, fun x hx => by
    obtain ⟨v, h1, _, rfl⟩ := mem_setOf.1 hx
    omega⟩
theorem inc_extq : ∀ {a b : List Int}, Inc a → Inc b → (∀ x, x ∈ a ↔ x ∈ b) → a = b
  | [], [], _, _, _ => rfl
  | [], y :: b, _, _, h => absurd ((h y).2 (List.mem_cons_self ..)) (by simp)
  | x :: a, [], _, _, h => absurd ((h x).1 (List.mem_cons_self ..)) (by simp)
  | x :: a, y :: b, ha, hb, h => by
    obtain ⟨p1, p2⟩ := List.pairwise_cons.1 ha
    obtain ⟨q1, q2⟩ := List.pairwise_cons.1 hb
    have hxy : x = y := by
      rcases List.mem_cons.1 ((h x).1 (List.mem_cons_self ..)) with h1 | h1
      · exact h1
      · rcases List.mem_cons.1 ((h y).2 (List.mem_cons_self ..)) with h2 | h2
        · exact h2.symm
        · have := q1 x h1
          have := p1 y h2
          omega
    subst hxy
    rw [inc_extq p2 q2 fun z => ?_]
    constructor
    · intro hz
      rcases List.mem_cons.1 ((h z).1 (List.mem_cons_of_mem _ hz)) with h1 | h1
      · have := p1 z hz
        omega
      · exact h1
    · intro hz
      rcases List.mem_cons.1 ((h z).2 (List.mem_cons_of_mem _ hz)) with h1 | h1
      · have := q1 z hz
        omega
      · exact h1
theorem verts_eq {l : List Int} {n : Nat} (h : Verts l n) : l = setOf n fun v => decide ((v : Int) ∈ l) :=
  inc_extq h.1 (inc_setOf _ _) fun x => by
    rw [mem_setOf]
    constructor
    · intro hx
      have := h.2 x hx
      exact ⟨x.toNat, by omega, decide_eq_true (by rw [Int.toNat_of_nonneg this.1]; exact hx), by omega⟩
    · rintro ⟨v, h1, h2, rfl⟩
      exact of_decide_eq_true h2
theorem setOf_congr {n : Nat} {p q : Nat → Bool} (h : ∀ v, v < n → p v = q v) : setOf n p = setOf n q := by
  unfold setOf
  rw [List.filter_congr fun v hv => h v (List.mem_range.1 hv)]

/-- Every choice of numbers below n is the bits of a number. -/
theorem bits_exist (p : Nat → Bool) : ∀ n, ∃ b, b < 2 ^ n ∧ ∀ v, v < n → (decide (b / 2 ^ v % 2 = 1)) = p v
  | 0 => ⟨0, by simp, fun v hv => absurd hv (Nat.not_lt_zero _)⟩
  | n + 1 => by
    obtain ⟨b, hb, h⟩ := bits_exist p n
    refine ⟨b + (if p n then 2 ^ n else 0), ?_, fun v hv => ?_⟩
    · rw [Nat.pow_succ]
      split <;> omega
    · rw [← Nat.testBit_eq_decide_div_mod_eq] at *
      rcases Nat.lt_or_ge v n with h1 | h1
      · split
        · rw [Nat.add_comm, Nat.testBit_two_pow_add_gt h1, Nat.testBit_eq_decide_div_mod_eq]
          exact h v h1
        · rw [Nat.add_zero, Nat.testBit_eq_decide_div_mod_eq]
          exact h v h1
      · obtain rfl : v = n := by omega
        split
        · rename_i hp
          rw [Nat.add_comm, Nat.testBit_two_pow_add_eq, Nat.testBit_lt_two_pow hb, hp]
          rfl
        · rename_i hp
          rw [Nat.add_zero, Nat.testBit_lt_two_pow hb]
          simpa using hp
/-- The set of a number's bits. -/
def bitSet (n b : Nat) : List Int := setOf n fun v => decide (b / 2 ^ v % 2 = 1)
theorem bitSet_exists {l : List Int} {n : Nat} (h : Verts l n) : ∃ b, b < 2 ^ n ∧ bitSet n b = l := by
  obtain ⟨b, hb, hv⟩ := bits_exist (fun v => decide ((v : Int) ∈ l)) n
  exact ⟨b, hb, (setOf_congr hv).trans (verts_eq h).symm⟩

/-- A set that contains no edge, by its property. -/
def freeP (g : Graph) (p : Nat → Bool) : Bool := g.edges.all fun e => e.any fun u => !p u.toNat
/-- The set that grows from S by each vertex in turn that closes no edge. -/
def grd (g : Graph) (S : Nat → Bool) : Nat → Nat → Bool
  | 0 => S
  | k + 1 => fun v => grd g S k v || (decide (v = k) && freeP g fun u => grd g S k u || decide (u = k))
theorem grd_mono {g : Graph} {S : Nat → Bool} {v : Nat} : ∀ {j k : Nat}, j ≤ k → grd g S j v = true → grd g S k v = true := by
  intro j k h hj
  obtain ⟨d, rfl⟩ : ∃ d, k = j + d := ⟨k - j, by omega⟩
  clear h
  induction d with
  | zero => exact hj
  | succ d ih =>
    show (grd g S (j + d) v || _) = true
    rw [ih]
    rfl
theorem freeP_congr {g : Graph} {p q : Nat → Bool} (h : ∀ v, p v = q v) : freeP g p = freeP g q := by
  rw [show p = q from funext h]
theorem grd_free {g : Graph} {S : Nat → Bool} (hS : freeP g S = true) : ∀ k, freeP g (grd g S k) = true
  | 0 => hS
  | k + 1 => by
    by_cases h : freeP g (fun u => grd g S k u || decide (u = k)) = true
    · rw [← h]
      refine freeP_congr fun v => ?_
      show (grd g S k v || (decide (v = k) && _)) = _
      rw [h, Bool.and_true]
    · rw [← grd_free hS k]
      refine freeP_congr fun v => ?_
      show (grd g S k v || (decide (v = k) && _)) = _
      rw [Bool.not_eq_true] at h
      rw [h, Bool.and_false, Bool.or_false]
theorem freeP_iff {g : Graph} {p : Nat → Bool} : freeP g p = true ↔ ∀ e ∈ g.edges, ∃ u ∈ e, p u.toNat = false := by
  unfold freeP
  simp
/-- The set that has grown over all vertices is a repair. -/
theorem grd_rep {g : Graph} {n : Nat} (hn : g.n = n) (he : ∀ e ∈ g.edges, Verts e g.n) {S : Nat → Bool} (hS : freeP g S = true) : Rep g (setOf n (grd g S n)) := by
  refine ⟨by rw [hn]; exact verts_setOf _ _, fun e hee => ?_, fun v hv hvn => ?_⟩
  · obtain ⟨u, hu, hp⟩ := freeP_iff.1 (grd_free hS n) e hee
    refine ⟨u, hu, fun hm => ?_⟩
    obtain ⟨v, _, h2, rfl⟩ := mem_setOf.1 hm
    rw [Int.toNat_natCast] at hp
    rw [hp] at h2
    simp at h2
  · have hvlt : v < n := by omega
    have h0 : grd g S n v = false := by
      rw [← Bool.not_eq_true]
      exact fun h => hvn (mem_setOf_nat.2 ⟨hvlt, h⟩)
    have h1 : grd g S (v + 1) v = false := by
      rw [← Bool.not_eq_true]
      exact fun h => by rw [grd_mono (show v + 1 ≤ n by omega) h] at h0; simp at h0
    have h2 : freeP g (fun u => grd g S v u || decide (u = v)) = false := by
      have h3 : (grd g S v v || (decide (v = v) && freeP g fun u => grd g S v u || decide (u = v))) = false := h1
      rw [Bool.or_eq_false_iff, decide_eq_true rfl, Bool.true_and] at h3
      exact h3.2
    have h4 : ∃ e ∈ g.edges, ∀ u ∈ e, (grd g S v u.toNat || decide (u.toNat = v)) = true := by
      unfold freeP at h2
      rw [List.all_eq_false] at h2
      obtain ⟨e, hee, h5⟩ := h2
      refine ⟨e, hee, fun u hu => ?_⟩
      rw [Bool.not_eq_true, List.any_eq_false] at h5
      have := h5 u hu
      cases hg : grd g S v u.toNat <;> simp_all
    obtain ⟨e, hee, h5⟩ := h4
    refine ⟨e, hee, ?_, fun u hu hne => ?_⟩
    · obtain ⟨u, hu, hp⟩ := freeP_iff.1 (grd_free hS v) e hee
      have h6 := h5 u hu
      rw [hp, Bool.false_or, decide_eq_true_eq] at h6
      have := (he e hee).2 u hu
      have : u = (v : Int) := by omega
      exact this ▸ hu
    · have h6 := h5 u hu
      have h7 := (he e hee).2 u hu
      rw [decide_eq_false (by omega), Bool.or_false] at h6
      obtain ⟨k, rfl⟩ : ∃ k : Nat, u = k := ⟨u.toNat, by omega⟩
      rw [Int.toNat_natCast] at h6
      exact mem_setOf_nat.2 ⟨by omega, grd_mono (by omega) h6⟩
theorem rep_exists {g : Graph} {n : Nat} (hn : g.n = n) (he : ∀ e ∈ g.edges, e ≠ [] ∧ Verts e g.n) : ∃ R, Rep g R :=
  ⟨_, grd_rep hn (fun e h => (he e h).2) (S := fun _ => false) (freeP_iff.2 fun e hee => by
    obtain ⟨x, l, rfl⟩ := List.exists_cons_of_ne_nil (he e hee).1
    exact ⟨x, List.mem_cons_self .., rfl⟩)⟩
end Go.Proofs.YthjifmfmaiagoaaGreatDoor

/- Plain law: the proof by branching on all vertices. -/
namespace Go.Proofs.YthjifmfmaiagoaaGreatDoor

/-- A leaf that fits. -/
def leafM (g : Graph) (ws : List Way) (hold : Bool) (st : List Int) : Option Step :=
  if noneB ws hold st ⟨5, 0, 0, 0⟩ = true then some ⟨5, 0, 0, 0⟩
  else match (List.range ws.length).find? fun (i : Nat) => wayB ws hold st ⟨4, i, 0, 0⟩ with
    | some i => some ⟨4, i, 0, 0⟩
    | none => match (List.range g.edges.length).find? fun (i : Nat) => areB st 1 (row g.edges i) with
      | some i => some ⟨2, i, 0, 0⟩
      | none => match (List.range g.n.toNat).find? fun (v : Nat) => freeB g st ⟨3, v, 0, 0⟩ with
        | some v => some ⟨3, v, 0, 0⟩
        | none => none
theorem leafM_some {g : Graph} {ws : List Way} {hold : Bool} {st : List Int} {x : Step} (h : leafM g ws hold st = some x) : x.kind ≠ 1 ∧ x.in_ = 0 ∧ x.out = 0 ∧ leafB g ws hold st x = true := by
  unfold leafM at h
  split at h
  · rename_i h1
    cases h
    exact ⟨by decide, rfl, rfl, h1⟩
  · split at h
    · rename_i i h1
      cases h
      have h2 := List.find?_some h1
      exact ⟨by simp, rfl, rfl, h2⟩
    · split at h
      · rename_i i h1
        cases h
        have h2 := List.find?_some h1
        have h3 := List.mem_range.1 (List.mem_of_find?_eq_some h1)
        refine ⟨by simp, rfl, rfl, ?_⟩
        show clashB g st ⟨2, i, 0, 0⟩ = true
        unfold clashB
        simp only [Bool.and_eq_true, decide_eq_true_eq]
        exact ⟨⟨by omega, by omega⟩, h2⟩
      · split at h
        · rename_i i h1
          cases h
          have h2 := List.find?_some h1
          exact ⟨by simp, rfl, rfl, h2⟩
        · simp at h
theorem leafM_none {g : Graph} {ws : List Way} {hold : Bool} {st : List Int} (h : leafM g ws hold st = none) :
    noneB ws hold st ⟨5, 0, 0, 0⟩ = false ∧ (∀ i : Nat, i < ws.length → wayB ws hold st ⟨4, i, 0, 0⟩ = false) ∧ (∀ i : Nat, i < g.edges.length → areB st 1 (row g.edges i) = false) ∧ ∀ v : Nat, (v : Int) < g.n → freeB g st ⟨3, v, 0, 0⟩ = false := by
  unfold leafM at h
  split at h
  · simp at h
  · rename_i h1
    split at h
    · simp at h
    · rename_i h2
      split at h
      · simp at h
      · rename_i h3
        split at h
        · simp at h
        · rename_i h4
          rw [List.find?_eq_none] at h2 h3 h4
          refine ⟨by simpa using h1, fun i hi => ?_, fun i hi => ?_, fun v hv => ?_⟩
          · simpa using h2 i (List.mem_range.2 hi)
          · simpa using h3 i (List.mem_range.2 hi)
          · simpa using h4 v (List.mem_range.2 (by omega))
/-- When everything is decided and every repair is as asked, a leaf fits. -/
theorem leafM_total {g : Graph} {n : Nat} (hn : g.n = n) {ws : List Way} {hold : Bool} {st : List Int} (he : ∀ e ∈ g.edges, Verts e g.n) (hw : ∀ w ∈ ws, Verts w.pos g.n ∧ Verts w.neg g.n) (hst : st.length = n) (h12 : ∀ i, i < n → nth st i = 1 ∨ nth st i = 2) (hall : ∀ R, Rep g R → holdsAny ws R = !hold) :
    leafM g ws hold st ≠ none := fun hnone => by
  obtain ⟨h1, h2, h3, h4⟩ := leafM_none hnone
  have hmem : ∀ u : Int, 0 ≤ u → u < g.n → (u ∈ setOf n (fun v => decide (nth st v = 1)) ↔ stv st u = 1) := fun u h0 hu => by
    obtain ⟨k, rfl⟩ : ∃ k : Nat, u = k := ⟨u.toNat, by omega⟩
    rw [mem_setOf_nat, decide_eq_true_eq]
    exact ⟨fun h => h.2, fun h => ⟨by omega, h⟩⟩
  have hor : ∀ u : Int, 0 ≤ u → u < g.n → stv st u = 1 ∨ stv st u = 2 := fun u h0 hu => h12 u.toNat (by omega)
  have hR : Rep g (setOf n fun v => decide (nth st v = 1)) := by
    refine ⟨by rw [hn]; exact verts_setOf _ _, fun e hee => ?_, fun v hv hvn => ?_⟩
    · obtain ⟨i, hi, rfl⟩ := List.mem_iff_getElem.1 hee
      have h5 := h3 i hi
      rw [row_eq hi] at h5
      have h6 : ¬ ∀ u ∈ g.edges[i], stv st u = 1 := fun h => by rw [areB_iff.2 h] at h5; simp at h5
      refine Classical.byContradiction fun hc => h6 fun u hu => ?_
      have hu2 := (he _ hee).2 u hu
      refine (hmem u hu2.1 hu2.2).1 (Classical.byContradiction fun hc2 => hc ⟨u, hu, hc2⟩)
    · have h5 := h4 v hv
      have hv2 : stv st v = 2 := by
        rcases hor v (by omega) hv with h | h
        · exact absurd ((hmem v (by omega) hv).2 h) hvn
        · exact h
      unfold freeB at h5
      dsimp only at h5
      rw [decide_eq_true hv2, decide_eq_true hv, decide_eq_true (show (0 : Int) ≤ v by omega), Bool.true_and, Bool.true_and, Bool.true_and, List.all_eq_false] at h5
      obtain ⟨e, hee, h6⟩ := h5
      rw [Bool.or_eq_true, decide_eq_true_eq, not_or, Classical.not_not] at h6
      refine ⟨e, hee, h6.1, fun u hu hne => ?_⟩
      have hu2 := (he _ hee).2 u hu
      refine (hmem u hu2.1 hu2.2).2 ?_
      rcases hor u hu2.1 hu2.2 with h | h
      · exact h
      · exact absurd (otherB_iff.2 ⟨u, hu, hne, h⟩) h6.2
  have hh := hall _ hR
  cases hold with
  | false =>
    unfold holdsAny at hh
    rw [Bool.not_false, List.any_eq_true] at hh
    obtain ⟨w, hww, hh⟩ := hh
    have hh := of_decide_eq_true hh
    have hv := hw w hww
    obtain ⟨i, hi, rfl⟩ := List.mem_iff_getElem.1 hww
    have h5 := h2 i hi
    have h6 : wayB ws false st ⟨4, i, 0, 0⟩ = true := by
      unfold wayB
      dsimp only
      simp only [Bool.and_eq_true, decide_eq_true_eq, Bool.not_false, true_and, Int.toNat_natCast]
      rw [way_eq hi]
      refine ⟨⟨⟨by omega, by omega⟩, areB_iff.2 fun v hv1 => ?_⟩, areB_iff.2 fun v hv1 => ?_⟩
      · have hu := hv.1.2 v hv1
        exact (hmem v hu.1 hu.2).1 (hh.2.2.2.1 v hv1)
      · have hu := hv.2.2 v hv1
        rcases hor v hu.1 hu.2 with h | h
        · exact absurd ((hmem v hu.1 hu.2).2 h) (hh.2.2.2.2 v hv1)
        · exact h
    rw [h5] at h6
    simp at h6
  | true =>
    unfold holdsAny at hh
    rw [Bool.not_true, List.any_eq_false] at hh
    have h6 : noneB ws true st ⟨5, 0, 0, 0⟩ = true := by
      unfold noneB
      dsimp only
      simp only [Bool.and_eq_true, decide_eq_true_eq, Bool.not_eq_true', List.any_eq_false, Bool.not_eq_true, true_and, and_true]
      intro w hww
      have h7 := hh w hww
      rw [decide_eq_true_eq] at h7
      have hv := hw w hww
      cases ha : someB st 2 w.pos with
      | true => simp
      | false =>
        cases hb : someB st 1 w.neg with
        | true => simp
        | false =>
          exfalso
          refine h7 ⟨hv.1.1, hv.2.1, hR.1.1, fun v hv1 => ?_, fun v hv1 hv2 => ?_⟩
          · have hu := hv.1.2 v hv1
            refine (hmem v hu.1 hu.2).2 ?_
            rcases hor v hu.1 hu.2 with h | h
            · exact h
            · rw [someB_iff.2 ⟨v, hv1, h⟩] at ha
              simp at ha
          · have hu := hv.2.2 v hv1
            rw [someB_iff.2 ⟨v, hv1, (hmem v hu.1 hu.2).1 hv2⟩] at hb
            simp at hb
    rw [h1] at h6
    simp at h6

/-- A step with its second part. -/
def outAt (l : List Step) (i : Nat) : List Step := l.set i { stepv l i with out := l.length }
/-- The steps of a proof from a vertex on. -/
def growM (g : Graph) (ws : List Way) (hold : Bool) : Nat → List Int → List Step → Nat → Option (List Step)
  | 0, st, steps, _ => (leafM g ws hold st).map fun x => steps ++ [x]
  | d + 1, st, steps, v => match leafM g ws hold st with
    | some x => some (steps ++ [x])
    | none => (growM g ws hold d (st.set v 1) (steps ++ [⟨1, v, steps.length + 1, 0⟩]) (v + 1)).bind fun s2 => growM g ws hold d (st.set v 2) (outAt s2 steps.length) (v + 1)
theorem stepv_ext {a b : List Step} {i : Nat} (h : a[i]? = b[i]?) : stepv a i = stepv b i := by
  unfold stepv
  rw [List.getD_eq_getElem?_getD, List.getD_eq_getElem?_getD, h]
/-- What stood there stays; something has come, and not too much. -/
theorem growM_keeps {g : Graph} {ws : List Way} {hold : Bool} : ∀ (d : Nat) (st : List Int) (steps : List Step) (v : Nat) (out : List Step), growM g ws hold d st steps v = some out →
    steps.length < out.length ∧ out.length + 1 ≤ steps.length + 2 ^ (d + 1) ∧ ∀ i, i < steps.length → out[i]? = steps[i]?
  | 0, st, steps, v, out, h => by
    rw [growM, Option.map_eq_some_iff] at h
    obtain ⟨x, _, rfl⟩ := h
    refine ⟨by simp, by simp, fun i hi => List.getElem?_append_left hi⟩
  | d + 1, st, steps, v, out, h => by
    have hp : 2 ^ (d + 1 + 1) = 2 ^ (d + 1) + 2 ^ (d + 1) := by rw [Nat.pow_succ]; omega
    have hp2 : 2 ≤ 2 ^ (d + 1) := by
      rw [Nat.pow_succ]
      have := Nat.pos_of_ne_zero (show 2 ^ d ≠ 0 from Nat.pos_iff_ne_zero.1 (Nat.two_pow_pos d))
      omega
    rw [growM] at h
    split at h
    · cases h
      refine ⟨by simp, by rw [List.length_append, List.length_singleton]; omega, fun i hi => List.getElem?_append_left hi⟩
    · obtain ⟨s2, h1, h2⟩ := Option.bind_eq_some_iff.1 h
      obtain ⟨a1, a2, a3⟩ := growM_keeps d _ _ _ _ h1
      obtain ⟨b1, b2, b3⟩ := growM_keeps d _ _ _ _ h2
      rw [List.length_append, List.length_singleton] at a1 a2
      have hl : (outAt s2 steps.length).length = s2.length := by unfold outAt; rw [List.length_set]
      rw [hl] at b1 b2 b3
      refine ⟨by omega, by omega, fun i hi => ?_⟩
      rw [b3 i (by omega)]
      unfold outAt
      rw [List.getElem?_set_ne (by omega), a3 i (by rw [List.length_append]; omega), List.getElem?_append_left hi]
/-- What has grown is right. -/
theorem growM_right {g : Graph} {ws : List Way} {hold : Bool} {n : Nat} (hn : g.n = n) {S : List Step} : ∀ (d : Nat) (st : List Int) (steps : List Step) (v : Nat) (out : List Step), growM g ws hold d st steps v = some out →
    st.length = n → v + d = n → (∀ i, v ≤ i → nth st i = 0) → out.length ≤ S.length → (∀ i, steps.length ≤ i → i < out.length → stepv S i = stepv out i) →
    ∀ (f : Nat) (seen : List Bool), d < f → seen.length = S.length → (∀ i, steps.length ≤ i → i < out.length → nthB seen i = false) →
    ∃ s2, rightM g ws hold S f steps.length st seen = some s2 ∧ ∀ i, (i < steps.length ∨ out.length ≤ i) → nthB s2 i = nthB seen i := by
  have hleaf : ∀ (st : List Int) (steps : List Step) (x : Step) (out : List Step), leafM g ws hold st = some x → out = steps ++ [x] → out.length ≤ S.length → (∀ i, steps.length ≤ i → i < out.length → stepv S i = stepv out i) →
      ∀ (f : Nat) (seen : List Bool), 0 < f → seen.length = S.length → (∀ i, steps.length ≤ i → i < out.length → nthB seen i = false) →
      ∃ s2, rightM g ws hold S f steps.length st seen = some s2 ∧ ∀ i, (i < steps.length ∨ out.length ≤ i) → nthB s2 i = nthB seen i := by
    rintro st steps x out h rfl hS hs f seen hf hl hseen
    obtain ⟨f, rfl⟩ : ∃ f', f = f' + 1 := ⟨f - 1, by omega⟩
    obtain ⟨h1, h2, h3, h4⟩ := leafM_some h
    have hx : stepv S steps.length = x := by
      rw [hs _ (Nat.le_refl _) (by simp), stepv_eq (by simp)]
      simp
    refine ⟨_, rightM_leaf (hseen _ (Nat.le_refl _) (by simp)) (by rw [hx]; exact h1) (by rw [hx]; exact h2) (by rw [hx]; exact h3) (by rw [hx]; exact h4), fun i hi => ?_⟩
    rw [List.length_append, List.length_singleton] at hi
    unfold nthB
    rw [List.getD_eq_getElem?_getD, List.getD_eq_getElem?_getD, List.getElem?_set_ne (by omega)]
  intro d
  induction d with
  | zero =>
    intro st steps v out h hst hv h0 hS hs f seen hf hl hseen
    rw [growM, Option.map_eq_some_iff] at h
    obtain ⟨x, hx, rfl⟩ := h
    exact hleaf st steps x _ hx rfl hS hs f seen hf hl hseen
  | succ d ih =>
    intro st steps v out h hst hv h0 hS hs f seen hf hl hseen
    rw [growM] at h
    split at h
    · rename_i x hx
      cases h
      exact hleaf st steps x _ hx rfl hS hs f seen (by omega) hl hseen
    · obtain ⟨s2, h1, h2⟩ := Option.bind_eq_some_iff.1 h
      obtain ⟨a1, a2, a3⟩ := growM_keeps d _ _ _ _ h1
      obtain ⟨b1, b2, b3⟩ := growM_keeps d _ _ _ _ h2
      rw [List.length_append, List.length_singleton] at a1 a2
      have hl2 : (outAt s2 steps.length).length = s2.length := by unfold outAt; rw [List.length_set]
      rw [hl2] at b1 b2 b3
      obtain ⟨f, rfl⟩ : ∃ f', f = f' + 1 := ⟨f - 1, by omega⟩
      have hat : stepv S steps.length = ⟨1, v, steps.length + 1, s2.length⟩ := by
        rw [hs _ (Nat.le_refl _) (by omega), stepv_ext (b3 _ (by omega))]
        unfold outAt
        rw [stepv_eq (by rw [List.length_set]; omega), List.getElem_set_self]
        rw [show stepv s2 steps.length = ⟨1, v, steps.length + 1, 0⟩ by
          rw [stepv_ext (a3 _ (by simp)), stepv_eq (by simp)]
          simp]
      have hset : ∀ x : Int, (st.set v x).length = n := fun x => by rw [List.length_set]; exact hst
      have hzero : ∀ x : Int, ∀ i, v + 1 ≤ i → nth (st.set v x) i = 0 := fun x i hi => by
        rcases Nat.lt_or_ge i st.length with h3 | h3
        · rw [nth_set' _ h3, if_neg (by omega)]
          exact h0 i (by omega)
        · unfold nth
          rw [List.getD_eq_getElem?_getD, List.getElem?_eq_none (by rw [List.length_set]; exact h3)]
          rfl
      obtain ⟨s3, i1, i2⟩ := ih (st.set v 1) _ (v + 1) s2 h1 (hset 1) (by omega) (hzero 1) (by omega) (fun i hi hi2 => by
        rw [List.length_append, List.length_singleton] at hi
        rw [hs i (by omega) (by omega), stepv_ext (b3 i hi2)]
        refine stepv_ext ?_
        unfold outAt
        rw [List.getElem?_set_ne (by omega)]) f (seen.set steps.length true) (by omega) (by rw [List.length_set]; exact hl) (fun i hi hi2 => by
        rw [List.length_append, List.length_singleton] at hi
        rw [← hseen i (by omega) (by omega)]
        unfold nthB
        rw [List.getD_eq_getElem?_getD, List.getD_eq_getElem?_getD, List.getElem?_set_ne (by omega)])
      rw [List.length_append, List.length_singleton] at i1 i2
      have hl3 := rightM_length _ _ _ _ _ _ _ _ _ i1
      rw [List.length_set] at hl3
      obtain ⟨s4, j1, j2⟩ := ih (st.set v 2) _ (v + 1) out h2 (hset 2) (by omega) (hzero 2) hS (fun i hi hi2 => by
        rw [hl2] at hi
        exact hs i (by omega) hi2) f s3 (by omega) (by omega) (fun i hi hi2 => by
        rw [hl2] at hi
        rw [i2 i (.inr hi), ← hseen i (by omega) hi2]
        unfold nthB
        rw [List.getD_eq_getElem?_getD, List.getD_eq_getElem?_getD, List.getElem?_set_ne (by omega)])
      rw [hl2] at j1 j2
      refine ⟨s4, rightM_branch (s1 := s3) (hseen _ (Nat.le_refl _) (by omega)) (by rw [hat]) ?_ (by rw [hat]; simpa using i1) (by rw [hat]; simpa using j1), fun i hi => ?_⟩
      · rw [hat]
        unfold branchB
        simp only [Bool.and_eq_true, decide_eq_true_eq]
        refine ⟨⟨⟨⟨⟨⟨by omega, by omega⟩, h0 v (Nat.le_refl _)⟩, by omega⟩, by omega⟩, by omega⟩, by omega⟩
      · rw [j2 i (by omega), i2 i (by omega)]
        unfold nthB
        rw [List.getD_eq_getElem?_getD, List.getD_eq_getElem?_getD, List.getElem?_set_ne (by omega)]
/-- If every repair is as asked, a proof grows. -/
theorem growM_complete {g : Graph} {n : Nat} (hn : g.n = n) {ws : List Way} {hold : Bool} (he : ∀ e ∈ g.edges, Verts e g.n) (hw : ∀ w ∈ ws, Verts w.pos g.n ∧ Verts w.neg g.n) (hall : ∀ R, Rep g R → holdsAny ws R = !hold) :
    ∀ (d : Nat) (st : List Int) (steps : List Step) (v : Nat), st.length = n → v + d = n → (∀ i, i < v → nth st i = 1 ∨ nth st i = 2) → growM g ws hold d st steps v ≠ none
  | 0, st, steps, v, hst, hv, h => by
    rw [growM]
    intro hh
    rw [Option.map_eq_none_iff] at hh
    exact leafM_total hn he hw hst (fun i hi => h i (by omega)) hall hh
  | d + 1, st, steps, v, hst, hv, h => by
    rw [growM]
    split
    · simp
    · have hset : ∀ x : Int, (x = 1 ∨ x = 2) → ∀ i, i < v + 1 → nth (st.set v x) i = 1 ∨ nth (st.set v x) i = 2 := fun x hx i hi => by
        rw [nth_set' _ (by omega)]
        by_cases e : v = i
        · rw [if_pos e]
          exact hx
        · rw [if_neg e]
          exact h i (by omega)
      cases h1 : growM g ws hold d (st.set v 1) (steps ++ [⟨1, v, steps.length + 1, 0⟩]) (v + 1) with
      | none => exact absurd h1 (growM_complete hn he hw hall d _ _ _ (by rw [List.length_set]; exact hst) (by omega) (hset 1 (.inl rfl)))
      | some s2 => exact growM_complete hn he hw hall d _ _ _ (by rw [List.length_set]; exact hst) (by omega) (hset 2 (.inr rfl))
end Go.Proofs.YthjifmfmaiagoaaGreatDoor

/- Plain law: the components of a hypergraph by the least vertex of each. -/
namespace Go.Proofs.YthjifmfmaiagoaaGreatDoor

/-- Two vertices hang together by edges. -/
inductive Conn (E : List (List Int)) : Nat → Nat → Prop
  | refl (v : Nat) : Conn E v v
  | step {u v x : Nat} (h : Conn E u v) (e : List Int) (he : e ∈ E) (hv : (v : Int) ∈ e) (hx : (x : Int) ∈ e) : Conn E u x
theorem Conn.trans {E : List (List Int)} {u v x : Nat} (h : Conn E u v) (k : Conn E v x) : Conn E u x := by
  induction k with
  | refl => exact h
  | step _ e he hv hx ih => exact Conn.step ih e he hv hx
theorem Conn.edge {E : List (List Int)} {e : List Int} (he : e ∈ E) {u v : Nat} (hu : (u : Int) ∈ e) (hv : (v : Int) ∈ e) : Conn E u v := Conn.step (Conn.refl u) e he hu hv
theorem Conn.symm {E : List (List Int)} {u v : Nat} (h : Conn E u v) : Conn E v u := by
  induction h with
  | refl => exact Conn.refl _
  | step _ e he hv hx ih => exact (Conn.edge he hx hv).trans ih
theorem Conn.mono {E F : List (List Int)} (h : ∀ e ∈ E, ∀ u v : Nat, (u : Int) ∈ e → (v : Int) ∈ e → Conn F u v) {u v : Nat} (k : Conn E u v) : Conn F u v := by
  induction k with
  | refl => exact Conn.refl _
  | step _ e he hv hx ih => exact ih.trans (h e he _ _ hv hx)
/-- r gives for each vertex the least one of its component. -/
structure RootOf (E : List (List Int)) (n : Nat) (r : Nat → Nat) : Prop where
  le : ∀ v, v < n → r v ≤ v
  same : ∀ e ∈ E, ∀ u v : Nat, u < n → v < n → (u : Int) ∈ e → (v : Int) ∈ e → r u = r v
  conn : ∀ v, v < n → Conn E (r v) v
/-- All vertices of edges are below n. -/
def Inside (E : List (List Int)) (n : Nat) : Prop := ∀ e ∈ E, ∀ x ∈ e, 0 ≤ x ∧ x < (n : Int)
theorem Conn.lt {E : List (List Int)} {n : Nat} (hE : Inside E n) {u v : Nat} (h : Conn E u v) (hu : u < n) : v < n := by
  cases h with
  | refl => exact hu
  | step _ e he hv hx =>
    have := (hE e he _ hx).2
    omega
theorem RootOf.of_conn {E : List (List Int)} {n : Nat} {r : Nat → Nat} (h : RootOf E n r) (hE : Inside E n) {u v : Nat} (hc : Conn E u v) (hu : u < n) : r u = r v := by
  induction hc with
  | refl => rfl
  | step hc e he hv hx ih =>
    have h1 := hc.lt hE hu
    have h2 := (hE e he _ hx).2
    exact (ih).trans (h.same e he _ _ h1 (by omega) hv hx)
theorem RootOf.idem {E : List (List Int)} {n : Nat} {r : Nat → Nat} (h : RootOf E n r) (hE : Inside E n) {v : Nat} (hv : v < n) : r (r v) = r v :=
  h.of_conn hE (h.conn v hv) (Nat.lt_of_le_of_lt (h.le v hv) hv)
theorem RootOf.conn_iff {E : List (List Int)} {n : Nat} {r : Nat → Nat} (h : RootOf E n r) (hE : Inside E n) {u v : Nat} (hu : u < n) (hv : v < n) : Conn E u v ↔ r u = r v :=
  ⟨fun hc => h.of_conn hE hc hu, fun he => ((h.conn u hu).symm).trans (he ▸ h.conn v hv)⟩
theorem RootOf.unique {E : List (List Int)} {n : Nat} {r s : Nat → Nat} (hr : RootOf E n r) (hs : RootOf E n s) (hE : Inside E n) {v : Nat} (hv : v < n) : r v = s v := by
  have h1 : r v < n := Nat.lt_of_le_of_lt (hr.le v hv) hv
  have h2 : s v < n := Nat.lt_of_le_of_lt (hs.le v hv) hv
  have h3 : s (r v) = s v := hs.of_conn hE (hr.conn v hv) h1
  have h4 : r (s v) = r v := hr.of_conn hE (hs.conn v hv) h2
  have h5 := hs.le (r v) h1
  have h6 := hr.le (s v) h2
  omega
/-- The components by their least vertices, in order. -/
def compsOf (n : Nat) (r : Nat → Nat) : List (List Int) := ((List.range n).filter fun i => decide (r i = i)).map fun i => setOf n fun v => decide (r v = i)
theorem compsOf_congr {n : Nat} {r s : Nat → Nat} (h : ∀ v, v < n → r v = s v) : compsOf n r = compsOf n s := by
  unfold compsOf
  rw [List.filter_congr fun v hv => by rw [h v (List.mem_range.1 hv)]]
  refine List.map_congr_left fun i _ => setOf_congr fun v hv => by rw [h v hv]
theorem comps_unique {E : List (List Int)} {n : Nat} {r s : Nat → Nat} (hr : RootOf E n r) (hs : RootOf E n s) (hE : Inside E n) : compsOf n r = compsOf n s := compsOf_congr fun _ hv => hr.unique hs hE hv
/-- No edges: each vertex is its own. -/
theorem RootOf.start (n : Nat) : RootOf [] n id := ⟨fun v _ => Nat.le_refl _, fun e he => (by cases he), fun v _ => Conn.refl v⟩
/-- Two vertices are joined. -/
theorem RootOf.join {E : List (List Int)} {n : Nat} {r : Nat → Nat} (h : RootOf E n r) (hE : Inside E n) {u v : Nat} (hu : u < n) (hv : v < n) :
    RootOf (E ++ [[(u : Int), (v : Int)]]) n fun x => if r x = max (r u) (r v) then min (r u) (r v) else r x := by
  have hm : ∀ {a b : Nat}, Conn E a b → Conn (E ++ [[(u : Int), (v : Int)]]) a b := fun hc => hc.mono fun e he a b ha hb => Conn.edge (List.mem_append_left _ he) ha hb
  have huv : Conn (E ++ [[(u : Int), (v : Int)]]) u v := Conn.edge (e := [(u : Int), (v : Int)]) (by simp) (by simp) (by simp)
  have hru := h.conn u hu
  have hrv := h.conn v hv
  have hrr : Conn (E ++ [[(u : Int), (v : Int)]]) (r u) (r v) := ((hm hru).trans huv).trans (hm hrv.symm)
  refine ⟨fun x hx => ?_, fun e he a b ha hb hae hbe => ?_, fun x hx => ?_⟩
  · have := h.le x hx
    show (if r x = max (r u) (r v) then min (r u) (r v) else r x) ≤ x
    split <;> omega
  · show (if r a = max (r u) (r v) then min (r u) (r v) else r a) = (if r b = max (r u) (r v) then min (r u) (r v) else r b)
    rcases List.mem_append.1 he with h1 | h1
    · rw [h.same e h1 a b ha hb hae hbe]
    · obtain rfl := List.mem_singleton.1 h1
      have key : ∀ x : Nat, (x : Int) ∈ [(u : Int), (v : Int)] → x = u ∨ x = v := fun x hx => by
        simp only [List.mem_cons, List.not_mem_nil, or_false] at hx
        omega
      have kk : ∀ x : Nat, (x : Int) ∈ [(u : Int), (v : Int)] → (if r x = max (r u) (r v) then min (r u) (r v) else r x) = min (r u) (r v) := fun x hx => by
        rcases key x hx with rfl | rfl <;> split <;> omega
      rw [kk a hae, kk b hbe]
  · show Conn _ (if r x = max (r u) (r v) then min (r u) (r v) else r x) x
    split
    · rename_i hx2
      refine Conn.trans ?_ (hm (h.conn x hx))
      rw [hx2]
      rcases Nat.le_total (r u) (r v) with h1 | h1
      · rw [Nat.min_eq_left h1, Nat.max_eq_right h1]
        exact hrr
      · rw [Nat.min_eq_right h1, Nat.max_eq_left h1]
        exact hrr.symm
    · exact hm (h.conn x hx)
/-- Pairs that join the same vertices as the edges. -/
theorem RootOf.of_pairs {E F : List (List Int)} {n : Nat} {r : Nat → Nat} (h : RootOf F n r) (hF : Inside F n) (h1 : ∀ e ∈ E, ∀ u v : Nat, (u : Int) ∈ e → (v : Int) ∈ e → Conn F u v) (h2 : ∀ e ∈ F, ∀ u v : Nat, (u : Int) ∈ e → (v : Int) ∈ e → Conn E u v) : RootOf E n r :=
  ⟨h.le, fun e he u v hu hv hue hve => h.of_conn hF (h1 e he u v hue hve) hu, fun v hv => (h.conn v hv).mono h2⟩
end Go.Proofs.YthjifmfmaiagoaaGreatDoor

/- Plain law: one list within another. -/
namespace Go.Proofs.YthjifmfmaiagoaaGreatDoor

/-- b is found in a, in order. -/
def isSub : List Int → List Int → Bool
  | [], _ => true
  | _ :: _, [] => false
  | y :: b, x :: a => if x = y then isSub b a else isSub (y :: b) a
theorem isSub_nil (a : List Int) : isSub [] a = true := by cases a <;> rfl
theorem isSub_mem : ∀ (b a : List Int), isSub b a = true → ∀ x ∈ b, x ∈ a
  | [], _, _, x, hx => by cases hx
  | y :: b, [], h, _, _ => by simp [isSub] at h
  | y :: b, z :: a, h, x, hx => by
    rw [isSub] at h
    split at h
    · rename_i e
      subst e
      rcases List.mem_cons.1 hx with rfl | hx
      · exact List.mem_cons_self ..
      · exact List.mem_cons_of_mem _ (isSub_mem b a h x hx)
    · exact List.mem_cons_of_mem _ (isSub_mem (y :: b) a h x hx)
theorem isSub_of : ∀ (b a : List Int), Inc a → Inc b → (∀ x ∈ b, x ∈ a) → isSub b a = true
  | [], a, _, _, _ => isSub_nil a
  | y :: b, [], _, _, h => absurd (h y (List.mem_cons_self ..)) (by simp)
  | y :: b, z :: a, ha, hb, h => by
    obtain ⟨p1, p2⟩ := List.pairwise_cons.1 ha
    obtain ⟨q1, q2⟩ := List.pairwise_cons.1 hb
    rw [isSub]
    split
    · rename_i e
      subst e
      refine isSub_of b a p2 q2 fun x hx => ?_
      rcases List.mem_cons.1 (h x (List.mem_cons_of_mem _ hx)) with h1 | h1
      · have := q1 x hx
        omega
      · exact h1
    · rename_i e
      have hy : y ∈ a := (List.mem_cons.1 (h y (List.mem_cons_self ..))).resolve_left fun e2 => e e2.symm
      refine isSub_of (y :: b) a p2 hb fun x hx => ?_
      rcases List.mem_cons.1 (h x hx) with h1 | h1
      · have h2 := p1 y hy
        rcases List.mem_cons.1 hx with rfl | hx
        · exact absurd h1.symm e
        · have := q1 x hx
          omega
      · exact h1
theorem isSub_iff {a b : List Int} (ha : Inc a) (hb : Inc b) : isSub b a = true ↔ ∀ x ∈ b, x ∈ a := ⟨isSub_mem b a, isSub_of b a ha hb⟩
theorem drop_cons {l : List Int} {i : Nat} (h : i < l.length) : l.drop i = nth l i :: l.drop (i + 1) := by
  rw [List.drop_eq_getElem_cons h, nth_eq h]
theorem isSub_eq {a b : List Int} {i k : Nat} (hi : i < a.length) (hk : k < b.length) (h : nth a i = nth b k) : isSub (b.drop k) (a.drop i) = isSub (b.drop (k + 1)) (a.drop (i + 1)) := by
  rw [drop_cons hi, drop_cons hk, isSub, if_pos h]
theorem isSub_ne {a b : List Int} {i k : Nat} (hi : i < a.length) (hk : k < b.length) (h : nth a i ≠ nth b k) : isSub (b.drop k) (a.drop i) = isSub (b.drop k) (a.drop (i + 1)) := by
  rw [drop_cons hi, drop_cons hk, isSub, if_neg h]
/-- No edge that is not empty lies in a set. -/
def freeB' (es : List (List Int)) (l : List Int) : Bool := es.all fun e => decide (e = []) || !isSub e l
end Go.Proofs.YthjifmfmaiagoaaGreatDoor

/- Plain law: an increasing list with one number more. -/
namespace Go.Proofs.YthjifmfmaiagoaaGreatDoor

theorem nth_append_left {a b : List Int} {i : Nat} (h : i < a.length) : nth (a ++ b) i = nth a i := by
  unfold nth
  rw [List.getD_eq_getElem?_getD, List.getD_eq_getElem?_getD, List.getElem?_append_left h]
theorem mem_take_nth {l : List Int} {k : Nat} {x : Int} : x ∈ l.take k → ∃ t, t < k ∧ t < l.length ∧ nth l t = x := fun h => by
  obtain ⟨i, hi, e⟩ := List.mem_iff_getElem.1 h
  rw [List.length_take] at hi
  refine ⟨i, by omega, by omega, ?_⟩
  rw [nth_eq (by omega), ← e, List.getElem_take]
theorem mem_drop_nth {l : List Int} {k : Nat} {x : Int} : x ∈ l.drop k → ∃ t, k ≤ t ∧ t < l.length ∧ nth l t = x := fun h => by
  obtain ⟨i, hi, e⟩ := List.mem_iff_getElem.1 h
  rw [List.length_drop] at hi
  refine ⟨k + i, by omega, by omega, ?_⟩
  rw [nth_eq (by omega), ← e, List.getElem_drop]
/-- y put at its place. -/
def putAt (s : List Int) (k : Nat) (y : Int) : List Int := (s.take k ++ [y]) ++ s.drop k
theorem mem_putAt {s : List Int} {k : Nat} {y x : Int} : x ∈ putAt s k y ↔ x ∈ s ∨ x = y := by
  unfold putAt
  rw [List.mem_append, List.mem_append, List.mem_singleton]
  constructor
  · rintro ((h | h) | h)
    · exact .inl (List.mem_of_mem_take h)
    · exact .inr h
    · exact .inl (List.mem_of_mem_drop h)
  · rintro (h | h)
    · rw [← List.take_append_drop k s, List.mem_append] at h
      rcases h with h | h
      · exact .inl (.inl h)
      · exact .inr h
    · exact .inl (.inr h)
theorem inc_putAt {s : List Int} (hs : Inc s) {k : Nat} {y : Int} (h1 : ∀ t, t < k → t < s.length → nth s t < y) (h2 : ∀ t, k ≤ t → t < s.length → y < nth s t) : Inc (putAt s k y) := by
  unfold putAt Inc
  rw [List.pairwise_append]
  refine ⟨?_, List.Pairwise.sublist (List.drop_sublist k s) hs, ?_⟩
  · rw [List.pairwise_append]
    refine ⟨List.Pairwise.sublist (List.take_sublist k s) hs, List.pairwise_singleton _ _, fun a ha b hb => ?_⟩
    obtain rfl := List.mem_singleton.1 hb
    obtain ⟨t, e1, e2, rfl⟩ := mem_take_nth ha
    exact h1 t e1 e2
  · intro a ha b hb
    obtain ⟨u, e3, e4, rfl⟩ := mem_drop_nth hb
    rcases List.mem_append.1 ha with ha | ha
    · obtain ⟨t, e1, e2, rfl⟩ := mem_take_nth ha
      have := h1 t e1 e2
      have := h2 u e3 e4
      omega
    · obtain rfl := List.mem_singleton.1 ha
      exact h2 u e3 e4
theorem putAt_length {s : List Int} {k : Nat} {y : Int} : (putAt s k y).length = s.length + 1 := by
  unfold putAt
  rw [List.length_append, List.length_append, List.length_take, List.length_drop, List.length_singleton]
  omega
end Go.Proofs.YthjifmfmaiagoaaGreatDoor

/- Words for what lies in memory: a slice of whole numbers, a slice of such slices, a slice of ways, a graph; each read in a world, and kept where old memory is kept. -/
namespace Go.Proofs.YthjifmfmaiagoaaGreatDoor
open Go.RowKit

theorem hid {p : Prop} (h : p) : Hid p := h
/-- All that lay in w lies in w'. -/
abbrev Ext (w w' : World) : Prop := Below w.heap.size w w'
theorem Ext.refl (w : World) : Ext w w := Below.refl _ _
theorem Ext.trans {a b c : World} (h : Ext a b) (k : Ext b c) : Ext a c := Below.trans h (Below.mono k h.size)
theorem Ext.alloc {a b : World} (h : Ext a b) (o : Obj) : Ext a (b.alloc o) := Below.alloc h h.size o
theorem Ext.drewN {a b : World} (h : Ext a b) (n : Nat) : Ext a (b.drewN n) := ⟨h.os, h.tape, h.output, h.size, h.block⟩
theorem Ext.drew {a b : World} (h : Ext a b) : Ext a b.drew := ⟨h.os, h.tape, h.output, h.size, h.block⟩
theorem Ext.cell {w w' : World} (h : Ext w w') {a : Addr} {v : Value} (hc : w.cell? a = some v) : w'.cell? a = some v := (Below.cell h (World.block_lt_of_cell? w a hc)).trans hc

/-- A row of the call's own has been written. -/
theorem Ext.grown {w wr w1 : World} {B n : Nat} {e : TypeId} {size : Nat} {v : Value} {xs : List Value} (h : Ext w wr) (ho : wr.ownsRow B e size v n xs) (hB : w.heap.size ≤ B) (hg : wr.grownBy w1 v.ownBlock) : Ext w w1 :=
  Below.grown h hg h.size fun k hk => by
    rcases ho.2 with ⟨rfl, _⟩ | ⟨g, cap, cur, rfl, hb, _⟩
    · simp [Value.ownBlock] at hk
    · have : g = k := by simpa [Value.ownBlock] using hk
      omega
/-- append(v, y), y of one cell, v a row of the call's own. -/
theorem app1 {ops : Array Oper} {rest : List Oper} {o : Oper} {a : Act} {Q : Exit → Act → World → Prop} {W : World} (B : Nat) (hgd : o.guard = none) (s x : Operand) (t e : TypeId) (z : Value) (bytes : Nat)
    (ho : o.op = .call { callee := .builtin .append, args := #[s, x], argTypes := #[t, t] })
    (ht : Tryz.prog.underlying t = some (.slice e)) (hinfo : (Tryz.prog.info? e).map (fun i => (i.zero, i.size, i.bytes)) = some (some z, 1, bytes)) (hz : z.cells.size = 1) (hb0 : 0 < bytes)
    (v : Value) (xs : List Value) (y : Value) (hs : a.eval s = v) (hx : a.eval x = .slice (some ⟨W.heap.size, 0, none⟩) 1 1) (h1 : y.oneCell' = true)
    (HO : W.ownsRow B e 1 v xs.length xs) (hB : B ≤ W.heap.size) (hl : (xs.length + 1) * bytes ≤ 140737488355328)
    (h : ∀ v1 w1, w1.ownsRow B e 1 v1 (xs.length + 1) (xs ++ [y]) → W.grownBy w1 v.ownBlock → (v1.ownBlock = v.ownBlock ∨ ∃ b, v1.ownBlock = some b ∧ W.heap.size ≤ b) → wpList Tryz.prog ops Q rest (a.put o.dst v1) w1) :
    wpList Tryz.prog ops Q (o :: rest) a (W.alloc (.cells #[y] e)) := by
  obtain ⟨i0, hi, hzz⟩ := Option.map_eq_some_iff.1 hinfo
  simp only [Prod.mk.injEq] at hzz
  obtain ⟨hz0, hz1, hz2⟩ := hzz
  have hlen : xs.length + 1 ≤ 140737488355328 := Nat.le_trans (Nat.le_mul_of_pos_right _ hb0) hl
  refine wpList_append_own_at (W.alloc (.cells #[y] e)) hgd s x t ho B e i0 z 1 bytes ht hi hz0 hz1 hz2 hz (by omega) v xs.length xs hs (HO.alloc _) ⟨W.heap.size, 0, none⟩ 1 1 [y] hx rfl
    (World.news_of_block (cs := #[y]) (t := e) (fr := (0, 0)) (heap_alloc_new W _)) (by simpa using h1) (by simp only [maxLen]; omega) hl (by simp; omega) ?_
  intro v1 w1 hown hg _ hat
  refine h v1 w1 (by simpa using hown) (World.grownBy.trans (World.grownBy_alloc W _ _) hg) ?_
  rcases hat with hat | hat
  · exact .inl hat
  · exact .inr ⟨_, hat, by simp⟩

/-- A slice (address, length, capacity) reads as a list of numbers. -/
structure RI (w : World) (A : Option Addr) (n c : Nat) (l : List Int) : Prop where
  len : l.length = n
  cap : n ≤ c
  big : c ≤ 9223372036854775807
  cell : ∀ i, i < n → ∃ ad, A = some ad ∧ w.cell? (ad.add i) = some (.int .i64 (nth l i))
theorem RI.ext {w w' : World} {A : Option Addr} {n c : Nat} {l : List Int} (h : RI w A n c l) (e : Ext w w') : RI w' A n c l :=
  ⟨h.len, h.cap, h.big, fun i hi => by
    obtain ⟨ad, ha, hc⟩ := h.cell i hi
    exact ⟨ad, ha, e.cell hc⟩⟩
theorem RI.nil (w : World) : RI w none 0 0 [] := ⟨rfl, Nat.le_refl _, by omega, fun i hi => absurd hi (Nat.not_lt_zero _)⟩
theorem RI.lenle {w : World} {A : Option Addr} {n c : Nat} {l : List Int} (h : RI w A n c l) : n ≤ 9223372036854775807 := Nat.le_trans h.cap h.big

/-- What is left behind k elements, where the slice has room beyond k. -/
theorem RI.drop {w : World} {ad : Addr} {n c : Nat} {l : List Int} (h : RI w (some ad) n c l) (k : Nat) (hk : k ≤ n) (h0 : 0 < k) : RI w (some ⟨ad.block, ad.off + k, none⟩) (n - k) (c - k) (l.drop k) :=
  ⟨by rw [List.length_drop, h.len], by have := h.cap; omega, by have := h.big; omega, fun i hi => by
    obtain ⟨ad', ha, hc⟩ := h.cell (k + i) (by omega)
    cases ha
    refine ⟨_, rfl, ?_⟩
    rw [nth_drop]
    have e : (⟨ad.block, ad.off + k, none⟩ : Addr).add i = ad.add (k + i) := by
      unfold Addr.add
      rw [if_neg (by omega : ¬ k + i = 0)]
      split
      · rename_i hi0
        subst hi0
        rfl
      · simp only [Nat.add_assoc]
    rw [e]
    exact hc⟩
theorem RI.empty {w : World} {A : Option Addr} {n c : Nat} {l : List Int} (h : RI w A n c l) (A' : Option Addr) : RI w A' 0 0 (l.drop n) :=
  ⟨by rw [List.length_drop, h.len]; omega, Nat.le_refl _, by omega, fun i hi => absurd hi (Nat.not_lt_zero _)⟩

/-- A slice reads as a list of lists of numbers. -/
structure RR (w : World) (A : Option Addr) (n c : Nat) (l : List (List Int)) : Prop where
  len : l.length = n
  cap : n ≤ c
  big : c ≤ 9223372036854775807
  cell : ∀ i, i < n → ∃ ad B m d, A = some ad ∧ w.cell? (ad.add i) = some (.slice B m d) ∧ RI w B m d (row l i)
theorem RR.ext {w w' : World} {A : Option Addr} {n c : Nat} {l : List (List Int)} (h : RR w A n c l) (e : Ext w w') : RR w' A n c l :=
  ⟨h.len, h.cap, h.big, fun i hi => by
    obtain ⟨ad, B, m, d, ha, hc, hr⟩ := h.cell i hi
    exact ⟨ad, B, m, d, ha, e.cell hc, hr.ext e⟩⟩
theorem RR.nil (w : World) : RR w none 0 0 [] := ⟨rfl, Nat.le_refl _, by omega, fun i hi => absurd hi (Nat.not_lt_zero _)⟩
theorem RR.lenle {w : World} {A : Option Addr} {n c : Nat} {l : List (List Int)} (h : RR w A n c l) : n ≤ 9223372036854775807 := Nat.le_trans h.cap h.big

/-- A slice reads as a list of ways. -/
structure RW (w : World) (A : Option Addr) (n c : Nat) (l : List Way) : Prop where
  len : l.length = n
  cap : n ≤ c
  big : c ≤ 9223372036854775807
  cell : ∀ i, i < n → ∃ ad B m d B' m' d', A = some ad ∧ w.cell? (ad.add (i * 2)) = some (.slice B m d) ∧ w.cell? ⟨(ad.add (i * 2)).block, (ad.add (i * 2)).off + 1, none⟩ = some (.slice B' m' d') ∧ RI w B m d (way l i).pos ∧ RI w B' m' d' (way l i).neg
theorem RW.ext {w w' : World} {A : Option Addr} {n c : Nat} {l : List Way} (h : RW w A n c l) (e : Ext w w') : RW w' A n c l :=
  ⟨h.len, h.cap, h.big, fun i hi => by
    obtain ⟨ad, B, m, d, B', m', d', ha, hc, hc', hr, hr'⟩ := h.cell i hi
    exact ⟨ad, B, m, d, B', m', d', ha, e.cell hc, e.cell hc', hr.ext e, hr'.ext e⟩⟩
theorem RW.nil (w : World) : RW w none 0 0 [] := ⟨rfl, Nat.le_refl _, by omega, fun i hi => absurd hi (Nat.not_lt_zero _)⟩
theorem RW.lenle {w : World} {A : Option Addr} {n c : Nat} {l : List Way} (h : RW w A n c l) : n ≤ 9223372036854775807 := Nat.le_trans h.cap h.big

/-- A graph's three cells: the number, the costs' slice, the edges' slice. -/
structure RG (w : World) (CA : Option Addr) (cn cc : Nat) (EA : Option Addr) (en ec : Nat) (g : Graph) : Prop where
  cost : RI w CA cn cc g.cost
  edges : RR w EA en ec g.edges
  n64 : -9223372036854775808 ≤ g.n ∧ g.n ≤ 9223372036854775807
theorem RG.ext {w w' : World} {CA EA : Option Addr} {cn cc en ec : Nat} {g : Graph} (h : RG w CA cn cc EA en ec g) (e : Ext w w') : RG w' CA cn cc EA en ec g :=
  ⟨h.cost.ext e, h.edges.ext e, h.n64⟩
end Go.Proofs.YthjifmfmaiagoaaGreatDoor

/- slices.IndexFunc and slices.ContainsFunc over numbers, over lists of numbers and over ways, for whatever function value: where the search stops. -/
namespace Go.Proofs.YthjifmfmaiagoaaGreatDoor
open Go.RowKit

/-- Behind a search: where it stopped. I: what holds before each element; J: what holds behind the one that was found. -/
def Found (n : Nat) (p : Nat → Bool) (I J : Nat → World → Prop) (e : Ending) (w' : World) : Prop :=
  (∃ i : Nat, i < n ∧ p i = true ∧ (∀ j, j < i → p j = false) ∧ e = .returned (.int .i64 (i : Int)) ∧ J i w') ∨
  ((∀ j, j < n → p j = false) ∧ e = .returned (.int .i64 (-1)) ∧ I n w')
def FoundB (n : Nat) (p : Nat → Bool) (I J : Nat → World → Prop) (e : Ending) (w' : World) : Prop :=
  (∃ i : Nat, i < n ∧ p i = true ∧ (∀ j, j < i → p j = false) ∧ e = .returned (.bool true) ∧ J i w') ∨
  ((∀ j, j < n → p j = false) ∧ e = .returned (.bool false) ∧ I n w')
/-- What is asked of the function value. -/
def CallP (g : Nat) (lb : Array Value) (x : Nat → Value) (p : Nat → Bool) (n : Nat) (I J : Nat → World → Prop) : Prop :=
  ∀ i, i < n → ∀ W, I i W → Calls Tryz.prog g (#[x i] ++ lb) W fun e W' => e = .returned (.bool (p i)) ∧ if p i = true then J i W' else I (i + 1) W'
def Reads1 (A : Option Addr) (n : Nat) (x : Nat → Value) (I : Nat → World → Prop) : Prop := ∀ i, i < n → ∀ W, I i W → ∃ ad, A = some ad ∧ W.cell? (ad.add i) = some (x i)
def Reads2 (A : Option Addr) (n : Nat) (x y : Nat → Value) (I : Nat → World → Prop) : Prop := ∀ i, i < n → ∀ W, I i W → ∃ ad, A = some ad ∧ W.cell? (ad.add (i * 2)) = some (x i) ∧ W.cell? ⟨(ad.add (i * 2)).block, (ad.add (i * 2)).off + 1, none⟩ = some (y i)

set_option maxHeartbeats 400000 in
theorem f137_any (A : Option Addr) (n c : Nat) (g : Nat) (lb : Array Value) (eg : ∀ args w, (callFunc g args).run Tryz.prog w = .ok (.enter g args) w)
    (x : Nat → Value) (p : Nat → Bool) (I J : Nat → World → Prop) (w : World) (hn : n ≤ 9223372036854775807) (hI : I 0 w) (hx : Reads1 A n x I) (hc : CallP g lb x p n I J) :
    Calls Tryz.prog 137 #[.slice A n c, .func (.func g) #[] lb] w fun e w' => Found n p I J e w' := by
  go_enter Tryz.func137, Tryz.ntmps137
  go_wp2
  go_loopg [5, 8] n (fun gg _ s8 wr => ∃ kk : Nat, kk ≤ n ∧ n - kk ≤ gg ∧ s8 = .int .i64 kk ∧ I kk wr ∧ Aside (∀ j, j < kk → p j = false))
  case atStart => exact ⟨0, Nat.zero_le _, by omega, rfl, hI, fun j hj => absurd hj (Nat.not_lt_zero _)⟩
  case round =>
    obtain ⟨kk, hkk, hg, rfl, hI', AA⟩ := hrel
    by_cases hlt : kk < n
    · have hltz : (kk : Int) < (n : Int) := by omega
      obtain ⟨ad, rfl, hcell⟩ := hx kk hlt wr hI'
      have hcall := hc kk hlt wr hI'
      clear hx hc hI hI'
      cases hq : p kk with
      | true =>
        rw [hq] at hcall
        simp only [if_true] at hcall
        go_wp2_with (go_at_fn g; refine hcall.mono ?_; rintro e w' ⟨rfl, hJ⟩)
        go_ret
        exact .inl ⟨kk, hlt, hq, AA.out, rfl, hJ⟩
      | false =>
        rw [hq] at hcall
        simp only [Bool.false_eq_true, if_false] at hcall
        go_wp2_with (go_at_fn g; refine hcall.mono ?_; rintro e w' ⟨rfl, hI'⟩)
        go_roundg (n - (kk + 1))
        case measure => omega
        case rel =>
          refine ⟨kk + 1, by omega, by omega, by go_num, hI', (show Aside _ from fun j hj => ?_)⟩
          by_cases e : j = kk
          · subst e
            exact hq
          · exact AA.out j (by omega)
    · have hltz : ¬ (kk : Int) < (n : Int) := by omega
      have : kk = n := by omega
      subst this
      clear hx hc hI
      go_wp2
      go_ret
      exact .inr ⟨AA.out, rfl, hI'⟩

set_option maxHeartbeats 400000 in
theorem f129_any (A : Option Addr) (n c : Nat) (g : Nat) (lb : Array Value) (eg : ∀ args w, (callFunc g args).run Tryz.prog w = .ok (.enter g args) w)
    (x y : Nat → Value) (p : Nat → Bool) (I J : Nat → World → Prop) (w : World) (hn : n ≤ 9223372036854775807) (hI : I 0 w) (hx : Reads2 A n x y I) (hc : CallP g lb (fun i => .agg #[x i, y i]) p n I J) :
    Calls Tryz.prog 129 #[.slice A n c, .func (.func g) #[] lb] w fun e w' => Found n p I J e w' := by
  go_enter Tryz.func129, Tryz.ntmps129
  go_wp2
  go_loopg [5, 8] n (fun gg _ s8 wr => ∃ kk : Nat, kk ≤ n ∧ n - kk ≤ gg ∧ s8 = .int .i64 kk ∧ I kk wr ∧ Aside (∀ j, j < kk → p j = false))
  case atStart => exact ⟨0, Nat.zero_le _, by omega, rfl, hI, fun j hj => absurd hj (Nat.not_lt_zero _)⟩
  case round =>
    obtain ⟨kk, hkk, hg, rfl, hI', AA⟩ := hrel
    by_cases hlt : kk < n
    · have hltz : (kk : Int) < (n : Int) := by omega
      obtain ⟨ad, rfl, hcell, hcell2⟩ := hx kk hlt wr hI'
      have hcall := hc kk hlt wr hI'
      clear hx hc hI hI'
      cases hq : p kk with
      | true =>
        rw [hq] at hcall
        simp only [if_true] at hcall
        go_wp2_with (go_at_fn g; refine hcall.mono ?_; rintro e w' ⟨rfl, hJ⟩)
        go_ret
        exact .inl ⟨kk, hlt, hq, AA.out, rfl, hJ⟩
      | false =>
        rw [hq] at hcall
        simp only [Bool.false_eq_true, if_false] at hcall
        go_wp2_with (go_at_fn g; refine hcall.mono ?_; rintro e w' ⟨rfl, hI'⟩)
        go_roundg (n - (kk + 1))
        case measure => omega
        case rel =>
          refine ⟨kk + 1, by omega, by omega, by go_num, hI', (show Aside _ from fun j hj => ?_)⟩
          by_cases e : j = kk
          · subst e
            exact hq
          · exact AA.out j (by omega)
    · have hltz : ¬ (kk : Int) < (n : Int) := by omega
      have : kk = n := by omega
      subst this
      clear hx hc hI
      go_wp2
      go_ret
      exact .inr ⟨AA.out, rfl, hI'⟩

set_option maxHeartbeats 400000 in
theorem f186_any (A : Option Addr) (n c : Nat) (g : Nat) (lb : Array Value) (eg : ∀ args w, (callFunc g args).run Tryz.prog w = .ok (.enter g args) w)
    (x : Nat → Value) (p : Nat → Bool) (I J : Nat → World → Prop) (w : World) (hn : n ≤ 9223372036854775807) (hI : I 0 w) (hx : Reads1 A n x I) (hc : CallP g lb x p n I J) :
    Calls Tryz.prog 186 #[.slice A n c, .func (.func g) #[] lb] w fun e w' => Found n p I J e w' := by
  go_enter Tryz.func186, Tryz.ntmps186
  go_wp2
  go_loopg [5, 8] n (fun gg _ s8 wr => ∃ kk : Nat, kk ≤ n ∧ n - kk ≤ gg ∧ s8 = .int .i64 kk ∧ I kk wr ∧ Aside (∀ j, j < kk → p j = false))
  case atStart => exact ⟨0, Nat.zero_le _, by omega, rfl, hI, fun j hj => absurd hj (Nat.not_lt_zero _)⟩
  case round =>
    obtain ⟨kk, hkk, hg, rfl, hI', AA⟩ := hrel
    by_cases hlt : kk < n
    · have hltz : (kk : Int) < (n : Int) := by omega
      obtain ⟨ad, rfl, hcell⟩ := hx kk hlt wr hI'
      have hcall := hc kk hlt wr hI'
      clear hx hc hI hI'
      cases hq : p kk with
      | true =>
        rw [hq] at hcall
        simp only [if_true] at hcall
        go_wp2_with (go_at_fn g; refine hcall.mono ?_; rintro e w' ⟨rfl, hJ⟩)
        go_ret
        exact .inl ⟨kk, hlt, hq, AA.out, rfl, hJ⟩
      | false =>
        rw [hq] at hcall
        simp only [Bool.false_eq_true, if_false] at hcall
        go_wp2_with (go_at_fn g; refine hcall.mono ?_; rintro e w' ⟨rfl, hI'⟩)
        go_roundg (n - (kk + 1))
        case measure => omega
        case rel =>
          refine ⟨kk + 1, by omega, by omega, by go_num, hI', (show Aside _ from fun j hj => ?_)⟩
          by_cases e : j = kk
          · subst e
            exact hq
          · exact AA.out j (by omega)
    · have hltz : ¬ (kk : Int) < (n : Int) := by omega
      have : kk = n := by omega
      subst this
      clear hx hc hI
      go_wp2
      go_ret
      exact .inr ⟨AA.out, rfl, hI'⟩

set_option maxHeartbeats 400000 in
theorem f89_any (A : Option Addr) (n c : Nat) (g : Nat) (lb : Array Value) (eg : ∀ args w, (callFunc g args).run Tryz.prog w = .ok (.enter g args) w)
    (x : Nat → Value) (p : Nat → Bool) (I J : Nat → World → Prop) (w : World) (hn : n ≤ 9223372036854775807) (hI : I 0 w) (hx : Reads1 A n x I) (hc : CallP g lb x p n I J) :
    Calls Tryz.prog 89 #[.slice A n c, .func (.func g) #[] lb] w fun e w' => FoundB n p I J e w' := by
  have h := f137_any A n c g lb eg x p I J w hn hI hx hc
  clear hx hc hI
  go_enter Tryz.func89, Tryz.ntmps89
  go_wp2_with fail
  refine h.mono ?_
  rintro e w' (⟨i, h1, h2, h3, rfl, h4⟩ | ⟨h1, rfl, h2⟩)
  · go_wp2
    go_ret
    exact .inl ⟨i, h1, h2, h3, rfl, h4⟩
  · go_wp2
    go_ret
    exact .inr ⟨h1, rfl, h2⟩

set_option maxHeartbeats 400000 in
theorem f77_any (A : Option Addr) (n c : Nat) (g : Nat) (lb : Array Value) (eg : ∀ args w, (callFunc g args).run Tryz.prog w = .ok (.enter g args) w)
    (x y : Nat → Value) (p : Nat → Bool) (I J : Nat → World → Prop) (w : World) (hn : n ≤ 9223372036854775807) (hI : I 0 w) (hx : Reads2 A n x y I) (hc : CallP g lb (fun i => .agg #[x i, y i]) p n I J) :
    Calls Tryz.prog 77 #[.slice A n c, .func (.func g) #[] lb] w fun e w' => FoundB n p I J e w' := by
  have h := f129_any A n c g lb eg x y p I J w hn hI hx hc
  clear hx hc hI
  go_enter Tryz.func77, Tryz.ntmps77
  go_wp2_with fail
  refine h.mono ?_
  rintro e w' (⟨i, h1, h2, h3, rfl, h4⟩ | ⟨h1, rfl, h2⟩)
  · go_wp2
    go_ret
    exact .inl ⟨i, h1, h2, h3, rfl, h4⟩
  · go_wp2
    go_ret
    exact .inr ⟨h1, rfl, h2⟩

set_option maxHeartbeats 400000 in
theorem f135_any (A : Option Addr) (n c : Nat) (g : Nat) (lb : Array Value) (eg : ∀ args w, (callFunc g args).run Tryz.prog w = .ok (.enter g args) w)
    (x : Nat → Value) (p : Nat → Bool) (I J : Nat → World → Prop) (w : World) (hn : n ≤ 9223372036854775807) (hI : I 0 w) (hx : Reads1 A n x I) (hc : CallP g lb x p n I J) :
    Calls Tryz.prog 135 #[.slice A n c, .func (.func g) #[] lb] w fun e w' => FoundB n p I J e w' := by
  have h := f186_any A n c g lb eg x p I J w hn hI hx hc
  clear hx hc hI
  go_enter Tryz.func135, Tryz.ntmps135
  go_wp2_with fail
  refine h.mono ?_
  rintro e w' (⟨i, h1, h2, h3, rfl, h4⟩ | ⟨h1, rfl, h2⟩)
  · go_wp2
    go_ret
    exact .inl ⟨i, h1, h2, h3, rfl, h4⟩
  · go_wp2
    go_ret
    exact .inr ⟨h1, rfl, h2⟩
end Go.Proofs.YthjifmfmaiagoaaGreatDoor

/- hyper.isSet, hyper.weighed, slices.Equal over numbers, slices.EqualFunc at slices.Equal: what they return. -/
namespace Go.Proofs.YthjifmfmaiagoaaGreatDoor
open Go.RowKit

/-- Element i is in order, and a number below N. -/
def setAt (l : List Int) (N : Int) (i : Nat) : Bool := decide (0 ≤ nth l i) && decide (nth l i < N) && (decide (i = 0) || decide (nth l (i - 1) < nth l i))
def isSetB (l : List Int) (N : Int) : Bool := (List.range l.length).all (setAt l N)
theorem isSetB_false {l : List Int} {N : Int} {i : Nat} (hi : i < l.length) (h : setAt l N i = false) : isSetB l N = false := by
  unfold isSetB
  rw [List.all_eq_false]
  exact ⟨i, List.mem_range.2 hi, by rw [h]; simp⟩
theorem isSetB_true {l : List Int} {N : Int} (h : ∀ i, i < l.length → setAt l N i = true) : isSetB l N = true := by
  unfold isSetB
  rw [List.all_eq_true]
  exact fun i hi => h i (List.mem_range.1 hi)
theorem ret_bool {a b : Bool} (h : a = b) : Ending.returned (.bool a) = .returned (.bool b) := by rw [h]

set_option maxHeartbeats 400000 in
theorem isSet_any (A : Option Addr) (n c : Nat) (l : List Int) (N : Int) (w : World) (hr : RI w A n c l) :
    Calls Tryz.prog 110 #[.slice A n c, .int .i64 N] w fun e w' => e = .returned (.bool (isSetB l N)) ∧ w = w' := by
  have hn := hr.lenle
  go_enter Tryz.func110, Tryz.ntmps110
  go_wp2
  go_loopg [5, 6, 9] n (fun gg _ _ s9 wr => ∃ kk : Nat, kk ≤ n ∧ n - kk ≤ gg ∧ s9 = .int .i64 kk ∧ wr = w ∧ Aside (∀ j, j < kk → setAt l N j = true))
  case atStart => exact ⟨0, Nat.zero_le _, by omega, rfl, rfl, fun j hj => absurd hj (Nat.not_lt_zero _)⟩
  case round =>
    obtain ⟨kk, hkk, hg, rfl, rfl, AA⟩ := hrel
    by_cases hlt : kk < n
    · have hltz : (kk : Int) < (n : Int) := by omega
      obtain ⟨ad, rfl, hcell⟩ := hr.cell kk hlt
      have hl := hr.len
      have HL : Hid (l.length = n) := hl
      clear hl
      have hcell' : 0 < kk → wr.cell? (ad.add (kk - 1)) = some (.int .i64 (nth l (kk - 1))) := fun h => by
        obtain ⟨ad', e, hc⟩ := hr.cell (kk - 1) (by omega)
        cases e
        exact hc
      clear hr
      have hq : ∀ x y, nth l kk = x → nth l (kk - 1) = y → setAt l N kk = (decide (0 ≤ x) && decide (x < N) && (decide (kk = 0) || decide (y < x))) := by rintro x y rfl rfl; simp [setAt]
      have HQ : Hid (∀ x y, nth l kk = x → nth l (kk - 1) = y → setAt l N kk = (decide (0 ≤ x) && decide (x < N) && (decide (kk = 0) || decide (y < x)))) := hq
      clear hq
      generalize nth l kk = x at *
      generalize nth l (kk - 1) = y at *
      have HQ' : Hid (setAt l N kk = (decide (0 ≤ x) && decide (x < N) && (decide (kk = 0) || decide (y < x)))) := HQ.out x y rfl rfl
      clear HQ
      go_wp2
      all_goals first
        | (go_ret; exact ⟨ret_bool (isSetB_false (by rw [HL.out]; exact hlt) (by rw [HQ'.out]; simp; omega)).symm, rfl⟩)
        | (go_roundg (n - (kk + 1))
           case measure => omega
           case rel =>
            refine ⟨kk + 1, by omega, by omega, by go_num, rfl, (show Aside _ from fun j hj => ?_)⟩
            by_cases e : j = kk
            · subst e
              rw [HQ'.out]; simp; omega
            · exact AA.out j (by omega))
    · have hltz : ¬ (kk : Int) < (n : Int) := by omega
      have : kk = n := by omega
      subst this
      have HR : Hid (RI wr A kk c l) := hr
      clear hr
      go_wp2
      go_ret
      exact ⟨ret_bool (isSetB_true (fun i hi => AA.out i (by have := HR.out.len; omega))).symm, rfl⟩

/-- A cost is out of range. -/
def badCost (x : Int) : Bool := decide (x < 0) || decide (1000000000 < x)
set_option maxHeartbeats 400000 in
theorem f196_any (x : Int) (w : World) : Calls Tryz.prog 196 #[.int .i64 x] w fun e w' => e = .returned (.bool (badCost x)) ∧ w = w' := by
  go_enter Tryz.func196, Tryz.ntmps196
  go_wp2
  all_goals (go_ret; exact ⟨ret_bool (by simp [badCost] <;> omega), rfl⟩)

def weighedB (N : Int) (l : List Int) : Bool := decide (0 ≤ N) && decide (N ≤ 4000) && decide ((l.length : Int) = N) && !(List.range l.length).any (fun i => badCost (nth l i))
set_option maxHeartbeats 400000 in
theorem weighed_any (N : Int) (A : Option Addr) (n c : Nat) (l : List Int) (w : World) (hr : RI w A n c l) :
    Calls Tryz.prog 156 #[.int .i64 N, .slice A n c] w fun e w' => e = .returned (.bool (weighedB N l)) ∧ w = w' := by
  have hn := hr.lenle
  have h := f89_any A n c 196 #[] (enters_of Tryz.func196 (by kernel_rfl) rfl) (fun i => .int .i64 (nth l i)) (fun i => badCost (nth l i)) (fun _ W => W = w) (fun _ W => W = w) w hn rfl
    (fun i hi W hW => by subst hW; exact hr.cell i hi) (fun i hi W hW => by
      subst hW
      exact (f196_any (nth l i) W).mono fun e W' ⟨he, hw⟩ => ⟨he, by subst hw; split <;> rfl⟩)
  have HL : Hid (l.length = n) := hr.len
  clear hr
  have HS : Hid (∀ b : Bool, (List.range n).any (fun i => badCost (nth l i)) = b → weighedB N l = (decide (0 ≤ N) && decide (N ≤ 4000) && decide ((n : Int) = N) && !b)) := by
    rintro b rfl
    unfold weighedB
    rw [HL.out]
  go_enter Tryz.func156, Tryz.ntmps156
  go_wp2_with fail
  all_goals first
    | (refine h.mono ?_
       rintro e w' (⟨i, h1, h2, _, rfl, rfl⟩ | ⟨h1, rfl, rfl⟩)
       · go_wp2
         go_ret
         exact ⟨ret_bool (by rw [HS.out true (List.any_eq_true.2 ⟨i, List.mem_range.2 h1, h2⟩)]; simp), rfl⟩
       · go_wp2
         go_ret
         exact ⟨ret_bool (by rw [HS.out false (List.any_eq_false.2 fun i hi => by rw [h1 i (List.mem_range.1 hi)]; simp)]; simp; omega), rfl⟩)
    | (go_ret; exact ⟨ret_bool (by rw [HS.out _ rfl]; simp; omega), rfl⟩)

/-! slices.Equal -/
theorem list_eq_iff {l m : List Int} (h : l.length = m.length) : l = m ↔ ∀ i, i < l.length → nth l i = nth m i := by
  constructor
  · rintro rfl i _
    rfl
  · intro hh
    refine List.ext_getElem h fun i h1 h2 => ?_
    have := hh i h1
    rwa [nth_eq h1, nth_eq h2] at this
set_option maxHeartbeats 400000 in
theorem f159_any (A B : Option Addr) (n c m d : Nat) (l k : List Int) (w : World) (hr : RI w A n c l) (hs : RI w B m d k) :
    Calls Tryz.prog 159 #[.slice A n c, .slice B m d] w fun e w' => e = .returned (.bool (decide (l = k))) ∧ ∃ q, w' = w.drewN q := by
  have hn := hr.lenle
  have hm := hs.lenle
  by_cases hnm : n = m
  · subst hnm
    go_enter Tryz.func159, Tryz.ntmps159
    go_wp2
    go_loopg [5, 13] n (fun gg _ s9 wr => ∃ kk q : Nat, kk ≤ n ∧ n - kk ≤ gg ∧ s9 = .int .i64 kk ∧ wr = w.drewN q ∧ Aside (∀ j, j < kk → nth l j = nth k j))
    case atStart => exact ⟨0, 0, Nat.zero_le _, by omega, rfl, rfl, fun j hj => absurd hj (Nat.not_lt_zero _)⟩
    case round =>
      obtain ⟨kk, q, hkk, hg, rfl, rfl, AA⟩ := hrel
      by_cases hlt : kk < n
      · have hltz : (kk : Int) < (n : Int) := by omega
        obtain ⟨ad, rfl, hcell⟩ := hr.cell kk hlt
        obtain ⟨bd, rfl, hcell2⟩ := hs.cell kk hlt
        have HL : Hid (l.length = n ∧ k.length = n) := ⟨hr.len, hs.len⟩
        clear hr hs
        by_cases hxy : nth l kk = nth k kk
        · have HX : Hid (nth l kk = nth k kk) := hxy
          rw [hxy] at hcell
          clear hxy
          generalize nth k kk = y at hcell hcell2
          go_wp2
          go_quiet (fail)
          go_wp2
          go_roundg (n - (kk + 1))
          case measure => omega
          case rel =>
            refine ⟨kk + 1, q + nq, by omega, by omega, by go_num, rfl, (show Aside _ from fun j hj => ?_)⟩
            by_cases e : j = kk
            · subst e
              exact HX.out
            · exact AA.out j (by omega)
        · have HX : Hid (nth l kk ≠ nth k kk) := hxy
          have hne : (nth l kk == nth k kk) = false := by simpa using hxy
          have hne2 : (nth l kk != nth k kk) = true := by simpa using hxy
          clear hxy
          generalize hx : nth l kk = x at hcell hne hne2
          generalize hy : nth k kk = y at hcell2 hne hne2
          have HX2 : Hid (nth l kk = x ∧ nth k kk = y) := ⟨hx, hy⟩
          clear hx hy
          go_wp2
          go_quiet (fail)
          go_wp2
          go_ret
          exact ⟨ret_bool (decide_eq_false fun e => HX.out (by rw [e])).symm, q + nq, by first | rfl | simp [World.drewN_drewN]⟩
      · have hltz : ¬ (kk : Int) < (n : Int) := by omega
        have : kk = n := by omega
        subst this
        have HR : Hid (l.length = kk ∧ k.length = kk) := ⟨hr.len, hs.len⟩
        clear hr hs
        go_wp2
        go_ret
        exact ⟨ret_bool (decide_eq_true ((list_eq_iff (by rw [HR.out.1, HR.out.2])).2 fun i hi => AA.out i (by have := HR.out.1; omega))).symm, q, rfl⟩
  · have HR : Hid (l.length = n ∧ k.length = m) := ⟨hr.len, hs.len⟩
    clear hr hs
    go_enter Tryz.func159, Tryz.ntmps159
    go_wp2
    go_ret
    exact ⟨ret_bool (decide_eq_false fun e => hnm (by rw [← HR.out.1, ← HR.out.2, e])).symm, 0, rfl⟩


/-! slices.EqualFunc at slices.Equal -/
theorem rows_eq_iff {l m : List (List Int)} (h : l.length = m.length) : l = m ↔ ∀ i, i < l.length → row l i = row m i := by
  constructor
  · rintro rfl i _
    rfl
  · intro hh
    refine List.ext_getElem h fun i h1 h2 => ?_
    have := hh i h1
    rwa [row_eq h1, row_eq h2] at this
set_option maxHeartbeats 400000 in
theorem f157_any (A B : Option Addr) (n c m d : Nat) (l k : List (List Int)) (w : World) (hr : RR w A n c l) (hs : RR w B m d k) :
    Calls Tryz.prog 157 #[.slice A n c, .slice B m d, .func (.func 159) #[] #[]] w fun e w' => e = .returned (.bool (decide (l = k))) ∧ ∃ q, w' = w.drewN q := by
  have eg : ∀ args w, (callFunc 159 args).run Tryz.prog w = .ok (.enter 159 args) w := enters_of Tryz.func159 (by kernel_rfl) rfl
  have hn := hr.lenle
  have hm := hs.lenle
  by_cases hnm : n = m
  · subst hnm
    go_enter Tryz.func157, Tryz.ntmps157
    go_wp2
    go_loopg [7, 8, 9, 17] n (fun gg _ _ _ s9 wr => ∃ kk q : Nat, kk ≤ n ∧ n - kk ≤ gg ∧ s9 = .int .i64 kk ∧ wr = w.drewN q ∧ Aside (∀ j, j < kk → row l j = row k j))
    case atStart => exact ⟨0, 0, Nat.zero_le _, by omega, rfl, rfl, fun j hj => absurd hj (Nat.not_lt_zero _)⟩
    case round =>
      obtain ⟨kk, q, hkk, hg, rfl, rfl, AA⟩ := hrel
      by_cases hlt : kk < n
      · have hltz : (kk : Int) < (n : Int) := by omega
        obtain ⟨ad, X, xm, xc, rfl, hcell, hX⟩ := hr.cell kk hlt
        obtain ⟨bd, Y, ym, yc, rfl, hcell2, hY⟩ := hs.cell kk hlt
        have HL : Hid (l.length = n ∧ k.length = n) := ⟨hr.len, hs.len⟩
        have hcall : ∀ q, Calls Tryz.prog 159 #[.slice X xm xc, .slice Y ym yc] (w.drewN q) fun e w' => e = .returned (.bool (decide (row l kk = row k kk))) ∧ ∃ q', w' = (w.drewN q).drewN q' :=
          fun q => f159_any X Y xm xc ym yc _ _ _ (hX.ext ((Ext.refl w).drewN q)) (hY.ext ((Ext.refl w).drewN q))
        clear hr hs hX hY
        by_cases hxy : row l kk = row k kk
        · rw [decide_eq_true hxy] at hcall
          have HX : Hid (row l kk = row k kk) := hxy
          clear hxy
          go_wp2_with (go_at_fn 159; refine (hcall _).mono ?_; rintro e w' ⟨rfl, q', rfl⟩)
          go_roundg (n - (kk + 1))
          case measure => omega
          case rel =>
            refine ⟨kk + 1, q + q', by omega, by omega, by go_num, by first | rfl | simp, (show Aside _ from fun j hj => ?_)⟩
            by_cases e : j = kk
            · subst e
              exact HX.out
            · exact AA.out j (by omega)
        · rw [decide_eq_false hxy] at hcall
          have HX : Hid (row l kk ≠ row k kk) := hxy
          clear hxy
          go_wp2_with (go_at_fn 159; refine (hcall _).mono ?_; rintro e w' ⟨rfl, q', rfl⟩)
          go_ret
          exact ⟨ret_bool (decide_eq_false fun e => HX.out (by rw [e])).symm, q + q', by first | rfl | simp⟩
      · have hltz : ¬ (kk : Int) < (n : Int) := by omega
        have : kk = n := by omega
        subst this
        have HR : Hid (l.length = kk ∧ k.length = kk) := ⟨hr.len, hs.len⟩
        clear hr hs
        go_wp2
        go_ret
        exact ⟨ret_bool (decide_eq_true ((rows_eq_iff (by rw [HR.out.1, HR.out.2])).2 fun i hi => AA.out i (by have := HR.out.1; omega))).symm, q, rfl⟩
  · have HR : Hid (l.length = n ∧ k.length = m) := ⟨hr.len, hs.len⟩
    clear hr hs
    go_enter Tryz.func157, Tryz.ntmps157
    go_wp2
    go_ret
    exact ⟨ret_bool (decide_eq_false fun e => hnm (by rw [← HR.out.1, ← HR.out.2, e])).symm, 0, rfl⟩
end Go.Proofs.YthjifmfmaiagoaaGreatDoor

/- cmp.Less, slices.BinarySearch over numbers, hyper.contains, proof.set, proof.below, proof.has: what they return. -/
namespace Go.Proofs.YthjifmfmaiagoaaGreatDoor
open Go.RowKit

set_option maxHeartbeats 400000 in
theorem f217_any (x : Int) (w : World) : Calls Tryz.prog 217 #[.int .i64 x] w fun e w' => e = .returned (.bool false) ∧ w = w' := by
  go_enter Tryz.func217, Tryz.ntmps217
  go_wp2
  go_ret
  exact ⟨by simp, rfl⟩
set_option maxHeartbeats 400000 in
theorem f188_any (x : Int) (w : World) : Calls Tryz.prog 188 #[.int .i64 x] w fun e w' => e = .returned (.bool false) ∧ w = w' := by
  go_enter Tryz.func188, Tryz.ntmps188
  go_wp2
  go_ret
  exact ⟨by simp, rfl⟩
set_option maxHeartbeats 400000 in
theorem f187_any (x y : Int) (w : World) : Calls Tryz.prog 187 #[.int .i64 x, .int .i64 y] w fun e w' => e = .returned (.bool (decide (x < y))) ∧ w = w' := by
  go_enter Tryz.func187, Tryz.ntmps187
  go_wp2_with (go_at_call 217; refine (f217_any _ _).mono ?_; rintro e w' ⟨rfl, rfl⟩)
  go_ret
  exact ⟨rfl, rfl⟩

set_option maxHeartbeats 1000000 in
theorem search_any (A : Option Addr) (n c : Nat) (l : List Int) (x : Int) (w : World) (hr : RI w A n c l) (hbig : n < 4611686018427387904) (hs : Inc l) :
    Calls Tryz.prog 138 #[.slice A n c, .int .i64 x] w fun e w' => e = .returned (.tuple #[.int .i64 (below l x : Nat), .bool (decide (x ∈ l))]) ∧ w = w' := by
  have HI : Hid (Inc l) := hs
  clear hs
  have HL : Hid (l.length = n) := hr.len
  have hc := hr.cell
  clear hr
  go_enter Tryz.func138, Tryz.ntmps138
  go_wp2
  go_loopg [7, 8, 9] n (fun g s7 s8 _ wr => ∃ lo hi : Nat, s7 = .int .i64 lo ∧ s8 = .int .i64 hi ∧ lo ≤ hi ∧ hi ≤ n ∧ hi - lo ≤ g ∧ wr = w ∧ Aside ((∀ t, t < lo → nth l t < x) ∧ (∀ t, hi ≤ t → t < l.length → x ≤ nth l t)))
  case atStart => exact ⟨0, n, rfl, rfl, Nat.zero_le _, Nat.le_refl _, by omega, rfl, fun t ht => absurd ht (Nat.not_lt_zero _), fun t h1 h2 => by have := HL.out; omega⟩
  case round =>
    obtain ⟨lo, hi, rfl, rfl, hlh, hin, hg, rfl, I⟩ := hrel
    by_cases hlt : lo < hi
    · obtain ⟨ad, rfl, cm⟩ := hc ((lo + hi) / 2) (by omega)
      clear hc
      generalize hy : nth l ((lo + hi) / 2) = y at cm
      have Y : Aside (nth l ((lo + hi) / 2) = y) := hy
      clear hy
      by_cases hyx : y < x
      · go_wp2_with (go_at_call 187; refine (f187_any _ _ _).mono ?_; rintro e w' ⟨rfl, rfl⟩)
        go_roundg (hi - ((lo + hi) / 2 + 1))
        case measure => omega
        case rel =>
          refine ⟨(lo + hi) / 2 + 1, hi, by rw [show ((lo : Int) + (hi : Int)) / 2 + 1 = (((lo + hi) / 2 + 1 : Nat) : Int) by omega], rfl, by omega, hin, Nat.le_refl _, rfl, (show Aside _ from ⟨fun t ht => ?_, I.out.2⟩)⟩
          have := inc_le HI.out (i := t) (j := (lo + hi) / 2) (by omega) (by have := HL.out; omega)
          rw [Y.out] at this
          omega
      · go_wp2_with (go_at_call 187; refine (f187_any _ _ _).mono ?_; rintro e w' ⟨rfl, rfl⟩)
        go_roundg ((lo + hi) / 2 - lo)
        case measure => omega
        case rel =>
          refine ⟨lo, (lo + hi) / 2, rfl, by rw [show ((lo : Int) + (hi : Int)) / 2 = (((lo + hi) / 2 : Nat) : Int) by omega], by omega, by omega, Nat.le_refl _, rfl, (show Aside _ from ⟨I.out.1, fun t ht htn => ?_⟩)⟩
          have := inc_le HI.out (i := (lo + hi) / 2) (j := t) ht htn
          rw [Y.out] at this
          omega
    · have : hi = lo := by omega
      subst this
      obtain ⟨e1, e2⟩ := search_end HI.out x hi (by have := HL.out; omega) I.out.1 I.out.2
      have E : Aside (below l x = hi ∧ decide (x ∈ l) = decide (hi < n ∧ nth l hi = x)) := ⟨e1, by have := HL.out; rw [← this]; exact decide_eq_decide.2 e2⟩
      clear e1 e2
      by_cases hn : hi < n
      · obtain ⟨ad, rfl, cl⟩ := hc hi hn
        clear hc
        generalize hy : nth l hi = y at cl
        have Y : Aside (nth l hi = y) := hy
        clear hy
        by_cases hyx : y = x
        · go_wp2_with (go_at_call 188; refine (f188_any _ _).mono ?_; rintro e w' ⟨rfl, rfl⟩)
          go_ret2
          refine ⟨?_, rfl⟩
          rw [E.out.1, E.out.2, Y.out, decide_eq_true (show hi < n ∧ y = x from ⟨hn, hyx⟩)]
          first | rfl | simp [*]
        · go_wp2_with (go_at_call 188; refine (f188_any _ _).mono ?_; rintro e w' ⟨rfl, rfl⟩)
          go_ret2
          refine ⟨?_, rfl⟩
          rw [E.out.1, E.out.2, Y.out, decide_eq_false (show ¬ (hi < n ∧ y = x) from fun h => hyx h.2)]
          first | rfl | simp [*]
      · clear hc
        go_wp2_with (go_at_call 188; refine (f188_any _ _).mono ?_; rintro e w' ⟨rfl, rfl⟩)
        go_ret2
        refine ⟨?_, rfl⟩
        rw [E.out.1, E.out.2, decide_eq_false (show ¬ (hi < n ∧ nth l hi = x) from fun h => hn h.1)]
        first | rfl | simp [*]

/-! hyper.contains -/
def subB (a b : List Int) : Bool := decide (∀ x ∈ b, x ∈ a)
set_option maxHeartbeats 1000000 in
theorem f225_any (A B : Option Addr) (n c m d : Nat) (la lb : List Int) (w : World) (hr : RI w A n c la) (hs : RI w B m d lb) (hbig : n < 4611686018427387904) (ha : Inc la) (hb : Inc lb) :
    Calls Tryz.prog 225 #[.slice A n c, .slice B m d] w fun e w' => e = .returned (.bool (subB la lb)) ∧ w = w' := by
  have hm := hs.lenle
  have HB : Hid (Inc lb) := hb
  clear hb
  have hc := hs.cell
  have HL : Hid (lb.length = m) := hs.len
  clear hs
  go_enter Tryz.func225, Tryz.ntmps225
  go_wp2
  go_loopg [0, 6, 7, 8, 11] m (fun g s0 _ _ _ s11 wr => ∃ (kk : Nat) (A' : Option Addr) (n' c' : Nat) (r : List Int), s0 = .slice A' n' c' ∧ s11 = .int .i64 kk ∧ kk ≤ m ∧ m - kk ≤ g ∧ wr = w ∧ n' < 4611686018427387904 ∧
    Aside (RI w A' n' c' r ∧ Inc r ∧ (∀ j, j < kk → nth lb j ∈ la) ∧ ∀ x, (∀ j, j < kk → nth lb j < x) → (x ∈ la ↔ x ∈ r)))
  case atStart => exact ⟨0, A, n, c, la, rfl, rfl, Nat.zero_le _, by omega, rfl, hbig, hr, ha, fun j hj => absurd hj (Nat.not_lt_zero _), fun x _ => Iff.rfl⟩
  case round =>
    clear hr ha
    obtain ⟨kk, A', n', c', r, rfl, rfl, hkm, hg, rfl, hbig', I⟩ := hrel
    by_cases hlt : kk < m
    · have hltz : (kk : Int) < (m : Int) := by omega
      obtain ⟨bd, rfl, hcell⟩ := hc kk hlt
      have HN : Hid (∀ j, j < kk → nth lb j < nth lb kk) := fun j hj => (inc_iff lb).1 HB.out j kk hj (by have := HL.out; omega)
      generalize hy : nth lb kk = v at hcell HN
      have Y : Aside (nth lb kk = v) := hy
      clear hy
      have hcall := search_any A' n' c' r v wr I.out.1 hbig' I.out.2.1
      by_cases hv : v ∈ r
      · rw [decide_eq_true hv] at hcall
        obtain ⟨hb1, hb2⟩ := below_mem I.out.2.1 hv
        have hn' : below r v < n' := by have := I.out.1.len; omega
        have hcap := I.out.1.cap
        have hcbig := I.out.1.big
        have HV : Hid (v ∈ r) := hv
        have HM : Hid (∀ x, v < x → (x ∈ r ↔ x ∈ r.drop (below r v + 1))) := fun x hx => mem_drop I.out.2.1 hv hx
        clear hv hb1 hb2
        have hnz : (below r v : Int) < (n' : Int) := by omega
        obtain ⟨ad, rfl, _⟩ := I.out.1.cell (below r v) hn'
        have D1 := hid (I.out.1.drop (below r v + 1) (by omega) (by omega))
        have D2 := hid (I.out.1.empty (some ad))
        generalize hq : below r v = q at hcall hn' hnz HM D1
        clear hq
        have step : ∀ (A2 : Option Addr) (n2 c2 : Nat), RI wr A2 n2 c2 (r.drop (q + 1)) → RI wr A2 n2 c2 (r.drop (q + 1)) ∧ Inc (r.drop (q + 1)) ∧ (∀ j, j < kk + 1 → nth lb j ∈ la) ∧ ∀ x, (∀ j, j < kk + 1 → nth lb j < x) → (x ∈ la ↔ x ∈ r.drop (q + 1)) := fun A2 n2 c2 h =>
          ⟨h, inc_drop I.out.2.1 _, fun j hj => by
            rcases Nat.lt_or_ge j kk with h1 | h1
            · exact I.out.2.2.1 j h1
            · obtain rfl : j = kk := by omega
              rw [Y.out]
              exact (I.out.2.2.2 v HN.out).2 HV.out, fun x hx => by
            rw [I.out.2.2.2 x (fun j hj => hx j (by omega))]
            exact HM.out x (by have := hx kk (by omega); rw [Y.out] at this; exact this)⟩
        have step := hid step
        by_cases hqc : q + 1 = c'
        · subst hqc
          go_wp2_with (go_at_call 138; refine hcall.mono ?_; rintro e w' ⟨rfl, rfl⟩)
          go_roundg (m - (kk + 1))
          case measure => omega
          case rel =>
            refine ⟨kk + 1, some ad, 0, 0, r.drop (q + 1), rfl, by go_num, by omega, by omega, rfl, by omega, step.out _ _ _ ?_⟩
            have : n' = q + 1 := by omega
            have h := D2.out
            rwa [this] at h
        · have hqc' : q + 1 < c' := by omega
          go_wp2_with (go_at_call 138; refine hcall.mono ?_; rintro e w' ⟨rfl, rfl⟩)
          go_roundg (m - (kk + 1))
          case measure => omega
          case rel =>
            refine ⟨kk + 1, _, _, _, r.drop (q + 1), rfl, by go_num, by omega, by omega, rfl, by omega, step.out _ _ _ D1.out⟩
      · rw [decide_eq_false hv] at hcall
        have HV : Hid (v ∉ r) := hv
        clear hv
        go_wp2_with (go_at_call 138; refine hcall.mono ?_; rintro e w' ⟨rfl, rfl⟩)
        go_ret
        refine ⟨ret_bool (decide_eq_false fun h => ?_).symm, rfl⟩
        have h1 := (I.out.2.2.2 v HN.out).1 (h v (by rw [← Y.out]; exact nth_mem (by have := HL.out; omega)))
        exact HV.out h1
    · have hltz : ¬ (kk : Int) < (m : Int) := by omega
      have : kk = m := by omega
      subst this
      clear hc
      go_wp2
      go_ret
      refine ⟨ret_bool (decide_eq_true fun x hx => ?_).symm, rfl⟩
      obtain ⟨j, hj, rfl⟩ := mem_iff_nth.1 hx
      exact I.out.2.2.1 j (by have := HL.out; omega)
end Go.Proofs.YthjifmfmaiagoaaGreatDoor

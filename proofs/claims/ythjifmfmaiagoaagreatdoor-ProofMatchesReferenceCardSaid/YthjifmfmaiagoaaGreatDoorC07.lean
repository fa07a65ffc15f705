/- C07: texts H19 H20 H21 H22 H23 H24 H25. -/
import Derived.Deep.QuietTactic
import Derived.Test.YthjifmfmaiagoaaGreatDoorC01
import Derived.Test.YthjifmfmaiagoaaGreatDoorC02
import Derived.Test.YthjifmfmaiagoaaGreatDoorC06
set_option linter.all false

/- Rows of slices of the call's own: read, lengthened, sorted. -/
namespace Go.Proofs.YthjifmfmaiagoaaGreatDoor
open Go.Shelf Go.RowKit Go.Lib Go.Sort
attribute [local go_sem] Oper.semAt_some

theorem info22 : (Tryz.prog.info? 22).map (fun i => (i.zero, i.size, i.bytes)) = some (some (.slice none 0 0), 1, 24) := by kernel_rfl

theorem ownsRow_ext {w w' : World} {base : Nat} {e : TypeId} {size : Nat} {v : Value} {n : Nat} {xs : List Value} (h : w.ownsRow base e size v n xs) (k : Ext w w') : w'.ownsRow base e size v n xs := by
  obtain ⟨hl, h | ⟨g, cap, cur, hv, hg, hh, rest⟩⟩ := h
  · exact ⟨hl, .inl h⟩
  · exact ⟨hl, .inr ⟨g, cap, cur, hv, hg, (k.block g (Array.getElem?_eq_some_iff.1 hh).1).trans hh, rest⟩⟩
theorem ownBlock_lt {w : World} {base : Nat} {e : TypeId} {size : Nat} {v : Value} {n : Nat} {xs : List Value} (h : w.ownsRow base e size v n xs) {b : Nat} (hb : v.ownBlock = some b) : b < w.heap.size ∧ base ≤ b := by
  obtain ⟨hl, ⟨rfl, _⟩ | ⟨g, cap, cur, rfl, hg, hh, _⟩⟩ := h
  · simp [Value.ownBlock] at hb
  · have : g = b := by simpa [Value.ownBlock] using hb
    subst this
    exact ⟨(Array.getElem?_eq_some_iff.1 hh).1, hg⟩
theorem RI.grown {w w' : World} {row : Option Nat} {A : Option Addr} {n c : Nat} {l : List Int} (h : RI w A n c l) (hg : w.grownBy w' row) (hne : ∀ ad, A = some ad → row ≠ some ad.block) : RI w' A n c l :=
  ⟨h.len, h.cap, h.big, fun i hi => by
    obtain ⟨ad, ha, hc⟩ := h.cell i hi
    refine ⟨ad, ha, ?_⟩
    have hbl := World.block_lt_of_cell? w _ hc
    rw [add_block] at hbl
    rw [World.cell?_of_block (w := w) (by rw [add_block]; exact hg.block ad.block hbl (fun e => hne ad ha e.symm))]
    exact hc⟩

/-- A slice that a row of slices holds, and what it reads as. -/
def EntOk (w : World) (v : Value) (p : Sl × List Int) : Prop := RI w p.1.1 p.1.2.1 p.1.2.2 p.2 ∧ p.1.2.1 ≤ 1000 ∧ ∀ ad, p.1.1 = some ad → ad.block < w.heap.size ∧ v.ownBlock ≠ some ad.block
def OwnE (w : World) (base : Nat) (v : Value) (es : List (Sl × List Int)) : Prop := w.ownsRow base 22 1 v es.length (es.map fun p => encS p.1) ∧ ∀ p ∈ es, EntOk w v p
theorem OwnE.nil (w : World) (base : Nat) : OwnE w base (.slice none 0 0) [] := ⟨World.ownsRow_nil w base 22 1, fun _ h => absurd h (by simp)⟩
theorem OwnE.ext {w w' : World} {base : Nat} {v : Value} {es : List (Sl × List Int)} (h : OwnE w base v es) (k : Ext w w') : OwnE w' base v es :=
  ⟨ownsRow_ext h.1 k, fun p hp => ⟨(h.2 p hp).1.ext k, (h.2 p hp).2.1, fun ad ha => ⟨Nat.lt_of_lt_of_le ((h.2 p hp).2.2 ad ha).1 k.size, ((h.2 p hp).2.2 ad ha).2⟩⟩⟩
theorem OwnE.snoc {w w' : World} {base : Nat} {v v' : Value} {es : List (Sl × List Int)} (h : OwnE w base v es) (y : Sl) (l : List Int) (hy : EntOk w v (y, l)) (ho : w'.ownsRow base 22 1 v' (es.length + 1) (es.map (fun p => encS p.1) ++ [encS y]))
    (hg : w.grownBy w' v.ownBlock) (hb : v'.ownBlock = v.ownBlock ∨ ∃ b, v'.ownBlock = some b ∧ w.heap.size ≤ b) : OwnE w' base v' (es ++ [(y, l)]) := by
  have one : ∀ p, EntOk w v p → EntOk w' v' p := fun p hp => by
    refine ⟨hp.1.grown hg fun ad ha => (hp.2.2 ad ha).2, hp.2.1, fun ad ha => ⟨Nat.lt_of_lt_of_le (hp.2.2 ad ha).1 hg.size, ?_⟩⟩
    rcases hb with hb | ⟨b, hb, hlt⟩
    · rw [hb]
      exact (hp.2.2 ad ha).2
    · rw [hb]
      intro e
      have h1 := (hp.2.2 ad ha).1
      cases e
      omega
  refine ⟨by simpa using ho, fun p hp => ?_⟩
  rcases List.mem_append.1 hp with hp | hp
  · exact one p (h.2 p hp)
  · rw [List.mem_singleton.1 hp]
    exact one _ hy
theorem OwnE.grow {w w' : World} {base : Nat} {v : Value} {es : List (Sl × List Int)} {row : Option Nat} (h : OwnE w base v es) (hg : w.grownBy w' row) (h1 : v.ownBlock ≠ none → v.ownBlock ≠ row) (h2 : ∀ p ∈ es, ∀ ad, p.1.1 = some ad → row ≠ some ad.block) : OwnE w' base v es := by
  refine ⟨?_, fun p hp => ⟨(h.2 p hp).1.grown hg (h2 p hp), (h.2 p hp).2.1, fun ad ha => ⟨Nat.lt_of_lt_of_le ((h.2 p hp).2.2 ad ha).1 hg.size, ((h.2 p hp).2.2 ad ha).2⟩⟩⟩
  obtain ⟨hl, h | ⟨g, cap, cur, hv, hgb, hh, rest⟩⟩ := h.1
  · exact ⟨hl, .inl h⟩
  · refine ⟨hl, .inr ⟨g, cap, cur, hv, hgb, (hg.block g (Array.getElem?_eq_some_iff.1 hh).1 fun e => ?_).trans hh, rest⟩⟩
    exact h1 (by rw [hv]; simp [Value.ownBlock]) (by rw [hv]; simpa [Value.ownBlock] using e)
/-- The row's slices, as entries. -/
theorem OwnE.ents {w : World} {base : Nat} {v : Value} {es : List (Sl × List Int)} (h : OwnE w base v es) (h0 : 0 < es.length) :
    ∃ g cap, v = .slice (some ⟨g, 0, none⟩) es.length cap ∧ base ≤ g ∧ g < w.heap.size ∧ es.length ≤ cap ∧ cap ≤ 9223372036854775807 ∧
      ∃ L : List (Ent w g), L.length = es.length ∧ L.map (fun e => e.l) = es.map (fun p => p.2) ∧ Holds encE w g 0 L.toArray := by
  obtain ⟨ho, he⟩ := h
  have ho' : w.ownsRow base 22 1 v es.length ((es.map fun p => p.1).map encS) := by rw [List.map_map]; exact ho
  obtain ⟨g, cap, rfl, hg, hgs, _, hc, hcb, _⟩ := own_any ho' h0
  refine ⟨g, cap, rfl, hg, hgs, hc, hcb, ?_⟩
  have hne : ∀ p ∈ es, ∀ ad, p.1.1 = some ad → 0 < p.1.2.1 → ad.block ≠ g := fun p hp ad ha _ e => by
    have := ((he p hp).2.2 ad ha).2
    simp [Value.ownBlock] at this
    exact this e.symm
  let mk : (p : Sl × List Int) → p ∈ es → Ent w g := fun p hp => ⟨p.1, p.2, (he p hp).1, (he p hp).2.1, hne p hp⟩
  have hm : ∀ {β : Type} (f : Ent w g → β) (f' : Sl × List Int → β), (∀ p hp, f (mk p hp) = f' p) → (es.pmap mk (fun p hp => hp)).map f = es.map f' := by
    intro β f f' hf
    rw [List.map_pmap]
    rw [← List.pmap_eq_map (p := fun p => p ∈ es) (H := fun p hp => hp)]
    exact List.pmap_congr_left _ fun a ha _ _ => hf a ha
  have hL : (es.pmap mk (fun p hp => hp)).length = es.length := List.length_pmap ..
  refine ⟨es.pmap mk (fun p hp => hp), hL, hm _ _ fun _ _ => rfl, ?_⟩
  have ho2 : w.ownsRow base 22 1 (.slice (some ⟨g, 0, none⟩) es.length cap) es.length ((es.pmap mk (fun p hp => hp)).map encE) := by
    rw [hm encE (fun p => encS p.1) fun _ _ => rfl]
    exact ho
  obtain ⟨g2, cap2, hv, _, _, _, _, _, hH⟩ := own_any ho2 h0
  cases hv
  exact hH

/-- What a sort leaves of a row of slices. -/
theorem sw_read {w : World} {g cap : Nat} {d d' : Array (Ent w g)} {W : World} (S : SW encE w g 0 d' W) (hH : Holds encE w g 0 d) (hs : d'.size = d.size) (hg : g < w.heap.size) (hc : d.size ≤ cap) (hcb : cap ≤ 9223372036854775807) :
    RR W (some ⟨g, 0, none⟩) d.size cap (d'.toList.map fun e => e.l) := by
  have hH' := S.holds hg hH hs
  refine ⟨by simp [hs], hc, hcb, fun i hi => ?_⟩
  have h1 := (hH' i (by omega)).1
  obtain ⟨m, os, rfl⟩ := S
  refine ⟨_, (d'[i]!).x.1, (d'[i]!).x.2.1, (d'[i]!).x.2.2, rfl, ?_, ?_⟩
  · rw [add_none]
    exact h1
  · have e : row (d'.toList.map fun e => e.l) i = (d'[i]!).l := by
      rw [row_eq (by simp; omega), List.getElem_map, getElem!_pos d' i (by omega)]
      simp
    rw [e]
    exact Ent.read _ _ _ _ _ _
theorem sw_ext {α : Type} [Inhabited α] {enc : α → Value} {w0 w : World} {g off : Nat} {d : Array α} {W : World} (S : SW enc w g off d W) (h : Ext w0 w) (hg : w0.heap.size ≤ g) : Ext w0 W := by
  obtain ⟨m, os, rfl⟩ := S
  unfold sortWorld
  have h1 : Ext w0 (putRow enc (Go.Sort.ahead w m) g off d) :=
    ⟨h.os, h.tape, h.output, by rw [Go.Sort.size_putRow]; exact h.size, fun k hk => by
      refine Eq.trans ?_ (h.block k hk)
      show (Array.modify _ _ _)[k]? = _
      rw [Array.getElem?_modify, if_neg (by omega)]
      rfl⟩
  exact ⟨h1.os, h1.tape, h1.output, by rw [size_grow]; have := h1.size; omega, fun k hk => (heap_grow_old _ os (by have := h1.size; omega)).trans (h1.block k hk)⟩
theorem perm_list {α : Type} [Inhabited α] {d d' : Array α} (h : PermIn 0 d.size d d') : d'.toList.Perm d.toList := by
  have := h.2.2
  rw [show d.extract 0 d.size = d by simp, ← h.1, show d'.extract 0 d'.size = d' by simp] at this
  exact this
theorem sorted_pairwise {α : Type} [Inhabited α] {lt : α → α → Bool} {d : Array α} (h : SortedIn lt 0 d.size d) : d.toList.Pairwise fun a b => lt b a = false := by
  rw [List.pairwise_iff_getElem]
  intro i j hi hj hij
  have := h i j (Nat.zero_le _) hij (by simpa using hj)
  rw [getElem!_pos d i (by simpa using hi), getElem!_pos d j (by simpa using hj)] at this
  simpa using this
/-- The stable sort by length. -/
theorem f198_ents {w : World} {g cap : Nat} (L : List (Ent w g)) (hg : g < w.heap.size) (hH : Holds encE w g 0 L.toArray) (hL : L.length ≤ 1000) (hc : L.length ≤ cap) (hcb : cap ≤ 9223372036854775807) {w0 : World} (h0 : Ext w0 w) (hb : w0.heap.size ≤ g) :
    Calls Tryz.prog 198 #[.slice (some ⟨g, 0, none⟩) L.length cap, .func (.func 199) #[] #[]] w fun e w' => e = .returned (.tuple #[]) ∧ Ext w0 w' ∧ ∃ E' : List (List Int), RR w' (some ⟨g, 0, none⟩) L.length cap E' ∧ (L.map fun e => e.l).Perm E' ∧ E'.Pairwise fun a b => a.length ≤ b.length := by
  have h := f198_any encE cfLen 199 #[] g 0 cap L.toArray w e199 (cmpLen 0 _) ⟨oneE, hH, hg⟩ (by simp; omega) swoLen L.toArray w rfl (SW.start hH)
  simp only [List.size_toArray] at h
  refine h.mono ?_
  rintro e w' ⟨rfl, d', hp, hs, S⟩
  have hsz : d'.size = L.toArray.size := hp.1
  refine ⟨rfl, sw_ext S h0 hb, d'.toList.map fun e => e.l, ?_, ?_, ?_⟩
  · have := sw_read S hH hsz hg (by simpa using hc) hcb
    simpa using this
  · have := perm_list (d := L.toArray) (d' := d') (by simpa using hp)
    exact (List.Perm.map _ this).symm
  · rw [List.pairwise_map]
    refine (sorted_pairwise (lt := ltOf cfLen) (d := d') (by rw [hsz]; simpa using hs)).imp fun {a b} h => ?_
    unfold ltOf cfLen at h
    rw [decide_eq_false_iff_not] at h
    have h1 := a.hr.len
    have h2 := b.hr.len
    omega
/-- The sort by the order of lists. -/
theorem f202_ents {w : World} {g cap : Nat} (L : List (Ent w g)) (hg : g < w.heap.size) (hH : Holds encE w g 0 L.toArray) (hL : L.length ≤ 1000) (hc : L.length ≤ cap) (hcb : cap ≤ 9223372036854775807) {w0 : World} (h0 : Ext w0 w) (hb : w0.heap.size ≤ g) :
    Calls Tryz.prog 202 #[.slice (some ⟨g, 0, none⟩) L.length cap, .func (.func 203) #[] #[]] w fun e w' => e = .returned (.tuple #[]) ∧ Ext w0 w' ∧ ∃ E' : List (List Int), RR w' (some ⟨g, 0, none⟩) L.length cap E' ∧ (L.map fun e => e.l).Perm E' ∧ E'.Pairwise fun a b => ¬ lexCmp b a < 0 := by
  have h := Tryz.slices_SortFunc encE oneE cfLex swoLex 203 #[] g 0 cap L.toArray w e203 (cmpLex 0 _) hH hg (by simp; omega)
  simp only [List.size_toArray] at h
  refine h.mono ?_
  rintro e w' ⟨rfl, d', n, os, hp, hs, hw⟩
  have S : SW encE w g 0 d' w' := ⟨n, os, hw⟩
  have hsz : d'.size = L.toArray.size := hp.1
  refine ⟨rfl, sw_ext S h0 hb, d'.toList.map fun e => e.l, ?_, ?_, ?_⟩
  · have := sw_read S hH hsz hg (by simpa using hc) hcb
    simpa using this
  · have := perm_list (d := L.toArray) (d' := d') (by simpa using hp)
    exact (List.Perm.map _ this).symm
  · rw [List.pairwise_map]
    refine (sorted_pairwise (lt := ltOf cfLex) (d := d') (by rw [hsz]; simpa using hs)).imp fun {a b} h => ?_
    unfold ltOf cfLex at h
    rwa [decide_eq_false_iff_not] at h
end Go.Proofs.YthjifmfmaiagoaaGreatDoor

/- hyper.Minimal. -/
namespace Go.Proofs.YthjifmfmaiagoaaGreatDoor
open Go.Shelf Go.RowKit Go.Lib Go.Sort
attribute [local go_sem] Oper.semAt_some

def slv (es : List (Sl × List Int)) : List Value := es.map fun p => encS p.1
theorem slv_length (es : List (Sl × List Int)) : (slv es).length = es.length := List.length_map ..
theorem OwnE.own {w : World} {base : Nat} {v : Value} {es : List (Sl × List Int)} (h : OwnE w base v es) : w.ownsRow base 22 1 v (slv es).length (slv es) := by
  rw [slv_length]
  exact h.1
theorem own_shape {w : World} {base : Nat} {e : TypeId} {size : Nat} {v : Value} {n : Nat} {xs : List Value} (h : w.ownsRow base e size v n xs) : ∃ A cap, v = .slice A n cap ∧ n ≤ cap ∧ cap ≤ 9223372036854775807 := by
  obtain ⟨_, h | ⟨g, cap, cur, hv, _, _, hn, hm, _⟩⟩ := h
  · obtain ⟨rfl, rfl⟩ := h
    exact ⟨none, 0, rfl, Nat.le_refl _, by omega⟩
  · exact ⟨_, cap, hv, hn, by simp only [maxLen] at hm; omega⟩
theorem OwnE.rr {w : World} {base : Nat} {v : Value} {es : List (Sl × List Int)} (h : OwnE w base v es) : ∃ A cap, v = .slice A es.length cap ∧ RR w A es.length cap (es.map fun p => p.2) := by
  rcases Nat.eq_zero_or_pos es.length with h0 | h0
  · obtain ⟨A, cap, hv, hc, hcb⟩ := own_shape h.1
    exact ⟨A, cap, hv, by simp, hc, hcb, fun i hi => by omega⟩
  · obtain ⟨g, cap, hv, _, hg, hc, hcb, L, hL, hl, hH⟩ := h.ents h0
    refine ⟨_, cap, hv, ?_⟩
    have := sw_read (SW.start hH) hH rfl hg (by simpa [hL] using hc) hcb
    rw [← hl]
    simpa [hL] using this
theorem sort_len {w0 w : World} {base : Nat} {A : Option Addr} {cap n : Nat} {es : List (Sl × List Int)} (h : OwnE w base (.slice A n cap) es) (hn : es.length = n) (h0 : Ext w0 w) (hb : w0.heap.size ≤ base) (hl : es.length ≤ 1000) :
    Calls Tryz.prog 198 #[.slice A n cap, .func (.func 199) #[] #[]] w fun e w' => e = .returned (.tuple #[]) ∧ Ext w0 w' ∧ ∃ E' : List (List Int), RR w' A n cap E' ∧ (es.map fun p => p.2).Perm E' ∧ E'.Pairwise fun a b => a.length ≤ b.length := by
  rcases Nat.eq_zero_or_pos es.length with hz | hz
  · subst hn
    obtain ⟨A', cap', hv, hc, hcb⟩ := own_shape h.1
    cases hv
    have he : es = [] := List.eq_nil_of_length_eq_zero hz
    subst he
    refine (f198_nil A cap _ w).mono ?_
    rintro e w' ⟨rfl, rfl⟩
    exact ⟨rfl, h0, [], ⟨rfl, hc, hcb, fun i hi => absurd hi (by simp)⟩, List.Perm.refl _, List.Pairwise.nil⟩
  · obtain ⟨g, cap', hv, hbg, hg, hc, hcb, L, hL, hml, hH⟩ := h.ents hz
    cases hv
    have := f198_ents (cap := cap) L hg hH (by omega) (by omega) hcb h0 (by omega)
    rw [hL, hml] at this
    exact this
theorem sort_lex {w0 w : World} {base : Nat} {A : Option Addr} {cap n : Nat} {es : List (Sl × List Int)} (h : OwnE w base (.slice A n cap) es) (hn : es.length = n) (h0 : Ext w0 w) (hb : w0.heap.size ≤ base) (hl : es.length ≤ 1000) :
    Calls Tryz.prog 202 #[.slice A n cap, .func (.func 203) #[] #[]] w fun e w' => e = .returned (.tuple #[]) ∧ Ext w0 w' ∧ ∃ E' : List (List Int), RR w' A n cap E' ∧ (es.map fun p => p.2).Perm E' ∧ E'.Pairwise fun a b => ¬ lexCmp b a < 0 := by
  rcases Nat.eq_zero_or_pos es.length with hz | hz
  · subst hn
    obtain ⟨A', cap', hv, hc, hcb⟩ := own_shape h.1
    cases hv
    have he : es = [] := List.eq_nil_of_length_eq_zero hz
    subst he
    refine (f202_nil A cap _ w).mono ?_
    rintro e w' ⟨rfl, rfl⟩
    exact ⟨rfl, h0, [], ⟨rfl, hc, hcb, fun i hi => absurd hi (by simp)⟩, List.Perm.refl _, List.Pairwise.nil⟩
  · obtain ⟨g, cap', hv, hbg, hg, hc, hcb, L, hL, hml, hH⟩ := h.ents hz
    cases hv
    have := f202_ents (cap := cap) L hg hH (by omega) (by omega) hcb h0 (by omega)
    rw [hL, hml] at this
    exact this
theorem take_row {E : List (List Int)} {k : Nat} (h : k < E.length) : E.take (k + 1) = E.take k ++ [row E k] := by
  rw [List.take_add_one, List.getElem?_eq_getElem h, row_eq h]
  rfl
theorem knownF_snoc (outs : List (List Int)) (l : List Int) : knownF (outs ++ [l]) = fun x => if x = ⟨(textB l).toArray⟩ then some (.bool true) else knownF outs x := by
  funext x
  unfold knownF
  by_cases h : x = ⟨(textB l).toArray⟩
  · rw [if_pos h, if_pos ⟨l, by simp, h⟩]
  · rw [if_neg h]
    by_cases h2 : ∃ o ∈ outs, x = ⟨(textB o).toArray⟩
    · rw [if_pos h2, if_pos]
      obtain ⟨o, ho, he⟩ := h2
      exact ⟨o, by simp [ho], he⟩
    · rw [if_neg h2, if_neg]
      rintro ⟨o, ho, he⟩
      rcases List.mem_append.1 ho with ho | ho
      · exact h2 ⟨o, ho, he⟩
      · rw [List.mem_singleton.1 ho] at he
        exact h he

/-- hyper.Minimal's second loop, between two rounds. -/
structure MinI (w2 : World) (E' : List (List Int)) (kk : Nat) (v : Value) (wr : World) (es : List (Sl × List Int)) : Prop where
  ext : Ext w2 wr
  own : OwnE wr (w2.heap.size + 1) v es
  is : (es.map fun p => p.2) = keepMin [] (E'.take kk)
  len : es.length ≤ kk
  known : KnownIs wr w2.heap.size (es.map fun p => p.2)
  old : ∀ p ∈ es, ∀ ad, p.1.1 = some ad → ad.block < w2.heap.size
theorem MinI.skip {w2 wr w' : World} {E' : List (List Int)} {kk : Nat} {v : Value} {es : List (Sl × List Int)} (h : MinI w2 E' kk v wr es) (hk : kk < E'.length) (hx : Ext wr w') (hb : (es.map fun p => p.2).any (subB (row E' kk)) = true) : MinI w2 E' (kk + 1) v w' es :=
  ⟨h.ext.trans hx, h.own.ext hx, by rw [take_row hk, keepMin_snoc, ← h.is, if_pos hb], by have := h.len; omega, MapFn.keep h.known (hx.block _ (MapFn.lt h.known)), h.old⟩
theorem MinI.add {w2 wr w4 w5 w6 : World} {E' : List (List Int)} {kk : Nat} {v v' : Value} {es : List (Sl × List Int)} (h : MinI w2 E' kk v wr es) (hk : kk < E'.length) (hx : Ext wr w4) (hb : (es.map fun p => p.2).any (subB (row E' kk)) = false)
    (hm : MapFn Value.string w5 w2.heap.size (fun x => if x = ⟨(textB (row E' kk)).toArray⟩ then some (.bool true) else knownF (es.map fun p => p.2) x)) (hg : w4.grownBy w5 (some w2.heap.size))
    (y : Sl) (hy : RI w2 y.1 y.2.1 y.2.2 (row E' kk)) (hy1 : y.2.1 ≤ 1000) (hy2 : ∀ ad, y.1 = some ad → ad.block < w2.heap.size)
    (ho : w6.ownsRow (w2.heap.size + 1) 22 1 v' (es.length + 1) (slv es ++ [encS y])) (hg6 : w5.grownBy w6 v.ownBlock) (hb6 : v'.ownBlock = v.ownBlock ∨ ∃ b, v'.ownBlock = some b ∧ w5.heap.size ≤ b) :
    MinI w2 E' (kk + 1) v' w6 (es ++ [(y, row E' kk)]) := by
  have hlt : w2.heap.size < w4.heap.size := Nat.lt_of_lt_of_le (MapFn.lt h.known) hx.size
  have hob : ∀ b, v.ownBlock = some b → w2.heap.size + 1 ≤ b := fun b e => (ownBlock_lt h.own.1 e).2
  have e5 : Ext w2 w5 := Below.trans (h.ext.trans hx) ⟨hg.os, hg.tape, hg.output, hg.size, fun k hk => hg.block k (by omega) (fun e => by have := Option.some.inj e; omega)⟩
  have o5 : OwnE w5 (w2.heap.size + 1) v es := (h.own.ext hx).grow hg (fun _ e => by have := hob _ e; omega) (fun p hp ad ha e => by have := h.old p hp ad ha; have := Option.some.inj e; omega)
  have hyo : EntOk w5 v (y, row E' kk) := ⟨hy.ext e5, hy1, fun ad ha => ⟨Nat.lt_of_lt_of_le (hy2 ad ha) e5.size, fun e => by have := hob _ e; have := hy2 ad ha; omega⟩⟩
  refine ⟨Below.trans e5 ⟨hg6.os, hg6.tape, hg6.output, hg6.size, fun k hk => hg6.block k (Nat.lt_of_lt_of_le hk e5.size) (fun e => by have := hob _ e.symm; omega)⟩, o5.snoc y _ hyo ho hg6 hb6, ?_, by have := h.len; simp; omega, ?_, ?_⟩
  · rw [take_row hk, keepMin_snoc, ← h.is, hb]
    simp
  · rw [List.map_append]
    show MapFn Value.string w6 _ (knownF (_ ++ [row E' kk]))
    rw [knownF_snoc]
    exact MapFn.keep hm (hg6.block _ (Nat.lt_of_lt_of_le hlt hg.size) (fun e => by have := hob _ e.symm; omega))
  · intro p hp ad ha
    rcases List.mem_append.1 hp with hp | hp
    · exact h.old p hp ad ha
    · rw [List.mem_singleton.1 hp] at ha
      exact hy2 ad ha

theorem MinI.start (w2 : World) (E' : List (List Int)) : MinI w2 E' 0 (.slice none 0 0) (w2.alloc (.map #[] 0)) [] :=
  ⟨(by repeat' (first | exact Ext.refl _ | assumption | apply Ext.alloc | apply Ext.drewN | apply Ext.drew)), OwnE.nil _ _, rfl, by simp, (by
    have h := MapFn.made Value.string w2
    have e : knownF (([] : List (Sl × List Int)).map fun p => p.2) = fun _ => none := by
      funext x
      unfold knownF
      rw [if_neg]
      rintro ⟨o, ho, _⟩
      cases ho
    show MapFn Value.string _ _ (knownF _)
    rw [e]
    exact h), fun p hp => absurd hp (by simp)⟩

set_option maxRecDepth 100000 in
set_option maxHeartbeats 4000000 in
theorem minimal_any (A : Option Addr) (n c : Nat) (E : List (List Int)) (w : World) (hr : RR w A n c E) (hn : n ≤ 1000) (hE : ∀ e ∈ E, e ≠ [] ∧ Small e) :
    Calls Tryz.prog 158 #[.slice A n c] w fun e w' => ∃ A' n' c' R, e = .returned (.slice A' n' c') ∧ RR w' A' n' c' R ∧ (R = E ↔ StrictLex E ∧ E.Pairwise Apart) ∧ Ext w w' := by
  have hl := hid hr.len
  have HE := hid hE
  have HR := hid hr
  clear hr hE
  have hmm := @run_makeMap Tryz.prog
  go_enter Tryz.func158, Tryz.ntmps158
  go_wp2
  go_loopg [3, 5, 12] n (fun gg v3 _ v12 wr => ∃ (kk : Nat) (es : List (Sl × List Int)), kk ≤ n ∧ n - kk ≤ gg ∧ v12 = .int .i64 kk ∧ Hid (Ext w wr ∧ OwnE wr w.heap.size v3 es ∧ (es.map fun p => p.2) = E.take kk ∧ es.length = kk))
  case atStart => exact ⟨0, [], by omega, by omega, by go_num, ⟨Ext.refl w, OwnE.nil _ _, rfl, rfl⟩⟩
  case round =>
    obtain ⟨kk, es, hkn, hg, rfl, HI⟩ := hrel
    by_cases hlt : kk < n
    · have hltz : (kk : Int) < (n : Int) := by omega
      obtain ⟨ad, B, m, d, rfl, hc0, hri0⟩ := HR.out.cell kk hlt
      have hc := HI.out.1.cell hc0
      have HS := hid (HE.out (row E kk) (row_mem (by rw [hl.out]; exact hlt)))
      have hm0 : 0 < m := by
        rw [← hri0.len]
        exact List.length_pos_iff.2 HS.out.1
      have hmz : (0 : Int) < (m : Int) := by omega
      have hm1 : m ≤ 1000 := by
        rw [← hri0.len]
        have := HS.out.2.2.2
        omega
      have K := hid (set_any B m d (row E kk) wr (hri0.ext HI.out.1) hm0 hm1 HS.out.2.1)
      clear hc0 hri0
      go_wp2_with (first
        | (go_at_call 197; refine K.out.mono ?_; rintro e w1 ⟨g, cap, rfl, hri1, hgl, hx1⟩; have HI1 := hid (And.intro hri1 (And.intro hgl hx1)); clear hri1 hgl hx1)
        | (at_builtin; refine app1 w.heap.size rfl _ _ 23 22 (.slice none 0 0) 24 rfl Tryz.underlying23 info22 rfl (by decide) u3 (slv es) (.slice (some ⟨g, 0, none⟩) m cap) rfl rfl rfl (HI.out.2.1.ext HI1.out.2.2).own (Nat.le_trans HI.out.1.size HI1.out.2.2.size) ?c1 ?_))
      case c1 => rw [slv_length]; have := HI.out.2.2.2; omega
      intro v2 w2 hown2 hgrow2 hat2
      have H2 := hid (And.intro hown2 (And.intro hgrow2 hat2))
      clear hown2 hgrow2 hat2
      go_wp2
      go_roundg (n - (kk + 1))
      case measure => omega
      case rel =>
        obtain ⟨i1, i2, i3, i4⟩ := HI.out
        obtain ⟨j1, j2, j3⟩ := HI1.out
        obtain ⟨k1, k2, k3⟩ := H2.out
        have o1 := i2.ext j3
        have hgs : g < w1.heap.size := by
          obtain ⟨ad', ha, hcc⟩ := j1.cell 0 hm0
          cases ha
          have := World.block_lt_of_cell? w1 _ hcc
          rwa [add_block] at this
        have hy : EntOk w1 u3 ((some ⟨g, 0, none⟩, m, cap), row E kk) := ⟨j1, hm1, fun ad' ha => by
          cases ha
          refine ⟨hgs, fun e => ?_⟩
          have h5 : g < wr.heap.size := (ownBlock_lt i2.1 e).1
          omega⟩
        rw [slv_length] at k1
        refine ⟨kk + 1, es ++ [((some ⟨g, 0, none⟩, m, cap), row E kk)], by omega, by omega, by go_num, ⟨?_, o1.snoc _ _ hy (show w2.ownsRow _ 22 1 v2 (es.length + 1) (es.map (fun p => encS p.1) ++ [encS (some ⟨g, 0, none⟩, m, cap)]) from k1) k2 k3, ?_, by simp [i4]⟩⟩
        · exact (i1.trans j3).grown o1.1 (Nat.le_refl _) k2
        · rw [List.map_append, i3, take_row (by rw [hl.out]; exact hlt)]
          rfl
    · have hkn' : kk = n := by omega
      subst hkn'
      have hltz : ¬ (kk : Int) < (kk : Int) := by omega
      obtain ⟨i1, i2, i3, i4⟩ := HI.out
      rw [List.take_of_length_le (by rw [hl.out]; exact Nat.le_refl _)] at i3
      obtain ⟨A2, cap2, rfl, hc2, hcb2⟩ := own_shape i2.1
      rw [i4] at i2
      have K := sort_len i2 i4 i1 (Nat.le_refl _) (by omega)
      rw [i3] at K
      have K := hid K
      have e4 := i4
      clear i1 i2 i3 i4 HI HR
      rw [e4]
      clear e4
      go_wp2_with (go_at_call 198; refine K.out.mono ?_; rintro e w2 ⟨rfl, hx2, E', hr2, hp2, hs2⟩; have H2 := hid (And.intro hx2 (And.intro hr2 (And.intro hp2 hs2))); clear hx2 hr2 hp2 hs2)
      have hle : E'.length = kk := by rw [← H2.out.2.2.1.length_eq, hl.out]
      have HLE := hid hle
      have HSE : Hid (∀ e ∈ E', e ≠ [] ∧ Small e) := fun e he => HE.out e (H2.out.2.2.1.symm.subset he)
      clear hle
      go_loopg [7, 9, 30] kk (fun gg v7 _ v30 wr => ∃ (kk2 : Nat) (es2 : List (Sl × List Int)), kk2 ≤ kk ∧ kk - kk2 ≤ gg ∧ v30 = .int .i64 kk2 ∧ Hid (MinI w2 E' kk2 v7 wr es2))
      case atStart => exact ⟨0, [], by omega, by omega, by go_num, MinI.start w2 E'⟩
      case round =>
        obtain ⟨kk2, es2, hkn2, hg2, rfl, HI⟩ := hrel
        by_cases hlt : kk2 < kk
        · have hltz : (kk2 : Int) < (kk : Int) := by omega
          obtain ⟨ad, B, m, d, rfl, hc0, hri0⟩ := H2.out.2.1.cell kk2 hlt
          have hc := HI.out.ext.cell hc0
          have HRI := hid hri0
          have hlt' : kk2 < E'.length := by rw [HLE.out]; exact hlt
          have HL := hid hlt'
          have HS := hid (HSE.out (row E' kk2) (row_mem hlt'))
          have hm1 : m ≤ 1000 := by
            rw [← hri0.len]
            have := HS.out.2.2.2
            omega
          clear hc0 hri0 hlt'
          obtain ⟨A3, cap3, rfl, hrr⟩ := HI.out.own.rr
          have K := above_any B A3 m d es2.length cap3 w2.heap.size (row E' kk2) (es2.map fun p => p.2) wr (HRI.out.ext HI.out.ext) hrr HI.out.known HS.out.2 (fun o ho => by
            rw [HI.out.is] at ho
            rcases keepMin_sub _ _ o ho with h | h
            · cases h
            · exact (HSE.out o (List.take_subset _ _ h)).2)
          clear hrr
          cases hb : (es2.map fun p => p.2).any (subB (row E' kk2)) with
          | true =>
            rw [hb] at K
            have K := hid K
            have HB := hid hb
            clear hb
            go_wp2_with (go_at_call 200; refine K.out.mono ?_; rintro e w3 ⟨rfl, hx3⟩; have HX3 := hid hx3; clear hx3)
            go_roundg (kk - (kk2 + 1))
            case measure => omega
            case rel => exact ⟨kk2 + 1, es2, by omega, by omega, by go_num, HI.out.skip HL.out HX3.out HB.out⟩
          | false =>
            rw [hb] at K
            have K := hid K
            have HB := hid hb
            clear hb
            have hlen : es2.length ≤ 1000 := by have := HI.out.len; omega
            have HT : Hid (∀ W, Ext wr W → Calls Tryz.prog 201 #[.slice B m d] W fun e w' => e = .returned (.string ⟨(textB (row E' kk2)).toArray⟩) ∧ Ext wr w') := fun W hW =>
              (text_any B m d (row E' kk2) W ((HRI.out.ext HI.out.ext).ext hW) hm1 HS.out.2.2.1).mono fun _ _ h => ⟨h.1, hW.trans h.2⟩
            have HST : Hid (∀ W, Ext wr W → ∃ w', (Instr.mapUpdate 171 (.map (some w2.heap.size)) (.string ⟨(textB (row E' kk2)).toArray⟩) (.bool true)).run Tryz.prog W = .ok () w' ∧ MapFn Value.string w' w2.heap.size (fun x => if x = ⟨(textB (row E' kk2)).toArray⟩ then some (.bool true) else knownF (es2.map fun p => p.2) x) ∧ W.grownBy w' (some w2.heap.size)) := fun W hW =>
              run_store keys_string Tryz.underlying171 Tryz.underlying9 (MapFn.keep HI.out.known (hW.block _ (MapFn.lt HI.out.known))) _ _
            go_wp2_with (first
              | (go_at_call 200; refine K.out.mono ?_; rintro e w3 ⟨rfl, hx3⟩; have HX3 := hid hx3; clear hx3)
              | (go_at_call 201; refine (HT.out _ HX3.out).mono ?_; rintro e w4 ⟨rfl, hx4⟩; have HX4 := hid hx4; obtain ⟨w5, hst, hm5, hg5⟩ := HST.out w4 hx4; have H5 := hid (And.intro hm5 hg5); clear hm5 hg5 hx4)
              | (at_builtin; refine app1 (w2.heap.size + 1) rfl _ _ 23 22 (.slice none 0 0) 24 rfl Tryz.underlying23 info22 rfl (by decide) (.slice A3 es2.length cap3) (slv es2) (.slice B m d) rfl rfl rfl ?own ?base ?c1 ?_))
            case own =>
              have := ((HI.out.own.ext HX4.out).grow H5.out.2 (fun _ e => by have := (ownBlock_lt HI.out.own.1 e).2; omega) (fun p hp ad ha e => by have := HI.out.old p hp ad ha; have := Option.some.inj e; omega)).own
              exact this
            case base => exact Nat.le_trans (Nat.le_trans (MapFn.lt HI.out.known) HX4.out.size) H5.out.2.size
            case c1 => rw [slv_length]; omega
            intro v6 w6 hown6 hgrow6 hat6
            have H6 := hid (And.intro hown6 (And.intro hgrow6 hat6))
            clear hown6 hgrow6 hat6
            go_wp2
            go_roundg (kk - (kk2 + 1))
            case measure => omega
            case rel =>
              obtain ⟨k1, k2, k3⟩ := H6.out
              rw [slv_length] at k1
              have hold : ∀ ad', B = some ad' → ad'.block < w2.heap.size := fun ad' ha => by
                subst ha
                have hm0 : 0 < m := by rw [← HRI.out.len]; exact List.length_pos_iff.2 HS.out.1
                obtain ⟨a2, h2, hcc⟩ := HRI.out.cell 0 hm0
                cases h2
                have := World.block_lt_of_cell? w2 _ hcc
                rwa [add_block] at this
              exact ⟨kk2 + 1, es2 ++ [((B, m, d), row E' kk2)], by omega, by omega, by go_num, HI.out.add HL.out HX4.out HB.out H5.out.1 H5.out.2 (B, m, d) HRI.out hm1 hold k1 k2 k3⟩
        · have hkn' : kk2 = kk := by omega
          subst hkn'
          have hltz : ¬ (kk2 : Int) < (kk2 : Int) := by omega
          have hi := HI.out
          have his := hi.is
          rw [List.take_of_length_le (by rw [HLE.out]; exact Nat.le_refl _)] at his
          obtain ⟨A3, cap3, rfl, hc3, hcb3⟩ := own_shape hi.own.1
          have hx : Ext w wr := H2.out.1.trans hi.ext
          have K := sort_lex hi.own rfl hx (by have := H2.out.1.size; omega) (by have := hi.len; omega)
          rw [his] at K
          have K := hid K
          clear his hi hx HI
          go_wp2_with (go_at_call 202; refine K.out.mono ?_; rintro e w7 ⟨rfl, hx7, R, hr7, hp7, hs7⟩; have H7 := hid (And.intro hx7 (And.intro hr7 (And.intro hp7 hs7))); clear hx7 hr7 hp7 hs7)
          go_ret
          exact ⟨A3, es2.length, cap3, R, rfl, H7.out.2.1, minimal_iff (fun e he => (HE.out e he).2.1) H2.out.2.2.1 H2.out.2.2.2 H7.out.2.2.1 (H7.out.2.2.2.imp fun h => by omega), H7.out.1⟩
end Go.Proofs.YthjifmfmaiagoaaGreatDoor

/- hyper.Valid. -/
namespace Go.Proofs.YthjifmfmaiagoaaGreatDoor
open Go.Shelf Go.RowKit Go.Lib Go.Sort
attribute [local go_sem] Oper.semAt_some

theorem valid_bad {g : Graph} {i : Nat} (hi : i < g.edges.length) (h : row g.edges i = [] ∨ isSetB (row g.edges i) g.n = false) : decide (Valid g) = false := by
  rw [decide_eq_false_iff_not]
  rintro ⟨_, _, h2, _⟩
  have := h2 _ (row_mem hi)
  rcases h with h | h
  · exact this.1 h
  · rw [(isSetB_iff _ _).2 this.2] at h
    cases h
theorem valid_costs {g : Graph} (h : weighedB g.n g.cost = false) : decide (Valid g) = false := by
  rw [decide_eq_false_iff_not]
  rintro ⟨h1, _⟩
  unfold Costs at h1
  rw [h] at h1
  cases h1
theorem valid_minimal {g : Graph} (h : weighedB g.n g.cost = true) (hl : g.edges.length ≤ 20000) (hs : ∀ i, i < g.edges.length → row g.edges i ≠ [] ∧ isSetB (row g.edges i) g.n = true) {R : List (List Int)} (hr : R = g.edges ↔ StrictLex g.edges ∧ g.edges.Pairwise Apart) :
    decide (R = g.edges) = decide (Valid g) := by
  refine decide_eq_decide.2 (hr.trans ⟨fun h2 => ⟨h, hl, fun e he => ?_, h2⟩, fun h2 => h2.2.2.2⟩)
  obtain ⟨i, hi, e1⟩ := List.mem_iff_getElem.1 he
  have := hs i hi
  rw [row_eq hi, e1] at this
  exact ⟨this.1, (isSetB_iff _ _).1 this.2⟩

set_option maxRecDepth 100000 in
set_option maxHeartbeats 4000000 in
theorem valid_any (CA EA : Option Addr) (cn cc en ec : Nat) (g : Graph) (w : World) (hr : RG w CA cn cc EA en ec g) (hen : en ≤ 1000) (hs : ∀ e ∈ g.edges, e.length ≤ 10) (hN : g.n ≤ 100) :
    Calls Tryz.prog 108 #[.agg #[.int .i64 g.n, .slice CA cn cc, .slice EA en ec]] w fun e w' => e = .returned (.bool (decide (Valid g))) ∧ Ext w w' := by
  have HR := hid hr
  have HS := hid hs
  have h64 := hr.n64
  have HL := hid hr.edges.len
  have KW := hid (fun W (hW : Ext w W) => weighed_any g.n CA cn cc g.cost W (hr.cost.ext hW))
  clear hr hs
  obtain ⟨N, hNN⟩ : ∃ N, N = g.n := ⟨_, rfl⟩
  have HN := hid hNN
  rw [← hNN] at KW h64 hN ⊢
  clear hNN
  cases hw : weighedB N g.cost with
  | false =>
    rw [hw] at KW
    have HW := hid (valid_costs (g := g) (by rw [← HN.out]; exact hw))
    go_enter Tryz.func108, Tryz.ntmps108
    go_wp2_with (go_at_call 156; refine (KW.out _ (by repeat' (first | exact Ext.refl _ | assumption | apply Ext.alloc | apply Ext.drewN | apply Ext.drew))).mono ?_; rintro e w' ⟨rfl, rfl⟩)
    exact bodyPost_ret (v := .bool false) (by simp [results, Tryz.results108, go_sem]) rfl ⟨by rw [HW.out], (by repeat' (first | exact Ext.refl _ | assumption | apply Ext.alloc | apply Ext.drewN | apply Ext.drew))⟩
  | true =>
    rw [hw] at KW
    have HW := hid hw
    clear hw
    have hez : ¬ (20000 : Int) < (en : Int) := by omega
    go_enter Tryz.func108, Tryz.ntmps108
    go_wp2_with (go_at_call 156; refine (KW.out _ (by repeat' (first | exact Ext.refl _ | assumption | apply Ext.alloc | apply Ext.drewN | apply Ext.drew))).mono ?_; rintro e w' ⟨rfl, rfl⟩)
    go_loopg [4, 20] en (fun gg _ v20 wr => ∃ kk : Nat, kk ≤ en ∧ en - kk ≤ gg ∧ v20 = .int .i64 kk ∧ Hid (wr = w.alloc (.cells #[.int .i64 N, .slice CA cn cc, .slice EA en ec] 25)) ∧ Hid (∀ j, j < kk → row g.edges j ≠ [] ∧ isSetB (row g.edges j) g.n = true))
    case atStart => exact ⟨0, by omega, by omega, by go_num, rfl, fun j hj => absurd hj (by omega)⟩
    case round =>
      obtain ⟨kk, hkn, hg, rfl, hwr, HI⟩ := hrel
      by_cases hlt : kk < en
      · have hltz : (kk : Int) < (en : Int) := by omega
        obtain ⟨ad, B, m, d, rfl, hc0, hri0⟩ := HR.out.edges.cell kk hlt
        have hx : Ext w wr := by rw [hwr.out]; exact (by repeat' (first | exact Ext.refl _ | assumption | apply Ext.alloc | apply Ext.drewN | apply Ext.drew))
        have hcell : wr.cell? ⟨w.heap.size, 0, none⟩ = some (.int .i64 N) := by rw [hwr.out]; simp
        have hc := hx.cell hc0
        have K := isSet_any B m d (row g.edges kk) N wr (hri0.ext hx)
        have hml := hid hri0.len
        clear hc0 hri0
        cases hb : isSetB (row g.edges kk) N with
        | false =>
          rw [hb] at K
          have K := hid K
          have HV := hid (valid_bad (g := g) (i := kk) (by rw [HL.out]; exact hlt) (.inr (by rw [← HN.out]; exact hb)))
          clear hb
          by_cases hm : m = 0
          · have hmz : (m : Int) = 0 := by omega
            go_wp2
            exact bodyPost_ret (v := .bool false) (by simp [results, Tryz.results108, go_sem]) rfl ⟨by rw [HV.out], hx⟩
          · have hmz : ¬ (m : Int) = 0 := by omega
            go_wp2_with (go_at_call 110; refine K.out.mono ?_; rintro e w' ⟨rfl, rfl⟩)
            exact bodyPost_ret (v := .bool false) (by simp [results, Tryz.results108, go_sem]) rfl ⟨by rw [HV.out], hx⟩
        | true =>
          rw [hb] at K
          have K := hid K
          by_cases hm : m = 0
          · have HV := hid (valid_bad (g := g) (i := kk) (by rw [HL.out]; exact hlt) (.inl (List.eq_nil_of_length_eq_zero (by rw [hml.out]; exact hm))))
            have hmz : (m : Int) = 0 := by omega
            clear hb
            go_wp2
            exact bodyPost_ret (v := .bool false) (by simp [results, Tryz.results108, go_sem]) rfl ⟨by rw [HV.out], hx⟩
          · have hmz : ¬ (m : Int) = 0 := by omega
            have HB := hid hb
            clear hb
            go_wp2_with (go_at_call 110; refine K.out.mono ?_; rintro e w' ⟨rfl, rfl⟩)
            go_roundg (en - (kk + 1))
            case measure => omega
            case rel =>
              refine ⟨kk + 1, by omega, by omega, by go_num, hwr, fun j hj => ?_⟩
              rcases Nat.lt_succ_iff_lt_or_eq.1 hj with h | h
              · exact HI.out j h
              · subst h
                exact ⟨fun e => hm (by rw [← hml.out, e]; rfl), by rw [← HN.out]; exact HB.out⟩
      · have hkn' : kk = en := by omega
        subst hkn'
        have hltz : ¬ (kk : Int) < (kk : Int) := by omega
        have hx : Ext w wr := by rw [hwr.out]; exact (by repeat' (first | exact Ext.refl _ | assumption | apply Ext.alloc | apply Ext.drewN | apply Ext.drew))
        have hcell : wr.cell? ⟨w.heap.size, 2, none⟩ = some (.slice EA kk ec) := by rw [hwr.out]; simp
        have hE : ∀ e ∈ g.edges, e ≠ [] ∧ Small e := fun e he => by
          obtain ⟨i, hi, e1⟩ := List.mem_iff_getElem.1 he
          have h1 := HI.out i (by rw [← HL.out]; exact hi)
          rw [row_eq hi, e1] at h1
          have h2 := (isSetB_iff _ _).1 h1.2
          refine ⟨h1.1, h2.1, fun x hx => ⟨(h2.2 x hx).1, ?_⟩, HS.out e he⟩
          have := (h2.2 x hx).2
          have := HN.out
          omega
        have K1 : Hid (∀ W, Ext w W → Calls Tryz.prog 158 #[.slice EA kk ec] W fun e w' => ∃ A' n' c' R, e = .returned (.slice A' n' c') ∧ RR w' A' n' c' R ∧ (R = g.edges ↔ StrictLex g.edges ∧ g.edges.Pairwise Apart) ∧ Ext W w') := fun W hW =>
          minimal_any EA kk ec g.edges W (HR.out.edges.ext hW) hen hE
        have K2 : Hid (∀ A' n' c' R W, RR W A' n' c' R → Ext w W → (R = g.edges ↔ StrictLex g.edges ∧ g.edges.Pairwise Apart) → Calls Tryz.prog 157 #[.slice A' n' c', .slice EA kk ec, .func (.func 159) #[] #[]] W fun e w' => e = .returned (.bool (decide (Valid g))) ∧ Ext W w') := fun A' n' c' R W h1 h2 h3 =>
          (f157_any A' EA n' c' kk ec R g.edges W h1 (HR.out.edges.ext h2)).mono fun e w' ⟨he, q, hq⟩ => ⟨by rw [he, valid_minimal (by rw [← HN.out]; exact HW.out) (by rw [HL.out]; omega) (fun i hi => HI.out i (by rw [← HL.out]; exact hi)) h3], by rw [hq]; exact (by repeat' (first | exact Ext.refl _ | assumption | apply Ext.alloc | apply Ext.drewN | apply Ext.drew))⟩
        have hcl : wr.drew.cell? ⟨w.heap.size, 2, none⟩ = some (.slice EA kk ec) := hcell
        go_wp2_with fail
        go_region_with (first
          | (go_at_call 158; refine (K1.out _ (by repeat' (first | exact Ext.refl _ | assumption | apply Ext.alloc | apply Ext.drewN | apply Ext.drew))).mono ?_; rintro e w1 ⟨A', n', c', R, rfl, hr1, hm1, hx1⟩; have HX1 := hid (show Ext wr w1 from Below.trans (by repeat' (first | exact Ext.refl _ | assumption | apply Ext.alloc | apply Ext.drewN | apply Ext.drew)) hx1); have H1 := hid (And.intro hr1 hm1); have hcw := HX1.out.cell hcell; clear hr1 hm1 hx1)
          | (go_at_call 157; refine (K2.out _ _ _ _ _ H1.out.1 (hx.trans HX1.out) H1.out.2).mono ?_; rintro e w2 ⟨rfl, hx2⟩; have HX2 := hid hx2; clear hx2))
        all_goals go_wp2
        all_goals (go_ret; exact ⟨rfl, (hx.trans HX1.out).trans HX2.out⟩)
end Go.Proofs.YthjifmfmaiagoaaGreatDoor

/- A proof's checker: what it holds; are, some and the four leaves. -/
namespace Go.Proofs.YthjifmfmaiagoaaGreatDoor
open Go.RowKit
attribute [local go_sem] Oper.semAt_some

/-- slices.ContainsFunc over numbers, the function value making memory of its own alone. -/
theorem f89_ext (A : Option Addr) (n c : Nat) (l : List Int) (g : Nat) (lb : Array Value) (eg : ∀ args w, (callFunc g args).run Tryz.prog w = .ok (.enter g args) w) (p : Int → Bool) (w : World) (hr : RI w A n c l)
    (hc : ∀ x ∈ l, ∀ W, Ext w W → Calls Tryz.prog g (#[.int .i64 x] ++ lb) W fun e w' => e = .returned (.bool (p x)) ∧ Ext W w') :
    Calls Tryz.prog 89 #[.slice A n c, .func (.func g) #[] lb] w fun e w' => e = .returned (.bool (l.any p)) ∧ Ext w w' := by
  refine (f89_any A n c g lb eg (fun i => .int .i64 (nth l i)) (fun i => p (nth l i)) (fun _ W => Ext w W) (fun _ W => Ext w W) w hr.lenle (Ext.refl w) (fun i hi W hW => (hr.ext hW).cell i hi) (fun i hi W hW =>
    (hc _ (nth_mem (by rw [hr.len]; exact hi)) W hW).mono fun e W' ⟨he, hw⟩ => ⟨he, by split <;> exact hW.trans hw⟩)).mono fun e w' h => ?_
  obtain ⟨h1, h2⟩ := some_ext h
  refine ⟨h1.trans (ret_bool ?_), h2⟩
  rw [← hr.len]
  exact any_nth l p
theorem RW.fn {w : World} {A : Option Addr} {n c : Nat} {l : List Way} (h : RW w A n c l) :
    ∃ X Y : Nat → Option Addr × Nat × Nat, ∀ i, i < n → (∃ ad, A = some ad ∧ w.cell? (ad.add (i * 2)) = some (.slice (X i).1 (X i).2.1 (X i).2.2) ∧ w.cell? ⟨(ad.add (i * 2)).block, (ad.add (i * 2)).off + 1, none⟩ = some (.slice (Y i).1 (Y i).2.1 (Y i).2.2)) ∧
      RI w (X i).1 (X i).2.1 (X i).2.2 (way l i).pos ∧ RI w (Y i).1 (Y i).2.1 (Y i).2.2 (way l i).neg := by
  have h1 : ∀ i, ∃ x : (Option Addr × Nat × Nat) × (Option Addr × Nat × Nat), i < n → (∃ ad, A = some ad ∧ w.cell? (ad.add (i * 2)) = some (.slice x.1.1 x.1.2.1 x.1.2.2) ∧ w.cell? ⟨(ad.add (i * 2)).block, (ad.add (i * 2)).off + 1, none⟩ = some (.slice x.2.1 x.2.2.1 x.2.2.2)) ∧
      RI w x.1.1 x.1.2.1 x.1.2.2 (way l i).pos ∧ RI w x.2.1 x.2.2.1 x.2.2.2 (way l i).neg := by
    intro i
    by_cases hi : i < n
    · obtain ⟨ad, B, m, d, B', m', d', ha, hc, hc', hr, hr'⟩ := h.cell i hi
      exact ⟨((B, m, d), (B', m', d')), fun _ => ⟨⟨ad, ha, hc, hc'⟩, hr, hr'⟩⟩
    · exact ⟨((none, 0, 0), (none, 0, 0)), fun hh => absurd hh hi⟩
  exact ⟨fun i => (Classical.choose (h1 i)).1, fun i => (Classical.choose (h1 i)).2, fun i hi => Classical.choose_spec (h1 i) hi⟩
theorem any_way (l : List Way) (p : Way → Bool) : (List.range l.length).any (fun i => p (way l i)) = l.any p := by
  rw [Bool.eq_iff_iff, List.any_eq_true, List.any_eq_true]
  constructor
  · rintro ⟨i, hi, h⟩
    exact ⟨way l i, way_mem (List.mem_range.1 hi), h⟩
  · rintro ⟨x, hx, h⟩
    obtain ⟨i, hi, e⟩ := List.mem_iff_getElem.1 hx
    exact ⟨i, List.mem_range.2 hi, by rw [way_eq hi, e]; exact h⟩
/-- slices.ContainsFunc over ways, the function value making memory of its own alone. -/
theorem f77_ext (A : Option Addr) (n c : Nat) (l : List Way) (g : Nat) (lb : Array Value) (eg : ∀ args w, (callFunc g args).run Tryz.prog w = .ok (.enter g args) w) (p : Way → Bool) (w : World) (hr : RW w A n c l)
    (hc : ∀ x ∈ l, ∀ B m d B' m' d', RI w B m d x.pos → RI w B' m' d' x.neg → ∀ W, Ext w W → Calls Tryz.prog g (#[.agg #[.slice B m d, .slice B' m' d']] ++ lb) W fun e w' => e = .returned (.bool (p x)) ∧ Ext W w') :
    Calls Tryz.prog 77 #[.slice A n c, .func (.func g) #[] lb] w fun e w' => e = .returned (.bool (l.any p)) ∧ Ext w w' := by
  obtain ⟨X, Y, hX⟩ := hr.fn
  refine (f77_any A n c g lb eg (fun i => .slice (X i).1 (X i).2.1 (X i).2.2) (fun i => .slice (Y i).1 (Y i).2.1 (Y i).2.2) (fun i => p (way l i)) (fun _ W => Ext w W) (fun _ W => Ext w W) w hr.lenle (Ext.refl w) (fun i hi W hW => by
    obtain ⟨⟨ad, ha, h1, h2⟩, _⟩ := hX i hi
    exact ⟨ad, ha, hW.cell h1, hW.cell h2⟩) (fun i hi W hW =>
    (hc _ (way_mem (by rw [hr.len]; exact hi)) _ _ _ _ _ _ (hX i hi).2.1 (hX i hi).2.2 W hW).mono fun e W' ⟨he, hw⟩ => ⟨he, by split <;> exact hW.trans hw⟩)).mono fun e w' h => ?_
  obtain ⟨h1, h2⟩ := some_ext h
  refine ⟨h1.trans (ret_bool ?_), h2⟩
  rw [← hr.len]
  exact any_way l p

/-- A slice reads as steps. -/
structure RS (w : World) (A : Option Addr) (n c : Nat) (l : List Step) : Prop where
  len : l.length = n
  cap : n ≤ c
  big : c ≤ 9223372036854775807
  cell : ∀ i, i < n → ∃ ad, A = some ad ∧ w.cell? (ad.add (i * 4)) = some (.int .i64 (stepv l i).kind) ∧ w.cell? ⟨(ad.add (i * 4)).block, (ad.add (i * 4)).off + 1, none⟩ = some (.int .i64 (stepv l i).at_) ∧
    w.cell? ⟨(ad.add (i * 4)).block, (ad.add (i * 4)).off + 2, none⟩ = some (.int .i64 (stepv l i).in_) ∧ w.cell? ⟨(ad.add (i * 4)).block, (ad.add (i * 4)).off + 3, none⟩ = some (.int .i64 (stepv l i).out)
theorem RS.ext {w w' : World} {A : Option Addr} {n c : Nat} {l : List Step} (h : RS w A n c l) (e : Ext w w') : RS w' A n c l :=
  ⟨h.len, h.cap, h.big, fun i hi => by
    obtain ⟨ad, ha, h1, h2, h3, h4⟩ := h.cell i hi
    exact ⟨ad, ha, e.cell h1, e.cell h2, e.cell h3, e.cell h4⟩⟩

/-- Nothing that was there has turned, but for two blocks. -/
structure Fr (T U : Nat) (w w' : World) : Prop where
  os : w'.os = w.os
  tape : w'.tape = w.tape
  output : w'.output = w.output
  size : w.heap.size ≤ w'.heap.size
  block : ∀ k, k < w.heap.size → k ≠ T → k ≠ U → w'.heap[k]? = w.heap[k]?
theorem Fr.refl (T U : Nat) (w : World) : Fr T U w w := ⟨rfl, rfl, rfl, Nat.le_refl _, fun _ _ _ _ => rfl⟩
theorem Fr.trans {T U : Nat} {a b c : World} (h : Fr T U a b) (k : Fr T U b c) : Fr T U a c :=
  ⟨k.os.trans h.os, k.tape.trans h.tape, k.output.trans h.output, Nat.le_trans h.size k.size, fun j h1 h2 h3 => (k.block j (Nat.lt_of_lt_of_le h1 h.size) h2 h3).trans (h.block j h1 h2 h3)⟩
theorem Fr.ext {T U : Nat} {a b : World} (h : Ext a b) : Fr T U a b := ⟨h.os, h.tape, h.output, h.size, fun k hk _ _ => h.block k hk⟩
theorem Fr.setT {T U : Nat} (w : World) (o : Nat) (v : Value) : Fr T U w (w.setCell ⟨T, o, none⟩ v) := by
  have h := Below.setCell (Below.refl T w) (p := ⟨T, o, none⟩) (Nat.le_refl T) v
  refine ⟨h.os, h.tape, h.output, h.size, fun k hk h1 h2 => ?_⟩
  exact Below.heap_setCell _ _ _ _ h1
theorem Fr.setU {T U : Nat} (w : World) (o : Nat) (v : Value) : Fr T U w (w.setCell ⟨U, o, none⟩ v) := by
  have h := Below.setCell (Below.refl U w) (p := ⟨U, o, none⟩) (Nat.le_refl U) v
  refine ⟨h.os, h.tape, h.output, h.size, fun k hk h1 h2 => ?_⟩
  exact Below.heap_setCell _ _ _ _ h2
theorem Fr.cell {T U : Nat} {w w' : World} (h : Fr T U w w') {a : Addr} {v : Value} (hc : w.cell? a = some v) (h1 : a.block ≠ T) (h2 : a.block ≠ U) : w'.cell? a = some v :=
  (World.cell?_of_block (w := w) (h.block a.block (World.block_lt_of_cell? w a hc) h1 h2)).trans hc

/-- A row of numbers in a block, its cells free to be written. -/
def RowI (w : World) (T : Nat) (st : List Int) : Prop := ∀ i, i < st.length → w.cell? ⟨T, i, none⟩ = some (.int .i64 (nth st i)) ∧ w.frozen? ⟨T, i, none⟩ = false
def RowB (w : World) (U : Nat) (s : List Bool) : Prop := ∀ i, i < s.length → w.cell? ⟨U, i, none⟩ = some (.bool (nthB s i)) ∧ w.frozen? ⟨U, i, none⟩ = false
end Go.Proofs.YthjifmfmaiagoaaGreatDoor

/- A proof's checker: what it holds; are, some and the four leaves. -/
namespace Go.Proofs.YthjifmfmaiagoaaGreatDoor
open Go.RowKit
attribute [local go_sem] Oper.semAt_some

/-- The functions that check a step, by its kind. -/
def kindF (k : Int) : Option Value := if k = 1 then some (.func (.func 141) #[] #[]) else if k = 2 then some (.func (.func 142) #[] #[]) else if k = 3 then some (.func (.func 143) #[] #[]) else if k = 4 then some (.func (.func 144) #[] #[]) else if k = 5 then some (.func (.func 145) #[] #[]) else none
/-- What a checker was made of. -/
structure CkD where
  w0 : World
  C : Nat
  T : Nat
  U : Nat
  V : Nat
  K : Nat
  CA : Option Addr
  cn : Nat
  cc : Nat
  EA : Option Addr
  en : Nat
  ec : Nat
  WA : Option Addr
  wn : Nat
  wc : Nat
  SA : Option Addr
  sn : Nat
  sc : Nat
  n : Nat
  g : Graph
  ws : List Way
  hold : Bool
  ss : List Step
  sv : Value
  evs : List (List Int)
/-- A checker in memory. -/
structure Ck (k : CkD) (w : World) : Prop where
  ext : Ext k.w0 w
  rg : RG k.w0 k.CA k.cn k.cc k.EA k.en k.ec k.g
  rws : RW k.w0 k.WA k.wn k.wc k.ws
  rs : RS k.w0 k.SA k.sn k.sc k.ss
  hn : k.g.n = (k.n : Int)
  n1 : k.n ≤ 4000
  tC : k.C ≠ k.T ∧ k.C ≠ k.U
  tV : k.V ≠ k.T ∧ k.V ≠ k.U
  tK : k.K ≠ k.T ∧ k.K ≠ k.U
  t0 : k.w0.heap.size ≤ k.T ∧ k.w0.heap.size ≤ k.U
  lC : k.C < w.heap.size
  lT : k.T < w.heap.size
  c0 : w.cell? ⟨k.C, 0, none⟩ = some (.int .i64 k.n)
  c2 : w.cell? ⟨k.C, 2, none⟩ = some (.slice k.EA k.en k.ec)
  c3 : w.cell? ⟨k.C, 3, none⟩ = some (.slice k.WA k.wn k.wc)
  c4 : w.cell? ⟨k.C, 4, none⟩ = some (.bool k.hold)
  c5 : w.cell? ⟨k.C, 5, none⟩ = some (.slice k.SA k.sn k.sc)
  c6 : w.cell? ⟨k.C, 6, none⟩ = some (.slice (some ⟨k.V, 0, none⟩) k.n k.n)
  c7 : w.cell? ⟨k.C, 7, none⟩ = some (.slice (some ⟨k.T, 0, none⟩) k.n k.n)
  c8 : w.cell? ⟨k.C, 8, none⟩ = some k.sv
  c9 : w.cell? ⟨k.C, 9, none⟩ = some (.map (some k.K))
  fz : ∀ j, w.frozen? ⟨k.C, j, none⟩ = false
  kinds : MapFn (Value.int .i64) w k.K kindF
  evs : ∀ v, v < k.n → ∃ B m d, w.cell? ⟨k.V, v, none⟩ = some (.slice B m d) ∧ RI w B m d (row k.evs v) ∧ ∀ ad, B = some ad → ad.block ≠ k.T ∧ ad.block ≠ k.U ∧ ad.block < w.heap.size
  evl : ∀ v, v < k.n → ∀ i : Int, i ∈ row k.evs v ↔ ∃ j : Nat, i = j ∧ j < k.en ∧ (v : Int) ∈ row k.g.edges j
  ok : ∀ e ∈ k.g.edges, Verts e k.g.n
  okw : ∀ x ∈ k.ws, Verts x.pos k.g.n ∧ Verts x.neg k.g.n

theorem RI.fr {T U : Nat} {w w' : World} {A : Option Addr} {n c : Nat} {l : List Int} (h : RI w A n c l) (hf : Fr T U w w') (hne : ∀ ad, A = some ad → ad.block ≠ T ∧ ad.block ≠ U) : RI w' A n c l :=
  ⟨h.len, h.cap, h.big, fun i hi => by
    obtain ⟨ad, ha, hc⟩ := h.cell i hi
    exact ⟨ad, ha, hf.cell hc (by rw [add_block]; exact (hne ad ha).1) (by rw [add_block]; exact (hne ad ha).2)⟩⟩
theorem Ck.fr {k : CkD} {w w' : World} (h : Ck k w) (f : Fr k.T k.U w w') : Ck k w' :=
  { rg := h.rg, rws := h.rws, rs := h.rs, hn := h.hn, n1 := h.n1, tC := h.tC, tV := h.tV, tK := h.tK, t0 := h.t0, evl := h.evl, ok := h.ok, okw := h.okw
    ext := ⟨f.os.trans h.ext.os, f.tape.trans h.ext.tape, f.output.trans h.ext.output, Nat.le_trans h.ext.size f.size, fun j hj => (f.block j (Nat.lt_of_lt_of_le hj h.ext.size) (by have := h.t0.1; omega) (by have := h.t0.2; omega)).trans (h.ext.block j hj)⟩
    lC := Nat.lt_of_lt_of_le h.lC f.size, lT := Nat.lt_of_lt_of_le h.lT f.size
    c0 := f.cell h.c0 h.tC.1 h.tC.2, c2 := f.cell h.c2 h.tC.1 h.tC.2, c3 := f.cell h.c3 h.tC.1 h.tC.2, c4 := f.cell h.c4 h.tC.1 h.tC.2, c5 := f.cell h.c5 h.tC.1 h.tC.2, c6 := f.cell h.c6 h.tC.1 h.tC.2, c7 := f.cell h.c7 h.tC.1 h.tC.2, c8 := f.cell h.c8 h.tC.1 h.tC.2, c9 := f.cell h.c9 h.tC.1 h.tC.2
    fz := fun j => (World.frozen?_of_block (w := w) (f.block k.C h.lC h.tC.1 h.tC.2)).trans (h.fz j)
    kinds := MapFn.keep h.kinds (f.block k.K (MapFn.lt h.kinds) h.tK.1 h.tK.2)
    evs := fun v hv => by
      obtain ⟨B, m, d, hc, hr, hb⟩ := h.evs v hv
      exact ⟨B, m, d, f.cell hc h.tV.1 h.tV.2, hr.fr f fun ad ha => ⟨(hb ad ha).1, (hb ad ha).2.1⟩, fun ad ha => ⟨(hb ad ha).1, (hb ad ha).2.1, Nat.lt_of_lt_of_le (hb ad ha).2.2 f.size⟩⟩ }
end Go.Proofs.YthjifmfmaiagoaaGreatDoor

/- A proof's checker: are, some and the four leaves. -/
namespace Go.Proofs.YthjifmfmaiagoaaGreatDoor
open Go.RowKit
attribute [local go_sem] Oper.semAt_some

theorem e219 : ∀ args w, (callFunc 219 args).run Tryz.prog w = .ok (.enter 219 args) w := enters_of Tryz.func219 (by kernel_rfl) rfl
theorem e220 : ∀ args w, (callFunc 220 args).run Tryz.prog w = .ok (.enter 220 args) w := enters_of Tryz.func220 (by kernel_rfl) rfl
theorem e191 : ∀ args w, (callFunc 191 args).run Tryz.prog w = .ok (.enter 191 args) w := enters_of Tryz.func191 (by kernel_rfl) rfl
theorem e192 : ∀ args w, (callFunc 192 args).run Tryz.prog w = .ok (.enter 192 args) w := enters_of Tryz.func192 (by kernel_rfl) rfl
theorem e193 : ∀ args w, (callFunc 193 args).run Tryz.prog w = .ok (.enter 193 args) w := enters_of Tryz.func193 (by kernel_rfl) rfl

theorem f219_any (b1 b2 C T n v : Nat) (s want : Int) (W : World) (h1 : W.cell? ⟨b1, 0, none⟩ = some (.pointer (some ⟨C, 0, none⟩))) (h7 : W.cell? ⟨C, 7, none⟩ = some (.slice (some ⟨T, 0, none⟩) n n)) (ht : W.cell? ⟨T, v, none⟩ = some (.int .i64 s)) (h2 : W.cell? ⟨b2, 0, none⟩ = some (.int .i64 want)) (hv : v < n) (hn : n ≤ 4000) :
    Calls Tryz.prog 219 #[.int .i64 (v : Int), .pointer (some ⟨b1, 0, none⟩), .pointer (some ⟨b2, 0, none⟩)] W fun e w' => e = .returned (.bool (decide (s ≠ want))) ∧ ∃ q, w' = W.drewN q := by
  have hvz : (v : Int) < (n : Int) := by omega
  go_enter Tryz.func219, Tryz.ntmps219
  go_wp2
  go_quiet (fail)
  go_wp2
  go_ret
  exact ⟨ret_bool (by by_cases h : s = want <;> simp [h]), _, rfl⟩
theorem f220_any (b1 b2 C T n v : Nat) (s want : Int) (W : World) (h1 : W.cell? ⟨b1, 0, none⟩ = some (.pointer (some ⟨C, 0, none⟩))) (h7 : W.cell? ⟨C, 7, none⟩ = some (.slice (some ⟨T, 0, none⟩) n n)) (ht : W.cell? ⟨T, v, none⟩ = some (.int .i64 s)) (h2 : W.cell? ⟨b2, 0, none⟩ = some (.int .i64 want)) (hv : v < n) (hn : n ≤ 4000) :
    Calls Tryz.prog 220 #[.int .i64 (v : Int), .pointer (some ⟨b1, 0, none⟩), .pointer (some ⟨b2, 0, none⟩)] W fun e w' => e = .returned (.bool (decide (s = want))) ∧ ∃ q, w' = W.drewN q := by
  have hvz : (v : Int) < (n : Int) := by omega
  go_enter Tryz.func220, Tryz.ntmps220
  go_wp2
  go_quiet (fail)
  go_wp2
  go_ret
  exact ⟨ret_bool (by by_cases h : s = want <;> simp [h]), _, rfl⟩

/-- A list of vertices. -/
def Below' (n : Nat) (l : List Int) : Prop := ∀ x ∈ l, 0 ≤ x ∧ x < (n : Int)
theorem cellNewE {w : World} {os : Obj} {v : Value} {b : Nat} {W : World} {t : TypeId} (h : Ext (w.alloc (.cells #[v] t)) W) (hb : b = w.heap.size) : W.cell? ⟨b, 0, none⟩ = some v := by
  subst hb
  exact Ext.cell h (by simp)

set_option maxHeartbeats 1000000 in
theorem are_any (k : CkD) (w : World) (st : List Int) (h : Ck k w) (hst : st.length = k.n) (hrow : RowI w k.T st) (B : Option Addr) (m d : Nat) (l : List Int) (want : Int) (hr : RI w B m d l) (hl : Below' k.n l) :
    Calls Tryz.prog 190 #[.pointer (some ⟨k.C, 0, none⟩), .slice B m d, .int .i64 want] w fun e w' => e = .returned (.bool (areB st want l)) ∧ Ext w w' := by
  have K : ∀ W, Ext ((w.alloc (.cells #[.pointer (some ⟨k.C, 0, none⟩)] 104)).alloc (.cells #[.int .i64 want] 3)) W → Calls Tryz.prog 89 #[.slice B m d, .func (.func 219) #[] #[.pointer (some ⟨w.heap.size, 0, none⟩), .pointer (some ⟨w.heap.size + 1, 0, none⟩)]] W fun e w' => e = .returned (.bool (l.any fun v => decide (stv st v ≠ want))) ∧ Ext W w' := by
    intro W hW
    have hx : Ext w W := Ext.trans (by repeat' (first | exact Ext.refl _ | assumption | apply Ext.alloc | apply Ext.drewN | apply Ext.drew)) hW
    refine f89_ext B m d l 219 _ e219 (fun v => decide (stv st v ≠ want)) W (hr.ext hx) fun x hxl W2 hW2 => ?_
    obtain ⟨v, rfl⟩ : ∃ v : Nat, x = v := ⟨x.toNat, by have := (hl x hxl).1; omega⟩
    have hv : v < k.n := by have := (hl _ hxl).2; omega
    refine (f219_any w.heap.size (w.heap.size + 1) k.C k.T k.n v (nth st v) want W2 (Ext.cell (hW.trans hW2) (by simp)) (Ext.cell (hx.trans hW2) h.c7) (Ext.cell (hx.trans hW2) (hrow v (by omega)).1) (Ext.cell (hW.trans hW2) (by simp)) hv h.n1).mono ?_
    rintro e w' ⟨rfl, q, rfl⟩
    exact ⟨rfl, (by repeat' (first | exact Ext.refl _ | assumption | apply Ext.alloc | apply Ext.drewN | apply Ext.drew))⟩
  have HK := hid K
  clear K hr hl hrow h
  unfold areB
  generalize (l.any fun v => decide (stv st v ≠ want)) = b at HK ⊢
  go_enter Tryz.func190, Tryz.ntmps190
  go_wp2_with (go_at_call 89; refine (HK.out _ (Ext.refl _)).mono ?_; rintro e w' ⟨rfl, hx⟩)
  go_ret
  exact ⟨rfl, Ext.trans (by repeat' (first | exact Ext.refl _ | assumption | apply Ext.alloc | apply Ext.drewN | apply Ext.drew)) hx⟩
set_option maxHeartbeats 1000000 in
theorem some_any (k : CkD) (w : World) (st : List Int) (h : Ck k w) (hst : st.length = k.n) (hrow : RowI w k.T st) (B : Option Addr) (m d : Nat) (l : List Int) (want : Int) (hr : RI w B m d l) (hl : Below' k.n l) :
    Calls Tryz.prog 194 #[.pointer (some ⟨k.C, 0, none⟩), .slice B m d, .int .i64 want] w fun e w' => e = .returned (.bool (someB st want l)) ∧ Ext w w' := by
  have K : ∀ W, Ext ((w.alloc (.cells #[.pointer (some ⟨k.C, 0, none⟩)] 104)).alloc (.cells #[.int .i64 want] 3)) W → Calls Tryz.prog 89 #[.slice B m d, .func (.func 220) #[] #[.pointer (some ⟨w.heap.size, 0, none⟩), .pointer (some ⟨w.heap.size + 1, 0, none⟩)]] W fun e w' => e = .returned (.bool (l.any fun v => decide (stv st v = want))) ∧ Ext W w' := by
    intro W hW
    have hx : Ext w W := Ext.trans (by repeat' (first | exact Ext.refl _ | assumption | apply Ext.alloc | apply Ext.drewN | apply Ext.drew)) hW
    refine f89_ext B m d l 220 _ e220 (fun v => decide (stv st v = want)) W (hr.ext hx) fun x hxl W2 hW2 => ?_
    obtain ⟨v, rfl⟩ : ∃ v : Nat, x = v := ⟨x.toNat, by have := (hl x hxl).1; omega⟩
    have hv : v < k.n := by have := (hl _ hxl).2; omega
    refine (f220_any w.heap.size (w.heap.size + 1) k.C k.T k.n v (nth st v) want W2 (Ext.cell (hW.trans hW2) (by simp)) (Ext.cell (hx.trans hW2) h.c7) (Ext.cell (hx.trans hW2) (hrow v (by omega)).1) (Ext.cell (hW.trans hW2) (by simp)) hv h.n1).mono ?_
    rintro e w' ⟨rfl, q, rfl⟩
    exact ⟨rfl, (by repeat' (first | exact Ext.refl _ | assumption | apply Ext.alloc | apply Ext.drewN | apply Ext.drew))⟩
  have HK := hid K
  clear K hr hl hrow h
  unfold someB
  generalize (l.any fun v => decide (stv st v = want)) = b at HK ⊢
  go_enter Tryz.func194, Tryz.ntmps194
  go_wp2_with (go_at_call 89; refine (HK.out _ (Ext.refl _)).mono ?_; rintro e w' ⟨rfl, hx⟩)
  go_ret
  exact ⟨rfl, Ext.trans (by repeat' (first | exact Ext.refl _ | assumption | apply Ext.alloc | apply Ext.drewN | apply Ext.drew)) hx⟩
end Go.Proofs.YthjifmfmaiagoaaGreatDoor

/- A proof's checker: the leaves clash and way; drawing regions that call what makes memory. -/
namespace Go.Proofs.YthjifmfmaiagoaaGreatDoor
open Go.RowKit
attribute [local go_sem] Oper.semAt_some

/-- A world in which nothing of w has turned. -/
structure ExtOf (w : World) where
  W : World
  h : Ext w W
instance (w : World) : Inhabited (ExtOf w) := ⟨⟨w, Ext.refl w⟩⟩
theorem wp_region_quiet_ext {P : Program} {id : Nat} {Q : Exit → Act → World → Prop} {a : Act} {w : World} {l : List Oper} (hm : P.follows .mixedOrders = true) (hB : Region.lexB .any l.toArray = true)
    (h : wpQuiet P l.toArray (fun w' => ∃ p : ExtOf w, w' = p.W) (fun a' => ∀ w', (∃ p : ExtOf w, w' = p.W) → Q .normal a' w') l a) : (Code.region id l.toArray true).wp P Q a w :=
  wp_region_quiet (C := fun w' => ∃ p : ExtOf w, w' = p.W) hm hB ⟨⟨w.drew, Ext.drew (Ext.refl w)⟩, rfl⟩ (by simpa using h)
theorem Calls.ext_of {f : FuncId} {args : Array Value} {w : World} {p : ExtOf w} {v : Value}
    (h : Calls Tryz.prog f args p.W fun e w' => e = .returned v ∧ Ext p.W w') : Calls Tryz.prog f args p.W fun e w'' => e = .returned v ∧ ∃ p' : ExtOf w, w'' = p'.W :=
  h.mono fun _ w' ⟨he, hx⟩ => ⟨he, ⟨w', p.h.trans hx⟩, rfl⟩
/-- The lexical walk, closed to the elaborator's eye. -/
structure QW (P : Program) (ops : Array Oper) (C : World → Prop) (Q : Act → Prop) (l : List Oper) (a : Act) : Prop where
  out : wpQuiet P ops C Q l a
theorem QW.step {P : Program} {ops : Array Oper} {C : World → Prop} {Q : Act → Prop} {a : Act} {o : Oper} {rest : List Oper}
    (h : ∀ K : Act → Prop, (∀ a, QW P ops C Q rest a → K a) → if Region.wanted o (yielded ops a.tmps) then o.quiet P a C K else K (a.put o.dst undef)) : QW P ops C Q (o :: rest) a :=
  ⟨wpQuiet_step fun K hK => h K fun a ha => hK a ha.out⟩
theorem QW.skip {P : Program} {ops : Array Oper} {C : World → Prop} {Q : Act → Prop} {a : Act} {o : Oper} {rest : List Oper} (hw : Region.wanted o (yielded ops a.tmps) = false) (h : QW P ops C Q rest (a.put o.dst undef)) : QW P ops C Q (o :: rest) a := by
  refine ⟨?_⟩
  unfold wpQuiet
  rw [hw]
  exact h.out
theorem QW.nil {P : Program} {ops : Array Oper} {C : World → Prop} {Q : Act → Prop} {a : Act} (h : Q a) : QW P ops C Q [] a := ⟨h⟩
theorem wp_region_qw {P : Program} {id : Nat} {Q : Exit → Act → World → Prop} {a : Act} {w : World} {l : List Oper} (hm : P.follows .mixedOrders = true) (hB : Region.lexB .any l.toArray = true)
    (h : QW P l.toArray (fun w' => ∃ p : ExtOf w, w' = p.W) (fun a' => ∀ w', (∃ p : ExtOf w, w' = p.W) → Q .normal a' w') l a) : (Code.region id l.toArray true).wp P Q a w :=
  wp_region_quiet_ext hm hB h.out
theorem mixed' : Tryz.prog.follows .mixedOrders = true := by kernel_rfl

/-- The box that a step is put into. -/
def stepBox (w : World) (x : Step) : World := w.alloc (.cells #[.int .i64 x.kind, .int .i64 x.at_, .int .i64 x.in_, .int .i64 x.out] 57)
theorem edge_at {k : CkD} (rg : RG k.w0 k.CA k.cn k.cc k.EA k.en k.ec k.g) {j : Nat} (hj : j < k.en) : ∃ ad B m d, k.EA = some ad ∧ k.w0.cell? (ad.add j) = some (.slice B m d) ∧ RI k.w0 B m d (row k.g.edges j) ∧ row k.g.edges j ∈ k.g.edges := by
  obtain ⟨ad, B, m, d, h1, h2, h3⟩ := rg.edges.cell j hj
  exact ⟨ad, B, m, d, h1, h2, h3, row_mem (by rw [rg.edges.len]; exact hj)⟩
theorem Ck.below {k : CkD} {w : World} (h : Ck k w) {e : List Int} (he : e ∈ k.g.edges) : Below' k.n e := fun x hx => by
  have := (h.ok e he).2 x hx
  have := h.hn
  omega

set_option maxHeartbeats 2000000 in
theorem clash_any (k : CkD) (w : World) (st : List Int) (h : Ck k w) (hst : st.length = k.n) (hrow : RowI w k.T st) (at_ : Int) (x : Step) :
    Calls Tryz.prog 142 #[.pointer (some ⟨k.C, 0, none⟩), .int .i64 at_, .agg #[.int .i64 x.kind, .int .i64 x.at_, .int .i64 x.in_, .int .i64 x.out]] w fun e w' => e = .returned (.bool (clashB k.g st x)) ∧ Ext w w' := by
  have hel := h.rg.edges.len
  have H := hid h
  have c2 : ∀ p : ExtOf (w.alloc (.cells #[.int .i64 x.kind, .int .i64 x.at_, .int .i64 x.in_, .int .i64 x.out] 57)), p.W.cell? ⟨k.C, 2, none⟩ = some (.slice k.EA k.en k.ec) := fun p => Ext.cell (Ext.trans (by repeat' (first | exact Ext.refl _ | assumption | apply Ext.alloc | apply Ext.drewN | apply Ext.drew)) p.h) h.c2
  have cx : ∀ p : ExtOf (w.alloc (.cells #[.int .i64 x.kind, .int .i64 x.at_, .int .i64 x.in_, .int .i64 x.out] 57)), p.W.cell? ⟨w.heap.size, 1, none⟩ = some (.int .i64 x.at_) := fun p => Ext.cell p.h (by simp)
  by_cases h0 : 0 ≤ x.at_
  · by_cases h1 : x.at_ < (k.en : Int)
    · obtain ⟨j, hj⟩ : ∃ j : Nat, x.at_ = j := ⟨x.at_.toNat, by omega⟩
      have hjn : j < k.en := by omega
      obtain ⟨ad, B, m, d, hEA, hc, hri, hmem⟩ := edge_at h.rg hjn
      have HK : Hid (∀ p : ExtOf (w.alloc (.cells #[.int .i64 x.kind, .int .i64 x.at_, .int .i64 x.in_, .int .i64 x.out] 57)), Calls Tryz.prog 190 #[.pointer (some ⟨k.C, 0, none⟩), .slice B m d, .int .i64 1] p.W fun e w' => e = .returned (.bool (areB st 1 (row k.g.edges j))) ∧ Ext p.W w') := fun p =>
        are_any k p.W st (h.fr (Fr.ext (Ext.trans (by repeat' (first | exact Ext.refl _ | assumption | apply Ext.alloc | apply Ext.drewN | apply Ext.drew)) p.h))) hst (fun i hi => ⟨Ext.cell (Ext.trans (by repeat' (first | exact Ext.refl _ | assumption | apply Ext.alloc | apply Ext.drewN | apply Ext.drew)) p.h) (hrow i hi).1, ((Ext.frozen (Ext.trans (by repeat' (first | exact Ext.refl _ | assumption | apply Ext.alloc | apply Ext.drewN | apply Ext.drew)) p.h) (World.block_lt_of_cell? w _ (hrow i hi).1)).trans (hrow i hi).2)⟩) B m d _ 1 (hri.ext (h.ext.trans (Ext.trans (by repeat' (first | exact Ext.refl _ | assumption | apply Ext.alloc | apply Ext.drewN | apply Ext.drew)) p.h))) (h.below hmem)
      have ce : ∀ p : ExtOf (w.alloc (.cells #[.int .i64 x.kind, .int .i64 x.at_, .int .i64 x.in_, .int .i64 x.out] 57)), p.W.cell? (ad.add j) = some (.slice B m d) := fun p => Ext.cell (h.ext.trans (Ext.trans (by repeat' (first | exact Ext.refl _ | assumption | apply Ext.alloc | apply Ext.drewN | apply Ext.drew)) p.h)) hc
      have hB : clashB k.g st x = areB st 1 (row k.g.edges j) := by
        unfold clashB
        rw [decide_eq_true h0, decide_eq_true (show x.at_ < (k.g.edges.length : Int) by rw [hel]; exact h1), hj]
        simp
      rw [hB]
      clear hB hrow h hmem hri hc
      generalize areB st 1 (row k.g.edges j) = b at HK ⊢
      obtain ⟨xk, xa, xi, xo⟩ := x
      simp only [] at hj h0 h1 c2 cx ce HK ⊢
      subst hj
      rw [hEA] at c2
      go_enter Tryz.func142, Tryz.ntmps142
      go_wp2
      refine wp_region_qw mixed' (by kernel_rfl) ?_
      repeat (refine QW.step (fun K hK => ?_); go_simp; first | (refine hK _ ?_; clear hK K) | (apply Exists.intro; refine ⟨fun _ => ?_, hK _ ?_⟩; refine Calls.ext_of (HK.out _); clear hK K))
      refine QW.nil ?_
      rintro _ ⟨⟨w1, hw1⟩, rfl⟩
      go_wp2
      go_ret
      exact ⟨rfl, Ext.trans (by repeat' (first | exact Ext.refl _ | assumption | apply Ext.alloc | apply Ext.drewN | apply Ext.drew)) hw1⟩
    · have hB : clashB k.g st x = false := by
        unfold clashB
        rw [decide_eq_false (show ¬ x.at_ < (k.g.edges.length : Int) by rw [hel]; exact h1)]
        simp
      rw [hB]
      clear hB hrow h
      obtain ⟨xk, xa, xi, xo⟩ := x
      simp only [] at h0 h1 c2 cx ⊢
      have c2' := c2 ⟨_, Ext.drew (Ext.refl _)⟩
      have cx' := cx ⟨_, Ext.drew (Ext.refl _)⟩
      clear c2 cx
      have d1 : decide (xa < (k.en : Int)) = false := decide_eq_false h1
      have d0 : decide (xa ≥ 0) = true := decide_eq_true h0
      go_enter Tryz.func142, Tryz.ntmps142
      go_wp2
      go_big_region
      go_wp2
      go_ret
      exact ⟨rfl, (by repeat' (first | exact Ext.refl _ | assumption | apply Ext.alloc | apply Ext.drewN | apply Ext.drew))⟩
  · have hB : clashB k.g st x = false := by
      unfold clashB
      rw [decide_eq_false h0]
      simp
    rw [hB]
    clear hB hrow h
    obtain ⟨xk, xa, xi, xo⟩ := x
    simp only [] at h0 c2 cx ⊢
    have cx' := cx ⟨_, Ext.drew (Ext.refl _)⟩
    clear c2 cx
    have d0 : decide (xa ≥ 0) = false := decide_eq_false h0
    go_enter Tryz.func142, Tryz.ntmps142
    go_wp2
    go_big_region
    go_wp2
    go_ret
    exact ⟨rfl, (by repeat' (first | exact Ext.refl _ | assumption | apply Ext.alloc | apply Ext.drewN | apply Ext.drew))⟩
end Go.Proofs.YthjifmfmaiagoaaGreatDoor

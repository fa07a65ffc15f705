/- C05: texts H15. -/
import Derived.Test.YthjifmfmaiagoaaGreatDoorC04b
set_option linter.all false

/- The stable sort's merge, whole. -/
namespace Go.Proofs.YthjifmfmaiagoaaGreatDoor
open Go.Shelf Go.RowKit Go.Lib Go.Sort
attribute [local go_sem] Oper.semAt_some

theorem Rotated.trivial {α : Type} [Inhabited α] {d : Array α} {s m e : Nat} (h : s = m ∨ m = e) (h1 : s ≤ m) (h2 : m ≤ e) : Rotated d s m e d := by
  refine ⟨permIn_refl d s e, fun k => ?_⟩
  rcases h with h | h
  · subst h
    by_cases c : s ≤ k ∧ k < s + (e - s)
    · rw [if_pos c, Nat.sub_self, Nat.add_zero]
    · rw [if_neg c, if_neg (by omega)]
  · subst h
    rw [if_neg (by omega), Nat.sub_self, Nat.sub_zero]
    split <;> rfl

/-- The three steps behind the search: rotation, the left half, the right half. -/
def P1 {α : Type} [Inhabited α] (enc : α → Value) (w0 : World) (blk off s m e : Nat) (d : Array α) (W : World) : Prop := ∃ d1, Rotated d s m e d1 ∧ SW enc w0 blk off d1 W
def P2 {α : Type} [Inhabited α] (enc : α → Value) (cf : α → α → Int) (w0 : World) (blk off a mid s m e : Nat) (d : Array α) (W : World) : Prop :=
  ∃ d1 d2, Rotated d s m e d1 ∧ PermIn a mid d1 d2 ∧ SortedIn (ltOf cf) a mid d2 ∧ SW enc w0 blk off d2 W
def P3 {α : Type} [Inhabited α] (enc : α → Value) (cf : α → α → Int) (w0 : World) (blk off a mid s m e b : Nat) (d : Array α) (W : World) : Prop :=
  ∃ d1 d2 d3, Rotated d s m e d1 ∧ PermIn a mid d1 d2 ∧ SortedIn (ltOf cf) a mid d2 ∧ PermIn mid b d2 d3 ∧ SortedIn (ltOf cf) mid b d3 ∧ SW enc w0 blk off d3 W

set_option maxHeartbeats 8000000 in
set_option maxRecDepth 1000000 in
theorem f242_step {α : Type} [Inhabited α] (enc : α → Value) (cf : α → α → Int) (g : Nat) (cb : Array Value) (blk off cap : Nat) (d0 : Array α) (w0 : World) (eg : ∀ args w, (callFunc g args).run Tryz.prog w = .ok (.enter g args) w) (hcmp : CmpLays1 Tryz.prog g cb enc cf blk off d0.size w0) (R : Row1 enc w0 blk off d0) (hsz : d0.size < 4611686018427387904) (hS : SWO (ltOf cf)) (N a m b : Nat)
    (IH : ∀ (a' m' b' : Nat) (d : Array α) (w : World), b' - a' < N → d.size = d0.size → SW enc w0 blk off d w → a' < m' → m' < b' → b' ≤ d.size → SortedIn (ltOf cf) a' m' d → SortedIn (ltOf cf) m' b' d →
      Calls Tryz.prog 242 #[.slice (some ⟨blk, off, none⟩) d0.size cap, .int .i64 a', .int .i64 m', .int .i64 b', .func (.func g) #[] cb] w fun e w' => e = .returned (.tuple #[]) ∧ ∃ d', PermIn a' b' d d' ∧ SortedIn (ltOf cf) a' b' d' ∧ SW enc w0 blk off d' w')
    (d : Array α) (w : World) (hN : b - a ≤ N) (hs : d.size = d0.size) (S : SW enc w0 blk off d w) (h1 : a + 1 < m) (h2 : m + 1 < b) (h3 : b ≤ d.size) (hR1 : SortedIn (ltOf cf) a m d) (hR2 : SortedIn (ltOf cf) m b d) :
    Calls Tryz.prog 242 #[.slice (some ⟨blk, off, none⟩) d0.size cap, .int .i64 a, .int .i64 m, .int .i64 b, .func (.func g) #[] cb] w fun e w' => e = .returned (.tuple #[]) ∧ ∃ d', PermIn a b d d' ∧ SortedIn (ltOf cf) a b d' ∧ SW enc w0 blk off d' w' := by
  have H257 := hid (fun (x y z : Nat) (c : Array α) (W : World) (k : c.size = d0.size) (s : SW enc w0 blk off c W) (k1 : x < y) (k2 : y < z) (k3 : z ≤ c.size) => f257_any enc cf g cb blk off cap d0 w0 eg hcmp R hsz x y z c W k s k1 k2 k3)
  have HIH := hid IH
  have mixed : Tryz.prog.follows .mixedOrders = true := by kernel_rfl
  have S0 : Aside (SW enc w0 blk off d w) := S
  have HR1 := hid hR1
  have HR2 := hid hR2
  have HS := hid hS
  have HC : Aside _ := hcmp
  clear S hcmp hR1 hR2 hS IH
  obtain ⟨mid, hmid⟩ : ∃ mid, mid = (a + b) / 2 := ⟨_, rfl⟩
  have qmid : ((a : Int) + (b : Int)) / 2 = (mid : Int) := by omega
  have hmid1 : 2 * mid ≤ a + b := by omega
  have hmid2 : a + b ≤ 2 * mid + 1 := by omega
  clear hmid
  obtain ⟨n, hn⟩ : ∃ n, n = mid + m := ⟨_, rfl⟩
  have hn1 : n ≤ mid + m := by omega
  have hn2 : mid + m ≤ n := by omega
  have qn : IntKind.i64.wrap ((mid : Int) + (m : Int)) = (n : Int) := by rw [IntKind.wrap_i64]; omega
  clear hn
  obtain ⟨p, hp⟩ : ∃ p, n = p + 1 := ⟨n - 1, by omega⟩
  have hp1 : n ≤ p + 1 := by omega
  have hp2 : p < n := by omega
  have qp : IntKind.i64.wrap ((n : Int) - 1) = (p : Int) := by rw [IntKind.wrap_i64]; omega
  clear hp
  have q0 : IntKind.i64.wrap ((m : Int) - (a : Int)) = ((m - a : Nat) : Int) := by rw [IntKind.wrap_i64]; omega
  have q1 : IntKind.i64.wrap ((b : Int) - (m : Int)) = ((b - m : Nat) : Int) := by rw [IntKind.wrap_i64]; omega
  have q2 : (((m - a : Nat) : Int) == 1) = false := by simp only [beq_eq_false_iff_ne]; omega
  have q3 : (((b - m : Nat) : Int) == 1) = false := by simp only [beq_eq_false_iff_ne]; omega
  have q2' : ¬ (((m - a : Nat) : Int) = 1) := by omega
  have q3' : ¬ (((b - m : Nat) : Int) = 1) := by omega
  obtain ⟨s0, r0, hs0, hr0⟩ : ∃ s0 r0 : Nat, (mid < m → s0 + b = n ∧ r0 = mid) ∧ (m ≤ mid → s0 = a ∧ r0 = m) := by
    by_cases c : mid < m
    · exact ⟨n - b, mid, fun _ => ⟨by omega, rfl⟩, fun h => absurd h (by omega)⟩
    · exact ⟨a, m, fun h => absurd h c, fun _ => ⟨rfl, rfl⟩⟩
  by_cases hmm : mid < m
  · have hmz : (mid : Int) < (m : Int) := by omega
    have qs : IntKind.i64.wrap ((n : Int) - (b : Int)) = (s0 : Int) := by have := hs0 hmm; rw [IntKind.wrap_i64]; omega
    have qr : r0 = mid := (hs0 hmm).2
    have qz : s0 + b = n := (hs0 hmm).1
    have qz1 : n ≤ s0 + b := by omega
    have qz2 : s0 + b ≤ n := by omega
    clear hs0 hr0 qz
    subst qr
    go_enter Tryz.func242, Tryz.ntmps242
    go_wp2
    clear q0 q1 q2 q3 q2' q3' hmz qmid qs qn qp
    go_loopg [20, 21, 23] (r0 - s0) (fun gg vi vj _ wr => ∃ (s r : Nat), vi = .int .i64 s ∧ vj = .int .i64 r ∧ s0 ≤ s ∧ s ≤ r ∧ r ≤ r0 ∧ r - s ≤ gg ∧ Aside (SW enc w0 blk off d wr) ∧ Hid ((s = s0 ∨ (ltOf cf) d[p - (s - 1)]! d[s - 1]! = false) ∧ (r = r0 ∨ (ltOf cf) d[p - r]! d[r]! = true)))
    case atStart => exact ⟨s0, r0, rfl, rfl, by omega, by omega, by omega, by omega, S0, ⟨.inl rfl, .inl rfl⟩⟩
    case round =>
      clear S0
      obtain ⟨s, r, rfl, rfl, hss, hsr, hrr, hg, S1, HF⟩ := hrel
      by_cases hlt : s < r
      · have hltz : (s : Int) < (r : Int) := by omega
        obtain ⟨c, hh⟩ : ∃ c, c = (s + r) / 2 := ⟨_, rfl⟩
        have qh : ((s : Int) + (r : Int)) / 2 = (c : Int) := by omega
        have hh1 : s ≤ c := by omega
        have hh2 : c < r := by omega
        clear hh
        obtain ⟨pc, hpc⟩ : ∃ pc, pc + c = p := ⟨p - c, by omega⟩
        have hpc1 : pc + c ≤ p := by omega
        have hpc2 : p ≤ pc + c := by omega
        have qpc : IntKind.i64.wrap ((p : Int) - (c : Int)) = (pc : Int) := by rw [IntKind.wrap_i64]; omega
        clear hpc
        cases hlv : (ltOf cf) d[pc]! d[c]! with
        | true =>
          go_wp2_with fail
          obtain ⟨iN1, hiN1⟩ : ∃ q, q = pc := ⟨_, rfl⟩
          obtain ⟨jN1, hjN1⟩ : ∃ q, q = c := ⟨_, rfl⟩
          have ea1 : ((pc : Int)).toNat = iN1 := by omega
          have pa1 : (0 : Int) ≤ (pc : Int) := by omega
          have ba1 : (pc : Int) < (d0.size : Int) := by omega
          have ra1 : IntKind.i64.wrap ((pc : Int)) = (pc : Int) := by rw [IntKind.wrap_i64]; omega
          have ec1 : ((c : Int)).toNat = jN1 := by omega
          have pc1 : (0 : Int) ≤ (c : Int) := by omega
          have bc1 : (c : Int) < (d0.size : Int) := by omega
          have rc1 : IntKind.i64.wrap ((c : Int)) = (c : Int) := by rw [IntKind.wrap_i64]; omega
          obtain ⟨x1, hx1⟩ : ∃ x, x = d[pc]! := ⟨_, rfl⟩
          obtain ⟨y1, hy1⟩ : ∃ x, x = d[c]! := ⟨_, rfl⟩
          have l1a := S1.out.cl R (by omega) (pc) (by omega)
          have l1b := S1.out.cl R (by omega) (c) (by omega)
          rw [← hx1, ← hiN1] at l1a
          rw [← hy1, ← hjN1] at l1b
          have hc1 := S1.out.cmp HC.out (by omega) x1 y1
          have hv1 : cf x1 y1 < 0 := by rw [hx1, hy1]; exact of_decide_eq_true hlv
          have hd1 : decide (cf x1 y1 < 0) = true := decide_eq_true hv1
          clear hx1 hy1 hiN1 hjN1
          go_wp2_with fail
          go_quiet_grown (first | (go_at_fn g; refine Calls.grown_of (hc1 _ _)))
          have S2 : Aside (SW enc w0 blk off d (grow (wr.drewN nq) osq)) := S1.out.grown nq osq
          clear l1a l1b hc1 S1
          generalize grow (wr.drewN nq) osq = w2 at S2 ⊢
          clear nq osq
          clear ea1 ec1
          go_wp2
          go_roundg (c - s)
          case measure => omega
          case rel => exact ⟨s, c, rfl, by go_num, by omega, by omega, by omega, Nat.le_refl _, S2, ⟨HF.out.1, .inr (by rw [show p - c = pc by omega]; exact hlv)⟩⟩
        | false =>
          go_wp2_with fail
          obtain ⟨iN2, hiN2⟩ : ∃ q, q = pc := ⟨_, rfl⟩
          obtain ⟨jN2, hjN2⟩ : ∃ q, q = c := ⟨_, rfl⟩
          have ea2 : ((pc : Int)).toNat = iN2 := by omega
          have pa2 : (0 : Int) ≤ (pc : Int) := by omega
          have ba2 : (pc : Int) < (d0.size : Int) := by omega
          have ra2 : IntKind.i64.wrap ((pc : Int)) = (pc : Int) := by rw [IntKind.wrap_i64]; omega
          have ec2 : ((c : Int)).toNat = jN2 := by omega
          have pc2 : (0 : Int) ≤ (c : Int) := by omega
          have bc2 : (c : Int) < (d0.size : Int) := by omega
          have rc2 : IntKind.i64.wrap ((c : Int)) = (c : Int) := by rw [IntKind.wrap_i64]; omega
          obtain ⟨x2, hx2⟩ : ∃ x, x = d[pc]! := ⟨_, rfl⟩
          obtain ⟨y2, hy2⟩ : ∃ x, x = d[c]! := ⟨_, rfl⟩
          have l2a := S1.out.cl R (by omega) (pc) (by omega)
          have l2b := S1.out.cl R (by omega) (c) (by omega)
          rw [← hx2, ← hiN2] at l2a
          rw [← hy2, ← hjN2] at l2b
          have hc2 := S1.out.cmp HC.out (by omega) x2 y2
          have hv2 : ¬ cf x2 y2 < 0 := by rw [hx2, hy2]; exact of_decide_eq_false hlv
          have hd2 : decide (cf x2 y2 < 0) = false := decide_eq_false hv2
          clear hx2 hy2 hiN2 hjN2
          go_wp2_with fail
          go_quiet_grown (first | (go_at_fn g; refine Calls.grown_of (hc2 _ _)))
          have S2 : Aside (SW enc w0 blk off d (grow (wr.drewN nq) osq)) := S1.out.grown nq osq
          clear l2a l2b hc2 S1
          generalize grow (wr.drewN nq) osq = w2 at S2 ⊢
          clear nq osq
          clear ea2 ec2
          go_wp2
          go_roundg (r - (c + 1))
          case measure => omega
          case rel => exact ⟨c + 1, r, by go_num, rfl, by omega, by omega, by omega, Nat.le_refl _, S2, ⟨.inr (by rw [show p - (c + 1 - 1) = pc by omega, show c + 1 - 1 = c by omega]; exact hlv), HF.out.2⟩⟩
      · have hji : r = s := by omega
        subst hji
        have hltz : ¬ (r : Int) < (r : Int) := by omega
        obtain ⟨e, he⟩ : ∃ e, e + r = n := ⟨n - r, by omega⟩
        have he1 : e + r ≤ n := by omega
        have he2 : n ≤ e + r := by omega
        have qe : IntKind.i64.wrap ((n : Int) - (r : Int)) = (e : Int) := by rw [IntKind.wrap_i64]; omega
        clear he
        have hcut : Cut (ltOf cf) a m b r e d := ⟨by omega, by omega, by omega, by omega, fun k1 k2 => (by
            rcases HF.out.1 with h | h
            · omega
            · rw [show e = p - (r - 1) by omega]; exact h), fun k1 k2 => (by
            rcases HF.out.2 with h | h
            · omega
            · rw [show e - 1 = p - r by omega]; exact h)⟩
        have hem : r + (e - m) = r0 := by omega
        have T1 := hid (fun (d1 : Array α) (k : Rotated d r m e d1) => hcut.halves HS.out HR1.out HR2.out k)
        have hsz1 : ∀ d1, Rotated d r m e d1 → d1.size = d0.size := fun d1 k => k.1.1.trans hs
        have F1 : Hid (∀ (W : World), SW enc w0 blk off d W → r < m → m < e → Calls Tryz.prog 257 #[.slice (some ⟨blk, off, none⟩) d0.size cap, .int .i64 r, .int .i64 m, .int .i64 e, .func (.func g) #[] cb] W fun e' w' => e' = .returned (.tuple #[]) ∧ P1 enc w0 blk off r m e d w') := fun W hW k1 k2 => (H257.out r m e d W hs hW k1 k2 (by omega)).mono fun _ _ h => h
        have F1n : Hid (∀ (W : World), SW enc w0 blk off d W → ¬ (r < m ∧ m < e) → P1 enc w0 blk off r m e d W) := fun W hW k => ⟨d, Rotated.trivial (by omega) (by omega) (by omega), hW⟩
        have F2 : Hid (∀ W, P1 enc w0 blk off r m e d W → a < r → r < r0 → Calls Tryz.prog 242 #[.slice (some ⟨blk, off, none⟩) d0.size cap, .int .i64 a, .int .i64 r, .int .i64 r0, .func (.func g) #[] cb] W fun e' w' => e' = .returned (.tuple #[]) ∧ P2 enc cf w0 blk off a r0 r m e d w') := fun W ⟨d1, hr1, hW⟩ k1 k2 => by
          have t := T1.out d1 hr1
          rw [hem] at t
          refine (HIH.out a r r0 d1 W (by omega) (hsz1 d1 hr1) hW k1 k2 (by rw [hsz1 d1 hr1]; omega) t.1 t.2.1).mono ?_
          rintro e' w' ⟨rfl, d2, hp, hq, hw⟩
          exact ⟨rfl, d1, d2, hr1, hp, hq, hw⟩
        have F2n : Hid (∀ W, P1 enc w0 blk off r m e d W → ¬ (a < r ∧ r < r0) → P2 enc cf w0 blk off a r0 r m e d W) := fun W ⟨d1, hr1, hW⟩ k => by
          have t := T1.out d1 hr1
          rw [hem] at t
          refine ⟨d1, d1, hr1, permIn_refl _ _ _, ?_, hW⟩
          by_cases ca : a < r
          · have : r = r0 := by omega
            rw [← this]
            exact t.1
          · have : r = a := by omega
            have t2 := t.2.1
            rw [this] at t2
            exact t2
        have F3 : Hid (∀ W, P2 enc cf w0 blk off a r0 r m e d W → r0 < e → e < b → Calls Tryz.prog 242 #[.slice (some ⟨blk, off, none⟩) d0.size cap, .int .i64 r0, .int .i64 e, .int .i64 b, .func (.func g) #[] cb] W fun e' w' => e' = .returned (.tuple #[]) ∧ P3 enc cf w0 blk off a r0 r m e b d w') := fun W ⟨d1, d2, hr1, hp2, hq2, hW⟩ k1 k2 => by
          have t := T1.out d1 hr1
          rw [hem] at t
          have hsz2 : d2.size = d0.size := hp2.1.trans (hsz1 d1 hr1)
          have hsame : ∀ k, r0 ≤ k → d2[k]! = d1[k]! := fun k hk => hp2.2.1 k (by omega)
          refine (HIH.out r0 e b d2 W (by omega) hsz2 hW k1 k2 (by rw [hsz2]; omega) (SortedIn.same t.2.2.1 fun k h5 _ => hsame k h5) (SortedIn.same t.2.2.2.1 fun k h5 _ => hsame k (by omega))).mono ?_
          rintro e' w' ⟨rfl, d3, hp, hq, hw⟩
          exact ⟨rfl, d1, d2, d3, hr1, hp2, hq2, hp, hq, hw⟩
        have F3n : Hid (∀ W, P2 enc cf w0 blk off a r0 r m e d W → ¬ (r0 < e ∧ e < b) → P3 enc cf w0 blk off a r0 r m e b d W) := fun W ⟨d1, d2, hr1, hp2, hq2, hW⟩ k => by
          have t := T1.out d1 hr1
          rw [hem] at t
          have hsame : ∀ k, r0 ≤ k → d2[k]! = d1[k]! := fun k hk => hp2.2.1 k (by omega)
          refine ⟨d1, d2, d2, hr1, hp2, hq2, permIn_refl _ _ _, ?_, hW⟩
          by_cases ca : r0 < e
          · have : e = b := by omega
            rw [← this]
            exact SortedIn.same t.2.2.1 fun k h5 _ => hsame k h5
          · have : e = r0 := by omega
            have t4 := SortedIn.same (d' := d2) t.2.2.2.1 fun k h5 _ => hsame k (by omega)
            rw [this] at t4
            exact t4
        have FIN : Hid (∀ W, P3 enc cf w0 blk off a r0 r m e b d W → ∃ d', PermIn a b d d' ∧ SortedIn (ltOf cf) a b d' ∧ SW enc w0 blk off d' W) := fun W ⟨d1, d2, d3, hr1, hp2, hq2, hp3, hq3, hW⟩ => by
          have t := (T1.out d1 hr1).2.2.2.2
          rw [hem] at t
          have z1 := hsz1 d1 hr1
          have z2 : d2.size = d0.size := hp2.1.trans z1
          refine ⟨d3, permIn_trans _ _ _ a b (permIn_mono _ _ r e a b (by omega) (by omega) (by omega) hr1.1) (permIn_trans _ _ _ a b (permIn_mono _ _ a r0 a b (by omega) (by omega) (by omega) hp2) (permIn_mono _ _ r0 b a b (by omega) (by omega) (by omega) hp3)), ?_, hW⟩
          exact SortedIn.join (SortedIn.same hq2 fun k h5 h6 => hp3.2.1 k (by omega)) hq3 (PermIn.sep (by omega) hp2 hp3 (by omega) (by omega) t)
        clear T1 hsz1 hcut hem HF H257 HIH HR1 HR2 HS HC
        have f1 : (r < m ∧ m < e) ∨ ¬ r < m ∨ (r < m ∧ ¬ m < e) := by omega
        have f2 : (a < r ∧ r < r0) ∨ ¬ a < r ∨ (a < r ∧ ¬ r < r0) := by omega
        have f3 : (r0 < e ∧ e < b) ∨ ¬ r0 < e ∨ (r0 < e ∧ ¬ e < b) := by omega
        rcases f1 with ⟨x1, x2⟩ | x1 | ⟨x1, x2⟩ <;> rcases f2 with ⟨y1, y2⟩ | y1 | ⟨y1, y2⟩ <;> rcases f3 with ⟨z1, z2⟩ | z1 | ⟨z1, z2⟩
        all_goals try (exfalso; omega)
        all_goals
          try have b1 : (r : Int) < (m : Int) := by omega
          try have b1 : ¬ (r : Int) < (m : Int) := by omega
          try have b2 : (m : Int) < (e : Int) := by omega
          try have b2 : ¬ (m : Int) < (e : Int) := by omega
          try have b3 : (a : Int) < (r : Int) := by omega
          try have b3 : ¬ (a : Int) < (r : Int) := by omega
          try have b4 : (r : Int) < (r0 : Int) := by omega
          try have b4 : ¬ (r : Int) < (r0 : Int) := by omega
          try have b5 : (r0 : Int) < (e : Int) := by omega
          try have b5 : ¬ (r0 : Int) < (e : Int) := by omega
          try have b6 : (e : Int) < (b : Int) := by omega
          try have b6 : ¬ (e : Int) < (b : Int) := by omega
          try have p1 := F1n.out _ S1.out (by omega)
          try have p2 := F2n.out _ p1 (by omega)
          go_wp2_with (first
            | (go_at_call 257; refine (F1.out _ S1.out (by omega) (by omega)).mono ?_; rintro e' w1 ⟨rfl, p1⟩; try have p2 := F2n.out _ p1 (by omega))
            | (go_at_call 242; with_reducible refine (F2.out _ p1 (by omega) (by omega)).mono ?_; rintro e' w2 ⟨rfl, p2⟩)
            | (go_at_call 242; with_reducible refine (F3.out _ p2 (by omega) (by omega)).mono ?_; rintro e' w3 ⟨rfl, p3⟩))
          try go_end0
          first
            | exact ⟨rfl, FIN.out _ p3⟩
            | exact ⟨rfl, FIN.out _ (F3n.out _ p2 (by omega))⟩
  · have hmz : ¬ (mid : Int) < (m : Int) := by omega
    have qs : s0 = a := (hr0 (by omega)).1
    have qr : r0 = m := (hr0 (by omega)).2
    clear hs0 hr0
    subst qs
    subst qr
    go_enter Tryz.func242, Tryz.ntmps242
    go_wp2
    clear q0 q1 q2 q3 q2' q3' hmz qmid qn qp
    go_loopg [20, 21, 23] (r0 - s0) (fun gg vi vj _ wr => ∃ (s r : Nat), vi = .int .i64 s ∧ vj = .int .i64 r ∧ s0 ≤ s ∧ s ≤ r ∧ r ≤ r0 ∧ r - s ≤ gg ∧ Aside (SW enc w0 blk off d wr) ∧ Hid ((s = s0 ∨ (ltOf cf) d[p - (s - 1)]! d[s - 1]! = false) ∧ (r = r0 ∨ (ltOf cf) d[p - r]! d[r]! = true)))
    case atStart => exact ⟨s0, r0, rfl, rfl, by omega, by omega, by omega, by omega, S0, ⟨.inl rfl, .inl rfl⟩⟩
    case round =>
      clear S0
      obtain ⟨s, r, rfl, rfl, hss, hsr, hrr, hg, S1, HF⟩ := hrel
      by_cases hlt : s < r
      · have hltz : (s : Int) < (r : Int) := by omega
        obtain ⟨c, hh⟩ : ∃ c, c = (s + r) / 2 := ⟨_, rfl⟩
        have qh : ((s : Int) + (r : Int)) / 2 = (c : Int) := by omega
        have hh1 : s ≤ c := by omega
        have hh2 : c < r := by omega
        clear hh
        obtain ⟨pc, hpc⟩ : ∃ pc, pc + c = p := ⟨p - c, by omega⟩
        have hpc1 : pc + c ≤ p := by omega
        have hpc2 : p ≤ pc + c := by omega
        have qpc : IntKind.i64.wrap ((p : Int) - (c : Int)) = (pc : Int) := by rw [IntKind.wrap_i64]; omega
        clear hpc
        cases hlv : (ltOf cf) d[pc]! d[c]! with
        | true =>
          go_wp2_with fail
          obtain ⟨iN1, hiN1⟩ : ∃ q, q = pc := ⟨_, rfl⟩
          obtain ⟨jN1, hjN1⟩ : ∃ q, q = c := ⟨_, rfl⟩
          have ea1 : ((pc : Int)).toNat = iN1 := by omega
          have pa1 : (0 : Int) ≤ (pc : Int) := by omega
          have ba1 : (pc : Int) < (d0.size : Int) := by omega
          have ra1 : IntKind.i64.wrap ((pc : Int)) = (pc : Int) := by rw [IntKind.wrap_i64]; omega
          have ec1 : ((c : Int)).toNat = jN1 := by omega
          have pc1 : (0 : Int) ≤ (c : Int) := by omega
          have bc1 : (c : Int) < (d0.size : Int) := by omega
          have rc1 : IntKind.i64.wrap ((c : Int)) = (c : Int) := by rw [IntKind.wrap_i64]; omega
          obtain ⟨x1, hx1⟩ : ∃ x, x = d[pc]! := ⟨_, rfl⟩
          obtain ⟨y1, hy1⟩ : ∃ x, x = d[c]! := ⟨_, rfl⟩
          have l1a := S1.out.cl R (by omega) (pc) (by omega)
          have l1b := S1.out.cl R (by omega) (c) (by omega)
          rw [← hx1, ← hiN1] at l1a
          rw [← hy1, ← hjN1] at l1b
          have hc1 := S1.out.cmp HC.out (by omega) x1 y1
          have hv1 : cf x1 y1 < 0 := by rw [hx1, hy1]; exact of_decide_eq_true hlv
          have hd1 : decide (cf x1 y1 < 0) = true := decide_eq_true hv1
          clear hx1 hy1 hiN1 hjN1
          go_wp2_with fail
          go_quiet_grown (first | (go_at_fn g; refine Calls.grown_of (hc1 _ _)))
          have S2 : Aside (SW enc w0 blk off d (grow (wr.drewN nq) osq)) := S1.out.grown nq osq
          clear l1a l1b hc1 S1
          generalize grow (wr.drewN nq) osq = w2 at S2 ⊢
          clear nq osq
          clear ea1 ec1
          go_wp2
          go_roundg (c - s)
          case measure => omega
          case rel => exact ⟨s, c, rfl, by go_num, by omega, by omega, by omega, Nat.le_refl _, S2, ⟨HF.out.1, .inr (by rw [show p - c = pc by omega]; exact hlv)⟩⟩
        | false =>
          go_wp2_with fail
          obtain ⟨iN2, hiN2⟩ : ∃ q, q = pc := ⟨_, rfl⟩
          obtain ⟨jN2, hjN2⟩ : ∃ q, q = c := ⟨_, rfl⟩
          have ea2 : ((pc : Int)).toNat = iN2 := by omega
          have pa2 : (0 : Int) ≤ (pc : Int) := by omega
          have ba2 : (pc : Int) < (d0.size : Int) := by omega
          have ra2 : IntKind.i64.wrap ((pc : Int)) = (pc : Int) := by rw [IntKind.wrap_i64]; omega
          have ec2 : ((c : Int)).toNat = jN2 := by omega
          have pc2 : (0 : Int) ≤ (c : Int) := by omega
          have bc2 : (c : Int) < (d0.size : Int) := by omega
          have rc2 : IntKind.i64.wrap ((c : Int)) = (c : Int) := by rw [IntKind.wrap_i64]; omega
          obtain ⟨x2, hx2⟩ : ∃ x, x = d[pc]! := ⟨_, rfl⟩
          obtain ⟨y2, hy2⟩ : ∃ x, x = d[c]! := ⟨_, rfl⟩
          have l2a := S1.out.cl R (by omega) (pc) (by omega)
          have l2b := S1.out.cl R (by omega) (c) (by omega)
          rw [← hx2, ← hiN2] at l2a
          rw [← hy2, ← hjN2] at l2b
          have hc2 := S1.out.cmp HC.out (by omega) x2 y2
          have hv2 : ¬ cf x2 y2 < 0 := by rw [hx2, hy2]; exact of_decide_eq_false hlv
          have hd2 : decide (cf x2 y2 < 0) = false := decide_eq_false hv2
          clear hx2 hy2 hiN2 hjN2
          go_wp2_with fail
          go_quiet_grown (first | (go_at_fn g; refine Calls.grown_of (hc2 _ _)))
          have S2 : Aside (SW enc w0 blk off d (grow (wr.drewN nq) osq)) := S1.out.grown nq osq
          clear l2a l2b hc2 S1
          generalize grow (wr.drewN nq) osq = w2 at S2 ⊢
          clear nq osq
          clear ea2 ec2
          go_wp2
          go_roundg (r - (c + 1))
          case measure => omega
          case rel => exact ⟨c + 1, r, by go_num, rfl, by omega, by omega, by omega, Nat.le_refl _, S2, ⟨.inr (by rw [show p - (c + 1 - 1) = pc by omega, show c + 1 - 1 = c by omega]; exact hlv), HF.out.2⟩⟩
      · have hji : r = s := by omega
        subst hji
        have hltz : ¬ (r : Int) < (r : Int) := by omega
        obtain ⟨e, he⟩ : ∃ e, e + r = n := ⟨n - r, by omega⟩
        have he1 : e + r ≤ n := by omega
        have he2 : n ≤ e + r := by omega
        have qe : IntKind.i64.wrap ((n : Int) - (r : Int)) = (e : Int) := by rw [IntKind.wrap_i64]; omega
        clear he
        have hcut : Cut (ltOf cf) s0 r0 b r e d := ⟨by omega, by omega, by omega, by omega, fun k1 k2 => (by
            rcases HF.out.1 with h | h
            · omega
            · rw [show e = p - (r - 1) by omega]; exact h), fun k1 k2 => (by
            rcases HF.out.2 with h | h
            · omega
            · rw [show e - 1 = p - r by omega]; exact h)⟩
        have hem : r + (e - r0) = mid := by omega
        have T1 := hid (fun (d1 : Array α) (k : Rotated d r r0 e d1) => hcut.halves HS.out HR1.out HR2.out k)
        have hsz1 : ∀ d1, Rotated d r r0 e d1 → d1.size = d0.size := fun d1 k => k.1.1.trans hs
        have F1 : Hid (∀ (W : World), SW enc w0 blk off d W → r < r0 → r0 < e → Calls Tryz.prog 257 #[.slice (some ⟨blk, off, none⟩) d0.size cap, .int .i64 r, .int .i64 r0, .int .i64 e, .func (.func g) #[] cb] W fun e' w' => e' = .returned (.tuple #[]) ∧ P1 enc w0 blk off r r0 e d w') := fun W hW k1 k2 => (H257.out r r0 e d W hs hW k1 k2 (by omega)).mono fun _ _ h => h
        have F1n : Hid (∀ (W : World), SW enc w0 blk off d W → ¬ (r < r0 ∧ r0 < e) → P1 enc w0 blk off r r0 e d W) := fun W hW k => ⟨d, Rotated.trivial (by omega) (by omega) (by omega), hW⟩
        have F2 : Hid (∀ W, P1 enc w0 blk off r r0 e d W → s0 < r → r < mid → Calls Tryz.prog 242 #[.slice (some ⟨blk, off, none⟩) d0.size cap, .int .i64 s0, .int .i64 r, .int .i64 mid, .func (.func g) #[] cb] W fun e' w' => e' = .returned (.tuple #[]) ∧ P2 enc cf w0 blk off s0 mid r r0 e d w') := fun W ⟨d1, hr1, hW⟩ k1 k2 => by
          have t := T1.out d1 hr1
          rw [hem] at t
          refine (HIH.out s0 r mid d1 W (by omega) (hsz1 d1 hr1) hW k1 k2 (by rw [hsz1 d1 hr1]; omega) t.1 t.2.1).mono ?_
          rintro e' w' ⟨rfl, d2, hp, hq, hw⟩
          exact ⟨rfl, d1, d2, hr1, hp, hq, hw⟩
        have F2n : Hid (∀ W, P1 enc w0 blk off r r0 e d W → ¬ (s0 < r ∧ r < mid) → P2 enc cf w0 blk off s0 mid r r0 e d W) := fun W ⟨d1, hr1, hW⟩ k => by
          have t := T1.out d1 hr1
          rw [hem] at t
          refine ⟨d1, d1, hr1, permIn_refl _ _ _, ?_, hW⟩
          by_cases ca : s0 < r
          · have : r = mid := by omega
            rw [← this]
            exact t.1
          · have : r = s0 := by omega
            have t2 := t.2.1
            rw [this] at t2
            exact t2
        have F3 : Hid (∀ W, P2 enc cf w0 blk off s0 mid r r0 e d W → mid < e → e < b → Calls Tryz.prog 242 #[.slice (some ⟨blk, off, none⟩) d0.size cap, .int .i64 mid, .int .i64 e, .int .i64 b, .func (.func g) #[] cb] W fun e' w' => e' = .returned (.tuple #[]) ∧ P3 enc cf w0 blk off s0 mid r r0 e b d w') := fun W ⟨d1, d2, hr1, hp2, hq2, hW⟩ k1 k2 => by
          have t := T1.out d1 hr1
          rw [hem] at t
          have hsz2 : d2.size = d0.size := hp2.1.trans (hsz1 d1 hr1)
          have hsame : ∀ k, mid ≤ k → d2[k]! = d1[k]! := fun k hk => hp2.2.1 k (by omega)
          refine (HIH.out mid e b d2 W (by omega) hsz2 hW k1 k2 (by rw [hsz2]; omega) (SortedIn.same t.2.2.1 fun k h5 _ => hsame k h5) (SortedIn.same t.2.2.2.1 fun k h5 _ => hsame k (by omega))).mono ?_
          rintro e' w' ⟨rfl, d3, hp, hq, hw⟩
          exact ⟨rfl, d1, d2, d3, hr1, hp2, hq2, hp, hq, hw⟩
        have F3n : Hid (∀ W, P2 enc cf w0 blk off s0 mid r r0 e d W → ¬ (mid < e ∧ e < b) → P3 enc cf w0 blk off s0 mid r r0 e b d W) := fun W ⟨d1, d2, hr1, hp2, hq2, hW⟩ k => by
          have t := T1.out d1 hr1
          rw [hem] at t
          have hsame : ∀ k, mid ≤ k → d2[k]! = d1[k]! := fun k hk => hp2.2.1 k (by omega)
          refine ⟨d1, d2, d2, hr1, hp2, hq2, permIn_refl _ _ _, ?_, hW⟩
          by_cases ca : mid < e
          · have : e = b := by omega
            rw [← this]
            exact SortedIn.same t.2.2.1 fun k h5 _ => hsame k h5
          · have : e = mid := by omega
            have t4 := SortedIn.same (d' := d2) t.2.2.2.1 fun k h5 _ => hsame k (by omega)
            rw [this] at t4
            exact t4
        have FIN : Hid (∀ W, P3 enc cf w0 blk off s0 mid r r0 e b d W → ∃ d', PermIn s0 b d d' ∧ SortedIn (ltOf cf) s0 b d' ∧ SW enc w0 blk off d' W) := fun W ⟨d1, d2, d3, hr1, hp2, hq2, hp3, hq3, hW⟩ => by
          have t := (T1.out d1 hr1).2.2.2.2
          rw [hem] at t
          have z1 := hsz1 d1 hr1
          have z2 : d2.size = d0.size := hp2.1.trans z1
          refine ⟨d3, permIn_trans _ _ _ s0 b (permIn_mono _ _ r e s0 b (by omega) (by omega) (by omega) hr1.1) (permIn_trans _ _ _ s0 b (permIn_mono _ _ s0 mid s0 b (by omega) (by omega) (by omega) hp2) (permIn_mono _ _ mid b s0 b (by omega) (by omega) (by omega) hp3)), ?_, hW⟩
          exact SortedIn.join (SortedIn.same hq2 fun k h5 h6 => hp3.2.1 k (by omega)) hq3 (PermIn.sep (by omega) hp2 hp3 (by omega) (by omega) t)
        clear T1 hsz1 hcut hem HF H257 HIH HR1 HR2 HS HC
        have f1 : (r < r0 ∧ r0 < e) ∨ ¬ r < r0 ∨ (r < r0 ∧ ¬ r0 < e) := by omega
        have f2 : (s0 < r ∧ r < mid) ∨ ¬ s0 < r ∨ (s0 < r ∧ ¬ r < mid) := by omega
        have f3 : (mid < e ∧ e < b) ∨ ¬ mid < e ∨ (mid < e ∧ ¬ e < b) := by omega
        rcases f1 with ⟨x1, x2⟩ | x1 | ⟨x1, x2⟩ <;> rcases f2 with ⟨y1, y2⟩ | y1 | ⟨y1, y2⟩ <;> rcases f3 with ⟨z1, z2⟩ | z1 | ⟨z1, z2⟩
        all_goals try (exfalso; omega)
        all_goals
          try have b1 : (r : Int) < (r0 : Int) := by omega
          try have b1 : ¬ (r : Int) < (r0 : Int) := by omega
          try have b2 : (r0 : Int) < (e : Int) := by omega
          try have b2 : ¬ (r0 : Int) < (e : Int) := by omega
          try have b3 : (s0 : Int) < (r : Int) := by omega
          try have b3 : ¬ (s0 : Int) < (r : Int) := by omega
          try have b4 : (r : Int) < (mid : Int) := by omega
          try have b4 : ¬ (r : Int) < (mid : Int) := by omega
          try have b5 : (mid : Int) < (e : Int) := by omega
          try have b5 : ¬ (mid : Int) < (e : Int) := by omega
          try have b6 : (e : Int) < (b : Int) := by omega
          try have b6 : ¬ (e : Int) < (b : Int) := by omega
          try have p1 := F1n.out _ S1.out (by omega)
          try have p2 := F2n.out _ p1 (by omega)
          go_wp2_with (first
            | (go_at_call 257; refine (F1.out _ S1.out (by omega) (by omega)).mono ?_; rintro e' w1 ⟨rfl, p1⟩; try have p2 := F2n.out _ p1 (by omega))
            | (go_at_call 242; with_reducible refine (F2.out _ p1 (by omega) (by omega)).mono ?_; rintro e' w2 ⟨rfl, p2⟩)
            | (go_at_call 242; with_reducible refine (F3.out _ p2 (by omega) (by omega)).mono ?_; rintro e' w3 ⟨rfl, p3⟩))
          try go_end0
          first
            | exact ⟨rfl, FIN.out _ p3⟩
            | exact ⟨rfl, FIN.out _ (F3n.out _ p2 (by omega))⟩

theorem f242_any {α : Type} [Inhabited α] (enc : α → Value) (cf : α → α → Int) (g : Nat) (cb : Array Value) (blk off cap : Nat) (d0 : Array α) (w0 : World) (eg : ∀ args w, (callFunc g args).run Tryz.prog w = .ok (.enter g args) w) (hcmp : CmpLays1 Tryz.prog g cb enc cf blk off d0.size w0) (R : Row1 enc w0 blk off d0) (hsz : d0.size < 4611686018427387904) (hS : SWO (ltOf cf)) : ∀ (N a m b : Nat) (d : Array α) (w : World), b - a < N → d.size = d0.size → SW enc w0 blk off d w → a < m → m < b → b ≤ d.size → SortedIn (ltOf cf) a m d → SortedIn (ltOf cf) m b d →
      Calls Tryz.prog 242 #[.slice (some ⟨blk, off, none⟩) d0.size cap, .int .i64 a, .int .i64 m, .int .i64 b, .func (.func g) #[] cb] w fun e w' => e = .returned (.tuple #[]) ∧ ∃ d', PermIn a b d d' ∧ SortedIn (ltOf cf) a b d' ∧ SW enc w0 blk off d' w'
  | 0, _, _, _, _, _, h, _, _, _, _, _, _, _ => absurd h (Nat.not_lt_zero _)
  | N + 1, a, m, b, d, w, hN, hs, S, h1, h2, h3, hR1, hR2 => by
    by_cases c1 : m = a + 1
    · subst c1
      exact f242_left enc cf g cb blk off cap d0 w0 eg hcmp R hsz hS a b d w hs S h2 h3 hR2
    · by_cases c2 : b = m + 1
      · subst c2
        exact f242_right enc cf g cb blk off cap d0 w0 eg hcmp R hsz hS a m d w hs S (by omega) h3 hR1
      · exact f242_step enc cf g cb blk off cap d0 w0 eg hcmp R hsz hS N a m b (f242_any enc cf g cb blk off cap d0 w0 eg hcmp R hsz hS N) d w (by omega) hs S (by omega) (by omega) h3 hR1 hR2
end Go.Proofs.YthjifmfmaiagoaaGreatDoor

/- C23: texts O2 F4. -/
import Derived.SizedLaws
import Derived.Test.YthjifmfmaiagoaaGreatDoorC10
import Derived.Test.YthjifmfmaiagoaaGreatDoorC16
set_option linter.all false

/- Opening of a row's arguments: a certificate; a list with its bound, out of the form's reach. -/
namespace Go.Proofs.YthjifmfmaiagoaaGreatDoor
open Go.RowKit Go.ChangeShapes Go.WideShapes Go.Deep
section
variable {H : Type} {enc : TypeId × Value → H} {w : World} {base : Nat} {sp : Nat → Bool} {held : Bool}
/-- n is bound by a weight of the datum. -/
def Borne (t : TypeId) (d : DataW H) (n : Nat) : Prop := n = 0 ∨ ∃ q ∈ DataW.weights Tryz.prog t d, n ≤ q
theorem Borne.le {ts : List TypeId} {ds : List (DataW H)} (h : (DataW.weightsEach Tryz.prog ts ds).all (· ≤ reachBytes) = true) {j : Nat} {t : TypeId} {d : DataW H} {n : Nat} (ht : ts[j]? = some t) (hd : ds[j]? = some d) (hq : Borne t d n) : n ≤ 281474976710656 := by
  rcases hq with rfl | ⟨q, hq, hn⟩
  · omega
  · have h1 := of_decide_eq_true (List.all_eq_true.1 h q (DataW.weights_mem_each ht hd q hq))
    have h2 := reachBytes_lt
    omega
theorem bytes3 : Tryz.prog.bytesOf 3 = 8 := by kernel_rfl
theorem opn_RI2 {fuel : Nat} {cs : List Value} {x : DataW H × List MemPlace} (h : DataW.trod enc Tryz.prog w base sp held fuel 22 cs = some x) : ∃ A n c l, cs = [.slice A n c] ∧ RI w A n c l ∧ (A = none → c = 0) ∧ Borne 22 x.1 n := by
  obtain ⟨A, n, c, l, hcs, hr⟩ := opn_RI h
  refine ⟨A, n, c, l, hcs, hr, ?_⟩
  rcases open_slice1 Tryz.underlying22 (by kernel_rfl) h with ⟨e, _⟩ | ⟨a, len, cap, m, n', V, D, Pl, e, hb, hl, hm, hmm, ex, hx⟩
  · rw [e] at hcs
    cases hcs
    exact ⟨fun _ => rfl, .inl rfl⟩
  · rw [e] at hcs
    cases hcs
    refine ⟨fun h => (by cases h), .inr ⟨(n + (m - n)) * 8, ?_, by omega⟩⟩
    rw [ex]
    simp [DataW.weights, Tryz.underlying22, bytes3]
set_option maxRecDepth 100000 in
theorem opn_RC {fuel : Nat} {cs : List Value} {x : DataW H × List MemPlace} (h : DataW.trod enc Tryz.prog w base sp held fuel 38 cs = some x) : ∃ xv A1 n1 c1 lw A2 n2 c2 lo SB sm sd ts, cs = [.int .i64 xv, .slice A1 n1 c1, .slice A2 n2 c2, .slice SB sm sd] ∧
    (RI w A1 n1 c1 lw ∧ (A1 = none → c1 = 0) ∧ Borne 38 x.1 n1) ∧ (RI w A2 n2 c2 lo ∧ (A2 = none → c2 = 0) ∧ Borne 38 x.1 n2) ∧ RS w SB sm sd ts := by
  obtain ⟨xs, k, hk, hx, hlen, hxl, hf⟩ := DataW.trod_struct Tryz.underlying38 h
  have k38 : Tryz.prog.cellsOf 38 = 4 := by kernel_rfl
  have c3 : Tryz.prog.cellsOf 3 = 1 := by kernel_rfl
  have c22 : Tryz.prog.cellsOf 22 = 1 := by kernel_rfl
  have c36 : Tryz.prog.cellsOf 36 = 1 := by kernel_rfl
  rw [k38] at hlen
  match cs, hlen with
  | [v0, v1, v2, v3], _ =>
    match xs, hxl with
    | [y0, y1, y2, y3], _ =>
      have g0 := hf 0 _ rfl
      have g1 := hf 1 _ rfl
      have g2 := hf 2 _ rfl
      have g3 := hf 3 _ rfl
      simp [c3, c22, c36] at g0 g1 g2 g3
      obtain ⟨z0, hz0, _⟩ := opn_int g0
      obtain ⟨A1, n1, c1, lw, hz1, h1, h1', b1⟩ := opn_RI2 g1
      obtain ⟨A2, n2, c2, lo, hz2, h2, h2', b2⟩ := opn_RI2 g2
      obtain ⟨SB, sm, sd, ts, hz3, h3, _⟩ := opn_RP g3
      cases hz0; cases hz1; cases hz2; cases hz3
      have hin : ∀ (y : DataW H) (n : Nat), Borne 22 y n → (∀ q, q ∈ DataW.weights Tryz.prog 22 y → q ∈ DataW.weights Tryz.prog 38 x.1) → Borne 38 x.1 n := fun y n hb hm => by
        rcases hb with e | ⟨q, hq, hn⟩
        · exact .inl e
        · exact .inr ⟨q, hm q hq, hn⟩
      refine ⟨z0, A1, n1, c1, lw, A2, n2, c2, lo, SB, sm, sd, ts, rfl, ⟨h1, h1', hin _ _ b1 fun q hq => ?_⟩, ⟨h2, h2', hin _ _ b2 fun q hq => ?_⟩, h3⟩
      all_goals
        rw [hx]
        simp [DataW.weights, DataW.weightsEach, Tryz.underlying38]
        first | exact .inr (.inl hq) | exact .inr (.inr (.inl hq)) | simp_all
end
end Go.Proofs.YthjifmfmaiagoaaGreatDoor

/- ProofMatchesReference's row: its closed facts. -/
namespace Go.Proofs.YthjifmfmaiagoaaGreatDoor
theorem proofMatchesReference_k0 : (Rows.proofMatchesReferenceRow.wf (OpenSpec.ofChange Rows.proofMatchesReferenceSpec)) = true := by kernel_rfl
theorem proofMatchesReference_k3 : (Tryz.f4.params.all (Tryz.prog.readableRec ·)) = true := by kernel_rfl
theorem proofMatchesReference_k4 : (namedTie Tryz.prog Rows.proofMatchesReferenceRow.named  Rows.proofMatchesReferenceSpec.vars) = true := by kernel_rfl
theorem proofMatchesReference_k5 : ((Rows.proofMatchesReferenceRow.stops == [])) = true := by kernel_rfl
theorem proofMatchesReference_k7 : ((Rows.proofMatchesReferenceRow.knobs == [])) = true := by kernel_rfl
theorem proofMatchesReference_k9 : ((Rows.proofMatchesReferenceRow.inPlace == Tryz.prog.inPlace 4)) = true := by kernel_rfl
theorem proofMatchesReference_k10 : ((Rows.proofMatchesReferenceRow.unfollowed == Tryz.prog.unfollowed 4)) = true := by kernel_rfl
theorem proofMatchesReference_k11 : ((Rows.proofMatchesReferenceRow.recurses == Tryz.prog.recurses 4)) = true := by kernel_rfl
theorem proofMatchesReference_k12 : ((Rows.proofMatchesReferenceRow.named == Tryz.prog.varsNamed 4)) = true := by kernel_rfl
theorem proofMatchesReference_k13 : ((Rows.proofMatchesReferenceRow.maps == (Tryz.f4.params.toList ++  Rows.proofMatchesReferenceSpec.plain.varTypes Tryz.prog).any (Tryz.prog.mapsRec ·))) = true := by kernel_rfl
theorem proofMatchesReference_k14 : ((Rows.proofMatchesReferenceRow.ifaces == (Tryz.f4.params.toList ++  Rows.proofMatchesReferenceSpec.plain.varTypes Tryz.prog).any (Tryz.prog.ifacesRec ·))) = true := by kernel_rfl
theorem proofMatchesReference_k15 : ((Rows.proofMatchesReferenceRow.mapsOut == Tryz.prog.mapsAmong Tryz.f4.resultTypes.toList)) = true := by kernel_rfl
theorem proofMatchesReference_k16 : ((Rows.proofMatchesReferenceRow.loops == (Tryz.f4.params.toList ++  Rows.proofMatchesReferenceSpec.plain.varTypes Tryz.prog).any (Tryz.prog.loopsFrom ·))) = true := by kernel_rfl
theorem proofMatchesReference_k17 : ((Rows.proofMatchesReferenceRow.wideKeys == (Tryz.f4.params.toList ++  Rows.proofMatchesReferenceSpec.plain.varTypes Tryz.prog ++ Tryz.f4.resultTypes.toList).any (Tryz.prog.wideKeysFrom ·))) = true := by kernel_rfl
theorem proofMatchesReference_k18 : ( Rows.proofMatchesReferenceSpec.vars.all (Tryz.prog.varReadable ·)) = true := by kernel_rfl
theorem proofMatchesReference_k19 : (Tryz.f4.resultTypes.all (fun t => Tryz.prog.readableRec t && decide (t < Tryz.prog.types.size))) = true := by kernel_rfl
theorem proofMatchesReference_k20 : ((Rows.proofMatchesReferenceRow.ifacesOut == Tryz.f4.resultTypes.toList.any (Tryz.prog.ifacesRec ·))) = true := by kernel_rfl
theorem proofMatchesReference_k21 : ((Rows.proofMatchesReferenceRow.loopsOut == Tryz.f4.resultTypes.toList.any (Tryz.prog.loopsFrom ·))) = true := by kernel_rfl
theorem proofMatchesReference_k22 : ((Rows.proofMatchesReferenceRow.plainKeys == Tryz.prog.plainKeys)) = true := by kernel_rfl
theorem proofMatchesReference_k23 : (Rows.proofMatchesReferenceRow.shortTexts.isNone) = true := by kernel_rfl
theorem proofMatchesReference_k26 : ((Rows.proofMatchesReferenceRow.lifted == Tryz.prog.liftsFinal)) = true := by rw [lifts_final]; kernel_rfl
theorem proofMatchesReference_k27 : ((Tryz.prog.make == some Rows.proofMatchesReferenceRow.make)) = true := by rw [make_cut]; kernel_rfl
theorem proofMatchesReference_k28 : ((Rows.proofMatchesReferenceRow.kinds == (if Rows.proofMatchesReferenceRow.domain.isEmpty then [] else Tryz.f4.params.toList.map fun t => match Tryz.prog.underlying t with | some (.int k) => some k | _ => none))) = true := by kernel_rfl
theorem proofMatchesReference_k29 : ((Rows.proofMatchesReferenceRow.pinned == Rows.proofMatchesReferenceRow.pinnedBy)) = true := by kernel_rfl
theorem proofMatchesReference_k30 : ((Rows.proofMatchesReferenceRow.veiled == (Tryz.f4.params.toList ++  Rows.proofMatchesReferenceSpec.plain.varTypes Tryz.prog ++ Tryz.f4.resultTypes.toList).any (Tryz.prog.veiledRec ·))) = true := by kernel_rfl
theorem proofMatchesReference_k31 : (Rows.proofMatchesReferenceRow.veiledFits Tryz.prog Tryz.f4.params.toList (Tryz.f4.params.toList ++  Rows.proofMatchesReferenceSpec.plain.varTypes Tryz.prog ++ Tryz.f4.resultTypes.toList)) = true := by kernel_rfl
set_option maxRecDepth 100000 in
theorem proofMatchesReference_closed : joinedFacts Tryz.prog 4 Tryz.f4 Rows.proofMatchesReferenceSpec Rows.proofMatchesReferenceRow = true := by
  unfold joinedFacts
  simp only [Bool.and_eq_true]
  exact ⟨⟨⟨⟨⟨⟨⟨⟨⟨⟨⟨⟨⟨⟨⟨⟨⟨⟨⟨⟨⟨⟨⟨⟨⟨⟨⟨⟨⟨⟨⟨proofMatchesReference_k0, Rows_k1⟩, Rows_k2⟩, proofMatchesReference_k3⟩, proofMatchesReference_k4⟩, proofMatchesReference_k5⟩, Rows_k6⟩, proofMatchesReference_k7⟩, Rows_k8⟩, proofMatchesReference_k9⟩, proofMatchesReference_k10⟩, proofMatchesReference_k11⟩, proofMatchesReference_k12⟩, proofMatchesReference_k13⟩, proofMatchesReference_k14⟩, proofMatchesReference_k15⟩, proofMatchesReference_k16⟩, proofMatchesReference_k17⟩, proofMatchesReference_k18⟩, proofMatchesReference_k19⟩, proofMatchesReference_k20⟩, proofMatchesReference_k21⟩, proofMatchesReference_k22⟩, proofMatchesReference_k23⟩, Rows_k24⟩, Rows_k25⟩, proofMatchesReference_k26⟩, proofMatchesReference_k27⟩, proofMatchesReference_k28⟩, proofMatchesReference_k29⟩, proofMatchesReference_k30⟩, proofMatchesReference_k31⟩
end Go.Proofs.YthjifmfmaiagoaaGreatDoor

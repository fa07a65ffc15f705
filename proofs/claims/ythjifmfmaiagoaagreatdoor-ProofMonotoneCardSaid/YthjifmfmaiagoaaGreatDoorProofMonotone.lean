/- ProofMonotone: texts F8 H50. -/
import Derived.Test.YthjifmfmaiagoaaGreatDoorC15
import Derived.Test.YthjifmfmaiagoaaGreatDoorC16
import Derived.Test.YthjifmfmaiagoaaGreatDoorCards
import Derived.Test.YthjifmfmaiagoaaGreatDoorTie
set_option linter.all false

/- ProofMonotone's row: its closed facts. -/
namespace Go.Proofs.YthjifmfmaiagoaaGreatDoor
theorem proofMonotone_k0 : (Rows.proofMonotoneRow.wf (OpenSpec.ofChange Rows.proofMonotoneSpec)) = true := by kernel_rfl
theorem proofMonotone_k3 : (Tryz.f8.params.all (Tryz.prog.readableRec ·)) = true := by kernel_rfl
theorem proofMonotone_k4 : (namedTie Tryz.prog Rows.proofMonotoneRow.named  Rows.proofMonotoneSpec.vars) = true := by kernel_rfl
theorem proofMonotone_k5 : ((Rows.proofMonotoneRow.stops == [])) = true := by kernel_rfl
theorem proofMonotone_k7 : ((Rows.proofMonotoneRow.knobs == [])) = true := by kernel_rfl
theorem proofMonotone_k9 : ((Rows.proofMonotoneRow.inPlace == Tryz.prog.inPlace 8)) = true := by kernel_rfl
theorem proofMonotone_k10 : ((Rows.proofMonotoneRow.unfollowed == Tryz.prog.unfollowed 8)) = true := by kernel_rfl
theorem proofMonotone_k11 : ((Rows.proofMonotoneRow.recurses == Tryz.prog.recurses 8)) = true := by kernel_rfl
theorem proofMonotone_k12 : ((Rows.proofMonotoneRow.named == Tryz.prog.varsNamed 8)) = true := by kernel_rfl
theorem proofMonotone_k13 : ((Rows.proofMonotoneRow.maps == (Tryz.f8.params.toList ++  Rows.proofMonotoneSpec.plain.varTypes Tryz.prog).any (Tryz.prog.mapsRec ·))) = true := by kernel_rfl
theorem proofMonotone_k14 : ((Rows.proofMonotoneRow.ifaces == (Tryz.f8.params.toList ++  Rows.proofMonotoneSpec.plain.varTypes Tryz.prog).any (Tryz.prog.ifacesRec ·))) = true := by kernel_rfl
theorem proofMonotone_k15 : ((Rows.proofMonotoneRow.mapsOut == Tryz.prog.mapsAmong Tryz.f8.resultTypes.toList)) = true := by kernel_rfl
theorem proofMonotone_k16 : ((Rows.proofMonotoneRow.loops == (Tryz.f8.params.toList ++  Rows.proofMonotoneSpec.plain.varTypes Tryz.prog).any (Tryz.prog.loopsFrom ·))) = true := by kernel_rfl
theorem proofMonotone_k17 : ((Rows.proofMonotoneRow.wideKeys == (Tryz.f8.params.toList ++  Rows.proofMonotoneSpec.plain.varTypes Tryz.prog ++ Tryz.f8.resultTypes.toList).any (Tryz.prog.wideKeysFrom ·))) = true := by kernel_rfl
theorem proofMonotone_k18 : ( Rows.proofMonotoneSpec.vars.all (Tryz.prog.varReadable ·)) = true := by kernel_rfl
theorem proofMonotone_k19 : (Tryz.f8.resultTypes.all (fun t => Tryz.prog.readableRec t && decide (t < Tryz.prog.types.size))) = true := by kernel_rfl
theorem proofMonotone_k20 : ((Rows.proofMonotoneRow.ifacesOut == Tryz.f8.resultTypes.toList.any (Tryz.prog.ifacesRec ·))) = true := by kernel_rfl
theorem proofMonotone_k21 : ((Rows.proofMonotoneRow.loopsOut == Tryz.f8.resultTypes.toList.any (Tryz.prog.loopsFrom ·))) = true := by kernel_rfl
theorem proofMonotone_k22 : ((Rows.proofMonotoneRow.plainKeys == Tryz.prog.plainKeys)) = true := by kernel_rfl
theorem proofMonotone_k23 : (Rows.proofMonotoneRow.shortTexts.isNone) = true := by kernel_rfl
theorem proofMonotone_k26 : ((Rows.proofMonotoneRow.lifted == Tryz.prog.liftsFinal)) = true := by rw [lifts_final]; kernel_rfl
theorem proofMonotone_k27 : ((Tryz.prog.make == some Rows.proofMonotoneRow.make)) = true := by rw [make_cut]; kernel_rfl
theorem proofMonotone_k28 : ((Rows.proofMonotoneRow.kinds == (if Rows.proofMonotoneRow.domain.isEmpty then [] else Tryz.f8.params.toList.map fun t => match Tryz.prog.underlying t with | some (.int k) => some k | _ => none))) = true := by kernel_rfl
theorem proofMonotone_k29 : ((Rows.proofMonotoneRow.pinned == Rows.proofMonotoneRow.pinnedBy)) = true := by kernel_rfl
theorem proofMonotone_k30 : ((Rows.proofMonotoneRow.veiled == (Tryz.f8.params.toList ++  Rows.proofMonotoneSpec.plain.varTypes Tryz.prog ++ Tryz.f8.resultTypes.toList).any (Tryz.prog.veiledRec ·))) = true := by kernel_rfl
theorem proofMonotone_k31 : (Rows.proofMonotoneRow.veiledFits Tryz.prog Tryz.f8.params.toList (Tryz.f8.params.toList ++  Rows.proofMonotoneSpec.plain.varTypes Tryz.prog ++ Tryz.f8.resultTypes.toList)) = true := by kernel_rfl
set_option maxRecDepth 100000 in
theorem proofMonotone_closed : joinedFacts Tryz.prog 8 Tryz.f8 Rows.proofMonotoneSpec Rows.proofMonotoneRow = true := by
  unfold joinedFacts
  simp only [Bool.and_eq_true]
  exact ⟨⟨⟨⟨⟨⟨⟨⟨⟨⟨⟨⟨⟨⟨⟨⟨⟨⟨⟨⟨⟨⟨⟨⟨⟨⟨⟨⟨⟨⟨⟨proofMonotone_k0, Rows_k1⟩, Rows_k2⟩, proofMonotone_k3⟩, proofMonotone_k4⟩, proofMonotone_k5⟩, Rows_k6⟩, proofMonotone_k7⟩, Rows_k8⟩, proofMonotone_k9⟩, proofMonotone_k10⟩, proofMonotone_k11⟩, proofMonotone_k12⟩, proofMonotone_k13⟩, proofMonotone_k14⟩, proofMonotone_k15⟩, proofMonotone_k16⟩, proofMonotone_k17⟩, proofMonotone_k18⟩, proofMonotone_k19⟩, proofMonotone_k20⟩, proofMonotone_k21⟩, proofMonotone_k22⟩, proofMonotone_k23⟩, Rows_k24⟩, Rows_k25⟩, proofMonotone_k26⟩, proofMonotone_k27⟩, proofMonotone_k28⟩, proofMonotone_k29⟩, proofMonotone_k30⟩, proofMonotone_k31⟩
end Go.Proofs.YthjifmfmaiagoaaGreatDoor

/- ProofMonotone returns true, whatever comes in, and turns nothing of what it is handed. Conditions: none; the variables that Go's library reads hold what the program's text lays (tied). -/
namespace Go.Proofs.YthjifmfmaiagoaaGreatDoor
open Go.ChangeShapes Go.WideShapes Go.ChangeAt Go.RowKit

set_option maxRecDepth 100000 in
theorem proofMonotone_lifted (os : Os) (started : os.Started) (H : Type) (enc : TypeId × Value → H) :
    ReturnsInHanded {} Tryz.checked os 8 .any (fun w args => (Rows.proofMonotoneSpec.pre enc Tryz.prog Tryz.f8 [] false w args ∧ laidMetH Tryz.prog laidM w) ∧ sizedMet enc Tryz.prog Tryz.f8 (OpenSpec.ofChange Rows.proofMonotoneSpec) false w args)
      (Rows.proofMonotoneSpec.post enc Tryz.prog Tryz.f8 false true false false) := by
  refine returnsInHanded_of_change_and (C := Tryz.checked) (X := fun w _ => laidMetH Tryz.prog laidM w) (fun _ _ _ hh h => h.of_heap hh) own started (by kernel_rfl) Tryz.func8
    (ChangeSpec.witness_shaped (enc := enc) (C := Tryz.checked) (os := os) (X := fun w _ => laidMetH Tryz.prog laidM w) false (World.doorLaid Tryz.prog 4000 os) #[.agg #[.int .i64 0, .slice none 0 0, .slice none 0 0], .slice none 0 0, .slice none 0 0, .agg #[.slice none 0 0], .slice none 0 0] 8 rfl (World.shaped_of_RefB (by kernel_rfl) (by kernel_rfl)) (by kernel_rfl) (by kernel_rfl) (by kernel_rfl) (door_met os _)) ?_
  intro W base args ds gs before hval0 hW _ _ hL _
  have hval : ∀ (j : Nat) t v, Tryz.f8.params[j]? = some t → args[j]? = some v → Value.okWide Tryz.prog W .any base t v := hval0
  have hW' := hW
  obtain ⟨p, q, hA0, hV, rfl, hfz, hnd⟩ := hW
  have hA : DataW.TrodAll enc Tryz.prog W 0 (fun _ => true) true Tryz.f8.params.toList args.toList ds p := hA0
  obtain ⟨rfl, rfl⟩ := trodVars_none hV
  rw [Tryz.params8] at hA hval
  obtain ⟨v1, r1, d1, s1, p1, q1, a1, rfl, rfl, t1, hA⟩ := trodAll_cons hA
  obtain ⟨v2, r2, d2, s2, p2, q2, rfl, rfl, rfl, t2, hA⟩ := trodAll_cons hA
  obtain ⟨v3, r3, d3, s3, p3, q3, rfl, rfl, rfl, t3, hA⟩ := trodAll_cons hA
  obtain ⟨v4, r4, d4, s4, p4, q4, rfl, rfl, rfl, t4, hA⟩ := trodAll_cons hA
  obtain ⟨v5, r5, d5, s5, p5, q5, rfl, rfl, rfl, t5, hA⟩ := trodAll_cons hA
  obtain ⟨rfl, rfl, rfl⟩ := trodAll_nil hA
  obtain rfl : args = #[v1, v2, v3, v4, v5] := Array.toList_inj.1 (by simpa using a1)
  obtain ⟨cs1, rfl, hcs1⟩ := okWide_struct Tryz.underlying25 (hval 0 25 v1 rfl rfl)
  obtain ⟨f1, t1'⟩ := t1
  obtain ⟨CA, cn, cc, EA, en, ec, g, e1, hg⟩ := opn_RG t1'
  obtain rfl : cs1 = #[.int .i64 g.n, .slice CA cn cc, .slice EA en ec] := Array.toList_inj.1 (by simpa [Value.cells] using e1)
  obtain ⟨A2, n2, c2, rfl⟩ := okWide_slice Tryz.underlying26 (hval 1 26 v2 rfl rfl)
  obtain ⟨f2, t2'⟩ := t2
  obtain ⟨A2', n2', c2', ws, e2, hw2, hw2'⟩ := opn_RW t2'
  obtain ⟨rfl, rfl, rfl⟩ : A2 = A2' ∧ n2 = n2' ∧ c2 = c2' := by simpa [Value.cells] using e2
  obtain ⟨A3, n3, c3, rfl⟩ := okWide_slice Tryz.underlying26 (hval 2 26 v3 rfl rfl)
  obtain ⟨f3, t3'⟩ := t3
  obtain ⟨A3', n3', c3', ws2, e3, hw3, hw3'⟩ := opn_RW t3'
  obtain ⟨rfl, rfl, rfl⟩ : A3 = A3' ∧ n3 = n3' ∧ c3 = c3' := by simpa [Value.cells] using e3
  obtain ⟨cs4, rfl, hcs4⟩ := okWide_struct Tryz.underlying36 (hval 3 36 v4 rfl rfl)
  obtain ⟨f4, t4'⟩ := t4
  obtain ⟨A4, n4, c4, ss, e4, hp4, hp4'⟩ := opn_RP t4'
  obtain rfl : cs4 = #[.slice A4 n4 c4] := Array.toList_inj.1 (by simpa [Value.cells] using e4)
  obtain ⟨A5, n5, c5, rfl⟩ := okWide_slice Tryz.underlying34 (hval 4 34 v5 rfl rfl)
  obtain ⟨f5, t5'⟩ := t5
  obtain ⟨A5', n5', c5', l, e5, hl5, hl5'⟩ := opn_RS t5'
  obtain ⟨rfl, rfl, rfl⟩ : A5 = A5' ∧ n5 = n5' ∧ c5 = c5' := by simpa [Value.cells] using e5
  refine (mono_any CA EA A2 A3 A4 A5 cn cc en ec n2 c2 n3 c3 n4 c4 n5 c5 g ws ws2 ss l W hg hw2 hw3 hp4 hl5 hw2' hw3' hp4' hl5').mono fun e W' ⟨he, hx⟩ => ?_
  subst he
  exact ⟨_, rfl, post_true hW' rfl hx (by kernel_rfl) rfl (by kernel_rfl)⟩

theorem proofMonotone_fn : Tryz.prog.funcNamed "cleanse/cleanselaw30.ProofMonotone" = some 8 := by kernel_rfl
theorem proofMonotone_inst : Tryz.f8.isInstance Tryz.prog Rows.proofMonotoneRow.origin Rows.proofMonotoneRow.targs := of_decide_eq_true (by kernel_rfl)
theorem proofMonotone_wrap : Tryz.f8.isWrapper Tryz.prog Rows.proofMonotoneRow.wrapper Rows.proofMonotoneRow.mainSum := by
  unfold Func.isWrapper
  rw [if_neg (by decide +kernel)]
  exact ⟨rfl, rfl⟩
theorem proofMonotone_looks : true = Tryz.prog.looks [] := by kernel_rfl
theorem proofMonotone_goes : false = Rows.proofMonotoneRow.goesBy Tryz.prog := by kernel_rfl
theorem proofMonotone_wf : Rows.proofMonotoneRow.wfByText (OpenSpec.ofChange Rows.proofMonotoneSpec) = true := by kernel_rfl
theorem proofMonotone_params : ([25, 26, 26, 36, 34].all fun u => !Tryz.prog.wantsStandIn u) = true := by kernel_rfl
theorem proofMonotone_holds : Rows.ProofMonotoneSaid :=
  OpenClaim.holds_of_wide (p := Tryz.pinned) 8 Tryz.f8 rfl rfl rfl rfl rfl rfl rfl ⟨rfl, rfl, rfl, rfl, rfl⟩ rfl rfl rfl rfl rfl proofMonotone_fn Tryz.func8 proofMonotone_closed
    proofMonotone_inst proofMonotone_wrap (fun os started H enc _ => proofMonotone_lifted os started H enc)

theorem proofMonotone_card : Rows.ProofMonotoneCardSaid :=
  Claim7.holds_tied_plain_at (p := Tryz.pinned) .later [] [.data, .data, .data] true (true, "41b9ce2e03f5c797346d13d89d85ddc7ab9bee3d6ed5d7449db14be39b6a6600") true
    proofMonotone_holds (fun _ h => by cases h) proofMonotone_wf (fun _ h => by cases h) proofMonotone_row_tie rfl ⟨rfl, rfl⟩ main_is rfl
    (fun f fn hf hfn => by
      obtain rfl : f = 8 := Option.some.inj ((show Tryz.prog.funcNamed "cleanse/cleanselaw30.ProofMonotone" = some 8 from proofMonotone_fn).symm.trans hf) |>.symm
      obtain rfl : fn = Tryz.f8 := (Option.some.inj (Tryz.func8.symm.trans hfn)).symm
      exact ⟨proofMonotone_looks, fun j t ht => by
        rw [Tryz.params8] at ht
        have hm : t ∈ [25, 26, 26, 36, 34] := by simpa using Array.mem_of_getElem? ht
        exact (show Tryz.prog.wantsStandIn t = false by simpa using List.all_eq_true.1 proofMonotone_params t hm)⟩)
    proofMonotone_goes
#print axioms proofMonotone_card
end Go.Proofs.YthjifmfmaiagoaaGreatDoor

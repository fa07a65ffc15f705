/- ProofCut: texts F9 Q9. -/
import Derived.Test.YthjifmfmaiagoaaGreatDoorC15
import Derived.Test.YthjifmfmaiagoaaGreatDoorC16
import Derived.Test.YthjifmfmaiagoaaGreatDoorC17
import Derived.Test.YthjifmfmaiagoaaGreatDoorCards
import Derived.Test.YthjifmfmaiagoaaGreatDoorTie
set_option linter.all false

/- ProofCut's row: its closed facts. -/
namespace Go.Proofs.YthjifmfmaiagoaaGreatDoor
theorem proofCut_k0 : (Rows.proofCutRow.wf (OpenSpec.ofChange Rows.proofCutSpec)) = true := by kernel_rfl
theorem proofCut_k3 : (Tryz.f9.params.all (Tryz.prog.readableRec ·)) = true := by kernel_rfl
theorem proofCut_k4 : (namedTie Tryz.prog Rows.proofCutRow.named  Rows.proofCutSpec.vars) = true := by kernel_rfl
theorem proofCut_k5 : ((Rows.proofCutRow.stops == [])) = true := by kernel_rfl
theorem proofCut_k7 : ((Rows.proofCutRow.knobs == [])) = true := by kernel_rfl
theorem proofCut_k9 : ((Rows.proofCutRow.inPlace == Tryz.prog.inPlace 9)) = true := by kernel_rfl
theorem proofCut_k10 : ((Rows.proofCutRow.unfollowed == Tryz.prog.unfollowed 9)) = true := by kernel_rfl
theorem proofCut_k11 : ((Rows.proofCutRow.recurses == Tryz.prog.recurses 9)) = true := by kernel_rfl
theorem proofCut_k12 : ((Rows.proofCutRow.named == Tryz.prog.varsNamed 9)) = true := by kernel_rfl
theorem proofCut_k13 : ((Rows.proofCutRow.maps == (Tryz.f9.params.toList ++  Rows.proofCutSpec.plain.varTypes Tryz.prog).any (Tryz.prog.mapsRec ·))) = true := by kernel_rfl
theorem proofCut_k14 : ((Rows.proofCutRow.ifaces == (Tryz.f9.params.toList ++  Rows.proofCutSpec.plain.varTypes Tryz.prog).any (Tryz.prog.ifacesRec ·))) = true := by kernel_rfl
theorem proofCut_k15 : ((Rows.proofCutRow.mapsOut == Tryz.prog.mapsAmong Tryz.f9.resultTypes.toList)) = true := by kernel_rfl
theorem proofCut_k16 : ((Rows.proofCutRow.loops == (Tryz.f9.params.toList ++  Rows.proofCutSpec.plain.varTypes Tryz.prog).any (Tryz.prog.loopsFrom ·))) = true := by kernel_rfl
theorem proofCut_k17 : ((Rows.proofCutRow.wideKeys == (Tryz.f9.params.toList ++  Rows.proofCutSpec.plain.varTypes Tryz.prog ++ Tryz.f9.resultTypes.toList).any (Tryz.prog.wideKeysFrom ·))) = true := by kernel_rfl
theorem proofCut_k18 : ( Rows.proofCutSpec.vars.all (Tryz.prog.varReadable ·)) = true := by kernel_rfl
theorem proofCut_k19 : (Tryz.f9.resultTypes.all (fun t => Tryz.prog.readableRec t && decide (t < Tryz.prog.types.size))) = true := by kernel_rfl
theorem proofCut_k20 : ((Rows.proofCutRow.ifacesOut == Tryz.f9.resultTypes.toList.any (Tryz.prog.ifacesRec ·))) = true := by kernel_rfl
theorem proofCut_k21 : ((Rows.proofCutRow.loopsOut == Tryz.f9.resultTypes.toList.any (Tryz.prog.loopsFrom ·))) = true := by kernel_rfl
theorem proofCut_k22 : ((Rows.proofCutRow.plainKeys == Tryz.prog.plainKeys)) = true := by kernel_rfl
theorem proofCut_k23 : (Rows.proofCutRow.shortTexts.isNone) = true := by kernel_rfl
theorem proofCut_k26 : ((Rows.proofCutRow.lifted == Tryz.prog.liftsFinal)) = true := by rw [lifts_final]; kernel_rfl
theorem proofCut_k27 : ((Tryz.prog.make == some Rows.proofCutRow.make)) = true := by rw [make_cut]; kernel_rfl
theorem proofCut_k28 : ((Rows.proofCutRow.kinds == (if Rows.proofCutRow.domain.isEmpty then [] else Tryz.f9.params.toList.map fun t => match Tryz.prog.underlying t with | some (.int k) => some k | _ => none))) = true := by kernel_rfl
theorem proofCut_k29 : ((Rows.proofCutRow.pinned == Rows.proofCutRow.pinnedBy)) = true := by kernel_rfl
theorem proofCut_k30 : ((Rows.proofCutRow.veiled == (Tryz.f9.params.toList ++  Rows.proofCutSpec.plain.varTypes Tryz.prog ++ Tryz.f9.resultTypes.toList).any (Tryz.prog.veiledRec ·))) = true := by kernel_rfl
theorem proofCut_k31 : (Rows.proofCutRow.veiledFits Tryz.prog Tryz.f9.params.toList (Tryz.f9.params.toList ++  Rows.proofCutSpec.plain.varTypes Tryz.prog ++ Tryz.f9.resultTypes.toList)) = true := by kernel_rfl
set_option maxRecDepth 100000 in
theorem proofCut_closed : joinedFacts Tryz.prog 9 Tryz.f9 Rows.proofCutSpec Rows.proofCutRow = true := by
  unfold joinedFacts
  simp only [Bool.and_eq_true]
  exact ⟨⟨⟨⟨⟨⟨⟨⟨⟨⟨⟨⟨⟨⟨⟨⟨⟨⟨⟨⟨⟨⟨⟨⟨⟨⟨⟨⟨⟨⟨⟨proofCut_k0, Rows_k1⟩, Rows_k2⟩, proofCut_k3⟩, proofCut_k4⟩, proofCut_k5⟩, Rows_k6⟩, proofCut_k7⟩, Rows_k8⟩, proofCut_k9⟩, proofCut_k10⟩, proofCut_k11⟩, proofCut_k12⟩, proofCut_k13⟩, proofCut_k14⟩, proofCut_k15⟩, proofCut_k16⟩, proofCut_k17⟩, proofCut_k18⟩, proofCut_k19⟩, proofCut_k20⟩, proofCut_k21⟩, proofCut_k22⟩, proofCut_k23⟩, Rows_k24⟩, Rows_k25⟩, proofCut_k26⟩, proofCut_k27⟩, proofCut_k28⟩, proofCut_k29⟩, proofCut_k30⟩, proofCut_k31⟩
end Go.Proofs.YthjifmfmaiagoaaGreatDoor

/- ProofCut returns true, whatever comes in, and turns nothing of what it is handed. Conditions: none; the variables that Go's library reads hold what the program's text lays (tied). -/
namespace Go.Proofs.YthjifmfmaiagoaaGreatDoor
open Go.ChangeShapes Go.WideShapes Go.ChangeAt Go.RowKit

set_option maxRecDepth 100000 in
theorem proofCut_lifted (os : Os) (started : os.Started) (H : Type) (enc : TypeId × Value → H) :
    ReturnsInHanded {} Tryz.checked os 9 .any (fun w args => (Rows.proofCutSpec.pre enc Tryz.prog Tryz.f9 [] false w args ∧ laidMetH Tryz.prog laidM w) ∧ sizedMet enc Tryz.prog Tryz.f9 (OpenSpec.ofChange Rows.proofCutSpec) false w args)
      (Rows.proofCutSpec.post enc Tryz.prog Tryz.f9 false true false false) := by
  refine returnsInHanded_of_change_and (C := Tryz.checked) (X := fun w _ => laidMetH Tryz.prog laidM w) (fun _ _ _ hh h => h.of_heap hh) own started (by kernel_rfl) Tryz.func9
    (ChangeSpec.witness_shaped (enc := enc) (C := Tryz.checked) (os := os) (X := fun w _ => laidMetH Tryz.prog laidM w) false (World.doorLaid Tryz.prog 4000 os) #[.agg #[.int .i64 0, .slice none 0 0, .slice none 0 0], .slice none 0 0, .bool false, .agg #[.slice none 0 0]] 8 rfl (World.shaped_of_RefB (by kernel_rfl) (by kernel_rfl)) (by kernel_rfl) (by kernel_rfl) (by kernel_rfl) (door_met os _)) ?_
  intro W base args ds gs before hval0 hW _ _ hL _
  have hval : ∀ (j : Nat) t v, Tryz.f9.params[j]? = some t → args[j]? = some v → Value.okWide Tryz.prog W .any base t v := hval0
  have hW' := hW
  obtain ⟨p, q, hA0, hV, rfl, hfz, hnd⟩ := hW
  have hA : DataW.TrodAll enc Tryz.prog W 0 (fun _ => true) true Tryz.f9.params.toList args.toList ds p := hA0
  obtain ⟨rfl, rfl⟩ := trodVars_none hV
  rw [Tryz.params9] at hA hval
  obtain ⟨v1, r1, d1, s1, p1, q1, a1, rfl, rfl, t1, hA⟩ := trodAll_cons hA
  obtain ⟨v2, r2, d2, s2, p2, q2, rfl, rfl, rfl, t2, hA⟩ := trodAll_cons hA
  obtain ⟨v3, r3, d3, s3, p3, q3, rfl, rfl, rfl, t3, hA⟩ := trodAll_cons hA
  obtain ⟨v4, r4, d4, s4, p4, q4, rfl, rfl, rfl, t4, hA⟩ := trodAll_cons hA
  obtain ⟨rfl, rfl, rfl⟩ := trodAll_nil hA
  obtain rfl : args = #[v1, v2, v3, v4] := Array.toList_inj.1 (by simpa using a1)
  obtain ⟨cs1, rfl, hcs1⟩ := okWide_struct Tryz.underlying25 (hval 0 25 v1 rfl rfl)
  obtain ⟨f1, t1'⟩ := t1
  obtain ⟨CA, cn, cc, EA, en, ec, g, e1, hg⟩ := opn_RG t1'
  obtain rfl : cs1 = #[.int .i64 g.n, .slice CA cn cc, .slice EA en ec] := Array.toList_inj.1 (by simpa [Value.cells] using e1)
  obtain ⟨A2, n2, c2, rfl⟩ := okWide_slice Tryz.underlying26 (hval 1 26 v2 rfl rfl)
  obtain ⟨f2, t2'⟩ := t2
  obtain ⟨A2', n2', c2', ws, e2, hw2, hw2'⟩ := opn_RW t2'
  obtain ⟨rfl, rfl, rfl⟩ : A2 = A2' ∧ n2 = n2' ∧ c2 = c2' := by simpa [Value.cells] using e2
  obtain ⟨b3, rfl, rfl, rfl⟩ := open_bool Tryz.underlying4 (hval 2 4 v3 rfl rfl) t3
  obtain ⟨cs4, rfl, hcs4⟩ := okWide_struct Tryz.underlying36 (hval 3 36 v4 rfl rfl)
  obtain ⟨f4, t4'⟩ := t4
  obtain ⟨A4, n4, c4, ss, e4, hp4, hp4'⟩ := opn_RP t4'
  obtain rfl : cs4 = #[.slice A4 n4 c4] := Array.toList_inj.1 (by simpa [Value.cells] using e4)
  refine (cut_any CA EA A2 A4 cn cc en ec n2 c2 n4 c4 g ws ss b3 W hg hw2 hp4 hp4').mono fun e W' ⟨he, hx⟩ => ?_
  subst he
  exact ⟨_, rfl, post_true hW' rfl hx (by kernel_rfl) rfl (by kernel_rfl)⟩

theorem proofCut_fn : Tryz.prog.funcNamed "cleanse/cleanselaw30.ProofCut" = some 9 := by kernel_rfl
theorem proofCut_inst : Tryz.f9.isInstance Tryz.prog Rows.proofCutRow.origin Rows.proofCutRow.targs := of_decide_eq_true (by kernel_rfl)
theorem proofCut_wrap : Tryz.f9.isWrapper Tryz.prog Rows.proofCutRow.wrapper Rows.proofCutRow.mainSum := by
  unfold Func.isWrapper
  rw [if_neg (by decide +kernel)]
  exact ⟨rfl, rfl⟩
theorem proofCut_looks : true = Tryz.prog.looks [] := by kernel_rfl
theorem proofCut_goes : false = Rows.proofCutRow.goesBy Tryz.prog := by kernel_rfl
theorem proofCut_wf : Rows.proofCutRow.wfByText (OpenSpec.ofChange Rows.proofCutSpec) = true := by kernel_rfl
theorem proofCut_params : ([25, 26, 4, 36].all fun u => !Tryz.prog.wantsStandIn u) = true := by kernel_rfl
theorem proofCut_holds : Rows.ProofCutSaid :=
  OpenClaim.holds_of_wide (p := Tryz.pinned) 9 Tryz.f9 rfl rfl rfl rfl rfl rfl rfl ⟨rfl, rfl, rfl, rfl, rfl⟩ rfl rfl rfl rfl rfl proofCut_fn Tryz.func9 proofCut_closed
    proofCut_inst proofCut_wrap (fun os started H enc _ => proofCut_lifted os started H enc)

theorem proofCut_card : Rows.ProofCutCardSaid :=
  Claim7.holds_tied_plain_at (p := Tryz.pinned) .later [] [.data, .data, .data] true (true, "41b9ce2e03f5c797346d13d89d85ddc7ab9bee3d6ed5d7449db14be39b6a6600") true
    proofCut_holds (fun _ h => by cases h) proofCut_wf (fun _ h => by cases h) proofCut_row_tie rfl ⟨rfl, rfl⟩ main_is rfl
    (fun f fn hf hfn => by
      obtain rfl : f = 9 := Option.some.inj ((show Tryz.prog.funcNamed "cleanse/cleanselaw30.ProofCut" = some 9 from proofCut_fn).symm.trans hf) |>.symm
      obtain rfl : fn = Tryz.f9 := (Option.some.inj (Tryz.func9.symm.trans hfn)).symm
      exact ⟨proofCut_looks, fun j t ht => by
        rw [Tryz.params9] at ht
        have hm : t ∈ [25, 26, 4, 36] := by simpa using Array.mem_of_getElem? ht
        exact (show Tryz.prog.wantsStandIn t = false by simpa using List.all_eq_true.1 proofCut_params t hm)⟩)
    proofCut_goes
#print axioms proofCut_card
end Go.Proofs.YthjifmfmaiagoaaGreatDoor

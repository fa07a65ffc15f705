/- ProofMatchesReference: texts Q4. -/
import Derived.Test.YthjifmfmaiagoaaGreatDoorC15
import Derived.Test.YthjifmfmaiagoaaGreatDoorC22
import Derived.Test.YthjifmfmaiagoaaGreatDoorC23
import Derived.Test.YthjifmfmaiagoaaGreatDoorCards
import Derived.Test.YthjifmfmaiagoaaGreatDoorTie
set_option linter.all false

/- ProofMatchesReference returns true, whatever comes in, and turns nothing of what it is handed. Conditions: none; the variables that Go's library reads hold what the program's text lays (tied). -/
namespace Go.Proofs.YthjifmfmaiagoaaGreatDoor
open Go.ChangeShapes Go.WideShapes Go.ChangeAt Go.RowKit

set_option maxRecDepth 100000 in
theorem proofMatchesReference_lifted (os : Os) (started : os.Started) (H : Type) (enc : TypeId × Value → H) :
    ReturnsInHanded {} Tryz.checked os 4 .any (fun w args => (Rows.proofMatchesReferenceSpec.pre enc Tryz.prog Tryz.f4 [] false w args ∧ laidMetH Tryz.prog laidM w) ∧ sizedMet enc Tryz.prog Tryz.f4 (OpenSpec.ofChange Rows.proofMatchesReferenceSpec) false w args)
      (Rows.proofMatchesReferenceSpec.post enc Tryz.prog Tryz.f4 false true false false) := by
  refine returnsInHanded_of_change_and (C := Tryz.checked) (X := fun w _ => laidMetH Tryz.prog laidM w) (fun _ _ _ hh h => h.of_heap hh) own started (by kernel_rfl) Tryz.func4
    (ChangeSpec.witness_shaped (enc := enc) (C := Tryz.checked) (os := os) (X := fun w _ => laidMetH Tryz.prog laidM w) false (World.doorLaid Tryz.prog 4000 os) #[.agg #[.int .i64 0, .slice none 0 0, .slice none 0 0], .slice none 0 0, .agg #[.slice none 0 0], .agg #[.int .i64 0, .slice none 0 0, .slice none 0 0, .slice none 0 0], .slice none 0 0] 8 rfl (World.shaped_of_RefB (by kernel_rfl) (by kernel_rfl)) (by kernel_rfl) (by kernel_rfl) (by kernel_rfl) (door_met os _)) ?_
  intro W base args ds gs before hval0 hW _ hsz hL _
  have hval : ∀ (j : Nat) t v, Tryz.f4.params[j]? = some t → args[j]? = some v → Value.okWide Tryz.prog W .any base t v := hval0
  have hW' := hW
  obtain ⟨p, q, hA0, hV, rfl, hfz, hnd⟩ := hW
  have hA : DataW.TrodAll enc Tryz.prog W 0 (fun _ => true) true Tryz.f4.params.toList args.toList ds p := hA0
  obtain ⟨rfl, rfl⟩ := trodVars_none hV
  rw [Tryz.params4] at hA hval
  obtain ⟨v1, r1, d1, s1, p1, q1, a1, rfl, rfl, t1, hA⟩ := trodAll_cons hA
  obtain ⟨v2, r2, d2, s2, p2, q2, rfl, rfl, rfl, t2, hA⟩ := trodAll_cons hA
  obtain ⟨v3, r3, d3, s3, p3, q3, rfl, rfl, rfl, t3, hA⟩ := trodAll_cons hA
  obtain ⟨v4, r4, d4, s4, p4, q4, rfl, rfl, rfl, t4, hA⟩ := trodAll_cons hA
  obtain ⟨v5, r5, d5, s5, p5, q5, rfl, rfl, rfl, t5, hA⟩ := trodAll_cons hA
  obtain ⟨rfl, rfl, rfl⟩ := trodAll_nil hA
  obtain rfl : args = #[v1, v2, v3, v4, v5] := Array.toList_inj.1 (by simpa using a1)
  obtain ⟨cs1, rfl, hcs1⟩ := okWide_struct Tryz.underlying25 (hval 0 25 v1 rfl rfl)
  obtain ⟨f1, t1'⟩ := t1
  obtain ⟨CA, cn, cc, EA, en, ec, g, e1, hg⟩ := opn_RG t1'
  obtain rfl : cs1 = #[.int .i64 g.n, .slice CA cn cc, .slice EA en ec] := Array.toList_inj.1 (by simpa [Value.cells] using e1)
  obtain ⟨A2, n2, c2, rfl⟩ := okWide_slice Tryz.underlying26 (hval 1 26 v2 rfl rfl)
  obtain ⟨f2, t2'⟩ := t2
  obtain ⟨A2', n2', c2', ws, e2, hw2, hw2'⟩ := opn_RW t2'
  obtain ⟨rfl, rfl, rfl⟩ : A2 = A2' ∧ n2 = n2' ∧ c2 = c2' := by simpa [Value.cells] using e2
  obtain ⟨cs3, rfl, hcs3⟩ := okWide_struct Tryz.underlying36 (hval 2 36 v3 rfl rfl)
  obtain ⟨f3, t3'⟩ := t3
  obtain ⟨A3, n3, c3, ss, e3, hp3, hp3'⟩ := opn_RP t3'
  obtain rfl : cs3 = #[.slice A3 n3 c3] := Array.toList_inj.1 (by simpa [Value.cells] using e3)
  obtain ⟨cs4, rfl, hcs4⟩ := okWide_struct Tryz.underlying38 (hval 3 38 v4 rfl rfl)
  obtain ⟨f4, t4'⟩ := t4
  obtain ⟨xv, AW, nW, cW, lw, AO, nO, cO, lo, SB, sm, sd, ts, e4, ⟨ha4, ha4', hab4⟩, ⟨hb4, hb4', hbb4⟩, hq4⟩ := opn_RC t4'
  obtain rfl : cs4 = #[.int .i64 xv, .slice AW nW cW, .slice AO nO cO, .slice SB sm sd] := Array.toList_inj.1 (by simpa [Value.cells] using e4)
  obtain ⟨A5, n5, c5, rfl⟩ := okWide_slice Tryz.underlying22 (hval 4 22 v5 rfl rfl)
  obtain ⟨f5, t5'⟩ := t5
  obtain ⟨A5', n5', c5', xs, e5, hi5, hz5, hb5⟩ := opn_RI2 t5'
  obtain ⟨rfl, rfl, rfl⟩ : A5 = A5' ∧ n5 = n5' ∧ c5 = c5' := by simpa [Value.cells] using e5
  refine (match_any CA EA A2 A3 AW AO SB A5 cn cc en ec n2 c2 n3 c3 nW cW nO cO sm sd n5 c5 g ws ss xv lw lo ts xs W hg hw2 hp3 ha4 hb4 hq4 hi5 ha4' hb4' (Borne.le (j := 3) hsz (by kernel_rfl) rfl hab4) (Borne.le (j := 3) hsz (by kernel_rfl) rfl hbb4) (Borne.le (j := 4) hsz (by kernel_rfl) rfl hb5)).mono fun e W' ⟨he, hx⟩ => ?_
  subst he
  exact ⟨_, rfl, post_true hW' rfl hx (by kernel_rfl) rfl (by kernel_rfl)⟩

theorem proofMatchesReference_fn : Tryz.prog.funcNamed "cleanse/cleanselaw30.ProofMatchesReference" = some 4 := by kernel_rfl
theorem proofMatchesReference_inst : Tryz.f4.isInstance Tryz.prog Rows.proofMatchesReferenceRow.origin Rows.proofMatchesReferenceRow.targs := of_decide_eq_true (by kernel_rfl)
theorem proofMatchesReference_wrap : Tryz.f4.isWrapper Tryz.prog Rows.proofMatchesReferenceRow.wrapper Rows.proofMatchesReferenceRow.mainSum := by
  unfold Func.isWrapper
  rw [if_neg (by decide +kernel)]
  exact ⟨rfl, rfl⟩
theorem proofMatchesReference_looks : true = Tryz.prog.looks [] := by kernel_rfl
theorem proofMatchesReference_goes : false = Rows.proofMatchesReferenceRow.goesBy Tryz.prog := by kernel_rfl
theorem proofMatchesReference_wf : Rows.proofMatchesReferenceRow.wfByText (OpenSpec.ofChange Rows.proofMatchesReferenceSpec) = true := by kernel_rfl
theorem proofMatchesReference_params : ([25, 26, 36, 38, 22].all fun u => !Tryz.prog.wantsStandIn u) = true := by kernel_rfl
theorem proofMatchesReference_holds : Rows.ProofMatchesReferenceSaid :=
  OpenClaim.holds_of_wide (p := Tryz.pinned) 4 Tryz.f4 rfl rfl rfl rfl rfl rfl rfl ⟨rfl, rfl, rfl, rfl, rfl⟩ rfl rfl rfl rfl rfl proofMatchesReference_fn Tryz.func4 proofMatchesReference_closed
    proofMatchesReference_inst proofMatchesReference_wrap (fun os started H enc _ => proofMatchesReference_lifted os started H enc)

theorem proofMatchesReference_card : Rows.ProofMatchesReferenceCardSaid :=
  Claim7.holds_tied_plain_at (p := Tryz.pinned) .later [] [.data, .data, .data] true (true, "41b9ce2e03f5c797346d13d89d85ddc7ab9bee3d6ed5d7449db14be39b6a6600") true
    proofMatchesReference_holds (fun _ h => by cases h) proofMatchesReference_wf (fun _ h => by cases h) proofMatchesReference_row_tie rfl ⟨rfl, rfl⟩ main_is rfl
    (fun f fn hf hfn => by
      obtain rfl : f = 4 := Option.some.inj ((show Tryz.prog.funcNamed "cleanse/cleanselaw30.ProofMatchesReference" = some 4 from proofMatchesReference_fn).symm.trans hf) |>.symm
      obtain rfl : fn = Tryz.f4 := (Option.some.inj (Tryz.func4.symm.trans hfn)).symm
      exact ⟨proofMatchesReference_looks, fun j t ht => by
        rw [Tryz.params4] at ht
        have hm : t ∈ [25, 26, 36, 38, 22] := by simpa using Array.mem_of_getElem? ht
        exact (show Tryz.prog.wantsStandIn t = false by simpa using List.all_eq_true.1 proofMatchesReference_params t hm)⟩)
    proofMatchesReference_goes
#print axioms proofMatchesReference_card
end Go.Proofs.YthjifmfmaiagoaaGreatDoor

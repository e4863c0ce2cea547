/- GotVector: from the walk to the row. -/
import Derived.Test.YtofkoppfkekngaaGreatDoorQLaw4
import Derived.Test.YtofkoppfkekngaaGreatDoorQRow4J
namespace Go.Proofs.YtofkoppfkekngaaGreatDoor
open Go.Abs Go.ChangeShapes Go.WideShapes Go.ChangeAt Go.RowKit
set_option linter.unusedSimpArgs false
set_option linter.unusedVariables false
set_option maxRecDepth 100000

theorem r4_lifted (os : Os) (started : os.Started) (H : Type) (enc : TypeId × Value → H) :
    ReturnsInHanded {} Tryz.checked os 4 .any (fun w args => (Rows.gotVectorSpec.pre enc Tryz.prog Tryz.f4 Rows.gotVectorRow.domain false w args ∧ laidMetH Tryz.prog Rows.gotVectorRow.laid w) ∧ sizedMet enc Tryz.prog Tryz.f4 (OpenSpec.ofChange Rows.gotVectorSpec) false w args)
      (Rows.gotVectorSpec.post enc Tryz.prog Tryz.f4 false true false false) := by
  refine returnsInHanded_of_change_and (C := Tryz.checked) (X := fun w _ => laidMetH Tryz.prog Rows.gotVectorRow.laid w) (fun _ _ _ hh h => h.of_heap hh) own started (by kernel_rfl) Tryz.func4
    (ChangeSpec.witness_shaped (enc := enc) (C := Tryz.checked) (os := os) (X := fun w _ => laidMetH Tryz.prog Rows.gotVectorRow.laid w) false (World.laidAll Tryz.prog os Rows.gotVectorRow.laid) #[.int .u64 0, .slice none 0 0] 8 (World.laidAll_os _ _ _)
      (World.shaped_of_ZipB (by kernel_rfl) (by kernel_rfl)) (by kernel_rfl) (by kernel_rfl) (by kernel_rfl)
      (by rw [MakeChecks.laidMetH_plain _ _ _ (by kernel_rfl)]; exact laidMet_laidAll _ (by kernel_rfl) (by kernel_rfl))) ?_
  intro W base args ds gs before hval0 hW _ _ hL _
  have hval : ∀ (j : Nat) t v, Tryz.f4.params[j]? = some t → args[j]? = some v → Value.okWide Tryz.prog W .any base t v := hval0
  have hW' := hW
  obtain ⟨p, q, hA0, hV, rfl, _, _⟩ := hW
  have hA : DataW.TrodAll enc Tryz.prog W 0 (fun _ => true) true Tryz.f4.params.toList args.toList ds p := hA0
  rw [Tryz.params4] at hA hval
  obtain ⟨v0, v1, d0, d1, p0, p1, rfl, rfl, rfl, h0, h1⟩ := trodAll_two hA
  obtain ⟨n0, rfl, rfl, rfl, w0⟩ := open_int Tryz.underlying31 (hval 0 31 v0 rfl rfl) h0
  have b0 : (0 : Int) ≤ n0 ∧ n0 ≤ 18446744073709551615 := by
    have hw := w0
    simp only [Lit.wf, IntKind.min, IntKind.max, IntKind.signed, IntKind.bits, Bool.and_eq_true, decide_eq_true_eq] at hw
    exact ⟨by simpa using hw.1, by simpa using hw.2⟩
  have fin : Calls Tryz.prog 4 #[.int .u64 n0, v1] W fun e W' => e = .returned (.bool true) ∧ Below W.heap.size W W' := by
    rcases arg_ints (laid_block hL) Tryz.underlying22 Tryz.underlying3 (by kernel_rfl) (hval 1 22 v1 rfl rfl) h1 with rfl | ⟨l, β, R, hv⟩
    · exact call_of_tri (law4_nil b0.1) (rel_free W) ⟨rfl, rfl, trivial⟩
    · exact call_of_tri (law4_sl b0.1) R ⟨rfl, hv, trivial⟩
  refine fin.mono fun e W' ⟨he, hb⟩ => ⟨_, he, ?_⟩
  exact law_post hW' rfl rfl ⟨rfl, rfl, rfl⟩ (by rw [Tryz.params4]; intro t ht; simp only [List.mem_cons, List.not_mem_nil, or_false] at ht; rcases ht with rfl | rfl <;> exact ⟨by kernel_rfl, of_decide_eq_true (by kernel_rfl)⟩) hb

theorem gotVector_said : Rows.GotVectorSaid :=
  OpenClaim.holds_of_wide 4 Tryz.f4 rfl rfl rfl rfl rfl rfl rfl ⟨rfl, rfl, rfl, rfl, rfl⟩ rfl rfl rfl rfl rfl r4_funcNamed Tryz.func4 r4_joined r4_instance r4_wrapper
    (fun os started H enc _ => r4_lifted os started H enc)

end Go.Proofs.YtofkoppfkekngaaGreatDoor

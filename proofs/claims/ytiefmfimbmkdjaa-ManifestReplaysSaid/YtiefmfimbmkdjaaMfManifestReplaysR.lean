/-
  The law ManifestReplays is true for every input, and its input reads as it did.
  No condition.
-/
import Derived.Test.YtiefmfimbmkdjaaRows
import Derived.Test.YtiefmfimbmkdjaaMfW
import Derived.Test.YtiefmfimbmkdjaaMfOpen
namespace Go.Proofs.Ytiefmfimbmkdjaa
set_option linter.unusedSimpArgs false
set_option linter.unusedVariables false
set_option linter.unusedSectionVars false
open Go.RowKit Go.ChangeShapes Go.WideShapes Go.ChangeAt

theorem manifestReplays_own : ownKnob Try.prog.godebug = none := by kernel_rfl
set_option maxRecDepth 100000 in
theorem manifestReplays_lifted (os : Os) (started : os.Started) (H : Type) (enc : TypeId × Value → H) :
    ReturnsInHanded {} Try.checked os 8 .any (Rows.manifestReplaysSpec.pre6 enc Try.prog Try.f8 Rows.manifestReplaysRow.domain false) (Rows.manifestReplaysSpec.post enc Try.prog Try.f8 false true false false) := by
  refine returnsInHanded_of_change (C := Try.checked) manifestReplays_own started (by kernel_rfl) Try.func8
    (ChangeSpec.witness6 (enc := enc) (C := Try.checked) false ⟨#[], #[.slice none 0 0, .slice none 0 0], []⟩ 8 (by kernel_rfl) (by kernel_rfl) (by kernel_rfl) (by kernel_rfl)) ?_
  intro W base args ds gs before hval0 hW hcnd _
  have hval : ∀ (j : Nat) t v, Try.f8.params[j]? = some t → args[j]? = some v → Value.okWide Try.prog W .any base t v := hval0
  have hW0 : DataW.Whole enc Try.prog Try.f8.params.toList Rows.manifestReplaysSpec.vars false W args.toList ds gs before := hW
  have hW' := hW0
  obtain ⟨p, q, hA0, hV, rfl, hfz, hnd⟩ := hW
  have hA : DataW.TrodAll enc Try.prog W 0 (fun _ => true) true Try.f8.params.toList args.toList ds p := hA0
  rw [Try.params8] at hA hval
  obtain ⟨v0, vs0, d0, ds0, p0, q0, hargs, rfl, rfl, h0, r0⟩ := trodAll_cons hA
  obtain ⟨v1, vs1, d1, ds1, p1, q1, rfl, rfl, rfl, h1, r1⟩ := trodAll_cons r0
  obtain ⟨rfl, rfl, rfl⟩ := trodAll_nil r1
  obtain rfl : args = #[v0, v1] := by cases args; simp_all
  obtain ⟨rfl, rfl⟩ := trodVars_none hV
  clear hA0 hval0
  obtain ⟨p0, cap0, l0, rfl, hs0, hsz0, hlc0, hcm0⟩ := open_strs (Try.underlying51) (Try.underlying9) (by kernel_rfl) (hval 0 51 v0 rfl rfl) h0
  obtain ⟨x1, rfl, k1⟩ := open_one Try.underlying36 (hval 1 36 v1 rfl rfl) opens_eds h1
  exact law_calls (tb := 4) (by kernel_rfl) rfl (by kernel_rfl) Try.underlying4 hW' rfl (fun o => ManifestReplays_spec hs0 (l := x1.l) k1.1 k1.2.1 rfl)

theorem manifestReplays_said : Rows.ManifestReplaysSaid :=
  OpenClaim.holds_of_wide 8 Try.f8 rfl rfl rfl rfl rfl rfl rfl ⟨rfl, rfl, rfl, rfl, rfl⟩ rfl rfl rfl rfl rfl (by kernel_rfl) Try.func8 (by kernel_rfl)
    (of_decide_eq_true (by kernel_rfl)) (by unfold Func.isWrapper; first | (rw [if_pos (by decide +kernel)]; kernel_rfl) | (rw [if_neg (by decide +kernel)]; exact ⟨rfl, rfl⟩))
    (fun os started H enc _ => manifestReplays_lifted os started H enc)

#print axioms manifestReplays_said
end Go.Proofs.Ytiefmfimbmkdjaa

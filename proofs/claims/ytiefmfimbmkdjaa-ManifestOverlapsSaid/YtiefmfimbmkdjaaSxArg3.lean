/-
  An array of three texts that came in.
  No condition; plain lemmas.
-/
import Derived.Test.YtiefmfimbmkdjaaSxRow
namespace Go.Proofs.Ytiefmfimbmkdjaa
set_option linter.unusedSimpArgs false
set_option linter.unusedVariables false
set_option linter.unusedSectionVars false
open Go.RowKit Go.ChangeShapes Go.WideShapes Go.ChangeAt
section
variable {P : Program}
theorem open_arr3 {t e : TypeId} {W : World} {base : Nat} {v : Value} (ht : P.underlying t = some (.array 3 e)) (he : P.underlying e = some .string) (hs : P.cellsOf t = 3) (hc : P.cellTypes P.depth t = some [e, e, e])
    (hok : Value.okWide P W .any base t v) : ∃ s0 s1 s2 : ByteArray, v = .agg #[.string s0, .string s1, .string s2] := by
  have cell : ∀ u, Cell.okWide P W .any base e u → ∃ s : ByteArray, u = .string s := by
    intro u hu
    simp only [Cell.okWide, he] at hu
    cases u <;> simp_all [Cell.ok]
  simp only [Value.okWide, ht] at hok
  obtain ⟨cs, rfl, hsz, ts, hts, _, hrow⟩ := hok
  rw [hc] at hts
  cases hts
  rw [hs] at hsz
  have h0 : cs[0]? = some cs[0] := Array.getElem?_eq_getElem (by omega)
  have h1 : cs[1]? = some cs[1] := Array.getElem?_eq_getElem (by omega)
  have h2 : cs[2]? = some cs[2] := Array.getElem?_eq_getElem (by omega)
  obtain ⟨u0, e0, k0⟩ := hrow 0 _ h0
  obtain ⟨u1, e1, k1⟩ := hrow 1 _ h1
  obtain ⟨u2, e2, k2⟩ := hrow 2 _ h2
  simp at e0 e1 e2
  subst e0; subst e1; subst e2
  obtain ⟨s0, h3⟩ := cell _ k0
  obtain ⟨s1, h4⟩ := cell _ k1
  obtain ⟨s2, h5⟩ := cell _ k2
  refine ⟨s0, s1, s2, ?_⟩
  congr 1
  apply Array.ext
  · simpa using hsz
  · intro i hi1 hi2
    have : i = 0 ∨ i = 1 ∨ i = 2 := by omega
    rcases this with rfl | rfl | rfl
    · simpa using h3
    · simpa using h4
    · simpa using h5
end
end Go.Proofs.Ytiefmfimbmkdjaa

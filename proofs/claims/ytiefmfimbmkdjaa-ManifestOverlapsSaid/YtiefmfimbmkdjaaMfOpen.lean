/-
  Tables and edits that came in.
  No condition; plain lemmas.
-/
import Derived.Test.YtiefmfimbmkdjaaSxArgs
import Derived.Test.YtiefmfimbmkdjaaMfB
import Derived.Test.YtiefmfimbmkdjaaRows
namespace Go.Proofs.Ytiefmfimbmkdjaa
set_option linter.unusedSimpArgs false
set_option linter.unusedVariables false
set_option linter.unusedSectionVars false
open Go.RowKit Go.ChangeShapes Go.WideShapes Go.ChangeAt

section
variable {H : Type} {enc : TypeId × Value → H} {W : World}
theorem opens_tab : Opens enc Try.prog W 46 encT (fun _ => True) :=
  opens_as (opens_struct4 Try.underlying46 (by kernel_rfl) ⟨rfl, rfl, rfl, rfl⟩ ⟨by kernel_rfl, by kernel_rfl, by kernel_rfl, by kernel_rfl⟩ (opens_int Try.underlying3) (opens_int Try.underlying3) (opens_str Try.underlying9) (opens_str Try.underlying9))
    (fun y => (⟨y.1, y.2.1, y.2.2.1, y.2.2.2⟩ : Tab)) (fun _ => rfl) (fun _ _ => trivial)
/-- an edit that came in -/
structure EdA where
  a : SlV Tab
  d : SlV Int
  log : Int
  next : Int
def EdA.ed (x : EdA) : Ed := ⟨x.a.l, x.d.l, x.log, x.next⟩
def encE (x : EdA) : List Value := edC x.a.p x.a.cap x.d.p x.d.cap x.ed
theorem encE_len (x : EdA) : (encE x).length = 4 := rfl
def EdOk (F : Hp) (x : EdA) : Prop := SlIn F encT 4 x.a.p x.ed.add ∧ SlIn F encI 1 x.d.p x.ed.drop ∧ x.ed.add.length ≤ 9223372036854775807 ∧ x.ed.drop.length ≤ 9223372036854775807
theorem opens_ed : Opens enc Try.prog W 25 encE (EdOk (hpOf W)) :=
  opens_as (opens_struct4 Try.underlying25 (by kernel_rfl) ⟨rfl, rfl, rfl, rfl⟩ ⟨by kernel_rfl, by kernel_rfl, by kernel_rfl, by kernel_rfl⟩ (opens_slice Try.underlying22 (by kernel_rfl) (by decide) opens_tab) (opens_slice Try.underlying23 (by kernel_rfl) (by decide) (opens_int Try.underlying3)) (opens_int Try.underlying3) (opens_int Try.underlying3))
    (fun y => (⟨y.1, y.2.1, y.2.2.1, y.2.2.2⟩ : EdA)) (fun _ => rfl) (fun y h => ⟨h.1.1, h.2.1.1, Nat.le_trans (Nat.le_trans h.1.2.2.1 h.1.2.2.2) (by decide), Nat.le_trans (Nat.le_trans h.2.1.2.2.1 h.2.1.2.2.2) (by decide)⟩)
theorem opens_eds : Opens enc Try.prog W 36 (fun s => [slV s]) (SlOk (hpOf W) encE 4 (EdOk (hpOf W))) := opens_slice Try.underlying36 (by kernel_rfl) (by decide) opens_ed
theorem str_of (a : ByteArray) : ∃ l, a = strOf l ∧ l.length = a.size := ⟨a.data.toList, by simp [strOf], by simp⟩
end
end Go.Proofs.Ytiefmfimbmkdjaa

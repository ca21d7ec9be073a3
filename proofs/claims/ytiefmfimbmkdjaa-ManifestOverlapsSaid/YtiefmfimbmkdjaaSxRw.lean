/-
  Rows that lie in chunks and are only read: their base, their elements.
  No condition; plain lemmas.
-/
import Derived.Test.YtiefmfimbmkdjaaSxArr
namespace Go.Proofs.Ytiefmfimbmkdjaa
set_option linter.unusedSimpArgs false
set_option linter.unusedVariables false
set_option linter.unusedSectionVars false
open Go.RowKit
variable [Obs]
section
variable {q : Md} {P : Program} {F : Hp} {n : Nat} {Q : Post} {σ : Sl} {H R : List HProp} {ops : Array Oper} {rest : List Oper}
variable {d : Nat} {ty : TypeId} {pos : String} {after : Array Edge} {T : TypeId} {x : Operand}
variable {α : Type} {k : Nat} {enc : α → List Value} {p : Option Addr} {l : List α}
/-- where a row begins that has an element -/
theorem Tr.rowBase {c : Code} (pk : Pick (RowC enc k p l) H R) (hl : 0 < l.length) (h : ∀ b o, p = some ⟨b, o, none⟩ → Tr P F n c Q σ H) : Tr P F n c Q σ H :=
  Tr.fact (p := ∃ b o, p = some ⟨b, o, none⟩) pk (fun _ ho => by
    rcases ho with h0 | ⟨b, o, hp, _⟩
    · subst h0; exact absurd hl (Nat.lt_irrefl _)
    · exact ⟨b, o, hp⟩) fun ⟨b, o, hp⟩ => h b o hp
theorem Sees.rowW {b o i : Nat} {v : α} (pk : Pick (RowC enc k (some ⟨b, o, none⟩) l) H R) (hi : l[i]? = some v) : Sees F H fun f => Cells f b (o + i * k) (enc v) := fun w s => by
  obtain ⟨b', o', hp, hc⟩ := Sees.rowC pk hi w s
  cases hp; exact hc
theorem TrL.loadW {b o off i : Nat} {v : α} (hd : Nat.ble (d + 1) n = true) (hx : ev σ x = some (.pointer (some ⟨b, off, none⟩))) (ht : aggr P T = true) (hk : szOf P T = some k) (pk : Pick (RowC enc k (some ⟨b, o, none⟩) l) H R) (ho : off = o + i * k) (hl : ∀ x, (enc x).length = k) (hi : l[i]? = some v)
    (h : TrL q P F n ops Q rest ((d, .agg (enc v).toArray) :: σ) H) : TrL q P F n ops Q (⟨some d, .load T x, ty, pos, after, none⟩ :: rest) σ H := by
  subst ho
  exact TrL.loadA hd hx ht (by rw [hl]; exact hk) (Sees.rowW pk hi) h
theorem TrL.loadW1 {b o off i j : Nat} {v : α} {u : Value} (hd : Nat.ble (d + 1) n = true) (hx : ev σ x = some (.pointer (some ⟨b, off, none⟩))) (ht : scal P T = true) (pk : Pick (RowC enc k (some ⟨b, o, none⟩) l) H R) (ho : off = o + i * k + j) (hi : l[i]? = some v) (hu : nv (enc v) j = some u)
    (h : TrL q P F n ops Q rest ((d, u) :: σ) H) : TrL q P F n ops Q (⟨some d, .load T x, ty, pos, after, none⟩ :: rest) σ H := by
  subst ho
  exact TrL.load1 hd hx ht (fun w s => (Sees.rowW pk hi w s).part hu) h
/-- an empty row -/
theorem Tr.row0 {c : Code} (enc : α → List Value) (k : Nat) (h : Tr P F n c Q σ (RowC enc k none [] :: H)) : Tr P F n c Q σ H := fun a w f s =>
  h a w f (s.imp fun g hg => ⟨Hp.emp, g, Hp.emp_dj _, Hp.emp_le _, Hp.le.refl _, RowC.nil _, hg⟩)
end
end Go.Proofs.Ytiefmfimbmkdjaa

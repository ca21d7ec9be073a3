/-
  The contracts of the small functions of package fs: names that may be.
  No condition but those that each statement names.
-/
import Derived.Test.YtojfmielpjccdaaSxTy
import Derived.Test.YtojfmielpjccdaaProg
namespace Go.Proofs.Ytojfmielpjccdaa
set_option linter.unusedSimpArgs false
set_option linter.unusedVariables false
set_option linter.unusedSectionVars false
open Go.RowKit
variable [Obs]

omit [Obs] in
theorem kb {K : Value → List HProp → Prop} {H : List HProp} {b c : Bool} (e : b = c) (h : K (.bool b) H) : K (tup [.bool c]) H := e ▸ h
omit [Obs] in
theorem ki {K : Value → List HProp → Prop} {H : List HProp} {k : IntKind} {b c : Int} (e : b = c) (h : K (.int k b) H) : K (tup [.int k c]) H := e ▸ h

/-- a rune that no name of a file has -/
def oddR (c : Int) : Bool := (decide (c < 97) || decide (122 < c)) && (decide (c < 48) || decide (57 < c)) && decide (c ≠ 46) && decide (c ≠ 45)
omit [Obs] in
theorem oddR_high {c : Int} (h : 128 ≤ c) : oddR c = true := by unfold oddR; simp; omega
/-- may a file have this name? -/
def nameOk (s : ByteArray) : Bool := decide (s ≠ ⟨#[]⟩) && decide (s.size ≤ 32) && !s.data.toList.any fun b => oddR (b.toNat : Int)
omit [Obs] in
theorem nameOk_of (s : ByteArray) {r : Int} (h : decide (0 ≤ r) = s.data.toList.any fun b => oddR (b.toNat : Int)) : nameOk s = (!(decide (s = ⟨#[]⟩)) && !decide (32 < (s.size : Int)) && !decide (0 ≤ r)) := by
  unfold nameOk; rw [h]
  have e1 : decide (s ≠ ⟨#[]⟩) = !decide (s = ⟨#[]⟩) := by simp
  have e2 : decide (s.size ≤ 32) = !decide (32 < (s.size : Int)) := by
    by_cases h : s.size ≤ 32
    · have : ¬ 32 < (s.size : Int) := by omega
      simp [h, this]
    · have : 32 < (s.size : Int) := by omega
      simp [h, this]
  rw [e1, e2]

theorem odd_spec {F : Hp} {K : Value → List HProp → Prop} {r : Int} (hK : K (.bool (oddR r)) []) : CallK Try.prog F 29 #[.int .i32 r] [] K := by
  refine CallK.enter Try.func29 rfl Try.ntmps29 rfl ?_
  refine Tr.seq ?_
  refine Tr.region ?_
  refine TrL.assign rfl rfl ?_
  refine TrL.nil (At.then_normal ?_)
  refine Tr.seq ?_
  refine Tr.region ?_
  refine TrL.move rfl rfl ?_
  refine TrL.lss rfl rfl rfl ?_
  refine TrL.move rfl rfl ?_
  refine TrL.cases (t := 5) rfl (fun h5 => ?_) (fun h5 => ?_)
  · try simp only [beq_iff_eq, beq_eq_false_iff_ne, Bool.not_eq_true, Bool.not_eq_false, decide_eq_true_eq, decide_eq_false_iff_not, Bool.not_eq_true', Bool.not_eq_false', bne_iff_ne, Bool.not_eq_eq_eq_not, Bool.not_true, Bool.not_false, ne_eq, Decidable.not_not, Int.not_lt, Int.not_le] at h5
    refine TrL.unwant rfl rfl rfl ?_
    refine TrL.unwant rfl rfl rfl ?_
    refine TrL.pickT rfl rfl rfl ?_
    refine TrL.move rfl rfl ?_
    refine TrL.want rfl rfl ?_
    refine TrL.move rfl rfl ?_
    refine TrL.want rfl rfl ?_
    refine TrL.lss rfl rfl rfl ?_
    refine TrL.want rfl rfl ?_
    refine TrL.move rfl rfl ?_
    refine TrL.cases (t := 12) rfl (fun h12 => ?_) (fun h12 => ?_)
    · try simp only [beq_iff_eq, beq_eq_false_iff_ne, Bool.not_eq_true, Bool.not_eq_false, decide_eq_true_eq, decide_eq_false_iff_not, Bool.not_eq_true', Bool.not_eq_false', bne_iff_ne, Bool.not_eq_eq_eq_not, Bool.not_true, Bool.not_false, ne_eq, Decidable.not_not, Int.not_lt, Int.not_le] at h12
      refine TrL.unwant rfl rfl rfl ?_
      refine TrL.unwant rfl rfl rfl ?_
      refine TrL.want rfl rfl ?_
      refine TrL.pickT rfl rfl rfl ?_
      refine TrL.pickT rfl rfl rfl ?_
      refine TrL.move rfl rfl ?_
      refine TrL.want rfl rfl ?_
      refine TrL.move rfl rfl ?_
      refine TrL.want rfl rfl ?_
      refine TrL.nei rfl rfl rfl ?_
      refine TrL.pickT rfl rfl rfl ?_
      refine TrL.move rfl rfl ?_
      refine TrL.cases (t := 21) rfl (fun h21 => ?_) (fun h21 => ?_)
      · try simp only [beq_iff_eq, beq_eq_false_iff_ne, Bool.not_eq_true, Bool.not_eq_false, decide_eq_true_eq, decide_eq_false_iff_not, Bool.not_eq_true', Bool.not_eq_false', bne_iff_ne, Bool.not_eq_eq_eq_not, Bool.not_true, Bool.not_false, ne_eq, Decidable.not_not, Int.not_lt, Int.not_le] at h21
        refine TrL.want rfl rfl ?_
        refine TrL.move rfl rfl ?_
        refine TrL.want rfl rfl ?_
        refine TrL.nei rfl rfl rfl ?_
        refine TrL.pickT rfl rfl rfl ?_
        refine TrL.assign rfl rfl ?_
        refine TrL.nil (At.then_normal ?_)
        refine Tr.ret (At.retP [] (.inl rfl) rfl (Res.tmp rfl Res.nil) (by repeat (first | exact Picks.nil | with_reducible exact Pick.here | with_reducible apply Pick.there | with_reducible apply Pick.app_nil | with_reducible apply Pick.app_cons | apply Picks.cons)) (by exact kb (by unfold oddR; grind) hK))
      · try simp only [beq_iff_eq, beq_eq_false_iff_ne, Bool.not_eq_true, Bool.not_eq_false, decide_eq_true_eq, decide_eq_false_iff_not, Bool.not_eq_true', Bool.not_eq_false', bne_iff_ne, Bool.not_eq_eq_eq_not, Bool.not_true, Bool.not_false, ne_eq, Decidable.not_not, Int.not_lt, Int.not_le] at h21
        refine TrL.unwant rfl rfl rfl ?_
        refine TrL.unwant rfl rfl rfl ?_
        refine TrL.pickF rfl rfl rfl ?_
        refine TrL.assign rfl rfl ?_
        refine TrL.nil (At.then_normal ?_)
        refine Tr.ret (At.retP [] (.inl rfl) rfl (Res.tmp rfl Res.nil) (by repeat (first | exact Picks.nil | with_reducible exact Pick.here | with_reducible apply Pick.there | with_reducible apply Pick.app_nil | with_reducible apply Pick.app_cons | apply Picks.cons)) (by exact kb (by unfold oddR; grind) hK))
    · try simp only [beq_iff_eq, beq_eq_false_iff_ne, Bool.not_eq_true, Bool.not_eq_false, decide_eq_true_eq, decide_eq_false_iff_not, Bool.not_eq_true', Bool.not_eq_false', bne_iff_ne, Bool.not_eq_eq_eq_not, Bool.not_true, Bool.not_false, ne_eq, Decidable.not_not, Int.not_lt, Int.not_le] at h12
      refine TrL.want rfl rfl ?_
      refine TrL.move rfl rfl ?_
      refine TrL.want rfl rfl ?_
      refine TrL.gtr rfl rfl rfl ?_
      refine TrL.want rfl rfl ?_
      refine TrL.pickF rfl rfl rfl ?_
      refine TrL.pickT rfl rfl rfl ?_
      refine TrL.move rfl rfl ?_
      refine TrL.cases (t := 17) rfl (fun h17 => ?_) (fun h17 => ?_)
      · try simp only [beq_iff_eq, beq_eq_false_iff_ne, Bool.not_eq_true, Bool.not_eq_false, decide_eq_true_eq, decide_eq_false_iff_not, Bool.not_eq_true', Bool.not_eq_false', bne_iff_ne, Bool.not_eq_eq_eq_not, Bool.not_true, Bool.not_false, ne_eq, Decidable.not_not, Int.not_lt, Int.not_le] at h17
        refine TrL.want rfl rfl ?_
        refine TrL.move rfl rfl ?_
        refine TrL.want rfl rfl ?_
        refine TrL.nei rfl rfl rfl ?_
        refine TrL.pickT rfl rfl rfl ?_
        refine TrL.move rfl rfl ?_
        refine TrL.cases (t := 21) rfl (fun h21 => ?_) (fun h21 => ?_)
        · try simp only [beq_iff_eq, beq_eq_false_iff_ne, Bool.not_eq_true, Bool.not_eq_false, decide_eq_true_eq, decide_eq_false_iff_not, Bool.not_eq_true', Bool.not_eq_false', bne_iff_ne, Bool.not_eq_eq_eq_not, Bool.not_true, Bool.not_false, ne_eq, Decidable.not_not, Int.not_lt, Int.not_le] at h21
          refine TrL.want rfl rfl ?_
          refine TrL.move rfl rfl ?_
          refine TrL.want rfl rfl ?_
          refine TrL.nei rfl rfl rfl ?_
          refine TrL.pickT rfl rfl rfl ?_
          refine TrL.assign rfl rfl ?_
          refine TrL.nil (At.then_normal ?_)
          refine Tr.ret (At.retP [] (.inl rfl) rfl (Res.tmp rfl Res.nil) (by repeat (first | exact Picks.nil | with_reducible exact Pick.here | with_reducible apply Pick.there | with_reducible apply Pick.app_nil | with_reducible apply Pick.app_cons | apply Picks.cons)) (by exact kb (by unfold oddR; grind) hK))
        · try simp only [beq_iff_eq, beq_eq_false_iff_ne, Bool.not_eq_true, Bool.not_eq_false, decide_eq_true_eq, decide_eq_false_iff_not, Bool.not_eq_true', Bool.not_eq_false', bne_iff_ne, Bool.not_eq_eq_eq_not, Bool.not_true, Bool.not_false, ne_eq, Decidable.not_not, Int.not_lt, Int.not_le] at h21
          refine TrL.unwant rfl rfl rfl ?_
          refine TrL.unwant rfl rfl rfl ?_
          refine TrL.pickF rfl rfl rfl ?_
          refine TrL.assign rfl rfl ?_
          refine TrL.nil (At.then_normal ?_)
          refine Tr.ret (At.retP [] (.inl rfl) rfl (Res.tmp rfl Res.nil) (by repeat (first | exact Picks.nil | with_reducible exact Pick.here | with_reducible apply Pick.there | with_reducible apply Pick.app_nil | with_reducible apply Pick.app_cons | apply Picks.cons)) (by exact kb (by unfold oddR; grind) hK))
      · try simp only [beq_iff_eq, beq_eq_false_iff_ne, Bool.not_eq_true, Bool.not_eq_false, decide_eq_true_eq, decide_eq_false_iff_not, Bool.not_eq_true', Bool.not_eq_false', bne_iff_ne, Bool.not_eq_eq_eq_not, Bool.not_true, Bool.not_false, ne_eq, Decidable.not_not, Int.not_lt, Int.not_le] at h17
        refine TrL.unwant rfl rfl rfl ?_
        refine TrL.unwant rfl rfl rfl ?_
        refine TrL.pickF rfl rfl rfl ?_
        refine TrL.move rfl rfl ?_
        refine TrL.unwant rfl rfl rfl ?_
        refine TrL.unwant rfl rfl rfl ?_
        refine TrL.pickF rfl rfl rfl ?_
        refine TrL.assign rfl rfl ?_
        refine TrL.nil (At.then_normal ?_)
        refine Tr.ret (At.retP [] (.inl rfl) rfl (Res.tmp rfl Res.nil) (by repeat (first | exact Picks.nil | with_reducible exact Pick.here | with_reducible apply Pick.there | with_reducible apply Pick.app_nil | with_reducible apply Pick.app_cons | apply Picks.cons)) (by exact kb (by unfold oddR; grind) hK))
  · try simp only [beq_iff_eq, beq_eq_false_iff_ne, Bool.not_eq_true, Bool.not_eq_false, decide_eq_true_eq, decide_eq_false_iff_not, Bool.not_eq_true', Bool.not_eq_false', bne_iff_ne, Bool.not_eq_eq_eq_not, Bool.not_true, Bool.not_false, ne_eq, Decidable.not_not, Int.not_lt, Int.not_le] at h5
    refine TrL.want rfl rfl ?_
    refine TrL.move rfl rfl ?_
    refine TrL.want rfl rfl ?_
    refine TrL.gtr rfl rfl rfl ?_
    refine TrL.pickF rfl rfl rfl ?_
    refine TrL.move rfl rfl ?_
    refine TrL.cases (t := 9) rfl (fun h9 => ?_) (fun h9 => ?_)
    · try simp only [beq_iff_eq, beq_eq_false_iff_ne, Bool.not_eq_true, Bool.not_eq_false, decide_eq_true_eq, decide_eq_false_iff_not, Bool.not_eq_true', Bool.not_eq_false', bne_iff_ne, Bool.not_eq_eq_eq_not, Bool.not_true, Bool.not_false, ne_eq, Decidable.not_not, Int.not_lt, Int.not_le] at h9
      refine TrL.want rfl rfl ?_
      refine TrL.move rfl rfl ?_
      refine TrL.want rfl rfl ?_
      refine TrL.lss rfl rfl rfl ?_
      refine TrL.want rfl rfl ?_
      refine TrL.move rfl rfl ?_
      refine TrL.cases (t := 12) rfl (fun h12 => ?_) (fun h12 => ?_)
      · try simp only [beq_iff_eq, beq_eq_false_iff_ne, Bool.not_eq_true, Bool.not_eq_false, decide_eq_true_eq, decide_eq_false_iff_not, Bool.not_eq_true', Bool.not_eq_false', bne_iff_ne, Bool.not_eq_eq_eq_not, Bool.not_true, Bool.not_false, ne_eq, Decidable.not_not, Int.not_lt, Int.not_le] at h12
        refine TrL.unwant rfl rfl rfl ?_
        refine TrL.unwant rfl rfl rfl ?_
        refine TrL.want rfl rfl ?_
        refine TrL.pickT rfl rfl rfl ?_
        refine TrL.pickT rfl rfl rfl ?_
        refine TrL.move rfl rfl ?_
        refine TrL.want rfl rfl ?_
        refine TrL.move rfl rfl ?_
        refine TrL.want rfl rfl ?_
        refine TrL.nei rfl rfl rfl ?_
        refine TrL.pickT rfl rfl rfl ?_
        refine TrL.move rfl rfl ?_
        refine TrL.cases (t := 21) rfl (fun h21 => ?_) (fun h21 => ?_)
        · try simp only [beq_iff_eq, beq_eq_false_iff_ne, Bool.not_eq_true, Bool.not_eq_false, decide_eq_true_eq, decide_eq_false_iff_not, Bool.not_eq_true', Bool.not_eq_false', bne_iff_ne, Bool.not_eq_eq_eq_not, Bool.not_true, Bool.not_false, ne_eq, Decidable.not_not, Int.not_lt, Int.not_le] at h21
          refine TrL.want rfl rfl ?_
          refine TrL.move rfl rfl ?_
          refine TrL.want rfl rfl ?_
          refine TrL.nei rfl rfl rfl ?_
          refine TrL.pickT rfl rfl rfl ?_
          refine TrL.assign rfl rfl ?_
          refine TrL.nil (At.then_normal ?_)
          refine Tr.ret (At.retP [] (.inl rfl) rfl (Res.tmp rfl Res.nil) (by repeat (first | exact Picks.nil | with_reducible exact Pick.here | with_reducible apply Pick.there | with_reducible apply Pick.app_nil | with_reducible apply Pick.app_cons | apply Picks.cons)) (by exact kb (by unfold oddR; grind) hK))
        · try simp only [beq_iff_eq, beq_eq_false_iff_ne, Bool.not_eq_true, Bool.not_eq_false, decide_eq_true_eq, decide_eq_false_iff_not, Bool.not_eq_true', Bool.not_eq_false', bne_iff_ne, Bool.not_eq_eq_eq_not, Bool.not_true, Bool.not_false, ne_eq, Decidable.not_not, Int.not_lt, Int.not_le] at h21
          refine TrL.unwant rfl rfl rfl ?_
          refine TrL.unwant rfl rfl rfl ?_
          refine TrL.pickF rfl rfl rfl ?_
          refine TrL.assign rfl rfl ?_
          refine TrL.nil (At.then_normal ?_)
          refine Tr.ret (At.retP [] (.inl rfl) rfl (Res.tmp rfl Res.nil) (by repeat (first | exact Picks.nil | with_reducible exact Pick.here | with_reducible apply Pick.there | with_reducible apply Pick.app_nil | with_reducible apply Pick.app_cons | apply Picks.cons)) (by exact kb (by unfold oddR; grind) hK))
      · try simp only [beq_iff_eq, beq_eq_false_iff_ne, Bool.not_eq_true, Bool.not_eq_false, decide_eq_true_eq, decide_eq_false_iff_not, Bool.not_eq_true', Bool.not_eq_false', bne_iff_ne, Bool.not_eq_eq_eq_not, Bool.not_true, Bool.not_false, ne_eq, Decidable.not_not, Int.not_lt, Int.not_le] at h12
        refine TrL.want rfl rfl ?_
        refine TrL.move rfl rfl ?_
        refine TrL.want rfl rfl ?_
        refine TrL.gtr rfl rfl rfl ?_
        refine TrL.want rfl rfl ?_
        refine TrL.pickF rfl rfl rfl ?_
        refine TrL.pickT rfl rfl rfl ?_
        refine TrL.move rfl rfl ?_
        refine TrL.cases (t := 17) rfl (fun h17 => ?_) (fun h17 => ?_)
        · try simp only [beq_iff_eq, beq_eq_false_iff_ne, Bool.not_eq_true, Bool.not_eq_false, decide_eq_true_eq, decide_eq_false_iff_not, Bool.not_eq_true', Bool.not_eq_false', bne_iff_ne, Bool.not_eq_eq_eq_not, Bool.not_true, Bool.not_false, ne_eq, Decidable.not_not, Int.not_lt, Int.not_le] at h17
          refine TrL.want rfl rfl ?_
          refine TrL.move rfl rfl ?_
          refine TrL.want rfl rfl ?_
          refine TrL.nei rfl rfl rfl ?_
          refine TrL.pickT rfl rfl rfl ?_
          refine TrL.move rfl rfl ?_
          refine TrL.cases (t := 21) rfl (fun h21 => ?_) (fun h21 => ?_)
          · try simp only [beq_iff_eq, beq_eq_false_iff_ne, Bool.not_eq_true, Bool.not_eq_false, decide_eq_true_eq, decide_eq_false_iff_not, Bool.not_eq_true', Bool.not_eq_false', bne_iff_ne, Bool.not_eq_eq_eq_not, Bool.not_true, Bool.not_false, ne_eq, Decidable.not_not, Int.not_lt, Int.not_le] at h21
            refine TrL.want rfl rfl ?_
            refine TrL.move rfl rfl ?_
            refine TrL.want rfl rfl ?_
            refine TrL.nei rfl rfl rfl ?_
            refine TrL.pickT rfl rfl rfl ?_
            refine TrL.assign rfl rfl ?_
            refine TrL.nil (At.then_normal ?_)
            refine Tr.ret (At.retP [] (.inl rfl) rfl (Res.tmp rfl Res.nil) (by repeat (first | exact Picks.nil | with_reducible exact Pick.here | with_reducible apply Pick.there | with_reducible apply Pick.app_nil | with_reducible apply Pick.app_cons | apply Picks.cons)) (by exact kb (by unfold oddR; grind) hK))
          · try simp only [beq_iff_eq, beq_eq_false_iff_ne, Bool.not_eq_true, Bool.not_eq_false, decide_eq_true_eq, decide_eq_false_iff_not, Bool.not_eq_true', Bool.not_eq_false', bne_iff_ne, Bool.not_eq_eq_eq_not, Bool.not_true, Bool.not_false, ne_eq, Decidable.not_not, Int.not_lt, Int.not_le] at h21
            refine TrL.unwant rfl rfl rfl ?_
            refine TrL.unwant rfl rfl rfl ?_
            refine TrL.pickF rfl rfl rfl ?_
            refine TrL.assign rfl rfl ?_
            refine TrL.nil (At.then_normal ?_)
            refine Tr.ret (At.retP [] (.inl rfl) rfl (Res.tmp rfl Res.nil) (by repeat (first | exact Picks.nil | with_reducible exact Pick.here | with_reducible apply Pick.there | with_reducible apply Pick.app_nil | with_reducible apply Pick.app_cons | apply Picks.cons)) (by exact kb (by unfold oddR; grind) hK))
        · try simp only [beq_iff_eq, beq_eq_false_iff_ne, Bool.not_eq_true, Bool.not_eq_false, decide_eq_true_eq, decide_eq_false_iff_not, Bool.not_eq_true', Bool.not_eq_false', bne_iff_ne, Bool.not_eq_eq_eq_not, Bool.not_true, Bool.not_false, ne_eq, Decidable.not_not, Int.not_lt, Int.not_le] at h17
          refine TrL.unwant rfl rfl rfl ?_
          refine TrL.unwant rfl rfl rfl ?_
          refine TrL.pickF rfl rfl rfl ?_
          refine TrL.move rfl rfl ?_
          refine TrL.unwant rfl rfl rfl ?_
          refine TrL.unwant rfl rfl rfl ?_
          refine TrL.pickF rfl rfl rfl ?_
          refine TrL.assign rfl rfl ?_
          refine TrL.nil (At.then_normal ?_)
          refine Tr.ret (At.retP [] (.inl rfl) rfl (Res.tmp rfl Res.nil) (by repeat (first | exact Picks.nil | with_reducible exact Pick.here | with_reducible apply Pick.there | with_reducible apply Pick.app_nil | with_reducible apply Pick.app_cons | apply Picks.cons)) (by exact kb (by unfold oddR; grind) hK))
    · try simp only [beq_iff_eq, beq_eq_false_iff_ne, Bool.not_eq_true, Bool.not_eq_false, decide_eq_true_eq, decide_eq_false_iff_not, Bool.not_eq_true', Bool.not_eq_false', bne_iff_ne, Bool.not_eq_eq_eq_not, Bool.not_true, Bool.not_false, ne_eq, Decidable.not_not, Int.not_lt, Int.not_le] at h9
      refine TrL.unwant rfl rfl rfl ?_
      refine TrL.unwant rfl rfl rfl ?_
      refine TrL.unwant rfl rfl rfl ?_
      refine TrL.unwantU rfl rfl rfl ?_
      refine TrL.unwantU rfl rfl rfl ?_
      refine TrL.unwant rfl rfl rfl ?_
      refine TrL.pickF rfl rfl rfl ?_
      refine TrL.move rfl rfl ?_
      refine TrL.unwant rfl rfl rfl ?_
      refine TrL.unwant rfl rfl rfl ?_
      refine TrL.pickF rfl rfl rfl ?_
      refine TrL.move rfl rfl ?_
      refine TrL.unwant rfl rfl rfl ?_
      refine TrL.unwant rfl rfl rfl ?_
      refine TrL.pickF rfl rfl rfl ?_
      refine TrL.assign rfl rfl ?_
      refine TrL.nil (At.then_normal ?_)
      refine Tr.ret (At.retP [] (.inl rfl) rfl (Res.tmp rfl Res.nil) (by repeat (first | exact Picks.nil | with_reducible exact Pick.here | with_reducible apply Pick.there | with_reducible apply Pick.app_nil | with_reducible apply Pick.app_cons | apply Picks.cons)) (by exact kb (by unfold oddR; grind) hK))

omit [Obs] in
theorem take_succ_of {α : Type} {l : List α} {i : Nat} (h : i < l.length) : l.take (i + 1) = l.take i ++ [l[i]] := by rw [List.take_succ_eq_append_getElem h]
omit [Obs] in
theorem byte_at (s : ByteArray) (i : Nat) (h : i < s.size) : (s[i]).toNat = (s.data.toList[i]'(by simpa using h)).toNat := by rfl

set_option maxHeartbeats 1000000 in
theorem indexFunc_spec {F : Hp} {K : Value → List HProp → Prop} {s : ByteArray} {g : FuncId} {pr : Int → Bool} (hg : ∀ (F : Hp) (K : Value → List HProp → Prop) (r : Int), K (.bool (pr r)) [] → CallK Try.prog F g #[.int .i32 r] [] K) (hc : callable Try.prog g = true)
    (hpr : ∀ r : Int, 128 ≤ r → pr r = true) (hK : ∀ r : Int, decide (0 ≤ r) = s.data.toList.any (fun b => pr (b.toNat : Int)) → K (.int .i64 r) []) : CallK Try.prog F 34 #[.string s, .func (.func g) #[] #[], .bool true] [] K := by
  refine CallK.enter Try.func34 rfl Try.ntmps34 rfl ?_
  refine Tr.seq ?_
  refine Tr.region ?_
  refine TrL.assign rfl rfl ?_
  refine TrL.nil (At.then_normal ?_)
  refine Tr.seq ?_
  refine Tr.seq ?_
  refine Tr.region ?_
  refine TrL.move rfl rfl ?_
  refine TrL.rangeS rfl rfl st9 (fun b10 => ?_)
  refine TrL.nil (At.then_normal ?_)
  refine Tr.block ?_
  refine Tr.loopK [1, 2, 10] (α := Nat) (fun i => []) (fun i => [pt b10 (.stringIter s i)]) (fun i => i ≤ s.size ∧ ∀ b ∈ s.data.toList.take i, pr (b.toNat : Int) = false) (fun i => s.size - i) (0) (by rfl) ?_ (by repeat (first | exact Sub.nil | refine Sub.cons (by rfl) ?_)) (by repeat (first | exact Picks.nil | with_reducible exact Pick.here | with_reducible apply Pick.there | with_reducible apply Pick.app_nil | with_reducible apply Pick.app_cons | apply Picks.cons)) ?_
  · exact ⟨Nat.zero_le _, by simp⟩
  rintro i ⟨hi, hall⟩
  refine Tr.seq ?_
  refine Tr.region ?_
  refine TrL.nextS rfl rfl (by repeat (first | with_reducible exact Upd.here | with_reducible apply Upd.there | with_reducible apply Upd.app_nil | with_reducible apply Upd.app_cons)) (fun hn11 => ?_) (fun hn11 => ?_)
  · skip
    refine TrL.extract rfl rfl rfl ?_
    refine TrL.nil (At.then_normal ?_)
    refine Tr.seq ?_
    refine Tr.condT rfl ?_
    refine Tr.skip (At.then_normal ?_)
    refine Tr.block ?_
    refine Tr.seq ?_
    refine Tr.region ?_
    refine TrL.extract rfl rfl rfl ?_
    refine TrL.extract rfl rfl rfl ?_
    refine TrL.assign rfl rfl ?_
    refine TrL.assign rfl rfl ?_
    refine TrL.nil (At.then_normal ?_)
    refine Tr.seq ?_
    refine Tr.region ?_
    refine TrL.move rfl rfl ?_
    refine TrL.move rfl rfl ?_
    refine TrL.call rfl rfl rfl hc .nil (fun F17 hU17 => hg _ _ _ ?_)
    refine TrL.move rfl rfl ?_
    refine TrL.eqb rfl rfl rfl bo4 ?_
    refine TrL.nil (At.then_normal ?_)
    refine Tr.cond rfl (fun h19 => ?_) (fun h19 => ?_)
    · try simp only [beq_iff_eq, beq_eq_false_iff_ne, Bool.not_eq_true, Bool.not_eq_false, decide_eq_true_eq, decide_eq_false_iff_not, Bool.not_eq_true', Bool.not_eq_false', bne_iff_ne, Bool.not_eq_eq_eq_not, Bool.not_true, Bool.not_false, ne_eq, Decidable.not_not, Int.not_lt, Int.not_le] at h19
      refine Tr.seq ?_
      refine Tr.region ?_
      refine TrL.move rfl rfl ?_
      refine TrL.assign rfl rfl ?_
      refine TrL.nil (At.then_normal ?_)
      refine Tr.ret (At.block_ret (At.then_ret (At.block_ret (At.then_ret (At.retP [] (.inl rfl) rfl (Res.tmp rfl Res.nil) (by repeat (first | exact Picks.nil | with_reducible exact Pick.here | with_reducible apply Pick.there | with_reducible apply Pick.app_nil | with_reducible apply Pick.app_cons | apply Picks.cons)) (by 
          refine hK _ ?_
          have hlt : i < s.data.toList.length := by simpa using hn11
          have h0 : decide (0 ≤ (i : Int)) = true := by simp
          rw [h0]; symm
          rw [List.any_eq_true]
          refine ⟨s.data.toList[i], List.getElem_mem _, ?_⟩
          by_cases ha : (s[i]).toNat < 128
          · have hda := decode_ascii s i hn11 ha
            rw [hda] at h19; exact h19
          · exact hpr _ (by have : (s[i]).toNat = (s.data.toList[i]).toNat := rfl; omega)))))))
    · try simp only [beq_iff_eq, beq_eq_false_iff_ne, Bool.not_eq_true, Bool.not_eq_false, decide_eq_true_eq, decide_eq_false_iff_not, Bool.not_eq_true', Bool.not_eq_false', bne_iff_ne, Bool.not_eq_eq_eq_not, Bool.not_true, Bool.not_false, ne_eq, Decidable.not_not, Int.not_lt, Int.not_le] at h19
      refine Tr.skip (At.block_normal ?_)
      have hlt : i < s.data.toList.length := by simpa using hn11
      have ha : (s[i]).toNat < 128 := by
        refine Nat.lt_of_not_le fun hge => ?_
        have := hpr _ (Int.ofNat_le.2 (decode_high s i hn11 hge).1)
        rw [h19] at this; cases this
      have hda := decode_ascii s i hn11 ha
      rw [hda] at h19
      rw [hda]
      refine At.again (i + 1) ⟨by omega, fun b hb => ?_⟩ (by omega) (by repeat (first | exact Sub.nil | refine Sub.cons (by rfl) ?_)) (by repeat (first | exact Picks.nil | with_reducible exact Pick.here | with_reducible apply Pick.there | with_reducible apply Pick.app_nil | with_reducible apply Pick.app_cons | apply Picks.cons))
      rw [take_succ_of hlt] at hb
      rcases List.mem_append.1 hb with hb | hb
      · exact hall b hb
      · simp only [List.mem_singleton] at hb
        subst hb
        exact h19
  · skip
    refine TrL.extract rfl rfl rfl ?_
    refine TrL.nil (At.then_normal ?_)
    refine Tr.seq ?_
    refine Tr.condF rfl ?_
    refine Tr.exit (At.then_exit (At.then_exit (At.block_hit (At.then_normal ?_))))
    refine Tr.seq ?_
    refine Tr.region ?_
    refine TrL.assign rfl rfl ?_
    refine TrL.nil (At.then_normal ?_)
    refine Tr.ret (At.retP [] (.inl rfl) rfl (Res.tmp rfl Res.nil) (by repeat (first | exact Picks.nil | with_reducible exact Pick.here | with_reducible apply Pick.there | with_reducible apply Pick.app_nil | with_reducible apply Pick.app_cons | apply Picks.cons)) (by 
        refine hK _ ?_
        have e : s.data.toList.take i = s.data.toList := List.take_of_length_le (by simp; omega)
        rw [e] at hall
        have h0 : decide (0 ≤ (-1 : Int)) = false := by decide
        rw [h0]; symm
        rw [List.any_eq_false]
        intro b hb
        rw [hall b hb]; decide))

theorem IndexFunc_spec {F : Hp} {K : Value → List HProp → Prop} {s : ByteArray} {g : FuncId} {pr : Int → Bool} (hg : ∀ (F : Hp) (K : Value → List HProp → Prop) (r : Int), K (.bool (pr r)) [] → CallK Try.prog F g #[.int .i32 r] [] K) (hc : callable Try.prog g = true)
    (hpr : ∀ r : Int, 128 ≤ r → pr r = true) (hK : ∀ r : Int, decide (0 ≤ r) = s.data.toList.any (fun b => pr (b.toNat : Int)) → K (.int .i64 r) []) : CallK Try.prog F 30 #[.string s, .func (.func g) #[] #[]] [] K := by
  refine CallK.enter Try.func30 rfl Try.ntmps30 rfl ?_
  refine Tr.seq ?_
  refine Tr.region ?_
  refine TrL.assign rfl rfl ?_
  refine TrL.nil (At.then_normal ?_)
  refine Tr.seq ?_
  refine Tr.region ?_
  refine TrL.move rfl rfl ?_
  refine TrL.move rfl rfl ?_
  refine TrL.call rfl rfl rfl ca34 .nil (fun Ft7 hUt7 => indexFunc_spec hg hc hpr (fun r hr => ?_))
  refine TrL.assign rfl rfl ?_
  refine TrL.nil (At.then_normal ?_)
  refine Tr.ret (At.retP [] (.inl rfl) rfl (Res.tmp rfl Res.nil) (by repeat (first | exact Picks.nil | with_reducible exact Pick.here | with_reducible apply Pick.there | with_reducible apply Pick.app_nil | with_reducible apply Pick.app_cons | apply Picks.cons)) (by exact hK r hr))
end Go.Proofs.Ytojfmielpjccdaa

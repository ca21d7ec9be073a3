/-
  The contracts of the small functions below package manifest: keys, tables that may be, numbers and texts as bytes, which of two tables stands first.
  No condition but those that each statement names.
-/
import Derived.Test.YtiefmfimbmkdjaaSxTy
import Derived.Test.YtiefmfimbmkdjaaProg
import Derived.Test.YtiefmfimbmkdjaaMfA
namespace Go.Proofs.Ytiefmfimbmkdjaa
set_option linter.unusedSimpArgs false
set_option linter.unusedVariables false
set_option linter.unusedSectionVars false
open Go.RowKit
variable [Obs]

theorem kb {K : Value → List HProp → Prop} {H : List HProp} {b c : Bool} (e : b = c) (h : K (.bool b) H) : K (tup [.bool c]) H := e ▸ h
theorem ki {K : Value → List HProp → Prop} {H : List HProp} {k : IntKind} {b c : Int} (e : b = c) (h : K (.int k b) H) : K (tup [.int k c]) H := e ▸ h
/-- how a table lies in cells -/
def encT (t : Tab) : List Value := [.int .i64 t.id, .int .i64 t.level, .string t.lo, .string t.hi]
omit [Obs] in
theorem encT_len (t : Tab) : (encT t).length = 4 := rfl
/-- an edit's cells -/
abbrev edC (pa : Option Addr) (ca : Nat) (pd : Option Addr) (cd : Nat) (e : Ed) : List Value := [.slice pa e.add.length ca, .slice pd e.drop.length cd, .int .i64 e.log, .int .i64 e.next]
/-- a state's cells -/
abbrev stC (p : Option Addr) (c : Nat) (s : Sta) : List Value := [.slice p s.tabs.length c, .int .i64 s.log, .int .i64 s.next]

/-! bytes -/
omit [Obs] in
theorem u8w (m : Nat) : IntKind.u8.wrap (m : Int) = ((UInt8.ofNat m).toNat : Int) := by
  rw [IntKind.wrap_u8, UInt8.toNat_ofNat']; omega
omit [Obs] in
theorem or8 : ∀ x : Nat, x < 256 → orI .u8 (x : Int) 128 = ((x % 128 + 128 : Nat) : Int) := by decide +kernel
omit [Obs] in
theorem orB (m : Nat) : orI .u8 (IntKind.u8.wrap (m : Int)) 128 = ((UInt8.ofNat (m % 128 + 128)).toNat : Int) := by
  rw [IntKind.wrap_u8, show (m : Int) % 256 = ((m % 256 : Nat) : Int) by omega, or8 _ (by omega), u8_toNat (by omega)]; omega
omit [Obs] in
theorem or64 : ∀ x : Nat, x < 128 → orI .i64 (x : Int) 128 = ((x + 128 : Nat) : Int) := by decide +kernel
omit [Obs] in
theorem and64 (m : Nat) (h : m ≤ 4611686018427387904) : andI .i64 (m : Int) 127 = ((m % 128 : Nat) : Int) := by
  unfold andI
  have e1 : (BitVec.ofInt IntKind.i64.bits (m : Int)).toNat = m := by
    show (BitVec.ofInt 64 (m : Int)).toNat = m
    rw [BitVec.toNat_ofInt]; omega
  rw [BitVec.toNat_and, e1, show (BitVec.ofInt IntKind.i64.bits 127).toNat = 2 ^ 7 - 1 from by decide, Nat.and_two_pow_sub_one_eq_mod]
  exact wrap_i64 ⟨by omega, by omega⟩
omit [Obs] in
theorem orB2 (m : Nat) (h : m ≤ 4611686018427387904) : IntKind.u8.wrap (orI .i64 (andI .i64 (m : Int) 127) 128) = ((UInt8.ofNat (m % 128 + 128)).toNat : Int) := by
  rw [and64 m h, or64 _ (by omega), u8w]
omit [Obs] in
theorem shr7 (m : Nat) : shrI .i64 (m : Int) 7 = ((m / 128 : Nat) : Int) := by
  unfold shrI
  show Int.fdiv _ 128 = _
  rw [Int.fdiv_eq_ediv_of_nonneg _ (by decide)]; omega
omit [Obs] in
theorem and8 : ∀ x : Nat, x < 256 → andI .u8 (x : Int) 127 = ((x % 128 : Nat) : Int) := by decide +kernel
omit [Obs] in
theorem orShl {n c k : Nat} (hk : k ≤ 8) (hn : n < 2 ^ (7 * k)) (hc : c < 256) : orI .i64 (n : Int) (shlI .i64 (IntKind.i64.wrap (andI .u8 (c : Int) 127)) (7 * (k : Int))) = ((n + c % 128 * 2 ^ (7 * k) : Nat) : Int) := by
  rw [and8 c hc, wrap_i64 (a := ((c % 128 : Nat) : Int)) ⟨by omega, by omega⟩]
  have hp : 2 ^ (7 * k) ≤ 2 ^ 56 := Nat.pow_le_pow_right (by decide) (by omega)
  have hm : c % 128 * 2 ^ (7 * k) ≤ 127 * 2 ^ (7 * k) := Nat.mul_le_mul_right _ (by omega)
  have hsum : n + c % 128 * 2 ^ (7 * k) < 9223372036854775808 := by
    have : n + c % 128 * 2 ^ (7 * k) < 128 * 2 ^ (7 * k) := by omega
    have h2 : 128 * 2 ^ (7 * k) ≤ 128 * 2 ^ 56 := Nat.mul_le_mul_left _ hp
    omega
  have e1 : shlI .i64 ((c % 128 : Nat) : Int) (7 * (k : Int)) = ((c % 128 * 2 ^ (7 * k) : Nat) : Int) := by
    unfold shlI
    rw [show min (7 * (k : Int)).toNat IntKind.i64.bits = 7 * k by show min _ 64 = _; omega]
    rw [show ((c % 128 : Nat) : Int) * 2 ^ (7 * k) = ((c % 128 * 2 ^ (7 * k) : Nat) : Int) by push_cast; rfl]
    exact wrap_i64 ⟨by omega, by omega⟩
  rw [e1]
  unfold orI
  have t1 : (BitVec.ofInt IntKind.i64.bits (n : Int)).toNat = n := by
    show (BitVec.ofInt 64 (n : Int)).toNat = n
    rw [BitVec.toNat_ofInt]; omega
  have t2 : (BitVec.ofInt IntKind.i64.bits ((c % 128 * 2 ^ (7 * k) : Nat) : Int)).toNat = c % 128 * 2 ^ (7 * k) := by
    show (BitVec.ofInt 64 ((c % 128 * 2 ^ (7 * k) : Nat) : Int)).toNat = _
    rw [BitVec.toNat_ofInt]; omega
  rw [BitVec.toNat_or, t1, t2]
  have h3 : n ||| c % 128 * 2 ^ (7 * k) = n + c % 128 * 2 ^ (7 * k) := by
    rw [Nat.or_comm, Nat.mul_comm (c % 128), ← Nat.two_pow_add_eq_or_of_lt hn, Nat.add_comm]
  rw [h3]
  exact wrap_i64 ⟨by omega, by omega⟩

omit [Obs] in
theorem size0 {t : ByteArray} : t = ⟨#[]⟩ ↔ t.size = 0 := ⟨fun h => by subst h; rfl, fun h => by
  have : t.data.toList = [] := List.eq_nil_of_length_eq_zero (by simpa using h)
  exact bytes_ext (by rw [this])⟩
theorem Key_spec {F : Hp} {K : Value → List HProp → Prop} {t : ByteArray} (hK : K (.bool (keyOk t)) []) : CallK Try.prog F 45 #[.string t] [] K := by
  refine CallK.enter Try.func45 rfl Try.ntmps45 rfl ?_
  refine Tr.seq ?_
  refine Tr.region ?_
  refine TrL.assign rfl rfl ?_
  refine TrL.nil (At.then_normal ?_)
  refine Tr.seq ?_
  refine Tr.region ?_
  refine TrL.move rfl rfl ?_
  refine TrL.nes rfl rfl rfl ?_
  refine TrL.move rfl rfl ?_
  refine TrL.cases (t := 5) rfl (fun h5 => ?_) (fun h5 => ?_)
  · try simp only [beq_iff_eq, beq_eq_false_iff_ne, Bool.not_eq_true, Bool.not_eq_false, decide_eq_true_eq, decide_eq_false_iff_not, Bool.not_eq_true', Bool.not_eq_false', bne_iff_ne, Bool.not_eq_eq_eq_not, Bool.not_true, Bool.not_false, ne_eq, Decidable.not_not, Int.not_lt, Int.not_le] at h5
    refine TrL.want rfl rfl ?_
    refine TrL.move rfl rfl ?_
    refine TrL.want rfl rfl ?_
    refine TrL.lens rfl rfl st9 ?_
    refine TrL.want rfl rfl ?_
    refine TrL.leq rfl rfl rfl ?_
    refine TrL.pickT rfl rfl rfl ?_
    refine TrL.assign rfl rfl ?_
    refine TrL.nil (At.then_normal ?_)
    refine Tr.ret (At.retP [] (.inl rfl) rfl (Res.tmp rfl Res.nil) (by repeat (first | exact Picks.nil | with_reducible exact Pick.here | with_reducible apply Pick.there | with_reducible apply Pick.app_nil | with_reducible apply Pick.app_cons | apply Picks.cons)) (by exact kb (by unfold keyOk; grind [size0]) hK))
  · try simp only [beq_iff_eq, beq_eq_false_iff_ne, Bool.not_eq_true, Bool.not_eq_false, decide_eq_true_eq, decide_eq_false_iff_not, Bool.not_eq_true', Bool.not_eq_false', bne_iff_ne, Bool.not_eq_eq_eq_not, Bool.not_true, Bool.not_false, ne_eq, Decidable.not_not, Int.not_lt, Int.not_le] at h5
    refine TrL.unwant rfl rfl rfl ?_
    refine TrL.unwant rfl rfl rfl ?_
    refine TrL.unwant rfl rfl rfl ?_
    refine TrL.pickF rfl rfl rfl ?_
    refine TrL.assign rfl rfl ?_
    refine TrL.nil (At.then_normal ?_)
    refine Tr.ret (At.retP [] (.inl rfl) rfl (Res.tmp rfl Res.nil) (by repeat (first | exact Picks.nil | with_reducible exact Pick.here | with_reducible apply Pick.there | with_reducible apply Pick.app_nil | with_reducible apply Pick.app_cons | apply Picks.cons)) (by exact kb (by unfold keyOk; grind [size0]) hK))
theorem KeyR_spec {F : Hp} {K : Value → List HProp → Prop} {t : ByteArray} (hK : K (.bool (keyOk t)) []) : CallK Try.prog F 71 #[.string t] [] K := by
  refine CallK.enter Try.func71 rfl Try.ntmps71 rfl ?_
  refine Tr.seq ?_
  refine Tr.region ?_
  refine TrL.assign rfl rfl ?_
  refine TrL.nil (At.then_normal ?_)
  refine Tr.seq ?_
  refine Tr.region ?_
  refine TrL.move rfl rfl ?_
  refine TrL.lens rfl rfl st9 ?_
  refine TrL.geq rfl rfl rfl ?_
  refine TrL.move rfl rfl ?_
  refine TrL.cases (t := 6) rfl (fun h6 => ?_) (fun h6 => ?_)
  · try simp only [beq_iff_eq, beq_eq_false_iff_ne, Bool.not_eq_true, Bool.not_eq_false, decide_eq_true_eq, decide_eq_false_iff_not, Bool.not_eq_true', Bool.not_eq_false', bne_iff_ne, Bool.not_eq_eq_eq_not, Bool.not_true, Bool.not_false, ne_eq, Decidable.not_not, Int.not_lt, Int.not_le] at h6
    refine TrL.want rfl rfl ?_
    refine TrL.move rfl rfl ?_
    refine TrL.want rfl rfl ?_
    refine TrL.lens rfl rfl st9 ?_
    refine TrL.want rfl rfl ?_
    refine TrL.leq rfl rfl rfl ?_
    refine TrL.pickT rfl rfl rfl ?_
    refine TrL.assign rfl rfl ?_
    refine TrL.nil (At.then_normal ?_)
    refine Tr.ret (At.retP [] (.inl rfl) rfl (Res.tmp rfl Res.nil) (by repeat (first | exact Picks.nil | with_reducible exact Pick.here | with_reducible apply Pick.there | with_reducible apply Pick.app_nil | with_reducible apply Pick.app_cons | apply Picks.cons)) (by exact kb (by unfold keyOk; grind) hK))
  · try simp only [beq_iff_eq, beq_eq_false_iff_ne, Bool.not_eq_true, Bool.not_eq_false, decide_eq_true_eq, decide_eq_false_iff_not, Bool.not_eq_true', Bool.not_eq_false', bne_iff_ne, Bool.not_eq_eq_eq_not, Bool.not_true, Bool.not_false, ne_eq, Decidable.not_not, Int.not_lt, Int.not_le] at h6
    refine TrL.unwant rfl rfl rfl ?_
    refine TrL.unwant rfl rfl rfl ?_
    refine TrL.unwant rfl rfl rfl ?_
    refine TrL.pickF rfl rfl rfl ?_
    refine TrL.assign rfl rfl ?_
    refine TrL.nil (At.then_normal ?_)
    refine Tr.ret (At.retP [] (.inl rfl) rfl (Res.tmp rfl Res.nil) (by repeat (first | exact Picks.nil | with_reducible exact Pick.here | with_reducible apply Pick.there | with_reducible apply Pick.app_nil | with_reducible apply Pick.app_cons | apply Picks.cons)) (by exact kb (by unfold keyOk; grind) hK))
theorem odd_spec {F : Hp} {K : Value → List HProp → Prop} {t : Tab} (hK : K (.bool (!tabOk t)) []) : CallK Try.prog F 44 #[.agg (encT t).toArray] [] K := by
  refine CallK.enter Try.func44 rfl Try.ntmps44 rfl ?_
  refine Tr.seq ?_
  refine Tr.region ?_
  refine TrL.boxA rfl rfl (fun b1 => ?_)
  refine TrL.assign rfl rfl ?_
  refine TrL.nil (At.then_normal ?_)
  refine Tr.seq ?_
  refine Tr.region ?_
  refine TrL.field0 rfl rfl fl46_0 ?_
  refine TrL.load1 rfl rfl sc3 (Sees.cl1 (by repeat (first | with_reducible exact Pick.here | with_reducible apply Pick.there | with_reducible apply Pick.app_nil | with_reducible apply Pick.app_cons)) (by rfl)) ?_
  refine TrL.lss rfl rfl rfl ?_
  refine TrL.move rfl rfl ?_
  refine TrL.cases (t := 6) rfl (fun h6 => ?_) (fun h6 => ?_)
  · try simp only [beq_iff_eq, beq_eq_false_iff_ne, Bool.not_eq_true, Bool.not_eq_false, decide_eq_true_eq, decide_eq_false_iff_not, Bool.not_eq_true', Bool.not_eq_false', bne_iff_ne, Bool.not_eq_eq_eq_not, Bool.not_true, Bool.not_false, ne_eq, Decidable.not_not, Int.not_lt, Int.not_le] at h6
    refine TrL.unwant rfl rfl rfl ?_
    refine TrL.unwant rfl rfl rfl ?_
    refine TrL.unwant rfl rfl rfl ?_
    refine TrL.pickT rfl rfl rfl ?_
    refine TrL.move rfl rfl ?_
    refine TrL.unwant rfl rfl rfl ?_
    refine TrL.unwant rfl rfl rfl ?_
    refine TrL.unwant rfl rfl rfl ?_
    refine TrL.pickT rfl rfl rfl ?_
    refine TrL.move rfl rfl ?_
    refine TrL.unwant rfl rfl rfl ?_
    refine TrL.unwant rfl rfl rfl ?_
    refine TrL.unwant rfl rfl rfl ?_
    refine TrL.pickT rfl rfl rfl ?_
    refine TrL.move rfl rfl ?_
    refine TrL.unwant rfl rfl rfl ?_
    refine TrL.unwant rfl rfl rfl ?_
    refine TrL.unwant rfl rfl rfl ?_
    refine TrL.unwant rfl rfl rfl ?_
    refine TrL.pickT rfl rfl rfl ?_
    refine TrL.move rfl rfl ?_
    refine TrL.unwant rfl rfl rfl ?_
    refine TrL.unwant rfl rfl rfl ?_
    refine TrL.unwant rfl rfl rfl ?_
    refine TrL.unwant rfl rfl rfl ?_
    refine TrL.pickT rfl rfl rfl ?_
    refine TrL.move rfl rfl ?_
    refine TrL.unwant rfl rfl rfl ?_
    refine TrL.unwant rfl rfl rfl ?_
    refine TrL.unwant rfl rfl rfl ?_
    refine TrL.unwant rfl rfl rfl ?_
    refine TrL.unwant rfl rfl rfl ?_
    refine TrL.pickT rfl rfl rfl ?_
    refine TrL.assign rfl rfl ?_
    refine TrL.nil (At.then_normal ?_)
    refine Tr.ret (At.retP [] (.inl rfl) rfl (Res.tmp rfl Res.nil) (by repeat (first | exact Picks.nil | with_reducible exact Pick.here | with_reducible apply Pick.there | with_reducible apply Pick.app_nil | with_reducible apply Pick.app_cons | apply Picks.cons)) (by exact kb (by unfold tabOk; grind) hK))
  · try simp only [beq_iff_eq, beq_eq_false_iff_ne, Bool.not_eq_true, Bool.not_eq_false, decide_eq_true_eq, decide_eq_false_iff_not, Bool.not_eq_true', Bool.not_eq_false', bne_iff_ne, Bool.not_eq_eq_eq_not, Bool.not_true, Bool.not_false, ne_eq, Decidable.not_not, Int.not_lt, Int.not_le] at h6
    refine TrL.want rfl rfl ?_
    refine TrL.field0 rfl rfl fl46_0 ?_
    refine TrL.want rfl rfl ?_
    refine TrL.load1 rfl rfl sc3 (Sees.cl1 (by repeat (first | with_reducible exact Pick.here | with_reducible apply Pick.there | with_reducible apply Pick.app_nil | with_reducible apply Pick.app_cons)) (by rfl)) ?_
    refine TrL.want rfl rfl ?_
    refine TrL.gtr rfl rfl rfl ?_
    refine TrL.pickF rfl rfl rfl ?_
    refine TrL.move rfl rfl ?_
    refine TrL.cases (t := 11) rfl (fun h11 => ?_) (fun h11 => ?_)
    · try simp only [beq_iff_eq, beq_eq_false_iff_ne, Bool.not_eq_true, Bool.not_eq_false, decide_eq_true_eq, decide_eq_false_iff_not, Bool.not_eq_true', Bool.not_eq_false', bne_iff_ne, Bool.not_eq_eq_eq_not, Bool.not_true, Bool.not_false, ne_eq, Decidable.not_not, Int.not_lt, Int.not_le] at h11
      refine TrL.unwant rfl rfl rfl ?_
      refine TrL.unwant rfl rfl rfl ?_
      refine TrL.unwant rfl rfl rfl ?_
      refine TrL.pickT rfl rfl rfl ?_
      refine TrL.move rfl rfl ?_
      refine TrL.unwant rfl rfl rfl ?_
      refine TrL.unwant rfl rfl rfl ?_
      refine TrL.unwant rfl rfl rfl ?_
      refine TrL.pickT rfl rfl rfl ?_
      refine TrL.move rfl rfl ?_
      refine TrL.unwant rfl rfl rfl ?_
      refine TrL.unwant rfl rfl rfl ?_
      refine TrL.unwant rfl rfl rfl ?_
      refine TrL.unwant rfl rfl rfl ?_
      refine TrL.pickT rfl rfl rfl ?_
      refine TrL.move rfl rfl ?_
      refine TrL.unwant rfl rfl rfl ?_
      refine TrL.unwant rfl rfl rfl ?_
      refine TrL.unwant rfl rfl rfl ?_
      refine TrL.unwant rfl rfl rfl ?_
      refine TrL.pickT rfl rfl rfl ?_
      refine TrL.move rfl rfl ?_
      refine TrL.unwant rfl rfl rfl ?_
      refine TrL.unwant rfl rfl rfl ?_
      refine TrL.unwant rfl rfl rfl ?_
      refine TrL.unwant rfl rfl rfl ?_
      refine TrL.unwant rfl rfl rfl ?_
      refine TrL.pickT rfl rfl rfl ?_
      refine TrL.assign rfl rfl ?_
      refine TrL.nil (At.then_normal ?_)
      refine Tr.ret (At.retP [] (.inl rfl) rfl (Res.tmp rfl Res.nil) (by repeat (first | exact Picks.nil | with_reducible exact Pick.here | with_reducible apply Pick.there | with_reducible apply Pick.app_nil | with_reducible apply Pick.app_cons | apply Picks.cons)) (by exact kb (by unfold tabOk; grind) hK))
    · try simp only [beq_iff_eq, beq_eq_false_iff_ne, Bool.not_eq_true, Bool.not_eq_false, decide_eq_true_eq, decide_eq_false_iff_not, Bool.not_eq_true', Bool.not_eq_false', bne_iff_ne, Bool.not_eq_eq_eq_not, Bool.not_true, Bool.not_false, ne_eq, Decidable.not_not, Int.not_lt, Int.not_le] at h11
      refine TrL.want rfl rfl ?_
      refine TrL.field rfl rfl fl46_1 ?_
      refine TrL.want rfl rfl ?_
      refine TrL.load1 rfl rfl sc3 (Sees.cl1 (by repeat (first | with_reducible exact Pick.here | with_reducible apply Pick.there | with_reducible apply Pick.app_nil | with_reducible apply Pick.app_cons)) (by rfl)) ?_
      refine TrL.want rfl rfl ?_
      refine TrL.lss rfl rfl rfl ?_
      refine TrL.pickF rfl rfl rfl ?_
      refine TrL.move rfl rfl ?_
      refine TrL.cases (t := 16) rfl (fun h16 => ?_) (fun h16 => ?_)
      · try simp only [beq_iff_eq, beq_eq_false_iff_ne, Bool.not_eq_true, Bool.not_eq_false, decide_eq_true_eq, decide_eq_false_iff_not, Bool.not_eq_true', Bool.not_eq_false', bne_iff_ne, Bool.not_eq_eq_eq_not, Bool.not_true, Bool.not_false, ne_eq, Decidable.not_not, Int.not_lt, Int.not_le] at h16
        refine TrL.unwant rfl rfl rfl ?_
        refine TrL.unwant rfl rfl rfl ?_
        refine TrL.unwant rfl rfl rfl ?_
        refine TrL.pickT rfl rfl rfl ?_
        refine TrL.move rfl rfl ?_
        refine TrL.unwant rfl rfl rfl ?_
        refine TrL.unwant rfl rfl rfl ?_
        refine TrL.unwant rfl rfl rfl ?_
        refine TrL.unwant rfl rfl rfl ?_
        refine TrL.pickT rfl rfl rfl ?_
        refine TrL.move rfl rfl ?_
        refine TrL.unwant rfl rfl rfl ?_
        refine TrL.unwant rfl rfl rfl ?_
        refine TrL.unwant rfl rfl rfl ?_
        refine TrL.unwant rfl rfl rfl ?_
        refine TrL.pickT rfl rfl rfl ?_
        refine TrL.move rfl rfl ?_
        refine TrL.unwant rfl rfl rfl ?_
        refine TrL.unwant rfl rfl rfl ?_
        refine TrL.unwant rfl rfl rfl ?_
        refine TrL.unwant rfl rfl rfl ?_
        refine TrL.unwant rfl rfl rfl ?_
        refine TrL.pickT rfl rfl rfl ?_
        refine TrL.assign rfl rfl ?_
        refine TrL.nil (At.then_normal ?_)
        refine Tr.ret (At.retP [] (.inl rfl) rfl (Res.tmp rfl Res.nil) (by repeat (first | exact Picks.nil | with_reducible exact Pick.here | with_reducible apply Pick.there | with_reducible apply Pick.app_nil | with_reducible apply Pick.app_cons | apply Picks.cons)) (by exact kb (by unfold tabOk; grind) hK))
      · try simp only [beq_iff_eq, beq_eq_false_iff_ne, Bool.not_eq_true, Bool.not_eq_false, decide_eq_true_eq, decide_eq_false_iff_not, Bool.not_eq_true', Bool.not_eq_false', bne_iff_ne, Bool.not_eq_eq_eq_not, Bool.not_true, Bool.not_false, ne_eq, Decidable.not_not, Int.not_lt, Int.not_le] at h16
        refine TrL.want rfl rfl ?_
        refine TrL.field rfl rfl fl46_1 ?_
        refine TrL.want rfl rfl ?_
        refine TrL.load1 rfl rfl sc3 (Sees.cl1 (by repeat (first | with_reducible exact Pick.here | with_reducible apply Pick.there | with_reducible apply Pick.app_nil | with_reducible apply Pick.app_cons)) (by rfl)) ?_
        refine TrL.want rfl rfl ?_
        refine TrL.geq rfl rfl rfl ?_
        refine TrL.pickF rfl rfl rfl ?_
        refine TrL.move rfl rfl ?_
        refine TrL.cases (t := 21) rfl (fun h21 => ?_) (fun h21 => ?_)
        · try simp only [beq_iff_eq, beq_eq_false_iff_ne, Bool.not_eq_true, Bool.not_eq_false, decide_eq_true_eq, decide_eq_false_iff_not, Bool.not_eq_true', Bool.not_eq_false', bne_iff_ne, Bool.not_eq_eq_eq_not, Bool.not_true, Bool.not_false, ne_eq, Decidable.not_not, Int.not_lt, Int.not_le] at h21
          refine TrL.unwant rfl rfl rfl ?_
          refine TrL.unwant rfl rfl rfl ?_
          refine TrL.unwant rfl rfl rfl ?_
          refine TrL.unwant rfl rfl rfl ?_
          refine TrL.pickT rfl rfl rfl ?_
          refine TrL.move rfl rfl ?_
          refine TrL.unwant rfl rfl rfl ?_
          refine TrL.unwant rfl rfl rfl ?_
          refine TrL.unwant rfl rfl rfl ?_
          refine TrL.unwant rfl rfl rfl ?_
          refine TrL.pickT rfl rfl rfl ?_
          refine TrL.move rfl rfl ?_
          refine TrL.unwant rfl rfl rfl ?_
          refine TrL.unwant rfl rfl rfl ?_
          refine TrL.unwant rfl rfl rfl ?_
          refine TrL.unwant rfl rfl rfl ?_
          refine TrL.unwant rfl rfl rfl ?_
          refine TrL.pickT rfl rfl rfl ?_
          refine TrL.assign rfl rfl ?_
          refine TrL.nil (At.then_normal ?_)
          refine Tr.ret (At.retP [] (.inl rfl) rfl (Res.tmp rfl Res.nil) (by repeat (first | exact Picks.nil | with_reducible exact Pick.here | with_reducible apply Pick.there | with_reducible apply Pick.app_nil | with_reducible apply Pick.app_cons | apply Picks.cons)) (by exact kb (by unfold tabOk; grind) hK))
        · try simp only [beq_iff_eq, beq_eq_false_iff_ne, Bool.not_eq_true, Bool.not_eq_false, decide_eq_true_eq, decide_eq_false_iff_not, Bool.not_eq_true', Bool.not_eq_false', bne_iff_ne, Bool.not_eq_eq_eq_not, Bool.not_true, Bool.not_false, ne_eq, Decidable.not_not, Int.not_lt, Int.not_le] at h21
          refine TrL.want rfl rfl ?_
          refine TrL.field rfl rfl fl46_2 ?_
          refine TrL.want rfl rfl ?_
          refine TrL.load1 rfl rfl sc9 (Sees.cl1 (by repeat (first | with_reducible exact Pick.here | with_reducible apply Pick.there | with_reducible apply Pick.app_nil | with_reducible apply Pick.app_cons)) (by rfl)) ?_
          refine TrL.want rfl rfl ?_
          refine TrL.call rfl rfl rfl ca45 .nil (fun Ft24 hUt24 => Key_spec ?_)
          refine TrL.want rfl rfl ?_
          refine TrL.not rfl rfl ?_
          refine TrL.pickF rfl rfl rfl ?_
          refine TrL.move rfl rfl ?_
          refine TrL.cases (t := 27) rfl (fun h27 => ?_) (fun h27 => ?_)
          · try simp only [beq_iff_eq, beq_eq_false_iff_ne, Bool.not_eq_true, Bool.not_eq_false, decide_eq_true_eq, decide_eq_false_iff_not, Bool.not_eq_true', Bool.not_eq_false', bne_iff_ne, Bool.not_eq_eq_eq_not, Bool.not_true, Bool.not_false, ne_eq, Decidable.not_not, Int.not_lt, Int.not_le] at h27
            refine TrL.unwant rfl rfl rfl ?_
            refine TrL.unwant rfl rfl rfl ?_
            refine TrL.unwant rfl rfl rfl ?_
            refine TrL.unwant rfl rfl rfl ?_
            refine TrL.pickT rfl rfl rfl ?_
            refine TrL.move rfl rfl ?_
            refine TrL.unwant rfl rfl rfl ?_
            refine TrL.unwant rfl rfl rfl ?_
            refine TrL.unwant rfl rfl rfl ?_
            refine TrL.unwant rfl rfl rfl ?_
            refine TrL.unwant rfl rfl rfl ?_
            refine TrL.pickT rfl rfl rfl ?_
            refine TrL.assign rfl rfl ?_
            refine TrL.nil (At.then_normal ?_)
            refine Tr.ret (At.retP [] (.inl rfl) rfl (Res.tmp rfl Res.nil) (by repeat (first | exact Picks.nil | with_reducible exact Pick.here | with_reducible apply Pick.there | with_reducible apply Pick.app_nil | with_reducible apply Pick.app_cons | apply Picks.cons)) (by exact kb (by unfold tabOk; grind) hK))
          · try simp only [beq_iff_eq, beq_eq_false_iff_ne, Bool.not_eq_true, Bool.not_eq_false, decide_eq_true_eq, decide_eq_false_iff_not, Bool.not_eq_true', Bool.not_eq_false', bne_iff_ne, Bool.not_eq_eq_eq_not, Bool.not_true, Bool.not_false, ne_eq, Decidable.not_not, Int.not_lt, Int.not_le] at h27
            refine TrL.want rfl rfl ?_
            refine TrL.field rfl rfl fl46_3 ?_
            refine TrL.want rfl rfl ?_
            refine TrL.load1 rfl rfl sc9 (Sees.cl1 (by repeat (first | with_reducible exact Pick.here | with_reducible apply Pick.there | with_reducible apply Pick.app_nil | with_reducible apply Pick.app_cons)) (by rfl)) ?_
            refine TrL.want rfl rfl ?_
            refine TrL.call rfl rfl rfl ca45 .nil (fun Ft30 hUt30 => Key_spec ?_)
            refine TrL.want rfl rfl ?_
            refine TrL.not rfl rfl ?_
            refine TrL.pickF rfl rfl rfl ?_
            refine TrL.move rfl rfl ?_
            refine TrL.cases (t := 33) rfl (fun h33 => ?_) (fun h33 => ?_)
            · try simp only [beq_iff_eq, beq_eq_false_iff_ne, Bool.not_eq_true, Bool.not_eq_false, decide_eq_true_eq, decide_eq_false_iff_not, Bool.not_eq_true', Bool.not_eq_false', bne_iff_ne, Bool.not_eq_eq_eq_not, Bool.not_true, Bool.not_false, ne_eq, Decidable.not_not, Int.not_lt, Int.not_le] at h33
              refine TrL.unwant rfl rfl rfl ?_
              refine TrL.unwant rfl rfl rfl ?_
              refine TrL.unwant rfl rfl rfl ?_
              refine TrL.unwant rfl rfl rfl ?_
              refine TrL.unwant rfl rfl rfl ?_
              refine TrL.pickT rfl rfl rfl ?_
              refine TrL.assign rfl rfl ?_
              refine TrL.nil (At.then_normal ?_)
              refine Tr.ret (At.retP [] (.inl rfl) rfl (Res.tmp rfl Res.nil) (by repeat (first | exact Picks.nil | with_reducible exact Pick.here | with_reducible apply Pick.there | with_reducible apply Pick.app_nil | with_reducible apply Pick.app_cons | apply Picks.cons)) (by exact kb (by unfold tabOk; grind) hK))
            · try simp only [beq_iff_eq, beq_eq_false_iff_ne, Bool.not_eq_true, Bool.not_eq_false, decide_eq_true_eq, decide_eq_false_iff_not, Bool.not_eq_true', Bool.not_eq_false', bne_iff_ne, Bool.not_eq_eq_eq_not, Bool.not_true, Bool.not_false, ne_eq, Decidable.not_not, Int.not_lt, Int.not_le] at h33
              refine TrL.want rfl rfl ?_
              refine TrL.field rfl rfl fl46_3 ?_
              refine TrL.want rfl rfl ?_
              refine TrL.load1 rfl rfl sc9 (Sees.cl1 (by repeat (first | with_reducible exact Pick.here | with_reducible apply Pick.there | with_reducible apply Pick.app_nil | with_reducible apply Pick.app_cons)) (by rfl)) ?_
              refine TrL.want rfl rfl ?_
              refine TrL.field rfl rfl fl46_2 ?_
              refine TrL.want rfl rfl ?_
              refine TrL.load1 rfl rfl sc9 (Sees.cl1 (by repeat (first | with_reducible exact Pick.here | with_reducible apply Pick.there | with_reducible apply Pick.app_nil | with_reducible apply Pick.app_cons)) (by rfl)) ?_
              refine TrL.want rfl rfl ?_
              refine TrL.lts rfl rfl rfl ?_
              refine TrL.pickF rfl rfl rfl ?_
              refine TrL.assign rfl rfl ?_
              refine TrL.nil (At.then_normal ?_)
              refine Tr.ret (At.retP [] (.inl rfl) rfl (Res.tmp rfl Res.nil) (by repeat (first | exact Picks.nil | with_reducible exact Pick.here | with_reducible apply Pick.there | with_reducible apply Pick.app_nil | with_reducible apply Pick.app_cons | apply Picks.cons)) (by exact kb (by unfold tabOk; grind) hK))
theorem none_spec {F : Hp} {K : Value → List HProp → Prop} {n : Int} (hK : K (.bool (!numOk n)) []) : CallK Try.prog F 46 #[.int .i64 n] [] K := by
  refine CallK.enter Try.func46 rfl Try.ntmps46 rfl ?_
  refine Tr.seq ?_
  refine Tr.region ?_
  refine TrL.assign rfl rfl ?_
  refine TrL.nil (At.then_normal ?_)
  refine Tr.seq ?_
  refine Tr.region ?_
  refine TrL.move rfl rfl ?_
  refine TrL.lss rfl rfl rfl ?_
  refine TrL.move rfl rfl ?_
  refine TrL.cases (t := 5) rfl (fun h5 => ?_) (fun h5 => ?_)
  · try simp only [beq_iff_eq, beq_eq_false_iff_ne, Bool.not_eq_true, Bool.not_eq_false, decide_eq_true_eq, decide_eq_false_iff_not, Bool.not_eq_true', Bool.not_eq_false', bne_iff_ne, Bool.not_eq_eq_eq_not, Bool.not_true, Bool.not_false, ne_eq, Decidable.not_not, Int.not_lt, Int.not_le] at h5
    refine TrL.unwant rfl rfl rfl ?_
    refine TrL.unwant rfl rfl rfl ?_
    refine TrL.pickT rfl rfl rfl ?_
    refine TrL.assign rfl rfl ?_
    refine TrL.nil (At.then_normal ?_)
    refine Tr.ret (At.retP [] (.inl rfl) rfl (Res.tmp rfl Res.nil) (by repeat (first | exact Picks.nil | with_reducible exact Pick.here | with_reducible apply Pick.there | with_reducible apply Pick.app_nil | with_reducible apply Pick.app_cons | apply Picks.cons)) (by exact kb (by unfold numOk; grind) hK))
  · try simp only [beq_iff_eq, beq_eq_false_iff_ne, Bool.not_eq_true, Bool.not_eq_false, decide_eq_true_eq, decide_eq_false_iff_not, Bool.not_eq_true', Bool.not_eq_false', bne_iff_ne, Bool.not_eq_eq_eq_not, Bool.not_true, Bool.not_false, ne_eq, Decidable.not_not, Int.not_lt, Int.not_le] at h5
    refine TrL.want rfl rfl ?_
    refine TrL.move rfl rfl ?_
    refine TrL.want rfl rfl ?_
    refine TrL.gtr rfl rfl rfl ?_
    refine TrL.pickF rfl rfl rfl ?_
    refine TrL.assign rfl rfl ?_
    refine TrL.nil (At.then_normal ?_)
    refine Tr.ret (At.retP [] (.inl rfl) rfl (Res.tmp rfl Res.nil) (by repeat (first | exact Picks.nil | with_reducible exact Pick.here | with_reducible apply Pick.there | with_reducible apply Pick.app_nil | with_reducible apply Pick.app_cons | apply Picks.cons)) (by exact kb (by unfold numOk; grind) hK))
theorem number_spec {F : Hp} {K : Value → List HProp → Prop} {n m : Int} (hK : K (.bool (decide (m ≤ n) && decide (n ≤ 1073741824))) []) : CallK Try.prog F 59 #[.int .i64 n, .int .i64 m] [] K := by
  refine CallK.enter Try.func59 rfl Try.ntmps59 rfl ?_
  refine Tr.seq ?_
  refine Tr.region ?_
  refine TrL.assign rfl rfl ?_
  refine TrL.nil (At.then_normal ?_)
  refine Tr.seq ?_
  refine Tr.region ?_
  refine TrL.move rfl rfl ?_
  refine TrL.move rfl rfl ?_
  refine TrL.geq rfl rfl rfl ?_
  refine TrL.move rfl rfl ?_
  refine TrL.cases (t := 8) rfl (fun h8 => ?_) (fun h8 => ?_)
  · try simp only [beq_iff_eq, beq_eq_false_iff_ne, Bool.not_eq_true, Bool.not_eq_false, decide_eq_true_eq, decide_eq_false_iff_not, Bool.not_eq_true', Bool.not_eq_false', bne_iff_ne, Bool.not_eq_eq_eq_not, Bool.not_true, Bool.not_false, ne_eq, Decidable.not_not, Int.not_lt, Int.not_le] at h8
    refine TrL.want rfl rfl ?_
    refine TrL.move rfl rfl ?_
    refine TrL.want rfl rfl ?_
    refine TrL.leq rfl rfl rfl ?_
    refine TrL.pickT rfl rfl rfl ?_
    refine TrL.assign rfl rfl ?_
    refine TrL.nil (At.then_normal ?_)
    refine Tr.ret (At.retP [] (.inl rfl) rfl (Res.tmp rfl Res.nil) (by repeat (first | exact Picks.nil | with_reducible exact Pick.here | with_reducible apply Pick.there | with_reducible apply Pick.app_nil | with_reducible apply Pick.app_cons | apply Picks.cons)) (by exact kb (by grind) hK))
  · try simp only [beq_iff_eq, beq_eq_false_iff_ne, Bool.not_eq_true, Bool.not_eq_false, decide_eq_true_eq, decide_eq_false_iff_not, Bool.not_eq_true', Bool.not_eq_false', bne_iff_ne, Bool.not_eq_eq_eq_not, Bool.not_true, Bool.not_false, ne_eq, Decidable.not_not, Int.not_lt, Int.not_le] at h8
    refine TrL.unwant rfl rfl rfl ?_
    refine TrL.unwant rfl rfl rfl ?_
    refine TrL.pickF rfl rfl rfl ?_
    refine TrL.assign rfl rfl ?_
    refine TrL.nil (At.then_normal ?_)
    refine Tr.ret (At.retP [] (.inl rfl) rfl (Res.tmp rfl Res.nil) (by repeat (first | exact Picks.nil | with_reducible exact Pick.here | with_reducible apply Pick.there | with_reducible apply Pick.app_nil | with_reducible apply Pick.app_cons | apply Picks.cons)) (by exact kb (by grind) hK))
theorem tab_spec {F : Hp} {K : Value → List HProp → Prop} {t : Tab} (hK : K (.bool (tabOk t)) []) : CallK Try.prog F 58 #[.agg (encT t).toArray] [] K := by
  refine CallK.enter Try.func58 rfl Try.ntmps58 rfl ?_
  refine Tr.seq ?_
  refine Tr.region ?_
  refine TrL.boxA rfl rfl (fun b1 => ?_)
  refine TrL.assign rfl rfl ?_
  refine TrL.nil (At.then_normal ?_)
  refine Tr.seq ?_
  refine Tr.region ?_
  refine TrL.field0 rfl rfl fl46_0 ?_
  refine TrL.load1 rfl rfl sc3 (Sees.cl1 (by repeat (first | with_reducible exact Pick.here | with_reducible apply Pick.there | with_reducible apply Pick.app_nil | with_reducible apply Pick.app_cons)) (by rfl)) ?_
  refine TrL.call rfl rfl rfl ca59 .nil (fun Ft5 hUt5 => number_spec ?_)
  refine TrL.move rfl rfl ?_
  refine TrL.cases (t := 6) rfl (fun h6 => ?_) (fun h6 => ?_)
  · try simp only [beq_iff_eq, beq_eq_false_iff_ne, Bool.not_eq_true, Bool.not_eq_false, decide_eq_true_eq, decide_eq_false_iff_not, Bool.not_eq_true', Bool.not_eq_false', bne_iff_ne, Bool.not_eq_eq_eq_not, Bool.not_true, Bool.not_false, ne_eq, Decidable.not_not, Int.not_lt, Int.not_le] at h6
    refine TrL.want rfl rfl ?_
    refine TrL.field rfl rfl fl46_1 ?_
    refine TrL.want rfl rfl ?_
    refine TrL.load1 rfl rfl sc3 (Sees.cl1 (by repeat (first | with_reducible exact Pick.here | with_reducible apply Pick.there | with_reducible apply Pick.app_nil | with_reducible apply Pick.app_cons)) (by rfl)) ?_
    refine TrL.want rfl rfl ?_
    refine TrL.geq rfl rfl rfl ?_
    refine TrL.pickT rfl rfl rfl ?_
    refine TrL.move rfl rfl ?_
    refine TrL.cases (t := 11) rfl (fun h11 => ?_) (fun h11 => ?_)
    · try simp only [beq_iff_eq, beq_eq_false_iff_ne, Bool.not_eq_true, Bool.not_eq_false, decide_eq_true_eq, decide_eq_false_iff_not, Bool.not_eq_true', Bool.not_eq_false', bne_iff_ne, Bool.not_eq_eq_eq_not, Bool.not_true, Bool.not_false, ne_eq, Decidable.not_not, Int.not_lt, Int.not_le] at h11
      refine TrL.want rfl rfl ?_
      refine TrL.field rfl rfl fl46_1 ?_
      refine TrL.want rfl rfl ?_
      refine TrL.load1 rfl rfl sc3 (Sees.cl1 (by repeat (first | with_reducible exact Pick.here | with_reducible apply Pick.there | with_reducible apply Pick.app_nil | with_reducible apply Pick.app_cons)) (by rfl)) ?_
      refine TrL.want rfl rfl ?_
      refine TrL.leq rfl rfl rfl ?_
      refine TrL.pickT rfl rfl rfl ?_
      refine TrL.move rfl rfl ?_
      refine TrL.cases (t := 16) rfl (fun h16 => ?_) (fun h16 => ?_)
      · try simp only [beq_iff_eq, beq_eq_false_iff_ne, Bool.not_eq_true, Bool.not_eq_false, decide_eq_true_eq, decide_eq_false_iff_not, Bool.not_eq_true', Bool.not_eq_false', bne_iff_ne, Bool.not_eq_eq_eq_not, Bool.not_true, Bool.not_false, ne_eq, Decidable.not_not, Int.not_lt, Int.not_le] at h16
        refine TrL.want rfl rfl ?_
        refine TrL.field rfl rfl fl46_2 ?_
        refine TrL.want rfl rfl ?_
        refine TrL.load1 rfl rfl sc9 (Sees.cl1 (by repeat (first | with_reducible exact Pick.here | with_reducible apply Pick.there | with_reducible apply Pick.app_nil | with_reducible apply Pick.app_cons)) (by rfl)) ?_
        refine TrL.want rfl rfl ?_
        refine TrL.call rfl rfl rfl ca71 .nil (fun Ft19 hUt19 => KeyR_spec ?_)
        refine TrL.pickT rfl rfl rfl ?_
        refine TrL.move rfl rfl ?_
        refine TrL.cases (t := 21) rfl (fun h21 => ?_) (fun h21 => ?_)
        · try simp only [beq_iff_eq, beq_eq_false_iff_ne, Bool.not_eq_true, Bool.not_eq_false, decide_eq_true_eq, decide_eq_false_iff_not, Bool.not_eq_true', Bool.not_eq_false', bne_iff_ne, Bool.not_eq_eq_eq_not, Bool.not_true, Bool.not_false, ne_eq, Decidable.not_not, Int.not_lt, Int.not_le] at h21
          refine TrL.want rfl rfl ?_
          refine TrL.field rfl rfl fl46_3 ?_
          refine TrL.want rfl rfl ?_
          refine TrL.load1 rfl rfl sc9 (Sees.cl1 (by repeat (first | with_reducible exact Pick.here | with_reducible apply Pick.there | with_reducible apply Pick.app_nil | with_reducible apply Pick.app_cons)) (by rfl)) ?_
          refine TrL.want rfl rfl ?_
          refine TrL.call rfl rfl rfl ca71 .nil (fun Ft24 hUt24 => KeyR_spec ?_)
          refine TrL.pickT rfl rfl rfl ?_
          refine TrL.move rfl rfl ?_
          refine TrL.cases (t := 26) rfl (fun h26 => ?_) (fun h26 => ?_)
          · try simp only [beq_iff_eq, beq_eq_false_iff_ne, Bool.not_eq_true, Bool.not_eq_false, decide_eq_true_eq, decide_eq_false_iff_not, Bool.not_eq_true', Bool.not_eq_false', bne_iff_ne, Bool.not_eq_eq_eq_not, Bool.not_true, Bool.not_false, ne_eq, Decidable.not_not, Int.not_lt, Int.not_le] at h26
            refine TrL.want rfl rfl ?_
            refine TrL.field rfl rfl fl46_2 ?_
            refine TrL.want rfl rfl ?_
            refine TrL.load1 rfl rfl sc9 (Sees.cl1 (by repeat (first | with_reducible exact Pick.here | with_reducible apply Pick.there | with_reducible apply Pick.app_nil | with_reducible apply Pick.app_cons)) (by rfl)) ?_
            refine TrL.want rfl rfl ?_
            refine TrL.field rfl rfl fl46_3 ?_
            refine TrL.want rfl rfl ?_
            refine TrL.load1 rfl rfl sc9 (Sees.cl1 (by repeat (first | with_reducible exact Pick.here | with_reducible apply Pick.there | with_reducible apply Pick.app_nil | with_reducible apply Pick.app_cons)) (by rfl)) ?_
            refine TrL.want rfl rfl ?_
            refine TrL.les rfl rfl rfl ?_
            refine TrL.pickT rfl rfl rfl ?_
            refine TrL.assign rfl rfl ?_
            refine TrL.nil (At.then_normal ?_)
            refine Tr.ret (At.retP [] (.inl rfl) rfl (Res.tmp rfl Res.nil) (by repeat (first | exact Picks.nil | with_reducible exact Pick.here | with_reducible apply Pick.there | with_reducible apply Pick.app_nil | with_reducible apply Pick.app_cons | apply Picks.cons)) (by exact kb (by unfold tabOk; grind) hK))
          · try simp only [beq_iff_eq, beq_eq_false_iff_ne, Bool.not_eq_true, Bool.not_eq_false, decide_eq_true_eq, decide_eq_false_iff_not, Bool.not_eq_true', Bool.not_eq_false', bne_iff_ne, Bool.not_eq_eq_eq_not, Bool.not_true, Bool.not_false, ne_eq, Decidable.not_not, Int.not_lt, Int.not_le] at h26
            refine TrL.unwant rfl rfl rfl ?_
            refine TrL.unwant rfl rfl rfl ?_
            refine TrL.unwant rfl rfl rfl ?_
            refine TrL.unwant rfl rfl rfl ?_
            refine TrL.unwant rfl rfl rfl ?_
            refine TrL.pickF rfl rfl rfl ?_
            refine TrL.assign rfl rfl ?_
            refine TrL.nil (At.then_normal ?_)
            refine Tr.ret (At.retP [] (.inl rfl) rfl (Res.tmp rfl Res.nil) (by repeat (first | exact Picks.nil | with_reducible exact Pick.here | with_reducible apply Pick.there | with_reducible apply Pick.app_nil | with_reducible apply Pick.app_cons | apply Picks.cons)) (by exact kb (by unfold tabOk; grind) hK))
        · try simp only [beq_iff_eq, beq_eq_false_iff_ne, Bool.not_eq_true, Bool.not_eq_false, decide_eq_true_eq, decide_eq_false_iff_not, Bool.not_eq_true', Bool.not_eq_false', bne_iff_ne, Bool.not_eq_eq_eq_not, Bool.not_true, Bool.not_false, ne_eq, Decidable.not_not, Int.not_lt, Int.not_le] at h21
          refine TrL.unwant rfl rfl rfl ?_
          refine TrL.unwant rfl rfl rfl ?_
          refine TrL.unwant rfl rfl rfl ?_
          refine TrL.pickF rfl rfl rfl ?_
          refine TrL.move rfl rfl ?_
          refine TrL.unwant rfl rfl rfl ?_
          refine TrL.unwant rfl rfl rfl ?_
          refine TrL.unwant rfl rfl rfl ?_
          refine TrL.unwant rfl rfl rfl ?_
          refine TrL.unwant rfl rfl rfl ?_
          refine TrL.pickF rfl rfl rfl ?_
          refine TrL.assign rfl rfl ?_
          refine TrL.nil (At.then_normal ?_)
          refine Tr.ret (At.retP [] (.inl rfl) rfl (Res.tmp rfl Res.nil) (by repeat (first | exact Picks.nil | with_reducible exact Pick.here | with_reducible apply Pick.there | with_reducible apply Pick.app_nil | with_reducible apply Pick.app_cons | apply Picks.cons)) (by exact kb (by unfold tabOk; grind) hK))
      · try simp only [beq_iff_eq, beq_eq_false_iff_ne, Bool.not_eq_true, Bool.not_eq_false, decide_eq_true_eq, decide_eq_false_iff_not, Bool.not_eq_true', Bool.not_eq_false', bne_iff_ne, Bool.not_eq_eq_eq_not, Bool.not_true, Bool.not_false, ne_eq, Decidable.not_not, Int.not_lt, Int.not_le] at h16
        refine TrL.unwant rfl rfl rfl ?_
        refine TrL.unwant rfl rfl rfl ?_
        refine TrL.unwant rfl rfl rfl ?_
        refine TrL.pickF rfl rfl rfl ?_
        refine TrL.move rfl rfl ?_
        refine TrL.unwant rfl rfl rfl ?_
        refine TrL.unwant rfl rfl rfl ?_
        refine TrL.unwant rfl rfl rfl ?_
        refine TrL.pickF rfl rfl rfl ?_
        refine TrL.move rfl rfl ?_
        refine TrL.unwant rfl rfl rfl ?_
        refine TrL.unwant rfl rfl rfl ?_
        refine TrL.unwant rfl rfl rfl ?_
        refine TrL.unwant rfl rfl rfl ?_
        refine TrL.unwant rfl rfl rfl ?_
        refine TrL.pickF rfl rfl rfl ?_
        refine TrL.assign rfl rfl ?_
        refine TrL.nil (At.then_normal ?_)
        refine Tr.ret (At.retP [] (.inl rfl) rfl (Res.tmp rfl Res.nil) (by repeat (first | exact Picks.nil | with_reducible exact Pick.here | with_reducible apply Pick.there | with_reducible apply Pick.app_nil | with_reducible apply Pick.app_cons | apply Picks.cons)) (by exact kb (by unfold tabOk; grind) hK))
    · try simp only [beq_iff_eq, beq_eq_false_iff_ne, Bool.not_eq_true, Bool.not_eq_false, decide_eq_true_eq, decide_eq_false_iff_not, Bool.not_eq_true', Bool.not_eq_false', bne_iff_ne, Bool.not_eq_eq_eq_not, Bool.not_true, Bool.not_false, ne_eq, Decidable.not_not, Int.not_lt, Int.not_le] at h11
      refine TrL.unwant rfl rfl rfl ?_
      refine TrL.unwant rfl rfl rfl ?_
      refine TrL.unwant rfl rfl rfl ?_
      refine TrL.pickF rfl rfl rfl ?_
      refine TrL.move rfl rfl ?_
      refine TrL.unwant rfl rfl rfl ?_
      refine TrL.unwant rfl rfl rfl ?_
      refine TrL.unwant rfl rfl rfl ?_
      refine TrL.pickF rfl rfl rfl ?_
      refine TrL.move rfl rfl ?_
      refine TrL.unwant rfl rfl rfl ?_
      refine TrL.unwant rfl rfl rfl ?_
      refine TrL.unwant rfl rfl rfl ?_
      refine TrL.pickF rfl rfl rfl ?_
      refine TrL.move rfl rfl ?_
      refine TrL.unwant rfl rfl rfl ?_
      refine TrL.unwant rfl rfl rfl ?_
      refine TrL.unwant rfl rfl rfl ?_
      refine TrL.unwant rfl rfl rfl ?_
      refine TrL.unwant rfl rfl rfl ?_
      refine TrL.pickF rfl rfl rfl ?_
      refine TrL.assign rfl rfl ?_
      refine TrL.nil (At.then_normal ?_)
      refine Tr.ret (At.retP [] (.inl rfl) rfl (Res.tmp rfl Res.nil) (by repeat (first | exact Picks.nil | with_reducible exact Pick.here | with_reducible apply Pick.there | with_reducible apply Pick.app_nil | with_reducible apply Pick.app_cons | apply Picks.cons)) (by exact kb (by unfold tabOk; grind) hK))
  · try simp only [beq_iff_eq, beq_eq_false_iff_ne, Bool.not_eq_true, Bool.not_eq_false, decide_eq_true_eq, decide_eq_false_iff_not, Bool.not_eq_true', Bool.not_eq_false', bne_iff_ne, Bool.not_eq_eq_eq_not, Bool.not_true, Bool.not_false, ne_eq, Decidable.not_not, Int.not_lt, Int.not_le] at h6
    refine TrL.unwant rfl rfl rfl ?_
    refine TrL.unwant rfl rfl rfl ?_
    refine TrL.unwant rfl rfl rfl ?_
    refine TrL.pickF rfl rfl rfl ?_
    refine TrL.move rfl rfl ?_
    refine TrL.unwant rfl rfl rfl ?_
    refine TrL.unwant rfl rfl rfl ?_
    refine TrL.unwant rfl rfl rfl ?_
    refine TrL.pickF rfl rfl rfl ?_
    refine TrL.move rfl rfl ?_
    refine TrL.unwant rfl rfl rfl ?_
    refine TrL.unwant rfl rfl rfl ?_
    refine TrL.unwant rfl rfl rfl ?_
    refine TrL.pickF rfl rfl rfl ?_
    refine TrL.move rfl rfl ?_
    refine TrL.unwant rfl rfl rfl ?_
    refine TrL.unwant rfl rfl rfl ?_
    refine TrL.unwant rfl rfl rfl ?_
    refine TrL.pickF rfl rfl rfl ?_
    refine TrL.move rfl rfl ?_
    refine TrL.unwant rfl rfl rfl ?_
    refine TrL.unwant rfl rfl rfl ?_
    refine TrL.unwant rfl rfl rfl ?_
    refine TrL.unwant rfl rfl rfl ?_
    refine TrL.unwant rfl rfl rfl ?_
    refine TrL.pickF rfl rfl rfl ?_
    refine TrL.assign rfl rfl ?_
    refine TrL.nil (At.then_normal ?_)
    refine Tr.ret (At.retP [] (.inl rfl) rfl (Res.tmp rfl Res.nil) (by repeat (first | exact Picks.nil | with_reducible exact Pick.here | with_reducible apply Pick.there | with_reducible apply Pick.app_nil | with_reducible apply Pick.app_cons | apply Picks.cons)) (by exact kb (by unfold tabOk; grind) hK))

set_option maxHeartbeats 1000000 in
theorem PutN_spec {F : Hp} {K : Value → List HProp → Prop} {n : Nat} (hn : n ≤ 4611686018427387904) (hK : K (.tuple #[.string (strOf (putN n)), .int .i64 0]) []) : CallK Try.prog F 27 #[.int .i64 (n : Int)] [] K := by
  refine CallK.enter Try.func27 rfl Try.ntmps27 rfl ?_
  refine Tr.seq ?_
  refine Tr.region ?_
  refine TrL.assign rfl rfl ?_
  refine TrL.assign rfl rfl ?_
  refine TrL.nil (At.then_normal ?_)
  refine Tr.seq ?_
  refine Tr.seq ?_
  refine Tr.region ?_
  refine TrL.move rfl rfl ?_
  refine TrL.lss rfl rfl rfl ?_
  refine TrL.knownB (t := 6) (c := false) rfl (by simp) ?_
  refine TrL.move rfl rfl ?_
  refine TrL.want rfl rfl ?_
  refine TrL.move rfl rfl ?_
  refine TrL.want rfl rfl ?_
  refine TrL.gtr rfl rfl rfl ?_
  refine TrL.knownB (t := 9) (c := false) rfl (by simp; omega) ?_
  refine TrL.pickF rfl rfl rfl ?_
  refine TrL.nil (At.then_normal ?_)
  refine Tr.condF rfl ?_
  refine Tr.skip (At.then_normal ?_)
  refine Tr.seq ?_
  refine Tr.region ?_
  refine TrL.assign rfl rfl ?_
  refine TrL.nil (At.then_normal ?_)
  refine Tr.seq ?_
  refine Tr.block ?_
  refine Tr.own0 5 1 encB ?_
  refine Tr.loopK [] (α := Nat × Nat × List UInt8 × Option Addr × Nat) (fun y => [(0, .int .i64 (y.2.1 : Int)), (4, .slice y.2.2.2.1 y.2.2.1.length y.2.2.2.2)]) (fun y => [Own 5 1 encB y.2.2.2.1 y.2.2.2.2 y.2.2.1]) (fun y => y.2.2.1 ++ putV y.1 y.2.1 = putN n ∧ y.2.1 < 128 ^ y.1 ∧ 1 ≤ y.1 ∧ y.2.1 ≤ 4611686018427387904 ∧ y.2.2.1.length + y.1 ≤ 10) (fun y => y.2.1) (9, n, [], none, 0) (by rfl) ?_ (by repeat (first | exact Sub.nil | refine Sub.cons (by rfl) ?_)) (by repeat (first | exact Picks.nil | with_reducible exact Pick.here | with_reducible apply Pick.there | with_reducible apply Pick.app_nil | with_reducible apply Pick.app_cons | apply Picks.cons)) ?_
  · exact ⟨by simp [putN], by show n < 128 ^ 9; exact Nat.lt_of_le_of_lt hn (by decide), by show 1 ≤ 9; decide, hn, by simp⟩
  rintro ⟨f, m, out, p, cap⟩ ⟨hy1, hy2, hy3, hy4, hy5⟩
  dsimp only at hy1 hy2 hy3 hy4 hy5 ⊢
  refine Tr.seq ?_
  refine Tr.seq ?_
  refine Tr.region ?_
  refine TrL.move rfl rfl ?_
  refine TrL.geq rfl rfl rfl ?_
  refine TrL.nil (At.then_normal ?_)
  refine Tr.cond rfl (fun h12 => ?_) (fun h12 => ?_)
  · try simp only [beq_iff_eq, beq_eq_false_iff_ne, Bool.not_eq_true, Bool.not_eq_false, decide_eq_true_eq, decide_eq_false_iff_not, Bool.not_eq_true', Bool.not_eq_false', bne_iff_ne, Bool.not_eq_eq_eq_not, Bool.not_true, Bool.not_false, ne_eq, Decidable.not_not, Int.not_lt, Int.not_le] at h12
    refine Tr.skip (At.then_normal ?_)
    refine Tr.seq ?_
    refine Tr.block ?_
    refine Tr.region ?_
    refine TrL.move rfl rfl ?_
    refine TrL.move rfl rfl ?_
    refine TrL.convI rfl rfl sc3 in5 ?_
    refine TrL.or rfl rfl rfl ?_
    rw [orB m]
    refine TrL.buildSlF rfl rfl rfl se55 sz5 zc5 rfl rfl rfl (fun b19 => ?_)
    refine TrL.append1 rfl rfl se55 sz5 by5 zc5 rfl (by decide) (by repeat (first | with_reducible exact Pick.here | with_reducible apply Pick.there | with_reducible apply Pick.app_nil | with_reducible apply Pick.app_cons)) (by repeat (first | with_reducible exact Pick.here | with_reducible apply Pick.there | with_reducible apply Pick.app_nil | with_reducible apply Pick.app_cons)) (by rfl) (by rfl) (by rfl) (by rfl) (by decide) (by omega) (fun p20 cap20 => ?_)
    refine TrL.assign rfl rfl ?_
    refine TrL.nil (At.block_normal (At.then_normal ?_))
    refine Tr.region ?_
    refine TrL.move rfl rfl ?_
    refine TrL.shr rfl rfl rfl (by omega) ?_
    refine TrL.assign rfl rfl ?_
    refine TrL.nil ?_
    rw [shr7 m]
    obtain ⟨g, rfl⟩ : ∃ g, f = g + 1 := ⟨f - 1, by omega⟩
    have hg : m / 128 < 128 ^ g := by rw [Nat.pow_succ] at hy2; exact Nat.div_lt_of_lt_mul (by rw [Nat.mul_comm]; exact hy2)
    have hg1 : 1 ≤ g := by
      rcases Nat.eq_zero_or_pos g with rfl | h
      · simp at hg; omega
      · exact h
    refine At.again (g, m / 128, out ++ [UInt8.ofNat (m % 128 + 128)], p20, cap20) ⟨?_, hg, hg1, by show m / 128 ≤ _; omega, by simp only [List.length_append, List.length_singleton]; omega⟩ (by show m / 128 < m; omega) (by repeat (first | exact Sub.nil | refine Sub.cons (by rfl) ?_)) (by repeat (first | exact Picks.nil | with_reducible exact Pick.here | with_reducible apply Pick.there | with_reducible apply Pick.app_nil | with_reducible apply Pick.app_cons | apply Picks.cons))
    rw [← hy1]
    show (out ++ [_]) ++ putV g (m / 128) = out ++ putV (g + 1) m
    rw [putV, if_neg (by omega)]; simp
  · try simp only [beq_iff_eq, beq_eq_false_iff_ne, Bool.not_eq_true, Bool.not_eq_false, decide_eq_true_eq, decide_eq_false_iff_not, Bool.not_eq_true', Bool.not_eq_false', bne_iff_ne, Bool.not_eq_eq_eq_not, Bool.not_true, Bool.not_false, ne_eq, Decidable.not_not, Int.not_lt, Int.not_le] at h12
    refine Tr.exit (At.then_exit (At.then_exit (At.block_hit (At.then_normal ?_))))
    refine Tr.seq ?_
    refine Tr.region ?_
    refine TrL.move rfl rfl ?_
    refine TrL.move rfl rfl ?_
    refine TrL.convI rfl rfl sc3 in5 ?_
    rw [u8w m]
    refine TrL.buildSlF rfl rfl rfl se55 sz5 zc5 rfl rfl rfl (fun b24 => ?_)
    refine TrL.append1 rfl rfl se55 sz5 by5 zc5 rfl (by decide) (by repeat (first | with_reducible exact Pick.here | with_reducible apply Pick.there | with_reducible apply Pick.app_nil | with_reducible apply Pick.app_cons)) (by repeat (first | with_reducible exact Pick.here | with_reducible apply Pick.there | with_reducible apply Pick.app_nil | with_reducible apply Pick.app_cons)) (by rfl) (by rfl) (by rfl) (by rfl) (by decide) (by omega) (fun p25 cap25 => ?_)
    refine TrL.convBSo rfl rfl se55 in5 st9 (by repeat (first | with_reducible exact Pick.here | with_reducible apply Pick.there | with_reducible apply Pick.app_nil | with_reducible apply Pick.app_cons)) (by rfl) ?_
    refine TrL.assign rfl rfl ?_
    refine TrL.assign rfl rfl ?_
    refine TrL.nil (At.then_normal ?_)
    refine Tr.ret (At.retP [] (.inl rfl) rfl (Res.tmp rfl (Res.tmp rfl Res.nil)) (by repeat (first | exact Picks.nil | with_reducible exact Pick.here | with_reducible apply Pick.there | with_reducible apply Pick.app_nil | with_reducible apply Pick.app_cons | apply Picks.cons)) (by 
        have e : out ++ [UInt8.ofNat m] = putN n := by
          rw [← hy1]
          obtain ⟨g, rfl⟩ : ∃ g, f = g + 1 := ⟨f - 1, by omega⟩
          rw [putV, if_pos (by omega)]
        rw [← e] at hK
        exact hK))

set_option maxHeartbeats 1000000 in
theorem PutNR_spec {F : Hp} {K : Value → List HProp → Prop} {n : Nat} (hn : n ≤ 4611686018427387904) (hK : K (.tuple #[.string (strOf (putN n)), .int .i64 0]) []) : CallK Try.prog F 60 #[.int .i64 (n : Int)] [] K := by
  refine CallK.enter Try.func60 rfl Try.ntmps60 rfl ?_
  refine Tr.seq ?_
  refine Tr.region ?_
  refine TrL.assign rfl rfl ?_
  refine TrL.assign rfl rfl ?_
  refine TrL.nil (At.then_normal ?_)
  refine Tr.seq ?_
  refine Tr.seq ?_
  refine Tr.region ?_
  refine TrL.move rfl rfl ?_
  refine TrL.lss rfl rfl rfl ?_
  refine TrL.knownB (t := 6) (c := false) rfl (by simp) ?_
  refine TrL.move rfl rfl ?_
  refine TrL.want rfl rfl ?_
  refine TrL.move rfl rfl ?_
  refine TrL.want rfl rfl ?_
  refine TrL.gtr rfl rfl rfl ?_
  refine TrL.knownB (t := 9) (c := false) rfl (by simp; omega) ?_
  refine TrL.pickF rfl rfl rfl ?_
  refine TrL.nil (At.then_normal ?_)
  refine Tr.condF rfl ?_
  refine Tr.skip (At.then_normal ?_)
  refine Tr.seq ?_
  refine Tr.region ?_
  refine TrL.assign rfl rfl ?_
  refine TrL.nil (At.then_normal ?_)
  refine Tr.seq ?_
  refine Tr.block ?_
  refine Tr.own0 5 1 encB ?_
  refine Tr.loopK [] (α := Nat × Nat × List UInt8 × Option Addr × Nat) (fun y => [(0, .int .i64 (y.2.1 : Int)), (4, .slice y.2.2.2.1 y.2.2.1.length y.2.2.2.2)]) (fun y => [Own 5 1 encB y.2.2.2.1 y.2.2.2.2 y.2.2.1]) (fun y => y.2.2.1 ++ putV y.1 y.2.1 = putN n ∧ y.2.1 < 128 ^ y.1 ∧ 1 ≤ y.1 ∧ y.2.1 ≤ 4611686018427387904 ∧ y.2.2.1.length + y.1 ≤ 10) (fun y => y.2.1) (9, n, [], none, 0) (by rfl) ?_ (by repeat (first | exact Sub.nil | refine Sub.cons (by rfl) ?_)) (by repeat (first | exact Picks.nil | with_reducible exact Pick.here | with_reducible apply Pick.there | with_reducible apply Pick.app_nil | with_reducible apply Pick.app_cons | apply Picks.cons)) ?_
  · exact ⟨by simp [putN], by show n < 128 ^ 9; exact Nat.lt_of_le_of_lt hn (by decide), by show 1 ≤ 9; decide, hn, by simp⟩
  rintro ⟨f, m, out, p, cap⟩ ⟨hy1, hy2, hy3, hy4, hy5⟩
  dsimp only at hy1 hy2 hy3 hy4 hy5 ⊢
  refine Tr.seq ?_
  refine Tr.seq ?_
  refine Tr.region ?_
  refine TrL.move rfl rfl ?_
  refine TrL.gtr rfl rfl rfl ?_
  refine TrL.nil (At.then_normal ?_)
  refine Tr.cond rfl (fun h12 => ?_) (fun h12 => ?_)
  · try simp only [beq_iff_eq, beq_eq_false_iff_ne, Bool.not_eq_true, Bool.not_eq_false, decide_eq_true_eq, decide_eq_false_iff_not, Bool.not_eq_true', Bool.not_eq_false', bne_iff_ne, Bool.not_eq_eq_eq_not, Bool.not_true, Bool.not_false, ne_eq, Decidable.not_not, Int.not_lt, Int.not_le] at h12
    refine Tr.skip (At.then_normal ?_)
    refine Tr.block ?_
    refine Tr.seq ?_
    refine Tr.region ?_
    refine TrL.move rfl rfl ?_
    refine TrL.move rfl rfl ?_
    refine TrL.and rfl rfl rfl ?_
    refine TrL.or rfl rfl rfl ?_
    refine TrL.convI rfl rfl sc3 in5 ?_
    rw [orB2 m (by omega)]
    refine TrL.buildSlF rfl rfl rfl se55 sz5 zc5 rfl rfl rfl (fun b18 => ?_)
    refine TrL.append1 rfl rfl se55 sz5 by5 zc5 rfl (by decide) (by repeat (first | with_reducible exact Pick.here | with_reducible apply Pick.there | with_reducible apply Pick.app_nil | with_reducible apply Pick.app_cons)) (by repeat (first | with_reducible exact Pick.here | with_reducible apply Pick.there | with_reducible apply Pick.app_nil | with_reducible apply Pick.app_cons)) (by rfl) (by rfl) (by rfl) (by rfl) (by decide) (by omega) (fun p19 cap19 => ?_)
    refine TrL.assign rfl rfl ?_
    refine TrL.nil (At.then_normal ?_)
    refine Tr.region ?_
    refine TrL.move rfl rfl ?_
    refine TrL.shr rfl rfl rfl (by omega) ?_
    refine TrL.assign rfl rfl ?_
    refine TrL.nil (At.block_normal ?_)
    rw [shr7 m]
    obtain ⟨g, rfl⟩ : ∃ g, f = g + 1 := ⟨f - 1, by omega⟩
    have hg : m / 128 < 128 ^ g := by rw [Nat.pow_succ] at hy2; exact Nat.div_lt_of_lt_mul (by rw [Nat.mul_comm]; exact hy2)
    have hg1 : 1 ≤ g := by
      rcases Nat.eq_zero_or_pos g with rfl | h
      · simp at hg; omega
      · exact h
    refine At.again (g, m / 128, out ++ [UInt8.ofNat (m % 128 + 128)], p19, cap19) ⟨?_, hg, hg1, by show m / 128 ≤ _; omega, by simp only [List.length_append, List.length_singleton]; omega⟩ (by show m / 128 < m; omega) (by repeat (first | exact Sub.nil | refine Sub.cons (by rfl) ?_)) (by repeat (first | exact Picks.nil | with_reducible exact Pick.here | with_reducible apply Pick.there | with_reducible apply Pick.app_nil | with_reducible apply Pick.app_cons | apply Picks.cons))
    rw [← hy1]
    show (out ++ [_]) ++ putV g (m / 128) = out ++ putV (g + 1) m
    rw [putV, if_neg (by omega)]; simp
  · try simp only [beq_iff_eq, beq_eq_false_iff_ne, Bool.not_eq_true, Bool.not_eq_false, decide_eq_true_eq, decide_eq_false_iff_not, Bool.not_eq_true', Bool.not_eq_false', bne_iff_ne, Bool.not_eq_eq_eq_not, Bool.not_true, Bool.not_false, ne_eq, Decidable.not_not, Int.not_lt, Int.not_le] at h12
    refine Tr.exit (At.then_exit (At.then_exit (At.block_hit (At.then_normal ?_))))
    refine Tr.seq ?_
    refine Tr.region ?_
    refine TrL.move rfl rfl ?_
    refine TrL.move rfl rfl ?_
    refine TrL.convI rfl rfl sc3 in5 ?_
    rw [u8w m]
    refine TrL.buildSlF rfl rfl rfl se55 sz5 zc5 rfl rfl rfl (fun b25 => ?_)
    refine TrL.append1 rfl rfl se55 sz5 by5 zc5 rfl (by decide) (by repeat (first | with_reducible exact Pick.here | with_reducible apply Pick.there | with_reducible apply Pick.app_nil | with_reducible apply Pick.app_cons)) (by repeat (first | with_reducible exact Pick.here | with_reducible apply Pick.there | with_reducible apply Pick.app_nil | with_reducible apply Pick.app_cons)) (by rfl) (by rfl) (by rfl) (by rfl) (by decide) (by omega) (fun p26 cap26 => ?_)
    refine TrL.convBSo rfl rfl se55 in5 st9 (by repeat (first | with_reducible exact Pick.here | with_reducible apply Pick.there | with_reducible apply Pick.app_nil | with_reducible apply Pick.app_cons)) (by rfl) ?_
    refine TrL.assign rfl rfl ?_
    refine TrL.assign rfl rfl ?_
    refine TrL.nil (At.then_normal ?_)
    refine Tr.ret (At.retP [] (.inl rfl) rfl (Res.tmp rfl (Res.tmp rfl Res.nil)) (by repeat (first | exact Picks.nil | with_reducible exact Pick.here | with_reducible apply Pick.there | with_reducible apply Pick.app_nil | with_reducible apply Pick.app_cons | apply Picks.cons)) (by 
        have e : out ++ [UInt8.ofNat m] = putN n := by
          rw [← hy1]
          obtain ⟨g, rfl⟩ : ∃ g, f = g + 1 := ⟨f - 1, by omega⟩
          rw [putV, if_pos (by omega)]
        rw [← e] at hK
        exact hK))

set_option maxHeartbeats 1000000 in
theorem TakeN_spec {F : Hp} {K : Value → List HProp → Prop} {t : ByteArray} (hK : K (.tuple #[.int .i64 (takeN t.data.toList).1, .int .i64 ((takeN t.data.toList).2.1 : Int), .int .i64 (takeN t.data.toList).2.2]) []) : CallK Try.prog F 35 #[.string t] [] K := by
  refine CallK.enter Try.func35 rfl Try.ntmps35 rfl ?_
  refine Tr.seq ?_
  refine Tr.region ?_
  refine TrL.assign rfl rfl ?_
  refine TrL.assign rfl rfl ?_
  refine TrL.assign rfl rfl ?_
  refine TrL.nil (At.then_normal ?_)
  refine Tr.seq ?_
  refine Tr.region ?_
  refine TrL.assign rfl rfl ?_
  refine TrL.nil (At.then_normal ?_)
  refine Tr.seq ?_
  refine Tr.seq ?_
  refine Tr.region ?_
  refine TrL.move rfl rfl ?_
  refine TrL.nil (At.then_normal ?_)
  refine Tr.block ?_
  refine Tr.loopK [0] (α := Nat × Nat) (fun y => [(8, .int .i64 (y.1 : Int)), (5, .int .i64 (y.2 : Int))]) (fun y => []) (fun y => y.1 ≤ 9 ∧ y.1 ≤ t.size ∧ y.2 < 2 ^ (7 * y.1) ∧ takeV (t.data.toList.drop y.1) y.1 y.2 (9 - y.1) = takeN t.data.toList) (fun y => 9 - y.1) (0, 0) (by rfl) ?_ (by repeat (first | exact Sub.nil | refine Sub.cons (by rfl) ?_)) (by repeat (first | exact Picks.nil | with_reducible exact Pick.here | with_reducible apply Pick.there | with_reducible apply Pick.app_nil | with_reducible apply Pick.app_cons | apply Picks.cons)) ?_
  · exact ⟨by decide, Nat.zero_le _, by decide, by rfl⟩
  rintro ⟨k, n⟩ ⟨hy1, hy0, hy2, hy3⟩
  dsimp only at hy1 hy0 hy2 hy3 ⊢
  refine Tr.seq ?_
  refine Tr.region ?_
  refine TrL.lss rfl rfl rfl ?_
  refine TrL.nil (At.then_normal ?_)
  refine Tr.seq ?_
  refine Tr.cond rfl (fun h9 => ?_) (fun h9 => ?_)
  · try simp only [beq_iff_eq, beq_eq_false_iff_ne, Bool.not_eq_true, Bool.not_eq_false, decide_eq_true_eq, decide_eq_false_iff_not, Bool.not_eq_true', Bool.not_eq_false', bne_iff_ne, Bool.not_eq_eq_eq_not, Bool.not_true, Bool.not_false, ne_eq, Decidable.not_not, Int.not_lt, Int.not_le] at h9
    refine Tr.skip (At.then_normal ?_)
    refine Tr.seq ?_
    refine Tr.block ?_
    refine Tr.seq ?_
    refine Tr.region ?_
    refine TrL.move rfl rfl ?_
    refine TrL.assign rfl rfl ?_
    refine TrL.nil (At.then_normal ?_)
    refine Tr.seq ?_
    refine Tr.seq ?_
    refine Tr.region ?_
    refine TrL.move rfl rfl ?_
    refine TrL.move rfl rfl ?_
    refine TrL.lens rfl rfl st9 ?_
    refine TrL.eqi rfl rfl rfl ?_
    refine TrL.nil (At.then_normal ?_)
    refine Tr.cond rfl (fun h14 => ?_) (fun h14 => ?_)
    · try simp only [beq_iff_eq, beq_eq_false_iff_ne, Bool.not_eq_true, Bool.not_eq_false, decide_eq_true_eq, decide_eq_false_iff_not, Bool.not_eq_true', Bool.not_eq_false', bne_iff_ne, Bool.not_eq_eq_eq_not, Bool.not_true, Bool.not_false, ne_eq, Decidable.not_not, Int.not_lt, Int.not_le] at h14
      refine Tr.seq ?_
      refine Tr.region ?_
      refine TrL.assign rfl rfl ?_
      refine TrL.assign rfl rfl ?_
      refine TrL.assign rfl rfl ?_
      refine TrL.nil (At.then_normal ?_)
      refine Tr.ret (At.then_ret (At.block_ret (At.then_ret (At.then_ret (At.block_ret (At.then_ret (At.retP [] (.inl rfl) rfl (Res.tmp rfl (Res.tmp rfl (Res.tmp rfl Res.nil))) (by repeat (first | exact Picks.nil | with_reducible exact Pick.here | with_reducible apply Pick.there | with_reducible apply Pick.app_nil | with_reducible apply Pick.app_cons | apply Picks.cons)) (by 
          try rw [takeV_end hy3 (by omega)] at hK
          try exact hK
          first
            | (have e : takeN t.data.toList = (0, 0, 10) := by (rw [← hy3, show t.data.toList.drop k = [] from List.drop_of_length_le (by simp; omega), show 9 - k = (8 - k) + 1 by omega]; rfl)
               rw [e] at hK; exact hK)
            | (have e : takeN t.data.toList = (((n + c.toNat % 128 * 2 ^ (7 * k) : Nat) : Int), k + 1, 0) := by (rw [hstep, takeV, if_neg (by omega), if_neg (by omega)])
               rw [e] at hK; exact hK)
            | (have e : takeN t.data.toList = (0, 0, 11) := by (rw [hstep, takeV, if_neg (by omega), if_pos (by omega)])
               rw [e] at hK; exact hK)
            | (have e : takeN t.data.toList = (0, 0, 11) := by (rw [← hy3, show 9 - k = 0 by omega]; cases t.data.toList.drop k <;> rfl)
               rw [e] at hK; exact hK)))))))))
    · try simp only [beq_iff_eq, beq_eq_false_iff_ne, Bool.not_eq_true, Bool.not_eq_false, decide_eq_true_eq, decide_eq_false_iff_not, Bool.not_eq_true', Bool.not_eq_false', bne_iff_ne, Bool.not_eq_eq_eq_not, Bool.not_true, Bool.not_false, ne_eq, Decidable.not_not, Int.not_lt, Int.not_le] at h14
      refine Tr.skip (At.then_normal ?_)
      refine Tr.seq ?_
      obtain ⟨c, r, hcr⟩ : ∃ c r, t.data.toList.drop k = c :: r := by
        cases h : t.data.toList.drop k with
        | nil => have := congrArg List.length h; simp at this; omega
        | cons c r => exact ⟨c, r, rfl⟩
      have hat : byteAt t k = (c.toNat : Int) := by
        have h1 : t.data.toList[k]? = some c := by have := congrArg (fun l => l[0]?) hcr; simpa using this
        unfold byteAt; rw [List.getD_eq_getElem?_getD, h1]; rfl
      have hc256 : c.toNat < 256 := c.toNat_lt
      have hstep : takeN t.data.toList = takeV (c :: r) k n (8 - k + 1) := by rw [← hcr, ← hy3, show 8 - k + 1 = 9 - k by omega]
      have hr : t.data.toList.drop (k + 1) = r := by have := congrArg (List.drop 1) hcr; simpa [List.drop_drop, Nat.add_comm] using this
      refine Tr.region ?_
      refine TrL.move rfl rfl ?_
      refine TrL.move rfl rfl ?_
      refine TrL.indexStr rfl rfl rfl st9 rfl (by omega) ?_
      refine TrL.assign rfl rfl ?_
      refine TrL.nil (At.then_normal ?_)
      refine Tr.seq ?_
      refine Tr.region ?_
      refine TrL.move rfl rfl ?_
      refine TrL.move rfl rfl ?_
      refine TrL.and rfl rfl rfl ?_
      refine TrL.convI rfl rfl sc5 in3 ?_
      refine TrL.move rfl rfl ?_
      refine TrL.mulI rfl rfl rfl (by omega) ?_
      refine TrL.shl rfl rfl rfl (by omega) ?_
      refine TrL.or rfl rfl rfl ?_
      refine TrL.assign rfl rfl ?_
      refine TrL.nil (At.then_normal ?_)
      refine Tr.seq ?_
      refine Tr.seq ?_
      rw [hat, orShl (by omega) hy2 hc256]
      refine Tr.region ?_
      refine TrL.move rfl rfl ?_
      refine TrL.geq rfl rfl rfl ?_
      refine TrL.nil (At.then_normal ?_)
      refine Tr.cond rfl (fun h27 => ?_) (fun h27 => ?_)
      · try simp only [beq_iff_eq, beq_eq_false_iff_ne, Bool.not_eq_true, Bool.not_eq_false, decide_eq_true_eq, decide_eq_false_iff_not, Bool.not_eq_true', Bool.not_eq_false', bne_iff_ne, Bool.not_eq_eq_eq_not, Bool.not_true, Bool.not_false, ne_eq, Decidable.not_not, Int.not_lt, Int.not_le] at h27
        refine Tr.exit (At.then_exit (At.block_hit (At.then_normal ?_)))
        refine Tr.region ?_
        refine TrL.addI rfl rfl rfl (by omega) ?_
        refine TrL.move rfl rfl ?_
        refine TrL.nil ?_
        have hnext : takeV r (k + 1) (n + c.toNat % 128 * 2 ^ (7 * k)) (8 - k) = takeN t.data.toList := by rw [hstep, takeV, if_pos (by omega)]
        have hpow : n + c.toNat % 128 * 2 ^ (7 * k) < 2 ^ (7 * (k + 1)) := by
          rw [Nat.mul_add, Nat.pow_add]
          have : c.toNat % 128 * 2 ^ (7 * k) ≤ 127 * 2 ^ (7 * k) := Nat.mul_le_mul_right _ (by omega)
          omega
        refine At.again (k + 1, n + c.toNat % 128 * 2 ^ (7 * k)) ⟨by show k + 1 ≤ 9; omega, by show k + 1 ≤ t.size; omega, hpow, ?_⟩ (by show 9 - (k + 1) < 9 - k; omega) (by repeat (first | exact Sub.nil | refine Sub.cons (by rfl) ?_)) (by repeat (first | exact Picks.nil | with_reducible exact Pick.here | with_reducible apply Pick.there | with_reducible apply Pick.app_nil | with_reducible apply Pick.app_cons | apply Picks.cons))
        show takeV (t.data.toList.drop (k + 1)) (k + 1) _ (9 - (k + 1)) = _
        rw [hr, show 9 - (k + 1) = 8 - k by omega]; exact hnext
      · try simp only [beq_iff_eq, beq_eq_false_iff_ne, Bool.not_eq_true, Bool.not_eq_false, decide_eq_true_eq, decide_eq_false_iff_not, Bool.not_eq_true', Bool.not_eq_false', bne_iff_ne, Bool.not_eq_eq_eq_not, Bool.not_true, Bool.not_false, ne_eq, Decidable.not_not, Int.not_lt, Int.not_le] at h27
        refine Tr.skip (At.then_normal ?_)
        refine Tr.seq ?_
        refine Tr.seq ?_
        refine Tr.region ?_
        refine TrL.move rfl rfl ?_
        refine TrL.gtr rfl rfl rfl ?_
        refine TrL.move rfl rfl ?_
        refine TrL.cases (t := 30) rfl (fun h30 => ?_) (fun h30 => ?_)
        · try simp only [beq_iff_eq, beq_eq_false_iff_ne, Bool.not_eq_true, Bool.not_eq_false, decide_eq_true_eq, decide_eq_false_iff_not, Bool.not_eq_true', Bool.not_eq_false', bne_iff_ne, Bool.not_eq_eq_eq_not, Bool.not_true, Bool.not_false, ne_eq, Decidable.not_not, Int.not_lt, Int.not_le] at h30
          refine TrL.want rfl rfl ?_
          refine TrL.move rfl rfl ?_
          refine TrL.want rfl rfl ?_
          refine TrL.eqi rfl rfl rfl ?_
          refine TrL.pickT rfl rfl rfl ?_
          refine TrL.move rfl rfl ?_
          refine TrL.cases (t := 34) rfl (fun h34 => ?_) (fun h34 => ?_)
          · try simp only [beq_iff_eq, beq_eq_false_iff_ne, Bool.not_eq_true, Bool.not_eq_false, decide_eq_true_eq, decide_eq_false_iff_not, Bool.not_eq_true', Bool.not_eq_false', bne_iff_ne, Bool.not_eq_eq_eq_not, Bool.not_true, Bool.not_false, ne_eq, Decidable.not_not, Int.not_lt, Int.not_le] at h34
            refine TrL.unwant rfl rfl rfl ?_
            refine TrL.unwant rfl rfl rfl ?_
            refine TrL.pickT rfl rfl rfl ?_
            refine TrL.nil (At.then_normal ?_)
            refine Tr.condT rfl ?_
            refine Tr.exit (At.then_exit (At.block_miss rfl (At.then_exit (At.then_exit (At.block_hit (At.then_normal ?_))))))
            refine Tr.seq ?_
            refine Tr.region ?_
            refine TrL.assign rfl rfl ?_
            refine TrL.assign rfl rfl ?_
            refine TrL.assign rfl rfl ?_
            refine TrL.nil (At.then_normal ?_)
            refine Tr.ret (At.retP [] (.inl rfl) rfl (Res.tmp rfl (Res.tmp rfl (Res.tmp rfl Res.nil))) (by repeat (first | exact Picks.nil | with_reducible exact Pick.here | with_reducible apply Pick.there | with_reducible apply Pick.app_nil | with_reducible apply Pick.app_cons | apply Picks.cons)) (by 
                try rw [takeV_end hy3 (by omega)] at hK
                try exact hK
                first
                  | (have e : takeN t.data.toList = (0, 0, 10) := by (rw [← hy3, show t.data.toList.drop k = [] from List.drop_of_length_le (by simp; omega), show 9 - k = (8 - k) + 1 by omega]; rfl)
                     rw [e] at hK; exact hK)
                  | (have e : takeN t.data.toList = (((n + c.toNat % 128 * 2 ^ (7 * k) : Nat) : Int), k + 1, 0) := by (rw [hstep, takeV, if_neg (by omega), if_neg (by omega)])
                     rw [e] at hK; exact hK)
                  | (have e : takeN t.data.toList = (0, 0, 11) := by (rw [hstep, takeV, if_neg (by omega), if_pos (by omega)])
                     rw [e] at hK; exact hK)
                  | (have e : takeN t.data.toList = (0, 0, 11) := by (rw [← hy3, show 9 - k = 0 by omega]; cases t.data.toList.drop k <;> rfl)
                     rw [e] at hK; exact hK)))
          · try simp only [beq_iff_eq, beq_eq_false_iff_ne, Bool.not_eq_true, Bool.not_eq_false, decide_eq_true_eq, decide_eq_false_iff_not, Bool.not_eq_true', Bool.not_eq_false', bne_iff_ne, Bool.not_eq_eq_eq_not, Bool.not_true, Bool.not_false, ne_eq, Decidable.not_not, Int.not_lt, Int.not_le] at h34
            refine TrL.want rfl rfl ?_
            refine TrL.move rfl rfl ?_
            refine TrL.want rfl rfl ?_
            refine TrL.gtr rfl rfl rfl ?_
            refine TrL.pickF rfl rfl rfl ?_
            refine TrL.nil (At.then_normal ?_)
            refine Tr.cond rfl (fun h37 => ?_) (fun h37 => ?_)
            · try simp only [beq_iff_eq, beq_eq_false_iff_ne, Bool.not_eq_true, Bool.not_eq_false, decide_eq_true_eq, decide_eq_false_iff_not, Bool.not_eq_true', Bool.not_eq_false', bne_iff_ne, Bool.not_eq_eq_eq_not, Bool.not_true, Bool.not_false, ne_eq, Decidable.not_not, Int.not_lt, Int.not_le] at h37
              refine Tr.exit (At.then_exit (At.block_miss rfl (At.then_exit (At.then_exit (At.block_hit (At.then_normal ?_))))))
              refine Tr.seq ?_
              refine Tr.region ?_
              refine TrL.assign rfl rfl ?_
              refine TrL.assign rfl rfl ?_
              refine TrL.assign rfl rfl ?_
              refine TrL.nil (At.then_normal ?_)
              refine Tr.ret (At.retP [] (.inl rfl) rfl (Res.tmp rfl (Res.tmp rfl (Res.tmp rfl Res.nil))) (by repeat (first | exact Picks.nil | with_reducible exact Pick.here | with_reducible apply Pick.there | with_reducible apply Pick.app_nil | with_reducible apply Pick.app_cons | apply Picks.cons)) (by 
                  try rw [takeV_end hy3 (by omega)] at hK
                  try exact hK
                  first
                    | (have e : takeN t.data.toList = (0, 0, 10) := by (rw [← hy3, show t.data.toList.drop k = [] from List.drop_of_length_le (by simp; omega), show 9 - k = (8 - k) + 1 by omega]; rfl)
                       rw [e] at hK; exact hK)
                    | (have e : takeN t.data.toList = (((n + c.toNat % 128 * 2 ^ (7 * k) : Nat) : Int), k + 1, 0) := by (rw [hstep, takeV, if_neg (by omega), if_neg (by omega)])
                       rw [e] at hK; exact hK)
                    | (have e : takeN t.data.toList = (0, 0, 11) := by (rw [hstep, takeV, if_neg (by omega), if_pos (by omega)])
                       rw [e] at hK; exact hK)
                    | (have e : takeN t.data.toList = (0, 0, 11) := by (rw [← hy3, show 9 - k = 0 by omega]; cases t.data.toList.drop k <;> rfl)
                       rw [e] at hK; exact hK)))
            · try simp only [beq_iff_eq, beq_eq_false_iff_ne, Bool.not_eq_true, Bool.not_eq_false, decide_eq_true_eq, decide_eq_false_iff_not, Bool.not_eq_true', Bool.not_eq_false', bne_iff_ne, Bool.not_eq_eq_eq_not, Bool.not_true, Bool.not_false, ne_eq, Decidable.not_not, Int.not_lt, Int.not_le] at h37
              refine Tr.skip (At.then_normal ?_)
              refine Tr.seq ?_
              refine Tr.region ?_
              refine TrL.move rfl rfl ?_
              refine TrL.move rfl rfl ?_
              refine TrL.addI rfl rfl rfl (by omega) ?_
              refine TrL.assign rfl rfl ?_
              refine TrL.assign rfl rfl ?_
              refine TrL.assign rfl rfl ?_
              refine TrL.nil (At.then_normal ?_)
              refine Tr.ret (At.block_ret (At.then_ret (At.then_ret (At.block_ret (At.then_ret (At.retP [] (.inl rfl) rfl (Res.tmp rfl (Res.tmp rfl (Res.tmp rfl Res.nil))) (by repeat (first | exact Picks.nil | with_reducible exact Pick.here | with_reducible apply Pick.there | with_reducible apply Pick.app_nil | with_reducible apply Pick.app_cons | apply Picks.cons)) (by 
                  try rw [takeV_end hy3 (by omega)] at hK
                  try exact hK
                  first
                    | (have e : takeN t.data.toList = (0, 0, 10) := by (rw [← hy3, show t.data.toList.drop k = [] from List.drop_of_length_le (by simp; omega), show 9 - k = (8 - k) + 1 by omega]; rfl)
                       rw [e] at hK; exact hK)
                    | (have e : takeN t.data.toList = (((n + c.toNat % 128 * 2 ^ (7 * k) : Nat) : Int), k + 1, 0) := by (rw [hstep, takeV, if_neg (by omega), if_neg (by omega)])
                       rw [e] at hK; exact hK)
                    | (have e : takeN t.data.toList = (0, 0, 11) := by (rw [hstep, takeV, if_neg (by omega), if_pos (by omega)])
                       rw [e] at hK; exact hK)
                    | (have e : takeN t.data.toList = (0, 0, 11) := by (rw [← hy3, show 9 - k = 0 by omega]; cases t.data.toList.drop k <;> rfl)
                       rw [e] at hK; exact hK))))))))
        · try simp only [beq_iff_eq, beq_eq_false_iff_ne, Bool.not_eq_true, Bool.not_eq_false, decide_eq_true_eq, decide_eq_false_iff_not, Bool.not_eq_true', Bool.not_eq_false', bne_iff_ne, Bool.not_eq_eq_eq_not, Bool.not_true, Bool.not_false, ne_eq, Decidable.not_not, Int.not_lt, Int.not_le] at h30
          refine TrL.unwant rfl rfl rfl ?_
          refine TrL.unwant rfl rfl rfl ?_
          refine TrL.pickF rfl rfl rfl ?_
          refine TrL.move rfl rfl ?_
          refine TrL.want rfl rfl ?_
          refine TrL.move rfl rfl ?_
          refine TrL.want rfl rfl ?_
          refine TrL.gtr rfl rfl rfl ?_
          refine TrL.pickF rfl rfl rfl ?_
          refine TrL.nil (At.then_normal ?_)
          refine Tr.cond rfl (fun h37 => ?_) (fun h37 => ?_)
          · try simp only [beq_iff_eq, beq_eq_false_iff_ne, Bool.not_eq_true, Bool.not_eq_false, decide_eq_true_eq, decide_eq_false_iff_not, Bool.not_eq_true', Bool.not_eq_false', bne_iff_ne, Bool.not_eq_eq_eq_not, Bool.not_true, Bool.not_false, ne_eq, Decidable.not_not, Int.not_lt, Int.not_le] at h37
            refine Tr.exit (At.then_exit (At.block_miss rfl (At.then_exit (At.then_exit (At.block_hit (At.then_normal ?_))))))
            refine Tr.seq ?_
            refine Tr.region ?_
            refine TrL.assign rfl rfl ?_
            refine TrL.assign rfl rfl ?_
            refine TrL.assign rfl rfl ?_
            refine TrL.nil (At.then_normal ?_)
            refine Tr.ret (At.retP [] (.inl rfl) rfl (Res.tmp rfl (Res.tmp rfl (Res.tmp rfl Res.nil))) (by repeat (first | exact Picks.nil | with_reducible exact Pick.here | with_reducible apply Pick.there | with_reducible apply Pick.app_nil | with_reducible apply Pick.app_cons | apply Picks.cons)) (by 
                try rw [takeV_end hy3 (by omega)] at hK
                try exact hK
                first
                  | (have e : takeN t.data.toList = (0, 0, 10) := by (rw [← hy3, show t.data.toList.drop k = [] from List.drop_of_length_le (by simp; omega), show 9 - k = (8 - k) + 1 by omega]; rfl)
                     rw [e] at hK; exact hK)
                  | (have e : takeN t.data.toList = (((n + c.toNat % 128 * 2 ^ (7 * k) : Nat) : Int), k + 1, 0) := by (rw [hstep, takeV, if_neg (by omega), if_neg (by omega)])
                     rw [e] at hK; exact hK)
                  | (have e : takeN t.data.toList = (0, 0, 11) := by (rw [hstep, takeV, if_neg (by omega), if_pos (by omega)])
                     rw [e] at hK; exact hK)
                  | (have e : takeN t.data.toList = (0, 0, 11) := by (rw [← hy3, show 9 - k = 0 by omega]; cases t.data.toList.drop k <;> rfl)
                     rw [e] at hK; exact hK)))
          · try simp only [beq_iff_eq, beq_eq_false_iff_ne, Bool.not_eq_true, Bool.not_eq_false, decide_eq_true_eq, decide_eq_false_iff_not, Bool.not_eq_true', Bool.not_eq_false', bne_iff_ne, Bool.not_eq_eq_eq_not, Bool.not_true, Bool.not_false, ne_eq, Decidable.not_not, Int.not_lt, Int.not_le] at h37
            refine Tr.skip (At.then_normal ?_)
            refine Tr.seq ?_
            refine Tr.region ?_
            refine TrL.move rfl rfl ?_
            refine TrL.move rfl rfl ?_
            refine TrL.addI rfl rfl rfl (by omega) ?_
            refine TrL.assign rfl rfl ?_
            refine TrL.assign rfl rfl ?_
            refine TrL.assign rfl rfl ?_
            refine TrL.nil (At.then_normal ?_)
            refine Tr.ret (At.block_ret (At.then_ret (At.then_ret (At.block_ret (At.then_ret (At.retP [] (.inl rfl) rfl (Res.tmp rfl (Res.tmp rfl (Res.tmp rfl Res.nil))) (by repeat (first | exact Picks.nil | with_reducible exact Pick.here | with_reducible apply Pick.there | with_reducible apply Pick.app_nil | with_reducible apply Pick.app_cons | apply Picks.cons)) (by 
                try rw [takeV_end hy3 (by omega)] at hK
                try exact hK
                first
                  | (have e : takeN t.data.toList = (0, 0, 10) := by (rw [← hy3, show t.data.toList.drop k = [] from List.drop_of_length_le (by simp; omega), show 9 - k = (8 - k) + 1 by omega]; rfl)
                     rw [e] at hK; exact hK)
                  | (have e : takeN t.data.toList = (((n + c.toNat % 128 * 2 ^ (7 * k) : Nat) : Int), k + 1, 0) := by (rw [hstep, takeV, if_neg (by omega), if_neg (by omega)])
                     rw [e] at hK; exact hK)
                  | (have e : takeN t.data.toList = (0, 0, 11) := by (rw [hstep, takeV, if_neg (by omega), if_pos (by omega)])
                     rw [e] at hK; exact hK)
                  | (have e : takeN t.data.toList = (0, 0, 11) := by (rw [← hy3, show 9 - k = 0 by omega]; cases t.data.toList.drop k <;> rfl)
                     rw [e] at hK; exact hK))))))))
  · try simp only [beq_iff_eq, beq_eq_false_iff_ne, Bool.not_eq_true, Bool.not_eq_false, decide_eq_true_eq, decide_eq_false_iff_not, Bool.not_eq_true', Bool.not_eq_false', bne_iff_ne, Bool.not_eq_eq_eq_not, Bool.not_true, Bool.not_false, ne_eq, Decidable.not_not, Int.not_lt, Int.not_le] at h9
    refine Tr.exit (At.then_exit (At.then_exit (At.block_hit (At.then_normal ?_))))
    refine Tr.seq ?_
    refine Tr.region ?_
    refine TrL.assign rfl rfl ?_
    refine TrL.assign rfl rfl ?_
    refine TrL.assign rfl rfl ?_
    refine TrL.nil (At.then_normal ?_)
    refine Tr.ret (At.retP [] (.inl rfl) rfl (Res.tmp rfl (Res.tmp rfl (Res.tmp rfl Res.nil))) (by repeat (first | exact Picks.nil | with_reducible exact Pick.here | with_reducible apply Pick.there | with_reducible apply Pick.app_nil | with_reducible apply Pick.app_cons | apply Picks.cons)) (by 
        try rw [takeV_end hy3 (by omega)] at hK
        try exact hK
        first
          | (have e : takeN t.data.toList = (0, 0, 10) := by (rw [← hy3, show t.data.toList.drop k = [] from List.drop_of_length_le (by simp; omega), show 9 - k = (8 - k) + 1 by omega]; rfl)
             rw [e] at hK; exact hK)
          | (have e : takeN t.data.toList = (((n + c.toNat % 128 * 2 ^ (7 * k) : Nat) : Int), k + 1, 0) := by (rw [hstep, takeV, if_neg (by omega), if_neg (by omega)])
             rw [e] at hK; exact hK)
          | (have e : takeN t.data.toList = (0, 0, 11) := by (rw [hstep, takeV, if_neg (by omega), if_pos (by omega)])
             rw [e] at hK; exact hK)
          | (have e : takeN t.data.toList = (0, 0, 11) := by (rw [← hy3, show 9 - k = 0 by omega]; cases t.data.toList.drop k <;> rfl)
             rw [e] at hK; exact hK)))

set_option maxHeartbeats 1000000 in
theorem TakeNR_spec {F : Hp} {K : Value → List HProp → Prop} {t : ByteArray} (hK : K (.tuple #[.int .i64 (takeN t.data.toList).1, .int .i64 ((takeN t.data.toList).2.1 : Int), .int .i64 (takeN t.data.toList).2.2]) []) : CallK Try.prog F 62 #[.string t] [] K := by
  refine CallK.enter Try.func62 rfl Try.ntmps62 rfl ?_
  refine Tr.seq ?_
  refine Tr.region ?_
  refine TrL.assign rfl rfl ?_
  refine TrL.assign rfl rfl ?_
  refine TrL.assign rfl rfl ?_
  refine TrL.nil (At.then_normal ?_)
  refine Tr.seq ?_
  refine Tr.region ?_
  refine TrL.assign rfl rfl ?_
  refine TrL.nil (At.then_normal ?_)
  refine Tr.seq ?_
  refine Tr.seq ?_
  refine Tr.region ?_
  refine TrL.assign rfl rfl ?_
  refine TrL.nil (At.then_normal ?_)
  refine Tr.block ?_
  refine Tr.loopK [0] (α := Nat × Nat) (fun y => [(6, .int .i64 (y.1 : Int)), (5, .int .i64 (y.2 : Int))]) (fun y => []) (fun y => y.1 ≤ 9 ∧ y.1 ≤ t.size ∧ y.2 < 2 ^ (7 * y.1) ∧ takeV (t.data.toList.drop y.1) y.1 y.2 (9 - y.1) = takeN t.data.toList) (fun y => 9 - y.1) (0, 0) (by rfl) ?_ (by repeat (first | exact Sub.nil | refine Sub.cons (by rfl) ?_)) (by repeat (first | exact Picks.nil | with_reducible exact Pick.here | with_reducible apply Pick.there | with_reducible apply Pick.app_nil | with_reducible apply Pick.app_cons | apply Picks.cons)) ?_
  · exact ⟨by decide, Nat.zero_le _, by decide, by rfl⟩
  rintro ⟨k, n⟩ ⟨hy1, hy0, hy2, hy3⟩
  dsimp only at hy1 hy0 hy2 hy3 ⊢
  refine Tr.seq ?_
  refine Tr.seq ?_
  refine Tr.region ?_
  refine TrL.move rfl rfl ?_
  refine TrL.lss rfl rfl rfl ?_
  refine TrL.nil (At.then_normal ?_)
  refine Tr.cond rfl (fun h8 => ?_) (fun h8 => ?_)
  · try simp only [beq_iff_eq, beq_eq_false_iff_ne, Bool.not_eq_true, Bool.not_eq_false, decide_eq_true_eq, decide_eq_false_iff_not, Bool.not_eq_true', Bool.not_eq_false', bne_iff_ne, Bool.not_eq_eq_eq_not, Bool.not_true, Bool.not_false, ne_eq, Decidable.not_not, Int.not_lt, Int.not_le] at h8
    refine Tr.skip (At.then_normal ?_)
    refine Tr.seq ?_
    refine Tr.block ?_
    refine Tr.seq ?_
    refine Tr.seq ?_
    refine Tr.region ?_
    refine TrL.move rfl rfl ?_
    refine TrL.move rfl rfl ?_
    refine TrL.lens rfl rfl st9 ?_
    refine TrL.geq rfl rfl rfl ?_
    refine TrL.nil (At.then_normal ?_)
    refine Tr.cond rfl (fun h14 => ?_) (fun h14 => ?_)
    · try simp only [beq_iff_eq, beq_eq_false_iff_ne, Bool.not_eq_true, Bool.not_eq_false, decide_eq_true_eq, decide_eq_false_iff_not, Bool.not_eq_true', Bool.not_eq_false', bne_iff_ne, Bool.not_eq_eq_eq_not, Bool.not_true, Bool.not_false, ne_eq, Decidable.not_not, Int.not_lt, Int.not_le] at h14
      refine Tr.seq ?_
      refine Tr.region ?_
      refine TrL.assign rfl rfl ?_
      refine TrL.assign rfl rfl ?_
      refine TrL.assign rfl rfl ?_
      refine TrL.nil (At.then_normal ?_)
      refine Tr.ret (At.then_ret (At.block_ret (At.then_ret (At.then_ret (At.block_ret (At.then_ret (At.retP [] (.inl rfl) rfl (Res.tmp rfl (Res.tmp rfl (Res.tmp rfl Res.nil))) (by repeat (first | exact Picks.nil | with_reducible exact Pick.here | with_reducible apply Pick.there | with_reducible apply Pick.app_nil | with_reducible apply Pick.app_cons | apply Picks.cons)) (by 
          try rw [takeV_end hy3 (by omega)] at hK
          try exact hK
          first
            | (have e : takeN t.data.toList = (0, 0, 10) := by (rw [← hy3, show t.data.toList.drop k = [] from List.drop_of_length_le (by simp; omega), show 9 - k = (8 - k) + 1 by omega]; rfl)
               rw [e] at hK; exact hK)
            | (have e : takeN t.data.toList = (((n + c.toNat % 128 * 2 ^ (7 * k) : Nat) : Int), k + 1, 0) := by (rw [hstep, takeV, if_neg (by omega), if_neg (by omega)])
               rw [e] at hK; exact hK)
            | (have e : takeN t.data.toList = (0, 0, 11) := by (rw [hstep, takeV, if_neg (by omega), if_pos (by omega)])
               rw [e] at hK; exact hK)
            | (have e : takeN t.data.toList = (0, 0, 11) := by (rw [← hy3, show 9 - k = 0 by omega]; cases t.data.toList.drop k <;> rfl)
               rw [e] at hK; exact hK)))))))))
    · try simp only [beq_iff_eq, beq_eq_false_iff_ne, Bool.not_eq_true, Bool.not_eq_false, decide_eq_true_eq, decide_eq_false_iff_not, Bool.not_eq_true', Bool.not_eq_false', bne_iff_ne, Bool.not_eq_eq_eq_not, Bool.not_true, Bool.not_false, ne_eq, Decidable.not_not, Int.not_lt, Int.not_le] at h14
      refine Tr.skip (At.then_normal ?_)
      refine Tr.seq ?_
      obtain ⟨c, r, hcr⟩ : ∃ c r, t.data.toList.drop k = c :: r := by
        cases h : t.data.toList.drop k with
        | nil => have := congrArg List.length h; simp at this; omega
        | cons c r => exact ⟨c, r, rfl⟩
      have hat : byteAt t k = (c.toNat : Int) := by
        have h1 : t.data.toList[k]? = some c := by have := congrArg (fun l => l[0]?) hcr; simpa using this
        unfold byteAt; rw [List.getD_eq_getElem?_getD, h1]; rfl
      have hc256 : c.toNat < 256 := c.toNat_lt
      have hstep : takeN t.data.toList = takeV (c :: r) k n (8 - k + 1) := by rw [← hcr, ← hy3, show 8 - k + 1 = 9 - k by omega]
      have hr : t.data.toList.drop (k + 1) = r := by have := congrArg (List.drop 1) hcr; simpa [List.drop_drop, Nat.add_comm] using this
      refine Tr.region ?_
      refine TrL.move rfl rfl ?_
      refine TrL.move rfl rfl ?_
      refine TrL.move rfl rfl ?_
      refine TrL.indexStr rfl rfl rfl st9 rfl (by omega) ?_
      refine TrL.and rfl rfl rfl ?_
      refine TrL.convI rfl rfl sc5 in3 ?_
      refine TrL.move rfl rfl ?_
      refine TrL.mulI rfl rfl rfl (by omega) ?_
      refine TrL.shl rfl rfl rfl (by omega) ?_
      refine TrL.or rfl rfl rfl ?_
      refine TrL.assign rfl rfl ?_
      refine TrL.nil (At.then_normal ?_)
      refine Tr.seq ?_
      rw [hat, orShl (by omega) hy2 hc256]
      refine Tr.region ?_
      refine TrL.move rfl rfl ?_
      refine TrL.move rfl rfl ?_
      refine TrL.indexStr rfl rfl rfl st9 rfl (by omega) ?_
      rw [hat]
      refine TrL.lss rfl rfl rfl ?_
      refine TrL.nil (At.then_normal ?_)
      refine Tr.cond rfl (fun h28 => ?_) (fun h28 => ?_)
      · try simp only [beq_iff_eq, beq_eq_false_iff_ne, Bool.not_eq_true, Bool.not_eq_false, decide_eq_true_eq, decide_eq_false_iff_not, Bool.not_eq_true', Bool.not_eq_false', bne_iff_ne, Bool.not_eq_eq_eq_not, Bool.not_true, Bool.not_false, ne_eq, Decidable.not_not, Int.not_lt, Int.not_le] at h28
        refine Tr.seq ?_
        refine Tr.seq ?_
        refine Tr.region ?_
        refine TrL.move rfl rfl ?_
        refine TrL.move rfl rfl ?_
        refine TrL.indexStr rfl rfl rfl st9 rfl (by omega) ?_
        rw [hat]
        refine TrL.eqi rfl rfl rfl ?_
        refine TrL.move rfl rfl ?_
        refine TrL.cases (t := 33) rfl (fun h33 => ?_) (fun h33 => ?_)
        · try simp only [beq_iff_eq, beq_eq_false_iff_ne, Bool.not_eq_true, Bool.not_eq_false, decide_eq_true_eq, decide_eq_false_iff_not, Bool.not_eq_true', Bool.not_eq_false', bne_iff_ne, Bool.not_eq_eq_eq_not, Bool.not_true, Bool.not_false, ne_eq, Decidable.not_not, Int.not_lt, Int.not_le] at h33
          refine TrL.want rfl rfl ?_
          refine TrL.move rfl rfl ?_
          refine TrL.want rfl rfl ?_
          refine TrL.gtr rfl rfl rfl ?_
          refine TrL.pickT rfl rfl rfl ?_
          refine TrL.move rfl rfl ?_
          refine TrL.cases (t := 37) rfl (fun h37 => ?_) (fun h37 => ?_)
          · try simp only [beq_iff_eq, beq_eq_false_iff_ne, Bool.not_eq_true, Bool.not_eq_false, decide_eq_true_eq, decide_eq_false_iff_not, Bool.not_eq_true', Bool.not_eq_false', bne_iff_ne, Bool.not_eq_eq_eq_not, Bool.not_true, Bool.not_false, ne_eq, Decidable.not_not, Int.not_lt, Int.not_le] at h37
            refine TrL.unwant rfl rfl rfl ?_
            refine TrL.unwant rfl rfl rfl ?_
            refine TrL.pickT rfl rfl rfl ?_
            refine TrL.move rfl rfl ?_
            refine TrL.unwant rfl rfl rfl ?_
            refine TrL.unwant rfl rfl rfl ?_
            refine TrL.pickT rfl rfl rfl ?_
            refine TrL.nil (At.then_normal ?_)
            refine Tr.condT rfl ?_
            refine Tr.seq ?_
            refine Tr.region ?_
            refine TrL.assign rfl rfl ?_
            refine TrL.assign rfl rfl ?_
            refine TrL.assign rfl rfl ?_
            refine TrL.nil (At.then_normal ?_)
            refine Tr.ret (At.then_ret (At.block_ret (At.then_ret (At.then_ret (At.block_ret (At.then_ret (At.retP [] (.inl rfl) rfl (Res.tmp rfl (Res.tmp rfl (Res.tmp rfl Res.nil))) (by repeat (first | exact Picks.nil | with_reducible exact Pick.here | with_reducible apply Pick.there | with_reducible apply Pick.app_nil | with_reducible apply Pick.app_cons | apply Picks.cons)) (by 
                try rw [takeV_end hy3 (by omega)] at hK
                try exact hK
                first
                  | (have e : takeN t.data.toList = (0, 0, 10) := by (rw [← hy3, show t.data.toList.drop k = [] from List.drop_of_length_le (by simp; omega), show 9 - k = (8 - k) + 1 by omega]; rfl)
                     rw [e] at hK; exact hK)
                  | (have e : takeN t.data.toList = (((n + c.toNat % 128 * 2 ^ (7 * k) : Nat) : Int), k + 1, 0) := by (rw [hstep, takeV, if_neg (by omega), if_neg (by omega)])
                     rw [e] at hK; exact hK)
                  | (have e : takeN t.data.toList = (0, 0, 11) := by (rw [hstep, takeV, if_neg (by omega), if_pos (by omega)])
                     rw [e] at hK; exact hK)
                  | (have e : takeN t.data.toList = (0, 0, 11) := by (rw [← hy3, show 9 - k = 0 by omega]; cases t.data.toList.drop k <;> rfl)
                     rw [e] at hK; exact hK)))))))))
          · try simp only [beq_iff_eq, beq_eq_false_iff_ne, Bool.not_eq_true, Bool.not_eq_false, decide_eq_true_eq, decide_eq_false_iff_not, Bool.not_eq_true', Bool.not_eq_false', bne_iff_ne, Bool.not_eq_eq_eq_not, Bool.not_true, Bool.not_false, ne_eq, Decidable.not_not, Int.not_lt, Int.not_le] at h37
            refine TrL.want rfl rfl ?_
            refine TrL.move rfl rfl ?_
            refine TrL.want rfl rfl ?_
            refine TrL.lss rfl rfl rfl ?_
            refine TrL.pickF rfl rfl rfl ?_
            refine TrL.move rfl rfl ?_
            refine TrL.cases (t := 41) rfl (fun h41 => ?_) (fun h41 => ?_)
            · try simp only [beq_iff_eq, beq_eq_false_iff_ne, Bool.not_eq_true, Bool.not_eq_false, decide_eq_true_eq, decide_eq_false_iff_not, Bool.not_eq_true', Bool.not_eq_false', bne_iff_ne, Bool.not_eq_eq_eq_not, Bool.not_true, Bool.not_false, ne_eq, Decidable.not_not, Int.not_lt, Int.not_le] at h41
              refine TrL.unwant rfl rfl rfl ?_
              refine TrL.unwant rfl rfl rfl ?_
              refine TrL.pickT rfl rfl rfl ?_
              refine TrL.nil (At.then_normal ?_)
              refine Tr.condT rfl ?_
              refine Tr.seq ?_
              refine Tr.region ?_
              refine TrL.assign rfl rfl ?_
              refine TrL.assign rfl rfl ?_
              refine TrL.assign rfl rfl ?_
              refine TrL.nil (At.then_normal ?_)
              refine Tr.ret (At.then_ret (At.block_ret (At.then_ret (At.then_ret (At.block_ret (At.then_ret (At.retP [] (.inl rfl) rfl (Res.tmp rfl (Res.tmp rfl (Res.tmp rfl Res.nil))) (by repeat (first | exact Picks.nil | with_reducible exact Pick.here | with_reducible apply Pick.there | with_reducible apply Pick.app_nil | with_reducible apply Pick.app_cons | apply Picks.cons)) (by 
                  try rw [takeV_end hy3 (by omega)] at hK
                  try exact hK
                  first
                    | (have e : takeN t.data.toList = (0, 0, 10) := by (rw [← hy3, show t.data.toList.drop k = [] from List.drop_of_length_le (by simp; omega), show 9 - k = (8 - k) + 1 by omega]; rfl)
                       rw [e] at hK; exact hK)
                    | (have e : takeN t.data.toList = (((n + c.toNat % 128 * 2 ^ (7 * k) : Nat) : Int), k + 1, 0) := by (rw [hstep, takeV, if_neg (by omega), if_neg (by omega)])
                       rw [e] at hK; exact hK)
                    | (have e : takeN t.data.toList = (0, 0, 11) := by (rw [hstep, takeV, if_neg (by omega), if_pos (by omega)])
                       rw [e] at hK; exact hK)
                    | (have e : takeN t.data.toList = (0, 0, 11) := by (rw [← hy3, show 9 - k = 0 by omega]; cases t.data.toList.drop k <;> rfl)
                       rw [e] at hK; exact hK)))))))))
            · try simp only [beq_iff_eq, beq_eq_false_iff_ne, Bool.not_eq_true, Bool.not_eq_false, decide_eq_true_eq, decide_eq_false_iff_not, Bool.not_eq_true', Bool.not_eq_false', bne_iff_ne, Bool.not_eq_eq_eq_not, Bool.not_true, Bool.not_false, ne_eq, Decidable.not_not, Int.not_lt, Int.not_le] at h41
              refine TrL.want rfl rfl ?_
              refine TrL.move rfl rfl ?_
              refine TrL.want rfl rfl ?_
              refine TrL.gtr rfl rfl rfl ?_
              refine TrL.pickF rfl rfl rfl ?_
              refine TrL.nil (At.then_normal ?_)
              refine Tr.cond rfl (fun h44 => ?_) (fun h44 => ?_)
              · try simp only [beq_iff_eq, beq_eq_false_iff_ne, Bool.not_eq_true, Bool.not_eq_false, decide_eq_true_eq, decide_eq_false_iff_not, Bool.not_eq_true', Bool.not_eq_false', bne_iff_ne, Bool.not_eq_eq_eq_not, Bool.not_true, Bool.not_false, ne_eq, Decidable.not_not, Int.not_lt, Int.not_le] at h44
                refine Tr.seq ?_
                refine Tr.region ?_
                refine TrL.assign rfl rfl ?_
                refine TrL.assign rfl rfl ?_
                refine TrL.assign rfl rfl ?_
                refine TrL.nil (At.then_normal ?_)
                refine Tr.ret (At.then_ret (At.block_ret (At.then_ret (At.then_ret (At.block_ret (At.then_ret (At.retP [] (.inl rfl) rfl (Res.tmp rfl (Res.tmp rfl (Res.tmp rfl Res.nil))) (by repeat (first | exact Picks.nil | with_reducible exact Pick.here | with_reducible apply Pick.there | with_reducible apply Pick.app_nil | with_reducible apply Pick.app_cons | apply Picks.cons)) (by 
                    try rw [takeV_end hy3 (by omega)] at hK
                    try exact hK
                    first
                      | (have e : takeN t.data.toList = (0, 0, 10) := by (rw [← hy3, show t.data.toList.drop k = [] from List.drop_of_length_le (by simp; omega), show 9 - k = (8 - k) + 1 by omega]; rfl)
                         rw [e] at hK; exact hK)
                      | (have e : takeN t.data.toList = (((n + c.toNat % 128 * 2 ^ (7 * k) : Nat) : Int), k + 1, 0) := by (rw [hstep, takeV, if_neg (by omega), if_neg (by omega)])
                         rw [e] at hK; exact hK)
                      | (have e : takeN t.data.toList = (0, 0, 11) := by (rw [hstep, takeV, if_neg (by omega), if_pos (by omega)])
                         rw [e] at hK; exact hK)
                      | (have e : takeN t.data.toList = (0, 0, 11) := by (rw [← hy3, show 9 - k = 0 by omega]; cases t.data.toList.drop k <;> rfl)
                         rw [e] at hK; exact hK)))))))))
              · try simp only [beq_iff_eq, beq_eq_false_iff_ne, Bool.not_eq_true, Bool.not_eq_false, decide_eq_true_eq, decide_eq_false_iff_not, Bool.not_eq_true', Bool.not_eq_false', bne_iff_ne, Bool.not_eq_eq_eq_not, Bool.not_true, Bool.not_false, ne_eq, Decidable.not_not, Int.not_lt, Int.not_le] at h44
                refine Tr.skip (At.then_normal ?_)
                refine Tr.seq ?_
                refine Tr.region ?_
                refine TrL.move rfl rfl ?_
                refine TrL.move rfl rfl ?_
                refine TrL.addI rfl rfl rfl (by omega) ?_
                refine TrL.assign rfl rfl ?_
                refine TrL.assign rfl rfl ?_
                refine TrL.assign rfl rfl ?_
                refine TrL.nil (At.then_normal ?_)
                refine Tr.ret (At.block_ret (At.then_ret (At.then_ret (At.block_ret (At.then_ret (At.retP [] (.inl rfl) rfl (Res.tmp rfl (Res.tmp rfl (Res.tmp rfl Res.nil))) (by repeat (first | exact Picks.nil | with_reducible exact Pick.here | with_reducible apply Pick.there | with_reducible apply Pick.app_nil | with_reducible apply Pick.app_cons | apply Picks.cons)) (by 
                    try rw [takeV_end hy3 (by omega)] at hK
                    try exact hK
                    first
                      | (have e : takeN t.data.toList = (0, 0, 10) := by (rw [← hy3, show t.data.toList.drop k = [] from List.drop_of_length_le (by simp; omega), show 9 - k = (8 - k) + 1 by omega]; rfl)
                         rw [e] at hK; exact hK)
                      | (have e : takeN t.data.toList = (((n + c.toNat % 128 * 2 ^ (7 * k) : Nat) : Int), k + 1, 0) := by (rw [hstep, takeV, if_neg (by omega), if_neg (by omega)])
                         rw [e] at hK; exact hK)
                      | (have e : takeN t.data.toList = (0, 0, 11) := by (rw [hstep, takeV, if_neg (by omega), if_pos (by omega)])
                         rw [e] at hK; exact hK)
                      | (have e : takeN t.data.toList = (0, 0, 11) := by (rw [← hy3, show 9 - k = 0 by omega]; cases t.data.toList.drop k <;> rfl)
                         rw [e] at hK; exact hK))))))))
        · try simp only [beq_iff_eq, beq_eq_false_iff_ne, Bool.not_eq_true, Bool.not_eq_false, decide_eq_true_eq, decide_eq_false_iff_not, Bool.not_eq_true', Bool.not_eq_false', bne_iff_ne, Bool.not_eq_eq_eq_not, Bool.not_true, Bool.not_false, ne_eq, Decidable.not_not, Int.not_lt, Int.not_le] at h33
          refine TrL.unwant rfl rfl rfl ?_
          refine TrL.unwant rfl rfl rfl ?_
          refine TrL.pickF rfl rfl rfl ?_
          refine TrL.move rfl rfl ?_
          refine TrL.want rfl rfl ?_
          refine TrL.move rfl rfl ?_
          refine TrL.want rfl rfl ?_
          refine TrL.lss rfl rfl rfl ?_
          refine TrL.pickF rfl rfl rfl ?_
          refine TrL.move rfl rfl ?_
          refine TrL.cases (t := 41) rfl (fun h41 => ?_) (fun h41 => ?_)
          · try simp only [beq_iff_eq, beq_eq_false_iff_ne, Bool.not_eq_true, Bool.not_eq_false, decide_eq_true_eq, decide_eq_false_iff_not, Bool.not_eq_true', Bool.not_eq_false', bne_iff_ne, Bool.not_eq_eq_eq_not, Bool.not_true, Bool.not_false, ne_eq, Decidable.not_not, Int.not_lt, Int.not_le] at h41
            refine TrL.unwant rfl rfl rfl ?_
            refine TrL.unwant rfl rfl rfl ?_
            refine TrL.pickT rfl rfl rfl ?_
            refine TrL.nil (At.then_normal ?_)
            refine Tr.condT rfl ?_
            refine Tr.seq ?_
            refine Tr.region ?_
            refine TrL.assign rfl rfl ?_
            refine TrL.assign rfl rfl ?_
            refine TrL.assign rfl rfl ?_
            refine TrL.nil (At.then_normal ?_)
            refine Tr.ret (At.then_ret (At.block_ret (At.then_ret (At.then_ret (At.block_ret (At.then_ret (At.retP [] (.inl rfl) rfl (Res.tmp rfl (Res.tmp rfl (Res.tmp rfl Res.nil))) (by repeat (first | exact Picks.nil | with_reducible exact Pick.here | with_reducible apply Pick.there | with_reducible apply Pick.app_nil | with_reducible apply Pick.app_cons | apply Picks.cons)) (by 
                try rw [takeV_end hy3 (by omega)] at hK
                try exact hK
                first
                  | (have e : takeN t.data.toList = (0, 0, 10) := by (rw [← hy3, show t.data.toList.drop k = [] from List.drop_of_length_le (by simp; omega), show 9 - k = (8 - k) + 1 by omega]; rfl)
                     rw [e] at hK; exact hK)
                  | (have e : takeN t.data.toList = (((n + c.toNat % 128 * 2 ^ (7 * k) : Nat) : Int), k + 1, 0) := by (rw [hstep, takeV, if_neg (by omega), if_neg (by omega)])
                     rw [e] at hK; exact hK)
                  | (have e : takeN t.data.toList = (0, 0, 11) := by (rw [hstep, takeV, if_neg (by omega), if_pos (by omega)])
                     rw [e] at hK; exact hK)
                  | (have e : takeN t.data.toList = (0, 0, 11) := by (rw [← hy3, show 9 - k = 0 by omega]; cases t.data.toList.drop k <;> rfl)
                     rw [e] at hK; exact hK)))))))))
          · try simp only [beq_iff_eq, beq_eq_false_iff_ne, Bool.not_eq_true, Bool.not_eq_false, decide_eq_true_eq, decide_eq_false_iff_not, Bool.not_eq_true', Bool.not_eq_false', bne_iff_ne, Bool.not_eq_eq_eq_not, Bool.not_true, Bool.not_false, ne_eq, Decidable.not_not, Int.not_lt, Int.not_le] at h41
            refine TrL.want rfl rfl ?_
            refine TrL.move rfl rfl ?_
            refine TrL.want rfl rfl ?_
            refine TrL.gtr rfl rfl rfl ?_
            refine TrL.pickF rfl rfl rfl ?_
            refine TrL.nil (At.then_normal ?_)
            refine Tr.cond rfl (fun h44 => ?_) (fun h44 => ?_)
            · try simp only [beq_iff_eq, beq_eq_false_iff_ne, Bool.not_eq_true, Bool.not_eq_false, decide_eq_true_eq, decide_eq_false_iff_not, Bool.not_eq_true', Bool.not_eq_false', bne_iff_ne, Bool.not_eq_eq_eq_not, Bool.not_true, Bool.not_false, ne_eq, Decidable.not_not, Int.not_lt, Int.not_le] at h44
              refine Tr.seq ?_
              refine Tr.region ?_
              refine TrL.assign rfl rfl ?_
              refine TrL.assign rfl rfl ?_
              refine TrL.assign rfl rfl ?_
              refine TrL.nil (At.then_normal ?_)
              refine Tr.ret (At.then_ret (At.block_ret (At.then_ret (At.then_ret (At.block_ret (At.then_ret (At.retP [] (.inl rfl) rfl (Res.tmp rfl (Res.tmp rfl (Res.tmp rfl Res.nil))) (by repeat (first | exact Picks.nil | with_reducible exact Pick.here | with_reducible apply Pick.there | with_reducible apply Pick.app_nil | with_reducible apply Pick.app_cons | apply Picks.cons)) (by 
                  try rw [takeV_end hy3 (by omega)] at hK
                  try exact hK
                  first
                    | (have e : takeN t.data.toList = (0, 0, 10) := by (rw [← hy3, show t.data.toList.drop k = [] from List.drop_of_length_le (by simp; omega), show 9 - k = (8 - k) + 1 by omega]; rfl)
                       rw [e] at hK; exact hK)
                    | (have e : takeN t.data.toList = (((n + c.toNat % 128 * 2 ^ (7 * k) : Nat) : Int), k + 1, 0) := by (rw [hstep, takeV, if_neg (by omega), if_neg (by omega)])
                       rw [e] at hK; exact hK)
                    | (have e : takeN t.data.toList = (0, 0, 11) := by (rw [hstep, takeV, if_neg (by omega), if_pos (by omega)])
                       rw [e] at hK; exact hK)
                    | (have e : takeN t.data.toList = (0, 0, 11) := by (rw [← hy3, show 9 - k = 0 by omega]; cases t.data.toList.drop k <;> rfl)
                       rw [e] at hK; exact hK)))))))))
            · try simp only [beq_iff_eq, beq_eq_false_iff_ne, Bool.not_eq_true, Bool.not_eq_false, decide_eq_true_eq, decide_eq_false_iff_not, Bool.not_eq_true', Bool.not_eq_false', bne_iff_ne, Bool.not_eq_eq_eq_not, Bool.not_true, Bool.not_false, ne_eq, Decidable.not_not, Int.not_lt, Int.not_le] at h44
              refine Tr.skip (At.then_normal ?_)
              refine Tr.seq ?_
              refine Tr.region ?_
              refine TrL.move rfl rfl ?_
              refine TrL.move rfl rfl ?_
              refine TrL.addI rfl rfl rfl (by omega) ?_
              refine TrL.assign rfl rfl ?_
              refine TrL.assign rfl rfl ?_
              refine TrL.assign rfl rfl ?_
              refine TrL.nil (At.then_normal ?_)
              refine Tr.ret (At.block_ret (At.then_ret (At.then_ret (At.block_ret (At.then_ret (At.retP [] (.inl rfl) rfl (Res.tmp rfl (Res.tmp rfl (Res.tmp rfl Res.nil))) (by repeat (first | exact Picks.nil | with_reducible exact Pick.here | with_reducible apply Pick.there | with_reducible apply Pick.app_nil | with_reducible apply Pick.app_cons | apply Picks.cons)) (by 
                  try rw [takeV_end hy3 (by omega)] at hK
                  try exact hK
                  first
                    | (have e : takeN t.data.toList = (0, 0, 10) := by (rw [← hy3, show t.data.toList.drop k = [] from List.drop_of_length_le (by simp; omega), show 9 - k = (8 - k) + 1 by omega]; rfl)
                       rw [e] at hK; exact hK)
                    | (have e : takeN t.data.toList = (((n + c.toNat % 128 * 2 ^ (7 * k) : Nat) : Int), k + 1, 0) := by (rw [hstep, takeV, if_neg (by omega), if_neg (by omega)])
                       rw [e] at hK; exact hK)
                    | (have e : takeN t.data.toList = (0, 0, 11) := by (rw [hstep, takeV, if_neg (by omega), if_pos (by omega)])
                       rw [e] at hK; exact hK)
                    | (have e : takeN t.data.toList = (0, 0, 11) := by (rw [← hy3, show 9 - k = 0 by omega]; cases t.data.toList.drop k <;> rfl)
                       rw [e] at hK; exact hK))))))))
      · try simp only [beq_iff_eq, beq_eq_false_iff_ne, Bool.not_eq_true, Bool.not_eq_false, decide_eq_true_eq, decide_eq_false_iff_not, Bool.not_eq_true', Bool.not_eq_false', bne_iff_ne, Bool.not_eq_eq_eq_not, Bool.not_true, Bool.not_false, ne_eq, Decidable.not_not, Int.not_lt, Int.not_le] at h28
        refine Tr.skip (At.block_normal (At.then_normal ?_))
        refine Tr.region ?_
        refine TrL.move rfl rfl ?_
        refine TrL.addI rfl rfl rfl (by omega) ?_
        refine TrL.assign rfl rfl ?_
        refine TrL.nil ?_
        have hnext : takeV r (k + 1) (n + c.toNat % 128 * 2 ^ (7 * k)) (8 - k) = takeN t.data.toList := by rw [hstep, takeV, if_pos (by omega)]
        have hpow : n + c.toNat % 128 * 2 ^ (7 * k) < 2 ^ (7 * (k + 1)) := by
          rw [Nat.mul_add, Nat.pow_add]
          have : c.toNat % 128 * 2 ^ (7 * k) ≤ 127 * 2 ^ (7 * k) := Nat.mul_le_mul_right _ (by omega)
          omega
        refine At.again (k + 1, n + c.toNat % 128 * 2 ^ (7 * k)) ⟨by show k + 1 ≤ 9; omega, by show k + 1 ≤ t.size; omega, hpow, ?_⟩ (by show 9 - (k + 1) < 9 - k; omega) (by repeat (first | exact Sub.nil | refine Sub.cons (by rfl) ?_)) (by repeat (first | exact Picks.nil | with_reducible exact Pick.here | with_reducible apply Pick.there | with_reducible apply Pick.app_nil | with_reducible apply Pick.app_cons | apply Picks.cons))
        show takeV (t.data.toList.drop (k + 1)) (k + 1) _ (9 - (k + 1)) = _
        rw [hr, show 9 - (k + 1) = 8 - k by omega]; exact hnext
  · try simp only [beq_iff_eq, beq_eq_false_iff_ne, Bool.not_eq_true, Bool.not_eq_false, decide_eq_true_eq, decide_eq_false_iff_not, Bool.not_eq_true', Bool.not_eq_false', bne_iff_ne, Bool.not_eq_eq_eq_not, Bool.not_true, Bool.not_false, ne_eq, Decidable.not_not, Int.not_lt, Int.not_le] at h8
    refine Tr.exit (At.then_exit (At.then_exit (At.block_hit (At.then_normal ?_))))
    refine Tr.seq ?_
    refine Tr.region ?_
    refine TrL.assign rfl rfl ?_
    refine TrL.assign rfl rfl ?_
    refine TrL.assign rfl rfl ?_
    refine TrL.nil (At.then_normal ?_)
    refine Tr.ret (At.retP [] (.inl rfl) rfl (Res.tmp rfl (Res.tmp rfl (Res.tmp rfl Res.nil))) (by repeat (first | exact Picks.nil | with_reducible exact Pick.here | with_reducible apply Pick.there | with_reducible apply Pick.app_nil | with_reducible apply Pick.app_cons | apply Picks.cons)) (by 
        try rw [takeV_end hy3 (by omega)] at hK
        try exact hK
        first
          | (have e : takeN t.data.toList = (0, 0, 10) := by (rw [← hy3, show t.data.toList.drop k = [] from List.drop_of_length_le (by simp; omega), show 9 - k = (8 - k) + 1 by omega]; rfl)
             rw [e] at hK; exact hK)
          | (have e : takeN t.data.toList = (((n + c.toNat % 128 * 2 ^ (7 * k) : Nat) : Int), k + 1, 0) := by (rw [hstep, takeV, if_neg (by omega), if_neg (by omega)])
             rw [e] at hK; exact hK)
          | (have e : takeN t.data.toList = (0, 0, 11) := by (rw [hstep, takeV, if_neg (by omega), if_pos (by omega)])
             rw [e] at hK; exact hK)
          | (have e : takeN t.data.toList = (0, 0, 11) := by (rw [← hy3, show 9 - k = 0 by omega]; cases t.data.toList.drop k <;> rfl)
             rw [e] at hK; exact hK)))
end Go.Proofs.Ytiefmfimbmkdjaa

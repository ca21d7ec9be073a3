/-
  strings.Builder: contracts.
  No condition but those that each statement names.
-/
import Derived.Test.YtiefmfimbmkdjaaSxBld
import Derived.Test.YtiefmfimbmkdjaaMfD
namespace Go.Proofs.Ytiefmfimbmkdjaa
set_option linter.unusedSimpArgs false
set_option linter.unusedVariables false
set_option linter.unusedSectionVars false
open Go.RowKit
variable [Obs]

/-- a builder that holds bytes -/
def bldC (b : Nat) (bs : List UInt8) : HProp := fun h => ∃ x : Option Addr × Option Addr × Nat, (x.1 = none ∨ x.1 = some ⟨b, 0, none⟩) ∧ Stars [cl b [.pointer x.1, .slice x.2.1 bs.length x.2.2] 57, Own 5 1 encB x.2.1 x.2.2 bs] h
theorem bld_open {b : Nat} {bs : List UInt8} (h : Hp) (c : bldC b bs h) : ∃ x : {x : Option Addr × Option Addr × Nat // x.1 = none ∨ x.1 = some ⟨b, 0, none⟩}, Stars [cl b [.pointer x.1.1, .slice x.1.2.1 bs.length x.1.2.2] 57, Own 5 1 encB x.1.2.1 x.1.2.2 bs] h :=
  let ⟨x, hx, hs⟩ := c; ⟨⟨x, hx⟩, hs⟩
theorem bld_close {b : Nat} {bs : List UInt8} {a p : Option Addr} {cap : Nat} (ha : a = none ∨ a = some ⟨b, 0, none⟩) (h : Hp) (c : Stars [cl b [.pointer a, .slice p bs.length cap] 57, Own 5 1 encB p cap bs] h) : bldC b bs h := ⟨(a, p, cap), ha, c⟩

theorem copyCheck_spec {F : Hp} {K : Value → List HProp → Prop} {b : Nat} {a0 : Option Addr} {v : Value} (ha : a0 = none ∨ a0 = some ⟨b, 0, none⟩) (h1 : v.oneCell' = true) (hK : K (.tuple #[]) [cl b [.pointer (some ⟨b, 0, none⟩), v] 57]) : CallK Try.prog F 57 #[.pointer (some ⟨b, 0, none⟩)] [cl b [.pointer a0, v] 57] K := by
  refine CallK.enter Try.func57 rfl Try.ntmps57 rfl ?_
  refine Tr.seq ?_
  refine Tr.region ?_
  refine TrL.move rfl rfl ?_
  refine TrL.nilCheck rfl rfl ?_
  refine TrL.field0 rfl rfl fl57_0 ?_
  refine TrL.load1 rfl rfl sc54 (Sees.cl1 (by repeat (first | with_reducible exact Pick.here | with_reducible apply Pick.there | with_reducible apply Pick.app_nil | with_reducible apply Pick.app_cons)) (by rfl)) ?_
  refine TrL.eqpNil rfl rfl rfl pp54 ?_
  refine TrL.nil (At.then_normal ?_)
  refine Tr.cond rfl (fun h6 => ?_) (fun h6 => ?_)
  · try simp only [beq_iff_eq, beq_eq_false_iff_ne, Bool.not_eq_true, Bool.not_eq_false, decide_eq_true_eq, decide_eq_false_iff_not, Bool.not_eq_true', Bool.not_eq_false', bne_iff_ne, Bool.not_eq_eq_eq_not, Bool.not_true, Bool.not_false, ne_eq, Decidable.not_not, Int.not_lt, Int.not_le] at h6
    obtain rfl : a0 = none := by simpa using h6
    refine Tr.region ?_
    refine TrL.move rfl rfl ?_
    refine TrL.move rfl rfl ?_
    refine TrL.toUnsafe (k := 2) rfl rfl (by kernel_rfl) (by kernel_rfl) sz57 rfl (by repeat (first | with_reducible exact Pick.here | with_reducible apply Pick.there | with_reducible apply Pick.app_nil | with_reducible apply Pick.app_cons)) (by simp) ?_
    refine TrL.noEscape rfl rfl rfl Try.func70 (by kernel_rfl) (by kernel_rfl) (by kernel_rfl) (by kernel_rfl) ?_
    refine TrL.fromUnsafe (m := 2) rfl rfl (by kernel_rfl) (by kernel_rfl) sz57 (by repeat (first | with_reducible exact Pick.here | with_reducible apply Pick.there | with_reducible apply Pick.app_nil | with_reducible apply Pick.app_cons)) rfl (by kernel_rfl) ?_
    --L:b
    refine TrL.nilCheck rfl rfl ?_
    refine TrL.field0 rfl rfl fl57_0 ?_
    refine TrL.store1 rfl rfl sz54 rfl (by repeat (first | with_reducible exact Upd.here | with_reducible apply Upd.there | with_reducible apply Upd.app_nil | with_reducible apply Upd.app_cons)) (by rfl) ?_
    refine TrL.nil (At.retP [_] (.inr rfl) rfl Res.nil (by repeat (first | exact Picks.nil | with_reducible exact Pick.here | with_reducible apply Pick.there | with_reducible apply Pick.app_nil | with_reducible apply Pick.app_cons | apply Picks.cons)) (by exact hK))
  · try simp only [beq_iff_eq, beq_eq_false_iff_ne, Bool.not_eq_true, Bool.not_eq_false, decide_eq_true_eq, decide_eq_false_iff_not, Bool.not_eq_true', Bool.not_eq_false', bne_iff_ne, Bool.not_eq_eq_eq_not, Bool.not_true, Bool.not_false, ne_eq, Decidable.not_not, Int.not_lt, Int.not_le] at h6
    obtain rfl : a0 = some ⟨b, 0, none⟩ := ha.resolve_left (by rintro rfl; simp at h6)
    refine Tr.seq ?_
    refine Tr.region ?_
    refine TrL.move rfl rfl ?_
    refine TrL.nilCheck rfl rfl ?_
    refine TrL.field0 rfl rfl fl57_0 ?_
    refine TrL.load1 rfl rfl sc54 (Sees.cl1 (by repeat (first | with_reducible exact Pick.here | with_reducible apply Pick.there | with_reducible apply Pick.app_nil | with_reducible apply Pick.app_cons)) (by rfl)) ?_
    refine TrL.move rfl rfl ?_
    refine TrL.nepEq rfl rfl rfl (by kernel_rfl) sz57 ?_
    --K:False
    refine TrL.nil (At.then_normal ?_)
    refine Tr.condF rfl ?_
    refine Tr.skip (At.retP [_] (.inr rfl) rfl Res.nil (by repeat (first | exact Picks.nil | with_reducible exact Pick.here | with_reducible apply Pick.there | with_reducible apply Pick.app_nil | with_reducible apply Pick.app_cons | apply Picks.cons)) (by exact hK))
theorem WriteString_spec {F : Hp} {K : Value → List HProp → Prop} {b : Nat} {bs : List UInt8} {t : ByteArray} (hl : bs.length + t.size ≤ 140737488355328) (hK : K (.tuple #[.int .i64 (t.size : Int), .nilIface]) [bldC b (bs ++ t.data.toList)]) : CallK Try.prog F 28 #[.pointer (some ⟨b, 0, none⟩), .string t] [bldC b bs] K := by
  refine CallK.openE .here bld_open ?_
  rintro ⟨⟨a, p, cap⟩, ha⟩
  show CallK _ _ _ _ [cl b [.pointer a, .slice p bs.length cap] 57, Own 5 1 encB p cap bs] _
  refine CallK.enter Try.func28 rfl Try.ntmps28 rfl ?_
  refine Tr.seq ?_
  refine Tr.region ?_
  refine TrL.assign rfl rfl ?_
  refine TrL.assign rfl rfl ?_
  refine TrL.nil (At.then_normal ?_)
  refine Tr.seq ?_
  refine Tr.region ?_
  refine TrL.move rfl rfl ?_
  refine TrL.call rfl rfl rfl ca57 (by repeat (first | exact Picks.nil | with_reducible exact Pick.here | with_reducible apply Pick.there | with_reducible apply Pick.app_nil | with_reducible apply Pick.app_cons | apply Picks.cons)) (fun Ft7 hUt7 => copyCheck_spec (a0 := a) (v := .slice p bs.length cap) ha rfl ?_)
  refine TrL.nil (At.then_normal ?_)
  refine Tr.seq ?_
  refine Tr.region ?_
  refine TrL.move rfl rfl ?_
  refine TrL.move rfl rfl ?_
  refine TrL.nilCheck rfl rfl ?_
  refine TrL.field rfl rfl fl57_1 ?_
  refine TrL.load1 rfl rfl sc55 (Sees.cl1 (by repeat (first | with_reducible exact Pick.here | with_reducible apply Pick.there | with_reducible apply Pick.app_nil | with_reducible apply Pick.app_cons)) (by rfl)) ?_
  refine TrL.move rfl rfl ?_
  refine TrL.appendS rfl rfl se55 sz5 by5 zv5 st9 (by repeat (first | with_reducible exact Pick.here | with_reducible apply Pick.there | with_reducible apply Pick.app_nil | with_reducible apply Pick.app_cons)) (by rfl) (by omega) (fun p14 cap14 => ?_)
  refine TrL.nilCheck rfl rfl ?_
  refine TrL.field rfl rfl fl57_1 ?_
  refine TrL.store1 rfl rfl sz55 rfl (by repeat (first | with_reducible exact Upd.here | with_reducible apply Upd.there | with_reducible apply Upd.app_nil | with_reducible apply Upd.app_cons)) (by rfl) ?_
  refine TrL.nil (At.then_normal ?_)
  refine Tr.seq ?_
  refine Tr.region ?_
  refine TrL.move rfl rfl ?_
  refine TrL.lens rfl rfl st9 ?_
  refine TrL.assign rfl rfl ?_
  refine TrL.assign rfl rfl ?_
  refine TrL.nil (At.then_normal ?_)
  refine Tr.ret (At.retX [cl b [.pointer (some ⟨b, 0, none⟩), .slice p14 (bs ++ t.data.toList).length cap14] 57, Own 5 1 encB p14 cap14 (bs ++ t.data.toList)] (.inl rfl) rfl (Res.tmp rfl (Res.tmp rfl Res.nil)) (by repeat (first | exact Picks.nil | with_reducible exact Pick.here | with_reducible apply Pick.there | with_reducible apply Pick.app_nil | with_reducible apply Pick.app_cons | apply Picks.cons)) (by exact ⟨[bldC b (bs ++ t.data.toList)], fun h hs => one_stars (bld_close (.inr rfl) h hs), hK⟩))
theorem String_spec {F : Hp} {K : Value → List HProp → Prop} {b : Nat} {bs : List UInt8} (hne : bs ≠ []) (hK : K (.string (strOf bs)) []) : CallK Try.prog F 30 #[.pointer (some ⟨b, 0, none⟩)] [bldC b bs] K := by
  refine CallK.openE .here bld_open ?_
  rintro ⟨⟨a, p, cap⟩, ha⟩
  show CallK _ _ _ _ [cl b [.pointer a, .slice p bs.length cap] 57, Own 5 1 encB p cap bs] _
  refine CallK.enter Try.func30 rfl Try.ntmps30 rfl ?_
  refine Tr.seq ?_
  refine Tr.region ?_
  refine TrL.assign rfl rfl ?_
  refine TrL.nil (At.then_normal ?_)
  refine Tr.seq ?_
  refine Tr.regionT 10 mixed (by kernel_rfl) rfl rfl ?_
  refine TrL.move rfl rfl ?_
  refine TrL.nilCheck rfl rfl ?_
  refine TrL.field rfl rfl fl57_1 ?_
  refine TrL.load1 rfl rfl sc55 (Sees.cl1 (by repeat (first | with_reducible exact Pick.here | with_reducible apply Pick.there | with_reducible apply Pick.app_nil | with_reducible apply Pick.app_cons)) (by rfl)) ?_
  refine TrL.sliceData (E := 5) (k := 1) (enc := encB) (l := bs) rfl rfl (by repeat (first | with_reducible exact Pick.here | with_reducible apply Pick.there | with_reducible apply Pick.app_nil | with_reducible apply Pick.app_cons)) hne rfl ?_
  refine TrL.move rfl rfl ?_
  refine TrL.nilCheck rfl rfl ?_
  refine TrL.field rfl rfl fl57_1 ?_
  refine TrL.load1 rfl rfl sc55 (Sees.cl1 (by repeat (first | with_reducible exact Pick.here | with_reducible apply Pick.there | with_reducible apply Pick.app_nil | with_reducible apply Pick.app_cons)) (by rfl)) ?_
  refine TrL.lenl rfl rfl se55 ?_
  refine TrL.turn ?_
  refine TrL.unsafeStr (E := 5) (l := bs) (p := p) rfl rfl (by kernel_rfl) (by kernel_rfl) (by repeat (first | with_reducible exact Pick.here | with_reducible apply Pick.there | with_reducible apply Pick.app_nil | with_reducible apply Pick.app_cons)) hne rfl ?_
  refine TrL.assign rfl rfl ?_
  refine TrL.nil (At.then_normal ?_)
  refine Tr.ret (At.retP [] (.inl rfl) rfl (Res.tmp rfl Res.nil) (by repeat (first | exact Picks.nil | with_reducible exact Pick.here | with_reducible apply Pick.there | with_reducible apply Pick.app_nil | with_reducible apply Pick.app_cons | apply Picks.cons)) (by exact hK))
end Go.Proofs.Ytiefmfimbmkdjaa

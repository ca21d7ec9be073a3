/-
  Texts as bytes, which of two tables stands first, the search by a function value, edits that may be: contracts.
  No condition but those that each statement names.
-/
import Derived.Test.YtiefmfimbmkdjaaMfB
namespace Go.Proofs.Ytiefmfimbmkdjaa
set_option linter.unusedSimpArgs false
set_option linter.unusedVariables false
set_option linter.unusedSectionVars false
open Go.RowKit
variable [Obs]

omit [Obs] in
theorem strOf_append (a b : List UInt8) : strOf a ++ strOf b = strOf (a ++ b) := by
  apply bytes_ext; simp [strOf, ByteArray.data_append]
omit [Obs] in
theorem strOf_extract (l : List UInt8) (i j : Nat) : (strOf l).extract i j = strOf ((l.drop i).take (j - i)) := by
  apply bytes_ext
  simp [strOf, ByteArray.data_extract, List.extract_eq_take_drop]
omit [Obs] in
theorem strOf_size (l : List UInt8) : (strOf l).size = l.length := by simp [strOf, ByteArray.size]
omit [Obs] in
theorem ext_str (t : ByteArray) (i j : Nat) : t.extract i j = strOf ((t.data.toList.drop i).take (j - i)) := by
  rw [← strOf_extract, strOf_data]

theorem TextN_spec {F : Hp} {K : Value → List HProp → Prop} {t : ByteArray} (ht : t.size ≤ 262144) (hK : K (.tuple #[.string (strOf (textN t.data.toList)), .int .i64 0]) []) : CallK Try.prog F 29 #[.string t] [] K := by
  refine CallK.enter Try.func29 rfl Try.ntmps29 rfl ?_
  refine Tr.seq ?_
  refine Tr.region ?_
  refine TrL.assign rfl rfl ?_
  refine TrL.assign rfl rfl ?_
  refine TrL.nil (At.then_normal ?_)
  refine Tr.seq ?_
  refine Tr.seq ?_
  refine Tr.region ?_
  refine TrL.move rfl rfl ?_
  refine TrL.lens rfl rfl st9 ?_
  refine TrL.gtr rfl rfl rfl ?_
  refine TrL.knownB (t := 8) (c := false) rfl (by simp; omega) ?_
  refine TrL.nil (At.then_normal ?_)
  refine Tr.condF rfl ?_
  refine Tr.skip (At.then_normal ?_)
  refine Tr.seq ?_
  refine Tr.region ?_
  refine TrL.move rfl rfl ?_
  refine TrL.lens rfl rfl st9 ?_
  refine TrL.call rfl rfl rfl ca27 .nil (fun Ft12 hUt12 => PutN_spec (n := t.size) (by omega) ?_)
  refine TrL.move rfl rfl ?_
  refine TrL.extract rfl rfl rfl ?_
  refine TrL.extract rfl rfl rfl ?_
  refine TrL.assign rfl rfl ?_
  refine TrL.assign rfl rfl ?_
  refine TrL.nil (At.then_normal ?_)
  refine Tr.seq ?_
  refine Tr.region ?_
  refine TrL.move rfl rfl ?_
  refine TrL.move rfl rfl ?_
  have hl := putN_len t.size
  have hz : (strOf (putN t.size)).size = (putN t.size).length := strOf_size _
  refine TrL.adds rfl rfl rfl (by omega) ?_
  refine TrL.assign rfl rfl ?_
  refine TrL.assign rfl rfl ?_
  refine TrL.nil (At.then_normal ?_)
  refine Tr.ret (At.retP [] (.inl rfl) rfl (Res.tmp rfl (Res.tmp rfl Res.nil)) (by repeat (first | exact Picks.nil | with_reducible exact Pick.here | with_reducible apply Pick.there | with_reducible apply Pick.app_nil | with_reducible apply Pick.app_cons | apply Picks.cons)) (by 
      have e : strOf (putN t.size) ++ t = strOf (textN t.data.toList) := by
        rw [show strOf (putN t.size) ++ t = strOf (putN t.size) ++ strOf t.data.toList by rw [strOf_data], strOf_append]; unfold textN; simp
      rw [← e] at hK; exact hK))
theorem TextNR_spec {F : Hp} {K : Value → List HProp → Prop} {t : ByteArray} (ht : t.size ≤ 262144) (hK : K (.tuple #[.string (strOf (textN t.data.toList)), .int .i64 0]) []) : CallK Try.prog F 61 #[.string t] [] K := by
  refine CallK.enter Try.func61 rfl Try.ntmps61 rfl ?_
  refine Tr.seq ?_
  refine Tr.region ?_
  refine TrL.assign rfl rfl ?_
  refine TrL.assign rfl rfl ?_
  refine TrL.nil (At.then_normal ?_)
  refine Tr.seq ?_
  refine Tr.seq ?_
  refine Tr.region ?_
  refine TrL.move rfl rfl ?_
  refine TrL.lens rfl rfl st9 ?_
  refine TrL.gtr rfl rfl rfl ?_
  refine TrL.knownB (t := 8) (c := false) rfl (by simp; omega) ?_
  refine TrL.nil (At.then_normal ?_)
  refine Tr.condF rfl ?_
  refine Tr.skip (At.then_normal ?_)
  refine Tr.seq ?_
  refine Tr.region ?_
  refine TrL.move rfl rfl ?_
  refine TrL.lens rfl rfl st9 ?_
  refine TrL.call rfl rfl rfl ca60 .nil (fun Ft12 hUt12 => PutNR_spec (n := t.size) (by omega) ?_)
  refine TrL.move rfl rfl ?_
  refine TrL.extract rfl rfl rfl ?_
  refine TrL.extract rfl rfl rfl ?_
  refine TrL.assign rfl rfl ?_
  refine TrL.assign rfl rfl ?_
  refine TrL.nil (At.then_normal ?_)
  refine Tr.seq ?_
  refine Tr.region ?_
  refine TrL.move rfl rfl ?_
  refine TrL.move rfl rfl ?_
  have hl := putN_len t.size
  have hz : (strOf (putN t.size)).size = (putN t.size).length := strOf_size _
  refine TrL.adds rfl rfl rfl (by omega) ?_
  refine TrL.assign rfl rfl ?_
  refine TrL.assign rfl rfl ?_
  refine TrL.nil (At.then_normal ?_)
  refine Tr.ret (At.retP [] (.inl rfl) rfl (Res.tmp rfl (Res.tmp rfl Res.nil)) (by repeat (first | exact Picks.nil | with_reducible exact Pick.here | with_reducible apply Pick.there | with_reducible apply Pick.app_nil | with_reducible apply Pick.app_cons | apply Picks.cons)) (by 
      have e : strOf (putN t.size) ++ t = strOf (textN t.data.toList) := by
        rw [show strOf (putN t.size) ++ t = strOf (putN t.size) ++ strOf t.data.toList by rw [strOf_data], strOf_append]; unfold textN; simp
      rw [← e] at hK; exact hK))

theorem TakeT_spec {F : Hp} {K : Value → List HProp → Prop} {t : ByteArray} (ht : t.size ≤ 9223372036854775807) (hK : K (.tuple #[.string (strOf (takeT t.data.toList).1), .int .i64 ((takeT t.data.toList).2.1 : Int), .int .i64 (takeT t.data.toList).2.2]) []) : CallK Try.prog F 37 #[.string t] [] K := by
  have hn := takeN_num t.data.toList
  have hl : t.data.toList.length = t.size := by simp
  refine CallK.enter Try.func37 rfl Try.ntmps37 rfl ?_
  refine Tr.seq ?_
  refine Tr.region ?_
  refine TrL.assign rfl rfl ?_
  refine TrL.assign rfl rfl ?_
  refine TrL.assign rfl rfl ?_
  refine TrL.nil (At.then_normal ?_)
  refine Tr.seq ?_
  refine Tr.region ?_
  refine TrL.move rfl rfl ?_
  refine TrL.call rfl rfl rfl ca35 .nil (fun Ft10 hUt10 => TakeN_spec ?_)
  refine TrL.move rfl rfl ?_
  refine TrL.extract rfl rfl rfl ?_
  refine TrL.extract rfl rfl rfl ?_
  refine TrL.extract rfl rfl rfl ?_
  refine TrL.assign rfl rfl ?_
  refine TrL.assign rfl rfl ?_
  refine TrL.assign rfl rfl ?_
  refine TrL.nil (At.then_normal ?_)
  refine Tr.seq ?_
  refine Tr.block ?_
  refine Tr.seq ?_
  refine Tr.region ?_
  refine TrL.move rfl rfl ?_
  refine TrL.nei rfl rfl rfl ?_
  refine TrL.assign rfl rfl ?_
  refine TrL.nil (At.then_normal ?_)
  refine Tr.cond rfl (fun h14 => ?_) (fun h14 => ?_)
  · try simp only [beq_iff_eq, beq_eq_false_iff_ne, Bool.not_eq_true, Bool.not_eq_false, decide_eq_true_eq, decide_eq_false_iff_not, Bool.not_eq_true', Bool.not_eq_false', bne_iff_ne, Bool.not_eq_eq_eq_not, Bool.not_true, Bool.not_false, ne_eq, Decidable.not_not, Int.not_lt, Int.not_le] at h14
    refine Tr.seq ?_
    refine Tr.region ?_
    refine TrL.move rfl rfl ?_
    refine TrL.assign rfl rfl ?_
    refine TrL.assign rfl rfl ?_
    refine TrL.assign rfl rfl ?_
    refine TrL.nil (At.then_normal ?_)
    refine Tr.ret (At.block_ret (At.then_ret (At.retP [] (.inl rfl) rfl (Res.tmp rfl (Res.tmp rfl (Res.tmp rfl Res.nil))) (by repeat (first | exact Picks.nil | with_reducible exact Pick.here | with_reducible apply Pick.there | with_reducible apply Pick.app_nil | with_reducible apply Pick.app_cons | apply Picks.cons)) (by 
        first
          | (rw [takeT_e (by assumption)] at hK; exact hK)
          | (rw [takeT_big (by assumption) (by omega)] at hK; exact hK)
          | (rw [takeT_short (by assumption) (by omega) (by omega)] at hK; exact hK)
          | (rw [takeT_ok (by assumption) (by omega) (by omega)] at hK
             rw [ext_str]
             have e2 : (((takeN t.data.toList).2.1 : Int) + (takeN t.data.toList).1).toNat - ((takeN t.data.toList).2.1 : Int).toNat = (takeN t.data.toList).1.toNat := by omega
             have e3 : ((takeN t.data.toList).2.1 : Int) + (takeN t.data.toList).1 = (((takeN t.data.toList).2.1 + (takeN t.data.toList).1.toNat : Nat) : Int) := by omega
             rw [e2, e3]
             exact hK)))))
  · try simp only [beq_iff_eq, beq_eq_false_iff_ne, Bool.not_eq_true, Bool.not_eq_false, decide_eq_true_eq, decide_eq_false_iff_not, Bool.not_eq_true', Bool.not_eq_false', bne_iff_ne, Bool.not_eq_eq_eq_not, Bool.not_true, Bool.not_false, ne_eq, Decidable.not_not, Int.not_lt, Int.not_le] at h14
    refine Tr.seq ?_
    refine Tr.region ?_
    refine TrL.move rfl rfl ?_
    refine TrL.gtr rfl rfl rfl ?_
    refine TrL.assign rfl rfl ?_
    refine TrL.nil (At.then_normal ?_)
    refine Tr.cond rfl (fun h18 => ?_) (fun h18 => ?_)
    · try simp only [beq_iff_eq, beq_eq_false_iff_ne, Bool.not_eq_true, Bool.not_eq_false, decide_eq_true_eq, decide_eq_false_iff_not, Bool.not_eq_true', Bool.not_eq_false', bne_iff_ne, Bool.not_eq_eq_eq_not, Bool.not_true, Bool.not_false, ne_eq, Decidable.not_not, Int.not_lt, Int.not_le] at h18
      refine Tr.seq ?_
      refine Tr.region ?_
      refine TrL.assign rfl rfl ?_
      refine TrL.assign rfl rfl ?_
      refine TrL.assign rfl rfl ?_
      refine TrL.nil (At.then_normal ?_)
      refine Tr.ret (At.block_ret (At.then_ret (At.retP [] (.inl rfl) rfl (Res.tmp rfl (Res.tmp rfl (Res.tmp rfl Res.nil))) (by repeat (first | exact Picks.nil | with_reducible exact Pick.here | with_reducible apply Pick.there | with_reducible apply Pick.app_nil | with_reducible apply Pick.app_cons | apply Picks.cons)) (by 
          first
            | (rw [takeT_e (by assumption)] at hK; exact hK)
            | (rw [takeT_big (by assumption) (by omega)] at hK; exact hK)
            | (rw [takeT_short (by assumption) (by omega) (by omega)] at hK; exact hK)
            | (rw [takeT_ok (by assumption) (by omega) (by omega)] at hK
               rw [ext_str]
               have e2 : (((takeN t.data.toList).2.1 : Int) + (takeN t.data.toList).1).toNat - ((takeN t.data.toList).2.1 : Int).toNat = (takeN t.data.toList).1.toNat := by omega
               have e3 : ((takeN t.data.toList).2.1 : Int) + (takeN t.data.toList).1 = (((takeN t.data.toList).2.1 + (takeN t.data.toList).1.toNat : Nat) : Int) := by omega
               rw [e2, e3]
               exact hK)))))
    · try simp only [beq_iff_eq, beq_eq_false_iff_ne, Bool.not_eq_true, Bool.not_eq_false, decide_eq_true_eq, decide_eq_false_iff_not, Bool.not_eq_true', Bool.not_eq_false', bne_iff_ne, Bool.not_eq_eq_eq_not, Bool.not_true, Bool.not_false, ne_eq, Decidable.not_not, Int.not_lt, Int.not_le] at h18
      refine Tr.seq ?_
      refine Tr.region ?_
      refine TrL.move rfl rfl ?_
      refine TrL.lens rfl rfl st9 ?_
      refine TrL.move rfl rfl ?_
      refine TrL.subI rfl rfl rfl (by omega) ?_
      refine TrL.move rfl rfl ?_
      refine TrL.lss rfl rfl rfl ?_
      refine TrL.assign rfl rfl ?_
      refine TrL.nil (At.then_normal ?_)
      refine Tr.cond rfl (fun h21 => ?_) (fun h21 => ?_)
      · try simp only [beq_iff_eq, beq_eq_false_iff_ne, Bool.not_eq_true, Bool.not_eq_false, decide_eq_true_eq, decide_eq_false_iff_not, Bool.not_eq_true', Bool.not_eq_false', bne_iff_ne, Bool.not_eq_eq_eq_not, Bool.not_true, Bool.not_false, ne_eq, Decidable.not_not, Int.not_lt, Int.not_le] at h21
        refine Tr.seq ?_
        refine Tr.region ?_
        refine TrL.assign rfl rfl ?_
        refine TrL.assign rfl rfl ?_
        refine TrL.assign rfl rfl ?_
        refine TrL.nil (At.then_normal ?_)
        refine Tr.ret (At.block_ret (At.then_ret (At.retP [] (.inl rfl) rfl (Res.tmp rfl (Res.tmp rfl (Res.tmp rfl Res.nil))) (by repeat (first | exact Picks.nil | with_reducible exact Pick.here | with_reducible apply Pick.there | with_reducible apply Pick.app_nil | with_reducible apply Pick.app_cons | apply Picks.cons)) (by 
            first
              | (rw [takeT_e (by assumption)] at hK; exact hK)
              | (rw [takeT_big (by assumption) (by omega)] at hK; exact hK)
              | (rw [takeT_short (by assumption) (by omega) (by omega)] at hK; exact hK)
              | (rw [takeT_ok (by assumption) (by omega) (by omega)] at hK
                 rw [ext_str]
                 have e2 : (((takeN t.data.toList).2.1 : Int) + (takeN t.data.toList).1).toNat - ((takeN t.data.toList).2.1 : Int).toNat = (takeN t.data.toList).1.toNat := by omega
                 have e3 : ((takeN t.data.toList).2.1 : Int) + (takeN t.data.toList).1 = (((takeN t.data.toList).2.1 + (takeN t.data.toList).1.toNat : Nat) : Int) := by omega
                 rw [e2, e3]
                 exact hK)))))
      · try simp only [beq_iff_eq, beq_eq_false_iff_ne, Bool.not_eq_true, Bool.not_eq_false, decide_eq_true_eq, decide_eq_false_iff_not, Bool.not_eq_true', Bool.not_eq_false', bne_iff_ne, Bool.not_eq_eq_eq_not, Bool.not_true, Bool.not_false, ne_eq, Decidable.not_not, Int.not_lt, Int.not_le] at h21
        refine Tr.skip (At.block_normal (At.then_normal ?_))
        refine Tr.seq ?_
        refine Tr.region ?_
        refine TrL.move rfl rfl ?_
        refine TrL.move rfl rfl ?_
        refine TrL.move rfl rfl ?_
        refine TrL.move rfl rfl ?_
        refine TrL.addI rfl rfl rfl (by omega) ?_
        refine TrL.cutS rfl rfl rfl rfl st9 (by omega) (by omega) (by omega) ?_
        refine TrL.move rfl rfl ?_
        refine TrL.move rfl rfl ?_
        refine TrL.addI rfl rfl rfl (by omega) ?_
        refine TrL.assign rfl rfl ?_
        refine TrL.assign rfl rfl ?_
        refine TrL.assign rfl rfl ?_
        refine TrL.nil (At.then_normal ?_)
        refine Tr.ret (At.retP [] (.inl rfl) rfl (Res.tmp rfl (Res.tmp rfl (Res.tmp rfl Res.nil))) (by repeat (first | exact Picks.nil | with_reducible exact Pick.here | with_reducible apply Pick.there | with_reducible apply Pick.app_nil | with_reducible apply Pick.app_cons | apply Picks.cons)) (by 
            first
              | (rw [takeT_e (by assumption)] at hK; exact hK)
              | (rw [takeT_big (by assumption) (by omega)] at hK; exact hK)
              | (rw [takeT_short (by assumption) (by omega) (by omega)] at hK; exact hK)
              | (rw [takeT_ok (by assumption) (by omega) (by omega)] at hK
                 rw [ext_str]
                 have e2 : (((takeN t.data.toList).2.1 : Int) + (takeN t.data.toList).1).toNat - ((takeN t.data.toList).2.1 : Int).toNat = (takeN t.data.toList).1.toNat := by omega
                 have e3 : ((takeN t.data.toList).2.1 : Int) + (takeN t.data.toList).1 = (((takeN t.data.toList).2.1 + (takeN t.data.toList).1.toNat : Nat) : Int) := by omega
                 rw [e2, e3]
                 exact hK)))

theorem TakeTR_spec {F : Hp} {K : Value → List HProp → Prop} {t : ByteArray} (ht : t.size ≤ 9223372036854775807) (hK : K (.tuple #[.string (strOf (takeT t.data.toList).1), .int .i64 ((takeT t.data.toList).2.1 : Int), .int .i64 (takeT t.data.toList).2.2]) []) : CallK Try.prog F 63 #[.string t] [] K := by
  have hn := takeN_num t.data.toList
  have hl : t.data.toList.length = t.size := by simp
  refine CallK.enter Try.func63 rfl Try.ntmps63 rfl ?_
  refine Tr.seq ?_
  refine Tr.region ?_
  refine TrL.assign rfl rfl ?_
  refine TrL.assign rfl rfl ?_
  refine TrL.assign rfl rfl ?_
  refine TrL.nil (At.then_normal ?_)
  refine Tr.seq ?_
  refine Tr.region ?_
  refine TrL.move rfl rfl ?_
  refine TrL.call rfl rfl rfl ca62 .nil (fun Ft10 hUt10 => TakeNR_spec ?_)
  refine TrL.move rfl rfl ?_
  refine TrL.extract rfl rfl rfl ?_
  refine TrL.extract rfl rfl rfl ?_
  refine TrL.extract rfl rfl rfl ?_
  refine TrL.assign rfl rfl ?_
  refine TrL.assign rfl rfl ?_
  refine TrL.assign rfl rfl ?_
  refine TrL.nil (At.then_normal ?_)
  refine Tr.seq ?_
  refine Tr.seq ?_
  refine Tr.region ?_
  refine TrL.move rfl rfl ?_
  refine TrL.nei rfl rfl rfl ?_
  refine TrL.nil (At.then_normal ?_)
  refine Tr.cond rfl (fun h15 => ?_) (fun h15 => ?_)
  · try simp only [beq_iff_eq, beq_eq_false_iff_ne, Bool.not_eq_true, Bool.not_eq_false, decide_eq_true_eq, decide_eq_false_iff_not, Bool.not_eq_true', Bool.not_eq_false', bne_iff_ne, Bool.not_eq_eq_eq_not, Bool.not_true, Bool.not_false, ne_eq, Decidable.not_not, Int.not_lt, Int.not_le] at h15
    refine Tr.seq ?_
    refine Tr.region ?_
    refine TrL.move rfl rfl ?_
    refine TrL.assign rfl rfl ?_
    refine TrL.assign rfl rfl ?_
    refine TrL.assign rfl rfl ?_
    refine TrL.nil (At.then_normal ?_)
    refine Tr.ret (At.then_ret (At.retP [] (.inl rfl) rfl (Res.tmp rfl (Res.tmp rfl (Res.tmp rfl Res.nil))) (by repeat (first | exact Picks.nil | with_reducible exact Pick.here | with_reducible apply Pick.there | with_reducible apply Pick.app_nil | with_reducible apply Pick.app_cons | apply Picks.cons)) (by 
        first
          | (rw [takeT_e (by assumption)] at hK; exact hK)
          | (rw [takeT_big (by assumption) (by omega)] at hK; exact hK)
          | (rw [takeT_short (by assumption) (by omega) (by omega)] at hK; exact hK)
          | (rw [takeT_ok (by assumption) (by omega) (by omega)] at hK
             rw [ext_str]
             have e2 : (((takeN t.data.toList).2.1 : Int) + (takeN t.data.toList).1).toNat - ((takeN t.data.toList).2.1 : Int).toNat = (takeN t.data.toList).1.toNat := by omega
             have e3 : ((takeN t.data.toList).2.1 : Int) + (takeN t.data.toList).1 = (((takeN t.data.toList).2.1 + (takeN t.data.toList).1.toNat : Nat) : Int) := by omega
             rw [e2, e3]
             exact hK))))
  · try simp only [beq_iff_eq, beq_eq_false_iff_ne, Bool.not_eq_true, Bool.not_eq_false, decide_eq_true_eq, decide_eq_false_iff_not, Bool.not_eq_true', Bool.not_eq_false', bne_iff_ne, Bool.not_eq_eq_eq_not, Bool.not_true, Bool.not_false, ne_eq, Decidable.not_not, Int.not_lt, Int.not_le] at h15
    refine Tr.skip (At.then_normal ?_)
    refine Tr.seq ?_
    refine Tr.seq ?_
    refine Tr.region ?_
    refine TrL.move rfl rfl ?_
    refine TrL.gtr rfl rfl rfl ?_
    refine TrL.nil (At.then_normal ?_)
    refine Tr.cond rfl (fun h18 => ?_) (fun h18 => ?_)
    · try simp only [beq_iff_eq, beq_eq_false_iff_ne, Bool.not_eq_true, Bool.not_eq_false, decide_eq_true_eq, decide_eq_false_iff_not, Bool.not_eq_true', Bool.not_eq_false', bne_iff_ne, Bool.not_eq_eq_eq_not, Bool.not_true, Bool.not_false, ne_eq, Decidable.not_not, Int.not_lt, Int.not_le] at h18
      refine Tr.seq ?_
      refine Tr.region ?_
      refine TrL.assign rfl rfl ?_
      refine TrL.assign rfl rfl ?_
      refine TrL.assign rfl rfl ?_
      refine TrL.nil (At.then_normal ?_)
      refine Tr.ret (At.then_ret (At.retP [] (.inl rfl) rfl (Res.tmp rfl (Res.tmp rfl (Res.tmp rfl Res.nil))) (by repeat (first | exact Picks.nil | with_reducible exact Pick.here | with_reducible apply Pick.there | with_reducible apply Pick.app_nil | with_reducible apply Pick.app_cons | apply Picks.cons)) (by 
          first
            | (rw [takeT_e (by assumption)] at hK; exact hK)
            | (rw [takeT_big (by assumption) (by omega)] at hK; exact hK)
            | (rw [takeT_short (by assumption) (by omega) (by omega)] at hK; exact hK)
            | (rw [takeT_ok (by assumption) (by omega) (by omega)] at hK
               rw [ext_str]
               have e2 : (((takeN t.data.toList).2.1 : Int) + (takeN t.data.toList).1).toNat - ((takeN t.data.toList).2.1 : Int).toNat = (takeN t.data.toList).1.toNat := by omega
               have e3 : ((takeN t.data.toList).2.1 : Int) + (takeN t.data.toList).1 = (((takeN t.data.toList).2.1 + (takeN t.data.toList).1.toNat : Nat) : Int) := by omega
               rw [e2, e3]
               exact hK))))
    · try simp only [beq_iff_eq, beq_eq_false_iff_ne, Bool.not_eq_true, Bool.not_eq_false, decide_eq_true_eq, decide_eq_false_iff_not, Bool.not_eq_true', Bool.not_eq_false', bne_iff_ne, Bool.not_eq_eq_eq_not, Bool.not_true, Bool.not_false, ne_eq, Decidable.not_not, Int.not_lt, Int.not_le] at h18
      refine Tr.skip (At.then_normal ?_)
      refine Tr.seq ?_
      refine Tr.seq ?_
      refine Tr.region ?_
      refine TrL.move rfl rfl ?_
      refine TrL.move rfl rfl ?_
      refine TrL.lens rfl rfl st9 ?_
      refine TrL.move rfl rfl ?_
      refine TrL.subI rfl rfl rfl (by omega) ?_
      refine TrL.gtr rfl rfl rfl ?_
      refine TrL.nil (At.then_normal ?_)
      refine Tr.cond rfl (fun h24 => ?_) (fun h24 => ?_)
      · try simp only [beq_iff_eq, beq_eq_false_iff_ne, Bool.not_eq_true, Bool.not_eq_false, decide_eq_true_eq, decide_eq_false_iff_not, Bool.not_eq_true', Bool.not_eq_false', bne_iff_ne, Bool.not_eq_eq_eq_not, Bool.not_true, Bool.not_false, ne_eq, Decidable.not_not, Int.not_lt, Int.not_le] at h24
        refine Tr.seq ?_
        refine Tr.region ?_
        refine TrL.assign rfl rfl ?_
        refine TrL.assign rfl rfl ?_
        refine TrL.assign rfl rfl ?_
        refine TrL.nil (At.then_normal ?_)
        refine Tr.ret (At.then_ret (At.retP [] (.inl rfl) rfl (Res.tmp rfl (Res.tmp rfl (Res.tmp rfl Res.nil))) (by repeat (first | exact Picks.nil | with_reducible exact Pick.here | with_reducible apply Pick.there | with_reducible apply Pick.app_nil | with_reducible apply Pick.app_cons | apply Picks.cons)) (by 
            first
              | (rw [takeT_e (by assumption)] at hK; exact hK)
              | (rw [takeT_big (by assumption) (by omega)] at hK; exact hK)
              | (rw [takeT_short (by assumption) (by omega) (by omega)] at hK; exact hK)
              | (rw [takeT_ok (by assumption) (by omega) (by omega)] at hK
                 rw [ext_str]
                 have e2 : (((takeN t.data.toList).2.1 : Int) + (takeN t.data.toList).1).toNat - ((takeN t.data.toList).2.1 : Int).toNat = (takeN t.data.toList).1.toNat := by omega
                 have e3 : ((takeN t.data.toList).2.1 : Int) + (takeN t.data.toList).1 = (((takeN t.data.toList).2.1 + (takeN t.data.toList).1.toNat : Nat) : Int) := by omega
                 rw [e2, e3]
                 exact hK))))
      · try simp only [beq_iff_eq, beq_eq_false_iff_ne, Bool.not_eq_true, Bool.not_eq_false, decide_eq_true_eq, decide_eq_false_iff_not, Bool.not_eq_true', Bool.not_eq_false', bne_iff_ne, Bool.not_eq_eq_eq_not, Bool.not_true, Bool.not_false, ne_eq, Decidable.not_not, Int.not_lt, Int.not_le] at h24
        refine Tr.skip (At.then_normal ?_)
        refine Tr.seq ?_
        refine Tr.region ?_
        refine TrL.move rfl rfl ?_
        refine TrL.move rfl rfl ?_
        refine TrL.move rfl rfl ?_
        refine TrL.move rfl rfl ?_
        refine TrL.addI rfl rfl rfl (by omega) ?_
        refine TrL.cutS rfl rfl rfl rfl st9 (by omega) (by omega) (by omega) ?_
        refine TrL.move rfl rfl ?_
        refine TrL.move rfl rfl ?_
        refine TrL.addI rfl rfl rfl (by omega) ?_
        refine TrL.assign rfl rfl ?_
        refine TrL.assign rfl rfl ?_
        refine TrL.assign rfl rfl ?_
        refine TrL.nil (At.then_normal ?_)
        refine Tr.ret (At.retP [] (.inl rfl) rfl (Res.tmp rfl (Res.tmp rfl (Res.tmp rfl Res.nil))) (by repeat (first | exact Picks.nil | with_reducible exact Pick.here | with_reducible apply Pick.there | with_reducible apply Pick.app_nil | with_reducible apply Pick.app_cons | apply Picks.cons)) (by 
            first
              | (rw [takeT_e (by assumption)] at hK; exact hK)
              | (rw [takeT_big (by assumption) (by omega)] at hK; exact hK)
              | (rw [takeT_short (by assumption) (by omega) (by omega)] at hK; exact hK)
              | (rw [takeT_ok (by assumption) (by omega) (by omega)] at hK
                 rw [ext_str]
                 have e2 : (((takeN t.data.toList).2.1 : Int) + (takeN t.data.toList).1).toNat - ((takeN t.data.toList).2.1 : Int).toNat = (takeN t.data.toList).1.toNat := by omega
                 have e3 : ((takeN t.data.toList).2.1 : Int) + (takeN t.data.toList).1 = (((takeN t.data.toList).2.1 + (takeN t.data.toList).1.toNat : Nat) : Int) := by omega
                 rw [e2, e3]
                 exact hK)))
theorem isNaNI_spec {F : Hp} {K : Value → List HProp → Prop} {a : Int} (hK : K (.bool false) []) : CallK Try.prog F 74 #[.int .i64 a] [] K := by
  refine CallK.enter Try.func74 rfl Try.ntmps74 rfl ?_
  refine Tr.seq ?_
  refine Tr.region ?_
  refine TrL.assign rfl rfl ?_
  refine TrL.nil (At.then_normal ?_)
  refine Tr.seq ?_
  refine Tr.region ?_
  refine TrL.move rfl rfl ?_
  refine TrL.move rfl rfl ?_
  refine TrL.nei rfl rfl rfl ?_
  refine TrL.assign rfl rfl ?_
  refine TrL.nil (At.then_normal ?_)
  refine Tr.ret (At.retP [] (.inl rfl) rfl (Res.tmp rfl Res.nil) (by repeat (first | exact Picks.nil | with_reducible exact Pick.here | with_reducible apply Pick.there | with_reducible apply Pick.app_nil | with_reducible apply Pick.app_cons | apply Picks.cons)) (by exact kb (by simp) hK))
theorem CompareI_spec {F : Hp} {K : Value → List HProp → Prop} {a b : Int} (hK : ∀ r : Int, decide (r < 0) = decide (a < b) → K (.int .i64 r) []) : CallK Try.prog F 67 #[.int .i64 a, .int .i64 b] [] K := by
  refine CallK.enter Try.func67 rfl Try.ntmps67 rfl ?_
  refine Tr.seq ?_
  refine Tr.region ?_
  refine TrL.assign rfl rfl ?_
  refine TrL.nil (At.then_normal ?_)
  refine Tr.seq ?_
  refine Tr.region ?_
  refine TrL.move rfl rfl ?_
  refine TrL.call rfl rfl rfl ca74 .nil (fun Ft8 hUt8 => isNaNI_spec ?_)
  refine TrL.assign rfl rfl ?_
  refine TrL.nil (At.then_normal ?_)
  refine Tr.seq ?_
  refine Tr.region ?_
  refine TrL.move rfl rfl ?_
  refine TrL.call rfl rfl rfl ca74 .nil (fun Ft10 hUt10 => isNaNI_spec ?_)
  refine TrL.assign rfl rfl ?_
  refine TrL.nil (At.then_normal ?_)
  refine Tr.seq ?_
  refine Tr.seq ?_
  refine Tr.region ?_
  refine TrL.move rfl rfl ?_
  refine TrL.nil (At.then_normal ?_)
  refine Tr.condF rfl ?_
  refine Tr.skip (At.then_normal ?_)
  refine Tr.seq ?_
  refine Tr.seq ?_
  refine Tr.region ?_
  refine TrL.move rfl rfl ?_
  refine TrL.nil (At.then_normal ?_)
  refine Tr.condF rfl ?_
  refine Tr.skip (At.then_normal ?_)
  refine Tr.seq ?_
  refine Tr.seq ?_
  refine Tr.region ?_
  refine TrL.move rfl rfl ?_
  refine TrL.move rfl rfl ?_
  refine TrL.lss rfl rfl rfl ?_
  refine TrL.nil (At.then_normal ?_)
  refine Tr.cond rfl (fun h16 => ?_) (fun h16 => ?_)
  · try simp only [beq_iff_eq, beq_eq_false_iff_ne, Bool.not_eq_true, Bool.not_eq_false, decide_eq_true_eq, decide_eq_false_iff_not, Bool.not_eq_true', Bool.not_eq_false', bne_iff_ne, Bool.not_eq_eq_eq_not, Bool.not_true, Bool.not_false, ne_eq, Decidable.not_not, Int.not_lt, Int.not_le] at h16
    refine Tr.seq ?_
    refine Tr.region ?_
    refine TrL.assign rfl rfl ?_
    refine TrL.nil (At.then_normal ?_)
    refine Tr.ret (At.then_ret (At.retP [] (.inl rfl) rfl (Res.tmp rfl Res.nil) (by repeat (first | exact Picks.nil | with_reducible exact Pick.here | with_reducible apply Pick.there | with_reducible apply Pick.app_nil | with_reducible apply Pick.app_cons | apply Picks.cons)) (by exact hK _ (by simp; try omega))))
  · try simp only [beq_iff_eq, beq_eq_false_iff_ne, Bool.not_eq_true, Bool.not_eq_false, decide_eq_true_eq, decide_eq_false_iff_not, Bool.not_eq_true', Bool.not_eq_false', bne_iff_ne, Bool.not_eq_eq_eq_not, Bool.not_true, Bool.not_false, ne_eq, Decidable.not_not, Int.not_lt, Int.not_le] at h16
    refine Tr.skip (At.then_normal ?_)
    refine Tr.seq ?_
    refine Tr.seq ?_
    refine Tr.region ?_
    refine TrL.move rfl rfl ?_
    refine TrL.move rfl rfl ?_
    refine TrL.gtr rfl rfl rfl ?_
    refine TrL.nil (At.then_normal ?_)
    refine Tr.cond rfl (fun h19 => ?_) (fun h19 => ?_)
    · try simp only [beq_iff_eq, beq_eq_false_iff_ne, Bool.not_eq_true, Bool.not_eq_false, decide_eq_true_eq, decide_eq_false_iff_not, Bool.not_eq_true', Bool.not_eq_false', bne_iff_ne, Bool.not_eq_eq_eq_not, Bool.not_true, Bool.not_false, ne_eq, Decidable.not_not, Int.not_lt, Int.not_le] at h19
      refine Tr.seq ?_
      refine Tr.region ?_
      refine TrL.assign rfl rfl ?_
      refine TrL.nil (At.then_normal ?_)
      refine Tr.ret (At.then_ret (At.retP [] (.inl rfl) rfl (Res.tmp rfl Res.nil) (by repeat (first | exact Picks.nil | with_reducible exact Pick.here | with_reducible apply Pick.there | with_reducible apply Pick.app_nil | with_reducible apply Pick.app_cons | apply Picks.cons)) (by exact hK _ (by simp; try omega))))
    · try simp only [beq_iff_eq, beq_eq_false_iff_ne, Bool.not_eq_true, Bool.not_eq_false, decide_eq_true_eq, decide_eq_false_iff_not, Bool.not_eq_true', Bool.not_eq_false', bne_iff_ne, Bool.not_eq_eq_eq_not, Bool.not_true, Bool.not_false, ne_eq, Decidable.not_not, Int.not_lt, Int.not_le] at h19
      refine Tr.skip (At.then_normal ?_)
      refine Tr.seq ?_
      refine Tr.region ?_
      refine TrL.assign rfl rfl ?_
      refine TrL.nil (At.then_normal ?_)
      refine Tr.ret (At.retP [] (.inl rfl) rfl (Res.tmp rfl Res.nil) (by repeat (first | exact Picks.nil | with_reducible exact Pick.here | with_reducible apply Pick.there | with_reducible apply Pick.app_nil | with_reducible apply Pick.app_cons | apply Picks.cons)) (by exact hK _ (by simp; try omega)))
theorem isNaNS_spec {F : Hp} {K : Value → List HProp → Prop} {a : ByteArray} (hK : K (.bool false) []) : CallK Try.prog F 75 #[.string a] [] K := by
  refine CallK.enter Try.func75 rfl Try.ntmps75 rfl ?_
  refine Tr.seq ?_
  refine Tr.region ?_
  refine TrL.assign rfl rfl ?_
  refine TrL.nil (At.then_normal ?_)
  refine Tr.seq ?_
  refine Tr.region ?_
  refine TrL.move rfl rfl ?_
  refine TrL.move rfl rfl ?_
  refine TrL.nes rfl rfl rfl ?_
  refine TrL.assign rfl rfl ?_
  refine TrL.nil (At.then_normal ?_)
  refine Tr.ret (At.retP [] (.inl rfl) rfl (Res.tmp rfl Res.nil) (by repeat (first | exact Picks.nil | with_reducible exact Pick.here | with_reducible apply Pick.there | with_reducible apply Pick.app_nil | with_reducible apply Pick.app_cons | apply Picks.cons)) (by exact kb (by simp) hK))
theorem CompareS_spec {F : Hp} {K : Value → List HProp → Prop} {a b : ByteArray} (hK : ∀ r : Int, decide (r < 0) = blt a b → K (.int .i64 r) []) : CallK Try.prog F 68 #[.string a, .string b] [] K := by
  refine CallK.enter Try.func68 rfl Try.ntmps68 rfl ?_
  refine Tr.seq ?_
  refine Tr.region ?_
  refine TrL.assign rfl rfl ?_
  refine TrL.nil (At.then_normal ?_)
  refine Tr.seq ?_
  refine Tr.region ?_
  refine TrL.move rfl rfl ?_
  refine TrL.call rfl rfl rfl ca75 .nil (fun Ft8 hUt8 => isNaNS_spec ?_)
  refine TrL.assign rfl rfl ?_
  refine TrL.nil (At.then_normal ?_)
  refine Tr.seq ?_
  refine Tr.region ?_
  refine TrL.move rfl rfl ?_
  refine TrL.call rfl rfl rfl ca75 .nil (fun Ft10 hUt10 => isNaNS_spec ?_)
  refine TrL.assign rfl rfl ?_
  refine TrL.nil (At.then_normal ?_)
  refine Tr.seq ?_
  refine Tr.seq ?_
  refine Tr.region ?_
  refine TrL.move rfl rfl ?_
  refine TrL.nil (At.then_normal ?_)
  refine Tr.condF rfl ?_
  refine Tr.skip (At.then_normal ?_)
  refine Tr.seq ?_
  refine Tr.seq ?_
  refine Tr.region ?_
  refine TrL.move rfl rfl ?_
  refine TrL.nil (At.then_normal ?_)
  refine Tr.condF rfl ?_
  refine Tr.skip (At.then_normal ?_)
  refine Tr.seq ?_
  refine Tr.seq ?_
  refine Tr.region ?_
  refine TrL.move rfl rfl ?_
  refine TrL.move rfl rfl ?_
  refine TrL.lts rfl rfl rfl ?_
  refine TrL.nil (At.then_normal ?_)
  refine Tr.cond rfl (fun h16 => ?_) (fun h16 => ?_)
  · try simp only [beq_iff_eq, beq_eq_false_iff_ne, Bool.not_eq_true, Bool.not_eq_false, decide_eq_true_eq, decide_eq_false_iff_not, Bool.not_eq_true', Bool.not_eq_false', bne_iff_ne, Bool.not_eq_eq_eq_not, Bool.not_true, Bool.not_false, ne_eq, Decidable.not_not, Int.not_lt, Int.not_le] at h16
    refine Tr.seq ?_
    refine Tr.region ?_
    refine TrL.assign rfl rfl ?_
    refine TrL.nil (At.then_normal ?_)
    refine Tr.ret (At.then_ret (At.retP [] (.inl rfl) rfl (Res.tmp rfl Res.nil) (by repeat (first | exact Picks.nil | with_reducible exact Pick.here | with_reducible apply Pick.there | with_reducible apply Pick.app_nil | with_reducible apply Pick.app_cons | apply Picks.cons)) (by exact hK _ (by simp [*]))))
  · try simp only [beq_iff_eq, beq_eq_false_iff_ne, Bool.not_eq_true, Bool.not_eq_false, decide_eq_true_eq, decide_eq_false_iff_not, Bool.not_eq_true', Bool.not_eq_false', bne_iff_ne, Bool.not_eq_eq_eq_not, Bool.not_true, Bool.not_false, ne_eq, Decidable.not_not, Int.not_lt, Int.not_le] at h16
    refine Tr.skip (At.then_normal ?_)
    refine Tr.seq ?_
    refine Tr.seq ?_
    refine Tr.region ?_
    refine TrL.move rfl rfl ?_
    refine TrL.move rfl rfl ?_
    refine TrL.gts rfl rfl rfl ?_
    refine TrL.nil (At.then_normal ?_)
    refine Tr.cond rfl (fun h19 => ?_) (fun h19 => ?_)
    · try simp only [beq_iff_eq, beq_eq_false_iff_ne, Bool.not_eq_true, Bool.not_eq_false, decide_eq_true_eq, decide_eq_false_iff_not, Bool.not_eq_true', Bool.not_eq_false', bne_iff_ne, Bool.not_eq_eq_eq_not, Bool.not_true, Bool.not_false, ne_eq, Decidable.not_not, Int.not_lt, Int.not_le] at h19
      refine Tr.seq ?_
      refine Tr.region ?_
      refine TrL.assign rfl rfl ?_
      refine TrL.nil (At.then_normal ?_)
      refine Tr.ret (At.then_ret (At.retP [] (.inl rfl) rfl (Res.tmp rfl Res.nil) (by repeat (first | exact Picks.nil | with_reducible exact Pick.here | with_reducible apply Pick.there | with_reducible apply Pick.app_nil | with_reducible apply Pick.app_cons | apply Picks.cons)) (by exact hK _ (by simp [*]))))
    · try simp only [beq_iff_eq, beq_eq_false_iff_ne, Bool.not_eq_true, Bool.not_eq_false, decide_eq_true_eq, decide_eq_false_iff_not, Bool.not_eq_true', Bool.not_eq_false', bne_iff_ne, Bool.not_eq_eq_eq_not, Bool.not_true, Bool.not_false, ne_eq, Decidable.not_not, Int.not_lt, Int.not_le] at h19
      refine Tr.skip (At.then_normal ?_)
      refine Tr.seq ?_
      refine Tr.region ?_
      refine TrL.assign rfl rfl ?_
      refine TrL.nil (At.then_normal ?_)
      refine Tr.ret (At.retP [] (.inl rfl) rfl (Res.tmp rfl Res.nil) (by repeat (first | exact Picks.nil | with_reducible exact Pick.here | with_reducible apply Pick.there | with_reducible apply Pick.app_nil | with_reducible apply Pick.app_cons | apply Picks.cons)) (by exact hK _ (by simp [*])))
theorem order_spec {F : Hp} {K : Value → List HProp → Prop} {a b : Tab} (hK : ∀ r : Int, decide (r < 0) = ltT a b → K (.int .i64 r) []) : CallK Try.prog F 50 #[.agg (encT a).toArray, .agg (encT b).toArray] [] K := by
  refine CallK.enter Try.func50 rfl Try.ntmps50 rfl ?_
  refine Tr.seq ?_
  refine Tr.region ?_
  refine TrL.boxA rfl rfl (fun b2 => ?_)
  refine TrL.boxA rfl rfl (fun b3 => ?_)
  refine TrL.assign rfl rfl ?_
  refine TrL.nil (At.then_normal ?_)
  refine Tr.seq ?_
  refine Tr.block ?_
  refine Tr.seq ?_
  refine Tr.region ?_
  refine TrL.field rfl rfl fl46_1 ?_
  refine TrL.load1 rfl rfl sc3 (Sees.cl1 (by repeat (first | with_reducible exact Pick.here | with_reducible apply Pick.there | with_reducible apply Pick.app_nil | with_reducible apply Pick.app_cons)) (by rfl)) ?_
  refine TrL.field rfl rfl fl46_1 ?_
  refine TrL.load1 rfl rfl sc3 (Sees.cl1 (by repeat (first | with_reducible exact Pick.here | with_reducible apply Pick.there | with_reducible apply Pick.app_nil | with_reducible apply Pick.app_cons)) (by rfl)) ?_
  refine TrL.nei rfl rfl rfl ?_
  refine TrL.assign rfl rfl ?_
  refine TrL.nil (At.then_normal ?_)
  refine Tr.cond rfl (fun h5 => ?_) (fun h5 => ?_)
  · try simp only [beq_iff_eq, beq_eq_false_iff_ne, Bool.not_eq_true, Bool.not_eq_false, decide_eq_true_eq, decide_eq_false_iff_not, Bool.not_eq_true', Bool.not_eq_false', bne_iff_ne, Bool.not_eq_eq_eq_not, Bool.not_true, Bool.not_false, ne_eq, Decidable.not_not, Int.not_lt, Int.not_le] at h5
    refine Tr.seq ?_
    refine Tr.region ?_
    refine TrL.field rfl rfl fl46_1 ?_
    refine TrL.load1 rfl rfl sc3 (Sees.cl1 (by repeat (first | with_reducible exact Pick.here | with_reducible apply Pick.there | with_reducible apply Pick.app_nil | with_reducible apply Pick.app_cons)) (by rfl)) ?_
    refine TrL.field rfl rfl fl46_1 ?_
    refine TrL.load1 rfl rfl sc3 (Sees.cl1 (by repeat (first | with_reducible exact Pick.here | with_reducible apply Pick.there | with_reducible apply Pick.app_nil | with_reducible apply Pick.app_cons)) (by rfl)) ?_
    refine TrL.call rfl rfl rfl ca67 .nil (fun Ft15 hUt15 => CompareI_spec (fun r hr => ?_))
    refine TrL.assign rfl rfl ?_
    refine TrL.nil (At.then_normal ?_)
    refine Tr.ret (At.block_ret (At.then_ret (At.retP [] (.inl rfl) rfl (Res.tmp rfl Res.nil) (by repeat (first | exact Picks.nil | with_reducible exact Pick.here | with_reducible apply Pick.there | with_reducible apply Pick.app_nil | with_reducible apply Pick.app_cons | apply Picks.cons)) (by exact hK _ (by rw [hr]; unfold ltT; rw [if_neg (by assumption)])))))
  · try simp only [beq_iff_eq, beq_eq_false_iff_ne, Bool.not_eq_true, Bool.not_eq_false, decide_eq_true_eq, decide_eq_false_iff_not, Bool.not_eq_true', Bool.not_eq_false', bne_iff_ne, Bool.not_eq_eq_eq_not, Bool.not_true, Bool.not_false, ne_eq, Decidable.not_not, Int.not_lt, Int.not_le] at h5
    refine Tr.seq ?_
    refine Tr.region ?_
    refine TrL.field rfl rfl fl46_1 ?_
    refine TrL.load1 rfl rfl sc3 (Sees.cl1 (by repeat (first | with_reducible exact Pick.here | with_reducible apply Pick.there | with_reducible apply Pick.app_nil | with_reducible apply Pick.app_cons)) (by rfl)) ?_
    refine TrL.eqi rfl rfl rfl ?_
    refine TrL.assign rfl rfl ?_
    refine TrL.nil (At.then_normal ?_)
    refine Tr.cond rfl (fun h16 => ?_) (fun h16 => ?_)
    · try simp only [beq_iff_eq, beq_eq_false_iff_ne, Bool.not_eq_true, Bool.not_eq_false, decide_eq_true_eq, decide_eq_false_iff_not, Bool.not_eq_true', Bool.not_eq_false', bne_iff_ne, Bool.not_eq_eq_eq_not, Bool.not_true, Bool.not_false, ne_eq, Decidable.not_not, Int.not_lt, Int.not_le] at h16
      refine Tr.seq ?_
      refine Tr.region ?_
      refine TrL.field0 rfl rfl fl46_0 ?_
      refine TrL.load1 rfl rfl sc3 (Sees.cl1 (by repeat (first | with_reducible exact Pick.here | with_reducible apply Pick.there | with_reducible apply Pick.app_nil | with_reducible apply Pick.app_cons)) (by rfl)) ?_
      refine TrL.field0 rfl rfl fl46_0 ?_
      refine TrL.load1 rfl rfl sc3 (Sees.cl1 (by repeat (first | with_reducible exact Pick.here | with_reducible apply Pick.there | with_reducible apply Pick.app_nil | with_reducible apply Pick.app_cons)) (by rfl)) ?_
      refine TrL.call rfl rfl rfl ca67 .nil (fun Ft24 hUt24 => CompareI_spec (fun r hr => ?_))
      refine TrL.assign rfl rfl ?_
      refine TrL.nil (At.then_normal ?_)
      refine Tr.ret (At.block_ret (At.then_ret (At.retP [] (.inl rfl) rfl (Res.tmp rfl Res.nil) (by repeat (first | exact Picks.nil | with_reducible exact Pick.here | with_reducible apply Pick.there | with_reducible apply Pick.app_nil | with_reducible apply Pick.app_cons | apply Picks.cons)) (by exact hK _ (by rw [hr]; unfold ltT; rw [if_pos (by assumption), if_pos (by assumption)])))))
    · try simp only [beq_iff_eq, beq_eq_false_iff_ne, Bool.not_eq_true, Bool.not_eq_false, decide_eq_true_eq, decide_eq_false_iff_not, Bool.not_eq_true', Bool.not_eq_false', bne_iff_ne, Bool.not_eq_eq_eq_not, Bool.not_true, Bool.not_false, ne_eq, Decidable.not_not, Int.not_lt, Int.not_le] at h16
      refine Tr.skip (At.block_normal (At.then_normal ?_))
      refine Tr.seq ?_
      refine Tr.region ?_
      refine TrL.field rfl rfl fl46_2 ?_
      refine TrL.load1 rfl rfl sc9 (Sees.cl1 (by repeat (first | with_reducible exact Pick.here | with_reducible apply Pick.there | with_reducible apply Pick.app_nil | with_reducible apply Pick.app_cons)) (by rfl)) ?_
      refine TrL.field rfl rfl fl46_2 ?_
      refine TrL.load1 rfl rfl sc9 (Sees.cl1 (by repeat (first | with_reducible exact Pick.here | with_reducible apply Pick.there | with_reducible apply Pick.app_nil | with_reducible apply Pick.app_cons)) (by rfl)) ?_
      refine TrL.call rfl rfl rfl ca68 .nil (fun Ft29 hUt29 => CompareS_spec (fun r hr => ?_))
      refine TrL.assign rfl rfl ?_
      refine TrL.nil (At.then_normal ?_)
      refine Tr.ret (At.retP [] (.inl rfl) rfl (Res.tmp rfl Res.nil) (by repeat (first | exact Picks.nil | with_reducible exact Pick.here | with_reducible apply Pick.there | with_reducible apply Pick.app_nil | with_reducible apply Pick.app_cons | apply Picks.cons)) (by exact hK _ (by rw [hr]; unfold ltT; rw [if_pos (by assumption), if_neg (by assumption)])))

theorem IndexFuncT_spec {F : Hp} {K : Value → List HProp → Prop} {p : Option Addr} {cp : Nat} {l : List Tab} {g : FuncId} {cap : List Value} {pr : Tab → Bool} (hg : ∀ (F' : Hp) (K : Value → List HProp → Prop) (x : Tab), Hp.le F F' → K (.bool (pr x)) [] → CallK Try.prog F' g (([Value.agg (encT x).toArray] ++ cap).toArray) [] K) (hc : callable Try.prog g = true) (hs : SlIn F encT 4 p l) (hl : l.length ≤ 9223372036854775807)
    (hK : ∀ r : Int, ((r = -1 ∧ ∀ x ∈ l, pr x = false) ∨ ∃ (i : Nat) (x : Tab), r = (i : Int) ∧ l[i]? = some x ∧ pr x = true ∧ ∀ y ∈ l.take i, pr y = false) → K (.int .i64 r) []) :
    CallK Try.prog F 64 #[.slice p l.length cp, .func (.func g) #[] cap.toArray] [] K := by
  refine CallK.enter Try.func64 rfl Try.ntmps64 rfl ?_
  refine Tr.seq ?_
  refine Tr.region ?_
  refine TrL.assign rfl rfl ?_
  refine TrL.nil (At.then_normal ?_)
  refine Tr.seq ?_
  refine Tr.seq ?_
  refine Tr.region ?_
  refine TrL.move rfl rfl ?_
  refine TrL.lenl rfl rfl se22 ?_
  refine TrL.move rfl rfl ?_
  refine TrL.nil (At.then_normal ?_)
  refine Tr.block ?_
  refine Tr.loopK [0, 1, 7] (α := Nat) (fun i => [(8, .int .i64 (i : Int))]) (fun i => []) (fun i => i ≤ l.length ∧ ∀ x ∈ l.take i, pr x = false) (fun i => l.length - i) (0) (by rfl) ?_ (by repeat (first | exact Sub.nil | refine Sub.cons (by rfl) ?_)) (by repeat (first | exact Picks.nil | with_reducible exact Pick.here | with_reducible apply Pick.there | with_reducible apply Pick.app_nil | with_reducible apply Pick.app_cons | apply Picks.cons)) ?_
  · exact ⟨Nat.zero_le _, by simp⟩
  rintro i ⟨hi, hall⟩
  refine Tr.seq ?_
  refine Tr.region ?_
  refine TrL.lss rfl rfl rfl ?_
  refine TrL.nil (At.then_normal ?_)
  refine Tr.seq ?_
  refine Tr.cond rfl (fun h9 => ?_) (fun h9 => ?_)
  · try simp only [beq_iff_eq, beq_eq_false_iff_ne, Bool.not_eq_true, Bool.not_eq_false, decide_eq_true_eq, decide_eq_false_iff_not, Bool.not_eq_true', Bool.not_eq_false', bne_iff_ne, Bool.not_eq_eq_eq_not, Bool.not_true, Bool.not_false, ne_eq, Decidable.not_not, Int.not_lt, Int.not_le] at h9
    refine Tr.skip (At.then_normal ?_)
    refine Tr.seq ?_
    refine Tr.block ?_
    refine Tr.seq ?_
    refine Tr.region ?_
    refine TrL.move rfl rfl ?_
    refine TrL.assign rfl rfl ?_
    refine TrL.nil (At.then_normal ?_)
    refine Tr.seq ?_
    refine Tr.region ?_
    refine TrL.move rfl rfl ?_
    refine TrL.move rfl rfl ?_
    refine TrL.move rfl rfl ?_
    refine TrL.idxF rfl rfl rfl se22 sz46 (by assumption) rfl rfl rfl (List.getElem?_eq_getElem (by omega)) (fun b14 o14 hp14 hc14 => ?_)
    refine TrL.loadRA rfl rfl ag46 sz46 (by assumption) (by rfl) ?_
    refine TrL.callC rfl rfl rfl hc .nil (fun F16 hU16 => hg _ _ _ hU16.le ?_)
    refine TrL.nil (At.then_normal ?_)
    refine Tr.cond rfl (fun h16 => ?_) (fun h16 => ?_)
    · try simp only [beq_iff_eq, beq_eq_false_iff_ne, Bool.not_eq_true, Bool.not_eq_false, decide_eq_true_eq, decide_eq_false_iff_not, Bool.not_eq_true', Bool.not_eq_false', bne_iff_ne, Bool.not_eq_eq_eq_not, Bool.not_true, Bool.not_false, ne_eq, Decidable.not_not, Int.not_lt, Int.not_le] at h16
      refine Tr.seq ?_
      refine Tr.region ?_
      refine TrL.move rfl rfl ?_
      refine TrL.assign rfl rfl ?_
      refine TrL.nil (At.then_normal ?_)
      refine Tr.ret (At.block_ret (At.then_ret (At.then_ret (At.block_ret (At.then_ret (At.retP [] (.inl rfl) rfl (Res.tmp rfl Res.nil) (by repeat (first | exact Picks.nil | with_reducible exact Pick.here | with_reducible apply Pick.there | with_reducible apply Pick.app_nil | with_reducible apply Pick.app_cons | apply Picks.cons)) (by exact hK _ (.inr ⟨i, l[i], rfl, List.getElem?_eq_getElem (by omega), h16, hall⟩))))))))
    · try simp only [beq_iff_eq, beq_eq_false_iff_ne, Bool.not_eq_true, Bool.not_eq_false, decide_eq_true_eq, decide_eq_false_iff_not, Bool.not_eq_true', Bool.not_eq_false', bne_iff_ne, Bool.not_eq_eq_eq_not, Bool.not_true, Bool.not_false, ne_eq, Decidable.not_not, Int.not_lt, Int.not_le] at h16
      refine Tr.skip (At.block_normal (At.then_normal ?_))
      refine Tr.region ?_
      refine TrL.addI rfl rfl rfl (by omega) ?_
      refine TrL.move rfl rfl ?_
      refine TrL.nil ?_
      refine At.again (i + 1) ⟨by omega, fun x hx => ?_⟩ (by omega) (by repeat (first | exact Sub.nil | refine Sub.cons (by rfl) ?_)) (by repeat (first | exact Picks.nil | with_reducible exact Pick.here | with_reducible apply Pick.there | with_reducible apply Pick.app_nil | with_reducible apply Pick.app_cons | apply Picks.cons))
      rw [List.take_succ_eq_append_getElem (by omega)] at hx
      rcases List.mem_append.1 hx with hx | hx
      · exact hall x hx
      · simp only [List.mem_singleton] at hx; subst hx; exact h16
  · try simp only [beq_iff_eq, beq_eq_false_iff_ne, Bool.not_eq_true, Bool.not_eq_false, decide_eq_true_eq, decide_eq_false_iff_not, Bool.not_eq_true', Bool.not_eq_false', bne_iff_ne, Bool.not_eq_eq_eq_not, Bool.not_true, Bool.not_false, ne_eq, Decidable.not_not, Int.not_lt, Int.not_le] at h9
    refine Tr.exit (At.then_exit (At.then_exit (At.block_hit (At.then_normal ?_))))
    refine Tr.seq ?_
    refine Tr.region ?_
    refine TrL.assign rfl rfl ?_
    refine TrL.nil (At.then_normal ?_)
    refine Tr.ret (At.retP [] (.inl rfl) rfl (Res.tmp rfl Res.nil) (by repeat (first | exact Picks.nil | with_reducible exact Pick.here | with_reducible apply Pick.there | with_reducible apply Pick.app_nil | with_reducible apply Pick.app_cons | apply Picks.cons)) (by 
        refine hK _ (.inl ⟨rfl, fun x hx => ?_⟩)
        rw [List.take_of_length_le (by omega)] at hall
        exact hall x hx))

theorem ContainsFuncT_spec {F : Hp} {K : Value → List HProp → Prop} {p : Option Addr} {cp : Nat} {l : List Tab} {g : FuncId} {cap : List Value} {pr : Tab → Bool} (hg : ∀ (F' : Hp) (K : Value → List HProp → Prop) (x : Tab), Hp.le F F' → K (.bool (pr x)) [] → CallK Try.prog F' g (([Value.agg (encT x).toArray] ++ cap).toArray) [] K) (hc : callable Try.prog g = true) (hs : SlIn F encT 4 p l) (hl : l.length ≤ 9223372036854775807) (hK : K (.bool (l.any pr)) []) :
    CallK Try.prog F 47 #[.slice p l.length cp, .func (.func g) #[] cap.toArray] [] K := by
  refine CallK.enter Try.func47 rfl Try.ntmps47 rfl ?_
  refine Tr.seq ?_
  refine Tr.region ?_
  refine TrL.assign rfl rfl ?_
  refine TrL.nil (At.then_normal ?_)
  refine Tr.seq ?_
  refine Tr.region ?_
  refine TrL.move rfl rfl ?_
  refine TrL.move rfl rfl ?_
  refine TrL.call rfl rfl rfl ca64 .nil (fun Ft7 hUt7 => IndexFuncT_spec (fun F' K x le => hg F' K x (hUt7.le.trans le)) hc (hUt7.ro (SlIn.mono _ _ _ _) hs) hl (fun r hr => ?_))
  refine TrL.geq rfl rfl rfl ?_
  refine TrL.assign rfl rfl ?_
  refine TrL.nil (At.then_normal ?_)
  refine Tr.ret (At.retP [] (.inl rfl) rfl (Res.tmp rfl Res.nil) (by repeat (first | exact Picks.nil | with_reducible exact Pick.here | with_reducible apply Pick.there | with_reducible apply Pick.app_nil | with_reducible apply Pick.app_cons | apply Picks.cons)) (by 
      refine kb ?_ hK
      rcases hr with ⟨rfl, h⟩ | ⟨i, x, rfl, h1, h2, _⟩
      · rw [List.any_eq_false.2 (fun x hx => by rw [h x hx]; simp)]; decide
      · rw [List.any_eq_true.2 ⟨x, List.mem_of_getElem? h1, h2⟩]; simp))

theorem IndexFuncI_spec {F : Hp} {K : Value → List HProp → Prop} {p : Option Addr} {cp : Nat} {l : List Int} {g : FuncId} {cap : List Value} {pr : Int → Bool} (hg : ∀ (F' : Hp) (K : Value → List HProp → Prop) (x : Int), Hp.le F F' → K (.bool (pr x)) [] → CallK Try.prog F' g (([Value.int .i64 x] ++ cap).toArray) [] K) (hc : callable Try.prog g = true) (hs : SlIn F encI 1 p l) (hl : l.length ≤ 9223372036854775807)
    (hK : ∀ r : Int, ((r = -1 ∧ ∀ x ∈ l, pr x = false) ∨ ∃ (i : Nat) (x : Int), r = (i : Int) ∧ l[i]? = some x ∧ pr x = true ∧ ∀ y ∈ l.take i, pr y = false) → K (.int .i64 r) []) :
    CallK Try.prog F 65 #[.slice p l.length cp, .func (.func g) #[] cap.toArray] [] K := by
  refine CallK.enter Try.func65 rfl Try.ntmps65 rfl ?_
  refine Tr.seq ?_
  refine Tr.region ?_
  refine TrL.assign rfl rfl ?_
  refine TrL.nil (At.then_normal ?_)
  refine Tr.seq ?_
  refine Tr.seq ?_
  refine Tr.region ?_
  refine TrL.move rfl rfl ?_
  refine TrL.lenl rfl rfl se23 ?_
  refine TrL.move rfl rfl ?_
  refine TrL.nil (At.then_normal ?_)
  refine Tr.block ?_
  refine Tr.loopK [0, 1, 7] (α := Nat) (fun i => [(8, .int .i64 (i : Int))]) (fun i => []) (fun i => i ≤ l.length ∧ ∀ x ∈ l.take i, pr x = false) (fun i => l.length - i) (0) (by rfl) ?_ (by repeat (first | exact Sub.nil | refine Sub.cons (by rfl) ?_)) (by repeat (first | exact Picks.nil | with_reducible exact Pick.here | with_reducible apply Pick.there | with_reducible apply Pick.app_nil | with_reducible apply Pick.app_cons | apply Picks.cons)) ?_
  · exact ⟨Nat.zero_le _, by simp⟩
  rintro i ⟨hi, hall⟩
  refine Tr.seq ?_
  refine Tr.region ?_
  refine TrL.lss rfl rfl rfl ?_
  refine TrL.nil (At.then_normal ?_)
  refine Tr.seq ?_
  refine Tr.cond rfl (fun h9 => ?_) (fun h9 => ?_)
  · try simp only [beq_iff_eq, beq_eq_false_iff_ne, Bool.not_eq_true, Bool.not_eq_false, decide_eq_true_eq, decide_eq_false_iff_not, Bool.not_eq_true', Bool.not_eq_false', bne_iff_ne, Bool.not_eq_eq_eq_not, Bool.not_true, Bool.not_false, ne_eq, Decidable.not_not, Int.not_lt, Int.not_le] at h9
    refine Tr.skip (At.then_normal ?_)
    refine Tr.seq ?_
    refine Tr.block ?_
    refine Tr.seq ?_
    refine Tr.region ?_
    refine TrL.move rfl rfl ?_
    refine TrL.assign rfl rfl ?_
    refine TrL.nil (At.then_normal ?_)
    refine Tr.seq ?_
    refine Tr.region ?_
    refine TrL.move rfl rfl ?_
    refine TrL.move rfl rfl ?_
    refine TrL.move rfl rfl ?_
    refine TrL.idxF rfl rfl rfl se23 sz3 (by assumption) rfl rfl rfl (List.getElem?_eq_getElem (by omega)) (fun b14 o14 hp14 hc14 => ?_)
    refine TrL.loadR1 rfl rfl sc3 (Cells.part hc14 (j := 0) rfl) ?_
    refine TrL.callC rfl rfl rfl hc .nil (fun F16 hU16 => hg _ _ _ hU16.le ?_)
    refine TrL.nil (At.then_normal ?_)
    refine Tr.cond rfl (fun h16 => ?_) (fun h16 => ?_)
    · try simp only [beq_iff_eq, beq_eq_false_iff_ne, Bool.not_eq_true, Bool.not_eq_false, decide_eq_true_eq, decide_eq_false_iff_not, Bool.not_eq_true', Bool.not_eq_false', bne_iff_ne, Bool.not_eq_eq_eq_not, Bool.not_true, Bool.not_false, ne_eq, Decidable.not_not, Int.not_lt, Int.not_le] at h16
      refine Tr.seq ?_
      refine Tr.region ?_
      refine TrL.move rfl rfl ?_
      refine TrL.assign rfl rfl ?_
      refine TrL.nil (At.then_normal ?_)
      refine Tr.ret (At.block_ret (At.then_ret (At.then_ret (At.block_ret (At.then_ret (At.retP [] (.inl rfl) rfl (Res.tmp rfl Res.nil) (by repeat (first | exact Picks.nil | with_reducible exact Pick.here | with_reducible apply Pick.there | with_reducible apply Pick.app_nil | with_reducible apply Pick.app_cons | apply Picks.cons)) (by exact hK _ (.inr ⟨i, l[i], rfl, List.getElem?_eq_getElem (by omega), h16, hall⟩))))))))
    · try simp only [beq_iff_eq, beq_eq_false_iff_ne, Bool.not_eq_true, Bool.not_eq_false, decide_eq_true_eq, decide_eq_false_iff_not, Bool.not_eq_true', Bool.not_eq_false', bne_iff_ne, Bool.not_eq_eq_eq_not, Bool.not_true, Bool.not_false, ne_eq, Decidable.not_not, Int.not_lt, Int.not_le] at h16
      refine Tr.skip (At.block_normal (At.then_normal ?_))
      refine Tr.region ?_
      refine TrL.addI rfl rfl rfl (by omega) ?_
      refine TrL.move rfl rfl ?_
      refine TrL.nil ?_
      refine At.again (i + 1) ⟨by omega, fun x hx => ?_⟩ (by omega) (by repeat (first | exact Sub.nil | refine Sub.cons (by rfl) ?_)) (by repeat (first | exact Picks.nil | with_reducible exact Pick.here | with_reducible apply Pick.there | with_reducible apply Pick.app_nil | with_reducible apply Pick.app_cons | apply Picks.cons))
      rw [List.take_succ_eq_append_getElem (by omega)] at hx
      rcases List.mem_append.1 hx with hx | hx
      · exact hall x hx
      · simp only [List.mem_singleton] at hx; subst hx; exact h16
  · try simp only [beq_iff_eq, beq_eq_false_iff_ne, Bool.not_eq_true, Bool.not_eq_false, decide_eq_true_eq, decide_eq_false_iff_not, Bool.not_eq_true', Bool.not_eq_false', bne_iff_ne, Bool.not_eq_eq_eq_not, Bool.not_true, Bool.not_false, ne_eq, Decidable.not_not, Int.not_lt, Int.not_le] at h9
    refine Tr.exit (At.then_exit (At.then_exit (At.block_hit (At.then_normal ?_))))
    refine Tr.seq ?_
    refine Tr.region ?_
    refine TrL.assign rfl rfl ?_
    refine TrL.nil (At.then_normal ?_)
    refine Tr.ret (At.retP [] (.inl rfl) rfl (Res.tmp rfl Res.nil) (by repeat (first | exact Picks.nil | with_reducible exact Pick.here | with_reducible apply Pick.there | with_reducible apply Pick.app_nil | with_reducible apply Pick.app_cons | apply Picks.cons)) (by 
        refine hK _ (.inl ⟨rfl, fun x hx => ?_⟩)
        rw [List.take_of_length_le (by omega)] at hall
        exact hall x hx))

theorem ContainsFuncI_spec {F : Hp} {K : Value → List HProp → Prop} {p : Option Addr} {cp : Nat} {l : List Int} {g : FuncId} {cap : List Value} {pr : Int → Bool} (hg : ∀ (F' : Hp) (K : Value → List HProp → Prop) (x : Int), Hp.le F F' → K (.bool (pr x)) [] → CallK Try.prog F' g (([Value.int .i64 x] ++ cap).toArray) [] K) (hc : callable Try.prog g = true) (hs : SlIn F encI 1 p l) (hl : l.length ≤ 9223372036854775807) (hK : K (.bool (l.any pr)) []) :
    CallK Try.prog F 48 #[.slice p l.length cp, .func (.func g) #[] cap.toArray] [] K := by
  refine CallK.enter Try.func48 rfl Try.ntmps48 rfl ?_
  refine Tr.seq ?_
  refine Tr.region ?_
  refine TrL.assign rfl rfl ?_
  refine TrL.nil (At.then_normal ?_)
  refine Tr.seq ?_
  refine Tr.region ?_
  refine TrL.move rfl rfl ?_
  refine TrL.move rfl rfl ?_
  refine TrL.call rfl rfl rfl ca65 .nil (fun Ft7 hUt7 => IndexFuncI_spec (fun F' K x le => hg F' K x (hUt7.le.trans le)) hc (hUt7.ro (SlIn.mono _ _ _ _) hs) hl (fun r hr => ?_))
  refine TrL.geq rfl rfl rfl ?_
  refine TrL.assign rfl rfl ?_
  refine TrL.nil (At.then_normal ?_)
  refine Tr.ret (At.retP [] (.inl rfl) rfl (Res.tmp rfl Res.nil) (by repeat (first | exact Picks.nil | with_reducible exact Pick.here | with_reducible apply Pick.there | with_reducible apply Pick.app_nil | with_reducible apply Pick.app_cons | apply Picks.cons)) (by 
      refine kb ?_ hK
      rcases hr with ⟨rfl, h⟩ | ⟨i, x, rfl, h1, h2, _⟩
      · rw [List.any_eq_false.2 (fun x hx => by rw [h x hx]; simp)]; decide
      · rw [List.any_eq_true.2 ⟨x, List.mem_of_getElem? h1, h2⟩]; simp))
end Go.Proofs.Ytiefmfimbmkdjaa

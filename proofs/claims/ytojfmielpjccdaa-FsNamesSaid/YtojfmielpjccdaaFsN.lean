/-
  The reference's Name and Same; the law FsNames, walked.
  No condition but those that each statement names.
-/
import Derived.Test.YtojfmielpjccdaaFsL
namespace Go.Proofs.Ytojfmielpjccdaa
set_option linter.unusedSimpArgs false
set_option linter.unusedVariables false
set_option linter.unusedSectionVars false
open Go.RowKit
variable [Obs]


set_option maxHeartbeats 2000000 in
theorem Same_spec {F : Hp} {K : Value → List HProp → Prop} {p p2 : Option Addr} {cap cap2 : Nat} {l r : List ByteArray} (hl : SlIn F encS 1 p l) (hr : SlIn F encS 1 p2 r) (hll : l.length ≤ 4611686018427387904) (hK : K (.bool (decide (l = r))) []) :
    CallK Try.prog F 21 #[.slice p l.length cap, .slice p2 r.length cap2] [] K := by
  refine CallK.enter Try.func21 rfl Try.ntmps21 rfl ?_
  refine Tr.seq ?_
  refine Tr.region ?_
  refine TrL.assign rfl rfl ?_
  refine TrL.nil (At.then_normal ?_)
  refine Tr.seq ?_
  refine Tr.seq ?_
  refine Tr.region ?_
  refine TrL.move rfl rfl ?_
  refine TrL.lenl rfl rfl se22 ?_
  refine TrL.move rfl rfl ?_
  refine TrL.lenl rfl rfl se22 ?_
  refine TrL.nei rfl rfl rfl ?_
  refine TrL.nil (At.then_normal ?_)
  refine Tr.cond rfl (fun h10 => ?_) (fun h10 => ?_)
  · try simp only [beq_iff_eq, beq_eq_false_iff_ne, Bool.not_eq_true, Bool.not_eq_false, decide_eq_true_eq, decide_eq_false_iff_not, Bool.not_eq_true', Bool.not_eq_false', bne_iff_ne, Bool.not_eq_eq_eq_not, Bool.not_true, Bool.not_false, ne_eq, Decidable.not_not, Int.not_lt, Int.not_le] at h10
    refine Tr.seq ?_
    refine Tr.region ?_
    refine TrL.assign rfl rfl ?_
    refine TrL.nil (At.then_normal ?_)
    refine Tr.ret (At.then_ret (At.retP [] (.inl rfl) rfl (Res.tmp rfl Res.nil) (by repeat (first | exact Picks.nil | with_reducible exact Pick.here | with_reducible apply Pick.there | with_reducible apply Pick.app_nil | with_reducible apply Pick.app_cons | apply Picks.cons)) (by 
        refine kb ?_ hK
        rw [decide_eq_false_iff_not]
        rintro rfl; omega)))
  · try simp only [beq_iff_eq, beq_eq_false_iff_ne, Bool.not_eq_true, Bool.not_eq_false, decide_eq_true_eq, decide_eq_false_iff_not, Bool.not_eq_true', Bool.not_eq_false', bne_iff_ne, Bool.not_eq_eq_eq_not, Bool.not_true, Bool.not_false, ne_eq, Decidable.not_not, Int.not_lt, Int.not_le] at h10
    refine Tr.skip (At.then_normal ?_)
    refine Tr.seq ?_
    refine Tr.seq ?_
    refine Tr.region ?_
    refine TrL.assign rfl rfl ?_
    refine TrL.nil (At.then_normal ?_)
    refine Tr.block ?_
    refine Tr.loopK [0, 1] (α := Nat) (fun i => [(5, .int .i64 (i : Int))]) (fun i => []) (fun i => i ≤ l.length ∧ l.take i = r.take i) (fun i => l.length - i) (0) (by rfl) ?_ (by repeat (first | exact Sub.nil | refine Sub.cons (by rfl) ?_)) (by repeat (first | exact Picks.nil | with_reducible exact Pick.here | with_reducible apply Pick.there | with_reducible apply Pick.app_nil | with_reducible apply Pick.app_cons | apply Picks.cons)) ?_
    · exact ⟨Nat.zero_le _, by simp⟩
    rintro i ⟨hi, htk⟩
    refine Tr.seq ?_
    refine Tr.seq ?_
    refine Tr.region ?_
    refine TrL.move rfl rfl ?_
    refine TrL.move rfl rfl ?_
    refine TrL.lenl rfl rfl se22 ?_
    refine TrL.lss rfl rfl rfl ?_
    refine TrL.nil (At.then_normal ?_)
    refine Tr.cond rfl (fun h14 => ?_) (fun h14 => ?_)
    · try simp only [beq_iff_eq, beq_eq_false_iff_ne, Bool.not_eq_true, Bool.not_eq_false, decide_eq_true_eq, decide_eq_false_iff_not, Bool.not_eq_true', Bool.not_eq_false', bne_iff_ne, Bool.not_eq_eq_eq_not, Bool.not_true, Bool.not_false, ne_eq, Decidable.not_not, Int.not_lt, Int.not_le] at h14
      refine Tr.skip (At.then_normal ?_)
      refine Tr.seq ?_
      refine Tr.block ?_
      refine Tr.seq ?_
      refine Tr.regionQ mixed (by kernel_rfl) ?_
      refine TrL.move rfl rfl ?_
      refine TrL.move rfl rfl ?_
      refine TrL.idxF rfl rfl rfl se22 sz9 (by assumption) rfl rfl rfl (List.getElem?_eq_getElem (by omega)) (fun b19 o19 hp19 hc19 => ?_)
      refine TrL.loadR1 rfl rfl sc9 (by assumption) ?_
      refine TrL.move rfl rfl ?_
      refine TrL.move rfl rfl ?_
      refine TrL.idxF rfl rfl rfl se22 sz9 (by assumption) rfl rfl rfl (List.getElem?_eq_getElem (by omega)) (fun b23 o23 hp23 hc23 => ?_)
      refine TrL.loadR1 rfl rfl sc9 (by assumption) ?_
      refine TrL.nes rfl rfl rfl ?_
      refine TrL.nilQ (At.then_normal ?_)
      refine Tr.cond rfl (fun h25 => ?_) (fun h25 => ?_)
      · try simp only [beq_iff_eq, beq_eq_false_iff_ne, Bool.not_eq_true, Bool.not_eq_false, decide_eq_true_eq, decide_eq_false_iff_not, Bool.not_eq_true', Bool.not_eq_false', bne_iff_ne, Bool.not_eq_eq_eq_not, Bool.not_true, Bool.not_false, ne_eq, Decidable.not_not, Int.not_lt, Int.not_le] at h25
        refine Tr.seq ?_
        refine Tr.region ?_
        refine TrL.assign rfl rfl ?_
        refine TrL.nil (At.then_normal ?_)
        refine Tr.ret (At.block_ret (At.then_ret (At.then_ret (At.block_ret (At.then_ret (At.retP [] (.inl rfl) rfl (Res.tmp rfl Res.nil) (by repeat (first | exact Picks.nil | with_reducible exact Pick.here | with_reducible apply Pick.there | with_reducible apply Pick.app_nil | with_reducible apply Pick.app_cons | apply Picks.cons)) (by 
            refine kb ?_ hK
            rw [decide_eq_false_iff_not]
            rintro rfl; exact h25 rfl)))))))
      · try simp only [beq_iff_eq, beq_eq_false_iff_ne, Bool.not_eq_true, Bool.not_eq_false, decide_eq_true_eq, decide_eq_false_iff_not, Bool.not_eq_true', Bool.not_eq_false', bne_iff_ne, Bool.not_eq_eq_eq_not, Bool.not_true, Bool.not_false, ne_eq, Decidable.not_not, Int.not_lt, Int.not_le] at h25
        refine Tr.skip (At.block_normal (At.then_normal ?_))
        refine Tr.region ?_
        refine TrL.move rfl rfl ?_
        refine TrL.addI rfl rfl rfl (by omega) ?_
        refine TrL.assign rfl rfl ?_
        refine TrL.nil ?_
        have h1 : i < l.length := by omega
        have h2 : i < r.length := by omega
        refine At.again (i + 1) ⟨by omega, by rw [take_succ_of h1, take_succ_of h2, htk, h25]⟩ (by omega) (by repeat (first | exact Sub.nil | refine Sub.cons (by rfl) ?_)) (by repeat (first | exact Picks.nil | with_reducible exact Pick.here | with_reducible apply Pick.there | with_reducible apply Pick.app_nil | with_reducible apply Pick.app_cons | apply Picks.cons))
    · try simp only [beq_iff_eq, beq_eq_false_iff_ne, Bool.not_eq_true, Bool.not_eq_false, decide_eq_true_eq, decide_eq_false_iff_not, Bool.not_eq_true', Bool.not_eq_false', bne_iff_ne, Bool.not_eq_eq_eq_not, Bool.not_true, Bool.not_false, ne_eq, Decidable.not_not, Int.not_lt, Int.not_le] at h14
      refine Tr.exit (At.then_exit (At.then_exit (At.block_hit (At.then_normal ?_))))
      refine Tr.seq ?_
      refine Tr.region ?_
      refine TrL.assign rfl rfl ?_
      refine TrL.nil (At.then_normal ?_)
      refine Tr.ret (At.retP [] (.inl rfl) rfl (Res.tmp rfl Res.nil) (by repeat (first | exact Picks.nil | with_reducible exact Pick.here | with_reducible apply Pick.there | with_reducible apply Pick.app_nil | with_reducible apply Pick.app_cons | apply Picks.cons)) (by 
          refine kb ?_ hK
          rw [decide_eq_true_eq]
          rw [List.take_of_length_le (by omega), List.take_of_length_le (by omega)] at htk; exact htk))

theorem bytes_ne (x : ByteArray) : decide (x ≠ ⟨#[]⟩) = decide (1 ≤ x.size) := by
  by_cases h : x = ⟨#[]⟩
  · subst h; decide
  · have : x.size ≠ 0 := fun e => h (by cases x; rename_i a; simp only [ByteArray.size] at e; rw [Array.eq_empty_of_size_eq_zero e])
    simp [h]; omega
theorem byteAt_eq (x : ByteArray) (i : Nat) (h : i < x.data.toList.length) : byteAt x i = ((x.data.toList[i]).toNat : Int) := by unfold byteAt; rw [List.getD_eq_getElem?_getD, List.getElem?_eq_getElem h]; rfl
set_option maxHeartbeats 2000000 in
theorem Name_spec {F : Hp} {K : Value → List HProp → Prop} {x : ByteArray} (hx : x.size ≤ maxLen) (hK : K (.bool (nameOk x)) []) : CallK Try.prog F 19 #[.string x] [] K := by
  have hx0 : x.data.toList.length = x.size := by simp
  have hmx : maxLen = 9223372036854775807 := by decide
  refine CallK.enter Try.func19 rfl Try.ntmps19 rfl ?_
  refine Tr.seq ?_
  refine Tr.region ?_
  refine TrL.assign rfl rfl ?_
  refine TrL.nil (At.then_normal ?_)
  refine Tr.seq ?_
  refine Tr.seq ?_
  refine Tr.region ?_
  refine TrL.assign rfl rfl ?_
  refine TrL.nil (At.then_normal ?_)
  refine Tr.block ?_
  refine Tr.loopK [0] (α := Nat) (fun i => [(3, .int .i64 (i : Int))]) (fun i => []) (fun i => i ≤ x.size ∧ ∀ b ∈ x.data.toList.take i, oddR (b.toNat : Int) = false) (fun i => x.size - i) (0) (by rfl) ?_ (by repeat (first | exact Sub.nil | refine Sub.cons (by rfl) ?_)) (by repeat (first | exact Picks.nil | with_reducible exact Pick.here | with_reducible apply Pick.there | with_reducible apply Pick.app_nil | with_reducible apply Pick.app_cons | apply Picks.cons)) ?_
  · exact ⟨Nat.zero_le _, by simp⟩
  rintro i ⟨hi, hall⟩
  refine Tr.seq ?_
  refine Tr.seq ?_
  refine Tr.region ?_
  refine TrL.move rfl rfl ?_
  refine TrL.move rfl rfl ?_
  refine TrL.lens rfl rfl st9 ?_
  refine TrL.lss rfl rfl rfl ?_
  refine TrL.nil (At.then_normal ?_)
  refine Tr.cond rfl (fun h8 => ?_) (fun h8 => ?_)
  · try simp only [beq_iff_eq, beq_eq_false_iff_ne, Bool.not_eq_true, Bool.not_eq_false, decide_eq_true_eq, decide_eq_false_iff_not, Bool.not_eq_true', Bool.not_eq_false', bne_iff_ne, Bool.not_eq_eq_eq_not, Bool.not_true, Bool.not_false, ne_eq, Decidable.not_not, Int.not_lt, Int.not_le] at h8
    refine Tr.skip (At.then_normal ?_)
    refine Tr.seq ?_
    refine Tr.block ?_
    refine Tr.seq ?_
    refine Tr.region ?_
    refine TrL.move rfl rfl ?_
    refine TrL.move rfl rfl ?_
    refine TrL.indexStr rfl rfl rfl st9 rfl (by omega) ?_
    refine TrL.assign rfl rfl ?_
    refine TrL.nil (At.then_normal ?_)
    refine Tr.seq ?_
    refine Tr.region ?_
    refine TrL.move rfl rfl ?_
    refine TrL.lss rfl rfl rfl ?_
    refine TrL.move rfl rfl ?_
    refine TrL.cases (t := 16) rfl (fun h16 => ?_) (fun h16 => ?_)
    · try simp only [beq_iff_eq, beq_eq_false_iff_ne, Bool.not_eq_true, Bool.not_eq_false, decide_eq_true_eq, decide_eq_false_iff_not, Bool.not_eq_true', Bool.not_eq_false', bne_iff_ne, Bool.not_eq_eq_eq_not, Bool.not_true, Bool.not_false, ne_eq, Decidable.not_not, Int.not_lt, Int.not_le] at h16
      refine TrL.unwant rfl rfl rfl ?_
      refine TrL.unwant rfl rfl rfl ?_
      refine TrL.pickT rfl rfl rfl ?_
      refine TrL.move rfl rfl ?_
      refine TrL.want rfl rfl ?_
      refine TrL.move rfl rfl ?_
      refine TrL.want rfl rfl ?_
      refine TrL.lss rfl rfl rfl ?_
      refine TrL.want rfl rfl ?_
      refine TrL.move rfl rfl ?_
      refine TrL.cases (t := 23) rfl (fun h23 => ?_) (fun h23 => ?_)
      · try simp only [beq_iff_eq, beq_eq_false_iff_ne, Bool.not_eq_true, Bool.not_eq_false, decide_eq_true_eq, decide_eq_false_iff_not, Bool.not_eq_true', Bool.not_eq_false', bne_iff_ne, Bool.not_eq_eq_eq_not, Bool.not_true, Bool.not_false, ne_eq, Decidable.not_not, Int.not_lt, Int.not_le] at h23
        refine TrL.unwant rfl rfl rfl ?_
        refine TrL.unwant rfl rfl rfl ?_
        refine TrL.want rfl rfl ?_
        refine TrL.pickT rfl rfl rfl ?_
        refine TrL.pickT rfl rfl rfl ?_
        refine TrL.move rfl rfl ?_
        refine TrL.want rfl rfl ?_
        refine TrL.move rfl rfl ?_
        refine TrL.want rfl rfl ?_
        refine TrL.nei rfl rfl rfl ?_
        refine TrL.pickT rfl rfl rfl ?_
        refine TrL.move rfl rfl ?_
        refine TrL.cases (t := 32) rfl (fun h32 => ?_) (fun h32 => ?_)
        · try simp only [beq_iff_eq, beq_eq_false_iff_ne, Bool.not_eq_true, Bool.not_eq_false, decide_eq_true_eq, decide_eq_false_iff_not, Bool.not_eq_true', Bool.not_eq_false', bne_iff_ne, Bool.not_eq_eq_eq_not, Bool.not_true, Bool.not_false, ne_eq, Decidable.not_not, Int.not_lt, Int.not_le] at h32
          refine TrL.want rfl rfl ?_
          refine TrL.move rfl rfl ?_
          refine TrL.want rfl rfl ?_
          refine TrL.nei rfl rfl rfl ?_
          refine TrL.pickT rfl rfl rfl ?_
          refine TrL.nil (At.then_normal ?_)
          refine Tr.cond rfl (fun h35 => ?_) (fun h35 => ?_)
          · try simp only [beq_iff_eq, beq_eq_false_iff_ne, Bool.not_eq_true, Bool.not_eq_false, decide_eq_true_eq, decide_eq_false_iff_not, Bool.not_eq_true', Bool.not_eq_false', bne_iff_ne, Bool.not_eq_eq_eq_not, Bool.not_true, Bool.not_false, ne_eq, Decidable.not_not, Int.not_lt, Int.not_le] at h35
            refine Tr.seq ?_
            refine Tr.region ?_
            refine TrL.assign rfl rfl ?_
            refine TrL.nil (At.then_normal ?_)
            refine Tr.ret (At.block_ret (At.then_ret (At.then_ret (At.block_ret (At.then_ret (At.retP [] (.inl rfl) rfl (Res.tmp rfl Res.nil) (by repeat (first | exact Picks.nil | with_reducible exact Pick.here | with_reducible apply Pick.there | with_reducible apply Pick.app_nil | with_reducible apply Pick.app_cons | apply Picks.cons)) (by 
                first
                | (
                    have h1 : i < x.data.toList.length := by omega
                    rw [byteAt_eq x i h1] at *
                    refine kb ?_ hK
                    have hbad : oddR ((x.data.toList[i]).toNat : Int) = true := by generalize ((x.data.toList[i]).toNat : Int) = cc at *; unfold oddR; simp; omega
                    unfold nameOk
                    rw [show x.data.toList.any (fun b => oddR (b.toNat : Int)) = true from List.any_eq_true.2 ⟨_, List.getElem_mem h1, hbad⟩]; simp)
                | (
                    have hany : x.data.toList.any (fun b => oddR (b.toNat : Int)) = false := by
                      rw [List.take_of_length_le (by omega)] at hall; rw [List.any_eq_false]; intro b hb; rw [hall b hb]; decide
                    refine kb ?_ hK
                    unfold nameOk
                    rw [hany, bytes_ne]
                    first | (rw [decide_eq_true (show 1 ≤ x.size by omega)]; simp; done) | (rw [decide_eq_true (show 1 ≤ x.size by omega)]; simp; omega) | (rw [decide_eq_false (show ¬ 1 ≤ x.size by omega)]; simp)))))))))
          · try simp only [beq_iff_eq, beq_eq_false_iff_ne, Bool.not_eq_true, Bool.not_eq_false, decide_eq_true_eq, decide_eq_false_iff_not, Bool.not_eq_true', Bool.not_eq_false', bne_iff_ne, Bool.not_eq_eq_eq_not, Bool.not_true, Bool.not_false, ne_eq, Decidable.not_not, Int.not_lt, Int.not_le] at h35
            refine Tr.skip (At.block_normal (At.then_normal ?_))
            refine Tr.region ?_
            refine TrL.move rfl rfl ?_
            refine TrL.addI rfl rfl rfl (by omega) ?_
            refine TrL.assign rfl rfl ?_
            refine TrL.nil ?_
            have h1 : i < x.data.toList.length := by omega
            rw [byteAt_eq x i h1] at *
            generalize hcc : ((x.data.toList[i]).toNat : Int) = cc at *
            refine At.again (i + 1) ⟨by omega, fun b hb => ?_⟩ (by omega) (by repeat (first | exact Sub.nil | refine Sub.cons (by rfl) ?_)) (by repeat (first | exact Picks.nil | with_reducible exact Pick.here | with_reducible apply Pick.there | with_reducible apply Pick.app_nil | with_reducible apply Pick.app_cons | apply Picks.cons))
            rw [take_succ_of h1] at hb
            rcases List.mem_append.1 hb with hb | hb
            · exact hall b hb
            · simp only [List.mem_singleton] at hb; subst hb; rw [hcc]; unfold oddR; simp; omega
        · try simp only [beq_iff_eq, beq_eq_false_iff_ne, Bool.not_eq_true, Bool.not_eq_false, decide_eq_true_eq, decide_eq_false_iff_not, Bool.not_eq_true', Bool.not_eq_false', bne_iff_ne, Bool.not_eq_eq_eq_not, Bool.not_true, Bool.not_false, ne_eq, Decidable.not_not, Int.not_lt, Int.not_le] at h32
          refine TrL.unwant rfl rfl rfl ?_
          refine TrL.unwant rfl rfl rfl ?_
          refine TrL.pickF rfl rfl rfl ?_
          refine TrL.nil (At.then_normal ?_)
          refine Tr.condF rfl ?_
          refine Tr.skip (At.block_normal (At.then_normal ?_))
          refine Tr.region ?_
          refine TrL.move rfl rfl ?_
          refine TrL.addI rfl rfl rfl (by omega) ?_
          refine TrL.assign rfl rfl ?_
          refine TrL.nil ?_
          have h1 : i < x.data.toList.length := by omega
          rw [byteAt_eq x i h1] at *
          generalize hcc : ((x.data.toList[i]).toNat : Int) = cc at *
          refine At.again (i + 1) ⟨by omega, fun b hb => ?_⟩ (by omega) (by repeat (first | exact Sub.nil | refine Sub.cons (by rfl) ?_)) (by repeat (first | exact Picks.nil | with_reducible exact Pick.here | with_reducible apply Pick.there | with_reducible apply Pick.app_nil | with_reducible apply Pick.app_cons | apply Picks.cons))
          rw [take_succ_of h1] at hb
          rcases List.mem_append.1 hb with hb | hb
          · exact hall b hb
          · simp only [List.mem_singleton] at hb; subst hb; rw [hcc]; unfold oddR; simp; omega
      · try simp only [beq_iff_eq, beq_eq_false_iff_ne, Bool.not_eq_true, Bool.not_eq_false, decide_eq_true_eq, decide_eq_false_iff_not, Bool.not_eq_true', Bool.not_eq_false', bne_iff_ne, Bool.not_eq_eq_eq_not, Bool.not_true, Bool.not_false, ne_eq, Decidable.not_not, Int.not_lt, Int.not_le] at h23
        refine TrL.want rfl rfl ?_
        refine TrL.move rfl rfl ?_
        refine TrL.want rfl rfl ?_
        refine TrL.gtr rfl rfl rfl ?_
        refine TrL.want rfl rfl ?_
        refine TrL.pickF rfl rfl rfl ?_
        refine TrL.pickT rfl rfl rfl ?_
        refine TrL.move rfl rfl ?_
        refine TrL.cases (t := 28) rfl (fun h28 => ?_) (fun h28 => ?_)
        · try simp only [beq_iff_eq, beq_eq_false_iff_ne, Bool.not_eq_true, Bool.not_eq_false, decide_eq_true_eq, decide_eq_false_iff_not, Bool.not_eq_true', Bool.not_eq_false', bne_iff_ne, Bool.not_eq_eq_eq_not, Bool.not_true, Bool.not_false, ne_eq, Decidable.not_not, Int.not_lt, Int.not_le] at h28
          refine TrL.want rfl rfl ?_
          refine TrL.move rfl rfl ?_
          refine TrL.want rfl rfl ?_
          refine TrL.nei rfl rfl rfl ?_
          refine TrL.pickT rfl rfl rfl ?_
          refine TrL.move rfl rfl ?_
          refine TrL.cases (t := 32) rfl (fun h32 => ?_) (fun h32 => ?_)
          · try simp only [beq_iff_eq, beq_eq_false_iff_ne, Bool.not_eq_true, Bool.not_eq_false, decide_eq_true_eq, decide_eq_false_iff_not, Bool.not_eq_true', Bool.not_eq_false', bne_iff_ne, Bool.not_eq_eq_eq_not, Bool.not_true, Bool.not_false, ne_eq, Decidable.not_not, Int.not_lt, Int.not_le] at h32
            refine TrL.want rfl rfl ?_
            refine TrL.move rfl rfl ?_
            refine TrL.want rfl rfl ?_
            refine TrL.nei rfl rfl rfl ?_
            refine TrL.pickT rfl rfl rfl ?_
            refine TrL.nil (At.then_normal ?_)
            refine Tr.cond rfl (fun h35 => ?_) (fun h35 => ?_)
            · try simp only [beq_iff_eq, beq_eq_false_iff_ne, Bool.not_eq_true, Bool.not_eq_false, decide_eq_true_eq, decide_eq_false_iff_not, Bool.not_eq_true', Bool.not_eq_false', bne_iff_ne, Bool.not_eq_eq_eq_not, Bool.not_true, Bool.not_false, ne_eq, Decidable.not_not, Int.not_lt, Int.not_le] at h35
              refine Tr.seq ?_
              refine Tr.region ?_
              refine TrL.assign rfl rfl ?_
              refine TrL.nil (At.then_normal ?_)
              refine Tr.ret (At.block_ret (At.then_ret (At.then_ret (At.block_ret (At.then_ret (At.retP [] (.inl rfl) rfl (Res.tmp rfl Res.nil) (by repeat (first | exact Picks.nil | with_reducible exact Pick.here | with_reducible apply Pick.there | with_reducible apply Pick.app_nil | with_reducible apply Pick.app_cons | apply Picks.cons)) (by 
                  first
                  | (
                      have h1 : i < x.data.toList.length := by omega
                      rw [byteAt_eq x i h1] at *
                      refine kb ?_ hK
                      have hbad : oddR ((x.data.toList[i]).toNat : Int) = true := by generalize ((x.data.toList[i]).toNat : Int) = cc at *; unfold oddR; simp; omega
                      unfold nameOk
                      rw [show x.data.toList.any (fun b => oddR (b.toNat : Int)) = true from List.any_eq_true.2 ⟨_, List.getElem_mem h1, hbad⟩]; simp)
                  | (
                      have hany : x.data.toList.any (fun b => oddR (b.toNat : Int)) = false := by
                        rw [List.take_of_length_le (by omega)] at hall; rw [List.any_eq_false]; intro b hb; rw [hall b hb]; decide
                      refine kb ?_ hK
                      unfold nameOk
                      rw [hany, bytes_ne]
                      first | (rw [decide_eq_true (show 1 ≤ x.size by omega)]; simp; done) | (rw [decide_eq_true (show 1 ≤ x.size by omega)]; simp; omega) | (rw [decide_eq_false (show ¬ 1 ≤ x.size by omega)]; simp)))))))))
            · try simp only [beq_iff_eq, beq_eq_false_iff_ne, Bool.not_eq_true, Bool.not_eq_false, decide_eq_true_eq, decide_eq_false_iff_not, Bool.not_eq_true', Bool.not_eq_false', bne_iff_ne, Bool.not_eq_eq_eq_not, Bool.not_true, Bool.not_false, ne_eq, Decidable.not_not, Int.not_lt, Int.not_le] at h35
              refine Tr.skip (At.block_normal (At.then_normal ?_))
              refine Tr.region ?_
              refine TrL.move rfl rfl ?_
              refine TrL.addI rfl rfl rfl (by omega) ?_
              refine TrL.assign rfl rfl ?_
              refine TrL.nil ?_
              have h1 : i < x.data.toList.length := by omega
              rw [byteAt_eq x i h1] at *
              generalize hcc : ((x.data.toList[i]).toNat : Int) = cc at *
              refine At.again (i + 1) ⟨by omega, fun b hb => ?_⟩ (by omega) (by repeat (first | exact Sub.nil | refine Sub.cons (by rfl) ?_)) (by repeat (first | exact Picks.nil | with_reducible exact Pick.here | with_reducible apply Pick.there | with_reducible apply Pick.app_nil | with_reducible apply Pick.app_cons | apply Picks.cons))
              rw [take_succ_of h1] at hb
              rcases List.mem_append.1 hb with hb | hb
              · exact hall b hb
              · simp only [List.mem_singleton] at hb; subst hb; rw [hcc]; unfold oddR; simp; omega
          · try simp only [beq_iff_eq, beq_eq_false_iff_ne, Bool.not_eq_true, Bool.not_eq_false, decide_eq_true_eq, decide_eq_false_iff_not, Bool.not_eq_true', Bool.not_eq_false', bne_iff_ne, Bool.not_eq_eq_eq_not, Bool.not_true, Bool.not_false, ne_eq, Decidable.not_not, Int.not_lt, Int.not_le] at h32
            refine TrL.unwant rfl rfl rfl ?_
            refine TrL.unwant rfl rfl rfl ?_
            refine TrL.pickF rfl rfl rfl ?_
            refine TrL.nil (At.then_normal ?_)
            refine Tr.condF rfl ?_
            refine Tr.skip (At.block_normal (At.then_normal ?_))
            refine Tr.region ?_
            refine TrL.move rfl rfl ?_
            refine TrL.addI rfl rfl rfl (by omega) ?_
            refine TrL.assign rfl rfl ?_
            refine TrL.nil ?_
            have h1 : i < x.data.toList.length := by omega
            rw [byteAt_eq x i h1] at *
            generalize hcc : ((x.data.toList[i]).toNat : Int) = cc at *
            refine At.again (i + 1) ⟨by omega, fun b hb => ?_⟩ (by omega) (by repeat (first | exact Sub.nil | refine Sub.cons (by rfl) ?_)) (by repeat (first | exact Picks.nil | with_reducible exact Pick.here | with_reducible apply Pick.there | with_reducible apply Pick.app_nil | with_reducible apply Pick.app_cons | apply Picks.cons))
            rw [take_succ_of h1] at hb
            rcases List.mem_append.1 hb with hb | hb
            · exact hall b hb
            · simp only [List.mem_singleton] at hb; subst hb; rw [hcc]; unfold oddR; simp; omega
        · try simp only [beq_iff_eq, beq_eq_false_iff_ne, Bool.not_eq_true, Bool.not_eq_false, decide_eq_true_eq, decide_eq_false_iff_not, Bool.not_eq_true', Bool.not_eq_false', bne_iff_ne, Bool.not_eq_eq_eq_not, Bool.not_true, Bool.not_false, ne_eq, Decidable.not_not, Int.not_lt, Int.not_le] at h28
          refine TrL.unwant rfl rfl rfl ?_
          refine TrL.unwant rfl rfl rfl ?_
          refine TrL.pickF rfl rfl rfl ?_
          refine TrL.move rfl rfl ?_
          refine TrL.unwant rfl rfl rfl ?_
          refine TrL.unwant rfl rfl rfl ?_
          refine TrL.pickF rfl rfl rfl ?_
          refine TrL.nil (At.then_normal ?_)
          refine Tr.condF rfl ?_
          refine Tr.skip (At.block_normal (At.then_normal ?_))
          refine Tr.region ?_
          refine TrL.move rfl rfl ?_
          refine TrL.addI rfl rfl rfl (by omega) ?_
          refine TrL.assign rfl rfl ?_
          refine TrL.nil ?_
          have h1 : i < x.data.toList.length := by omega
          rw [byteAt_eq x i h1] at *
          generalize hcc : ((x.data.toList[i]).toNat : Int) = cc at *
          refine At.again (i + 1) ⟨by omega, fun b hb => ?_⟩ (by omega) (by repeat (first | exact Sub.nil | refine Sub.cons (by rfl) ?_)) (by repeat (first | exact Picks.nil | with_reducible exact Pick.here | with_reducible apply Pick.there | with_reducible apply Pick.app_nil | with_reducible apply Pick.app_cons | apply Picks.cons))
          rw [take_succ_of h1] at hb
          rcases List.mem_append.1 hb with hb | hb
          · exact hall b hb
          · simp only [List.mem_singleton] at hb; subst hb; rw [hcc]; unfold oddR; simp; omega
    · try simp only [beq_iff_eq, beq_eq_false_iff_ne, Bool.not_eq_true, Bool.not_eq_false, decide_eq_true_eq, decide_eq_false_iff_not, Bool.not_eq_true', Bool.not_eq_false', bne_iff_ne, Bool.not_eq_eq_eq_not, Bool.not_true, Bool.not_false, ne_eq, Decidable.not_not, Int.not_lt, Int.not_le] at h16
      refine TrL.want rfl rfl ?_
      refine TrL.move rfl rfl ?_
      refine TrL.want rfl rfl ?_
      refine TrL.gtr rfl rfl rfl ?_
      refine TrL.pickF rfl rfl rfl ?_
      refine TrL.move rfl rfl ?_
      refine TrL.cases (t := 20) rfl (fun h20 => ?_) (fun h20 => ?_)
      · try simp only [beq_iff_eq, beq_eq_false_iff_ne, Bool.not_eq_true, Bool.not_eq_false, decide_eq_true_eq, decide_eq_false_iff_not, Bool.not_eq_true', Bool.not_eq_false', bne_iff_ne, Bool.not_eq_eq_eq_not, Bool.not_true, Bool.not_false, ne_eq, Decidable.not_not, Int.not_lt, Int.not_le] at h20
        refine TrL.want rfl rfl ?_
        refine TrL.move rfl rfl ?_
        refine TrL.want rfl rfl ?_
        refine TrL.lss rfl rfl rfl ?_
        refine TrL.want rfl rfl ?_
        refine TrL.move rfl rfl ?_
        refine TrL.cases (t := 23) rfl (fun h23 => ?_) (fun h23 => ?_)
        · try simp only [beq_iff_eq, beq_eq_false_iff_ne, Bool.not_eq_true, Bool.not_eq_false, decide_eq_true_eq, decide_eq_false_iff_not, Bool.not_eq_true', Bool.not_eq_false', bne_iff_ne, Bool.not_eq_eq_eq_not, Bool.not_true, Bool.not_false, ne_eq, Decidable.not_not, Int.not_lt, Int.not_le] at h23
          refine TrL.unwant rfl rfl rfl ?_
          refine TrL.unwant rfl rfl rfl ?_
          refine TrL.want rfl rfl ?_
          refine TrL.pickT rfl rfl rfl ?_
          refine TrL.pickT rfl rfl rfl ?_
          refine TrL.move rfl rfl ?_
          refine TrL.want rfl rfl ?_
          refine TrL.move rfl rfl ?_
          refine TrL.want rfl rfl ?_
          refine TrL.nei rfl rfl rfl ?_
          refine TrL.pickT rfl rfl rfl ?_
          refine TrL.move rfl rfl ?_
          refine TrL.cases (t := 32) rfl (fun h32 => ?_) (fun h32 => ?_)
          · try simp only [beq_iff_eq, beq_eq_false_iff_ne, Bool.not_eq_true, Bool.not_eq_false, decide_eq_true_eq, decide_eq_false_iff_not, Bool.not_eq_true', Bool.not_eq_false', bne_iff_ne, Bool.not_eq_eq_eq_not, Bool.not_true, Bool.not_false, ne_eq, Decidable.not_not, Int.not_lt, Int.not_le] at h32
            refine TrL.want rfl rfl ?_
            refine TrL.move rfl rfl ?_
            refine TrL.want rfl rfl ?_
            refine TrL.nei rfl rfl rfl ?_
            refine TrL.pickT rfl rfl rfl ?_
            refine TrL.nil (At.then_normal ?_)
            refine Tr.cond rfl (fun h35 => ?_) (fun h35 => ?_)
            · try simp only [beq_iff_eq, beq_eq_false_iff_ne, Bool.not_eq_true, Bool.not_eq_false, decide_eq_true_eq, decide_eq_false_iff_not, Bool.not_eq_true', Bool.not_eq_false', bne_iff_ne, Bool.not_eq_eq_eq_not, Bool.not_true, Bool.not_false, ne_eq, Decidable.not_not, Int.not_lt, Int.not_le] at h35
              refine Tr.seq ?_
              refine Tr.region ?_
              refine TrL.assign rfl rfl ?_
              refine TrL.nil (At.then_normal ?_)
              refine Tr.ret (At.block_ret (At.then_ret (At.then_ret (At.block_ret (At.then_ret (At.retP [] (.inl rfl) rfl (Res.tmp rfl Res.nil) (by repeat (first | exact Picks.nil | with_reducible exact Pick.here | with_reducible apply Pick.there | with_reducible apply Pick.app_nil | with_reducible apply Pick.app_cons | apply Picks.cons)) (by 
                  first
                  | (
                      have h1 : i < x.data.toList.length := by omega
                      rw [byteAt_eq x i h1] at *
                      refine kb ?_ hK
                      have hbad : oddR ((x.data.toList[i]).toNat : Int) = true := by generalize ((x.data.toList[i]).toNat : Int) = cc at *; unfold oddR; simp; omega
                      unfold nameOk
                      rw [show x.data.toList.any (fun b => oddR (b.toNat : Int)) = true from List.any_eq_true.2 ⟨_, List.getElem_mem h1, hbad⟩]; simp)
                  | (
                      have hany : x.data.toList.any (fun b => oddR (b.toNat : Int)) = false := by
                        rw [List.take_of_length_le (by omega)] at hall; rw [List.any_eq_false]; intro b hb; rw [hall b hb]; decide
                      refine kb ?_ hK
                      unfold nameOk
                      rw [hany, bytes_ne]
                      first | (rw [decide_eq_true (show 1 ≤ x.size by omega)]; simp; done) | (rw [decide_eq_true (show 1 ≤ x.size by omega)]; simp; omega) | (rw [decide_eq_false (show ¬ 1 ≤ x.size by omega)]; simp)))))))))
            · try simp only [beq_iff_eq, beq_eq_false_iff_ne, Bool.not_eq_true, Bool.not_eq_false, decide_eq_true_eq, decide_eq_false_iff_not, Bool.not_eq_true', Bool.not_eq_false', bne_iff_ne, Bool.not_eq_eq_eq_not, Bool.not_true, Bool.not_false, ne_eq, Decidable.not_not, Int.not_lt, Int.not_le] at h35
              refine Tr.skip (At.block_normal (At.then_normal ?_))
              refine Tr.region ?_
              refine TrL.move rfl rfl ?_
              refine TrL.addI rfl rfl rfl (by omega) ?_
              refine TrL.assign rfl rfl ?_
              refine TrL.nil ?_
              have h1 : i < x.data.toList.length := by omega
              rw [byteAt_eq x i h1] at *
              generalize hcc : ((x.data.toList[i]).toNat : Int) = cc at *
              refine At.again (i + 1) ⟨by omega, fun b hb => ?_⟩ (by omega) (by repeat (first | exact Sub.nil | refine Sub.cons (by rfl) ?_)) (by repeat (first | exact Picks.nil | with_reducible exact Pick.here | with_reducible apply Pick.there | with_reducible apply Pick.app_nil | with_reducible apply Pick.app_cons | apply Picks.cons))
              rw [take_succ_of h1] at hb
              rcases List.mem_append.1 hb with hb | hb
              · exact hall b hb
              · simp only [List.mem_singleton] at hb; subst hb; rw [hcc]; unfold oddR; simp; omega
          · try simp only [beq_iff_eq, beq_eq_false_iff_ne, Bool.not_eq_true, Bool.not_eq_false, decide_eq_true_eq, decide_eq_false_iff_not, Bool.not_eq_true', Bool.not_eq_false', bne_iff_ne, Bool.not_eq_eq_eq_not, Bool.not_true, Bool.not_false, ne_eq, Decidable.not_not, Int.not_lt, Int.not_le] at h32
            refine TrL.unwant rfl rfl rfl ?_
            refine TrL.unwant rfl rfl rfl ?_
            refine TrL.pickF rfl rfl rfl ?_
            refine TrL.nil (At.then_normal ?_)
            refine Tr.condF rfl ?_
            refine Tr.skip (At.block_normal (At.then_normal ?_))
            refine Tr.region ?_
            refine TrL.move rfl rfl ?_
            refine TrL.addI rfl rfl rfl (by omega) ?_
            refine TrL.assign rfl rfl ?_
            refine TrL.nil ?_
            have h1 : i < x.data.toList.length := by omega
            rw [byteAt_eq x i h1] at *
            generalize hcc : ((x.data.toList[i]).toNat : Int) = cc at *
            refine At.again (i + 1) ⟨by omega, fun b hb => ?_⟩ (by omega) (by repeat (first | exact Sub.nil | refine Sub.cons (by rfl) ?_)) (by repeat (first | exact Picks.nil | with_reducible exact Pick.here | with_reducible apply Pick.there | with_reducible apply Pick.app_nil | with_reducible apply Pick.app_cons | apply Picks.cons))
            rw [take_succ_of h1] at hb
            rcases List.mem_append.1 hb with hb | hb
            · exact hall b hb
            · simp only [List.mem_singleton] at hb; subst hb; rw [hcc]; unfold oddR; simp; omega
        · try simp only [beq_iff_eq, beq_eq_false_iff_ne, Bool.not_eq_true, Bool.not_eq_false, decide_eq_true_eq, decide_eq_false_iff_not, Bool.not_eq_true', Bool.not_eq_false', bne_iff_ne, Bool.not_eq_eq_eq_not, Bool.not_true, Bool.not_false, ne_eq, Decidable.not_not, Int.not_lt, Int.not_le] at h23
          refine TrL.want rfl rfl ?_
          refine TrL.move rfl rfl ?_
          refine TrL.want rfl rfl ?_
          refine TrL.gtr rfl rfl rfl ?_
          refine TrL.want rfl rfl ?_
          refine TrL.pickF rfl rfl rfl ?_
          refine TrL.pickT rfl rfl rfl ?_
          refine TrL.move rfl rfl ?_
          refine TrL.cases (t := 28) rfl (fun h28 => ?_) (fun h28 => ?_)
          · try simp only [beq_iff_eq, beq_eq_false_iff_ne, Bool.not_eq_true, Bool.not_eq_false, decide_eq_true_eq, decide_eq_false_iff_not, Bool.not_eq_true', Bool.not_eq_false', bne_iff_ne, Bool.not_eq_eq_eq_not, Bool.not_true, Bool.not_false, ne_eq, Decidable.not_not, Int.not_lt, Int.not_le] at h28
            refine TrL.want rfl rfl ?_
            refine TrL.move rfl rfl ?_
            refine TrL.want rfl rfl ?_
            refine TrL.nei rfl rfl rfl ?_
            refine TrL.pickT rfl rfl rfl ?_
            refine TrL.move rfl rfl ?_
            refine TrL.cases (t := 32) rfl (fun h32 => ?_) (fun h32 => ?_)
            · try simp only [beq_iff_eq, beq_eq_false_iff_ne, Bool.not_eq_true, Bool.not_eq_false, decide_eq_true_eq, decide_eq_false_iff_not, Bool.not_eq_true', Bool.not_eq_false', bne_iff_ne, Bool.not_eq_eq_eq_not, Bool.not_true, Bool.not_false, ne_eq, Decidable.not_not, Int.not_lt, Int.not_le] at h32
              refine TrL.want rfl rfl ?_
              refine TrL.move rfl rfl ?_
              refine TrL.want rfl rfl ?_
              refine TrL.nei rfl rfl rfl ?_
              refine TrL.pickT rfl rfl rfl ?_
              refine TrL.nil (At.then_normal ?_)
              refine Tr.cond rfl (fun h35 => ?_) (fun h35 => ?_)
              · try simp only [beq_iff_eq, beq_eq_false_iff_ne, Bool.not_eq_true, Bool.not_eq_false, decide_eq_true_eq, decide_eq_false_iff_not, Bool.not_eq_true', Bool.not_eq_false', bne_iff_ne, Bool.not_eq_eq_eq_not, Bool.not_true, Bool.not_false, ne_eq, Decidable.not_not, Int.not_lt, Int.not_le] at h35
                refine Tr.seq ?_
                refine Tr.region ?_
                refine TrL.assign rfl rfl ?_
                refine TrL.nil (At.then_normal ?_)
                refine Tr.ret (At.block_ret (At.then_ret (At.then_ret (At.block_ret (At.then_ret (At.retP [] (.inl rfl) rfl (Res.tmp rfl Res.nil) (by repeat (first | exact Picks.nil | with_reducible exact Pick.here | with_reducible apply Pick.there | with_reducible apply Pick.app_nil | with_reducible apply Pick.app_cons | apply Picks.cons)) (by 
                    first
                    | (
                        have h1 : i < x.data.toList.length := by omega
                        rw [byteAt_eq x i h1] at *
                        refine kb ?_ hK
                        have hbad : oddR ((x.data.toList[i]).toNat : Int) = true := by generalize ((x.data.toList[i]).toNat : Int) = cc at *; unfold oddR; simp; omega
                        unfold nameOk
                        rw [show x.data.toList.any (fun b => oddR (b.toNat : Int)) = true from List.any_eq_true.2 ⟨_, List.getElem_mem h1, hbad⟩]; simp)
                    | (
                        have hany : x.data.toList.any (fun b => oddR (b.toNat : Int)) = false := by
                          rw [List.take_of_length_le (by omega)] at hall; rw [List.any_eq_false]; intro b hb; rw [hall b hb]; decide
                        refine kb ?_ hK
                        unfold nameOk
                        rw [hany, bytes_ne]
                        first | (rw [decide_eq_true (show 1 ≤ x.size by omega)]; simp; done) | (rw [decide_eq_true (show 1 ≤ x.size by omega)]; simp; omega) | (rw [decide_eq_false (show ¬ 1 ≤ x.size by omega)]; simp)))))))))
              · try simp only [beq_iff_eq, beq_eq_false_iff_ne, Bool.not_eq_true, Bool.not_eq_false, decide_eq_true_eq, decide_eq_false_iff_not, Bool.not_eq_true', Bool.not_eq_false', bne_iff_ne, Bool.not_eq_eq_eq_not, Bool.not_true, Bool.not_false, ne_eq, Decidable.not_not, Int.not_lt, Int.not_le] at h35
                refine Tr.skip (At.block_normal (At.then_normal ?_))
                refine Tr.region ?_
                refine TrL.move rfl rfl ?_
                refine TrL.addI rfl rfl rfl (by omega) ?_
                refine TrL.assign rfl rfl ?_
                refine TrL.nil ?_
                have h1 : i < x.data.toList.length := by omega
                rw [byteAt_eq x i h1] at *
                generalize hcc : ((x.data.toList[i]).toNat : Int) = cc at *
                refine At.again (i + 1) ⟨by omega, fun b hb => ?_⟩ (by omega) (by repeat (first | exact Sub.nil | refine Sub.cons (by rfl) ?_)) (by repeat (first | exact Picks.nil | with_reducible exact Pick.here | with_reducible apply Pick.there | with_reducible apply Pick.app_nil | with_reducible apply Pick.app_cons | apply Picks.cons))
                rw [take_succ_of h1] at hb
                rcases List.mem_append.1 hb with hb | hb
                · exact hall b hb
                · simp only [List.mem_singleton] at hb; subst hb; rw [hcc]; unfold oddR; simp; omega
            · try simp only [beq_iff_eq, beq_eq_false_iff_ne, Bool.not_eq_true, Bool.not_eq_false, decide_eq_true_eq, decide_eq_false_iff_not, Bool.not_eq_true', Bool.not_eq_false', bne_iff_ne, Bool.not_eq_eq_eq_not, Bool.not_true, Bool.not_false, ne_eq, Decidable.not_not, Int.not_lt, Int.not_le] at h32
              refine TrL.unwant rfl rfl rfl ?_
              refine TrL.unwant rfl rfl rfl ?_
              refine TrL.pickF rfl rfl rfl ?_
              refine TrL.nil (At.then_normal ?_)
              refine Tr.condF rfl ?_
              refine Tr.skip (At.block_normal (At.then_normal ?_))
              refine Tr.region ?_
              refine TrL.move rfl rfl ?_
              refine TrL.addI rfl rfl rfl (by omega) ?_
              refine TrL.assign rfl rfl ?_
              refine TrL.nil ?_
              have h1 : i < x.data.toList.length := by omega
              rw [byteAt_eq x i h1] at *
              generalize hcc : ((x.data.toList[i]).toNat : Int) = cc at *
              refine At.again (i + 1) ⟨by omega, fun b hb => ?_⟩ (by omega) (by repeat (first | exact Sub.nil | refine Sub.cons (by rfl) ?_)) (by repeat (first | exact Picks.nil | with_reducible exact Pick.here | with_reducible apply Pick.there | with_reducible apply Pick.app_nil | with_reducible apply Pick.app_cons | apply Picks.cons))
              rw [take_succ_of h1] at hb
              rcases List.mem_append.1 hb with hb | hb
              · exact hall b hb
              · simp only [List.mem_singleton] at hb; subst hb; rw [hcc]; unfold oddR; simp; omega
          · try simp only [beq_iff_eq, beq_eq_false_iff_ne, Bool.not_eq_true, Bool.not_eq_false, decide_eq_true_eq, decide_eq_false_iff_not, Bool.not_eq_true', Bool.not_eq_false', bne_iff_ne, Bool.not_eq_eq_eq_not, Bool.not_true, Bool.not_false, ne_eq, Decidable.not_not, Int.not_lt, Int.not_le] at h28
            refine TrL.unwant rfl rfl rfl ?_
            refine TrL.unwant rfl rfl rfl ?_
            refine TrL.pickF rfl rfl rfl ?_
            refine TrL.move rfl rfl ?_
            refine TrL.unwant rfl rfl rfl ?_
            refine TrL.unwant rfl rfl rfl ?_
            refine TrL.pickF rfl rfl rfl ?_
            refine TrL.nil (At.then_normal ?_)
            refine Tr.condF rfl ?_
            refine Tr.skip (At.block_normal (At.then_normal ?_))
            refine Tr.region ?_
            refine TrL.move rfl rfl ?_
            refine TrL.addI rfl rfl rfl (by omega) ?_
            refine TrL.assign rfl rfl ?_
            refine TrL.nil ?_
            have h1 : i < x.data.toList.length := by omega
            rw [byteAt_eq x i h1] at *
            generalize hcc : ((x.data.toList[i]).toNat : Int) = cc at *
            refine At.again (i + 1) ⟨by omega, fun b hb => ?_⟩ (by omega) (by repeat (first | exact Sub.nil | refine Sub.cons (by rfl) ?_)) (by repeat (first | exact Picks.nil | with_reducible exact Pick.here | with_reducible apply Pick.there | with_reducible apply Pick.app_nil | with_reducible apply Pick.app_cons | apply Picks.cons))
            rw [take_succ_of h1] at hb
            rcases List.mem_append.1 hb with hb | hb
            · exact hall b hb
            · simp only [List.mem_singleton] at hb; subst hb; rw [hcc]; unfold oddR; simp; omega
      · try simp only [beq_iff_eq, beq_eq_false_iff_ne, Bool.not_eq_true, Bool.not_eq_false, decide_eq_true_eq, decide_eq_false_iff_not, Bool.not_eq_true', Bool.not_eq_false', bne_iff_ne, Bool.not_eq_eq_eq_not, Bool.not_true, Bool.not_false, ne_eq, Decidable.not_not, Int.not_lt, Int.not_le] at h20
        refine TrL.unwant rfl rfl rfl ?_
        refine TrL.unwant rfl rfl rfl ?_
        refine TrL.unwant rfl rfl rfl ?_
        refine TrL.unwantU rfl rfl rfl ?_
        refine TrL.unwantU rfl rfl rfl ?_
        refine TrL.unwant rfl rfl rfl ?_
        refine TrL.pickF rfl rfl rfl ?_
        refine TrL.move rfl rfl ?_
        refine TrL.unwant rfl rfl rfl ?_
        refine TrL.unwant rfl rfl rfl ?_
        refine TrL.pickF rfl rfl rfl ?_
        refine TrL.move rfl rfl ?_
        refine TrL.unwant rfl rfl rfl ?_
        refine TrL.unwant rfl rfl rfl ?_
        refine TrL.pickF rfl rfl rfl ?_
        refine TrL.nil (At.then_normal ?_)
        refine Tr.condF rfl ?_
        refine Tr.skip (At.block_normal (At.then_normal ?_))
        refine Tr.region ?_
        refine TrL.move rfl rfl ?_
        refine TrL.addI rfl rfl rfl (by omega) ?_
        refine TrL.assign rfl rfl ?_
        refine TrL.nil ?_
        have h1 : i < x.data.toList.length := by omega
        rw [byteAt_eq x i h1] at *
        generalize hcc : ((x.data.toList[i]).toNat : Int) = cc at *
        refine At.again (i + 1) ⟨by omega, fun b hb => ?_⟩ (by omega) (by repeat (first | exact Sub.nil | refine Sub.cons (by rfl) ?_)) (by repeat (first | exact Picks.nil | with_reducible exact Pick.here | with_reducible apply Pick.there | with_reducible apply Pick.app_nil | with_reducible apply Pick.app_cons | apply Picks.cons))
        rw [take_succ_of h1] at hb
        rcases List.mem_append.1 hb with hb | hb
        · exact hall b hb
        · simp only [List.mem_singleton] at hb; subst hb; rw [hcc]; unfold oddR; simp; omega
  · try simp only [beq_iff_eq, beq_eq_false_iff_ne, Bool.not_eq_true, Bool.not_eq_false, decide_eq_true_eq, decide_eq_false_iff_not, Bool.not_eq_true', Bool.not_eq_false', bne_iff_ne, Bool.not_eq_eq_eq_not, Bool.not_true, Bool.not_false, ne_eq, Decidable.not_not, Int.not_lt, Int.not_le] at h8
    refine Tr.exit (At.then_exit (At.then_exit (At.block_hit (At.then_normal ?_))))
    refine Tr.seq ?_
    refine Tr.region ?_
    refine TrL.move rfl rfl ?_
    refine TrL.lens rfl rfl st9 ?_
    refine TrL.geq rfl rfl rfl ?_
    refine TrL.move rfl rfl ?_
    refine TrL.cases (t := 39) rfl (fun h39 => ?_) (fun h39 => ?_)
    · try simp only [beq_iff_eq, beq_eq_false_iff_ne, Bool.not_eq_true, Bool.not_eq_false, decide_eq_true_eq, decide_eq_false_iff_not, Bool.not_eq_true', Bool.not_eq_false', bne_iff_ne, Bool.not_eq_eq_eq_not, Bool.not_true, Bool.not_false, ne_eq, Decidable.not_not, Int.not_lt, Int.not_le] at h39
      refine TrL.want rfl rfl ?_
      refine TrL.move rfl rfl ?_
      refine TrL.want rfl rfl ?_
      refine TrL.lens rfl rfl st9 ?_
      refine TrL.want rfl rfl ?_
      refine TrL.leq rfl rfl rfl ?_
      refine TrL.pickT rfl rfl rfl ?_
      refine TrL.assign rfl rfl ?_
      refine TrL.nil (At.then_normal ?_)
      refine Tr.ret (At.retP [] (.inl rfl) rfl (Res.tmp rfl Res.nil) (by repeat (first | exact Picks.nil | with_reducible exact Pick.here | with_reducible apply Pick.there | with_reducible apply Pick.app_nil | with_reducible apply Pick.app_cons | apply Picks.cons)) (by 
          first
          | (
              have h1 : i < x.data.toList.length := by omega
              rw [byteAt_eq x i h1] at *
              refine kb ?_ hK
              have hbad : oddR ((x.data.toList[i]).toNat : Int) = true := by generalize ((x.data.toList[i]).toNat : Int) = cc at *; unfold oddR; simp; omega
              unfold nameOk
              rw [show x.data.toList.any (fun b => oddR (b.toNat : Int)) = true from List.any_eq_true.2 ⟨_, List.getElem_mem h1, hbad⟩]; simp)
          | (
              have hany : x.data.toList.any (fun b => oddR (b.toNat : Int)) = false := by
                rw [List.take_of_length_le (by omega)] at hall; rw [List.any_eq_false]; intro b hb; rw [hall b hb]; decide
              refine kb ?_ hK
              unfold nameOk
              rw [hany, bytes_ne]
              first | (rw [decide_eq_true (show 1 ≤ x.size by omega)]; simp; done) | (rw [decide_eq_true (show 1 ≤ x.size by omega)]; simp; omega) | (rw [decide_eq_false (show ¬ 1 ≤ x.size by omega)]; simp))))
    · try simp only [beq_iff_eq, beq_eq_false_iff_ne, Bool.not_eq_true, Bool.not_eq_false, decide_eq_true_eq, decide_eq_false_iff_not, Bool.not_eq_true', Bool.not_eq_false', bne_iff_ne, Bool.not_eq_eq_eq_not, Bool.not_true, Bool.not_false, ne_eq, Decidable.not_not, Int.not_lt, Int.not_le] at h39
      refine TrL.unwant rfl rfl rfl ?_
      refine TrL.unwant rfl rfl rfl ?_
      refine TrL.unwant rfl rfl rfl ?_
      refine TrL.pickF rfl rfl rfl ?_
      refine TrL.assign rfl rfl ?_
      refine TrL.nil (At.then_normal ?_)
      refine Tr.ret (At.retP [] (.inl rfl) rfl (Res.tmp rfl Res.nil) (by repeat (first | exact Picks.nil | with_reducible exact Pick.here | with_reducible apply Pick.there | with_reducible apply Pick.app_nil | with_reducible apply Pick.app_cons | apply Picks.cons)) (by 
          first
          | (
              have h1 : i < x.data.toList.length := by omega
              rw [byteAt_eq x i h1] at *
              refine kb ?_ hK
              have hbad : oddR ((x.data.toList[i]).toNat : Int) = true := by generalize ((x.data.toList[i]).toNat : Int) = cc at *; unfold oddR; simp; omega
              unfold nameOk
              rw [show x.data.toList.any (fun b => oddR (b.toNat : Int)) = true from List.any_eq_true.2 ⟨_, List.getElem_mem h1, hbad⟩]; simp)
          | (
              have hany : x.data.toList.any (fun b => oddR (b.toNat : Int)) = false := by
                rw [List.take_of_length_le (by omega)] at hall; rw [List.any_eq_false]; intro b hb; rw [hall b hb]; decide
              refine kb ?_ hK
              unfold nameOk
              rw [hany, bytes_ne]
              first | (rw [decide_eq_true (show 1 ≤ x.size by omega)]; simp; done) | (rw [decide_eq_true (show 1 ≤ x.size by omega)]; simp; omega) | (rw [decide_eq_false (show ¬ 1 ≤ x.size by omega)]; simp))))
end Go.Proofs.Ytojfmielpjccdaa

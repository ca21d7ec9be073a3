/-
  The law FsNames, walked.
  No condition but those that each statement names.
-/
import Derived.Test.YtojfmielpjccdaaFsN
namespace Go.Proofs.Ytojfmielpjccdaa
set_option linter.unusedSimpArgs false
set_option linter.unusedVariables false
set_option linter.unusedSectionVars false
open Go.RowKit
variable [Obs]


theorem makeF_dup {fs : List (ByteArray × (List UInt8 × Int))} {name : ByteArray} {v : List UInt8 × Int} (hn : nameOk name = true) (hl : look fs name = some v) : makeF ⟨fs, -1, false⟩ name = (1, ⟨fs, -1, false⟩) := by
  unfold makeF; simp [hn, doingF, hl]
theorem renameF_none {fs : List (ByteArray × (List UInt8 × Int))} {name to : ByteArray} (hn : nameOk name = true) (hn2 : nameOk to = true) (hl : look fs name = none) : renameF ⟨fs, -1, false⟩ name to = (3, ⟨fs, -1, false⟩) := by
  unfold renameF; simp [hn, hn2, doingF, hl]
theorem readF_none {fs : List (ByteArray × (List UInt8 × Int))} {name : ByteArray} (hn : nameOk name = true) (hl : look fs name = none) : readF ⟨fs, -1, false⟩ name = (⟨#[]⟩, 3) := by
  unfold readF; simp [hn, hl]
theorem nameOk_size {x : ByteArray} (h : nameOk x = true) : x.size ≤ 32 := by unfold nameOk at h; simp at h; omega
set_option maxHeartbeats 4000000 in
theorem FsNames_spec {F : Hp} {K : Value → List HProp → Prop} {a b s0 s1 : ByteArray} (ha : a.size ≤ maxLen) (hb : b.size ≤ maxLen) (hK : K (.bool true) []) : CallK Try.prog F 6 #[.string a, .string b, .agg #[.string s0, .string s1]] [] K := by
  refine CallK.enter Try.func6 rfl Try.ntmps6 rfl ?_
  refine Tr.seq ?_
  refine Tr.region ?_
  refine TrL.boxA rfl rfl (fun b5 => ?_)
  refine TrL.assign rfl rfl ?_
  refine TrL.nil (At.then_normal ?_)
  refine Tr.seq ?_
  refine Tr.region ?_
  refine TrL.call rfl rfl rfl ca8 .nil (fun Ft12 hUt12 => New_spec (fun d => ?_))
  refine TrL.assign rfl rfl ?_
  refine TrL.nil (At.then_normal ?_)
  refine Tr.seq ?_
  refine Tr.seq ?_
  refine Tr.region ?_
  refine TrL.move rfl rfl ?_
  refine TrL.eqpSome rfl rfl rfl pp24 ?_
  refine TrL.move rfl rfl ?_
  refine TrL.want rfl rfl ?_
  refine TrL.idxArr (i := 0) rfl rfl rfl ar42 sz9 rfl (by omega) ?_
  refine TrL.want rfl rfl ?_
  refine TrL.load1 rfl rfl sc9 (Sees.cl1 (by repeat (first | with_reducible exact Pick.here | with_reducible apply Pick.there | with_reducible apply Pick.app_nil | with_reducible apply Pick.app_cons)) (by rfl)) ?_
  refine TrL.want rfl rfl ?_
  refine TrL.lens rfl rfl st9 ?_
  refine TrL.want rfl rfl ?_
  refine TrL.gtr rfl rfl rfl ?_
  refine TrL.pickF rfl rfl rfl ?_
  refine TrL.move rfl rfl ?_
  refine TrL.cases (t := 21) rfl (fun h21 => ?_) (fun h21 => ?_)
  · try simp only [beq_iff_eq, beq_eq_false_iff_ne, Bool.not_eq_true, Bool.not_eq_false, decide_eq_true_eq, decide_eq_false_iff_not, Bool.not_eq_true', Bool.not_eq_false', bne_iff_ne, Bool.not_eq_eq_eq_not, Bool.not_true, Bool.not_false, ne_eq, Decidable.not_not, Int.not_lt, Int.not_le] at h21
    refine TrL.unwant rfl rfl rfl ?_
    refine TrL.unwant rfl rfl rfl ?_
    refine TrL.unwant rfl rfl rfl ?_
    refine TrL.unwant rfl rfl rfl ?_
    refine TrL.pickT rfl rfl rfl ?_
    refine TrL.move rfl rfl ?_
    refine TrL.unwant rfl rfl rfl ?_
    refine TrL.unwant rfl rfl rfl ?_
    refine TrL.unwant rfl rfl rfl ?_
    refine TrL.pickT rfl rfl rfl ?_
    refine TrL.move rfl rfl ?_
    refine TrL.unwant rfl rfl rfl ?_
    refine TrL.unwant rfl rfl rfl ?_
    refine TrL.unwant rfl rfl rfl ?_
    refine TrL.pickT rfl rfl rfl ?_
    refine TrL.move rfl rfl ?_
    refine TrL.unwant rfl rfl rfl ?_
    refine TrL.unwant rfl rfl rfl ?_
    refine TrL.unwant rfl rfl rfl ?_
    refine TrL.pickT rfl rfl rfl ?_
    refine TrL.nil (At.then_normal ?_)
    refine Tr.condT rfl ?_
    refine Tr.seq ?_
    refine Tr.region ?_
    refine TrL.move rfl rfl ?_
    refine TrL.nepSome rfl rfl rfl pp24 ?_
    refine TrL.move rfl rfl ?_
    refine TrL.want rfl rfl ?_
    refine TrL.call rfl rfl rfl ca9 .nil (fun Ft45 hUt45 => awake_spec ?_)
    refine TrL.pickT rfl rfl rfl ?_
    refine TrL.assign rfl rfl ?_
    refine TrL.nil (At.then_normal ?_)
    refine Tr.ret (At.then_ret (At.retP [] (.inl rfl) rfl (Res.tmp rfl Res.nil) (by repeat (first | exact Picks.nil | with_reducible exact Pick.here | with_reducible apply Pick.there | with_reducible apply Pick.app_nil | with_reducible apply Pick.app_cons | apply Picks.cons)) (by exact hK)))
  · try simp only [beq_iff_eq, beq_eq_false_iff_ne, Bool.not_eq_true, Bool.not_eq_false, decide_eq_true_eq, decide_eq_false_iff_not, Bool.not_eq_true', Bool.not_eq_false', bne_iff_ne, Bool.not_eq_eq_eq_not, Bool.not_true, Bool.not_false, ne_eq, Decidable.not_not, Int.not_lt, Int.not_le] at h21
    refine TrL.want rfl rfl ?_
    refine TrL.idxArr (i := 1) rfl rfl rfl ar42 sz9 rfl (by omega) ?_
    refine TrL.want rfl rfl ?_
    refine TrL.load1 rfl rfl sc9 (Sees.cl1 (by repeat (first | with_reducible exact Pick.here | with_reducible apply Pick.there | with_reducible apply Pick.app_nil | with_reducible apply Pick.app_cons)) (by rfl)) ?_
    refine TrL.want rfl rfl ?_
    refine TrL.lens rfl rfl st9 ?_
    refine TrL.want rfl rfl ?_
    refine TrL.gtr rfl rfl rfl ?_
    refine TrL.pickF rfl rfl rfl ?_
    refine TrL.move rfl rfl ?_
    refine TrL.cases (t := 27) rfl (fun h27 => ?_) (fun h27 => ?_)
    · try simp only [beq_iff_eq, beq_eq_false_iff_ne, Bool.not_eq_true, Bool.not_eq_false, decide_eq_true_eq, decide_eq_false_iff_not, Bool.not_eq_true', Bool.not_eq_false', bne_iff_ne, Bool.not_eq_eq_eq_not, Bool.not_true, Bool.not_false, ne_eq, Decidable.not_not, Int.not_lt, Int.not_le] at h27
      refine TrL.unwant rfl rfl rfl ?_
      refine TrL.unwant rfl rfl rfl ?_
      refine TrL.unwant rfl rfl rfl ?_
      refine TrL.pickT rfl rfl rfl ?_
      refine TrL.move rfl rfl ?_
      refine TrL.unwant rfl rfl rfl ?_
      refine TrL.unwant rfl rfl rfl ?_
      refine TrL.unwant rfl rfl rfl ?_
      refine TrL.pickT rfl rfl rfl ?_
      refine TrL.move rfl rfl ?_
      refine TrL.unwant rfl rfl rfl ?_
      refine TrL.unwant rfl rfl rfl ?_
      refine TrL.unwant rfl rfl rfl ?_
      refine TrL.pickT rfl rfl rfl ?_
      refine TrL.nil (At.then_normal ?_)
      refine Tr.condT rfl ?_
      refine Tr.seq ?_
      refine Tr.region ?_
      refine TrL.move rfl rfl ?_
      refine TrL.nepSome rfl rfl rfl pp24 ?_
      refine TrL.move rfl rfl ?_
      refine TrL.want rfl rfl ?_
      refine TrL.call rfl rfl rfl ca9 .nil (fun Ft45 hUt45 => awake_spec ?_)
      refine TrL.pickT rfl rfl rfl ?_
      refine TrL.assign rfl rfl ?_
      refine TrL.nil (At.then_normal ?_)
      refine Tr.ret (At.then_ret (At.retP [] (.inl rfl) rfl (Res.tmp rfl Res.nil) (by repeat (first | exact Picks.nil | with_reducible exact Pick.here | with_reducible apply Pick.there | with_reducible apply Pick.app_nil | with_reducible apply Pick.app_cons | apply Picks.cons)) (by exact hK)))
    · try simp only [beq_iff_eq, beq_eq_false_iff_ne, Bool.not_eq_true, Bool.not_eq_false, decide_eq_true_eq, decide_eq_false_iff_not, Bool.not_eq_true', Bool.not_eq_false', bne_iff_ne, Bool.not_eq_eq_eq_not, Bool.not_true, Bool.not_false, ne_eq, Decidable.not_not, Int.not_lt, Int.not_le] at h27
      refine TrL.want rfl rfl ?_
      refine TrL.move rfl rfl ?_
      refine TrL.want rfl rfl ?_
      refine TrL.call rfl rfl rfl ca19 .nil (fun Ft29 hUt29 => Name_spec ha ?_)
      refine TrL.want rfl rfl ?_
      refine TrL.not rfl rfl ?_
      refine TrL.pickF rfl rfl rfl ?_
      refine TrL.move rfl rfl ?_
      refine TrL.cases (t := 32) rfl (fun h32 => ?_) (fun h32 => ?_)
      · try simp only [beq_iff_eq, beq_eq_false_iff_ne, Bool.not_eq_true, Bool.not_eq_false, decide_eq_true_eq, decide_eq_false_iff_not, Bool.not_eq_true', Bool.not_eq_false', bne_iff_ne, Bool.not_eq_eq_eq_not, Bool.not_true, Bool.not_false, ne_eq, Decidable.not_not, Int.not_lt, Int.not_le] at h32
        refine TrL.unwant rfl rfl rfl ?_
        refine TrL.unwant rfl rfl rfl ?_
        refine TrL.unwant rfl rfl rfl ?_
        refine TrL.pickT rfl rfl rfl ?_
        refine TrL.move rfl rfl ?_
        refine TrL.unwant rfl rfl rfl ?_
        refine TrL.unwant rfl rfl rfl ?_
        refine TrL.unwant rfl rfl rfl ?_
        refine TrL.pickT rfl rfl rfl ?_
        refine TrL.nil (At.then_normal ?_)
        refine Tr.condT rfl ?_
        refine Tr.seq ?_
        refine Tr.region ?_
        refine TrL.move rfl rfl ?_
        refine TrL.nepSome rfl rfl rfl pp24 ?_
        refine TrL.move rfl rfl ?_
        refine TrL.want rfl rfl ?_
        refine TrL.call rfl rfl rfl ca9 .nil (fun Ft45 hUt45 => awake_spec ?_)
        refine TrL.pickT rfl rfl rfl ?_
        refine TrL.assign rfl rfl ?_
        refine TrL.nil (At.then_normal ?_)
        refine Tr.ret (At.then_ret (At.retP [] (.inl rfl) rfl (Res.tmp rfl Res.nil) (by repeat (first | exact Picks.nil | with_reducible exact Pick.here | with_reducible apply Pick.there | with_reducible apply Pick.app_nil | with_reducible apply Pick.app_cons | apply Picks.cons)) (by exact hK)))
      · try simp only [beq_iff_eq, beq_eq_false_iff_ne, Bool.not_eq_true, Bool.not_eq_false, decide_eq_true_eq, decide_eq_false_iff_not, Bool.not_eq_true', Bool.not_eq_false', bne_iff_ne, Bool.not_eq_eq_eq_not, Bool.not_true, Bool.not_false, ne_eq, Decidable.not_not, Int.not_lt, Int.not_le] at h32
        refine TrL.want rfl rfl ?_
        refine TrL.move rfl rfl ?_
        refine TrL.want rfl rfl ?_
        refine TrL.call rfl rfl rfl ca19 .nil (fun Ft34 hUt34 => Name_spec hb ?_)
        refine TrL.want rfl rfl ?_
        refine TrL.not rfl rfl ?_
        refine TrL.pickF rfl rfl rfl ?_
        refine TrL.move rfl rfl ?_
        refine TrL.cases (t := 37) rfl (fun h37 => ?_) (fun h37 => ?_)
        · try simp only [beq_iff_eq, beq_eq_false_iff_ne, Bool.not_eq_true, Bool.not_eq_false, decide_eq_true_eq, decide_eq_false_iff_not, Bool.not_eq_true', Bool.not_eq_false', bne_iff_ne, Bool.not_eq_eq_eq_not, Bool.not_true, Bool.not_false, ne_eq, Decidable.not_not, Int.not_lt, Int.not_le] at h37
          refine TrL.unwant rfl rfl rfl ?_
          refine TrL.unwant rfl rfl rfl ?_
          refine TrL.unwant rfl rfl rfl ?_
          refine TrL.pickT rfl rfl rfl ?_
          refine TrL.nil (At.then_normal ?_)
          refine Tr.condT rfl ?_
          refine Tr.seq ?_
          refine Tr.region ?_
          refine TrL.move rfl rfl ?_
          refine TrL.nepSome rfl rfl rfl pp24 ?_
          refine TrL.move rfl rfl ?_
          refine TrL.want rfl rfl ?_
          refine TrL.call rfl rfl rfl ca9 .nil (fun Ft45 hUt45 => awake_spec ?_)
          refine TrL.pickT rfl rfl rfl ?_
          refine TrL.assign rfl rfl ?_
          refine TrL.nil (At.then_normal ?_)
          refine Tr.ret (At.then_ret (At.retP [] (.inl rfl) rfl (Res.tmp rfl Res.nil) (by repeat (first | exact Picks.nil | with_reducible exact Pick.here | with_reducible apply Pick.there | with_reducible apply Pick.app_nil | with_reducible apply Pick.app_cons | apply Picks.cons)) (by exact hK)))
        · try simp only [beq_iff_eq, beq_eq_false_iff_ne, Bool.not_eq_true, Bool.not_eq_false, decide_eq_true_eq, decide_eq_false_iff_not, Bool.not_eq_true', Bool.not_eq_false', bne_iff_ne, Bool.not_eq_eq_eq_not, Bool.not_true, Bool.not_false, ne_eq, Decidable.not_not, Int.not_lt, Int.not_le] at h37
          refine TrL.want rfl rfl ?_
          refine TrL.move rfl rfl ?_
          refine TrL.want rfl rfl ?_
          refine TrL.move rfl rfl ?_
          refine TrL.want rfl rfl ?_
          refine TrL.eqs rfl rfl rfl ?_
          refine TrL.pickF rfl rfl rfl ?_
          refine TrL.nil (At.then_normal ?_)
          refine Tr.cond rfl (fun h41 => ?_) (fun h41 => ?_)
          · try simp only [beq_iff_eq, beq_eq_false_iff_ne, Bool.not_eq_true, Bool.not_eq_false, decide_eq_true_eq, decide_eq_false_iff_not, Bool.not_eq_true', Bool.not_eq_false', bne_iff_ne, Bool.not_eq_eq_eq_not, Bool.not_true, Bool.not_false, ne_eq, Decidable.not_not, Int.not_lt, Int.not_le] at h41
            refine Tr.seq ?_
            refine Tr.region ?_
            refine TrL.move rfl rfl ?_
            refine TrL.nepSome rfl rfl rfl pp24 ?_
            refine TrL.move rfl rfl ?_
            refine TrL.want rfl rfl ?_
            refine TrL.call rfl rfl rfl ca9 .nil (fun Ft45 hUt45 => awake_spec ?_)
            refine TrL.pickT rfl rfl rfl ?_
            refine TrL.assign rfl rfl ?_
            refine TrL.nil (At.then_normal ?_)
            refine Tr.ret (At.then_ret (At.retP [] (.inl rfl) rfl (Res.tmp rfl Res.nil) (by repeat (first | exact Picks.nil | with_reducible exact Pick.here | with_reducible apply Pick.there | with_reducible apply Pick.app_nil | with_reducible apply Pick.app_cons | apply Picks.cons)) (by exact hK)))
          · try simp only [beq_iff_eq, beq_eq_false_iff_ne, Bool.not_eq_true, Bool.not_eq_false, decide_eq_true_eq, decide_eq_false_iff_not, Bool.not_eq_true', Bool.not_eq_false', bne_iff_ne, Bool.not_eq_eq_eq_not, Bool.not_true, Bool.not_false, ne_eq, Decidable.not_not, Int.not_lt, Int.not_le] at h41
            refine Tr.skip (At.then_normal ?_)
            refine Tr.seq ?_
            refine Tr.seq ?_
            have ho1 : nameOk a = true := by simpa using h32
            have ho2 : nameOk b = true := by simpa using h37
            have hab : ¬ a = b := by simpa using h41
            have hba : ¬ b = a := fun e => hab e.symm
            have hs0 : s0.data.toList.length = s0.size := by simp
            have hgood : DS.good ⟨[(b, (s0.data.toList, (List.length (s0.data.toList) : Int)))], -1, false⟩ := ⟨by simp, by simp only [List.mem_singleton]; rintro x rfl; exact ⟨Nat.le_trans (nameOk_size ho2) (by decide), by show s0.data.toList.length ≤ _; omega, by show (0 : Int) ≤ (s0.data.toList.length : Int); omega, by show (s0.data.toList.length : Int) ≤ s0.data.toList.length; omega⟩⟩
            refine Tr.region ?_
            refine TrL.move rfl rfl ?_
            refine TrL.move rfl rfl ?_
            refine TrL.call rfl rfl rfl ca10 (by repeat (first | exact Picks.nil | with_reducible exact Pick.here | with_reducible apply Pick.there | with_reducible apply Pick.app_nil | with_reducible apply Pick.app_cons | apply Picks.cons)) (fun Ft49 hUt49 => Make_at (e := 0) (S' := ⟨[(a, ([], 0))], -1, false⟩) okm (by rw [makeF_ok ho1 (by simp [look, posK]) (by simp)]; simp [look, posK, putK, delK, hab, hba]) ?_)
            refine TrL.nei rfl rfl rfl ?_
            refine TrL.knownB (t := 50) (c := false) rfl (by simp) ?_
            refine TrL.move rfl rfl ?_
            refine TrL.want rfl rfl ?_
            refine TrL.move rfl rfl ?_
            refine TrL.want rfl rfl ?_
            refine TrL.move rfl rfl ?_
            refine TrL.want rfl rfl ?_
            refine TrL.call rfl rfl rfl ca10 (by repeat (first | exact Picks.nil | with_reducible exact Pick.here | with_reducible apply Pick.there | with_reducible apply Pick.app_nil | with_reducible apply Pick.app_cons | apply Picks.cons)) (fun Ft54 hUt54 => Make_at (e := 0) (S' := ⟨[(a, ([], 0)), (b, ([], 0))], -1, false⟩) okm (by rw [makeF_ok ho2 (by simp [look, posK, putK, delK, hab, hba]) (by simp)]; simp [look, posK, putK, delK, hab, hba]) ?_)
            refine TrL.want rfl rfl ?_
            refine TrL.nei rfl rfl rfl ?_
            refine TrL.knownB (t := 55) (c := false) rfl (by simp) ?_
            refine TrL.pickF rfl rfl rfl ?_
            refine TrL.move rfl rfl ?_
            refine TrL.want rfl rfl ?_
            refine TrL.move rfl rfl ?_
            refine TrL.want rfl rfl ?_
            refine TrL.move rfl rfl ?_
            refine TrL.want rfl rfl ?_
            refine TrL.call rfl rfl rfl ca10 (by repeat (first | exact Picks.nil | with_reducible exact Pick.here | with_reducible apply Pick.there | with_reducible apply Pick.app_nil | with_reducible apply Pick.app_cons | apply Picks.cons)) (fun Ft60 hUt60 => Make_at (e := 1) (S' := ⟨[(a, ([], 0)), (b, ([], 0))], -1, false⟩) okm (by exact makeF_dup (v := ([], 0)) ho1 (by simp [look, posK, putK, delK, hab, hba])) ?_)
            refine TrL.want rfl rfl ?_
            refine TrL.nei rfl rfl rfl ?_
            refine TrL.knownB (t := 61) (c := false) rfl (by simp) ?_
            refine TrL.pickF rfl rfl rfl ?_
            refine TrL.move rfl rfl ?_
            refine TrL.want rfl rfl ?_
            refine TrL.move rfl rfl ?_
            refine TrL.want rfl rfl ?_
            refine TrL.move rfl rfl ?_
            refine TrL.want rfl rfl ?_
            refine TrL.idxArr (i := 0) rfl rfl rfl ar42 sz9 rfl (by omega) ?_
            refine TrL.want rfl rfl ?_
            refine TrL.load1 rfl rfl sc9 (Sees.cl1 (by repeat (first | with_reducible exact Pick.here | with_reducible apply Pick.there | with_reducible apply Pick.app_nil | with_reducible apply Pick.app_cons)) (by rfl)) ?_
            refine TrL.want rfl rfl ?_
            refine TrL.call rfl rfl rfl ca11 (by repeat (first | exact Picks.nil | with_reducible exact Pick.here | with_reducible apply Pick.there | with_reducible apply Pick.app_nil | with_reducible apply Pick.app_cons | apply Picks.cons)) (fun Ft68 hUt68 => Append_at (e := 0) (S' := ⟨[(a, (s0.data.toList, 0)), (b, ([], 0))], -1, false⟩) okm (by omega) (by rw [appendF_ok (b := ([], 0)) ho1 (by simp [look, posK, putK, delK, hab, hba]) (by simp only [List.length_nil]; omega)]; simp [look, posK, putK, delK, hab, hba]) ?_)
            refine TrL.want rfl rfl ?_
            refine TrL.nei rfl rfl rfl ?_
            refine TrL.knownB (t := 69) (c := false) rfl (by simp) ?_
            refine TrL.pickF rfl rfl rfl ?_
            refine TrL.move rfl rfl ?_
            refine TrL.want rfl rfl ?_
            refine TrL.move rfl rfl ?_
            refine TrL.want rfl rfl ?_
            refine TrL.move rfl rfl ?_
            refine TrL.want rfl rfl ?_
            refine TrL.idxArr (i := 1) rfl rfl rfl ar42 sz9 rfl (by omega) ?_
            refine TrL.want rfl rfl ?_
            refine TrL.load1 rfl rfl sc9 (Sees.cl1 (by repeat (first | with_reducible exact Pick.here | with_reducible apply Pick.there | with_reducible apply Pick.app_nil | with_reducible apply Pick.app_cons)) (by rfl)) ?_
            refine TrL.want rfl rfl ?_
            refine TrL.call rfl rfl rfl ca11 (by repeat (first | exact Picks.nil | with_reducible exact Pick.here | with_reducible apply Pick.there | with_reducible apply Pick.app_nil | with_reducible apply Pick.app_cons | apply Picks.cons)) (fun Ft76 hUt76 => Append_at (e := 0) (S' := ⟨[(a, (s0.data.toList, 0)), (b, (s1.data.toList, 0))], -1, false⟩) okm (by omega) (by rw [appendF_ok (b := ([], 0)) ho2 (by simp [look, posK, putK, delK, hab, hba]) (by simp only [List.length_nil]; omega)]; simp [look, posK, putK, delK, hab, hba]) ?_)
            refine TrL.want rfl rfl ?_
            refine TrL.nei rfl rfl rfl ?_
            refine TrL.knownB (t := 77) (c := false) rfl (by simp) ?_
            refine TrL.pickF rfl rfl rfl ?_
            refine TrL.move rfl rfl ?_
            refine TrL.want rfl rfl ?_
            refine TrL.move rfl rfl ?_
            refine TrL.want rfl rfl ?_
            refine TrL.move rfl rfl ?_
            refine TrL.want rfl rfl ?_
            refine TrL.call rfl rfl rfl ca12 (by repeat (first | exact Picks.nil | with_reducible exact Pick.here | with_reducible apply Pick.there | with_reducible apply Pick.app_nil | with_reducible apply Pick.app_cons | apply Picks.cons)) (fun Ft82 hUt82 => Sync_at (e := 0) (S' := ⟨[(a, (s0.data.toList, (List.length (s0.data.toList) : Int))), (b, (s1.data.toList, 0))], -1, false⟩) okm (by rw [syncF_ok (b := (s0.data.toList, 0)) ho1 (by simp [look, posK, putK, delK, hab, hba])]; simp [look, posK, putK, delK, hab, hba]) ?_)
            refine TrL.want rfl rfl ?_
            refine TrL.nei rfl rfl rfl ?_
            refine TrL.knownB (t := 83) (c := false) rfl (by simp) ?_
            refine TrL.pickF rfl rfl rfl ?_
            refine TrL.nil (At.then_normal ?_)
            refine Tr.condF rfl ?_
            refine Tr.skip (At.then_normal ?_)
            refine Tr.seq ?_
            refine Tr.seq ?_
            refine Tr.region ?_
            refine TrL.move rfl rfl ?_
            refine TrL.move rfl rfl ?_
            refine TrL.move rfl rfl ?_
            refine TrL.call rfl rfl rfl ca20 (by repeat (first | exact Picks.nil | with_reducible exact Pick.here | with_reducible apply Pick.there | with_reducible apply Pick.app_nil | with_reducible apply Pick.app_cons | apply Picks.cons)) (fun Ft88 hUt88 => Rename_at (e := 0) (S' := ⟨[(b, (s0.data.toList, (List.length (s0.data.toList) : Int)))], -1, false⟩) okm (by rw [renameF_ok (b := (s0.data.toList, (List.length (s0.data.toList) : Int))) ho1 ho2 (by simp [look, posK, putK, delK, hab, hba])]; simp [look, posK, putK, delK, hab, hba]) ?_)
            refine TrL.nei rfl rfl rfl ?_
            refine TrL.knownB (t := 89) (c := false) rfl (by simp) ?_
            refine TrL.move rfl rfl ?_
            refine TrL.want rfl rfl ?_
            refine TrL.move rfl rfl ?_
            refine TrL.want rfl rfl ?_
            refine TrL.move rfl rfl ?_
            refine TrL.want rfl rfl ?_
            refine TrL.move rfl rfl ?_
            refine TrL.want rfl rfl ?_
            refine TrL.call rfl rfl rfl ca20 (by repeat (first | exact Picks.nil | with_reducible exact Pick.here | with_reducible apply Pick.there | with_reducible apply Pick.app_nil | with_reducible apply Pick.app_cons | apply Picks.cons)) (fun Ft94 hUt94 => Rename_at (e := 3) (S' := ⟨[(b, (s0.data.toList, (List.length (s0.data.toList) : Int)))], -1, false⟩) okm (by exact renameF_none ho1 ho2 (by simp [look, posK, putK, delK, hab, hba])) ?_)
            refine TrL.want rfl rfl ?_
            refine TrL.nei rfl rfl rfl ?_
            refine TrL.knownB (t := 95) (c := false) rfl (by simp) ?_
            refine TrL.pickF rfl rfl rfl ?_
            refine TrL.move rfl rfl ?_
            refine TrL.want rfl rfl ?_
            refine TrL.move rfl rfl ?_
            refine TrL.want rfl rfl ?_
            refine TrL.call rfl rfl rfl ca13 (by repeat (first | exact Picks.nil | with_reducible exact Pick.here | with_reducible apply Pick.there | with_reducible apply Pick.app_nil | with_reducible apply Pick.app_cons | apply Picks.cons)) (fun Ft99 hUt99 => Crash_at (keep := []) (l := [b]) hgood (.inl rfl) (by simp) (by simp) (by simp [Rising]) ?_)
            have hcr : crashF [] [b] 0 [(b, (s0.data.toList, (List.length (s0.data.toList) : Int)))] = [(b, (s0.data.toList, (List.length (s0.data.toList) : Int)))] := by
              simp only [crashF, look, posK, if_true, Option.map_some, putK]
              rw [cutF_nil (by omega) (by omega), Int.toNat_natCast, List.take_length]; rfl
            rw [hcr]
            refine TrL.want rfl rfl ?_
            refine TrL.nei rfl rfl rfl ?_
            refine TrL.knownB (t := 100) (c := false) rfl (by simp) ?_
            refine TrL.pickF rfl rfl rfl ?_
            refine TrL.nil (At.then_normal ?_)
            refine Tr.condF rfl ?_
            refine Tr.skip (At.then_normal ?_)
            refine Tr.seq ?_
            refine Tr.region ?_
            refine TrL.move rfl rfl ?_
            refine TrL.move rfl rfl ?_
            refine TrL.call rfl rfl rfl ca14 (by repeat (first | exact Picks.nil | with_reducible exact Pick.here | with_reducible apply Pick.there | with_reducible apply Pick.app_nil | with_reducible apply Pick.app_cons | apply Picks.cons)) (fun Ft105 hUt105 => Read_at (e := 0) (v := s0) okm (by rw [readF_ok (b := (s0.data.toList, (List.length (s0.data.toList) : Int))) ho2 (by simp [look, posK, putK, delK, hab, hba])]; simp only [strOf_data]) ?_)
            refine TrL.move rfl rfl ?_
            refine TrL.extract rfl rfl rfl ?_
            refine TrL.extract rfl rfl rfl ?_
            refine TrL.assign rfl rfl ?_
            refine TrL.assign rfl rfl ?_
            refine TrL.nil (At.then_normal ?_)
            refine Tr.seq ?_
            refine Tr.region ?_
            refine TrL.move rfl rfl ?_
            refine TrL.move rfl rfl ?_
            refine TrL.call rfl rfl rfl ca14 (by repeat (first | exact Picks.nil | with_reducible exact Pick.here | with_reducible apply Pick.there | with_reducible apply Pick.app_nil | with_reducible apply Pick.app_cons | apply Picks.cons)) (fun Ft111 hUt111 => Read_at (e := 3) (v := ⟨#[]⟩) okm (readF_none ho1 (by simp [look, posK, putK, delK, hab, hba])) ?_)
            refine TrL.move rfl rfl ?_
            refine TrL.extract rfl rfl rfl ?_
            refine TrL.extract rfl rfl rfl ?_
            refine TrL.assign rfl rfl ?_
            refine TrL.assign rfl rfl ?_
            refine TrL.nil (At.then_normal ?_)
            refine Tr.seq ?_
            refine Tr.region ?_
            refine TrL.move rfl rfl ?_
            refine TrL.idxArr (i := 0) rfl rfl rfl ar42 sz9 rfl (by omega) ?_
            refine TrL.load1 rfl rfl sc9 (Sees.cl1 (by repeat (first | with_reducible exact Pick.here | with_reducible apply Pick.there | with_reducible apply Pick.app_nil | with_reducible apply Pick.app_cons)) (by rfl)) ?_
            refine TrL.eqs rfl rfl rfl ?_
            refine TrL.knownB (t := 117) (c := true) rfl (by simp) ?_
            refine TrL.move rfl rfl ?_
            refine TrL.want rfl rfl ?_
            refine TrL.move rfl rfl ?_
            refine TrL.want rfl rfl ?_
            refine TrL.eqi rfl rfl rfl ?_
            refine TrL.knownB (t := 120) (c := true) rfl (by simp) ?_
            refine TrL.pickT rfl rfl rfl ?_
            refine TrL.move rfl rfl ?_
            refine TrL.want rfl rfl ?_
            refine TrL.move rfl rfl ?_
            refine TrL.want rfl rfl ?_
            refine TrL.eqi rfl rfl rfl ?_
            refine TrL.knownB (t := 124) (c := true) rfl (by simp) ?_
            refine TrL.pickT rfl rfl rfl ?_
            refine TrL.move rfl rfl ?_
            refine TrL.want rfl rfl ?_
            refine TrL.move rfl rfl ?_
            refine TrL.want rfl rfl ?_
            refine TrL.call rfl rfl rfl ca18 (by repeat (first | exact Picks.nil | with_reducible exact Pick.here | with_reducible apply Pick.there | with_reducible apply Pick.app_nil | with_reducible apply Pick.app_cons | apply Picks.cons)) (fun Ft128 hUt128 => Names_spec (l := [b]) hgood (by simp) (by simp [Rising]) (fun pt128 capt128 => ?_))
            refine TrL.want rfl rfl ?_
            refine TrL.move rfl rfl ?_
            refine TrL.want rfl rfl ?_
            refine TrL.buildSlF rfl rfl rfl se22 sz9 zc9 rfl rfl rfl (fun b130 => ?_)
            refine TrL.want rfl rfl ?_
            refine TrL.call rfl rfl rfl ca21 .nil (fun Ft131 hUt131 => Same_spec (l := [b]) (r := [b]) (Own.up hUt131 (by repeat (first | with_reducible exact Pick.here | with_reducible apply Pick.there | with_reducible apply Pick.app_nil | with_reducible apply Pick.app_cons)) (by decide) (fun _ => rfl)) (cl_up hUt131 (by repeat (first | with_reducible exact Pick.here | with_reducible apply Pick.there | with_reducible apply Pick.app_nil | with_reducible apply Pick.app_cons)) (by rfl) (fun _ _ => rfl)) (by simp) ?_)
            refine TrL.knownB (t := 131) (c := true) rfl (by simp) ?_
            refine TrL.pickT rfl rfl rfl ?_
            refine TrL.move rfl rfl ?_
            refine TrL.want rfl rfl ?_
            refine TrL.move rfl rfl ?_
            refine TrL.want rfl rfl ?_
            refine TrL.move rfl rfl ?_
            refine TrL.want rfl rfl ?_
            refine TrL.call rfl rfl rfl ca22 (by repeat (first | exact Picks.nil | with_reducible exact Pick.here | with_reducible apply Pick.there | with_reducible apply Pick.app_nil | with_reducible apply Pick.app_cons | apply Picks.cons)) (fun Ft136 hUt136 => Remove_at (e := 0) (S' := ⟨[], -1, false⟩) okm (by rw [removeF_ok (b := (s0.data.toList, (List.length (s0.data.toList) : Int))) ho2 (by simp [look, posK, putK, delK, hab, hba])]; simp [look, posK, putK, delK, hab, hba]) ?_)
            refine TrL.want rfl rfl ?_
            refine TrL.eqi rfl rfl rfl ?_
            refine TrL.knownB (t := 137) (c := true) rfl (by simp) ?_
            refine TrL.pickT rfl rfl rfl ?_
            refine TrL.move rfl rfl ?_
            refine TrL.want rfl rfl ?_
            refine TrL.move rfl rfl ?_
            refine TrL.want rfl rfl ?_
            refine TrL.call rfl rfl rfl ca18 (by repeat (first | exact Picks.nil | with_reducible exact Pick.here | with_reducible apply Pick.there | with_reducible apply Pick.app_nil | with_reducible apply Pick.app_cons | apply Picks.cons)) (fun Ft141 hUt141 => Names_spec (l := []) ⟨by simp, by simp⟩ (by simp) (by simp [Rising]) (fun pt141 capt141 => ?_))
            refine TrL.want rfl rfl ?_
            refine TrL.lenl rfl rfl se22 ?_
            refine TrL.want rfl rfl ?_
            refine TrL.eqi rfl rfl rfl ?_
            refine TrL.knownB (t := 143) (c := true) rfl (by simp) ?_
            refine TrL.pickT rfl rfl rfl ?_
            refine TrL.move rfl rfl ?_
            refine TrL.want rfl rfl ?_
            refine TrL.call rfl rfl rfl ca9 .nil (fun Ft146 hUt146 => awake_spec ?_)
            refine TrL.pickT rfl rfl rfl ?_
            refine TrL.assign rfl rfl ?_
            refine TrL.nil (At.then_normal ?_)
            refine Tr.ret (At.retP [] (.inl rfl) rfl (Res.tmp rfl Res.nil) (by repeat (first | exact Picks.nil | with_reducible exact Pick.here | with_reducible apply Pick.there | with_reducible apply Pick.app_nil | with_reducible apply Pick.app_cons | apply Picks.cons)) (by exact hK))
end Go.Proofs.Ytojfmielpjccdaa

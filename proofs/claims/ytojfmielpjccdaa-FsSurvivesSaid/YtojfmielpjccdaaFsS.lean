/-
  The law FsSurvives, walked.
  No condition but those that each statement names.
-/
import Derived.Test.YtojfmielpjccdaaFsL
namespace Go.Proofs.Ytojfmielpjccdaa
set_option linter.unusedSimpArgs false
set_option linter.unusedVariables false
set_option linter.unusedSectionVars false
open Go.RowKit
variable [Obs]


theorem cut_ex (keep : List Int) (k : Nat) {A : List UInt8} {n : Int} (h0 : 0 ≤ n) (h1 : n ≤ A.length) : ∃ m : Nat, n ≤ m ∧ m ≤ A.length ∧ cutF keep k (A, n) = (A.take m, (m : Int)) := by
  have h2 := leftN_le (keep := keep) (k := k) h0 h1
  have h3 : n ≤ leftN keep k A.length n := by unfold leftN; split <;> omega
  exact ⟨(leftN keep k A.length n).toNat, by omega, by omega, rfl⟩
theorem strOf_size (l : List UInt8) : (strOf l).size = l.length := by simp [strOf, ByteArray.size]
theorem strOf_take (x : ByteArray) (m : Nat) : strOf (x.data.toList.take m) = x.extract 0 m := by
  apply ByteArray.ext
  apply Array.ext'
  simp [strOf]


set_option maxHeartbeats 8000000 in
set_option maxRecDepth 100000 in
theorem FsSurvives_spec {F : Hp} {K : Value → List HProp → Prop} {p pk : Option Addr} {cap kcap : Nat} {texts : List ByteArray} {keep : List Int} {syncs : Int} (hl : SlIn F encS 1 p texts) (hkeep : SlIn F encI 1 pk keep) (hK : K (.bool true) []) :
    CallK Try.prog F 3 #[.slice p texts.length cap, .int .i64 syncs, .slice pk keep.length kcap] [] K := by
  refine CallK.enter Try.func3 rfl Try.ntmps3 rfl ?_
  refine Tr.seq ?_
  refine Tr.region ?_
  refine TrL.assign rfl rfl ?_
  refine TrL.nil (At.then_normal ?_)
  refine Tr.seq ?_
  refine Tr.region ?_
  refine TrL.call rfl rfl rfl ca8 .nil (fun Ft19 hUt19 => New_spec (fun d => ?_))
  refine TrL.assign rfl rfl ?_
  refine TrL.nil (At.then_normal ?_)
  refine Tr.seq ?_
  refine Tr.seq ?_
  refine Tr.region ?_
  refine TrL.move rfl rfl ?_
  refine TrL.eqpSome rfl rfl rfl pp24 ?_
  refine TrL.move rfl rfl ?_
  refine TrL.want rfl rfl ?_
  refine TrL.move rfl rfl ?_
  refine TrL.want rfl rfl ?_
  refine TrL.lenl rfl rfl se22 ?_
  refine TrL.want rfl rfl ?_
  refine TrL.gtr rfl rfl rfl ?_
  refine TrL.pickF rfl rfl rfl ?_
  refine TrL.move rfl rfl ?_
  refine TrL.cases (t := 27) rfl (fun h27 => ?_) (fun h27 => ?_)
  · try simp only [beq_iff_eq, beq_eq_false_iff_ne, Bool.not_eq_true, Bool.not_eq_false, decide_eq_true_eq, decide_eq_false_iff_not, Bool.not_eq_true', Bool.not_eq_false', bne_iff_ne, Bool.not_eq_eq_eq_not, Bool.not_true, Bool.not_false, ne_eq, Decidable.not_not, Int.not_lt, Int.not_le] at h27
    refine TrL.unwant rfl rfl rfl ?_
    refine TrL.unwant rfl rfl rfl ?_
    refine TrL.unwant rfl rfl rfl ?_
    refine TrL.pickT rfl rfl rfl ?_
    refine TrL.nil (At.then_normal ?_)
    refine Tr.condT rfl ?_
    refine Tr.seq ?_
    refine Tr.region ?_
    refine TrL.move rfl rfl ?_
    refine TrL.nepSome rfl rfl rfl pp24 ?_
    refine TrL.move rfl rfl ?_
    refine TrL.want rfl rfl ?_
    refine TrL.call rfl rfl rfl ca9 .nil (fun Ft35 hUt35 => awake_spec ?_)
    refine TrL.pickT rfl rfl rfl ?_
    refine TrL.assign rfl rfl ?_
    refine TrL.nil (At.then_normal ?_)
    refine Tr.ret (At.then_ret (At.retP [] (.inl rfl) rfl (Res.tmp rfl Res.nil) (by repeat (first | exact Picks.nil | with_reducible exact Pick.here | with_reducible apply Pick.there | with_reducible apply Pick.app_nil | with_reducible apply Pick.app_cons | apply Picks.cons)) (by exact hK)))
  · try simp only [beq_iff_eq, beq_eq_false_iff_ne, Bool.not_eq_true, Bool.not_eq_false, decide_eq_true_eq, decide_eq_false_iff_not, Bool.not_eq_true', Bool.not_eq_false', bne_iff_ne, Bool.not_eq_eq_eq_not, Bool.not_true, Bool.not_false, ne_eq, Decidable.not_not, Int.not_lt, Int.not_le] at h27
    refine TrL.want rfl rfl ?_
    refine TrL.move rfl rfl ?_
    refine TrL.want rfl rfl ?_
    refine TrL.lenl rfl rfl se23 ?_
    refine TrL.want rfl rfl ?_
    refine TrL.gtr rfl rfl rfl ?_
    refine TrL.pickF rfl rfl rfl ?_
    refine TrL.nil (At.then_normal ?_)
    refine Tr.cond rfl (fun h31 => ?_) (fun h31 => ?_)
    · try simp only [beq_iff_eq, beq_eq_false_iff_ne, Bool.not_eq_true, Bool.not_eq_false, decide_eq_true_eq, decide_eq_false_iff_not, Bool.not_eq_true', Bool.not_eq_false', bne_iff_ne, Bool.not_eq_eq_eq_not, Bool.not_true, Bool.not_false, ne_eq, Decidable.not_not, Int.not_lt, Int.not_le] at h31
      refine Tr.seq ?_
      refine Tr.region ?_
      refine TrL.move rfl rfl ?_
      refine TrL.nepSome rfl rfl rfl pp24 ?_
      refine TrL.move rfl rfl ?_
      refine TrL.want rfl rfl ?_
      refine TrL.call rfl rfl rfl ca9 .nil (fun Ft35 hUt35 => awake_spec ?_)
      refine TrL.pickT rfl rfl rfl ?_
      refine TrL.assign rfl rfl ?_
      refine TrL.nil (At.then_normal ?_)
      refine Tr.ret (At.then_ret (At.retP [] (.inl rfl) rfl (Res.tmp rfl Res.nil) (by repeat (first | exact Picks.nil | with_reducible exact Pick.here | with_reducible apply Pick.there | with_reducible apply Pick.app_nil | with_reducible apply Pick.app_cons | apply Picks.cons)) (by exact hK)))
    · try simp only [beq_iff_eq, beq_eq_false_iff_ne, Bool.not_eq_true, Bool.not_eq_false, decide_eq_true_eq, decide_eq_false_iff_not, Bool.not_eq_true', Bool.not_eq_false', bne_iff_ne, Bool.not_eq_eq_eq_not, Bool.not_true, Bool.not_false, ne_eq, Decidable.not_not, Int.not_lt, Int.not_le] at h31
      refine Tr.skip (At.then_normal ?_)
      refine Tr.seq ?_
      refine Tr.region ?_
      refine TrL.buildSlF rfl rfl rfl se22 sz9 zc9 rfl rfl rfl (fun b37 => ?_)
      refine TrL.assign rfl rfl ?_
      refine TrL.nil (At.then_normal ?_)
      refine Tr.seq ?_
      refine Tr.freezeC (b := b37) (by repeat (first | with_reducible exact Pick.here | with_reducible apply Pick.there | with_reducible apply Pick.app_nil | with_reducible apply Pick.app_cons)) (fun Fz hFz hnm => ?_)
      replace hkeep := SlIn.mono _ _ _ _ _ _ hFz hkeep
      replace hl := SlIn.mono _ _ _ _ _ _ hFz hl
      refine Tr.region ?_
      refine TrL.alloc rfl zc27 (fun b9 => ?_)
      refine TrL.alloc rfl zc27 (fun b10 => ?_)
      refine TrL.nil (At.then_normal ?_)
      refine Tr.seq ?_
      refine Tr.seq ?_
      refine Tr.region ?_
      refine TrL.assign rfl rfl ?_
      refine TrL.nil (At.then_normal ?_)
      refine Tr.block ?_
      refine Tr.unroll 4 ?_
      refine TrR.succ ?_
      refine Tr.seq ?_
      refine Tr.seq ?_
      refine Tr.region ?_
      refine TrL.move rfl rfl ?_
      refine TrL.lss rfl rfl rfl ?_
      refine TrL.knownB (t := 39) (c := true) rfl (by decide) ?_
      refine TrL.nil (At.then_normal ?_)
      refine Tr.condT rfl ?_
      refine Tr.skip (At.then_normal ?_)
      refine Tr.seq ?_
      refine Tr.block ?_
      refine Tr.seq ?_
      refine Tr.region ?_
      refine TrL.move rfl rfl ?_
      refine TrL.move rfl rfl ?_
      refine TrL.move rfl rfl ?_
      refine TrL.idxF (i := 0) rfl rfl rfl se22 sz9 hnm rfl rfl rfl rfl (fun b45 o45 hp45 hc45 => ?_)
      refine TrL.loadR1 rfl rfl sc9 (by assumption) ?_
      refine TrL.call rfl rfl rfl ca10 (by repeat (first | exact Picks.nil | with_reducible exact Pick.here | with_reducible apply Pick.there | with_reducible apply Pick.app_nil | with_reducible apply Pick.app_cons | apply Picks.cons)) (fun Ft47 hUt47 => Make_at (e := 0) (S' := ⟨[(⟨#[97]⟩, ([], 0))], -1, false⟩) okm (makeF_ok (fs := []) (name := ⟨#[97]⟩) (by decide) (by rfl) (by show _ < _; simp)) ?_)
      refine TrL.nei rfl rfl rfl ?_
      refine TrL.knownB (t := 48) (c := false) rfl (by simp) ?_
      refine TrL.nil (At.then_normal ?_)
      refine Tr.condF rfl ?_
      refine Tr.skip (At.block_normal (At.then_normal ?_))
      refine Tr.region ?_
      refine TrL.move rfl rfl ?_
      refine TrL.addI rfl rfl rfl (by omega) ?_
      refine TrL.assign rfl rfl ?_
      refine TrL.nil (At.round ?_)
      refine TrR.succ ?_
      refine Tr.seq ?_
      refine Tr.seq ?_
      refine Tr.region ?_
      refine TrL.move rfl rfl ?_
      refine TrL.lss rfl rfl rfl ?_
      refine TrL.knownB (t := 39) (c := true) rfl (by decide) ?_
      refine TrL.nil (At.then_normal ?_)
      refine Tr.condT rfl ?_
      refine Tr.skip (At.then_normal ?_)
      refine Tr.seq ?_
      refine Tr.block ?_
      refine Tr.seq ?_
      refine Tr.region ?_
      refine TrL.move rfl rfl ?_
      refine TrL.move rfl rfl ?_
      refine TrL.move rfl rfl ?_
      refine TrL.idxF (i := 1) rfl rfl rfl se22 sz9 hnm rfl rfl rfl rfl (fun b45 o45 hp45 hc45 => ?_)
      refine TrL.loadR1 rfl rfl sc9 (by assumption) ?_
      refine TrL.call rfl rfl rfl ca10 (by repeat (first | exact Picks.nil | with_reducible exact Pick.here | with_reducible apply Pick.there | with_reducible apply Pick.app_nil | with_reducible apply Pick.app_cons | apply Picks.cons)) (fun Ft47 hUt47 => Make_at (e := 0) (S' := ⟨[(⟨#[97]⟩, ([], 0)), (⟨#[98]⟩, ([], 0))], -1, false⟩) okm (makeF_ok (fs := [(⟨#[97]⟩, ([], 0))]) (name := ⟨#[98]⟩) (by decide) (by rfl) (by show _ < _; simp)) ?_)
      refine TrL.nei rfl rfl rfl ?_
      refine TrL.knownB (t := 48) (c := false) rfl (by simp) ?_
      refine TrL.nil (At.then_normal ?_)
      refine Tr.condF rfl ?_
      refine Tr.skip (At.block_normal (At.then_normal ?_))
      refine Tr.region ?_
      refine TrL.move rfl rfl ?_
      refine TrL.addI rfl rfl rfl (by omega) ?_
      refine TrL.assign rfl rfl ?_
      refine TrL.nil (At.round ?_)
      refine TrR.succ ?_
      refine Tr.seq ?_
      refine Tr.seq ?_
      refine Tr.region ?_
      refine TrL.move rfl rfl ?_
      refine TrL.lss rfl rfl rfl ?_
      refine TrL.knownB (t := 39) (c := true) rfl (by decide) ?_
      refine TrL.nil (At.then_normal ?_)
      refine Tr.condT rfl ?_
      refine Tr.skip (At.then_normal ?_)
      refine Tr.seq ?_
      refine Tr.block ?_
      refine Tr.seq ?_
      refine Tr.region ?_
      refine TrL.move rfl rfl ?_
      refine TrL.move rfl rfl ?_
      refine TrL.move rfl rfl ?_
      refine TrL.idxF (i := 2) rfl rfl rfl se22 sz9 hnm rfl rfl rfl rfl (fun b45 o45 hp45 hc45 => ?_)
      refine TrL.loadR1 rfl rfl sc9 (by assumption) ?_
      refine TrL.call rfl rfl rfl ca10 (by repeat (first | exact Picks.nil | with_reducible exact Pick.here | with_reducible apply Pick.there | with_reducible apply Pick.app_nil | with_reducible apply Pick.app_cons | apply Picks.cons)) (fun Ft47 hUt47 => Make_at (e := 0) (S' := ⟨[(⟨#[97]⟩, ([], 0)), (⟨#[98]⟩, ([], 0)), (⟨#[99]⟩, ([], 0))], -1, false⟩) okm (makeF_ok (fs := [(⟨#[97]⟩, ([], 0)), (⟨#[98]⟩, ([], 0))]) (name := ⟨#[99]⟩) (by decide) (by rfl) (by show _ < _; simp)) ?_)
      refine TrL.nei rfl rfl rfl ?_
      refine TrL.knownB (t := 48) (c := false) rfl (by simp) ?_
      refine TrL.nil (At.then_normal ?_)
      refine Tr.condF rfl ?_
      refine Tr.skip (At.block_normal (At.then_normal ?_))
      refine Tr.region ?_
      refine TrL.move rfl rfl ?_
      refine TrL.addI rfl rfl rfl (by omega) ?_
      refine TrL.assign rfl rfl ?_
      refine TrL.nil (At.round ?_)
      refine TrR.succ ?_
      refine Tr.seq ?_
      refine Tr.seq ?_
      refine Tr.region ?_
      refine TrL.move rfl rfl ?_
      refine TrL.lss rfl rfl rfl ?_
      refine TrL.knownB (t := 39) (c := false) rfl (by decide) ?_
      refine TrL.nil (At.then_normal ?_)
      refine Tr.condF rfl ?_
      refine Tr.exit (At.then_exit (At.then_exit (At.block_hit (At.then_normal ?_))))
      refine Tr.seq ?_
      refine Tr.seq ?_
      rw [show (⟨[(⟨#[97]⟩, ([], 0)), (⟨#[98]⟩, ([], 0)), (⟨#[99]⟩, ([], 0))], -1, false⟩ : DS) = ⟨[(⟨#[97]⟩, ((⟨#[]⟩ : ByteArray).data.toList, ((⟨#[]⟩ : ByteArray).size : Int))), (⟨#[98]⟩, ((⟨#[]⟩ : ByteArray).data.toList, ((⟨#[]⟩ : ByteArray).size : Int))), (⟨#[99]⟩, ((⟨#[]⟩ : ByteArray).data.toList, ((⟨#[]⟩ : ByteArray).size : Int)))], -1, false⟩ from rfl]
      refine Tr.region ?_
      refine TrL.assign rfl rfl ?_
      refine TrL.nil (At.then_normal ?_)
      refine Tr.block ?_
      refine Tr.loopK [0, 1, 2, 7, 8, 9, 10] (α := Nat × (ByteArray × ByteArray) × (ByteArray × ByteArray) × (ByteArray × ByteArray)) (fun y => [(12, .int .i64 (y.1 : Int))]) (fun y => [cl b10 [.string y.2.1.1, .string y.2.2.1.1, .string y.2.2.2.1] 27, cl b9 [.string y.2.1.2, .string y.2.2.1.2, .string y.2.2.2.2] 27, diskC d ⟨[(⟨#[97]⟩, (y.2.1.1.data.toList, (y.2.1.2.size : Int))), (⟨#[98]⟩, (y.2.2.1.1.data.toList, (y.2.2.1.2.size : Int))), (⟨#[99]⟩, (y.2.2.2.1.data.toList, (y.2.2.2.2.size : Int)))], -1, false⟩]) (fun y => y.1 ≤ texts.length ∧ y.2.1.1.size ≤ 40 * y.1 ∧ y.2.2.1.1.size ≤ 40 * y.1 ∧ y.2.2.2.1.size ≤ 40 * y.1 ∧ y.2.1.2.size ≤ y.2.1.1.size ∧ y.2.2.1.2.size ≤ y.2.2.1.1.size ∧ y.2.2.2.2.size ≤ y.2.2.2.1.size) (fun y => texts.length - y.1) ((0, (⟨#[]⟩, ⟨#[]⟩), (⟨#[]⟩, ⟨#[]⟩), (⟨#[]⟩, ⟨#[]⟩))) (by rfl) ?_ (by repeat (first | exact Sub.nil | refine Sub.cons (by rfl) ?_)) (by repeat (first | exact Picks.nil | with_reducible exact Pick.here | with_reducible apply Pick.there | with_reducible apply Pick.app_nil | with_reducible apply Pick.app_cons | apply Picks.cons)) ?_
      · exact ⟨Nat.zero_le _, by decide, by decide, by decide, by decide, by decide, by decide⟩
      rintro y ⟨hy1, hy2, hy3, hy4, hy5, hy6, hy7⟩
      have hsA0 : y.2.1.1.data.toList.length = y.2.1.1.size := by simp
      have hsA1 : y.2.2.1.1.data.toList.length = y.2.2.1.1.size := by simp
      have hsA2 : y.2.2.2.1.data.toList.length = y.2.2.2.1.size := by simp
      refine Tr.seq ?_
      refine Tr.seq ?_
      refine Tr.region ?_
      refine TrL.move rfl rfl ?_
      refine TrL.move rfl rfl ?_
      refine TrL.lenl rfl rfl se22 ?_
      refine TrL.lss rfl rfl rfl ?_
      refine TrL.nil (At.then_normal ?_)
      refine Tr.cond rfl (fun h52 => ?_) (fun h52 => ?_)
      · try simp only [beq_iff_eq, beq_eq_false_iff_ne, Bool.not_eq_true, Bool.not_eq_false, decide_eq_true_eq, decide_eq_false_iff_not, Bool.not_eq_true', Bool.not_eq_false', bne_iff_ne, Bool.not_eq_eq_eq_not, Bool.not_true, Bool.not_false, ne_eq, Decidable.not_not, Int.not_lt, Int.not_le] at h52
        refine Tr.skip (At.then_normal ?_)
        refine Tr.seq ?_
        refine Tr.block ?_
        refine Tr.seq ?_
        refine Tr.region ?_
        refine TrL.move rfl rfl ?_
        refine TrL.rem rfl rfl rfl (by omega) ?_
        rw [show Int.tmod (y.1 : Int) 3 = ((y.1 % 3 : Nat) : Int) from (Int.ofNat_tmod _ _).symm]
        refine TrL.assign rfl rfl ?_
        refine TrL.nil (At.then_normal ?_)
        refine Tr.seq ?_
        refine Tr.seq ?_
        have h3 : y.1 % 3 = 0 ∨ y.1 % 3 = 1 ∨ y.1 % 3 = 2 := by omega
        rcases h3 with h3 | h3 | h3 <;> rw [h3]
        · skip
          refine Tr.region ?_
          refine TrL.move rfl rfl ?_
          refine TrL.move rfl rfl ?_
          refine TrL.idxF rfl rfl rfl se22 sz9 (by assumption) rfl rfl rfl (List.getElem?_eq_getElem (by omega)) (fun b59 o59 hp59 hc59 => ?_)
          refine TrL.loadR1 rfl rfl sc9 (by assumption) ?_
          refine TrL.lens rfl rfl st9 ?_
          refine TrL.gtr rfl rfl rfl ?_
          refine TrL.nil (At.then_normal ?_)
          refine Tr.cond rfl (fun h62 => ?_) (fun h62 => ?_)
          · try simp only [beq_iff_eq, beq_eq_false_iff_ne, Bool.not_eq_true, Bool.not_eq_false, decide_eq_true_eq, decide_eq_false_iff_not, Bool.not_eq_true', Bool.not_eq_false', bne_iff_ne, Bool.not_eq_eq_eq_not, Bool.not_true, Bool.not_false, ne_eq, Decidable.not_not, Int.not_lt, Int.not_le] at h62
            refine Tr.seq ?_
            refine Tr.region ?_
            refine TrL.call rfl rfl rfl ca9 .nil (fun Ft63 hUt63 => awake_spec ?_)
            refine TrL.assign rfl rfl ?_
            refine TrL.nil (At.then_normal ?_)
            refine Tr.ret (At.then_ret (At.block_ret (At.then_ret (At.then_ret (At.block_ret (At.then_ret (At.retP [] (.inl rfl) rfl (Res.tmp rfl Res.nil) (by repeat (first | exact Picks.nil | with_reducible exact Pick.here | with_reducible apply Pick.there | with_reducible apply Pick.app_nil | with_reducible apply Pick.app_cons | apply Picks.cons)) (by exact hK))))))))
          · try simp only [beq_iff_eq, beq_eq_false_iff_ne, Bool.not_eq_true, Bool.not_eq_false, decide_eq_true_eq, decide_eq_false_iff_not, Bool.not_eq_true', Bool.not_eq_false', bne_iff_ne, Bool.not_eq_eq_eq_not, Bool.not_true, Bool.not_false, ne_eq, Decidable.not_not, Int.not_lt, Int.not_le] at h62
            refine Tr.skip (At.then_normal ?_)
            refine Tr.seq ?_
            refine Tr.seq ?_
            refine Tr.regionT 9 mixed (by kernel_rfl) rfl rfl ?_
            refine TrL.move rfl rfl ?_
            refine TrL.move rfl rfl ?_
            refine TrL.move rfl rfl ?_
            refine TrL.idxF (i := 0) rfl rfl rfl se22 sz9 hnm rfl rfl rfl rfl (fun b67 o67 hp67 hc67 => ?_)
            refine TrL.loadR1 rfl rfl sc9 (by assumption) ?_
            refine TrL.move rfl rfl ?_
            refine TrL.move rfl rfl ?_
            refine TrL.idxF rfl rfl rfl se22 sz9 (by assumption) rfl rfl rfl (List.getElem?_eq_getElem (by omega)) (fun b71 o71 hp71 hc71 => ?_)
            refine TrL.loadR1 rfl rfl sc9 (by assumption) ?_
            refine TrL.turn ?_
            refine TrL.call rfl rfl rfl ca11 (by repeat (first | exact Picks.nil | with_reducible exact Pick.here | with_reducible apply Pick.there | with_reducible apply Pick.app_nil | with_reducible apply Pick.app_cons | apply Picks.cons)) (fun Ft73 hUt73 => Append_at (e := 0) (S' := ⟨[(⟨#[97]⟩, (y.2.1.1.data.toList ++ texts[y.1].data.toList, (y.2.1.2.size : Int))), (⟨#[98]⟩, (y.2.2.1.1.data.toList, (y.2.2.1.2.size : Int))), (⟨#[99]⟩, (y.2.2.2.1.data.toList, (y.2.2.2.2.size : Int)))], -1, false⟩) okm (by omega) (appendF_ok (fs := [(⟨#[97]⟩, (y.2.1.1.data.toList, (y.2.1.2.size : Int))), (⟨#[98]⟩, (y.2.2.1.1.data.toList, (y.2.2.1.2.size : Int))), (⟨#[99]⟩, (y.2.2.2.1.data.toList, (y.2.2.2.2.size : Int)))]) (name := ⟨#[97]⟩) (s := texts[y.1]) (b := (y.2.1.1.data.toList, (y.2.1.2.size : Int))) (by decide) (by rfl) (by show List.length _ + _ ≤ _; rw [hsA0]; omega)) ?_)
            rw [show y.2.1.1.data.toList ++ texts[y.1].data.toList = (y.2.1.1 ++ texts[y.1]).data.toList by simp]
            refine TrL.nei rfl rfl rfl ?_
            refine TrL.knownB (t := 74) (c := false) rfl (by simp) ?_
            refine TrL.nil (At.then_normal ?_)
            refine Tr.condF rfl ?_
            refine Tr.skip (At.then_normal ?_)
            refine Tr.seq ?_
            refine Tr.regionT 10 mixed (by kernel_rfl) rfl rfl ?_
            refine TrL.move rfl rfl ?_
            refine TrL.move rfl rfl ?_
            refine TrL.idxArr (i := 0) rfl rfl rfl ar27 sz9 rfl (by omega) ?_
            --L:b10
            refine TrL.load1 rfl rfl sc9 (Sees.cl1 (by repeat (first | with_reducible exact Pick.here | with_reducible apply Pick.there | with_reducible apply Pick.app_nil | with_reducible apply Pick.app_cons)) (by rfl)) ?_
            refine TrL.move rfl rfl ?_
            refine TrL.move rfl rfl ?_
            refine TrL.idxF rfl rfl rfl se22 sz9 (by assumption) rfl rfl rfl (List.getElem?_eq_getElem (by omega)) (fun b81 o81 hp81 hc81 => ?_)
            refine TrL.loadR1 rfl rfl sc9 (by assumption) ?_
            refine TrL.adds rfl rfl rfl (by omega) ?_
            refine TrL.idxArr (i := 0) rfl rfl rfl ar27 sz9 rfl (by omega) ?_
            --L:b10
            refine TrL.turn ?_
            refine TrL.store1 rfl rfl sz9 rfl (by repeat (first | with_reducible exact Upd.here | with_reducible apply Upd.there | with_reducible apply Upd.app_nil | with_reducible apply Upd.app_cons)) (by rfl) ?_
            refine TrL.nil (At.then_normal ?_)
            refine Tr.seq ?_
            refine Tr.region ?_
            refine TrL.move rfl rfl ?_
            refine TrL.move rfl rfl ?_
            refine TrL.shr rfl rfl rfl (by omega) ?_
            refine TrL.and rfl rfl rfl ?_
            refine TrL.eqi rfl rfl rfl ?_
            refine TrL.nil (At.then_normal ?_)
            refine Tr.cond rfl (fun h89 => ?_) (fun h89 => ?_)
            · try simp only [beq_iff_eq, beq_eq_false_iff_ne, Bool.not_eq_true, Bool.not_eq_false, decide_eq_true_eq, decide_eq_false_iff_not, Bool.not_eq_true', Bool.not_eq_false', bne_iff_ne, Bool.not_eq_eq_eq_not, Bool.not_true, Bool.not_false, ne_eq, Decidable.not_not, Int.not_lt, Int.not_le] at h89
              refine Tr.seq ?_
              refine Tr.seq ?_
              refine Tr.region ?_
              refine TrL.move rfl rfl ?_
              refine TrL.move rfl rfl ?_
              refine TrL.move rfl rfl ?_
              refine TrL.idxF (i := 0) rfl rfl rfl se22 sz9 hnm rfl rfl rfl rfl (fun b93 o93 hp93 hc93 => ?_)
              refine TrL.loadR1 rfl rfl sc9 (by assumption) ?_
              refine TrL.call rfl rfl rfl ca12 (by repeat (first | exact Picks.nil | with_reducible exact Pick.here | with_reducible apply Pick.there | with_reducible apply Pick.app_nil | with_reducible apply Pick.app_cons | apply Picks.cons)) (fun Ft95 hUt95 => Sync_at (e := 0) (S' := ⟨[(⟨#[97]⟩, ((y.2.1.1 ++ texts[y.1]).data.toList, (List.length ((y.2.1.1 ++ texts[y.1]).data.toList) : Int))), (⟨#[98]⟩, (y.2.2.1.1.data.toList, (y.2.2.1.2.size : Int))), (⟨#[99]⟩, (y.2.2.2.1.data.toList, (y.2.2.2.2.size : Int)))], -1, false⟩) okm (syncF_ok (fs := [(⟨#[97]⟩, ((y.2.1.1 ++ texts[y.1]).data.toList, (y.2.1.2.size : Int))), (⟨#[98]⟩, (y.2.2.1.1.data.toList, (y.2.2.1.2.size : Int))), (⟨#[99]⟩, (y.2.2.2.1.data.toList, (y.2.2.2.2.size : Int)))]) (name := ⟨#[97]⟩) (b := ((y.2.1.1 ++ texts[y.1]).data.toList, (y.2.1.2.size : Int))) (by decide) (by rfl)) ?_)
              rw [show List.length ((y.2.1.1 ++ texts[y.1]).data.toList) = (y.2.1.1 ++ texts[y.1]).size by simp]
              refine TrL.nei rfl rfl rfl ?_
              refine TrL.knownB (t := 96) (c := false) rfl (by simp) ?_
              refine TrL.nil (At.then_normal ?_)
              refine Tr.condF rfl ?_
              refine Tr.skip (At.then_normal ?_)
              refine Tr.region ?_
              refine TrL.move rfl rfl ?_
              refine TrL.move rfl rfl ?_
              refine TrL.idxArr (i := 0) rfl rfl rfl ar27 sz9 rfl (by omega) ?_
              --L:b10
              refine TrL.load1 rfl rfl sc9 (Sees.cl1 (by repeat (first | with_reducible exact Pick.here | with_reducible apply Pick.there | with_reducible apply Pick.app_nil | with_reducible apply Pick.app_cons)) (by rfl)) ?_
              refine TrL.idxArr (i := 0) rfl rfl rfl ar27 sz9 rfl (by omega) ?_
              --L:b9
              refine TrL.store1 rfl rfl sz9 rfl (by repeat (first | with_reducible exact Upd.here | with_reducible apply Upd.there | with_reducible apply Upd.app_nil | with_reducible apply Upd.app_cons)) (by rfl) ?_
              refine TrL.nil (At.block_normal (At.then_normal ?_))
              refine Tr.region ?_
              refine TrL.move rfl rfl ?_
              refine TrL.addI rfl rfl rfl (by omega) ?_
              refine TrL.assign rfl rfl ?_
              refine TrL.nil ?_
              refine At.again (y.1 + 1, ((y.2.1.1 ++ texts[y.1]), (y.2.1.1 ++ texts[y.1])), (y.2.2.1.1, y.2.2.1.2), (y.2.2.2.1, y.2.2.2.2)) ⟨by omega, ?_, ?_, ?_, ?_, ?_, ?_⟩ (by show texts.length - (y.1 + 1) < texts.length - y.1; omega) (by repeat (first | exact Sub.nil | refine Sub.cons (by rfl) ?_)) (by repeat (first | exact Picks.nil | with_reducible exact Pick.here | with_reducible apply Pick.there | with_reducible apply Pick.app_nil | with_reducible apply Pick.app_cons | apply Picks.cons))
              all_goals simp only [ByteArray.size_append]; omega
            · try simp only [beq_iff_eq, beq_eq_false_iff_ne, Bool.not_eq_true, Bool.not_eq_false, decide_eq_true_eq, decide_eq_false_iff_not, Bool.not_eq_true', Bool.not_eq_false', bne_iff_ne, Bool.not_eq_eq_eq_not, Bool.not_true, Bool.not_false, ne_eq, Decidable.not_not, Int.not_lt, Int.not_le] at h89
              refine Tr.skip (At.block_normal (At.then_normal ?_))
              refine Tr.region ?_
              refine TrL.move rfl rfl ?_
              refine TrL.addI rfl rfl rfl (by omega) ?_
              refine TrL.assign rfl rfl ?_
              refine TrL.nil ?_
              refine At.again (y.1 + 1, ((y.2.1.1 ++ texts[y.1]), y.2.1.2), (y.2.2.1.1, y.2.2.1.2), (y.2.2.2.1, y.2.2.2.2)) ⟨by omega, ?_, ?_, ?_, ?_, ?_, ?_⟩ (by show texts.length - (y.1 + 1) < texts.length - y.1; omega) (by repeat (first | exact Sub.nil | refine Sub.cons (by rfl) ?_)) (by repeat (first | exact Picks.nil | with_reducible exact Pick.here | with_reducible apply Pick.there | with_reducible apply Pick.app_nil | with_reducible apply Pick.app_cons | apply Picks.cons))
              all_goals simp only [ByteArray.size_append]; omega
        · skip
          refine Tr.region ?_
          refine TrL.move rfl rfl ?_
          refine TrL.move rfl rfl ?_
          refine TrL.idxF rfl rfl rfl se22 sz9 (by assumption) rfl rfl rfl (List.getElem?_eq_getElem (by omega)) (fun b59 o59 hp59 hc59 => ?_)
          refine TrL.loadR1 rfl rfl sc9 (by assumption) ?_
          refine TrL.lens rfl rfl st9 ?_
          refine TrL.gtr rfl rfl rfl ?_
          refine TrL.nil (At.then_normal ?_)
          refine Tr.cond rfl (fun h62 => ?_) (fun h62 => ?_)
          · try simp only [beq_iff_eq, beq_eq_false_iff_ne, Bool.not_eq_true, Bool.not_eq_false, decide_eq_true_eq, decide_eq_false_iff_not, Bool.not_eq_true', Bool.not_eq_false', bne_iff_ne, Bool.not_eq_eq_eq_not, Bool.not_true, Bool.not_false, ne_eq, Decidable.not_not, Int.not_lt, Int.not_le] at h62
            refine Tr.seq ?_
            refine Tr.region ?_
            refine TrL.call rfl rfl rfl ca9 .nil (fun Ft63 hUt63 => awake_spec ?_)
            refine TrL.assign rfl rfl ?_
            refine TrL.nil (At.then_normal ?_)
            refine Tr.ret (At.then_ret (At.block_ret (At.then_ret (At.then_ret (At.block_ret (At.then_ret (At.retP [] (.inl rfl) rfl (Res.tmp rfl Res.nil) (by repeat (first | exact Picks.nil | with_reducible exact Pick.here | with_reducible apply Pick.there | with_reducible apply Pick.app_nil | with_reducible apply Pick.app_cons | apply Picks.cons)) (by exact hK))))))))
          · try simp only [beq_iff_eq, beq_eq_false_iff_ne, Bool.not_eq_true, Bool.not_eq_false, decide_eq_true_eq, decide_eq_false_iff_not, Bool.not_eq_true', Bool.not_eq_false', bne_iff_ne, Bool.not_eq_eq_eq_not, Bool.not_true, Bool.not_false, ne_eq, Decidable.not_not, Int.not_lt, Int.not_le] at h62
            refine Tr.skip (At.then_normal ?_)
            refine Tr.seq ?_
            refine Tr.seq ?_
            refine Tr.regionT 9 mixed (by kernel_rfl) rfl rfl ?_
            refine TrL.move rfl rfl ?_
            refine TrL.move rfl rfl ?_
            refine TrL.move rfl rfl ?_
            refine TrL.idxF (i := 1) rfl rfl rfl se22 sz9 hnm rfl rfl rfl rfl (fun b67 o67 hp67 hc67 => ?_)
            refine TrL.loadR1 rfl rfl sc9 (by assumption) ?_
            refine TrL.move rfl rfl ?_
            refine TrL.move rfl rfl ?_
            refine TrL.idxF rfl rfl rfl se22 sz9 (by assumption) rfl rfl rfl (List.getElem?_eq_getElem (by omega)) (fun b71 o71 hp71 hc71 => ?_)
            refine TrL.loadR1 rfl rfl sc9 (by assumption) ?_
            refine TrL.turn ?_
            refine TrL.call rfl rfl rfl ca11 (by repeat (first | exact Picks.nil | with_reducible exact Pick.here | with_reducible apply Pick.there | with_reducible apply Pick.app_nil | with_reducible apply Pick.app_cons | apply Picks.cons)) (fun Ft73 hUt73 => Append_at (e := 0) (S' := ⟨[(⟨#[97]⟩, (y.2.1.1.data.toList, (y.2.1.2.size : Int))), (⟨#[98]⟩, (y.2.2.1.1.data.toList ++ texts[y.1].data.toList, (y.2.2.1.2.size : Int))), (⟨#[99]⟩, (y.2.2.2.1.data.toList, (y.2.2.2.2.size : Int)))], -1, false⟩) okm (by omega) (appendF_ok (fs := [(⟨#[97]⟩, (y.2.1.1.data.toList, (y.2.1.2.size : Int))), (⟨#[98]⟩, (y.2.2.1.1.data.toList, (y.2.2.1.2.size : Int))), (⟨#[99]⟩, (y.2.2.2.1.data.toList, (y.2.2.2.2.size : Int)))]) (name := ⟨#[98]⟩) (s := texts[y.1]) (b := (y.2.2.1.1.data.toList, (y.2.2.1.2.size : Int))) (by decide) (by rfl) (by show List.length _ + _ ≤ _; rw [hsA1]; omega)) ?_)
            rw [show y.2.2.1.1.data.toList ++ texts[y.1].data.toList = (y.2.2.1.1 ++ texts[y.1]).data.toList by simp]
            refine TrL.nei rfl rfl rfl ?_
            refine TrL.knownB (t := 74) (c := false) rfl (by simp) ?_
            refine TrL.nil (At.then_normal ?_)
            refine Tr.condF rfl ?_
            refine Tr.skip (At.then_normal ?_)
            refine Tr.seq ?_
            refine Tr.regionT 10 mixed (by kernel_rfl) rfl rfl ?_
            refine TrL.move rfl rfl ?_
            refine TrL.move rfl rfl ?_
            refine TrL.idxArr (i := 1) rfl rfl rfl ar27 sz9 rfl (by omega) ?_
            --L:b10
            refine TrL.load1 rfl rfl sc9 (Sees.cl1 (by repeat (first | with_reducible exact Pick.here | with_reducible apply Pick.there | with_reducible apply Pick.app_nil | with_reducible apply Pick.app_cons)) (by rfl)) ?_
            refine TrL.move rfl rfl ?_
            refine TrL.move rfl rfl ?_
            refine TrL.idxF rfl rfl rfl se22 sz9 (by assumption) rfl rfl rfl (List.getElem?_eq_getElem (by omega)) (fun b81 o81 hp81 hc81 => ?_)
            refine TrL.loadR1 rfl rfl sc9 (by assumption) ?_
            refine TrL.adds rfl rfl rfl (by omega) ?_
            refine TrL.idxArr (i := 1) rfl rfl rfl ar27 sz9 rfl (by omega) ?_
            --L:b10
            refine TrL.turn ?_
            refine TrL.store1 rfl rfl sz9 rfl (by repeat (first | with_reducible exact Upd.here | with_reducible apply Upd.there | with_reducible apply Upd.app_nil | with_reducible apply Upd.app_cons)) (by rfl) ?_
            refine TrL.nil (At.then_normal ?_)
            refine Tr.seq ?_
            refine Tr.region ?_
            refine TrL.move rfl rfl ?_
            refine TrL.move rfl rfl ?_
            refine TrL.shr rfl rfl rfl (by omega) ?_
            refine TrL.and rfl rfl rfl ?_
            refine TrL.eqi rfl rfl rfl ?_
            refine TrL.nil (At.then_normal ?_)
            refine Tr.cond rfl (fun h89 => ?_) (fun h89 => ?_)
            · try simp only [beq_iff_eq, beq_eq_false_iff_ne, Bool.not_eq_true, Bool.not_eq_false, decide_eq_true_eq, decide_eq_false_iff_not, Bool.not_eq_true', Bool.not_eq_false', bne_iff_ne, Bool.not_eq_eq_eq_not, Bool.not_true, Bool.not_false, ne_eq, Decidable.not_not, Int.not_lt, Int.not_le] at h89
              refine Tr.seq ?_
              refine Tr.seq ?_
              refine Tr.region ?_
              refine TrL.move rfl rfl ?_
              refine TrL.move rfl rfl ?_
              refine TrL.move rfl rfl ?_
              refine TrL.idxF (i := 1) rfl rfl rfl se22 sz9 hnm rfl rfl rfl rfl (fun b93 o93 hp93 hc93 => ?_)
              refine TrL.loadR1 rfl rfl sc9 (by assumption) ?_
              refine TrL.call rfl rfl rfl ca12 (by repeat (first | exact Picks.nil | with_reducible exact Pick.here | with_reducible apply Pick.there | with_reducible apply Pick.app_nil | with_reducible apply Pick.app_cons | apply Picks.cons)) (fun Ft95 hUt95 => Sync_at (e := 0) (S' := ⟨[(⟨#[97]⟩, (y.2.1.1.data.toList, (y.2.1.2.size : Int))), (⟨#[98]⟩, ((y.2.2.1.1 ++ texts[y.1]).data.toList, (List.length ((y.2.2.1.1 ++ texts[y.1]).data.toList) : Int))), (⟨#[99]⟩, (y.2.2.2.1.data.toList, (y.2.2.2.2.size : Int)))], -1, false⟩) okm (syncF_ok (fs := [(⟨#[97]⟩, (y.2.1.1.data.toList, (y.2.1.2.size : Int))), (⟨#[98]⟩, ((y.2.2.1.1 ++ texts[y.1]).data.toList, (y.2.2.1.2.size : Int))), (⟨#[99]⟩, (y.2.2.2.1.data.toList, (y.2.2.2.2.size : Int)))]) (name := ⟨#[98]⟩) (b := ((y.2.2.1.1 ++ texts[y.1]).data.toList, (y.2.2.1.2.size : Int))) (by decide) (by rfl)) ?_)
              rw [show List.length ((y.2.2.1.1 ++ texts[y.1]).data.toList) = (y.2.2.1.1 ++ texts[y.1]).size by simp]
              refine TrL.nei rfl rfl rfl ?_
              refine TrL.knownB (t := 96) (c := false) rfl (by simp) ?_
              refine TrL.nil (At.then_normal ?_)
              refine Tr.condF rfl ?_
              refine Tr.skip (At.then_normal ?_)
              refine Tr.region ?_
              refine TrL.move rfl rfl ?_
              refine TrL.move rfl rfl ?_
              refine TrL.idxArr (i := 1) rfl rfl rfl ar27 sz9 rfl (by omega) ?_
              --L:b10
              refine TrL.load1 rfl rfl sc9 (Sees.cl1 (by repeat (first | with_reducible exact Pick.here | with_reducible apply Pick.there | with_reducible apply Pick.app_nil | with_reducible apply Pick.app_cons)) (by rfl)) ?_
              refine TrL.idxArr (i := 1) rfl rfl rfl ar27 sz9 rfl (by omega) ?_
              --L:b9
              refine TrL.store1 rfl rfl sz9 rfl (by repeat (first | with_reducible exact Upd.here | with_reducible apply Upd.there | with_reducible apply Upd.app_nil | with_reducible apply Upd.app_cons)) (by rfl) ?_
              refine TrL.nil (At.block_normal (At.then_normal ?_))
              refine Tr.region ?_
              refine TrL.move rfl rfl ?_
              refine TrL.addI rfl rfl rfl (by omega) ?_
              refine TrL.assign rfl rfl ?_
              refine TrL.nil ?_
              refine At.again (y.1 + 1, (y.2.1.1, y.2.1.2), ((y.2.2.1.1 ++ texts[y.1]), (y.2.2.1.1 ++ texts[y.1])), (y.2.2.2.1, y.2.2.2.2)) ⟨by omega, ?_, ?_, ?_, ?_, ?_, ?_⟩ (by show texts.length - (y.1 + 1) < texts.length - y.1; omega) (by repeat (first | exact Sub.nil | refine Sub.cons (by rfl) ?_)) (by repeat (first | exact Picks.nil | with_reducible exact Pick.here | with_reducible apply Pick.there | with_reducible apply Pick.app_nil | with_reducible apply Pick.app_cons | apply Picks.cons))
              all_goals simp only [ByteArray.size_append]; omega
            · try simp only [beq_iff_eq, beq_eq_false_iff_ne, Bool.not_eq_true, Bool.not_eq_false, decide_eq_true_eq, decide_eq_false_iff_not, Bool.not_eq_true', Bool.not_eq_false', bne_iff_ne, Bool.not_eq_eq_eq_not, Bool.not_true, Bool.not_false, ne_eq, Decidable.not_not, Int.not_lt, Int.not_le] at h89
              refine Tr.skip (At.block_normal (At.then_normal ?_))
              refine Tr.region ?_
              refine TrL.move rfl rfl ?_
              refine TrL.addI rfl rfl rfl (by omega) ?_
              refine TrL.assign rfl rfl ?_
              refine TrL.nil ?_
              refine At.again (y.1 + 1, (y.2.1.1, y.2.1.2), ((y.2.2.1.1 ++ texts[y.1]), y.2.2.1.2), (y.2.2.2.1, y.2.2.2.2)) ⟨by omega, ?_, ?_, ?_, ?_, ?_, ?_⟩ (by show texts.length - (y.1 + 1) < texts.length - y.1; omega) (by repeat (first | exact Sub.nil | refine Sub.cons (by rfl) ?_)) (by repeat (first | exact Picks.nil | with_reducible exact Pick.here | with_reducible apply Pick.there | with_reducible apply Pick.app_nil | with_reducible apply Pick.app_cons | apply Picks.cons))
              all_goals simp only [ByteArray.size_append]; omega
        · skip
          refine Tr.region ?_
          refine TrL.move rfl rfl ?_
          refine TrL.move rfl rfl ?_
          refine TrL.idxF rfl rfl rfl se22 sz9 (by assumption) rfl rfl rfl (List.getElem?_eq_getElem (by omega)) (fun b59 o59 hp59 hc59 => ?_)
          refine TrL.loadR1 rfl rfl sc9 (by assumption) ?_
          refine TrL.lens rfl rfl st9 ?_
          refine TrL.gtr rfl rfl rfl ?_
          refine TrL.nil (At.then_normal ?_)
          refine Tr.cond rfl (fun h62 => ?_) (fun h62 => ?_)
          · try simp only [beq_iff_eq, beq_eq_false_iff_ne, Bool.not_eq_true, Bool.not_eq_false, decide_eq_true_eq, decide_eq_false_iff_not, Bool.not_eq_true', Bool.not_eq_false', bne_iff_ne, Bool.not_eq_eq_eq_not, Bool.not_true, Bool.not_false, ne_eq, Decidable.not_not, Int.not_lt, Int.not_le] at h62
            refine Tr.seq ?_
            refine Tr.region ?_
            refine TrL.call rfl rfl rfl ca9 .nil (fun Ft63 hUt63 => awake_spec ?_)
            refine TrL.assign rfl rfl ?_
            refine TrL.nil (At.then_normal ?_)
            refine Tr.ret (At.then_ret (At.block_ret (At.then_ret (At.then_ret (At.block_ret (At.then_ret (At.retP [] (.inl rfl) rfl (Res.tmp rfl Res.nil) (by repeat (first | exact Picks.nil | with_reducible exact Pick.here | with_reducible apply Pick.there | with_reducible apply Pick.app_nil | with_reducible apply Pick.app_cons | apply Picks.cons)) (by exact hK))))))))
          · try simp only [beq_iff_eq, beq_eq_false_iff_ne, Bool.not_eq_true, Bool.not_eq_false, decide_eq_true_eq, decide_eq_false_iff_not, Bool.not_eq_true', Bool.not_eq_false', bne_iff_ne, Bool.not_eq_eq_eq_not, Bool.not_true, Bool.not_false, ne_eq, Decidable.not_not, Int.not_lt, Int.not_le] at h62
            refine Tr.skip (At.then_normal ?_)
            refine Tr.seq ?_
            refine Tr.seq ?_
            refine Tr.regionT 9 mixed (by kernel_rfl) rfl rfl ?_
            refine TrL.move rfl rfl ?_
            refine TrL.move rfl rfl ?_
            refine TrL.move rfl rfl ?_
            refine TrL.idxF (i := 2) rfl rfl rfl se22 sz9 hnm rfl rfl rfl rfl (fun b67 o67 hp67 hc67 => ?_)
            refine TrL.loadR1 rfl rfl sc9 (by assumption) ?_
            refine TrL.move rfl rfl ?_
            refine TrL.move rfl rfl ?_
            refine TrL.idxF rfl rfl rfl se22 sz9 (by assumption) rfl rfl rfl (List.getElem?_eq_getElem (by omega)) (fun b71 o71 hp71 hc71 => ?_)
            refine TrL.loadR1 rfl rfl sc9 (by assumption) ?_
            refine TrL.turn ?_
            refine TrL.call rfl rfl rfl ca11 (by repeat (first | exact Picks.nil | with_reducible exact Pick.here | with_reducible apply Pick.there | with_reducible apply Pick.app_nil | with_reducible apply Pick.app_cons | apply Picks.cons)) (fun Ft73 hUt73 => Append_at (e := 0) (S' := ⟨[(⟨#[97]⟩, (y.2.1.1.data.toList, (y.2.1.2.size : Int))), (⟨#[98]⟩, (y.2.2.1.1.data.toList, (y.2.2.1.2.size : Int))), (⟨#[99]⟩, (y.2.2.2.1.data.toList ++ texts[y.1].data.toList, (y.2.2.2.2.size : Int)))], -1, false⟩) okm (by omega) (appendF_ok (fs := [(⟨#[97]⟩, (y.2.1.1.data.toList, (y.2.1.2.size : Int))), (⟨#[98]⟩, (y.2.2.1.1.data.toList, (y.2.2.1.2.size : Int))), (⟨#[99]⟩, (y.2.2.2.1.data.toList, (y.2.2.2.2.size : Int)))]) (name := ⟨#[99]⟩) (s := texts[y.1]) (b := (y.2.2.2.1.data.toList, (y.2.2.2.2.size : Int))) (by decide) (by rfl) (by show List.length _ + _ ≤ _; rw [hsA2]; omega)) ?_)
            rw [show y.2.2.2.1.data.toList ++ texts[y.1].data.toList = (y.2.2.2.1 ++ texts[y.1]).data.toList by simp]
            refine TrL.nei rfl rfl rfl ?_
            refine TrL.knownB (t := 74) (c := false) rfl (by simp) ?_
            refine TrL.nil (At.then_normal ?_)
            refine Tr.condF rfl ?_
            refine Tr.skip (At.then_normal ?_)
            refine Tr.seq ?_
            refine Tr.regionT 10 mixed (by kernel_rfl) rfl rfl ?_
            refine TrL.move rfl rfl ?_
            refine TrL.move rfl rfl ?_
            refine TrL.idxArr (i := 2) rfl rfl rfl ar27 sz9 rfl (by omega) ?_
            --L:b10
            refine TrL.load1 rfl rfl sc9 (Sees.cl1 (by repeat (first | with_reducible exact Pick.here | with_reducible apply Pick.there | with_reducible apply Pick.app_nil | with_reducible apply Pick.app_cons)) (by rfl)) ?_
            refine TrL.move rfl rfl ?_
            refine TrL.move rfl rfl ?_
            refine TrL.idxF rfl rfl rfl se22 sz9 (by assumption) rfl rfl rfl (List.getElem?_eq_getElem (by omega)) (fun b81 o81 hp81 hc81 => ?_)
            refine TrL.loadR1 rfl rfl sc9 (by assumption) ?_
            refine TrL.adds rfl rfl rfl (by omega) ?_
            refine TrL.idxArr (i := 2) rfl rfl rfl ar27 sz9 rfl (by omega) ?_
            --L:b10
            refine TrL.turn ?_
            refine TrL.store1 rfl rfl sz9 rfl (by repeat (first | with_reducible exact Upd.here | with_reducible apply Upd.there | with_reducible apply Upd.app_nil | with_reducible apply Upd.app_cons)) (by rfl) ?_
            refine TrL.nil (At.then_normal ?_)
            refine Tr.seq ?_
            refine Tr.region ?_
            refine TrL.move rfl rfl ?_
            refine TrL.move rfl rfl ?_
            refine TrL.shr rfl rfl rfl (by omega) ?_
            refine TrL.and rfl rfl rfl ?_
            refine TrL.eqi rfl rfl rfl ?_
            refine TrL.nil (At.then_normal ?_)
            refine Tr.cond rfl (fun h89 => ?_) (fun h89 => ?_)
            · try simp only [beq_iff_eq, beq_eq_false_iff_ne, Bool.not_eq_true, Bool.not_eq_false, decide_eq_true_eq, decide_eq_false_iff_not, Bool.not_eq_true', Bool.not_eq_false', bne_iff_ne, Bool.not_eq_eq_eq_not, Bool.not_true, Bool.not_false, ne_eq, Decidable.not_not, Int.not_lt, Int.not_le] at h89
              refine Tr.seq ?_
              refine Tr.seq ?_
              refine Tr.region ?_
              refine TrL.move rfl rfl ?_
              refine TrL.move rfl rfl ?_
              refine TrL.move rfl rfl ?_
              refine TrL.idxF (i := 2) rfl rfl rfl se22 sz9 hnm rfl rfl rfl rfl (fun b93 o93 hp93 hc93 => ?_)
              refine TrL.loadR1 rfl rfl sc9 (by assumption) ?_
              refine TrL.call rfl rfl rfl ca12 (by repeat (first | exact Picks.nil | with_reducible exact Pick.here | with_reducible apply Pick.there | with_reducible apply Pick.app_nil | with_reducible apply Pick.app_cons | apply Picks.cons)) (fun Ft95 hUt95 => Sync_at (e := 0) (S' := ⟨[(⟨#[97]⟩, (y.2.1.1.data.toList, (y.2.1.2.size : Int))), (⟨#[98]⟩, (y.2.2.1.1.data.toList, (y.2.2.1.2.size : Int))), (⟨#[99]⟩, ((y.2.2.2.1 ++ texts[y.1]).data.toList, (List.length ((y.2.2.2.1 ++ texts[y.1]).data.toList) : Int)))], -1, false⟩) okm (syncF_ok (fs := [(⟨#[97]⟩, (y.2.1.1.data.toList, (y.2.1.2.size : Int))), (⟨#[98]⟩, (y.2.2.1.1.data.toList, (y.2.2.1.2.size : Int))), (⟨#[99]⟩, ((y.2.2.2.1 ++ texts[y.1]).data.toList, (y.2.2.2.2.size : Int)))]) (name := ⟨#[99]⟩) (b := ((y.2.2.2.1 ++ texts[y.1]).data.toList, (y.2.2.2.2.size : Int))) (by decide) (by rfl)) ?_)
              rw [show List.length ((y.2.2.2.1 ++ texts[y.1]).data.toList) = (y.2.2.2.1 ++ texts[y.1]).size by simp]
              refine TrL.nei rfl rfl rfl ?_
              refine TrL.knownB (t := 96) (c := false) rfl (by simp) ?_
              refine TrL.nil (At.then_normal ?_)
              refine Tr.condF rfl ?_
              refine Tr.skip (At.then_normal ?_)
              refine Tr.region ?_
              refine TrL.move rfl rfl ?_
              refine TrL.move rfl rfl ?_
              refine TrL.idxArr (i := 2) rfl rfl rfl ar27 sz9 rfl (by omega) ?_
              --L:b10
              refine TrL.load1 rfl rfl sc9 (Sees.cl1 (by repeat (first | with_reducible exact Pick.here | with_reducible apply Pick.there | with_reducible apply Pick.app_nil | with_reducible apply Pick.app_cons)) (by rfl)) ?_
              refine TrL.idxArr (i := 2) rfl rfl rfl ar27 sz9 rfl (by omega) ?_
              --L:b9
              refine TrL.store1 rfl rfl sz9 rfl (by repeat (first | with_reducible exact Upd.here | with_reducible apply Upd.there | with_reducible apply Upd.app_nil | with_reducible apply Upd.app_cons)) (by rfl) ?_
              refine TrL.nil (At.block_normal (At.then_normal ?_))
              refine Tr.region ?_
              refine TrL.move rfl rfl ?_
              refine TrL.addI rfl rfl rfl (by omega) ?_
              refine TrL.assign rfl rfl ?_
              refine TrL.nil ?_
              refine At.again (y.1 + 1, (y.2.1.1, y.2.1.2), (y.2.2.1.1, y.2.2.1.2), ((y.2.2.2.1 ++ texts[y.1]), (y.2.2.2.1 ++ texts[y.1]))) ⟨by omega, ?_, ?_, ?_, ?_, ?_, ?_⟩ (by show texts.length - (y.1 + 1) < texts.length - y.1; omega) (by repeat (first | exact Sub.nil | refine Sub.cons (by rfl) ?_)) (by repeat (first | exact Picks.nil | with_reducible exact Pick.here | with_reducible apply Pick.there | with_reducible apply Pick.app_nil | with_reducible apply Pick.app_cons | apply Picks.cons))
              all_goals simp only [ByteArray.size_append]; omega
            · try simp only [beq_iff_eq, beq_eq_false_iff_ne, Bool.not_eq_true, Bool.not_eq_false, decide_eq_true_eq, decide_eq_false_iff_not, Bool.not_eq_true', Bool.not_eq_false', bne_iff_ne, Bool.not_eq_eq_eq_not, Bool.not_true, Bool.not_false, ne_eq, Decidable.not_not, Int.not_lt, Int.not_le] at h89
              refine Tr.skip (At.block_normal (At.then_normal ?_))
              refine Tr.region ?_
              refine TrL.move rfl rfl ?_
              refine TrL.addI rfl rfl rfl (by omega) ?_
              refine TrL.assign rfl rfl ?_
              refine TrL.nil ?_
              refine At.again (y.1 + 1, (y.2.1.1, y.2.1.2), (y.2.2.1.1, y.2.2.1.2), ((y.2.2.2.1 ++ texts[y.1]), y.2.2.2.2)) ⟨by omega, ?_, ?_, ?_, ?_, ?_, ?_⟩ (by show texts.length - (y.1 + 1) < texts.length - y.1; omega) (by repeat (first | exact Sub.nil | refine Sub.cons (by rfl) ?_)) (by repeat (first | exact Picks.nil | with_reducible exact Pick.here | with_reducible apply Pick.there | with_reducible apply Pick.app_nil | with_reducible apply Pick.app_cons | apply Picks.cons))
              all_goals simp only [ByteArray.size_append]; omega
      · try simp only [beq_iff_eq, beq_eq_false_iff_ne, Bool.not_eq_true, Bool.not_eq_false, decide_eq_true_eq, decide_eq_false_iff_not, Bool.not_eq_true', Bool.not_eq_false', bne_iff_ne, Bool.not_eq_eq_eq_not, Bool.not_true, Bool.not_false, ne_eq, Decidable.not_not, Int.not_lt, Int.not_le] at h52
        refine Tr.exit (At.then_exit (At.then_exit (At.block_hit (At.then_normal ?_))))
        refine Tr.seq ?_
        refine Tr.seq ?_
        have hsA0 : y.2.1.1.data.toList.length = y.2.1.1.size := by simp
        have hsA1 : y.2.2.1.1.data.toList.length = y.2.2.1.1.size := by simp
        have hsA2 : y.2.2.2.1.data.toList.length = y.2.2.2.1.size := by simp
        have hgood : DS.good ⟨[(⟨#[97]⟩, (y.2.1.1.data.toList, (y.2.1.2.size : Int))), (⟨#[98]⟩, (y.2.2.1.1.data.toList, (y.2.2.1.2.size : Int))), (⟨#[99]⟩, (y.2.2.2.1.data.toList, (y.2.2.2.2.size : Int)))], -1, false⟩ := by
          refine ⟨by show _ ≤ _; simp, ?_⟩
          simp only [List.mem_cons, List.not_mem_nil, or_false]
          rintro x (rfl | rfl | rfl) <;> exact ⟨Nat.le_of_ble_eq_true rfl, by simp only [hsA0, hsA1, hsA2]; omega, by simp only; omega, by simp only [hsA0, hsA1, hsA2]; omega⟩
        obtain ⟨m0, hma0, hmb0, hq0⟩ := cut_ex keep 0 (A := y.2.1.1.data.toList) (n := (y.2.1.2.size : Int)) (by omega) (by rw [hsA0]; omega)
        have hz0 : (strOf (y.2.1.1.data.toList.take m0)).size = m0 := by rw [strOf_size, List.length_take]; omega
        obtain ⟨m1, hma1, hmb1, hq1⟩ := cut_ex keep 1 (A := y.2.2.1.1.data.toList) (n := (y.2.2.1.2.size : Int)) (by omega) (by rw [hsA1]; omega)
        have hz1 : (strOf (y.2.2.1.1.data.toList.take m1)).size = m1 := by rw [strOf_size, List.length_take]; omega
        obtain ⟨m2, hma2, hmb2, hq2⟩ := cut_ex keep 2 (A := y.2.2.2.1.data.toList) (n := (y.2.2.2.2.size : Int)) (by omega) (by rw [hsA2]; omega)
        have hz2 : (strOf (y.2.2.2.1.data.toList.take m2)).size = m2 := by rw [strOf_size, List.length_take]; omega
        refine Tr.region ?_
        refine TrL.move rfl rfl ?_
        refine TrL.move rfl rfl ?_
        refine TrL.call rfl rfl rfl ca13 (by repeat (first | exact Picks.nil | with_reducible exact Pick.here | with_reducible apply Pick.there | with_reducible apply Pick.app_nil | with_reducible apply Pick.app_cons | apply Picks.cons)) (fun Ft104 hUt104 => Crash_at (keep := keep) (l := [⟨#[97]⟩, ⟨#[98]⟩, ⟨#[99]⟩]) hgood (SlIn.mono _ _ _ _ _ _ hUt104.le hkeep) (by omega) (by simp) (by simp [Rising]; decide) ?_)
        rw [show crashF keep [⟨#[97]⟩, ⟨#[98]⟩, ⟨#[99]⟩] 0 [(⟨#[97]⟩, (y.2.1.1.data.toList, (y.2.1.2.size : Int))), (⟨#[98]⟩, (y.2.2.1.1.data.toList, (y.2.2.1.2.size : Int))), (⟨#[99]⟩, (y.2.2.2.1.data.toList, (y.2.2.2.2.size : Int)))] = [(⟨#[97]⟩, cutF keep 0 (y.2.1.1.data.toList, (y.2.1.2.size : Int))), (⟨#[98]⟩, cutF keep 1 (y.2.2.1.1.data.toList, (y.2.2.1.2.size : Int))), (⟨#[99]⟩, cutF keep 2 (y.2.2.2.1.data.toList, (y.2.2.2.2.size : Int)))] from rfl]
        rw [hq0, hq1, hq2]
        refine TrL.nei rfl rfl rfl ?_
        refine TrL.knownB (t := 105) (c := false) rfl (by simp) ?_
        refine TrL.nil (At.then_normal ?_)
        refine Tr.condF rfl ?_
        refine Tr.skip (At.then_normal ?_)
        refine Tr.seq ?_
        refine Tr.seq ?_
        refine Tr.region ?_
        refine TrL.assign rfl rfl ?_
        refine TrL.nil (At.then_normal ?_)
        refine Tr.block ?_
        refine Tr.unroll 4 ?_
        refine TrR.succ ?_
        refine Tr.seq ?_
        refine Tr.seq ?_
        refine Tr.region ?_
        refine TrL.move rfl rfl ?_
        refine TrL.lss rfl rfl rfl ?_
        refine TrL.knownB (t := 107) (c := true) rfl (by decide) ?_
        refine TrL.nil (At.then_normal ?_)
        refine Tr.condT rfl ?_
        refine Tr.skip (At.then_normal ?_)
        refine Tr.seq ?_
        refine Tr.block ?_
        refine Tr.seq ?_
        refine Tr.region ?_
        refine TrL.move rfl rfl ?_
        refine TrL.move rfl rfl ?_
        refine TrL.move rfl rfl ?_
        refine TrL.idxF (i := 0) rfl rfl rfl se22 sz9 hnm rfl rfl rfl rfl (fun b114 o114 hp114 hc114 => ?_)
        refine TrL.loadR1 rfl rfl sc9 (by assumption) ?_
        refine TrL.call rfl rfl rfl ca14 (by repeat (first | exact Picks.nil | with_reducible exact Pick.here | with_reducible apply Pick.there | with_reducible apply Pick.app_nil | with_reducible apply Pick.app_cons | apply Picks.cons)) (fun Ft116 hUt116 => Read_at (e := 0) (v := strOf (y.2.1.1.data.toList.take m0)) okm (by rw [readF_ok (fs := [(⟨#[97]⟩, (y.2.1.1.data.toList.take m0, (m0 : Int))), (⟨#[98]⟩, (y.2.2.1.1.data.toList.take m1, (m1 : Int))), (⟨#[99]⟩, (y.2.2.2.1.data.toList.take m2, (m2 : Int)))]) (name := ⟨#[97]⟩) (b := (y.2.1.1.data.toList.take m0, (m0 : Int))) (by decide) (by rfl)]; skip) ?_)
        refine TrL.move rfl rfl ?_
        refine TrL.extract rfl rfl rfl ?_
        refine TrL.extract rfl rfl rfl ?_
        refine TrL.assign rfl rfl ?_
        refine TrL.assign rfl rfl ?_
        refine TrL.nil (At.then_normal ?_)
        refine Tr.seq ?_
        refine Tr.region ?_
        refine TrL.move rfl rfl ?_
        refine TrL.move rfl rfl ?_
        refine TrL.move rfl rfl ?_
        refine TrL.idxF (i := 0) rfl rfl rfl se22 sz9 hnm rfl rfl rfl rfl (fun b123 o123 hp123 hc123 => ?_)
        refine TrL.loadR1 rfl rfl sc9 (by assumption) ?_
        refine TrL.call rfl rfl rfl ca15 (by repeat (first | exact Picks.nil | with_reducible exact Pick.here | with_reducible apply Pick.there | with_reducible apply Pick.app_nil | with_reducible apply Pick.app_cons | apply Picks.cons)) (fun Ft125 hUt125 => Sure_at (e := 0) (v := (m0 : Int)) okm (by rw [sureF_ok (fs := [(⟨#[97]⟩, (y.2.1.1.data.toList.take m0, (m0 : Int))), (⟨#[98]⟩, (y.2.2.1.1.data.toList.take m1, (m1 : Int))), (⟨#[99]⟩, (y.2.2.2.1.data.toList.take m2, (m2 : Int)))]) (name := ⟨#[97]⟩) (b := (y.2.1.1.data.toList.take m0, (m0 : Int))) (by decide) (by rfl)]; skip) ?_)
        refine TrL.move rfl rfl ?_
        refine TrL.extract rfl rfl rfl ?_
        refine TrL.extract rfl rfl rfl ?_
        refine TrL.assign rfl rfl ?_
        refine TrL.assign rfl rfl ?_
        refine TrL.nil (At.then_normal ?_)
        refine Tr.seq ?_
        refine Tr.region ?_
        refine TrL.move rfl rfl ?_
        refine TrL.nei rfl rfl rfl ?_
        refine TrL.knownB (t := 129) (c := false) rfl (by simp) ?_
        refine TrL.move rfl rfl ?_
        refine TrL.want rfl rfl ?_
        refine TrL.move rfl rfl ?_
        refine TrL.want rfl rfl ?_
        refine TrL.nei rfl rfl rfl ?_
        refine TrL.knownB (t := 132) (c := false) rfl (by simp) ?_
        refine TrL.pickF rfl rfl rfl ?_
        refine TrL.move rfl rfl ?_
        refine TrL.want rfl rfl ?_
        refine TrL.move rfl rfl ?_
        refine TrL.want rfl rfl ?_
        refine TrL.move rfl rfl ?_
        refine TrL.want rfl rfl ?_
        refine TrL.lens rfl rfl st9 ?_
        refine TrL.want rfl rfl ?_
        refine TrL.nei rfl rfl rfl ?_
        refine TrL.knownB (t := 138) (c := false) rfl (by rw [hz0]; simp) ?_
        refine TrL.pickF rfl rfl rfl ?_
        refine TrL.move rfl rfl ?_
        refine TrL.want rfl rfl ?_
        refine TrL.move rfl rfl ?_
        refine TrL.want rfl rfl ?_
        refine TrL.lens rfl rfl st9 ?_
        refine TrL.want rfl rfl ?_
        refine TrL.move rfl rfl ?_
        refine TrL.want rfl rfl ?_
        refine TrL.idxArr (i := 0) rfl rfl rfl ar27 sz9 rfl (by omega) ?_
        --L:b9
        refine TrL.want rfl rfl ?_
        refine TrL.load1 rfl rfl sc9 (Sees.cl1 (by repeat (first | with_reducible exact Pick.here | with_reducible apply Pick.there | with_reducible apply Pick.app_nil | with_reducible apply Pick.app_cons)) (by rfl)) ?_
        refine TrL.want rfl rfl ?_
        refine TrL.lens rfl rfl st9 ?_
        refine TrL.want rfl rfl ?_
        refine TrL.lss rfl rfl rfl ?_
        refine TrL.knownB (t := 147) (c := false) rfl (by rw [hz0, decide_eq_false_iff_not]; omega) ?_
        refine TrL.pickF rfl rfl rfl ?_
        refine TrL.move rfl rfl ?_
        refine TrL.want rfl rfl ?_
        refine TrL.move rfl rfl ?_
        refine TrL.want rfl rfl ?_
        refine TrL.lens rfl rfl st9 ?_
        refine TrL.want rfl rfl ?_
        refine TrL.move rfl rfl ?_
        refine TrL.want rfl rfl ?_
        refine TrL.idxArr (i := 0) rfl rfl rfl ar27 sz9 rfl (by omega) ?_
        --L:b10
        refine TrL.want rfl rfl ?_
        refine TrL.load1 rfl rfl sc9 (Sees.cl1 (by repeat (first | with_reducible exact Pick.here | with_reducible apply Pick.there | with_reducible apply Pick.app_nil | with_reducible apply Pick.app_cons)) (by rfl)) ?_
        refine TrL.want rfl rfl ?_
        refine TrL.lens rfl rfl st9 ?_
        refine TrL.want rfl rfl ?_
        refine TrL.gtr rfl rfl rfl ?_
        refine TrL.knownB (t := 156) (c := false) rfl (by rw [hz0, decide_eq_false_iff_not]; omega) ?_
        refine TrL.pickF rfl rfl rfl ?_
        refine TrL.move rfl rfl ?_
        refine TrL.want rfl rfl ?_
        refine TrL.move rfl rfl ?_
        refine TrL.want rfl rfl ?_
        refine TrL.move rfl rfl ?_
        refine TrL.want rfl rfl ?_
        refine TrL.idxArr (i := 0) rfl rfl rfl ar27 sz9 rfl (by omega) ?_
        --L:b10
        refine TrL.want rfl rfl ?_
        refine TrL.load1 rfl rfl sc9 (Sees.cl1 (by repeat (first | with_reducible exact Pick.here | with_reducible apply Pick.there | with_reducible apply Pick.app_nil | with_reducible apply Pick.app_cons)) (by rfl)) ?_
        refine TrL.want rfl rfl ?_
        refine TrL.move rfl rfl ?_
        refine TrL.want rfl rfl ?_
        refine TrL.lens rfl rfl st9 ?_
        refine TrL.want rfl rfl ?_
        refine TrL.cutSH rfl rfl rfl st9 (by omega) (by omega) ?_
        refine TrL.want rfl rfl ?_
        refine TrL.nes rfl rfl rfl ?_
        refine TrL.knownB (t := 166) (c := false) rfl (by rw [hz0, Int.toNat_natCast, strOf_take]; simp) ?_
        refine TrL.pickF rfl rfl rfl ?_
        refine TrL.nil (At.then_normal ?_)
        refine Tr.condF rfl ?_
        refine Tr.skip (At.block_normal (At.then_normal ?_))
        refine Tr.region ?_
        refine TrL.move rfl rfl ?_
        refine TrL.addI rfl rfl rfl (by omega) ?_
        refine TrL.assign rfl rfl ?_
        refine TrL.nil (At.round ?_)
        refine TrR.succ ?_
        refine Tr.seq ?_
        refine Tr.seq ?_
        refine Tr.region ?_
        refine TrL.move rfl rfl ?_
        refine TrL.lss rfl rfl rfl ?_
        refine TrL.knownB (t := 107) (c := true) rfl (by decide) ?_
        refine TrL.nil (At.then_normal ?_)
        refine Tr.condT rfl ?_
        refine Tr.skip (At.then_normal ?_)
        refine Tr.seq ?_
        refine Tr.block ?_
        refine Tr.seq ?_
        refine Tr.region ?_
        refine TrL.move rfl rfl ?_
        refine TrL.move rfl rfl ?_
        refine TrL.move rfl rfl ?_
        refine TrL.idxF (i := 1) rfl rfl rfl se22 sz9 hnm rfl rfl rfl rfl (fun b114 o114 hp114 hc114 => ?_)
        refine TrL.loadR1 rfl rfl sc9 (by assumption) ?_
        refine TrL.call rfl rfl rfl ca14 (by repeat (first | exact Picks.nil | with_reducible exact Pick.here | with_reducible apply Pick.there | with_reducible apply Pick.app_nil | with_reducible apply Pick.app_cons | apply Picks.cons)) (fun Ft116 hUt116 => Read_at (e := 0) (v := strOf (y.2.2.1.1.data.toList.take m1)) okm (by rw [readF_ok (fs := [(⟨#[97]⟩, (y.2.1.1.data.toList.take m0, (m0 : Int))), (⟨#[98]⟩, (y.2.2.1.1.data.toList.take m1, (m1 : Int))), (⟨#[99]⟩, (y.2.2.2.1.data.toList.take m2, (m2 : Int)))]) (name := ⟨#[98]⟩) (b := (y.2.2.1.1.data.toList.take m1, (m1 : Int))) (by decide) (by rfl)]; skip) ?_)
        refine TrL.move rfl rfl ?_
        refine TrL.extract rfl rfl rfl ?_
        refine TrL.extract rfl rfl rfl ?_
        refine TrL.assign rfl rfl ?_
        refine TrL.assign rfl rfl ?_
        refine TrL.nil (At.then_normal ?_)
        refine Tr.seq ?_
        refine Tr.region ?_
        refine TrL.move rfl rfl ?_
        refine TrL.move rfl rfl ?_
        refine TrL.move rfl rfl ?_
        refine TrL.idxF (i := 1) rfl rfl rfl se22 sz9 hnm rfl rfl rfl rfl (fun b123 o123 hp123 hc123 => ?_)
        refine TrL.loadR1 rfl rfl sc9 (by assumption) ?_
        refine TrL.call rfl rfl rfl ca15 (by repeat (first | exact Picks.nil | with_reducible exact Pick.here | with_reducible apply Pick.there | with_reducible apply Pick.app_nil | with_reducible apply Pick.app_cons | apply Picks.cons)) (fun Ft125 hUt125 => Sure_at (e := 0) (v := (m1 : Int)) okm (by rw [sureF_ok (fs := [(⟨#[97]⟩, (y.2.1.1.data.toList.take m0, (m0 : Int))), (⟨#[98]⟩, (y.2.2.1.1.data.toList.take m1, (m1 : Int))), (⟨#[99]⟩, (y.2.2.2.1.data.toList.take m2, (m2 : Int)))]) (name := ⟨#[98]⟩) (b := (y.2.2.1.1.data.toList.take m1, (m1 : Int))) (by decide) (by rfl)]; skip) ?_)
        refine TrL.move rfl rfl ?_
        refine TrL.extract rfl rfl rfl ?_
        refine TrL.extract rfl rfl rfl ?_
        refine TrL.assign rfl rfl ?_
        refine TrL.assign rfl rfl ?_
        refine TrL.nil (At.then_normal ?_)
        refine Tr.seq ?_
        refine Tr.region ?_
        refine TrL.move rfl rfl ?_
        refine TrL.nei rfl rfl rfl ?_
        refine TrL.knownB (t := 129) (c := false) rfl (by simp) ?_
        refine TrL.move rfl rfl ?_
        refine TrL.want rfl rfl ?_
        refine TrL.move rfl rfl ?_
        refine TrL.want rfl rfl ?_
        refine TrL.nei rfl rfl rfl ?_
        refine TrL.knownB (t := 132) (c := false) rfl (by simp) ?_
        refine TrL.pickF rfl rfl rfl ?_
        refine TrL.move rfl rfl ?_
        refine TrL.want rfl rfl ?_
        refine TrL.move rfl rfl ?_
        refine TrL.want rfl rfl ?_
        refine TrL.move rfl rfl ?_
        refine TrL.want rfl rfl ?_
        refine TrL.lens rfl rfl st9 ?_
        refine TrL.want rfl rfl ?_
        refine TrL.nei rfl rfl rfl ?_
        refine TrL.knownB (t := 138) (c := false) rfl (by rw [hz1]; simp) ?_
        refine TrL.pickF rfl rfl rfl ?_
        refine TrL.move rfl rfl ?_
        refine TrL.want rfl rfl ?_
        refine TrL.move rfl rfl ?_
        refine TrL.want rfl rfl ?_
        refine TrL.lens rfl rfl st9 ?_
        refine TrL.want rfl rfl ?_
        refine TrL.move rfl rfl ?_
        refine TrL.want rfl rfl ?_
        refine TrL.idxArr (i := 1) rfl rfl rfl ar27 sz9 rfl (by omega) ?_
        --L:b9
        refine TrL.want rfl rfl ?_
        refine TrL.load1 rfl rfl sc9 (Sees.cl1 (by repeat (first | with_reducible exact Pick.here | with_reducible apply Pick.there | with_reducible apply Pick.app_nil | with_reducible apply Pick.app_cons)) (by rfl)) ?_
        refine TrL.want rfl rfl ?_
        refine TrL.lens rfl rfl st9 ?_
        refine TrL.want rfl rfl ?_
        refine TrL.lss rfl rfl rfl ?_
        refine TrL.knownB (t := 147) (c := false) rfl (by rw [hz1, decide_eq_false_iff_not]; omega) ?_
        refine TrL.pickF rfl rfl rfl ?_
        refine TrL.move rfl rfl ?_
        refine TrL.want rfl rfl ?_
        refine TrL.move rfl rfl ?_
        refine TrL.want rfl rfl ?_
        refine TrL.lens rfl rfl st9 ?_
        refine TrL.want rfl rfl ?_
        refine TrL.move rfl rfl ?_
        refine TrL.want rfl rfl ?_
        refine TrL.idxArr (i := 1) rfl rfl rfl ar27 sz9 rfl (by omega) ?_
        --L:b10
        refine TrL.want rfl rfl ?_
        refine TrL.load1 rfl rfl sc9 (Sees.cl1 (by repeat (first | with_reducible exact Pick.here | with_reducible apply Pick.there | with_reducible apply Pick.app_nil | with_reducible apply Pick.app_cons)) (by rfl)) ?_
        refine TrL.want rfl rfl ?_
        refine TrL.lens rfl rfl st9 ?_
        refine TrL.want rfl rfl ?_
        refine TrL.gtr rfl rfl rfl ?_
        refine TrL.knownB (t := 156) (c := false) rfl (by rw [hz1, decide_eq_false_iff_not]; omega) ?_
        refine TrL.pickF rfl rfl rfl ?_
        refine TrL.move rfl rfl ?_
        refine TrL.want rfl rfl ?_
        refine TrL.move rfl rfl ?_
        refine TrL.want rfl rfl ?_
        refine TrL.move rfl rfl ?_
        refine TrL.want rfl rfl ?_
        refine TrL.idxArr (i := 1) rfl rfl rfl ar27 sz9 rfl (by omega) ?_
        --L:b10
        refine TrL.want rfl rfl ?_
        refine TrL.load1 rfl rfl sc9 (Sees.cl1 (by repeat (first | with_reducible exact Pick.here | with_reducible apply Pick.there | with_reducible apply Pick.app_nil | with_reducible apply Pick.app_cons)) (by rfl)) ?_
        refine TrL.want rfl rfl ?_
        refine TrL.move rfl rfl ?_
        refine TrL.want rfl rfl ?_
        refine TrL.lens rfl rfl st9 ?_
        refine TrL.want rfl rfl ?_
        refine TrL.cutSH rfl rfl rfl st9 (by omega) (by omega) ?_
        refine TrL.want rfl rfl ?_
        refine TrL.nes rfl rfl rfl ?_
        refine TrL.knownB (t := 166) (c := false) rfl (by rw [hz1, Int.toNat_natCast, strOf_take]; simp) ?_
        refine TrL.pickF rfl rfl rfl ?_
        refine TrL.nil (At.then_normal ?_)
        refine Tr.condF rfl ?_
        refine Tr.skip (At.block_normal (At.then_normal ?_))
        refine Tr.region ?_
        refine TrL.move rfl rfl ?_
        refine TrL.addI rfl rfl rfl (by omega) ?_
        refine TrL.assign rfl rfl ?_
        refine TrL.nil (At.round ?_)
        refine TrR.succ ?_
        refine Tr.seq ?_
        refine Tr.seq ?_
        refine Tr.region ?_
        refine TrL.move rfl rfl ?_
        refine TrL.lss rfl rfl rfl ?_
        refine TrL.knownB (t := 107) (c := true) rfl (by decide) ?_
        refine TrL.nil (At.then_normal ?_)
        refine Tr.condT rfl ?_
        refine Tr.skip (At.then_normal ?_)
        refine Tr.seq ?_
        refine Tr.block ?_
        refine Tr.seq ?_
        refine Tr.region ?_
        refine TrL.move rfl rfl ?_
        refine TrL.move rfl rfl ?_
        refine TrL.move rfl rfl ?_
        refine TrL.idxF (i := 2) rfl rfl rfl se22 sz9 hnm rfl rfl rfl rfl (fun b114 o114 hp114 hc114 => ?_)
        refine TrL.loadR1 rfl rfl sc9 (by assumption) ?_
        refine TrL.call rfl rfl rfl ca14 (by repeat (first | exact Picks.nil | with_reducible exact Pick.here | with_reducible apply Pick.there | with_reducible apply Pick.app_nil | with_reducible apply Pick.app_cons | apply Picks.cons)) (fun Ft116 hUt116 => Read_at (e := 0) (v := strOf (y.2.2.2.1.data.toList.take m2)) okm (by rw [readF_ok (fs := [(⟨#[97]⟩, (y.2.1.1.data.toList.take m0, (m0 : Int))), (⟨#[98]⟩, (y.2.2.1.1.data.toList.take m1, (m1 : Int))), (⟨#[99]⟩, (y.2.2.2.1.data.toList.take m2, (m2 : Int)))]) (name := ⟨#[99]⟩) (b := (y.2.2.2.1.data.toList.take m2, (m2 : Int))) (by decide) (by rfl)]; skip) ?_)
        refine TrL.move rfl rfl ?_
        refine TrL.extract rfl rfl rfl ?_
        refine TrL.extract rfl rfl rfl ?_
        refine TrL.assign rfl rfl ?_
        refine TrL.assign rfl rfl ?_
        refine TrL.nil (At.then_normal ?_)
        refine Tr.seq ?_
        refine Tr.region ?_
        refine TrL.move rfl rfl ?_
        refine TrL.move rfl rfl ?_
        refine TrL.move rfl rfl ?_
        refine TrL.idxF (i := 2) rfl rfl rfl se22 sz9 hnm rfl rfl rfl rfl (fun b123 o123 hp123 hc123 => ?_)
        refine TrL.loadR1 rfl rfl sc9 (by assumption) ?_
        refine TrL.call rfl rfl rfl ca15 (by repeat (first | exact Picks.nil | with_reducible exact Pick.here | with_reducible apply Pick.there | with_reducible apply Pick.app_nil | with_reducible apply Pick.app_cons | apply Picks.cons)) (fun Ft125 hUt125 => Sure_at (e := 0) (v := (m2 : Int)) okm (by rw [sureF_ok (fs := [(⟨#[97]⟩, (y.2.1.1.data.toList.take m0, (m0 : Int))), (⟨#[98]⟩, (y.2.2.1.1.data.toList.take m1, (m1 : Int))), (⟨#[99]⟩, (y.2.2.2.1.data.toList.take m2, (m2 : Int)))]) (name := ⟨#[99]⟩) (b := (y.2.2.2.1.data.toList.take m2, (m2 : Int))) (by decide) (by rfl)]; skip) ?_)
        refine TrL.move rfl rfl ?_
        refine TrL.extract rfl rfl rfl ?_
        refine TrL.extract rfl rfl rfl ?_
        refine TrL.assign rfl rfl ?_
        refine TrL.assign rfl rfl ?_
        refine TrL.nil (At.then_normal ?_)
        refine Tr.seq ?_
        refine Tr.region ?_
        refine TrL.move rfl rfl ?_
        refine TrL.nei rfl rfl rfl ?_
        refine TrL.knownB (t := 129) (c := false) rfl (by simp) ?_
        refine TrL.move rfl rfl ?_
        refine TrL.want rfl rfl ?_
        refine TrL.move rfl rfl ?_
        refine TrL.want rfl rfl ?_
        refine TrL.nei rfl rfl rfl ?_
        refine TrL.knownB (t := 132) (c := false) rfl (by simp) ?_
        refine TrL.pickF rfl rfl rfl ?_
        refine TrL.move rfl rfl ?_
        refine TrL.want rfl rfl ?_
        refine TrL.move rfl rfl ?_
        refine TrL.want rfl rfl ?_
        refine TrL.move rfl rfl ?_
        refine TrL.want rfl rfl ?_
        refine TrL.lens rfl rfl st9 ?_
        refine TrL.want rfl rfl ?_
        refine TrL.nei rfl rfl rfl ?_
        refine TrL.knownB (t := 138) (c := false) rfl (by rw [hz2]; simp) ?_
        refine TrL.pickF rfl rfl rfl ?_
        refine TrL.move rfl rfl ?_
        refine TrL.want rfl rfl ?_
        refine TrL.move rfl rfl ?_
        refine TrL.want rfl rfl ?_
        refine TrL.lens rfl rfl st9 ?_
        refine TrL.want rfl rfl ?_
        refine TrL.move rfl rfl ?_
        refine TrL.want rfl rfl ?_
        refine TrL.idxArr (i := 2) rfl rfl rfl ar27 sz9 rfl (by omega) ?_
        --L:b9
        refine TrL.want rfl rfl ?_
        refine TrL.load1 rfl rfl sc9 (Sees.cl1 (by repeat (first | with_reducible exact Pick.here | with_reducible apply Pick.there | with_reducible apply Pick.app_nil | with_reducible apply Pick.app_cons)) (by rfl)) ?_
        refine TrL.want rfl rfl ?_
        refine TrL.lens rfl rfl st9 ?_
        refine TrL.want rfl rfl ?_
        refine TrL.lss rfl rfl rfl ?_
        refine TrL.knownB (t := 147) (c := false) rfl (by rw [hz2, decide_eq_false_iff_not]; omega) ?_
        refine TrL.pickF rfl rfl rfl ?_
        refine TrL.move rfl rfl ?_
        refine TrL.want rfl rfl ?_
        refine TrL.move rfl rfl ?_
        refine TrL.want rfl rfl ?_
        refine TrL.lens rfl rfl st9 ?_
        refine TrL.want rfl rfl ?_
        refine TrL.move rfl rfl ?_
        refine TrL.want rfl rfl ?_
        refine TrL.idxArr (i := 2) rfl rfl rfl ar27 sz9 rfl (by omega) ?_
        --L:b10
        refine TrL.want rfl rfl ?_
        refine TrL.load1 rfl rfl sc9 (Sees.cl1 (by repeat (first | with_reducible exact Pick.here | with_reducible apply Pick.there | with_reducible apply Pick.app_nil | with_reducible apply Pick.app_cons)) (by rfl)) ?_
        refine TrL.want rfl rfl ?_
        refine TrL.lens rfl rfl st9 ?_
        refine TrL.want rfl rfl ?_
        refine TrL.gtr rfl rfl rfl ?_
        refine TrL.knownB (t := 156) (c := false) rfl (by rw [hz2, decide_eq_false_iff_not]; omega) ?_
        refine TrL.pickF rfl rfl rfl ?_
        refine TrL.move rfl rfl ?_
        refine TrL.want rfl rfl ?_
        refine TrL.move rfl rfl ?_
        refine TrL.want rfl rfl ?_
        refine TrL.move rfl rfl ?_
        refine TrL.want rfl rfl ?_
        refine TrL.idxArr (i := 2) rfl rfl rfl ar27 sz9 rfl (by omega) ?_
        --L:b10
        refine TrL.want rfl rfl ?_
        refine TrL.load1 rfl rfl sc9 (Sees.cl1 (by repeat (first | with_reducible exact Pick.here | with_reducible apply Pick.there | with_reducible apply Pick.app_nil | with_reducible apply Pick.app_cons)) (by rfl)) ?_
        refine TrL.want rfl rfl ?_
        refine TrL.move rfl rfl ?_
        refine TrL.want rfl rfl ?_
        refine TrL.lens rfl rfl st9 ?_
        refine TrL.want rfl rfl ?_
        refine TrL.cutSH rfl rfl rfl st9 (by omega) (by omega) ?_
        refine TrL.want rfl rfl ?_
        refine TrL.nes rfl rfl rfl ?_
        refine TrL.knownB (t := 166) (c := false) rfl (by rw [hz2, Int.toNat_natCast, strOf_take]; simp) ?_
        refine TrL.pickF rfl rfl rfl ?_
        refine TrL.nil (At.then_normal ?_)
        refine Tr.condF rfl ?_
        refine Tr.skip (At.block_normal (At.then_normal ?_))
        refine Tr.region ?_
        refine TrL.move rfl rfl ?_
        refine TrL.addI rfl rfl rfl (by omega) ?_
        refine TrL.assign rfl rfl ?_
        refine TrL.nil (At.round ?_)
        refine TrR.succ ?_
        refine Tr.seq ?_
        refine Tr.seq ?_
        refine Tr.region ?_
        refine TrL.move rfl rfl ?_
        refine TrL.lss rfl rfl rfl ?_
        refine TrL.knownB (t := 107) (c := false) rfl (by decide) ?_
        refine TrL.nil (At.then_normal ?_)
        refine Tr.condF rfl ?_
        refine Tr.exit (At.then_exit (At.then_exit (At.block_hit (At.then_normal ?_))))
        refine Tr.seq ?_
        refine Tr.region ?_
        refine TrL.call rfl rfl rfl ca9 .nil (fun Ft168 hUt168 => awake_spec ?_)
        refine TrL.assign rfl rfl ?_
        refine TrL.nil (At.then_normal ?_)
        refine Tr.ret (At.retP [] (.inl rfl) rfl (Res.tmp rfl Res.nil) (by repeat (first | exact Picks.nil | with_reducible exact Pick.here | with_reducible apply Pick.there | with_reducible apply Pick.app_nil | with_reducible apply Pick.app_cons | apply Picks.cons)) (by exact hK))
end Go.Proofs.Ytojfmielpjccdaa

/-
  slices.stableCmpFunc and slices.SortStableFunc at tables, walked.
  No condition but those that each statement names.
-/
import Derived.Test.YtiefmfimbmkdjaaMfM
namespace Go.Proofs.Ytiefmfimbmkdjaa
set_option linter.unusedSimpArgs false
set_option linter.unusedVariables false
set_option linter.unusedSectionVars false
open Go.RowKit
variable [Obs]


theorem cut3 (L : List Tab) (a k : Nat) : L = L.take a ++ ((L.drop a).take k ++ L.drop (a + k)) := by rw [← List.drop_drop, List.take_append_drop, List.take_append_drop]
theorem cut4 (L : List Tab) (a k : Nat) : L = L.take a ++ ((L.drop a).take k ++ ((L.drop (a + k)).take k ++ L.drop (a + 2 * k))) := by
  rw [show a + 2 * k = a + k + k by omega, ← List.drop_drop (i := k) (j := a + k) (l := L), List.take_append_drop, ← List.drop_drop (i := k) (j := a) (l := L), List.take_append_drop, List.take_append_drop]
theorem cut5 (L : List Tab) (a k : Nat) : L = L.take a ++ ((L.drop a).take k ++ (L.drop (a + k) ++ [])) := by rw [List.append_nil]; exact cut3 L a k
theorem perm_mid {X M M' Y Z : List Tab} (h : (X ++ (M ++ Y)).Perm Z) (p : M'.Perm M) : (X ++ (M' ++ Y)).Perm Z := (List.Perm.append_left _ (List.Perm.append_right _ p)).trans h
set_option maxHeartbeats 8000000 in
theorem stable_spec {F : Hp} {K : Value → List HProp → Prop} {p : Option Addr} {cap len : Nat} {l : List Tab} (hlen : len = l.length) (hbd : len ≤ 100000) (hK : ∀ L : List Tab, L.Perm l → SortedL ltT L → K (.tuple #[]) [Own 46 4 encT p cap (L)]) :
    CallK Try.prog F 66 #[.slice p len cap, .int .i64 (len : Int), .func (.func 50) #[] #[]] [Own 46 4 encT p cap (l)] K := by
  refine CallK.enter Try.func66 rfl Try.ntmps66 rfl ?_
  refine Tr.seq ?_
  refine Tr.region ?_
  refine TrL.assign rfl rfl ?_
  refine TrL.nil (At.then_normal ?_)
  refine Tr.seq ?_
  refine Tr.region ?_
  refine TrL.move rfl rfl ?_
  refine TrL.assign rfl rfl ?_
  refine TrL.assign rfl rfl ?_
  refine TrL.nil (At.then_normal ?_)
  refine Tr.seq ?_
  refine Tr.block ?_
  refine Tr.loopK [0, 1, 2, 6] (α := Nat × Nat × List Tab) (fun y => [(7, .int .i64 (y.1 : Int)), (8, .int .i64 ((y.1 + 20 : Nat) : Int))]) (fun y => [Own 46 4 encT p cap (y.2.2)]) (fun y => y.1 ≤ l.length ∧ y.1 = y.2.1 * 20 ∧ y.2.2.Perm l ∧ BlkTo ltT 20 y.2.2 y.2.1) (fun y => l.length + 20 - y.1) (0, 0, l) (by rfl) ?_ (by repeat (first | exact Sub.nil | refine Sub.cons (by rfl) ?_)) (by repeat (first | exact Picks.nil | with_reducible exact Pick.here | with_reducible apply Pick.there | with_reducible apply Pick.app_nil | with_reducible apply Pick.app_cons | apply Picks.cons)) ?_
  · exact ⟨Nat.zero_le _, rfl, .refl _, fun i hi => absurd hi (Nat.not_lt_zero _)⟩
  rintro ⟨a, j, L⟩ ⟨hy1, hy2, hy3, hy4⟩
  dsimp only at hy1 hy2 hy3 hy4 ⊢
  have hLl := hy3.length_eq
  refine Tr.seq ?_
  refine Tr.seq ?_
  refine Tr.region ?_
  refine TrL.move rfl rfl ?_
  refine TrL.move rfl rfl ?_
  refine TrL.leq rfl rfl rfl ?_
  refine TrL.nil (At.then_normal ?_)
  refine Tr.cond rfl (fun h13 => ?_) (fun h13 => ?_)
  · try simp only [beq_iff_eq, beq_eq_false_iff_ne, Bool.not_eq_true, Bool.not_eq_false, decide_eq_true_eq, decide_eq_false_iff_not, Bool.not_eq_true', Bool.not_eq_false', bne_iff_ne, Bool.not_eq_eq_eq_not, Bool.not_true, Bool.not_false, ne_eq, Decidable.not_not, Int.not_lt, Int.not_le] at h13
    refine Tr.skip (At.then_normal ?_)
    refine Tr.block ?_
    refine Tr.seq ?_
    refine Tr.region ?_
    refine TrL.move rfl rfl ?_
    refine TrL.move rfl rfl ?_
    refine TrL.move rfl rfl ?_
    refine TrL.move rfl rfl ?_
    refine TrL.call rfl rfl rfl ca72 (by repeat (first | exact Picks.nil | with_reducible exact Pick.here | with_reducible apply Pick.there | with_reducible apply Pick.app_nil | with_reducible apply Pick.app_cons | apply Picks.cons)) (fun Ft18 hUt18 => insertion_spec (l := L) (X := L.take a) (M := (L.drop a).take 20) (Y := L.drop (a + 20)) (cut3 L a 20) (by omega) (by omega) (by simp; omega) (by simp; omega) (fun M' hM1 hM2 => ?_))
    refine TrL.nil (At.then_normal ?_)
    refine Tr.seq ?_
    refine Tr.region ?_
    refine TrL.move rfl rfl ?_
    refine TrL.assign rfl rfl ?_
    refine TrL.nil (At.then_normal ?_)
    refine Tr.region ?_
    refine TrL.move rfl rfl ?_
    refine TrL.move rfl rfl ?_
    refine TrL.addI rfl rfl rfl (by omega) ?_
    refine TrL.assign rfl rfl ?_
    refine TrL.nil (At.block_normal ?_)
    have hM3 := hM1.length_eq
    simp only [List.length_take, List.length_drop] at hM3
    have hX1 : (L.take a).length = a := by simp; omega
    rw [show ((a + 20 : Nat) : Int) + 20 = ((a + 20 + 20 : Nat) : Int) by omega]
    refine At.again (a + 20, j + 1, L.take a ++ (M' ++ L.drop (a + 20))) ⟨by show a + 20 ≤ _; omega, by show a + 20 = (j + 1) * 20; omega, perm_mid (by rw [← cut3]; exact hy3) hM1, BlkTo.step (M := (L.drop a).take 20) (by rw [← cut3]; exact hy4) (by omega) (by omega) (fun h => absurd h (by omega)) hM2⟩ (by show l.length + 20 - (a + 20) < l.length + 20 - a; omega) (by repeat (first | exact Sub.nil | refine Sub.cons (by rfl) ?_)) (by repeat (first | exact Picks.nil | with_reducible exact Pick.here | with_reducible apply Pick.there | with_reducible apply Pick.app_nil | with_reducible apply Pick.app_cons | apply Picks.cons))
  · try simp only [beq_iff_eq, beq_eq_false_iff_ne, Bool.not_eq_true, Bool.not_eq_false, decide_eq_true_eq, decide_eq_false_iff_not, Bool.not_eq_true', Bool.not_eq_false', bne_iff_ne, Bool.not_eq_eq_eq_not, Bool.not_true, Bool.not_false, ne_eq, Decidable.not_not, Int.not_lt, Int.not_le] at h13
    refine Tr.exit (At.then_exit (At.then_exit (At.block_hit (At.then_normal ?_))))
    refine Tr.seq ?_
    refine Tr.region ?_
    refine TrL.move rfl rfl ?_
    refine TrL.move rfl rfl ?_
    refine TrL.move rfl rfl ?_
    refine TrL.move rfl rfl ?_
    refine TrL.call rfl rfl rfl ca72 (by repeat (first | exact Picks.nil | with_reducible exact Pick.here | with_reducible apply Pick.there | with_reducible apply Pick.app_nil | with_reducible apply Pick.app_cons | apply Picks.cons)) (fun Ft27 hUt27 => insertion_spec (l := L) (X := L.take a) (M := L.drop a) (Y := []) (by simp) (by omega) (by omega) (by simp; omega) (by simp; omega) (fun M' hM1 hM2 => ?_))
    have hM3 := hM1.length_eq
    simp only [List.length_drop] at hM3
    have hX1 : (L.take a).length = a := by simp; omega
    have hPm : (L.take a ++ (M' ++ [])).Perm l := perm_mid (by simpa using hy3) hM1
    have hBl : Blocks ltT 20 (L.take a ++ (M' ++ [])) := (BlkTo.step (M := L.drop a) (by simpa using hy4) (by omega) (by omega) (fun _ => rfl) hM2).all (by have := hPm.length_eq; omega)
    refine TrL.nil (At.then_normal ?_)
    refine Tr.block ?_
    refine Tr.loopK [0, 1, 2] (α := Nat × List Tab) (fun y => [(6, .int .i64 (y.1 : Int))]) (fun y => [Own 46 4 encT p cap (y.2)]) (fun y => 1 ≤ y.1 ∧ y.1 ≤ 2 * l.length + 20 ∧ y.2.Perm l ∧ Blocks ltT y.1 y.2) (fun y => l.length - y.1) (20, L.take a ++ (M' ++ [])) (by rfl) ?_ (by repeat (first | exact Sub.nil | refine Sub.cons (by rfl) ?_)) (by repeat (first | exact Picks.nil | with_reducible exact Pick.here | with_reducible apply Pick.there | with_reducible apply Pick.app_nil | with_reducible apply Pick.app_cons | apply Picks.cons)) ?_
    · exact ⟨by show 1 ≤ 20; decide, by show 20 ≤ _; omega, hPm, hBl⟩
    rintro ⟨bs, L⟩ ⟨hq0, hq1, hq2, hq3⟩
    dsimp only at hq0 hq1 hq2 hq3 ⊢
    refine Tr.seq ?_
    refine Tr.seq ?_
    refine Tr.region ?_
    refine TrL.move rfl rfl ?_
    refine TrL.move rfl rfl ?_
    refine TrL.lss rfl rfl rfl ?_
    refine TrL.nil (At.then_normal ?_)
    refine Tr.cond rfl (fun h30 => ?_) (fun h30 => ?_)
    · try simp only [beq_iff_eq, beq_eq_false_iff_ne, Bool.not_eq_true, Bool.not_eq_false, decide_eq_true_eq, decide_eq_false_iff_not, Bool.not_eq_true', Bool.not_eq_false', bne_iff_ne, Bool.not_eq_eq_eq_not, Bool.not_true, Bool.not_false, ne_eq, Decidable.not_not, Int.not_lt, Int.not_le] at h30
      refine Tr.skip (At.then_normal ?_)
      refine Tr.block ?_
      refine Tr.seq ?_
      refine Tr.region ?_
      refine TrL.move rfl rfl ?_
      refine TrL.mulI rfl rfl rfl (by omega) ?_
      refine TrL.assign rfl rfl ?_
      refine TrL.assign rfl rfl ?_
      refine TrL.nil (At.then_normal ?_)
      refine Tr.seq ?_
      refine Tr.block ?_
      rw [show (2 : Int) * (bs : Int) = ((0 + 2 * bs : Nat) : Int) by omega]
      refine Tr.loopK [0, 1, 2, 6] (α := Nat × Nat × List Tab) (fun y => [(7, .int .i64 (y.1 : Int)), (8, .int .i64 ((y.1 + 2 * bs : Nat) : Int))]) (fun y => [Own 46 4 encT p cap (y.2.2)]) (fun y => y.1 ≤ l.length ∧ y.1 = y.2.1 * (2 * bs) ∧ y.2.2.Perm l ∧ BlkTo ltT (2 * bs) y.2.2 y.2.1 ∧ BlkFrom ltT bs y.2.2 (2 * y.2.1)) (fun y => l.length + 2 * bs - y.1) (0, 0, L) (by rfl) ?_ (by repeat (first | exact Sub.nil | refine Sub.cons (by rfl) ?_)) (by repeat (first | exact Picks.nil | with_reducible exact Pick.here | with_reducible apply Pick.there | with_reducible apply Pick.app_nil | with_reducible apply Pick.app_cons | apply Picks.cons)) ?_
      · exact ⟨Nat.zero_le _, by simp, hq2, fun i hi => absurd hi (Nat.not_lt_zero _), fun i _ => hq3 i⟩
      rintro ⟨a, j, L⟩ ⟨hy1, hy2, hy3, hy4, hy5⟩
      dsimp only at hy1 hy2 hy3 hy4 hy5 ⊢
      have hLl := hy3.length_eq
      refine Tr.seq ?_
      refine Tr.seq ?_
      refine Tr.region ?_
      refine TrL.move rfl rfl ?_
      refine TrL.move rfl rfl ?_
      refine TrL.leq rfl rfl rfl ?_
      refine TrL.nil (At.then_normal ?_)
      refine Tr.cond rfl (fun h35 => ?_) (fun h35 => ?_)
      · try simp only [beq_iff_eq, beq_eq_false_iff_ne, Bool.not_eq_true, Bool.not_eq_false, decide_eq_true_eq, decide_eq_false_iff_not, Bool.not_eq_true', Bool.not_eq_false', bne_iff_ne, Bool.not_eq_eq_eq_not, Bool.not_true, Bool.not_false, ne_eq, Decidable.not_not, Int.not_lt, Int.not_le] at h35
        refine Tr.skip (At.then_normal ?_)
        refine Tr.block ?_
        refine Tr.seq ?_
        have hsA : SortedL ltT ((L.drop a).take bs) := by have := hy5 (2 * j) (Nat.le_refl _); rwa [show 2 * j * bs = a by rw [hy2, Nat.mul_comm 2 j, Nat.mul_assoc]] at this
        have hsB : SortedL ltT ((L.drop (a + bs)).take bs) := by have := hy5 (2 * j + 1) (by omega); rwa [show (2 * j + 1) * bs = a + bs by rw [hy2, Nat.add_mul, Nat.one_mul, Nat.mul_comm 2 j, Nat.mul_assoc]] at this
        refine Tr.region ?_
        refine TrL.move rfl rfl ?_
        refine TrL.move rfl rfl ?_
        refine TrL.move rfl rfl ?_
        refine TrL.move rfl rfl ?_
        refine TrL.addI rfl rfl rfl (by omega) ?_
        rw [show (a : Int) + (bs : Int) = ((a + bs : Nat) : Int) by omega]
        refine TrL.move rfl rfl ?_
        refine TrL.move rfl rfl ?_
        refine TrL.call rfl rfl rfl ca73 (by repeat (first | exact Picks.nil | with_reducible exact Pick.here | with_reducible apply Pick.there | with_reducible apply Pick.app_nil | with_reducible apply Pick.app_cons | apply Picks.cons)) (fun Ft43 hUt43 => symMerge_spec (2 * bs) (l := L) (X := L.take a) (A := (L.drop a).take bs) (B := (L.drop (a + bs)).take bs) (Y := L.drop (a + 2 * bs)) (by simp only [List.length_take]; omega) (cut4 L a bs) (by intro h; have := congrArg List.length h; simp only [List.length_take, List.length_drop, List.length_nil] at this; omega) (by intro h; have := congrArg List.length h; simp only [List.length_take, List.length_drop, List.length_nil] at this; omega) hsA hsB (by omega) (by omega) (by simp; omega) (by simp; omega) (by simp; omega) (fun C hC1 hC2 => ?_))
        refine TrL.nil (At.then_normal ?_)
        refine Tr.seq ?_
        refine Tr.region ?_
        refine TrL.move rfl rfl ?_
        refine TrL.assign rfl rfl ?_
        refine TrL.nil (At.then_normal ?_)
        refine Tr.region ?_
        refine TrL.move rfl rfl ?_
        refine TrL.move rfl rfl ?_
        refine TrL.mulI rfl rfl rfl (by omega) ?_
        refine TrL.addI rfl rfl rfl (by omega) ?_
        refine TrL.assign rfl rfl ?_
        refine TrL.nil (At.block_normal ?_)
        have hC3 := hC1.length_eq
        simp only [List.length_append, List.length_take, List.length_drop] at hC3
        have hX1 : (L.take a).length = a := by simp; omega
        rw [show ((a + 2 * bs : Nat) : Int) + 2 * (bs : Int) = ((a + 2 * bs + 2 * bs : Nat) : Int) by omega]
        have hL4 : L = L.take a ++ (((L.drop a).take bs ++ (L.drop (a + bs)).take bs) ++ L.drop (a + 2 * bs)) := by rw [List.append_assoc]; exact cut4 L a bs
        refine At.again (a + 2 * bs, j + 1, L.take a ++ (C ++ L.drop (a + 2 * bs))) ⟨by show a + 2 * bs ≤ _; omega, by show a + 2 * bs = (j + 1) * (2 * bs); rw [show (j + 1) * (2 * bs) = j * (2 * bs) + 2 * bs from Nat.succ_mul _ _]; omega, perm_mid (by rw [← hL4]; exact hy3) hC1, BlkTo.step (M := (L.drop a).take bs ++ (L.drop (a + bs)).take bs) (by rw [← hL4]; exact hy4) (by omega) (by omega) (fun h => absurd h (by omega)) hC2, BlkFrom.step (M := (L.drop a).take bs ++ (L.drop (a + bs)).take bs) (j := 2 * j) (by rw [← hL4]; exact hy5) hC1.length_eq.symm ?_ (by show 2 * j ≤ 2 * (j + 1); omega)⟩ (by show l.length + 2 * bs - (a + 2 * bs) < l.length + 2 * bs - a; omega) (by repeat (first | exact Sub.nil | refine Sub.cons (by rfl) ?_)) (by repeat (first | exact Picks.nil | with_reducible exact Pick.here | with_reducible apply Pick.there | with_reducible apply Pick.app_nil | with_reducible apply Pick.app_cons | apply Picks.cons))
        show (L.take a).length + _ ≤ 2 * (j + 1) * bs
        rw [show 2 * (j + 1) * bs = j * (2 * bs) + 2 * bs by rw [Nat.mul_comm 2 (j + 1), Nat.mul_assoc, Nat.succ_mul], ← hy2]
        simp only [List.length_append, List.length_take, List.length_drop]; omega
      · try simp only [beq_iff_eq, beq_eq_false_iff_ne, Bool.not_eq_true, Bool.not_eq_false, decide_eq_true_eq, decide_eq_false_iff_not, Bool.not_eq_true', Bool.not_eq_false', bne_iff_ne, Bool.not_eq_eq_eq_not, Bool.not_true, Bool.not_false, ne_eq, Decidable.not_not, Int.not_lt, Int.not_le] at h35
        refine Tr.exit (At.then_exit (At.then_exit (At.block_hit (At.then_normal ?_))))
        refine Tr.seq ?_
        refine Tr.seq ?_
        have hsA : SortedL ltT ((L.drop a).take bs) := by have := hy5 (2 * j) (Nat.le_refl _); rwa [show 2 * j * bs = a by rw [hy2, Nat.mul_comm 2 j, Nat.mul_assoc]] at this
        refine Tr.region ?_
        refine TrL.move rfl rfl ?_
        refine TrL.move rfl rfl ?_
        refine TrL.addI rfl rfl rfl (by omega) ?_
        rw [show (a : Int) + (bs : Int) = ((a + bs : Nat) : Int) by omega]
        refine TrL.assign rfl rfl ?_
        refine TrL.nil (At.then_normal ?_)
        refine Tr.seq ?_
        refine Tr.region ?_
        refine TrL.move rfl rfl ?_
        refine TrL.move rfl rfl ?_
        refine TrL.lss rfl rfl rfl ?_
        refine TrL.nil (At.then_normal ?_)
        refine Tr.cond rfl (fun h54 => ?_) (fun h54 => ?_)
        · try simp only [beq_iff_eq, beq_eq_false_iff_ne, Bool.not_eq_true, Bool.not_eq_false, decide_eq_true_eq, decide_eq_false_iff_not, Bool.not_eq_true', Bool.not_eq_false', bne_iff_ne, Bool.not_eq_eq_eq_not, Bool.not_true, Bool.not_false, ne_eq, Decidable.not_not, Int.not_lt, Int.not_le] at h54
          have hsB : SortedL ltT (L.drop (a + bs)) := by
            have := hy5 (2 * j + 1) (by omega)
            rwa [show (2 * j + 1) * bs = a + bs by rw [hy2, Nat.add_mul, Nat.one_mul, Nat.mul_comm 2 j, Nat.mul_assoc], List.take_of_length_le (by simp only [List.length_drop]; omega)] at this
          refine Tr.region ?_
          refine TrL.move rfl rfl ?_
          refine TrL.move rfl rfl ?_
          refine TrL.move rfl rfl ?_
          refine TrL.move rfl rfl ?_
          refine TrL.move rfl rfl ?_
          refine TrL.call rfl rfl rfl ca73 (by repeat (first | exact Picks.nil | with_reducible exact Pick.here | with_reducible apply Pick.there | with_reducible apply Pick.app_nil | with_reducible apply Pick.app_cons | apply Picks.cons)) (fun Ft60 hUt60 => symMerge_spec (2 * bs) (l := L) (X := L.take a) (A := (L.drop a).take bs) (B := L.drop (a + bs)) (Y := []) (by simp only [List.length_take, List.length_drop]; omega) (cut5 L a bs) (by intro h; have := congrArg List.length h; simp only [List.length_take, List.length_drop, List.length_nil] at this; omega) (by intro h; have := congrArg List.length h; simp only [List.length_take, List.length_drop, List.length_nil] at this; omega) hsA hsB (by omega) (by omega) (by simp; omega) (by simp; omega) (by simp; omega) (fun C hC1 hC2 => ?_))
          refine TrL.nil (At.then_normal ?_)
          refine Tr.region ?_
          refine TrL.move rfl rfl ?_
          refine TrL.mulI rfl rfl rfl (by omega) ?_
          refine TrL.assign rfl rfl ?_
          refine TrL.nil (At.block_normal ?_)
          have hC3 := hC1.length_eq
          simp only [List.length_append, List.length_take, List.length_drop] at hC3
          have hX1 : (L.take a).length = a := by simp; omega
          have hPm : (L.take a ++ (C ++ [])).Perm l := perm_mid (by have := cut5 L a bs; rw [List.append_assoc]; rwa [← this]) hC1
          have hBl : Blocks ltT (2 * bs) (L.take a ++ (C ++ [])) := (BlkTo.step (M := (L.drop a).take bs ++ L.drop (a + bs)) (by rw [List.append_assoc, ← cut5]; exact hy4) (by omega) (by omega) (fun _ => rfl) hC2).all (by have := hPm.length_eq; rw [show (j + 1) * (2 * bs) = j * (2 * bs) + 2 * bs from Nat.succ_mul _ _]; omega)
          rw [show (bs : Int) * 2 = ((2 * bs : Nat) : Int) by omega]
          refine At.again (2 * bs, L.take a ++ (C ++ [])) ⟨by show 1 ≤ 2 * bs; omega, by show 2 * bs ≤ _; omega, hPm, hBl⟩ (by show l.length - 2 * bs < l.length - bs; omega) (by repeat (first | exact Sub.nil | refine Sub.cons (by rfl) ?_)) (by repeat (first | exact Picks.nil | with_reducible exact Pick.here | with_reducible apply Pick.there | with_reducible apply Pick.app_nil | with_reducible apply Pick.app_cons | apply Picks.cons))
        · try simp only [beq_iff_eq, beq_eq_false_iff_ne, Bool.not_eq_true, Bool.not_eq_false, decide_eq_true_eq, decide_eq_false_iff_not, Bool.not_eq_true', Bool.not_eq_false', bne_iff_ne, Bool.not_eq_eq_eq_not, Bool.not_true, Bool.not_false, ne_eq, Decidable.not_not, Int.not_lt, Int.not_le] at h54
          refine Tr.skip (At.then_normal ?_)
          refine Tr.region ?_
          refine TrL.move rfl rfl ?_
          refine TrL.mulI rfl rfl rfl (by omega) ?_
          refine TrL.assign rfl rfl ?_
          refine TrL.nil (At.block_normal ?_)
          have hsL : SortedL ltT (L.drop a) := by rwa [List.take_of_length_le (by simp only [List.length_drop]; omega)] at hsA
          have hX1 : (L.take a).length = a := by simp; omega
          have hBl : Blocks ltT (2 * bs) L := by
            have h1 := (BlkTo.step (M := L.drop a) (M' := L.drop a) (Y := []) (X := L.take a) (by simpa using hy4) (by omega) (by simp only [List.length_drop]; omega) (fun _ => rfl) hsL).all (by simp only [List.length_append, List.length_take, List.length_drop, List.length_nil]; rw [show (j + 1) * (2 * bs) = j * (2 * bs) + 2 * bs from Nat.succ_mul _ _]; omega)
            simpa using h1
          rw [show (bs : Int) * 2 = ((2 * bs : Nat) : Int) by omega]
          refine At.again (2 * bs, L) ⟨by show 1 ≤ 2 * bs; omega, by show 2 * bs ≤ _; omega, hy3, hBl⟩ (by show l.length - 2 * bs < l.length - bs; omega) (by repeat (first | exact Sub.nil | refine Sub.cons (by rfl) ?_)) (by repeat (first | exact Picks.nil | with_reducible exact Pick.here | with_reducible apply Pick.there | with_reducible apply Pick.app_nil | with_reducible apply Pick.app_cons | apply Picks.cons))
    · try simp only [beq_iff_eq, beq_eq_false_iff_ne, Bool.not_eq_true, Bool.not_eq_false, decide_eq_true_eq, decide_eq_false_iff_not, Bool.not_eq_true', Bool.not_eq_false', bne_iff_ne, Bool.not_eq_eq_eq_not, Bool.not_true, Bool.not_false, ne_eq, Decidable.not_not, Int.not_lt, Int.not_le] at h30
      refine Tr.exit (At.then_exit (At.then_exit (At.block_hit (At.retP [_] (.inr rfl) rfl Res.nil (by repeat (first | exact Picks.nil | with_reducible exact Pick.here | with_reducible apply Pick.there | with_reducible apply Pick.app_nil | with_reducible apply Pick.app_cons | apply Picks.cons)) (by exact hK L hq2 (blocks_all hq3 (by have := hq2.length_eq; omega)))))))

theorem SortStable_spec {F : Hp} {K : Value → List HProp → Prop} {p : Option Addr} {cap len : Nat} {l : List Tab} (hlen : len = l.length) (hbd : len ≤ 100000) (hK : ∀ L : List Tab, L.Perm l → SortedL ltT L → K (.tuple #[]) [Own 46 4 encT p cap (L)]) :
    CallK Try.prog F 49 #[.slice p len cap, .func (.func 50) #[] #[]] [Own 46 4 encT p cap (l)] K := by
  refine CallK.enter Try.func49 rfl Try.ntmps49 rfl ?_
  refine Tr.region ?_
  refine TrL.move rfl rfl ?_
  refine TrL.move rfl rfl ?_
  refine TrL.lenl rfl rfl se22 ?_
  refine TrL.move rfl rfl ?_
  refine TrL.call rfl rfl rfl ca66 (by repeat (first | exact Picks.nil | with_reducible exact Pick.here | with_reducible apply Pick.there | with_reducible apply Pick.app_nil | with_reducible apply Pick.app_cons | apply Picks.cons)) (fun Ft8 hUt8 => stable_spec hlen hbd (fun L h1 h2 => ?_))
  refine TrL.nil (At.retP [_] (.inr rfl) rfl Res.nil (by repeat (first | exact Picks.nil | with_reducible exact Pick.here | with_reducible apply Pick.there | with_reducible apply Pick.app_nil | with_reducible apply Pick.app_cons | apply Picks.cons)) (by exact hK L h1 h2))
end Go.Proofs.Ytiefmfimbmkdjaa

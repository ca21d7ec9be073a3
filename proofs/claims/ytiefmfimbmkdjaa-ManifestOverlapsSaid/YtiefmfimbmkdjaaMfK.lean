/-
  slices.insertionSortCmpFunc at tables, walked.
  No condition but those that each statement names.
-/
import Derived.Test.YtiefmfimbmkdjaaMfJ
namespace Go.Proofs.Ytiefmfimbmkdjaa
set_option linter.unusedSimpArgs false
set_option linter.unusedVariables false
set_option linter.unusedSectionVars false
open Go.RowKit
variable [Obs]


theorem ins_at {X P W : List Tab} {x : Tab} : (X ++ (P ++ (x :: W)))[X.length + P.length]? = some x := by
  have := at_app (X ++ P) W x
  rwa [List.length_append, List.append_assoc] at this
theorem ins_at' {X P W : List Tab} {u : Tab} : (X ++ ((P ++ [u]) ++ W))[X.length + P.length]? = some u := by simp
theorem ins_swap {X P W : List Tab} {u x : Tab} : ((X ++ ((P ++ [u]) ++ (x :: W))).set (X.length + (P ++ [u]).length) u).set (X.length + P.length) x = X ++ (P ++ (x :: (u :: W))) := by
  have := swap_adj (X ++ P) W x u
  simp only [List.length_append, List.length_singleton, List.append_assoc, List.cons_append, List.nil_append] at this ⊢
  rw [← Nat.add_assoc]; exact this
set_option maxHeartbeats 2000000 in
theorem insertion_spec {F : Hp} {K : Value → List HProp → Prop} {p : Option Addr} {cap len : Nat} {l : List Tab} {X M Y : List Tab} (hl : l = X ++ (M ++ Y)) (hlen : len = l.length) (hbd : len ≤ 1000000) {a b : Nat} (ha : a = X.length) (hb : b = X.length + M.length) (hK : ∀ M' : List Tab, M'.Perm M → SortedL ltT M' → K (.tuple #[]) [Own 46 4 encT p cap (X ++ (M' ++ Y))]) :
    CallK Try.prog F 72 #[.slice p len cap, .int .i64 (a : Int), .int .i64 (b : Int), .func (.func 50) #[] #[]] [Own 46 4 encT p cap (l)] K := by
  subst hl ha hb
  simp only [List.length_append] at hlen
  refine CallK.enter Try.func72 rfl Try.ntmps72 rfl ?_
  refine Tr.seq ?_
  refine Tr.region ?_
  refine TrL.move rfl rfl ?_
  refine TrL.addI rfl rfl rfl (by omega) ?_
  refine TrL.assign rfl rfl ?_
  refine TrL.nil (At.then_normal ?_)
  refine Tr.block ?_
  refine Tr.loopK [0, 1, 2, 3] (α := Nat × List Tab) (fun y => [(8, .int .i64 (y.1 : Int))]) (fun y => [Own 46 4 encT p cap (X ++ (y.2 ++ Y))]) (fun y => X.length + 1 ≤ y.1 ∧ (y.1 ≤ X.length + M.length ∨ y.1 = X.length + 1) ∧ y.2.Perm M ∧ SortedL ltT (y.2.take (y.1 - X.length))) (fun y => X.length + M.length - y.1) (X.length + 1, M) (by rfl) ?_ (by repeat (first | exact Sub.nil | refine Sub.cons (by rfl) ?_)) (by repeat (first | exact Picks.nil | with_reducible exact Pick.here | with_reducible apply Pick.there | with_reducible apply Pick.app_nil | with_reducible apply Pick.app_cons | apply Picks.cons)) ?_
  · exact ⟨Nat.le_refl _, .inr rfl, .refl _, by rw [show X.length + 1 - X.length = 1 by omega]; cases M <;> simp [SortedL]⟩
  rintro ⟨i, L⟩ ⟨hy1, hy2, hy3, hy4⟩
  dsimp only at hy1 hy2 hy3 hy4 ⊢
  refine Tr.seq ?_
  refine Tr.seq ?_
  refine Tr.region ?_
  refine TrL.move rfl rfl ?_
  refine TrL.move rfl rfl ?_
  refine TrL.lss rfl rfl rfl ?_
  refine TrL.nil (At.then_normal ?_)
  refine Tr.cond rfl (fun h14 => ?_) (fun h14 => ?_)
  · try simp only [beq_iff_eq, beq_eq_false_iff_ne, Bool.not_eq_true, Bool.not_eq_false, decide_eq_true_eq, decide_eq_false_iff_not, Bool.not_eq_true', Bool.not_eq_false', bne_iff_ne, Bool.not_eq_eq_eq_not, Bool.not_true, Bool.not_false, ne_eq, Decidable.not_not, Int.not_lt, Int.not_le] at h14
    refine Tr.skip (At.then_normal ?_)
    refine Tr.seq ?_
    refine Tr.block ?_
    refine Tr.seq ?_
    refine Tr.region ?_
    refine TrL.move rfl rfl ?_
    refine TrL.assign rfl rfl ?_
    refine TrL.nil (At.then_normal ?_)
    refine Tr.block ?_
    have hLM := hy3.length_eq
    obtain ⟨P0, x, Z, hPx, hP0⟩ : ∃ P0 x Z, L = P0 ++ x :: Z ∧ P0.length = i - X.length := ⟨_, _, _, cut_at (show i - X.length < L.length by omega), by simp; omega⟩
    subst hPx
    rw [List.take_append_of_le_length (by omega), List.take_of_length_le (by omega)] at hy4
    rw [show X ++ ((P0 ++ x :: Z) ++ Y) = X ++ (P0 ++ (x :: (([] : List Tab) ++ (Z ++ Y)))) by simp]
    obtain rfl : i = X.length + P0.length := by omega
    refine Tr.loopK [0, 1, 2, 3, 8] (α := List Tab × List Tab) (fun y => [(9, .int .i64 ((X.length + y.1.length : Nat) : Int))]) (fun y => [Own 46 4 encT p cap (X ++ (y.1 ++ (x :: (y.2 ++ (Z ++ Y)))))]) (fun y => SortedL ltT (y.1 ++ y.2) ∧ (∀ z ∈ y.2, ltT x z = true) ∧ y.1.length + y.2.length = P0.length ∧ (y.1 ++ x :: (y.2 ++ Z)).Perm M) (fun y => y.1.length) (P0, []) (by rfl) ?_ (by repeat (first | exact Sub.nil | refine Sub.cons (by rfl) ?_)) (by repeat (first | exact Picks.nil | with_reducible exact Pick.here | with_reducible apply Pick.there | with_reducible apply Pick.app_nil | with_reducible apply Pick.app_cons | apply Picks.cons)) ?_
    · exact ⟨by simpa using hy4, by simp, by simp, by simpa using hy3⟩
    rintro ⟨U, V⟩ ⟨hz1, hz2, hz3, hz4⟩
    dsimp only at hz1 hz2 hz3 hz4 ⊢
    have hlt : X.length + U.length + V.length + Z.length + 1 = X.length + M.length := by have := hz4.length_eq; simp only [List.length_append, List.length_cons] at this; omega
    refine Tr.seq ?_
    refine Tr.seq ?_
    refine Tr.base (enc := encT) (k := 4) (by repeat (first | with_reducible exact Pick.here | with_reducible apply Pick.there | with_reducible apply Pick.app_nil | with_reducible apply Pick.app_cons)) (by simp only [List.length_append, List.length_cons]; omega) (fun hp => ?_)
    refine Tr.regionT 14 mixed (by kernel_rfl) rfl rfl ?_
    refine TrL.move rfl rfl ?_
    refine TrL.move rfl rfl ?_
    refine TrL.gtr rfl rfl rfl ?_
    refine TrL.move rfl rfl ?_
    refine TrL.cases (t := 21) rfl (fun h21 => ?_) (fun h21 => ?_)
    · try simp only [beq_iff_eq, beq_eq_false_iff_ne, Bool.not_eq_true, Bool.not_eq_false, decide_eq_true_eq, decide_eq_false_iff_not, Bool.not_eq_true', Bool.not_eq_false', bne_iff_ne, Bool.not_eq_eq_eq_not, Bool.not_true, Bool.not_false, ne_eq, Decidable.not_not, Int.not_lt, Int.not_le] at h21
      obtain ⟨U', u, rfl⟩ : ∃ U' u, U = U' ++ [u] := ⟨U.dropLast, U.getLast (by rintro rfl; simp at h21), (List.dropLast_concat_getLast (by rintro rfl; simp at h21)).symm⟩
      simp only [List.length_append, List.length_singleton] at hlt
      refine TrL.want rfl rfl ?_
      refine TrL.move rfl rfl ?_
      refine TrL.want rfl rfl ?_
      refine TrL.move rfl rfl ?_
      refine TrL.want rfl rfl ?_
      refine TrL.move rfl rfl ?_
      refine TrL.want rfl rfl ?_
      refine TrL.idxQ (X.length + (U' ++ [u]).length) rfl rfl rfl se22 sz46 hp rfl (by simp only [List.length_append, List.length_singleton]; omega) ?_
      refine TrL.want rfl rfl ?_
      refine TrL.loadO (enc := encT) (k := 4) (i := X.length + (U' ++ [u]).length) rfl rfl ag46 sz46 (by repeat (first | with_reducible exact Pick.here | with_reducible apply Pick.there | with_reducible apply Pick.app_nil | with_reducible apply Pick.app_cons)) rfl rfl encT_len ins_at ?_
      refine TrL.want rfl rfl ?_
      refine TrL.move rfl rfl ?_
      refine TrL.want rfl rfl ?_
      refine TrL.move rfl rfl ?_
      refine TrL.want rfl rfl ?_
      refine TrL.subI rfl rfl rfl (by omega) ?_
      refine TrL.want rfl rfl ?_
      refine TrL.idxQ (X.length + U'.length) rfl rfl rfl se22 sz46 hp (by simp only [List.length_append, List.length_singleton]; omega) (by omega) ?_
      refine TrL.want rfl rfl ?_
      refine TrL.loadO (enc := encT) (k := 4) (i := X.length + U'.length) rfl rfl ag46 sz46 (by repeat (first | with_reducible exact Pick.here | with_reducible apply Pick.there | with_reducible apply Pick.app_nil | with_reducible apply Pick.app_cons)) rfl rfl encT_len ins_at' ?_
      refine TrL.turn ?_
      refine TrL.want rfl rfl ?_
      refine TrL.call rfl rfl rfl ca50 .nil (fun Ft32 hUt32 => order_spec (fun r hr => ?_))
      refine TrL.want rfl rfl ?_
      refine TrL.lss rfl rfl rfl ?_
      refine TrL.pickT rfl rfl rfl ?_
      refine TrL.nil (At.then_normal ?_)
      refine Tr.cond rfl (fun h34 => ?_) (fun h34 => ?_)
      · try simp only [beq_iff_eq, beq_eq_false_iff_ne, Bool.not_eq_true, Bool.not_eq_false, decide_eq_true_eq, decide_eq_false_iff_not, Bool.not_eq_true', Bool.not_eq_false', bne_iff_ne, Bool.not_eq_eq_eq_not, Bool.not_true, Bool.not_false, ne_eq, Decidable.not_not, Int.not_lt, Int.not_le] at h34
        refine Tr.skip (At.then_normal ?_)
        refine Tr.seq ?_
        refine Tr.block ?_
        refine Tr.regionD [] mixed ?_
        refine TrD.take 0 rfl (by kernel_rfl) (by kernel_rfl) (by kernel_rfl) (by repeat (first | exact Picks.nil | with_reducible exact Pick.here | with_reducible apply Pick.there | with_reducible apply Pick.app_nil | with_reducible apply Pick.app_cons | apply Picks.cons)) ?_
        refine TrL.move rfl rfl ?_
        refine TrL.nilTake (listed' := #[true, false, false, false, false, false, false, false, false, false, false, false, false, false, false, false, false, false]) (by kernel_rfl) ?_
        refine TrD.take 1 rfl (by kernel_rfl) (by kernel_rfl) (by kernel_rfl) (by repeat (first | exact Picks.nil | with_reducible exact Pick.here | with_reducible apply Pick.there | with_reducible apply Pick.app_nil | with_reducible apply Pick.app_cons | apply Picks.cons)) ?_
        refine TrL.move rfl rfl ?_
        refine TrL.nilTake (listed' := #[true, true, false, false, false, false, false, false, false, false, false, false, false, false, false, false, false, false]) (by kernel_rfl) ?_
        refine TrD.take 2 rfl (by kernel_rfl) (by kernel_rfl) (by kernel_rfl) (by repeat (first | exact Picks.nil | with_reducible exact Pick.here | with_reducible apply Pick.there | with_reducible apply Pick.app_nil | with_reducible apply Pick.app_cons | apply Picks.cons)) ?_
        refine TrL.move rfl rfl ?_
        refine TrL.nilTake (listed' := #[true, true, true, false, false, false, false, false, false, false, false, false, false, false, false, false, false, false]) (by kernel_rfl) ?_
        refine TrD.take 3 rfl (by kernel_rfl) (by kernel_rfl) (by kernel_rfl) (by repeat (first | exact Picks.nil | with_reducible exact Pick.here | with_reducible apply Pick.there | with_reducible apply Pick.app_nil | with_reducible apply Pick.app_cons | apply Picks.cons)) ?_
        refine TrL.move rfl rfl ?_
        refine TrL.nilTake (listed' := #[true, true, true, true, false, false, false, false, false, false, false, false, false, false, false, false, false, false]) (by kernel_rfl) ?_
        refine TrD.take 4 rfl (by kernel_rfl) (by kernel_rfl) (by kernel_rfl) (by repeat (first | exact Picks.nil | with_reducible exact Pick.here | with_reducible apply Pick.there | with_reducible apply Pick.app_nil | with_reducible apply Pick.app_cons | apply Picks.cons)) ?_
        refine TrL.subI rfl rfl rfl (by omega) ?_
        refine TrL.nilTake (listed' := #[true, true, true, true, true, false, false, false, false, false, false, false, false, false, false, false, false, false]) (by kernel_rfl) ?_
        refine TrD.take 5 rfl (by kernel_rfl) (by kernel_rfl) (by kernel_rfl) (by repeat (first | exact Picks.nil | with_reducible exact Pick.here | with_reducible apply Pick.there | with_reducible apply Pick.app_nil | with_reducible apply Pick.app_cons | apply Picks.cons)) ?_
        refine TrL.move rfl rfl ?_
        refine TrL.nilTake (listed' := #[true, true, true, true, true, true, false, false, false, false, false, false, false, false, false, false, false, false]) (by kernel_rfl) ?_
        refine TrD.take 6 rfl (by kernel_rfl) (by kernel_rfl) (by kernel_rfl) (by repeat (first | exact Picks.nil | with_reducible exact Pick.here | with_reducible apply Pick.there | with_reducible apply Pick.app_nil | with_reducible apply Pick.app_cons | apply Picks.cons)) ?_
        refine TrL.move rfl rfl ?_
        refine TrL.nilTake (listed' := #[true, true, true, true, true, true, true, false, false, false, false, false, false, false, false, false, false, false]) (by kernel_rfl) ?_
        refine TrD.take 7 rfl (by kernel_rfl) (by kernel_rfl) (by kernel_rfl) (by repeat (first | exact Picks.nil | with_reducible exact Pick.here | with_reducible apply Pick.there | with_reducible apply Pick.app_nil | with_reducible apply Pick.app_cons | apply Picks.cons)) ?_
        refine TrL.subI rfl rfl rfl (by omega) ?_
        refine TrL.nilTake (listed' := #[true, true, true, true, true, true, true, true, false, false, false, false, false, false, false, false, false, false]) (by kernel_rfl) ?_
        refine TrD.take 8 rfl (by kernel_rfl) (by kernel_rfl) (by kernel_rfl) (by repeat (first | exact Picks.nil | with_reducible exact Pick.here | with_reducible apply Pick.there | with_reducible apply Pick.app_nil | with_reducible apply Pick.app_cons | apply Picks.cons)) ?_
        refine TrL.idxQ (X.length + U'.length) rfl rfl rfl se22 sz46 hp (by simp only [List.length_append, List.length_singleton]; omega) (by omega) ?_
        refine TrL.nilTake (listed' := #[true, true, true, true, true, true, true, true, true, false, false, false, false, false, false, false, false, false]) (by kernel_rfl) ?_
        refine TrD.take 10 rfl (by kernel_rfl) (by kernel_rfl) (by kernel_rfl) (by repeat (first | exact Picks.nil | with_reducible exact Pick.here | with_reducible apply Pick.there | with_reducible apply Pick.app_nil | with_reducible apply Pick.app_cons | apply Picks.cons)) ?_
        refine TrL.move rfl rfl ?_
        refine TrL.nilTake (listed' := #[true, true, true, true, true, true, true, true, true, false, true, false, false, false, false, false, false, false]) (by kernel_rfl) ?_
        refine TrD.take 11 rfl (by kernel_rfl) (by kernel_rfl) (by kernel_rfl) (by repeat (first | exact Picks.nil | with_reducible exact Pick.here | with_reducible apply Pick.there | with_reducible apply Pick.app_nil | with_reducible apply Pick.app_cons | apply Picks.cons)) ?_
        refine TrL.move rfl rfl ?_
        refine TrL.nilTake (listed' := #[true, true, true, true, true, true, true, true, true, false, true, true, false, false, false, false, false, false]) (by kernel_rfl) ?_
        refine TrD.take 12 rfl (by kernel_rfl) (by kernel_rfl) (by kernel_rfl) (by repeat (first | exact Picks.nil | with_reducible exact Pick.here | with_reducible apply Pick.there | with_reducible apply Pick.app_nil | with_reducible apply Pick.app_cons | apply Picks.cons)) ?_
        refine TrL.idxQ (X.length + (U' ++ [u]).length) rfl rfl rfl se22 sz46 hp rfl (by simp only [List.length_append, List.length_singleton]; omega) ?_
        refine TrL.nilTake (listed' := #[true, true, true, true, true, true, true, true, true, false, true, true, true, false, false, false, false, false]) (by kernel_rfl) ?_
        refine TrD.all [9, 13] (by kernel_rfl) rfl ?_
        refine all_cons ⟨_, rfl, ?_⟩ ?_
        · skip
          refine TrL.loadO (enc := encT) (k := 4) (i := X.length + U'.length) rfl rfl ag46 sz46 (by repeat (first | with_reducible exact Pick.here | with_reducible apply Pick.there | with_reducible apply Pick.app_nil | with_reducible apply Pick.app_cons)) rfl rfl encT_len ins_at' ?_
          refine TrL.nil (At.step (listed' := #[true, true, true, true, true, true, true, true, true, true, true, true, true, false, false, false, false, false]) (by kernel_rfl) (by repeat (first | exact Picks.nil | with_reducible exact Pick.here | with_reducible apply Pick.there | with_reducible apply Pick.app_nil | with_reducible apply Pick.app_cons | apply Picks.cons)) ?_)
          refine TrD.all [13] (by kernel_rfl) rfl ?_
          refine all_cons ⟨_, rfl, ?_⟩ all_nil
          refine TrL.loadO (enc := encT) (k := 4) (i := X.length + (U' ++ [u]).length) rfl rfl ag46 sz46 (by repeat (first | with_reducible exact Pick.here | with_reducible apply Pick.there | with_reducible apply Pick.app_nil | with_reducible apply Pick.app_cons)) rfl rfl encT_len ins_at ?_
          refine TrL.nil (At.step (listed' := #[true, true, true, true, true, true, true, true, true, true, true, true, true, true, false, false, false, false]) (by kernel_rfl) (by repeat (first | exact Picks.nil | with_reducible exact Pick.here | with_reducible apply Pick.there | with_reducible apply Pick.app_nil | with_reducible apply Pick.app_cons | apply Picks.cons)) ?_)
          refine TrD.take 14 rfl (by kernel_rfl) (by kernel_rfl) (by kernel_rfl) (by repeat (first | exact Picks.nil | with_reducible exact Pick.here | with_reducible apply Pick.there | with_reducible apply Pick.app_nil | with_reducible apply Pick.app_cons | apply Picks.cons)) ?_
          refine TrL.idxQ (X.length + (U' ++ [u]).length) rfl rfl rfl se22 sz46 hp rfl (by simp only [List.length_append, List.length_singleton]; omega) ?_
          refine TrL.nilTake (listed' := #[true, true, true, true, true, true, true, true, true, true, true, true, true, true, true, false, false, false]) (by kernel_rfl) ?_
          refine TrD.all [15] (by kernel_rfl) rfl ?_
          refine all_cons ⟨_, rfl, ?_⟩ all_nil
          refine TrL.storeO (enc := encT) (k := 4) (i := X.length + (U' ++ [u]).length) (v := u) rfl rfl sz46 (by repeat (first | with_reducible exact Pick.here | with_reducible apply Pick.there | with_reducible apply Pick.app_nil | with_reducible apply Pick.app_cons)) rfl rfl (by simp only [List.length_append, List.length_cons, List.length_singleton]; omega) rfl encT_len rfl ?_
          refine TrL.nil (At.step (listed' := #[true, true, true, true, true, true, true, true, true, true, true, true, true, true, true, true, false, false]) (by kernel_rfl) (by repeat (first | exact Picks.nil | with_reducible exact Pick.here | with_reducible apply Pick.there | with_reducible apply Pick.app_nil | with_reducible apply Pick.app_cons | apply Picks.cons)) ?_)
          refine TrD.take 16 rfl (by kernel_rfl) (by kernel_rfl) (by kernel_rfl) (by repeat (first | exact Picks.nil | with_reducible exact Pick.here | with_reducible apply Pick.there | with_reducible apply Pick.app_nil | with_reducible apply Pick.app_cons | apply Picks.cons)) ?_
          refine TrL.idxQ (X.length + U'.length) rfl rfl rfl se22 sz46 hp (by simp only [List.length_append, List.length_singleton]; omega) (by omega) ?_
          refine TrL.nilTake (listed' := #[true, true, true, true, true, true, true, true, true, true, true, true, true, true, true, true, true, false]) (by kernel_rfl) ?_
          refine TrD.all [17] (by kernel_rfl) rfl ?_
          refine all_cons ⟨_, rfl, ?_⟩ all_nil
          refine TrL.storeO (enc := encT) (k := 4) (i := X.length + U'.length) (v := x) rfl rfl sz46 (by repeat (first | with_reducible exact Pick.here | with_reducible apply Pick.there | with_reducible apply Pick.app_nil | with_reducible apply Pick.app_cons)) rfl rfl (by simp only [List.length_set, List.length_append, List.length_cons, List.length_singleton]; omega) rfl encT_len rfl ?_
          refine TrL.nil (At.step (listed' := #[true, true, true, true, true, true, true, true, true, true, true, true, true, true, true, true, true, true]) (by kernel_rfl) (by repeat (first | exact Picks.nil | with_reducible exact Pick.here | with_reducible apply Pick.there | with_reducible apply Pick.app_nil | with_reducible apply Pick.app_cons | apply Picks.cons)) ?_)
          refine TrD.done (by kernel_rfl) (At.block_normal (At.then_normal ?_))
          refine Tr.region ?_
          refine TrL.move rfl rfl ?_
          refine TrL.subI rfl rfl rfl (by omega) ?_
          refine TrL.assign rfl rfl ?_
          refine TrL.nil ?_
          rw [show ((X.length + (U' ++ [u]).length : Nat) : Int) - 1 = ((X.length + U'.length : Nat) : Int) by simp only [List.length_append, List.length_singleton]; omega]
          rw [ins_swap]
          have e2 : X ++ (U' ++ (x :: (u :: (V ++ (Z ++ Y))))) = X ++ (U' ++ (x :: ((u :: V) ++ (Z ++ Y)))) := by simp
          rw [e2]
          refine At.again (U', u :: V) ⟨by simpa using hz1, fun z hz => ?_, by simp only [List.length_append, List.length_cons, List.length_nil] at hz3 ⊢; omega, ?_⟩ (by simp) (by repeat (first | exact Sub.nil | refine Sub.cons (by rfl) ?_)) (by repeat (first | exact Picks.nil | with_reducible exact Pick.here | with_reducible apply Pick.there | with_reducible apply Pick.app_nil | with_reducible apply Pick.app_cons | apply Picks.cons))
          · rcases List.mem_cons.1 hz with rfl | hz
            · rw [← hr]; simpa using h34
            · exact hz2 z hz
          · refine List.Perm.trans ?_ hz4
            simp only [List.append_assoc, List.cons_append, List.nil_append]
            exact List.Perm.append_left _ (List.Perm.swap _ _ _)
        refine all_cons ⟨_, rfl, ?_⟩ ?_
        · skip
          refine TrL.loadO (enc := encT) (k := 4) (i := X.length + (U' ++ [u]).length) rfl rfl ag46 sz46 (by repeat (first | with_reducible exact Pick.here | with_reducible apply Pick.there | with_reducible apply Pick.app_nil | with_reducible apply Pick.app_cons)) rfl rfl encT_len ins_at ?_
          refine TrL.nil (At.step (listed' := #[true, true, true, true, true, true, true, true, true, false, true, true, true, true, false, false, false, false]) (by kernel_rfl) (by repeat (first | exact Picks.nil | with_reducible exact Pick.here | with_reducible apply Pick.there | with_reducible apply Pick.app_nil | with_reducible apply Pick.app_cons | apply Picks.cons)) ?_)
          refine TrD.all [9] (by kernel_rfl) rfl ?_
          refine all_cons ⟨_, rfl, ?_⟩ all_nil
          refine TrL.loadO (enc := encT) (k := 4) (i := X.length + U'.length) rfl rfl ag46 sz46 (by repeat (first | with_reducible exact Pick.here | with_reducible apply Pick.there | with_reducible apply Pick.app_nil | with_reducible apply Pick.app_cons)) rfl rfl encT_len ins_at' ?_
          refine TrL.nil (At.step (listed' := #[true, true, true, true, true, true, true, true, true, true, true, true, true, true, false, false, false, false]) (by kernel_rfl) (by repeat (first | exact Picks.nil | with_reducible exact Pick.here | with_reducible apply Pick.there | with_reducible apply Pick.app_nil | with_reducible apply Pick.app_cons | apply Picks.cons)) ?_)
          refine TrD.take 14 rfl (by kernel_rfl) (by kernel_rfl) (by kernel_rfl) (by repeat (first | exact Picks.nil | with_reducible exact Pick.here | with_reducible apply Pick.there | with_reducible apply Pick.app_nil | with_reducible apply Pick.app_cons | apply Picks.cons)) ?_
          refine TrL.idxQ (X.length + (U' ++ [u]).length) rfl rfl rfl se22 sz46 hp rfl (by simp only [List.length_append, List.length_singleton]; omega) ?_
          refine TrL.nilTake (listed' := #[true, true, true, true, true, true, true, true, true, true, true, true, true, true, true, false, false, false]) (by kernel_rfl) ?_
          refine TrD.all [15] (by kernel_rfl) rfl ?_
          refine all_cons ⟨_, rfl, ?_⟩ all_nil
          refine TrL.storeO (enc := encT) (k := 4) (i := X.length + (U' ++ [u]).length) (v := u) rfl rfl sz46 (by repeat (first | with_reducible exact Pick.here | with_reducible apply Pick.there | with_reducible apply Pick.app_nil | with_reducible apply Pick.app_cons)) rfl rfl (by simp only [List.length_append, List.length_cons, List.length_singleton]; omega) rfl encT_len rfl ?_
          refine TrL.nil (At.step (listed' := #[true, true, true, true, true, true, true, true, true, true, true, true, true, true, true, true, false, false]) (by kernel_rfl) (by repeat (first | exact Picks.nil | with_reducible exact Pick.here | with_reducible apply Pick.there | with_reducible apply Pick.app_nil | with_reducible apply Pick.app_cons | apply Picks.cons)) ?_)
          refine TrD.take 16 rfl (by kernel_rfl) (by kernel_rfl) (by kernel_rfl) (by repeat (first | exact Picks.nil | with_reducible exact Pick.here | with_reducible apply Pick.there | with_reducible apply Pick.app_nil | with_reducible apply Pick.app_cons | apply Picks.cons)) ?_
          refine TrL.idxQ (X.length + U'.length) rfl rfl rfl se22 sz46 hp (by simp only [List.length_append, List.length_singleton]; omega) (by omega) ?_
          refine TrL.nilTake (listed' := #[true, true, true, true, true, true, true, true, true, true, true, true, true, true, true, true, true, false]) (by kernel_rfl) ?_
          refine TrD.all [17] (by kernel_rfl) rfl ?_
          refine all_cons ⟨_, rfl, ?_⟩ all_nil
          refine TrL.storeO (enc := encT) (k := 4) (i := X.length + U'.length) (v := x) rfl rfl sz46 (by repeat (first | with_reducible exact Pick.here | with_reducible apply Pick.there | with_reducible apply Pick.app_nil | with_reducible apply Pick.app_cons)) rfl rfl (by simp only [List.length_set, List.length_append, List.length_cons, List.length_singleton]; omega) rfl encT_len rfl ?_
          refine TrL.nil (At.step (listed' := #[true, true, true, true, true, true, true, true, true, true, true, true, true, true, true, true, true, true]) (by kernel_rfl) (by repeat (first | exact Picks.nil | with_reducible exact Pick.here | with_reducible apply Pick.there | with_reducible apply Pick.app_nil | with_reducible apply Pick.app_cons | apply Picks.cons)) ?_)
          refine TrD.done (by kernel_rfl) (At.block_normal (At.then_normal ?_))
          refine Tr.region ?_
          refine TrL.move rfl rfl ?_
          refine TrL.subI rfl rfl rfl (by omega) ?_
          refine TrL.assign rfl rfl ?_
          refine TrL.nil ?_
          rw [show ((X.length + (U' ++ [u]).length : Nat) : Int) - 1 = ((X.length + U'.length : Nat) : Int) by simp only [List.length_append, List.length_singleton]; omega]
          rw [ins_swap]
          have e2 : X ++ (U' ++ (x :: (u :: (V ++ (Z ++ Y))))) = X ++ (U' ++ (x :: ((u :: V) ++ (Z ++ Y)))) := by simp
          rw [e2]
          refine At.again (U', u :: V) ⟨by simpa using hz1, fun z hz => ?_, by simp only [List.length_append, List.length_cons, List.length_nil] at hz3 ⊢; omega, ?_⟩ (by simp) (by repeat (first | exact Sub.nil | refine Sub.cons (by rfl) ?_)) (by repeat (first | exact Picks.nil | with_reducible exact Pick.here | with_reducible apply Pick.there | with_reducible apply Pick.app_nil | with_reducible apply Pick.app_cons | apply Picks.cons))
          · rcases List.mem_cons.1 hz with rfl | hz
            · rw [← hr]; simpa using h34
            · exact hz2 z hz
          · refine List.Perm.trans ?_ hz4
            simp only [List.append_assoc, List.cons_append, List.nil_append]
            exact List.Perm.append_left _ (List.Perm.swap _ _ _)
        exact all_nil
      · try simp only [beq_iff_eq, beq_eq_false_iff_ne, Bool.not_eq_true, Bool.not_eq_false, decide_eq_true_eq, decide_eq_false_iff_not, Bool.not_eq_true', Bool.not_eq_false', bne_iff_ne, Bool.not_eq_eq_eq_not, Bool.not_true, Bool.not_false, ne_eq, Decidable.not_not, Int.not_lt, Int.not_le] at h34
        refine Tr.exit (At.then_exit (At.then_exit (At.block_hit (At.block_normal (At.then_normal ?_)))))
        refine Tr.region ?_
        refine TrL.move rfl rfl ?_
        refine TrL.addI rfl rfl rfl (by omega) ?_
        refine TrL.assign rfl rfl ?_
        refine TrL.nil ?_
        have hdone := ins_done (x := x) ltT_sw hz1 hz2 (.inr ⟨U', u, rfl, by rw [← hr]; simpa using h34⟩)
        have e3 : X ++ ((U' ++ [u]) ++ (x :: (V ++ (Z ++ Y)))) = X ++ (((U' ++ [u]) ++ x :: (V ++ Z)) ++ Y) := by simp
        rw [e3]
        refine At.again (X.length + P0.length + 1, (U' ++ [u]) ++ x :: (V ++ Z)) ⟨by show X.length + 1 ≤ X.length + P0.length + 1; omega, .inl (by show X.length + P0.length + 1 ≤ _; omega), hz4, ?_⟩ (by show X.length + M.length - (X.length + P0.length + 1) < X.length + M.length - (X.length + P0.length); omega) (by repeat (first | exact Sub.nil | refine Sub.cons (by rfl) ?_)) (by repeat (first | exact Picks.nil | with_reducible exact Pick.here | with_reducible apply Pick.there | with_reducible apply Pick.app_nil | with_reducible apply Pick.app_cons | apply Picks.cons))
        show SortedL ltT (((U' ++ [u]) ++ x :: (V ++ Z)).take (X.length + P0.length + 1 - X.length))
        rw [show (U' ++ [u]) ++ x :: (V ++ Z) = ((U' ++ [u]) ++ x :: V) ++ Z by simp, List.take_append_of_le_length (by simp only [List.length_append, List.length_cons, List.length_singleton] at hz3 ⊢; omega), List.take_of_length_le (by simp only [List.length_append, List.length_cons, List.length_singleton] at hz3 ⊢; omega)]
        exact hdone
    · try simp only [beq_iff_eq, beq_eq_false_iff_ne, Bool.not_eq_true, Bool.not_eq_false, decide_eq_true_eq, decide_eq_false_iff_not, Bool.not_eq_true', Bool.not_eq_false', bne_iff_ne, Bool.not_eq_eq_eq_not, Bool.not_true, Bool.not_false, ne_eq, Decidable.not_not, Int.not_lt, Int.not_le] at h21
      refine TrL.unwant rfl rfl rfl ?_
      refine TrL.unwant rfl rfl rfl ?_
      refine TrL.unwant rfl rfl rfl ?_
      refine TrL.unwant rfl rfl rfl ?_
      refine TrL.unwant rfl rfl rfl ?_
      refine TrL.unwant rfl rfl rfl ?_
      refine TrL.unwant rfl rfl rfl ?_
      refine TrL.unwant rfl rfl rfl ?_
      refine TrL.unwant rfl rfl rfl ?_
      refine TrL.unwant rfl rfl rfl ?_
      refine TrL.turn ?_
      refine TrL.unwant rfl rfl rfl ?_
      refine TrL.unwant rfl rfl rfl ?_
      refine TrL.pickF rfl rfl rfl ?_
      refine TrL.nil (At.then_normal ?_)
      refine Tr.condF rfl ?_
      refine Tr.exit (At.then_exit (At.then_exit (At.block_hit (At.block_normal (At.then_normal ?_)))))
      refine Tr.region ?_
      refine TrL.move rfl rfl ?_
      refine TrL.addI rfl rfl rfl (by omega) ?_
      refine TrL.assign rfl rfl ?_
      refine TrL.nil ?_
      obtain rfl : U = [] := List.eq_nil_of_length_eq_zero (by omega)
      have hdone := ins_done (x := x) ltT_sw hz1 hz2 (.inl rfl)
      have e3 : X ++ ([] ++ (x :: (V ++ (Z ++ Y)))) = X ++ (([] ++ x :: (V ++ Z)) ++ Y) := by simp
      rw [e3]
      refine At.again (X.length + P0.length + 1, [] ++ x :: (V ++ Z)) ⟨by show X.length + 1 ≤ X.length + P0.length + 1; omega, .inl (by show X.length + P0.length + 1 ≤ _; simp only [List.length_nil] at hz3 hlt; omega), hz4, ?_⟩ (by show X.length + M.length - (X.length + P0.length + 1) < X.length + M.length - (X.length + P0.length); simp only [List.length_nil] at hz3 hlt; omega) (by repeat (first | exact Sub.nil | refine Sub.cons (by rfl) ?_)) (by repeat (first | exact Picks.nil | with_reducible exact Pick.here | with_reducible apply Pick.there | with_reducible apply Pick.app_nil | with_reducible apply Pick.app_cons | apply Picks.cons))
      show SortedL ltT (([] ++ x :: (V ++ Z)).take (X.length + P0.length + 1 - X.length))
      rw [show [] ++ x :: (V ++ Z) = ([] ++ x :: V) ++ Z by simp, List.take_append_of_le_length (by simp only [List.length_append, List.length_cons, List.length_nil] at hz3 ⊢; omega), List.take_of_length_le (by simp only [List.length_append, List.length_cons, List.length_nil] at hz3 ⊢; omega)]
      exact hdone
  · try simp only [beq_iff_eq, beq_eq_false_iff_ne, Bool.not_eq_true, Bool.not_eq_false, decide_eq_true_eq, decide_eq_false_iff_not, Bool.not_eq_true', Bool.not_eq_false', bne_iff_ne, Bool.not_eq_eq_eq_not, Bool.not_true, Bool.not_false, ne_eq, Decidable.not_not, Int.not_lt, Int.not_le] at h14
    refine Tr.exit (At.then_exit (At.then_exit (At.block_hit (At.retP [_] (.inr rfl) rfl Res.nil (by repeat (first | exact Picks.nil | with_reducible exact Pick.here | with_reducible apply Pick.there | with_reducible apply Pick.app_nil | with_reducible apply Pick.app_cons | apply Picks.cons)) (by 
        refine hK L hy3 ?_
        rw [List.take_of_length_le (by have := hy3.length_eq; omega)] at hy4
        exact hy4)))))
end Go.Proofs.Ytiefmfimbmkdjaa

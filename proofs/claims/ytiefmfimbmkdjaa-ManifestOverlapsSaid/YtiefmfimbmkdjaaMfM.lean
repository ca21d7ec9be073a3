/-
  slices.symMergeCmpFunc at tables, walked.
  No condition but those that each statement names.
-/
import Derived.Test.YtiefmfimbmkdjaaMfK
namespace Go.Proofs.Ytiefmfimbmkdjaa
set_option linter.unusedSimpArgs false
set_option linter.unusedVariables false
set_option linter.unusedSectionVars false
open Go.RowKit
variable [Obs]


theorem row_one {X B Y : List Tab} {x : Tab} {i : Nat} (h : i < B.length) : (X ++ ([x] ++ (B ++ Y)))[X.length + 1 + i]? = some B[i] := by
  have := row_b (X := X) (A := [x]) (B := B) (W := Y) h
  rw [List.getElem?_eq_getElem h] at this
  exact this
theorem row_first {X W : List Tab} {x : Tab} : (X ++ ([x] ++ W))[X.length]? = some x := at_app X W x
theorem row_last {X A Y : List Tab} {x : Tab} : (X ++ (A ++ ([x] ++ Y)))[X.length + A.length]? = some x := by
  have := at_app (X ++ A) Y x
  rw [List.length_append, List.append_assoc] at this
  exact this
theorem row_a' {X A W : List Tab} {i : Nat} (h : i < A.length) : (X ++ (A ++ W))[X.length + i]? = some A[i] := by rw [row_a h, List.getElem?_eq_getElem h]
theorem row_b' {X A B W : List Tab} {i : Nat} (h : i < B.length) : (X ++ (A ++ (B ++ W)))[X.length + A.length + i]? = some B[i] := by rw [row_b h, List.getElem?_eq_getElem h]
set_option maxHeartbeats 8000000 in
theorem symMerge_spec : ∀ (fuel : Nat) {F : Hp} {K : Value → List HProp → Prop} {p : Option Addr} {cap len : Nat} {l : List Tab} {X A B Y : List Tab} (hf : A.length + B.length ≤ fuel) (hl : l = X ++ (A ++ (B ++ Y))) (hA : A ≠ []) (hB : B ≠ []) (sA : SortedL ltT A) (sB : SortedL ltT B) (hlen : len = l.length) (hbd : len ≤ 1000000) {a m b : Nat} (ha : a = X.length) (hm : m = X.length + A.length) (hb : b = X.length + A.length + B.length)
    (hK : ∀ C : List Tab, C.Perm (A ++ B) → SortedL ltT C → K (.tuple #[]) [Own 46 4 encT p cap (X ++ (C ++ Y))]), CallK Try.prog F 73 #[.slice p len cap, .int .i64 (a : Int), .int .i64 (m : Int), .int .i64 (b : Int), .func (.func 50) #[] #[]] [Own 46 4 encT p cap (l)] K := by
  intro fuel
  induction fuel with
  | zero => intro F K p cap len l X A B Y hf hl hA; exact absurd (List.length_pos_iff.2 hA) (by omega)
  | succ fuel ih =>
  intro F K p cap len l X A B Y hf hl hA hB sA sB hlen hbd a m b ha hm hb hK
  subst hl ha hm hb
  have hA0 := List.length_pos_iff.2 hA
  have hB0 := List.length_pos_iff.2 hB
  simp only [List.length_append] at hlen
  refine CallK.enter Try.func73 rfl Try.ntmps73 rfl ?_
  refine Tr.seq ?_
  refine Tr.seq ?_
  refine Tr.region ?_
  refine TrL.move rfl rfl ?_
  refine TrL.move rfl rfl ?_
  refine TrL.subI rfl rfl rfl (by omega) ?_
  refine TrL.eqi rfl rfl rfl ?_
  refine TrL.nil (At.then_normal ?_)
  refine Tr.cond rfl (fun h28 => ?_) (fun h28 => ?_)
  · try simp only [beq_iff_eq, beq_eq_false_iff_ne, Bool.not_eq_true, Bool.not_eq_false, decide_eq_true_eq, decide_eq_false_iff_not, Bool.not_eq_true', Bool.not_eq_false', bne_iff_ne, Bool.not_eq_eq_eq_not, Bool.not_true, Bool.not_false, ne_eq, Decidable.not_not, Int.not_lt, Int.not_le] at h28
    obtain ⟨x, rfl⟩ : ∃ x, A = [x] := List.length_eq_one_iff.1 (by omega)
    simp only [List.length_singleton] at hlen hf hA0
    refine Tr.seq ?_
    refine Tr.region ?_
    refine TrL.move rfl rfl ?_
    refine TrL.assign rfl rfl ?_
    refine TrL.nil (At.then_normal ?_)
    refine Tr.seq ?_
    refine Tr.region ?_
    refine TrL.move rfl rfl ?_
    refine TrL.assign rfl rfl ?_
    refine TrL.nil (At.then_normal ?_)
    refine Tr.seq ?_
    refine Tr.block ?_
    refine Tr.loopK [0, 1, 2, 3, 4] (α := Nat × Nat) (fun y => [(10, .int .i64 ((X.length + 1 + y.1 : Nat) : Int)), (11, .int .i64 ((X.length + 1 + y.2 : Nat) : Int))]) (fun y => []) (fun y => y.1 ≤ y.2 ∧ y.2 ≤ B.length ∧ (y.1 = 0 ∨ ∃ z, B[y.1 - 1]? = some z ∧ ltT z x = true) ∧ (y.2 = B.length ∨ ∃ z, B[y.2]? = some z ∧ ltT z x = false)) (fun y => y.2 - y.1) (0, B.length) (by rfl) ?_ (by repeat (first | exact Sub.nil | refine Sub.cons (by rfl) ?_)) (by repeat (first | exact Picks.nil | with_reducible exact Pick.here | with_reducible apply Pick.there | with_reducible apply Pick.app_nil | with_reducible apply Pick.app_cons | apply Picks.cons)) ?_
    · exact ⟨Nat.zero_le _, Nat.le_refl _, .inl rfl, .inl rfl⟩
    rintro y ⟨hy1, hy2, hy3, hy4⟩
    refine Tr.seq ?_
    refine Tr.seq ?_
    refine Tr.region ?_
    refine TrL.move rfl rfl ?_
    refine TrL.move rfl rfl ?_
    refine TrL.lss rfl rfl rfl ?_
    refine TrL.nil (At.then_normal ?_)
    refine Tr.cond rfl (fun h33 => ?_) (fun h33 => ?_)
    · try simp only [beq_iff_eq, beq_eq_false_iff_ne, Bool.not_eq_true, Bool.not_eq_false, decide_eq_true_eq, decide_eq_false_iff_not, Bool.not_eq_true', Bool.not_eq_false', bne_iff_ne, Bool.not_eq_eq_eq_not, Bool.not_true, Bool.not_false, ne_eq, Decidable.not_not, Int.not_lt, Int.not_le] at h33
      refine Tr.skip (At.then_normal ?_)
      refine Tr.block ?_
      refine Tr.seq ?_
      refine Tr.region ?_
      refine TrL.move rfl rfl ?_
      refine TrL.move rfl rfl ?_
      refine TrL.addI rfl rfl rfl (by omega) ?_
      refine TrL.convI rfl rfl sc3 in91 ?_
      refine TrL.shr rfl rfl rfl (by omega) ?_
      refine TrL.convI rfl rfl sc91 in3 ?_
      refine TrL.assign rfl rfl ?_
      refine TrL.nil (At.then_normal ?_)
      refine Tr.seq ?_
      rw [half (i := X.length + 1 + y.1) (j := X.length + 1 + y.2) (h := X.length + 1 + (y.1 + y.2) / 2) (by omega) (by omega)]
      have hyl : (y.1 + y.2) / 2 < B.length := by omega
      refine Tr.base (enc := encT) (k := 4) (by repeat (first | with_reducible exact Pick.here | with_reducible apply Pick.there | with_reducible apply Pick.app_nil | with_reducible apply Pick.app_cons)) (by simp only [List.length_append, List.length_cons]; omega) (fun hp => ?_)
      refine Tr.regionT 9 mixed (by kernel_rfl) rfl rfl ?_
      refine TrL.move rfl rfl ?_
      refine TrL.move rfl rfl ?_
      refine TrL.move rfl rfl ?_
      refine TrL.idxQ (X.length + 1 + (y.1 + y.2) / 2) rfl rfl rfl se22 sz46 hp rfl (by omega) ?_
      refine TrL.loadO (enc := encT) (k := 4) (i := X.length + 1 + (y.1 + y.2) / 2) rfl rfl ag46 sz46 (by repeat (first | with_reducible exact Pick.here | with_reducible apply Pick.there | with_reducible apply Pick.app_nil | with_reducible apply Pick.app_cons)) rfl rfl encT_len (row_one hyl) ?_
      refine TrL.move rfl rfl ?_
      refine TrL.move rfl rfl ?_
      refine TrL.idxQ (X.length) rfl rfl rfl se22 sz46 hp rfl (by omega) ?_
      refine TrL.loadO (enc := encT) (k := 4) (i := X.length) rfl rfl ag46 sz46 (by repeat (first | with_reducible exact Pick.here | with_reducible apply Pick.there | with_reducible apply Pick.app_nil | with_reducible apply Pick.app_cons)) rfl rfl encT_len row_first ?_
      refine TrL.turn ?_
      refine TrL.call rfl rfl rfl ca50 .nil (fun Ft49 hUt49 => order_spec (fun r hr => ?_))
      refine TrL.lss rfl rfl rfl ?_
      refine TrL.nil (At.then_normal ?_)
      refine Tr.cond rfl (fun h50 => ?_) (fun h50 => ?_)
      · try simp only [beq_iff_eq, beq_eq_false_iff_ne, Bool.not_eq_true, Bool.not_eq_false, decide_eq_true_eq, decide_eq_false_iff_not, Bool.not_eq_true', Bool.not_eq_false', bne_iff_ne, Bool.not_eq_eq_eq_not, Bool.not_true, Bool.not_false, ne_eq, Decidable.not_not, Int.not_lt, Int.not_le] at h50
        refine Tr.region ?_
        refine TrL.move rfl rfl ?_
        refine TrL.addI rfl rfl rfl (by omega) ?_
        refine TrL.assign rfl rfl ?_
        refine TrL.nil (At.block_normal ?_)
        refine At.again ((y.1 + y.2) / 2 + 1, y.2) ⟨by show (y.1 + y.2) / 2 + 1 ≤ y.2; omega, hy2, .inr ⟨B[(y.1 + y.2) / 2], List.getElem?_eq_getElem hyl, by rw [← hr]; simpa using h50⟩, hy4⟩ (by show y.2 - ((y.1 + y.2) / 2 + 1) < y.2 - y.1; omega) (by repeat (first | exact Sub.nil | refine Sub.cons (by rfl) ?_)) (by repeat (first | exact Picks.nil | with_reducible exact Pick.here | with_reducible apply Pick.there | with_reducible apply Pick.app_nil | with_reducible apply Pick.app_cons | apply Picks.cons))
      · try simp only [beq_iff_eq, beq_eq_false_iff_ne, Bool.not_eq_true, Bool.not_eq_false, decide_eq_true_eq, decide_eq_false_iff_not, Bool.not_eq_true', Bool.not_eq_false', bne_iff_ne, Bool.not_eq_eq_eq_not, Bool.not_true, Bool.not_false, ne_eq, Decidable.not_not, Int.not_lt, Int.not_le] at h50
        refine Tr.region ?_
        refine TrL.move rfl rfl ?_
        refine TrL.assign rfl rfl ?_
        refine TrL.nil (At.block_normal ?_)
        refine At.again (y.1, (y.1 + y.2) / 2) ⟨by show y.1 ≤ (y.1 + y.2) / 2; omega, by show (y.1 + y.2) / 2 ≤ B.length; omega, hy3, .inr ⟨B[(y.1 + y.2) / 2], List.getElem?_eq_getElem hyl, by rw [← hr]; simpa using h50⟩⟩ (by show (y.1 + y.2) / 2 - y.1 < y.2 - y.1; omega) (by repeat (first | exact Sub.nil | refine Sub.cons (by rfl) ?_)) (by repeat (first | exact Picks.nil | with_reducible exact Pick.here | with_reducible apply Pick.there | with_reducible apply Pick.app_nil | with_reducible apply Pick.app_cons | apply Picks.cons))
    · try simp only [beq_iff_eq, beq_eq_false_iff_ne, Bool.not_eq_true, Bool.not_eq_false, decide_eq_true_eq, decide_eq_false_iff_not, Bool.not_eq_true', Bool.not_eq_false', bne_iff_ne, Bool.not_eq_eq_eq_not, Bool.not_true, Bool.not_false, ne_eq, Decidable.not_not, Int.not_lt, Int.not_le] at h33
      refine Tr.exit (At.then_exit (At.then_exit (At.block_hit (At.then_normal ?_))))
      refine Tr.seq ?_
      refine Tr.seq ?_
      refine Tr.region ?_
      refine TrL.move rfl rfl ?_
      refine TrL.assign rfl rfl ?_
      refine TrL.nil (At.then_normal ?_)
      refine Tr.block ?_
      rw [← oneRow_zero]
      refine Tr.loopK [0, 1, 2, 3, 4, 10] (α := Nat) (fun k => [(13, .int .i64 ((X.length + k : Nat) : Int))]) (fun k => [Own 46 4 encT p cap (oneRow X x B Y k)]) (fun k => k ≤ y.1) (fun k => y.1 - k) (0) (by rfl) ?_ (by repeat (first | exact Sub.nil | refine Sub.cons (by rfl) ?_)) (by repeat (first | exact Picks.nil | with_reducible exact Pick.here | with_reducible apply Pick.there | with_reducible apply Pick.app_nil | with_reducible apply Pick.app_cons | apply Picks.cons)) ?_
      · exact Nat.zero_le _
      rintro k hk
      refine Tr.seq ?_
      refine Tr.seq ?_
      refine Tr.region ?_
      refine TrL.move rfl rfl ?_
      refine TrL.move rfl rfl ?_
      refine TrL.subI rfl rfl rfl (by omega) ?_
      refine TrL.lss rfl rfl rfl ?_
      refine TrL.nil (At.then_normal ?_)
      refine Tr.cond rfl (fun h58 => ?_) (fun h58 => ?_)
      · try simp only [beq_iff_eq, beq_eq_false_iff_ne, Bool.not_eq_true, Bool.not_eq_false, decide_eq_true_eq, decide_eq_false_iff_not, Bool.not_eq_true', Bool.not_eq_false', bne_iff_ne, Bool.not_eq_eq_eq_not, Bool.not_true, Bool.not_false, ne_eq, Decidable.not_not, Int.not_lt, Int.not_le] at h58
        refine Tr.skip (At.then_normal ?_)
        refine Tr.seq ?_
        refine Tr.block ?_
        obtain ⟨u1, u2⟩ := one_up (X := X) (x := x) (Y := Y) (show k < B.length by omega)
        refine Tr.base (enc := encT) (k := 4) (by repeat (first | with_reducible exact Pick.here | with_reducible apply Pick.there | with_reducible apply Pick.app_nil | with_reducible apply Pick.app_cons)) (by rw [oneRow_len]; omega) (fun hp => ?_)
        refine Tr.regionD [] mixed ?_
        refine TrD.take 0 rfl (by kernel_rfl) (by kernel_rfl) (by kernel_rfl) (by repeat (first | exact Picks.nil | with_reducible exact Pick.here | with_reducible apply Pick.there | with_reducible apply Pick.app_nil | with_reducible apply Pick.app_cons | apply Picks.cons)) ?_
        refine TrL.move rfl rfl ?_
        refine TrL.nilTake (listed' := #[true, false, false, false, false, false, false, false, false, false, false, false, false, false, false, false, false, false]) (by kernel_rfl) ?_
        refine TrD.take 1 rfl (by kernel_rfl) (by kernel_rfl) (by kernel_rfl) (by repeat (first | exact Picks.nil | with_reducible exact Pick.here | with_reducible apply Pick.there | with_reducible apply Pick.app_nil | with_reducible apply Pick.app_cons | apply Picks.cons)) ?_
        refine TrL.move rfl rfl ?_
        refine TrL.nilTake (listed' := #[true, true, false, false, false, false, false, false, false, false, false, false, false, false, false, false, false, false]) (by kernel_rfl) ?_
        refine TrD.take 2 rfl (by kernel_rfl) (by kernel_rfl) (by kernel_rfl) (by repeat (first | exact Picks.nil | with_reducible exact Pick.here | with_reducible apply Pick.there | with_reducible apply Pick.app_nil | with_reducible apply Pick.app_cons | apply Picks.cons)) ?_
        refine TrL.move rfl rfl ?_
        refine TrL.nilTake (listed' := #[true, true, true, false, false, false, false, false, false, false, false, false, false, false, false, false, false, false]) (by kernel_rfl) ?_
        refine TrD.take 3 rfl (by kernel_rfl) (by kernel_rfl) (by kernel_rfl) (by repeat (first | exact Picks.nil | with_reducible exact Pick.here | with_reducible apply Pick.there | with_reducible apply Pick.app_nil | with_reducible apply Pick.app_cons | apply Picks.cons)) ?_
        refine TrL.move rfl rfl ?_
        refine TrL.nilTake (listed' := #[true, true, true, true, false, false, false, false, false, false, false, false, false, false, false, false, false, false]) (by kernel_rfl) ?_
        refine TrD.take 4 rfl (by kernel_rfl) (by kernel_rfl) (by kernel_rfl) (by repeat (first | exact Picks.nil | with_reducible exact Pick.here | with_reducible apply Pick.there | with_reducible apply Pick.app_nil | with_reducible apply Pick.app_cons | apply Picks.cons)) ?_
        refine TrL.addI rfl rfl rfl (by omega) ?_
        refine TrL.nilTake (listed' := #[true, true, true, true, true, false, false, false, false, false, false, false, false, false, false, false, false, false]) (by kernel_rfl) ?_
        refine TrD.take 5 rfl (by kernel_rfl) (by kernel_rfl) (by kernel_rfl) (by repeat (first | exact Picks.nil | with_reducible exact Pick.here | with_reducible apply Pick.there | with_reducible apply Pick.app_nil | with_reducible apply Pick.app_cons | apply Picks.cons)) ?_
        refine TrL.move rfl rfl ?_
        refine TrL.nilTake (listed' := #[true, true, true, true, true, true, false, false, false, false, false, false, false, false, false, false, false, false]) (by kernel_rfl) ?_
        refine TrD.take 6 rfl (by kernel_rfl) (by kernel_rfl) (by kernel_rfl) (by repeat (first | exact Picks.nil | with_reducible exact Pick.here | with_reducible apply Pick.there | with_reducible apply Pick.app_nil | with_reducible apply Pick.app_cons | apply Picks.cons)) ?_
        refine TrL.move rfl rfl ?_
        refine TrL.nilTake (listed' := #[true, true, true, true, true, true, true, false, false, false, false, false, false, false, false, false, false, false]) (by kernel_rfl) ?_
        refine TrD.take 7 rfl (by kernel_rfl) (by kernel_rfl) (by kernel_rfl) (by repeat (first | exact Picks.nil | with_reducible exact Pick.here | with_reducible apply Pick.there | with_reducible apply Pick.app_nil | with_reducible apply Pick.app_cons | apply Picks.cons)) ?_
        refine TrL.addI rfl rfl rfl (by omega) ?_
        refine TrL.nilTake (listed' := #[true, true, true, true, true, true, true, true, false, false, false, false, false, false, false, false, false, false]) (by kernel_rfl) ?_
        refine TrD.take 8 rfl (by kernel_rfl) (by kernel_rfl) (by kernel_rfl) (by repeat (first | exact Picks.nil | with_reducible exact Pick.here | with_reducible apply Pick.there | with_reducible apply Pick.app_nil | with_reducible apply Pick.app_cons | apply Picks.cons)) ?_
        refine TrL.idxQ (X.length + (k + 1)) rfl rfl rfl se22 sz46 hp (by omega) (by omega) ?_
        refine TrL.nilTake (listed' := #[true, true, true, true, true, true, true, true, true, false, false, false, false, false, false, false, false, false]) (by kernel_rfl) ?_
        refine TrD.take 10 rfl (by kernel_rfl) (by kernel_rfl) (by kernel_rfl) (by repeat (first | exact Picks.nil | with_reducible exact Pick.here | with_reducible apply Pick.there | with_reducible apply Pick.app_nil | with_reducible apply Pick.app_cons | apply Picks.cons)) ?_
        refine TrL.move rfl rfl ?_
        refine TrL.nilTake (listed' := #[true, true, true, true, true, true, true, true, true, false, true, false, false, false, false, false, false, false]) (by kernel_rfl) ?_
        refine TrD.take 11 rfl (by kernel_rfl) (by kernel_rfl) (by kernel_rfl) (by repeat (first | exact Picks.nil | with_reducible exact Pick.here | with_reducible apply Pick.there | with_reducible apply Pick.app_nil | with_reducible apply Pick.app_cons | apply Picks.cons)) ?_
        refine TrL.move rfl rfl ?_
        refine TrL.nilTake (listed' := #[true, true, true, true, true, true, true, true, true, false, true, true, false, false, false, false, false, false]) (by kernel_rfl) ?_
        refine TrD.take 12 rfl (by kernel_rfl) (by kernel_rfl) (by kernel_rfl) (by repeat (first | exact Picks.nil | with_reducible exact Pick.here | with_reducible apply Pick.there | with_reducible apply Pick.app_nil | with_reducible apply Pick.app_cons | apply Picks.cons)) ?_
        refine TrL.idxQ (X.length + k) rfl rfl rfl se22 sz46 hp (by omega) (by omega) ?_
        refine TrL.nilTake (listed' := #[true, true, true, true, true, true, true, true, true, false, true, true, true, false, false, false, false, false]) (by kernel_rfl) ?_
        refine TrD.all [9, 13] (by kernel_rfl) rfl ?_
        refine all_cons ⟨_, rfl, ?_⟩ ?_
        · skip
          refine TrL.loadO (enc := encT) (k := 4) (i := X.length + (k + 1)) rfl rfl ag46 sz46 (by repeat (first | with_reducible exact Pick.here | with_reducible apply Pick.there | with_reducible apply Pick.app_nil | with_reducible apply Pick.app_cons)) rfl rfl encT_len u1 ?_
          refine TrL.nil (At.step (listed' := #[true, true, true, true, true, true, true, true, true, true, true, true, true, false, false, false, false, false]) (by kernel_rfl) (by repeat (first | exact Picks.nil | with_reducible exact Pick.here | with_reducible apply Pick.there | with_reducible apply Pick.app_nil | with_reducible apply Pick.app_cons | apply Picks.cons)) ?_)
          refine TrD.all [13] (by kernel_rfl) rfl ?_
          refine all_cons ⟨_, rfl, ?_⟩ all_nil
          refine TrL.loadO (enc := encT) (k := 4) (i := X.length + k) rfl rfl ag46 sz46 (by repeat (first | with_reducible exact Pick.here | with_reducible apply Pick.there | with_reducible apply Pick.app_nil | with_reducible apply Pick.app_cons)) rfl rfl encT_len (one_at (by omega)) ?_
          refine TrL.nil (At.step (listed' := #[true, true, true, true, true, true, true, true, true, true, true, true, true, true, false, false, false, false]) (by kernel_rfl) (by repeat (first | exact Picks.nil | with_reducible exact Pick.here | with_reducible apply Pick.there | with_reducible apply Pick.app_nil | with_reducible apply Pick.app_cons | apply Picks.cons)) ?_)
          refine TrD.take 14 rfl (by kernel_rfl) (by kernel_rfl) (by kernel_rfl) (by repeat (first | exact Picks.nil | with_reducible exact Pick.here | with_reducible apply Pick.there | with_reducible apply Pick.app_nil | with_reducible apply Pick.app_cons | apply Picks.cons)) ?_
          refine TrL.idxQ (X.length + k) rfl rfl rfl se22 sz46 hp (by omega) (by omega) ?_
          refine TrL.nilTake (listed' := #[true, true, true, true, true, true, true, true, true, true, true, true, true, true, true, false, false, false]) (by kernel_rfl) ?_
          refine TrD.all [15] (by kernel_rfl) rfl ?_
          refine all_cons ⟨_, rfl, ?_⟩ all_nil
          refine TrL.storeO (enc := encT) (k := 4) (i := X.length + k) (v := B[k]) rfl rfl sz46 (by repeat (first | with_reducible exact Pick.here | with_reducible apply Pick.there | with_reducible apply Pick.app_nil | with_reducible apply Pick.app_cons)) rfl rfl (by rw [oneRow_len]; omega) rfl encT_len rfl ?_
          refine TrL.nil (At.step (listed' := #[true, true, true, true, true, true, true, true, true, true, true, true, true, true, true, true, false, false]) (by kernel_rfl) (by repeat (first | exact Picks.nil | with_reducible exact Pick.here | with_reducible apply Pick.there | with_reducible apply Pick.app_nil | with_reducible apply Pick.app_cons | apply Picks.cons)) ?_)
          refine TrD.take 16 rfl (by kernel_rfl) (by kernel_rfl) (by kernel_rfl) (by repeat (first | exact Picks.nil | with_reducible exact Pick.here | with_reducible apply Pick.there | with_reducible apply Pick.app_nil | with_reducible apply Pick.app_cons | apply Picks.cons)) ?_
          refine TrL.idxQ (X.length + (k + 1)) rfl rfl rfl se22 sz46 hp (by omega) (by omega) ?_
          refine TrL.nilTake (listed' := #[true, true, true, true, true, true, true, true, true, true, true, true, true, true, true, true, true, false]) (by kernel_rfl) ?_
          refine TrD.all [17] (by kernel_rfl) rfl ?_
          refine all_cons ⟨_, rfl, ?_⟩ all_nil
          refine TrL.storeO (enc := encT) (k := 4) (i := X.length + (k + 1)) (v := x) rfl rfl sz46 (by repeat (first | with_reducible exact Pick.here | with_reducible apply Pick.there | with_reducible apply Pick.app_nil | with_reducible apply Pick.app_cons)) rfl rfl (by rw [List.length_set, oneRow_len]; omega) rfl encT_len rfl ?_
          refine TrL.nil (At.step (listed' := #[true, true, true, true, true, true, true, true, true, true, true, true, true, true, true, true, true, true]) (by kernel_rfl) (by repeat (first | exact Picks.nil | with_reducible exact Pick.here | with_reducible apply Pick.there | with_reducible apply Pick.app_nil | with_reducible apply Pick.app_cons | apply Picks.cons)) ?_)
          refine TrD.done (by kernel_rfl) (At.block_normal (At.then_normal ?_))
          refine Tr.region ?_
          refine TrL.move rfl rfl ?_
          refine TrL.addI rfl rfl rfl (by omega) ?_
          refine TrL.assign rfl rfl ?_
          refine TrL.nil ?_
          rw [u2]
          refine At.again (k + 1) (by show k + 1 ≤ y.1; omega) (by omega) (by repeat (first | exact Sub.nil | refine Sub.cons (by rfl) ?_)) (by repeat (first | exact Picks.nil | with_reducible exact Pick.here | with_reducible apply Pick.there | with_reducible apply Pick.app_nil | with_reducible apply Pick.app_cons | apply Picks.cons))
        refine all_cons ⟨_, rfl, ?_⟩ ?_
        · skip
          refine TrL.loadO (enc := encT) (k := 4) (i := X.length + k) rfl rfl ag46 sz46 (by repeat (first | with_reducible exact Pick.here | with_reducible apply Pick.there | with_reducible apply Pick.app_nil | with_reducible apply Pick.app_cons)) rfl rfl encT_len (one_at (by omega)) ?_
          refine TrL.nil (At.step (listed' := #[true, true, true, true, true, true, true, true, true, false, true, true, true, true, false, false, false, false]) (by kernel_rfl) (by repeat (first | exact Picks.nil | with_reducible exact Pick.here | with_reducible apply Pick.there | with_reducible apply Pick.app_nil | with_reducible apply Pick.app_cons | apply Picks.cons)) ?_)
          refine TrD.all [9] (by kernel_rfl) rfl ?_
          refine all_cons ⟨_, rfl, ?_⟩ all_nil
          refine TrL.loadO (enc := encT) (k := 4) (i := X.length + (k + 1)) rfl rfl ag46 sz46 (by repeat (first | with_reducible exact Pick.here | with_reducible apply Pick.there | with_reducible apply Pick.app_nil | with_reducible apply Pick.app_cons)) rfl rfl encT_len u1 ?_
          refine TrL.nil (At.step (listed' := #[true, true, true, true, true, true, true, true, true, true, true, true, true, true, false, false, false, false]) (by kernel_rfl) (by repeat (first | exact Picks.nil | with_reducible exact Pick.here | with_reducible apply Pick.there | with_reducible apply Pick.app_nil | with_reducible apply Pick.app_cons | apply Picks.cons)) ?_)
          refine TrD.take 14 rfl (by kernel_rfl) (by kernel_rfl) (by kernel_rfl) (by repeat (first | exact Picks.nil | with_reducible exact Pick.here | with_reducible apply Pick.there | with_reducible apply Pick.app_nil | with_reducible apply Pick.app_cons | apply Picks.cons)) ?_
          refine TrL.idxQ (X.length + k) rfl rfl rfl se22 sz46 hp (by omega) (by omega) ?_
          refine TrL.nilTake (listed' := #[true, true, true, true, true, true, true, true, true, true, true, true, true, true, true, false, false, false]) (by kernel_rfl) ?_
          refine TrD.all [15] (by kernel_rfl) rfl ?_
          refine all_cons ⟨_, rfl, ?_⟩ all_nil
          refine TrL.storeO (enc := encT) (k := 4) (i := X.length + k) (v := B[k]) rfl rfl sz46 (by repeat (first | with_reducible exact Pick.here | with_reducible apply Pick.there | with_reducible apply Pick.app_nil | with_reducible apply Pick.app_cons)) rfl rfl (by rw [oneRow_len]; omega) rfl encT_len rfl ?_
          refine TrL.nil (At.step (listed' := #[true, true, true, true, true, true, true, true, true, true, true, true, true, true, true, true, false, false]) (by kernel_rfl) (by repeat (first | exact Picks.nil | with_reducible exact Pick.here | with_reducible apply Pick.there | with_reducible apply Pick.app_nil | with_reducible apply Pick.app_cons | apply Picks.cons)) ?_)
          refine TrD.take 16 rfl (by kernel_rfl) (by kernel_rfl) (by kernel_rfl) (by repeat (first | exact Picks.nil | with_reducible exact Pick.here | with_reducible apply Pick.there | with_reducible apply Pick.app_nil | with_reducible apply Pick.app_cons | apply Picks.cons)) ?_
          refine TrL.idxQ (X.length + (k + 1)) rfl rfl rfl se22 sz46 hp (by omega) (by omega) ?_
          refine TrL.nilTake (listed' := #[true, true, true, true, true, true, true, true, true, true, true, true, true, true, true, true, true, false]) (by kernel_rfl) ?_
          refine TrD.all [17] (by kernel_rfl) rfl ?_
          refine all_cons ⟨_, rfl, ?_⟩ all_nil
          refine TrL.storeO (enc := encT) (k := 4) (i := X.length + (k + 1)) (v := x) rfl rfl sz46 (by repeat (first | with_reducible exact Pick.here | with_reducible apply Pick.there | with_reducible apply Pick.app_nil | with_reducible apply Pick.app_cons)) rfl rfl (by rw [List.length_set, oneRow_len]; omega) rfl encT_len rfl ?_
          refine TrL.nil (At.step (listed' := #[true, true, true, true, true, true, true, true, true, true, true, true, true, true, true, true, true, true]) (by kernel_rfl) (by repeat (first | exact Picks.nil | with_reducible exact Pick.here | with_reducible apply Pick.there | with_reducible apply Pick.app_nil | with_reducible apply Pick.app_cons | apply Picks.cons)) ?_)
          refine TrD.done (by kernel_rfl) (At.block_normal (At.then_normal ?_))
          refine Tr.region ?_
          refine TrL.move rfl rfl ?_
          refine TrL.addI rfl rfl rfl (by omega) ?_
          refine TrL.assign rfl rfl ?_
          refine TrL.nil ?_
          rw [u2]
          refine At.again (k + 1) (by show k + 1 ≤ y.1; omega) (by omega) (by repeat (first | exact Sub.nil | refine Sub.cons (by rfl) ?_)) (by repeat (first | exact Picks.nil | with_reducible exact Pick.here | with_reducible apply Pick.there | with_reducible apply Pick.app_nil | with_reducible apply Pick.app_cons | apply Picks.cons))
        exact all_nil
      · try simp only [beq_iff_eq, beq_eq_false_iff_ne, Bool.not_eq_true, Bool.not_eq_false, decide_eq_true_eq, decide_eq_false_iff_not, Bool.not_eq_true', Bool.not_eq_false', bne_iff_ne, Bool.not_eq_eq_eq_not, Bool.not_true, Bool.not_false, ne_eq, Decidable.not_not, Int.not_lt, Int.not_le] at h58
        refine Tr.exit (At.then_exit (At.then_exit (At.block_hit (At.then_normal ?_))))
        refine Tr.ret (At.then_ret (At.retP [_] (.inl rfl) rfl Res.nil (by repeat (first | exact Picks.nil | with_reducible exact Pick.here | with_reducible apply Pick.there | with_reducible apply Pick.app_nil | with_reducible apply Pick.app_cons | apply Picks.cons)) (by 
            obtain rfl : k = y.1 := by omega
            rw [oneRow_mid]
            refine hK _ ?_ (one_left ltT_sw sB hy3 (by rw [show y.1 = y.2 by omega]; exact hy4) (by omega))
            refine List.perm_middle.trans ?_
            rw [List.take_append_drop]
            exact List.Perm.refl _)))
  · try simp only [beq_iff_eq, beq_eq_false_iff_ne, Bool.not_eq_true, Bool.not_eq_false, decide_eq_true_eq, decide_eq_false_iff_not, Bool.not_eq_true', Bool.not_eq_false', bne_iff_ne, Bool.not_eq_eq_eq_not, Bool.not_true, Bool.not_false, ne_eq, Decidable.not_not, Int.not_lt, Int.not_le] at h28
    refine Tr.skip (At.then_normal ?_)
    refine Tr.seq ?_
    refine Tr.seq ?_
    refine Tr.region ?_
    refine TrL.move rfl rfl ?_
    refine TrL.move rfl rfl ?_
    refine TrL.subI rfl rfl rfl (by omega) ?_
    refine TrL.eqi rfl rfl rfl ?_
    refine TrL.nil (At.then_normal ?_)
    refine Tr.cond rfl (fun h80 => ?_) (fun h80 => ?_)
    · try simp only [beq_iff_eq, beq_eq_false_iff_ne, Bool.not_eq_true, Bool.not_eq_false, decide_eq_true_eq, decide_eq_false_iff_not, Bool.not_eq_true', Bool.not_eq_false', bne_iff_ne, Bool.not_eq_eq_eq_not, Bool.not_true, Bool.not_false, ne_eq, Decidable.not_not, Int.not_lt, Int.not_le] at h80
      obtain ⟨x, rfl⟩ : ∃ x, B = [x] := List.length_eq_one_iff.1 (by omega)
      simp only [List.length_singleton] at hlen hf hB0
      refine Tr.seq ?_
      refine Tr.region ?_
      refine TrL.move rfl rfl ?_
      refine TrL.assign rfl rfl ?_
      refine TrL.nil (At.then_normal ?_)
      refine Tr.seq ?_
      refine Tr.region ?_
      refine TrL.move rfl rfl ?_
      refine TrL.assign rfl rfl ?_
      refine TrL.nil (At.then_normal ?_)
      refine Tr.seq ?_
      refine Tr.block ?_
      refine Tr.loopK [0, 1, 2, 3, 4] (α := Nat × Nat) (fun y => [(14, .int .i64 ((X.length + y.1 : Nat) : Int)), (15, .int .i64 ((X.length + y.2 : Nat) : Int))]) (fun y => []) (fun y => y.1 ≤ y.2 ∧ y.2 ≤ A.length ∧ (y.1 = 0 ∨ ∃ z, A[y.1 - 1]? = some z ∧ ltT x z = false) ∧ (y.2 = A.length ∨ ∃ z, A[y.2]? = some z ∧ ltT x z = true)) (fun y => y.2 - y.1) (0, A.length) (by rfl) ?_ (by repeat (first | exact Sub.nil | refine Sub.cons (by rfl) ?_)) (by repeat (first | exact Picks.nil | with_reducible exact Pick.here | with_reducible apply Pick.there | with_reducible apply Pick.app_nil | with_reducible apply Pick.app_cons | apply Picks.cons)) ?_
      · exact ⟨Nat.zero_le _, Nat.le_refl _, .inl rfl, .inl rfl⟩
      rintro y ⟨hy1, hy2, hy3, hy4⟩
      refine Tr.seq ?_
      refine Tr.seq ?_
      refine Tr.region ?_
      refine TrL.move rfl rfl ?_
      refine TrL.move rfl rfl ?_
      refine TrL.lss rfl rfl rfl ?_
      refine TrL.nil (At.then_normal ?_)
      refine Tr.cond rfl (fun h85 => ?_) (fun h85 => ?_)
      · try simp only [beq_iff_eq, beq_eq_false_iff_ne, Bool.not_eq_true, Bool.not_eq_false, decide_eq_true_eq, decide_eq_false_iff_not, Bool.not_eq_true', Bool.not_eq_false', bne_iff_ne, Bool.not_eq_eq_eq_not, Bool.not_true, Bool.not_false, ne_eq, Decidable.not_not, Int.not_lt, Int.not_le] at h85
        refine Tr.skip (At.then_normal ?_)
        refine Tr.block ?_
        refine Tr.seq ?_
        refine Tr.region ?_
        refine TrL.move rfl rfl ?_
        refine TrL.move rfl rfl ?_
        refine TrL.addI rfl rfl rfl (by omega) ?_
        refine TrL.convI rfl rfl sc3 in91 ?_
        refine TrL.shr rfl rfl rfl (by omega) ?_
        refine TrL.convI rfl rfl sc91 in3 ?_
        refine TrL.assign rfl rfl ?_
        refine TrL.nil (At.then_normal ?_)
        refine Tr.seq ?_
        rw [half (i := X.length + y.1) (j := X.length + y.2) (h := X.length + (y.1 + y.2) / 2) (by omega) (by omega)]
        have hyl : (y.1 + y.2) / 2 < A.length := by omega
        refine Tr.base (enc := encT) (k := 4) (by repeat (first | with_reducible exact Pick.here | with_reducible apply Pick.there | with_reducible apply Pick.app_nil | with_reducible apply Pick.app_cons)) (by simp only [List.length_append, List.length_cons]; omega) (fun hp => ?_)
        refine Tr.regionT 9 mixed (by kernel_rfl) rfl rfl ?_
        refine TrL.move rfl rfl ?_
        refine TrL.move rfl rfl ?_
        refine TrL.move rfl rfl ?_
        refine TrL.idxQ (X.length + A.length) rfl rfl rfl se22 sz46 hp rfl (by omega) ?_
        refine TrL.loadO (enc := encT) (k := 4) (i := X.length + A.length) rfl rfl ag46 sz46 (by repeat (first | with_reducible exact Pick.here | with_reducible apply Pick.there | with_reducible apply Pick.app_nil | with_reducible apply Pick.app_cons)) rfl rfl encT_len row_last ?_
        refine TrL.move rfl rfl ?_
        refine TrL.move rfl rfl ?_
        refine TrL.idxQ (X.length + (y.1 + y.2) / 2) rfl rfl rfl se22 sz46 hp rfl (by omega) ?_
        refine TrL.loadO (enc := encT) (k := 4) (i := X.length + (y.1 + y.2) / 2) rfl rfl ag46 sz46 (by repeat (first | with_reducible exact Pick.here | with_reducible apply Pick.there | with_reducible apply Pick.app_nil | with_reducible apply Pick.app_cons)) rfl rfl encT_len (row_a' hyl) ?_
        refine TrL.turn ?_
        refine TrL.call rfl rfl rfl ca50 .nil (fun Ft101 hUt101 => order_spec (fun r hr => ?_))
        refine TrL.lss rfl rfl rfl ?_
        refine TrL.not rfl rfl ?_
        refine TrL.nil (At.then_normal ?_)
        refine Tr.cond rfl (fun h103 => ?_) (fun h103 => ?_)
        · try simp only [beq_iff_eq, beq_eq_false_iff_ne, Bool.not_eq_true, Bool.not_eq_false, decide_eq_true_eq, decide_eq_false_iff_not, Bool.not_eq_true', Bool.not_eq_false', bne_iff_ne, Bool.not_eq_eq_eq_not, Bool.not_true, Bool.not_false, ne_eq, Decidable.not_not, Int.not_lt, Int.not_le] at h103
          refine Tr.region ?_
          refine TrL.move rfl rfl ?_
          refine TrL.addI rfl rfl rfl (by omega) ?_
          refine TrL.assign rfl rfl ?_
          refine TrL.nil (At.block_normal ?_)
          refine At.again ((y.1 + y.2) / 2 + 1, y.2) ⟨by show (y.1 + y.2) / 2 + 1 ≤ y.2; omega, hy2, .inr ⟨A[(y.1 + y.2) / 2], List.getElem?_eq_getElem hyl, by rw [← hr]; simpa using h103⟩, hy4⟩ (by show y.2 - ((y.1 + y.2) / 2 + 1) < y.2 - y.1; omega) (by repeat (first | exact Sub.nil | refine Sub.cons (by rfl) ?_)) (by repeat (first | exact Picks.nil | with_reducible exact Pick.here | with_reducible apply Pick.there | with_reducible apply Pick.app_nil | with_reducible apply Pick.app_cons | apply Picks.cons))
        · try simp only [beq_iff_eq, beq_eq_false_iff_ne, Bool.not_eq_true, Bool.not_eq_false, decide_eq_true_eq, decide_eq_false_iff_not, Bool.not_eq_true', Bool.not_eq_false', bne_iff_ne, Bool.not_eq_eq_eq_not, Bool.not_true, Bool.not_false, ne_eq, Decidable.not_not, Int.not_lt, Int.not_le] at h103
          refine Tr.region ?_
          refine TrL.move rfl rfl ?_
          refine TrL.assign rfl rfl ?_
          refine TrL.nil (At.block_normal ?_)
          refine At.again (y.1, (y.1 + y.2) / 2) ⟨by show y.1 ≤ (y.1 + y.2) / 2; omega, by show (y.1 + y.2) / 2 ≤ A.length; omega, hy3, .inr ⟨A[(y.1 + y.2) / 2], List.getElem?_eq_getElem hyl, by rw [← hr]; simpa using h103⟩⟩ (by show (y.1 + y.2) / 2 - y.1 < y.2 - y.1; omega) (by repeat (first | exact Sub.nil | refine Sub.cons (by rfl) ?_)) (by repeat (first | exact Picks.nil | with_reducible exact Pick.here | with_reducible apply Pick.there | with_reducible apply Pick.app_nil | with_reducible apply Pick.app_cons | apply Picks.cons))
      · try simp only [beq_iff_eq, beq_eq_false_iff_ne, Bool.not_eq_true, Bool.not_eq_false, decide_eq_true_eq, decide_eq_false_iff_not, Bool.not_eq_true', Bool.not_eq_false', bne_iff_ne, Bool.not_eq_eq_eq_not, Bool.not_true, Bool.not_false, ne_eq, Decidable.not_not, Int.not_lt, Int.not_le] at h85
        refine Tr.exit (At.then_exit (At.then_exit (At.block_hit (At.then_normal ?_))))
        refine Tr.seq ?_
        refine Tr.seq ?_
        refine Tr.region ?_
        refine TrL.move rfl rfl ?_
        refine TrL.assign rfl rfl ?_
        refine TrL.nil (At.then_normal ?_)
        refine Tr.block ?_
        rw [← oneRow_end]
        refine Tr.loopK [0, 1, 2, 3, 4, 14] (α := Nat) (fun k => [(17, .int .i64 ((X.length + k : Nat) : Int))]) (fun k => [Own 46 4 encT p cap (oneRow X x A Y k)]) (fun k => y.1 ≤ k ∧ k ≤ A.length) (fun k => k) (A.length) (by rfl) ?_ (by repeat (first | exact Sub.nil | refine Sub.cons (by rfl) ?_)) (by repeat (first | exact Picks.nil | with_reducible exact Pick.here | with_reducible apply Pick.there | with_reducible apply Pick.app_nil | with_reducible apply Pick.app_cons | apply Picks.cons)) ?_
        · exact ⟨by omega, Nat.le_refl _⟩
        rintro k1 ⟨hk, hk2⟩
        refine Tr.seq ?_
        refine Tr.seq ?_
        refine Tr.region ?_
        refine TrL.move rfl rfl ?_
        refine TrL.move rfl rfl ?_
        refine TrL.gtr rfl rfl rfl ?_
        refine TrL.nil (At.then_normal ?_)
        refine Tr.cond rfl (fun h110 => ?_) (fun h110 => ?_)
        · try simp only [beq_iff_eq, beq_eq_false_iff_ne, Bool.not_eq_true, Bool.not_eq_false, decide_eq_true_eq, decide_eq_false_iff_not, Bool.not_eq_true', Bool.not_eq_false', bne_iff_ne, Bool.not_eq_eq_eq_not, Bool.not_true, Bool.not_false, ne_eq, Decidable.not_not, Int.not_lt, Int.not_le] at h110
          refine Tr.skip (At.then_normal ?_)
          refine Tr.seq ?_
          refine Tr.block ?_
          obtain ⟨k, rfl⟩ : ∃ k, k1 = k + 1 := ⟨k1 - 1, by omega⟩
          obtain ⟨u1, u2⟩ := one_down (X := X) (x := x) (Y := Y) (show k < A.length by omega)
          refine Tr.base (enc := encT) (k := 4) (by repeat (first | with_reducible exact Pick.here | with_reducible apply Pick.there | with_reducible apply Pick.app_nil | with_reducible apply Pick.app_cons)) (by rw [oneRow_len]; omega) (fun hp => ?_)
          refine Tr.regionD [] mixed ?_
          refine TrD.take 0 rfl (by kernel_rfl) (by kernel_rfl) (by kernel_rfl) (by repeat (first | exact Picks.nil | with_reducible exact Pick.here | with_reducible apply Pick.there | with_reducible apply Pick.app_nil | with_reducible apply Pick.app_cons | apply Picks.cons)) ?_
          refine TrL.move rfl rfl ?_
          refine TrL.nilTake (listed' := #[true, false, false, false, false, false, false, false, false, false, false, false, false, false, false, false, false, false]) (by kernel_rfl) ?_
          refine TrD.take 1 rfl (by kernel_rfl) (by kernel_rfl) (by kernel_rfl) (by repeat (first | exact Picks.nil | with_reducible exact Pick.here | with_reducible apply Pick.there | with_reducible apply Pick.app_nil | with_reducible apply Pick.app_cons | apply Picks.cons)) ?_
          refine TrL.move rfl rfl ?_
          refine TrL.nilTake (listed' := #[true, true, false, false, false, false, false, false, false, false, false, false, false, false, false, false, false, false]) (by kernel_rfl) ?_
          refine TrD.take 2 rfl (by kernel_rfl) (by kernel_rfl) (by kernel_rfl) (by repeat (first | exact Picks.nil | with_reducible exact Pick.here | with_reducible apply Pick.there | with_reducible apply Pick.app_nil | with_reducible apply Pick.app_cons | apply Picks.cons)) ?_
          refine TrL.move rfl rfl ?_
          refine TrL.nilTake (listed' := #[true, true, true, false, false, false, false, false, false, false, false, false, false, false, false, false, false, false]) (by kernel_rfl) ?_
          refine TrD.take 3 rfl (by kernel_rfl) (by kernel_rfl) (by kernel_rfl) (by repeat (first | exact Picks.nil | with_reducible exact Pick.here | with_reducible apply Pick.there | with_reducible apply Pick.app_nil | with_reducible apply Pick.app_cons | apply Picks.cons)) ?_
          refine TrL.move rfl rfl ?_
          refine TrL.nilTake (listed' := #[true, true, true, true, false, false, false, false, false, false, false, false, false, false, false, false, false, false]) (by kernel_rfl) ?_
          refine TrD.take 4 rfl (by kernel_rfl) (by kernel_rfl) (by kernel_rfl) (by repeat (first | exact Picks.nil | with_reducible exact Pick.here | with_reducible apply Pick.there | with_reducible apply Pick.app_nil | with_reducible apply Pick.app_cons | apply Picks.cons)) ?_
          refine TrL.subI rfl rfl rfl (by omega) ?_
          refine TrL.nilTake (listed' := #[true, true, true, true, true, false, false, false, false, false, false, false, false, false, false, false, false, false]) (by kernel_rfl) ?_
          refine TrD.take 5 rfl (by kernel_rfl) (by kernel_rfl) (by kernel_rfl) (by repeat (first | exact Picks.nil | with_reducible exact Pick.here | with_reducible apply Pick.there | with_reducible apply Pick.app_nil | with_reducible apply Pick.app_cons | apply Picks.cons)) ?_
          refine TrL.move rfl rfl ?_
          refine TrL.nilTake (listed' := #[true, true, true, true, true, true, false, false, false, false, false, false, false, false, false, false, false, false]) (by kernel_rfl) ?_
          refine TrD.take 6 rfl (by kernel_rfl) (by kernel_rfl) (by kernel_rfl) (by repeat (first | exact Picks.nil | with_reducible exact Pick.here | with_reducible apply Pick.there | with_reducible apply Pick.app_nil | with_reducible apply Pick.app_cons | apply Picks.cons)) ?_
          refine TrL.move rfl rfl ?_
          refine TrL.nilTake (listed' := #[true, true, true, true, true, true, true, false, false, false, false, false, false, false, false, false, false, false]) (by kernel_rfl) ?_
          refine TrD.take 7 rfl (by kernel_rfl) (by kernel_rfl) (by kernel_rfl) (by repeat (first | exact Picks.nil | with_reducible exact Pick.here | with_reducible apply Pick.there | with_reducible apply Pick.app_nil | with_reducible apply Pick.app_cons | apply Picks.cons)) ?_
          refine TrL.subI rfl rfl rfl (by omega) ?_
          refine TrL.nilTake (listed' := #[true, true, true, true, true, true, true, true, false, false, false, false, false, false, false, false, false, false]) (by kernel_rfl) ?_
          refine TrD.take 8 rfl (by kernel_rfl) (by kernel_rfl) (by kernel_rfl) (by repeat (first | exact Picks.nil | with_reducible exact Pick.here | with_reducible apply Pick.there | with_reducible apply Pick.app_nil | with_reducible apply Pick.app_cons | apply Picks.cons)) ?_
          refine TrL.idxQ (X.length + k) rfl rfl rfl se22 sz46 hp (by omega) (by omega) ?_
          refine TrL.nilTake (listed' := #[true, true, true, true, true, true, true, true, true, false, false, false, false, false, false, false, false, false]) (by kernel_rfl) ?_
          refine TrD.take 10 rfl (by kernel_rfl) (by kernel_rfl) (by kernel_rfl) (by repeat (first | exact Picks.nil | with_reducible exact Pick.here | with_reducible apply Pick.there | with_reducible apply Pick.app_nil | with_reducible apply Pick.app_cons | apply Picks.cons)) ?_
          refine TrL.move rfl rfl ?_
          refine TrL.nilTake (listed' := #[true, true, true, true, true, true, true, true, true, false, true, false, false, false, false, false, false, false]) (by kernel_rfl) ?_
          refine TrD.take 11 rfl (by kernel_rfl) (by kernel_rfl) (by kernel_rfl) (by repeat (first | exact Picks.nil | with_reducible exact Pick.here | with_reducible apply Pick.there | with_reducible apply Pick.app_nil | with_reducible apply Pick.app_cons | apply Picks.cons)) ?_
          refine TrL.move rfl rfl ?_
          refine TrL.nilTake (listed' := #[true, true, true, true, true, true, true, true, true, false, true, true, false, false, false, false, false, false]) (by kernel_rfl) ?_
          refine TrD.take 12 rfl (by kernel_rfl) (by kernel_rfl) (by kernel_rfl) (by repeat (first | exact Picks.nil | with_reducible exact Pick.here | with_reducible apply Pick.there | with_reducible apply Pick.app_nil | with_reducible apply Pick.app_cons | apply Picks.cons)) ?_
          refine TrL.idxQ (X.length + (k + 1)) rfl rfl rfl se22 sz46 hp rfl (by omega) ?_
          refine TrL.nilTake (listed' := #[true, true, true, true, true, true, true, true, true, false, true, true, true, false, false, false, false, false]) (by kernel_rfl) ?_
          refine TrD.all [9, 13] (by kernel_rfl) rfl ?_
          refine all_cons ⟨_, rfl, ?_⟩ ?_
          · skip
            refine TrL.loadO (enc := encT) (k := 4) (i := X.length + k) rfl rfl ag46 sz46 (by repeat (first | with_reducible exact Pick.here | with_reducible apply Pick.there | with_reducible apply Pick.app_nil | with_reducible apply Pick.app_cons)) rfl rfl encT_len u1 ?_
            refine TrL.nil (At.step (listed' := #[true, true, true, true, true, true, true, true, true, true, true, true, true, false, false, false, false, false]) (by kernel_rfl) (by repeat (first | exact Picks.nil | with_reducible exact Pick.here | with_reducible apply Pick.there | with_reducible apply Pick.app_nil | with_reducible apply Pick.app_cons | apply Picks.cons)) ?_)
            refine TrD.all [13] (by kernel_rfl) rfl ?_
            refine all_cons ⟨_, rfl, ?_⟩ all_nil
            refine TrL.loadO (enc := encT) (k := 4) (i := X.length + (k + 1)) rfl rfl ag46 sz46 (by repeat (first | with_reducible exact Pick.here | with_reducible apply Pick.there | with_reducible apply Pick.app_nil | with_reducible apply Pick.app_cons)) rfl rfl encT_len (one_at (by omega)) ?_
            refine TrL.nil (At.step (listed' := #[true, true, true, true, true, true, true, true, true, true, true, true, true, true, false, false, false, false]) (by kernel_rfl) (by repeat (first | exact Picks.nil | with_reducible exact Pick.here | with_reducible apply Pick.there | with_reducible apply Pick.app_nil | with_reducible apply Pick.app_cons | apply Picks.cons)) ?_)
            refine TrD.take 14 rfl (by kernel_rfl) (by kernel_rfl) (by kernel_rfl) (by repeat (first | exact Picks.nil | with_reducible exact Pick.here | with_reducible apply Pick.there | with_reducible apply Pick.app_nil | with_reducible apply Pick.app_cons | apply Picks.cons)) ?_
            refine TrL.idxQ (X.length + (k + 1)) rfl rfl rfl se22 sz46 hp rfl (by omega) ?_
            refine TrL.nilTake (listed' := #[true, true, true, true, true, true, true, true, true, true, true, true, true, true, true, false, false, false]) (by kernel_rfl) ?_
            refine TrD.all [15] (by kernel_rfl) rfl ?_
            refine all_cons ⟨_, rfl, ?_⟩ all_nil
            refine TrL.storeO (enc := encT) (k := 4) (i := X.length + (k + 1)) (v := A[k]) rfl rfl sz46 (by repeat (first | with_reducible exact Pick.here | with_reducible apply Pick.there | with_reducible apply Pick.app_nil | with_reducible apply Pick.app_cons)) rfl rfl (by rw [oneRow_len]; omega) rfl encT_len rfl ?_
            refine TrL.nil (At.step (listed' := #[true, true, true, true, true, true, true, true, true, true, true, true, true, true, true, true, false, false]) (by kernel_rfl) (by repeat (first | exact Picks.nil | with_reducible exact Pick.here | with_reducible apply Pick.there | with_reducible apply Pick.app_nil | with_reducible apply Pick.app_cons | apply Picks.cons)) ?_)
            refine TrD.take 16 rfl (by kernel_rfl) (by kernel_rfl) (by kernel_rfl) (by repeat (first | exact Picks.nil | with_reducible exact Pick.here | with_reducible apply Pick.there | with_reducible apply Pick.app_nil | with_reducible apply Pick.app_cons | apply Picks.cons)) ?_
            refine TrL.idxQ (X.length + k) rfl rfl rfl se22 sz46 hp (by omega) (by omega) ?_
            refine TrL.nilTake (listed' := #[true, true, true, true, true, true, true, true, true, true, true, true, true, true, true, true, true, false]) (by kernel_rfl) ?_
            refine TrD.all [17] (by kernel_rfl) rfl ?_
            refine all_cons ⟨_, rfl, ?_⟩ all_nil
            refine TrL.storeO (enc := encT) (k := 4) (i := X.length + k) (v := x) rfl rfl sz46 (by repeat (first | with_reducible exact Pick.here | with_reducible apply Pick.there | with_reducible apply Pick.app_nil | with_reducible apply Pick.app_cons)) rfl rfl (by rw [List.length_set, oneRow_len]; omega) rfl encT_len rfl ?_
            refine TrL.nil (At.step (listed' := #[true, true, true, true, true, true, true, true, true, true, true, true, true, true, true, true, true, true]) (by kernel_rfl) (by repeat (first | exact Picks.nil | with_reducible exact Pick.here | with_reducible apply Pick.there | with_reducible apply Pick.app_nil | with_reducible apply Pick.app_cons | apply Picks.cons)) ?_)
            refine TrD.done (by kernel_rfl) (At.block_normal (At.then_normal ?_))
            refine Tr.region ?_
            refine TrL.move rfl rfl ?_
            refine TrL.subI rfl rfl rfl (by omega) ?_
            refine TrL.assign rfl rfl ?_
            refine TrL.nil ?_
            rw [u2]
            rw [show ((X.length + (k + 1) : Nat) : Int) - 1 = ((X.length + k : Nat) : Int) by omega]
            refine At.again k ⟨by omega, by omega⟩ (by omega) (by repeat (first | exact Sub.nil | refine Sub.cons (by rfl) ?_)) (by repeat (first | exact Picks.nil | with_reducible exact Pick.here | with_reducible apply Pick.there | with_reducible apply Pick.app_nil | with_reducible apply Pick.app_cons | apply Picks.cons))
          refine all_cons ⟨_, rfl, ?_⟩ ?_
          · skip
            refine TrL.loadO (enc := encT) (k := 4) (i := X.length + (k + 1)) rfl rfl ag46 sz46 (by repeat (first | with_reducible exact Pick.here | with_reducible apply Pick.there | with_reducible apply Pick.app_nil | with_reducible apply Pick.app_cons)) rfl rfl encT_len (one_at (by omega)) ?_
            refine TrL.nil (At.step (listed' := #[true, true, true, true, true, true, true, true, true, false, true, true, true, true, false, false, false, false]) (by kernel_rfl) (by repeat (first | exact Picks.nil | with_reducible exact Pick.here | with_reducible apply Pick.there | with_reducible apply Pick.app_nil | with_reducible apply Pick.app_cons | apply Picks.cons)) ?_)
            refine TrD.all [9] (by kernel_rfl) rfl ?_
            refine all_cons ⟨_, rfl, ?_⟩ all_nil
            refine TrL.loadO (enc := encT) (k := 4) (i := X.length + k) rfl rfl ag46 sz46 (by repeat (first | with_reducible exact Pick.here | with_reducible apply Pick.there | with_reducible apply Pick.app_nil | with_reducible apply Pick.app_cons)) rfl rfl encT_len u1 ?_
            refine TrL.nil (At.step (listed' := #[true, true, true, true, true, true, true, true, true, true, true, true, true, true, false, false, false, false]) (by kernel_rfl) (by repeat (first | exact Picks.nil | with_reducible exact Pick.here | with_reducible apply Pick.there | with_reducible apply Pick.app_nil | with_reducible apply Pick.app_cons | apply Picks.cons)) ?_)
            refine TrD.take 14 rfl (by kernel_rfl) (by kernel_rfl) (by kernel_rfl) (by repeat (first | exact Picks.nil | with_reducible exact Pick.here | with_reducible apply Pick.there | with_reducible apply Pick.app_nil | with_reducible apply Pick.app_cons | apply Picks.cons)) ?_
            refine TrL.idxQ (X.length + (k + 1)) rfl rfl rfl se22 sz46 hp rfl (by omega) ?_
            refine TrL.nilTake (listed' := #[true, true, true, true, true, true, true, true, true, true, true, true, true, true, true, false, false, false]) (by kernel_rfl) ?_
            refine TrD.all [15] (by kernel_rfl) rfl ?_
            refine all_cons ⟨_, rfl, ?_⟩ all_nil
            refine TrL.storeO (enc := encT) (k := 4) (i := X.length + (k + 1)) (v := A[k]) rfl rfl sz46 (by repeat (first | with_reducible exact Pick.here | with_reducible apply Pick.there | with_reducible apply Pick.app_nil | with_reducible apply Pick.app_cons)) rfl rfl (by rw [oneRow_len]; omega) rfl encT_len rfl ?_
            refine TrL.nil (At.step (listed' := #[true, true, true, true, true, true, true, true, true, true, true, true, true, true, true, true, false, false]) (by kernel_rfl) (by repeat (first | exact Picks.nil | with_reducible exact Pick.here | with_reducible apply Pick.there | with_reducible apply Pick.app_nil | with_reducible apply Pick.app_cons | apply Picks.cons)) ?_)
            refine TrD.take 16 rfl (by kernel_rfl) (by kernel_rfl) (by kernel_rfl) (by repeat (first | exact Picks.nil | with_reducible exact Pick.here | with_reducible apply Pick.there | with_reducible apply Pick.app_nil | with_reducible apply Pick.app_cons | apply Picks.cons)) ?_
            refine TrL.idxQ (X.length + k) rfl rfl rfl se22 sz46 hp (by omega) (by omega) ?_
            refine TrL.nilTake (listed' := #[true, true, true, true, true, true, true, true, true, true, true, true, true, true, true, true, true, false]) (by kernel_rfl) ?_
            refine TrD.all [17] (by kernel_rfl) rfl ?_
            refine all_cons ⟨_, rfl, ?_⟩ all_nil
            refine TrL.storeO (enc := encT) (k := 4) (i := X.length + k) (v := x) rfl rfl sz46 (by repeat (first | with_reducible exact Pick.here | with_reducible apply Pick.there | with_reducible apply Pick.app_nil | with_reducible apply Pick.app_cons)) rfl rfl (by rw [List.length_set, oneRow_len]; omega) rfl encT_len rfl ?_
            refine TrL.nil (At.step (listed' := #[true, true, true, true, true, true, true, true, true, true, true, true, true, true, true, true, true, true]) (by kernel_rfl) (by repeat (first | exact Picks.nil | with_reducible exact Pick.here | with_reducible apply Pick.there | with_reducible apply Pick.app_nil | with_reducible apply Pick.app_cons | apply Picks.cons)) ?_)
            refine TrD.done (by kernel_rfl) (At.block_normal (At.then_normal ?_))
            refine Tr.region ?_
            refine TrL.move rfl rfl ?_
            refine TrL.subI rfl rfl rfl (by omega) ?_
            refine TrL.assign rfl rfl ?_
            refine TrL.nil ?_
            rw [u2]
            rw [show ((X.length + (k + 1) : Nat) : Int) - 1 = ((X.length + k : Nat) : Int) by omega]
            refine At.again k ⟨by omega, by omega⟩ (by omega) (by repeat (first | exact Sub.nil | refine Sub.cons (by rfl) ?_)) (by repeat (first | exact Picks.nil | with_reducible exact Pick.here | with_reducible apply Pick.there | with_reducible apply Pick.app_nil | with_reducible apply Pick.app_cons | apply Picks.cons))
          exact all_nil
        · try simp only [beq_iff_eq, beq_eq_false_iff_ne, Bool.not_eq_true, Bool.not_eq_false, decide_eq_true_eq, decide_eq_false_iff_not, Bool.not_eq_true', Bool.not_eq_false', bne_iff_ne, Bool.not_eq_eq_eq_not, Bool.not_true, Bool.not_false, ne_eq, Decidable.not_not, Int.not_lt, Int.not_le] at h110
          refine Tr.exit (At.then_exit (At.then_exit (At.block_hit (At.then_normal ?_))))
          refine Tr.ret (At.then_ret (At.retP [_] (.inl rfl) rfl Res.nil (by repeat (first | exact Picks.nil | with_reducible exact Pick.here | with_reducible apply Pick.there | with_reducible apply Pick.app_nil | with_reducible apply Pick.app_cons | apply Picks.cons)) (by 
              obtain rfl : k1 = y.1 := by omega
              rw [oneRow_mid]
              refine hK _ ?_ (one_right ltT_sw sA hy3 (by rw [show y.1 = y.2 by omega]; exact hy4) (by omega))
              refine List.perm_middle.trans ?_
              rw [List.take_append_drop]
              exact List.perm_append_comm (l₁ := [x]))))
    · try simp only [beq_iff_eq, beq_eq_false_iff_ne, Bool.not_eq_true, Bool.not_eq_false, decide_eq_true_eq, decide_eq_false_iff_not, Bool.not_eq_true', Bool.not_eq_false', bne_iff_ne, Bool.not_eq_eq_eq_not, Bool.not_true, Bool.not_false, ne_eq, Decidable.not_not, Int.not_lt, Int.not_le] at h80
      refine Tr.skip (At.then_normal ?_)
      refine Tr.seq ?_
      refine Tr.region ?_
      refine TrL.move rfl rfl ?_
      refine TrL.move rfl rfl ?_
      refine TrL.addI rfl rfl rfl (by omega) ?_
      refine TrL.convI rfl rfl sc3 in91 ?_
      refine TrL.shr rfl rfl rfl (by omega) ?_
      refine TrL.convI rfl rfl sc91 in3 ?_
      refine TrL.assign rfl rfl ?_
      refine TrL.nil (At.then_normal ?_)
      refine Tr.seq ?_
      obtain ⟨μ, hμ⟩ : ∃ μ, μ = (A.length + B.length) / 2 := ⟨_, rfl⟩
      rw [half (i := X.length) (j := X.length + A.length + B.length) (h := X.length + μ) (by omega) (by omega)]
      refine Tr.region ?_
      refine TrL.move rfl rfl ?_
      refine TrL.move rfl rfl ?_
      refine TrL.addI rfl rfl rfl (by omega) ?_
      refine TrL.assign rfl rfl ?_
      refine TrL.nil (At.then_normal ?_)
      refine Tr.seq ?_
      refine Tr.region ?_
      refine TrL.assign rfl rfl ?_
      refine TrL.assign rfl rfl ?_
      refine TrL.nil (At.then_normal ?_)
      refine Tr.seq ?_
      refine Tr.seq ?_
      refine Tr.region ?_
      refine TrL.move rfl rfl ?_
      refine TrL.move rfl rfl ?_
      refine TrL.gtr rfl rfl rfl ?_
      refine TrL.nil (At.then_normal ?_)
      refine Tr.cutK [0, 1, 2, 3, 4, 18, 19] (β := Nat × Nat) (fun z => [(20, .int .i64 ((X.length + z.1 : Nat) : Int)), (21, .int .i64 ((X.length + z.2 : Nat) : Int))]) (fun z => [Own 46 4 encT p cap (X ++ (A ++ (B ++ Y)))]) (fun z => z.1 ≤ z.2 ∧ z.2 ≤ A.length ∧ z.2 ≤ μ ∧ μ ≤ z.1 + B.length ∧ (z.1 = 0 ∨ z.1 + B.length = μ) ∧ (z.2 = A.length ∨ z.2 = μ)) (by rfl) ?_ ?_
      · skip
        refine Tr.cond rfl (fun h140 => ?_) (fun h140 => ?_)
        · try simp only [beq_iff_eq, beq_eq_false_iff_ne, Bool.not_eq_true, Bool.not_eq_false, decide_eq_true_eq, decide_eq_false_iff_not, Bool.not_eq_true', Bool.not_eq_false', bne_iff_ne, Bool.not_eq_eq_eq_not, Bool.not_true, Bool.not_false, ne_eq, Decidable.not_not, Int.not_lt, Int.not_le] at h140
          refine Tr.seq ?_
          refine Tr.region ?_
          refine TrL.move rfl rfl ?_
          refine TrL.move rfl rfl ?_
          refine TrL.subI rfl rfl rfl (by omega) ?_
          refine TrL.assign rfl rfl ?_
          refine TrL.nil (At.then_normal ?_)
          refine Tr.region ?_
          refine TrL.move rfl rfl ?_
          refine TrL.assign rfl rfl ?_
          refine TrL.nil ?_
          rw [show ((X.length + μ : Nat) : Int) + ((X.length + A.length : Nat) : Int) - ((X.length + A.length + B.length : Nat) : Int) = ((X.length + (μ - B.length) : Nat) : Int) by omega]
          refine At.meetK (μ - B.length, μ) ⟨by show μ - B.length ≤ μ; omega, by show μ ≤ A.length; omega, Nat.le_refl _, by show μ ≤ μ - B.length + B.length; omega, .inr (by show μ - B.length + B.length = μ; omega), .inr rfl⟩ (by repeat (first | exact Sub.nil | refine Sub.cons (by rfl) ?_)) (by repeat (first | exact Picks.nil | with_reducible exact Pick.here | with_reducible apply Pick.there | with_reducible apply Pick.app_nil | with_reducible apply Pick.app_cons | apply Picks.cons))
        · try simp only [beq_iff_eq, beq_eq_false_iff_ne, Bool.not_eq_true, Bool.not_eq_false, decide_eq_true_eq, decide_eq_false_iff_not, Bool.not_eq_true', Bool.not_eq_false', bne_iff_ne, Bool.not_eq_eq_eq_not, Bool.not_true, Bool.not_false, ne_eq, Decidable.not_not, Int.not_lt, Int.not_le] at h140
          refine Tr.seq ?_
          refine Tr.region ?_
          refine TrL.move rfl rfl ?_
          refine TrL.assign rfl rfl ?_
          refine TrL.nil (At.then_normal ?_)
          refine Tr.region ?_
          refine TrL.move rfl rfl ?_
          refine TrL.assign rfl rfl ?_
          refine TrL.nil ?_
          refine At.meetK (0, A.length) ⟨Nat.zero_le _, Nat.le_refl _, by show A.length ≤ μ; omega, by show μ ≤ 0 + B.length; omega, .inl rfl, .inl rfl⟩ (by repeat (first | exact Sub.nil | refine Sub.cons (by rfl) ?_)) (by repeat (first | exact Picks.nil | with_reducible exact Pick.here | with_reducible apply Pick.there | with_reducible apply Pick.app_nil | with_reducible apply Pick.app_cons | apply Picks.cons))
      · skip
        rintro ⟨s0, r0⟩ ⟨hs1, hs2, hs3, hs4, hs5, hs6⟩
        dsimp only at hs1 hs2 hs3 hs4 hs5 hs6 ⊢
        refine Tr.seq ?_
        refine Tr.region ?_
        refine TrL.move rfl rfl ?_
        refine TrL.subI rfl rfl rfl (by omega) ?_
        refine TrL.assign rfl rfl ?_
        refine TrL.nil (At.then_normal ?_)
        refine Tr.seq ?_
        refine Tr.block ?_
        refine Tr.loopK [0, 1, 2, 3, 4, 18, 19, 22] (α := Nat × Nat) (fun y => [(20, .int .i64 ((X.length + y.1 : Nat) : Int)), (21, .int .i64 ((X.length + y.2 : Nat) : Int))]) (fun y => []) (fun y => y.1 ≤ y.2 ∧ s0 ≤ y.1 ∧ y.2 ≤ r0 ∧ (y.1 = s0 ∨ ∃ x z, A[y.1 - 1]? = some x ∧ B[μ - y.1]? = some z ∧ ltT z x = false) ∧ (y.2 = r0 ∨ ∃ x z, A[y.2]? = some x ∧ B[μ - 1 - y.2]? = some z ∧ ltT z x = true)) (fun y => y.2 - y.1) (s0, r0) (by rfl) ?_ (by repeat (first | exact Sub.nil | refine Sub.cons (by rfl) ?_)) (by repeat (first | exact Picks.nil | with_reducible exact Pick.here | with_reducible apply Pick.there | with_reducible apply Pick.app_nil | with_reducible apply Pick.app_cons | apply Picks.cons)) ?_
        · exact ⟨hs1, Nat.le_refl _, Nat.le_refl _, .inl rfl, .inl rfl⟩
        rintro y ⟨hy1, hy0, hy2, hy3, hy4⟩
        refine Tr.seq ?_
        refine Tr.seq ?_
        refine Tr.region ?_
        refine TrL.move rfl rfl ?_
        refine TrL.move rfl rfl ?_
        refine TrL.lss rfl rfl rfl ?_
        refine TrL.nil (At.then_normal ?_)
        refine Tr.cond rfl (fun h151 => ?_) (fun h151 => ?_)
        · try simp only [beq_iff_eq, beq_eq_false_iff_ne, Bool.not_eq_true, Bool.not_eq_false, decide_eq_true_eq, decide_eq_false_iff_not, Bool.not_eq_true', Bool.not_eq_false', bne_iff_ne, Bool.not_eq_eq_eq_not, Bool.not_true, Bool.not_false, ne_eq, Decidable.not_not, Int.not_lt, Int.not_le] at h151
          refine Tr.skip (At.then_normal ?_)
          refine Tr.block ?_
          refine Tr.seq ?_
          refine Tr.region ?_
          refine TrL.move rfl rfl ?_
          refine TrL.move rfl rfl ?_
          refine TrL.addI rfl rfl rfl (by omega) ?_
          refine TrL.convI rfl rfl sc3 in91 ?_
          refine TrL.shr rfl rfl rfl (by omega) ?_
          refine TrL.convI rfl rfl sc91 in3 ?_
          refine TrL.assign rfl rfl ?_
          refine TrL.nil (At.then_normal ?_)
          refine Tr.seq ?_
          rw [half (i := X.length + y.1) (j := X.length + y.2) (h := X.length + (y.1 + y.2) / 2) (by omega) (by omega)]
          obtain ⟨c, hc⟩ : ∃ c, c = (y.1 + y.2) / 2 := ⟨_, rfl⟩
          rw [← hc]
          have hcA : c < A.length := by omega
          have hcB : μ - 1 - c < B.length := by omega
          refine Tr.base (enc := encT) (k := 4) (by repeat (first | with_reducible exact Pick.here | with_reducible apply Pick.there | with_reducible apply Pick.app_nil | with_reducible apply Pick.app_cons)) (by simp only [List.length_append, List.length_cons]; omega) (fun hp => ?_)
          refine Tr.regionT 11 mixed (by kernel_rfl) rfl rfl ?_
          refine TrL.move rfl rfl ?_
          refine TrL.move rfl rfl ?_
          refine TrL.move rfl rfl ?_
          refine TrL.move rfl rfl ?_
          refine TrL.subI rfl rfl rfl (by omega) ?_
          refine TrL.idxQ (X.length + A.length + (μ - 1 - c)) rfl rfl rfl se22 sz46 hp (by omega) (by omega) ?_
          refine TrL.loadO (enc := encT) (k := 4) (i := X.length + A.length + (μ - 1 - c)) rfl rfl ag46 sz46 (by repeat (first | with_reducible exact Pick.here | with_reducible apply Pick.there | with_reducible apply Pick.app_nil | with_reducible apply Pick.app_cons)) rfl rfl encT_len (row_b' hcB) ?_
          refine TrL.move rfl rfl ?_
          refine TrL.move rfl rfl ?_
          refine TrL.idxQ (X.length + c) rfl rfl rfl se22 sz46 hp rfl (by omega) ?_
          refine TrL.loadO (enc := encT) (k := 4) (i := X.length + c) rfl rfl ag46 sz46 (by repeat (first | with_reducible exact Pick.here | with_reducible apply Pick.there | with_reducible apply Pick.app_nil | with_reducible apply Pick.app_cons)) rfl rfl encT_len (row_a' hcA) ?_
          refine TrL.turn ?_
          refine TrL.call rfl rfl rfl ca50 .nil (fun Ft169 hUt169 => order_spec (fun r hr => ?_))
          refine TrL.lss rfl rfl rfl ?_
          refine TrL.not rfl rfl ?_
          refine TrL.nil (At.then_normal ?_)
          refine Tr.cond rfl (fun h171 => ?_) (fun h171 => ?_)
          · try simp only [beq_iff_eq, beq_eq_false_iff_ne, Bool.not_eq_true, Bool.not_eq_false, decide_eq_true_eq, decide_eq_false_iff_not, Bool.not_eq_true', Bool.not_eq_false', bne_iff_ne, Bool.not_eq_eq_eq_not, Bool.not_true, Bool.not_false, ne_eq, Decidable.not_not, Int.not_lt, Int.not_le] at h171
            refine Tr.region ?_
            refine TrL.move rfl rfl ?_
            refine TrL.addI rfl rfl rfl (by omega) ?_
            refine TrL.assign rfl rfl ?_
            refine TrL.nil (At.block_normal ?_)
            refine At.again (c + 1, y.2) ⟨by show c + 1 ≤ y.2; omega, by show s0 ≤ c + 1; omega, hy2, .inr ⟨A[c], B[μ - 1 - c], List.getElem?_eq_getElem hcA, by rw [show μ - (c + 1) = μ - 1 - c by omega]; exact List.getElem?_eq_getElem hcB, by rw [← hr]; simpa using h171⟩, hy4⟩ (by show y.2 - (c + 1) < y.2 - y.1; omega) (by repeat (first | exact Sub.nil | refine Sub.cons (by rfl) ?_)) (by repeat (first | exact Picks.nil | with_reducible exact Pick.here | with_reducible apply Pick.there | with_reducible apply Pick.app_nil | with_reducible apply Pick.app_cons | apply Picks.cons))
          · try simp only [beq_iff_eq, beq_eq_false_iff_ne, Bool.not_eq_true, Bool.not_eq_false, decide_eq_true_eq, decide_eq_false_iff_not, Bool.not_eq_true', Bool.not_eq_false', bne_iff_ne, Bool.not_eq_eq_eq_not, Bool.not_true, Bool.not_false, ne_eq, Decidable.not_not, Int.not_lt, Int.not_le] at h171
            refine Tr.region ?_
            refine TrL.move rfl rfl ?_
            refine TrL.assign rfl rfl ?_
            refine TrL.nil (At.block_normal ?_)
            refine At.again (y.1, c) ⟨by show y.1 ≤ c; omega, hy0, by show c ≤ r0; omega, hy3, .inr ⟨A[c], B[μ - 1 - c], List.getElem?_eq_getElem hcA, List.getElem?_eq_getElem hcB, by rw [← hr]; simpa using h171⟩⟩ (by show c - y.1 < y.2 - y.1; omega) (by repeat (first | exact Sub.nil | refine Sub.cons (by rfl) ?_)) (by repeat (first | exact Picks.nil | with_reducible exact Pick.here | with_reducible apply Pick.there | with_reducible apply Pick.app_nil | with_reducible apply Pick.app_cons | apply Picks.cons))
        · try simp only [beq_iff_eq, beq_eq_false_iff_ne, Bool.not_eq_true, Bool.not_eq_false, decide_eq_true_eq, decide_eq_false_iff_not, Bool.not_eq_true', Bool.not_eq_false', bne_iff_ne, Bool.not_eq_eq_eq_not, Bool.not_true, Bool.not_false, ne_eq, Decidable.not_not, Int.not_lt, Int.not_le] at h151
          refine Tr.exit (At.then_exit (At.then_exit (At.block_hit (At.then_normal ?_))))
          refine Tr.seq ?_
          refine Tr.region ?_
          refine TrL.move rfl rfl ?_
          refine TrL.move rfl rfl ?_
          refine TrL.subI rfl rfl rfl (by omega) ?_
          rw [show ((X.length + μ : Nat) : Int) + ((X.length + A.length : Nat) : Int) - ((X.length + y.1 : Nat) : Int) = ((X.length + A.length + (μ - y.1) : Nat) : Int) by omega]
          refine TrL.assign rfl rfl ?_
          refine TrL.nil (At.then_normal ?_)
          refine Tr.seq ?_
          refine Tr.cutK [0, 1, 2, 3, 4, 18, 20, 24] (β := Unit) (fun z => []) (fun z => [Own 46 4 encT p cap (X ++ (A.take y.1 ++ (B.take (μ - y.1) ++ (A.drop y.1 ++ (B.drop (μ - y.1) ++ Y)))))]) (fun z => True) (by rfl) ?_ ?_
          · skip
            refine Tr.seq ?_
            refine Tr.region ?_
            refine TrL.move rfl rfl ?_
            refine TrL.move rfl rfl ?_
            refine TrL.lss rfl rfl rfl ?_
            refine TrL.move rfl rfl ?_
            refine TrL.cases (t := 181) rfl (fun h181 => ?_) (fun h181 => ?_)
            · try simp only [beq_iff_eq, beq_eq_false_iff_ne, Bool.not_eq_true, Bool.not_eq_false, decide_eq_true_eq, decide_eq_false_iff_not, Bool.not_eq_true', Bool.not_eq_false', bne_iff_ne, Bool.not_eq_eq_eq_not, Bool.not_true, Bool.not_false, ne_eq, Decidable.not_not, Int.not_lt, Int.not_le] at h181
              refine TrL.want rfl rfl ?_
              refine TrL.move rfl rfl ?_
              refine TrL.want rfl rfl ?_
              refine TrL.move rfl rfl ?_
              refine TrL.want rfl rfl ?_
              refine TrL.lss rfl rfl rfl ?_
              refine TrL.pickT rfl rfl rfl ?_
              refine TrL.nil (At.then_normal ?_)
              refine Tr.cond rfl (fun h185 => ?_) (fun h185 => ?_)
              · try simp only [beq_iff_eq, beq_eq_false_iff_ne, Bool.not_eq_true, Bool.not_eq_false, decide_eq_true_eq, decide_eq_false_iff_not, Bool.not_eq_true', Bool.not_eq_false', bne_iff_ne, Bool.not_eq_eq_eq_not, Bool.not_true, Bool.not_false, ne_eq, Decidable.not_not, Int.not_lt, Int.not_le] at h185
                refine Tr.region ?_
                refine TrL.move rfl rfl ?_
                refine TrL.move rfl rfl ?_
                refine TrL.move rfl rfl ?_
                refine TrL.move rfl rfl ?_
                refine TrL.move rfl rfl ?_
                refine TrL.call rfl rfl rfl ca76 (by repeat (first | exact Picks.nil | with_reducible exact Pick.here | with_reducible apply Pick.there | with_reducible apply Pick.app_nil | with_reducible apply Pick.app_cons | apply Picks.cons)) (fun Ft191 hUt191 => rotate_spec (l := X ++ (A ++ (B ++ Y))) (X := X ++ A.take y.1) (A := A.drop y.1) (B := B.take (μ - y.1)) (Y := B.drop (μ - y.1) ++ Y) (by simp [tda]) (by intro h; have := congrArg List.length h; simp only [List.length_take, List.length_drop, List.length_nil] at this; omega) (by intro h; have := congrArg List.length h; simp only [List.length_take, List.length_drop, List.length_nil] at this; omega) (by simp only [List.length_append]; omega) hbd (by simp <;> omega) (by simp <;> omega) (by simp <;> omega) ?_)
                rw [show (X ++ A.take y.1) ++ (B.take (μ - y.1) ++ (A.drop y.1 ++ (B.drop (μ - y.1) ++ Y))) = X ++ (A.take y.1 ++ (B.take (μ - y.1) ++ (A.drop y.1 ++ (B.drop (μ - y.1) ++ Y)))) by simp]
                refine TrL.nil ?_
                refine At.meetK () trivial (by repeat (first | exact Sub.nil | refine Sub.cons (by rfl) ?_)) (by repeat (first | exact Picks.nil | with_reducible exact Pick.here | with_reducible apply Pick.there | with_reducible apply Pick.app_nil | with_reducible apply Pick.app_cons | apply Picks.cons))
              · try simp only [beq_iff_eq, beq_eq_false_iff_ne, Bool.not_eq_true, Bool.not_eq_false, decide_eq_true_eq, decide_eq_false_iff_not, Bool.not_eq_true', Bool.not_eq_false', bne_iff_ne, Bool.not_eq_eq_eq_not, Bool.not_true, Bool.not_false, ne_eq, Decidable.not_not, Int.not_lt, Int.not_le] at h185
                refine Tr.skip ?_
                rw [show X ++ (A ++ (B ++ Y)) = X ++ (A.take y.1 ++ (B.take (μ - y.1) ++ (A.drop y.1 ++ (B.drop (μ - y.1) ++ Y)))) by rw [show μ - y.1 = 0 by omega]; simp [tda]]
                refine At.meetK () trivial (by repeat (first | exact Sub.nil | refine Sub.cons (by rfl) ?_)) (by repeat (first | exact Picks.nil | with_reducible exact Pick.here | with_reducible apply Pick.there | with_reducible apply Pick.app_nil | with_reducible apply Pick.app_cons | apply Picks.cons))
            · try simp only [beq_iff_eq, beq_eq_false_iff_ne, Bool.not_eq_true, Bool.not_eq_false, decide_eq_true_eq, decide_eq_false_iff_not, Bool.not_eq_true', Bool.not_eq_false', bne_iff_ne, Bool.not_eq_eq_eq_not, Bool.not_true, Bool.not_false, ne_eq, Decidable.not_not, Int.not_lt, Int.not_le] at h181
              refine TrL.unwant rfl rfl rfl ?_
              refine TrL.unwant rfl rfl rfl ?_
              refine TrL.unwant rfl rfl rfl ?_
              refine TrL.pickF rfl rfl rfl ?_
              refine TrL.nil (At.then_normal ?_)
              refine Tr.condF rfl ?_
              refine Tr.skip ?_
              rw [show X ++ (A ++ (B ++ Y)) = X ++ (A.take y.1 ++ (B.take (μ - y.1) ++ (A.drop y.1 ++ (B.drop (μ - y.1) ++ Y)))) by rw [List.take_of_length_le (l := A) (by omega), List.drop_of_length_le (l := A) (by omega)]; simp [tda]]
              refine At.meetK () trivial (by repeat (first | exact Sub.nil | refine Sub.cons (by rfl) ?_)) (by repeat (first | exact Picks.nil | with_reducible exact Pick.here | with_reducible apply Pick.there | with_reducible apply Pick.app_nil | with_reducible apply Pick.app_cons | apply Picks.cons))
          · skip
            rintro _ -
            refine Tr.seq ?_
            refine Tr.cutK [0, 1, 2, 3, 4, 18, 24] (β := List Tab) (fun z => []) (fun z => [Own 46 4 encT p cap (X ++ (z ++ (A.drop y.1 ++ (B.drop (μ - y.1) ++ Y))))]) (fun z => z.Perm (A.take y.1 ++ B.take (μ - y.1)) ∧ SortedL ltT z) (by rfl) ?_ ?_
            · skip
              refine Tr.seq ?_
              refine Tr.region ?_
              refine TrL.move rfl rfl ?_
              refine TrL.move rfl rfl ?_
              refine TrL.lss rfl rfl rfl ?_
              refine TrL.move rfl rfl ?_
              refine TrL.cases (t := 195) rfl (fun h195 => ?_) (fun h195 => ?_)
              · try simp only [beq_iff_eq, beq_eq_false_iff_ne, Bool.not_eq_true, Bool.not_eq_false, decide_eq_true_eq, decide_eq_false_iff_not, Bool.not_eq_true', Bool.not_eq_false', bne_iff_ne, Bool.not_eq_eq_eq_not, Bool.not_true, Bool.not_false, ne_eq, Decidable.not_not, Int.not_lt, Int.not_le] at h195
                refine TrL.want rfl rfl ?_
                refine TrL.move rfl rfl ?_
                refine TrL.want rfl rfl ?_
                refine TrL.move rfl rfl ?_
                refine TrL.want rfl rfl ?_
                refine TrL.lss rfl rfl rfl ?_
                refine TrL.pickT rfl rfl rfl ?_
                refine TrL.nil (At.then_normal ?_)
                refine Tr.cond rfl (fun h199 => ?_) (fun h199 => ?_)
                · try simp only [beq_iff_eq, beq_eq_false_iff_ne, Bool.not_eq_true, Bool.not_eq_false, decide_eq_true_eq, decide_eq_false_iff_not, Bool.not_eq_true', Bool.not_eq_false', bne_iff_ne, Bool.not_eq_eq_eq_not, Bool.not_true, Bool.not_false, ne_eq, Decidable.not_not, Int.not_lt, Int.not_le] at h199
                  refine Tr.region ?_
                  refine TrL.move rfl rfl ?_
                  refine TrL.move rfl rfl ?_
                  refine TrL.move rfl rfl ?_
                  refine TrL.move rfl rfl ?_
                  refine TrL.move rfl rfl ?_
                  refine TrL.call rfl rfl rfl ca73 (by repeat (first | exact Picks.nil | with_reducible exact Pick.here | with_reducible apply Pick.there | with_reducible apply Pick.app_nil | with_reducible apply Pick.app_cons | apply Picks.cons)) (fun Ft205 hUt205 => ih (X := X) (A := A.take y.1) (B := B.take (μ - y.1)) (Y := A.drop y.1 ++ (B.drop (μ - y.1) ++ Y)) (by simp only [List.length_take]; omega) rfl (by intro h; have := congrArg List.length h; simp only [List.length_take, List.length_drop, List.length_nil] at this; omega) (by intro h; have := congrArg List.length h; simp only [List.length_take, List.length_drop, List.length_nil] at this; omega) (sorted_take sA _) (sorted_take sB _) (by simp only [List.length_append, List.length_take, List.length_drop]; omega) hbd rfl (by simp <;> omega) (by simp <;> omega) (fun C hC1 hC2 => ?_))
                  refine TrL.nil ?_
                  refine At.meetK C ⟨hC1, hC2⟩ (by repeat (first | exact Sub.nil | refine Sub.cons (by rfl) ?_)) (by repeat (first | exact Picks.nil | with_reducible exact Pick.here | with_reducible apply Pick.there | with_reducible apply Pick.app_nil | with_reducible apply Pick.app_cons | apply Picks.cons))
                · try simp only [beq_iff_eq, beq_eq_false_iff_ne, Bool.not_eq_true, Bool.not_eq_false, decide_eq_true_eq, decide_eq_false_iff_not, Bool.not_eq_true', Bool.not_eq_false', bne_iff_ne, Bool.not_eq_eq_eq_not, Bool.not_true, Bool.not_false, ne_eq, Decidable.not_not, Int.not_lt, Int.not_le] at h199
                  refine Tr.skip ?_
                  rw [show X ++ (A.take y.1 ++ (B.take (μ - y.1) ++ (A.drop y.1 ++ (B.drop (μ - y.1) ++ Y)))) = X ++ ((A.take y.1 ++ B.take (μ - y.1)) ++ (A.drop y.1 ++ (B.drop (μ - y.1) ++ Y))) by simp]
                  refine At.meetK (A.take y.1 ++ B.take (μ - y.1)) ⟨.refl _, by rw [show μ - y.1 = 0 by omega]; simpa using sorted_take sA _⟩ (by repeat (first | exact Sub.nil | refine Sub.cons (by rfl) ?_)) (by repeat (first | exact Picks.nil | with_reducible exact Pick.here | with_reducible apply Pick.there | with_reducible apply Pick.app_nil | with_reducible apply Pick.app_cons | apply Picks.cons))
              · try simp only [beq_iff_eq, beq_eq_false_iff_ne, Bool.not_eq_true, Bool.not_eq_false, decide_eq_true_eq, decide_eq_false_iff_not, Bool.not_eq_true', Bool.not_eq_false', bne_iff_ne, Bool.not_eq_eq_eq_not, Bool.not_true, Bool.not_false, ne_eq, Decidable.not_not, Int.not_lt, Int.not_le] at h195
                refine TrL.unwant rfl rfl rfl ?_
                refine TrL.unwant rfl rfl rfl ?_
                refine TrL.unwant rfl rfl rfl ?_
                refine TrL.pickF rfl rfl rfl ?_
                refine TrL.nil (At.then_normal ?_)
                refine Tr.condF rfl ?_
                refine Tr.skip ?_
                rw [show X ++ (A.take y.1 ++ (B.take (μ - y.1) ++ (A.drop y.1 ++ (B.drop (μ - y.1) ++ Y)))) = X ++ ((A.take y.1 ++ B.take (μ - y.1)) ++ (A.drop y.1 ++ (B.drop (μ - y.1) ++ Y))) by simp]
                refine At.meetK (A.take y.1 ++ B.take (μ - y.1)) ⟨.refl _, by rw [show y.1 = 0 by omega]; simpa using sorted_take sB _⟩ (by repeat (first | exact Sub.nil | refine Sub.cons (by rfl) ?_)) (by repeat (first | exact Picks.nil | with_reducible exact Pick.here | with_reducible apply Pick.there | with_reducible apply Pick.app_nil | with_reducible apply Pick.app_cons | apply Picks.cons))
            · skip
              rintro C1 ⟨hp1, hp2⟩
              have hC1l : C1.length = μ := by have := hp1.length_eq; simp only [List.length_append, List.length_take] at this; omega
              have hfin : ∀ C2 : List Tab, C2.Perm (A.drop y.1 ++ B.drop (μ - y.1)) → SortedL ltT C2 → K (.tuple #[]) [Own 46 4 encT p cap (X ++ ((C1 ++ C2) ++ Y))] := fun C2 q1 q2 => hK _ ?_ (sym_done ltT_sw sA sB (by omega) (by omega) ?_ ?_ hp1 q1 hp2 q2)
              rotate_left 1
              · refine (hp1.append q1).trans ?_
                have e : A.take y.1 ++ (B.take (μ - y.1) ++ (A.drop y.1 ++ B.drop (μ - y.1))) = A.take y.1 ++ ((B.take (μ - y.1) ++ A.drop y.1) ++ B.drop (μ - y.1)) := by simp
                rw [List.append_assoc, e]
                refine (List.Perm.append_left _ (List.Perm.append_right _ List.perm_append_comm)).trans ?_
                rw [show A.take y.1 ++ ((A.drop y.1 ++ B.take (μ - y.1)) ++ B.drop (μ - y.1)) = A ++ B by rw [List.append_assoc, List.take_append_drop, tda]]
              · rcases hy3 with h | ⟨u, v, h1, h2, h3⟩
                · rcases hs5 with h5 | h5
                  · exact .inl (by omega)
                  · exact .inr (.inl (by omega))
                · exact .inr (.inr ⟨u, v, h1, h2, h3⟩)
              · rcases hy4 with h | ⟨u, v, h1, h2, h3⟩
                · rcases hs6 with h6 | h6
                  · exact .inl (by omega)
                  · exact .inr (.inl (by omega))
                · exact .inr (.inr ⟨u, v, by rw [show y.1 = y.2 by omega]; exact h1, by rw [show μ - y.1 - 1 = μ - 1 - y.2 by omega]; exact h2, h3⟩)
              refine Tr.seq ?_
              refine Tr.region ?_
              refine TrL.move rfl rfl ?_
              refine TrL.move rfl rfl ?_
              refine TrL.lss rfl rfl rfl ?_
              refine TrL.move rfl rfl ?_
              refine TrL.cases (t := 209) rfl (fun h209 => ?_) (fun h209 => ?_)
              · try simp only [beq_iff_eq, beq_eq_false_iff_ne, Bool.not_eq_true, Bool.not_eq_false, decide_eq_true_eq, decide_eq_false_iff_not, Bool.not_eq_true', Bool.not_eq_false', bne_iff_ne, Bool.not_eq_eq_eq_not, Bool.not_true, Bool.not_false, ne_eq, Decidable.not_not, Int.not_lt, Int.not_le] at h209
                refine TrL.want rfl rfl ?_
                refine TrL.move rfl rfl ?_
                refine TrL.want rfl rfl ?_
                refine TrL.move rfl rfl ?_
                refine TrL.want rfl rfl ?_
                refine TrL.lss rfl rfl rfl ?_
                refine TrL.pickT rfl rfl rfl ?_
                refine TrL.nil (At.then_normal ?_)
                refine Tr.cond rfl (fun h213 => ?_) (fun h213 => ?_)
                · try simp only [beq_iff_eq, beq_eq_false_iff_ne, Bool.not_eq_true, Bool.not_eq_false, decide_eq_true_eq, decide_eq_false_iff_not, Bool.not_eq_true', Bool.not_eq_false', bne_iff_ne, Bool.not_eq_eq_eq_not, Bool.not_true, Bool.not_false, ne_eq, Decidable.not_not, Int.not_lt, Int.not_le] at h213
                  refine Tr.region ?_
                  refine TrL.move rfl rfl ?_
                  refine TrL.move rfl rfl ?_
                  refine TrL.move rfl rfl ?_
                  refine TrL.move rfl rfl ?_
                  refine TrL.move rfl rfl ?_
                  refine TrL.call rfl rfl rfl ca73 (by repeat (first | exact Picks.nil | with_reducible exact Pick.here | with_reducible apply Pick.there | with_reducible apply Pick.app_nil | with_reducible apply Pick.app_cons | apply Picks.cons)) (fun Ft219 hUt219 => ih (X := X ++ C1) (A := A.drop y.1) (B := B.drop (μ - y.1)) (Y := Y) (by simp only [List.length_drop]; omega) (by simp) (by intro h; have := congrArg List.length h; simp only [List.length_take, List.length_drop, List.length_nil] at this; omega) (by intro h; have := congrArg List.length h; simp only [List.length_take, List.length_drop, List.length_nil] at this; omega) (sorted_drop sA _) (sorted_drop sB _) (by simp only [List.length_append, List.length_drop]; omega) hbd (by rw [List.length_append]; omega) (by simp only [List.length_append, List.length_drop]; omega) (by simp only [List.length_append, List.length_drop]; omega) (fun C hC1 hC2 => ?_))
                  refine TrL.nil (At.retP [_] (.inr rfl) rfl Res.nil (by repeat (first | exact Picks.nil | with_reducible exact Pick.here | with_reducible apply Pick.there | with_reducible apply Pick.app_nil | with_reducible apply Pick.app_cons | apply Picks.cons)) (by 
                      rw [show (X ++ C1) ++ (C ++ Y) = X ++ ((C1 ++ C) ++ Y) by simp]
                      exact hfin C hC1 hC2))
                · try simp only [beq_iff_eq, beq_eq_false_iff_ne, Bool.not_eq_true, Bool.not_eq_false, decide_eq_true_eq, decide_eq_false_iff_not, Bool.not_eq_true', Bool.not_eq_false', bne_iff_ne, Bool.not_eq_eq_eq_not, Bool.not_true, Bool.not_false, ne_eq, Decidable.not_not, Int.not_lt, Int.not_le] at h213
                  refine Tr.skip (At.retP [_] (.inr rfl) rfl Res.nil (by repeat (first | exact Picks.nil | with_reducible exact Pick.here | with_reducible apply Pick.there | with_reducible apply Pick.app_nil | with_reducible apply Pick.app_cons | apply Picks.cons)) (by 
                      rw [show X ++ (C1 ++ (A.drop y.1 ++ (B.drop (μ - y.1) ++ Y))) = X ++ ((C1 ++ (A.drop y.1 ++ B.drop (μ - y.1))) ++ Y) by simp]
                      refine hfin _ (.refl _) ?_
                      rw [List.drop_of_length_le (l := B) (by omega)]; simpa using sorted_drop sA _))
              · try simp only [beq_iff_eq, beq_eq_false_iff_ne, Bool.not_eq_true, Bool.not_eq_false, decide_eq_true_eq, decide_eq_false_iff_not, Bool.not_eq_true', Bool.not_eq_false', bne_iff_ne, Bool.not_eq_eq_eq_not, Bool.not_true, Bool.not_false, ne_eq, Decidable.not_not, Int.not_lt, Int.not_le] at h209
                refine TrL.unwant rfl rfl rfl ?_
                refine TrL.unwant rfl rfl rfl ?_
                refine TrL.unwant rfl rfl rfl ?_
                refine TrL.pickF rfl rfl rfl ?_
                refine TrL.nil (At.then_normal ?_)
                refine Tr.condF rfl ?_
                refine Tr.skip (At.retP [_] (.inr rfl) rfl Res.nil (by repeat (first | exact Picks.nil | with_reducible exact Pick.here | with_reducible apply Pick.there | with_reducible apply Pick.app_nil | with_reducible apply Pick.app_cons | apply Picks.cons)) (by 
                    rw [show X ++ (C1 ++ (A.drop y.1 ++ (B.drop (μ - y.1) ++ Y))) = X ++ ((C1 ++ (A.drop y.1 ++ B.drop (μ - y.1))) ++ Y) by simp]
                    refine hfin _ (.refl _) ?_
                    rw [List.drop_of_length_le (l := A) (by omega)]; simpa using sorted_drop sB _))
end Go.Proofs.Ytiefmfimbmkdjaa

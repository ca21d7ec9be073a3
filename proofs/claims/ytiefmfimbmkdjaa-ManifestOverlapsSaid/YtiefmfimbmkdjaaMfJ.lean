/-
  slices.SortStableFunc at tables, walked: insertion sort, rotation, symmetric merge.
  No condition but those that each statement names.
-/
import Derived.Test.YtiefmfimbmkdjaaMfI
namespace Go.Proofs.Ytiefmfimbmkdjaa
set_option linter.unusedSimpArgs false
set_option linter.unusedVariables false
set_option linter.unusedSectionVars false
open Go.RowKit
variable [Obs]


set_option maxHeartbeats 2000000 in
theorem swapRange_spec {F : Hp} {K : Value → List HProp → Prop} {p : Option Addr} {cap len : Nat} {l : List Tab} {X A W B Y : List Tab} (hl : l = swRow X A W B Y 0) (he : A.length = B.length) (hlen : len = l.length) (hbd : len ≤ 1000000) {a b m : Nat} (ha : a = X.length) (hb : b = X.length + A.length + W.length) (hm : m = A.length) (hK : K (.tuple #[]) [Own 46 4 encT p cap (X ++ (B ++ (W ++ (A ++ Y))))]) :
    CallK Try.prog F 77 #[.slice p len cap, .int .i64 (a : Int), .int .i64 (b : Int), .int .i64 (m : Int), .func (.func 50) #[] #[]] [Own 46 4 encT p cap (l)] K := by
  subst hl ha hb hm
  rw [swRow_len] at hlen
  refine CallK.enter Try.func77 rfl Try.ntmps77 rfl ?_
  refine Tr.seq ?_
  refine Tr.region ?_
  refine TrL.assign rfl rfl ?_
  refine TrL.nil (At.then_normal ?_)
  refine Tr.block ?_
  refine Tr.loopK [0, 1, 2, 3] (α := Nat) (fun i => [(10, .int .i64 (i : Int))]) (fun i => [Own 46 4 encT p cap (swRow X A W B Y i)]) (fun i => i ≤ A.length) (fun i => A.length - i) (0) (by rfl) ?_ (by repeat (first | exact Sub.nil | refine Sub.cons (by rfl) ?_)) (by repeat (first | exact Picks.nil | with_reducible exact Pick.here | with_reducible apply Pick.there | with_reducible apply Pick.app_nil | with_reducible apply Pick.app_cons | apply Picks.cons)) ?_
  · exact Nat.zero_le _
  rintro i hi
  refine Tr.seq ?_
  refine Tr.seq ?_
  refine Tr.region ?_
  refine TrL.move rfl rfl ?_
  refine TrL.move rfl rfl ?_
  refine TrL.lss rfl rfl rfl ?_
  refine TrL.nil (At.then_normal ?_)
  refine Tr.cond rfl (fun h13 => ?_) (fun h13 => ?_)
  · try simp only [beq_iff_eq, beq_eq_false_iff_ne, Bool.not_eq_true, Bool.not_eq_false, decide_eq_true_eq, decide_eq_false_iff_not, Bool.not_eq_true', Bool.not_eq_false', bne_iff_ne, Bool.not_eq_eq_eq_not, Bool.not_true, Bool.not_false, ne_eq, Decidable.not_not, Int.not_lt, Int.not_le] at h13
    refine Tr.skip (At.then_normal ?_)
    refine Tr.seq ?_
    refine Tr.block ?_
    obtain ⟨s1, s2, s3⟩ := swRow_step (X := X) (W := W) (Y := Y) (show i < A.length by omega) (show i < B.length by omega)
    refine Tr.base (enc := encT) (k := 4) (by repeat (first | with_reducible exact Pick.here | with_reducible apply Pick.there | with_reducible apply Pick.app_nil | with_reducible apply Pick.app_cons)) (by simp only [hlen, swRow_len, oneRow_len, List.length_set, List.length_append, List.length_cons, List.length_nil, List.length_take, List.length_drop]; omega) (fun hp => ?_)
    refine Tr.regionD [] mixed ?_
    refine TrD.take 0 rfl (by kernel_rfl) (by kernel_rfl) (by kernel_rfl) (by repeat (first | exact Picks.nil | with_reducible exact Pick.here | with_reducible apply Pick.there | with_reducible apply Pick.app_nil | with_reducible apply Pick.app_cons | apply Picks.cons)) ?_
    refine TrL.move rfl rfl ?_
    refine TrL.nilTake (listed' := #[true, false, false, false, false, false, false, false, false, false, false, false, false, false, false, false, false, false, false, false, false, false, false, false]) (by kernel_rfl) ?_
    refine TrD.take 1 rfl (by kernel_rfl) (by kernel_rfl) (by kernel_rfl) (by repeat (first | exact Picks.nil | with_reducible exact Pick.here | with_reducible apply Pick.there | with_reducible apply Pick.app_nil | with_reducible apply Pick.app_cons | apply Picks.cons)) ?_
    refine TrL.move rfl rfl ?_
    refine TrL.nilTake (listed' := #[true, true, false, false, false, false, false, false, false, false, false, false, false, false, false, false, false, false, false, false, false, false, false, false]) (by kernel_rfl) ?_
    refine TrD.take 2 rfl (by kernel_rfl) (by kernel_rfl) (by kernel_rfl) (by repeat (first | exact Picks.nil | with_reducible exact Pick.here | with_reducible apply Pick.there | with_reducible apply Pick.app_nil | with_reducible apply Pick.app_cons | apply Picks.cons)) ?_
    refine TrL.move rfl rfl ?_
    refine TrL.nilTake (listed' := #[true, true, true, false, false, false, false, false, false, false, false, false, false, false, false, false, false, false, false, false, false, false, false, false]) (by kernel_rfl) ?_
    refine TrD.take 3 rfl (by kernel_rfl) (by kernel_rfl) (by kernel_rfl) (by repeat (first | exact Picks.nil | with_reducible exact Pick.here | with_reducible apply Pick.there | with_reducible apply Pick.app_nil | with_reducible apply Pick.app_cons | apply Picks.cons)) ?_
    refine TrL.addI rfl rfl rfl (by omega) ?_
    refine TrL.nilTake (listed' := #[true, true, true, true, false, false, false, false, false, false, false, false, false, false, false, false, false, false, false, false, false, false, false, false]) (by kernel_rfl) ?_
    refine TrD.take 4 rfl (by kernel_rfl) (by kernel_rfl) (by kernel_rfl) (by repeat (first | exact Picks.nil | with_reducible exact Pick.here | with_reducible apply Pick.there | with_reducible apply Pick.app_nil | with_reducible apply Pick.app_cons | apply Picks.cons)) ?_
    refine TrL.move rfl rfl ?_
    refine TrL.nilTake (listed' := #[true, true, true, true, true, false, false, false, false, false, false, false, false, false, false, false, false, false, false, false, false, false, false, false]) (by kernel_rfl) ?_
    refine TrD.take 5 rfl (by kernel_rfl) (by kernel_rfl) (by kernel_rfl) (by repeat (first | exact Picks.nil | with_reducible exact Pick.here | with_reducible apply Pick.there | with_reducible apply Pick.app_nil | with_reducible apply Pick.app_cons | apply Picks.cons)) ?_
    refine TrL.move rfl rfl ?_
    refine TrL.nilTake (listed' := #[true, true, true, true, true, true, false, false, false, false, false, false, false, false, false, false, false, false, false, false, false, false, false, false]) (by kernel_rfl) ?_
    refine TrD.take 6 rfl (by kernel_rfl) (by kernel_rfl) (by kernel_rfl) (by repeat (first | exact Picks.nil | with_reducible exact Pick.here | with_reducible apply Pick.there | with_reducible apply Pick.app_nil | with_reducible apply Pick.app_cons | apply Picks.cons)) ?_
    refine TrL.move rfl rfl ?_
    refine TrL.nilTake (listed' := #[true, true, true, true, true, true, true, false, false, false, false, false, false, false, false, false, false, false, false, false, false, false, false, false]) (by kernel_rfl) ?_
    refine TrD.take 7 rfl (by kernel_rfl) (by kernel_rfl) (by kernel_rfl) (by repeat (first | exact Picks.nil | with_reducible exact Pick.here | with_reducible apply Pick.there | with_reducible apply Pick.app_nil | with_reducible apply Pick.app_cons | apply Picks.cons)) ?_
    refine TrL.addI rfl rfl rfl (by omega) ?_
    refine TrL.nilTake (listed' := #[true, true, true, true, true, true, true, true, false, false, false, false, false, false, false, false, false, false, false, false, false, false, false, false]) (by kernel_rfl) ?_
    refine TrD.take 8 rfl (by kernel_rfl) (by kernel_rfl) (by kernel_rfl) (by repeat (first | exact Picks.nil | with_reducible exact Pick.here | with_reducible apply Pick.there | with_reducible apply Pick.app_nil | with_reducible apply Pick.app_cons | apply Picks.cons)) ?_
    refine TrL.move rfl rfl ?_
    refine TrL.nilTake (listed' := #[true, true, true, true, true, true, true, true, true, false, false, false, false, false, false, false, false, false, false, false, false, false, false, false]) (by kernel_rfl) ?_
    refine TrD.take 9 rfl (by kernel_rfl) (by kernel_rfl) (by kernel_rfl) (by repeat (first | exact Picks.nil | with_reducible exact Pick.here | with_reducible apply Pick.there | with_reducible apply Pick.app_nil | with_reducible apply Pick.app_cons | apply Picks.cons)) ?_
    refine TrL.move rfl rfl ?_
    refine TrL.nilTake (listed' := #[true, true, true, true, true, true, true, true, true, true, false, false, false, false, false, false, false, false, false, false, false, false, false, false]) (by kernel_rfl) ?_
    refine TrD.take 10 rfl (by kernel_rfl) (by kernel_rfl) (by kernel_rfl) (by repeat (first | exact Picks.nil | with_reducible exact Pick.here | with_reducible apply Pick.there | with_reducible apply Pick.app_nil | with_reducible apply Pick.app_cons | apply Picks.cons)) ?_
    refine TrL.move rfl rfl ?_
    refine TrL.nilTake (listed' := #[true, true, true, true, true, true, true, true, true, true, true, false, false, false, false, false, false, false, false, false, false, false, false, false]) (by kernel_rfl) ?_
    refine TrD.take 11 rfl (by kernel_rfl) (by kernel_rfl) (by kernel_rfl) (by repeat (first | exact Picks.nil | with_reducible exact Pick.here | with_reducible apply Pick.there | with_reducible apply Pick.app_nil | with_reducible apply Pick.app_cons | apply Picks.cons)) ?_
    refine TrL.addI rfl rfl rfl (by omega) ?_
    refine TrL.nilTake (listed' := #[true, true, true, true, true, true, true, true, true, true, true, true, false, false, false, false, false, false, false, false, false, false, false, false]) (by kernel_rfl) ?_
    refine TrD.take 12 rfl (by kernel_rfl) (by kernel_rfl) (by kernel_rfl) (by repeat (first | exact Picks.nil | with_reducible exact Pick.here | with_reducible apply Pick.there | with_reducible apply Pick.app_nil | with_reducible apply Pick.app_cons | apply Picks.cons)) ?_
    refine TrL.idxQ (X.length + A.length + W.length + i) rfl rfl rfl se22 sz46 hp (by omega) (by omega) ?_
    refine TrL.nilTake (listed' := #[true, true, true, true, true, true, true, true, true, true, true, true, true, false, false, false, false, false, false, false, false, false, false, false]) (by kernel_rfl) ?_
    refine TrD.take 14 rfl (by kernel_rfl) (by kernel_rfl) (by kernel_rfl) (by repeat (first | exact Picks.nil | with_reducible exact Pick.here | with_reducible apply Pick.there | with_reducible apply Pick.app_nil | with_reducible apply Pick.app_cons | apply Picks.cons)) ?_
    refine TrL.move rfl rfl ?_
    refine TrL.nilTake (listed' := #[true, true, true, true, true, true, true, true, true, true, true, true, true, false, true, false, false, false, false, false, false, false, false, false]) (by kernel_rfl) ?_
    refine TrD.take 15 rfl (by kernel_rfl) (by kernel_rfl) (by kernel_rfl) (by repeat (first | exact Picks.nil | with_reducible exact Pick.here | with_reducible apply Pick.there | with_reducible apply Pick.app_nil | with_reducible apply Pick.app_cons | apply Picks.cons)) ?_
    refine TrL.move rfl rfl ?_
    refine TrL.nilTake (listed' := #[true, true, true, true, true, true, true, true, true, true, true, true, true, false, true, true, false, false, false, false, false, false, false, false]) (by kernel_rfl) ?_
    refine TrD.take 16 rfl (by kernel_rfl) (by kernel_rfl) (by kernel_rfl) (by repeat (first | exact Picks.nil | with_reducible exact Pick.here | with_reducible apply Pick.there | with_reducible apply Pick.app_nil | with_reducible apply Pick.app_cons | apply Picks.cons)) ?_
    refine TrL.move rfl rfl ?_
    refine TrL.nilTake (listed' := #[true, true, true, true, true, true, true, true, true, true, true, true, true, false, true, true, true, false, false, false, false, false, false, false]) (by kernel_rfl) ?_
    refine TrD.take 17 rfl (by kernel_rfl) (by kernel_rfl) (by kernel_rfl) (by repeat (first | exact Picks.nil | with_reducible exact Pick.here | with_reducible apply Pick.there | with_reducible apply Pick.app_nil | with_reducible apply Pick.app_cons | apply Picks.cons)) ?_
    refine TrL.addI rfl rfl rfl (by omega) ?_
    refine TrL.nilTake (listed' := #[true, true, true, true, true, true, true, true, true, true, true, true, true, false, true, true, true, true, false, false, false, false, false, false]) (by kernel_rfl) ?_
    refine TrD.take 18 rfl (by kernel_rfl) (by kernel_rfl) (by kernel_rfl) (by repeat (first | exact Picks.nil | with_reducible exact Pick.here | with_reducible apply Pick.there | with_reducible apply Pick.app_nil | with_reducible apply Pick.app_cons | apply Picks.cons)) ?_
    refine TrL.idxQ (X.length + i) rfl rfl rfl se22 sz46 hp (by omega) (by omega) ?_
    refine TrL.nilTake (listed' := #[true, true, true, true, true, true, true, true, true, true, true, true, true, false, true, true, true, true, true, false, false, false, false, false]) (by kernel_rfl) ?_
    refine TrD.all [13, 19] (by kernel_rfl) rfl ?_
    refine all_cons ⟨_, rfl, ?_⟩ ?_
    · skip
      refine TrL.loadO (enc := encT) (k := 4) (i := X.length + A.length + W.length + i) rfl rfl ag46 sz46 (by repeat (first | with_reducible exact Pick.here | with_reducible apply Pick.there | with_reducible apply Pick.app_nil | with_reducible apply Pick.app_cons)) rfl rfl encT_len s2 ?_
      refine TrL.nil (At.step (listed' := #[true, true, true, true, true, true, true, true, true, true, true, true, true, true, true, true, true, true, true, false, false, false, false, false]) (by kernel_rfl) (by repeat (first | exact Picks.nil | with_reducible exact Pick.here | with_reducible apply Pick.there | with_reducible apply Pick.app_nil | with_reducible apply Pick.app_cons | apply Picks.cons)) ?_)
      refine TrD.all [19] (by kernel_rfl) rfl ?_
      refine all_cons ⟨_, rfl, ?_⟩ all_nil
      refine TrL.loadO (enc := encT) (k := 4) (i := X.length + i) rfl rfl ag46 sz46 (by repeat (first | with_reducible exact Pick.here | with_reducible apply Pick.there | with_reducible apply Pick.app_nil | with_reducible apply Pick.app_cons)) rfl rfl encT_len s1 ?_
      refine TrL.nil (At.step (listed' := #[true, true, true, true, true, true, true, true, true, true, true, true, true, true, true, true, true, true, true, true, false, false, false, false]) (by kernel_rfl) (by repeat (first | exact Picks.nil | with_reducible exact Pick.here | with_reducible apply Pick.there | with_reducible apply Pick.app_nil | with_reducible apply Pick.app_cons | apply Picks.cons)) ?_)
      refine TrD.take 20 rfl (by kernel_rfl) (by kernel_rfl) (by kernel_rfl) (by repeat (first | exact Picks.nil | with_reducible exact Pick.here | with_reducible apply Pick.there | with_reducible apply Pick.app_nil | with_reducible apply Pick.app_cons | apply Picks.cons)) ?_
      refine TrL.idxQ (X.length + i) rfl rfl rfl se22 sz46 hp (by omega) (by omega) ?_
      refine TrL.nilTake (listed' := #[true, true, true, true, true, true, true, true, true, true, true, true, true, true, true, true, true, true, true, true, true, false, false, false]) (by kernel_rfl) ?_
      refine TrD.all [21] (by kernel_rfl) rfl ?_
      refine all_cons ⟨_, rfl, ?_⟩ all_nil
      refine TrL.storeO (enc := encT) (k := 4) (i := X.length + i) (v := B[i]) rfl rfl sz46 (by repeat (first | with_reducible exact Pick.here | with_reducible apply Pick.there | with_reducible apply Pick.app_nil | with_reducible apply Pick.app_cons)) rfl rfl (by simp only [hlen, swRow_len, oneRow_len, List.length_set, List.length_append, List.length_cons, List.length_nil, List.length_take, List.length_drop]; omega) rfl encT_len rfl ?_
      refine TrL.nil (At.step (listed' := #[true, true, true, true, true, true, true, true, true, true, true, true, true, true, true, true, true, true, true, true, true, true, false, false]) (by kernel_rfl) (by repeat (first | exact Picks.nil | with_reducible exact Pick.here | with_reducible apply Pick.there | with_reducible apply Pick.app_nil | with_reducible apply Pick.app_cons | apply Picks.cons)) ?_)
      refine TrD.take 22 rfl (by kernel_rfl) (by kernel_rfl) (by kernel_rfl) (by repeat (first | exact Picks.nil | with_reducible exact Pick.here | with_reducible apply Pick.there | with_reducible apply Pick.app_nil | with_reducible apply Pick.app_cons | apply Picks.cons)) ?_
      refine TrL.idxQ (X.length + A.length + W.length + i) rfl rfl rfl se22 sz46 hp (by omega) (by omega) ?_
      refine TrL.nilTake (listed' := #[true, true, true, true, true, true, true, true, true, true, true, true, true, true, true, true, true, true, true, true, true, true, true, false]) (by kernel_rfl) ?_
      refine TrD.all [23] (by kernel_rfl) rfl ?_
      refine all_cons ⟨_, rfl, ?_⟩ all_nil
      refine TrL.storeO (enc := encT) (k := 4) (i := X.length + A.length + W.length + i) (v := A[i]) rfl rfl sz46 (by repeat (first | with_reducible exact Pick.here | with_reducible apply Pick.there | with_reducible apply Pick.app_nil | with_reducible apply Pick.app_cons)) rfl rfl (by simp only [hlen, swRow_len, oneRow_len, List.length_set, List.length_append, List.length_cons, List.length_nil, List.length_take, List.length_drop]; omega) rfl encT_len rfl ?_
      refine TrL.nil (At.step (listed' := #[true, true, true, true, true, true, true, true, true, true, true, true, true, true, true, true, true, true, true, true, true, true, true, true]) (by kernel_rfl) (by repeat (first | exact Picks.nil | with_reducible exact Pick.here | with_reducible apply Pick.there | with_reducible apply Pick.app_nil | with_reducible apply Pick.app_cons | apply Picks.cons)) ?_)
      refine TrD.done (by kernel_rfl) (At.block_normal (At.then_normal ?_))
      refine Tr.region ?_
      refine TrL.move rfl rfl ?_
      refine TrL.addI rfl rfl rfl (by omega) ?_
      refine TrL.assign rfl rfl ?_
      refine TrL.nil ?_
      rw [s3]
      refine At.again (i + 1) (by show i + 1 ≤ A.length; omega) (by omega) (by repeat (first | exact Sub.nil | refine Sub.cons (by rfl) ?_)) (by repeat (first | exact Picks.nil | with_reducible exact Pick.here | with_reducible apply Pick.there | with_reducible apply Pick.app_nil | with_reducible apply Pick.app_cons | apply Picks.cons))
    refine all_cons ⟨_, rfl, ?_⟩ ?_
    · skip
      refine TrL.loadO (enc := encT) (k := 4) (i := X.length + i) rfl rfl ag46 sz46 (by repeat (first | with_reducible exact Pick.here | with_reducible apply Pick.there | with_reducible apply Pick.app_nil | with_reducible apply Pick.app_cons)) rfl rfl encT_len s1 ?_
      refine TrL.nil (At.step (listed' := #[true, true, true, true, true, true, true, true, true, true, true, true, true, false, true, true, true, true, true, true, false, false, false, false]) (by kernel_rfl) (by repeat (first | exact Picks.nil | with_reducible exact Pick.here | with_reducible apply Pick.there | with_reducible apply Pick.app_nil | with_reducible apply Pick.app_cons | apply Picks.cons)) ?_)
      refine TrD.all [13] (by kernel_rfl) rfl ?_
      refine all_cons ⟨_, rfl, ?_⟩ all_nil
      refine TrL.loadO (enc := encT) (k := 4) (i := X.length + A.length + W.length + i) rfl rfl ag46 sz46 (by repeat (first | with_reducible exact Pick.here | with_reducible apply Pick.there | with_reducible apply Pick.app_nil | with_reducible apply Pick.app_cons)) rfl rfl encT_len s2 ?_
      refine TrL.nil (At.step (listed' := #[true, true, true, true, true, true, true, true, true, true, true, true, true, true, true, true, true, true, true, true, false, false, false, false]) (by kernel_rfl) (by repeat (first | exact Picks.nil | with_reducible exact Pick.here | with_reducible apply Pick.there | with_reducible apply Pick.app_nil | with_reducible apply Pick.app_cons | apply Picks.cons)) ?_)
      refine TrD.take 20 rfl (by kernel_rfl) (by kernel_rfl) (by kernel_rfl) (by repeat (first | exact Picks.nil | with_reducible exact Pick.here | with_reducible apply Pick.there | with_reducible apply Pick.app_nil | with_reducible apply Pick.app_cons | apply Picks.cons)) ?_
      refine TrL.idxQ (X.length + i) rfl rfl rfl se22 sz46 hp (by omega) (by omega) ?_
      refine TrL.nilTake (listed' := #[true, true, true, true, true, true, true, true, true, true, true, true, true, true, true, true, true, true, true, true, true, false, false, false]) (by kernel_rfl) ?_
      refine TrD.all [21] (by kernel_rfl) rfl ?_
      refine all_cons ⟨_, rfl, ?_⟩ all_nil
      refine TrL.storeO (enc := encT) (k := 4) (i := X.length + i) (v := B[i]) rfl rfl sz46 (by repeat (first | with_reducible exact Pick.here | with_reducible apply Pick.there | with_reducible apply Pick.app_nil | with_reducible apply Pick.app_cons)) rfl rfl (by simp only [hlen, swRow_len, oneRow_len, List.length_set, List.length_append, List.length_cons, List.length_nil, List.length_take, List.length_drop]; omega) rfl encT_len rfl ?_
      refine TrL.nil (At.step (listed' := #[true, true, true, true, true, true, true, true, true, true, true, true, true, true, true, true, true, true, true, true, true, true, false, false]) (by kernel_rfl) (by repeat (first | exact Picks.nil | with_reducible exact Pick.here | with_reducible apply Pick.there | with_reducible apply Pick.app_nil | with_reducible apply Pick.app_cons | apply Picks.cons)) ?_)
      refine TrD.take 22 rfl (by kernel_rfl) (by kernel_rfl) (by kernel_rfl) (by repeat (first | exact Picks.nil | with_reducible exact Pick.here | with_reducible apply Pick.there | with_reducible apply Pick.app_nil | with_reducible apply Pick.app_cons | apply Picks.cons)) ?_
      refine TrL.idxQ (X.length + A.length + W.length + i) rfl rfl rfl se22 sz46 hp (by omega) (by omega) ?_
      refine TrL.nilTake (listed' := #[true, true, true, true, true, true, true, true, true, true, true, true, true, true, true, true, true, true, true, true, true, true, true, false]) (by kernel_rfl) ?_
      refine TrD.all [23] (by kernel_rfl) rfl ?_
      refine all_cons ⟨_, rfl, ?_⟩ all_nil
      refine TrL.storeO (enc := encT) (k := 4) (i := X.length + A.length + W.length + i) (v := A[i]) rfl rfl sz46 (by repeat (first | with_reducible exact Pick.here | with_reducible apply Pick.there | with_reducible apply Pick.app_nil | with_reducible apply Pick.app_cons)) rfl rfl (by simp only [hlen, swRow_len, oneRow_len, List.length_set, List.length_append, List.length_cons, List.length_nil, List.length_take, List.length_drop]; omega) rfl encT_len rfl ?_
      refine TrL.nil (At.step (listed' := #[true, true, true, true, true, true, true, true, true, true, true, true, true, true, true, true, true, true, true, true, true, true, true, true]) (by kernel_rfl) (by repeat (first | exact Picks.nil | with_reducible exact Pick.here | with_reducible apply Pick.there | with_reducible apply Pick.app_nil | with_reducible apply Pick.app_cons | apply Picks.cons)) ?_)
      refine TrD.done (by kernel_rfl) (At.block_normal (At.then_normal ?_))
      refine Tr.region ?_
      refine TrL.move rfl rfl ?_
      refine TrL.addI rfl rfl rfl (by omega) ?_
      refine TrL.assign rfl rfl ?_
      refine TrL.nil ?_
      rw [s3]
      refine At.again (i + 1) (by show i + 1 ≤ A.length; omega) (by omega) (by repeat (first | exact Sub.nil | refine Sub.cons (by rfl) ?_)) (by repeat (first | exact Picks.nil | with_reducible exact Pick.here | with_reducible apply Pick.there | with_reducible apply Pick.app_nil | with_reducible apply Pick.app_cons | apply Picks.cons))
    exact all_nil
  · try simp only [beq_iff_eq, beq_eq_false_iff_ne, Bool.not_eq_true, Bool.not_eq_false, decide_eq_true_eq, decide_eq_false_iff_not, Bool.not_eq_true', Bool.not_eq_false', bne_iff_ne, Bool.not_eq_eq_eq_not, Bool.not_true, Bool.not_false, ne_eq, Decidable.not_not, Int.not_lt, Int.not_le] at h13
    refine Tr.exit (At.then_exit (At.then_exit (At.block_hit (At.retP [_] (.inr rfl) rfl Res.nil (by repeat (first | exact Picks.nil | with_reducible exact Pick.here | with_reducible apply Pick.there | with_reducible apply Pick.app_nil | with_reducible apply Pick.app_cons | apply Picks.cons)) (by rw [show i = A.length by omega, swRow_end he]; exact hK)))))

set_option maxHeartbeats 2000000 in
theorem rotate_spec {F : Hp} {K : Value → List HProp → Prop} {p : Option Addr} {cap len : Nat} {l : List Tab} {X A B Y : List Tab} (hl : l = X ++ (A ++ (B ++ Y))) (hA : A ≠ []) (hB : B ≠ []) (hlen : len = l.length) (hbd : len ≤ 1000000) {a m b : Nat} (ha : a = X.length) (hm : m = X.length + A.length) (hb : b = X.length + A.length + B.length) (hK : K (.tuple #[]) [Own 46 4 encT p cap (X ++ (B ++ (A ++ Y)))]) :
    CallK Try.prog F 76 #[.slice p len cap, .int .i64 (a : Int), .int .i64 (m : Int), .int .i64 (b : Int), .func (.func 50) #[] #[]] [Own 46 4 encT p cap (l)] K := by
  subst hl ha hm hb
  have hA0 := List.length_pos_iff.2 hA
  have hB0 := List.length_pos_iff.2 hB
  simp only [List.length_append] at hlen
  refine CallK.enter Try.func76 rfl Try.ntmps76 rfl ?_
  refine Tr.seq ?_
  refine Tr.region ?_
  refine TrL.move rfl rfl ?_
  refine TrL.move rfl rfl ?_
  refine TrL.subI rfl rfl rfl (by omega) ?_
  refine TrL.assign rfl rfl ?_
  refine TrL.nil (At.then_normal ?_)
  refine Tr.seq ?_
  refine Tr.region ?_
  refine TrL.move rfl rfl ?_
  refine TrL.move rfl rfl ?_
  refine TrL.subI rfl rfl rfl (by omega) ?_
  refine TrL.assign rfl rfl ?_
  refine TrL.nil (At.then_normal ?_)
  refine Tr.seq ?_
  refine Tr.block ?_
  rw [show ((X.length + A.length + B.length : Nat) : Int) - ((X.length + A.length : Nat) : Int) = (B.length : Int) by omega, show ((X.length + A.length : Nat) : Int) - (X.length : Int) = (A.length : Int) by omega]
  rw [show X ++ (A ++ (B ++ Y)) = X ++ (([] : List Tab) ++ (A ++ (B ++ (([] : List Tab) ++ Y)))) by simp]
  refine Tr.loopK [0, 2, 4] (α := Nat × Nat × List Tab × List Tab × List Tab × List Tab) (fun z => [(10, .int .i64 (z.1 : Int)), (11, .int .i64 (z.2.1 : Int))]) (fun z => [Own 46 4 encT p cap (X ++ (z.2.2.1 ++ (z.2.2.2.1 ++ (z.2.2.2.2.1 ++ (z.2.2.2.2.2 ++ Y)))))]) (fun z => z.2.2.1 ++ (z.2.2.2.2.1 ++ (z.2.2.2.1 ++ z.2.2.2.2.2)) = B ++ A ∧ z.2.2.2.1.length = z.1 ∧ z.2.2.2.2.1.length = z.2.1 ∧ 0 < z.1 ∧ 0 < z.2.1 ∧ z.2.2.1.length + z.1 = A.length ∧ z.2.2.1.length + z.1 + z.2.1 + z.2.2.2.2.2.length = A.length + B.length) (fun z => z.1 + z.2.1) (A.length, B.length, [], A, B, []) (by rfl) ?_ (by repeat (first | exact Sub.nil | refine Sub.cons (by rfl) ?_)) (by repeat (first | exact Picks.nil | with_reducible exact Pick.here | with_reducible apply Pick.there | with_reducible apply Pick.app_nil | with_reducible apply Pick.app_cons | apply Picks.cons)) ?_
  · exact ⟨by simp, rfl, rfl, hA0, hB0, by simp, by simp⟩
  rintro ⟨i, j, L1, U, V, R1⟩ ⟨hz1, hz2, hz3, hz4, hz5, hz6, hz7⟩
  dsimp only at hz1 hz2 hz3 hz4 hz5 hz6 hz7 ⊢
  refine Tr.seq ?_
  refine Tr.seq ?_
  skip
  refine Tr.region ?_
  refine TrL.move rfl rfl ?_
  refine TrL.move rfl rfl ?_
  refine TrL.nei rfl rfl rfl ?_
  refine TrL.nil (At.then_normal ?_)
  refine Tr.cond rfl (fun h20 => ?_) (fun h20 => ?_)
  · try simp only [beq_iff_eq, beq_eq_false_iff_ne, Bool.not_eq_true, Bool.not_eq_false, decide_eq_true_eq, decide_eq_false_iff_not, Bool.not_eq_true', Bool.not_eq_false', bne_iff_ne, Bool.not_eq_eq_eq_not, Bool.not_true, Bool.not_false, ne_eq, Decidable.not_not, Int.not_lt, Int.not_le] at h20
    refine Tr.skip (At.then_normal ?_)
    refine Tr.block ?_
    refine Tr.seq ?_
    refine Tr.region ?_
    refine TrL.move rfl rfl ?_
    refine TrL.move rfl rfl ?_
    refine TrL.gtr rfl rfl rfl ?_
    refine TrL.nil (At.then_normal ?_)
    refine Tr.cond rfl (fun h23 => ?_) (fun h23 => ?_)
    · try simp only [beq_iff_eq, beq_eq_false_iff_ne, Bool.not_eq_true, Bool.not_eq_false, decide_eq_true_eq, decide_eq_false_iff_not, Bool.not_eq_true', Bool.not_eq_false', bne_iff_ne, Bool.not_eq_eq_eq_not, Bool.not_true, Bool.not_false, ne_eq, Decidable.not_not, Int.not_lt, Int.not_le] at h23
      refine Tr.seq ?_
      refine Tr.region ?_
      refine TrL.move rfl rfl ?_
      refine TrL.move rfl rfl ?_
      refine TrL.move rfl rfl ?_
      refine TrL.subI rfl rfl rfl (by omega) ?_
      rw [show ((X.length + A.length : Nat) : Int) - (i : Int) = ((X.length + L1.length : Nat) : Int) by omega]
      refine TrL.move rfl rfl ?_
      refine TrL.move rfl rfl ?_
      refine TrL.move rfl rfl ?_
      refine TrL.call rfl rfl rfl ca77 (by repeat (first | exact Picks.nil | with_reducible exact Pick.here | with_reducible apply Pick.there | with_reducible apply Pick.app_nil | with_reducible apply Pick.app_cons | apply Picks.cons)) (fun Ft31 hUt31 => swapRange_spec (X := X ++ L1) (A := U.take j) (W := U.drop j) (B := V) (Y := R1 ++ Y) (m := j) (by rw [swRow_zero]; simp [tda]) (by simp <;> omega) (by simp only [hlen, swRow_len, oneRow_len, List.length_set, List.length_append, List.length_cons, List.length_nil, List.length_take, List.length_drop]; omega) (by omega) (by simp <;> omega) (by simp <;> omega) (by simp <;> omega) ?_)
      refine TrL.nil (At.then_normal ?_)
      refine Tr.region ?_
      refine TrL.move rfl rfl ?_
      refine TrL.move rfl rfl ?_
      refine TrL.subI rfl rfl rfl (by omega) ?_
      refine TrL.assign rfl rfl ?_
      refine TrL.nil (At.block_normal ?_)
      have e : X ++ L1 ++ (V ++ (U.drop j ++ (U.take j ++ (R1 ++ Y)))) = X ++ ((L1 ++ V) ++ (U.drop j ++ (U.take j ++ (R1 ++ Y)))) := by simp
      rw [e]
      rw [show (i : Int) - (j : Int) = ((i - j : Nat) : Int) by omega]
      refine At.again (i - j, j, L1 ++ V, U.drop j, U.take j, R1) ⟨by rw [← hz1]; simp [tda], by simp <;> omega, by simp <;> omega, by show 0 < i - j; omega, by show 0 < j; omega, by simp only [List.length_append]; omega, by simp only [List.length_append]; omega⟩ (by show i - j + j < i + j; omega) (by repeat (first | exact Sub.nil | refine Sub.cons (by rfl) ?_)) (by repeat (first | exact Picks.nil | with_reducible exact Pick.here | with_reducible apply Pick.there | with_reducible apply Pick.app_nil | with_reducible apply Pick.app_cons | apply Picks.cons))
    · try simp only [beq_iff_eq, beq_eq_false_iff_ne, Bool.not_eq_true, Bool.not_eq_false, decide_eq_true_eq, decide_eq_false_iff_not, Bool.not_eq_true', Bool.not_eq_false', bne_iff_ne, Bool.not_eq_eq_eq_not, Bool.not_true, Bool.not_false, ne_eq, Decidable.not_not, Int.not_lt, Int.not_le] at h23
      refine Tr.seq ?_
      refine Tr.region ?_
      refine TrL.move rfl rfl ?_
      refine TrL.move rfl rfl ?_
      refine TrL.move rfl rfl ?_
      refine TrL.subI rfl rfl rfl (by omega) ?_
      rw [show ((X.length + A.length : Nat) : Int) - (i : Int) = ((X.length + L1.length : Nat) : Int) by omega]
      refine TrL.move rfl rfl ?_
      refine TrL.move rfl rfl ?_
      refine TrL.addI rfl rfl rfl (by omega) ?_
      refine TrL.move rfl rfl ?_
      refine TrL.subI rfl rfl rfl (by omega) ?_
      rw [show ((X.length + A.length : Nat) : Int) + (j : Int) - (i : Int) = ((X.length + L1.length + j : Nat) : Int) by omega]
      refine TrL.move rfl rfl ?_
      refine TrL.move rfl rfl ?_
      refine TrL.call rfl rfl rfl ca77 (by repeat (first | exact Picks.nil | with_reducible exact Pick.here | with_reducible apply Pick.there | with_reducible apply Pick.app_nil | with_reducible apply Pick.app_cons | apply Picks.cons)) (fun Ft46 hUt46 => swapRange_spec (X := X ++ L1) (A := U) (W := V.take (j - i)) (B := V.drop (j - i)) (Y := R1 ++ Y) (m := i) (by rw [swRow_zero]; simp [tda]) (by simp <;> omega) (by simp only [hlen, swRow_len, oneRow_len, List.length_set, List.length_append, List.length_cons, List.length_nil, List.length_take, List.length_drop]; omega) (by omega) (by simp <;> omega) (by simp <;> omega) (by omega) ?_)
      refine TrL.nil (At.then_normal ?_)
      refine Tr.region ?_
      refine TrL.move rfl rfl ?_
      refine TrL.move rfl rfl ?_
      refine TrL.subI rfl rfl rfl (by omega) ?_
      refine TrL.assign rfl rfl ?_
      refine TrL.nil (At.block_normal ?_)
      have e : X ++ L1 ++ (V.drop (j - i) ++ (V.take (j - i) ++ (U ++ (R1 ++ Y)))) = X ++ (L1 ++ (V.drop (j - i) ++ (V.take (j - i) ++ ((U ++ R1) ++ Y)))) := by simp
      rw [e]
      rw [show (j : Int) - (i : Int) = ((j - i : Nat) : Int) by omega]
      refine At.again (i, j - i, L1, V.drop (j - i), V.take (j - i), U ++ R1) ⟨by rw [← hz1]; simp [tda], by simp <;> omega, by simp <;> omega, by show 0 < i; omega, by show 0 < j - i; omega, by show L1.length + i = _; omega, by show L1.length + i + (j - i) + (U ++ R1).length = _; simp only [List.length_append]; omega⟩ (by show i + (j - i) < i + j; omega) (by repeat (first | exact Sub.nil | refine Sub.cons (by rfl) ?_)) (by repeat (first | exact Picks.nil | with_reducible exact Pick.here | with_reducible apply Pick.there | with_reducible apply Pick.app_nil | with_reducible apply Pick.app_cons | apply Picks.cons))
  · try simp only [beq_iff_eq, beq_eq_false_iff_ne, Bool.not_eq_true, Bool.not_eq_false, decide_eq_true_eq, decide_eq_false_iff_not, Bool.not_eq_true', Bool.not_eq_false', bne_iff_ne, Bool.not_eq_eq_eq_not, Bool.not_true, Bool.not_false, ne_eq, Decidable.not_not, Int.not_lt, Int.not_le] at h20
    refine Tr.exit (At.then_exit (At.then_exit (At.block_hit (At.then_normal ?_))))
    refine Tr.region ?_
    refine TrL.move rfl rfl ?_
    refine TrL.move rfl rfl ?_
    refine TrL.move rfl rfl ?_
    refine TrL.subI rfl rfl rfl (by omega) ?_
    rw [show ((X.length + A.length : Nat) : Int) - (i : Int) = ((X.length + L1.length : Nat) : Int) by omega]
    refine TrL.move rfl rfl ?_
    refine TrL.move rfl rfl ?_
    refine TrL.move rfl rfl ?_
    refine TrL.call rfl rfl rfl ca77 (by repeat (first | exact Picks.nil | with_reducible exact Pick.here | with_reducible apply Pick.there | with_reducible apply Pick.app_nil | with_reducible apply Pick.app_cons | apply Picks.cons)) (fun Ft57 hUt57 => swapRange_spec (X := X ++ L1) (A := U) (W := []) (B := V) (Y := R1 ++ Y) (m := i) (by rw [swRow_zero]; simp [tda]) (by omega) (by simp only [hlen, swRow_len, oneRow_len, List.length_set, List.length_append, List.length_cons, List.length_nil, List.length_take, List.length_drop]; omega) (by omega) (by simp <;> omega) (by simp <;> omega) (by omega) ?_)
    refine TrL.nil (At.retP [_] (.inr rfl) rfl Res.nil (by repeat (first | exact Picks.nil | with_reducible exact Pick.here | with_reducible apply Pick.there | with_reducible apply Pick.app_nil | with_reducible apply Pick.app_cons | apply Picks.cons)) (by 
        have e : X ++ L1 ++ (V ++ ([] ++ (U ++ (R1 ++ Y)))) = X ++ (B ++ (A ++ Y)) := by rw [← List.append_assoc B A Y, ← hz1]; simp
        rw [e]; exact hK))
end Go.Proofs.Ytiefmfimbmkdjaa

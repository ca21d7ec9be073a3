/-
  The edit of a text, by the program: contracts.
  No condition but those that each statement names.
-/
import Derived.Test.YtiefmfimbmkdjaaMfG
namespace Go.Proofs.Ytiefmfimbmkdjaa
set_option linter.unusedSimpArgs false
set_option linter.unusedVariables false
set_option linter.unusedSectionVars false
open Go.RowKit
variable [Obs]


omit [Obs] in
theorem str_list (l : List UInt8) : (strOf l).data.toList = l := by simp [strOf]
omit [Obs] in
theorem str_drop (l : List UInt8) (k : Nat) : (strOf l).extract ((k : Int)).toNat (strOf l).size = strOf (l.drop k) := by
  rw [strOf_extract, Int.toNat_natCast, List.take_of_length_le (by rw [strOf_size]; simp)]
/-- what is left to be read, and whether all was as it must be: two cells -/
abbrev sC (b : Nat) (st : Rd) : HProp := cl b [.string (strOf st.2)] 9
abbrev okC (b : Nat) (st : Rd) : HProp := cl b [.bool st.1] 4
abbrev fnNum (bs bo : Nat) : Value := .func (.func 34) #[] #[.pointer (some ⟨bs, 0, none⟩), .pointer (some ⟨bo, 0, none⟩)]
abbrev fnTxt (bs bo : Nat) : Value := .func (.func 36) #[] #[.pointer (some ⟨bs, 0, none⟩), .pointer (some ⟨bo, 0, none⟩)]


theorem num1_spec {F : Hp} {K : Value → List HProp → Prop} {bs bo : Nat} {st : Rd} (hl : st.2.length ≤ 9223372036854775807) (hK : K (.int .i64 (numR st).1) [sC bs (numR st).2, okC bo (numR st).2]) : CallK Try.prog F 34 #[.pointer (some ⟨bs, 0, none⟩), .pointer (some ⟨bo, 0, none⟩)] [sC bs st, okC bo st] K := by
  obtain ⟨o, l⟩ := st
  have hl : l.length ≤ 9223372036854775807 := hl
  have hn := takeN_num l
  have hn2 := takeT_num l
  show CallK _ F _ _ [cl bs [.string (strOf l)] 9, cl bo [.bool o] 4] _
  refine CallK.enter Try.func34 rfl Try.ntmps34 rfl ?_
  refine Tr.seq ?_
  refine Tr.region ?_
  refine TrL.assign rfl rfl ?_
  refine TrL.nil (At.then_normal ?_)
  refine Tr.seq ?_
  refine Tr.region ?_
  refine TrL.load1 rfl rfl sc9 (Sees.cl1 (by repeat (first | with_reducible exact Pick.here | with_reducible apply Pick.there | with_reducible apply Pick.app_nil | with_reducible apply Pick.app_cons)) (by rfl)) ?_
  refine TrL.call rfl rfl rfl ca35 .nil (fun Ft8 hUt8 => TakeN_spec ?_)
  rw [str_list l]
  refine TrL.move rfl rfl ?_
  refine TrL.extract rfl rfl rfl ?_
  refine TrL.extract rfl rfl rfl ?_
  refine TrL.extract rfl rfl rfl ?_
  refine TrL.assign rfl rfl ?_
  refine TrL.assign rfl rfl ?_
  refine TrL.assign rfl rfl ?_
  refine TrL.nil (At.then_normal ?_)
  refine Tr.seq ?_
  refine Tr.region ?_
  refine TrL.load1 rfl rfl sc4 (Sees.cl1 (by repeat (first | with_reducible exact Pick.here | with_reducible apply Pick.there | with_reducible apply Pick.app_nil | with_reducible apply Pick.app_cons)) (by rfl)) ?_
  refine TrL.move rfl rfl ?_
  refine TrL.cases (t := 13) rfl (fun h13 => ?_) (fun h13 => ?_)
  · try simp only [beq_iff_eq, beq_eq_false_iff_ne, Bool.not_eq_true, Bool.not_eq_false, decide_eq_true_eq, decide_eq_false_iff_not, Bool.not_eq_true', Bool.not_eq_false', bne_iff_ne, Bool.not_eq_eq_eq_not, Bool.not_true, Bool.not_false, ne_eq, Decidable.not_not, Int.not_lt, Int.not_le] at h13
    refine TrL.want rfl rfl ?_
    refine TrL.move rfl rfl ?_
    refine TrL.want rfl rfl ?_
    refine TrL.eqi rfl rfl rfl ?_
    refine TrL.pickT rfl rfl rfl ?_
    refine TrL.store1 rfl rfl sz4 rfl (by repeat (first | with_reducible exact Upd.here | with_reducible apply Upd.there | with_reducible apply Upd.app_nil | with_reducible apply Upd.app_cons)) (by rfl) ?_
    refine TrL.nil (At.then_normal ?_)
    refine Tr.seq ?_
    refine Tr.region ?_
    refine TrL.load1 rfl rfl sc9 (Sees.cl1 (by repeat (first | with_reducible exact Pick.here | with_reducible apply Pick.there | with_reducible apply Pick.app_nil | with_reducible apply Pick.app_cons)) (by rfl)) ?_
    refine TrL.move rfl rfl ?_
    refine TrL.cutSL rfl rfl rfl st9 (by omega) (by rw [strOf_size]; omega) ?_
    rw [str_drop]
    refine TrL.store1 rfl rfl sz9 rfl (by repeat (first | with_reducible exact Upd.here | with_reducible apply Upd.there | with_reducible apply Upd.app_nil | with_reducible apply Upd.app_cons)) (by rfl) ?_
    refine TrL.nil (At.then_normal ?_)
    refine Tr.seq ?_
    refine Tr.region ?_
    refine TrL.move rfl rfl ?_
    refine TrL.assign rfl rfl ?_
    refine TrL.nil (At.then_normal ?_)
    refine Tr.ret (At.retP [cl bs [_] 9, cl bo [_] 4] (.inl rfl) rfl (Res.tmp rfl Res.nil) (by repeat (first | exact Picks.nil | with_reducible exact Pick.here | with_reducible apply Pick.there | with_reducible apply Pick.app_nil | with_reducible apply Pick.app_cons | apply Picks.cons)) (by 
        unfold numR at hK
        simp only [h13, Bool.true_and, Bool.false_and] at hK
        exact hK))
  · try simp only [beq_iff_eq, beq_eq_false_iff_ne, Bool.not_eq_true, Bool.not_eq_false, decide_eq_true_eq, decide_eq_false_iff_not, Bool.not_eq_true', Bool.not_eq_false', bne_iff_ne, Bool.not_eq_eq_eq_not, Bool.not_true, Bool.not_false, ne_eq, Decidable.not_not, Int.not_lt, Int.not_le] at h13
    refine TrL.unwant rfl rfl rfl ?_
    refine TrL.unwant rfl rfl rfl ?_
    refine TrL.pickF rfl rfl rfl ?_
    refine TrL.store1 rfl rfl sz4 rfl (by repeat (first | with_reducible exact Upd.here | with_reducible apply Upd.there | with_reducible apply Upd.app_nil | with_reducible apply Upd.app_cons)) (by rfl) ?_
    refine TrL.nil (At.then_normal ?_)
    refine Tr.seq ?_
    refine Tr.region ?_
    refine TrL.load1 rfl rfl sc9 (Sees.cl1 (by repeat (first | with_reducible exact Pick.here | with_reducible apply Pick.there | with_reducible apply Pick.app_nil | with_reducible apply Pick.app_cons)) (by rfl)) ?_
    refine TrL.move rfl rfl ?_
    refine TrL.cutSL rfl rfl rfl st9 (by omega) (by rw [strOf_size]; omega) ?_
    rw [str_drop]
    refine TrL.store1 rfl rfl sz9 rfl (by repeat (first | with_reducible exact Upd.here | with_reducible apply Upd.there | with_reducible apply Upd.app_nil | with_reducible apply Upd.app_cons)) (by rfl) ?_
    refine TrL.nil (At.then_normal ?_)
    refine Tr.seq ?_
    refine Tr.region ?_
    refine TrL.move rfl rfl ?_
    refine TrL.assign rfl rfl ?_
    refine TrL.nil (At.then_normal ?_)
    refine Tr.ret (At.retP [cl bs [_] 9, cl bo [_] 4] (.inl rfl) rfl (Res.tmp rfl Res.nil) (by repeat (first | exact Picks.nil | with_reducible exact Pick.here | with_reducible apply Pick.there | with_reducible apply Pick.app_nil | with_reducible apply Pick.app_cons | apply Picks.cons)) (by 
        unfold numR at hK
        simp only [h13, Bool.true_and, Bool.false_and] at hK
        exact hK))

theorem txt1_spec {F : Hp} {K : Value → List HProp → Prop} {bs bo : Nat} {st : Rd} (hl : st.2.length ≤ 9223372036854775807) (hK : K (.string (strOf (txtR st).1)) [sC bs (txtR st).2, okC bo (txtR st).2]) : CallK Try.prog F 36 #[.pointer (some ⟨bs, 0, none⟩), .pointer (some ⟨bo, 0, none⟩)] [sC bs st, okC bo st] K := by
  obtain ⟨o, l⟩ := st
  have hl : l.length ≤ 9223372036854775807 := hl
  have hn := takeN_num l
  have hn2 := takeT_num l
  show CallK _ F _ _ [cl bs [.string (strOf l)] 9, cl bo [.bool o] 4] _
  refine CallK.enter Try.func36 rfl Try.ntmps36 rfl ?_
  refine Tr.seq ?_
  refine Tr.region ?_
  refine TrL.assign rfl rfl ?_
  refine TrL.nil (At.then_normal ?_)
  refine Tr.seq ?_
  refine Tr.region ?_
  refine TrL.load1 rfl rfl sc9 (Sees.cl1 (by repeat (first | with_reducible exact Pick.here | with_reducible apply Pick.there | with_reducible apply Pick.app_nil | with_reducible apply Pick.app_cons)) (by rfl)) ?_
  refine TrL.call rfl rfl rfl ca37 .nil (fun Ft8 hUt8 => TakeT_spec (by rw [strOf_size]; exact hl) ?_)
  rw [str_list l]
  refine TrL.move rfl rfl ?_
  refine TrL.extract rfl rfl rfl ?_
  refine TrL.extract rfl rfl rfl ?_
  refine TrL.extract rfl rfl rfl ?_
  refine TrL.assign rfl rfl ?_
  refine TrL.assign rfl rfl ?_
  refine TrL.assign rfl rfl ?_
  refine TrL.nil (At.then_normal ?_)
  refine Tr.seq ?_
  refine Tr.region ?_
  refine TrL.load1 rfl rfl sc4 (Sees.cl1 (by repeat (first | with_reducible exact Pick.here | with_reducible apply Pick.there | with_reducible apply Pick.app_nil | with_reducible apply Pick.app_cons)) (by rfl)) ?_
  refine TrL.move rfl rfl ?_
  refine TrL.cases (t := 13) rfl (fun h13 => ?_) (fun h13 => ?_)
  · try simp only [beq_iff_eq, beq_eq_false_iff_ne, Bool.not_eq_true, Bool.not_eq_false, decide_eq_true_eq, decide_eq_false_iff_not, Bool.not_eq_true', Bool.not_eq_false', bne_iff_ne, Bool.not_eq_eq_eq_not, Bool.not_true, Bool.not_false, ne_eq, Decidable.not_not, Int.not_lt, Int.not_le] at h13
    refine TrL.want rfl rfl ?_
    refine TrL.move rfl rfl ?_
    refine TrL.want rfl rfl ?_
    refine TrL.eqi rfl rfl rfl ?_
    refine TrL.pickT rfl rfl rfl ?_
    refine TrL.store1 rfl rfl sz4 rfl (by repeat (first | with_reducible exact Upd.here | with_reducible apply Upd.there | with_reducible apply Upd.app_nil | with_reducible apply Upd.app_cons)) (by rfl) ?_
    refine TrL.nil (At.then_normal ?_)
    refine Tr.seq ?_
    refine Tr.region ?_
    refine TrL.load1 rfl rfl sc9 (Sees.cl1 (by repeat (first | with_reducible exact Pick.here | with_reducible apply Pick.there | with_reducible apply Pick.app_nil | with_reducible apply Pick.app_cons)) (by rfl)) ?_
    refine TrL.move rfl rfl ?_
    refine TrL.cutSL rfl rfl rfl st9 (by omega) (by rw [strOf_size]; omega) ?_
    rw [str_drop]
    refine TrL.store1 rfl rfl sz9 rfl (by repeat (first | with_reducible exact Upd.here | with_reducible apply Upd.there | with_reducible apply Upd.app_nil | with_reducible apply Upd.app_cons)) (by rfl) ?_
    refine TrL.nil (At.then_normal ?_)
    refine Tr.seq ?_
    refine Tr.region ?_
    refine TrL.move rfl rfl ?_
    refine TrL.assign rfl rfl ?_
    refine TrL.nil (At.then_normal ?_)
    refine Tr.ret (At.retP [cl bs [_] 9, cl bo [_] 4] (.inl rfl) rfl (Res.tmp rfl Res.nil) (by repeat (first | exact Picks.nil | with_reducible exact Pick.here | with_reducible apply Pick.there | with_reducible apply Pick.app_nil | with_reducible apply Pick.app_cons | apply Picks.cons)) (by 
        unfold txtR at hK
        simp only [h13, Bool.true_and, Bool.false_and] at hK
        exact hK))
  · try simp only [beq_iff_eq, beq_eq_false_iff_ne, Bool.not_eq_true, Bool.not_eq_false, decide_eq_true_eq, decide_eq_false_iff_not, Bool.not_eq_true', Bool.not_eq_false', bne_iff_ne, Bool.not_eq_eq_eq_not, Bool.not_true, Bool.not_false, ne_eq, Decidable.not_not, Int.not_lt, Int.not_le] at h13
    refine TrL.unwant rfl rfl rfl ?_
    refine TrL.unwant rfl rfl rfl ?_
    refine TrL.pickF rfl rfl rfl ?_
    refine TrL.store1 rfl rfl sz4 rfl (by repeat (first | with_reducible exact Upd.here | with_reducible apply Upd.there | with_reducible apply Upd.app_nil | with_reducible apply Upd.app_cons)) (by rfl) ?_
    refine TrL.nil (At.then_normal ?_)
    refine Tr.seq ?_
    refine Tr.region ?_
    refine TrL.load1 rfl rfl sc9 (Sees.cl1 (by repeat (first | with_reducible exact Pick.here | with_reducible apply Pick.there | with_reducible apply Pick.app_nil | with_reducible apply Pick.app_cons)) (by rfl)) ?_
    refine TrL.move rfl rfl ?_
    refine TrL.cutSL rfl rfl rfl st9 (by omega) (by rw [strOf_size]; omega) ?_
    rw [str_drop]
    refine TrL.store1 rfl rfl sz9 rfl (by repeat (first | with_reducible exact Upd.here | with_reducible apply Upd.there | with_reducible apply Upd.app_nil | with_reducible apply Upd.app_cons)) (by rfl) ?_
    refine TrL.nil (At.then_normal ?_)
    refine Tr.seq ?_
    refine Tr.region ?_
    refine TrL.move rfl rfl ?_
    refine TrL.assign rfl rfl ?_
    refine TrL.nil (At.then_normal ?_)
    refine Tr.ret (At.retP [cl bs [_] 9, cl bo [_] 4] (.inl rfl) rfl (Res.tmp rfl Res.nil) (by repeat (first | exact Picks.nil | with_reducible exact Pick.here | with_reducible apply Pick.there | with_reducible apply Pick.app_nil | with_reducible apply Pick.app_cons | apply Picks.cons)) (by 
        unfold txtR at hK
        simp only [h13, Bool.true_and, Bool.false_and] at hK
        exact hK))

/-- an edit that grows: its cells, its rows -/
def edG (b : Nat) (adds : List Tab) (drops : List Int) : HProp := fun h => ∃ x : (Option Addr × Nat) × (Option Addr × Nat), Stars [cl b [.slice x.1.1 adds.length x.1.2, .slice x.2.1 drops.length x.2.2, .int .i64 0, .int .i64 0] 25, Own 46 4 encT x.1.1 x.1.2 adds, Own 3 1 encI x.2.1 x.2.2 drops] h
theorem edG_close {b : Nat} {adds : List Tab} {drops : List Int} {pa pd : Option Addr} {ca cd : Nat} (h : Hp) (c : Stars [cl b [.slice pa adds.length ca, .slice pd drops.length cd, .int .i64 0, .int .i64 0] 25, Own 46 4 encT pa ca adds, Own 3 1 encI pd cd drops] h) : edG b adds drops h := ⟨((pa, ca), (pd, cd)), c⟩


theorem numR_len (st : Rd) : (numR st).2.2.length ≤ st.2.length := by simp [numR]
theorem txtR_len (st : Rd) : (txtR st).2.2.length ≤ st.2.length := by simp [txtR]
set_option maxHeartbeats 4000000 in
theorem tab1_spec {F : Hp} {K : Value → List HProp → Prop} {be bs bo bn bt : Nat} {adds : List Tab} {drops : List Int} {st : Rd} (hl : st.2.length ≤ 9223372036854775807) (ha : adds.length ≤ 1000) (hK : K (.tuple #[]) [edG be (adds ++ [(tabR st).1]) drops, sC bs (tabR st).2, okC bo (tabR st).2, cl bn [fnNum bs bo] 70, cl bt [fnTxt bs bo] 65]) :
    CallK Try.prog F 39 #[.pointer (some ⟨bn, 0, none⟩), .pointer (some ⟨bt, 0, none⟩), .pointer (some ⟨be, 0, none⟩)] [edG be adds drops, sC bs st, okC bo st, cl bn [fnNum bs bo] 70, cl bt [fnTxt bs bo] 65] K := by
  have l1 := numR_len st
  have l2 := numR_len (numR st).2
  have l3 := txtR_len (numR (numR st).2).2
  refine CallK.enter Try.func39 rfl Try.ntmps39 rfl ?_
  refine Tr.seq ?_
  refine Tr.cutK [0, 1, 2] (β := Nat) (fun b => [(3, .pointer (some ⟨b, 0, none⟩))]) (fun b => [cl b [.int .i64 (numR st).1, .int .i64 (numR (numR st).2).1, .string ⟨#[]⟩, .string ⟨#[]⟩] 46, edG be adds drops, sC bs (numR (numR st).2).2, okC bo (numR (numR st).2).2, cl bn [fnNum bs bo] 70, cl bt [fnTxt bs bo] 65]) (fun b => True) (by rfl) ?_ ?_
  · skip
    refine Tr.regionD [cl bn [fnNum bs bo] 70] mixed ?_
    refine TrD.take 0 rfl (by kernel_rfl) (by kernel_rfl) (by kernel_rfl) (by repeat (first | exact Picks.nil | with_reducible exact Pick.here | with_reducible apply Pick.there | with_reducible apply Pick.app_nil | with_reducible apply Pick.app_cons | apply Picks.cons)) ?_
    refine TrL.load1 rfl rfl sc70 (Sees.cl1 (by repeat (first | with_reducible exact Pick.here | with_reducible apply Pick.there | with_reducible apply Pick.app_nil | with_reducible apply Pick.app_cons)) (by rfl)) ?_
    refine TrL.nilTake (listed' := #[true, false, false, false, false, false, false]) (by kernel_rfl) ?_
    refine TrD.take 2 rfl (by kernel_rfl) (by kernel_rfl) (by kernel_rfl) (by repeat (first | exact Picks.nil | with_reducible exact Pick.here | with_reducible apply Pick.there | with_reducible apply Pick.app_nil | with_reducible apply Pick.app_cons | apply Picks.cons)) ?_
    refine TrL.load1 rfl rfl sc70 (Sees.cl1 (by repeat (first | with_reducible exact Pick.here | with_reducible apply Pick.there | with_reducible apply Pick.app_nil | with_reducible apply Pick.app_cons)) (by rfl)) ?_
    refine TrL.nilTake (listed' := #[true, false, true, false, false, false, false]) (by kernel_rfl) ?_
    refine TrD.all [1, 5] (by kernel_rfl) rfl ?_
    refine all_cons ⟨_, rfl, ?_⟩ ?_
    · skip
      refine TrL.callC rfl rfl rfl ca34 (by repeat (first | exact Picks.nil | with_reducible exact Pick.here | with_reducible apply Pick.there | with_reducible apply Pick.app_nil | with_reducible apply Pick.app_cons | apply Picks.cons)) (fun Ft5 hUt5 => num1_spec (st := st) hl ?_)
      refine TrL.nil (At.step (listed' := #[true, true, true, false, false, false, false]) (by kernel_rfl) (by repeat (first | exact Picks.nil | with_reducible exact Pick.here | with_reducible apply Pick.there | with_reducible apply Pick.app_nil | with_reducible apply Pick.app_cons | apply Picks.cons)) ?_)
      refine TrD.all [3, 5] (by kernel_rfl) rfl ?_
      refine all_cons ⟨_, rfl, ?_⟩ ?_
      · skip
        refine TrL.callC rfl rfl rfl ca34 (by repeat (first | exact Picks.nil | with_reducible exact Pick.here | with_reducible apply Pick.there | with_reducible apply Pick.app_nil | with_reducible apply Pick.app_cons | apply Picks.cons)) (fun Ft7 hUt7 => num1_spec (st := (numR st).2) (by omega) ?_)
        refine TrL.nil (At.step (listed' := #[true, true, true, true, false, false, false]) (by kernel_rfl) (by repeat (first | exact Picks.nil | with_reducible exact Pick.here | with_reducible apply Pick.there | with_reducible apply Pick.app_nil | with_reducible apply Pick.app_cons | apply Picks.cons)) ?_)
        refine TrD.take 4 rfl (by kernel_rfl) (by kernel_rfl) (by kernel_rfl) (by repeat (first | exact Picks.nil | with_reducible exact Pick.here | with_reducible apply Pick.there | with_reducible apply Pick.app_nil | with_reducible apply Pick.app_cons | apply Picks.cons)) ?_
        refine TrL.build rfl rfl pl46 zc46 rfl ?_
        refine TrL.nilTake (listed' := #[true, true, true, true, true, false, false]) (by kernel_rfl) ?_
        refine TrD.all [5] (by kernel_rfl) rfl ?_
        refine all_cons ⟨_, rfl, ?_⟩ all_nil
        refine TrL.alloc rfl zc46 (fun b3 => ?_)
        --L:b3
        refine TrL.nil (At.step (listed' := #[true, true, true, true, true, true, false]) (by kernel_rfl) (by repeat (first | exact Picks.nil | with_reducible exact Pick.here | with_reducible apply Pick.there | with_reducible apply Pick.app_nil | with_reducible apply Pick.app_cons | apply Picks.cons)) ?_)
        refine TrD.all [6] (by kernel_rfl) rfl ?_
        refine all_cons ⟨_, rfl, ?_⟩ all_nil
        refine TrL.storeLA rfl rfl sz46 ⟨rfl, List.cons_ne_nil _ _⟩ rfl (by repeat (first | with_reducible exact Upd.here | with_reducible apply Upd.there | with_reducible apply Upd.app_nil | with_reducible apply Upd.app_cons)) (by rfl) ?_
        refine TrL.nil (At.step (listed' := #[true, true, true, true, true, true, true]) (by kernel_rfl) (by repeat (first | exact Picks.nil | with_reducible exact Pick.here | with_reducible apply Pick.there | with_reducible apply Pick.app_nil | with_reducible apply Pick.app_cons | apply Picks.cons)) ?_)
        refine TrD.done (by kernel_rfl) ?_
        refine At.meetK b3 trivial (by repeat (first | exact Sub.nil | refine Sub.cons (by rfl) ?_)) (by repeat (first | exact Picks.nil | with_reducible exact Pick.here | with_reducible apply Pick.there | with_reducible apply Pick.app_nil | with_reducible apply Pick.app_cons | apply Picks.cons))
      refine all_cons ⟨_, rfl, ?_⟩ ?_
      · skip
        refine TrL.alloc rfl zc46 (fun b3 => ?_)
        --L:b3
        refine TrL.nil (At.step (listed' := #[true, true, true, false, false, true, false]) (by kernel_rfl) (by repeat (first | exact Picks.nil | with_reducible exact Pick.here | with_reducible apply Pick.there | with_reducible apply Pick.app_nil | with_reducible apply Pick.app_cons | apply Picks.cons)) ?_)
        refine TrD.all [3] (by kernel_rfl) rfl ?_
        refine all_cons ⟨_, rfl, ?_⟩ all_nil
        refine TrL.callC rfl rfl rfl ca34 (by repeat (first | exact Picks.nil | with_reducible exact Pick.here | with_reducible apply Pick.there | with_reducible apply Pick.app_nil | with_reducible apply Pick.app_cons | apply Picks.cons)) (fun Ft7 hUt7 => num1_spec (st := (numR st).2) (by omega) ?_)
        refine TrL.nil (At.step (listed' := #[true, true, true, true, false, true, false]) (by kernel_rfl) (by repeat (first | exact Picks.nil | with_reducible exact Pick.here | with_reducible apply Pick.there | with_reducible apply Pick.app_nil | with_reducible apply Pick.app_cons | apply Picks.cons)) ?_)
        refine TrD.take 4 rfl (by kernel_rfl) (by kernel_rfl) (by kernel_rfl) (by repeat (first | exact Picks.nil | with_reducible exact Pick.here | with_reducible apply Pick.there | with_reducible apply Pick.app_nil | with_reducible apply Pick.app_cons | apply Picks.cons)) ?_
        refine TrL.build rfl rfl pl46 zc46 rfl ?_
        refine TrL.nilTake (listed' := #[true, true, true, true, true, true, false]) (by kernel_rfl) ?_
        refine TrD.all [6] (by kernel_rfl) rfl ?_
        refine all_cons ⟨_, rfl, ?_⟩ all_nil
        refine TrL.storeLA rfl rfl sz46 ⟨rfl, List.cons_ne_nil _ _⟩ rfl (by repeat (first | with_reducible exact Upd.here | with_reducible apply Upd.there | with_reducible apply Upd.app_nil | with_reducible apply Upd.app_cons)) (by rfl) ?_
        refine TrL.nil (At.step (listed' := #[true, true, true, true, true, true, true]) (by kernel_rfl) (by repeat (first | exact Picks.nil | with_reducible exact Pick.here | with_reducible apply Pick.there | with_reducible apply Pick.app_nil | with_reducible apply Pick.app_cons | apply Picks.cons)) ?_)
        refine TrD.done (by kernel_rfl) ?_
        refine At.meetK b3 trivial (by repeat (first | exact Sub.nil | refine Sub.cons (by rfl) ?_)) (by repeat (first | exact Picks.nil | with_reducible exact Pick.here | with_reducible apply Pick.there | with_reducible apply Pick.app_nil | with_reducible apply Pick.app_cons | apply Picks.cons))
      exact all_nil
    refine all_cons ⟨_, rfl, ?_⟩ ?_
    · skip
      refine TrL.alloc rfl zc46 (fun b3 => ?_)
      --L:b3
      refine TrL.nil (At.step (listed' := #[true, false, true, false, false, true, false]) (by kernel_rfl) (by repeat (first | exact Picks.nil | with_reducible exact Pick.here | with_reducible apply Pick.there | with_reducible apply Pick.app_nil | with_reducible apply Pick.app_cons | apply Picks.cons)) ?_)
      refine TrD.all [1] (by kernel_rfl) rfl ?_
      refine all_cons ⟨_, rfl, ?_⟩ all_nil
      refine TrL.callC rfl rfl rfl ca34 (by repeat (first | exact Picks.nil | with_reducible exact Pick.here | with_reducible apply Pick.there | with_reducible apply Pick.app_nil | with_reducible apply Pick.app_cons | apply Picks.cons)) (fun Ft5 hUt5 => num1_spec (st := st) hl ?_)
      refine TrL.nil (At.step (listed' := #[true, true, true, false, false, true, false]) (by kernel_rfl) (by repeat (first | exact Picks.nil | with_reducible exact Pick.here | with_reducible apply Pick.there | with_reducible apply Pick.app_nil | with_reducible apply Pick.app_cons | apply Picks.cons)) ?_)
      refine TrD.all [3] (by kernel_rfl) rfl ?_
      refine all_cons ⟨_, rfl, ?_⟩ all_nil
      refine TrL.callC rfl rfl rfl ca34 (by repeat (first | exact Picks.nil | with_reducible exact Pick.here | with_reducible apply Pick.there | with_reducible apply Pick.app_nil | with_reducible apply Pick.app_cons | apply Picks.cons)) (fun Ft7 hUt7 => num1_spec (st := (numR st).2) (by omega) ?_)
      refine TrL.nil (At.step (listed' := #[true, true, true, true, false, true, false]) (by kernel_rfl) (by repeat (first | exact Picks.nil | with_reducible exact Pick.here | with_reducible apply Pick.there | with_reducible apply Pick.app_nil | with_reducible apply Pick.app_cons | apply Picks.cons)) ?_)
      refine TrD.take 4 rfl (by kernel_rfl) (by kernel_rfl) (by kernel_rfl) (by repeat (first | exact Picks.nil | with_reducible exact Pick.here | with_reducible apply Pick.there | with_reducible apply Pick.app_nil | with_reducible apply Pick.app_cons | apply Picks.cons)) ?_
      refine TrL.build rfl rfl pl46 zc46 rfl ?_
      refine TrL.nilTake (listed' := #[true, true, true, true, true, true, false]) (by kernel_rfl) ?_
      refine TrD.all [6] (by kernel_rfl) rfl ?_
      refine all_cons ⟨_, rfl, ?_⟩ all_nil
      refine TrL.storeLA rfl rfl sz46 ⟨rfl, List.cons_ne_nil _ _⟩ rfl (by repeat (first | with_reducible exact Upd.here | with_reducible apply Upd.there | with_reducible apply Upd.app_nil | with_reducible apply Upd.app_cons)) (by rfl) ?_
      refine TrL.nil (At.step (listed' := #[true, true, true, true, true, true, true]) (by kernel_rfl) (by repeat (first | exact Picks.nil | with_reducible exact Pick.here | with_reducible apply Pick.there | with_reducible apply Pick.app_nil | with_reducible apply Pick.app_cons | apply Picks.cons)) ?_)
      refine TrD.done (by kernel_rfl) ?_
      refine At.meetK b3 trivial (by repeat (first | exact Sub.nil | refine Sub.cons (by rfl) ?_)) (by repeat (first | exact Picks.nil | with_reducible exact Pick.here | with_reducible apply Pick.there | with_reducible apply Pick.app_nil | with_reducible apply Pick.app_cons | apply Picks.cons))
    exact all_nil
  · skip
    rintro b3 -
    refine Tr.seq ?_
    refine Tr.regionD [cl bt [fnTxt bs bo] 65] mixed ?_
    refine TrD.take 0 rfl (by kernel_rfl) (by kernel_rfl) (by kernel_rfl) (by repeat (first | exact Picks.nil | with_reducible exact Pick.here | with_reducible apply Pick.there | with_reducible apply Pick.app_nil | with_reducible apply Pick.app_cons | apply Picks.cons)) ?_
    refine TrL.load1 rfl rfl sc65 (Sees.cl1 (by repeat (first | with_reducible exact Pick.here | with_reducible apply Pick.there | with_reducible apply Pick.app_nil | with_reducible apply Pick.app_cons)) (by rfl)) ?_
    refine TrL.nilTake (listed' := #[true, false, false, false, false, false, false, false]) (by kernel_rfl) ?_
    refine TrD.take 2 rfl (by kernel_rfl) (by kernel_rfl) (by kernel_rfl) (by repeat (first | exact Picks.nil | with_reducible exact Pick.here | with_reducible apply Pick.there | with_reducible apply Pick.app_nil | with_reducible apply Pick.app_cons | apply Picks.cons)) ?_
    refine TrL.load1 rfl rfl sc65 (Sees.cl1 (by repeat (first | with_reducible exact Pick.here | with_reducible apply Pick.there | with_reducible apply Pick.app_nil | with_reducible apply Pick.app_cons)) (by rfl)) ?_
    refine TrL.nilTake (listed' := #[true, false, true, false, false, false, false, false]) (by kernel_rfl) ?_
    refine TrD.all [1] (by kernel_rfl) rfl ?_
    refine all_cons ⟨_, rfl, ?_⟩ all_nil
    refine TrL.callC rfl rfl rfl ca36 (by repeat (first | exact Picks.nil | with_reducible exact Pick.here | with_reducible apply Pick.there | with_reducible apply Pick.app_nil | with_reducible apply Pick.app_cons | apply Picks.cons)) (fun Ft10 hUt10 => txt1_spec (st := (numR (numR st).2).2) (by omega) ?_)
    refine TrL.nil (At.step (listed' := #[true, true, true, false, false, false, false, false]) (by kernel_rfl) (by repeat (first | exact Picks.nil | with_reducible exact Pick.here | with_reducible apply Pick.there | with_reducible apply Pick.app_nil | with_reducible apply Pick.app_cons | apply Picks.cons)) ?_)
    refine TrD.take 4 rfl (by kernel_rfl) (by kernel_rfl) (by kernel_rfl) (by repeat (first | exact Picks.nil | with_reducible exact Pick.here | with_reducible apply Pick.there | with_reducible apply Pick.app_nil | with_reducible apply Pick.app_cons | apply Picks.cons)) ?_
    refine TrL.field rfl rfl fl46_2 ?_
    refine TrL.nilTake (listed' := #[true, true, true, false, true, false, false, false]) (by kernel_rfl) ?_
    refine TrD.all [3] (by kernel_rfl) rfl ?_
    refine all_cons ⟨_, rfl, ?_⟩ all_nil
    refine TrL.callC rfl rfl rfl ca36 (by repeat (first | exact Picks.nil | with_reducible exact Pick.here | with_reducible apply Pick.there | with_reducible apply Pick.app_nil | with_reducible apply Pick.app_cons | apply Picks.cons)) (fun Ft12 hUt12 => txt1_spec (st := (txtR (numR (numR st).2).2).2) (by omega) ?_)
    refine TrL.nil (At.step (listed' := #[true, true, true, true, true, false, false, false]) (by kernel_rfl) (by repeat (first | exact Picks.nil | with_reducible exact Pick.here | with_reducible apply Pick.there | with_reducible apply Pick.app_nil | with_reducible apply Pick.app_cons | apply Picks.cons)) ?_)
    refine TrD.all [5] (by kernel_rfl) rfl ?_
    refine all_cons ⟨_, rfl, ?_⟩ all_nil
    refine TrL.store1 rfl rfl sz9 rfl (by repeat (first | with_reducible exact Upd.here | with_reducible apply Upd.there | with_reducible apply Upd.app_nil | with_reducible apply Upd.app_cons)) (by rfl) ?_
    refine TrL.nil (At.step (listed' := #[true, true, true, true, true, true, false, false]) (by kernel_rfl) (by repeat (first | exact Picks.nil | with_reducible exact Pick.here | with_reducible apply Pick.there | with_reducible apply Pick.app_nil | with_reducible apply Pick.app_cons | apply Picks.cons)) ?_)
    refine TrD.take 6 rfl (by kernel_rfl) (by kernel_rfl) (by kernel_rfl) (by repeat (first | exact Picks.nil | with_reducible exact Pick.here | with_reducible apply Pick.there | with_reducible apply Pick.app_nil | with_reducible apply Pick.app_cons | apply Picks.cons)) ?_
    refine TrL.field rfl rfl fl46_3 ?_
    refine TrL.nilTake (listed' := #[true, true, true, true, true, true, true, false]) (by kernel_rfl) ?_
    refine TrD.all [7] (by kernel_rfl) rfl ?_
    refine all_cons ⟨_, rfl, ?_⟩ all_nil
    refine TrL.store1 rfl rfl sz9 rfl (by repeat (first | with_reducible exact Upd.here | with_reducible apply Upd.there | with_reducible apply Upd.app_nil | with_reducible apply Upd.app_cons)) (by rfl) ?_
    refine TrL.nil (At.step (listed' := #[true, true, true, true, true, true, true, true]) (by kernel_rfl) (by repeat (first | exact Picks.nil | with_reducible exact Pick.here | with_reducible apply Pick.there | with_reducible apply Pick.app_nil | with_reducible apply Pick.app_cons | apply Picks.cons)) ?_)
    refine TrD.done (by kernel_rfl) (At.then_normal ?_)
    refine Tr.openE (ch := edG be adds drops) (by repeat (first | with_reducible exact Pick.here | with_reducible apply Pick.there | with_reducible apply Pick.app_nil | with_reducible apply Pick.app_cons)) (fun h hc => hc) ?_
    rintro ⟨⟨pa, ca⟩, ⟨pd, cd⟩⟩
    dsimp only
    refine Tr.region ?_
    refine TrL.field0 rfl rfl fl25_0 ?_
    --L:be
    refine TrL.load1 rfl rfl sc22 (Sees.cl1 (by repeat (first | with_reducible exact Pick.here | with_reducible apply Pick.there | with_reducible apply Pick.app_nil | with_reducible apply Pick.app_cons)) (by rfl)) ?_
    refine TrL.loadLA rfl rfl ag46 sz46 (by repeat (first | with_reducible exact Pick.here | with_reducible apply Pick.there | with_reducible apply Pick.app_nil | with_reducible apply Pick.app_cons)) (by rfl) ?_
    refine TrL.buildSlA rfl rfl se22 sz46 zc46 rfl rfl rfl (fun b18 => ?_)
    refine TrL.append1 (v := (tabR st).1) rfl rfl se22 sz46 by46 zc46 rfl (by decide) (by repeat (first | with_reducible exact Pick.here | with_reducible apply Pick.there | with_reducible apply Pick.app_nil | with_reducible apply Pick.app_cons)) (by repeat (first | with_reducible exact Pick.here | with_reducible apply Pick.there | with_reducible apply Pick.app_nil | with_reducible apply Pick.app_cons)) (by rfl) (by rfl) (by rfl) (by rfl) (by decide) (by omega) (fun p19 cap19 => ?_)
    refine TrL.field0 rfl rfl fl25_0 ?_
    --L:be
    refine TrL.store1 rfl rfl sz22 rfl (by repeat (first | with_reducible exact Upd.here | with_reducible apply Upd.there | with_reducible apply Upd.app_nil | with_reducible apply Upd.app_cons)) (by rfl) ?_
    refine TrL.nil (At.retX [cl be [.slice p19 (adds ++ [(tabR st).1]).length cap19, .slice pd drops.length cd, .int .i64 0, .int .i64 0] 25, Own 46 4 encT p19 cap19 (adds ++ [(tabR st).1]), Own 3 1 encI pd cd drops, sC bs (txtR (txtR (numR (numR st).2).2).2).2, okC bo (txtR (txtR (numR (numR st).2).2).2).2, cl bn [fnNum bs bo] 70, cl bt [fnTxt bs bo] 65] (.inr rfl) rfl Res.nil (by repeat (first | exact Picks.nil | with_reducible exact Pick.here | with_reducible apply Pick.there | with_reducible apply Pick.app_nil | with_reducible apply Pick.app_cons | apply Picks.cons)) (by exact ⟨_, fun h hs => Stars.close_ (cs := [_, _, _]) (.cons .here (.cons .here (.cons .here .nil))) (fun g hg => edG_close g hg) hs, hK⟩))

set_option maxHeartbeats 4000000 in
theorem drop1_spec {F : Hp} {K : Value → List HProp → Prop} {be bs bo bn bt : Nat} {adds : List Tab} {drops : List Int} {st : Rd} (hl : st.2.length ≤ 9223372036854775807) (ha : drops.length ≤ 1000) (hK : K (.tuple #[]) [edG be adds (drops ++ [(numR st).1]), sC bs (numR st).2, okC bo (numR st).2, cl bn [fnNum bs bo] 70, cl bt [fnTxt bs bo] 65]) :
    CallK Try.prog F 40 #[.pointer (some ⟨be, 0, none⟩), .pointer (some ⟨bn, 0, none⟩)] [edG be adds drops, sC bs st, okC bo st, cl bn [fnNum bs bo] 70, cl bt [fnTxt bs bo] 65] K := by
  refine CallK.enter Try.func40 rfl Try.ntmps40 rfl ?_
  refine Tr.openE (ch := edG be adds drops) (by repeat (first | with_reducible exact Pick.here | with_reducible apply Pick.there | with_reducible apply Pick.app_nil | with_reducible apply Pick.app_cons)) (fun h hc => hc) ?_
  rintro ⟨⟨pa, ca⟩, ⟨pd, cd⟩⟩
  dsimp only
  refine Tr.regionD [cl bn [fnNum bs bo] 70] mixed ?_
  refine TrD.take 0 rfl (by kernel_rfl) (by kernel_rfl) (by kernel_rfl) (by repeat (first | exact Picks.nil | with_reducible exact Pick.here | with_reducible apply Pick.there | with_reducible apply Pick.app_nil | with_reducible apply Pick.app_cons | apply Picks.cons)) ?_
  refine TrL.field rfl rfl fl25_1 ?_
  refine TrL.nilTake (listed' := #[true, false, false, false, false, false, false, false]) (by kernel_rfl) ?_
  refine TrD.take 2 rfl (by kernel_rfl) (by kernel_rfl) (by kernel_rfl) (by repeat (first | exact Picks.nil | with_reducible exact Pick.here | with_reducible apply Pick.there | with_reducible apply Pick.app_nil | with_reducible apply Pick.app_cons | apply Picks.cons)) ?_
  refine TrL.load1 rfl rfl sc70 (Sees.cl1 (by repeat (first | with_reducible exact Pick.here | with_reducible apply Pick.there | with_reducible apply Pick.app_nil | with_reducible apply Pick.app_cons)) (by rfl)) ?_
  refine TrL.nilTake (listed' := #[true, false, true, false, false, false, false, false]) (by kernel_rfl) ?_
  refine TrD.all [1, 3] (by kernel_rfl) rfl ?_
  refine all_cons ⟨_, rfl, ?_⟩ ?_
  · skip
    refine TrL.load1 rfl rfl sc23 (Sees.cl1 (by repeat (first | with_reducible exact Pick.here | with_reducible apply Pick.there | with_reducible apply Pick.app_nil | with_reducible apply Pick.app_cons)) (by rfl)) ?_
    refine TrL.nil (At.step (listed' := #[true, true, true, false, false, false, false, false]) (by kernel_rfl) (by repeat (first | exact Picks.nil | with_reducible exact Pick.here | with_reducible apply Pick.there | with_reducible apply Pick.app_nil | with_reducible apply Pick.app_cons | apply Picks.cons)) ?_)
    refine TrD.all [3] (by kernel_rfl) rfl ?_
    refine all_cons ⟨_, rfl, ?_⟩ all_nil
    refine TrL.callC rfl rfl rfl ca34 (by repeat (first | exact Picks.nil | with_reducible exact Pick.here | with_reducible apply Pick.there | with_reducible apply Pick.app_nil | with_reducible apply Pick.app_cons | apply Picks.cons)) (fun Ft5 hUt5 => num1_spec (st := st) hl ?_)
    refine TrL.nil (At.step (listed' := #[true, true, true, true, false, false, false, false]) (by kernel_rfl) (by repeat (first | exact Picks.nil | with_reducible exact Pick.here | with_reducible apply Pick.there | with_reducible apply Pick.app_nil | with_reducible apply Pick.app_cons | apply Picks.cons)) ?_)
    refine TrD.all [4] (by kernel_rfl) rfl ?_
    refine all_cons ⟨_, rfl, ?_⟩ all_nil
    refine TrL.buildSlF rfl rfl rfl se23 sz3 zc3 rfl rfl rfl (fun b6 => ?_)
    refine TrL.nil (At.step (listed' := #[true, true, true, true, true, false, false, false]) (by kernel_rfl) (by repeat (first | exact Picks.nil | with_reducible exact Pick.here | with_reducible apply Pick.there | with_reducible apply Pick.app_nil | with_reducible apply Pick.app_cons | apply Picks.cons)) ?_)
    refine TrD.all [5] (by kernel_rfl) rfl ?_
    refine all_cons ⟨_, rfl, ?_⟩ all_nil
    refine TrL.append1 (v := (numR st).1) rfl rfl se23 sz3 by3 zc3 rfl (by decide) (by repeat (first | with_reducible exact Pick.here | with_reducible apply Pick.there | with_reducible apply Pick.app_nil | with_reducible apply Pick.app_cons)) (by repeat (first | with_reducible exact Pick.here | with_reducible apply Pick.there | with_reducible apply Pick.app_nil | with_reducible apply Pick.app_cons)) (by rfl) (by rfl) (by rfl) (by rfl) (by decide) (by omega) (fun p7 cap7 => ?_)
    refine TrL.nil (At.step (listed' := #[true, true, true, true, true, true, false, false]) (by kernel_rfl) (by repeat (first | exact Picks.nil | with_reducible exact Pick.here | with_reducible apply Pick.there | with_reducible apply Pick.app_nil | with_reducible apply Pick.app_cons | apply Picks.cons)) ?_)
    refine TrD.take 6 rfl (by kernel_rfl) (by kernel_rfl) (by kernel_rfl) (by repeat (first | exact Picks.nil | with_reducible exact Pick.here | with_reducible apply Pick.there | with_reducible apply Pick.app_nil | with_reducible apply Pick.app_cons | apply Picks.cons)) ?_
    refine TrL.field rfl rfl fl25_1 ?_
    refine TrL.nilTake (listed' := #[true, true, true, true, true, true, true, false]) (by kernel_rfl) ?_
    refine TrD.all [7] (by kernel_rfl) rfl ?_
    refine all_cons ⟨_, rfl, ?_⟩ all_nil
    refine TrL.store1 rfl rfl sz23 rfl (by repeat (first | with_reducible exact Upd.here | with_reducible apply Upd.there | with_reducible apply Upd.app_nil | with_reducible apply Upd.app_cons)) (by rfl) ?_
    refine TrL.nil (At.step (listed' := #[true, true, true, true, true, true, true, true]) (by kernel_rfl) (by repeat (first | exact Picks.nil | with_reducible exact Pick.here | with_reducible apply Pick.there | with_reducible apply Pick.app_nil | with_reducible apply Pick.app_cons | apply Picks.cons)) ?_)
    refine TrD.done (by kernel_rfl) (At.retX [cl be [.slice pa adds.length ca, .slice p7 (drops ++ [(numR st).1]).length cap7, .int .i64 0, .int .i64 0] 25, Own 46 4 encT pa ca adds, Own 3 1 encI p7 cap7 (drops ++ [(numR st).1]), sC bs (numR st).2, okC bo (numR st).2, cl bn [fnNum bs bo] 70, cl bt [fnTxt bs bo] 65] (.inr rfl) rfl Res.nil (by repeat (first | exact Picks.nil | with_reducible exact Pick.here | with_reducible apply Pick.there | with_reducible apply Pick.app_nil | with_reducible apply Pick.app_cons | apply Picks.cons)) (by exact ⟨_, fun h hs => Stars.close_ (cs := [_, _, _]) (.cons .here (.cons .here (.cons .here .nil))) (fun g hg => edG_close g hg) hs, hK⟩))
  refine all_cons ⟨_, rfl, ?_⟩ ?_
  · skip
    refine TrL.callC rfl rfl rfl ca34 (by repeat (first | exact Picks.nil | with_reducible exact Pick.here | with_reducible apply Pick.there | with_reducible apply Pick.app_nil | with_reducible apply Pick.app_cons | apply Picks.cons)) (fun Ft5 hUt5 => num1_spec (st := st) hl ?_)
    refine TrL.nil (At.step (listed' := #[true, false, true, true, false, false, false, false]) (by kernel_rfl) (by repeat (first | exact Picks.nil | with_reducible exact Pick.here | with_reducible apply Pick.there | with_reducible apply Pick.app_nil | with_reducible apply Pick.app_cons | apply Picks.cons)) ?_)
    refine TrD.all [1, 4] (by kernel_rfl) rfl ?_
    refine all_cons ⟨_, rfl, ?_⟩ ?_
    · skip
      refine TrL.load1 rfl rfl sc23 (Sees.cl1 (by repeat (first | with_reducible exact Pick.here | with_reducible apply Pick.there | with_reducible apply Pick.app_nil | with_reducible apply Pick.app_cons)) (by rfl)) ?_
      refine TrL.nil (At.step (listed' := #[true, true, true, true, false, false, false, false]) (by kernel_rfl) (by repeat (first | exact Picks.nil | with_reducible exact Pick.here | with_reducible apply Pick.there | with_reducible apply Pick.app_nil | with_reducible apply Pick.app_cons | apply Picks.cons)) ?_)
      refine TrD.all [4] (by kernel_rfl) rfl ?_
      refine all_cons ⟨_, rfl, ?_⟩ all_nil
      refine TrL.buildSlF rfl rfl rfl se23 sz3 zc3 rfl rfl rfl (fun b6 => ?_)
      refine TrL.nil (At.step (listed' := #[true, true, true, true, true, false, false, false]) (by kernel_rfl) (by repeat (first | exact Picks.nil | with_reducible exact Pick.here | with_reducible apply Pick.there | with_reducible apply Pick.app_nil | with_reducible apply Pick.app_cons | apply Picks.cons)) ?_)
      refine TrD.all [5] (by kernel_rfl) rfl ?_
      refine all_cons ⟨_, rfl, ?_⟩ all_nil
      refine TrL.append1 (v := (numR st).1) rfl rfl se23 sz3 by3 zc3 rfl (by decide) (by repeat (first | with_reducible exact Pick.here | with_reducible apply Pick.there | with_reducible apply Pick.app_nil | with_reducible apply Pick.app_cons)) (by repeat (first | with_reducible exact Pick.here | with_reducible apply Pick.there | with_reducible apply Pick.app_nil | with_reducible apply Pick.app_cons)) (by rfl) (by rfl) (by rfl) (by rfl) (by decide) (by omega) (fun p7 cap7 => ?_)
      refine TrL.nil (At.step (listed' := #[true, true, true, true, true, true, false, false]) (by kernel_rfl) (by repeat (first | exact Picks.nil | with_reducible exact Pick.here | with_reducible apply Pick.there | with_reducible apply Pick.app_nil | with_reducible apply Pick.app_cons | apply Picks.cons)) ?_)
      refine TrD.take 6 rfl (by kernel_rfl) (by kernel_rfl) (by kernel_rfl) (by repeat (first | exact Picks.nil | with_reducible exact Pick.here | with_reducible apply Pick.there | with_reducible apply Pick.app_nil | with_reducible apply Pick.app_cons | apply Picks.cons)) ?_
      refine TrL.field rfl rfl fl25_1 ?_
      refine TrL.nilTake (listed' := #[true, true, true, true, true, true, true, false]) (by kernel_rfl) ?_
      refine TrD.all [7] (by kernel_rfl) rfl ?_
      refine all_cons ⟨_, rfl, ?_⟩ all_nil
      refine TrL.store1 rfl rfl sz23 rfl (by repeat (first | with_reducible exact Upd.here | with_reducible apply Upd.there | with_reducible apply Upd.app_nil | with_reducible apply Upd.app_cons)) (by rfl) ?_
      refine TrL.nil (At.step (listed' := #[true, true, true, true, true, true, true, true]) (by kernel_rfl) (by repeat (first | exact Picks.nil | with_reducible exact Pick.here | with_reducible apply Pick.there | with_reducible apply Pick.app_nil | with_reducible apply Pick.app_cons | apply Picks.cons)) ?_)
      refine TrD.done (by kernel_rfl) (At.retX [cl be [.slice pa adds.length ca, .slice p7 (drops ++ [(numR st).1]).length cap7, .int .i64 0, .int .i64 0] 25, Own 46 4 encT pa ca adds, Own 3 1 encI p7 cap7 (drops ++ [(numR st).1]), sC bs (numR st).2, okC bo (numR st).2, cl bn [fnNum bs bo] 70, cl bt [fnTxt bs bo] 65] (.inr rfl) rfl Res.nil (by repeat (first | exact Picks.nil | with_reducible exact Pick.here | with_reducible apply Pick.there | with_reducible apply Pick.app_nil | with_reducible apply Pick.app_cons | apply Picks.cons)) (by exact ⟨_, fun h hs => Stars.close_ (cs := [_, _, _]) (.cons .here (.cons .here (.cons .here .nil))) (fun g hg => edG_close g hg) hs, hK⟩))
    refine all_cons ⟨_, rfl, ?_⟩ ?_
    · skip
      refine TrL.buildSlF rfl rfl rfl se23 sz3 zc3 rfl rfl rfl (fun b6 => ?_)
      refine TrL.nil (At.step (listed' := #[true, false, true, true, true, false, false, false]) (by kernel_rfl) (by repeat (first | exact Picks.nil | with_reducible exact Pick.here | with_reducible apply Pick.there | with_reducible apply Pick.app_nil | with_reducible apply Pick.app_cons | apply Picks.cons)) ?_)
      refine TrD.all [1] (by kernel_rfl) rfl ?_
      refine all_cons ⟨_, rfl, ?_⟩ all_nil
      refine TrL.load1 rfl rfl sc23 (Sees.cl1 (by repeat (first | with_reducible exact Pick.here | with_reducible apply Pick.there | with_reducible apply Pick.app_nil | with_reducible apply Pick.app_cons)) (by rfl)) ?_
      refine TrL.nil (At.step (listed' := #[true, true, true, true, true, false, false, false]) (by kernel_rfl) (by repeat (first | exact Picks.nil | with_reducible exact Pick.here | with_reducible apply Pick.there | with_reducible apply Pick.app_nil | with_reducible apply Pick.app_cons | apply Picks.cons)) ?_)
      refine TrD.all [5] (by kernel_rfl) rfl ?_
      refine all_cons ⟨_, rfl, ?_⟩ all_nil
      refine TrL.append1 (v := (numR st).1) rfl rfl se23 sz3 by3 zc3 rfl (by decide) (by repeat (first | with_reducible exact Pick.here | with_reducible apply Pick.there | with_reducible apply Pick.app_nil | with_reducible apply Pick.app_cons)) (by repeat (first | with_reducible exact Pick.here | with_reducible apply Pick.there | with_reducible apply Pick.app_nil | with_reducible apply Pick.app_cons)) (by rfl) (by rfl) (by rfl) (by rfl) (by decide) (by omega) (fun p7 cap7 => ?_)
      refine TrL.nil (At.step (listed' := #[true, true, true, true, true, true, false, false]) (by kernel_rfl) (by repeat (first | exact Picks.nil | with_reducible exact Pick.here | with_reducible apply Pick.there | with_reducible apply Pick.app_nil | with_reducible apply Pick.app_cons | apply Picks.cons)) ?_)
      refine TrD.take 6 rfl (by kernel_rfl) (by kernel_rfl) (by kernel_rfl) (by repeat (first | exact Picks.nil | with_reducible exact Pick.here | with_reducible apply Pick.there | with_reducible apply Pick.app_nil | with_reducible apply Pick.app_cons | apply Picks.cons)) ?_
      refine TrL.field rfl rfl fl25_1 ?_
      refine TrL.nilTake (listed' := #[true, true, true, true, true, true, true, false]) (by kernel_rfl) ?_
      refine TrD.all [7] (by kernel_rfl) rfl ?_
      refine all_cons ⟨_, rfl, ?_⟩ all_nil
      refine TrL.store1 rfl rfl sz23 rfl (by repeat (first | with_reducible exact Upd.here | with_reducible apply Upd.there | with_reducible apply Upd.app_nil | with_reducible apply Upd.app_cons)) (by rfl) ?_
      refine TrL.nil (At.step (listed' := #[true, true, true, true, true, true, true, true]) (by kernel_rfl) (by repeat (first | exact Picks.nil | with_reducible exact Pick.here | with_reducible apply Pick.there | with_reducible apply Pick.app_nil | with_reducible apply Pick.app_cons | apply Picks.cons)) ?_)
      refine TrD.done (by kernel_rfl) (At.retX [cl be [.slice pa adds.length ca, .slice p7 (drops ++ [(numR st).1]).length cap7, .int .i64 0, .int .i64 0] 25, Own 46 4 encT pa ca adds, Own 3 1 encI p7 cap7 (drops ++ [(numR st).1]), sC bs (numR st).2, okC bo (numR st).2, cl bn [fnNum bs bo] 70, cl bt [fnTxt bs bo] 65] (.inr rfl) rfl Res.nil (by repeat (first | exact Picks.nil | with_reducible exact Pick.here | with_reducible apply Pick.there | with_reducible apply Pick.app_nil | with_reducible apply Pick.app_cons | apply Picks.cons)) (by exact ⟨_, fun h hs => Stars.close_ (cs := [_, _, _]) (.cons .here (.cons .here (.cons .here .nil))) (fun g hg => edG_close g hg) hs, hK⟩))
    exact all_nil
  exact all_nil

theorem rdL_succ {α : Type} (one : Rd → α × Rd) {k n : Nat} {st : Rd} {l : List α} (h : k < n) (hs : st.1 = true) : rdL one (n - k) st l = rdL one (n - (k + 1)) (one st).2 (l ++ [(one st).1]) := by
  rw [show n - k = (n - (k + 1)) + 1 by omega, rdL, if_pos hs]
set_option maxHeartbeats 4000000 in
theorem many_spec {F : Hp} {K : Value → List HProp → Prop} {α : Type} {one : Rd → α × Rd} {G : List α → HProp} {bs bo bn bt : Nat} {g : FuncId} {cap : List Value} {st : Rd}
    (hone : ∀ (F : Hp) (K : Value → List HProp → Prop) (l : List α) (st : Rd), st.2.length ≤ 9223372036854775807 → l.length ≤ 1000 → K (.tuple #[]) [G (l ++ [(one st).1]), sC bs (one st).2, okC bo (one st).2, cl bn [fnNum bs bo] 70, cl bt [fnTxt bs bo] 65] → CallK Try.prog F g cap.toArray [G l, sC bs st, okC bo st, cl bn [fnNum bs bo] 70, cl bt [fnTxt bs bo] 65] K)
    (hmono : ∀ st : Rd, (one st).2.2.length ≤ st.2.length) (hbad : ∀ st : Rd, st.1 = false → (one st).2.1 = false) (hc : callable Try.prog g = true) (hl : st.2.length ≤ 9223372036854775807)
    (hK : K (.tuple #[]) [G (manyR one (numR st).1.toNat ((numR st).2.1 && decide ((numR st).1 ≤ 128), (numR st).2.2)).1, sC bs (manyR one (numR st).1.toNat ((numR st).2.1 && decide ((numR st).1 ≤ 128), (numR st).2.2)).2, okC bo (manyR one (numR st).1.toNat ((numR st).2.1 && decide ((numR st).1 ≤ 128), (numR st).2.2)).2, cl bn [fnNum bs bo] 70, cl bt [fnTxt bs bo] 65]) : CallK Try.prog F 38 #[.func (.func g) #[] cap.toArray, .pointer (some ⟨bn, 0, none⟩), .pointer (some ⟨bo, 0, none⟩)] [G [], sC bs st, okC bo st, cl bn [fnNum bs bo] 70, cl bt [fnTxt bs bo] 65] K := by
  have hn := numR_num st
  have hl1 := numR_len st
  refine CallK.enter Try.func38 rfl Try.ntmps38 rfl ?_
  refine Tr.seq ?_
  refine Tr.region ?_
  refine TrL.load1 rfl rfl sc70 (Sees.cl1 (by repeat (first | with_reducible exact Pick.here | with_reducible apply Pick.there | with_reducible apply Pick.app_nil | with_reducible apply Pick.app_cons)) (by rfl)) ?_
  refine TrL.callC rfl rfl rfl ca34 (by repeat (first | exact Picks.nil | with_reducible exact Pick.here | with_reducible apply Pick.there | with_reducible apply Pick.app_nil | with_reducible apply Pick.app_cons | apply Picks.cons)) (fun Ft7 hUt7 => num1_spec (st := st) hl ?_)
  refine TrL.assign rfl rfl ?_
  refine TrL.nil (At.then_normal ?_)
  refine Tr.seq ?_
  refine Tr.cutK [0, 1, 2, 4] (β := Bool) (fun b => []) (fun b => [G [], sC bs (b, (numR st).2.2), okC bo (b, (numR st).2.2), cl bn [fnNum bs bo] 70, cl bt [fnTxt bs bo] 65]) (fun b => b = ((numR st).2.1 && decide ((numR st).1 ≤ 128))) (by rfl) ?_ ?_
  · skip
    refine Tr.region ?_
    refine TrL.load1 rfl rfl sc4 (Sees.cl1 (by repeat (first | with_reducible exact Pick.here | with_reducible apply Pick.there | with_reducible apply Pick.app_nil | with_reducible apply Pick.app_cons)) (by rfl)) ?_
    refine TrL.move rfl rfl ?_
    refine TrL.cases (t := 9) rfl (fun h9 => ?_) (fun h9 => ?_)
    · try simp only [beq_iff_eq, beq_eq_false_iff_ne, Bool.not_eq_true, Bool.not_eq_false, decide_eq_true_eq, decide_eq_false_iff_not, Bool.not_eq_true', Bool.not_eq_false', bne_iff_ne, Bool.not_eq_eq_eq_not, Bool.not_true, Bool.not_false, ne_eq, Decidable.not_not, Int.not_lt, Int.not_le] at h9
      refine TrL.want rfl rfl ?_
      refine TrL.move rfl rfl ?_
      refine TrL.want rfl rfl ?_
      refine TrL.leq rfl rfl rfl ?_
      refine TrL.pickT rfl rfl rfl ?_
      refine TrL.store1 rfl rfl sz4 rfl (by repeat (first | with_reducible exact Upd.here | with_reducible apply Upd.there | with_reducible apply Upd.app_nil | with_reducible apply Upd.app_cons)) (by rfl) ?_
      refine TrL.nil ?_
      refine At.meetK (decide ((numR st).1 ≤ 128)) (by rw [h9]; rfl) (by repeat (first | exact Sub.nil | refine Sub.cons (by rfl) ?_)) (by repeat (first | exact Picks.nil | with_reducible exact Pick.here | with_reducible apply Pick.there | with_reducible apply Pick.app_nil | with_reducible apply Pick.app_cons | apply Picks.cons))
    · try simp only [beq_iff_eq, beq_eq_false_iff_ne, Bool.not_eq_true, Bool.not_eq_false, decide_eq_true_eq, decide_eq_false_iff_not, Bool.not_eq_true', Bool.not_eq_false', bne_iff_ne, Bool.not_eq_eq_eq_not, Bool.not_true, Bool.not_false, ne_eq, Decidable.not_not, Int.not_lt, Int.not_le] at h9
      refine TrL.unwant rfl rfl rfl ?_
      refine TrL.unwant rfl rfl rfl ?_
      refine TrL.pickF rfl rfl rfl ?_
      refine TrL.store1 rfl rfl sz4 rfl (by repeat (first | with_reducible exact Upd.here | with_reducible apply Upd.there | with_reducible apply Upd.app_nil | with_reducible apply Upd.app_cons)) (by rfl) ?_
      refine TrL.nil ?_
      refine At.meetK false (by rw [h9]; rfl) (by repeat (first | exact Sub.nil | refine Sub.cons (by rfl) ?_)) (by repeat (first | exact Picks.nil | with_reducible exact Pick.here | with_reducible apply Pick.there | with_reducible apply Pick.app_nil | with_reducible apply Pick.app_cons | apply Picks.cons))
  · skip
    rintro b rfl
    refine Tr.seq ?_
    refine Tr.region ?_
    refine TrL.assign rfl rfl ?_
    refine TrL.nil (At.then_normal ?_)
    refine Tr.block ?_
    refine Tr.loopK [0, 1, 2, 4] (α := Nat × List α × Rd) (fun z => [(5, .int .i64 (z.1 : Int))]) (fun z => [G z.2.1, sC bs z.2.2, okC bo z.2.2, cl bn [fnNum bs bo] 70, cl bt [fnTxt bs bo] 65]) (fun z => rdL one ((numR st).1.toNat - z.1) z.2.2 z.2.1 = manyR one (numR st).1.toNat ((numR st).2.1 && decide ((numR st).1 ≤ 128), (numR st).2.2) ∧ z.2.1.length = z.1 ∧ z.1 ≤ (numR st).1.toNat ∧ (z.2.2.1 = true → (numR st).1 ≤ 128) ∧ z.2.2.2.length ≤ 9223372036854775807) (fun z => (numR st).1.toNat - z.1) (0, [], ((numR st).2.1 && decide ((numR st).1 ≤ 128), (numR st).2.2)) (by rfl) ?_ (by repeat (first | exact Sub.nil | refine Sub.cons (by rfl) ?_)) (by repeat (first | exact Picks.nil | with_reducible exact Pick.here | with_reducible apply Pick.there | with_reducible apply Pick.app_nil | with_reducible apply Pick.app_cons | apply Picks.cons)) ?_
    · exact ⟨rfl, rfl, Nat.zero_le _, fun h => by simp at h; exact h.2, by show (numR st).2.2.length ≤ _; omega⟩
    rintro ⟨k, l, s2⟩ ⟨hz1, hz2, hz3, hz4, hz5⟩
    dsimp only at hz1 hz2 hz3 hz4 hz5 ⊢
    refine Tr.seq ?_
    refine Tr.seq ?_
    refine Tr.region ?_
    refine TrL.move rfl rfl ?_
    refine TrL.move rfl rfl ?_
    refine TrL.lss rfl rfl rfl ?_
    refine TrL.move rfl rfl ?_
    refine TrL.cases (t := 16) rfl (fun h16 => ?_) (fun h16 => ?_)
    · try simp only [beq_iff_eq, beq_eq_false_iff_ne, Bool.not_eq_true, Bool.not_eq_false, decide_eq_true_eq, decide_eq_false_iff_not, Bool.not_eq_true', Bool.not_eq_false', bne_iff_ne, Bool.not_eq_eq_eq_not, Bool.not_true, Bool.not_false, ne_eq, Decidable.not_not, Int.not_lt, Int.not_le] at h16
      refine TrL.want rfl rfl ?_
      refine TrL.load1 rfl rfl sc4 (Sees.cl1 (by repeat (first | with_reducible exact Pick.here | with_reducible apply Pick.there | with_reducible apply Pick.app_nil | with_reducible apply Pick.app_cons)) (by rfl)) ?_
      refine TrL.pickT rfl rfl rfl ?_
      refine TrL.nil (At.then_normal ?_)
      refine Tr.cond rfl (fun h18 => ?_) (fun h18 => ?_)
      · try simp only [beq_iff_eq, beq_eq_false_iff_ne, Bool.not_eq_true, Bool.not_eq_false, decide_eq_true_eq, decide_eq_false_iff_not, Bool.not_eq_true', Bool.not_eq_false', bne_iff_ne, Bool.not_eq_eq_eq_not, Bool.not_true, Bool.not_false, ne_eq, Decidable.not_not, Int.not_lt, Int.not_le] at h18
        refine Tr.skip (At.then_normal ?_)
        refine Tr.seq ?_
        refine Tr.block ?_
        refine Tr.region ?_
        refine TrL.move rfl rfl ?_
        refine TrL.callC rfl rfl rfl hc (by repeat (first | exact Picks.nil | with_reducible exact Pick.here | with_reducible apply Pick.there | with_reducible apply Pick.app_nil | with_reducible apply Pick.app_cons | apply Picks.cons)) (fun F22 hU22 => hone _ _ _ _ hz5 (by have := hz4 h18; omega) ?_)
        refine TrL.nil (At.block_normal (At.then_normal ?_))
        refine Tr.region ?_
        refine TrL.move rfl rfl ?_
        refine TrL.addI rfl rfl rfl (by omega) ?_
        refine TrL.assign rfl rfl ?_
        refine TrL.nil ?_
        have h128 := hz4 h18
        refine At.again (k + 1, l ++ [(one s2).1], (one s2).2) ⟨by rw [← hz1]; exact (rdL_succ one (by omega) h18).symm, by simp [hz2], by show k + 1 ≤ _; omega, fun _ => h128, Nat.le_trans (hmono s2) hz5⟩ (by show (numR st).1.toNat - (k + 1) < (numR st).1.toNat - k; omega) (by repeat (first | exact Sub.nil | refine Sub.cons (by rfl) ?_)) (by repeat (first | exact Picks.nil | with_reducible exact Pick.here | with_reducible apply Pick.there | with_reducible apply Pick.app_nil | with_reducible apply Pick.app_cons | apply Picks.cons))
      · try simp only [beq_iff_eq, beq_eq_false_iff_ne, Bool.not_eq_true, Bool.not_eq_false, decide_eq_true_eq, decide_eq_false_iff_not, Bool.not_eq_true', Bool.not_eq_false', bne_iff_ne, Bool.not_eq_eq_eq_not, Bool.not_true, Bool.not_false, ne_eq, Decidable.not_not, Int.not_lt, Int.not_le] at h18
        refine Tr.exit (At.then_exit (At.then_exit (At.block_hit (At.retP [_, _, _, _, _] (.inr rfl) rfl Res.nil (by repeat (first | exact Picks.nil | with_reducible exact Pick.here | with_reducible apply Pick.there | with_reducible apply Pick.app_nil | with_reducible apply Pick.app_cons | apply Picks.cons)) (by 
            have e : manyR one (numR st).1.toNat ((numR st).2.1 && decide ((numR st).1 ≤ 128), (numR st).2.2) = (l, s2) := by rw [← hz1]; exact rdL_bad one _ h18
            rw [e] at hK
            exact hK)))))
    · try simp only [beq_iff_eq, beq_eq_false_iff_ne, Bool.not_eq_true, Bool.not_eq_false, decide_eq_true_eq, decide_eq_false_iff_not, Bool.not_eq_true', Bool.not_eq_false', bne_iff_ne, Bool.not_eq_eq_eq_not, Bool.not_true, Bool.not_false, ne_eq, Decidable.not_not, Int.not_lt, Int.not_le] at h16
      refine TrL.unwant rfl rfl rfl ?_
      refine TrL.pickF rfl rfl rfl ?_
      refine TrL.nil (At.then_normal ?_)
      refine Tr.condF rfl ?_
      refine Tr.exit (At.then_exit (At.then_exit (At.block_hit (At.retP [_, _, _, _, _] (.inr rfl) rfl Res.nil (by repeat (first | exact Picks.nil | with_reducible exact Pick.here | with_reducible apply Pick.there | with_reducible apply Pick.app_nil | with_reducible apply Pick.app_cons | apply Picks.cons)) (by 
          have e : manyR one (numR st).1.toNat ((numR st).2.1 && decide ((numR st).1 ≤ 128), (numR st).2.2) = (l, s2) := by rw [← hz1, show (numR st).1.toNat - k = 0 by omega]; rfl
          rw [e] at hK
          exact hK)))))

theorem rdL_le {α : Type} (one : Rd → α × Rd) : ∀ (k : Nat) (s : Rd) (l : List α), (rdL one k s l).1.length ≤ l.length + k
  | 0, s, l => by simp [rdL]
  | k + 1, s, l => by
    unfold rdL
    split
    · have := rdL_le one k (one s).2 (l ++ [(one s).1]); simp only [List.length_append, List.length_singleton] at this; omega
    · simp
theorem rdL_mono {α : Type} (one : Rd → α × Rd) (hm : ∀ st : Rd, (one st).2.2.length ≤ st.2.length) : ∀ (k : Nat) (s : Rd) (l : List α), (rdL one k s l).2.2.length ≤ s.2.length
  | 0, s, l => by simp [rdL]
  | k + 1, s, l => by
    unfold rdL
    split
    · exact Nat.le_trans (rdL_mono one hm k _ _) (hm s)
    · exact Nat.le_refl _
theorem many_le {α : Type} (one : Rd → α × Rd) (a : Int × Rd) : (manyR one a.1.toNat (a.2.1 && decide (a.1 ≤ 128), a.2.2)).1.length ≤ 128 := by
  by_cases h : a.1 ≤ 128
  · have := rdL_le one a.1.toNat (a.2.1 && decide (a.1 ≤ 128), a.2.2) []
    unfold manyR; simp only [List.length_nil] at this; omega
  · rw [manyR_bad one _ (by simp [h])]; simp
theorem tabR_len (st : Rd) : (tabR st).2.2.length ≤ st.2.length := Nat.le_trans (txtR_len _) (Nat.le_trans (txtR_len _) (Nat.le_trans (numR_len _) (numR_len _)))
theorem strOf_nil {l : List UInt8} (h : strOf l = ⟨#[]⟩) : l = [] := by
  have := congrArg (fun t : ByteArray => t.data.toList) h
  simpa [strOf] using this
/-- the edit of a text, and why there is none -/
def takeEd (l : List UInt8) : Ed × Int := match takeP l with
  | some e => (e, 0)
  | none => (⟨[], [], 0, 0⟩, 120)

set_option maxHeartbeats 8000000 in
theorem Take_spec {F : Hp} {K : Value → List HProp → Prop} {l : List UInt8} (hl : l.length ≤ 9223372036854775807) (hK : ∀ pa ca pd cd, K (.tuple #[.agg (edC pa ca pd cd (takeEd l).1).toArray, .int .i64 (takeEd l).2]) [RowC encT 4 pa (takeEd l).1.add, RowC encI 1 pd (takeEd l).1.drop]) :
    CallK Try.prog F 13 #[.string (strOf l)] [] K := by
  have bad : takeP l = none → K (tup [.agg [.slice none 0 0, .slice none 0 0, .int .i64 0, .int .i64 0].toArray, .int .i64 120]) [RowC encT 4 none ([] : List Tab), RowC encI 1 none ([] : List Int)] := fun h => by
    have := hK none 0 none 0
    unfold takeEd at this; rw [h] at this; exact this
  refine CallK.enter Try.func13 rfl Try.ntmps13 rfl ?_
  refine Tr.seq ?_
  refine Tr.region ?_
  refine TrL.box1 rfl rfl rfl (fun b1 => ?_)
  refine TrL.alloc rfl zc25 (fun b2 => ?_)
  refine TrL.assign rfl rfl ?_
  refine TrL.nil (At.then_normal ?_)
  refine Tr.seq ?_
  refine Tr.region ?_
  refine TrL.alloc rfl zc4 (fun b4 => ?_)
  refine TrL.store1 rfl rfl sz4 rfl (by repeat (first | with_reducible exact Upd.here | with_reducible apply Upd.there | with_reducible apply Upd.app_nil | with_reducible apply Upd.app_cons)) (by rfl) ?_
  refine TrL.nil (At.then_normal ?_)
  refine Tr.seq ?_
  refine Tr.region ?_
  refine TrL.makeFunc rfl rfl rfl ?_
  refine TrL.alloc rfl zc70 (fun b5 => ?_)
  refine TrL.store1 rfl rfl sz70 rfl (by repeat (first | with_reducible exact Upd.here | with_reducible apply Upd.there | with_reducible apply Upd.app_nil | with_reducible apply Upd.app_cons)) (by rfl) ?_
  refine TrL.nil (At.then_normal ?_)
  refine Tr.seq ?_
  refine Tr.region ?_
  refine TrL.makeFunc rfl rfl rfl ?_
  refine TrL.alloc rfl zc65 (fun b6 => ?_)
  refine TrL.store1 rfl rfl sz65 rfl (by repeat (first | with_reducible exact Upd.here | with_reducible apply Upd.there | with_reducible apply Upd.app_nil | with_reducible apply Upd.app_cons)) (by rfl) ?_
  refine TrL.nil (At.then_normal ?_)
  refine Tr.seq ?_
  refine Tr.region ?_
  refine TrL.makeFunc rfl rfl rfl ?_
  refine TrL.assign rfl rfl ?_
  refine TrL.nil (At.then_normal ?_)
  refine Tr.seq ?_
  refine Tr.region ?_
  refine TrL.alloc rfl zc25 (fun b8 => ?_)
  refine TrL.own0 46 4 encT ?_
  refine TrL.own0 3 1 encI ?_
  --L:b8
  refine TrL.nil (At.then_normal ?_)
  refine Tr.seq ?_
  refine Tr.close_ (ch := edG b8 [] []) (cs := [cl b8 [.slice none 0 0, .slice none 0 0, .int .i64 0, .int .i64 0] 25, Own 46 4 encT none 0 [], Own 3 1 encI none 0 []]) (by repeat (first | exact Picks.nil | with_reducible exact Pick.here | with_reducible apply Pick.there | with_reducible apply Pick.app_nil | with_reducible apply Pick.app_cons | apply Picks.cons)) (fun h hs => edG_close h hs) ?_
  refine Tr.region ?_
  refine TrL.move rfl rfl ?_
  refine TrL.makeFunc rfl rfl rfl ?_
  refine TrL.callC rfl rfl rfl ca38 (by repeat (first | exact Picks.nil | with_reducible exact Pick.here | with_reducible apply Pick.there | with_reducible apply Pick.app_nil | with_reducible apply Pick.app_cons | apply Picks.cons)) (fun Ft14 hUt14 => many_spec (one := tabR) (G := fun l => edG b8 l []) (bs := b1) (bo := b4) (bn := b5) (bt := b6) (st := (true, l)) (cap := [.pointer (some ⟨b5, 0, none⟩), .pointer (some ⟨b6, 0, none⟩), .pointer (some ⟨b8, 0, none⟩)]) (g := 39) (fun F K l st h1 h2 hK => tab1_spec h1 h2 hK) tabR_len (fun _ => tabR_bad) rfl hl ?_)
  have hB1 := many_le tabR (numR (true, l))
  have hB2 := rdL_mono tabR tabR_len (numR (true, l)).1.toNat ((numR (true, l)).2.1 && decide ((numR (true, l)).1 ≤ 128), (numR (true, l)).2.2) []
  have hB3 := numR_len (true, l)
  change (manyR tabR (numR (true, l)).1.toNat ((numR (true, l)).2.1 && decide ((numR (true, l)).1 ≤ 128), (numR (true, l)).2.2)).2.2.length ≤ _ at hB2
  have hBP : takeP l = _ := rfl
  generalize hB : manyR tabR (numR (true, l)).1.toNat ((numR (true, l)).2.1 && decide ((numR (true, l)).1 ≤ 128), (numR (true, l)).2.2) = B at hB1 hB2 ⊢
  simp only at hB2 hB3
  refine TrL.nil (At.then_normal ?_)
  refine Tr.seq ?_
  refine Tr.region ?_
  refine TrL.move rfl rfl ?_
  refine TrL.makeFunc rfl rfl rfl ?_
  refine TrL.callC rfl rfl rfl ca38 (by repeat (first | exact Picks.nil | with_reducible exact Pick.here | with_reducible apply Pick.there | with_reducible apply Pick.app_nil | with_reducible apply Pick.app_cons | apply Picks.cons)) (fun Ft17 hUt17 => many_spec (one := numR) (G := fun d => edG b8 B.1 d) (bs := b1) (bo := b4) (bn := b5) (bt := b6) (st := B.2) (cap := [.pointer (some ⟨b8, 0, none⟩), .pointer (some ⟨b5, 0, none⟩)]) (g := 40) (fun F K l st h1 h2 hK => drop1_spec h1 h2 hK) numR_len (fun _ => numR_bad) rfl (by omega) ?_)
  have hD1 := many_le numR (numR B.2)
  have hD2 := rdL_mono numR numR_len (numR B.2).1.toNat ((numR B.2).2.1 && decide ((numR B.2).1 ≤ 128), (numR B.2).2.2) []
  have hD3 := numR_len B.2
  change (manyR numR (numR B.2).1.toNat ((numR B.2).2.1 && decide ((numR B.2).1 ≤ 128), (numR B.2).2.2)).2.2.length ≤ _ at hD2
  generalize hD : manyR numR (numR B.2).1.toNat ((numR B.2).2.1 && decide ((numR B.2).1 ≤ 128), (numR B.2).2.2) = D at hD1 hD2 ⊢
  simp only at hD2
  have hD4 := numR_len D.2
  refine TrL.nil (At.then_normal ?_)
  refine Tr.seq ?_
  refine Tr.openE (ch := edG b8 B.1 D.1) (by repeat (first | with_reducible exact Pick.here | with_reducible apply Pick.there | with_reducible apply Pick.app_nil | with_reducible apply Pick.app_cons)) (fun h hc => hc) ?_
  rintro ⟨⟨pa, ca⟩, ⟨pd, cd⟩⟩
  dsimp only
  refine Tr.regionD [cl b5 [fnNum b1 b4] 70] mixed ?_
  refine TrD.take 0 rfl (by kernel_rfl) (by kernel_rfl) (by kernel_rfl) (by repeat (first | exact Picks.nil | with_reducible exact Pick.here | with_reducible apply Pick.there | with_reducible apply Pick.app_nil | with_reducible apply Pick.app_cons | apply Picks.cons)) ?_
  refine TrL.load1 rfl rfl sc70 (Sees.cl1 (by repeat (first | with_reducible exact Pick.here | with_reducible apply Pick.there | with_reducible apply Pick.app_nil | with_reducible apply Pick.app_cons)) (by rfl)) ?_
  refine TrL.nilTake (listed' := #[true, false, false, false, false, false, false, false]) (by kernel_rfl) ?_
  refine TrD.take 2 rfl (by kernel_rfl) (by kernel_rfl) (by kernel_rfl) (by repeat (first | exact Picks.nil | with_reducible exact Pick.here | with_reducible apply Pick.there | with_reducible apply Pick.app_nil | with_reducible apply Pick.app_cons | apply Picks.cons)) ?_
  refine TrL.load1 rfl rfl sc70 (Sees.cl1 (by repeat (first | with_reducible exact Pick.here | with_reducible apply Pick.there | with_reducible apply Pick.app_nil | with_reducible apply Pick.app_cons)) (by rfl)) ?_
  refine TrL.nilTake (listed' := #[true, false, true, false, false, false, false, false]) (by kernel_rfl) ?_
  refine TrD.all [1] (by kernel_rfl) rfl ?_
  refine all_cons ⟨_, rfl, ?_⟩ all_nil
  refine TrL.callC rfl rfl rfl ca34 (by repeat (first | exact Picks.nil | with_reducible exact Pick.here | with_reducible apply Pick.there | with_reducible apply Pick.app_nil | with_reducible apply Pick.app_cons | apply Picks.cons)) (fun Ft19 hUt19 => num1_spec (st := D.2) (by omega) ?_)
  refine TrL.nil (At.step (listed' := #[true, true, true, false, false, false, false, false]) (by kernel_rfl) (by repeat (first | exact Picks.nil | with_reducible exact Pick.here | with_reducible apply Pick.there | with_reducible apply Pick.app_nil | with_reducible apply Pick.app_cons | apply Picks.cons)) ?_)
  refine TrD.take 4 rfl (by kernel_rfl) (by kernel_rfl) (by kernel_rfl) (by repeat (first | exact Picks.nil | with_reducible exact Pick.here | with_reducible apply Pick.there | with_reducible apply Pick.app_nil | with_reducible apply Pick.app_cons | apply Picks.cons)) ?_
  refine TrL.field rfl rfl fl25_2 ?_
  refine TrL.nilTake (listed' := #[true, true, true, false, true, false, false, false]) (by kernel_rfl) ?_
  refine TrD.all [3] (by kernel_rfl) rfl ?_
  refine all_cons ⟨_, rfl, ?_⟩ all_nil
  refine TrL.callC rfl rfl rfl ca34 (by repeat (first | exact Picks.nil | with_reducible exact Pick.here | with_reducible apply Pick.there | with_reducible apply Pick.app_nil | with_reducible apply Pick.app_cons | apply Picks.cons)) (fun Ft21 hUt21 => num1_spec (st := (numR D.2).2) (by omega) ?_)
  refine TrL.nil (At.step (listed' := #[true, true, true, true, true, false, false, false]) (by kernel_rfl) (by repeat (first | exact Picks.nil | with_reducible exact Pick.here | with_reducible apply Pick.there | with_reducible apply Pick.app_nil | with_reducible apply Pick.app_cons | apply Picks.cons)) ?_)
  refine TrD.all [5] (by kernel_rfl) rfl ?_
  refine all_cons ⟨_, rfl, ?_⟩ all_nil
  refine TrL.store1 rfl rfl sz3 rfl (by repeat (first | with_reducible exact Upd.here | with_reducible apply Upd.there | with_reducible apply Upd.app_nil | with_reducible apply Upd.app_cons)) (by rfl) ?_
  refine TrL.nil (At.step (listed' := #[true, true, true, true, true, true, false, false]) (by kernel_rfl) (by repeat (first | exact Picks.nil | with_reducible exact Pick.here | with_reducible apply Pick.there | with_reducible apply Pick.app_nil | with_reducible apply Pick.app_cons | apply Picks.cons)) ?_)
  refine TrD.take 6 rfl (by kernel_rfl) (by kernel_rfl) (by kernel_rfl) (by repeat (first | exact Picks.nil | with_reducible exact Pick.here | with_reducible apply Pick.there | with_reducible apply Pick.app_nil | with_reducible apply Pick.app_cons | apply Picks.cons)) ?_
  refine TrL.field rfl rfl fl25_3 ?_
  refine TrL.nilTake (listed' := #[true, true, true, true, true, true, true, false]) (by kernel_rfl) ?_
  refine TrD.all [7] (by kernel_rfl) rfl ?_
  refine all_cons ⟨_, rfl, ?_⟩ all_nil
  refine TrL.store1 rfl rfl sz3 rfl (by repeat (first | with_reducible exact Upd.here | with_reducible apply Upd.there | with_reducible apply Upd.app_nil | with_reducible apply Upd.app_cons)) (by rfl) ?_
  refine TrL.nil (At.step (listed' := #[true, true, true, true, true, true, true, true]) (by kernel_rfl) (by repeat (first | exact Picks.nil | with_reducible exact Pick.here | with_reducible apply Pick.there | with_reducible apply Pick.app_nil | with_reducible apply Pick.app_cons | apply Picks.cons)) ?_)
  refine TrD.done (by kernel_rfl) (At.then_normal ?_)
  refine Tr.seq ?_
  refine Tr.seq ?_
  refine Tr.region ?_
  refine TrL.load1 rfl rfl sc4 (Sees.cl1 (by repeat (first | with_reducible exact Pick.here | with_reducible apply Pick.there | with_reducible apply Pick.app_nil | with_reducible apply Pick.app_cons)) (by rfl)) ?_
  refine TrL.not rfl rfl ?_
  refine TrL.move rfl rfl ?_
  refine TrL.cases (t := 26) rfl (fun h26 => ?_) (fun h26 => ?_)
  · try simp only [beq_iff_eq, beq_eq_false_iff_ne, Bool.not_eq_true, Bool.not_eq_false, decide_eq_true_eq, decide_eq_false_iff_not, Bool.not_eq_true', Bool.not_eq_false', bne_iff_ne, Bool.not_eq_eq_eq_not, Bool.not_true, Bool.not_false, ne_eq, Decidable.not_not, Int.not_lt, Int.not_le] at h26
    refine TrL.unwant rfl rfl rfl ?_
    refine TrL.unwant rfl rfl rfl ?_
    refine TrL.pickT rfl rfl rfl ?_
    refine TrL.move rfl rfl ?_
    refine TrL.unwant rfl rfl rfl ?_
    refine TrL.unwant rfl rfl rfl ?_
    refine TrL.unwant rfl rfl rfl ?_
    refine TrL.pickT rfl rfl rfl ?_
    refine TrL.nil (At.then_normal ?_)
    refine Tr.condT rfl ?_
    refine Tr.seq ?_
    refine Tr.region ?_
    refine TrL.build rfl rfl pl25 zc25 rfl ?_
    refine TrL.storeLA rfl rfl sz25 ⟨rfl, List.cons_ne_nil _ _⟩ rfl (by repeat (first | with_reducible exact Upd.here | with_reducible apply Upd.there | with_reducible apply Upd.app_nil | with_reducible apply Upd.app_cons)) (by rfl) ?_
    refine TrL.assign rfl rfl ?_
    refine TrL.nil (At.then_normal ?_)
    refine Tr.ret (At.then_ret (At.retX [] (.inl rfl) rfl (Res.cellLA rfl ag25 sz25 (by repeat (first | with_reducible exact Pick.here | with_reducible apply Pick.there | with_reducible apply Pick.app_nil | with_reducible apply Pick.app_cons)) (by rfl) (Res.tmp rfl Res.nil)) (by repeat (first | exact Picks.nil | with_reducible exact Pick.here | with_reducible apply Pick.there | with_reducible apply Pick.app_nil | with_reducible apply Pick.app_cons | apply Picks.cons)) (by 
        refine ⟨[RowC encT 4 none ([] : List Tab), RowC encI 1 none ([] : List Int)], fun h _ => ⟨Hp.emp, h, Hp.emp_dj _, Hp.emp_le _, Hp.le.refl _, RowC.nil _, one_stars (RowC.nil _)⟩, bad ?_⟩
        unfold takeP
        simp only []
        rw [hB, hD]
        rw [if_neg]
        rintro ⟨k1, k2, k3⟩
        first | (rw [k1] at h26; exact absurd h26 (by decide)) | (rw [k2] at h30; exact h30 rfl) | (rw [if_pos k3] at h34; exact h34 rfl))))
  · try simp only [beq_iff_eq, beq_eq_false_iff_ne, Bool.not_eq_true, Bool.not_eq_false, decide_eq_true_eq, decide_eq_false_iff_not, Bool.not_eq_true', Bool.not_eq_false', bne_iff_ne, Bool.not_eq_eq_eq_not, Bool.not_true, Bool.not_false, ne_eq, Decidable.not_not, Int.not_lt, Int.not_le] at h26
    refine TrL.want rfl rfl ?_
    refine TrL.load1 rfl rfl sc9 (Sees.cl1 (by repeat (first | with_reducible exact Pick.here | with_reducible apply Pick.there | with_reducible apply Pick.app_nil | with_reducible apply Pick.app_cons)) (by rfl)) ?_
    refine TrL.want rfl rfl ?_
    refine TrL.nes rfl rfl rfl ?_
    refine TrL.pickF rfl rfl rfl ?_
    refine TrL.move rfl rfl ?_
    refine TrL.cases (t := 30) rfl (fun h30 => ?_) (fun h30 => ?_)
    · try simp only [beq_iff_eq, beq_eq_false_iff_ne, Bool.not_eq_true, Bool.not_eq_false, decide_eq_true_eq, decide_eq_false_iff_not, Bool.not_eq_true', Bool.not_eq_false', bne_iff_ne, Bool.not_eq_eq_eq_not, Bool.not_true, Bool.not_false, ne_eq, Decidable.not_not, Int.not_lt, Int.not_le] at h30
      refine TrL.unwant rfl rfl rfl ?_
      refine TrL.unwant rfl rfl rfl ?_
      refine TrL.unwant rfl rfl rfl ?_
      refine TrL.pickT rfl rfl rfl ?_
      refine TrL.nil (At.then_normal ?_)
      refine Tr.condT rfl ?_
      refine Tr.seq ?_
      refine Tr.region ?_
      refine TrL.build rfl rfl pl25 zc25 rfl ?_
      refine TrL.storeLA rfl rfl sz25 ⟨rfl, List.cons_ne_nil _ _⟩ rfl (by repeat (first | with_reducible exact Upd.here | with_reducible apply Upd.there | with_reducible apply Upd.app_nil | with_reducible apply Upd.app_cons)) (by rfl) ?_
      refine TrL.assign rfl rfl ?_
      refine TrL.nil (At.then_normal ?_)
      refine Tr.ret (At.then_ret (At.retX [] (.inl rfl) rfl (Res.cellLA rfl ag25 sz25 (by repeat (first | with_reducible exact Pick.here | with_reducible apply Pick.there | with_reducible apply Pick.app_nil | with_reducible apply Pick.app_cons)) (by rfl) (Res.tmp rfl Res.nil)) (by repeat (first | exact Picks.nil | with_reducible exact Pick.here | with_reducible apply Pick.there | with_reducible apply Pick.app_nil | with_reducible apply Pick.app_cons | apply Picks.cons)) (by 
          refine ⟨[RowC encT 4 none ([] : List Tab), RowC encI 1 none ([] : List Int)], fun h _ => ⟨Hp.emp, h, Hp.emp_dj _, Hp.emp_le _, Hp.le.refl _, RowC.nil _, one_stars (RowC.nil _)⟩, bad ?_⟩
          unfold takeP
          simp only []
          rw [hB, hD]
          rw [if_neg]
          rintro ⟨k1, k2, k3⟩
          first | (rw [k1] at h26; exact absurd h26 (by decide)) | (rw [k2] at h30; exact h30 rfl) | (rw [if_pos k3] at h34; exact h34 rfl))))
    · try simp only [beq_iff_eq, beq_eq_false_iff_ne, Bool.not_eq_true, Bool.not_eq_false, decide_eq_true_eq, decide_eq_false_iff_not, Bool.not_eq_true', Bool.not_eq_false', bne_iff_ne, Bool.not_eq_eq_eq_not, Bool.not_true, Bool.not_false, ne_eq, Decidable.not_not, Int.not_lt, Int.not_le] at h30
      refine TrL.want rfl rfl ?_
      refine TrL.loadLA rfl rfl ag25 sz25 (by repeat (first | with_reducible exact Pick.here | with_reducible apply Pick.there | with_reducible apply Pick.app_nil | with_reducible apply Pick.app_cons)) (by rfl) ?_
      refine TrL.want rfl rfl ?_
      refine TrL.call rfl rfl rfl ca16 .nil (fun Ft32 hUt32 => Check_spec (e := (⟨B.1, D.1, (numR D.2).1, (numR (numR D.2).2).1⟩ : Ed)) (Own.up hUt32 (by repeat (first | with_reducible exact Pick.here | with_reducible apply Pick.there | with_reducible apply Pick.app_nil | with_reducible apply Pick.app_cons)) (by decide) encT_len) (Own.up hUt32 (by repeat (first | with_reducible exact Pick.here | with_reducible apply Pick.there | with_reducible apply Pick.app_nil | with_reducible apply Pick.app_cons)) (by decide) (fun _ => rfl)) (by show B.1.length ≤ _; omega) (by show D.1.length ≤ _; omega) ?_)
      refine TrL.want rfl rfl ?_
      refine TrL.nei rfl rfl rfl ?_
      refine TrL.pickF rfl rfl rfl ?_
      refine TrL.nil (At.then_normal ?_)
      refine Tr.cond rfl (fun h34 => ?_) (fun h34 => ?_)
      · try simp only [beq_iff_eq, beq_eq_false_iff_ne, Bool.not_eq_true, Bool.not_eq_false, decide_eq_true_eq, decide_eq_false_iff_not, Bool.not_eq_true', Bool.not_eq_false', bne_iff_ne, Bool.not_eq_eq_eq_not, Bool.not_true, Bool.not_false, ne_eq, Decidable.not_not, Int.not_lt, Int.not_le] at h34
        refine Tr.seq ?_
        refine Tr.region ?_
        refine TrL.build rfl rfl pl25 zc25 rfl ?_
        refine TrL.storeLA rfl rfl sz25 ⟨rfl, List.cons_ne_nil _ _⟩ rfl (by repeat (first | with_reducible exact Upd.here | with_reducible apply Upd.there | with_reducible apply Upd.app_nil | with_reducible apply Upd.app_cons)) (by rfl) ?_
        refine TrL.assign rfl rfl ?_
        refine TrL.nil (At.then_normal ?_)
        refine Tr.ret (At.then_ret (At.retX [] (.inl rfl) rfl (Res.cellLA rfl ag25 sz25 (by repeat (first | with_reducible exact Pick.here | with_reducible apply Pick.there | with_reducible apply Pick.app_nil | with_reducible apply Pick.app_cons)) (by rfl) (Res.tmp rfl Res.nil)) (by repeat (first | exact Picks.nil | with_reducible exact Pick.here | with_reducible apply Pick.there | with_reducible apply Pick.app_nil | with_reducible apply Pick.app_cons | apply Picks.cons)) (by 
            refine ⟨[RowC encT 4 none ([] : List Tab), RowC encI 1 none ([] : List Int)], fun h _ => ⟨Hp.emp, h, Hp.emp_dj _, Hp.emp_le _, Hp.le.refl _, RowC.nil _, one_stars (RowC.nil _)⟩, bad ?_⟩
            unfold takeP
            simp only []
            rw [hB, hD]
            rw [if_neg]
            rintro ⟨k1, k2, k3⟩
            first | (rw [k1] at h26; exact absurd h26 (by decide)) | (rw [k2] at h30; exact h30 rfl) | (rw [if_pos k3] at h34; exact h34 rfl))))
      · try simp only [beq_iff_eq, beq_eq_false_iff_ne, Bool.not_eq_true, Bool.not_eq_false, decide_eq_true_eq, decide_eq_false_iff_not, Bool.not_eq_true', Bool.not_eq_false', bne_iff_ne, Bool.not_eq_eq_eq_not, Bool.not_true, Bool.not_false, ne_eq, Decidable.not_not, Int.not_lt, Int.not_le] at h34
        refine Tr.skip (At.then_normal ?_)
        refine Tr.seq ?_
        refine Tr.region ?_
        refine TrL.loadLA rfl rfl ag25 sz25 (by repeat (first | with_reducible exact Pick.here | with_reducible apply Pick.there | with_reducible apply Pick.app_nil | with_reducible apply Pick.app_cons)) (by rfl) ?_
        refine TrL.storeLA rfl rfl sz25 ⟨rfl, List.cons_ne_nil _ _⟩ rfl (by repeat (first | with_reducible exact Upd.here | with_reducible apply Upd.there | with_reducible apply Upd.app_nil | with_reducible apply Upd.app_cons)) (by rfl) ?_
        refine TrL.assign rfl rfl ?_
        refine TrL.nil (At.then_normal ?_)
        refine Tr.ret (At.retX [Own 46 4 encT pa ca B.1, Own 3 1 encI pd cd D.1] (.inl rfl) rfl (Res.cellLA rfl ag25 sz25 (by repeat (first | with_reducible exact Pick.here | with_reducible apply Pick.there | with_reducible apply Pick.app_nil | with_reducible apply Pick.app_cons)) (by rfl) (Res.tmp rfl Res.nil)) (by repeat (first | exact Picks.nil | with_reducible exact Pick.here | with_reducible apply Pick.there | with_reducible apply Pick.app_nil | with_reducible apply Pick.app_cons | apply Picks.cons)) (by 
            refine ⟨[RowC encT 4 pa B.1, RowC encI 1 pd D.1], fun h hs => ?_, ?_⟩
            · obtain ⟨h1, h2, d, l1, l2, c1, h3, h4, d2, l3, l4, c2, _⟩ := hs
              exact ⟨h1, h2, d, l1, l2, RowC.ofOwn (k := 4) (by decide) encT_len c1, h3, h4, d2, l3, l4, RowC.ofOwn (k := 1) (by decide) (fun _ => rfl) c2, trivial⟩
            · have hm : mayE (⟨B.1, D.1, (numR D.2).1, (numR (numR D.2).2).1⟩ : Ed) = true := by
                by_cases h : mayE (⟨B.1, D.1, (numR D.2).1, (numR (numR D.2).2).1⟩ : Ed) = true
                · exact h
                · rw [if_neg h] at h34; cases h34
              have e : takeEd l = ((⟨B.1, D.1, (numR D.2).1, (numR (numR D.2).2).1⟩ : Ed), 0) := by
                have : takeP l = some (⟨B.1, D.1, (numR D.2).1, (numR (numR D.2).2).1⟩ : Ed) := by
                  unfold takeP
                  simp only []
                  rw [hB, hD]
                  exact if_pos ⟨h26, strOf_nil h30, hm⟩
                unfold takeEd; rw [this]
              have := hK pa ca pd cd
              rw [e] at this
              exact this))
end Go.Proofs.Ytiefmfimbmkdjaa

/-
  The edit of a text, by the document: contracts.
  No condition but those that each statement names.
-/
import Derived.Test.YtiefmfimbmkdjaaMfH
namespace Go.Proofs.Ytiefmfimbmkdjaa
set_option linter.unusedSimpArgs false
set_option linter.unusedVariables false
set_option linter.unusedSectionVars false
open Go.RowKit
variable [Obs]

abbrev readC (b : Nat) (st : Rd) : HProp := cl b [.string (strOf st.2), .bool st.1] 76

theorem rnum_spec {F : Hp} {K : Value → List HProp → Prop} {b : Nat} {st : Rd} (hl : st.2.length ≤ 9223372036854775807) (hK : K (.int .i64 (numR st).1) [readC b (numR st).2]) : CallK Try.prog F 41 #[.pointer (some ⟨b, 0, none⟩)] [readC b st] K := by
  obtain ⟨o, l⟩ := st
  have hl : l.length ≤ 9223372036854775807 := hl
  have hn := takeN_num l
  have hn2 := takeT_num l
  show CallK _ F _ _ [cl b [.string (strOf l), .bool o] 76] _
  refine CallK.enter Try.func41 rfl Try.ntmps41 rfl ?_
  refine Tr.seq ?_
  refine Tr.region ?_
  refine TrL.assign rfl rfl ?_
  refine TrL.nil (At.then_normal ?_)
  refine Tr.seq ?_
  refine Tr.region ?_
  refine TrL.move rfl rfl ?_
  refine TrL.nilCheck rfl rfl ?_
  refine TrL.field0 rfl rfl fl76_0 ?_
  refine TrL.load1 rfl rfl sc9 (Sees.cl1 (by repeat (first | with_reducible exact Pick.here | with_reducible apply Pick.there | with_reducible apply Pick.app_nil | with_reducible apply Pick.app_cons)) (by rfl)) ?_
  refine TrL.call rfl rfl rfl ca62 .nil (fun Ft11 hUt11 => TakeNR_spec ?_)
  rw [str_list l]
  refine TrL.move rfl rfl ?_
  refine TrL.extract rfl rfl rfl ?_
  refine TrL.extract rfl rfl rfl ?_
  refine TrL.extract rfl rfl rfl ?_
  refine TrL.assign rfl rfl ?_
  refine TrL.assign rfl rfl ?_
  refine TrL.assign rfl rfl ?_
  refine TrL.nil (At.then_normal ?_)
  refine Tr.seq ?_
  refine Tr.seq ?_
  refine Tr.region ?_
  refine TrL.move rfl rfl ?_
  refine TrL.nei rfl rfl rfl ?_
  refine TrL.nil (At.then_normal ?_)
  refine Tr.cond rfl (fun h16 => ?_) (fun h16 => ?_)
  · try simp only [beq_iff_eq, beq_eq_false_iff_ne, Bool.not_eq_true, Bool.not_eq_false, decide_eq_true_eq, decide_eq_false_iff_not, Bool.not_eq_true', Bool.not_eq_false', bne_iff_ne, Bool.not_eq_eq_eq_not, Bool.not_true, Bool.not_false, ne_eq, Decidable.not_not, Int.not_lt, Int.not_le] at h16
    refine Tr.seq ?_
    refine Tr.region ?_
    refine TrL.move rfl rfl ?_
    refine TrL.nilCheck rfl rfl ?_
    refine TrL.field rfl rfl fl76_1 ?_
    refine TrL.store1 rfl rfl sz4 rfl (by repeat (first | with_reducible exact Upd.here | with_reducible apply Upd.there | with_reducible apply Upd.app_nil | with_reducible apply Upd.app_cons)) (by rfl) ?_
    refine TrL.nil (At.then_normal ?_)
    refine Tr.seq ?_
    refine Tr.region ?_
    refine TrL.assign rfl rfl ?_
    refine TrL.nil (At.then_normal ?_)
    refine Tr.ret (At.then_ret (At.retP [cl b [_, _] 76] (.inl rfl) rfl (Res.tmp rfl Res.nil) (by repeat (first | exact Picks.nil | with_reducible exact Pick.here | with_reducible apply Pick.there | with_reducible apply Pick.app_nil | with_reducible apply Pick.app_cons | apply Picks.cons)) (by 
        have e : numR (o, l) = (0, false, l) := by
          unfold numR
          have hb := takeN_bad h16
          simp only []
          rw [hb]
          simp [h16]
        rw [e] at hK
        exact hK)))
  · try simp only [beq_iff_eq, beq_eq_false_iff_ne, Bool.not_eq_true, Bool.not_eq_false, decide_eq_true_eq, decide_eq_false_iff_not, Bool.not_eq_true', Bool.not_eq_false', bne_iff_ne, Bool.not_eq_eq_eq_not, Bool.not_true, Bool.not_false, ne_eq, Decidable.not_not, Int.not_lt, Int.not_le] at h16
    refine Tr.skip (At.then_normal ?_)
    refine Tr.seq ?_
    refine Tr.region ?_
    refine TrL.move rfl rfl ?_
    refine TrL.move rfl rfl ?_
    refine TrL.nilCheck rfl rfl ?_
    refine TrL.field0 rfl rfl fl76_0 ?_
    refine TrL.load1 rfl rfl sc9 (Sees.cl1 (by repeat (first | with_reducible exact Pick.here | with_reducible apply Pick.there | with_reducible apply Pick.app_nil | with_reducible apply Pick.app_cons)) (by rfl)) ?_
    refine TrL.move rfl rfl ?_
    refine TrL.cutSL rfl rfl rfl st9 (by omega) (by rw [strOf_size]; omega) ?_
    rw [str_drop]
    refine TrL.nilCheck rfl rfl ?_
    refine TrL.field0 rfl rfl fl76_0 ?_
    refine TrL.store1 rfl rfl sz9 rfl (by repeat (first | with_reducible exact Upd.here | with_reducible apply Upd.there | with_reducible apply Upd.app_nil | with_reducible apply Upd.app_cons)) (by rfl) ?_
    refine TrL.nil (At.then_normal ?_)
    refine Tr.seq ?_
    refine Tr.region ?_
    refine TrL.move rfl rfl ?_
    refine TrL.assign rfl rfl ?_
    refine TrL.nil (At.then_normal ?_)
    refine Tr.ret (At.retP [cl b [_, _] 76] (.inl rfl) rfl (Res.tmp rfl Res.nil) (by repeat (first | exact Picks.nil | with_reducible exact Pick.here | with_reducible apply Pick.there | with_reducible apply Pick.app_nil | with_reducible apply Pick.app_cons | apply Picks.cons)) (by 
        have e : (numR (o, l)).2 = (o, l.drop (takeN l).2.1) := by unfold numR; simp [h16]
        rw [e] at hK
        exact hK))

theorem rtxt_spec {F : Hp} {K : Value → List HProp → Prop} {b : Nat} {st : Rd} (hl : st.2.length ≤ 9223372036854775807) (hK : K (.string (strOf (txtR st).1)) [readC b (txtR st).2]) : CallK Try.prog F 42 #[.pointer (some ⟨b, 0, none⟩)] [readC b st] K := by
  obtain ⟨o, l⟩ := st
  have hl : l.length ≤ 9223372036854775807 := hl
  have hn := takeN_num l
  have hn2 := takeT_num l
  show CallK _ F _ _ [cl b [.string (strOf l), .bool o] 76] _
  refine CallK.enter Try.func42 rfl Try.ntmps42 rfl ?_
  refine Tr.seq ?_
  refine Tr.region ?_
  refine TrL.assign rfl rfl ?_
  refine TrL.nil (At.then_normal ?_)
  refine Tr.seq ?_
  refine Tr.region ?_
  refine TrL.move rfl rfl ?_
  refine TrL.nilCheck rfl rfl ?_
  refine TrL.field0 rfl rfl fl76_0 ?_
  refine TrL.load1 rfl rfl sc9 (Sees.cl1 (by repeat (first | with_reducible exact Pick.here | with_reducible apply Pick.there | with_reducible apply Pick.app_nil | with_reducible apply Pick.app_cons)) (by rfl)) ?_
  refine TrL.call rfl rfl rfl ca63 .nil (fun Ft11 hUt11 => TakeTR_spec (by rw [strOf_size]; exact hl) ?_)
  rw [str_list l]
  refine TrL.move rfl rfl ?_
  refine TrL.extract rfl rfl rfl ?_
  refine TrL.extract rfl rfl rfl ?_
  refine TrL.extract rfl rfl rfl ?_
  refine TrL.assign rfl rfl ?_
  refine TrL.assign rfl rfl ?_
  refine TrL.assign rfl rfl ?_
  refine TrL.nil (At.then_normal ?_)
  refine Tr.seq ?_
  refine Tr.seq ?_
  refine Tr.region ?_
  refine TrL.move rfl rfl ?_
  refine TrL.nei rfl rfl rfl ?_
  refine TrL.nil (At.then_normal ?_)
  refine Tr.cond rfl (fun h16 => ?_) (fun h16 => ?_)
  · try simp only [beq_iff_eq, beq_eq_false_iff_ne, Bool.not_eq_true, Bool.not_eq_false, decide_eq_true_eq, decide_eq_false_iff_not, Bool.not_eq_true', Bool.not_eq_false', bne_iff_ne, Bool.not_eq_eq_eq_not, Bool.not_true, Bool.not_false, ne_eq, Decidable.not_not, Int.not_lt, Int.not_le] at h16
    refine Tr.seq ?_
    refine Tr.region ?_
    refine TrL.move rfl rfl ?_
    refine TrL.nilCheck rfl rfl ?_
    refine TrL.field rfl rfl fl76_1 ?_
    refine TrL.store1 rfl rfl sz4 rfl (by repeat (first | with_reducible exact Upd.here | with_reducible apply Upd.there | with_reducible apply Upd.app_nil | with_reducible apply Upd.app_cons)) (by rfl) ?_
    refine TrL.nil (At.then_normal ?_)
    refine Tr.seq ?_
    refine Tr.region ?_
    refine TrL.assign rfl rfl ?_
    refine TrL.nil (At.then_normal ?_)
    refine Tr.ret (At.then_ret (At.retP [cl b [_, _] 76] (.inl rfl) rfl (Res.tmp rfl Res.nil) (by repeat (first | exact Picks.nil | with_reducible exact Pick.here | with_reducible apply Pick.there | with_reducible apply Pick.app_nil | with_reducible apply Pick.app_cons | apply Picks.cons)) (by 
        have e : txtR (o, l) = ([], false, l) := by
          unfold txtR
          obtain ⟨hb1, hb2⟩ := hn2.2.1 h16
          simp only [hb1, hb2]
          simp [h16]
        rw [e] at hK
        exact hK)))
  · try simp only [beq_iff_eq, beq_eq_false_iff_ne, Bool.not_eq_true, Bool.not_eq_false, decide_eq_true_eq, decide_eq_false_iff_not, Bool.not_eq_true', Bool.not_eq_false', bne_iff_ne, Bool.not_eq_eq_eq_not, Bool.not_true, Bool.not_false, ne_eq, Decidable.not_not, Int.not_lt, Int.not_le] at h16
    refine Tr.skip (At.then_normal ?_)
    refine Tr.seq ?_
    refine Tr.region ?_
    refine TrL.move rfl rfl ?_
    refine TrL.move rfl rfl ?_
    refine TrL.nilCheck rfl rfl ?_
    refine TrL.field0 rfl rfl fl76_0 ?_
    refine TrL.load1 rfl rfl sc9 (Sees.cl1 (by repeat (first | with_reducible exact Pick.here | with_reducible apply Pick.there | with_reducible apply Pick.app_nil | with_reducible apply Pick.app_cons)) (by rfl)) ?_
    refine TrL.move rfl rfl ?_
    refine TrL.cutSL rfl rfl rfl st9 (by omega) (by rw [strOf_size]; omega) ?_
    rw [str_drop]
    refine TrL.nilCheck rfl rfl ?_
    refine TrL.field0 rfl rfl fl76_0 ?_
    refine TrL.store1 rfl rfl sz9 rfl (by repeat (first | with_reducible exact Upd.here | with_reducible apply Upd.there | with_reducible apply Upd.app_nil | with_reducible apply Upd.app_cons)) (by rfl) ?_
    refine TrL.nil (At.then_normal ?_)
    refine Tr.seq ?_
    refine Tr.region ?_
    refine TrL.move rfl rfl ?_
    refine TrL.assign rfl rfl ?_
    refine TrL.nil (At.then_normal ?_)
    refine Tr.ret (At.retP [cl b [_, _] 76] (.inl rfl) rfl (Res.tmp rfl Res.nil) (by repeat (first | exact Picks.nil | with_reducible exact Pick.here | with_reducible apply Pick.there | with_reducible apply Pick.app_nil | with_reducible apply Pick.app_cons | apply Picks.cons)) (by 
        have e : (txtR (o, l)).2 = (o, l.drop (takeT l).2.1) := by unfold txtR; simp [h16]
        rw [e] at hK
        exact hK))

theorem takeEd_R (l : List UInt8) : takeEd l = match takeR l with | some e => (e, 0) | none => (⟨[], [], 0, 0⟩, 120) := by unfold takeEd; rw [takeP_eq]; cases takeR l <;> rfl
set_option maxHeartbeats 8000000 in
theorem TakeR_spec {F : Hp} {K : Value → List HProp → Prop} {l : List UInt8} (hl : l.length ≤ 9223372036854775807) (hK : ∀ pa ca pd cd, K (.tuple #[.agg (edC pa ca pd cd (takeEd l).1).toArray, .int .i64 (takeEd l).2]) [RowC encT 4 pa (takeEd l).1.add, RowC encI 1 pd (takeEd l).1.drop]) :
    CallK Try.prog F 14 #[.string (strOf l)] [] K := by
  have bad : takeR l = none → K (tup [.agg [.slice none 0 0, .slice none 0 0, .int .i64 0, .int .i64 0].toArray, .int .i64 120]) [RowC encT 4 none ([] : List Tab), RowC encI 1 none ([] : List Int)] := fun h => by
    have := hK none 0 none 0
    rw [takeEd_R, h] at this; exact this
  have hn0 := numR_num (true, l)
  have hl0 : (numR (true, l)).2.2.length ≤ l.length := numR_len (true, l)
  refine CallK.enter Try.func14 rfl Try.ntmps14 rfl ?_
  refine Tr.seq ?_
  refine Tr.region ?_
  refine TrL.alloc rfl zc25 (fun b2 => ?_)
  refine TrL.assign rfl rfl ?_
  refine TrL.nil (At.then_normal ?_)
  refine Tr.seq ?_
  refine Tr.region ?_
  refine TrL.move rfl rfl ?_
  refine TrL.build rfl rfl pl76 zc76 rfl ?_
  refine TrL.boxA rfl rfl (fun b13 => ?_)
  refine TrL.assign rfl rfl ?_
  refine TrL.nil (At.then_normal ?_)
  refine Tr.seq ?_
  refine Tr.region ?_
  refine TrL.build rfl rfl pl25 zc25 rfl ?_
  refine TrL.alloc rfl zc25 (fun b5 => ?_)
  refine TrL.own0 46 4 encT ?_
  refine TrL.own0 3 1 encI ?_
  --L:b5
  refine TrL.storeLA rfl rfl sz25 ⟨rfl, List.cons_ne_nil _ _⟩ rfl (by repeat (first | with_reducible exact Upd.here | with_reducible apply Upd.there | with_reducible apply Upd.app_nil | with_reducible apply Upd.app_cons)) (by rfl) ?_
  refine TrL.nil (At.then_normal ?_)
  refine Tr.seq ?_
  refine Tr.region ?_
  refine TrL.move rfl rfl ?_
  refine TrL.call rfl rfl rfl ca41 (by repeat (first | exact Picks.nil | with_reducible exact Pick.here | with_reducible apply Pick.there | with_reducible apply Pick.app_nil | with_reducible apply Pick.app_cons | apply Picks.cons)) (fun Ft16 hUt16 => rnum_spec (st := (true, l)) hl ?_)
  refine TrL.assign rfl rfl ?_
  refine TrL.nil (At.then_normal ?_)
  refine Tr.seq ?_
  refine Tr.seq ?_
  refine Tr.region ?_
  refine TrL.assign rfl rfl ?_
  refine TrL.nil (At.then_normal ?_)
  obtain ⟨B, hB⟩ : ∃ B, B = manyR tabR (min (numR (true, l)).1.toNat 129) (numR (true, l)).2 := ⟨_, rfl⟩
  have hB1 : B.1.length ≤ 129 := by have := rdL_le tabR (min (numR (true, l)).1.toNat 129) (numR (true, l)).2 []; rw [hB]; unfold manyR; simp only [List.length_nil] at this; omega
  have hB2 : B.2.2.length ≤ 9223372036854775807 := by rw [hB]; exact Nat.le_trans (rdL_mono tabR tabR_len _ _ _) (by omega)
  refine Tr.cutK [2, 3, 4, 5, 6] (β := Option Addr × Nat) (fun z => []) (fun z => [cl b5 [.slice z.1 B.1.length z.2, .slice none ([] : List Int).length 0, .int .i64 0, .int .i64 0] 25, Own 46 4 encT z.1 z.2 B.1, Own 3 1 encI none 0 ([] : List Int), readC b13 B.2, cl b2 [.slice none 0 0, .slice none 0 0, .int .i64 0, .int .i64 0] 25]) (fun z => True) (by rfl) ?_ ?_
  · skip
    refine Tr.block ?_
    refine Tr.loopK [2, 3, 4, 5, 6] (α := Nat × List Tab × Rd × Option Addr × Nat) (fun z => [(7, .int .i64 (z.1 : Int))]) (fun z => [cl b5 [.slice z.2.2.2.1 z.2.1.length z.2.2.2.2, .slice none ([] : List Int).length 0, .int .i64 0, .int .i64 0] 25, Own 46 4 encT z.2.2.2.1 z.2.2.2.2 z.2.1, Own 3 1 encI none 0 ([] : List Int), readC b13 z.2.2.1, cl b2 [.slice none 0 0, .slice none 0 0, .int .i64 0, .int .i64 0] 25]) (fun z => rdL tabR (min (numR (true, l)).1.toNat 129 - z.1) z.2.2.1 z.2.1 = B ∧ z.2.1.length = z.1 ∧ z.1 ≤ min (numR (true, l)).1.toNat 129 ∧ z.2.2.1.2.length ≤ 9223372036854775807) (fun z => min (numR (true, l)).1.toNat 129 - z.1) (0, [], (numR (true, l)).2, none, 0) (by rfl) ?_ (by repeat (first | exact Sub.nil | refine Sub.cons (by rfl) ?_)) (by repeat (first | exact Picks.nil | with_reducible exact Pick.here | exact Pick.here | with_reducible apply Pick.there | with_reducible apply Pick.app_nil | with_reducible apply Pick.app_cons | apply Picks.cons)) ?_
    · exact ⟨hB.symm, rfl, Nat.zero_le _, by show (numR (true, l)).2.2.length ≤ _; omega⟩
    rintro z ⟨hz1, hz2, hz3, hz5⟩
    refine Tr.seq ?_
    refine Tr.seq ?_
    refine Tr.region ?_
    refine TrL.move rfl rfl ?_
    refine TrL.move rfl rfl ?_
    refine TrL.lss rfl rfl rfl ?_
    refine TrL.move rfl rfl ?_
    refine TrL.cases (t := 20) rfl (fun h20 => ?_) (fun h20 => ?_)
    · try simp only [beq_iff_eq, beq_eq_false_iff_ne, Bool.not_eq_true, Bool.not_eq_false, decide_eq_true_eq, decide_eq_false_iff_not, Bool.not_eq_true', Bool.not_eq_false', bne_iff_ne, Bool.not_eq_eq_eq_not, Bool.not_true, Bool.not_false, ne_eq, Decidable.not_not, Int.not_lt, Int.not_le] at h20
      refine TrL.want rfl rfl ?_
      refine TrL.move rfl rfl ?_
      refine TrL.want rfl rfl ?_
      refine TrL.lss rfl rfl rfl ?_
      refine TrL.pickT rfl rfl rfl ?_
      refine TrL.move rfl rfl ?_
      refine TrL.cases (t := 24) rfl (fun h24 => ?_) (fun h24 => ?_)
      · try simp only [beq_iff_eq, beq_eq_false_iff_ne, Bool.not_eq_true, Bool.not_eq_false, decide_eq_true_eq, decide_eq_false_iff_not, Bool.not_eq_true', Bool.not_eq_false', bne_iff_ne, Bool.not_eq_eq_eq_not, Bool.not_true, Bool.not_false, ne_eq, Decidable.not_not, Int.not_lt, Int.not_le] at h24
        refine TrL.want rfl rfl ?_
        refine TrL.move rfl rfl ?_
        refine TrL.want rfl rfl ?_
        refine TrL.nilCheck rfl rfl ?_
        refine TrL.want rfl rfl ?_
        refine TrL.field rfl rfl fl76_1 ?_
        refine TrL.want rfl rfl ?_
        refine TrL.load1 rfl rfl sc4 (Sees.cl1 (by repeat (first | with_reducible exact Pick.here | with_reducible apply Pick.there | with_reducible apply Pick.app_nil | with_reducible apply Pick.app_cons)) (by rfl)) ?_
        refine TrL.pickT rfl rfl rfl ?_
        refine TrL.nil (At.then_normal ?_)
        refine Tr.cond rfl (fun h29 => ?_) (fun h29 => ?_)
        · try simp only [beq_iff_eq, beq_eq_false_iff_ne, Bool.not_eq_true, Bool.not_eq_false, decide_eq_true_eq, decide_eq_false_iff_not, Bool.not_eq_true', Bool.not_eq_false', bne_iff_ne, Bool.not_eq_eq_eq_not, Bool.not_true, Bool.not_false, ne_eq, Decidable.not_not, Int.not_lt, Int.not_le] at h29
          have l1 := numR_len z.2.2.1
          have l2 := numR_len (numR z.2.2.1).2
          have l3 := txtR_len (numR (numR z.2.2.1).2).2
          refine Tr.skip (At.then_normal ?_)
          refine Tr.seq ?_
          refine Tr.block ?_
          refine Tr.seq ?_
          refine Tr.region ?_
          refine TrL.move rfl rfl ?_
          refine TrL.call rfl rfl rfl ca41 (by repeat (first | exact Picks.nil | with_reducible exact Pick.here | with_reducible apply Pick.there | with_reducible apply Pick.app_nil | with_reducible apply Pick.app_cons | apply Picks.cons)) (fun Ft33 hUt33 => rnum_spec (st := z.2.2.1) hz5 ?_)
          refine TrL.build rfl rfl pl46 zc46 rfl ?_
          refine TrL.alloc rfl zc46 (fun b8 => ?_)
          refine TrL.storeLA rfl rfl sz46 ⟨rfl, List.cons_ne_nil _ _⟩ rfl (by repeat (first | with_reducible exact Upd.here | with_reducible apply Upd.there | with_reducible apply Upd.app_nil | with_reducible apply Upd.app_cons)) (by rfl) ?_
          refine TrL.nil (At.then_normal ?_)
          refine Tr.seq ?_
          refine Tr.region ?_
          refine TrL.move rfl rfl ?_
          refine TrL.call rfl rfl rfl ca41 (by repeat (first | exact Picks.nil | with_reducible exact Pick.here | with_reducible apply Pick.there | with_reducible apply Pick.app_nil | with_reducible apply Pick.app_cons | apply Picks.cons)) (fun Ft36 hUt36 => rnum_spec (st := (numR z.2.2.1).2) (by omega) ?_)
          refine TrL.field rfl rfl fl46_1 ?_
          refine TrL.store1 rfl rfl sz3 rfl (by repeat (first | with_reducible exact Upd.here | with_reducible apply Upd.there | with_reducible apply Upd.app_nil | with_reducible apply Upd.app_cons)) (by rfl) ?_
          refine TrL.nil (At.then_normal ?_)
          refine Tr.seq ?_
          refine Tr.region ?_
          refine TrL.move rfl rfl ?_
          refine TrL.call rfl rfl rfl ca42 (by repeat (first | exact Picks.nil | with_reducible exact Pick.here | with_reducible apply Pick.there | with_reducible apply Pick.app_nil | with_reducible apply Pick.app_cons | apply Picks.cons)) (fun Ft39 hUt39 => rtxt_spec (st := (numR (numR z.2.2.1).2).2) (by omega) ?_)
          refine TrL.field rfl rfl fl46_2 ?_
          refine TrL.store1 rfl rfl sz9 rfl (by repeat (first | with_reducible exact Upd.here | with_reducible apply Upd.there | with_reducible apply Upd.app_nil | with_reducible apply Upd.app_cons)) (by rfl) ?_
          refine TrL.nil (At.then_normal ?_)
          refine Tr.seq ?_
          refine Tr.region ?_
          refine TrL.move rfl rfl ?_
          refine TrL.call rfl rfl rfl ca42 (by repeat (first | exact Picks.nil | with_reducible exact Pick.here | with_reducible apply Pick.there | with_reducible apply Pick.app_nil | with_reducible apply Pick.app_cons | apply Picks.cons)) (fun Ft42 hUt42 => rtxt_spec (st := (txtR (numR (numR z.2.2.1).2).2).2) (by omega) ?_)
          refine TrL.field rfl rfl fl46_3 ?_
          refine TrL.store1 rfl rfl sz9 rfl (by repeat (first | with_reducible exact Upd.here | with_reducible apply Upd.there | with_reducible apply Upd.app_nil | with_reducible apply Upd.app_cons)) (by rfl) ?_
          refine TrL.nil (At.then_normal ?_)
          refine Tr.region ?_
          refine TrL.field0 rfl rfl fl25_0 ?_
          refine TrL.load1 rfl rfl sc22 (Sees.cl1 (by repeat (first | with_reducible exact Pick.here | with_reducible apply Pick.there | with_reducible apply Pick.app_nil | with_reducible apply Pick.app_cons)) (by rfl)) ?_
          refine TrL.loadLA rfl rfl ag46 sz46 (by repeat (first | with_reducible exact Pick.here | with_reducible apply Pick.there | with_reducible apply Pick.app_nil | with_reducible apply Pick.app_cons)) (by rfl) ?_
          refine TrL.buildSlA rfl rfl se22 sz46 zc46 rfl rfl rfl (fun b47 => ?_)
          refine TrL.append1 (v := (tabR z.2.2.1).1) rfl rfl se22 sz46 by46 zc46 rfl (by decide) (by repeat (first | with_reducible exact Pick.here | with_reducible apply Pick.there | with_reducible apply Pick.app_nil | with_reducible apply Pick.app_cons)) (by repeat (first | with_reducible exact Pick.here | with_reducible apply Pick.there | with_reducible apply Pick.app_nil | with_reducible apply Pick.app_cons)) (by rfl) (by rfl) (by rfl) (by rfl) (by decide) (by omega) (fun p48 cap48 => ?_)
          refine TrL.field0 rfl rfl fl25_0 ?_
          refine TrL.store1 rfl rfl sz22 rfl (by repeat (first | with_reducible exact Upd.here | with_reducible apply Upd.there | with_reducible apply Upd.app_nil | with_reducible apply Upd.app_cons)) (by rfl) ?_
          refine TrL.nil (At.block_normal (At.then_normal ?_))
          refine Tr.region ?_
          refine TrL.move rfl rfl ?_
          refine TrL.addI rfl rfl rfl (by omega) ?_
          refine TrL.assign rfl rfl ?_
          refine TrL.nil ?_
          refine At.again (z.1 + 1, z.2.1 ++ [(tabR z.2.2.1).1], (tabR z.2.2.1).2, p48, cap48) ⟨by rw [← hz1]; exact (rdL_succ tabR (by omega) h29).symm, by simp [hz2], by show z.1 + 1 ≤ _; omega, Nat.le_trans (tabR_len z.2.2.1) hz5⟩ (by show min _ 129 - (z.1 + 1) < min _ 129 - z.1; omega) (by repeat (first | exact Sub.nil | refine Sub.cons (by rfl) ?_)) (by repeat (first | exact Picks.nil | exact Pick.here | with_reducible apply Pick.there | with_reducible apply Pick.app_nil | with_reducible apply Pick.app_cons | apply Picks.cons))
        · try simp only [beq_iff_eq, beq_eq_false_iff_ne, Bool.not_eq_true, Bool.not_eq_false, decide_eq_true_eq, decide_eq_false_iff_not, Bool.not_eq_true', Bool.not_eq_false', bne_iff_ne, Bool.not_eq_eq_eq_not, Bool.not_true, Bool.not_false, ne_eq, Decidable.not_not, Int.not_lt, Int.not_le] at h29
          refine Tr.exit (At.then_exit (At.then_exit (At.block_hit ?_)))
          obtain rfl : B = (z.2.1, z.2.2.1) := by rw [← hz1]; exact rdL_bad _ _ h29
          refine At.meetK (z.2.2.2.1, z.2.2.2.2) trivial (by repeat (first | exact Sub.nil | refine Sub.cons (by rfl) ?_)) (by repeat (first | exact Picks.nil | with_reducible exact Pick.here | with_reducible apply Pick.there | with_reducible apply Pick.app_nil | with_reducible apply Pick.app_cons | apply Picks.cons))
      · try simp only [beq_iff_eq, beq_eq_false_iff_ne, Bool.not_eq_true, Bool.not_eq_false, decide_eq_true_eq, decide_eq_false_iff_not, Bool.not_eq_true', Bool.not_eq_false', bne_iff_ne, Bool.not_eq_eq_eq_not, Bool.not_true, Bool.not_false, ne_eq, Decidable.not_not, Int.not_lt, Int.not_le] at h24
        refine TrL.unwant rfl rfl rfl ?_
        refine TrL.unwant rfl rfl rfl ?_
        refine TrL.unwant rfl rfl rfl ?_
        refine TrL.unwant rfl rfl rfl ?_
        refine TrL.pickF rfl rfl rfl ?_
        refine TrL.nil (At.then_normal ?_)
        refine Tr.condF rfl ?_
        refine Tr.exit (At.then_exit (At.then_exit (At.block_hit ?_)))
        obtain rfl : B = (z.2.1, z.2.2.1) := by rw [← hz1, show min (numR (true, l)).1.toNat 129 - z.1 = 0 by omega]; rfl
        refine At.meetK (z.2.2.2.1, z.2.2.2.2) trivial (by repeat (first | exact Sub.nil | refine Sub.cons (by rfl) ?_)) (by repeat (first | exact Picks.nil | with_reducible exact Pick.here | with_reducible apply Pick.there | with_reducible apply Pick.app_nil | with_reducible apply Pick.app_cons | apply Picks.cons))
    · try simp only [beq_iff_eq, beq_eq_false_iff_ne, Bool.not_eq_true, Bool.not_eq_false, decide_eq_true_eq, decide_eq_false_iff_not, Bool.not_eq_true', Bool.not_eq_false', bne_iff_ne, Bool.not_eq_eq_eq_not, Bool.not_true, Bool.not_false, ne_eq, Decidable.not_not, Int.not_lt, Int.not_le] at h20
      refine TrL.unwant rfl rfl rfl ?_
      refine TrL.unwant rfl rfl rfl ?_
      refine TrL.pickF rfl rfl rfl ?_
      refine TrL.move rfl rfl ?_
      refine TrL.unwant rfl rfl rfl ?_
      refine TrL.unwant rfl rfl rfl ?_
      refine TrL.unwant rfl rfl rfl ?_
      refine TrL.unwant rfl rfl rfl ?_
      refine TrL.pickF rfl rfl rfl ?_
      refine TrL.nil (At.then_normal ?_)
      refine Tr.condF rfl ?_
      refine Tr.exit (At.then_exit (At.then_exit (At.block_hit ?_)))
      obtain rfl : B = (z.2.1, z.2.2.1) := by rw [← hz1, show min (numR (true, l)).1.toNat 129 - z.1 = 0 by omega]; rfl
      refine At.meetK (z.2.2.2.1, z.2.2.2.2) trivial (by repeat (first | exact Sub.nil | refine Sub.cons (by rfl) ?_)) (by repeat (first | exact Picks.nil | with_reducible exact Pick.here | with_reducible apply Pick.there | with_reducible apply Pick.app_nil | with_reducible apply Pick.app_cons | apply Picks.cons))
  · skip
    rintro ⟨pa, ca⟩ -
    dsimp only
    have hn1 := numR_num B.2
    have hl1 := numR_len B.2
    refine Tr.seq ?_
    refine Tr.region ?_
    refine TrL.move rfl rfl ?_
    refine TrL.call rfl rfl rfl ca41 (by repeat (first | exact Picks.nil | with_reducible exact Pick.here | with_reducible apply Pick.there | with_reducible apply Pick.app_nil | with_reducible apply Pick.app_cons | apply Picks.cons)) (fun Ft51 hUt51 => rnum_spec (st := B.2) hB2 ?_)
    refine TrL.assign rfl rfl ?_
    refine TrL.nil (At.then_normal ?_)
    refine Tr.seq ?_
    refine Tr.seq ?_
    refine Tr.region ?_
    refine TrL.assign rfl rfl ?_
    refine TrL.nil (At.then_normal ?_)
    obtain ⟨D, hD⟩ : ∃ D, D = manyR numR (min (numR B.2).1.toNat 129) (numR B.2).2 := ⟨_, rfl⟩
    have hD1 : D.1.length ≤ 129 := by have := rdL_le numR (min (numR B.2).1.toNat 129) (numR B.2).2 []; rw [hD]; unfold manyR; simp only [List.length_nil] at this; omega
    have hD2 : D.2.2.length ≤ 9223372036854775807 := by rw [hD]; exact Nat.le_trans (rdL_mono numR numR_len _ _ _) (by omega)
    refine Tr.cutK [2, 3, 4, 5, 6, 9] (β := Option Addr × Nat) (fun z => []) (fun z => [cl b5 [.slice pa B.1.length ca, .slice z.1 D.1.length z.2, .int .i64 0, .int .i64 0] 25, Own 46 4 encT pa ca B.1, Own 3 1 encI z.1 z.2 D.1, readC b13 D.2, cl b2 [.slice none 0 0, .slice none 0 0, .int .i64 0, .int .i64 0] 25]) (fun z => True) (by rfl) ?_ ?_
    · skip
      refine Tr.block ?_
      refine Tr.loopK [2, 3, 4, 5, 6, 9] (α := Nat × List Int × Rd × Option Addr × Nat) (fun z => [(10, .int .i64 (z.1 : Int))]) (fun z => [cl b5 [.slice pa B.1.length ca, .slice z.2.2.2.1 z.2.1.length z.2.2.2.2, .int .i64 0, .int .i64 0] 25, Own 46 4 encT pa ca B.1, Own 3 1 encI z.2.2.2.1 z.2.2.2.2 z.2.1, readC b13 z.2.2.1, cl b2 [.slice none 0 0, .slice none 0 0, .int .i64 0, .int .i64 0] 25]) (fun z => rdL numR (min (numR B.2).1.toNat 129 - z.1) z.2.2.1 z.2.1 = D ∧ z.2.1.length = z.1 ∧ z.1 ≤ min (numR B.2).1.toNat 129 ∧ z.2.2.1.2.length ≤ 9223372036854775807) (fun z => min (numR B.2).1.toNat 129 - z.1) (0, [], (numR B.2).2, none, 0) (by rfl) ?_ (by repeat (first | exact Sub.nil | refine Sub.cons (by rfl) ?_)) (by repeat (first | exact Picks.nil | with_reducible exact Pick.here | exact Pick.here | with_reducible apply Pick.there | with_reducible apply Pick.app_nil | with_reducible apply Pick.app_cons | apply Picks.cons)) ?_
      · exact ⟨hD.symm, rfl, Nat.zero_le _, by show (numR B.2).2.2.length ≤ _; omega⟩
      rintro z ⟨hz1, hz2, hz3, hz5⟩
      refine Tr.seq ?_
      refine Tr.seq ?_
      refine Tr.region ?_
      refine TrL.move rfl rfl ?_
      refine TrL.move rfl rfl ?_
      refine TrL.lss rfl rfl rfl ?_
      refine TrL.move rfl rfl ?_
      refine TrL.cases (t := 55) rfl (fun h55 => ?_) (fun h55 => ?_)
      · try simp only [beq_iff_eq, beq_eq_false_iff_ne, Bool.not_eq_true, Bool.not_eq_false, decide_eq_true_eq, decide_eq_false_iff_not, Bool.not_eq_true', Bool.not_eq_false', bne_iff_ne, Bool.not_eq_eq_eq_not, Bool.not_true, Bool.not_false, ne_eq, Decidable.not_not, Int.not_lt, Int.not_le] at h55
        refine TrL.want rfl rfl ?_
        refine TrL.move rfl rfl ?_
        refine TrL.want rfl rfl ?_
        refine TrL.lss rfl rfl rfl ?_
        refine TrL.pickT rfl rfl rfl ?_
        refine TrL.move rfl rfl ?_
        refine TrL.cases (t := 59) rfl (fun h59 => ?_) (fun h59 => ?_)
        · try simp only [beq_iff_eq, beq_eq_false_iff_ne, Bool.not_eq_true, Bool.not_eq_false, decide_eq_true_eq, decide_eq_false_iff_not, Bool.not_eq_true', Bool.not_eq_false', bne_iff_ne, Bool.not_eq_eq_eq_not, Bool.not_true, Bool.not_false, ne_eq, Decidable.not_not, Int.not_lt, Int.not_le] at h59
          refine TrL.want rfl rfl ?_
          refine TrL.move rfl rfl ?_
          refine TrL.want rfl rfl ?_
          refine TrL.nilCheck rfl rfl ?_
          refine TrL.want rfl rfl ?_
          refine TrL.field rfl rfl fl76_1 ?_
          refine TrL.want rfl rfl ?_
          refine TrL.load1 rfl rfl sc4 (Sees.cl1 (by repeat (first | with_reducible exact Pick.here | with_reducible apply Pick.there | with_reducible apply Pick.app_nil | with_reducible apply Pick.app_cons)) (by rfl)) ?_
          refine TrL.pickT rfl rfl rfl ?_
          refine TrL.nil (At.then_normal ?_)
          refine Tr.cond rfl (fun h64 => ?_) (fun h64 => ?_)
          · try simp only [beq_iff_eq, beq_eq_false_iff_ne, Bool.not_eq_true, Bool.not_eq_false, decide_eq_true_eq, decide_eq_false_iff_not, Bool.not_eq_true', Bool.not_eq_false', bne_iff_ne, Bool.not_eq_eq_eq_not, Bool.not_true, Bool.not_false, ne_eq, Decidable.not_not, Int.not_lt, Int.not_le] at h64
            refine Tr.skip (At.then_normal ?_)
            refine Tr.seq ?_
            refine Tr.block ?_
            refine Tr.regionD [] mixed ?_
            refine TrD.take 0 rfl (by kernel_rfl) (by kernel_rfl) (by kernel_rfl) (by repeat (first | exact Picks.nil | with_reducible exact Pick.here | with_reducible apply Pick.there | with_reducible apply Pick.app_nil | with_reducible apply Pick.app_cons | apply Picks.cons)) ?_
            refine TrL.field rfl rfl fl25_1 ?_
            refine TrL.nilTake (listed' := #[true, false, false, false, false, false, false, false]) (by kernel_rfl) ?_
            refine TrD.take 2 rfl (by kernel_rfl) (by kernel_rfl) (by kernel_rfl) (by repeat (first | exact Picks.nil | with_reducible exact Pick.here | with_reducible apply Pick.there | with_reducible apply Pick.app_nil | with_reducible apply Pick.app_cons | apply Picks.cons)) ?_
            refine TrL.move rfl rfl ?_
            refine TrL.nilTake (listed' := #[true, false, true, false, false, false, false, false]) (by kernel_rfl) ?_
            refine TrD.all [1, 3] (by kernel_rfl) rfl ?_
            refine all_cons ⟨_, rfl, ?_⟩ ?_
            · skip
              refine TrL.load1 rfl rfl sc23 (Sees.cl1 (by repeat (first | with_reducible exact Pick.here | with_reducible apply Pick.there | with_reducible apply Pick.app_nil | with_reducible apply Pick.app_cons)) (by rfl)) ?_
              refine TrL.nil (At.step (listed' := #[true, true, true, false, false, false, false, false]) (by kernel_rfl) (by repeat (first | exact Picks.nil | with_reducible exact Pick.here | with_reducible apply Pick.there | with_reducible apply Pick.app_nil | with_reducible apply Pick.app_cons | apply Picks.cons)) ?_)
              refine TrD.all [3] (by kernel_rfl) rfl ?_
              refine all_cons ⟨_, rfl, ?_⟩ all_nil
              refine TrL.call rfl rfl rfl ca41 (by repeat (first | exact Picks.nil | with_reducible exact Pick.here | with_reducible apply Pick.there | with_reducible apply Pick.app_nil | with_reducible apply Pick.app_cons | apply Picks.cons)) (fun Ft70 hUt70 => rnum_spec (st := z.2.2.1) hz5 ?_)
              refine TrL.nil (At.step (listed' := #[true, true, true, true, false, false, false, false]) (by kernel_rfl) (by repeat (first | exact Picks.nil | with_reducible exact Pick.here | with_reducible apply Pick.there | with_reducible apply Pick.app_nil | with_reducible apply Pick.app_cons | apply Picks.cons)) ?_)
              refine TrD.all [4] (by kernel_rfl) rfl ?_
              refine all_cons ⟨_, rfl, ?_⟩ all_nil
              refine TrL.buildSlF rfl rfl rfl se23 sz3 zc3 rfl rfl rfl (fun b71 => ?_)
              refine TrL.nil (At.step (listed' := #[true, true, true, true, true, false, false, false]) (by kernel_rfl) (by repeat (first | exact Picks.nil | with_reducible exact Pick.here | with_reducible apply Pick.there | with_reducible apply Pick.app_nil | with_reducible apply Pick.app_cons | apply Picks.cons)) ?_)
              refine TrD.all [5] (by kernel_rfl) rfl ?_
              refine all_cons ⟨_, rfl, ?_⟩ all_nil
              refine TrL.append1 (v := (numR z.2.2.1).1) rfl rfl se23 sz3 by3 zc3 rfl (by decide) (by repeat (first | with_reducible exact Pick.here | with_reducible apply Pick.there | with_reducible apply Pick.app_nil | with_reducible apply Pick.app_cons)) (by repeat (first | with_reducible exact Pick.here | with_reducible apply Pick.there | with_reducible apply Pick.app_nil | with_reducible apply Pick.app_cons)) (by rfl) (by rfl) (by rfl) (by rfl) (by decide) (by omega) (fun p72 cap72 => ?_)
              refine TrL.nil (At.step (listed' := #[true, true, true, true, true, true, false, false]) (by kernel_rfl) (by repeat (first | exact Picks.nil | with_reducible exact Pick.here | with_reducible apply Pick.there | with_reducible apply Pick.app_nil | with_reducible apply Pick.app_cons | apply Picks.cons)) ?_)
              refine TrD.take 6 rfl (by kernel_rfl) (by kernel_rfl) (by kernel_rfl) (by repeat (first | exact Picks.nil | with_reducible exact Pick.here | with_reducible apply Pick.there | with_reducible apply Pick.app_nil | with_reducible apply Pick.app_cons | apply Picks.cons)) ?_
              refine TrL.field rfl rfl fl25_1 ?_
              refine TrL.nilTake (listed' := #[true, true, true, true, true, true, true, false]) (by kernel_rfl) ?_
              refine TrD.all [7] (by kernel_rfl) rfl ?_
              refine all_cons ⟨_, rfl, ?_⟩ all_nil
              refine TrL.store1 rfl rfl sz23 rfl (by repeat (first | with_reducible exact Upd.here | with_reducible apply Upd.there | with_reducible apply Upd.app_nil | with_reducible apply Upd.app_cons)) (by rfl) ?_
              refine TrL.nil (At.step (listed' := #[true, true, true, true, true, true, true, true]) (by kernel_rfl) (by repeat (first | exact Picks.nil | with_reducible exact Pick.here | with_reducible apply Pick.there | with_reducible apply Pick.app_nil | with_reducible apply Pick.app_cons | apply Picks.cons)) ?_)
              refine TrD.done (by kernel_rfl) (At.block_normal (At.then_normal ?_))
              refine Tr.region ?_
              refine TrL.move rfl rfl ?_
              refine TrL.addI rfl rfl rfl (by omega) ?_
              refine TrL.assign rfl rfl ?_
              refine TrL.nil ?_
              refine At.again (z.1 + 1, z.2.1 ++ [(numR z.2.2.1).1], (numR z.2.2.1).2, p72, cap72) ⟨by rw [← hz1]; exact (rdL_succ numR (by omega) h64).symm, by simp [hz2], by show z.1 + 1 ≤ _; omega, Nat.le_trans (numR_len z.2.2.1) hz5⟩ (by show min _ 129 - (z.1 + 1) < min _ 129 - z.1; omega) (by repeat (first | exact Sub.nil | refine Sub.cons (by rfl) ?_)) (by repeat (first | exact Picks.nil | with_reducible exact Pick.here | with_reducible apply Pick.there | with_reducible apply Pick.app_nil | with_reducible apply Pick.app_cons | apply Picks.cons))
            refine all_cons ⟨_, rfl, ?_⟩ ?_
            · skip
              refine TrL.call rfl rfl rfl ca41 (by repeat (first | exact Picks.nil | with_reducible exact Pick.here | with_reducible apply Pick.there | with_reducible apply Pick.app_nil | with_reducible apply Pick.app_cons | apply Picks.cons)) (fun Ft70 hUt70 => rnum_spec (st := z.2.2.1) hz5 ?_)
              refine TrL.nil (At.step (listed' := #[true, false, true, true, false, false, false, false]) (by kernel_rfl) (by repeat (first | exact Picks.nil | with_reducible exact Pick.here | with_reducible apply Pick.there | with_reducible apply Pick.app_nil | with_reducible apply Pick.app_cons | apply Picks.cons)) ?_)
              refine TrD.all [1, 4] (by kernel_rfl) rfl ?_
              refine all_cons ⟨_, rfl, ?_⟩ ?_
              · skip
                refine TrL.load1 rfl rfl sc23 (Sees.cl1 (by repeat (first | with_reducible exact Pick.here | with_reducible apply Pick.there | with_reducible apply Pick.app_nil | with_reducible apply Pick.app_cons)) (by rfl)) ?_
                refine TrL.nil (At.step (listed' := #[true, true, true, true, false, false, false, false]) (by kernel_rfl) (by repeat (first | exact Picks.nil | with_reducible exact Pick.here | with_reducible apply Pick.there | with_reducible apply Pick.app_nil | with_reducible apply Pick.app_cons | apply Picks.cons)) ?_)
                refine TrD.all [4] (by kernel_rfl) rfl ?_
                refine all_cons ⟨_, rfl, ?_⟩ all_nil
                refine TrL.buildSlF rfl rfl rfl se23 sz3 zc3 rfl rfl rfl (fun b71 => ?_)
                refine TrL.nil (At.step (listed' := #[true, true, true, true, true, false, false, false]) (by kernel_rfl) (by repeat (first | exact Picks.nil | with_reducible exact Pick.here | with_reducible apply Pick.there | with_reducible apply Pick.app_nil | with_reducible apply Pick.app_cons | apply Picks.cons)) ?_)
                refine TrD.all [5] (by kernel_rfl) rfl ?_
                refine all_cons ⟨_, rfl, ?_⟩ all_nil
                refine TrL.append1 (v := (numR z.2.2.1).1) rfl rfl se23 sz3 by3 zc3 rfl (by decide) (by repeat (first | with_reducible exact Pick.here | with_reducible apply Pick.there | with_reducible apply Pick.app_nil | with_reducible apply Pick.app_cons)) (by repeat (first | with_reducible exact Pick.here | with_reducible apply Pick.there | with_reducible apply Pick.app_nil | with_reducible apply Pick.app_cons)) (by rfl) (by rfl) (by rfl) (by rfl) (by decide) (by omega) (fun p72 cap72 => ?_)
                refine TrL.nil (At.step (listed' := #[true, true, true, true, true, true, false, false]) (by kernel_rfl) (by repeat (first | exact Picks.nil | with_reducible exact Pick.here | with_reducible apply Pick.there | with_reducible apply Pick.app_nil | with_reducible apply Pick.app_cons | apply Picks.cons)) ?_)
                refine TrD.take 6 rfl (by kernel_rfl) (by kernel_rfl) (by kernel_rfl) (by repeat (first | exact Picks.nil | with_reducible exact Pick.here | with_reducible apply Pick.there | with_reducible apply Pick.app_nil | with_reducible apply Pick.app_cons | apply Picks.cons)) ?_
                refine TrL.field rfl rfl fl25_1 ?_
                refine TrL.nilTake (listed' := #[true, true, true, true, true, true, true, false]) (by kernel_rfl) ?_
                refine TrD.all [7] (by kernel_rfl) rfl ?_
                refine all_cons ⟨_, rfl, ?_⟩ all_nil
                refine TrL.store1 rfl rfl sz23 rfl (by repeat (first | with_reducible exact Upd.here | with_reducible apply Upd.there | with_reducible apply Upd.app_nil | with_reducible apply Upd.app_cons)) (by rfl) ?_
                refine TrL.nil (At.step (listed' := #[true, true, true, true, true, true, true, true]) (by kernel_rfl) (by repeat (first | exact Picks.nil | with_reducible exact Pick.here | with_reducible apply Pick.there | with_reducible apply Pick.app_nil | with_reducible apply Pick.app_cons | apply Picks.cons)) ?_)
                refine TrD.done (by kernel_rfl) (At.block_normal (At.then_normal ?_))
                refine Tr.region ?_
                refine TrL.move rfl rfl ?_
                refine TrL.addI rfl rfl rfl (by omega) ?_
                refine TrL.assign rfl rfl ?_
                refine TrL.nil ?_
                refine At.again (z.1 + 1, z.2.1 ++ [(numR z.2.2.1).1], (numR z.2.2.1).2, p72, cap72) ⟨by rw [← hz1]; exact (rdL_succ numR (by omega) h64).symm, by simp [hz2], by show z.1 + 1 ≤ _; omega, Nat.le_trans (numR_len z.2.2.1) hz5⟩ (by show min _ 129 - (z.1 + 1) < min _ 129 - z.1; omega) (by repeat (first | exact Sub.nil | refine Sub.cons (by rfl) ?_)) (by repeat (first | exact Picks.nil | with_reducible exact Pick.here | with_reducible apply Pick.there | with_reducible apply Pick.app_nil | with_reducible apply Pick.app_cons | apply Picks.cons))
              refine all_cons ⟨_, rfl, ?_⟩ ?_
              · skip
                refine TrL.buildSlF rfl rfl rfl se23 sz3 zc3 rfl rfl rfl (fun b71 => ?_)
                refine TrL.nil (At.step (listed' := #[true, false, true, true, true, false, false, false]) (by kernel_rfl) (by repeat (first | exact Picks.nil | with_reducible exact Pick.here | with_reducible apply Pick.there | with_reducible apply Pick.app_nil | with_reducible apply Pick.app_cons | apply Picks.cons)) ?_)
                refine TrD.all [1] (by kernel_rfl) rfl ?_
                refine all_cons ⟨_, rfl, ?_⟩ all_nil
                refine TrL.load1 rfl rfl sc23 (Sees.cl1 (by repeat (first | with_reducible exact Pick.here | with_reducible apply Pick.there | with_reducible apply Pick.app_nil | with_reducible apply Pick.app_cons)) (by rfl)) ?_
                refine TrL.nil (At.step (listed' := #[true, true, true, true, true, false, false, false]) (by kernel_rfl) (by repeat (first | exact Picks.nil | with_reducible exact Pick.here | with_reducible apply Pick.there | with_reducible apply Pick.app_nil | with_reducible apply Pick.app_cons | apply Picks.cons)) ?_)
                refine TrD.all [5] (by kernel_rfl) rfl ?_
                refine all_cons ⟨_, rfl, ?_⟩ all_nil
                refine TrL.append1 (v := (numR z.2.2.1).1) rfl rfl se23 sz3 by3 zc3 rfl (by decide) (by repeat (first | with_reducible exact Pick.here | with_reducible apply Pick.there | with_reducible apply Pick.app_nil | with_reducible apply Pick.app_cons)) (by repeat (first | with_reducible exact Pick.here | with_reducible apply Pick.there | with_reducible apply Pick.app_nil | with_reducible apply Pick.app_cons)) (by rfl) (by rfl) (by rfl) (by rfl) (by decide) (by omega) (fun p72 cap72 => ?_)
                refine TrL.nil (At.step (listed' := #[true, true, true, true, true, true, false, false]) (by kernel_rfl) (by repeat (first | exact Picks.nil | with_reducible exact Pick.here | with_reducible apply Pick.there | with_reducible apply Pick.app_nil | with_reducible apply Pick.app_cons | apply Picks.cons)) ?_)
                refine TrD.take 6 rfl (by kernel_rfl) (by kernel_rfl) (by kernel_rfl) (by repeat (first | exact Picks.nil | with_reducible exact Pick.here | with_reducible apply Pick.there | with_reducible apply Pick.app_nil | with_reducible apply Pick.app_cons | apply Picks.cons)) ?_
                refine TrL.field rfl rfl fl25_1 ?_
                refine TrL.nilTake (listed' := #[true, true, true, true, true, true, true, false]) (by kernel_rfl) ?_
                refine TrD.all [7] (by kernel_rfl) rfl ?_
                refine all_cons ⟨_, rfl, ?_⟩ all_nil
                refine TrL.store1 rfl rfl sz23 rfl (by repeat (first | with_reducible exact Upd.here | with_reducible apply Upd.there | with_reducible apply Upd.app_nil | with_reducible apply Upd.app_cons)) (by rfl) ?_
                refine TrL.nil (At.step (listed' := #[true, true, true, true, true, true, true, true]) (by kernel_rfl) (by repeat (first | exact Picks.nil | with_reducible exact Pick.here | with_reducible apply Pick.there | with_reducible apply Pick.app_nil | with_reducible apply Pick.app_cons | apply Picks.cons)) ?_)
                refine TrD.done (by kernel_rfl) (At.block_normal (At.then_normal ?_))
                refine Tr.region ?_
                refine TrL.move rfl rfl ?_
                refine TrL.addI rfl rfl rfl (by omega) ?_
                refine TrL.assign rfl rfl ?_
                refine TrL.nil ?_
                refine At.again (z.1 + 1, z.2.1 ++ [(numR z.2.2.1).1], (numR z.2.2.1).2, p72, cap72) ⟨by rw [← hz1]; exact (rdL_succ numR (by omega) h64).symm, by simp [hz2], by show z.1 + 1 ≤ _; omega, Nat.le_trans (numR_len z.2.2.1) hz5⟩ (by show min _ 129 - (z.1 + 1) < min _ 129 - z.1; omega) (by repeat (first | exact Sub.nil | refine Sub.cons (by rfl) ?_)) (by repeat (first | exact Picks.nil | with_reducible exact Pick.here | with_reducible apply Pick.there | with_reducible apply Pick.app_nil | with_reducible apply Pick.app_cons | apply Picks.cons))
              exact all_nil
            exact all_nil
          · try simp only [beq_iff_eq, beq_eq_false_iff_ne, Bool.not_eq_true, Bool.not_eq_false, decide_eq_true_eq, decide_eq_false_iff_not, Bool.not_eq_true', Bool.not_eq_false', bne_iff_ne, Bool.not_eq_eq_eq_not, Bool.not_true, Bool.not_false, ne_eq, Decidable.not_not, Int.not_lt, Int.not_le] at h64
            refine Tr.exit (At.then_exit (At.then_exit (At.block_hit ?_)))
            obtain rfl : D = (z.2.1, z.2.2.1) := by rw [← hz1]; exact rdL_bad _ _ h64
            refine At.meetK (z.2.2.2.1, z.2.2.2.2) trivial (by repeat (first | exact Sub.nil | refine Sub.cons (by rfl) ?_)) (by repeat (first | exact Picks.nil | with_reducible exact Pick.here | with_reducible apply Pick.there | with_reducible apply Pick.app_nil | with_reducible apply Pick.app_cons | apply Picks.cons))
        · try simp only [beq_iff_eq, beq_eq_false_iff_ne, Bool.not_eq_true, Bool.not_eq_false, decide_eq_true_eq, decide_eq_false_iff_not, Bool.not_eq_true', Bool.not_eq_false', bne_iff_ne, Bool.not_eq_eq_eq_not, Bool.not_true, Bool.not_false, ne_eq, Decidable.not_not, Int.not_lt, Int.not_le] at h59
          refine TrL.unwant rfl rfl rfl ?_
          refine TrL.unwant rfl rfl rfl ?_
          refine TrL.unwant rfl rfl rfl ?_
          refine TrL.unwant rfl rfl rfl ?_
          refine TrL.pickF rfl rfl rfl ?_
          refine TrL.nil (At.then_normal ?_)
          refine Tr.condF rfl ?_
          refine Tr.exit (At.then_exit (At.then_exit (At.block_hit ?_)))
          obtain rfl : D = (z.2.1, z.2.2.1) := by rw [← hz1, show min (numR B.2).1.toNat 129 - z.1 = 0 by omega]; rfl
          refine At.meetK (z.2.2.2.1, z.2.2.2.2) trivial (by repeat (first | exact Sub.nil | refine Sub.cons (by rfl) ?_)) (by repeat (first | exact Picks.nil | with_reducible exact Pick.here | with_reducible apply Pick.there | with_reducible apply Pick.app_nil | with_reducible apply Pick.app_cons | apply Picks.cons))
      · try simp only [beq_iff_eq, beq_eq_false_iff_ne, Bool.not_eq_true, Bool.not_eq_false, decide_eq_true_eq, decide_eq_false_iff_not, Bool.not_eq_true', Bool.not_eq_false', bne_iff_ne, Bool.not_eq_eq_eq_not, Bool.not_true, Bool.not_false, ne_eq, Decidable.not_not, Int.not_lt, Int.not_le] at h55
        refine TrL.unwant rfl rfl rfl ?_
        refine TrL.unwant rfl rfl rfl ?_
        refine TrL.pickF rfl rfl rfl ?_
        refine TrL.move rfl rfl ?_
        refine TrL.unwant rfl rfl rfl ?_
        refine TrL.unwant rfl rfl rfl ?_
        refine TrL.unwant rfl rfl rfl ?_
        refine TrL.unwant rfl rfl rfl ?_
        refine TrL.pickF rfl rfl rfl ?_
        refine TrL.nil (At.then_normal ?_)
        refine Tr.condF rfl ?_
        refine Tr.exit (At.then_exit (At.then_exit (At.block_hit ?_)))
        obtain rfl : D = (z.2.1, z.2.2.1) := by rw [← hz1, show min (numR B.2).1.toNat 129 - z.1 = 0 by omega]; rfl
        refine At.meetK (z.2.2.2.1, z.2.2.2.2) trivial (by repeat (first | exact Sub.nil | refine Sub.cons (by rfl) ?_)) (by repeat (first | exact Picks.nil | with_reducible exact Pick.here | with_reducible apply Pick.there | with_reducible apply Pick.app_nil | with_reducible apply Pick.app_cons | apply Picks.cons))
    · skip
      rintro ⟨pd, cd⟩ -
      dsimp only
      refine Tr.seq ?_
      have hD4 := numR_len D.2
      refine Tr.region ?_
      refine TrL.move rfl rfl ?_
      refine TrL.call rfl rfl rfl ca41 (by repeat (first | exact Picks.nil | with_reducible exact Pick.here | with_reducible apply Pick.there | with_reducible apply Pick.app_nil | with_reducible apply Pick.app_cons | apply Picks.cons)) (fun Ft75 hUt75 => rnum_spec (st := D.2) hD2 ?_)
      refine TrL.field rfl rfl fl25_2 ?_
      refine TrL.store1 rfl rfl sz3 rfl (by repeat (first | with_reducible exact Upd.here | with_reducible apply Upd.there | with_reducible apply Upd.app_nil | with_reducible apply Upd.app_cons)) (by rfl) ?_
      refine TrL.nil (At.then_normal ?_)
      refine Tr.seq ?_
      refine Tr.region ?_
      refine TrL.move rfl rfl ?_
      refine TrL.call rfl rfl rfl ca41 (by repeat (first | exact Picks.nil | with_reducible exact Pick.here | with_reducible apply Pick.there | with_reducible apply Pick.app_nil | with_reducible apply Pick.app_cons | apply Picks.cons)) (fun Ft78 hUt78 => rnum_spec (st := (numR D.2).2) (by omega) ?_)
      refine TrL.field rfl rfl fl25_3 ?_
      refine TrL.store1 rfl rfl sz3 rfl (by repeat (first | with_reducible exact Upd.here | with_reducible apply Upd.there | with_reducible apply Upd.app_nil | with_reducible apply Upd.app_cons)) (by rfl) ?_
      refine TrL.nil (At.then_normal ?_)
      refine Tr.seq ?_
      refine Tr.seq ?_
      refine Tr.region ?_
      refine TrL.move rfl rfl ?_
      refine TrL.nilCheck rfl rfl ?_
      refine TrL.field rfl rfl fl76_1 ?_
      refine TrL.load1 rfl rfl sc4 (Sees.cl1 (by repeat (first | with_reducible exact Pick.here | with_reducible apply Pick.there | with_reducible apply Pick.app_nil | with_reducible apply Pick.app_cons)) (by rfl)) ?_
      refine TrL.not rfl rfl ?_
      refine TrL.move rfl rfl ?_
      refine TrL.cases (t := 85) rfl (fun h85 => ?_) (fun h85 => ?_)
      · try simp only [beq_iff_eq, beq_eq_false_iff_ne, Bool.not_eq_true, Bool.not_eq_false, decide_eq_true_eq, decide_eq_false_iff_not, Bool.not_eq_true', Bool.not_eq_false', bne_iff_ne, Bool.not_eq_eq_eq_not, Bool.not_true, Bool.not_false, ne_eq, Decidable.not_not, Int.not_lt, Int.not_le] at h85
        refine TrL.unwant rfl rfl rfl ?_
        refine TrL.unwant rfl rfl rfl ?_
        refine TrL.unwant rfl rfl rfl ?_
        refine TrL.unwant rfl rfl rfl ?_
        refine TrL.unwant rfl rfl rfl ?_
        refine TrL.pickT rfl rfl rfl ?_
        refine TrL.move rfl rfl ?_
        refine TrL.unwant rfl rfl rfl ?_
        refine TrL.unwant rfl rfl rfl ?_
        refine TrL.unwant rfl rfl rfl ?_
        refine TrL.unwant rfl rfl rfl ?_
        refine TrL.unwant rfl rfl rfl ?_
        refine TrL.pickT rfl rfl rfl ?_
        refine TrL.move rfl rfl ?_
        refine TrL.unwant rfl rfl rfl ?_
        refine TrL.unwant rfl rfl rfl ?_
        refine TrL.unwant rfl rfl rfl ?_
        refine TrL.unwant rfl rfl rfl ?_
        refine TrL.unwant rfl rfl rfl ?_
        refine TrL.pickT rfl rfl rfl ?_
        refine TrL.move rfl rfl ?_
        refine TrL.unwant rfl rfl rfl ?_
        refine TrL.unwant rfl rfl rfl ?_
        refine TrL.unwant rfl rfl rfl ?_
        refine TrL.pickT rfl rfl rfl ?_
        refine TrL.nil (At.then_normal ?_)
        refine Tr.condT rfl ?_
        refine Tr.seq ?_
        refine Tr.region ?_
        refine TrL.build rfl rfl pl25 zc25 rfl ?_
        refine TrL.storeLA rfl rfl sz25 ⟨rfl, List.cons_ne_nil _ _⟩ rfl (by repeat (first | with_reducible exact Upd.here | with_reducible apply Upd.there | with_reducible apply Upd.app_nil | with_reducible apply Upd.app_cons)) (by rfl) ?_
        refine TrL.assign rfl rfl ?_
        refine TrL.nil (At.then_normal ?_)
        refine Tr.ret (At.then_ret (At.retX [] (.inl rfl) rfl (Res.cellLA rfl ag25 sz25 (by repeat (first | with_reducible exact Pick.here | with_reducible apply Pick.there | with_reducible apply Pick.app_nil | with_reducible apply Pick.app_cons)) (by rfl) (Res.tmp rfl Res.nil)) (by repeat (first | exact Picks.nil | with_reducible exact Pick.here | with_reducible apply Pick.there | with_reducible apply Pick.app_nil | with_reducible apply Pick.app_cons | apply Picks.cons)) (by 
            first
              | (refine ⟨[RowC encT 4 none ([] : List Tab), RowC encI 1 none ([] : List Int)], fun h _ => ⟨Hp.emp, h, Hp.emp_dj _, Hp.emp_le _, Hp.le.refl _, RowC.nil _, one_stars (RowC.nil _)⟩, bad ?_⟩
                 unfold takeR; simp only []; rw [← hB, ← hD]; rw [if_neg]; rintro ⟨k1, k2, k3, k4, k5⟩; exact False.elim (by simp_all [strOf_nil, strOf])))))
      · try simp only [beq_iff_eq, beq_eq_false_iff_ne, Bool.not_eq_true, Bool.not_eq_false, decide_eq_true_eq, decide_eq_false_iff_not, Bool.not_eq_true', Bool.not_eq_false', bne_iff_ne, Bool.not_eq_eq_eq_not, Bool.not_true, Bool.not_false, ne_eq, Decidable.not_not, Int.not_lt, Int.not_le] at h85
        refine TrL.want rfl rfl ?_
        refine TrL.move rfl rfl ?_
        refine TrL.want rfl rfl ?_
        refine TrL.nilCheck rfl rfl ?_
        refine TrL.want rfl rfl ?_
        refine TrL.field0 rfl rfl fl76_0 ?_
        refine TrL.want rfl rfl ?_
        refine TrL.load1 rfl rfl sc9 (Sees.cl1 (by repeat (first | with_reducible exact Pick.here | with_reducible apply Pick.there | with_reducible apply Pick.app_nil | with_reducible apply Pick.app_cons)) (by rfl)) ?_
        refine TrL.want rfl rfl ?_
        refine TrL.nes rfl rfl rfl ?_
        refine TrL.pickF rfl rfl rfl ?_
        refine TrL.move rfl rfl ?_
        refine TrL.cases (t := 92) rfl (fun h92 => ?_) (fun h92 => ?_)
        · try simp only [beq_iff_eq, beq_eq_false_iff_ne, Bool.not_eq_true, Bool.not_eq_false, decide_eq_true_eq, decide_eq_false_iff_not, Bool.not_eq_true', Bool.not_eq_false', bne_iff_ne, Bool.not_eq_eq_eq_not, Bool.not_true, Bool.not_false, ne_eq, Decidable.not_not, Int.not_lt, Int.not_le] at h92
          refine TrL.unwant rfl rfl rfl ?_
          refine TrL.unwant rfl rfl rfl ?_
          refine TrL.unwant rfl rfl rfl ?_
          refine TrL.unwant rfl rfl rfl ?_
          refine TrL.unwant rfl rfl rfl ?_
          refine TrL.pickT rfl rfl rfl ?_
          refine TrL.move rfl rfl ?_
          refine TrL.unwant rfl rfl rfl ?_
          refine TrL.unwant rfl rfl rfl ?_
          refine TrL.unwant rfl rfl rfl ?_
          refine TrL.unwant rfl rfl rfl ?_
          refine TrL.unwant rfl rfl rfl ?_
          refine TrL.pickT rfl rfl rfl ?_
          refine TrL.move rfl rfl ?_
          refine TrL.unwant rfl rfl rfl ?_
          refine TrL.unwant rfl rfl rfl ?_
          refine TrL.unwant rfl rfl rfl ?_
          refine TrL.pickT rfl rfl rfl ?_
          refine TrL.nil (At.then_normal ?_)
          refine Tr.condT rfl ?_
          refine Tr.seq ?_
          refine Tr.region ?_
          refine TrL.build rfl rfl pl25 zc25 rfl ?_
          refine TrL.storeLA rfl rfl sz25 ⟨rfl, List.cons_ne_nil _ _⟩ rfl (by repeat (first | with_reducible exact Upd.here | with_reducible apply Upd.there | with_reducible apply Upd.app_nil | with_reducible apply Upd.app_cons)) (by rfl) ?_
          refine TrL.assign rfl rfl ?_
          refine TrL.nil (At.then_normal ?_)
          refine Tr.ret (At.then_ret (At.retX [] (.inl rfl) rfl (Res.cellLA rfl ag25 sz25 (by repeat (first | with_reducible exact Pick.here | with_reducible apply Pick.there | with_reducible apply Pick.app_nil | with_reducible apply Pick.app_cons)) (by rfl) (Res.tmp rfl Res.nil)) (by repeat (first | exact Picks.nil | with_reducible exact Pick.here | with_reducible apply Pick.there | with_reducible apply Pick.app_nil | with_reducible apply Pick.app_cons | apply Picks.cons)) (by 
              first
                | (refine ⟨[RowC encT 4 none ([] : List Tab), RowC encI 1 none ([] : List Int)], fun h _ => ⟨Hp.emp, h, Hp.emp_dj _, Hp.emp_le _, Hp.le.refl _, RowC.nil _, one_stars (RowC.nil _)⟩, bad ?_⟩
                   unfold takeR; simp only []; rw [← hB, ← hD]; rw [if_neg]; rintro ⟨k1, k2, k3, k4, k5⟩; exact False.elim (by simp_all [strOf_nil, strOf])))))
        · try simp only [beq_iff_eq, beq_eq_false_iff_ne, Bool.not_eq_true, Bool.not_eq_false, decide_eq_true_eq, decide_eq_false_iff_not, Bool.not_eq_true', Bool.not_eq_false', bne_iff_ne, Bool.not_eq_eq_eq_not, Bool.not_true, Bool.not_false, ne_eq, Decidable.not_not, Int.not_lt, Int.not_le] at h92
          refine TrL.want rfl rfl ?_
          refine TrL.field0 rfl rfl fl25_0 ?_
          refine TrL.want rfl rfl ?_
          refine TrL.load1 rfl rfl sc22 (Sees.cl1 (by repeat (first | with_reducible exact Pick.here | with_reducible apply Pick.there | with_reducible apply Pick.app_nil | with_reducible apply Pick.app_cons)) (by rfl)) ?_
          refine TrL.want rfl rfl ?_
          refine TrL.lenl rfl rfl se22 ?_
          refine TrL.want rfl rfl ?_
          refine TrL.move rfl rfl ?_
          refine TrL.want rfl rfl ?_
          refine TrL.nei rfl rfl rfl ?_
          refine TrL.pickF rfl rfl rfl ?_
          refine TrL.move rfl rfl ?_
          refine TrL.cases (t := 99) rfl (fun h99 => ?_) (fun h99 => ?_)
          · try simp only [beq_iff_eq, beq_eq_false_iff_ne, Bool.not_eq_true, Bool.not_eq_false, decide_eq_true_eq, decide_eq_false_iff_not, Bool.not_eq_true', Bool.not_eq_false', bne_iff_ne, Bool.not_eq_eq_eq_not, Bool.not_true, Bool.not_false, ne_eq, Decidable.not_not, Int.not_lt, Int.not_le] at h99
            refine TrL.unwant rfl rfl rfl ?_
            refine TrL.unwant rfl rfl rfl ?_
            refine TrL.unwant rfl rfl rfl ?_
            refine TrL.unwant rfl rfl rfl ?_
            refine TrL.unwant rfl rfl rfl ?_
            refine TrL.pickT rfl rfl rfl ?_
            refine TrL.move rfl rfl ?_
            refine TrL.unwant rfl rfl rfl ?_
            refine TrL.unwant rfl rfl rfl ?_
            refine TrL.unwant rfl rfl rfl ?_
            refine TrL.pickT rfl rfl rfl ?_
            refine TrL.nil (At.then_normal ?_)
            refine Tr.condT rfl ?_
            refine Tr.seq ?_
            refine Tr.region ?_
            refine TrL.build rfl rfl pl25 zc25 rfl ?_
            refine TrL.storeLA rfl rfl sz25 ⟨rfl, List.cons_ne_nil _ _⟩ rfl (by repeat (first | with_reducible exact Upd.here | with_reducible apply Upd.there | with_reducible apply Upd.app_nil | with_reducible apply Upd.app_cons)) (by rfl) ?_
            refine TrL.assign rfl rfl ?_
            refine TrL.nil (At.then_normal ?_)
            refine Tr.ret (At.then_ret (At.retX [] (.inl rfl) rfl (Res.cellLA rfl ag25 sz25 (by repeat (first | with_reducible exact Pick.here | with_reducible apply Pick.there | with_reducible apply Pick.app_nil | with_reducible apply Pick.app_cons)) (by rfl) (Res.tmp rfl Res.nil)) (by repeat (first | exact Picks.nil | with_reducible exact Pick.here | with_reducible apply Pick.there | with_reducible apply Pick.app_nil | with_reducible apply Pick.app_cons | apply Picks.cons)) (by 
                first
                  | (refine ⟨[RowC encT 4 none ([] : List Tab), RowC encI 1 none ([] : List Int)], fun h _ => ⟨Hp.emp, h, Hp.emp_dj _, Hp.emp_le _, Hp.le.refl _, RowC.nil _, one_stars (RowC.nil _)⟩, bad ?_⟩
                     unfold takeR; simp only []; rw [← hB, ← hD]; rw [if_neg]; rintro ⟨k1, k2, k3, k4, k5⟩; exact False.elim (by simp_all [strOf_nil, strOf])))))
          · try simp only [beq_iff_eq, beq_eq_false_iff_ne, Bool.not_eq_true, Bool.not_eq_false, decide_eq_true_eq, decide_eq_false_iff_not, Bool.not_eq_true', Bool.not_eq_false', bne_iff_ne, Bool.not_eq_eq_eq_not, Bool.not_true, Bool.not_false, ne_eq, Decidable.not_not, Int.not_lt, Int.not_le] at h99
            refine TrL.want rfl rfl ?_
            refine TrL.field rfl rfl fl25_1 ?_
            refine TrL.want rfl rfl ?_
            refine TrL.load1 rfl rfl sc23 (Sees.cl1 (by repeat (first | with_reducible exact Pick.here | with_reducible apply Pick.there | with_reducible apply Pick.app_nil | with_reducible apply Pick.app_cons)) (by rfl)) ?_
            refine TrL.want rfl rfl ?_
            refine TrL.lenl rfl rfl se23 ?_
            refine TrL.want rfl rfl ?_
            refine TrL.move rfl rfl ?_
            refine TrL.want rfl rfl ?_
            refine TrL.nei rfl rfl rfl ?_
            refine TrL.pickF rfl rfl rfl ?_
            refine TrL.move rfl rfl ?_
            refine TrL.cases (t := 106) rfl (fun h106 => ?_) (fun h106 => ?_)
            · try simp only [beq_iff_eq, beq_eq_false_iff_ne, Bool.not_eq_true, Bool.not_eq_false, decide_eq_true_eq, decide_eq_false_iff_not, Bool.not_eq_true', Bool.not_eq_false', bne_iff_ne, Bool.not_eq_eq_eq_not, Bool.not_true, Bool.not_false, ne_eq, Decidable.not_not, Int.not_lt, Int.not_le] at h106
              refine TrL.unwant rfl rfl rfl ?_
              refine TrL.unwant rfl rfl rfl ?_
              refine TrL.unwant rfl rfl rfl ?_
              refine TrL.pickT rfl rfl rfl ?_
              refine TrL.nil (At.then_normal ?_)
              refine Tr.condT rfl ?_
              refine Tr.seq ?_
              refine Tr.region ?_
              refine TrL.build rfl rfl pl25 zc25 rfl ?_
              refine TrL.storeLA rfl rfl sz25 ⟨rfl, List.cons_ne_nil _ _⟩ rfl (by repeat (first | with_reducible exact Upd.here | with_reducible apply Upd.there | with_reducible apply Upd.app_nil | with_reducible apply Upd.app_cons)) (by rfl) ?_
              refine TrL.assign rfl rfl ?_
              refine TrL.nil (At.then_normal ?_)
              refine Tr.ret (At.then_ret (At.retX [] (.inl rfl) rfl (Res.cellLA rfl ag25 sz25 (by repeat (first | with_reducible exact Pick.here | with_reducible apply Pick.there | with_reducible apply Pick.app_nil | with_reducible apply Pick.app_cons)) (by rfl) (Res.tmp rfl Res.nil)) (by repeat (first | exact Picks.nil | with_reducible exact Pick.here | with_reducible apply Pick.there | with_reducible apply Pick.app_nil | with_reducible apply Pick.app_cons | apply Picks.cons)) (by 
                  first
                    | (refine ⟨[RowC encT 4 none ([] : List Tab), RowC encI 1 none ([] : List Int)], fun h _ => ⟨Hp.emp, h, Hp.emp_dj _, Hp.emp_le _, Hp.le.refl _, RowC.nil _, one_stars (RowC.nil _)⟩, bad ?_⟩
                       unfold takeR; simp only []; rw [← hB, ← hD]; rw [if_neg]; rintro ⟨k1, k2, k3, k4, k5⟩; exact False.elim (by simp_all [strOf_nil, strOf])))))
            · try simp only [beq_iff_eq, beq_eq_false_iff_ne, Bool.not_eq_true, Bool.not_eq_false, decide_eq_true_eq, decide_eq_false_iff_not, Bool.not_eq_true', Bool.not_eq_false', bne_iff_ne, Bool.not_eq_eq_eq_not, Bool.not_true, Bool.not_false, ne_eq, Decidable.not_not, Int.not_lt, Int.not_le] at h106
              refine TrL.want rfl rfl ?_
              refine TrL.loadLA rfl rfl ag25 sz25 (by repeat (first | with_reducible exact Pick.here | with_reducible apply Pick.there | with_reducible apply Pick.app_nil | with_reducible apply Pick.app_cons)) (by rfl) ?_
              refine TrL.want rfl rfl ?_
              refine TrL.call rfl rfl rfl ca31 .nil (fun Ft108 hUt108 => May_spec (e := (⟨B.1, D.1, (numR D.2).1, (numR (numR D.2).2).1⟩ : Ed)) (Own.up hUt108 (by repeat (first | with_reducible exact Pick.here | with_reducible apply Pick.there | with_reducible apply Pick.app_nil | with_reducible apply Pick.app_cons)) (by decide) encT_len) (Own.up hUt108 (by repeat (first | with_reducible exact Pick.here | with_reducible apply Pick.there | with_reducible apply Pick.app_nil | with_reducible apply Pick.app_cons)) (by decide) (fun _ => rfl)) (by show B.1.length ≤ _; omega) (by show D.1.length ≤ _; omega) ?_)
              refine TrL.want rfl rfl ?_
              refine TrL.not rfl rfl ?_
              refine TrL.pickF rfl rfl rfl ?_
              refine TrL.nil (At.then_normal ?_)
              refine Tr.cond rfl (fun h110 => ?_) (fun h110 => ?_)
              · try simp only [beq_iff_eq, beq_eq_false_iff_ne, Bool.not_eq_true, Bool.not_eq_false, decide_eq_true_eq, decide_eq_false_iff_not, Bool.not_eq_true', Bool.not_eq_false', bne_iff_ne, Bool.not_eq_eq_eq_not, Bool.not_true, Bool.not_false, ne_eq, Decidable.not_not, Int.not_lt, Int.not_le] at h110
                refine Tr.seq ?_
                refine Tr.region ?_
                refine TrL.build rfl rfl pl25 zc25 rfl ?_
                refine TrL.storeLA rfl rfl sz25 ⟨rfl, List.cons_ne_nil _ _⟩ rfl (by repeat (first | with_reducible exact Upd.here | with_reducible apply Upd.there | with_reducible apply Upd.app_nil | with_reducible apply Upd.app_cons)) (by rfl) ?_
                refine TrL.assign rfl rfl ?_
                refine TrL.nil (At.then_normal ?_)
                refine Tr.ret (At.then_ret (At.retX [] (.inl rfl) rfl (Res.cellLA rfl ag25 sz25 (by repeat (first | with_reducible exact Pick.here | with_reducible apply Pick.there | with_reducible apply Pick.app_nil | with_reducible apply Pick.app_cons)) (by rfl) (Res.tmp rfl Res.nil)) (by repeat (first | exact Picks.nil | with_reducible exact Pick.here | with_reducible apply Pick.there | with_reducible apply Pick.app_nil | with_reducible apply Pick.app_cons | apply Picks.cons)) (by 
                    first
                      | (refine ⟨[RowC encT 4 none ([] : List Tab), RowC encI 1 none ([] : List Int)], fun h _ => ⟨Hp.emp, h, Hp.emp_dj _, Hp.emp_le _, Hp.le.refl _, RowC.nil _, one_stars (RowC.nil _)⟩, bad ?_⟩
                         unfold takeR; simp only []; rw [← hB, ← hD]; rw [if_neg]; rintro ⟨k1, k2, k3, k4, k5⟩; exact False.elim (by simp_all [strOf_nil, strOf])))))
              · try simp only [beq_iff_eq, beq_eq_false_iff_ne, Bool.not_eq_true, Bool.not_eq_false, decide_eq_true_eq, decide_eq_false_iff_not, Bool.not_eq_true', Bool.not_eq_false', bne_iff_ne, Bool.not_eq_eq_eq_not, Bool.not_true, Bool.not_false, ne_eq, Decidable.not_not, Int.not_lt, Int.not_le] at h110
                refine Tr.skip (At.then_normal ?_)
                refine Tr.seq ?_
                refine Tr.region ?_
                refine TrL.loadLA rfl rfl ag25 sz25 (by repeat (first | with_reducible exact Pick.here | with_reducible apply Pick.there | with_reducible apply Pick.app_nil | with_reducible apply Pick.app_cons)) (by rfl) ?_
                refine TrL.storeLA rfl rfl sz25 ⟨rfl, List.cons_ne_nil _ _⟩ rfl (by repeat (first | with_reducible exact Upd.here | with_reducible apply Upd.there | with_reducible apply Upd.app_nil | with_reducible apply Upd.app_cons)) (by rfl) ?_
                refine TrL.assign rfl rfl ?_
                refine TrL.nil (At.then_normal ?_)
                refine Tr.ret (At.retX [Own 46 4 encT pa ca B.1, Own 3 1 encI pd cd D.1] (.inl rfl) rfl (Res.cellLA rfl ag25 sz25 (by repeat (first | with_reducible exact Pick.here | with_reducible apply Pick.there | with_reducible apply Pick.app_nil | with_reducible apply Pick.app_cons)) (by rfl) (Res.tmp rfl Res.nil)) (by repeat (first | exact Picks.nil | with_reducible exact Pick.here | with_reducible apply Pick.there | with_reducible apply Pick.app_nil | with_reducible apply Pick.app_cons | apply Picks.cons)) (by 
                    refine ⟨[RowC encT 4 pa B.1, RowC encI 1 pd D.1], fun h hs => ?_, ?_⟩
                    · obtain ⟨h1, h2, d, l1, l2, c1, h3, h4, d2, l3, l4, c2, _⟩ := hs
                      exact ⟨h1, h2, d, l1, l2, RowC.ofOwn (k := 4) (by decide) encT_len c1, h3, h4, d2, l3, l4, RowC.ofOwn (k := 1) (by decide) (fun _ => rfl) c2, trivial⟩
                    · have e : takeEd l = ((⟨B.1, D.1, (numR D.2).1, (numR (numR D.2).2).1⟩ : Ed), 0) := by
                        have : takeR l = some (⟨B.1, D.1, (numR D.2).1, (numR (numR D.2).2).1⟩ : Ed) := by
                          unfold takeR
                          simp only []
                          rw [← hB, ← hD]
                          exact if_pos ⟨h85, strOf_nil h92, h99, h106, h110⟩
                        rw [takeEd_R, this]
                      have := hK pa ca pd cd
                      rw [e] at this
                      exact this))
end Go.Proofs.Ytiefmfimbmkdjaa

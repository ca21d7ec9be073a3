/-
  The state behind an edit, by the document: contracts.
  No condition but those that each statement names.
-/
import Derived.Test.YtiefmfimbmkdjaaMfO
namespace Go.Proofs.Ytiefmfimbmkdjaa
set_option linter.unusedSimpArgs false
set_option linter.unusedVariables false
set_option linter.unusedSectionVars false
open Go.RowKit
variable [Obs]


/-- the place of the first table of an id, or -1 -/
def findI (l : List Tab) (v : Int) : Int := if v ∈ l.map (·.id) then ((l.map (·.id)).idxOf v : Nat) else -1
theorem idx_first {l : List Int} {i : Nat} (h : i < l.length) (h2 : l[i] ∉ l.take i) : l.idxOf l[i] = i := by
  have e : l = l.take i ++ (l[i] :: l.drop (i + 1)) := by rw [← List.drop_eq_getElem_cons h, List.take_append_drop]
  have h3 : (l.take i ++ (l[i] :: l.drop (i + 1))).idxOf l[i] = i := by
    rw [List.idxOf_append, if_neg h2, List.idxOf_cons_self]; simp; omega
  rwa [← e] at h3
theorem findI_at {l : List Tab} {i : Nat} (h : i < l.length) (h2 : l[i].id ∉ (l.take i).map (·.id)) : findI l l[i].id = i := by
  have h3 : i < (l.map (·.id)).length := by simpa using h
  have h4 : (l.map (·.id))[i] = l[i].id := by simp
  have h5 := idx_first h3 (by rw [h4, ← List.map_take]; exact h2)
  rw [h4] at h5
  unfold findI
  rw [if_pos (List.mem_map.2 ⟨l[i], List.getElem_mem h, rfl⟩), h5]
theorem findI_neg {l : List Tab} {v : Int} : findI l v < 0 ↔ v ∉ l.map (·.id) := by
  unfold findI
  split
  · rename_i h; constructor
    · intro h2; omega
    · intro h2; exact absurd h h2
  · rename_i h; exact ⟨fun _ => h, fun _ => by omega⟩
theorem findI_ne {l : List Tab} {i : Nat} (h : i < l.length) : findI l l[i].id = i ↔ l[i].id ∉ (l.take i).map (·.id) := by
  refine ⟨fun h1 h2 => ?_, findI_at h⟩
  unfold findI at h1
  rw [if_pos (List.mem_map.2 ⟨l[i], List.getElem_mem h, rfl⟩)] at h1
  obtain ⟨t, ht, he⟩ := List.mem_map.1 h2
  obtain ⟨j, hj, rfl⟩ := List.getElem_of_mem ht
  have hj2 : j < i := by simp at hj; omega
  have h3 : (l.map (·.id)).take (j + 1) ++ (l.map (·.id)).drop (j + 1) = l.map (·.id) := List.take_append_drop _ _
  have h4 : l[i].id ∈ (l.map (·.id)).take (j + 1) := by
    rw [← List.map_take]; refine List.mem_map.2 ⟨l[j], ?_, ?_⟩
    · rw [List.take_succ_eq_append_getElem (by omega)]; exact List.mem_append_right _ (List.mem_singleton.2 rfl)
    · rw [← he]; simp
  have h5 : (l.map (·.id)).idxOf l[i].id < j + 1 := by
    rw [← h3, List.idxOf_append, if_pos h4]
    have := List.idxOf_lt_length_of_mem h4
    simp only [List.length_take] at this; omega
  omega
theorem find_spec {F : Hp} {K : Value → List HProp → Prop} {p : Option Addr} {c : Nat} {l : List Tab} {v : Int} (hS : SlIn F encT 4 p l) (hl : l.length ≤ 100000) (hK : K (.int .i64 (findI l v)) []) : CallK Try.prog F 51 #[.slice p l.length c, .int .i64 v] [] K := by
  refine CallK.enter Try.func51 rfl Try.ntmps51 rfl ?_
  refine Tr.seq ?_
  refine Tr.region ?_
  refine TrL.assign rfl rfl ?_
  refine TrL.nil (At.then_normal ?_)
  refine Tr.seq ?_
  refine Tr.seq ?_
  refine Tr.region ?_
  refine TrL.assign rfl rfl ?_
  refine TrL.nil (At.then_normal ?_)
  refine Tr.block ?_
  refine Tr.loopK [0, 1] (α := Nat) (fun i => [(5, .int .i64 (i : Int))]) (fun i => []) (fun i => i ≤ l.length ∧ v ∉ (l.take i).map (·.id)) (fun i => l.length - i) (0) (by rfl) ?_ (by repeat (first | exact Sub.nil | refine Sub.cons (by rfl) ?_)) (by repeat (first | exact Picks.nil | with_reducible exact Pick.here | with_reducible apply Pick.there | with_reducible apply Pick.app_nil | with_reducible apply Pick.app_cons | apply Picks.cons)) ?_
  · exact ⟨Nat.zero_le _, by simp⟩
  rintro i ⟨hi1, hi2⟩
  refine Tr.seq ?_
  refine Tr.seq ?_
  refine Tr.region ?_
  refine TrL.move rfl rfl ?_
  refine TrL.move rfl rfl ?_
  refine TrL.lenl rfl rfl se22 ?_
  refine TrL.lss rfl rfl rfl ?_
  refine TrL.nil (At.then_normal ?_)
  refine Tr.cond rfl (fun h9 => ?_) (fun h9 => ?_)
  · try simp only [beq_iff_eq, beq_eq_false_iff_ne, Bool.not_eq_true, Bool.not_eq_false, decide_eq_true_eq, decide_eq_false_iff_not, Bool.not_eq_true', Bool.not_eq_false', bne_iff_ne, Bool.not_eq_eq_eq_not, Bool.not_true, Bool.not_false, ne_eq, Decidable.not_not, Int.not_lt, Int.not_le] at h9
    refine Tr.skip (At.then_normal ?_)
    refine Tr.seq ?_
    refine Tr.block ?_
    refine Tr.seq ?_
    refine Tr.region ?_
    refine TrL.move rfl rfl ?_
    refine TrL.move rfl rfl ?_
    refine TrL.idxF rfl rfl rfl se22 sz46 hS rfl rfl rfl (List.getElem?_eq_getElem (by omega)) (fun b14 o14 hp14 hc14 => ?_)
    refine TrL.field0 rfl rfl fl46_0 ?_
    refine TrL.loadR1 rfl rfl sc3 (Cells.part hc14 (j := 0) rfl) ?_
    refine TrL.move rfl rfl ?_
    refine TrL.eqi rfl rfl rfl ?_
    refine TrL.nil (At.then_normal ?_)
    refine Tr.cond rfl (fun h18 => ?_) (fun h18 => ?_)
    · try simp only [beq_iff_eq, beq_eq_false_iff_ne, Bool.not_eq_true, Bool.not_eq_false, decide_eq_true_eq, decide_eq_false_iff_not, Bool.not_eq_true', Bool.not_eq_false', bne_iff_ne, Bool.not_eq_eq_eq_not, Bool.not_true, Bool.not_false, ne_eq, Decidable.not_not, Int.not_lt, Int.not_le] at h18
      refine Tr.seq ?_
      refine Tr.region ?_
      refine TrL.move rfl rfl ?_
      refine TrL.assign rfl rfl ?_
      refine TrL.nil (At.then_normal ?_)
      refine Tr.ret (At.block_ret (At.then_ret (At.then_ret (At.block_ret (At.then_ret (At.retP [] (.inl rfl) rfl (Res.tmp rfl Res.nil) (by repeat (first | exact Picks.nil | with_reducible exact Pick.here | with_reducible apply Pick.there | with_reducible apply Pick.app_nil | with_reducible apply Pick.app_cons | apply Picks.cons)) (by 
          have e : findI l v = i := by subst h18; exact findI_at (by omega) hi2
          rw [e] at hK
          exact hK)))))))
    · try simp only [beq_iff_eq, beq_eq_false_iff_ne, Bool.not_eq_true, Bool.not_eq_false, decide_eq_true_eq, decide_eq_false_iff_not, Bool.not_eq_true', Bool.not_eq_false', bne_iff_ne, Bool.not_eq_eq_eq_not, Bool.not_true, Bool.not_false, ne_eq, Decidable.not_not, Int.not_lt, Int.not_le] at h18
      refine Tr.skip (At.block_normal (At.then_normal ?_))
      refine Tr.region ?_
      refine TrL.move rfl rfl ?_
      refine TrL.addI rfl rfl rfl (by omega) ?_
      refine TrL.assign rfl rfl ?_
      refine TrL.nil ?_
      refine At.again (i + 1) ⟨by show i + 1 ≤ l.length; omega, ?_⟩ (by omega) (by repeat (first | exact Sub.nil | refine Sub.cons (by rfl) ?_)) (by repeat (first | exact Picks.nil | with_reducible exact Pick.here | with_reducible apply Pick.there | with_reducible apply Pick.app_nil | with_reducible apply Pick.app_cons | apply Picks.cons))
      rw [← map_snoc (by omega)]
      simp only [List.mem_append, List.mem_singleton, not_or]
      exact ⟨hi2, fun h => h18 h.symm⟩
  · try simp only [beq_iff_eq, beq_eq_false_iff_ne, Bool.not_eq_true, Bool.not_eq_false, decide_eq_true_eq, decide_eq_false_iff_not, Bool.not_eq_true', Bool.not_eq_false', bne_iff_ne, Bool.not_eq_eq_eq_not, Bool.not_true, Bool.not_false, ne_eq, Decidable.not_not, Int.not_lt, Int.not_le] at h9
    refine Tr.exit (At.then_exit (At.then_exit (At.block_hit (At.then_normal ?_))))
    refine Tr.seq ?_
    refine Tr.region ?_
    refine TrL.assign rfl rfl ?_
    refine TrL.nil (At.then_normal ?_)
    refine Tr.ret (At.retP [] (.inl rfl) rfl (Res.tmp rfl Res.nil) (by repeat (first | exact Picks.nil | with_reducible exact Pick.here | with_reducible apply Pick.there | with_reducible apply Pick.app_nil | with_reducible apply Pick.app_cons | apply Picks.cons)) (by 
        have e : findI l v = -1 := by unfold findI; rw [if_neg]; rwa [List.take_of_length_le (by omega)] at hi2
        rw [e] at hK
        exact hK))

theorem ahead_spec {F : Hp} {K : Value → List HProp → Prop} {a b : Tab} (hK : K (.bool (ltT a b)) []) : CallK Try.prog F 69 #[.agg (encT a).toArray, .agg (encT b).toArray] [] K := by
  refine CallK.enter Try.func69 rfl Try.ntmps69 rfl ?_
  refine Tr.seq ?_
  refine Tr.region ?_
  refine TrL.boxA rfl rfl (fun b2 => ?_)
  refine TrL.boxA rfl rfl (fun b3 => ?_)
  refine TrL.assign rfl rfl ?_
  refine TrL.nil (At.then_normal ?_)
  refine Tr.seq ?_
  refine Tr.seq ?_
  refine Tr.region ?_
  refine TrL.field rfl rfl fl46_1 ?_
  refine TrL.load1 rfl rfl sc3 (Sees.cl1 (by repeat (first | with_reducible exact Pick.here | with_reducible apply Pick.there | with_reducible apply Pick.app_nil | with_reducible apply Pick.app_cons)) (by rfl)) ?_
  refine TrL.field rfl rfl fl46_1 ?_
  refine TrL.load1 rfl rfl sc3 (Sees.cl1 (by repeat (first | with_reducible exact Pick.here | with_reducible apply Pick.there | with_reducible apply Pick.app_nil | with_reducible apply Pick.app_cons)) (by rfl)) ?_
  refine TrL.nei rfl rfl rfl ?_
  refine TrL.nil (At.then_normal ?_)
  refine Tr.cond rfl (fun h9 => ?_) (fun h9 => ?_)
  · try simp only [beq_iff_eq, beq_eq_false_iff_ne, Bool.not_eq_true, Bool.not_eq_false, decide_eq_true_eq, decide_eq_false_iff_not, Bool.not_eq_true', Bool.not_eq_false', bne_iff_ne, Bool.not_eq_eq_eq_not, Bool.not_true, Bool.not_false, ne_eq, Decidable.not_not, Int.not_lt, Int.not_le] at h9
    refine Tr.seq ?_
    refine Tr.region ?_
    refine TrL.field rfl rfl fl46_1 ?_
    refine TrL.load1 rfl rfl sc3 (Sees.cl1 (by repeat (first | with_reducible exact Pick.here | with_reducible apply Pick.there | with_reducible apply Pick.app_nil | with_reducible apply Pick.app_cons)) (by rfl)) ?_
    refine TrL.field rfl rfl fl46_1 ?_
    refine TrL.load1 rfl rfl sc3 (Sees.cl1 (by repeat (first | with_reducible exact Pick.here | with_reducible apply Pick.there | with_reducible apply Pick.app_nil | with_reducible apply Pick.app_cons)) (by rfl)) ?_
    refine TrL.lss rfl rfl rfl ?_
    refine TrL.assign rfl rfl ?_
    refine TrL.nil (At.then_normal ?_)
    refine Tr.ret (At.then_ret (At.retP [] (.inl rfl) rfl (Res.tmp rfl Res.nil) (by repeat (first | exact Picks.nil | with_reducible exact Pick.here | with_reducible apply Pick.there | with_reducible apply Pick.app_nil | with_reducible apply Pick.app_cons | apply Picks.cons)) (by 
        unfold ltT at hK
        rw [if_neg h9] at hK
        exact hK)))
  · try simp only [beq_iff_eq, beq_eq_false_iff_ne, Bool.not_eq_true, Bool.not_eq_false, decide_eq_true_eq, decide_eq_false_iff_not, Bool.not_eq_true', Bool.not_eq_false', bne_iff_ne, Bool.not_eq_eq_eq_not, Bool.not_true, Bool.not_false, ne_eq, Decidable.not_not, Int.not_lt, Int.not_le] at h9
    refine Tr.skip (At.then_normal ?_)
    refine Tr.seq ?_
    refine Tr.seq ?_
    refine Tr.region ?_
    refine TrL.field rfl rfl fl46_1 ?_
    refine TrL.load1 rfl rfl sc3 (Sees.cl1 (by repeat (first | with_reducible exact Pick.here | with_reducible apply Pick.there | with_reducible apply Pick.app_nil | with_reducible apply Pick.app_cons)) (by rfl)) ?_
    refine TrL.eqi rfl rfl rfl ?_
    refine TrL.nil (At.then_normal ?_)
    refine Tr.cond rfl (fun h17 => ?_) (fun h17 => ?_)
    · try simp only [beq_iff_eq, beq_eq_false_iff_ne, Bool.not_eq_true, Bool.not_eq_false, decide_eq_true_eq, decide_eq_false_iff_not, Bool.not_eq_true', Bool.not_eq_false', bne_iff_ne, Bool.not_eq_eq_eq_not, Bool.not_true, Bool.not_false, ne_eq, Decidable.not_not, Int.not_lt, Int.not_le] at h17
      refine Tr.seq ?_
      refine Tr.region ?_
      refine TrL.field0 rfl rfl fl46_0 ?_
      refine TrL.load1 rfl rfl sc3 (Sees.cl1 (by repeat (first | with_reducible exact Pick.here | with_reducible apply Pick.there | with_reducible apply Pick.app_nil | with_reducible apply Pick.app_cons)) (by rfl)) ?_
      refine TrL.field0 rfl rfl fl46_0 ?_
      refine TrL.load1 rfl rfl sc3 (Sees.cl1 (by repeat (first | with_reducible exact Pick.here | with_reducible apply Pick.there | with_reducible apply Pick.app_nil | with_reducible apply Pick.app_cons)) (by rfl)) ?_
      refine TrL.gtr rfl rfl rfl ?_
      refine TrL.assign rfl rfl ?_
      refine TrL.nil (At.then_normal ?_)
      refine Tr.ret (At.then_ret (At.retP [] (.inl rfl) rfl (Res.tmp rfl Res.nil) (by repeat (first | exact Picks.nil | with_reducible exact Pick.here | with_reducible apply Pick.there | with_reducible apply Pick.app_nil | with_reducible apply Pick.app_cons | apply Picks.cons)) (by 
          unfold ltT at hK
          rw [if_pos h9, if_pos h17] at hK
          exact hK)))
    · try simp only [beq_iff_eq, beq_eq_false_iff_ne, Bool.not_eq_true, Bool.not_eq_false, decide_eq_true_eq, decide_eq_false_iff_not, Bool.not_eq_true', Bool.not_eq_false', bne_iff_ne, Bool.not_eq_eq_eq_not, Bool.not_true, Bool.not_false, ne_eq, Decidable.not_not, Int.not_lt, Int.not_le] at h17
      refine Tr.skip (At.then_normal ?_)
      refine Tr.seq ?_
      refine Tr.region ?_
      refine TrL.field rfl rfl fl46_2 ?_
      refine TrL.load1 rfl rfl sc9 (Sees.cl1 (by repeat (first | with_reducible exact Pick.here | with_reducible apply Pick.there | with_reducible apply Pick.app_nil | with_reducible apply Pick.app_cons)) (by rfl)) ?_
      refine TrL.field rfl rfl fl46_2 ?_
      refine TrL.load1 rfl rfl sc9 (Sees.cl1 (by repeat (first | with_reducible exact Pick.here | with_reducible apply Pick.there | with_reducible apply Pick.app_nil | with_reducible apply Pick.app_cons)) (by rfl)) ?_
      refine TrL.lts rfl rfl rfl ?_
      refine TrL.assign rfl rfl ?_
      refine TrL.nil (At.then_normal ?_)
      refine Tr.ret (At.retP [] (.inl rfl) rfl (Res.tmp rfl Res.nil) (by repeat (first | exact Picks.nil | with_reducible exact Pick.here | with_reducible apply Pick.there | with_reducible apply Pick.app_nil | with_reducible apply Pick.app_cons | apply Picks.cons)) (by 
          unfold ltT at hK
          rw [if_pos h9, if_neg h17] at hK
          exact hK))

theorem putT_at {l : List Tab} {t : Tab} {k : Nat} (h1 : k ≤ l.length) (h2 : ∀ u ∈ l.take k, ltT u t = true) (h3 : ∀ h : k < l.length, ltT l[k] t = false) : putT l t = (l.take k ++ [t]) ++ l.drop k := by
  have e : l = l.take k ++ l.drop k := (List.take_append_drop k l).symm
  have ht : l.takeWhile (fun u => ltT u t) = l.take k := by
    conv => lhs; rw [e]
    rw [List.takeWhile_append_of_pos h2]
    by_cases hk : k < l.length
    · rw [List.drop_eq_getElem_cons hk, List.takeWhile_cons_of_neg (by simp [h3 hk])]; simp
    · rw [List.drop_of_length_le (by omega)]; simp
  have hd : l.dropWhile (fun u => ltT u t) = l.drop k := by
    conv => lhs; rw [e]
    rw [List.dropWhile_append_of_pos h2]
    by_cases hk : k < l.length
    · rw [List.drop_eq_getElem_cons hk, List.dropWhile_cons_of_neg (by simp [h3 hk])]
    · rw [List.drop_of_length_le (by omega)]; simp
  unfold putT; rw [ht, hd]; simp
theorem put_spec {F : Hp} {K : Value → List HProp → Prop} {p : Option Addr} {c : Nat} {l : List Tab} {t : Tab} (hS : SlIn F encT 4 p l) (hl : l.length ≤ 100000) (hc : l.length ≤ c) (hK : ∀ p' c', K (.slice p' (putT l t).length c') [Own 46 4 encT p' c' (putT l t)]) :
    CallK Try.prog F 52 #[.slice p l.length c, .agg (encT t).toArray] [] K := by
  refine CallK.enter Try.func52 rfl Try.ntmps52 rfl ?_
  refine Tr.seq ?_
  refine Tr.region ?_
  refine TrL.boxA rfl rfl (fun b3 => ?_)
  refine TrL.assign rfl rfl ?_
  refine TrL.nil (At.then_normal ?_)
  refine Tr.seq ?_
  refine Tr.region ?_
  refine TrL.assign rfl rfl ?_
  refine TrL.nil (At.then_normal ?_)
  refine Tr.seq ?_
  refine Tr.cutK [0, 3] (β := Nat) (fun k => [(5, .int .i64 (k : Int))]) (fun k => [cl b3 (encT t) 46]) (fun k => k ≤ l.length ∧ (∀ u ∈ l.take k, ltT u t = true) ∧ ∀ h : k < l.length, ltT l[k] t = false) (by rfl) ?_ ?_
  · skip
    refine Tr.block ?_
    refine Tr.loopK [0, 3] (α := Nat) (fun k => [(5, .int .i64 (k : Int))]) (fun k => []) (fun k => k ≤ l.length ∧ ∀ u ∈ l.take k, ltT u t = true) (fun k => l.length - k) (0) (by rfl) ?_ (by repeat (first | exact Sub.nil | refine Sub.cons (by rfl) ?_)) (by repeat (first | exact Picks.nil | with_reducible exact Pick.here | with_reducible apply Pick.there | with_reducible apply Pick.app_nil | with_reducible apply Pick.app_cons | apply Picks.cons)) ?_
    · exact ⟨Nat.zero_le _, by simp⟩
    rintro k ⟨hk1, hk2⟩
    refine Tr.seq ?_
    refine Tr.seq ?_
    refine Tr.regionQ mixed (by kernel_rfl) ?_
    refine TrL.move rfl rfl ?_
    refine TrL.move rfl rfl ?_
    refine TrL.lenl rfl rfl se22 ?_
    refine TrL.lss rfl rfl rfl ?_
    refine TrL.move rfl rfl ?_
    refine TrL.cases (t := 11) rfl (fun h11 => ?_) (fun h11 => ?_)
    · try simp only [beq_iff_eq, beq_eq_false_iff_ne, Bool.not_eq_true, Bool.not_eq_false, decide_eq_true_eq, decide_eq_false_iff_not, Bool.not_eq_true', Bool.not_eq_false', bne_iff_ne, Bool.not_eq_eq_eq_not, Bool.not_true, Bool.not_false, ne_eq, Decidable.not_not, Int.not_lt, Int.not_le] at h11
      refine TrL.want rfl rfl ?_
      refine TrL.move rfl rfl ?_
      refine TrL.want rfl rfl ?_
      refine TrL.move rfl rfl ?_
      refine TrL.want rfl rfl ?_
      refine TrL.idxF rfl rfl rfl se22 sz46 hS rfl rfl rfl (List.getElem?_eq_getElem (by omega)) (fun b14 o14 hp14 hc14 => ?_)
      refine TrL.want rfl rfl ?_
      refine TrL.loadRA rfl rfl ag46 sz46 (by assumption) (by rfl) ?_
      refine TrL.want rfl rfl ?_
      refine TrL.loadLA rfl rfl ag46 sz46 (by repeat (first | with_reducible exact Pick.here | with_reducible apply Pick.there | with_reducible apply Pick.app_nil | with_reducible apply Pick.app_cons)) (by rfl) ?_
      refine TrL.want rfl rfl ?_
      refine TrL.callQ rfl rfl rfl ca69 (fun Ft17 hUt17 => ahead_spec rfl) ?_
      refine TrL.pickT rfl rfl rfl ?_
      refine TrL.nilQ (At.then_normal ?_)
      refine Tr.cond rfl (fun h18 => ?_) (fun h18 => ?_)
      · try simp only [beq_iff_eq, beq_eq_false_iff_ne, Bool.not_eq_true, Bool.not_eq_false, decide_eq_true_eq, decide_eq_false_iff_not, Bool.not_eq_true', Bool.not_eq_false', bne_iff_ne, Bool.not_eq_eq_eq_not, Bool.not_true, Bool.not_false, ne_eq, Decidable.not_not, Int.not_lt, Int.not_le] at h18
        refine Tr.skip (At.then_normal ?_)
        refine Tr.block ?_
        refine Tr.region ?_
        refine TrL.move rfl rfl ?_
        refine TrL.addI rfl rfl rfl (by omega) ?_
        refine TrL.assign rfl rfl ?_
        refine TrL.nil (At.block_normal ?_)
        refine At.again (k + 1) ⟨by show k + 1 ≤ l.length; omega, ?_⟩ (by omega) (by repeat (first | exact Sub.nil | refine Sub.cons (by rfl) ?_)) (by repeat (first | exact Picks.nil | with_reducible exact Pick.here | with_reducible apply Pick.there | with_reducible apply Pick.app_nil | with_reducible apply Pick.app_cons | apply Picks.cons))
        rw [List.take_succ_eq_append_getElem (by omega)]
        intro u hu
        rcases List.mem_append.1 hu with h | h
        · exact hk2 u h
        · rw [List.mem_singleton.1 h]; exact h18
      · try simp only [beq_iff_eq, beq_eq_false_iff_ne, Bool.not_eq_true, Bool.not_eq_false, decide_eq_true_eq, decide_eq_false_iff_not, Bool.not_eq_true', Bool.not_eq_false', bne_iff_ne, Bool.not_eq_eq_eq_not, Bool.not_true, Bool.not_false, ne_eq, Decidable.not_not, Int.not_lt, Int.not_le] at h18
        refine Tr.exit (At.then_exit (At.then_exit (At.block_hit ?_)))
        refine At.meetK k ⟨by omega, hk2, fun h => h18⟩ (by repeat (first | exact Sub.nil | refine Sub.cons (by rfl) ?_)) (by repeat (first | exact Picks.nil | with_reducible exact Pick.here | with_reducible apply Pick.there | with_reducible apply Pick.app_nil | with_reducible apply Pick.app_cons | apply Picks.cons))
    · try simp only [beq_iff_eq, beq_eq_false_iff_ne, Bool.not_eq_true, Bool.not_eq_false, decide_eq_true_eq, decide_eq_false_iff_not, Bool.not_eq_true', Bool.not_eq_false', bne_iff_ne, Bool.not_eq_eq_eq_not, Bool.not_true, Bool.not_false, ne_eq, Decidable.not_not, Int.not_lt, Int.not_le] at h11
      refine TrL.unwant rfl rfl rfl ?_
      refine TrL.unwant rfl rfl rfl ?_
      refine TrL.unwant rfl rfl rfl ?_
      refine TrL.unwant rfl rfl rfl ?_
      refine TrL.unwant rfl rfl rfl ?_
      refine TrL.unwant rfl rfl rfl ?_
      refine TrL.pickF rfl rfl rfl ?_
      refine TrL.nilQ (At.then_normal ?_)
      refine Tr.condF rfl ?_
      refine Tr.exit (At.then_exit (At.then_exit (At.block_hit ?_)))
      refine At.meetK k ⟨by omega, hk2, fun h => absurd h (by omega)⟩ (by repeat (first | exact Sub.nil | refine Sub.cons (by rfl) ?_)) (by repeat (first | exact Picks.nil | with_reducible exact Pick.here | with_reducible apply Pick.there | with_reducible apply Pick.app_nil | with_reducible apply Pick.app_cons | apply Picks.cons))
  · skip
    rintro k ⟨hk1, hk2, hk3⟩
    refine Tr.seq ?_
    refine Tr.region ?_
    refine TrL.assign rfl rfl ?_
    refine TrL.nil (At.then_normal ?_)
    refine Tr.seq ?_
    refine Tr.own0 46 4 encT ?_
    refine Tr.region ?_
    refine TrL.move rfl rfl ?_
    refine TrL.move rfl rfl ?_
    refine TrL.move rfl rfl ?_
    refine TrL.cutH rfl rfl rfl se22 sz46 (by omega) (by omega) ?_
    refine TrL.appendSl (l2 := l.take k) rfl rfl se22 sz46 by46 zc46 rfl (by decide) (by repeat (first | with_reducible exact Pick.here | with_reducible apply Pick.there | with_reducible apply Pick.app_nil | with_reducible apply Pick.app_cons)) (SlIn.take hS k) encT_len (fun _ => rfl) rfl (by simp <;> omega) rfl (by simp only [List.length_take, List.length_nil]; omega) (by simp only [List.length_take, List.length_nil, maxLen]; omega) (fun p25 cap25 => ?_)
    rw [List.nil_append]
    refine TrL.assign rfl rfl ?_
    refine TrL.nil (At.then_normal ?_)
    refine Tr.seq ?_
    refine Tr.region ?_
    refine TrL.move rfl rfl ?_
    refine TrL.loadLA rfl rfl ag46 sz46 (by repeat (first | with_reducible exact Pick.here | with_reducible apply Pick.there | with_reducible apply Pick.app_nil | with_reducible apply Pick.app_cons)) (by rfl) ?_
    refine TrL.buildSlA rfl rfl se22 sz46 zc46 rfl rfl rfl (fun b28 => ?_)
    refine TrL.append1 (v := t) rfl rfl se22 sz46 by46 zc46 rfl (by decide) (by repeat (first | with_reducible exact Pick.here | with_reducible apply Pick.there | with_reducible apply Pick.app_nil | with_reducible apply Pick.app_cons)) (by repeat (first | with_reducible exact Pick.here | with_reducible apply Pick.there | with_reducible apply Pick.app_nil | with_reducible apply Pick.app_cons)) (by rfl) (by rfl) (by rfl) (by rfl) (by decide) (by simp only [List.length_take]; omega) (fun p29 cap29 => ?_)
    refine TrL.assign rfl rfl ?_
    refine TrL.nil (At.then_normal ?_)
    refine Tr.seq ?_
    refine Tr.region ?_
    refine TrL.move rfl rfl ?_
    refine TrL.move rfl rfl ?_
    refine TrL.move rfl rfl ?_
    refine TrL.cutL rfl rfl rfl se22 sz46 (by omega) (by omega) ?_
    refine TrL.appendSl (l2 := l.drop k) rfl rfl se22 sz46 by46 zc46 rfl (by decide) (by repeat (first | with_reducible exact Pick.here | with_reducible apply Pick.there | with_reducible apply Pick.app_nil | with_reducible apply Pick.app_cons)) (by rw [Int.toNat_natCast]; exact SlIn.drop hS hc) encT_len (fun _ => rfl) rfl (by simp <;> omega) rfl (by simp only [List.length_append, List.length_take, List.length_drop, List.length_singleton]; omega) (by simp only [List.length_append, List.length_take, List.length_drop, List.length_singleton, maxLen]; omega) (fun p34 cap34 => ?_)
    refine TrL.assign rfl rfl ?_
    refine TrL.nil (At.then_normal ?_)
    refine Tr.ret (At.retP [Own 46 4 encT p34 cap34 ((l.take k ++ [t]) ++ l.drop k)] (.inl rfl) rfl (Res.tmp rfl Res.nil) (by repeat (first | exact Picks.nil | with_reducible exact Pick.here | with_reducible apply Pick.there | with_reducible apply Pick.app_nil | with_reducible apply Pick.app_cons | apply Picks.cons)) (by 
        have e : putT l t = (l.take k ++ [t]) ++ l.drop k := putT_at (by omega) hk2 hk3
        have := hK p34 cap34
        rw [e] at this
        exact this))

theorem apart_no {l : List Tab} {i j : Nat} (hi : i < l.length) (hj : j < i) (h1 : 0 < l[i].level) (h2 : l[i].level = l[j].level) (h3 : blt l[i].hi l[j].lo = false) (h4 : blt l[j].hi l[i].lo = false) : decide (apartL l) = false := by
  refine decide_eq_false fun h => ?_
  have h5 := List.pairwise_iff_getElem.1 h j i (by omega) hi hj
  unfold apartT at h5
  rw [h3, h4, decide_eq_true (show 0 < l[j].level by omega), decide_eq_true h2.symm] at h5
  cases h5
theorem apart_yes {a b : Tab} (h : b.level ≤ 0 ∨ b.level ≠ a.level ∨ blt b.hi a.lo = true ∨ blt a.hi b.lo = true) : apartT a b = true := by
  unfold apartT
  rcases h with h | h | h | h
  · by_cases h2 : a.level = b.level
    · rw [decide_eq_false (show ¬ 0 < a.level by omega)]; rfl
    · rw [decide_eq_false h2]; simp
  · rw [decide_eq_false (show ¬ a.level = b.level from fun h2 => h h2.symm)]; simp
  · rw [h]; simp
  · rw [h]; simp
theorem apart_snoc {l : List Tab} {i : Nat} (hi : i < l.length) (h : apartL (l.take i)) (h2 : ∀ k : Nat, ∀ h : k < i, apartT l[k] l[i] = true) : apartL (l.take (i + 1)) := by
  unfold apartL at *
  rw [List.take_succ_eq_append_getElem hi, List.pairwise_append]
  refine ⟨h, List.pairwise_singleton _ _, fun a ha b hb => ?_⟩
  obtain ⟨k, hk, rfl⟩ := List.getElem_of_mem ha
  rw [List.mem_singleton.1 hb, List.getElem_take]
  exact h2 k (by simp at hk; omega)
theorem apart_one {l : List Tab} {i j : Nat} (h : ∀ k : Nat, ∀ h : k < j, ∀ h2 : k < l.length, ∀ h3 : i < l.length, apartT l[k] l[i] = true) {h4 : j < l.length} {h5 : i < l.length} (e : apartT l[j] l[i] = true) : ∀ k : Nat, ∀ h : k < j + 1, ∀ h2 : k < l.length, ∀ h3 : i < l.length, apartT l[k] l[i] = true := fun k hk h2 h3 => by
  by_cases hkj : k = j
  · subst hkj; exact e
  · exact h k (by omega) h2 h3
theorem apart_spec {F : Hp} {K : Value → List HProp → Prop} {p : Option Addr} {c : Nat} {l : List Tab} (hS : SlIn F encT 4 p l) (hl : l.length ≤ 100000) (hK : K (.bool (decide (apartL l))) []) : CallK Try.prog F 53 #[.slice p l.length c] [] K := by
  refine CallK.enter Try.func53 rfl Try.ntmps53 rfl ?_
  refine Tr.seq ?_
  refine Tr.region ?_
  refine TrL.assign rfl rfl ?_
  refine TrL.nil (At.then_normal ?_)
  refine Tr.seq ?_
  refine Tr.seq ?_
  refine Tr.region ?_
  refine TrL.assign rfl rfl ?_
  refine TrL.nil (At.then_normal ?_)
  refine Tr.block ?_
  refine Tr.loopK [0] (α := Nat) (fun i => [(3, .int .i64 (i : Int))]) (fun i => []) (fun i => i ≤ l.length ∧ apartL (l.take i)) (fun i => l.length - i) (0) (by rfl) ?_ (by repeat (first | exact Sub.nil | refine Sub.cons (by rfl) ?_)) (by repeat (first | exact Picks.nil | with_reducible exact Pick.here | with_reducible apply Pick.there | with_reducible apply Pick.app_nil | with_reducible apply Pick.app_cons | apply Picks.cons)) ?_
  · exact ⟨Nat.zero_le _, by simp [apartL]⟩
  rintro i ⟨hi1, hi2⟩
  refine Tr.seq ?_
  refine Tr.seq ?_
  refine Tr.region ?_
  refine TrL.move rfl rfl ?_
  refine TrL.move rfl rfl ?_
  refine TrL.lenl rfl rfl se22 ?_
  refine TrL.lss rfl rfl rfl ?_
  refine TrL.nil (At.then_normal ?_)
  refine Tr.cond rfl (fun h8 => ?_) (fun h8 => ?_)
  · try simp only [beq_iff_eq, beq_eq_false_iff_ne, Bool.not_eq_true, Bool.not_eq_false, decide_eq_true_eq, decide_eq_false_iff_not, Bool.not_eq_true', Bool.not_eq_false', bne_iff_ne, Bool.not_eq_eq_eq_not, Bool.not_true, Bool.not_false, ne_eq, Decidable.not_not, Int.not_lt, Int.not_le] at h8
    refine Tr.skip (At.then_normal ?_)
    refine Tr.seq ?_
    refine Tr.block ?_
    refine Tr.seq ?_
    refine Tr.region ?_
    refine TrL.assign rfl rfl ?_
    refine TrL.nil (At.then_normal ?_)
    refine Tr.block ?_
    refine Tr.loopK [0, 3] (α := Nat) (fun j => [(4, .int .i64 (j : Int))]) (fun j => []) (fun j => j ≤ i ∧ ∀ k : Nat, ∀ h : k < j, ∀ h2 : k < l.length, ∀ h3 : i < l.length, apartT l[k] l[i] = true) (fun j => i - j) (0) (by rfl) ?_ (by repeat (first | exact Sub.nil | refine Sub.cons (by rfl) ?_)) (by repeat (first | exact Picks.nil | with_reducible exact Pick.here | with_reducible apply Pick.there | with_reducible apply Pick.app_nil | with_reducible apply Pick.app_cons | apply Picks.cons)) ?_
    · exact ⟨Nat.zero_le _, fun k h => absurd h (Nat.not_lt_zero _)⟩
    rintro j ⟨hj1, hj2⟩
    refine Tr.seq ?_
    refine Tr.seq ?_
    refine Tr.region ?_
    refine TrL.move rfl rfl ?_
    refine TrL.move rfl rfl ?_
    refine TrL.lss rfl rfl rfl ?_
    refine TrL.nil (At.then_normal ?_)
    refine Tr.cond rfl (fun h13 => ?_) (fun h13 => ?_)
    · try simp only [beq_iff_eq, beq_eq_false_iff_ne, Bool.not_eq_true, Bool.not_eq_false, decide_eq_true_eq, decide_eq_false_iff_not, Bool.not_eq_true', Bool.not_eq_false', bne_iff_ne, Bool.not_eq_eq_eq_not, Bool.not_true, Bool.not_false, ne_eq, Decidable.not_not, Int.not_lt, Int.not_le] at h13
      refine Tr.skip (At.then_normal ?_)
      refine Tr.seq ?_
      refine Tr.block ?_
      refine Tr.seq ?_
      refine Tr.regionQ mixed (by kernel_rfl) ?_
      refine TrL.move rfl rfl ?_
      refine TrL.move rfl rfl ?_
      refine TrL.idxF rfl rfl rfl se22 sz46 hS rfl rfl rfl (List.getElem?_eq_getElem (by omega)) (fun b18 o18 hp18 hc18 => ?_)
      refine TrL.field rfl rfl fl46_1 ?_
      refine TrL.loadR1 rfl rfl sc3 (Cells.part hc18 (j := 1) rfl) ?_
      refine TrL.gtr rfl rfl rfl ?_
      refine TrL.move rfl rfl ?_
      refine TrL.cases (t := 22) rfl (fun h22 => ?_) (fun h22 => ?_)
      · try simp only [beq_iff_eq, beq_eq_false_iff_ne, Bool.not_eq_true, Bool.not_eq_false, decide_eq_true_eq, decide_eq_false_iff_not, Bool.not_eq_true', Bool.not_eq_false', bne_iff_ne, Bool.not_eq_eq_eq_not, Bool.not_true, Bool.not_false, ne_eq, Decidable.not_not, Int.not_lt, Int.not_le] at h22
        refine TrL.want rfl rfl ?_
        refine TrL.move rfl rfl ?_
        refine TrL.want rfl rfl ?_
        refine TrL.move rfl rfl ?_
        refine TrL.want rfl rfl ?_
        refine TrL.idxF rfl rfl rfl se22 sz46 hS rfl rfl rfl (List.getElem?_eq_getElem (by omega)) (fun b25 o25 hp25 hc25 => ?_)
        refine TrL.want rfl rfl ?_
        refine TrL.field rfl rfl fl46_1 ?_
        refine TrL.want rfl rfl ?_
        refine TrL.loadR1 rfl rfl sc3 (Cells.part hc25 (j := 1) rfl) ?_
        refine TrL.want rfl rfl ?_
        refine TrL.move rfl rfl ?_
        refine TrL.want rfl rfl ?_
        refine TrL.move rfl rfl ?_
        refine TrL.want rfl rfl ?_
        refine TrL.idxF rfl rfl rfl se22 sz46 hS rfl rfl rfl (List.getElem?_eq_getElem (by omega)) (fun b30 o30 hp30 hc30 => ?_)
        refine TrL.want rfl rfl ?_
        refine TrL.field rfl rfl fl46_1 ?_
        refine TrL.want rfl rfl ?_
        refine TrL.loadR1 rfl rfl sc3 (Cells.part hc30 (j := 1) rfl) ?_
        refine TrL.want rfl rfl ?_
        refine TrL.eqi rfl rfl rfl ?_
        refine TrL.pickT rfl rfl rfl ?_
        refine TrL.move rfl rfl ?_
        refine TrL.cases (t := 35) rfl (fun h35 => ?_) (fun h35 => ?_)
        · try simp only [beq_iff_eq, beq_eq_false_iff_ne, Bool.not_eq_true, Bool.not_eq_false, decide_eq_true_eq, decide_eq_false_iff_not, Bool.not_eq_true', Bool.not_eq_false', bne_iff_ne, Bool.not_eq_eq_eq_not, Bool.not_true, Bool.not_false, ne_eq, Decidable.not_not, Int.not_lt, Int.not_le] at h35
          refine TrL.want rfl rfl ?_
          refine TrL.move rfl rfl ?_
          refine TrL.want rfl rfl ?_
          refine TrL.move rfl rfl ?_
          refine TrL.want rfl rfl ?_
          refine TrL.idxF rfl rfl rfl se22 sz46 hS rfl rfl rfl (List.getElem?_eq_getElem (by omega)) (fun b38 o38 hp38 hc38 => ?_)
          refine TrL.want rfl rfl ?_
          refine TrL.field rfl rfl fl46_3 ?_
          refine TrL.want rfl rfl ?_
          refine TrL.loadR1 rfl rfl sc9 (Cells.part hc38 (j := 3) rfl) ?_
          refine TrL.want rfl rfl ?_
          refine TrL.move rfl rfl ?_
          refine TrL.want rfl rfl ?_
          refine TrL.move rfl rfl ?_
          refine TrL.want rfl rfl ?_
          refine TrL.idxF rfl rfl rfl se22 sz46 hS rfl rfl rfl (List.getElem?_eq_getElem (by omega)) (fun b43 o43 hp43 hc43 => ?_)
          refine TrL.want rfl rfl ?_
          refine TrL.field rfl rfl fl46_2 ?_
          refine TrL.want rfl rfl ?_
          refine TrL.loadR1 rfl rfl sc9 (Cells.part hc43 (j := 2) rfl) ?_
          refine TrL.want rfl rfl ?_
          refine TrL.ges rfl rfl rfl ?_
          refine TrL.pickT rfl rfl rfl ?_
          refine TrL.move rfl rfl ?_
          refine TrL.cases (t := 48) rfl (fun h48 => ?_) (fun h48 => ?_)
          · try simp only [beq_iff_eq, beq_eq_false_iff_ne, Bool.not_eq_true, Bool.not_eq_false, decide_eq_true_eq, decide_eq_false_iff_not, Bool.not_eq_true', Bool.not_eq_false', bne_iff_ne, Bool.not_eq_eq_eq_not, Bool.not_true, Bool.not_false, ne_eq, Decidable.not_not, Int.not_lt, Int.not_le] at h48
            refine TrL.want rfl rfl ?_
            refine TrL.move rfl rfl ?_
            refine TrL.want rfl rfl ?_
            refine TrL.move rfl rfl ?_
            refine TrL.want rfl rfl ?_
            refine TrL.idxF rfl rfl rfl se22 sz46 hS rfl rfl rfl (List.getElem?_eq_getElem (by omega)) (fun b51 o51 hp51 hc51 => ?_)
            refine TrL.want rfl rfl ?_
            refine TrL.field rfl rfl fl46_3 ?_
            refine TrL.want rfl rfl ?_
            refine TrL.loadR1 rfl rfl sc9 (Cells.part hc51 (j := 3) rfl) ?_
            refine TrL.want rfl rfl ?_
            refine TrL.move rfl rfl ?_
            refine TrL.want rfl rfl ?_
            refine TrL.move rfl rfl ?_
            refine TrL.want rfl rfl ?_
            refine TrL.idxF rfl rfl rfl se22 sz46 hS rfl rfl rfl (List.getElem?_eq_getElem (by omega)) (fun b56 o56 hp56 hc56 => ?_)
            refine TrL.want rfl rfl ?_
            refine TrL.field rfl rfl fl46_2 ?_
            refine TrL.want rfl rfl ?_
            refine TrL.loadR1 rfl rfl sc9 (Cells.part hc56 (j := 2) rfl) ?_
            refine TrL.want rfl rfl ?_
            refine TrL.ges rfl rfl rfl ?_
            refine TrL.pickT rfl rfl rfl ?_
            refine TrL.nilQ (At.then_normal ?_)
            refine Tr.cond rfl (fun h60 => ?_) (fun h60 => ?_)
            · try simp only [beq_iff_eq, beq_eq_false_iff_ne, Bool.not_eq_true, Bool.not_eq_false, decide_eq_true_eq, decide_eq_false_iff_not, Bool.not_eq_true', Bool.not_eq_false', bne_iff_ne, Bool.not_eq_eq_eq_not, Bool.not_true, Bool.not_false, ne_eq, Decidable.not_not, Int.not_lt, Int.not_le] at h60
              refine Tr.seq ?_
              refine Tr.region ?_
              refine TrL.assign rfl rfl ?_
              refine TrL.nil (At.then_normal ?_)
              refine Tr.ret (At.block_ret (At.then_ret (At.then_ret (At.block_ret (At.block_ret (At.then_ret (At.then_ret (At.block_ret (At.then_ret (At.retP [] (.inl rfl) rfl (Res.tmp rfl Res.nil) (by repeat (first | exact Picks.nil | with_reducible exact Pick.here | with_reducible apply Pick.there | with_reducible apply Pick.app_nil | with_reducible apply Pick.app_cons | apply Picks.cons)) (by 
                  have e : decide (apartL l) = false := apart_no (i := i) (j := j) (by omega) (by omega) h22 h35 h48 h60
                  rw [e] at hK
                  exact hK)))))))))))
            · try simp only [beq_iff_eq, beq_eq_false_iff_ne, Bool.not_eq_true, Bool.not_eq_false, decide_eq_true_eq, decide_eq_false_iff_not, Bool.not_eq_true', Bool.not_eq_false', bne_iff_ne, Bool.not_eq_eq_eq_not, Bool.not_true, Bool.not_false, ne_eq, Decidable.not_not, Int.not_lt, Int.not_le] at h60
              refine Tr.skip (At.block_normal (At.then_normal ?_))
              refine Tr.region ?_
              refine TrL.move rfl rfl ?_
              refine TrL.addI rfl rfl rfl (by omega) ?_
              refine TrL.assign rfl rfl ?_
              refine TrL.nil ?_
              have e0 : apartT l[j] l[i] = true := apart_yes (by first | exact .inl h22 | exact .inr (.inl h35) | exact .inr (.inr (.inl h48)) | exact .inr (.inr (.inr h60)))
              refine At.again (j + 1) ⟨by omega, ?_⟩ (by omega) (by repeat (first | exact Sub.nil | refine Sub.cons (by rfl) ?_)) (by repeat (first | exact Picks.nil | with_reducible exact Pick.here | with_reducible apply Pick.there | with_reducible apply Pick.app_nil | with_reducible apply Pick.app_cons | apply Picks.cons))
              exact apart_one hj2 e0
          · try simp only [beq_iff_eq, beq_eq_false_iff_ne, Bool.not_eq_true, Bool.not_eq_false, decide_eq_true_eq, decide_eq_false_iff_not, Bool.not_eq_true', Bool.not_eq_false', bne_iff_ne, Bool.not_eq_eq_eq_not, Bool.not_true, Bool.not_false, ne_eq, Decidable.not_not, Int.not_lt, Int.not_le] at h48
            refine TrL.unwant rfl rfl rfl ?_
            refine TrL.unwant rfl rfl rfl ?_
            refine TrL.unwant rfl rfl rfl ?_
            refine TrL.unwant rfl rfl rfl ?_
            refine TrL.unwant rfl rfl rfl ?_
            refine TrL.unwant rfl rfl rfl ?_
            refine TrL.unwant rfl rfl rfl ?_
            refine TrL.unwant rfl rfl rfl ?_
            refine TrL.unwant rfl rfl rfl ?_
            refine TrL.unwant rfl rfl rfl ?_
            refine TrL.unwant rfl rfl rfl ?_
            refine TrL.pickF rfl rfl rfl ?_
            refine TrL.nilQ (At.then_normal ?_)
            refine Tr.condF rfl ?_
            refine Tr.skip (At.block_normal (At.then_normal ?_))
            refine Tr.region ?_
            refine TrL.move rfl rfl ?_
            refine TrL.addI rfl rfl rfl (by omega) ?_
            refine TrL.assign rfl rfl ?_
            refine TrL.nil ?_
            have e0 : apartT l[j] l[i] = true := apart_yes (by first | exact .inl h22 | exact .inr (.inl h35) | exact .inr (.inr (.inl h48)) | exact .inr (.inr (.inr h60)))
            refine At.again (j + 1) ⟨by omega, ?_⟩ (by omega) (by repeat (first | exact Sub.nil | refine Sub.cons (by rfl) ?_)) (by repeat (first | exact Picks.nil | with_reducible exact Pick.here | with_reducible apply Pick.there | with_reducible apply Pick.app_nil | with_reducible apply Pick.app_cons | apply Picks.cons))
            exact apart_one hj2 e0
        · try simp only [beq_iff_eq, beq_eq_false_iff_ne, Bool.not_eq_true, Bool.not_eq_false, decide_eq_true_eq, decide_eq_false_iff_not, Bool.not_eq_true', Bool.not_eq_false', bne_iff_ne, Bool.not_eq_eq_eq_not, Bool.not_true, Bool.not_false, ne_eq, Decidable.not_not, Int.not_lt, Int.not_le] at h35
          refine TrL.unwant rfl rfl rfl ?_
          refine TrL.unwant rfl rfl rfl ?_
          refine TrL.unwant rfl rfl rfl ?_
          refine TrL.unwant rfl rfl rfl ?_
          refine TrL.unwant rfl rfl rfl ?_
          refine TrL.unwant rfl rfl rfl ?_
          refine TrL.unwant rfl rfl rfl ?_
          refine TrL.unwant rfl rfl rfl ?_
          refine TrL.unwant rfl rfl rfl ?_
          refine TrL.unwant rfl rfl rfl ?_
          refine TrL.unwant rfl rfl rfl ?_
          refine TrL.pickF rfl rfl rfl ?_
          refine TrL.move rfl rfl ?_
          refine TrL.unwant rfl rfl rfl ?_
          refine TrL.unwant rfl rfl rfl ?_
          refine TrL.unwant rfl rfl rfl ?_
          refine TrL.unwant rfl rfl rfl ?_
          refine TrL.unwant rfl rfl rfl ?_
          refine TrL.unwant rfl rfl rfl ?_
          refine TrL.unwant rfl rfl rfl ?_
          refine TrL.unwant rfl rfl rfl ?_
          refine TrL.unwant rfl rfl rfl ?_
          refine TrL.unwant rfl rfl rfl ?_
          refine TrL.unwant rfl rfl rfl ?_
          refine TrL.pickF rfl rfl rfl ?_
          refine TrL.nilQ (At.then_normal ?_)
          refine Tr.condF rfl ?_
          refine Tr.skip (At.block_normal (At.then_normal ?_))
          refine Tr.region ?_
          refine TrL.move rfl rfl ?_
          refine TrL.addI rfl rfl rfl (by omega) ?_
          refine TrL.assign rfl rfl ?_
          refine TrL.nil ?_
          have e0 : apartT l[j] l[i] = true := apart_yes (by first | exact .inl h22 | exact .inr (.inl h35) | exact .inr (.inr (.inl h48)) | exact .inr (.inr (.inr h60)))
          refine At.again (j + 1) ⟨by omega, ?_⟩ (by omega) (by repeat (first | exact Sub.nil | refine Sub.cons (by rfl) ?_)) (by repeat (first | exact Picks.nil | with_reducible exact Pick.here | with_reducible apply Pick.there | with_reducible apply Pick.app_nil | with_reducible apply Pick.app_cons | apply Picks.cons))
          exact apart_one hj2 e0
      · try simp only [beq_iff_eq, beq_eq_false_iff_ne, Bool.not_eq_true, Bool.not_eq_false, decide_eq_true_eq, decide_eq_false_iff_not, Bool.not_eq_true', Bool.not_eq_false', bne_iff_ne, Bool.not_eq_eq_eq_not, Bool.not_true, Bool.not_false, ne_eq, Decidable.not_not, Int.not_lt, Int.not_le] at h22
        refine TrL.unwant rfl rfl rfl ?_
        refine TrL.unwant rfl rfl rfl ?_
        refine TrL.unwant rfl rfl rfl ?_
        refine TrL.unwant rfl rfl rfl ?_
        refine TrL.unwant rfl rfl rfl ?_
        refine TrL.unwant rfl rfl rfl ?_
        refine TrL.unwant rfl rfl rfl ?_
        refine TrL.unwant rfl rfl rfl ?_
        refine TrL.unwant rfl rfl rfl ?_
        refine TrL.unwant rfl rfl rfl ?_
        refine TrL.unwant rfl rfl rfl ?_
        refine TrL.pickF rfl rfl rfl ?_
        refine TrL.move rfl rfl ?_
        refine TrL.unwant rfl rfl rfl ?_
        refine TrL.unwant rfl rfl rfl ?_
        refine TrL.unwant rfl rfl rfl ?_
        refine TrL.unwant rfl rfl rfl ?_
        refine TrL.unwant rfl rfl rfl ?_
        refine TrL.unwant rfl rfl rfl ?_
        refine TrL.unwant rfl rfl rfl ?_
        refine TrL.unwant rfl rfl rfl ?_
        refine TrL.unwant rfl rfl rfl ?_
        refine TrL.unwant rfl rfl rfl ?_
        refine TrL.unwant rfl rfl rfl ?_
        refine TrL.pickF rfl rfl rfl ?_
        refine TrL.move rfl rfl ?_
        refine TrL.unwant rfl rfl rfl ?_
        refine TrL.unwant rfl rfl rfl ?_
        refine TrL.unwant rfl rfl rfl ?_
        refine TrL.unwant rfl rfl rfl ?_
        refine TrL.unwant rfl rfl rfl ?_
        refine TrL.unwant rfl rfl rfl ?_
        refine TrL.unwant rfl rfl rfl ?_
        refine TrL.unwant rfl rfl rfl ?_
        refine TrL.unwant rfl rfl rfl ?_
        refine TrL.unwant rfl rfl rfl ?_
        refine TrL.unwant rfl rfl rfl ?_
        refine TrL.pickF rfl rfl rfl ?_
        refine TrL.nilQ (At.then_normal ?_)
        refine Tr.condF rfl ?_
        refine Tr.skip (At.block_normal (At.then_normal ?_))
        refine Tr.region ?_
        refine TrL.move rfl rfl ?_
        refine TrL.addI rfl rfl rfl (by omega) ?_
        refine TrL.assign rfl rfl ?_
        refine TrL.nil ?_
        have e0 : apartT l[j] l[i] = true := apart_yes (by first | exact .inl h22 | exact .inr (.inl h35) | exact .inr (.inr (.inl h48)) | exact .inr (.inr (.inr h60)))
        refine At.again (j + 1) ⟨by omega, ?_⟩ (by omega) (by repeat (first | exact Sub.nil | refine Sub.cons (by rfl) ?_)) (by repeat (first | exact Picks.nil | with_reducible exact Pick.here | with_reducible apply Pick.there | with_reducible apply Pick.app_nil | with_reducible apply Pick.app_cons | apply Picks.cons))
        exact apart_one hj2 e0
    · try simp only [beq_iff_eq, beq_eq_false_iff_ne, Bool.not_eq_true, Bool.not_eq_false, decide_eq_true_eq, decide_eq_false_iff_not, Bool.not_eq_true', Bool.not_eq_false', bne_iff_ne, Bool.not_eq_eq_eq_not, Bool.not_true, Bool.not_false, ne_eq, Decidable.not_not, Int.not_lt, Int.not_le] at h13
      refine Tr.exit (At.then_exit (At.then_exit (At.block_hit (At.block_normal (At.then_normal ?_)))))
      refine Tr.region ?_
      refine TrL.move rfl rfl ?_
      refine TrL.addI rfl rfl rfl (by omega) ?_
      refine TrL.assign rfl rfl ?_
      refine TrL.nil ?_
      refine At.again (i + 1) ⟨by show i + 1 ≤ l.length; omega, ?_⟩ (by omega) (by repeat (first | exact Sub.nil | refine Sub.cons (by rfl) ?_)) (by repeat (first | exact Picks.nil | with_reducible exact Pick.here | with_reducible apply Pick.there | with_reducible apply Pick.app_nil | with_reducible apply Pick.app_cons | apply Picks.cons))
      exact apart_snoc (by omega) hi2 (fun k hk => hj2 k (by omega) (by omega) (by omega))
  · try simp only [beq_iff_eq, beq_eq_false_iff_ne, Bool.not_eq_true, Bool.not_eq_false, decide_eq_true_eq, decide_eq_false_iff_not, Bool.not_eq_true', Bool.not_eq_false', bne_iff_ne, Bool.not_eq_eq_eq_not, Bool.not_true, Bool.not_false, ne_eq, Decidable.not_not, Int.not_lt, Int.not_le] at h8
    refine Tr.exit (At.then_exit (At.then_exit (At.block_hit (At.then_normal ?_))))
    refine Tr.seq ?_
    refine Tr.region ?_
    refine TrL.assign rfl rfl ?_
    refine TrL.nil (At.then_normal ?_)
    refine Tr.ret (At.retP [] (.inl rfl) rfl (Res.tmp rfl Res.nil) (by repeat (first | exact Picks.nil | with_reducible exact Pick.here | with_reducible apply Pick.there | with_reducible apply Pick.app_nil | with_reducible apply Pick.app_cons | apply Picks.cons)) (by 
        have e : decide (apartL l) = true := decide_eq_true (by rwa [List.take_of_length_le (by omega)] at hi2)
        rw [e] at hK
        exact hK))

theorem mem_take_at {l : List Int} {i j : Nat} {hj : j < l.length} (h : j < i) {x : Int} (e : l[j] = x) : x ∈ l.take i := by
  subst e; exact List.mem_take_iff_getElem.2 ⟨j, by omega, rfl⟩
theorem mem_snoc {l : List Int} {j : Nat} (hj : j < l.length) {x : Int} : decide (x ∈ l.take (j + 1)) = (decide (x ∈ l.take j) || decide (l[j] = x)) := by
  rw [List.take_succ_eq_append_getElem hj]; simp only [List.mem_append, List.mem_singleton, Bool.decide_or]; congr 1; exact decide_eq_decide.2 ⟨Eq.symm, Eq.symm⟩
theorem apply_not {s : Sta} {e : Ed} (hm : mayE e = true) (h : fitsE s e = false) : applyF s e = (zeroS, 120) := by unfold applyF; rw [if_neg (by simp [hm]), h]; rfl
set_option maxHeartbeats 16000000 in
theorem ApplyR_spec {F : Hp} {K : Value → List HProp → Prop} {p : Option Addr} {c : Nat} {s : Sta} (hS : SlIn F encT 4 p s.tabs) (hls : s.tabs.length ≤ 50000) {pa : Option Addr} {ca : Nat} {pd : Option Addr} {cd : Nat} {e : Ed} (hA : SlIn F encT 4 pa e.add) (hD : SlIn F encI 1 pd e.drop) (hla : e.add.length ≤ 9223372036854775807) (hld : e.drop.length ≤ 9223372036854775807) (hK : ∀ p' c', K (.tuple #[.agg (stC p' c' (applyF s e).1).toArray, .int .i64 (applyF s e).2]) [RowC encT 4 p' (applyF s e).1.tabs]) :
    CallK Try.prog F 19 #[.agg (stC p c s).toArray, .agg (edC pa ca pd cd e).toArray] [] K := by
  refine CallK.enter Try.func19 rfl Try.ntmps19 rfl ?_
  refine Tr.seq ?_
  refine Tr.region ?_
  refine TrL.boxA rfl rfl (fun b2 => ?_)
  refine TrL.boxA rfl rfl (fun b3 => ?_)
  refine TrL.alloc rfl zc38 (fun b4 => ?_)
  refine TrL.assign rfl rfl ?_
  refine TrL.nil (At.then_normal ?_)
  refine Tr.seq ?_
  refine Tr.seq ?_
  refine Tr.region ?_
  refine TrL.loadLA rfl rfl ag25 sz25 (by repeat (first | with_reducible exact Pick.here | with_reducible apply Pick.there | with_reducible apply Pick.app_nil | with_reducible apply Pick.app_cons)) (by rfl) ?_
  refine TrL.call rfl rfl rfl ca31 .nil (fun Ft15 hUt15 => May_spec (hUt15.ro (SlIn.mono _ _ _ _) hA) (hUt15.ro (SlIn.mono _ _ _ _) hD) hla hld ?_)
  refine TrL.not rfl rfl ?_
  refine TrL.nil (At.then_normal ?_)
  refine Tr.cond rfl (fun h16 => ?_) (fun h16 => ?_)
  · try simp only [beq_iff_eq, beq_eq_false_iff_ne, Bool.not_eq_true, Bool.not_eq_false, decide_eq_true_eq, decide_eq_false_iff_not, Bool.not_eq_true', Bool.not_eq_false', bne_iff_ne, Bool.not_eq_eq_eq_not, Bool.not_true, Bool.not_false, ne_eq, Decidable.not_not, Int.not_lt, Int.not_le] at h16
    refine Tr.seq ?_
    refine Tr.region ?_
    refine TrL.build rfl rfl pl38 zc38 rfl ?_
    refine TrL.storeLA rfl rfl sz38 ⟨rfl, List.cons_ne_nil _ _⟩ rfl (by repeat (first | with_reducible exact Upd.here | with_reducible apply Upd.there | with_reducible apply Upd.app_nil | with_reducible apply Upd.app_cons)) (by rfl) ?_
    refine TrL.assign rfl rfl ?_
    refine TrL.nil (At.then_normal ?_)
    refine Tr.ret (At.then_ret (At.retX [] (.inl rfl) rfl (Res.cellLA rfl ag38 sz38 (by repeat (first | with_reducible exact Pick.here | with_reducible apply Pick.there | with_reducible apply Pick.app_nil | with_reducible apply Pick.app_cons)) (by rfl) (Res.tmp rfl Res.nil)) (by repeat (first | exact Picks.nil | with_reducible exact Pick.here | with_reducible apply Pick.there | with_reducible apply Pick.app_nil | with_reducible apply Pick.app_cons | apply Picks.cons)) (by 
        refine ⟨[RowC encT 4 none ([] : List Tab)], fun h _ => one_stars (RowC.nil _), ?_⟩
        have e1 : applyF s e = (zeroS, 1) := by
          unfold applyF
          rw [if_pos h16]
        have e2 := hK none 0
        rw [e1] at e2
        exact e2)))
  · try simp only [beq_iff_eq, beq_eq_false_iff_ne, Bool.not_eq_true, Bool.not_eq_false, decide_eq_true_eq, decide_eq_false_iff_not, Bool.not_eq_true', Bool.not_eq_false', bne_iff_ne, Bool.not_eq_eq_eq_not, Bool.not_true, Bool.not_false, ne_eq, Decidable.not_not, Int.not_lt, Int.not_le] at h16
    have hm : mayE e = true := by simpa using h16
    obtain ⟨hm1, hm2⟩ := mayE_add hm
    refine Tr.skip (At.then_normal ?_)
    refine Tr.seq ?_
    refine Tr.seq ?_
    refine Tr.region ?_
    refine TrL.field rfl rfl fl25_2 ?_
    refine TrL.load1 rfl rfl sc3 (Sees.cl1 (by repeat (first | with_reducible exact Pick.here | with_reducible apply Pick.there | with_reducible apply Pick.app_nil | with_reducible apply Pick.app_cons)) (by rfl)) ?_
    refine TrL.field rfl rfl fl38_1 ?_
    refine TrL.load1 rfl rfl sc3 (Sees.cl1 (by repeat (first | with_reducible exact Pick.here | with_reducible apply Pick.there | with_reducible apply Pick.app_nil | with_reducible apply Pick.app_cons)) (by rfl)) ?_
    refine TrL.lss rfl rfl rfl ?_
    refine TrL.move rfl rfl ?_
    refine TrL.cases (t := 23) rfl (fun h23 => ?_) (fun h23 => ?_)
    · try simp only [beq_iff_eq, beq_eq_false_iff_ne, Bool.not_eq_true, Bool.not_eq_false, decide_eq_true_eq, decide_eq_false_iff_not, Bool.not_eq_true', Bool.not_eq_false', bne_iff_ne, Bool.not_eq_eq_eq_not, Bool.not_true, Bool.not_false, ne_eq, Decidable.not_not, Int.not_lt, Int.not_le] at h23
      refine TrL.unwant rfl rfl rfl ?_
      refine TrL.unwant rfl rfl rfl ?_
      refine TrL.unwant rfl rfl rfl ?_
      refine TrL.unwant rfl rfl rfl ?_
      refine TrL.unwant rfl rfl rfl ?_
      refine TrL.pickT rfl rfl rfl ?_
      refine TrL.nil (At.then_normal ?_)
      refine Tr.condT rfl ?_
      refine Tr.seq ?_
      refine Tr.region ?_
      refine TrL.build rfl rfl pl38 zc38 rfl ?_
      refine TrL.storeLA rfl rfl sz38 ⟨rfl, List.cons_ne_nil _ _⟩ rfl (by repeat (first | with_reducible exact Upd.here | with_reducible apply Upd.there | with_reducible apply Upd.app_nil | with_reducible apply Upd.app_cons)) (by rfl) ?_
      refine TrL.assign rfl rfl ?_
      refine TrL.nil (At.then_normal ?_)
      refine Tr.ret (At.then_ret (At.retX [] (.inl rfl) rfl (Res.cellLA rfl ag38 sz38 (by repeat (first | with_reducible exact Pick.here | with_reducible apply Pick.there | with_reducible apply Pick.app_nil | with_reducible apply Pick.app_cons)) (by rfl) (Res.tmp rfl Res.nil)) (by repeat (first | exact Picks.nil | with_reducible exact Pick.here | with_reducible apply Pick.there | with_reducible apply Pick.app_nil | with_reducible apply Pick.app_cons | apply Picks.cons)) (by 
          refine ⟨[RowC encT 4 none ([] : List Tab)], fun h _ => one_stars (RowC.nil _), ?_⟩
          have e1 : applyF s e = (zeroS, 120) := by
            have hnf : fitsE s e = false := by unfold fitsE; rw [show decide (s.log ≤ e.log) = false by simp; omega]; simp
            unfold applyF
            rw [if_neg (by simp [hm]), hnf]
            rfl
          have e2 := hK none 0
          rw [e1] at e2
          exact e2)))
    · try simp only [beq_iff_eq, beq_eq_false_iff_ne, Bool.not_eq_true, Bool.not_eq_false, decide_eq_true_eq, decide_eq_false_iff_not, Bool.not_eq_true', Bool.not_eq_false', bne_iff_ne, Bool.not_eq_eq_eq_not, Bool.not_true, Bool.not_false, ne_eq, Decidable.not_not, Int.not_lt, Int.not_le] at h23
      refine TrL.want rfl rfl ?_
      refine TrL.field rfl rfl fl25_3 ?_
      refine TrL.want rfl rfl ?_
      refine TrL.load1 rfl rfl sc3 (Sees.cl1 (by repeat (first | with_reducible exact Pick.here | with_reducible apply Pick.there | with_reducible apply Pick.app_nil | with_reducible apply Pick.app_cons)) (by rfl)) ?_
      refine TrL.want rfl rfl ?_
      refine TrL.field rfl rfl fl38_2 ?_
      refine TrL.want rfl rfl ?_
      refine TrL.load1 rfl rfl sc3 (Sees.cl1 (by repeat (first | with_reducible exact Pick.here | with_reducible apply Pick.there | with_reducible apply Pick.app_nil | with_reducible apply Pick.app_cons)) (by rfl)) ?_
      refine TrL.want rfl rfl ?_
      refine TrL.lss rfl rfl rfl ?_
      refine TrL.pickF rfl rfl rfl ?_
      refine TrL.nil (At.then_normal ?_)
      refine Tr.cond rfl (fun h29 => ?_) (fun h29 => ?_)
      · try simp only [beq_iff_eq, beq_eq_false_iff_ne, Bool.not_eq_true, Bool.not_eq_false, decide_eq_true_eq, decide_eq_false_iff_not, Bool.not_eq_true', Bool.not_eq_false', bne_iff_ne, Bool.not_eq_eq_eq_not, Bool.not_true, Bool.not_false, ne_eq, Decidable.not_not, Int.not_lt, Int.not_le] at h29
        refine Tr.seq ?_
        refine Tr.region ?_
        refine TrL.build rfl rfl pl38 zc38 rfl ?_
        refine TrL.storeLA rfl rfl sz38 ⟨rfl, List.cons_ne_nil _ _⟩ rfl (by repeat (first | with_reducible exact Upd.here | with_reducible apply Upd.there | with_reducible apply Upd.app_nil | with_reducible apply Upd.app_cons)) (by rfl) ?_
        refine TrL.assign rfl rfl ?_
        refine TrL.nil (At.then_normal ?_)
        refine Tr.ret (At.then_ret (At.retX [] (.inl rfl) rfl (Res.cellLA rfl ag38 sz38 (by repeat (first | with_reducible exact Pick.here | with_reducible apply Pick.there | with_reducible apply Pick.app_nil | with_reducible apply Pick.app_cons)) (by rfl) (Res.tmp rfl Res.nil)) (by repeat (first | exact Picks.nil | with_reducible exact Pick.here | with_reducible apply Pick.there | with_reducible apply Pick.app_nil | with_reducible apply Pick.app_cons | apply Picks.cons)) (by 
            refine ⟨[RowC encT 4 none ([] : List Tab)], fun h _ => one_stars (RowC.nil _), ?_⟩
            have e1 : applyF s e = (zeroS, 120) := by
              have hnf : fitsE s e = false := by unfold fitsE; rw [show decide (s.next ≤ e.next) = false by simp; omega]; simp
              exact apply_not hm hnf
            have e2 := hK none 0
            rw [e1] at e2
            exact e2)))
      · try simp only [beq_iff_eq, beq_eq_false_iff_ne, Bool.not_eq_true, Bool.not_eq_false, decide_eq_true_eq, decide_eq_false_iff_not, Bool.not_eq_true', Bool.not_eq_false', bne_iff_ne, Bool.not_eq_eq_eq_not, Bool.not_true, Bool.not_false, ne_eq, Decidable.not_not, Int.not_lt, Int.not_le] at h29
        refine Tr.skip (At.then_normal ?_)
        refine Tr.seq ?_
        refine Tr.seq ?_
        refine Tr.region ?_
        refine TrL.assign rfl rfl ?_
        refine TrL.nil (At.then_normal ?_)
        refine Tr.block ?_
        refine Tr.loopK [2, 3, 4] (α := Nat) (fun i => [(6, .int .i64 (i : Int))]) (fun i => []) (fun i => i ≤ e.drop.length ∧ goneOk (s.tabs.map (·.id)) (e.drop.take i) (e.drop.drop i) = goneOk (s.tabs.map (·.id)) [] e.drop) (fun i => e.drop.length - i) (0) (by rfl) ?_ (by repeat (first | exact Sub.nil | refine Sub.cons (by rfl) ?_)) (by repeat (first | exact Picks.nil | with_reducible exact Pick.here | with_reducible apply Pick.there | with_reducible apply Pick.app_nil | with_reducible apply Pick.app_cons | apply Picks.cons)) ?_
        · exact ⟨Nat.zero_le _, rfl⟩
        rintro i ⟨hi1, hi2⟩
        refine Tr.seq ?_
        refine Tr.seq ?_
        refine Tr.region ?_
        refine TrL.move rfl rfl ?_
        refine TrL.field rfl rfl fl25_1 ?_
        refine TrL.load1 rfl rfl sc23 (Sees.cl1 (by repeat (first | with_reducible exact Pick.here | with_reducible apply Pick.there | with_reducible apply Pick.app_nil | with_reducible apply Pick.app_cons)) (by rfl)) ?_
        refine TrL.lenl rfl rfl se23 ?_
        refine TrL.lss rfl rfl rfl ?_
        refine TrL.nil (At.then_normal ?_)
        refine Tr.cond rfl (fun h35 => ?_) (fun h35 => ?_)
        · try simp only [beq_iff_eq, beq_eq_false_iff_ne, Bool.not_eq_true, Bool.not_eq_false, decide_eq_true_eq, decide_eq_false_iff_not, Bool.not_eq_true', Bool.not_eq_false', bne_iff_ne, Bool.not_eq_eq_eq_not, Bool.not_true, Bool.not_false, ne_eq, Decidable.not_not, Int.not_lt, Int.not_le] at h35
          refine Tr.skip (At.then_normal ?_)
          refine Tr.seq ?_
          refine Tr.block ?_
          refine Tr.seq ?_
          refine Tr.seq ?_
          have hcons : goneOk (s.tabs.map (·.id)) (e.drop.take i) (e.drop.drop i) = (decide (e.drop[i] ∈ (s.tabs.map (·.id))) && !decide (e.drop[i] ∈ e.drop.take i) && goneOk (s.tabs.map (·.id)) (e.drop.take i ++ [e.drop[i]]) (e.drop.drop (i + 1))) := by rw [List.drop_eq_getElem_cons (by omega), goneOk_cons]
          refine Tr.regionQ mixed (by kernel_rfl) ?_
          refine TrL.field0 rfl rfl fl38_0 ?_
          refine TrL.load1 rfl rfl sc22 (Sees.cl1 (by repeat (first | with_reducible exact Pick.here | with_reducible apply Pick.there | with_reducible apply Pick.app_nil | with_reducible apply Pick.app_cons)) (by rfl)) ?_
          refine TrL.field rfl rfl fl25_1 ?_
          refine TrL.load1 rfl rfl sc23 (Sees.cl1 (by repeat (first | with_reducible exact Pick.here | with_reducible apply Pick.there | with_reducible apply Pick.app_nil | with_reducible apply Pick.app_cons)) (by rfl)) ?_
          refine TrL.move rfl rfl ?_
          refine TrL.idxF rfl rfl rfl se23 sz3 hD rfl rfl rfl (List.getElem?_eq_getElem (by omega)) (fun b43 o43 hp43 hc43 => ?_)
          refine TrL.loadR1 rfl rfl sc3 (Cells.part hc43 (j := 0) rfl) ?_
          refine TrL.callQ rfl rfl rfl ca51 (fun Ft45 hUt45 => find_spec (hUt45.ro (SlIn.mono _ _ _ _) hS) (by omega) rfl) ?_
          refine TrL.lss rfl rfl rfl ?_
          refine TrL.nilQ (At.then_normal ?_)
          refine Tr.cond rfl (fun h46 => ?_) (fun h46 => ?_)
          · try simp only [beq_iff_eq, beq_eq_false_iff_ne, Bool.not_eq_true, Bool.not_eq_false, decide_eq_true_eq, decide_eq_false_iff_not, Bool.not_eq_true', Bool.not_eq_false', bne_iff_ne, Bool.not_eq_eq_eq_not, Bool.not_true, Bool.not_false, ne_eq, Decidable.not_not, Int.not_lt, Int.not_le] at h46
            refine Tr.seq ?_
            refine Tr.region ?_
            refine TrL.build rfl rfl pl38 zc38 rfl ?_
            refine TrL.storeLA rfl rfl sz38 ⟨rfl, List.cons_ne_nil _ _⟩ rfl (by repeat (first | with_reducible exact Upd.here | with_reducible apply Upd.there | with_reducible apply Upd.app_nil | with_reducible apply Upd.app_cons)) (by rfl) ?_
            refine TrL.assign rfl rfl ?_
            refine TrL.nil (At.then_normal ?_)
            refine Tr.ret (At.then_ret (At.block_ret (At.then_ret (At.then_ret (At.block_ret (At.then_ret (At.retX [] (.inl rfl) rfl (Res.cellLA rfl ag38 sz38 (by repeat (first | with_reducible exact Pick.here | with_reducible apply Pick.there | with_reducible apply Pick.app_nil | with_reducible apply Pick.app_cons)) (by rfl) (Res.tmp rfl Res.nil)) (by repeat (first | exact Picks.nil | with_reducible exact Pick.here | with_reducible apply Pick.there | with_reducible apply Pick.app_nil | with_reducible apply Pick.app_cons | apply Picks.cons)) (by 
                refine ⟨[RowC encT 4 none ([] : List Tab)], fun h _ => one_stars (RowC.nil _), ?_⟩
                have e1 : applyF s e = (zeroS, 120) := by
                  have hnf : fitsE s e = false := by unfold fitsE; rw [show goneOk (s.tabs.map (·.id)) [] e.drop = false by rw [← hi2, hcons, decide_eq_false (findI_neg.1 h46)]; simp]; simp
                  unfold applyF
                  rw [if_neg (by simp [hm]), hnf]
                  rfl
                have e2 := hK none 0
                rw [e1] at e2
                exact e2))))))))
          · try simp only [beq_iff_eq, beq_eq_false_iff_ne, Bool.not_eq_true, Bool.not_eq_false, decide_eq_true_eq, decide_eq_false_iff_not, Bool.not_eq_true', Bool.not_eq_false', bne_iff_ne, Bool.not_eq_eq_eq_not, Bool.not_true, Bool.not_false, ne_eq, Decidable.not_not, Int.not_lt, Int.not_le] at h46
            have hin : e.drop[i] ∈ (s.tabs.map (·.id)) := by
              by_cases h : e.drop[i] ∈ (s.tabs.map (·.id))
              · exact h
              · have := findI_neg.2 h; omega
            refine Tr.skip (At.then_normal ?_)
            refine Tr.seq ?_
            refine Tr.region ?_
            refine TrL.assign rfl rfl ?_
            refine TrL.nil (At.then_normal ?_)
            refine Tr.block ?_
            refine Tr.loopK [2, 3, 4, 6] (α := Nat) (fun j => [(7, .int .i64 (j : Int))]) (fun j => []) (fun j => j ≤ i ∧ e.drop[i] ∉ e.drop.take j) (fun j => i - j) (0) (by rfl) ?_ (by repeat (first | exact Sub.nil | refine Sub.cons (by rfl) ?_)) (by repeat (first | exact Picks.nil | with_reducible exact Pick.here | with_reducible apply Pick.there | with_reducible apply Pick.app_nil | with_reducible apply Pick.app_cons | apply Picks.cons)) ?_
            · exact ⟨Nat.zero_le _, by simp⟩
            rintro j ⟨hj1, hj2⟩
            refine Tr.seq ?_
            refine Tr.seq ?_
            refine Tr.region ?_
            refine TrL.move rfl rfl ?_
            refine TrL.move rfl rfl ?_
            refine TrL.lss rfl rfl rfl ?_
            refine TrL.nil (At.then_normal ?_)
            refine Tr.cond rfl (fun h50 => ?_) (fun h50 => ?_)
            · try simp only [beq_iff_eq, beq_eq_false_iff_ne, Bool.not_eq_true, Bool.not_eq_false, decide_eq_true_eq, decide_eq_false_iff_not, Bool.not_eq_true', Bool.not_eq_false', bne_iff_ne, Bool.not_eq_eq_eq_not, Bool.not_true, Bool.not_false, ne_eq, Decidable.not_not, Int.not_lt, Int.not_le] at h50
              refine Tr.skip (At.then_normal ?_)
              refine Tr.seq ?_
              refine Tr.block ?_
              refine Tr.seq ?_
              refine Tr.regionQ mixed (by kernel_rfl) ?_
              refine TrL.field rfl rfl fl25_1 ?_
              refine TrL.load1 rfl rfl sc23 (Sees.cl1 (by repeat (first | with_reducible exact Pick.here | with_reducible apply Pick.there | with_reducible apply Pick.app_nil | with_reducible apply Pick.app_cons)) (by rfl)) ?_
              refine TrL.move rfl rfl ?_
              refine TrL.idxF rfl rfl rfl se23 sz3 hD rfl rfl rfl (List.getElem?_eq_getElem (by omega)) (fun b56 o56 hp56 hc56 => ?_)
              refine TrL.loadR1 rfl rfl sc3 (Cells.part hc56 (j := 0) rfl) ?_
              refine TrL.field rfl rfl fl25_1 ?_
              refine TrL.load1 rfl rfl sc23 (Sees.cl1 (by repeat (first | with_reducible exact Pick.here | with_reducible apply Pick.there | with_reducible apply Pick.app_nil | with_reducible apply Pick.app_cons)) (by rfl)) ?_
              refine TrL.move rfl rfl ?_
              refine TrL.idxF rfl rfl rfl se23 sz3 hD rfl rfl rfl (List.getElem?_eq_getElem (by omega)) (fun b61 o61 hp61 hc61 => ?_)
              refine TrL.loadR1 rfl rfl sc3 (Cells.part hc61 (j := 0) rfl) ?_
              refine TrL.eqi rfl rfl rfl ?_
              refine TrL.nilQ (At.then_normal ?_)
              refine Tr.cond rfl (fun h63 => ?_) (fun h63 => ?_)
              · try simp only [beq_iff_eq, beq_eq_false_iff_ne, Bool.not_eq_true, Bool.not_eq_false, decide_eq_true_eq, decide_eq_false_iff_not, Bool.not_eq_true', Bool.not_eq_false', bne_iff_ne, Bool.not_eq_eq_eq_not, Bool.not_true, Bool.not_false, ne_eq, Decidable.not_not, Int.not_lt, Int.not_le] at h63
                refine Tr.seq ?_
                refine Tr.region ?_
                refine TrL.build rfl rfl pl38 zc38 rfl ?_
                refine TrL.storeLA rfl rfl sz38 ⟨rfl, List.cons_ne_nil _ _⟩ rfl (by repeat (first | with_reducible exact Upd.here | with_reducible apply Upd.there | with_reducible apply Upd.app_nil | with_reducible apply Upd.app_cons)) (by rfl) ?_
                refine TrL.assign rfl rfl ?_
                refine TrL.nil (At.then_normal ?_)
                refine Tr.ret (At.block_ret (At.then_ret (At.then_ret (At.block_ret (At.block_ret (At.then_ret (At.then_ret (At.block_ret (At.then_ret (At.retX [] (.inl rfl) rfl (Res.cellLA rfl ag38 sz38 (by repeat (first | with_reducible exact Pick.here | with_reducible apply Pick.there | with_reducible apply Pick.app_nil | with_reducible apply Pick.app_cons)) (by rfl) (Res.tmp rfl Res.nil)) (by repeat (first | exact Picks.nil | with_reducible exact Pick.here | with_reducible apply Pick.there | with_reducible apply Pick.app_nil | with_reducible apply Pick.app_cons | apply Picks.cons)) (by 
                    refine ⟨[RowC encT 4 none ([] : List Tab)], fun h _ => one_stars (RowC.nil _), ?_⟩
                    have e1 : applyF s e = (zeroS, 120) := by
                      have hnf : fitsE s e = false := by unfold fitsE; rw [show goneOk (s.tabs.map (·.id)) [] e.drop = false by rw [← hi2, hcons, decide_eq_true (show e.drop[i] ∈ e.drop.take i from mem_take_at (by omega) h63)]; simp]; simp
                      unfold applyF
                      rw [if_neg (by simp [hm]), hnf]
                      rfl
                    have e2 := hK none 0
                    rw [e1] at e2
                    exact e2)))))))))))
              · try simp only [beq_iff_eq, beq_eq_false_iff_ne, Bool.not_eq_true, Bool.not_eq_false, decide_eq_true_eq, decide_eq_false_iff_not, Bool.not_eq_true', Bool.not_eq_false', bne_iff_ne, Bool.not_eq_eq_eq_not, Bool.not_true, Bool.not_false, ne_eq, Decidable.not_not, Int.not_lt, Int.not_le] at h63
                refine Tr.skip (At.block_normal (At.then_normal ?_))
                refine Tr.region ?_
                refine TrL.move rfl rfl ?_
                refine TrL.addI rfl rfl rfl (by omega) ?_
                refine TrL.assign rfl rfl ?_
                refine TrL.nil ?_
                refine At.again (j + 1) ⟨by omega, ?_⟩ (by omega) (by repeat (first | exact Sub.nil | refine Sub.cons (by rfl) ?_)) (by repeat (first | exact Picks.nil | with_reducible exact Pick.here | with_reducible apply Pick.there | with_reducible apply Pick.app_nil | with_reducible apply Pick.app_cons | apply Picks.cons))
                rw [List.take_succ_eq_append_getElem (show j < e.drop.length by omega)]
                simp only [List.mem_append, List.mem_singleton, not_or]
                exact ⟨hj2, fun h => h63 h.symm⟩
            · try simp only [beq_iff_eq, beq_eq_false_iff_ne, Bool.not_eq_true, Bool.not_eq_false, decide_eq_true_eq, decide_eq_false_iff_not, Bool.not_eq_true', Bool.not_eq_false', bne_iff_ne, Bool.not_eq_eq_eq_not, Bool.not_true, Bool.not_false, ne_eq, Decidable.not_not, Int.not_lt, Int.not_le] at h50
              refine Tr.exit (At.then_exit (At.then_exit (At.block_hit (At.block_normal (At.then_normal ?_)))))
              refine Tr.region ?_
              refine TrL.move rfl rfl ?_
              refine TrL.addI rfl rfl rfl (by omega) ?_
              refine TrL.assign rfl rfl ?_
              refine TrL.nil ?_
              refine At.again (i + 1) ⟨by show i + 1 ≤ e.drop.length; omega, ?_⟩ (by omega) (by repeat (first | exact Sub.nil | refine Sub.cons (by rfl) ?_)) (by repeat (first | exact Picks.nil | with_reducible exact Pick.here | with_reducible apply Pick.there | with_reducible apply Pick.app_nil | with_reducible apply Pick.app_cons | apply Picks.cons))
              rw [← hi2, hcons, ← List.take_succ_eq_append_getElem (by omega), decide_eq_true hin, decide_eq_false (show e.drop[i] ∉ e.drop.take i by rwa [show j = i by omega] at hj2)]
              simp
        · try simp only [beq_iff_eq, beq_eq_false_iff_ne, Bool.not_eq_true, Bool.not_eq_false, decide_eq_true_eq, decide_eq_false_iff_not, Bool.not_eq_true', Bool.not_eq_false', bne_iff_ne, Bool.not_eq_eq_eq_not, Bool.not_true, Bool.not_false, ne_eq, Decidable.not_not, Int.not_lt, Int.not_le] at h35
          refine Tr.exit (At.then_exit (At.then_exit (At.block_hit (At.then_normal ?_))))
          refine Tr.seq ?_
          have hgone : goneOk (s.tabs.map (·.id)) [] e.drop = true := by rw [← hi2, List.drop_of_length_le (by omega)]; rfl
          refine Tr.region ?_
          refine TrL.assign rfl rfl ?_
          refine TrL.nil (At.then_normal ?_)
          refine Tr.seq ?_
          refine Tr.seq ?_
          refine Tr.own0 46 4 encT ?_
          refine Tr.region ?_
          refine TrL.assign rfl rfl ?_
          refine TrL.nil (At.then_normal ?_)
          refine Tr.block ?_
          refine Tr.loopK [2, 3, 4] (α := Nat × Option Addr × Nat) (fun y => [(9, .int .i64 (y.1 : Int)), (8, .slice y.2.1 (((s.tabs.take y.1).filter fun t => !decide (t.id ∈ e.drop))).length y.2.2)]) (fun y => [Own 46 4 encT y.2.1 y.2.2 (((s.tabs.take y.1).filter fun t => !decide (t.id ∈ e.drop)))]) (fun y => y.1 ≤ s.tabs.length) (fun y => s.tabs.length - y.1) (0, none, 0) (by rfl) ?_ (by repeat (first | exact Sub.nil | refine Sub.cons (by rfl) ?_)) (by repeat (first | exact Picks.nil | with_reducible exact Pick.here | exact Pick.here | with_reducible apply Pick.there | with_reducible apply Pick.app_nil | with_reducible apply Pick.app_cons | apply Picks.cons)) ?_
          · exact Nat.zero_le _
          rintro y hy1
          refine Tr.seq ?_
          refine Tr.seq ?_
          refine Tr.region ?_
          refine TrL.move rfl rfl ?_
          refine TrL.field0 rfl rfl fl38_0 ?_
          refine TrL.load1 rfl rfl sc22 (Sees.cl1 (by repeat (first | with_reducible exact Pick.here | with_reducible apply Pick.there | with_reducible apply Pick.app_nil | with_reducible apply Pick.app_cons)) (by rfl)) ?_
          refine TrL.lenl rfl rfl se22 ?_
          refine TrL.lss rfl rfl rfl ?_
          refine TrL.nil (At.then_normal ?_)
          refine Tr.cond rfl (fun h69 => ?_) (fun h69 => ?_)
          · try simp only [beq_iff_eq, beq_eq_false_iff_ne, Bool.not_eq_true, Bool.not_eq_false, decide_eq_true_eq, decide_eq_false_iff_not, Bool.not_eq_true', Bool.not_eq_false', bne_iff_ne, Bool.not_eq_eq_eq_not, Bool.not_true, Bool.not_false, ne_eq, Decidable.not_not, Int.not_lt, Int.not_le] at h69
            refine Tr.skip (At.then_normal ?_)
            refine Tr.seq ?_
            refine Tr.block ?_
            refine Tr.seq ?_
            refine Tr.region ?_
            refine TrL.assign rfl rfl ?_
            refine TrL.nil (At.then_normal ?_)
            refine Tr.seq ?_
            refine Tr.seq ?_
            refine Tr.region ?_
            refine TrL.assign rfl rfl ?_
            refine TrL.nil (At.then_normal ?_)
            refine Tr.block ?_
            refine Tr.loopK [2, 3, 4, 8, 9] (α := Nat) (fun j => [(11, .int .i64 (j : Int)), (10, .bool (decide (s.tabs[y.1].id ∈ e.drop.take j)))]) (fun j => []) (fun j => j ≤ e.drop.length) (fun j => e.drop.length - j) (0) (by rfl) ?_ (by (rw [show decide (s.tabs[y.1].id ∈ e.drop.take 0) = false by simp]; repeat (first | exact Sub.nil | refine Sub.cons (by rfl) ?_))) (by repeat (first | exact Picks.nil | with_reducible exact Pick.here | with_reducible apply Pick.there | with_reducible apply Pick.app_nil | with_reducible apply Pick.app_cons | apply Picks.cons)) ?_
            · exact Nat.zero_le _
            rintro j hj1
            refine Tr.seq ?_
            refine Tr.seq ?_
            refine Tr.region ?_
            refine TrL.move rfl rfl ?_
            refine TrL.field rfl rfl fl25_1 ?_
            refine TrL.load1 rfl rfl sc23 (Sees.cl1 (by repeat (first | with_reducible exact Pick.here | with_reducible apply Pick.there | with_reducible apply Pick.app_nil | with_reducible apply Pick.app_cons)) (by rfl)) ?_
            refine TrL.lenl rfl rfl se23 ?_
            refine TrL.lss rfl rfl rfl ?_
            refine TrL.nil (At.then_normal ?_)
            refine Tr.cond rfl (fun h76 => ?_) (fun h76 => ?_)
            · try simp only [beq_iff_eq, beq_eq_false_iff_ne, Bool.not_eq_true, Bool.not_eq_false, decide_eq_true_eq, decide_eq_false_iff_not, Bool.not_eq_true', Bool.not_eq_false', bne_iff_ne, Bool.not_eq_eq_eq_not, Bool.not_true, Bool.not_false, ne_eq, Decidable.not_not, Int.not_lt, Int.not_le] at h76
              refine Tr.skip (At.then_normal ?_)
              refine Tr.seq ?_
              refine Tr.block ?_
              refine Tr.regionQ mixed (by kernel_rfl) ?_
              refine TrL.move rfl rfl ?_
              refine TrL.move rfl rfl ?_
              refine TrL.cases (t := 80) rfl (fun h80 => ?_) (fun h80 => ?_)
              · try simp only [beq_iff_eq, beq_eq_false_iff_ne, Bool.not_eq_true, Bool.not_eq_false, decide_eq_true_eq, decide_eq_false_iff_not, Bool.not_eq_true', Bool.not_eq_false', bne_iff_ne, Bool.not_eq_eq_eq_not, Bool.not_true, Bool.not_false, ne_eq, Decidable.not_not, Int.not_lt, Int.not_le] at h80
                refine TrL.unwant rfl rfl rfl ?_
                refine TrL.unwant rfl rfl rfl ?_
                refine TrL.unwant rfl rfl rfl ?_
                refine TrL.unwant rfl rfl rfl ?_
                refine TrL.unwant rfl rfl rfl ?_
                refine TrL.unwant rfl rfl rfl ?_
                refine TrL.unwant rfl rfl rfl ?_
                refine TrL.unwant rfl rfl rfl ?_
                refine TrL.unwant rfl rfl rfl ?_
                refine TrL.unwant rfl rfl rfl ?_
                refine TrL.unwant rfl rfl rfl ?_
                refine TrL.unwant rfl rfl rfl ?_
                refine TrL.pickT rfl rfl rfl ?_
                refine TrL.assign rfl rfl ?_
                refine TrL.nilQ (At.block_normal (At.then_normal ?_))
                refine Tr.region ?_
                refine TrL.move rfl rfl ?_
                refine TrL.addI rfl rfl rfl (by omega) ?_
                refine TrL.assign rfl rfl ?_
                refine TrL.nil ?_
                have e5 : decide (s.tabs[y.1].id ∈ e.drop.take (j + 1)) = (decide (s.tabs[y.1].id ∈ e.drop.take j) || decide (e.drop[j] = s.tabs[y.1].id)) := mem_snoc (by omega)
                first | (rw [decide_eq_true h80, Bool.true_or] at e5) | (rw [decide_eq_false h80, Bool.false_or] at e5)
                refine At.again (j + 1) (by show j + 1 ≤ e.drop.length; omega) (by omega) (by rw [e5]; repeat (first | exact Sub.nil | refine Sub.cons (by rfl) ?_)) (by repeat (first | exact Picks.nil | with_reducible exact Pick.here | with_reducible apply Pick.there | with_reducible apply Pick.app_nil | with_reducible apply Pick.app_cons | apply Picks.cons))
              · try simp only [beq_iff_eq, beq_eq_false_iff_ne, Bool.not_eq_true, Bool.not_eq_false, decide_eq_true_eq, decide_eq_false_iff_not, Bool.not_eq_true', Bool.not_eq_false', bne_iff_ne, Bool.not_eq_eq_eq_not, Bool.not_true, Bool.not_false, ne_eq, Decidable.not_not, Int.not_lt, Int.not_le] at h80
                refine TrL.want rfl rfl ?_
                refine TrL.field rfl rfl fl25_1 ?_
                refine TrL.want rfl rfl ?_
                refine TrL.load1 rfl rfl sc23 (Sees.cl1 (by repeat (first | with_reducible exact Pick.here | with_reducible apply Pick.there | with_reducible apply Pick.app_nil | with_reducible apply Pick.app_cons)) (by rfl)) ?_
                refine TrL.want rfl rfl ?_
                refine TrL.move rfl rfl ?_
                refine TrL.want rfl rfl ?_
                refine TrL.idxF rfl rfl rfl se23 sz3 hD rfl rfl rfl (List.getElem?_eq_getElem (by omega)) (fun b84 o84 hp84 hc84 => ?_)
                refine TrL.want rfl rfl ?_
                refine TrL.loadR1 rfl rfl sc3 (Cells.part hc84 (j := 0) rfl) ?_
                refine TrL.want rfl rfl ?_
                refine TrL.field0 rfl rfl fl38_0 ?_
                refine TrL.want rfl rfl ?_
                refine TrL.load1 rfl rfl sc22 (Sees.cl1 (by repeat (first | with_reducible exact Pick.here | with_reducible apply Pick.there | with_reducible apply Pick.app_nil | with_reducible apply Pick.app_cons)) (by rfl)) ?_
                refine TrL.want rfl rfl ?_
                refine TrL.move rfl rfl ?_
                refine TrL.want rfl rfl ?_
                refine TrL.idxF rfl rfl rfl se22 sz46 hS rfl rfl rfl (List.getElem?_eq_getElem (by omega)) (fun b89 o89 hp89 hc89 => ?_)
                refine TrL.want rfl rfl ?_
                refine TrL.field0 rfl rfl fl46_0 ?_
                refine TrL.want rfl rfl ?_
                refine TrL.loadR1 rfl rfl sc3 (Cells.part hc89 (j := 0) rfl) ?_
                refine TrL.want rfl rfl ?_
                refine TrL.eqi rfl rfl rfl ?_
                refine TrL.pickF rfl rfl rfl ?_
                refine TrL.assign rfl rfl ?_
                refine TrL.nilQ (At.block_normal (At.then_normal ?_))
                refine Tr.region ?_
                refine TrL.move rfl rfl ?_
                refine TrL.addI rfl rfl rfl (by omega) ?_
                refine TrL.assign rfl rfl ?_
                refine TrL.nil ?_
                have e5 : decide (s.tabs[y.1].id ∈ e.drop.take (j + 1)) = (decide (s.tabs[y.1].id ∈ e.drop.take j) || decide (e.drop[j] = s.tabs[y.1].id)) := mem_snoc (by omega)
                first | (rw [decide_eq_true h80, Bool.true_or] at e5) | (rw [decide_eq_false h80, Bool.false_or] at e5)
                refine At.again (j + 1) (by show j + 1 ≤ e.drop.length; omega) (by omega) (by rw [e5]; repeat (first | exact Sub.nil | refine Sub.cons (by rfl) ?_)) (by repeat (first | exact Picks.nil | with_reducible exact Pick.here | with_reducible apply Pick.there | with_reducible apply Pick.app_nil | with_reducible apply Pick.app_cons | apply Picks.cons))
            · try simp only [beq_iff_eq, beq_eq_false_iff_ne, Bool.not_eq_true, Bool.not_eq_false, decide_eq_true_eq, decide_eq_false_iff_not, Bool.not_eq_true', Bool.not_eq_false', bne_iff_ne, Bool.not_eq_eq_eq_not, Bool.not_true, Bool.not_false, ne_eq, Decidable.not_not, Int.not_lt, Int.not_le] at h76
              refine Tr.exit (At.then_exit (At.then_exit (At.block_hit (At.then_normal ?_))))
              refine Tr.seq ?_
              rw [List.take_of_length_le (show e.drop.length ≤ j by omega)]
              refine Tr.region ?_
              refine TrL.move rfl rfl ?_
              refine TrL.not rfl rfl ?_
              refine TrL.nil (At.then_normal ?_)
              refine Tr.cond rfl (fun h95 => ?_) (fun h95 => ?_)
              · try simp only [beq_iff_eq, beq_eq_false_iff_ne, Bool.not_eq_true, Bool.not_eq_false, decide_eq_true_eq, decide_eq_false_iff_not, Bool.not_eq_true', Bool.not_eq_false', bne_iff_ne, Bool.not_eq_eq_eq_not, Bool.not_true, Bool.not_false, ne_eq, Decidable.not_not, Int.not_lt, Int.not_le] at h95
                refine Tr.region ?_
                refine TrL.move rfl rfl ?_
                refine TrL.field0 rfl rfl fl38_0 ?_
                refine TrL.load1 rfl rfl sc22 (Sees.cl1 (by repeat (first | with_reducible exact Pick.here | with_reducible apply Pick.there | with_reducible apply Pick.app_nil | with_reducible apply Pick.app_cons)) (by rfl)) ?_
                refine TrL.move rfl rfl ?_
                refine TrL.idxF rfl rfl rfl se22 sz46 hS rfl rfl rfl (List.getElem?_eq_getElem (by omega)) (fun b100 o100 hp100 hc100 => ?_)
                refine TrL.loadRA rfl rfl ag46 sz46 (by assumption) (by rfl) ?_
                refine TrL.buildSlA rfl rfl se22 sz46 zc46 rfl rfl rfl (fun b102 => ?_)
                have hfl := List.length_filter_le (fun t : Tab => !decide (t.id ∈ e.drop)) (s.tabs.take y.1)
                simp only [List.length_take] at hfl
                refine TrL.append1 (v := s.tabs[y.1]) rfl rfl se22 sz46 by46 zc46 rfl (by decide) (by repeat (first | with_reducible exact Pick.here | with_reducible apply Pick.there | with_reducible apply Pick.app_nil | with_reducible apply Pick.app_cons)) (by repeat (first | with_reducible exact Pick.here | with_reducible apply Pick.there | with_reducible apply Pick.app_nil | with_reducible apply Pick.app_cons)) (by rfl) (by rfl) (by rfl) (by rfl) (by decide) (by omega) (fun p103 cap103 => ?_)
                refine TrL.assign rfl rfl ?_
                refine TrL.nil (At.block_normal (At.then_normal ?_))
                refine Tr.region ?_
                refine TrL.move rfl rfl ?_
                refine TrL.addI rfl rfl rfl (by omega) ?_
                refine TrL.assign rfl rfl ?_
                refine TrL.nil ?_
                have e5 : ((s.tabs.take y.1).filter fun t => !decide (t.id ∈ e.drop)) ++ [s.tabs[y.1]] = ((s.tabs.take (y.1 + 1)).filter fun t => !decide (t.id ∈ e.drop)) := by rw [List.take_succ_eq_append_getElem (show y.1 < s.tabs.length by omega), List.filter_append]; simp only [List.filter_cons, List.filter_nil]; simp [h95]
                rw [e5]
                refine At.again (y.1 + 1, p103, cap103) (by show y.1 + 1 ≤ s.tabs.length; omega) (by show s.tabs.length - (y.1 + 1) < s.tabs.length - y.1; omega) (by repeat (first | exact Sub.nil | refine Sub.cons (by rfl) ?_)) (by repeat (first | exact Picks.nil | with_reducible exact Pick.here | with_reducible apply Pick.there | with_reducible apply Pick.app_nil | with_reducible apply Pick.app_cons | apply Picks.cons))
              · try simp only [beq_iff_eq, beq_eq_false_iff_ne, Bool.not_eq_true, Bool.not_eq_false, decide_eq_true_eq, decide_eq_false_iff_not, Bool.not_eq_true', Bool.not_eq_false', bne_iff_ne, Bool.not_eq_eq_eq_not, Bool.not_true, Bool.not_false, ne_eq, Decidable.not_not, Int.not_lt, Int.not_le] at h95
                refine Tr.skip (At.block_normal (At.then_normal ?_))
                refine Tr.region ?_
                refine TrL.move rfl rfl ?_
                refine TrL.addI rfl rfl rfl (by omega) ?_
                refine TrL.assign rfl rfl ?_
                refine TrL.nil ?_
                have e5 : ((s.tabs.take y.1).filter fun t => !decide (t.id ∈ e.drop)) = ((s.tabs.take (y.1 + 1)).filter fun t => !decide (t.id ∈ e.drop)) := by rw [List.take_succ_eq_append_getElem (show y.1 < s.tabs.length by omega), List.filter_append]; simp only [List.filter_cons, List.filter_nil]; simp [h95]
                rw [e5]
                refine At.again (y.1 + 1, y.2.1, y.2.2) (by show y.1 + 1 ≤ s.tabs.length; omega) (by show s.tabs.length - (y.1 + 1) < s.tabs.length - y.1; omega) (by repeat (first | exact Sub.nil | refine Sub.cons (by rfl) ?_)) (by repeat (first | exact Picks.nil | with_reducible exact Pick.here | with_reducible apply Pick.there | with_reducible apply Pick.app_nil | with_reducible apply Pick.app_cons | apply Picks.cons))
          · try simp only [beq_iff_eq, beq_eq_false_iff_ne, Bool.not_eq_true, Bool.not_eq_false, decide_eq_true_eq, decide_eq_false_iff_not, Bool.not_eq_true', Bool.not_eq_false', bne_iff_ne, Bool.not_eq_eq_eq_not, Bool.not_true, Bool.not_false, ne_eq, Decidable.not_not, Int.not_lt, Int.not_le] at h69
            refine Tr.exit (At.then_exit (At.then_exit (At.block_hit (At.then_normal ?_))))
            refine Tr.seq ?_
            refine Tr.seq ?_
            rw [List.take_of_length_le (show s.tabs.length ≤ y.1 by omega)]
            have hkeep : keepT s e = s.tabs.filter fun t => !decide (t.id ∈ e.drop) := rfl
            rw [← hkeep]
            refine Tr.region ?_
            refine TrL.assign rfl rfl ?_
            refine TrL.nil (At.then_normal ?_)
            refine Tr.block ?_
            have el0 : keepT s e = (e.add.take 0).foldl putT (keepT s e) := rfl
            rw [el0]
            refine Tr.loopK [2, 3, 4] (α := Nat × Option Addr × Nat) (fun y => [(12, .int .i64 (y.1 : Int)), (8, .slice y.2.1 ((e.add.take y.1).foldl putT (keepT s e)).length y.2.2)]) (fun y => [Own 46 4 encT y.2.1 y.2.2 ((e.add.take y.1).foldl putT (keepT s e))]) (fun y => y.1 ≤ e.add.length ∧ addOk e.next ((s.tabs.map (·.id)) ++ (e.add.take y.1).map (·.id)) (e.add.drop y.1) = addOk e.next (s.tabs.map (·.id)) e.add) (fun y => e.add.length - y.1) (0, y.2.1, y.2.2) (by rfl) ?_ (by repeat (first | exact Sub.nil | refine Sub.cons (by rfl) ?_)) (by repeat (first | exact Picks.nil | with_reducible exact Pick.here | with_reducible apply Pick.there | with_reducible apply Pick.app_nil | with_reducible apply Pick.app_cons | apply Picks.cons)) ?_
            · exact ⟨Nat.zero_le _, by simp⟩
            rintro y ⟨hw1, hw2⟩
            refine Tr.seq ?_
            refine Tr.seq ?_
            refine Tr.region ?_
            refine TrL.move rfl rfl ?_
            refine TrL.field0 rfl rfl fl25_0 ?_
            refine TrL.load1 rfl rfl sc22 (Sees.cl1 (by repeat (first | with_reducible exact Pick.here | with_reducible apply Pick.there | with_reducible apply Pick.app_nil | with_reducible apply Pick.app_cons)) (by rfl)) ?_
            refine TrL.lenl rfl rfl se22 ?_
            refine TrL.lss rfl rfl rfl ?_
            refine TrL.nil (At.then_normal ?_)
            refine Tr.cond rfl (fun h108 => ?_) (fun h108 => ?_)
            · try simp only [beq_iff_eq, beq_eq_false_iff_ne, Bool.not_eq_true, Bool.not_eq_false, decide_eq_true_eq, decide_eq_false_iff_not, Bool.not_eq_true', Bool.not_eq_false', bne_iff_ne, Bool.not_eq_eq_eq_not, Bool.not_true, Bool.not_false, ne_eq, Decidable.not_not, Int.not_lt, Int.not_le] at h108
              refine Tr.skip (At.then_normal ?_)
              refine Tr.seq ?_
              refine Tr.block ?_
              refine Tr.seq ?_
              have hcons : addOk e.next ((s.tabs.map (·.id)) ++ (e.add.take y.1).map (·.id)) (e.add.drop y.1) = (!decide (e.add[y.1].id ∈ (s.tabs.map (·.id)) ++ (e.add.take y.1).map (·.id)) && decide (e.add[y.1].id < e.next) && addOk e.next ((s.tabs.map (·.id)) ++ (e.add.take y.1).map (·.id) ++ [e.add[y.1].id]) (e.add.drop (y.1 + 1))) := by rw [List.drop_eq_getElem_cons (by omega), addOk_cons]
              have hal : ((e.add.take y.1).foldl putT (keepT s e)).length ≤ 50128 := by have h1 := (foldl_putT (e.add.take y.1) (keepT s e)).1.length_eq; have h2 := (keep_sub s e).length_le; simp only [List.length_append, List.length_take] at h1; omega
              refine Tr.region ?_
              refine TrL.field0 rfl rfl fl25_0 ?_
              refine TrL.load1 rfl rfl sc22 (Sees.cl1 (by repeat (first | with_reducible exact Pick.here | with_reducible apply Pick.there | with_reducible apply Pick.app_nil | with_reducible apply Pick.app_cons)) (by rfl)) ?_
              refine TrL.move rfl rfl ?_
              refine TrL.idxF rfl rfl rfl se22 sz46 hA rfl rfl rfl (List.getElem?_eq_getElem (by omega)) (fun b114 o114 hp114 hc114 => ?_)
              refine TrL.loadRA rfl rfl ag46 sz46 (by assumption) (by rfl) ?_
              refine TrL.alloc rfl zc46 (fun b13 => ?_)
              --L:b13
              refine TrL.storeLA rfl rfl sz46 ⟨rfl, List.cons_ne_nil _ _⟩ rfl (by repeat (first | with_reducible exact Upd.here | with_reducible apply Upd.there | with_reducible apply Upd.app_nil | with_reducible apply Upd.app_cons)) (by rfl) ?_
              refine TrL.nil (At.then_normal ?_)
              refine Tr.seq ?_
              refine Tr.seq ?_
              refine Tr.region ?_
              refine TrL.field0 rfl rfl fl38_0 ?_
              refine TrL.load1 rfl rfl sc22 (Sees.cl1 (by repeat (first | with_reducible exact Pick.here | with_reducible apply Pick.there | with_reducible apply Pick.app_nil | with_reducible apply Pick.app_cons)) (by rfl)) ?_
              refine TrL.field0 rfl rfl fl46_0 ?_
              refine TrL.load1 rfl rfl sc3 (Sees.cl1 (by repeat (first | with_reducible exact Pick.here | with_reducible apply Pick.there | with_reducible apply Pick.app_nil | with_reducible apply Pick.app_cons)) (by rfl)) ?_
              refine TrL.call rfl rfl rfl ca51 .nil (fun Ft120 hUt120 => find_spec (hUt120.ro (SlIn.mono _ _ _ _) hS) (by omega) ?_)
              refine TrL.geq rfl rfl rfl ?_
              refine TrL.move rfl rfl ?_
              refine TrL.cases (t := 122) rfl (fun h122 => ?_) (fun h122 => ?_)
              · try simp only [beq_iff_eq, beq_eq_false_iff_ne, Bool.not_eq_true, Bool.not_eq_false, decide_eq_true_eq, decide_eq_false_iff_not, Bool.not_eq_true', Bool.not_eq_false', bne_iff_ne, Bool.not_eq_eq_eq_not, Bool.not_true, Bool.not_false, ne_eq, Decidable.not_not, Int.not_lt, Int.not_le] at h122
                refine TrL.unwant rfl rfl rfl ?_
                refine TrL.unwant rfl rfl rfl ?_
                refine TrL.unwant rfl rfl rfl ?_
                refine TrL.unwant rfl rfl rfl ?_
                refine TrL.unwant rfl rfl rfl ?_
                refine TrL.unwant rfl rfl rfl ?_
                refine TrL.unwant rfl rfl rfl ?_
                refine TrL.pickT rfl rfl rfl ?_
                refine TrL.move rfl rfl ?_
                refine TrL.unwant rfl rfl rfl ?_
                refine TrL.unwant rfl rfl rfl ?_
                refine TrL.unwant rfl rfl rfl ?_
                refine TrL.unwant rfl rfl rfl ?_
                refine TrL.unwant rfl rfl rfl ?_
                refine TrL.pickT rfl rfl rfl ?_
                refine TrL.nil (At.then_normal ?_)
                refine Tr.condT rfl ?_
                refine Tr.seq ?_
                refine Tr.region ?_
                refine TrL.build rfl rfl pl38 zc38 rfl ?_
                refine TrL.storeLA rfl rfl sz38 ⟨rfl, List.cons_ne_nil _ _⟩ rfl (by repeat (first | with_reducible exact Upd.here | with_reducible apply Upd.there | with_reducible apply Upd.app_nil | with_reducible apply Upd.app_cons)) (by rfl) ?_
                refine TrL.assign rfl rfl ?_
                refine TrL.nil (At.then_normal ?_)
                refine Tr.ret (At.then_ret (At.block_ret (At.then_ret (At.then_ret (At.block_ret (At.then_ret (At.retX [] (.inl rfl) rfl (Res.cellLA rfl ag38 sz38 (by repeat (first | with_reducible exact Pick.here | with_reducible apply Pick.there | with_reducible apply Pick.app_nil | with_reducible apply Pick.app_cons)) (by rfl) (Res.tmp rfl Res.nil)) (by repeat (first | exact Picks.nil | with_reducible exact Pick.here | with_reducible apply Pick.there | with_reducible apply Pick.app_nil | with_reducible apply Pick.app_cons | apply Picks.cons)) (by 
                    refine ⟨[RowC encT 4 none ([] : List Tab)], fun h _ => one_stars (RowC.nil _), ?_⟩
                    have e1 : applyF s e = (zeroS, 120) := by
                      have hnf : fitsE s e = false := by unfold fitsE; rw [show addOk e.next (s.tabs.map (·.id)) e.add = false by rw [← hw2, hcons]; rw [decide_eq_true (List.mem_append_left _ (show e.add[y.1].id ∈ (s.tabs.map (·.id)) from Decidable.byContradiction fun h => absurd (findI_neg.2 h) (by omega)))]; simp]; simp
                      unfold applyF
                      rw [if_neg (by simp [hm]), hnf]
                      rfl
                    have e2 := hK none 0
                    rw [e1] at e2
                    exact e2))))))))
              · try simp only [beq_iff_eq, beq_eq_false_iff_ne, Bool.not_eq_true, Bool.not_eq_false, decide_eq_true_eq, decide_eq_false_iff_not, Bool.not_eq_true', Bool.not_eq_false', bne_iff_ne, Bool.not_eq_eq_eq_not, Bool.not_true, Bool.not_false, ne_eq, Decidable.not_not, Int.not_lt, Int.not_le] at h122
                refine TrL.want rfl rfl ?_
                refine TrL.field0 rfl rfl fl25_0 ?_
                refine TrL.want rfl rfl ?_
                refine TrL.load1 rfl rfl sc22 (Sees.cl1 (by repeat (first | with_reducible exact Pick.here | with_reducible apply Pick.there | with_reducible apply Pick.app_nil | with_reducible apply Pick.app_cons)) (by rfl)) ?_
                refine TrL.want rfl rfl ?_
                refine TrL.field0 rfl rfl fl46_0 ?_
                refine TrL.want rfl rfl ?_
                refine TrL.load1 rfl rfl sc3 (Sees.cl1 (by repeat (first | with_reducible exact Pick.here | with_reducible apply Pick.there | with_reducible apply Pick.app_nil | with_reducible apply Pick.app_cons)) (by rfl)) ?_
                refine TrL.want rfl rfl ?_
                refine TrL.call rfl rfl rfl ca51 .nil (fun Ft127 hUt127 => find_spec (hUt127.ro (SlIn.mono _ _ _ _) hA) (by omega) ?_)
                refine TrL.want rfl rfl ?_
                refine TrL.move rfl rfl ?_
                refine TrL.want rfl rfl ?_
                refine TrL.nei rfl rfl rfl ?_
                refine TrL.pickF rfl rfl rfl ?_
                refine TrL.move rfl rfl ?_
                refine TrL.cases (t := 131) rfl (fun h131 => ?_) (fun h131 => ?_)
                · try simp only [beq_iff_eq, beq_eq_false_iff_ne, Bool.not_eq_true, Bool.not_eq_false, decide_eq_true_eq, decide_eq_false_iff_not, Bool.not_eq_true', Bool.not_eq_false', bne_iff_ne, Bool.not_eq_eq_eq_not, Bool.not_true, Bool.not_false, ne_eq, Decidable.not_not, Int.not_lt, Int.not_le] at h131
                  refine TrL.unwant rfl rfl rfl ?_
                  refine TrL.unwant rfl rfl rfl ?_
                  refine TrL.unwant rfl rfl rfl ?_
                  refine TrL.unwant rfl rfl rfl ?_
                  refine TrL.unwant rfl rfl rfl ?_
                  refine TrL.pickT rfl rfl rfl ?_
                  refine TrL.nil (At.then_normal ?_)
                  refine Tr.condT rfl ?_
                  refine Tr.seq ?_
                  refine Tr.region ?_
                  refine TrL.build rfl rfl pl38 zc38 rfl ?_
                  refine TrL.storeLA rfl rfl sz38 ⟨rfl, List.cons_ne_nil _ _⟩ rfl (by repeat (first | with_reducible exact Upd.here | with_reducible apply Upd.there | with_reducible apply Upd.app_nil | with_reducible apply Upd.app_cons)) (by rfl) ?_
                  refine TrL.assign rfl rfl ?_
                  refine TrL.nil (At.then_normal ?_)
                  refine Tr.ret (At.then_ret (At.block_ret (At.then_ret (At.then_ret (At.block_ret (At.then_ret (At.retX [] (.inl rfl) rfl (Res.cellLA rfl ag38 sz38 (by repeat (first | with_reducible exact Pick.here | with_reducible apply Pick.there | with_reducible apply Pick.app_nil | with_reducible apply Pick.app_cons)) (by rfl) (Res.tmp rfl Res.nil)) (by repeat (first | exact Picks.nil | with_reducible exact Pick.here | with_reducible apply Pick.there | with_reducible apply Pick.app_nil | with_reducible apply Pick.app_cons | apply Picks.cons)) (by 
                      refine ⟨[RowC encT 4 none ([] : List Tab)], fun h _ => one_stars (RowC.nil _), ?_⟩
                      have e1 : applyF s e = (zeroS, 120) := by
                        have hnf : fitsE s e = false := by unfold fitsE; rw [show addOk e.next (s.tabs.map (·.id)) e.add = false by rw [← hw2, hcons]; rw [decide_eq_true (List.mem_append_right _ (show e.add[y.1].id ∈ (e.add.take y.1).map (·.id) from Decidable.byContradiction fun h => absurd ((findI_ne (by omega)).2 h) h131))]; simp]; simp
                        unfold applyF
                        rw [if_neg (by simp [hm]), hnf]
                        rfl
                      have e2 := hK none 0
                      rw [e1] at e2
                      exact e2))))))))
                · try simp only [beq_iff_eq, beq_eq_false_iff_ne, Bool.not_eq_true, Bool.not_eq_false, decide_eq_true_eq, decide_eq_false_iff_not, Bool.not_eq_true', Bool.not_eq_false', bne_iff_ne, Bool.not_eq_eq_eq_not, Bool.not_true, Bool.not_false, ne_eq, Decidable.not_not, Int.not_lt, Int.not_le] at h131
                  refine TrL.want rfl rfl ?_
                  refine TrL.field0 rfl rfl fl46_0 ?_
                  refine TrL.want rfl rfl ?_
                  refine TrL.load1 rfl rfl sc3 (Sees.cl1 (by repeat (first | with_reducible exact Pick.here | with_reducible apply Pick.there | with_reducible apply Pick.app_nil | with_reducible apply Pick.app_cons)) (by rfl)) ?_
                  refine TrL.want rfl rfl ?_
                  refine TrL.field rfl rfl fl25_3 ?_
                  refine TrL.want rfl rfl ?_
                  refine TrL.load1 rfl rfl sc3 (Sees.cl1 (by repeat (first | with_reducible exact Pick.here | with_reducible apply Pick.there | with_reducible apply Pick.app_nil | with_reducible apply Pick.app_cons)) (by rfl)) ?_
                  refine TrL.want rfl rfl ?_
                  refine TrL.geq rfl rfl rfl ?_
                  refine TrL.pickF rfl rfl rfl ?_
                  refine TrL.nil (At.then_normal ?_)
                  refine Tr.cond rfl (fun h137 => ?_) (fun h137 => ?_)
                  · try simp only [beq_iff_eq, beq_eq_false_iff_ne, Bool.not_eq_true, Bool.not_eq_false, decide_eq_true_eq, decide_eq_false_iff_not, Bool.not_eq_true', Bool.not_eq_false', bne_iff_ne, Bool.not_eq_eq_eq_not, Bool.not_true, Bool.not_false, ne_eq, Decidable.not_not, Int.not_lt, Int.not_le] at h137
                    refine Tr.seq ?_
                    refine Tr.region ?_
                    refine TrL.build rfl rfl pl38 zc38 rfl ?_
                    refine TrL.storeLA rfl rfl sz38 ⟨rfl, List.cons_ne_nil _ _⟩ rfl (by repeat (first | with_reducible exact Upd.here | with_reducible apply Upd.there | with_reducible apply Upd.app_nil | with_reducible apply Upd.app_cons)) (by rfl) ?_
                    refine TrL.assign rfl rfl ?_
                    refine TrL.nil (At.then_normal ?_)
                    refine Tr.ret (At.then_ret (At.block_ret (At.then_ret (At.then_ret (At.block_ret (At.then_ret (At.retX [] (.inl rfl) rfl (Res.cellLA rfl ag38 sz38 (by repeat (first | with_reducible exact Pick.here | with_reducible apply Pick.there | with_reducible apply Pick.app_nil | with_reducible apply Pick.app_cons)) (by rfl) (Res.tmp rfl Res.nil)) (by repeat (first | exact Picks.nil | with_reducible exact Pick.here | with_reducible apply Pick.there | with_reducible apply Pick.app_nil | with_reducible apply Pick.app_cons | apply Picks.cons)) (by 
                        refine ⟨[RowC encT 4 none ([] : List Tab)], fun h _ => one_stars (RowC.nil _), ?_⟩
                        have e1 : applyF s e = (zeroS, 120) := by
                          have hnf : fitsE s e = false := by unfold fitsE; rw [show addOk e.next (s.tabs.map (·.id)) e.add = false by rw [← hw2, hcons]; rw [decide_eq_false (show ¬ e.add[y.1].id < e.next by omega)]; simp]; simp
                          unfold applyF
                          rw [if_neg (by simp [hm]), hnf]
                          rfl
                        have e2 := hK none 0
                        rw [e1] at e2
                        exact e2))))))))
                  · try simp only [beq_iff_eq, beq_eq_false_iff_ne, Bool.not_eq_true, Bool.not_eq_false, decide_eq_true_eq, decide_eq_false_iff_not, Bool.not_eq_true', Bool.not_eq_false', bne_iff_ne, Bool.not_eq_eq_eq_not, Bool.not_true, Bool.not_false, ne_eq, Decidable.not_not, Int.not_lt, Int.not_le] at h137
                    refine Tr.skip (At.then_normal ?_)
                    refine Tr.fact (ch := Own 46 4 encT y.2.1 y.2.2 ((e.add.take y.1).foldl putT (keepT s e))) (by repeat (first | with_reducible exact Pick.here | with_reducible apply Pick.there | with_reducible apply Pick.app_nil | with_reducible apply Pick.app_cons)) (fun _ ho => (OwnR.le ho).1) (fun hcap => ?_)
                    refine Tr.region ?_
                    refine TrL.move rfl rfl ?_
                    refine TrL.loadLA rfl rfl ag46 sz46 (by repeat (first | with_reducible exact Pick.here | with_reducible apply Pick.there | with_reducible apply Pick.app_nil | with_reducible apply Pick.app_cons)) (by rfl) ?_
                    refine TrL.call rfl rfl rfl ca52 .nil (fun Ft141 hUt141 => put_spec (l := (e.add.take y.1).foldl putT (keepT s e)) (Own.up hUt141 (by repeat (first | with_reducible exact Pick.here | with_reducible apply Pick.there | with_reducible apply Pick.app_nil | with_reducible apply Pick.app_cons)) (by decide) encT_len) (by omega) hcap (fun p41 c41 => ?_))
                    refine TrL.assign rfl rfl ?_
                    refine TrL.nil (At.block_normal (At.then_normal ?_))
                    refine Tr.region ?_
                    refine TrL.move rfl rfl ?_
                    refine TrL.addI rfl rfl rfl (by omega) ?_
                    refine TrL.assign rfl rfl ?_
                    refine TrL.nil ?_
                    have e6 : putT ((e.add.take y.1).foldl putT (keepT s e)) e.add[y.1] = (e.add.take (y.1 + 1)).foldl putT (keepT s e) := by rw [List.take_succ_eq_append_getElem (by omega), List.foldl_append]; rfl
                    rw [e6]
                    have e5 : ((s.tabs.map (·.id)) ++ (e.add.take y.1).map (·.id)) ++ [e.add[y.1].id] = (s.tabs.map (·.id)) ++ (e.add.take (y.1 + 1)).map (·.id) := by rw [List.append_assoc, map_snoc (by omega)]
                    refine At.again (y.1 + 1, p41, c41) ⟨by show y.1 + 1 ≤ e.add.length; omega, ?_⟩ (by show e.add.length - (y.1 + 1) < e.add.length - y.1; omega) (by repeat (first | exact Sub.nil | refine Sub.cons (by rfl) ?_)) (by repeat (first | exact Picks.nil | with_reducible exact Pick.here | with_reducible apply Pick.there | with_reducible apply Pick.app_nil | with_reducible apply Pick.app_cons | apply Picks.cons))
                    show addOk e.next ((s.tabs.map (·.id)) ++ (e.add.take (y.1 + 1)).map (·.id)) (e.add.drop (y.1 + 1)) = _
                    rw [← hw2, hcons, e5]
                    have h1 : decide (e.add[y.1].id < e.next) = true := by simp; omega
                    have h2 : decide (e.add[y.1].id ∈ (s.tabs.map (·.id)) ++ (e.add.take y.1).map (·.id)) = false := by
                      refine decide_eq_false fun h => ?_
                      rcases List.mem_append.1 h with h | h
                      · exact absurd h (findI_neg.1 (by omega))
                      · exact absurd h ((findI_ne (by omega)).1 h131)
                    rw [h1, h2]
                    simp
            · try simp only [beq_iff_eq, beq_eq_false_iff_ne, Bool.not_eq_true, Bool.not_eq_false, decide_eq_true_eq, decide_eq_false_iff_not, Bool.not_eq_true', Bool.not_eq_false', bne_iff_ne, Bool.not_eq_eq_eq_not, Bool.not_true, Bool.not_false, ne_eq, Decidable.not_not, Int.not_lt, Int.not_le] at h108
              refine Tr.exit (At.then_exit (At.then_exit (At.block_hit (At.then_normal ?_))))
              refine Tr.seq ?_
              refine Tr.seq ?_
              rw [List.take_of_length_le (show e.add.length ≤ y.1 by omega)]
              have hadd : addOk e.next (s.tabs.map (·.id)) e.add = true := by rw [← hw2, List.drop_of_length_le (by omega)]; rfl
              have hnl : (newT s e).length ≤ 50128 := by have h1 := (foldl_putT e.add (keepT s e)).1.length_eq; have h2 := (keep_sub s e).length_le; unfold newT; simp only [List.length_append] at h1; omega
              have hne : e.add.foldl putT (keepT s e) = newT s e := rfl
              rw [hne]
              refine Tr.region ?_
              refine TrL.move rfl rfl ?_
              refine TrL.call rfl rfl rfl ca53 .nil (fun Ft143 hUt143 => apart_spec (l := newT s e) (Own.up hUt143 (by repeat (first | with_reducible exact Pick.here | with_reducible apply Pick.there | with_reducible apply Pick.app_nil | with_reducible apply Pick.app_cons)) (by decide) encT_len) (by omega) ?_)
              refine TrL.not rfl rfl ?_
              refine TrL.nil (At.then_normal ?_)
              refine Tr.cond rfl (fun h144 => ?_) (fun h144 => ?_)
              · try simp only [beq_iff_eq, beq_eq_false_iff_ne, Bool.not_eq_true, Bool.not_eq_false, decide_eq_true_eq, decide_eq_false_iff_not, Bool.not_eq_true', Bool.not_eq_false', bne_iff_ne, Bool.not_eq_eq_eq_not, Bool.not_true, Bool.not_false, ne_eq, Decidable.not_not, Int.not_lt, Int.not_le] at h144
                refine Tr.seq ?_
                refine Tr.region ?_
                refine TrL.build rfl rfl pl38 zc38 rfl ?_
                refine TrL.storeLA rfl rfl sz38 ⟨rfl, List.cons_ne_nil _ _⟩ rfl (by repeat (first | with_reducible exact Upd.here | with_reducible apply Upd.there | with_reducible apply Upd.app_nil | with_reducible apply Upd.app_cons)) (by rfl) ?_
                refine TrL.assign rfl rfl ?_
                refine TrL.nil (At.then_normal ?_)
                refine Tr.ret (At.then_ret (At.retX [] (.inl rfl) rfl (Res.cellLA rfl ag38 sz38 (by repeat (first | with_reducible exact Pick.here | with_reducible apply Pick.there | with_reducible apply Pick.app_nil | with_reducible apply Pick.app_cons)) (by rfl) (Res.tmp rfl Res.nil)) (by repeat (first | exact Picks.nil | with_reducible exact Pick.here | with_reducible apply Pick.there | with_reducible apply Pick.app_nil | with_reducible apply Pick.app_cons | apply Picks.cons)) (by 
                    refine ⟨[RowC encT 4 none ([] : List Tab)], fun h _ => one_stars (RowC.nil _), ?_⟩
                    have e1 : applyF s e = (zeroS, 120) := by
                      have hnf : fitsE s e = false := by unfold fitsE; rw [decide_eq_false h144]; simp
                      exact apply_not hm hnf
                    have e2 := hK none 0
                    rw [e1] at e2
                    exact e2)))
              · try simp only [beq_iff_eq, beq_eq_false_iff_ne, Bool.not_eq_true, Bool.not_eq_false, decide_eq_true_eq, decide_eq_false_iff_not, Bool.not_eq_true', Bool.not_eq_false', bne_iff_ne, Bool.not_eq_eq_eq_not, Bool.not_true, Bool.not_false, ne_eq, Decidable.not_not, Int.not_lt, Int.not_le] at h144
                refine Tr.skip (At.then_normal ?_)
                refine Tr.seq ?_
                refine Tr.region ?_
                refine TrL.move rfl rfl ?_
                refine TrL.field rfl rfl fl25_2 ?_
                refine TrL.load1 rfl rfl sc3 (Sees.cl1 (by repeat (first | with_reducible exact Pick.here | with_reducible apply Pick.there | with_reducible apply Pick.app_nil | with_reducible apply Pick.app_cons)) (by rfl)) ?_
                refine TrL.field rfl rfl fl25_3 ?_
                refine TrL.load1 rfl rfl sc3 (Sees.cl1 (by repeat (first | with_reducible exact Pick.here | with_reducible apply Pick.there | with_reducible apply Pick.app_nil | with_reducible apply Pick.app_cons)) (by rfl)) ?_
                refine TrL.build rfl rfl pl38 zc38 rfl ?_
                refine TrL.storeLA rfl rfl sz38 ⟨rfl, List.cons_ne_nil _ _⟩ rfl (by repeat (first | with_reducible exact Upd.here | with_reducible apply Upd.there | with_reducible apply Upd.app_nil | with_reducible apply Upd.app_cons)) (by rfl) ?_
                refine TrL.assign rfl rfl ?_
                refine TrL.nil (At.then_normal ?_)
                refine Tr.ret (At.retX [Own 46 4 encT y.2.1 y.2.2 (newT s e)] (.inl rfl) rfl (Res.cellLA rfl ag38 sz38 (by repeat (first | with_reducible exact Pick.here | with_reducible apply Pick.there | with_reducible apply Pick.app_nil | with_reducible apply Pick.app_cons)) (by rfl) (Res.tmp rfl Res.nil)) (by repeat (first | exact Picks.nil | with_reducible exact Pick.here | with_reducible apply Pick.there | with_reducible apply Pick.app_nil | with_reducible apply Pick.app_cons | apply Picks.cons)) (by 
                    have hf : fitsE s e = true := by unfold fitsE; rw [hgone, hadd, decide_eq_true h144]; simp only [Bool.and_eq_true, decide_eq_true_eq]; exact ⟨⟨⟨⟨by omega, by omega⟩, trivial⟩, trivial⟩, trivial⟩
                    refine ⟨[RowC encT 4 y.2.1 (newT s e)], fun h hs => ?_, ?_⟩
                    · obtain ⟨h1, h2, d, l1, l2, c1, h3⟩ := hs
                      exact ⟨h1, h2, d, l1, l2, RowC.ofOwn (k := 4) (by decide) encT_len c1, h3⟩
                    · have e1 : applyF s e = (⟨newT s e, e.log, e.next⟩, 0) := by unfold applyF; rw [if_neg (by simp [hm]), if_pos hf]
                      have e2 := hK y.2.1 y.2.2
                      rw [e1] at e2
                      exact e2))
end Go.Proofs.Ytiefmfimbmkdjaa

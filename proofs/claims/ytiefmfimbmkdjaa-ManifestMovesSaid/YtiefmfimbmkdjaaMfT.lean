/-
  The law ManifestApart, walked.
  No condition but those that each statement names.
-/
import Derived.Test.YtiefmfimbmkdjaaMfS
namespace Go.Proofs.Ytiefmfimbmkdjaa
set_option linter.unusedSimpArgs false
set_option linter.unusedVariables false
set_option linter.unusedSectionVars false
open Go.RowKit
variable [Obs]


theorem good_pair {s : Sta} (g : Good s) {k j : Nat} (hk : k < j) (hj : j < s.tabs.length) : s.tabs[k].id ≠ s.tabs[j].id ∧ s.tabs[k].level ≤ s.tabs[j].level ∧ (0 < s.tabs[j].level → s.tabs[k].level = s.tabs[j].level → blt s.tabs[k].hi s.tabs[j].lo = true) := by
  have h1 := List.pairwise_iff_getElem.1 g.rise k j (by omega) hj hk
  have h2 := List.pairwise_iff_getElem.1 g.apart k j (by omega) hj hk
  have h3 := List.pairwise_iff_getElem.1 (List.pairwise_map.1 g.once) k j (by omega) hj hk
  have h4 := g.may s.tabs[j] (List.getElem_mem _)
  refine ⟨h3, ?_, fun h5 h6 => ?_⟩
  · unfold ltT at h1
    by_cases h : s.tabs[k].level = s.tabs[j].level
    · omega
    · rw [if_neg h] at h1; have := of_decide_eq_true h1; omega
  · unfold tabOk at h4
    simp only [Bool.and_eq_true, Bool.not_eq_true'] at h4
    unfold ltT at h1
    rw [if_pos h6, if_neg (by omega)] at h1
    have h7 : blt s.tabs[j].hi s.tabs[k].lo = false := ble_trans (blt_asymm h1) h4.2
    unfold apartT at h2
    rw [decide_eq_true (show 0 < s.tabs[k].level by omega), decide_eq_true h6, h7] at h2
    cases h8 : blt s.tabs[k].hi s.tabs[j].lo with
    | true => rfl
    | false => rw [h8] at h2; cases h2
theorem good_one {s : Sta} (g : Good s) {j : Nat} (hj : j < s.tabs.length) : s.tabs[j].id < s.next ∧ blt s.tabs[j].hi s.tabs[j].lo = false := by
  have h4 := g.may s.tabs[j] (List.getElem_mem _)
  unfold tabOk at h4
  simp only [Bool.and_eq_true, Bool.not_eq_true'] at h4
  exact ⟨g.low _ (List.getElem_mem _), h4.2⟩
set_option maxHeartbeats 8000000 in
theorem ManifestApart_spec {F : Hp} {K : Value → List HProp → Prop} {p : Option Addr} {c : Nat} {l : List EdA} (hL : SlIn F encE 4 p l) (hok : ∀ x ∈ l, EdOk F x) (hK : K (.bool true) []) : CallK Try.prog F 5 #[.slice p l.length c] [] K := by
  refine CallK.enter Try.func5 rfl Try.ntmps5 rfl ?_
  refine Tr.seq ?_
  refine Tr.region ?_
  refine TrL.assign rfl rfl ?_
  refine TrL.nil (At.then_normal ?_)
  refine Tr.seq ?_
  refine Tr.seq ?_
  refine Tr.region ?_
  refine TrL.move rfl rfl ?_
  refine TrL.lenl rfl rfl se36 ?_
  refine TrL.gtr rfl rfl rfl ?_
  refine TrL.nil (At.then_normal ?_)
  refine Tr.cond rfl (fun h13 => ?_) (fun h13 => ?_)
  · try simp only [beq_iff_eq, beq_eq_false_iff_ne, Bool.not_eq_true, Bool.not_eq_false, decide_eq_true_eq, decide_eq_false_iff_not, Bool.not_eq_true', Bool.not_eq_false', bne_iff_ne, Bool.not_eq_eq_eq_not, Bool.not_true, Bool.not_false, ne_eq, Decidable.not_not, Int.not_lt, Int.not_le] at h13
    refine Tr.seq ?_
    refine Tr.region ?_
    refine TrL.call rfl rfl rfl ca10 .nil (fun Ft14 hUt14 => awake_spec ?_)
    refine TrL.assign rfl rfl ?_
    refine TrL.nil (At.then_normal ?_)
    refine Tr.ret (At.then_ret (At.retP [] (.inl rfl) rfl (Res.tmp rfl Res.nil) (by repeat (first | exact Picks.nil | with_reducible exact Pick.here | with_reducible apply Pick.there | with_reducible apply Pick.app_nil | with_reducible apply Pick.app_cons | apply Picks.cons)) (by exact hK)))
  · try simp only [beq_iff_eq, beq_eq_false_iff_ne, Bool.not_eq_true, Bool.not_eq_false, decide_eq_true_eq, decide_eq_false_iff_not, Bool.not_eq_true', Bool.not_eq_false', bne_iff_ne, Bool.not_eq_eq_eq_not, Bool.not_true, Bool.not_false, ne_eq, Decidable.not_not, Int.not_lt, Int.not_le] at h13
    refine Tr.skip (At.then_normal ?_)
    refine Tr.seq ?_
    refine Tr.region ?_
    refine TrL.build rfl rfl pl38 zc38 rfl ?_
    refine TrL.alloc rfl zc38 (fun b3 => ?_)
    refine TrL.storeLA rfl rfl sz38 ⟨rfl, List.cons_ne_nil _ _⟩ rfl (by repeat (first | with_reducible exact Upd.here | with_reducible apply Upd.there | with_reducible apply Upd.app_nil | with_reducible apply Upd.app_cons)) (by rfl) ?_
    refine TrL.nil (At.then_normal ?_)
    refine Tr.seq ?_
    refine Tr.seq ?_
    refine Tr.region ?_
    refine TrL.assign rfl rfl ?_
    refine TrL.nil (At.then_normal ?_)
    refine Tr.block ?_
    refine Tr.row0 encT 4 ?_
    refine Tr.loopK [0, 2, 3] (α := Nat × Sta × (Option Addr × Nat)) (fun y => [(4, .int .i64 (y.1 : Int))]) (fun y => [cl b3 (stC y.2.2.1 y.2.2.2 y.2.1) 38, RowC encT 4 y.2.2.1 y.2.1.tabs]) (fun y => y.1 ≤ l.length ∧ Good y.2.1 ∧ y.2.1.tabs.length ≤ 128 * y.1) (fun y => l.length - y.1) (0, zeroS, (none, 0)) (by rfl) ?_ (by repeat (first | exact Sub.nil | refine Sub.cons (by rfl) ?_)) (by repeat (first | exact Picks.nil | with_reducible exact Pick.here | exact Pick.here | with_reducible apply Pick.there | with_reducible apply Pick.app_nil | with_reducible apply Pick.app_cons | apply Picks.cons)) ?_
    · exact ⟨Nat.zero_le _, zeroS_good, Nat.zero_le _⟩
    rintro ⟨i, s, ⟨p1, c1⟩⟩ ⟨hy1, hg, hsl⟩
    dsimp only at hy1 hg hsl ⊢
    refine Tr.seq ?_
    refine Tr.seq ?_
    refine Tr.region ?_
    refine TrL.move rfl rfl ?_
    refine TrL.move rfl rfl ?_
    refine TrL.lenl rfl rfl se36 ?_
    refine TrL.lss rfl rfl rfl ?_
    refine TrL.nil (At.then_normal ?_)
    refine Tr.cond rfl (fun h19 => ?_) (fun h19 => ?_)
    · try simp only [beq_iff_eq, beq_eq_false_iff_ne, Bool.not_eq_true, Bool.not_eq_false, decide_eq_true_eq, decide_eq_false_iff_not, Bool.not_eq_true', Bool.not_eq_false', bne_iff_ne, Bool.not_eq_eq_eq_not, Bool.not_true, Bool.not_false, ne_eq, Decidable.not_not, Int.not_lt, Int.not_le] at h19
      refine Tr.skip (At.then_normal ?_)
      refine Tr.seq ?_
      refine Tr.block ?_
      refine Tr.seq ?_
      refine Tr.seq ?_
      have hx := hok l[i] (List.getElem_mem _)
      refine Tr.region ?_
      refine TrL.move rfl rfl ?_
      refine TrL.move rfl rfl ?_
      refine TrL.idxF rfl rfl rfl se36 sz25 hL rfl rfl rfl (List.getElem?_eq_getElem (by omega)) (fun b24 o24 hp24 hc24 => ?_)
      refine TrL.loadRA rfl rfl ag25 sz25 (by assumption) (by rfl) ?_
      refine TrL.call rfl rfl rfl ca9 .nil (fun Ft26 hUt26 => light_spec (e := l[i].ed) (pa := l[i].a.p) (ca := l[i].a.cap) (pd := l[i].d.p) (cd := l[i].d.cap) (hUt26.ro (SlIn.mono _ _ _ _) hx.1) (hUt26.ro (SlIn.mono _ _ _ _) hx.2.1) hx.2.2.1 hx.2.2.2 (fun rt26 => ?_))
      refine TrL.not rfl rfl ?_
      refine TrL.nil (At.then_normal ?_)
      refine Tr.cond rfl (fun h27 => ?_) (fun h27 => ?_)
      · try simp only [beq_iff_eq, beq_eq_false_iff_ne, Bool.not_eq_true, Bool.not_eq_false, decide_eq_true_eq, decide_eq_false_iff_not, Bool.not_eq_true', Bool.not_eq_false', bne_iff_ne, Bool.not_eq_eq_eq_not, Bool.not_true, Bool.not_false, ne_eq, Decidable.not_not, Int.not_lt, Int.not_le] at h27
        refine Tr.seq ?_
        refine Tr.region ?_
        refine TrL.call rfl rfl rfl ca10 .nil (fun Ft28 hUt28 => awake_spec ?_)
        refine TrL.assign rfl rfl ?_
        refine TrL.nil (At.then_normal ?_)
        refine Tr.ret (At.then_ret (At.block_ret (At.then_ret (At.then_ret (At.block_ret (At.then_ret (At.retP [] (.inl rfl) rfl (Res.tmp rfl Res.nil) (by repeat (first | exact Picks.nil | with_reducible exact Pick.here | with_reducible apply Pick.there | with_reducible apply Pick.app_nil | with_reducible apply Pick.app_cons | apply Picks.cons)) (by exact hK))))))))
      · try simp only [beq_iff_eq, beq_eq_false_iff_ne, Bool.not_eq_true, Bool.not_eq_false, decide_eq_true_eq, decide_eq_false_iff_not, Bool.not_eq_true', Bool.not_eq_false', bne_iff_ne, Bool.not_eq_eq_eq_not, Bool.not_true, Bool.not_false, ne_eq, Decidable.not_not, Int.not_lt, Int.not_le] at h27
        refine Tr.skip (At.then_normal ?_)
        refine Tr.seq ?_
        refine Tr.cutK [0, 2, 3, 4] (β := Nat × Option Addr × Nat) (fun z => [(5, .pointer (some ⟨z.1, 0, none⟩)), (6, .int .i64 (applyF s l[i].ed).2)]) (fun z => [cl z.1 (stC z.2.1 z.2.2 (applyF s l[i].ed).1) 38, RowC encT 4 z.2.1 (applyF s l[i].ed).1.tabs, cl b3 (stC p1 c1 s) 38, RowC encT 4 p1 s.tabs]) (fun z => True) (by rfl) ?_ ?_
        · skip
          refine Tr.regionDH mixed ?_
          refine TrD.take 0 rfl (by kernel_rfl) (by kernel_rfl) (by kernel_rfl) (by repeat (first | exact Picks.nil | with_reducible exact Pick.here | with_reducible apply Pick.there | with_reducible apply Pick.app_nil | with_reducible apply Pick.app_cons | apply Picks.cons)) ?_
          refine TrL.loadLA rfl rfl ag38 sz38 (by repeat (first | with_reducible exact Pick.here | with_reducible apply Pick.there | with_reducible apply Pick.app_nil | with_reducible apply Pick.app_cons)) (by rfl) ?_
          refine TrL.nilTake (listed' := #[true, false, false, false, false, false, false, false, false, false, false, false]) (by kernel_rfl) ?_
          refine TrD.take 1 rfl (by kernel_rfl) (by kernel_rfl) (by kernel_rfl) (by repeat (first | exact Picks.nil | with_reducible exact Pick.here | with_reducible apply Pick.there | with_reducible apply Pick.app_nil | with_reducible apply Pick.app_cons | apply Picks.cons)) ?_
          refine TrL.move rfl rfl ?_
          refine TrL.nilTake (listed' := #[true, true, false, false, false, false, false, false, false, false, false, false]) (by kernel_rfl) ?_
          refine TrD.take 2 rfl (by kernel_rfl) (by kernel_rfl) (by kernel_rfl) (by repeat (first | exact Picks.nil | with_reducible exact Pick.here | with_reducible apply Pick.there | with_reducible apply Pick.app_nil | with_reducible apply Pick.app_cons | apply Picks.cons)) ?_
          refine TrL.move rfl rfl ?_
          refine TrL.nilTake (listed' := #[true, true, true, false, false, false, false, false, false, false, false, false]) (by kernel_rfl) ?_
          refine TrD.take 3 rfl (by kernel_rfl) (by kernel_rfl) (by kernel_rfl) (by repeat (first | exact Picks.nil | with_reducible exact Pick.here | with_reducible apply Pick.there | with_reducible apply Pick.app_nil | with_reducible apply Pick.app_cons | apply Picks.cons)) ?_
          refine TrL.idxF rfl rfl rfl se36 sz25 hL rfl rfl rfl (List.getElem?_eq_getElem (by omega)) (fun b33 o33 hp33 hc33 => ?_)
          refine TrL.nilTake (listed' := #[true, true, true, true, false, false, false, false, false, false, false, false]) (by kernel_rfl) ?_
          refine TrD.take 4 rfl (by kernel_rfl) (by kernel_rfl) (by kernel_rfl) (by repeat (first | exact Picks.nil | with_reducible exact Pick.here | with_reducible apply Pick.there | with_reducible apply Pick.app_nil | with_reducible apply Pick.app_cons | apply Picks.cons)) ?_
          refine TrL.loadRA rfl rfl ag25 sz25 (by assumption) (by rfl) ?_
          refine TrL.nilTake (listed' := #[true, true, true, true, true, false, false, false, false, false, false, false]) (by kernel_rfl) ?_
          refine TrD.all [5, 9] (by kernel_rfl) rfl ?_
          refine all_cons ⟨_, rfl, ?_⟩ ?_
          · skip
            refine TrL.call rfl rfl rfl ca18 .nil (fun Ft35 hUt35 => Apply_spec (s := s) (p := p1) (c := c1) (e := l[i].ed) (pa := l[i].a.p) (ca := l[i].a.cap) (pd := l[i].d.p) (cd := l[i].d.cap) hg (RowC.up hUt35 (by repeat (first | with_reducible exact Pick.here | with_reducible apply Pick.there | with_reducible apply Pick.app_nil | with_reducible apply Pick.app_cons))) (by omega) (hUt35.ro (SlIn.mono _ _ _ _) hx.1) (hUt35.ro (SlIn.mono _ _ _ _) hx.2.1) hx.2.2.1 hx.2.2.2 (fun p50 c50 => ?_))
            refine TrL.nil (At.step (listed' := #[true, true, true, true, true, true, false, false, false, false, false, false]) (by kernel_rfl) (by repeat (first | exact Picks.nil | with_reducible exact Pick.here | with_reducible apply Pick.there | with_reducible apply Pick.app_nil | with_reducible apply Pick.app_cons | apply Picks.cons)) ?_)
            refine TrD.take 6 rfl (by kernel_rfl) (by kernel_rfl) (by kernel_rfl) (by repeat (first | exact Picks.nil | with_reducible exact Pick.here | with_reducible apply Pick.there | with_reducible apply Pick.app_nil | with_reducible apply Pick.app_cons | apply Picks.cons)) ?_
            refine TrL.move rfl rfl ?_
            refine TrL.nilTake (listed' := #[true, true, true, true, true, true, true, false, false, false, false, false]) (by kernel_rfl) ?_
            refine TrD.take 7 rfl (by kernel_rfl) (by kernel_rfl) (by kernel_rfl) (by repeat (first | exact Picks.nil | with_reducible exact Pick.here | with_reducible apply Pick.there | with_reducible apply Pick.app_nil | with_reducible apply Pick.app_cons | apply Picks.cons)) ?_
            refine TrL.extract rfl rfl rfl ?_
            refine TrL.nilTake (listed' := #[true, true, true, true, true, true, true, true, false, false, false, false]) (by kernel_rfl) ?_
            refine TrD.take 8 rfl (by kernel_rfl) (by kernel_rfl) (by kernel_rfl) (by repeat (first | exact Picks.nil | with_reducible exact Pick.here | with_reducible apply Pick.there | with_reducible apply Pick.app_nil | with_reducible apply Pick.app_cons | apply Picks.cons)) ?_
            refine TrL.extract rfl rfl rfl ?_
            refine TrL.nilTake (listed' := #[true, true, true, true, true, true, true, true, true, false, false, false]) (by kernel_rfl) ?_
            refine TrD.all [9] (by kernel_rfl) rfl ?_
            refine all_cons ⟨_, rfl, ?_⟩ all_nil
            refine TrL.alloc rfl zc38 (fun b5 => ?_)
            refine TrL.nil (At.step (listed' := #[true, true, true, true, true, true, true, true, true, true, false, false]) (by kernel_rfl) (by repeat (first | exact Picks.nil | with_reducible exact Pick.here | with_reducible apply Pick.there | with_reducible apply Pick.app_nil | with_reducible apply Pick.app_cons | apply Picks.cons)) ?_)
            refine TrD.all [10] (by kernel_rfl) rfl ?_
            refine all_cons ⟨_, rfl, ?_⟩ all_nil
            refine TrL.storeLA rfl rfl sz38 ⟨rfl, List.cons_ne_nil _ _⟩ rfl (by repeat (first | with_reducible exact Upd.here | with_reducible apply Upd.there | with_reducible apply Upd.app_nil | with_reducible apply Upd.app_cons)) (by rfl) ?_
            refine TrL.nil (At.step (listed' := #[true, true, true, true, true, true, true, true, true, true, true, false]) (by kernel_rfl) (by repeat (first | exact Picks.nil | with_reducible exact Pick.here | with_reducible apply Pick.there | with_reducible apply Pick.app_nil | with_reducible apply Pick.app_cons | apply Picks.cons)) ?_)
            refine TrD.take 11 rfl (by kernel_rfl) (by kernel_rfl) (by kernel_rfl) (by repeat (first | exact Picks.nil | with_reducible exact Pick.here | with_reducible apply Pick.there | with_reducible apply Pick.app_nil | with_reducible apply Pick.app_cons | apply Picks.cons)) ?_
            refine TrL.assign rfl rfl ?_
            refine TrL.nilTake (listed' := #[true, true, true, true, true, true, true, true, true, true, true, true]) (by kernel_rfl) ?_
            refine TrD.done (by kernel_rfl) ?_
            refine At.meetK (b5, p50, c50) trivial (by repeat (first | exact Sub.nil | refine Sub.cons (by rfl) ?_)) (by repeat (first | exact Picks.nil | with_reducible exact Pick.here | with_reducible apply Pick.there | with_reducible apply Pick.app_nil | with_reducible apply Pick.app_cons | apply Picks.cons))
          refine all_cons ⟨_, rfl, ?_⟩ ?_
          · skip
            refine TrL.alloc rfl zc38 (fun b5 => ?_)
            refine TrL.nil (At.step (listed' := #[true, true, true, true, true, false, false, false, false, true, false, false]) (by kernel_rfl) (by repeat (first | exact Picks.nil | with_reducible exact Pick.here | with_reducible apply Pick.there | with_reducible apply Pick.app_nil | with_reducible apply Pick.app_cons | apply Picks.cons)) ?_)
            refine TrD.all [5] (by kernel_rfl) rfl ?_
            refine all_cons ⟨_, rfl, ?_⟩ all_nil
            refine TrL.call rfl rfl rfl ca18 .nil (fun Ft35 hUt35 => Apply_spec (s := s) (p := p1) (c := c1) (e := l[i].ed) (pa := l[i].a.p) (ca := l[i].a.cap) (pd := l[i].d.p) (cd := l[i].d.cap) hg (RowC.up hUt35 (by repeat (first | with_reducible exact Pick.here | with_reducible apply Pick.there | with_reducible apply Pick.app_nil | with_reducible apply Pick.app_cons))) (by omega) (hUt35.ro (SlIn.mono _ _ _ _) hx.1) (hUt35.ro (SlIn.mono _ _ _ _) hx.2.1) hx.2.2.1 hx.2.2.2 (fun p50 c50 => ?_))
            refine TrL.nil (At.step (listed' := #[true, true, true, true, true, true, false, false, false, true, false, false]) (by kernel_rfl) (by repeat (first | exact Picks.nil | with_reducible exact Pick.here | with_reducible apply Pick.there | with_reducible apply Pick.app_nil | with_reducible apply Pick.app_cons | apply Picks.cons)) ?_)
            refine TrD.take 6 rfl (by kernel_rfl) (by kernel_rfl) (by kernel_rfl) (by repeat (first | exact Picks.nil | with_reducible exact Pick.here | with_reducible apply Pick.there | with_reducible apply Pick.app_nil | with_reducible apply Pick.app_cons | apply Picks.cons)) ?_
            refine TrL.move rfl rfl ?_
            refine TrL.nilTake (listed' := #[true, true, true, true, true, true, true, false, false, true, false, false]) (by kernel_rfl) ?_
            refine TrD.take 7 rfl (by kernel_rfl) (by kernel_rfl) (by kernel_rfl) (by repeat (first | exact Picks.nil | with_reducible exact Pick.here | with_reducible apply Pick.there | with_reducible apply Pick.app_nil | with_reducible apply Pick.app_cons | apply Picks.cons)) ?_
            refine TrL.extract rfl rfl rfl ?_
            refine TrL.nilTake (listed' := #[true, true, true, true, true, true, true, true, false, true, false, false]) (by kernel_rfl) ?_
            refine TrD.take 8 rfl (by kernel_rfl) (by kernel_rfl) (by kernel_rfl) (by repeat (first | exact Picks.nil | with_reducible exact Pick.here | with_reducible apply Pick.there | with_reducible apply Pick.app_nil | with_reducible apply Pick.app_cons | apply Picks.cons)) ?_
            refine TrL.extract rfl rfl rfl ?_
            refine TrL.nilTake (listed' := #[true, true, true, true, true, true, true, true, true, true, false, false]) (by kernel_rfl) ?_
            refine TrD.all [10] (by kernel_rfl) rfl ?_
            refine all_cons ⟨_, rfl, ?_⟩ all_nil
            refine TrL.storeLA rfl rfl sz38 ⟨rfl, List.cons_ne_nil _ _⟩ rfl (by repeat (first | with_reducible exact Upd.here | with_reducible apply Upd.there | with_reducible apply Upd.app_nil | with_reducible apply Upd.app_cons)) (by rfl) ?_
            refine TrL.nil (At.step (listed' := #[true, true, true, true, true, true, true, true, true, true, true, false]) (by kernel_rfl) (by repeat (first | exact Picks.nil | with_reducible exact Pick.here | with_reducible apply Pick.there | with_reducible apply Pick.app_nil | with_reducible apply Pick.app_cons | apply Picks.cons)) ?_)
            refine TrD.take 11 rfl (by kernel_rfl) (by kernel_rfl) (by kernel_rfl) (by repeat (first | exact Picks.nil | with_reducible exact Pick.here | with_reducible apply Pick.there | with_reducible apply Pick.app_nil | with_reducible apply Pick.app_cons | apply Picks.cons)) ?_
            refine TrL.assign rfl rfl ?_
            refine TrL.nilTake (listed' := #[true, true, true, true, true, true, true, true, true, true, true, true]) (by kernel_rfl) ?_
            refine TrD.done (by kernel_rfl) ?_
            refine At.meetK (b5, p50, c50) trivial (by repeat (first | exact Sub.nil | refine Sub.cons (by rfl) ?_)) (by repeat (first | exact Picks.nil | with_reducible exact Pick.here | with_reducible apply Pick.there | with_reducible apply Pick.app_nil | with_reducible apply Pick.app_cons | apply Picks.cons))
          exact all_nil
        · skip
          rintro ⟨b5, p50, c50⟩ -
          dsimp only
          refine Tr.seq ?_
          refine Tr.seq ?_
          refine Tr.region ?_
          refine TrL.move rfl rfl ?_
          refine TrL.nei rfl rfl rfl ?_
          refine TrL.nil (At.then_normal ?_)
          refine Tr.cond rfl (fun h39 => ?_) (fun h39 => ?_)
          · try simp only [beq_iff_eq, beq_eq_false_iff_ne, Bool.not_eq_true, Bool.not_eq_false, decide_eq_true_eq, decide_eq_false_iff_not, Bool.not_eq_true', Bool.not_eq_false', bne_iff_ne, Bool.not_eq_eq_eq_not, Bool.not_true, Bool.not_false, ne_eq, Decidable.not_not, Int.not_lt, Int.not_le] at h39
            refine Tr.exit (At.then_exit (At.block_hit (At.then_normal ?_)))
            refine Tr.region ?_
            refine TrL.move rfl rfl ?_
            refine TrL.addI rfl rfl rfl (by omega) ?_
            refine TrL.assign rfl rfl ?_
            refine TrL.nil ?_
            refine At.again (i + 1, s, (p1, c1)) ⟨by show i + 1 ≤ l.length; omega, hg, by show s.tabs.length ≤ 128 * (i + 1); omega⟩ (by show l.length - (i + 1) < l.length - i; omega) (by repeat (first | exact Sub.nil | refine Sub.cons (by rfl) ?_)) (by repeat (first | exact Picks.nil | with_reducible exact Pick.here | with_reducible apply Pick.there | with_reducible apply Pick.app_nil | with_reducible apply Pick.app_cons | apply Picks.cons))
          · try simp only [beq_iff_eq, beq_eq_false_iff_ne, Bool.not_eq_true, Bool.not_eq_false, decide_eq_true_eq, decide_eq_false_iff_not, Bool.not_eq_true', Bool.not_eq_false', bne_iff_ne, Bool.not_eq_eq_eq_not, Bool.not_true, Bool.not_false, ne_eq, Decidable.not_not, Int.not_lt, Int.not_le] at h39
            obtain ⟨g2, hlog, hnext⟩ := applyF_good hg (show (applyF s l[i].ed).2 = 0 by omega)
            have hl2 := (good_next hg hsl (show (applyF s l[i].ed).2 = 0 by omega)).2
            generalize (applyF s l[i].ed).1 = s2 at g2 hlog hnext hl2 ⊢
            refine Tr.skip (At.then_normal ?_)
            refine Tr.seq ?_
            refine Tr.seq ?_
            refine Tr.region ?_
            refine TrL.field rfl rfl fl38_1 ?_
            refine TrL.load1 rfl rfl sc3 (Sees.cl1 (by repeat (first | with_reducible exact Pick.here | with_reducible apply Pick.there | with_reducible apply Pick.app_nil | with_reducible apply Pick.app_cons)) (by rfl)) ?_
            refine TrL.field rfl rfl fl38_1 ?_
            refine TrL.load1 rfl rfl sc3 (Sees.cl1 (by repeat (first | with_reducible exact Pick.here | with_reducible apply Pick.there | with_reducible apply Pick.app_nil | with_reducible apply Pick.app_cons)) (by rfl)) ?_
            refine TrL.lss rfl rfl rfl ?_
            refine TrL.knownB (t := 44) (c := false) rfl (by exact decide_eq_false (by omega)) ?_
            refine TrL.move rfl rfl ?_
            refine TrL.want rfl rfl ?_
            refine TrL.field rfl rfl fl38_2 ?_
            refine TrL.want rfl rfl ?_
            refine TrL.load1 rfl rfl sc3 (Sees.cl1 (by repeat (first | with_reducible exact Pick.here | with_reducible apply Pick.there | with_reducible apply Pick.app_nil | with_reducible apply Pick.app_cons)) (by rfl)) ?_
            refine TrL.want rfl rfl ?_
            refine TrL.field rfl rfl fl38_2 ?_
            refine TrL.want rfl rfl ?_
            refine TrL.load1 rfl rfl sc3 (Sees.cl1 (by repeat (first | with_reducible exact Pick.here | with_reducible apply Pick.there | with_reducible apply Pick.app_nil | with_reducible apply Pick.app_cons)) (by rfl)) ?_
            refine TrL.want rfl rfl ?_
            refine TrL.lss rfl rfl rfl ?_
            refine TrL.knownB (t := 50) (c := false) rfl (by exact decide_eq_false (by omega)) ?_
            refine TrL.pickF rfl rfl rfl ?_
            refine TrL.nil (At.then_normal ?_)
            refine Tr.condF rfl ?_
            refine Tr.skip (At.then_normal ?_)
            refine Tr.seq ?_
            refine Tr.region ?_
            refine TrL.loadLA rfl rfl ag38 sz38 (by repeat (first | with_reducible exact Pick.here | with_reducible apply Pick.there | with_reducible apply Pick.app_nil | with_reducible apply Pick.app_cons)) (by rfl) ?_
            refine TrL.storeLA rfl rfl sz38 ⟨rfl, List.cons_ne_nil _ _⟩ rfl (by repeat (first | with_reducible exact Upd.here | with_reducible apply Upd.there | with_reducible apply Upd.app_nil | with_reducible apply Upd.app_cons)) (by rfl) ?_
            refine TrL.nil (At.then_normal ?_)
            refine Tr.seq ?_
            refine Tr.region ?_
            refine TrL.assign rfl rfl ?_
            refine TrL.nil (At.then_normal ?_)
            refine Tr.block ?_
            refine Tr.loopK [0, 2, 3, 4] (α := Nat) (fun j => [(7, .int .i64 (j : Int))]) (fun j => []) (fun j => j ≤ s2.tabs.length) (fun j => s2.tabs.length - j) (0) (by rfl) ?_ (by repeat (first | exact Sub.nil | refine Sub.cons (by rfl) ?_)) (by repeat (first | exact Picks.nil | with_reducible exact Pick.here | with_reducible apply Pick.there | with_reducible apply Pick.app_nil | with_reducible apply Pick.app_cons | apply Picks.cons)) ?_
            · exact Nat.zero_le _
            rintro j hj
            refine Tr.seq ?_
            refine Tr.seq ?_
            refine Tr.region ?_
            refine TrL.move rfl rfl ?_
            refine TrL.field0 rfl rfl fl38_0 ?_
            refine TrL.load1 rfl rfl sc22 (Sees.cl1 (by repeat (first | with_reducible exact Pick.here | with_reducible apply Pick.there | with_reducible apply Pick.app_nil | with_reducible apply Pick.app_cons)) (by rfl)) ?_
            refine TrL.lenl rfl rfl se22 ?_
            refine TrL.lss rfl rfl rfl ?_
            refine TrL.nil (At.then_normal ?_)
            refine Tr.cond rfl (fun h57 => ?_) (fun h57 => ?_)
            · try simp only [beq_iff_eq, beq_eq_false_iff_ne, Bool.not_eq_true, Bool.not_eq_false, decide_eq_true_eq, decide_eq_false_iff_not, Bool.not_eq_true', Bool.not_eq_false', bne_iff_ne, Bool.not_eq_eq_eq_not, Bool.not_true, Bool.not_false, ne_eq, Decidable.not_not, Int.not_lt, Int.not_le] at h57
              refine Tr.skip (At.then_normal ?_)
              refine Tr.seq ?_
              refine Tr.block ?_
              refine Tr.seq ?_
              obtain ⟨hlow, hlh⟩ := good_one g2 (j := j) (by omega)
              refine Tr.rowBase (p := p50) (l := s2.tabs) (by repeat (first | with_reducible exact Pick.here | with_reducible apply Pick.there | with_reducible apply Pick.app_nil | with_reducible apply Pick.app_cons)) (by omega) (fun b o hpp => ?_)
              subst hpp
              refine Tr.region ?_
              refine TrL.field0 rfl rfl fl38_0 ?_
              refine TrL.load1 rfl rfl sc22 (Sees.cl1 (by repeat (first | with_reducible exact Pick.here | with_reducible apply Pick.there | with_reducible apply Pick.app_nil | with_reducible apply Pick.app_cons)) (by rfl)) ?_
              refine TrL.move rfl rfl ?_
              refine TrL.indexAddr (i := j) rfl rfl rfl se22 sz46 rfl (by omega) ?_
              refine TrL.loadW (i := j) rfl rfl ag46 sz46 (by repeat (first | with_reducible exact Pick.here | with_reducible apply Pick.there | with_reducible apply Pick.app_nil | with_reducible apply Pick.app_cons)) rfl encT_len (List.getElem?_eq_getElem (by omega)) ?_
              refine TrL.alloc rfl zc46 (fun b8 => ?_)
              --L:b8
              refine TrL.storeLA rfl rfl sz46 ⟨rfl, List.cons_ne_nil _ _⟩ rfl (by repeat (first | with_reducible exact Upd.here | with_reducible apply Upd.there | with_reducible apply Upd.app_nil | with_reducible apply Upd.app_cons)) (by rfl) ?_
              refine TrL.nil (At.then_normal ?_)
              refine Tr.seq ?_
              refine Tr.seq ?_
              refine Tr.region ?_
              refine TrL.field0 rfl rfl fl46_0 ?_
              refine TrL.load1 rfl rfl sc3 (Sees.cl1 (by repeat (first | with_reducible exact Pick.here | with_reducible apply Pick.there | with_reducible apply Pick.app_nil | with_reducible apply Pick.app_cons)) (by rfl)) ?_
              refine TrL.field rfl rfl fl38_2 ?_
              refine TrL.load1 rfl rfl sc3 (Sees.cl1 (by repeat (first | with_reducible exact Pick.here | with_reducible apply Pick.there | with_reducible apply Pick.app_nil | with_reducible apply Pick.app_cons)) (by rfl)) ?_
              refine TrL.geq rfl rfl rfl ?_
              refine TrL.knownB (t := 69) (c := false) rfl (by exact decide_eq_false (by omega)) ?_
              refine TrL.move rfl rfl ?_
              refine TrL.want rfl rfl ?_
              refine TrL.field rfl rfl fl46_2 ?_
              refine TrL.want rfl rfl ?_
              refine TrL.load1 rfl rfl sc9 (Sees.cl1 (by repeat (first | with_reducible exact Pick.here | with_reducible apply Pick.there | with_reducible apply Pick.app_nil | with_reducible apply Pick.app_cons)) (by rfl)) ?_
              refine TrL.want rfl rfl ?_
              refine TrL.field rfl rfl fl46_3 ?_
              refine TrL.want rfl rfl ?_
              refine TrL.load1 rfl rfl sc9 (Sees.cl1 (by repeat (first | with_reducible exact Pick.here | with_reducible apply Pick.there | with_reducible apply Pick.app_nil | with_reducible apply Pick.app_cons)) (by rfl)) ?_
              refine TrL.want rfl rfl ?_
              refine TrL.gts rfl rfl rfl ?_
              refine TrL.knownB (t := 75) (c := false) rfl (by exact hlh) ?_
              refine TrL.pickF rfl rfl rfl ?_
              refine TrL.nil (At.then_normal ?_)
              refine Tr.condF rfl ?_
              refine Tr.skip (At.then_normal ?_)
              refine Tr.seq ?_
              refine Tr.region ?_
              refine TrL.assign rfl rfl ?_
              refine TrL.nil (At.then_normal ?_)
              refine Tr.block ?_
              refine Tr.loopK [0, 2, 3, 4, 7, 8] (α := Nat) (fun k => [(9, .int .i64 (k : Int))]) (fun k => []) (fun k => k ≤ j) (fun k => j - k) (0) (by rfl) ?_ (by repeat (first | exact Sub.nil | refine Sub.cons (by rfl) ?_)) (by repeat (first | exact Picks.nil | with_reducible exact Pick.here | with_reducible apply Pick.there | with_reducible apply Pick.app_nil | with_reducible apply Pick.app_cons | apply Picks.cons)) ?_
              · exact Nat.zero_le _
              rintro k hk
              refine Tr.seq ?_
              refine Tr.seq ?_
              refine Tr.region ?_
              refine TrL.move rfl rfl ?_
              refine TrL.move rfl rfl ?_
              refine TrL.lss rfl rfl rfl ?_
              refine TrL.nil (At.then_normal ?_)
              refine Tr.cond rfl (fun h79 => ?_) (fun h79 => ?_)
              · try simp only [beq_iff_eq, beq_eq_false_iff_ne, Bool.not_eq_true, Bool.not_eq_false, decide_eq_true_eq, decide_eq_false_iff_not, Bool.not_eq_true', Bool.not_eq_false', bne_iff_ne, Bool.not_eq_eq_eq_not, Bool.not_true, Bool.not_false, ne_eq, Decidable.not_not, Int.not_lt, Int.not_le] at h79
                refine Tr.skip (At.then_normal ?_)
                refine Tr.seq ?_
                refine Tr.block ?_
                refine Tr.seq ?_
                have hpr := good_pair g2 (k := k) (j := j) (by omega) (by omega)
                refine Tr.region ?_
                refine TrL.field0 rfl rfl fl38_0 ?_
                refine TrL.load1 rfl rfl sc22 (Sees.cl1 (by repeat (first | with_reducible exact Pick.here | with_reducible apply Pick.there | with_reducible apply Pick.app_nil | with_reducible apply Pick.app_cons)) (by rfl)) ?_
                refine TrL.move rfl rfl ?_
                refine TrL.indexAddr (i := k) rfl rfl rfl se22 sz46 rfl (by omega) ?_
                refine TrL.loadW (i := k) rfl rfl ag46 sz46 (by repeat (first | with_reducible exact Pick.here | with_reducible apply Pick.there | with_reducible apply Pick.app_nil | with_reducible apply Pick.app_cons)) rfl encT_len (List.getElem?_eq_getElem (by omega)) ?_
                refine TrL.alloc rfl zc46 (fun b10 => ?_)
                --L:b10
                refine TrL.storeLA rfl rfl sz46 ⟨rfl, List.cons_ne_nil _ _⟩ rfl (by repeat (first | with_reducible exact Upd.here | with_reducible apply Upd.there | with_reducible apply Upd.app_nil | with_reducible apply Upd.app_cons)) (by rfl) ?_
                refine TrL.nil (At.then_normal ?_)
                refine Tr.seq ?_
                refine Tr.region ?_
                refine TrL.field0 rfl rfl fl46_0 ?_
                refine TrL.load1 rfl rfl sc3 (Sees.cl1 (by repeat (first | with_reducible exact Pick.here | with_reducible apply Pick.there | with_reducible apply Pick.app_nil | with_reducible apply Pick.app_cons)) (by rfl)) ?_
                refine TrL.field0 rfl rfl fl46_0 ?_
                refine TrL.load1 rfl rfl sc3 (Sees.cl1 (by repeat (first | with_reducible exact Pick.here | with_reducible apply Pick.there | with_reducible apply Pick.app_nil | with_reducible apply Pick.app_cons)) (by rfl)) ?_
                refine TrL.eqi rfl rfl rfl ?_
                refine TrL.knownB (t := 91) (c := false) rfl (by exact decide_eq_false hpr.1) ?_
                refine TrL.move rfl rfl ?_
                refine TrL.want rfl rfl ?_
                refine TrL.field rfl rfl fl46_1 ?_
                refine TrL.want rfl rfl ?_
                refine TrL.load1 rfl rfl sc3 (Sees.cl1 (by repeat (first | with_reducible exact Pick.here | with_reducible apply Pick.there | with_reducible apply Pick.app_nil | with_reducible apply Pick.app_cons)) (by rfl)) ?_
                refine TrL.want rfl rfl ?_
                refine TrL.field rfl rfl fl46_1 ?_
                refine TrL.want rfl rfl ?_
                refine TrL.load1 rfl rfl sc3 (Sees.cl1 (by repeat (first | with_reducible exact Pick.here | with_reducible apply Pick.there | with_reducible apply Pick.app_nil | with_reducible apply Pick.app_cons)) (by rfl)) ?_
                refine TrL.want rfl rfl ?_
                refine TrL.gtr rfl rfl rfl ?_
                refine TrL.knownB (t := 97) (c := false) rfl (by exact decide_eq_false (by omega)) ?_
                refine TrL.pickF rfl rfl rfl ?_
                refine TrL.move rfl rfl ?_
                refine TrL.want rfl rfl ?_
                refine TrL.field rfl rfl fl46_1 ?_
                refine TrL.want rfl rfl ?_
                refine TrL.load1 rfl rfl sc3 (Sees.cl1 (by repeat (first | with_reducible exact Pick.here | with_reducible apply Pick.there | with_reducible apply Pick.app_nil | with_reducible apply Pick.app_cons)) (by rfl)) ?_
                refine TrL.want rfl rfl ?_
                refine TrL.gtr rfl rfl rfl ?_
                refine TrL.want rfl rfl ?_
                refine TrL.move rfl rfl ?_
                refine TrL.cases (t := 103) rfl (fun h103 => ?_) (fun h103 => ?_)
                · try simp only [beq_iff_eq, beq_eq_false_iff_ne, Bool.not_eq_true, Bool.not_eq_false, decide_eq_true_eq, decide_eq_false_iff_not, Bool.not_eq_true', Bool.not_eq_false', bne_iff_ne, Bool.not_eq_eq_eq_not, Bool.not_true, Bool.not_false, ne_eq, Decidable.not_not, Int.not_lt, Int.not_le] at h103
                  refine TrL.want rfl rfl ?_
                  refine TrL.field rfl rfl fl46_1 ?_
                  refine TrL.want rfl rfl ?_
                  refine TrL.load1 rfl rfl sc3 (Sees.cl1 (by repeat (first | with_reducible exact Pick.here | with_reducible apply Pick.there | with_reducible apply Pick.app_nil | with_reducible apply Pick.app_cons)) (by rfl)) ?_
                  refine TrL.want rfl rfl ?_
                  refine TrL.field rfl rfl fl46_1 ?_
                  refine TrL.want rfl rfl ?_
                  refine TrL.load1 rfl rfl sc3 (Sees.cl1 (by repeat (first | with_reducible exact Pick.here | with_reducible apply Pick.there | with_reducible apply Pick.app_nil | with_reducible apply Pick.app_cons)) (by rfl)) ?_
                  refine TrL.want rfl rfl ?_
                  refine TrL.eqi rfl rfl rfl ?_
                  refine TrL.want rfl rfl ?_
                  refine TrL.pickT rfl rfl rfl ?_
                  refine TrL.want rfl rfl ?_
                  refine TrL.move rfl rfl ?_
                  refine TrL.cases (t := 110) rfl (fun h110 => ?_) (fun h110 => ?_)
                  · try simp only [beq_iff_eq, beq_eq_false_iff_ne, Bool.not_eq_true, Bool.not_eq_false, decide_eq_true_eq, decide_eq_false_iff_not, Bool.not_eq_true', Bool.not_eq_false', bne_iff_ne, Bool.not_eq_eq_eq_not, Bool.not_true, Bool.not_false, ne_eq, Decidable.not_not, Int.not_lt, Int.not_le] at h110
                    refine TrL.want rfl rfl ?_
                    refine TrL.field rfl rfl fl46_3 ?_
                    refine TrL.want rfl rfl ?_
                    refine TrL.load1 rfl rfl sc9 (Sees.cl1 (by repeat (first | with_reducible exact Pick.here | with_reducible apply Pick.there | with_reducible apply Pick.app_nil | with_reducible apply Pick.app_cons)) (by rfl)) ?_
                    refine TrL.want rfl rfl ?_
                    refine TrL.field rfl rfl fl46_2 ?_
                    refine TrL.want rfl rfl ?_
                    refine TrL.load1 rfl rfl sc9 (Sees.cl1 (by repeat (first | with_reducible exact Pick.here | with_reducible apply Pick.there | with_reducible apply Pick.app_nil | with_reducible apply Pick.app_cons)) (by rfl)) ?_
                    refine TrL.want rfl rfl ?_
                    refine TrL.ges rfl rfl rfl ?_
                    refine TrL.knownB (t := 115) (c := false) rfl (by rw [hpr.2.2 h103 h110]; rfl) ?_
                    refine TrL.want rfl rfl ?_
                    refine TrL.pickT rfl rfl rfl ?_
                    refine TrL.pickF rfl rfl rfl ?_
                    refine TrL.nil (At.then_normal ?_)
                    refine Tr.condF rfl ?_
                    refine Tr.skip (At.block_normal (At.then_normal ?_))
                    refine Tr.region ?_
                    refine TrL.move rfl rfl ?_
                    refine TrL.addI rfl rfl rfl (by omega) ?_
                    refine TrL.assign rfl rfl ?_
                    refine TrL.nil ?_
                    refine At.again (k + 1) (by omega) (by omega) (by repeat (first | exact Sub.nil | refine Sub.cons (by rfl) ?_)) (by repeat (first | exact Picks.nil | with_reducible exact Pick.here | with_reducible apply Pick.there | with_reducible apply Pick.app_nil | with_reducible apply Pick.app_cons | apply Picks.cons))
                  · try simp only [beq_iff_eq, beq_eq_false_iff_ne, Bool.not_eq_true, Bool.not_eq_false, decide_eq_true_eq, decide_eq_false_iff_not, Bool.not_eq_true', Bool.not_eq_false', bne_iff_ne, Bool.not_eq_eq_eq_not, Bool.not_true, Bool.not_false, ne_eq, Decidable.not_not, Int.not_lt, Int.not_le] at h110
                    refine TrL.unwant rfl rfl rfl ?_
                    refine TrL.unwant rfl rfl rfl ?_
                    refine TrL.unwant rfl rfl rfl ?_
                    refine TrL.unwant rfl rfl rfl ?_
                    refine TrL.unwant rfl rfl rfl ?_
                    refine TrL.want rfl rfl ?_
                    refine TrL.pickF rfl rfl rfl ?_
                    refine TrL.pickF rfl rfl rfl ?_
                    refine TrL.nil (At.then_normal ?_)
                    refine Tr.condF rfl ?_
                    refine Tr.skip (At.block_normal (At.then_normal ?_))
                    refine Tr.region ?_
                    refine TrL.move rfl rfl ?_
                    refine TrL.addI rfl rfl rfl (by omega) ?_
                    refine TrL.assign rfl rfl ?_
                    refine TrL.nil ?_
                    refine At.again (k + 1) (by omega) (by omega) (by repeat (first | exact Sub.nil | refine Sub.cons (by rfl) ?_)) (by repeat (first | exact Picks.nil | with_reducible exact Pick.here | with_reducible apply Pick.there | with_reducible apply Pick.app_nil | with_reducible apply Pick.app_cons | apply Picks.cons))
                · try simp only [beq_iff_eq, beq_eq_false_iff_ne, Bool.not_eq_true, Bool.not_eq_false, decide_eq_true_eq, decide_eq_false_iff_not, Bool.not_eq_true', Bool.not_eq_false', bne_iff_ne, Bool.not_eq_eq_eq_not, Bool.not_true, Bool.not_false, ne_eq, Decidable.not_not, Int.not_lt, Int.not_le] at h103
                  refine TrL.unwant rfl rfl rfl ?_
                  refine TrL.unwant rfl rfl rfl ?_
                  refine TrL.unwant rfl rfl rfl ?_
                  refine TrL.unwant rfl rfl rfl ?_
                  refine TrL.unwant rfl rfl rfl ?_
                  refine TrL.want rfl rfl ?_
                  refine TrL.pickF rfl rfl rfl ?_
                  refine TrL.want rfl rfl ?_
                  refine TrL.move rfl rfl ?_
                  refine TrL.unwant rfl rfl rfl ?_
                  refine TrL.unwant rfl rfl rfl ?_
                  refine TrL.unwant rfl rfl rfl ?_
                  refine TrL.unwant rfl rfl rfl ?_
                  refine TrL.unwant rfl rfl rfl ?_
                  refine TrL.want rfl rfl ?_
                  refine TrL.pickF rfl rfl rfl ?_
                  refine TrL.pickF rfl rfl rfl ?_
                  refine TrL.nil (At.then_normal ?_)
                  refine Tr.condF rfl ?_
                  refine Tr.skip (At.block_normal (At.then_normal ?_))
                  refine Tr.region ?_
                  refine TrL.move rfl rfl ?_
                  refine TrL.addI rfl rfl rfl (by omega) ?_
                  refine TrL.assign rfl rfl ?_
                  refine TrL.nil ?_
                  refine At.again (k + 1) (by omega) (by omega) (by repeat (first | exact Sub.nil | refine Sub.cons (by rfl) ?_)) (by repeat (first | exact Picks.nil | with_reducible exact Pick.here | with_reducible apply Pick.there | with_reducible apply Pick.app_nil | with_reducible apply Pick.app_cons | apply Picks.cons))
              · try simp only [beq_iff_eq, beq_eq_false_iff_ne, Bool.not_eq_true, Bool.not_eq_false, decide_eq_true_eq, decide_eq_false_iff_not, Bool.not_eq_true', Bool.not_eq_false', bne_iff_ne, Bool.not_eq_eq_eq_not, Bool.not_true, Bool.not_false, ne_eq, Decidable.not_not, Int.not_lt, Int.not_le] at h79
                refine Tr.exit (At.then_exit (At.then_exit (At.block_hit (At.block_normal (At.then_normal ?_)))))
                refine Tr.region ?_
                refine TrL.move rfl rfl ?_
                refine TrL.addI rfl rfl rfl (by omega) ?_
                refine TrL.assign rfl rfl ?_
                refine TrL.nil ?_
                refine At.again (j + 1) (by show j + 1 ≤ s2.tabs.length; omega) (by omega) (by repeat (first | exact Sub.nil | refine Sub.cons (by rfl) ?_)) (by repeat (first | exact Picks.nil | with_reducible exact Pick.here | with_reducible apply Pick.there | with_reducible apply Pick.app_nil | with_reducible apply Pick.app_cons | apply Picks.cons))
            · try simp only [beq_iff_eq, beq_eq_false_iff_ne, Bool.not_eq_true, Bool.not_eq_false, decide_eq_true_eq, decide_eq_false_iff_not, Bool.not_eq_true', Bool.not_eq_false', bne_iff_ne, Bool.not_eq_eq_eq_not, Bool.not_true, Bool.not_false, ne_eq, Decidable.not_not, Int.not_lt, Int.not_le] at h57
              refine Tr.exit (At.then_exit (At.then_exit (At.block_hit (At.block_normal (At.then_normal ?_)))))
              refine Tr.region ?_
              refine TrL.move rfl rfl ?_
              refine TrL.addI rfl rfl rfl (by omega) ?_
              refine TrL.assign rfl rfl ?_
              refine TrL.nil ?_
              refine At.again (i + 1, s2, (p50, c50)) ⟨by show i + 1 ≤ l.length; omega, g2, hl2⟩ (by show l.length - (i + 1) < l.length - i; omega) (by repeat (first | exact Sub.nil | refine Sub.cons (by rfl) ?_)) (by repeat (first | exact Picks.nil | with_reducible exact Pick.here | with_reducible apply Pick.there | with_reducible apply Pick.app_nil | with_reducible apply Pick.app_cons | apply Picks.cons))
    · try simp only [beq_iff_eq, beq_eq_false_iff_ne, Bool.not_eq_true, Bool.not_eq_false, decide_eq_true_eq, decide_eq_false_iff_not, Bool.not_eq_true', Bool.not_eq_false', bne_iff_ne, Bool.not_eq_eq_eq_not, Bool.not_true, Bool.not_false, ne_eq, Decidable.not_not, Int.not_lt, Int.not_le] at h19
      refine Tr.exit (At.then_exit (At.then_exit (At.block_hit (At.then_normal ?_))))
      refine Tr.seq ?_
      refine Tr.region ?_
      refine TrL.call rfl rfl rfl ca10 .nil (fun Ft118 hUt118 => awake_spec ?_)
      refine TrL.assign rfl rfl ?_
      refine TrL.nil (At.then_normal ?_)
      refine Tr.ret (At.retP [] (.inl rfl) rfl (Res.tmp rfl Res.nil) (by repeat (first | exact Picks.nil | with_reducible exact Pick.here | with_reducible apply Pick.there | with_reducible apply Pick.app_nil | with_reducible apply Pick.app_cons | apply Picks.cons)) (by exact hK))
end Go.Proofs.Ytiefmfimbmkdjaa

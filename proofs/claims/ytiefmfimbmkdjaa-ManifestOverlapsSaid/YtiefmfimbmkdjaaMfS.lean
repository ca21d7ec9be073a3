/-
  The law ManifestApplies, walked.
  No condition but those that each statement names.
-/
import Derived.Test.YtiefmfimbmkdjaaMfR
import Derived.Test.YtiefmfimbmkdjaaMfOpen
import Derived.Test.YtiefmfimbmkdjaaSxRw
namespace Go.Proofs.Ytiefmfimbmkdjaa
set_option linter.unusedSimpArgs false
set_option linter.unusedVariables false
set_option linter.unusedSectionVars false
open Go.RowKit
variable [Obs]


theorem good_next {s : Sta} {e : Ed} {i : Nat} (g : Good s) (hl : s.tabs.length ≤ 128 * i) (h : (applyF s e).2 = 0) : Good (applyF s e).1 ∧ (applyF s e).1.tabs.length ≤ 128 * (i + 1) := ⟨(applyF_good g h).1, by have := applyF_len s e; omega⟩
set_option maxHeartbeats 8000000 in
theorem ManifestApplies_spec {F : Hp} {K : Value → List HProp → Prop} {p : Option Addr} {c : Nat} {l : List EdA} (hL : SlIn F encE 4 p l) (hok : ∀ x ∈ l, EdOk F x) {a b : ByteArray} (hK : K (.bool true) []) : CallK Try.prog F 4 #[.slice p l.length c, .string a, .string b] [] K := by
  refine CallK.enter Try.func4 rfl Try.ntmps4 rfl ?_
  refine Tr.seq ?_
  refine Tr.region ?_
  refine TrL.assign rfl rfl ?_
  refine TrL.nil (At.then_normal ?_)
  refine Tr.seq ?_
  refine Tr.seq ?_
  refine Tr.region ?_
  refine TrL.move rfl rfl ?_
  refine TrL.lenl rfl rfl se36 ?_
  refine TrL.gtr rfl rfl rfl ?_
  refine TrL.move rfl rfl ?_
  refine TrL.cases (t := 18) rfl (fun h18 => ?_) (fun h18 => ?_)
  · try simp only [beq_iff_eq, beq_eq_false_iff_ne, Bool.not_eq_true, Bool.not_eq_false, decide_eq_true_eq, decide_eq_false_iff_not, Bool.not_eq_true', Bool.not_eq_false', bne_iff_ne, Bool.not_eq_eq_eq_not, Bool.not_true, Bool.not_false, ne_eq, Decidable.not_not, Int.not_lt, Int.not_le] at h18
    refine TrL.unwant rfl rfl rfl ?_
    refine TrL.unwant rfl rfl rfl ?_
    refine TrL.unwant rfl rfl rfl ?_
    refine TrL.pickT rfl rfl rfl ?_
    refine TrL.move rfl rfl ?_
    refine TrL.unwant rfl rfl rfl ?_
    refine TrL.unwant rfl rfl rfl ?_
    refine TrL.unwant rfl rfl rfl ?_
    refine TrL.pickT rfl rfl rfl ?_
    refine TrL.nil (At.then_normal ?_)
    refine Tr.condT rfl ?_
    refine Tr.seq ?_
    refine Tr.region ?_
    refine TrL.call rfl rfl rfl ca10 .nil (fun Ft28 hUt28 => awake_spec ?_)
    refine TrL.assign rfl rfl ?_
    refine TrL.nil (At.then_normal ?_)
    refine Tr.ret (At.then_ret (At.retP [] (.inl rfl) rfl (Res.tmp rfl Res.nil) (by repeat (first | exact Picks.nil | with_reducible exact Pick.here | with_reducible apply Pick.there | with_reducible apply Pick.app_nil | with_reducible apply Pick.app_cons | apply Picks.cons)) (by exact hK)))
  · try simp only [beq_iff_eq, beq_eq_false_iff_ne, Bool.not_eq_true, Bool.not_eq_false, decide_eq_true_eq, decide_eq_false_iff_not, Bool.not_eq_true', Bool.not_eq_false', bne_iff_ne, Bool.not_eq_eq_eq_not, Bool.not_true, Bool.not_false, ne_eq, Decidable.not_not, Int.not_lt, Int.not_le] at h18
    refine TrL.want rfl rfl ?_
    refine TrL.move rfl rfl ?_
    refine TrL.want rfl rfl ?_
    refine TrL.lens rfl rfl st9 ?_
    refine TrL.want rfl rfl ?_
    refine TrL.gtr rfl rfl rfl ?_
    refine TrL.pickF rfl rfl rfl ?_
    refine TrL.move rfl rfl ?_
    refine TrL.cases (t := 23) rfl (fun h23 => ?_) (fun h23 => ?_)
    · try simp only [beq_iff_eq, beq_eq_false_iff_ne, Bool.not_eq_true, Bool.not_eq_false, decide_eq_true_eq, decide_eq_false_iff_not, Bool.not_eq_true', Bool.not_eq_false', bne_iff_ne, Bool.not_eq_eq_eq_not, Bool.not_true, Bool.not_false, ne_eq, Decidable.not_not, Int.not_lt, Int.not_le] at h23
      refine TrL.unwant rfl rfl rfl ?_
      refine TrL.unwant rfl rfl rfl ?_
      refine TrL.unwant rfl rfl rfl ?_
      refine TrL.pickT rfl rfl rfl ?_
      refine TrL.nil (At.then_normal ?_)
      refine Tr.condT rfl ?_
      refine Tr.seq ?_
      refine Tr.region ?_
      refine TrL.call rfl rfl rfl ca10 .nil (fun Ft28 hUt28 => awake_spec ?_)
      refine TrL.assign rfl rfl ?_
      refine TrL.nil (At.then_normal ?_)
      refine Tr.ret (At.then_ret (At.retP [] (.inl rfl) rfl (Res.tmp rfl Res.nil) (by repeat (first | exact Picks.nil | with_reducible exact Pick.here | with_reducible apply Pick.there | with_reducible apply Pick.app_nil | with_reducible apply Pick.app_cons | apply Picks.cons)) (by exact hK)))
    · try simp only [beq_iff_eq, beq_eq_false_iff_ne, Bool.not_eq_true, Bool.not_eq_false, decide_eq_true_eq, decide_eq_false_iff_not, Bool.not_eq_true', Bool.not_eq_false', bne_iff_ne, Bool.not_eq_eq_eq_not, Bool.not_true, Bool.not_false, ne_eq, Decidable.not_not, Int.not_lt, Int.not_le] at h23
      refine TrL.want rfl rfl ?_
      refine TrL.move rfl rfl ?_
      refine TrL.want rfl rfl ?_
      refine TrL.lens rfl rfl st9 ?_
      refine TrL.want rfl rfl ?_
      refine TrL.gtr rfl rfl rfl ?_
      refine TrL.pickF rfl rfl rfl ?_
      refine TrL.nil (At.then_normal ?_)
      refine Tr.cond rfl (fun h27 => ?_) (fun h27 => ?_)
      · try simp only [beq_iff_eq, beq_eq_false_iff_ne, Bool.not_eq_true, Bool.not_eq_false, decide_eq_true_eq, decide_eq_false_iff_not, Bool.not_eq_true', Bool.not_eq_false', bne_iff_ne, Bool.not_eq_eq_eq_not, Bool.not_true, Bool.not_false, ne_eq, Decidable.not_not, Int.not_lt, Int.not_le] at h27
        refine Tr.seq ?_
        refine Tr.region ?_
        refine TrL.call rfl rfl rfl ca10 .nil (fun Ft28 hUt28 => awake_spec ?_)
        refine TrL.assign rfl rfl ?_
        refine TrL.nil (At.then_normal ?_)
        refine Tr.ret (At.then_ret (At.retP [] (.inl rfl) rfl (Res.tmp rfl Res.nil) (by repeat (first | exact Picks.nil | with_reducible exact Pick.here | with_reducible apply Pick.there | with_reducible apply Pick.app_nil | with_reducible apply Pick.app_cons | apply Picks.cons)) (by exact hK)))
      · try simp only [beq_iff_eq, beq_eq_false_iff_ne, Bool.not_eq_true, Bool.not_eq_false, decide_eq_true_eq, decide_eq_false_iff_not, Bool.not_eq_true', Bool.not_eq_false', bne_iff_ne, Bool.not_eq_eq_eq_not, Bool.not_true, Bool.not_false, ne_eq, Decidable.not_not, Int.not_lt, Int.not_le] at h27
        refine Tr.skip (At.then_normal ?_)
        refine Tr.seq ?_
        refine Tr.region ?_
        refine TrL.build rfl rfl pl38 zc38 rfl ?_
        refine TrL.build rfl rfl pl38 zc38 rfl ?_
        refine TrL.alloc rfl zc38 (fun b7 => ?_)
        refine TrL.alloc rfl zc38 (fun b8 => ?_)
        refine TrL.storeLA rfl rfl sz38 ⟨rfl, List.cons_ne_nil _ _⟩ rfl (by repeat (first | with_reducible exact Upd.here | with_reducible apply Upd.there | with_reducible apply Upd.app_nil | with_reducible apply Upd.app_cons)) (by rfl) ?_
        refine TrL.storeLA rfl rfl sz38 ⟨rfl, List.cons_ne_nil _ _⟩ rfl (by repeat (first | with_reducible exact Upd.here | with_reducible apply Upd.there | with_reducible apply Upd.app_nil | with_reducible apply Upd.app_cons)) (by rfl) ?_
        refine TrL.nil (At.then_normal ?_)
        refine Tr.seq ?_
        refine Tr.seq ?_
        refine Tr.region ?_
        refine TrL.assign rfl rfl ?_
        refine TrL.nil (At.then_normal ?_)
        refine Tr.block ?_
        refine Tr.row0 encT 4 ?_
        refine Tr.row0 encT 4 ?_
        refine Tr.loopK [0, 1, 2, 6, 7, 8] (α := Nat × Sta × (Option Addr × Nat) × (Option Addr × Nat)) (fun y => [(9, .int .i64 (y.1 : Int))]) (fun y => [cl b7 (stC y.2.2.1.1 y.2.2.1.2 y.2.1) 38, cl b8 (stC y.2.2.2.1 y.2.2.2.2 y.2.1) 38, RowC encT 4 y.2.2.1.1 y.2.1.tabs, RowC encT 4 y.2.2.2.1 y.2.1.tabs]) (fun y => y.1 ≤ l.length ∧ Good y.2.1 ∧ y.2.1.tabs.length ≤ 128 * y.1) (fun y => l.length - y.1) (0, zeroS, (none, 0), (none, 0)) (by rfl) ?_ (by repeat (first | exact Sub.nil | refine Sub.cons (by rfl) ?_)) (by repeat (first | exact Picks.nil | with_reducible exact Pick.here | exact Pick.here | with_reducible apply Pick.there | with_reducible apply Pick.app_nil | with_reducible apply Pick.app_cons | apply Picks.cons)) ?_
        · exact ⟨Nat.zero_le _, zeroS_good, Nat.zero_le _⟩
        rintro ⟨i, s, ⟨p1, c1⟩, ⟨p2, c2⟩⟩ ⟨hy1, hg, hsl⟩
        dsimp only at hy1 hg hsl ⊢
        refine Tr.seq ?_
        refine Tr.seq ?_
        refine Tr.region ?_
        refine TrL.move rfl rfl ?_
        refine TrL.move rfl rfl ?_
        refine TrL.lenl rfl rfl se36 ?_
        refine TrL.lss rfl rfl rfl ?_
        refine TrL.nil (At.then_normal ?_)
        refine Tr.cond rfl (fun h34 => ?_) (fun h34 => ?_)
        · try simp only [beq_iff_eq, beq_eq_false_iff_ne, Bool.not_eq_true, Bool.not_eq_false, decide_eq_true_eq, decide_eq_false_iff_not, Bool.not_eq_true', Bool.not_eq_false', bne_iff_ne, Bool.not_eq_eq_eq_not, Bool.not_true, Bool.not_false, ne_eq, Decidable.not_not, Int.not_lt, Int.not_le] at h34
          refine Tr.skip (At.then_normal ?_)
          refine Tr.seq ?_
          refine Tr.block ?_
          refine Tr.seq ?_
          refine Tr.seq ?_
          have hx := hok l[i] (List.getElem_mem _)
          refine Tr.region ?_
          refine TrL.move rfl rfl ?_
          refine TrL.move rfl rfl ?_
          refine TrL.idxF rfl rfl rfl se36 sz25 hL rfl rfl rfl (List.getElem?_eq_getElem (by omega)) (fun b39 o39 hp39 hc39 => ?_)
          refine TrL.loadRA rfl rfl ag25 sz25 (by assumption) (by rfl) ?_
          refine TrL.call rfl rfl rfl ca9 .nil (fun Ft41 hUt41 => light_spec (e := l[i].ed) (pa := l[i].a.p) (ca := l[i].a.cap) (pd := l[i].d.p) (cd := l[i].d.cap) (hUt41.ro (SlIn.mono _ _ _ _) hx.1) (hUt41.ro (SlIn.mono _ _ _ _) hx.2.1) hx.2.2.1 hx.2.2.2 (fun rt41 => ?_))
          refine TrL.not rfl rfl ?_
          refine TrL.nil (At.then_normal ?_)
          refine Tr.cond rfl (fun h42 => ?_) (fun h42 => ?_)
          · try simp only [beq_iff_eq, beq_eq_false_iff_ne, Bool.not_eq_true, Bool.not_eq_false, decide_eq_true_eq, decide_eq_false_iff_not, Bool.not_eq_true', Bool.not_eq_false', bne_iff_ne, Bool.not_eq_eq_eq_not, Bool.not_true, Bool.not_false, ne_eq, Decidable.not_not, Int.not_lt, Int.not_le] at h42
            refine Tr.seq ?_
            refine Tr.region ?_
            refine TrL.call rfl rfl rfl ca10 .nil (fun Ft43 hUt43 => awake_spec ?_)
            refine TrL.assign rfl rfl ?_
            refine TrL.nil (At.then_normal ?_)
            refine Tr.ret (At.then_ret (At.block_ret (At.then_ret (At.then_ret (At.block_ret (At.then_ret (At.retP [] (.inl rfl) rfl (Res.tmp rfl Res.nil) (by repeat (first | exact Picks.nil | with_reducible exact Pick.here | with_reducible apply Pick.there | with_reducible apply Pick.app_nil | with_reducible apply Pick.app_cons | apply Picks.cons)) (by exact hK))))))))
          · try simp only [beq_iff_eq, beq_eq_false_iff_ne, Bool.not_eq_true, Bool.not_eq_false, decide_eq_true_eq, decide_eq_false_iff_not, Bool.not_eq_true', Bool.not_eq_false', bne_iff_ne, Bool.not_eq_eq_eq_not, Bool.not_true, Bool.not_false, ne_eq, Decidable.not_not, Int.not_lt, Int.not_le] at h42
            refine Tr.skip (At.then_normal ?_)
            refine Tr.seq ?_
            refine Tr.cutK [0, 1, 2, 6, 7, 8, 9] (β := Nat × Option Addr × Nat) (fun z => [(10, .pointer (some ⟨z.1, 0, none⟩)), (11, .int .i64 (applyF s l[i].ed).2)]) (fun z => [cl z.1 (stC z.2.1 z.2.2 (applyF s l[i].ed).1) 38, RowC encT 4 z.2.1 (applyF s l[i].ed).1.tabs, cl b7 (stC p1 c1 s) 38, cl b8 (stC p2 c2 s) 38, RowC encT 4 p1 s.tabs, RowC encT 4 p2 s.tabs]) (fun z => True) (by rfl) ?_ ?_
            · skip
              refine Tr.regionDH mixed ?_
              refine TrD.take 0 rfl (by kernel_rfl) (by kernel_rfl) (by kernel_rfl) (by repeat (first | exact Picks.nil | with_reducible exact Pick.here | with_reducible apply Pick.there | with_reducible apply Pick.app_nil | with_reducible apply Pick.app_cons | apply Picks.cons)) ?_
              refine TrL.loadLA rfl rfl ag38 sz38 (by repeat (first | with_reducible exact Pick.here | with_reducible apply Pick.there | with_reducible apply Pick.app_nil | with_reducible apply Pick.app_cons)) (by rfl) ?_
              refine TrL.nilTake (listed' := #[true, false, false, false, false, false, false, false, false, false, false, false]) (by kernel_rfl) ?_
              refine TrD.take 1 rfl (by kernel_rfl) (by kernel_rfl) (by kernel_rfl) (by repeat (first | exact Picks.nil | with_reducible exact Pick.here | with_reducible apply Pick.there | with_reducible apply Pick.app_nil | with_reducible apply Pick.app_cons | apply Picks.cons)) ?_
              refine TrL.move rfl rfl ?_
              refine TrL.nilTake (listed' := #[true, true, false, false, false, false, false, false, false, false, false, false]) (by kernel_rfl) ?_
              refine TrD.take 2 rfl (by kernel_rfl) (by kernel_rfl) (by kernel_rfl) (by repeat (first | exact Picks.nil | with_reducible exact Pick.here | with_reducible apply Pick.there | with_reducible apply Pick.app_nil | with_reducible apply Pick.app_cons | apply Picks.cons)) ?_
              refine TrL.move rfl rfl ?_
              refine TrL.nilTake (listed' := #[true, true, true, false, false, false, false, false, false, false, false, false]) (by kernel_rfl) ?_
              refine TrD.take 3 rfl (by kernel_rfl) (by kernel_rfl) (by kernel_rfl) (by repeat (first | exact Picks.nil | with_reducible exact Pick.here | with_reducible apply Pick.there | with_reducible apply Pick.app_nil | with_reducible apply Pick.app_cons | apply Picks.cons)) ?_
              refine TrL.idxF rfl rfl rfl se36 sz25 hL rfl rfl rfl (List.getElem?_eq_getElem (by omega)) (fun b48 o48 hp48 hc48 => ?_)
              refine TrL.nilTake (listed' := #[true, true, true, true, false, false, false, false, false, false, false, false]) (by kernel_rfl) ?_
              refine TrD.take 4 rfl (by kernel_rfl) (by kernel_rfl) (by kernel_rfl) (by repeat (first | exact Picks.nil | with_reducible exact Pick.here | with_reducible apply Pick.there | with_reducible apply Pick.app_nil | with_reducible apply Pick.app_cons | apply Picks.cons)) ?_
              refine TrL.loadRA rfl rfl ag25 sz25 (by assumption) (by rfl) ?_
              refine TrL.nilTake (listed' := #[true, true, true, true, true, false, false, false, false, false, false, false]) (by kernel_rfl) ?_
              refine TrD.all [5, 9] (by kernel_rfl) rfl ?_
              refine all_cons ⟨_, rfl, ?_⟩ ?_
              · skip
                refine TrL.call rfl rfl rfl ca18 .nil (fun Ft50 hUt50 => Apply_spec (s := s) (p := p1) (c := c1) (e := l[i].ed) (pa := l[i].a.p) (ca := l[i].a.cap) (pd := l[i].d.p) (cd := l[i].d.cap) hg (RowC.up hUt50 (by repeat (first | with_reducible exact Pick.here | with_reducible apply Pick.there | with_reducible apply Pick.app_nil | with_reducible apply Pick.app_cons))) (by omega) (hUt50.ro (SlIn.mono _ _ _ _) hx.1) (hUt50.ro (SlIn.mono _ _ _ _) hx.2.1) hx.2.2.1 hx.2.2.2 (fun p50 c50 => ?_))
                refine TrL.nil (At.step (listed' := #[true, true, true, true, true, true, false, false, false, false, false, false]) (by kernel_rfl) (by repeat (first | exact Picks.nil | with_reducible exact Pick.here | with_reducible apply Pick.there | with_reducible apply Pick.app_nil | with_reducible apply Pick.app_cons | apply Picks.cons)) ?_)
                refine TrD.take 6 rfl (by kernel_rfl) (by kernel_rfl) (by kernel_rfl) (by repeat (first | exact Picks.nil | with_reducible exact Pick.here | with_reducible apply Pick.there | with_reducible apply Pick.app_nil | with_reducible apply Pick.app_cons | apply Picks.cons)) ?_
                refine TrL.move rfl rfl ?_
                refine TrL.nilTake (listed' := #[true, true, true, true, true, true, true, false, false, false, false, false]) (by kernel_rfl) ?_
                refine TrD.take 7 rfl (by kernel_rfl) (by kernel_rfl) (by kernel_rfl) (by repeat (first | exact Picks.nil | with_reducible exact Pick.here | with_reducible apply Pick.there | with_reducible apply Pick.app_nil | with_reducible apply Pick.app_cons | apply Picks.cons)) ?_
                refine TrL.extract rfl rfl rfl ?_
                refine TrL.nilTake (listed' := #[true, true, true, true, true, true, true, true, false, false, false, false]) (by kernel_rfl) ?_
                refine TrD.take 8 rfl (by kernel_rfl) (by kernel_rfl) (by kernel_rfl) (by repeat (first | exact Picks.nil | with_reducible exact Pick.here | with_reducible apply Pick.there | with_reducible apply Pick.app_nil | with_reducible apply Pick.app_cons | apply Picks.cons)) ?_
                refine TrL.extract rfl rfl rfl ?_
                refine TrL.nilTake (listed' := #[true, true, true, true, true, true, true, true, true, false, false, false]) (by kernel_rfl) ?_
                refine TrD.all [9] (by kernel_rfl) rfl ?_
                refine all_cons ⟨_, rfl, ?_⟩ all_nil
                refine TrL.alloc rfl zc38 (fun b10 => ?_)
                refine TrL.nil (At.step (listed' := #[true, true, true, true, true, true, true, true, true, true, false, false]) (by kernel_rfl) (by repeat (first | exact Picks.nil | with_reducible exact Pick.here | with_reducible apply Pick.there | with_reducible apply Pick.app_nil | with_reducible apply Pick.app_cons | apply Picks.cons)) ?_)
                refine TrD.all [10] (by kernel_rfl) rfl ?_
                refine all_cons ⟨_, rfl, ?_⟩ all_nil
                refine TrL.storeLA rfl rfl sz38 ⟨rfl, List.cons_ne_nil _ _⟩ rfl (by repeat (first | with_reducible exact Upd.here | with_reducible apply Upd.there | with_reducible apply Upd.app_nil | with_reducible apply Upd.app_cons)) (by rfl) ?_
                refine TrL.nil (At.step (listed' := #[true, true, true, true, true, true, true, true, true, true, true, false]) (by kernel_rfl) (by repeat (first | exact Picks.nil | with_reducible exact Pick.here | with_reducible apply Pick.there | with_reducible apply Pick.app_nil | with_reducible apply Pick.app_cons | apply Picks.cons)) ?_)
                refine TrD.take 11 rfl (by kernel_rfl) (by kernel_rfl) (by kernel_rfl) (by repeat (first | exact Picks.nil | with_reducible exact Pick.here | with_reducible apply Pick.there | with_reducible apply Pick.app_nil | with_reducible apply Pick.app_cons | apply Picks.cons)) ?_
                refine TrL.assign rfl rfl ?_
                refine TrL.nilTake (listed' := #[true, true, true, true, true, true, true, true, true, true, true, true]) (by kernel_rfl) ?_
                refine TrD.done (by kernel_rfl) ?_
                refine At.meetK (b10, p50, c50) trivial (by repeat (first | exact Sub.nil | refine Sub.cons (by rfl) ?_)) (by repeat (first | exact Picks.nil | with_reducible exact Pick.here | with_reducible apply Pick.there | with_reducible apply Pick.app_nil | with_reducible apply Pick.app_cons | apply Picks.cons))
              refine all_cons ⟨_, rfl, ?_⟩ ?_
              · skip
                refine TrL.alloc rfl zc38 (fun b10 => ?_)
                refine TrL.nil (At.step (listed' := #[true, true, true, true, true, false, false, false, false, true, false, false]) (by kernel_rfl) (by repeat (first | exact Picks.nil | with_reducible exact Pick.here | with_reducible apply Pick.there | with_reducible apply Pick.app_nil | with_reducible apply Pick.app_cons | apply Picks.cons)) ?_)
                refine TrD.all [5] (by kernel_rfl) rfl ?_
                refine all_cons ⟨_, rfl, ?_⟩ all_nil
                refine TrL.call rfl rfl rfl ca18 .nil (fun Ft50 hUt50 => Apply_spec (s := s) (p := p1) (c := c1) (e := l[i].ed) (pa := l[i].a.p) (ca := l[i].a.cap) (pd := l[i].d.p) (cd := l[i].d.cap) hg (RowC.up hUt50 (by repeat (first | with_reducible exact Pick.here | with_reducible apply Pick.there | with_reducible apply Pick.app_nil | with_reducible apply Pick.app_cons))) (by omega) (hUt50.ro (SlIn.mono _ _ _ _) hx.1) (hUt50.ro (SlIn.mono _ _ _ _) hx.2.1) hx.2.2.1 hx.2.2.2 (fun p50 c50 => ?_))
                refine TrL.nil (At.step (listed' := #[true, true, true, true, true, true, false, false, false, true, false, false]) (by kernel_rfl) (by repeat (first | exact Picks.nil | with_reducible exact Pick.here | with_reducible apply Pick.there | with_reducible apply Pick.app_nil | with_reducible apply Pick.app_cons | apply Picks.cons)) ?_)
                refine TrD.take 6 rfl (by kernel_rfl) (by kernel_rfl) (by kernel_rfl) (by repeat (first | exact Picks.nil | with_reducible exact Pick.here | with_reducible apply Pick.there | with_reducible apply Pick.app_nil | with_reducible apply Pick.app_cons | apply Picks.cons)) ?_
                refine TrL.move rfl rfl ?_
                refine TrL.nilTake (listed' := #[true, true, true, true, true, true, true, false, false, true, false, false]) (by kernel_rfl) ?_
                refine TrD.take 7 rfl (by kernel_rfl) (by kernel_rfl) (by kernel_rfl) (by repeat (first | exact Picks.nil | with_reducible exact Pick.here | with_reducible apply Pick.there | with_reducible apply Pick.app_nil | with_reducible apply Pick.app_cons | apply Picks.cons)) ?_
                refine TrL.extract rfl rfl rfl ?_
                refine TrL.nilTake (listed' := #[true, true, true, true, true, true, true, true, false, true, false, false]) (by kernel_rfl) ?_
                refine TrD.take 8 rfl (by kernel_rfl) (by kernel_rfl) (by kernel_rfl) (by repeat (first | exact Picks.nil | with_reducible exact Pick.here | with_reducible apply Pick.there | with_reducible apply Pick.app_nil | with_reducible apply Pick.app_cons | apply Picks.cons)) ?_
                refine TrL.extract rfl rfl rfl ?_
                refine TrL.nilTake (listed' := #[true, true, true, true, true, true, true, true, true, true, false, false]) (by kernel_rfl) ?_
                refine TrD.all [10] (by kernel_rfl) rfl ?_
                refine all_cons ⟨_, rfl, ?_⟩ all_nil
                refine TrL.storeLA rfl rfl sz38 ⟨rfl, List.cons_ne_nil _ _⟩ rfl (by repeat (first | with_reducible exact Upd.here | with_reducible apply Upd.there | with_reducible apply Upd.app_nil | with_reducible apply Upd.app_cons)) (by rfl) ?_
                refine TrL.nil (At.step (listed' := #[true, true, true, true, true, true, true, true, true, true, true, false]) (by kernel_rfl) (by repeat (first | exact Picks.nil | with_reducible exact Pick.here | with_reducible apply Pick.there | with_reducible apply Pick.app_nil | with_reducible apply Pick.app_cons | apply Picks.cons)) ?_)
                refine TrD.take 11 rfl (by kernel_rfl) (by kernel_rfl) (by kernel_rfl) (by repeat (first | exact Picks.nil | with_reducible exact Pick.here | with_reducible apply Pick.there | with_reducible apply Pick.app_nil | with_reducible apply Pick.app_cons | apply Picks.cons)) ?_
                refine TrL.assign rfl rfl ?_
                refine TrL.nilTake (listed' := #[true, true, true, true, true, true, true, true, true, true, true, true]) (by kernel_rfl) ?_
                refine TrD.done (by kernel_rfl) ?_
                refine At.meetK (b10, p50, c50) trivial (by repeat (first | exact Sub.nil | refine Sub.cons (by rfl) ?_)) (by repeat (first | exact Picks.nil | with_reducible exact Pick.here | with_reducible apply Pick.there | with_reducible apply Pick.app_nil | with_reducible apply Pick.app_cons | apply Picks.cons))
              exact all_nil
            · skip
              rintro ⟨b10, p50, c50⟩ -
              dsimp only
              refine Tr.seq ?_
              refine Tr.cutK [0, 1, 2, 6, 7, 8, 9, 10, 11] (β := Nat × Option Addr × Nat) (fun z => [(12, .pointer (some ⟨z.1, 0, none⟩)), (13, .int .i64 (applyF s l[i].ed).2)]) (fun z => [cl z.1 (stC z.2.1 z.2.2 (applyF s l[i].ed).1) 38, RowC encT 4 z.2.1 (applyF s l[i].ed).1.tabs, cl b10 (stC p50 c50 (applyF s l[i].ed).1) 38, RowC encT 4 p50 (applyF s l[i].ed).1.tabs, cl b7 (stC p1 c1 s) 38, cl b8 (stC p2 c2 s) 38, RowC encT 4 p1 s.tabs, RowC encT 4 p2 s.tabs]) (fun z => True) (by rfl) ?_ ?_
              · skip
                refine Tr.regionDH mixed ?_
                refine TrD.take 0 rfl (by kernel_rfl) (by kernel_rfl) (by kernel_rfl) (by repeat (first | exact Picks.nil | with_reducible exact Pick.here | with_reducible apply Pick.there | with_reducible apply Pick.app_nil | with_reducible apply Pick.app_cons | apply Picks.cons)) ?_
                refine TrL.loadLA rfl rfl ag38 sz38 (by repeat (first | with_reducible exact Pick.here | with_reducible apply Pick.there | with_reducible apply Pick.app_nil | with_reducible apply Pick.app_cons)) (by rfl) ?_
                refine TrL.nilTake (listed' := #[true, false, false, false, false, false, false, false, false, false, false, false]) (by kernel_rfl) ?_
                refine TrD.take 1 rfl (by kernel_rfl) (by kernel_rfl) (by kernel_rfl) (by repeat (first | exact Picks.nil | with_reducible exact Pick.here | with_reducible apply Pick.there | with_reducible apply Pick.app_nil | with_reducible apply Pick.app_cons | apply Picks.cons)) ?_
                refine TrL.move rfl rfl ?_
                refine TrL.nilTake (listed' := #[true, true, false, false, false, false, false, false, false, false, false, false]) (by kernel_rfl) ?_
                refine TrD.take 2 rfl (by kernel_rfl) (by kernel_rfl) (by kernel_rfl) (by repeat (first | exact Picks.nil | with_reducible exact Pick.here | with_reducible apply Pick.there | with_reducible apply Pick.app_nil | with_reducible apply Pick.app_cons | apply Picks.cons)) ?_
                refine TrL.move rfl rfl ?_
                refine TrL.nilTake (listed' := #[true, true, true, false, false, false, false, false, false, false, false, false]) (by kernel_rfl) ?_
                refine TrD.take 3 rfl (by kernel_rfl) (by kernel_rfl) (by kernel_rfl) (by repeat (first | exact Picks.nil | with_reducible exact Pick.here | with_reducible apply Pick.there | with_reducible apply Pick.app_nil | with_reducible apply Pick.app_cons | apply Picks.cons)) ?_
                refine TrL.idxF rfl rfl rfl se36 sz25 hL rfl rfl rfl (List.getElem?_eq_getElem (by omega)) (fun b57 o57 hp57 hc57 => ?_)
                refine TrL.nilTake (listed' := #[true, true, true, true, false, false, false, false, false, false, false, false]) (by kernel_rfl) ?_
                refine TrD.take 4 rfl (by kernel_rfl) (by kernel_rfl) (by kernel_rfl) (by repeat (first | exact Picks.nil | with_reducible exact Pick.here | with_reducible apply Pick.there | with_reducible apply Pick.app_nil | with_reducible apply Pick.app_cons | apply Picks.cons)) ?_
                refine TrL.loadRA rfl rfl ag25 sz25 (by assumption) (by rfl) ?_
                refine TrL.nilTake (listed' := #[true, true, true, true, true, false, false, false, false, false, false, false]) (by kernel_rfl) ?_
                refine TrD.all [5, 9] (by kernel_rfl) rfl ?_
                refine all_cons ⟨_, rfl, ?_⟩ ?_
                · skip
                  refine TrL.call rfl rfl rfl ca19 .nil (fun Ft59 hUt59 => ApplyR_spec (s := s) (p := p2) (c := c2) (e := l[i].ed) (pa := l[i].a.p) (ca := l[i].a.cap) (pd := l[i].d.p) (cd := l[i].d.cap) (RowC.up hUt59 (by repeat (first | with_reducible exact Pick.here | with_reducible apply Pick.there | with_reducible apply Pick.app_nil | with_reducible apply Pick.app_cons))) (by omega) (hUt59.ro (SlIn.mono _ _ _ _) hx.1) (hUt59.ro (SlIn.mono _ _ _ _) hx.2.1) hx.2.2.1 hx.2.2.2 (fun p59 c59 => ?_))
                  refine TrL.nil (At.step (listed' := #[true, true, true, true, true, true, false, false, false, false, false, false]) (by kernel_rfl) (by repeat (first | exact Picks.nil | with_reducible exact Pick.here | with_reducible apply Pick.there | with_reducible apply Pick.app_nil | with_reducible apply Pick.app_cons | apply Picks.cons)) ?_)
                  refine TrD.take 6 rfl (by kernel_rfl) (by kernel_rfl) (by kernel_rfl) (by repeat (first | exact Picks.nil | with_reducible exact Pick.here | with_reducible apply Pick.there | with_reducible apply Pick.app_nil | with_reducible apply Pick.app_cons | apply Picks.cons)) ?_
                  refine TrL.move rfl rfl ?_
                  refine TrL.nilTake (listed' := #[true, true, true, true, true, true, true, false, false, false, false, false]) (by kernel_rfl) ?_
                  refine TrD.take 7 rfl (by kernel_rfl) (by kernel_rfl) (by kernel_rfl) (by repeat (first | exact Picks.nil | with_reducible exact Pick.here | with_reducible apply Pick.there | with_reducible apply Pick.app_nil | with_reducible apply Pick.app_cons | apply Picks.cons)) ?_
                  refine TrL.extract rfl rfl rfl ?_
                  refine TrL.nilTake (listed' := #[true, true, true, true, true, true, true, true, false, false, false, false]) (by kernel_rfl) ?_
                  refine TrD.take 8 rfl (by kernel_rfl) (by kernel_rfl) (by kernel_rfl) (by repeat (first | exact Picks.nil | with_reducible exact Pick.here | with_reducible apply Pick.there | with_reducible apply Pick.app_nil | with_reducible apply Pick.app_cons | apply Picks.cons)) ?_
                  refine TrL.extract rfl rfl rfl ?_
                  refine TrL.nilTake (listed' := #[true, true, true, true, true, true, true, true, true, false, false, false]) (by kernel_rfl) ?_
                  refine TrD.all [9] (by kernel_rfl) rfl ?_
                  refine all_cons ⟨_, rfl, ?_⟩ all_nil
                  refine TrL.alloc rfl zc38 (fun b12 => ?_)
                  refine TrL.nil (At.step (listed' := #[true, true, true, true, true, true, true, true, true, true, false, false]) (by kernel_rfl) (by repeat (first | exact Picks.nil | with_reducible exact Pick.here | with_reducible apply Pick.there | with_reducible apply Pick.app_nil | with_reducible apply Pick.app_cons | apply Picks.cons)) ?_)
                  refine TrD.all [10] (by kernel_rfl) rfl ?_
                  refine all_cons ⟨_, rfl, ?_⟩ all_nil
                  refine TrL.storeLA rfl rfl sz38 ⟨rfl, List.cons_ne_nil _ _⟩ rfl (by repeat (first | with_reducible exact Upd.here | with_reducible apply Upd.there | with_reducible apply Upd.app_nil | with_reducible apply Upd.app_cons)) (by rfl) ?_
                  refine TrL.nil (At.step (listed' := #[true, true, true, true, true, true, true, true, true, true, true, false]) (by kernel_rfl) (by repeat (first | exact Picks.nil | with_reducible exact Pick.here | with_reducible apply Pick.there | with_reducible apply Pick.app_nil | with_reducible apply Pick.app_cons | apply Picks.cons)) ?_)
                  refine TrD.take 11 rfl (by kernel_rfl) (by kernel_rfl) (by kernel_rfl) (by repeat (first | exact Picks.nil | with_reducible exact Pick.here | with_reducible apply Pick.there | with_reducible apply Pick.app_nil | with_reducible apply Pick.app_cons | apply Picks.cons)) ?_
                  refine TrL.assign rfl rfl ?_
                  refine TrL.nilTake (listed' := #[true, true, true, true, true, true, true, true, true, true, true, true]) (by kernel_rfl) ?_
                  refine TrD.done (by kernel_rfl) ?_
                  refine At.meetK (b12, p59, c59) trivial (by repeat (first | exact Sub.nil | refine Sub.cons (by rfl) ?_)) (by repeat (first | exact Picks.nil | with_reducible exact Pick.here | with_reducible apply Pick.there | with_reducible apply Pick.app_nil | with_reducible apply Pick.app_cons | apply Picks.cons))
                refine all_cons ⟨_, rfl, ?_⟩ ?_
                · skip
                  refine TrL.alloc rfl zc38 (fun b12 => ?_)
                  refine TrL.nil (At.step (listed' := #[true, true, true, true, true, false, false, false, false, true, false, false]) (by kernel_rfl) (by repeat (first | exact Picks.nil | with_reducible exact Pick.here | with_reducible apply Pick.there | with_reducible apply Pick.app_nil | with_reducible apply Pick.app_cons | apply Picks.cons)) ?_)
                  refine TrD.all [5] (by kernel_rfl) rfl ?_
                  refine all_cons ⟨_, rfl, ?_⟩ all_nil
                  refine TrL.call rfl rfl rfl ca19 .nil (fun Ft59 hUt59 => ApplyR_spec (s := s) (p := p2) (c := c2) (e := l[i].ed) (pa := l[i].a.p) (ca := l[i].a.cap) (pd := l[i].d.p) (cd := l[i].d.cap) (RowC.up hUt59 (by repeat (first | with_reducible exact Pick.here | with_reducible apply Pick.there | with_reducible apply Pick.app_nil | with_reducible apply Pick.app_cons))) (by omega) (hUt59.ro (SlIn.mono _ _ _ _) hx.1) (hUt59.ro (SlIn.mono _ _ _ _) hx.2.1) hx.2.2.1 hx.2.2.2 (fun p59 c59 => ?_))
                  refine TrL.nil (At.step (listed' := #[true, true, true, true, true, true, false, false, false, true, false, false]) (by kernel_rfl) (by repeat (first | exact Picks.nil | with_reducible exact Pick.here | with_reducible apply Pick.there | with_reducible apply Pick.app_nil | with_reducible apply Pick.app_cons | apply Picks.cons)) ?_)
                  refine TrD.take 6 rfl (by kernel_rfl) (by kernel_rfl) (by kernel_rfl) (by repeat (first | exact Picks.nil | with_reducible exact Pick.here | with_reducible apply Pick.there | with_reducible apply Pick.app_nil | with_reducible apply Pick.app_cons | apply Picks.cons)) ?_
                  refine TrL.move rfl rfl ?_
                  refine TrL.nilTake (listed' := #[true, true, true, true, true, true, true, false, false, true, false, false]) (by kernel_rfl) ?_
                  refine TrD.take 7 rfl (by kernel_rfl) (by kernel_rfl) (by kernel_rfl) (by repeat (first | exact Picks.nil | with_reducible exact Pick.here | with_reducible apply Pick.there | with_reducible apply Pick.app_nil | with_reducible apply Pick.app_cons | apply Picks.cons)) ?_
                  refine TrL.extract rfl rfl rfl ?_
                  refine TrL.nilTake (listed' := #[true, true, true, true, true, true, true, true, false, true, false, false]) (by kernel_rfl) ?_
                  refine TrD.take 8 rfl (by kernel_rfl) (by kernel_rfl) (by kernel_rfl) (by repeat (first | exact Picks.nil | with_reducible exact Pick.here | with_reducible apply Pick.there | with_reducible apply Pick.app_nil | with_reducible apply Pick.app_cons | apply Picks.cons)) ?_
                  refine TrL.extract rfl rfl rfl ?_
                  refine TrL.nilTake (listed' := #[true, true, true, true, true, true, true, true, true, true, false, false]) (by kernel_rfl) ?_
                  refine TrD.all [10] (by kernel_rfl) rfl ?_
                  refine all_cons ⟨_, rfl, ?_⟩ all_nil
                  refine TrL.storeLA rfl rfl sz38 ⟨rfl, List.cons_ne_nil _ _⟩ rfl (by repeat (first | with_reducible exact Upd.here | with_reducible apply Upd.there | with_reducible apply Upd.app_nil | with_reducible apply Upd.app_cons)) (by rfl) ?_
                  refine TrL.nil (At.step (listed' := #[true, true, true, true, true, true, true, true, true, true, true, false]) (by kernel_rfl) (by repeat (first | exact Picks.nil | with_reducible exact Pick.here | with_reducible apply Pick.there | with_reducible apply Pick.app_nil | with_reducible apply Pick.app_cons | apply Picks.cons)) ?_)
                  refine TrD.take 11 rfl (by kernel_rfl) (by kernel_rfl) (by kernel_rfl) (by repeat (first | exact Picks.nil | with_reducible exact Pick.here | with_reducible apply Pick.there | with_reducible apply Pick.app_nil | with_reducible apply Pick.app_cons | apply Picks.cons)) ?_
                  refine TrL.assign rfl rfl ?_
                  refine TrL.nilTake (listed' := #[true, true, true, true, true, true, true, true, true, true, true, true]) (by kernel_rfl) ?_
                  refine TrD.done (by kernel_rfl) ?_
                  refine At.meetK (b12, p59, c59) trivial (by repeat (first | exact Sub.nil | refine Sub.cons (by rfl) ?_)) (by repeat (first | exact Picks.nil | with_reducible exact Pick.here | with_reducible apply Pick.there | with_reducible apply Pick.app_nil | with_reducible apply Pick.app_cons | apply Picks.cons))
                exact all_nil
              · skip
                rintro ⟨b12, p59, c59⟩ -
                dsimp only
                refine Tr.seq ?_
                refine Tr.seq ?_
                have hal := applyF_len s l[i].ed
                refine Tr.region ?_
                refine TrL.move rfl rfl ?_
                refine TrL.move rfl rfl ?_
                refine TrL.nei rfl rfl rfl ?_
                refine TrL.knownB (t := 64) (c := false) rfl (by simp) ?_
                refine TrL.move rfl rfl ?_
                refine TrL.want rfl rfl ?_
                refine TrL.loadLA rfl rfl ag38 sz38 (by repeat (first | with_reducible exact Pick.here | with_reducible apply Pick.there | with_reducible apply Pick.app_nil | with_reducible apply Pick.app_cons)) (by rfl) ?_
                refine TrL.want rfl rfl ?_
                refine TrL.loadLA rfl rfl ag38 sz38 (by repeat (first | with_reducible exact Pick.here | with_reducible apply Pick.there | with_reducible apply Pick.app_nil | with_reducible apply Pick.app_cons)) (by rfl) ?_
                refine TrL.want rfl rfl ?_
                refine TrL.call rfl rfl rfl ca20 .nil (fun Ft68 hUt68 => Same_spec (RowC.up hUt68 (by repeat (first | with_reducible exact Pick.here | with_reducible apply Pick.there | with_reducible apply Pick.app_nil | with_reducible apply Pick.app_cons))) (RowC.up hUt68 (by repeat (first | with_reducible exact Pick.here | with_reducible apply Pick.there | with_reducible apply Pick.app_nil | with_reducible apply Pick.app_cons))) (by omega) (fun r68 hr68 => ?_))
                obtain rfl : r68 = true := hr68.2 rfl
                refine TrL.want rfl rfl ?_
                refine TrL.not rfl rfl ?_
                refine TrL.pickF rfl rfl rfl ?_
                refine TrL.nil (At.then_normal ?_)
                refine Tr.condF rfl ?_
                refine Tr.skip (At.then_normal ?_)
                refine Tr.seq ?_
                refine Tr.seq ?_
                refine Tr.region ?_
                refine TrL.move rfl rfl ?_
                refine TrL.eqi rfl rfl rfl ?_
                refine TrL.nil (At.then_normal ?_)
                refine Tr.cutK [0, 1, 2, 6, 7, 8, 9] (β := Sta × (Option Addr × Nat) × (Option Addr × Nat)) (fun z => []) (fun z => [cl b7 (stC z.2.1.1 z.2.1.2 z.1) 38, cl b8 (stC z.2.2.1 z.2.2.2 z.1) 38, RowC encT 4 z.2.1.1 z.1.tabs, RowC encT 4 z.2.2.1 z.1.tabs]) (fun z => Good z.1 ∧ z.1.tabs.length ≤ 128 * (i + 1)) (by rfl) ?_ ?_
                · skip
                  refine Tr.cond rfl (fun h72 => ?_) (fun h72 => ?_)
                  · try simp only [beq_iff_eq, beq_eq_false_iff_ne, Bool.not_eq_true, Bool.not_eq_false, decide_eq_true_eq, decide_eq_false_iff_not, Bool.not_eq_true', Bool.not_eq_false', bne_iff_ne, Bool.not_eq_eq_eq_not, Bool.not_true, Bool.not_false, ne_eq, Decidable.not_not, Int.not_lt, Int.not_le] at h72
                    refine Tr.regionD [cl b10 (stC p50 c50 (applyF s l[i].ed).1) 38, cl b12 (stC p59 c59 (applyF s l[i].ed).1) 38] mixed ?_
                    refine TrD.take 0 rfl (by kernel_rfl) (by kernel_rfl) (by kernel_rfl) (by repeat (first | exact Picks.nil | with_reducible exact Pick.here | with_reducible apply Pick.there | with_reducible apply Pick.app_nil | with_reducible apply Pick.app_cons | apply Picks.cons)) ?_
                    refine TrL.loadLA rfl rfl ag38 sz38 (by repeat (first | with_reducible exact Pick.here | with_reducible apply Pick.there | with_reducible apply Pick.app_nil | with_reducible apply Pick.app_cons)) (by rfl) ?_
                    refine TrL.nilTake (listed' := #[true, false, false, false]) (by kernel_rfl) ?_
                    refine TrD.take 1 rfl (by kernel_rfl) (by kernel_rfl) (by kernel_rfl) (by repeat (first | exact Picks.nil | with_reducible exact Pick.here | with_reducible apply Pick.there | with_reducible apply Pick.app_nil | with_reducible apply Pick.app_cons | apply Picks.cons)) ?_
                    refine TrL.loadLA rfl rfl ag38 sz38 (by repeat (first | with_reducible exact Pick.here | with_reducible apply Pick.there | with_reducible apply Pick.app_nil | with_reducible apply Pick.app_cons)) (by rfl) ?_
                    refine TrL.nilTake (listed' := #[true, true, false, false]) (by kernel_rfl) ?_
                    refine TrD.all [2] (by kernel_rfl) rfl ?_
                    refine all_cons ⟨_, rfl, ?_⟩ all_nil
                    refine TrL.storeLA rfl rfl sz38 ⟨rfl, List.cons_ne_nil _ _⟩ rfl (by repeat (first | with_reducible exact Upd.here | with_reducible apply Upd.there | with_reducible apply Upd.app_nil | with_reducible apply Upd.app_cons)) (by rfl) ?_
                    refine TrL.nil (At.step (listed' := #[true, true, true, false]) (by kernel_rfl) (by repeat (first | exact Picks.nil | with_reducible exact Pick.here | with_reducible apply Pick.there | with_reducible apply Pick.app_nil | with_reducible apply Pick.app_cons | apply Picks.cons)) ?_)
                    refine TrD.all [3] (by kernel_rfl) rfl ?_
                    refine all_cons ⟨_, rfl, ?_⟩ all_nil
                    refine TrL.storeLA rfl rfl sz38 ⟨rfl, List.cons_ne_nil _ _⟩ rfl (by repeat (first | with_reducible exact Upd.here | with_reducible apply Upd.there | with_reducible apply Upd.app_nil | with_reducible apply Upd.app_cons)) (by rfl) ?_
                    refine TrL.nil (At.step (listed' := #[true, true, true, true]) (by kernel_rfl) (by repeat (first | exact Picks.nil | with_reducible exact Pick.here | with_reducible apply Pick.there | with_reducible apply Pick.app_nil | with_reducible apply Pick.app_cons | apply Picks.cons)) ?_)
                    refine TrD.done (by kernel_rfl) ?_
                    obtain ⟨g2, l2⟩ := good_next (e := l[i].ed) hg hsl (by simpa using h72)
                    refine At.meetK ((applyF s l[i].ed).1, (p50, c50), (p59, c59)) ⟨g2, l2⟩ (by repeat (first | exact Sub.nil | refine Sub.cons (by rfl) ?_)) (by repeat (first | exact Picks.nil | with_reducible exact Pick.here | exact Pick.here | with_reducible apply Pick.there | with_reducible apply Pick.app_nil | with_reducible apply Pick.app_cons | apply Picks.cons))
                  · try simp only [beq_iff_eq, beq_eq_false_iff_ne, Bool.not_eq_true, Bool.not_eq_false, decide_eq_true_eq, decide_eq_false_iff_not, Bool.not_eq_true', Bool.not_eq_false', bne_iff_ne, Bool.not_eq_eq_eq_not, Bool.not_true, Bool.not_false, ne_eq, Decidable.not_not, Int.not_lt, Int.not_le] at h72
                    refine Tr.skip ?_
                    refine At.meetK (s, (p1, c1), (p2, c2)) ⟨hg, by show s.tabs.length ≤ 128 * (i + 1); omega⟩ (by repeat (first | exact Sub.nil | refine Sub.cons (by rfl) ?_)) (by repeat (first | exact Picks.nil | with_reducible exact Pick.here | exact Pick.here | with_reducible apply Pick.there | with_reducible apply Pick.app_nil | with_reducible apply Pick.app_cons | apply Picks.cons))
                · skip
                  rintro ⟨s2, ⟨q1, d1⟩, ⟨q2, d2⟩⟩ ⟨hg2, hsl2⟩
                  dsimp only at hg2 hsl2 ⊢
                  refine Tr.seq ?_
                  refine Tr.region ?_
                  refine TrL.assign rfl rfl ?_
                  refine TrL.nil (At.then_normal ?_)
                  refine Tr.block ?_
                  refine Tr.loopK [0, 1, 2, 6, 7, 8, 9] (α := Nat) (fun k => [(14, .int .i64 ((k : Int) - 1))]) (fun k => []) (fun k => k ≤ 5) (fun k => 5 - k) (0) (by rfl) ?_ (by repeat (first | exact Sub.nil | refine Sub.cons (by rfl) ?_)) (by repeat (first | exact Picks.nil | with_reducible exact Pick.here | with_reducible apply Pick.there | with_reducible apply Pick.app_nil | with_reducible apply Pick.app_cons | apply Picks.cons)) ?_
                  · exact Nat.zero_le _
                  rintro k hk
                  refine Tr.seq ?_
                  refine Tr.seq ?_
                  refine Tr.region ?_
                  refine TrL.move rfl rfl ?_
                  refine TrL.lss rfl rfl rfl ?_
                  refine TrL.nil (At.then_normal ?_)
                  refine Tr.cond rfl (fun h76 => ?_) (fun h76 => ?_)
                  · try simp only [beq_iff_eq, beq_eq_false_iff_ne, Bool.not_eq_true, Bool.not_eq_false, decide_eq_true_eq, decide_eq_false_iff_not, Bool.not_eq_true', Bool.not_eq_false', bne_iff_ne, Bool.not_eq_eq_eq_not, Bool.not_true, Bool.not_false, ne_eq, Decidable.not_not, Int.not_lt, Int.not_le] at h76
                    refine Tr.skip (At.then_normal ?_)
                    refine Tr.seq ?_
                    refine Tr.block ?_
                    refine Tr.seq ?_
                    refine Tr.regionDH mixed ?_
                    refine TrD.take 0 rfl (by kernel_rfl) (by kernel_rfl) (by kernel_rfl) (by repeat (first | exact Picks.nil | with_reducible exact Pick.here | with_reducible apply Pick.there | with_reducible apply Pick.app_nil | with_reducible apply Pick.app_cons | apply Picks.cons)) ?_
                    refine TrL.loadLA rfl rfl ag38 sz38 (by repeat (first | with_reducible exact Pick.here | with_reducible apply Pick.there | with_reducible apply Pick.app_nil | with_reducible apply Pick.app_cons)) (by rfl) ?_
                    refine TrL.nilTake (listed' := #[true, false, false, false, false, false, false, false, false, false, false, false]) (by kernel_rfl) ?_
                    refine TrD.take 1 rfl (by kernel_rfl) (by kernel_rfl) (by kernel_rfl) (by repeat (first | exact Picks.nil | with_reducible exact Pick.here | with_reducible apply Pick.there | with_reducible apply Pick.app_nil | with_reducible apply Pick.app_cons | apply Picks.cons)) ?_
                    refine TrL.move rfl rfl ?_
                    refine TrL.nilTake (listed' := #[true, true, false, false, false, false, false, false, false, false, false, false]) (by kernel_rfl) ?_
                    refine TrD.take 2 rfl (by kernel_rfl) (by kernel_rfl) (by kernel_rfl) (by repeat (first | exact Picks.nil | with_reducible exact Pick.here | with_reducible apply Pick.there | with_reducible apply Pick.app_nil | with_reducible apply Pick.app_cons | apply Picks.cons)) ?_
                    refine TrL.move rfl rfl ?_
                    refine TrL.nilTake (listed' := #[true, true, true, false, false, false, false, false, false, false, false, false]) (by kernel_rfl) ?_
                    refine TrD.take 3 rfl (by kernel_rfl) (by kernel_rfl) (by kernel_rfl) (by repeat (first | exact Picks.nil | with_reducible exact Pick.here | with_reducible apply Pick.there | with_reducible apply Pick.app_nil | with_reducible apply Pick.app_cons | apply Picks.cons)) ?_
                    refine TrL.move rfl rfl ?_
                    refine TrL.nilTake (listed' := #[true, true, true, true, false, false, false, false, false, false, false, false]) (by kernel_rfl) ?_
                    refine TrD.take 5 rfl (by kernel_rfl) (by kernel_rfl) (by kernel_rfl) (by repeat (first | exact Picks.nil | with_reducible exact Pick.here | with_reducible apply Pick.there | with_reducible apply Pick.app_nil | with_reducible apply Pick.app_cons | apply Picks.cons)) ?_
                    refine TrL.loadLA rfl rfl ag38 sz38 (by repeat (first | with_reducible exact Pick.here | with_reducible apply Pick.there | with_reducible apply Pick.app_nil | with_reducible apply Pick.app_cons)) (by rfl) ?_
                    refine TrL.nilTake (listed' := #[true, true, true, true, false, true, false, false, false, false, false, false]) (by kernel_rfl) ?_
                    refine TrD.take 6 rfl (by kernel_rfl) (by kernel_rfl) (by kernel_rfl) (by repeat (first | exact Picks.nil | with_reducible exact Pick.here | with_reducible apply Pick.there | with_reducible apply Pick.app_nil | with_reducible apply Pick.app_cons | apply Picks.cons)) ?_
                    refine TrL.move rfl rfl ?_
                    refine TrL.nilTake (listed' := #[true, true, true, true, false, true, true, false, false, false, false, false]) (by kernel_rfl) ?_
                    refine TrD.take 7 rfl (by kernel_rfl) (by kernel_rfl) (by kernel_rfl) (by repeat (first | exact Picks.nil | with_reducible exact Pick.here | with_reducible apply Pick.there | with_reducible apply Pick.app_nil | with_reducible apply Pick.app_cons | apply Picks.cons)) ?_
                    refine TrL.move rfl rfl ?_
                    refine TrL.nilTake (listed' := #[true, true, true, true, false, true, true, true, false, false, false, false]) (by kernel_rfl) ?_
                    refine TrD.take 8 rfl (by kernel_rfl) (by kernel_rfl) (by kernel_rfl) (by repeat (first | exact Picks.nil | with_reducible exact Pick.here | with_reducible apply Pick.there | with_reducible apply Pick.app_nil | with_reducible apply Pick.app_cons | apply Picks.cons)) ?_
                    refine TrL.move rfl rfl ?_
                    refine TrL.nilTake (listed' := #[true, true, true, true, false, true, true, true, true, false, false, false]) (by kernel_rfl) ?_
                    refine TrD.all [4] (by kernel_rfl) rfl ?_
                    refine all_cons ⟨_, rfl, ?_⟩ all_nil
                    refine TrL.call rfl rfl rfl ca22 .nil (fun Ft83 hUt83 => Overlap_spec (s := s2) (p := q1) (c := d1) (RowC.up hUt83 (by repeat (first | with_reducible exact Pick.here | with_reducible apply Pick.there | with_reducible apply Pick.app_nil | with_reducible apply Pick.app_cons))) (by omega) (fun p83 c83 => ?_))
                    refine TrL.nil (At.step (listed' := #[true, true, true, true, true, true, true, true, true, false, false, false]) (by kernel_rfl) (by repeat (first | exact Picks.nil | with_reducible exact Pick.here | with_reducible apply Pick.there | with_reducible apply Pick.app_nil | with_reducible apply Pick.app_cons | apply Picks.cons)) ?_)
                    refine TrD.all [9] (by kernel_rfl) rfl ?_
                    refine all_cons ⟨_, rfl, ?_⟩ all_nil
                    refine TrL.call rfl rfl rfl ca23 .nil (fun Ft88 hUt88 => OverlapR_spec (s := s2) (p := q2) (c := d2) (RowC.up hUt88 (by repeat (first | with_reducible exact Pick.here | with_reducible apply Pick.there | with_reducible apply Pick.app_nil | with_reducible apply Pick.app_cons))) (by omega) (fun p88 c88 => ?_))
                    refine TrL.nil (At.step (listed' := #[true, true, true, true, true, true, true, true, true, true, false, false]) (by kernel_rfl) (by repeat (first | exact Picks.nil | with_reducible exact Pick.here | with_reducible apply Pick.there | with_reducible apply Pick.app_nil | with_reducible apply Pick.app_cons | apply Picks.cons)) ?_)
                    refine TrD.all [10] (by kernel_rfl) rfl ?_
                    refine all_cons ⟨_, rfl, ?_⟩ all_nil
                    refine TrL.call rfl rfl rfl ca21 .nil (fun Ft89 hUt89 => SameTabs_spec (Own.up hUt89 (by repeat (first | with_reducible exact Pick.here | with_reducible apply Pick.there | with_reducible apply Pick.app_nil | with_reducible apply Pick.app_cons)) (by decide) encT_len) (Own.up hUt89 (by repeat (first | with_reducible exact Pick.here | with_reducible apply Pick.there | with_reducible apply Pick.app_nil | with_reducible apply Pick.app_cons)) (by decide) encT_len) (by have := List.length_filter_le (ovT ((k : Int) - 1) a b) s2.tabs; omega) (fun r89 hr89 => ?_))
                    obtain rfl : r89 = true := hr89.2 rfl
                    refine TrL.nil (At.step (listed' := #[true, true, true, true, true, true, true, true, true, true, true, false]) (by kernel_rfl) (by repeat (first | exact Picks.nil | with_reducible exact Pick.here | with_reducible apply Pick.there | with_reducible apply Pick.app_nil | with_reducible apply Pick.app_cons | apply Picks.cons)) ?_)
                    refine TrD.take 11 rfl (by kernel_rfl) (by kernel_rfl) (by kernel_rfl) (by repeat (first | exact Picks.nil | with_reducible exact Pick.here | with_reducible apply Pick.there | with_reducible apply Pick.app_nil | with_reducible apply Pick.app_cons | apply Picks.cons)) ?_
                    refine TrL.not rfl rfl ?_
                    refine TrL.nilTake (listed' := #[true, true, true, true, true, true, true, true, true, true, true, true]) (by kernel_rfl) ?_
                    refine TrD.done (by kernel_rfl) (At.then_normal ?_)
                    refine Tr.condF rfl ?_
                    refine Tr.skip (At.block_normal (At.then_normal ?_))
                    refine Tr.region ?_
                    refine TrL.move rfl rfl ?_
                    refine TrL.addI rfl rfl rfl (by omega) ?_
                    refine TrL.assign rfl rfl ?_
                    refine TrL.nil ?_
                    rw [show (k : Int) - 1 + 1 = ((k + 1 : Nat) : Int) - 1 by omega]
                    refine At.again (k + 1) (by omega) (by omega) (by repeat (first | exact Sub.nil | refine Sub.cons (by rfl) ?_)) (by repeat (first | exact Picks.nil | with_reducible exact Pick.here | with_reducible apply Pick.there | with_reducible apply Pick.app_nil | with_reducible apply Pick.app_cons | apply Picks.cons))
                  · try simp only [beq_iff_eq, beq_eq_false_iff_ne, Bool.not_eq_true, Bool.not_eq_false, decide_eq_true_eq, decide_eq_false_iff_not, Bool.not_eq_true', Bool.not_eq_false', bne_iff_ne, Bool.not_eq_eq_eq_not, Bool.not_true, Bool.not_false, ne_eq, Decidable.not_not, Int.not_lt, Int.not_le] at h76
                    refine Tr.exit (At.then_exit (At.then_exit (At.block_hit (At.block_normal (At.then_normal ?_)))))
                    refine Tr.region ?_
                    refine TrL.move rfl rfl ?_
                    refine TrL.addI rfl rfl rfl (by omega) ?_
                    refine TrL.assign rfl rfl ?_
                    refine TrL.nil ?_
                    refine At.again (i + 1, s2, (q1, d1), (q2, d2)) ⟨by show i + 1 ≤ l.length; omega, hg2, hsl2⟩ (by show l.length - (i + 1) < l.length - i; omega) (by repeat (first | exact Sub.nil | refine Sub.cons (by rfl) ?_)) (by repeat (first | exact Picks.nil | with_reducible exact Pick.here | with_reducible apply Pick.there | with_reducible apply Pick.app_nil | with_reducible apply Pick.app_cons | apply Picks.cons))
        · try simp only [beq_iff_eq, beq_eq_false_iff_ne, Bool.not_eq_true, Bool.not_eq_false, decide_eq_true_eq, decide_eq_false_iff_not, Bool.not_eq_true', Bool.not_eq_false', bne_iff_ne, Bool.not_eq_eq_eq_not, Bool.not_true, Bool.not_false, ne_eq, Decidable.not_not, Int.not_lt, Int.not_le] at h34
          refine Tr.exit (At.then_exit (At.then_exit (At.block_hit (At.then_normal ?_))))
          refine Tr.seq ?_
          refine Tr.region ?_
          refine TrL.call rfl rfl rfl ca10 .nil (fun Ft91 hUt91 => awake_spec ?_)
          refine TrL.assign rfl rfl ?_
          refine TrL.nil (At.then_normal ?_)
          refine Tr.ret (At.retP [] (.inl rfl) rfl (Res.tmp rfl Res.nil) (by repeat (first | exact Picks.nil | with_reducible exact Pick.here | with_reducible apply Pick.there | with_reducible apply Pick.app_nil | with_reducible apply Pick.app_cons | apply Picks.cons)) (by exact hK))
end Go.Proofs.Ytiefmfimbmkdjaa

/-
  The law ManifestOverlaps, walked.
  No condition but those that each statement names.
-/
import Derived.Test.YtiefmfimbmkdjaaMfS
namespace Go.Proofs.Ytiefmfimbmkdjaa
set_option linter.unusedSimpArgs false
set_option linter.unusedVariables false
set_option linter.unusedSectionVars false
open Go.RowKit
variable [Obs]


theorem small_of {a : Int} {m : Int} (h : 0 < m) (h0 : 0 ≤ a) : ∃ n : Nat, a.tmod m = (n : Int) ∧ (n : Int) < m := by
  refine ⟨(a.tmod m).toNat, (Int.toNat_of_nonneg (Int.tmod_nonneg _ h0)).symm, ?_⟩
  rw [Int.toNat_of_nonneg (Int.tmod_nonneg _ h0)]
  exact Int.tmod_lt_of_pos _ h
theorem tabEq_self (a : Tab) : tabEq a a = true := by simp [tabEq]
theorem eq_raw (a b : Tab) : (decide (a.id = b.id) && (decide (a.level = b.level) && (decide (a.lo = b.lo) && (decide (a.hi = b.hi) && true)))) = tabEq a b := by unfold tabEq; simp only [Bool.and_true, Bool.and_assoc]
theorem any_on {l : List Tab} {z : Tab} {j : Nat} (h : j < l.length) : (l.take (j + 1)).any (fun t => tabEq t z) = ((l.take j).any (fun t => tabEq t z) || tabEq l[j] z) := by
  rw [List.take_succ_eq_append_getElem h, List.any_append, List.any_cons, List.any_nil, Bool.or_false]
theorem any_in {l : List Tab} {z : Tab} (h : z ∈ l) : l.any (fun t => tabEq t z) = true := List.any_eq_true.2 ⟨z, h, tabEq_self z⟩
theorem filter_le {l : List Tab} {p q : Tab → Bool} (h : ∀ t ∈ l, p t = true → q t = true) : (l.filter p).length ≤ (l.filter q).length := by
  rw [← List.countP_eq_length_filter, ← List.countP_eq_length_filter]; exact List.countP_mono_left h
theorem filter_sum : ∀ {l : List Tab} {p q r : Tab → Bool}, (∀ t ∈ l, r t = true → p t = true ∨ q t = true) → (l.filter r).length ≤ (l.filter p).length + (l.filter q).length
  | [], _, _, _, _ => Nat.zero_le _
  | a :: t, p, q, r, h => by
    have ih := filter_sum (l := t) (p := p) (q := q) (r := r) (fun x hx => h x (List.mem_cons_of_mem _ hx))
    have h1 := h a (List.mem_cons_self ..)
    simp only [List.filter_cons]
    cases hr : r a <;> cases hp : p a <;> cases hq : q a <;> simp_all <;> omega
theorem ov_facts {s : Sta} {v : Int} {a b cc : ByteArray} (g : Good s) (hab : blt b a = false) (hbc : blt cc b = false) :
    (∀ x ∈ s.tabs.filter (ovT v a cc), (x ∈ s.tabs.filter (ovT v a b) ∨ x ∈ s.tabs.filter (ovT v b cc)) ∧ x.level = v ∧ blt x.hi a = false ∧ blt cc x.lo = false) ∧
    (s.tabs.filter (ovT v a b)).length ≤ (s.tabs.filter (ovT v a cc)).length ∧ (s.tabs.filter (ovT v b cc)).length ≤ (s.tabs.filter (ovT v a cc)).length ∧ (s.tabs.filter (ovT v a cc)).length ≤ (s.tabs.filter (ovT v a b)).length + (s.tabs.filter (ovT v b cc)).length ∧ (s.tabs.filter (ovT v a cc)).length ≤ s.tabs.length := by
  have split : ∀ t ∈ s.tabs, ovT v a cc t = true → ovT v a b t = true ∨ ovT v b cc t = true := fun t ht h => by
    have hk := g.may t ht
    unfold tabOk at hk
    simp only [Bool.and_eq_true, Bool.not_eq_true'] at hk
    unfold ovT at h ⊢
    simp only [Bool.and_eq_true, Bool.not_eq_true', decide_eq_true_eq] at h ⊢
    obtain ⟨⟨h1, h2⟩, h3⟩ := h
    cases hb : blt b t.lo with
    | false => exact .inl ⟨⟨h1, h2⟩, rfl⟩
    | true => exact .inr ⟨⟨h1, ble_trans (blt_asymm hb) hk.2⟩, h3⟩
  refine ⟨fun x hx => ?_, filter_le fun t ht h => ?_, filter_le fun t ht h => ?_, filter_sum split, List.length_filter_le _ _⟩
  · obtain ⟨h1, h2⟩ := List.mem_filter.1 hx
    refine ⟨(split x h1 h2).imp (fun h => List.mem_filter.2 ⟨h1, h⟩) (fun h => List.mem_filter.2 ⟨h1, h⟩), ?_⟩
    unfold ovT at h2
    simp only [Bool.and_eq_true, Bool.not_eq_true', decide_eq_true_eq] at h2
    exact ⟨h2.1.1, h2.1.2, h2.2⟩
  · unfold ovT at h ⊢
    simp only [Bool.and_eq_true, Bool.not_eq_true', decide_eq_true_eq] at h ⊢
    exact ⟨h.1, ble_trans h.2 hbc⟩
  · unfold ovT at h ⊢
    simp only [Bool.and_eq_true, Bool.not_eq_true', decide_eq_true_eq] at h ⊢
    exact ⟨⟨h.1.1, ble_trans hab h.1.2⟩, h.2⟩
set_option maxHeartbeats 8000000 in
theorem ManifestOverlaps_spec {F : Hp} {K : Value → List HProp → Prop} {p : Option Addr} {c : Nat} {l : List EdA} (hL : SlIn F encE 4 p l) (hok : ∀ x ∈ l, EdOk F x) {a b cc : ByteArray} {w : Int} (hK : K (.bool true) []) : CallK Try.prog F 7 #[.slice p l.length c, .agg #[.string a, .string b, .string cc], .int .i64 w] [] K := by
  refine CallK.enter Try.func7 rfl Try.ntmps7 rfl ?_
  refine Tr.seq ?_
  refine Tr.region ?_
  refine TrL.boxA rfl rfl (fun b4 => ?_)
  refine TrL.assign rfl rfl ?_
  refine TrL.nil (At.then_normal ?_)
  refine Tr.seq ?_
  refine Tr.seq ?_
  refine Tr.region ?_
  refine TrL.move rfl rfl ?_
  refine TrL.lenl rfl rfl se36 ?_
  refine TrL.gtr rfl rfl rfl ?_
  refine TrL.nil (At.then_normal ?_)
  refine Tr.cond rfl (fun h24 => ?_) (fun h24 => ?_)
  · try simp only [beq_iff_eq, beq_eq_false_iff_ne, Bool.not_eq_true, Bool.not_eq_false, decide_eq_true_eq, decide_eq_false_iff_not, Bool.not_eq_true', Bool.not_eq_false', bne_iff_ne, Bool.not_eq_eq_eq_not, Bool.not_true, Bool.not_false, ne_eq, Decidable.not_not, Int.not_lt, Int.not_le] at h24
    refine Tr.seq ?_
    refine Tr.region ?_
    refine TrL.call rfl rfl rfl ca10 .nil (fun Ft25 hUt25 => awake_spec ?_)
    refine TrL.assign rfl rfl ?_
    refine TrL.nil (At.then_normal ?_)
    refine Tr.ret (At.then_ret (At.retP [] (.inl rfl) rfl (Res.tmp rfl Res.nil) (by repeat (first | exact Picks.nil | with_reducible exact Pick.here | with_reducible apply Pick.there | with_reducible apply Pick.app_nil | with_reducible apply Pick.app_cons | apply Picks.cons)) (by exact hK)))
  · try simp only [beq_iff_eq, beq_eq_false_iff_ne, Bool.not_eq_true, Bool.not_eq_false, decide_eq_true_eq, decide_eq_false_iff_not, Bool.not_eq_true', Bool.not_eq_false', bne_iff_ne, Bool.not_eq_eq_eq_not, Bool.not_true, Bool.not_false, ne_eq, Decidable.not_not, Int.not_lt, Int.not_le] at h24
    refine Tr.skip (At.then_normal ?_)
    refine Tr.seq ?_
    refine Tr.region ?_
    refine TrL.build rfl rfl pl38 zc38 rfl ?_
    refine TrL.alloc rfl zc38 (fun b7 => ?_)
    refine TrL.storeLA rfl rfl sz38 ⟨rfl, List.cons_ne_nil _ _⟩ rfl (by repeat (first | with_reducible exact Upd.here | with_reducible apply Upd.there | with_reducible apply Upd.app_nil | with_reducible apply Upd.app_cons)) (by rfl) ?_
    refine TrL.nil (At.then_normal ?_)
    refine Tr.seq ?_
    refine Tr.seq ?_
    refine Tr.region ?_
    refine TrL.assign rfl rfl ?_
    refine TrL.nil (At.then_normal ?_)
    refine Tr.block ?_
    refine Tr.row0 encT 4 ?_
    refine Tr.loopK [0, 2, 4, 6, 7] (α := Nat × Sta × (Option Addr × Nat)) (fun y => [(8, .int .i64 (y.1 : Int))]) (fun y => [cl b7 (stC y.2.2.1 y.2.2.2 y.2.1) 38, RowC encT 4 y.2.2.1 y.2.1.tabs]) (fun y => y.1 ≤ l.length ∧ Good y.2.1 ∧ y.2.1.tabs.length ≤ 128 * y.1) (fun y => l.length - y.1) (0, zeroS, (none, 0)) (by rfl) ?_ (by repeat (first | exact Sub.nil | refine Sub.cons (by rfl) ?_)) (by repeat (first | exact Picks.nil | with_reducible exact Pick.here | exact Pick.here | with_reducible apply Pick.there | with_reducible apply Pick.app_nil | with_reducible apply Pick.app_cons | apply Picks.cons)) ?_
    · exact ⟨Nat.zero_le _, zeroS_good, Nat.zero_le _⟩
    rintro ⟨i, s, ⟨p1, c1⟩⟩ ⟨hy1, hg, hsl⟩
    dsimp only at hy1 hg hsl ⊢
    refine Tr.seq ?_
    refine Tr.seq ?_
    refine Tr.region ?_
    refine TrL.move rfl rfl ?_
    refine TrL.move rfl rfl ?_
    refine TrL.lenl rfl rfl se36 ?_
    refine TrL.lss rfl rfl rfl ?_
    refine TrL.nil (At.then_normal ?_)
    refine Tr.cond rfl (fun h30 => ?_) (fun h30 => ?_)
    · try simp only [beq_iff_eq, beq_eq_false_iff_ne, Bool.not_eq_true, Bool.not_eq_false, decide_eq_true_eq, decide_eq_false_iff_not, Bool.not_eq_true', Bool.not_eq_false', bne_iff_ne, Bool.not_eq_eq_eq_not, Bool.not_true, Bool.not_false, ne_eq, Decidable.not_not, Int.not_lt, Int.not_le] at h30
      refine Tr.skip (At.then_normal ?_)
      refine Tr.seq ?_
      refine Tr.block ?_
      refine Tr.seq ?_
      refine Tr.seq ?_
      have hx := hok l[i] (List.getElem_mem _)
      refine Tr.region ?_
      refine TrL.move rfl rfl ?_
      refine TrL.move rfl rfl ?_
      refine TrL.idxF rfl rfl rfl se36 sz25 hL rfl rfl rfl (List.getElem?_eq_getElem (by omega)) (fun b35 o35 hp35 hc35 => ?_)
      refine TrL.loadRA rfl rfl ag25 sz25 (by assumption) (by rfl) ?_
      refine TrL.call rfl rfl rfl ca9 .nil (fun Ft37 hUt37 => light_spec (e := l[i].ed) (pa := l[i].a.p) (ca := l[i].a.cap) (pd := l[i].d.p) (cd := l[i].d.cap) (hUt37.ro (SlIn.mono _ _ _ _) hx.1) (hUt37.ro (SlIn.mono _ _ _ _) hx.2.1) hx.2.2.1 hx.2.2.2 (fun rt37 => ?_))
      refine TrL.not rfl rfl ?_
      refine TrL.nil (At.then_normal ?_)
      refine Tr.cond rfl (fun h38 => ?_) (fun h38 => ?_)
      · try simp only [beq_iff_eq, beq_eq_false_iff_ne, Bool.not_eq_true, Bool.not_eq_false, decide_eq_true_eq, decide_eq_false_iff_not, Bool.not_eq_true', Bool.not_eq_false', bne_iff_ne, Bool.not_eq_eq_eq_not, Bool.not_true, Bool.not_false, ne_eq, Decidable.not_not, Int.not_lt, Int.not_le] at h38
        refine Tr.seq ?_
        refine Tr.region ?_
        refine TrL.call rfl rfl rfl ca10 .nil (fun Ft39 hUt39 => awake_spec ?_)
        refine TrL.assign rfl rfl ?_
        refine TrL.nil (At.then_normal ?_)
        refine Tr.ret (At.then_ret (At.block_ret (At.then_ret (At.then_ret (At.block_ret (At.then_ret (At.retP [] (.inl rfl) rfl (Res.tmp rfl Res.nil) (by repeat (first | exact Picks.nil | with_reducible exact Pick.here | with_reducible apply Pick.there | with_reducible apply Pick.app_nil | with_reducible apply Pick.app_cons | apply Picks.cons)) (by exact hK))))))))
      · try simp only [beq_iff_eq, beq_eq_false_iff_ne, Bool.not_eq_true, Bool.not_eq_false, decide_eq_true_eq, decide_eq_false_iff_not, Bool.not_eq_true', Bool.not_eq_false', bne_iff_ne, Bool.not_eq_eq_eq_not, Bool.not_true, Bool.not_false, ne_eq, Decidable.not_not, Int.not_lt, Int.not_le] at h38
        refine Tr.skip (At.then_normal ?_)
        refine Tr.seq ?_
        refine Tr.cutK [0, 2, 4, 6, 7, 8] (β := Nat × Option Addr × Nat) (fun z => [(9, .pointer (some ⟨z.1, 0, none⟩)), (10, .int .i64 (applyF s l[i].ed).2)]) (fun z => [cl z.1 (stC z.2.1 z.2.2 (applyF s l[i].ed).1) 38, RowC encT 4 z.2.1 (applyF s l[i].ed).1.tabs, cl b7 (stC p1 c1 s) 38, RowC encT 4 p1 s.tabs, cl b4 [.string a, .string b, .string cc] 49]) (fun z => True) (by rfl) ?_ ?_
        · skip
          refine Tr.regionDH mixed ?_
          refine TrD.take 0 rfl (by kernel_rfl) (by kernel_rfl) (by kernel_rfl) (by repeat (first | exact Picks.nil | with_reducible exact Pick.here | with_reducible apply Pick.there | with_reducible apply Pick.app_nil | with_reducible apply Pick.app_cons | apply Picks.cons)) ?_
          refine TrL.loadLA rfl rfl ag38 sz38 (by repeat (first | with_reducible exact Pick.here | with_reducible apply Pick.there | with_reducible apply Pick.app_nil | with_reducible apply Pick.app_cons)) (by rfl) ?_
          refine TrL.nilTake (listed' := #[true, false, false, false, false, false, false, false, false, false, false, false]) (by kernel_rfl) ?_
          refine TrD.take 1 rfl (by kernel_rfl) (by kernel_rfl) (by kernel_rfl) (by repeat (first | exact Picks.nil | with_reducible exact Pick.here | with_reducible apply Pick.there | with_reducible apply Pick.app_nil | with_reducible apply Pick.app_cons | apply Picks.cons)) ?_
          refine TrL.move rfl rfl ?_
          refine TrL.nilTake (listed' := #[true, true, false, false, false, false, false, false, false, false, false, false]) (by kernel_rfl) ?_
          refine TrD.take 2 rfl (by kernel_rfl) (by kernel_rfl) (by kernel_rfl) (by repeat (first | exact Picks.nil | with_reducible exact Pick.here | with_reducible apply Pick.there | with_reducible apply Pick.app_nil | with_reducible apply Pick.app_cons | apply Picks.cons)) ?_
          refine TrL.move rfl rfl ?_
          refine TrL.nilTake (listed' := #[true, true, true, false, false, false, false, false, false, false, false, false]) (by kernel_rfl) ?_
          refine TrD.take 3 rfl (by kernel_rfl) (by kernel_rfl) (by kernel_rfl) (by repeat (first | exact Picks.nil | with_reducible exact Pick.here | with_reducible apply Pick.there | with_reducible apply Pick.app_nil | with_reducible apply Pick.app_cons | apply Picks.cons)) ?_
          refine TrL.idxF rfl rfl rfl se36 sz25 hL rfl rfl rfl (List.getElem?_eq_getElem (by omega)) (fun b44 o44 hp44 hc44 => ?_)
          refine TrL.nilTake (listed' := #[true, true, true, true, false, false, false, false, false, false, false, false]) (by kernel_rfl) ?_
          refine TrD.take 4 rfl (by kernel_rfl) (by kernel_rfl) (by kernel_rfl) (by repeat (first | exact Picks.nil | with_reducible exact Pick.here | with_reducible apply Pick.there | with_reducible apply Pick.app_nil | with_reducible apply Pick.app_cons | apply Picks.cons)) ?_
          refine TrL.loadRA rfl rfl ag25 sz25 (by assumption) (by rfl) ?_
          refine TrL.nilTake (listed' := #[true, true, true, true, true, false, false, false, false, false, false, false]) (by kernel_rfl) ?_
          refine TrD.all [5, 9] (by kernel_rfl) rfl ?_
          refine all_cons ⟨_, rfl, ?_⟩ ?_
          · skip
            refine TrL.call rfl rfl rfl ca18 .nil (fun Ft46 hUt46 => Apply_spec (s := s) (p := p1) (c := c1) (e := l[i].ed) (pa := l[i].a.p) (ca := l[i].a.cap) (pd := l[i].d.p) (cd := l[i].d.cap) hg (RowC.up hUt46 (by repeat (first | with_reducible exact Pick.here | with_reducible apply Pick.there | with_reducible apply Pick.app_nil | with_reducible apply Pick.app_cons))) (by omega) (hUt46.ro (SlIn.mono _ _ _ _) hx.1) (hUt46.ro (SlIn.mono _ _ _ _) hx.2.1) hx.2.2.1 hx.2.2.2 (fun p50 c50 => ?_))
            refine TrL.nil (At.step (listed' := #[true, true, true, true, true, true, false, false, false, false, false, false]) (by kernel_rfl) (by repeat (first | exact Picks.nil | with_reducible exact Pick.here | with_reducible apply Pick.there | with_reducible apply Pick.app_nil | with_reducible apply Pick.app_cons | apply Picks.cons)) ?_)
            refine TrD.take 6 rfl (by kernel_rfl) (by kernel_rfl) (by kernel_rfl) (by repeat (first | exact Picks.nil | with_reducible exact Pick.here | with_reducible apply Pick.there | with_reducible apply Pick.app_nil | with_reducible apply Pick.app_cons | apply Picks.cons)) ?_
            refine TrL.move rfl rfl ?_
            refine TrL.nilTake (listed' := #[true, true, true, true, true, true, true, false, false, false, false, false]) (by kernel_rfl) ?_
            refine TrD.take 7 rfl (by kernel_rfl) (by kernel_rfl) (by kernel_rfl) (by repeat (first | exact Picks.nil | with_reducible exact Pick.here | with_reducible apply Pick.there | with_reducible apply Pick.app_nil | with_reducible apply Pick.app_cons | apply Picks.cons)) ?_
            refine TrL.extract rfl rfl rfl ?_
            refine TrL.nilTake (listed' := #[true, true, true, true, true, true, true, true, false, false, false, false]) (by kernel_rfl) ?_
            refine TrD.take 8 rfl (by kernel_rfl) (by kernel_rfl) (by kernel_rfl) (by repeat (first | exact Picks.nil | with_reducible exact Pick.here | with_reducible apply Pick.there | with_reducible apply Pick.app_nil | with_reducible apply Pick.app_cons | apply Picks.cons)) ?_
            refine TrL.extract rfl rfl rfl ?_
            refine TrL.nilTake (listed' := #[true, true, true, true, true, true, true, true, true, false, false, false]) (by kernel_rfl) ?_
            refine TrD.all [9] (by kernel_rfl) rfl ?_
            refine all_cons ⟨_, rfl, ?_⟩ all_nil
            refine TrL.alloc rfl zc38 (fun b9 => ?_)
            refine TrL.nil (At.step (listed' := #[true, true, true, true, true, true, true, true, true, true, false, false]) (by kernel_rfl) (by repeat (first | exact Picks.nil | with_reducible exact Pick.here | with_reducible apply Pick.there | with_reducible apply Pick.app_nil | with_reducible apply Pick.app_cons | apply Picks.cons)) ?_)
            refine TrD.all [10] (by kernel_rfl) rfl ?_
            refine all_cons ⟨_, rfl, ?_⟩ all_nil
            refine TrL.storeLA rfl rfl sz38 ⟨rfl, List.cons_ne_nil _ _⟩ rfl (by repeat (first | with_reducible exact Upd.here | with_reducible apply Upd.there | with_reducible apply Upd.app_nil | with_reducible apply Upd.app_cons)) (by rfl) ?_
            refine TrL.nil (At.step (listed' := #[true, true, true, true, true, true, true, true, true, true, true, false]) (by kernel_rfl) (by repeat (first | exact Picks.nil | with_reducible exact Pick.here | with_reducible apply Pick.there | with_reducible apply Pick.app_nil | with_reducible apply Pick.app_cons | apply Picks.cons)) ?_)
            refine TrD.take 11 rfl (by kernel_rfl) (by kernel_rfl) (by kernel_rfl) (by repeat (first | exact Picks.nil | with_reducible exact Pick.here | with_reducible apply Pick.there | with_reducible apply Pick.app_nil | with_reducible apply Pick.app_cons | apply Picks.cons)) ?_
            refine TrL.assign rfl rfl ?_
            refine TrL.nilTake (listed' := #[true, true, true, true, true, true, true, true, true, true, true, true]) (by kernel_rfl) ?_
            refine TrD.done (by kernel_rfl) ?_
            refine At.meetK (b9, p50, c50) trivial (by repeat (first | exact Sub.nil | refine Sub.cons (by rfl) ?_)) (by repeat (first | exact Picks.nil | with_reducible exact Pick.here | with_reducible apply Pick.there | with_reducible apply Pick.app_nil | with_reducible apply Pick.app_cons | apply Picks.cons))
          refine all_cons ⟨_, rfl, ?_⟩ ?_
          · skip
            refine TrL.alloc rfl zc38 (fun b9 => ?_)
            refine TrL.nil (At.step (listed' := #[true, true, true, true, true, false, false, false, false, true, false, false]) (by kernel_rfl) (by repeat (first | exact Picks.nil | with_reducible exact Pick.here | with_reducible apply Pick.there | with_reducible apply Pick.app_nil | with_reducible apply Pick.app_cons | apply Picks.cons)) ?_)
            refine TrD.all [5] (by kernel_rfl) rfl ?_
            refine all_cons ⟨_, rfl, ?_⟩ all_nil
            refine TrL.call rfl rfl rfl ca18 .nil (fun Ft46 hUt46 => Apply_spec (s := s) (p := p1) (c := c1) (e := l[i].ed) (pa := l[i].a.p) (ca := l[i].a.cap) (pd := l[i].d.p) (cd := l[i].d.cap) hg (RowC.up hUt46 (by repeat (first | with_reducible exact Pick.here | with_reducible apply Pick.there | with_reducible apply Pick.app_nil | with_reducible apply Pick.app_cons))) (by omega) (hUt46.ro (SlIn.mono _ _ _ _) hx.1) (hUt46.ro (SlIn.mono _ _ _ _) hx.2.1) hx.2.2.1 hx.2.2.2 (fun p50 c50 => ?_))
            refine TrL.nil (At.step (listed' := #[true, true, true, true, true, true, false, false, false, true, false, false]) (by kernel_rfl) (by repeat (first | exact Picks.nil | with_reducible exact Pick.here | with_reducible apply Pick.there | with_reducible apply Pick.app_nil | with_reducible apply Pick.app_cons | apply Picks.cons)) ?_)
            refine TrD.take 6 rfl (by kernel_rfl) (by kernel_rfl) (by kernel_rfl) (by repeat (first | exact Picks.nil | with_reducible exact Pick.here | with_reducible apply Pick.there | with_reducible apply Pick.app_nil | with_reducible apply Pick.app_cons | apply Picks.cons)) ?_
            refine TrL.move rfl rfl ?_
            refine TrL.nilTake (listed' := #[true, true, true, true, true, true, true, false, false, true, false, false]) (by kernel_rfl) ?_
            refine TrD.take 7 rfl (by kernel_rfl) (by kernel_rfl) (by kernel_rfl) (by repeat (first | exact Picks.nil | with_reducible exact Pick.here | with_reducible apply Pick.there | with_reducible apply Pick.app_nil | with_reducible apply Pick.app_cons | apply Picks.cons)) ?_
            refine TrL.extract rfl rfl rfl ?_
            refine TrL.nilTake (listed' := #[true, true, true, true, true, true, true, true, false, true, false, false]) (by kernel_rfl) ?_
            refine TrD.take 8 rfl (by kernel_rfl) (by kernel_rfl) (by kernel_rfl) (by repeat (first | exact Picks.nil | with_reducible exact Pick.here | with_reducible apply Pick.there | with_reducible apply Pick.app_nil | with_reducible apply Pick.app_cons | apply Picks.cons)) ?_
            refine TrL.extract rfl rfl rfl ?_
            refine TrL.nilTake (listed' := #[true, true, true, true, true, true, true, true, true, true, false, false]) (by kernel_rfl) ?_
            refine TrD.all [10] (by kernel_rfl) rfl ?_
            refine all_cons ⟨_, rfl, ?_⟩ all_nil
            refine TrL.storeLA rfl rfl sz38 ⟨rfl, List.cons_ne_nil _ _⟩ rfl (by repeat (first | with_reducible exact Upd.here | with_reducible apply Upd.there | with_reducible apply Upd.app_nil | with_reducible apply Upd.app_cons)) (by rfl) ?_
            refine TrL.nil (At.step (listed' := #[true, true, true, true, true, true, true, true, true, true, true, false]) (by kernel_rfl) (by repeat (first | exact Picks.nil | with_reducible exact Pick.here | with_reducible apply Pick.there | with_reducible apply Pick.app_nil | with_reducible apply Pick.app_cons | apply Picks.cons)) ?_)
            refine TrD.take 11 rfl (by kernel_rfl) (by kernel_rfl) (by kernel_rfl) (by repeat (first | exact Picks.nil | with_reducible exact Pick.here | with_reducible apply Pick.there | with_reducible apply Pick.app_nil | with_reducible apply Pick.app_cons | apply Picks.cons)) ?_
            refine TrL.assign rfl rfl ?_
            refine TrL.nilTake (listed' := #[true, true, true, true, true, true, true, true, true, true, true, true]) (by kernel_rfl) ?_
            refine TrD.done (by kernel_rfl) ?_
            refine At.meetK (b9, p50, c50) trivial (by repeat (first | exact Sub.nil | refine Sub.cons (by rfl) ?_)) (by repeat (first | exact Picks.nil | with_reducible exact Pick.here | with_reducible apply Pick.there | with_reducible apply Pick.app_nil | with_reducible apply Pick.app_cons | apply Picks.cons))
          exact all_nil
        · skip
          rintro ⟨b9, p50, c50⟩ -
          dsimp only
          refine Tr.seq ?_
          refine Tr.region ?_
          refine TrL.move rfl rfl ?_
          refine TrL.eqi rfl rfl rfl ?_
          refine TrL.nil (At.then_normal ?_)
          refine Tr.cond rfl (fun h50 => ?_) (fun h50 => ?_)
          · try simp only [beq_iff_eq, beq_eq_false_iff_ne, Bool.not_eq_true, Bool.not_eq_false, decide_eq_true_eq, decide_eq_false_iff_not, Bool.not_eq_true', Bool.not_eq_false', bne_iff_ne, Bool.not_eq_eq_eq_not, Bool.not_true, Bool.not_false, ne_eq, Decidable.not_not, Int.not_lt, Int.not_le] at h50
            refine Tr.region ?_
            refine TrL.loadLA rfl rfl ag38 sz38 (by repeat (first | with_reducible exact Pick.here | with_reducible apply Pick.there | with_reducible apply Pick.app_nil | with_reducible apply Pick.app_cons)) (by rfl) ?_
            refine TrL.storeLA rfl rfl sz38 ⟨rfl, List.cons_ne_nil _ _⟩ rfl (by repeat (first | with_reducible exact Upd.here | with_reducible apply Upd.there | with_reducible apply Upd.app_nil | with_reducible apply Upd.app_cons)) (by rfl) ?_
            refine TrL.nil (At.block_normal (At.then_normal ?_))
            refine Tr.region ?_
            refine TrL.move rfl rfl ?_
            refine TrL.addI rfl rfl rfl (by omega) ?_
            refine TrL.assign rfl rfl ?_
            refine TrL.nil ?_
            obtain ⟨g2, l2⟩ := good_next (e := l[i].ed) hg hsl h50
            refine At.again (i + 1, (applyF s l[i].ed).1, (p50, c50)) ⟨by show i + 1 ≤ l.length; omega, g2, l2⟩ (by show l.length - (i + 1) < l.length - i; omega) (by repeat (first | exact Sub.nil | refine Sub.cons (by rfl) ?_)) (by repeat (first | exact Picks.nil | with_reducible exact Pick.here | with_reducible apply Pick.there | with_reducible apply Pick.app_nil | with_reducible apply Pick.app_cons | apply Picks.cons))
          · try simp only [beq_iff_eq, beq_eq_false_iff_ne, Bool.not_eq_true, Bool.not_eq_false, decide_eq_true_eq, decide_eq_false_iff_not, Bool.not_eq_true', Bool.not_eq_false', bne_iff_ne, Bool.not_eq_eq_eq_not, Bool.not_true, Bool.not_false, ne_eq, Decidable.not_not, Int.not_lt, Int.not_le] at h50
            refine Tr.skip (At.block_normal (At.then_normal ?_))
            refine Tr.region ?_
            refine TrL.move rfl rfl ?_
            refine TrL.addI rfl rfl rfl (by omega) ?_
            refine TrL.assign rfl rfl ?_
            refine TrL.nil ?_
            refine At.again (i + 1, s, (p1, c1)) ⟨by show i + 1 ≤ l.length; omega, hg, by show s.tabs.length ≤ 128 * (i + 1); omega⟩ (by show l.length - (i + 1) < l.length - i; omega) (by repeat (first | exact Sub.nil | refine Sub.cons (by rfl) ?_)) (by repeat (first | exact Picks.nil | with_reducible exact Pick.here | with_reducible apply Pick.there | with_reducible apply Pick.app_nil | with_reducible apply Pick.app_cons | apply Picks.cons))
    · try simp only [beq_iff_eq, beq_eq_false_iff_ne, Bool.not_eq_true, Bool.not_eq_false, decide_eq_true_eq, decide_eq_false_iff_not, Bool.not_eq_true', Bool.not_eq_false', bne_iff_ne, Bool.not_eq_eq_eq_not, Bool.not_true, Bool.not_false, ne_eq, Decidable.not_not, Int.not_lt, Int.not_le] at h30
      refine Tr.exit (At.then_exit (At.then_exit (At.block_hit (At.then_normal ?_))))
      refine Tr.seq ?_
      refine Tr.regionQ mixed (by kernel_rfl) ?_
      refine TrL.idxArr (i := 0) rfl rfl rfl ar49 sz9 rfl (by omega) ?_
      refine TrL.load1 rfl rfl sc9 (Sees.cl1 (by repeat (first | with_reducible exact Pick.here | with_reducible apply Pick.there | with_reducible apply Pick.app_nil | with_reducible apply Pick.app_cons)) (by rfl)) ?_
      refine TrL.idxArr (i := 1) rfl rfl rfl ar49 sz9 rfl (by omega) ?_
      refine TrL.load1 rfl rfl sc9 (Sees.cl1 (by repeat (first | with_reducible exact Pick.here | with_reducible apply Pick.there | with_reducible apply Pick.app_nil | with_reducible apply Pick.app_cons)) (by rfl)) ?_
      refine TrL.idxArr (i := 2) rfl rfl rfl ar49 sz9 rfl (by omega) ?_
      refine TrL.load1 rfl rfl sc9 (Sees.cl1 (by repeat (first | with_reducible exact Pick.here | with_reducible apply Pick.there | with_reducible apply Pick.app_nil | with_reducible apply Pick.app_cons)) (by rfl)) ?_
      refine TrL.assign rfl rfl ?_
      refine TrL.assign rfl rfl ?_
      refine TrL.assign rfl rfl ?_
      refine TrL.nilQ (At.then_normal ?_)
      refine Tr.seq ?_
      refine Tr.seq ?_
      refine Tr.region ?_
      refine TrL.move rfl rfl ?_
      refine TrL.lens rfl rfl st9 ?_
      refine TrL.gtr rfl rfl rfl ?_
      refine TrL.move rfl rfl ?_
      refine TrL.cases (t := 61) rfl (fun h61 => ?_) (fun h61 => ?_)
      · try simp only [beq_iff_eq, beq_eq_false_iff_ne, Bool.not_eq_true, Bool.not_eq_false, decide_eq_true_eq, decide_eq_false_iff_not, Bool.not_eq_true', Bool.not_eq_false', bne_iff_ne, Bool.not_eq_eq_eq_not, Bool.not_true, Bool.not_false, ne_eq, Decidable.not_not, Int.not_lt, Int.not_le] at h61
        refine TrL.unwant rfl rfl rfl ?_
        refine TrL.unwant rfl rfl rfl ?_
        refine TrL.unwant rfl rfl rfl ?_
        refine TrL.pickT rfl rfl rfl ?_
        refine TrL.move rfl rfl ?_
        refine TrL.unwant rfl rfl rfl ?_
        refine TrL.unwant rfl rfl rfl ?_
        refine TrL.unwant rfl rfl rfl ?_
        refine TrL.pickT rfl rfl rfl ?_
        refine TrL.move rfl rfl ?_
        refine TrL.unwant rfl rfl rfl ?_
        refine TrL.unwant rfl rfl rfl ?_
        refine TrL.unwant rfl rfl rfl ?_
        refine TrL.pickT rfl rfl rfl ?_
        refine TrL.move rfl rfl ?_
        refine TrL.unwant rfl rfl rfl ?_
        refine TrL.unwant rfl rfl rfl ?_
        refine TrL.unwant rfl rfl rfl ?_
        refine TrL.pickT rfl rfl rfl ?_
        refine TrL.nil (At.then_normal ?_)
        refine Tr.condT rfl ?_
        refine Tr.seq ?_
        refine Tr.region ?_
        refine TrL.call rfl rfl rfl ca10 .nil (fun Ft81 hUt81 => awake_spec ?_)
        refine TrL.assign rfl rfl ?_
        refine TrL.nil (At.then_normal ?_)
        refine Tr.ret (At.then_ret (At.retP [] (.inl rfl) rfl (Res.tmp rfl Res.nil) (by repeat (first | exact Picks.nil | with_reducible exact Pick.here | with_reducible apply Pick.there | with_reducible apply Pick.app_nil | with_reducible apply Pick.app_cons | apply Picks.cons)) (by exact hK)))
      · try simp only [beq_iff_eq, beq_eq_false_iff_ne, Bool.not_eq_true, Bool.not_eq_false, decide_eq_true_eq, decide_eq_false_iff_not, Bool.not_eq_true', Bool.not_eq_false', bne_iff_ne, Bool.not_eq_eq_eq_not, Bool.not_true, Bool.not_false, ne_eq, Decidable.not_not, Int.not_lt, Int.not_le] at h61
        refine TrL.want rfl rfl ?_
        refine TrL.move rfl rfl ?_
        refine TrL.want rfl rfl ?_
        refine TrL.lens rfl rfl st9 ?_
        refine TrL.want rfl rfl ?_
        refine TrL.gtr rfl rfl rfl ?_
        refine TrL.pickF rfl rfl rfl ?_
        refine TrL.move rfl rfl ?_
        refine TrL.cases (t := 66) rfl (fun h66 => ?_) (fun h66 => ?_)
        · try simp only [beq_iff_eq, beq_eq_false_iff_ne, Bool.not_eq_true, Bool.not_eq_false, decide_eq_true_eq, decide_eq_false_iff_not, Bool.not_eq_true', Bool.not_eq_false', bne_iff_ne, Bool.not_eq_eq_eq_not, Bool.not_true, Bool.not_false, ne_eq, Decidable.not_not, Int.not_lt, Int.not_le] at h66
          refine TrL.unwant rfl rfl rfl ?_
          refine TrL.unwant rfl rfl rfl ?_
          refine TrL.unwant rfl rfl rfl ?_
          refine TrL.pickT rfl rfl rfl ?_
          refine TrL.move rfl rfl ?_
          refine TrL.unwant rfl rfl rfl ?_
          refine TrL.unwant rfl rfl rfl ?_
          refine TrL.unwant rfl rfl rfl ?_
          refine TrL.pickT rfl rfl rfl ?_
          refine TrL.move rfl rfl ?_
          refine TrL.unwant rfl rfl rfl ?_
          refine TrL.unwant rfl rfl rfl ?_
          refine TrL.unwant rfl rfl rfl ?_
          refine TrL.pickT rfl rfl rfl ?_
          refine TrL.nil (At.then_normal ?_)
          refine Tr.condT rfl ?_
          refine Tr.seq ?_
          refine Tr.region ?_
          refine TrL.call rfl rfl rfl ca10 .nil (fun Ft81 hUt81 => awake_spec ?_)
          refine TrL.assign rfl rfl ?_
          refine TrL.nil (At.then_normal ?_)
          refine Tr.ret (At.then_ret (At.retP [] (.inl rfl) rfl (Res.tmp rfl Res.nil) (by repeat (first | exact Picks.nil | with_reducible exact Pick.here | with_reducible apply Pick.there | with_reducible apply Pick.app_nil | with_reducible apply Pick.app_cons | apply Picks.cons)) (by exact hK)))
        · try simp only [beq_iff_eq, beq_eq_false_iff_ne, Bool.not_eq_true, Bool.not_eq_false, decide_eq_true_eq, decide_eq_false_iff_not, Bool.not_eq_true', Bool.not_eq_false', bne_iff_ne, Bool.not_eq_eq_eq_not, Bool.not_true, Bool.not_false, ne_eq, Decidable.not_not, Int.not_lt, Int.not_le] at h66
          refine TrL.want rfl rfl ?_
          refine TrL.move rfl rfl ?_
          refine TrL.want rfl rfl ?_
          refine TrL.lens rfl rfl st9 ?_
          refine TrL.want rfl rfl ?_
          refine TrL.gtr rfl rfl rfl ?_
          refine TrL.pickF rfl rfl rfl ?_
          refine TrL.move rfl rfl ?_
          refine TrL.cases (t := 71) rfl (fun h71 => ?_) (fun h71 => ?_)
          · try simp only [beq_iff_eq, beq_eq_false_iff_ne, Bool.not_eq_true, Bool.not_eq_false, decide_eq_true_eq, decide_eq_false_iff_not, Bool.not_eq_true', Bool.not_eq_false', bne_iff_ne, Bool.not_eq_eq_eq_not, Bool.not_true, Bool.not_false, ne_eq, Decidable.not_not, Int.not_lt, Int.not_le] at h71
            refine TrL.unwant rfl rfl rfl ?_
            refine TrL.unwant rfl rfl rfl ?_
            refine TrL.unwant rfl rfl rfl ?_
            refine TrL.pickT rfl rfl rfl ?_
            refine TrL.move rfl rfl ?_
            refine TrL.unwant rfl rfl rfl ?_
            refine TrL.unwant rfl rfl rfl ?_
            refine TrL.unwant rfl rfl rfl ?_
            refine TrL.pickT rfl rfl rfl ?_
            refine TrL.nil (At.then_normal ?_)
            refine Tr.condT rfl ?_
            refine Tr.seq ?_
            refine Tr.region ?_
            refine TrL.call rfl rfl rfl ca10 .nil (fun Ft81 hUt81 => awake_spec ?_)
            refine TrL.assign rfl rfl ?_
            refine TrL.nil (At.then_normal ?_)
            refine Tr.ret (At.then_ret (At.retP [] (.inl rfl) rfl (Res.tmp rfl Res.nil) (by repeat (first | exact Picks.nil | with_reducible exact Pick.here | with_reducible apply Pick.there | with_reducible apply Pick.app_nil | with_reducible apply Pick.app_cons | apply Picks.cons)) (by exact hK)))
          · try simp only [beq_iff_eq, beq_eq_false_iff_ne, Bool.not_eq_true, Bool.not_eq_false, decide_eq_true_eq, decide_eq_false_iff_not, Bool.not_eq_true', Bool.not_eq_false', bne_iff_ne, Bool.not_eq_eq_eq_not, Bool.not_true, Bool.not_false, ne_eq, Decidable.not_not, Int.not_lt, Int.not_le] at h71
            refine TrL.want rfl rfl ?_
            refine TrL.move rfl rfl ?_
            refine TrL.want rfl rfl ?_
            refine TrL.move rfl rfl ?_
            refine TrL.want rfl rfl ?_
            refine TrL.gts rfl rfl rfl ?_
            refine TrL.pickF rfl rfl rfl ?_
            refine TrL.move rfl rfl ?_
            refine TrL.cases (t := 76) rfl (fun h76 => ?_) (fun h76 => ?_)
            · try simp only [beq_iff_eq, beq_eq_false_iff_ne, Bool.not_eq_true, Bool.not_eq_false, decide_eq_true_eq, decide_eq_false_iff_not, Bool.not_eq_true', Bool.not_eq_false', bne_iff_ne, Bool.not_eq_eq_eq_not, Bool.not_true, Bool.not_false, ne_eq, Decidable.not_not, Int.not_lt, Int.not_le] at h76
              refine TrL.unwant rfl rfl rfl ?_
              refine TrL.unwant rfl rfl rfl ?_
              refine TrL.unwant rfl rfl rfl ?_
              refine TrL.pickT rfl rfl rfl ?_
              refine TrL.nil (At.then_normal ?_)
              refine Tr.condT rfl ?_
              refine Tr.seq ?_
              refine Tr.region ?_
              refine TrL.call rfl rfl rfl ca10 .nil (fun Ft81 hUt81 => awake_spec ?_)
              refine TrL.assign rfl rfl ?_
              refine TrL.nil (At.then_normal ?_)
              refine Tr.ret (At.then_ret (At.retP [] (.inl rfl) rfl (Res.tmp rfl Res.nil) (by repeat (first | exact Picks.nil | with_reducible exact Pick.here | with_reducible apply Pick.there | with_reducible apply Pick.app_nil | with_reducible apply Pick.app_cons | apply Picks.cons)) (by exact hK)))
            · try simp only [beq_iff_eq, beq_eq_false_iff_ne, Bool.not_eq_true, Bool.not_eq_false, decide_eq_true_eq, decide_eq_false_iff_not, Bool.not_eq_true', Bool.not_eq_false', bne_iff_ne, Bool.not_eq_eq_eq_not, Bool.not_true, Bool.not_false, ne_eq, Decidable.not_not, Int.not_lt, Int.not_le] at h76
              refine TrL.want rfl rfl ?_
              refine TrL.move rfl rfl ?_
              refine TrL.want rfl rfl ?_
              refine TrL.move rfl rfl ?_
              refine TrL.want rfl rfl ?_
              refine TrL.gts rfl rfl rfl ?_
              refine TrL.pickF rfl rfl rfl ?_
              refine TrL.nil (At.then_normal ?_)
              refine Tr.cond rfl (fun h80 => ?_) (fun h80 => ?_)
              · try simp only [beq_iff_eq, beq_eq_false_iff_ne, Bool.not_eq_true, Bool.not_eq_false, decide_eq_true_eq, decide_eq_false_iff_not, Bool.not_eq_true', Bool.not_eq_false', bne_iff_ne, Bool.not_eq_eq_eq_not, Bool.not_true, Bool.not_false, ne_eq, Decidable.not_not, Int.not_lt, Int.not_le] at h80
                refine Tr.seq ?_
                refine Tr.region ?_
                refine TrL.call rfl rfl rfl ca10 .nil (fun Ft81 hUt81 => awake_spec ?_)
                refine TrL.assign rfl rfl ?_
                refine TrL.nil (At.then_normal ?_)
                refine Tr.ret (At.then_ret (At.retP [] (.inl rfl) rfl (Res.tmp rfl Res.nil) (by repeat (first | exact Picks.nil | with_reducible exact Pick.here | with_reducible apply Pick.there | with_reducible apply Pick.app_nil | with_reducible apply Pick.app_cons | apply Picks.cons)) (by exact hK)))
              · try simp only [beq_iff_eq, beq_eq_false_iff_ne, Bool.not_eq_true, Bool.not_eq_false, decide_eq_true_eq, decide_eq_false_iff_not, Bool.not_eq_true', Bool.not_eq_false', bne_iff_ne, Bool.not_eq_eq_eq_not, Bool.not_true, Bool.not_false, ne_eq, Decidable.not_not, Int.not_lt, Int.not_le] at h80
                refine Tr.skip (At.then_normal ?_)
                refine Tr.seq ?_
                refine Tr.region ?_
                refine TrL.move rfl rfl ?_
                refine TrL.and rfl rfl rfl ?_
                refine TrL.rem rfl rfl rfl (by omega) ?_
                obtain ⟨vv, hvv, hvlt⟩ := small_of (m := 3) (by omega) (andI_le (a := w) (b := 255) (by omega) (by omega)).1
                rw [hvv]
                refine TrL.assign rfl rfl ?_
                refine TrL.nil (At.then_normal ?_)
                refine Tr.seq ?_
                refine Tr.cutK [4, 6, 7, 11, 12, 13, 14] (β := (Option Addr × Nat) × (Option Addr × Nat) × (Option Addr × Nat)) (fun z => [(15, .slice z.1.1 (s.tabs.filter (ovT vv a b)).length z.1.2), (16, .slice z.2.1.1 (s.tabs.filter (ovT vv b cc)).length z.2.1.2), (17, .slice z.2.2.1 (s.tabs.filter (ovT vv a cc)).length z.2.2.2)]) (fun z => [Own 46 4 encT z.1.1 z.1.2 (s.tabs.filter (ovT vv a b)), Own 46 4 encT z.2.1.1 z.2.1.2 (s.tabs.filter (ovT vv b cc)), Own 46 4 encT z.2.2.1 z.2.2.2 (s.tabs.filter (ovT vv a cc))]) (fun z => True) (by rfl) ?_ ?_
                · skip
                  refine Tr.regionDH mixed ?_
                  refine TrD.take 0 rfl (by kernel_rfl) (by kernel_rfl) (by kernel_rfl) (by repeat (first | exact Picks.nil | with_reducible exact Pick.here | with_reducible apply Pick.there | with_reducible apply Pick.app_nil | with_reducible apply Pick.app_cons | apply Picks.cons)) ?_
                  refine TrL.loadLA rfl rfl ag38 sz38 (by repeat (first | with_reducible exact Pick.here | with_reducible apply Pick.there | with_reducible apply Pick.app_nil | with_reducible apply Pick.app_cons)) (by rfl) ?_
                  refine TrL.nilTake (listed' := #[true, false, false, false, false, false, false, false, false, false, false, false, false, false, false, false, false, false]) (by kernel_rfl) ?_
                  refine TrD.take 1 rfl (by kernel_rfl) (by kernel_rfl) (by kernel_rfl) (by repeat (first | exact Picks.nil | with_reducible exact Pick.here | with_reducible apply Pick.there | with_reducible apply Pick.app_nil | with_reducible apply Pick.app_cons | apply Picks.cons)) ?_
                  refine TrL.move rfl rfl ?_
                  refine TrL.nilTake (listed' := #[true, true, false, false, false, false, false, false, false, false, false, false, false, false, false, false, false, false]) (by kernel_rfl) ?_
                  refine TrD.take 2 rfl (by kernel_rfl) (by kernel_rfl) (by kernel_rfl) (by repeat (first | exact Picks.nil | with_reducible exact Pick.here | with_reducible apply Pick.there | with_reducible apply Pick.app_nil | with_reducible apply Pick.app_cons | apply Picks.cons)) ?_
                  refine TrL.move rfl rfl ?_
                  refine TrL.nilTake (listed' := #[true, true, true, false, false, false, false, false, false, false, false, false, false, false, false, false, false, false]) (by kernel_rfl) ?_
                  refine TrD.take 3 rfl (by kernel_rfl) (by kernel_rfl) (by kernel_rfl) (by repeat (first | exact Picks.nil | with_reducible exact Pick.here | with_reducible apply Pick.there | with_reducible apply Pick.app_nil | with_reducible apply Pick.app_cons | apply Picks.cons)) ?_
                  refine TrL.move rfl rfl ?_
                  refine TrL.nilTake (listed' := #[true, true, true, true, false, false, false, false, false, false, false, false, false, false, false, false, false, false]) (by kernel_rfl) ?_
                  refine TrD.take 5 rfl (by kernel_rfl) (by kernel_rfl) (by kernel_rfl) (by repeat (first | exact Picks.nil | with_reducible exact Pick.here | with_reducible apply Pick.there | with_reducible apply Pick.app_nil | with_reducible apply Pick.app_cons | apply Picks.cons)) ?_
                  refine TrL.loadLA rfl rfl ag38 sz38 (by repeat (first | with_reducible exact Pick.here | with_reducible apply Pick.there | with_reducible apply Pick.app_nil | with_reducible apply Pick.app_cons)) (by rfl) ?_
                  refine TrL.nilTake (listed' := #[true, true, true, true, false, true, false, false, false, false, false, false, false, false, false, false, false, false]) (by kernel_rfl) ?_
                  refine TrD.take 6 rfl (by kernel_rfl) (by kernel_rfl) (by kernel_rfl) (by repeat (first | exact Picks.nil | with_reducible exact Pick.here | with_reducible apply Pick.there | with_reducible apply Pick.app_nil | with_reducible apply Pick.app_cons | apply Picks.cons)) ?_
                  refine TrL.move rfl rfl ?_
                  refine TrL.nilTake (listed' := #[true, true, true, true, false, true, true, false, false, false, false, false, false, false, false, false, false, false]) (by kernel_rfl) ?_
                  refine TrD.take 7 rfl (by kernel_rfl) (by kernel_rfl) (by kernel_rfl) (by repeat (first | exact Picks.nil | with_reducible exact Pick.here | with_reducible apply Pick.there | with_reducible apply Pick.app_nil | with_reducible apply Pick.app_cons | apply Picks.cons)) ?_
                  refine TrL.move rfl rfl ?_
                  refine TrL.nilTake (listed' := #[true, true, true, true, false, true, true, true, false, false, false, false, false, false, false, false, false, false]) (by kernel_rfl) ?_
                  refine TrD.take 8 rfl (by kernel_rfl) (by kernel_rfl) (by kernel_rfl) (by repeat (first | exact Picks.nil | with_reducible exact Pick.here | with_reducible apply Pick.there | with_reducible apply Pick.app_nil | with_reducible apply Pick.app_cons | apply Picks.cons)) ?_
                  refine TrL.move rfl rfl ?_
                  refine TrL.nilTake (listed' := #[true, true, true, true, false, true, true, true, true, false, false, false, false, false, false, false, false, false]) (by kernel_rfl) ?_
                  refine TrD.take 10 rfl (by kernel_rfl) (by kernel_rfl) (by kernel_rfl) (by repeat (first | exact Picks.nil | with_reducible exact Pick.here | with_reducible apply Pick.there | with_reducible apply Pick.app_nil | with_reducible apply Pick.app_cons | apply Picks.cons)) ?_
                  refine TrL.loadLA rfl rfl ag38 sz38 (by repeat (first | with_reducible exact Pick.here | with_reducible apply Pick.there | with_reducible apply Pick.app_nil | with_reducible apply Pick.app_cons)) (by rfl) ?_
                  refine TrL.nilTake (listed' := #[true, true, true, true, false, true, true, true, true, false, true, false, false, false, false, false, false, false]) (by kernel_rfl) ?_
                  refine TrD.take 11 rfl (by kernel_rfl) (by kernel_rfl) (by kernel_rfl) (by repeat (first | exact Picks.nil | with_reducible exact Pick.here | with_reducible apply Pick.there | with_reducible apply Pick.app_nil | with_reducible apply Pick.app_cons | apply Picks.cons)) ?_
                  refine TrL.move rfl rfl ?_
                  refine TrL.nilTake (listed' := #[true, true, true, true, false, true, true, true, true, false, true, true, false, false, false, false, false, false]) (by kernel_rfl) ?_
                  refine TrD.take 12 rfl (by kernel_rfl) (by kernel_rfl) (by kernel_rfl) (by repeat (first | exact Picks.nil | with_reducible exact Pick.here | with_reducible apply Pick.there | with_reducible apply Pick.app_nil | with_reducible apply Pick.app_cons | apply Picks.cons)) ?_
                  refine TrL.move rfl rfl ?_
                  refine TrL.nilTake (listed' := #[true, true, true, true, false, true, true, true, true, false, true, true, true, false, false, false, false, false]) (by kernel_rfl) ?_
                  refine TrD.take 13 rfl (by kernel_rfl) (by kernel_rfl) (by kernel_rfl) (by repeat (first | exact Picks.nil | with_reducible exact Pick.here | with_reducible apply Pick.there | with_reducible apply Pick.app_nil | with_reducible apply Pick.app_cons | apply Picks.cons)) ?_
                  refine TrL.move rfl rfl ?_
                  refine TrL.nilTake (listed' := #[true, true, true, true, false, true, true, true, true, false, true, true, true, true, false, false, false, false]) (by kernel_rfl) ?_
                  refine TrD.all [4] (by kernel_rfl) rfl ?_
                  refine all_cons ⟨_, rfl, ?_⟩ all_nil
                  refine TrL.call rfl rfl rfl ca22 .nil (fun Ft89 hUt89 => Overlap_spec (s := s) (c := c1) (v := vv) (lo := a) (hi := b) (RowC.up hUt89 (by repeat (first | with_reducible exact Pick.here | with_reducible apply Pick.there | with_reducible apply Pick.app_nil | with_reducible apply Pick.app_cons))) (by omega) (fun p89 c89 => ?_))
                  refine TrL.nil (At.step (listed' := #[true, true, true, true, true, true, true, true, true, false, true, true, true, true, false, false, false, false]) (by kernel_rfl) (by repeat (first | exact Picks.nil | with_reducible exact Pick.here | with_reducible apply Pick.there | with_reducible apply Pick.app_nil | with_reducible apply Pick.app_cons | apply Picks.cons)) ?_)
                  refine TrD.all [9] (by kernel_rfl) rfl ?_
                  refine all_cons ⟨_, rfl, ?_⟩ all_nil
                  refine TrL.call rfl rfl rfl ca22 .nil (fun Ft94 hUt94 => Overlap_spec (s := s) (c := c1) (v := vv) (lo := b) (hi := cc) (RowC.up hUt94 (by repeat (first | with_reducible exact Pick.here | with_reducible apply Pick.there | with_reducible apply Pick.app_nil | with_reducible apply Pick.app_cons))) (by omega) (fun p94 c94 => ?_))
                  refine TrL.nil (At.step (listed' := #[true, true, true, true, true, true, true, true, true, true, true, true, true, true, false, false, false, false]) (by kernel_rfl) (by repeat (first | exact Picks.nil | with_reducible exact Pick.here | with_reducible apply Pick.there | with_reducible apply Pick.app_nil | with_reducible apply Pick.app_cons | apply Picks.cons)) ?_)
                  refine TrD.all [14] (by kernel_rfl) rfl ?_
                  refine all_cons ⟨_, rfl, ?_⟩ all_nil
                  refine TrL.call rfl rfl rfl ca22 .nil (fun Ft99 hUt99 => Overlap_spec (s := s) (c := c1) (v := vv) (lo := a) (hi := cc) (RowC.up hUt99 (by repeat (first | with_reducible exact Pick.here | with_reducible apply Pick.there | with_reducible apply Pick.app_nil | with_reducible apply Pick.app_cons))) (by omega) (fun p99 c99 => ?_))
                  refine TrL.nil (At.step (listed' := #[true, true, true, true, true, true, true, true, true, true, true, true, true, true, true, false, false, false]) (by kernel_rfl) (by repeat (first | exact Picks.nil | with_reducible exact Pick.here | with_reducible apply Pick.there | with_reducible apply Pick.app_nil | with_reducible apply Pick.app_cons | apply Picks.cons)) ?_)
                  refine TrD.take 15 rfl (by kernel_rfl) (by kernel_rfl) (by kernel_rfl) (by repeat (first | exact Picks.nil | with_reducible exact Pick.here | with_reducible apply Pick.there | with_reducible apply Pick.app_nil | with_reducible apply Pick.app_cons | apply Picks.cons)) ?_
                  refine TrL.assign rfl rfl ?_
                  refine TrL.nilTake (listed' := #[true, true, true, true, true, true, true, true, true, true, true, true, true, true, true, true, false, false]) (by kernel_rfl) ?_
                  refine TrD.take 16 rfl (by kernel_rfl) (by kernel_rfl) (by kernel_rfl) (by repeat (first | exact Picks.nil | with_reducible exact Pick.here | with_reducible apply Pick.there | with_reducible apply Pick.app_nil | with_reducible apply Pick.app_cons | apply Picks.cons)) ?_
                  refine TrL.assign rfl rfl ?_
                  refine TrL.nilTake (listed' := #[true, true, true, true, true, true, true, true, true, true, true, true, true, true, true, true, true, false]) (by kernel_rfl) ?_
                  refine TrD.take 17 rfl (by kernel_rfl) (by kernel_rfl) (by kernel_rfl) (by repeat (first | exact Picks.nil | with_reducible exact Pick.here | with_reducible apply Pick.there | with_reducible apply Pick.app_nil | with_reducible apply Pick.app_cons | apply Picks.cons)) ?_
                  refine TrL.assign rfl rfl ?_
                  refine TrL.nilTake (listed' := #[true, true, true, true, true, true, true, true, true, true, true, true, true, true, true, true, true, true]) (by kernel_rfl) ?_
                  refine TrD.done (by kernel_rfl) ?_
                  refine At.meetK ((p89, c89), (p94, c94), (p99, c99)) trivial (by repeat (first | exact Sub.nil | refine Sub.cons (by rfl) ?_)) (by repeat (first | exact Picks.nil | with_reducible exact Pick.here | with_reducible apply Pick.there | with_reducible apply Pick.app_nil | with_reducible apply Pick.app_cons | apply Picks.cons))
                · skip
                  rintro ⟨⟨p15, c15⟩, ⟨p16, c16⟩, ⟨p17, c17⟩⟩ -
                  dsimp only
                  obtain ⟨f1, f2, f3, f4, f5⟩ := ov_facts (v := vv) hg h76 h80
                  generalize s.tabs.filter (ovT vv a b) = lA at f1 f2 f3 f4 f5 ⊢
                  generalize s.tabs.filter (ovT vv b cc) = lB at f1 f2 f3 f4 f5 ⊢
                  generalize s.tabs.filter (ovT vv a cc) = lC at f1 f2 f3 f4 f5 ⊢
                  refine Tr.seq ?_
                  refine Tr.seq ?_
                  refine Tr.region ?_
                  refine TrL.assign rfl rfl ?_
                  refine TrL.nil (At.then_normal ?_)
                  refine Tr.block ?_
                  refine Tr.loopK [4, 6, 7, 11, 12, 13, 14, 15, 16, 17] (α := Nat) (fun i => [(18, .int .i64 (i : Int))]) (fun i => []) (fun i => i ≤ lC.length) (fun i => lC.length - i) (0) (by rfl) ?_ (by repeat (first | exact Sub.nil | refine Sub.cons (by rfl) ?_)) (by repeat (first | exact Picks.nil | with_reducible exact Pick.here | with_reducible apply Pick.there | with_reducible apply Pick.app_nil | with_reducible apply Pick.app_cons | apply Picks.cons)) ?_
                  · exact Nat.zero_le _
                  rintro i hi
                  refine Tr.seq ?_
                  refine Tr.seq ?_
                  refine Tr.region ?_
                  refine TrL.move rfl rfl ?_
                  refine TrL.move rfl rfl ?_
                  refine TrL.lenl rfl rfl se22 ?_
                  refine TrL.lss rfl rfl rfl ?_
                  refine TrL.nil (At.then_normal ?_)
                  refine Tr.cond rfl (fun h103 => ?_) (fun h103 => ?_)
                  · try simp only [beq_iff_eq, beq_eq_false_iff_ne, Bool.not_eq_true, Bool.not_eq_false, decide_eq_true_eq, decide_eq_false_iff_not, Bool.not_eq_true', Bool.not_eq_false', bne_iff_ne, Bool.not_eq_eq_eq_not, Bool.not_true, Bool.not_false, ne_eq, Decidable.not_not, Int.not_lt, Int.not_le] at h103
                    refine Tr.skip (At.then_normal ?_)
                    refine Tr.seq ?_
                    refine Tr.block ?_
                    refine Tr.seq ?_
                    refine Tr.region ?_
                    refine TrL.assign rfl rfl ?_
                    refine TrL.nil (At.then_normal ?_)
                    refine Tr.seq ?_
                    refine Tr.seq ?_
                    refine Tr.region ?_
                    refine TrL.assign rfl rfl ?_
                    refine TrL.nil (At.then_normal ?_)
                    refine Tr.block ?_
                    refine Tr.loopK [4, 6, 7, 11, 12, 13, 14, 15, 16, 17, 18] (α := Nat) (fun j => [(20, .int .i64 (j : Int)), (19, .bool ((lA.take j).any (fun t => tabEq t lC[i])))]) (fun j => []) (fun j => j ≤ lA.length) (fun j => lA.length - j) (0) (by rfl) ?_ (by (rw [show (lA.take 0).any (fun t => tabEq t lC[i]) = false by simp]; repeat (first | exact Sub.nil | refine Sub.cons (by rfl) ?_))) (by repeat (first | exact Picks.nil | with_reducible exact Pick.here | with_reducible apply Pick.there | with_reducible apply Pick.app_nil | with_reducible apply Pick.app_cons | apply Picks.cons)) ?_
                    · exact Nat.zero_le _
                    rintro j hj
                    refine Tr.seq ?_
                    refine Tr.seq ?_
                    refine Tr.region ?_
                    refine TrL.move rfl rfl ?_
                    refine TrL.move rfl rfl ?_
                    refine TrL.lenl rfl rfl se22 ?_
                    refine TrL.lss rfl rfl rfl ?_
                    refine TrL.nil (At.then_normal ?_)
                    refine Tr.cond rfl (fun h109 => ?_) (fun h109 => ?_)
                    · try simp only [beq_iff_eq, beq_eq_false_iff_ne, Bool.not_eq_true, Bool.not_eq_false, decide_eq_true_eq, decide_eq_false_iff_not, Bool.not_eq_true', Bool.not_eq_false', bne_iff_ne, Bool.not_eq_eq_eq_not, Bool.not_true, Bool.not_false, ne_eq, Decidable.not_not, Int.not_lt, Int.not_le] at h109
                      refine Tr.skip (At.then_normal ?_)
                      refine Tr.seq ?_
                      refine Tr.block ?_
                      refine Tr.regionQ mixed (by kernel_rfl) ?_
                      refine TrL.move rfl rfl ?_
                      refine TrL.move rfl rfl ?_
                      refine TrL.cases (t := 113) rfl (fun h113 => ?_) (fun h113 => ?_)
                      · try simp only [beq_iff_eq, beq_eq_false_iff_ne, Bool.not_eq_true, Bool.not_eq_false, decide_eq_true_eq, decide_eq_false_iff_not, Bool.not_eq_true', Bool.not_eq_false', bne_iff_ne, Bool.not_eq_eq_eq_not, Bool.not_true, Bool.not_false, ne_eq, Decidable.not_not, Int.not_lt, Int.not_le] at h113
                        refine TrL.unwant rfl rfl rfl ?_
                        refine TrL.unwant rfl rfl rfl ?_
                        refine TrL.unwant rfl rfl rfl ?_
                        refine TrL.unwant rfl rfl rfl ?_
                        refine TrL.unwant rfl rfl rfl ?_
                        refine TrL.unwant rfl rfl rfl ?_
                        refine TrL.unwant rfl rfl rfl ?_
                        refine TrL.unwant rfl rfl rfl ?_
                        refine TrL.unwant rfl rfl rfl ?_
                        refine TrL.pickT rfl rfl rfl ?_
                        refine TrL.assign rfl rfl ?_
                        refine TrL.nilQ (At.block_normal (At.then_normal ?_))
                        refine Tr.region ?_
                        refine TrL.move rfl rfl ?_
                        refine TrL.addI rfl rfl rfl (by omega) ?_
                        refine TrL.assign rfl rfl ?_
                        refine TrL.nil ?_
                        have e5 := any_on (l := lA) (z := lC[i]) (j := j) (by omega)
                        first | (rw [h113, Bool.true_or] at e5) | (rw [h113, Bool.false_or] at e5)
                        refine At.again (j + 1) (by show j + 1 ≤ _; omega) (by omega) (by rw [e5]; repeat (first | exact Sub.nil | refine Sub.cons (by rfl) ?_)) (by repeat (first | exact Picks.nil | with_reducible exact Pick.here | with_reducible apply Pick.there | with_reducible apply Pick.app_nil | with_reducible apply Pick.app_cons | apply Picks.cons))
                      · try simp only [beq_iff_eq, beq_eq_false_iff_ne, Bool.not_eq_true, Bool.not_eq_false, decide_eq_true_eq, decide_eq_false_iff_not, Bool.not_eq_true', Bool.not_eq_false', bne_iff_ne, Bool.not_eq_eq_eq_not, Bool.not_true, Bool.not_false, ne_eq, Decidable.not_not, Int.not_lt, Int.not_le] at h113
                        refine TrL.want rfl rfl ?_
                        refine TrL.move rfl rfl ?_
                        refine TrL.want rfl rfl ?_
                        refine TrL.move rfl rfl ?_
                        refine TrL.want rfl rfl ?_
                        refine TrL.idxO (enc := encT) (k := 4) j rfl rfl rfl se22 sz46 (by repeat (first | with_reducible exact Pick.here | with_reducible apply Pick.there | with_reducible apply Pick.app_nil | with_reducible apply Pick.app_cons)) rfl (by omega) rfl (by omega) ?_
                        refine TrL.want rfl rfl ?_
                        refine TrL.loadO (enc := encT) (k := 4) (i := j) rfl rfl ag46 sz46 (by repeat (first | with_reducible exact Pick.here | with_reducible apply Pick.there | with_reducible apply Pick.app_nil | with_reducible apply Pick.app_cons)) rfl rfl encT_len (List.getElem?_eq_getElem (by omega)) ?_
                        refine TrL.want rfl rfl ?_
                        refine TrL.move rfl rfl ?_
                        refine TrL.want rfl rfl ?_
                        refine TrL.move rfl rfl ?_
                        refine TrL.want rfl rfl ?_
                        refine TrL.idxO (enc := encT) (k := 4) i rfl rfl rfl se22 sz46 (by repeat (first | with_reducible exact Pick.here | with_reducible apply Pick.there | with_reducible apply Pick.app_nil | with_reducible apply Pick.app_cons)) rfl (by omega) rfl (by omega) ?_
                        refine TrL.want rfl rfl ?_
                        refine TrL.loadO (enc := encT) (k := 4) (i := i) rfl rfl ag46 sz46 (by repeat (first | with_reducible exact Pick.here | with_reducible apply Pick.there | with_reducible apply Pick.app_nil | with_reducible apply Pick.app_cons)) rfl rfl encT_len (List.getElem?_eq_getElem (by omega)) ?_
                        refine TrL.want rfl rfl ?_
                        refine TrL.eqS rfl rfl rfl fk46 si46 eg46 (by rfl) ?_
                        rw [eq_raw]
                        refine TrL.pickF rfl rfl rfl ?_
                        refine TrL.assign rfl rfl ?_
                        refine TrL.nilQ (At.block_normal (At.then_normal ?_))
                        refine Tr.region ?_
                        refine TrL.move rfl rfl ?_
                        refine TrL.addI rfl rfl rfl (by omega) ?_
                        refine TrL.assign rfl rfl ?_
                        refine TrL.nil ?_
                        have e5 := any_on (l := lA) (z := lC[i]) (j := j) (by omega)
                        first | (rw [h113, Bool.true_or] at e5) | (rw [h113, Bool.false_or] at e5)
                        refine At.again (j + 1) (by show j + 1 ≤ _; omega) (by omega) (by rw [e5]; repeat (first | exact Sub.nil | refine Sub.cons (by rfl) ?_)) (by repeat (first | exact Picks.nil | with_reducible exact Pick.here | with_reducible apply Pick.there | with_reducible apply Pick.app_nil | with_reducible apply Pick.app_cons | apply Picks.cons))
                    · try simp only [beq_iff_eq, beq_eq_false_iff_ne, Bool.not_eq_true, Bool.not_eq_false, decide_eq_true_eq, decide_eq_false_iff_not, Bool.not_eq_true', Bool.not_eq_false', bne_iff_ne, Bool.not_eq_eq_eq_not, Bool.not_true, Bool.not_false, ne_eq, Decidable.not_not, Int.not_lt, Int.not_le] at h109
                      refine Tr.exit (At.then_exit (At.then_exit (At.block_hit (At.then_normal ?_))))
                      refine Tr.seq ?_
                      refine Tr.seq ?_
                      rw [List.take_of_length_le (show lA.length ≤ j by omega)]
                      refine Tr.region ?_
                      refine TrL.assign rfl rfl ?_
                      refine TrL.nil (At.then_normal ?_)
                      refine Tr.block ?_
                      refine Tr.loopK [4, 6, 7, 11, 12, 13, 14, 15, 16, 17, 18] (α := Nat) (fun k => [(21, .int .i64 (k : Int)), (19, .bool ((lA).any (fun t => tabEq t lC[i]) || (lB.take k).any (fun t => tabEq t lC[i])))]) (fun k => []) (fun k => k ≤ lB.length) (fun k => lB.length - k) (0) (by rfl) ?_ (by (rw [show ((lA).any (fun t => tabEq t lC[i]) || (lB.take 0).any (fun t => tabEq t lC[i])) = (lA).any (fun t => tabEq t lC[i]) by simp]; repeat (first | exact Sub.nil | refine Sub.cons (by rfl) ?_))) (by repeat (first | exact Picks.nil | with_reducible exact Pick.here | with_reducible apply Pick.there | with_reducible apply Pick.app_nil | with_reducible apply Pick.app_cons | apply Picks.cons)) ?_
                      · exact Nat.zero_le _
                      rintro k hk
                      refine Tr.seq ?_
                      refine Tr.seq ?_
                      refine Tr.region ?_
                      refine TrL.move rfl rfl ?_
                      refine TrL.move rfl rfl ?_
                      refine TrL.lenl rfl rfl se22 ?_
                      refine TrL.lss rfl rfl rfl ?_
                      refine TrL.nil (At.then_normal ?_)
                      refine Tr.cond rfl (fun h127 => ?_) (fun h127 => ?_)
                      · try simp only [beq_iff_eq, beq_eq_false_iff_ne, Bool.not_eq_true, Bool.not_eq_false, decide_eq_true_eq, decide_eq_false_iff_not, Bool.not_eq_true', Bool.not_eq_false', bne_iff_ne, Bool.not_eq_eq_eq_not, Bool.not_true, Bool.not_false, ne_eq, Decidable.not_not, Int.not_lt, Int.not_le] at h127
                        refine Tr.skip (At.then_normal ?_)
                        refine Tr.seq ?_
                        refine Tr.block ?_
                        refine Tr.regionQ mixed (by kernel_rfl) ?_
                        refine TrL.move rfl rfl ?_
                        refine TrL.move rfl rfl ?_
                        refine TrL.cases (t := 131) rfl (fun h131 => ?_) (fun h131 => ?_)
                        · try simp only [beq_iff_eq, beq_eq_false_iff_ne, Bool.not_eq_true, Bool.not_eq_false, decide_eq_true_eq, decide_eq_false_iff_not, Bool.not_eq_true', Bool.not_eq_false', bne_iff_ne, Bool.not_eq_eq_eq_not, Bool.not_true, Bool.not_false, ne_eq, Decidable.not_not, Int.not_lt, Int.not_le] at h131
                          refine TrL.unwant rfl rfl rfl ?_
                          refine TrL.unwant rfl rfl rfl ?_
                          refine TrL.unwant rfl rfl rfl ?_
                          refine TrL.unwant rfl rfl rfl ?_
                          refine TrL.unwant rfl rfl rfl ?_
                          refine TrL.unwant rfl rfl rfl ?_
                          refine TrL.unwant rfl rfl rfl ?_
                          refine TrL.unwant rfl rfl rfl ?_
                          refine TrL.unwant rfl rfl rfl ?_
                          refine TrL.pickT rfl rfl rfl ?_
                          refine TrL.assign rfl rfl ?_
                          refine TrL.nilQ (At.block_normal (At.then_normal ?_))
                          refine Tr.region ?_
                          refine TrL.move rfl rfl ?_
                          refine TrL.addI rfl rfl rfl (by omega) ?_
                          refine TrL.assign rfl rfl ?_
                          refine TrL.nil ?_
                          have e5 : ((lA).any (fun t => tabEq t lC[i]) || (lB.take (k + 1)).any (fun t => tabEq t lC[i])) = (((lA).any (fun t => tabEq t lC[i]) || (lB.take k).any (fun t => tabEq t lC[i])) || tabEq lB[k] lC[i]) := by rw [any_on (by omega), Bool.or_assoc]
                          first | (rw [h131, Bool.true_or] at e5) | (rw [h131, Bool.false_or] at e5)
                          refine At.again (k + 1) (by show k + 1 ≤ _; omega) (by omega) (by rw [e5]; repeat (first | exact Sub.nil | refine Sub.cons (by rfl) ?_)) (by repeat (first | exact Picks.nil | with_reducible exact Pick.here | with_reducible apply Pick.there | with_reducible apply Pick.app_nil | with_reducible apply Pick.app_cons | apply Picks.cons))
                        · try simp only [beq_iff_eq, beq_eq_false_iff_ne, Bool.not_eq_true, Bool.not_eq_false, decide_eq_true_eq, decide_eq_false_iff_not, Bool.not_eq_true', Bool.not_eq_false', bne_iff_ne, Bool.not_eq_eq_eq_not, Bool.not_true, Bool.not_false, ne_eq, Decidable.not_not, Int.not_lt, Int.not_le] at h131
                          refine TrL.want rfl rfl ?_
                          refine TrL.move rfl rfl ?_
                          refine TrL.want rfl rfl ?_
                          refine TrL.move rfl rfl ?_
                          refine TrL.want rfl rfl ?_
                          refine TrL.idxO (enc := encT) (k := 4) k rfl rfl rfl se22 sz46 (by repeat (first | with_reducible exact Pick.here | with_reducible apply Pick.there | with_reducible apply Pick.app_nil | with_reducible apply Pick.app_cons)) rfl (by omega) rfl (by omega) ?_
                          refine TrL.want rfl rfl ?_
                          refine TrL.loadO (enc := encT) (k := 4) (i := k) rfl rfl ag46 sz46 (by repeat (first | with_reducible exact Pick.here | with_reducible apply Pick.there | with_reducible apply Pick.app_nil | with_reducible apply Pick.app_cons)) rfl rfl encT_len (List.getElem?_eq_getElem (by omega)) ?_
                          refine TrL.want rfl rfl ?_
                          refine TrL.move rfl rfl ?_
                          refine TrL.want rfl rfl ?_
                          refine TrL.move rfl rfl ?_
                          refine TrL.want rfl rfl ?_
                          refine TrL.idxO (enc := encT) (k := 4) i rfl rfl rfl se22 sz46 (by repeat (first | with_reducible exact Pick.here | with_reducible apply Pick.there | with_reducible apply Pick.app_nil | with_reducible apply Pick.app_cons)) rfl (by omega) rfl (by omega) ?_
                          refine TrL.want rfl rfl ?_
                          refine TrL.loadO (enc := encT) (k := 4) (i := i) rfl rfl ag46 sz46 (by repeat (first | with_reducible exact Pick.here | with_reducible apply Pick.there | with_reducible apply Pick.app_nil | with_reducible apply Pick.app_cons)) rfl rfl encT_len (List.getElem?_eq_getElem (by omega)) ?_
                          refine TrL.want rfl rfl ?_
                          refine TrL.eqS rfl rfl rfl fk46 si46 eg46 (by rfl) ?_
                          rw [eq_raw]
                          refine TrL.pickF rfl rfl rfl ?_
                          refine TrL.assign rfl rfl ?_
                          refine TrL.nilQ (At.block_normal (At.then_normal ?_))
                          refine Tr.region ?_
                          refine TrL.move rfl rfl ?_
                          refine TrL.addI rfl rfl rfl (by omega) ?_
                          refine TrL.assign rfl rfl ?_
                          refine TrL.nil ?_
                          have e5 : ((lA).any (fun t => tabEq t lC[i]) || (lB.take (k + 1)).any (fun t => tabEq t lC[i])) = (((lA).any (fun t => tabEq t lC[i]) || (lB.take k).any (fun t => tabEq t lC[i])) || tabEq lB[k] lC[i]) := by rw [any_on (by omega), Bool.or_assoc]
                          first | (rw [h131, Bool.true_or] at e5) | (rw [h131, Bool.false_or] at e5)
                          refine At.again (k + 1) (by show k + 1 ≤ _; omega) (by omega) (by rw [e5]; repeat (first | exact Sub.nil | refine Sub.cons (by rfl) ?_)) (by repeat (first | exact Picks.nil | with_reducible exact Pick.here | with_reducible apply Pick.there | with_reducible apply Pick.app_nil | with_reducible apply Pick.app_cons | apply Picks.cons))
                      · try simp only [beq_iff_eq, beq_eq_false_iff_ne, Bool.not_eq_true, Bool.not_eq_false, decide_eq_true_eq, decide_eq_false_iff_not, Bool.not_eq_true', Bool.not_eq_false', bne_iff_ne, Bool.not_eq_eq_eq_not, Bool.not_true, Bool.not_false, ne_eq, Decidable.not_not, Int.not_lt, Int.not_le] at h127
                        refine Tr.exit (At.then_exit (At.then_exit (At.block_hit (At.then_normal ?_))))
                        refine Tr.seq ?_
                        rw [List.take_of_length_le (show lB.length ≤ k by omega)]
                        obtain ⟨fin, fv, fa, fc⟩ := f1 lC[i] (List.getElem_mem _)
                        have hfd : ((lA).any (fun t => tabEq t lC[i]) || (lB).any (fun t => tabEq t lC[i])) = true := by
                          rcases fin with h | h
                          · rw [any_in h, Bool.true_or]
                          · rw [any_in h, Bool.or_true]
                        refine Tr.region ?_
                        refine TrL.move rfl rfl ?_
                        refine TrL.not rfl rfl ?_
                        refine TrL.knownB (t := 143) (c := false) rfl (by rw [hfd]; rfl) ?_
                        refine TrL.move rfl rfl ?_
                        refine TrL.want rfl rfl ?_
                        refine TrL.move rfl rfl ?_
                        refine TrL.want rfl rfl ?_
                        refine TrL.move rfl rfl ?_
                        refine TrL.want rfl rfl ?_
                        refine TrL.idxO (enc := encT) (k := 4) i rfl rfl rfl se22 sz46 (by repeat (first | with_reducible exact Pick.here | with_reducible apply Pick.there | with_reducible apply Pick.app_nil | with_reducible apply Pick.app_cons)) rfl (by omega) rfl (by omega) ?_
                        refine TrL.want rfl rfl ?_
                        refine TrL.field rfl rfl fl46_1 ?_
                        refine TrL.want rfl rfl ?_
                        refine TrL.loadO1 (enc := encT) (k := 4) (i := i) (j := 1) rfl rfl sc3 (by repeat (first | with_reducible exact Pick.here | with_reducible apply Pick.there | with_reducible apply Pick.app_nil | with_reducible apply Pick.app_cons)) rfl rfl encT_len (List.getElem?_eq_getElem (by omega)) rfl ?_
                        refine TrL.want rfl rfl ?_
                        refine TrL.move rfl rfl ?_
                        refine TrL.want rfl rfl ?_
                        refine TrL.nei rfl rfl rfl ?_
                        refine TrL.knownB (t := 151) (c := false) rfl (by exact decide_eq_false (fun h => h fv)) ?_
                        refine TrL.pickF rfl rfl rfl ?_
                        refine TrL.move rfl rfl ?_
                        refine TrL.want rfl rfl ?_
                        refine TrL.move rfl rfl ?_
                        refine TrL.want rfl rfl ?_
                        refine TrL.move rfl rfl ?_
                        refine TrL.want rfl rfl ?_
                        refine TrL.idxO (enc := encT) (k := 4) i rfl rfl rfl se22 sz46 (by repeat (first | with_reducible exact Pick.here | with_reducible apply Pick.there | with_reducible apply Pick.app_nil | with_reducible apply Pick.app_cons)) rfl (by omega) rfl (by omega) ?_
                        refine TrL.want rfl rfl ?_
                        refine TrL.field rfl rfl fl46_3 ?_
                        refine TrL.want rfl rfl ?_
                        refine TrL.loadO1 (enc := encT) (k := 4) (i := i) (j := 3) rfl rfl sc9 (by repeat (first | with_reducible exact Pick.here | with_reducible apply Pick.there | with_reducible apply Pick.app_nil | with_reducible apply Pick.app_cons)) rfl rfl encT_len (List.getElem?_eq_getElem (by omega)) rfl ?_
                        refine TrL.want rfl rfl ?_
                        refine TrL.move rfl rfl ?_
                        refine TrL.want rfl rfl ?_
                        refine TrL.lts rfl rfl rfl ?_
                        refine TrL.knownB (t := 160) (c := false) rfl (by exact fa) ?_
                        refine TrL.pickF rfl rfl rfl ?_
                        refine TrL.move rfl rfl ?_
                        refine TrL.want rfl rfl ?_
                        refine TrL.move rfl rfl ?_
                        refine TrL.want rfl rfl ?_
                        refine TrL.move rfl rfl ?_
                        refine TrL.want rfl rfl ?_
                        refine TrL.idxO (enc := encT) (k := 4) i rfl rfl rfl se22 sz46 (by repeat (first | with_reducible exact Pick.here | with_reducible apply Pick.there | with_reducible apply Pick.app_nil | with_reducible apply Pick.app_cons)) rfl (by omega) rfl (by omega) ?_
                        refine TrL.want rfl rfl ?_
                        refine TrL.field rfl rfl fl46_2 ?_
                        refine TrL.want rfl rfl ?_
                        refine TrL.loadO1 (enc := encT) (k := 4) (i := i) (j := 2) rfl rfl sc9 (by repeat (first | with_reducible exact Pick.here | with_reducible apply Pick.there | with_reducible apply Pick.app_nil | with_reducible apply Pick.app_cons)) rfl rfl encT_len (List.getElem?_eq_getElem (by omega)) rfl ?_
                        refine TrL.want rfl rfl ?_
                        refine TrL.move rfl rfl ?_
                        refine TrL.want rfl rfl ?_
                        refine TrL.gts rfl rfl rfl ?_
                        refine TrL.knownB (t := 169) (c := false) rfl (by exact fc) ?_
                        refine TrL.pickF rfl rfl rfl ?_
                        refine TrL.nil (At.then_normal ?_)
                        refine Tr.condF rfl ?_
                        refine Tr.skip (At.block_normal (At.then_normal ?_))
                        refine Tr.region ?_
                        refine TrL.move rfl rfl ?_
                        refine TrL.addI rfl rfl rfl (by omega) ?_
                        refine TrL.assign rfl rfl ?_
                        refine TrL.nil ?_
                        refine At.again (i + 1) (by show i + 1 ≤ _; omega) (by omega) (by repeat (first | exact Sub.nil | refine Sub.cons (by rfl) ?_)) (by repeat (first | exact Picks.nil | with_reducible exact Pick.here | with_reducible apply Pick.there | with_reducible apply Pick.app_nil | with_reducible apply Pick.app_cons | apply Picks.cons))
                  · try simp only [beq_iff_eq, beq_eq_false_iff_ne, Bool.not_eq_true, Bool.not_eq_false, decide_eq_true_eq, decide_eq_false_iff_not, Bool.not_eq_true', Bool.not_eq_false', bne_iff_ne, Bool.not_eq_eq_eq_not, Bool.not_true, Bool.not_false, ne_eq, Decidable.not_not, Int.not_lt, Int.not_le] at h103
                    refine Tr.exit (At.then_exit (At.then_exit (At.block_hit (At.then_normal ?_))))
                    refine Tr.seq ?_
                    refine Tr.region ?_
                    refine TrL.move rfl rfl ?_
                    refine TrL.lenl rfl rfl se22 ?_
                    refine TrL.move rfl rfl ?_
                    refine TrL.lenl rfl rfl se22 ?_
                    refine TrL.move rfl rfl ?_
                    refine TrL.lenl rfl rfl se22 ?_
                    refine TrL.max2 rfl rfl ?_
                    refine TrL.geq rfl rfl rfl ?_
                    refine TrL.knownB (t := 178) (c := true) rfl (by exact decide_eq_true (by omega)) ?_
                    refine TrL.move rfl rfl ?_
                    refine TrL.want rfl rfl ?_
                    refine TrL.move rfl rfl ?_
                    refine TrL.want rfl rfl ?_
                    refine TrL.lenl rfl rfl se22 ?_
                    refine TrL.want rfl rfl ?_
                    refine TrL.move rfl rfl ?_
                    refine TrL.want rfl rfl ?_
                    refine TrL.lenl rfl rfl se22 ?_
                    refine TrL.want rfl rfl ?_
                    refine TrL.move rfl rfl ?_
                    refine TrL.want rfl rfl ?_
                    refine TrL.lenl rfl rfl se22 ?_
                    refine TrL.want rfl rfl ?_
                    refine TrL.addI rfl rfl rfl (by omega) ?_
                    refine TrL.want rfl rfl ?_
                    refine TrL.leq rfl rfl rfl ?_
                    refine TrL.knownB (t := 187) (c := true) rfl (by exact decide_eq_true (by omega)) ?_
                    refine TrL.pickT rfl rfl rfl ?_
                    refine TrL.move rfl rfl ?_
                    refine TrL.want rfl rfl ?_
                    refine TrL.call rfl rfl rfl ca10 .nil (fun Ft190 hUt190 => awake_spec ?_)
                    refine TrL.pickT rfl rfl rfl ?_
                    refine TrL.assign rfl rfl ?_
                    refine TrL.nil (At.then_normal ?_)
                    refine Tr.ret (At.retP [] (.inl rfl) rfl (Res.tmp rfl Res.nil) (by repeat (first | exact Picks.nil | with_reducible exact Pick.here | with_reducible apply Pick.there | with_reducible apply Pick.app_nil | with_reducible apply Pick.app_cons | apply Picks.cons)) (by exact hK))
end Go.Proofs.Ytiefmfimbmkdjaa

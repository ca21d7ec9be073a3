/-
  The law ManifestMoves, walked.
  No condition but those that each statement names.
-/
import Derived.Test.YtiefmfimbmkdjaaMfT
namespace Go.Proofs.Ytiefmfimbmkdjaa
set_option linter.unusedSimpArgs false
set_option linter.unusedVariables false
set_option linter.unusedSectionVars false
open Go.RowKit
variable [Obs]


theorem small_of {a : Int} {m : Int} (h : 0 < m) (h0 : 0 ≤ a) : ∃ n : Nat, a.tmod m = (n : Int) ∧ (n : Int) < m := by
  refine ⟨(a.tmod m).toNat, (Int.toNat_of_nonneg (Int.tmod_nonneg _ h0)).symm, ?_⟩
  rw [Int.toNat_of_nonneg (Int.tmod_nonneg _ h0)]
  exact Int.tmod_lt_of_pos _ h
/-- a table that moves -/
def movE (s : Sta) (x : Tab) (v : Nat) : Ed := ⟨[⟨s.next, v, x.lo, x.hi⟩], [x.id], s.log, s.next + 1⟩
theorem move_may {s : Sta} {x : Tab} {v : Nat} (g : Good s) (hx : x ∈ s.tabs) (h1 : 1 ≤ s.next) (h2 : s.next ≤ 536870912) (hv : (v : Int) < 3) : mayE (movE s x v) = true := by
  have hk := g.may x hx
  unfold tabOk at hk
  simp only [Bool.and_eq_true, decide_eq_true_eq, Bool.not_eq_true'] at hk
  obtain ⟨⟨⟨⟨⟨⟨k1, k2⟩, k3⟩, k4⟩, k5⟩, k6⟩, k7⟩ := hk
  have hlg := g.log
  have e1 : tabOk ⟨s.next, v, x.lo, x.hi⟩ = true := by
    unfold tabOk
    rw [k5, k6, k7]
    simp only [Bool.and_true, Bool.not_false, Bool.and_eq_true, decide_eq_true_eq]
    omega
  have e2 : numOk x.id = true := by
    unfold numOk
    simp only [Bool.and_eq_true, decide_eq_true_eq]
    omega
  unfold mayE movE
  simp only [List.all_cons, List.all_nil, e1, e2, Bool.and_true, Bool.and_eq_true, decide_eq_true_eq, List.length_singleton]
  omega
theorem drop_one : ∀ {l : List Tab} {x : Tab}, (l.map (·.id)).Nodup → x ∈ l → (l.filter fun t => !decide (t.id ∈ [x.id])).length + 1 = l.length
  | a :: r, x, hn, hx => by
    simp only [List.map_cons, List.nodup_cons] at hn
    rcases List.mem_cons.1 hx with rfl | h
    · rw [List.filter_cons_of_neg (by simp), List.filter_eq_self.2 (fun t ht => ?_)]
      · rfl
      · have : t.id ≠ x.id := fun e => hn.1 (List.mem_map.2 ⟨t, ht, e⟩)
        simp [this]
    · have hne : a.id ≠ x.id := fun e => hn.1 (List.mem_map.2 ⟨x, h, e.symm⟩)
      rw [List.filter_cons_of_pos (by simp [hne]), List.length_cons, List.length_cons, drop_one hn.2 h]
theorem move_fits {s : Sta} {x : Tab} {v : Nat} (g : Good s) (hx : x ∈ s.tabs) : fitsE s (movE s x v) = decide (apartL (newT s (movE s x v))) := by
  have h1 : goneOk (s.tabs.map (·.id)) [] (movE s x v).drop = true := by
    have : x.id ∈ s.tabs.map (·.id) := List.mem_map.2 ⟨x, hx, rfl⟩
    simp only [movE, goneOk_cons, goneOk, this, decide_true, List.not_mem_nil, decide_false]; rfl
  have h2 : addOk (movE s x v).next (s.tabs.map (·.id)) (movE s x v).add = true := by
    have h3 : s.next ∉ s.tabs.map (·.id) := fun h => by
      obtain ⟨t, ht, he⟩ := List.mem_map.1 h
      have := g.low t ht; omega
    have h4 : s.next < s.next + 1 := by omega
    simp only [movE, addOk_cons, addOk, h3, h4, decide_true, decide_false]; rfl
  unfold fitsE
  rw [h1, h2, decide_eq_true (show s.log ≤ (movE s x v).log from Int.le_refl _), decide_eq_true (show s.next ≤ (movE s x v).next by show s.next ≤ s.next + 1; omega)]
  simp
theorem move_new (s : Sta) (x : Tab) (v : Nat) : (newT s (movE s x v)).Perm ((s.tabs.filter fun t => !decide (t.id ∈ [x.id])) ++ [⟨s.next, v, x.lo, x.hi⟩]) := (foldl_putT (movE s x v).add (keepT s (movE s x v))).1
theorem move_len {s : Sta} {x : Tab} {v : Nat} (g : Good s) (hx : x ∈ s.tabs) : (newT s (movE s x v)).length = s.tabs.length := by
  rw [(move_new s x v).length_eq, List.length_append, List.length_singleton]; exact drop_one g.once hx
theorem move_mem {s : Sta} {x z : Tab} {v m : Nat} (hm : s.tabs[m]? = some x) (hz : z ∈ newT s (movE s x v)) : z = ⟨s.next, v, x.lo, x.hi⟩ ∨ ∃ k : Nat, k ≠ m ∧ s.tabs[k]? = some z := by
  rcases List.mem_append.1 ((move_new s x v).mem_iff.1 hz) with h | h
  · obtain ⟨h1, h2⟩ := List.mem_filter.1 h
    obtain ⟨k, hk⟩ := List.mem_iff_getElem?.1 h1
    refine .inr ⟨k, fun e => ?_, hk⟩
    subst e
    rw [hm] at hk; cases hk
    simp at h2
  · exact .inl (List.mem_singleton.1 h)
theorem move_no {s : Sta} {x : Tab} {v : Nat} (g : Good s) (hn : ¬ apartL (newT s (movE s x v))) : 0 < v ∧ 0 < (s.tabs.filter (ovT v x.lo x.hi)).length := by
  have hn2 : ¬ apartL ((s.tabs.filter fun t => !decide (t.id ∈ [x.id])) ++ [⟨s.next, v, x.lo, x.hi⟩]) := fun h => hn (apart_perm (move_new s x v).symm h)
  have hk : apartL (s.tabs.filter fun t => !decide (t.id ∈ [x.id])) := g.apart.sublist List.filter_sublist
  have ⟨a, ha, hb⟩ : ∃ a ∈ s.tabs, apartT a ⟨s.next, v, x.lo, x.hi⟩ = false := Decidable.byContradiction fun h => hn2 (List.pairwise_append.2 ⟨hk, List.pairwise_singleton _ _, fun a ha b hb => by
    rw [List.mem_singleton.1 hb]
    cases hc : apartT a ⟨s.next, v, x.lo, x.hi⟩ with
    | true => rfl
    | false => exact absurd ⟨a, (List.mem_filter.1 ha).1, hc⟩ h⟩)
  unfold apartT at hb
  simp only [Bool.not_eq_false', Bool.and_eq_true, decide_eq_true_eq, Bool.not_eq_true'] at hb
  obtain ⟨⟨⟨h1, h2⟩, h3⟩, h4⟩ := hb
  refine ⟨by omega, List.length_pos_of_mem (List.mem_filter.2 ⟨ha, ?_⟩)⟩
  unfold ovT
  rw [decide_eq_true h2, h3, h4]; rfl
theorem move_ok {s : Sta} {x : Tab} {v : Nat} (hm : mayE (movE s x v) = true) (hf : fitsE s (movE s x v) = decide (apartL (newT s (movE s x v)))) (ha : apartL (newT s (movE s x v))) : applyF s (movE s x v) = (⟨newT s (movE s x v), s.log, s.next + 1⟩, 0) := by
  unfold applyF; rw [if_neg (by simp [hm]), if_pos (by rw [hf]; exact decide_eq_true ha)]; rfl
theorem move_bad {s : Sta} {x : Tab} {v : Nat} (hm : mayE (movE s x v) = true) (hf : fitsE s (movE s x v) = decide (apartL (newT s (movE s x v)))) (ha : ¬ apartL (newT s (movE s x v))) : applyF s (movE s x v) = (zeroS, 120) := apply_not hm (by rw [hf]; exact decide_eq_false ha)
/-- whether one of the first tables, but for the one that moved, is a table -/
def fnd (l : List Tab) (m : Nat) (z : Tab) (j : Nat) : Bool := (List.range j).any fun k => (match l[k]? with | some t => tabEq t z | none => false) && decide (k ≠ m)
theorem fnd_succ {l : List Tab} {m j : Nat} {z : Tab} (h : j < l.length) : fnd l m z (j + 1) = (fnd l m z j || (tabEq l[j] z && decide (j ≠ m))) := by
  unfold fnd
  rw [List.range_succ, List.any_append, List.any_cons, List.any_nil, Bool.or_false, List.getElem?_eq_getElem h]
theorem tabEq_self (a : Tab) : tabEq a a = true := by simp [tabEq]
theorem fnd_all {l : List Tab} {m k : Nat} {z : Tab} (hk : l[k]? = some z) (hm : k ≠ m) : fnd l m z l.length = true := by
  unfold fnd
  refine List.any_eq_true.2 ⟨k, List.mem_range.2 (List.getElem?_eq_some_iff.1 hk).1, ?_⟩
  rw [hk]
  show (tabEq z z && decide (k ≠ m)) = true
  rw [tabEq_self, decide_eq_true hm]; rfl
theorem eq_raw (a b : Tab) : (decide (a.id = b.id) && (decide (a.level = b.level) && (decide (a.lo = b.lo) && (decide (a.hi = b.hi) && true)))) = tabEq a b := by unfold tabEq; simp only [Bool.and_true, Bool.and_assoc]
theorem eqFs_tab (a b : Tab) : eqFs [(0, 0), (0, 1), (1, 2), (1, 3)] (encT a) (encT b) = some (tabEq a b) := by rw [← eq_raw]; rfl
set_option maxHeartbeats 8000000 in
theorem ManifestMoves_spec {F : Hp} {K : Value → List HProp → Prop} {p : Option Addr} {c : Nat} {l : List EdA} (hL : SlIn F encE 4 p l) (hok : ∀ x ∈ l, EdOk F x) {a b : Int} (hK : K (.bool true) []) : CallK Try.prog F 6 #[.slice p l.length c, .int .i64 a, .int .i64 b] [] K := by
  refine CallK.enter Try.func6 rfl Try.ntmps6 rfl ?_
  refine Tr.seq ?_
  refine Tr.region ?_
  refine TrL.assign rfl rfl ?_
  refine TrL.nil (At.then_normal ?_)
  refine Tr.seq ?_
  refine Tr.seq ?_
  refine Tr.region ?_
  refine TrL.move rfl rfl ?_
  refine TrL.lenl rfl rfl se36 ?_
  refine TrL.gtr rfl rfl rfl ?_
  refine TrL.nil (At.then_normal ?_)
  refine Tr.cond rfl (fun h21 => ?_) (fun h21 => ?_)
  · try simp only [beq_iff_eq, beq_eq_false_iff_ne, Bool.not_eq_true, Bool.not_eq_false, decide_eq_true_eq, decide_eq_false_iff_not, Bool.not_eq_true', Bool.not_eq_false', bne_iff_ne, Bool.not_eq_eq_eq_not, Bool.not_true, Bool.not_false, ne_eq, Decidable.not_not, Int.not_lt, Int.not_le] at h21
    refine Tr.seq ?_
    refine Tr.region ?_
    refine TrL.call rfl rfl rfl ca10 .nil (fun Ft22 hUt22 => awake_spec ?_)
    refine TrL.assign rfl rfl ?_
    refine TrL.nil (At.then_normal ?_)
    refine Tr.ret (At.then_ret (At.retP [] (.inl rfl) rfl (Res.tmp rfl Res.nil) (by repeat (first | exact Picks.nil | with_reducible exact Pick.here | with_reducible apply Pick.there | with_reducible apply Pick.app_nil | with_reducible apply Pick.app_cons | apply Picks.cons)) (by exact hK)))
  · try simp only [beq_iff_eq, beq_eq_false_iff_ne, Bool.not_eq_true, Bool.not_eq_false, decide_eq_true_eq, decide_eq_false_iff_not, Bool.not_eq_true', Bool.not_eq_false', bne_iff_ne, Bool.not_eq_eq_eq_not, Bool.not_true, Bool.not_false, ne_eq, Decidable.not_not, Int.not_lt, Int.not_le] at h21
    refine Tr.skip (At.then_normal ?_)
    refine Tr.seq ?_
    refine Tr.region ?_
    refine TrL.build rfl rfl pl38 zc38 rfl ?_
    refine TrL.alloc rfl zc38 (fun b7 => ?_)
    refine TrL.storeLA rfl rfl sz38 ⟨rfl, List.cons_ne_nil _ _⟩ rfl (by repeat (first | with_reducible exact Upd.here | with_reducible apply Upd.there | with_reducible apply Upd.app_nil | with_reducible apply Upd.app_cons)) (by rfl) ?_
    refine TrL.nil (At.then_normal ?_)
    refine Tr.seq ?_
    refine Tr.seq ?_
    refine Tr.region ?_
    refine TrL.assign rfl rfl ?_
    refine TrL.nil (At.then_normal ?_)
    refine Tr.block ?_
    refine Tr.row0 encT 4 ?_
    refine Tr.loopK [0, 1, 2, 6, 7] (α := Nat × Sta × (Option Addr × Nat)) (fun y => [(8, .int .i64 (y.1 : Int))]) (fun y => [cl b7 (stC y.2.2.1 y.2.2.2 y.2.1) 38, RowC encT 4 y.2.2.1 y.2.1.tabs]) (fun y => y.1 ≤ l.length ∧ Good y.2.1 ∧ y.2.1.tabs.length ≤ 128 * y.1) (fun y => l.length - y.1) (0, zeroS, (none, 0)) (by rfl) ?_ (by repeat (first | exact Sub.nil | refine Sub.cons (by rfl) ?_)) (by repeat (first | exact Picks.nil | with_reducible exact Pick.here | exact Pick.here | with_reducible apply Pick.there | with_reducible apply Pick.app_nil | with_reducible apply Pick.app_cons | apply Picks.cons)) ?_
    · exact ⟨Nat.zero_le _, zeroS_good, Nat.zero_le _⟩
    rintro ⟨i, s, ⟨p1, c1⟩⟩ ⟨hy1, hg, hsl⟩
    dsimp only at hy1 hg hsl ⊢
    refine Tr.seq ?_
    refine Tr.seq ?_
    refine Tr.region ?_
    refine TrL.move rfl rfl ?_
    refine TrL.move rfl rfl ?_
    refine TrL.lenl rfl rfl se36 ?_
    refine TrL.lss rfl rfl rfl ?_
    refine TrL.nil (At.then_normal ?_)
    refine Tr.cond rfl (fun h27 => ?_) (fun h27 => ?_)
    · try simp only [beq_iff_eq, beq_eq_false_iff_ne, Bool.not_eq_true, Bool.not_eq_false, decide_eq_true_eq, decide_eq_false_iff_not, Bool.not_eq_true', Bool.not_eq_false', bne_iff_ne, Bool.not_eq_eq_eq_not, Bool.not_true, Bool.not_false, ne_eq, Decidable.not_not, Int.not_lt, Int.not_le] at h27
      refine Tr.skip (At.then_normal ?_)
      refine Tr.seq ?_
      refine Tr.block ?_
      refine Tr.seq ?_
      refine Tr.seq ?_
      have hx := hok l[i] (List.getElem_mem _)
      refine Tr.region ?_
      refine TrL.move rfl rfl ?_
      refine TrL.move rfl rfl ?_
      refine TrL.idxF rfl rfl rfl se36 sz25 hL rfl rfl rfl (List.getElem?_eq_getElem (by omega)) (fun b32 o32 hp32 hc32 => ?_)
      refine TrL.loadRA rfl rfl ag25 sz25 (by assumption) (by rfl) ?_
      refine TrL.call rfl rfl rfl ca9 .nil (fun Ft34 hUt34 => light_spec (e := l[i].ed) (pa := l[i].a.p) (ca := l[i].a.cap) (pd := l[i].d.p) (cd := l[i].d.cap) (hUt34.ro (SlIn.mono _ _ _ _) hx.1) (hUt34.ro (SlIn.mono _ _ _ _) hx.2.1) hx.2.2.1 hx.2.2.2 (fun rt34 => ?_))
      refine TrL.not rfl rfl ?_
      refine TrL.nil (At.then_normal ?_)
      refine Tr.cond rfl (fun h35 => ?_) (fun h35 => ?_)
      · try simp only [beq_iff_eq, beq_eq_false_iff_ne, Bool.not_eq_true, Bool.not_eq_false, decide_eq_true_eq, decide_eq_false_iff_not, Bool.not_eq_true', Bool.not_eq_false', bne_iff_ne, Bool.not_eq_eq_eq_not, Bool.not_true, Bool.not_false, ne_eq, Decidable.not_not, Int.not_lt, Int.not_le] at h35
        refine Tr.seq ?_
        refine Tr.region ?_
        refine TrL.call rfl rfl rfl ca10 .nil (fun Ft36 hUt36 => awake_spec ?_)
        refine TrL.assign rfl rfl ?_
        refine TrL.nil (At.then_normal ?_)
        refine Tr.ret (At.then_ret (At.block_ret (At.then_ret (At.then_ret (At.block_ret (At.then_ret (At.retP [] (.inl rfl) rfl (Res.tmp rfl Res.nil) (by repeat (first | exact Picks.nil | with_reducible exact Pick.here | with_reducible apply Pick.there | with_reducible apply Pick.app_nil | with_reducible apply Pick.app_cons | apply Picks.cons)) (by exact hK))))))))
      · try simp only [beq_iff_eq, beq_eq_false_iff_ne, Bool.not_eq_true, Bool.not_eq_false, decide_eq_true_eq, decide_eq_false_iff_not, Bool.not_eq_true', Bool.not_eq_false', bne_iff_ne, Bool.not_eq_eq_eq_not, Bool.not_true, Bool.not_false, ne_eq, Decidable.not_not, Int.not_lt, Int.not_le] at h35
        refine Tr.skip (At.then_normal ?_)
        refine Tr.seq ?_
        refine Tr.cutK [0, 1, 2, 6, 7, 8] (β := Nat × Option Addr × Nat) (fun z => [(9, .pointer (some ⟨z.1, 0, none⟩)), (10, .int .i64 (applyF s l[i].ed).2)]) (fun z => [cl z.1 (stC z.2.1 z.2.2 (applyF s l[i].ed).1) 38, RowC encT 4 z.2.1 (applyF s l[i].ed).1.tabs, cl b7 (stC p1 c1 s) 38, RowC encT 4 p1 s.tabs]) (fun z => True) (by rfl) ?_ ?_
        · skip
          refine Tr.regionDH mixed ?_
          refine TrD.take 0 rfl (by kernel_rfl) (by kernel_rfl) (by kernel_rfl) (by repeat (first | exact Picks.nil | with_reducible exact Pick.here | with_reducible apply Pick.there | with_reducible apply Pick.app_nil | with_reducible apply Pick.app_cons | apply Picks.cons)) ?_
          refine TrL.loadLA rfl rfl ag38 sz38 (by repeat (first | with_reducible exact Pick.here | with_reducible apply Pick.there | with_reducible apply Pick.app_nil | with_reducible apply Pick.app_cons)) (by rfl) ?_
          refine TrL.nilTake (listed' := #[true, false, false, false, false, false, false, false, false, false, false, false]) (by kernel_rfl) ?_
          refine TrD.take 1 rfl (by kernel_rfl) (by kernel_rfl) (by kernel_rfl) (by repeat (first | exact Picks.nil | with_reducible exact Pick.here | with_reducible apply Pick.there | with_reducible apply Pick.app_nil | with_reducible apply Pick.app_cons | apply Picks.cons)) ?_
          refine TrL.move rfl rfl ?_
          refine TrL.nilTake (listed' := #[true, true, false, false, false, false, false, false, false, false, false, false]) (by kernel_rfl) ?_
          refine TrD.take 2 rfl (by kernel_rfl) (by kernel_rfl) (by kernel_rfl) (by repeat (first | exact Picks.nil | with_reducible exact Pick.here | with_reducible apply Pick.there | with_reducible apply Pick.app_nil | with_reducible apply Pick.app_cons | apply Picks.cons)) ?_
          refine TrL.move rfl rfl ?_
          refine TrL.nilTake (listed' := #[true, true, true, false, false, false, false, false, false, false, false, false]) (by kernel_rfl) ?_
          refine TrD.take 3 rfl (by kernel_rfl) (by kernel_rfl) (by kernel_rfl) (by repeat (first | exact Picks.nil | with_reducible exact Pick.here | with_reducible apply Pick.there | with_reducible apply Pick.app_nil | with_reducible apply Pick.app_cons | apply Picks.cons)) ?_
          refine TrL.idxF rfl rfl rfl se36 sz25 hL rfl rfl rfl (List.getElem?_eq_getElem (by omega)) (fun b41 o41 hp41 hc41 => ?_)
          refine TrL.nilTake (listed' := #[true, true, true, true, false, false, false, false, false, false, false, false]) (by kernel_rfl) ?_
          refine TrD.take 4 rfl (by kernel_rfl) (by kernel_rfl) (by kernel_rfl) (by repeat (first | exact Picks.nil | with_reducible exact Pick.here | with_reducible apply Pick.there | with_reducible apply Pick.app_nil | with_reducible apply Pick.app_cons | apply Picks.cons)) ?_
          refine TrL.loadRA rfl rfl ag25 sz25 (by assumption) (by rfl) ?_
          refine TrL.nilTake (listed' := #[true, true, true, true, true, false, false, false, false, false, false, false]) (by kernel_rfl) ?_
          refine TrD.all [5, 9] (by kernel_rfl) rfl ?_
          refine all_cons ⟨_, rfl, ?_⟩ ?_
          · skip
            refine TrL.call rfl rfl rfl ca18 .nil (fun Ft43 hUt43 => Apply_spec (s := s) (p := p1) (c := c1) (e := l[i].ed) (pa := l[i].a.p) (ca := l[i].a.cap) (pd := l[i].d.p) (cd := l[i].d.cap) hg (RowC.up hUt43 (by repeat (first | with_reducible exact Pick.here | with_reducible apply Pick.there | with_reducible apply Pick.app_nil | with_reducible apply Pick.app_cons))) (by omega) (hUt43.ro (SlIn.mono _ _ _ _) hx.1) (hUt43.ro (SlIn.mono _ _ _ _) hx.2.1) hx.2.2.1 hx.2.2.2 (fun p50 c50 => ?_))
            refine TrL.nil (At.step (listed' := #[true, true, true, true, true, true, false, false, false, false, false, false]) (by kernel_rfl) (by repeat (first | exact Picks.nil | with_reducible exact Pick.here | with_reducible apply Pick.there | with_reducible apply Pick.app_nil | with_reducible apply Pick.app_cons | apply Picks.cons)) ?_)
            refine TrD.take 6 rfl (by kernel_rfl) (by kernel_rfl) (by kernel_rfl) (by repeat (first | exact Picks.nil | with_reducible exact Pick.here | with_reducible apply Pick.there | with_reducible apply Pick.app_nil | with_reducible apply Pick.app_cons | apply Picks.cons)) ?_
            refine TrL.move rfl rfl ?_
            refine TrL.nilTake (listed' := #[true, true, true, true, true, true, true, false, false, false, false, false]) (by kernel_rfl) ?_
            refine TrD.take 7 rfl (by kernel_rfl) (by kernel_rfl) (by kernel_rfl) (by repeat (first | exact Picks.nil | with_reducible exact Pick.here | with_reducible apply Pick.there | with_reducible apply Pick.app_nil | with_reducible apply Pick.app_cons | apply Picks.cons)) ?_
            refine TrL.extract rfl rfl rfl ?_
            refine TrL.nilTake (listed' := #[true, true, true, true, true, true, true, true, false, false, false, false]) (by kernel_rfl) ?_
            refine TrD.take 8 rfl (by kernel_rfl) (by kernel_rfl) (by kernel_rfl) (by repeat (first | exact Picks.nil | with_reducible exact Pick.here | with_reducible apply Pick.there | with_reducible apply Pick.app_nil | with_reducible apply Pick.app_cons | apply Picks.cons)) ?_
            refine TrL.extract rfl rfl rfl ?_
            refine TrL.nilTake (listed' := #[true, true, true, true, true, true, true, true, true, false, false, false]) (by kernel_rfl) ?_
            refine TrD.all [9] (by kernel_rfl) rfl ?_
            refine all_cons ⟨_, rfl, ?_⟩ all_nil
            refine TrL.alloc rfl zc38 (fun b9 => ?_)
            refine TrL.nil (At.step (listed' := #[true, true, true, true, true, true, true, true, true, true, false, false]) (by kernel_rfl) (by repeat (first | exact Picks.nil | with_reducible exact Pick.here | with_reducible apply Pick.there | with_reducible apply Pick.app_nil | with_reducible apply Pick.app_cons | apply Picks.cons)) ?_)
            refine TrD.all [10] (by kernel_rfl) rfl ?_
            refine all_cons ⟨_, rfl, ?_⟩ all_nil
            refine TrL.storeLA rfl rfl sz38 ⟨rfl, List.cons_ne_nil _ _⟩ rfl (by repeat (first | with_reducible exact Upd.here | with_reducible apply Upd.there | with_reducible apply Upd.app_nil | with_reducible apply Upd.app_cons)) (by rfl) ?_
            refine TrL.nil (At.step (listed' := #[true, true, true, true, true, true, true, true, true, true, true, false]) (by kernel_rfl) (by repeat (first | exact Picks.nil | with_reducible exact Pick.here | with_reducible apply Pick.there | with_reducible apply Pick.app_nil | with_reducible apply Pick.app_cons | apply Picks.cons)) ?_)
            refine TrD.take 11 rfl (by kernel_rfl) (by kernel_rfl) (by kernel_rfl) (by repeat (first | exact Picks.nil | with_reducible exact Pick.here | with_reducible apply Pick.there | with_reducible apply Pick.app_nil | with_reducible apply Pick.app_cons | apply Picks.cons)) ?_
            refine TrL.assign rfl rfl ?_
            refine TrL.nilTake (listed' := #[true, true, true, true, true, true, true, true, true, true, true, true]) (by kernel_rfl) ?_
            refine TrD.done (by kernel_rfl) ?_
            refine At.meetK (b9, p50, c50) trivial (by repeat (first | exact Sub.nil | refine Sub.cons (by rfl) ?_)) (by repeat (first | exact Picks.nil | with_reducible exact Pick.here | with_reducible apply Pick.there | with_reducible apply Pick.app_nil | with_reducible apply Pick.app_cons | apply Picks.cons))
          refine all_cons ⟨_, rfl, ?_⟩ ?_
          · skip
            refine TrL.alloc rfl zc38 (fun b9 => ?_)
            refine TrL.nil (At.step (listed' := #[true, true, true, true, true, false, false, false, false, true, false, false]) (by kernel_rfl) (by repeat (first | exact Picks.nil | with_reducible exact Pick.here | with_reducible apply Pick.there | with_reducible apply Pick.app_nil | with_reducible apply Pick.app_cons | apply Picks.cons)) ?_)
            refine TrD.all [5] (by kernel_rfl) rfl ?_
            refine all_cons ⟨_, rfl, ?_⟩ all_nil
            refine TrL.call rfl rfl rfl ca18 .nil (fun Ft43 hUt43 => Apply_spec (s := s) (p := p1) (c := c1) (e := l[i].ed) (pa := l[i].a.p) (ca := l[i].a.cap) (pd := l[i].d.p) (cd := l[i].d.cap) hg (RowC.up hUt43 (by repeat (first | with_reducible exact Pick.here | with_reducible apply Pick.there | with_reducible apply Pick.app_nil | with_reducible apply Pick.app_cons))) (by omega) (hUt43.ro (SlIn.mono _ _ _ _) hx.1) (hUt43.ro (SlIn.mono _ _ _ _) hx.2.1) hx.2.2.1 hx.2.2.2 (fun p50 c50 => ?_))
            refine TrL.nil (At.step (listed' := #[true, true, true, true, true, true, false, false, false, true, false, false]) (by kernel_rfl) (by repeat (first | exact Picks.nil | with_reducible exact Pick.here | with_reducible apply Pick.there | with_reducible apply Pick.app_nil | with_reducible apply Pick.app_cons | apply Picks.cons)) ?_)
            refine TrD.take 6 rfl (by kernel_rfl) (by kernel_rfl) (by kernel_rfl) (by repeat (first | exact Picks.nil | with_reducible exact Pick.here | with_reducible apply Pick.there | with_reducible apply Pick.app_nil | with_reducible apply Pick.app_cons | apply Picks.cons)) ?_
            refine TrL.move rfl rfl ?_
            refine TrL.nilTake (listed' := #[true, true, true, true, true, true, true, false, false, true, false, false]) (by kernel_rfl) ?_
            refine TrD.take 7 rfl (by kernel_rfl) (by kernel_rfl) (by kernel_rfl) (by repeat (first | exact Picks.nil | with_reducible exact Pick.here | with_reducible apply Pick.there | with_reducible apply Pick.app_nil | with_reducible apply Pick.app_cons | apply Picks.cons)) ?_
            refine TrL.extract rfl rfl rfl ?_
            refine TrL.nilTake (listed' := #[true, true, true, true, true, true, true, true, false, true, false, false]) (by kernel_rfl) ?_
            refine TrD.take 8 rfl (by kernel_rfl) (by kernel_rfl) (by kernel_rfl) (by repeat (first | exact Picks.nil | with_reducible exact Pick.here | with_reducible apply Pick.there | with_reducible apply Pick.app_nil | with_reducible apply Pick.app_cons | apply Picks.cons)) ?_
            refine TrL.extract rfl rfl rfl ?_
            refine TrL.nilTake (listed' := #[true, true, true, true, true, true, true, true, true, true, false, false]) (by kernel_rfl) ?_
            refine TrD.all [10] (by kernel_rfl) rfl ?_
            refine all_cons ⟨_, rfl, ?_⟩ all_nil
            refine TrL.storeLA rfl rfl sz38 ⟨rfl, List.cons_ne_nil _ _⟩ rfl (by repeat (first | with_reducible exact Upd.here | with_reducible apply Upd.there | with_reducible apply Upd.app_nil | with_reducible apply Upd.app_cons)) (by rfl) ?_
            refine TrL.nil (At.step (listed' := #[true, true, true, true, true, true, true, true, true, true, true, false]) (by kernel_rfl) (by repeat (first | exact Picks.nil | with_reducible exact Pick.here | with_reducible apply Pick.there | with_reducible apply Pick.app_nil | with_reducible apply Pick.app_cons | apply Picks.cons)) ?_)
            refine TrD.take 11 rfl (by kernel_rfl) (by kernel_rfl) (by kernel_rfl) (by repeat (first | exact Picks.nil | with_reducible exact Pick.here | with_reducible apply Pick.there | with_reducible apply Pick.app_nil | with_reducible apply Pick.app_cons | apply Picks.cons)) ?_
            refine TrL.assign rfl rfl ?_
            refine TrL.nilTake (listed' := #[true, true, true, true, true, true, true, true, true, true, true, true]) (by kernel_rfl) ?_
            refine TrD.done (by kernel_rfl) ?_
            refine At.meetK (b9, p50, c50) trivial (by repeat (first | exact Sub.nil | refine Sub.cons (by rfl) ?_)) (by repeat (first | exact Picks.nil | with_reducible exact Pick.here | with_reducible apply Pick.there | with_reducible apply Pick.app_nil | with_reducible apply Pick.app_cons | apply Picks.cons))
          exact all_nil
        · skip
          rintro ⟨b9, p50, c50⟩ -
          dsimp only
          refine Tr.seq ?_
          refine Tr.region ?_
          refine TrL.move rfl rfl ?_
          refine TrL.eqi rfl rfl rfl ?_
          refine TrL.nil (At.then_normal ?_)
          refine Tr.cond rfl (fun h47 => ?_) (fun h47 => ?_)
          · try simp only [beq_iff_eq, beq_eq_false_iff_ne, Bool.not_eq_true, Bool.not_eq_false, decide_eq_true_eq, decide_eq_false_iff_not, Bool.not_eq_true', Bool.not_eq_false', bne_iff_ne, Bool.not_eq_eq_eq_not, Bool.not_true, Bool.not_false, ne_eq, Decidable.not_not, Int.not_lt, Int.not_le] at h47
            refine Tr.region ?_
            refine TrL.loadLA rfl rfl ag38 sz38 (by repeat (first | with_reducible exact Pick.here | with_reducible apply Pick.there | with_reducible apply Pick.app_nil | with_reducible apply Pick.app_cons)) (by rfl) ?_
            refine TrL.storeLA rfl rfl sz38 ⟨rfl, List.cons_ne_nil _ _⟩ rfl (by repeat (first | with_reducible exact Upd.here | with_reducible apply Upd.there | with_reducible apply Upd.app_nil | with_reducible apply Upd.app_cons)) (by rfl) ?_
            refine TrL.nil (At.block_normal (At.then_normal ?_))
            refine Tr.region ?_
            refine TrL.move rfl rfl ?_
            refine TrL.addI rfl rfl rfl (by omega) ?_
            refine TrL.assign rfl rfl ?_
            refine TrL.nil ?_
            obtain ⟨g2, l2⟩ := good_next (e := l[i].ed) hg hsl h47
            refine At.again (i + 1, (applyF s l[i].ed).1, (p50, c50)) ⟨by show i + 1 ≤ l.length; omega, g2, l2⟩ (by show l.length - (i + 1) < l.length - i; omega) (by repeat (first | exact Sub.nil | refine Sub.cons (by rfl) ?_)) (by repeat (first | exact Picks.nil | with_reducible exact Pick.here | with_reducible apply Pick.there | with_reducible apply Pick.app_nil | with_reducible apply Pick.app_cons | apply Picks.cons))
          · try simp only [beq_iff_eq, beq_eq_false_iff_ne, Bool.not_eq_true, Bool.not_eq_false, decide_eq_true_eq, decide_eq_false_iff_not, Bool.not_eq_true', Bool.not_eq_false', bne_iff_ne, Bool.not_eq_eq_eq_not, Bool.not_true, Bool.not_false, ne_eq, Decidable.not_not, Int.not_lt, Int.not_le] at h47
            refine Tr.skip (At.block_normal (At.then_normal ?_))
            refine Tr.region ?_
            refine TrL.move rfl rfl ?_
            refine TrL.addI rfl rfl rfl (by omega) ?_
            refine TrL.assign rfl rfl ?_
            refine TrL.nil ?_
            refine At.again (i + 1, s, (p1, c1)) ⟨by show i + 1 ≤ l.length; omega, hg, by show s.tabs.length ≤ 128 * (i + 1); omega⟩ (by show l.length - (i + 1) < l.length - i; omega) (by repeat (first | exact Sub.nil | refine Sub.cons (by rfl) ?_)) (by repeat (first | exact Picks.nil | with_reducible exact Pick.here | with_reducible apply Pick.there | with_reducible apply Pick.app_nil | with_reducible apply Pick.app_cons | apply Picks.cons))
    · try simp only [beq_iff_eq, beq_eq_false_iff_ne, Bool.not_eq_true, Bool.not_eq_false, decide_eq_true_eq, decide_eq_false_iff_not, Bool.not_eq_true', Bool.not_eq_false', bne_iff_ne, Bool.not_eq_eq_eq_not, Bool.not_true, Bool.not_false, ne_eq, Decidable.not_not, Int.not_lt, Int.not_le] at h27
      refine Tr.exit (At.then_exit (At.then_exit (At.block_hit (At.then_normal ?_))))
      refine Tr.seq ?_
      refine Tr.seq ?_
      refine Tr.region ?_
      refine TrL.field0 rfl rfl fl38_0 ?_
      refine TrL.load1 rfl rfl sc22 (Sees.cl1 (by repeat (first | with_reducible exact Pick.here | with_reducible apply Pick.there | with_reducible apply Pick.app_nil | with_reducible apply Pick.app_cons)) (by rfl)) ?_
      refine TrL.lenl rfl rfl se22 ?_
      refine TrL.eqi rfl rfl rfl ?_
      refine TrL.move rfl rfl ?_
      refine TrL.cases (t := 53) rfl (fun h53 => ?_) (fun h53 => ?_)
      · try simp only [beq_iff_eq, beq_eq_false_iff_ne, Bool.not_eq_true, Bool.not_eq_false, decide_eq_true_eq, decide_eq_false_iff_not, Bool.not_eq_true', Bool.not_eq_false', bne_iff_ne, Bool.not_eq_eq_eq_not, Bool.not_true, Bool.not_false, ne_eq, Decidable.not_not, Int.not_lt, Int.not_le] at h53
        refine TrL.unwant rfl rfl rfl ?_
        refine TrL.unwant rfl rfl rfl ?_
        refine TrL.unwant rfl rfl rfl ?_
        refine TrL.pickT rfl rfl rfl ?_
        refine TrL.move rfl rfl ?_
        refine TrL.unwant rfl rfl rfl ?_
        refine TrL.unwant rfl rfl rfl ?_
        refine TrL.unwant rfl rfl rfl ?_
        refine TrL.pickT rfl rfl rfl ?_
        refine TrL.nil (At.then_normal ?_)
        refine Tr.condT rfl ?_
        refine Tr.seq ?_
        refine Tr.region ?_
        refine TrL.call rfl rfl rfl ca10 .nil (fun Ft63 hUt63 => awake_spec ?_)
        refine TrL.assign rfl rfl ?_
        refine TrL.nil (At.then_normal ?_)
        refine Tr.ret (At.then_ret (At.retP [] (.inl rfl) rfl (Res.tmp rfl Res.nil) (by repeat (first | exact Picks.nil | with_reducible exact Pick.here | with_reducible apply Pick.there | with_reducible apply Pick.app_nil | with_reducible apply Pick.app_cons | apply Picks.cons)) (by exact hK)))
      · try simp only [beq_iff_eq, beq_eq_false_iff_ne, Bool.not_eq_true, Bool.not_eq_false, decide_eq_true_eq, decide_eq_false_iff_not, Bool.not_eq_true', Bool.not_eq_false', bne_iff_ne, Bool.not_eq_eq_eq_not, Bool.not_true, Bool.not_false, ne_eq, Decidable.not_not, Int.not_lt, Int.not_le] at h53
        refine TrL.want rfl rfl ?_
        refine TrL.field rfl rfl fl38_2 ?_
        refine TrL.want rfl rfl ?_
        refine TrL.load1 rfl rfl sc3 (Sees.cl1 (by repeat (first | with_reducible exact Pick.here | with_reducible apply Pick.there | with_reducible apply Pick.app_nil | with_reducible apply Pick.app_cons)) (by rfl)) ?_
        refine TrL.want rfl rfl ?_
        refine TrL.lss rfl rfl rfl ?_
        refine TrL.pickF rfl rfl rfl ?_
        refine TrL.move rfl rfl ?_
        refine TrL.cases (t := 58) rfl (fun h58 => ?_) (fun h58 => ?_)
        · try simp only [beq_iff_eq, beq_eq_false_iff_ne, Bool.not_eq_true, Bool.not_eq_false, decide_eq_true_eq, decide_eq_false_iff_not, Bool.not_eq_true', Bool.not_eq_false', bne_iff_ne, Bool.not_eq_eq_eq_not, Bool.not_true, Bool.not_false, ne_eq, Decidable.not_not, Int.not_lt, Int.not_le] at h58
          refine TrL.unwant rfl rfl rfl ?_
          refine TrL.unwant rfl rfl rfl ?_
          refine TrL.unwant rfl rfl rfl ?_
          refine TrL.pickT rfl rfl rfl ?_
          refine TrL.nil (At.then_normal ?_)
          refine Tr.condT rfl ?_
          refine Tr.seq ?_
          refine Tr.region ?_
          refine TrL.call rfl rfl rfl ca10 .nil (fun Ft63 hUt63 => awake_spec ?_)
          refine TrL.assign rfl rfl ?_
          refine TrL.nil (At.then_normal ?_)
          refine Tr.ret (At.then_ret (At.retP [] (.inl rfl) rfl (Res.tmp rfl Res.nil) (by repeat (first | exact Picks.nil | with_reducible exact Pick.here | with_reducible apply Pick.there | with_reducible apply Pick.app_nil | with_reducible apply Pick.app_cons | apply Picks.cons)) (by exact hK)))
        · try simp only [beq_iff_eq, beq_eq_false_iff_ne, Bool.not_eq_true, Bool.not_eq_false, decide_eq_true_eq, decide_eq_false_iff_not, Bool.not_eq_true', Bool.not_eq_false', bne_iff_ne, Bool.not_eq_eq_eq_not, Bool.not_true, Bool.not_false, ne_eq, Decidable.not_not, Int.not_lt, Int.not_le] at h58
          refine TrL.want rfl rfl ?_
          refine TrL.field rfl rfl fl38_2 ?_
          refine TrL.want rfl rfl ?_
          refine TrL.load1 rfl rfl sc3 (Sees.cl1 (by repeat (first | with_reducible exact Pick.here | with_reducible apply Pick.there | with_reducible apply Pick.app_nil | with_reducible apply Pick.app_cons)) (by rfl)) ?_
          refine TrL.want rfl rfl ?_
          refine TrL.gtr rfl rfl rfl ?_
          refine TrL.pickF rfl rfl rfl ?_
          refine TrL.nil (At.then_normal ?_)
          refine Tr.cond rfl (fun h62 => ?_) (fun h62 => ?_)
          · try simp only [beq_iff_eq, beq_eq_false_iff_ne, Bool.not_eq_true, Bool.not_eq_false, decide_eq_true_eq, decide_eq_false_iff_not, Bool.not_eq_true', Bool.not_eq_false', bne_iff_ne, Bool.not_eq_eq_eq_not, Bool.not_true, Bool.not_false, ne_eq, Decidable.not_not, Int.not_lt, Int.not_le] at h62
            refine Tr.seq ?_
            refine Tr.region ?_
            refine TrL.call rfl rfl rfl ca10 .nil (fun Ft63 hUt63 => awake_spec ?_)
            refine TrL.assign rfl rfl ?_
            refine TrL.nil (At.then_normal ?_)
            refine Tr.ret (At.then_ret (At.retP [] (.inl rfl) rfl (Res.tmp rfl Res.nil) (by repeat (first | exact Picks.nil | with_reducible exact Pick.here | with_reducible apply Pick.there | with_reducible apply Pick.app_nil | with_reducible apply Pick.app_cons | apply Picks.cons)) (by exact hK)))
          · try simp only [beq_iff_eq, beq_eq_false_iff_ne, Bool.not_eq_true, Bool.not_eq_false, decide_eq_true_eq, decide_eq_false_iff_not, Bool.not_eq_true', Bool.not_eq_false', bne_iff_ne, Bool.not_eq_eq_eq_not, Bool.not_true, Bool.not_false, ne_eq, Decidable.not_not, Int.not_lt, Int.not_le] at h62
            refine Tr.skip (At.then_normal ?_)
            refine Tr.seq ?_
            refine Tr.rowBase (p := p1) (l := s.tabs) (by repeat (first | with_reducible exact Pick.here | with_reducible apply Pick.there | with_reducible apply Pick.app_nil | with_reducible apply Pick.app_cons)) (by omega) (fun bb ob hpp => ?_)
            subst hpp
            refine Tr.region ?_
            refine TrL.move rfl rfl ?_
            refine TrL.and rfl rfl rfl ?_
            refine TrL.field0 rfl rfl fl38_0 ?_
            refine TrL.load1 rfl rfl sc22 (Sees.cl1 (by repeat (first | with_reducible exact Pick.here | with_reducible apply Pick.there | with_reducible apply Pick.app_nil | with_reducible apply Pick.app_cons)) (by rfl)) ?_
            refine TrL.lenl rfl rfl se22 ?_
            refine TrL.rem rfl rfl rfl (by omega) ?_
            obtain ⟨m, hm, hmlt⟩ := small_of (m := (s.tabs.length : Int)) (by omega) (andI_le (a := a) (b := 255) (by omega) (by omega)).1
            rw [hm]
            refine TrL.assign rfl rfl ?_
            refine TrL.nil (At.then_normal ?_)
            refine Tr.seq ?_
            refine Tr.region ?_
            refine TrL.field0 rfl rfl fl38_0 ?_
            refine TrL.load1 rfl rfl sc22 (Sees.cl1 (by repeat (first | with_reducible exact Pick.here | with_reducible apply Pick.there | with_reducible apply Pick.app_nil | with_reducible apply Pick.app_cons)) (by rfl)) ?_
            refine TrL.move rfl rfl ?_
            refine TrL.indexAddr (i := m) rfl rfl rfl se22 sz46 rfl (by omega) ?_
            refine TrL.loadW (i := m) rfl rfl ag46 sz46 (by repeat (first | with_reducible exact Pick.here | with_reducible apply Pick.there | with_reducible apply Pick.app_nil | with_reducible apply Pick.app_cons)) rfl encT_len (List.getElem?_eq_getElem (by omega)) ?_
            refine TrL.alloc rfl zc46 (fun b12 => ?_)
            refine TrL.storeLA rfl rfl sz46 ⟨rfl, List.cons_ne_nil _ _⟩ rfl (by repeat (first | with_reducible exact Upd.here | with_reducible apply Upd.there | with_reducible apply Upd.app_nil | with_reducible apply Upd.app_cons)) (by rfl) ?_
            refine TrL.nil (At.then_normal ?_)
            refine Tr.seq ?_
            obtain ⟨x, hx0⟩ : ∃ x, s.tabs[m]'(by omega) = x := ⟨_, rfl⟩
            have hxm : s.tabs[m]? = some x := by rw [← hx0]; exact List.getElem?_eq_getElem (by omega)
            have hxs : x ∈ s.tabs := List.mem_of_getElem? hxm
            rw [hx0]
            refine Tr.region ?_
            refine TrL.field rfl rfl fl38_2 ?_
            refine TrL.load1 rfl rfl sc3 (Sees.cl1 (by repeat (first | with_reducible exact Pick.here | with_reducible apply Pick.there | with_reducible apply Pick.app_nil | with_reducible apply Pick.app_cons)) (by rfl)) ?_
            refine TrL.move rfl rfl ?_
            refine TrL.and rfl rfl rfl ?_
            refine TrL.rem rfl rfl rfl (by omega) ?_
            obtain ⟨vv, hvv, hvlt⟩ := small_of (m := 3) (by omega) (andI_le (a := b) (b := 255) (by omega) (by omega)).1
            rw [hvv]
            refine TrL.field rfl rfl fl46_2 ?_
            refine TrL.load1 rfl rfl sc9 (Sees.cl1 (by repeat (first | with_reducible exact Pick.here | with_reducible apply Pick.there | with_reducible apply Pick.app_nil | with_reducible apply Pick.app_cons)) (by rfl)) ?_
            refine TrL.field rfl rfl fl46_3 ?_
            refine TrL.load1 rfl rfl sc9 (Sees.cl1 (by repeat (first | with_reducible exact Pick.here | with_reducible apply Pick.there | with_reducible apply Pick.app_nil | with_reducible apply Pick.app_cons)) (by rfl)) ?_
            refine TrL.build rfl rfl pl46 zc46 rfl ?_
            refine TrL.alloc rfl zc46 (fun b13 => ?_)
            refine TrL.storeLA rfl rfl sz46 ⟨rfl, List.cons_ne_nil _ _⟩ rfl (by repeat (first | with_reducible exact Upd.here | with_reducible apply Upd.there | with_reducible apply Upd.app_nil | with_reducible apply Upd.app_cons)) (by rfl) ?_
            refine TrL.nil (At.then_normal ?_)
            refine Tr.seq ?_
            have hmay := move_may (v := vv) hg hxs (by omega) (by omega) hvlt
            have hfit := move_fits (v := vv) hg hxs
            refine Tr.region ?_
            refine TrL.loadLA rfl rfl ag38 sz38 (by repeat (first | with_reducible exact Pick.here | with_reducible apply Pick.there | with_reducible apply Pick.app_nil | with_reducible apply Pick.app_cons)) (by rfl) ?_
            refine TrL.loadLA rfl rfl ag46 sz46 (by repeat (first | with_reducible exact Pick.here | with_reducible apply Pick.there | with_reducible apply Pick.app_nil | with_reducible apply Pick.app_cons)) (by rfl) ?_
            refine TrL.buildSlA rfl rfl se22 sz46 zc46 rfl rfl rfl (fun b88 => ?_)
            refine TrL.field0 rfl rfl fl46_0 ?_
            refine TrL.load1 rfl rfl sc3 (Sees.cl1 (by repeat (first | with_reducible exact Pick.here | with_reducible apply Pick.there | with_reducible apply Pick.app_nil | with_reducible apply Pick.app_cons)) (by rfl)) ?_
            refine TrL.buildSlF rfl rfl rfl se23 sz3 zc3 rfl rfl rfl (fun b91 => ?_)
            refine TrL.field rfl rfl fl38_1 ?_
            refine TrL.load1 rfl rfl sc3 (Sees.cl1 (by repeat (first | with_reducible exact Pick.here | with_reducible apply Pick.there | with_reducible apply Pick.app_nil | with_reducible apply Pick.app_cons)) (by rfl)) ?_
            refine TrL.field rfl rfl fl38_2 ?_
            refine TrL.load1 rfl rfl sc3 (Sees.cl1 (by repeat (first | with_reducible exact Pick.here | with_reducible apply Pick.there | with_reducible apply Pick.app_nil | with_reducible apply Pick.app_cons)) (by rfl)) ?_
            refine TrL.addI rfl rfl rfl (by omega) ?_
            refine TrL.build rfl rfl pl25 zc25 rfl ?_
            refine TrL.freezeL encT 4 [⟨s.next, vv, x.lo, x.hi⟩] (b := b88) (by repeat (first | with_reducible exact Pick.here | with_reducible apply Pick.there | with_reducible apply Pick.app_nil | with_reducible apply Pick.app_cons)) (by rfl) encT_len (fun F88 hF88 hs88 => ?_)
            refine TrL.freezeL encI 1 [x.id] (b := b91) (by repeat (first | with_reducible exact Pick.here | with_reducible apply Pick.there | with_reducible apply Pick.app_nil | with_reducible apply Pick.app_cons)) (by rfl) (fun _ => rfl) (fun F91 hF91 hs91 => ?_)
            refine TrL.call rfl rfl rfl ca18 .nil (fun Ft98 hUt98 => Apply_spec (s := s) (c := c1) (e := (movE s x vv)) (ca := 1) (cd := 1) hg (RowC.up hUt98 (by repeat (first | with_reducible exact Pick.here | with_reducible apply Pick.there | with_reducible apply Pick.app_nil | with_reducible apply Pick.app_cons))) (by omega) (hUt98.ro (SlIn.mono _ _ _ _) (SlIn.mono _ _ _ _ _ _ hF91 hs88)) (hUt98.ro (SlIn.mono _ _ _ _) hs91) (by simp [movE]) (by simp [movE]) (fun p98 c98 => ?_))
            refine TrL.move rfl rfl ?_
            refine TrL.extract rfl rfl rfl ?_
            refine TrL.extract rfl rfl rfl ?_
            refine TrL.alloc rfl zc38 (fun b14 => ?_)
            refine TrL.storeLA rfl rfl sz38 ⟨rfl, List.cons_ne_nil _ _⟩ rfl (by repeat (first | with_reducible exact Upd.here | with_reducible apply Upd.there | with_reducible apply Upd.app_nil | with_reducible apply Upd.app_cons)) (by rfl) ?_
            refine TrL.assign rfl rfl ?_
            refine TrL.nil (At.then_normal ?_)
            refine Tr.seq ?_
            refine Tr.seq ?_
            refine Tr.region ?_
            refine TrL.move rfl rfl ?_
            refine TrL.nei rfl rfl rfl ?_
            refine TrL.nil (At.then_normal ?_)
            refine Tr.cond rfl (fun h102 => ?_) (fun h102 => ?_)
            · try simp only [beq_iff_eq, beq_eq_false_iff_ne, Bool.not_eq_true, Bool.not_eq_false, decide_eq_true_eq, decide_eq_false_iff_not, Bool.not_eq_true', Bool.not_eq_false', bne_iff_ne, Bool.not_eq_eq_eq_not, Bool.not_true, Bool.not_false, ne_eq, Decidable.not_not, Int.not_lt, Int.not_le] at h102
              have hna : ¬ apartL (newT s (movE s x vv)) := fun h => h102 (by rw [move_ok hmay hfit h])
              obtain ⟨hn1, hn2⟩ := move_no hg hna
              rw [move_bad hmay hfit hna]
              refine Tr.seq ?_
              refine Tr.region ?_
              refine TrL.move rfl rfl ?_
              refine TrL.eqi rfl rfl rfl ?_
              refine TrL.knownB (t := 104) (c := true) rfl (by decide) ?_
              refine TrL.move rfl rfl ?_
              refine TrL.want rfl rfl ?_
              refine TrL.field rfl rfl fl46_1 ?_
              refine TrL.want rfl rfl ?_
              refine TrL.load1 rfl rfl sc3 (Sees.cl1 (by repeat (first | with_reducible exact Pick.here | with_reducible apply Pick.there | with_reducible apply Pick.app_nil | with_reducible apply Pick.app_cons)) (by rfl)) ?_
              refine TrL.want rfl rfl ?_
              refine TrL.gtr rfl rfl rfl ?_
              refine TrL.knownB (t := 108) (c := true) rfl (by exact decide_eq_true (by omega)) ?_
              refine TrL.pickT rfl rfl rfl ?_
              refine TrL.move rfl rfl ?_
              refine TrL.want rfl rfl ?_
              refine TrL.loadLA rfl rfl ag38 sz38 (by repeat (first | with_reducible exact Pick.here | with_reducible apply Pick.there | with_reducible apply Pick.app_nil | with_reducible apply Pick.app_cons)) (by rfl) ?_
              refine TrL.want rfl rfl ?_
              refine TrL.field rfl rfl fl46_1 ?_
              refine TrL.want rfl rfl ?_
              refine TrL.load1 rfl rfl sc3 (Sees.cl1 (by repeat (first | with_reducible exact Pick.here | with_reducible apply Pick.there | with_reducible apply Pick.app_nil | with_reducible apply Pick.app_cons)) (by rfl)) ?_
              refine TrL.want rfl rfl ?_
              refine TrL.field rfl rfl fl46_2 ?_
              refine TrL.want rfl rfl ?_
              refine TrL.load1 rfl rfl sc9 (Sees.cl1 (by repeat (first | with_reducible exact Pick.here | with_reducible apply Pick.there | with_reducible apply Pick.app_nil | with_reducible apply Pick.app_cons)) (by rfl)) ?_
              refine TrL.want rfl rfl ?_
              refine TrL.field rfl rfl fl46_3 ?_
              refine TrL.want rfl rfl ?_
              refine TrL.load1 rfl rfl sc9 (Sees.cl1 (by repeat (first | with_reducible exact Pick.here | with_reducible apply Pick.there | with_reducible apply Pick.app_nil | with_reducible apply Pick.app_cons)) (by rfl)) ?_
              refine TrL.want rfl rfl ?_
              refine TrL.call rfl rfl rfl ca22 .nil (fun Ft118 hUt118 => Overlap_spec (s := s) (c := c1) (v := vv) (lo := x.lo) (hi := x.hi) (RowC.up hUt118 (by repeat (first | with_reducible exact Pick.here | with_reducible apply Pick.there | with_reducible apply Pick.app_nil | with_reducible apply Pick.app_cons))) (by omega) (fun p118 c118 => ?_))
              refine TrL.want rfl rfl ?_
              refine TrL.lenl rfl rfl se22 ?_
              refine TrL.want rfl rfl ?_
              refine TrL.gtr rfl rfl rfl ?_
              refine TrL.knownB (t := 120) (c := true) rfl (by exact decide_eq_true (by omega)) ?_
              refine TrL.pickT rfl rfl rfl ?_
              refine TrL.move rfl rfl ?_
              refine TrL.want rfl rfl ?_
              refine TrL.call rfl rfl rfl ca10 .nil (fun Ft123 hUt123 => awake_spec ?_)
              refine TrL.pickT rfl rfl rfl ?_
              refine TrL.assign rfl rfl ?_
              refine TrL.nil (At.then_normal ?_)
              refine Tr.ret (At.then_ret (At.retP [] (.inl rfl) rfl (Res.tmp rfl Res.nil) (by repeat (first | exact Picks.nil | with_reducible exact Pick.here | with_reducible apply Pick.there | with_reducible apply Pick.app_nil | with_reducible apply Pick.app_cons | apply Picks.cons)) (by exact hK)))
            · try simp only [beq_iff_eq, beq_eq_false_iff_ne, Bool.not_eq_true, Bool.not_eq_false, decide_eq_true_eq, decide_eq_false_iff_not, Bool.not_eq_true', Bool.not_eq_false', bne_iff_ne, Bool.not_eq_eq_eq_not, Bool.not_true, Bool.not_false, ne_eq, Decidable.not_not, Int.not_lt, Int.not_le] at h102
              have hap : apartL (newT s (movE s x vv)) := Decidable.byContradiction fun h => by rw [move_bad hmay hfit h] at h102; cases h102
              rw [move_ok hmay hfit hap]
              have hlen := move_len (v := vv) hg hxs
              dsimp only
              refine Tr.skip (At.then_normal ?_)
              refine Tr.seq ?_
              refine Tr.seq ?_
              refine Tr.region ?_
              refine TrL.field0 rfl rfl fl38_0 ?_
              refine TrL.load1 rfl rfl sc22 (Sees.cl1 (by repeat (first | with_reducible exact Pick.here | with_reducible apply Pick.there | with_reducible apply Pick.app_nil | with_reducible apply Pick.app_cons)) (by rfl)) ?_
              refine TrL.lenl rfl rfl se22 ?_
              refine TrL.field0 rfl rfl fl38_0 ?_
              refine TrL.load1 rfl rfl sc22 (Sees.cl1 (by repeat (first | with_reducible exact Pick.here | with_reducible apply Pick.there | with_reducible apply Pick.app_nil | with_reducible apply Pick.app_cons)) (by rfl)) ?_
              refine TrL.lenl rfl rfl se22 ?_
              refine TrL.nei rfl rfl rfl ?_
              refine TrL.knownB (t := 131) (c := false) rfl (by simp [hlen]) ?_
              refine TrL.nil (At.then_normal ?_)
              refine Tr.condF rfl ?_
              refine Tr.skip (At.then_normal ?_)
              refine Tr.seq ?_
              refine Tr.seq ?_
              refine Tr.rowBase (p := p98) (l := newT s (movE s x vv)) (by repeat (first | with_reducible exact Pick.here | with_reducible apply Pick.there | with_reducible apply Pick.app_nil | with_reducible apply Pick.app_cons)) (by omega) (fun bc oc hpq => ?_)
              subst hpq
              refine Tr.region ?_
              refine TrL.assign rfl rfl ?_
              refine TrL.nil (At.then_normal ?_)
              refine Tr.block ?_
              refine Tr.loopK [6, 7, 11, 12, 13, 14] (α := Nat) (fun i2 => [(16, .int .i64 (i2 : Int))]) (fun i2 => []) (fun i2 => i2 ≤ (newT s (movE s x vv)).length) (fun i2 => (newT s (movE s x vv)).length - i2) (0) (by rfl) ?_ (by repeat (first | exact Sub.nil | refine Sub.cons (by rfl) ?_)) (by repeat (first | exact Picks.nil | with_reducible exact Pick.here | with_reducible apply Pick.there | with_reducible apply Pick.app_nil | with_reducible apply Pick.app_cons | apply Picks.cons)) ?_
              · exact Nat.zero_le _
              rintro i2 hi2
              refine Tr.seq ?_
              refine Tr.seq ?_
              refine Tr.region ?_
              refine TrL.move rfl rfl ?_
              refine TrL.field0 rfl rfl fl38_0 ?_
              refine TrL.load1 rfl rfl sc22 (Sees.cl1 (by repeat (first | with_reducible exact Pick.here | with_reducible apply Pick.there | with_reducible apply Pick.app_nil | with_reducible apply Pick.app_cons)) (by rfl)) ?_
              refine TrL.lenl rfl rfl se22 ?_
              refine TrL.lss rfl rfl rfl ?_
              refine TrL.nil (At.then_normal ?_)
              refine Tr.cond rfl (fun h136 => ?_) (fun h136 => ?_)
              · try simp only [beq_iff_eq, beq_eq_false_iff_ne, Bool.not_eq_true, Bool.not_eq_false, decide_eq_true_eq, decide_eq_false_iff_not, Bool.not_eq_true', Bool.not_eq_false', bne_iff_ne, Bool.not_eq_eq_eq_not, Bool.not_true, Bool.not_false, ne_eq, Decidable.not_not, Int.not_lt, Int.not_le] at h136
                refine Tr.skip (At.then_normal ?_)
                refine Tr.seq ?_
                refine Tr.block ?_
                refine Tr.seq ?_
                refine Tr.regionQ mixed (by kernel_rfl) ?_
                refine TrL.field0 rfl rfl fl38_0 ?_
                refine TrL.load1 rfl rfl sc22 (Sees.cl1 (by repeat (first | with_reducible exact Pick.here | with_reducible apply Pick.there | with_reducible apply Pick.app_nil | with_reducible apply Pick.app_cons)) (by rfl)) ?_
                refine TrL.move rfl rfl ?_
                refine TrL.indexAddr (i := i2) rfl rfl rfl se22 sz46 rfl (by omega) ?_
                refine TrL.loadW (i := i2) rfl rfl ag46 sz46 (by repeat (first | with_reducible exact Pick.here | with_reducible apply Pick.there | with_reducible apply Pick.app_nil | with_reducible apply Pick.app_cons)) rfl encT_len (List.getElem?_eq_getElem (by omega)) ?_
                refine TrL.loadLA rfl rfl ag46 sz46 (by repeat (first | with_reducible exact Pick.here | with_reducible apply Pick.there | with_reducible apply Pick.app_nil | with_reducible apply Pick.app_cons)) (by rfl) ?_
                refine TrL.eqS rfl rfl rfl fk46 si46 eg46 (eqFs_tab (newT s (movE s x vv))[i2] ⟨s.next, vv, x.lo, x.hi⟩) ?_
                refine TrL.assign rfl rfl ?_
                refine TrL.nilQ (At.then_normal ?_)
                refine Tr.seq ?_
                refine Tr.seq ?_
                refine Tr.region ?_
                refine TrL.assign rfl rfl ?_
                refine TrL.nil (At.then_normal ?_)
                refine Tr.block ?_
                refine Tr.loopK [6, 7, 11, 12, 13, 14, 16] (α := Nat) (fun j => [(18, .int .i64 (j : Int)), (17, .bool (tabEq (newT s (movE s x vv))[i2] ⟨s.next, vv, x.lo, x.hi⟩ || fnd s.tabs m (newT s (movE s x vv))[i2] j))]) (fun j => []) (fun j => j ≤ s.tabs.length) (fun j => s.tabs.length - j) (0) (by rfl) ?_ (by (rw [show (tabEq (newT s (movE s x vv))[i2] ⟨s.next, vv, x.lo, x.hi⟩ || fnd s.tabs m (newT s (movE s x vv))[i2] 0) = tabEq (newT s (movE s x vv))[i2] ⟨s.next, vv, x.lo, x.hi⟩ from Bool.or_false _]; repeat (first | exact Sub.nil | refine Sub.cons (by rfl) ?_))) (by repeat (first | exact Picks.nil | with_reducible exact Pick.here | with_reducible apply Pick.there | with_reducible apply Pick.app_nil | with_reducible apply Pick.app_cons | apply Picks.cons)) ?_
                · exact Nat.zero_le _
                rintro j hj
                refine Tr.seq ?_
                refine Tr.seq ?_
                refine Tr.region ?_
                refine TrL.move rfl rfl ?_
                refine TrL.field0 rfl rfl fl38_0 ?_
                refine TrL.load1 rfl rfl sc22 (Sees.cl1 (by repeat (first | with_reducible exact Pick.here | with_reducible apply Pick.there | with_reducible apply Pick.app_nil | with_reducible apply Pick.app_cons)) (by rfl)) ?_
                refine TrL.lenl rfl rfl se22 ?_
                refine TrL.lss rfl rfl rfl ?_
                refine TrL.nil (At.then_normal ?_)
                refine Tr.cond rfl (fun h150 => ?_) (fun h150 => ?_)
                · try simp only [beq_iff_eq, beq_eq_false_iff_ne, Bool.not_eq_true, Bool.not_eq_false, decide_eq_true_eq, decide_eq_false_iff_not, Bool.not_eq_true', Bool.not_eq_false', bne_iff_ne, Bool.not_eq_eq_eq_not, Bool.not_true, Bool.not_false, ne_eq, Decidable.not_not, Int.not_lt, Int.not_le] at h150
                  refine Tr.skip (At.then_normal ?_)
                  refine Tr.seq ?_
                  refine Tr.block ?_
                  refine Tr.regionQ mixed (by kernel_rfl) ?_
                  refine TrL.move rfl rfl ?_
                  refine TrL.move rfl rfl ?_
                  refine TrL.cases (t := 154) rfl (fun h154 => ?_) (fun h154 => ?_)
                  · try simp only [beq_iff_eq, beq_eq_false_iff_ne, Bool.not_eq_true, Bool.not_eq_false, decide_eq_true_eq, decide_eq_false_iff_not, Bool.not_eq_true', Bool.not_eq_false', bne_iff_ne, Bool.not_eq_eq_eq_not, Bool.not_true, Bool.not_false, ne_eq, Decidable.not_not, Int.not_lt, Int.not_le] at h154
                    refine TrL.unwant rfl rfl rfl ?_
                    refine TrL.unwant rfl rfl rfl ?_
                    refine TrL.unwant rfl rfl rfl ?_
                    refine TrL.unwant rfl rfl rfl ?_
                    refine TrL.unwant rfl rfl rfl ?_
                    refine TrL.unwant rfl rfl rfl ?_
                    refine TrL.unwant rfl rfl rfl ?_
                    refine TrL.unwant rfl rfl rfl ?_
                    refine TrL.unwant rfl rfl rfl ?_
                    refine TrL.unwant rfl rfl rfl ?_
                    refine TrL.unwant rfl rfl rfl ?_
                    refine TrL.unwant rfl rfl rfl ?_
                    refine TrL.unwantU rfl rfl rfl ?_
                    refine TrL.unwantU rfl rfl rfl ?_
                    refine TrL.unwantU rfl rfl rfl ?_
                    refine TrL.unwant rfl rfl rfl ?_
                    refine TrL.pickT rfl rfl rfl ?_
                    refine TrL.assign rfl rfl ?_
                    refine TrL.nilQ (At.block_normal (At.then_normal ?_))
                    refine Tr.region ?_
                    refine TrL.move rfl rfl ?_
                    refine TrL.addI rfl rfl rfl (by omega) ?_
                    refine TrL.assign rfl rfl ?_
                    refine TrL.nil ?_
                    have e6 : decide ((j : Int) ≠ (m : Int)) = decide (j ≠ m) := decide_eq_decide.2 (by omega)
                    have e5 : (tabEq (newT s (movE s x vv))[i2] ⟨s.next, vv, x.lo, x.hi⟩ || fnd s.tabs m (newT s (movE s x vv))[i2] (j + 1)) = ((tabEq (newT s (movE s x vv))[i2] ⟨s.next, vv, x.lo, x.hi⟩ || fnd s.tabs m (newT s (movE s x vv))[i2] j) || (tabEq s.tabs[j] (newT s (movE s x vv))[i2] && decide (j ≠ m))) := by rw [fnd_succ (by omega), Bool.or_assoc]
                    first | (rw [h154, Bool.true_or] at e5) | (rw [h154, Bool.false_or, show tabEq s.tabs[j] (newT s (movE s x vv))[i2] = true from h166, Bool.true_and, ← e6] at e5) | (rw [h154, Bool.false_or, show tabEq s.tabs[j] (newT s (movE s x vv))[i2] = false from h166, Bool.false_and] at e5)
                    refine At.again (j + 1) (by show j + 1 ≤ s.tabs.length; omega) (by omega) (by rw [e5]; repeat (first | exact Sub.nil | refine Sub.cons (by rfl) ?_)) (by repeat (first | exact Picks.nil | with_reducible exact Pick.here | with_reducible apply Pick.there | with_reducible apply Pick.app_nil | with_reducible apply Pick.app_cons | apply Picks.cons))
                  · try simp only [beq_iff_eq, beq_eq_false_iff_ne, Bool.not_eq_true, Bool.not_eq_false, decide_eq_true_eq, decide_eq_false_iff_not, Bool.not_eq_true', Bool.not_eq_false', bne_iff_ne, Bool.not_eq_eq_eq_not, Bool.not_true, Bool.not_false, ne_eq, Decidable.not_not, Int.not_lt, Int.not_le] at h154
                    refine TrL.want rfl rfl ?_
                    refine TrL.field0 rfl rfl fl38_0 ?_
                    refine TrL.want rfl rfl ?_
                    refine TrL.load1 rfl rfl sc22 (Sees.cl1 (by repeat (first | with_reducible exact Pick.here | with_reducible apply Pick.there | with_reducible apply Pick.app_nil | with_reducible apply Pick.app_cons)) (by rfl)) ?_
                    refine TrL.want rfl rfl ?_
                    refine TrL.move rfl rfl ?_
                    refine TrL.want rfl rfl ?_
                    refine TrL.indexAddr (i := j) rfl rfl rfl se22 sz46 rfl (by omega) ?_
                    refine TrL.want rfl rfl ?_
                    refine TrL.loadW (i := j) rfl rfl ag46 sz46 (by repeat (first | with_reducible exact Pick.here | with_reducible apply Pick.there | with_reducible apply Pick.app_nil | with_reducible apply Pick.app_cons)) rfl encT_len (List.getElem?_eq_getElem (by omega)) ?_
                    refine TrL.want rfl rfl ?_
                    refine TrL.field0 rfl rfl fl38_0 ?_
                    refine TrL.want rfl rfl ?_
                    refine TrL.load1 rfl rfl sc22 (Sees.cl1 (by repeat (first | with_reducible exact Pick.here | with_reducible apply Pick.there | with_reducible apply Pick.app_nil | with_reducible apply Pick.app_cons)) (by rfl)) ?_
                    refine TrL.want rfl rfl ?_
                    refine TrL.move rfl rfl ?_
                    refine TrL.want rfl rfl ?_
                    refine TrL.indexAddr (i := i2) rfl rfl rfl se22 sz46 rfl (by omega) ?_
                    refine TrL.want rfl rfl ?_
                    refine TrL.loadW (i := i2) rfl rfl ag46 sz46 (by repeat (first | with_reducible exact Pick.here | with_reducible apply Pick.there | with_reducible apply Pick.app_nil | with_reducible apply Pick.app_cons)) rfl encT_len (List.getElem?_eq_getElem (by omega)) ?_
                    refine TrL.want rfl rfl ?_
                    refine TrL.eqS rfl rfl rfl fk46 si46 eg46 (by rfl) ?_
                    rw [eq_raw]
                    refine TrL.want rfl rfl ?_
                    refine TrL.move rfl rfl ?_
                    refine TrL.cases (t := 166) rfl (fun h166 => ?_) (fun h166 => ?_)
                    · try simp only [beq_iff_eq, beq_eq_false_iff_ne, Bool.not_eq_true, Bool.not_eq_false, decide_eq_true_eq, decide_eq_false_iff_not, Bool.not_eq_true', Bool.not_eq_false', bne_iff_ne, Bool.not_eq_eq_eq_not, Bool.not_true, Bool.not_false, ne_eq, Decidable.not_not, Int.not_lt, Int.not_le] at h166
                      refine TrL.want rfl rfl ?_
                      refine TrL.move rfl rfl ?_
                      refine TrL.want rfl rfl ?_
                      refine TrL.move rfl rfl ?_
                      refine TrL.want rfl rfl ?_
                      refine TrL.nei rfl rfl rfl ?_
                      refine TrL.want rfl rfl ?_
                      refine TrL.pickT rfl rfl rfl ?_
                      refine TrL.pickF rfl rfl rfl ?_
                      refine TrL.assign rfl rfl ?_
                      refine TrL.nilQ (At.block_normal (At.then_normal ?_))
                      refine Tr.region ?_
                      refine TrL.move rfl rfl ?_
                      refine TrL.addI rfl rfl rfl (by omega) ?_
                      refine TrL.assign rfl rfl ?_
                      refine TrL.nil ?_
                      have e6 : decide ((j : Int) ≠ (m : Int)) = decide (j ≠ m) := decide_eq_decide.2 (by omega)
                      have e5 : (tabEq (newT s (movE s x vv))[i2] ⟨s.next, vv, x.lo, x.hi⟩ || fnd s.tabs m (newT s (movE s x vv))[i2] (j + 1)) = ((tabEq (newT s (movE s x vv))[i2] ⟨s.next, vv, x.lo, x.hi⟩ || fnd s.tabs m (newT s (movE s x vv))[i2] j) || (tabEq s.tabs[j] (newT s (movE s x vv))[i2] && decide (j ≠ m))) := by rw [fnd_succ (by omega), Bool.or_assoc]
                      first | (rw [h154, Bool.true_or] at e5) | (rw [h154, Bool.false_or, show tabEq s.tabs[j] (newT s (movE s x vv))[i2] = true from h166, Bool.true_and, ← e6] at e5) | (rw [h154, Bool.false_or, show tabEq s.tabs[j] (newT s (movE s x vv))[i2] = false from h166, Bool.false_and] at e5)
                      refine At.again (j + 1) (by show j + 1 ≤ s.tabs.length; omega) (by omega) (by rw [e5]; repeat (first | exact Sub.nil | refine Sub.cons (by rfl) ?_)) (by repeat (first | exact Picks.nil | with_reducible exact Pick.here | with_reducible apply Pick.there | with_reducible apply Pick.app_nil | with_reducible apply Pick.app_cons | apply Picks.cons))
                    · try simp only [beq_iff_eq, beq_eq_false_iff_ne, Bool.not_eq_true, Bool.not_eq_false, decide_eq_true_eq, decide_eq_false_iff_not, Bool.not_eq_true', Bool.not_eq_false', bne_iff_ne, Bool.not_eq_eq_eq_not, Bool.not_true, Bool.not_false, ne_eq, Decidable.not_not, Int.not_lt, Int.not_le] at h166
                      refine TrL.unwant rfl rfl rfl ?_
                      refine TrL.unwant rfl rfl rfl ?_
                      refine TrL.unwant rfl rfl rfl ?_
                      refine TrL.want rfl rfl ?_
                      refine TrL.pickF rfl rfl rfl ?_
                      refine TrL.pickF rfl rfl rfl ?_
                      refine TrL.assign rfl rfl ?_
                      refine TrL.nilQ (At.block_normal (At.then_normal ?_))
                      refine Tr.region ?_
                      refine TrL.move rfl rfl ?_
                      refine TrL.addI rfl rfl rfl (by omega) ?_
                      refine TrL.assign rfl rfl ?_
                      refine TrL.nil ?_
                      have e6 : decide ((j : Int) ≠ (m : Int)) = decide (j ≠ m) := decide_eq_decide.2 (by omega)
                      have e5 : (tabEq (newT s (movE s x vv))[i2] ⟨s.next, vv, x.lo, x.hi⟩ || fnd s.tabs m (newT s (movE s x vv))[i2] (j + 1)) = ((tabEq (newT s (movE s x vv))[i2] ⟨s.next, vv, x.lo, x.hi⟩ || fnd s.tabs m (newT s (movE s x vv))[i2] j) || (tabEq s.tabs[j] (newT s (movE s x vv))[i2] && decide (j ≠ m))) := by rw [fnd_succ (by omega), Bool.or_assoc]
                      first | (rw [h154, Bool.true_or] at e5) | (rw [h154, Bool.false_or, show tabEq s.tabs[j] (newT s (movE s x vv))[i2] = true from h166, Bool.true_and, ← e6] at e5) | (rw [h154, Bool.false_or, show tabEq s.tabs[j] (newT s (movE s x vv))[i2] = false from h166, Bool.false_and] at e5)
                      refine At.again (j + 1) (by show j + 1 ≤ s.tabs.length; omega) (by omega) (by rw [e5]; repeat (first | exact Sub.nil | refine Sub.cons (by rfl) ?_)) (by repeat (first | exact Picks.nil | with_reducible exact Pick.here | with_reducible apply Pick.there | with_reducible apply Pick.app_nil | with_reducible apply Pick.app_cons | apply Picks.cons))
                · try simp only [beq_iff_eq, beq_eq_false_iff_ne, Bool.not_eq_true, Bool.not_eq_false, decide_eq_true_eq, decide_eq_false_iff_not, Bool.not_eq_true', Bool.not_eq_false', bne_iff_ne, Bool.not_eq_eq_eq_not, Bool.not_true, Bool.not_false, ne_eq, Decidable.not_not, Int.not_lt, Int.not_le] at h150
                  refine Tr.exit (At.then_exit (At.then_exit (At.block_hit (At.then_normal ?_))))
                  refine Tr.seq ?_
                  have hj2 : j = s.tabs.length := by omega
                  subst hj2
                  have hfd : (tabEq (newT s (movE s x vv))[i2] ⟨s.next, vv, x.lo, x.hi⟩ || fnd s.tabs m (newT s (movE s x vv))[i2] s.tabs.length) = true := by
                    rcases move_mem hxm (List.getElem_mem (by omega : i2 < (newT s (movE s x vv)).length)) with h | ⟨k, h1, h2⟩
                    · rw [h, tabEq_self, Bool.true_or]
                    · rw [fnd_all h2 h1, Bool.or_true]
                  refine Tr.region ?_
                  refine TrL.move rfl rfl ?_
                  refine TrL.not rfl rfl ?_
                  refine TrL.knownB (t := 173) (c := false) rfl (by rw [hfd]; rfl) ?_
                  refine TrL.nil (At.then_normal ?_)
                  refine Tr.condF rfl ?_
                  refine Tr.skip (At.block_normal (At.then_normal ?_))
                  refine Tr.region ?_
                  refine TrL.move rfl rfl ?_
                  refine TrL.addI rfl rfl rfl (by omega) ?_
                  refine TrL.assign rfl rfl ?_
                  refine TrL.nil ?_
                  refine At.again (i2 + 1) (by show i2 + 1 ≤ _; omega) (by omega) (by repeat (first | exact Sub.nil | refine Sub.cons (by rfl) ?_)) (by repeat (first | exact Picks.nil | with_reducible exact Pick.here | with_reducible apply Pick.there | with_reducible apply Pick.app_nil | with_reducible apply Pick.app_cons | apply Picks.cons))
              · try simp only [beq_iff_eq, beq_eq_false_iff_ne, Bool.not_eq_true, Bool.not_eq_false, decide_eq_true_eq, decide_eq_false_iff_not, Bool.not_eq_true', Bool.not_eq_false', bne_iff_ne, Bool.not_eq_eq_eq_not, Bool.not_true, Bool.not_false, ne_eq, Decidable.not_not, Int.not_lt, Int.not_le] at h136
                refine Tr.exit (At.then_exit (At.then_exit (At.block_hit (At.then_normal ?_))))
                refine Tr.seq ?_
                refine Tr.region ?_
                refine TrL.call rfl rfl rfl ca10 .nil (fun Ft174 hUt174 => awake_spec ?_)
                refine TrL.assign rfl rfl ?_
                refine TrL.nil (At.then_normal ?_)
                refine Tr.ret (At.retP [] (.inl rfl) rfl (Res.tmp rfl Res.nil) (by repeat (first | exact Picks.nil | with_reducible exact Pick.here | with_reducible apply Pick.there | with_reducible apply Pick.app_nil | with_reducible apply Pick.app_cons | apply Picks.cons)) (by exact hK))
end Go.Proofs.Ytiefmfimbmkdjaa

/-
  The law ManifestReplays, walked.
  No condition but those that each statement names.
-/
import Derived.Test.YtiefmfimbmkdjaaMfS
namespace Go.Proofs.Ytiefmfimbmkdjaa
set_option linter.unusedSimpArgs false
set_option linter.unusedVariables false
set_option linter.unusedSectionVars false
open Go.RowKit
variable [Obs]


/-- the state behind some texts -/
noncomputable def replayR : Sta → List ByteArray → Sta × Int
  | s, [] => (s, 0)
  | s, t :: r => if (takeEd t.data.toList).2 = 0 then (if (applyF s (takeEd t.data.toList).1).2 = 0 then replayR (applyF s (takeEd t.data.toList).1).1 r else (zeroS, 120)) else (zeroS, 120)
theorem replay_ok {s : Sta} {l : List UInt8} {r : List ByteArray} (h1 : (takeEd l).2 = 0) (h2 : (applyF s (takeEd l).1).2 = 0) : replayR s (strOf l :: r) = replayR (applyF s (takeEd l).1).1 r := by
  rw [replayR, str_list, if_pos h1, if_pos h2]
theorem replay_bad1 {s : Sta} {l : List UInt8} {r : List ByteArray} (h1 : ¬ (takeEd l).2 = 0) : replayR s (strOf l :: r) = (zeroS, 120) := by
  rw [replayR, str_list, if_neg h1]
theorem replay_bad2 {s : Sta} {l : List UInt8} {r : List ByteArray} (h1 : (takeEd l).2 = 0) (h2 : ¬ (applyF s (takeEd l).1).2 = 0) : replayR s (strOf l :: r) = (zeroS, 120) := by
  rw [replayR, str_list, if_pos h1, if_neg h2]


set_option maxHeartbeats 8000000 in
theorem Replay_spec {F : Hp} {K : Value → List HProp → Prop} {p : Option Addr} {c : Nat} {ts : List ByteArray} (hT : SlIn F encS 1 p ts) (hl : ts.length ≤ 20) (hb : ∀ b ∈ ts, b.size ≤ 100000) (hK : ∀ p' c', K (.tuple #[.agg (stC p' c' (replayR zeroS ts).1).toArray, .int .i64 (replayR zeroS ts).2]) [RowC encT 4 p' (replayR zeroS ts).1.tabs]) : CallK Try.prog F 24 #[.slice p ts.length c] [] K := by
  refine CallK.enter Try.func24 rfl Try.ntmps24 rfl ?_
  refine Tr.seq ?_
  refine Tr.region ?_
  refine TrL.alloc rfl zc38 (fun b2 => ?_)
  refine TrL.assign rfl rfl ?_
  refine TrL.nil (At.then_normal ?_)
  refine Tr.seq ?_
  refine Tr.region ?_
  refine TrL.alloc rfl zc38 (fun b4 => ?_)
  refine TrL.nil (At.then_normal ?_)
  refine Tr.seq ?_
  refine Tr.seq ?_
  refine Tr.region ?_
  refine TrL.move rfl rfl ?_
  refine TrL.lenl rfl rfl se51 ?_
  refine TrL.move rfl rfl ?_
  refine TrL.nil (At.then_normal ?_)
  refine Tr.block ?_
  refine Tr.row0 encT 4 ?_
  refine Tr.loopK [0, 2, 4, 9, 10] (α := Nat × Sta × (Option Addr × Nat)) (fun y => [(11, .int .i64 (y.1 : Int))]) (fun y => [cl b4 (stC y.2.2.1 y.2.2.2 y.2.1) 38, RowC encT 4 y.2.2.1 y.2.1.tabs]) (fun y => y.1 ≤ ts.length ∧ Good y.2.1 ∧ y.2.1.tabs.length ≤ 128 * y.1 ∧ replayR y.2.1 (ts.drop y.1) = replayR zeroS ts) (fun y => ts.length - y.1) (0, zeroS, (none, 0)) (by rfl) ?_ (by repeat (first | exact Sub.nil | refine Sub.cons (by rfl) ?_)) (by repeat (first | exact Picks.nil | with_reducible exact Pick.here | exact Pick.here | with_reducible apply Pick.there | with_reducible apply Pick.app_nil | with_reducible apply Pick.app_cons | apply Picks.cons)) ?_
  · exact ⟨Nat.zero_le _, zeroS_good, Nat.zero_le _, rfl⟩
  rintro ⟨i, s, ⟨p1, c1⟩⟩ ⟨hy1, hg, hsl, hrep⟩
  dsimp only at hy1 hg hsl hrep ⊢
  refine Tr.seq ?_
  refine Tr.region ?_
  refine TrL.lss rfl rfl rfl ?_
  refine TrL.nil (At.then_normal ?_)
  refine Tr.seq ?_
  refine Tr.cond rfl (fun h12 => ?_) (fun h12 => ?_)
  · try simp only [beq_iff_eq, beq_eq_false_iff_ne, Bool.not_eq_true, Bool.not_eq_false, decide_eq_true_eq, decide_eq_false_iff_not, Bool.not_eq_true', Bool.not_eq_false', bne_iff_ne, Bool.not_eq_eq_eq_not, Bool.not_true, Bool.not_false, ne_eq, Decidable.not_not, Int.not_lt, Int.not_le] at h12
    refine Tr.skip (At.then_normal ?_)
    refine Tr.seq ?_
    refine Tr.block ?_
    refine Tr.seq ?_
    refine Tr.region ?_
    refine TrL.idxF rfl rfl rfl se51 sz9 hT rfl rfl rfl (List.getElem?_eq_getElem (show i < ts.length by omega)) (fun b13 o13 hp13 hc13 => ?_)
    refine TrL.loadR1 rfl rfl sc9 (Cells.part hc13 (j := 0) rfl) ?_
    refine TrL.assign rfl rfl ?_
    refine TrL.nil (At.then_normal ?_)
    refine Tr.seq ?_
    obtain ⟨lt, hlt, hltl⟩ := str_of ts[i]
    have hlb := hb ts[i] (List.getElem_mem _)
    have hcons : ts.drop i = strOf lt :: ts.drop (i + 1) := by rw [List.drop_eq_getElem_cons (by omega), hlt]
    rw [hlt]
    refine Tr.region ?_
    refine TrL.move rfl rfl ?_
    refine TrL.call rfl rfl rfl ca13 .nil (fun Ft17 hUt17 => Take_spec (l := lt) (by omega) (fun pa ca pd cd => ?_))
    refine TrL.move rfl rfl ?_
    refine TrL.extract rfl rfl rfl ?_
    refine TrL.extract rfl rfl rfl ?_
    refine TrL.alloc rfl zc25 (fun b7 => ?_)
    refine TrL.storeLA rfl rfl sz25 ⟨rfl, List.cons_ne_nil _ _⟩ rfl (by repeat (first | with_reducible exact Upd.here | with_reducible apply Upd.there | with_reducible apply Upd.app_nil | with_reducible apply Upd.app_cons)) (by rfl) ?_
    refine TrL.assign rfl rfl ?_
    refine TrL.nil (At.then_normal ?_)
    refine Tr.seq ?_
    refine Tr.seq ?_
    refine Tr.region ?_
    refine TrL.move rfl rfl ?_
    refine TrL.eqi rfl rfl rfl ?_
    refine TrL.nil (At.then_normal ?_)
    refine Tr.cond rfl (fun h21 => ?_) (fun h21 => ?_)
    · try simp only [beq_iff_eq, beq_eq_false_iff_ne, Bool.not_eq_true, Bool.not_eq_false, decide_eq_true_eq, decide_eq_false_iff_not, Bool.not_eq_true', Bool.not_eq_false', bne_iff_ne, Bool.not_eq_eq_eq_not, Bool.not_true, Bool.not_false, ne_eq, Decidable.not_not, Int.not_lt, Int.not_le] at h21
      refine Tr.region ?_
      refine TrL.loadLA rfl rfl ag38 sz38 (by repeat (first | with_reducible exact Pick.here | with_reducible apply Pick.there | with_reducible apply Pick.app_nil | with_reducible apply Pick.app_cons)) (by rfl) ?_
      refine TrL.loadLA rfl rfl ag25 sz25 (by repeat (first | with_reducible exact Pick.here | with_reducible apply Pick.there | with_reducible apply Pick.app_nil | with_reducible apply Pick.app_cons)) (by rfl) ?_
      refine TrL.call rfl rfl rfl ca18 .nil (fun Ft25 hUt25 => Apply_spec (s := s) (p := p1) (c := c1) (e := (takeEd lt).1) hg (RowC.up hUt25 (by repeat (first | with_reducible exact Pick.here | with_reducible apply Pick.there | with_reducible apply Pick.app_nil | with_reducible apply Pick.app_cons))) (by omega) (RowC.up hUt25 (by repeat (first | with_reducible exact Pick.here | with_reducible apply Pick.there | with_reducible apply Pick.app_nil | with_reducible apply Pick.app_cons))) (RowC.up hUt25 (by repeat (first | with_reducible exact Pick.here | with_reducible apply Pick.there | with_reducible apply Pick.app_nil | with_reducible apply Pick.app_cons))) (takeEd_add lt) (takeEd_drop lt) (fun p25 c25 => ?_))
      refine TrL.move rfl rfl ?_
      refine TrL.extract rfl rfl rfl ?_
      refine TrL.extract rfl rfl rfl ?_
      refine TrL.storeLA rfl rfl sz38 ⟨rfl, List.cons_ne_nil _ _⟩ rfl (by repeat (first | with_reducible exact Upd.here | with_reducible apply Upd.there | with_reducible apply Upd.app_nil | with_reducible apply Upd.app_cons)) (by rfl) ?_
      refine TrL.assign rfl rfl ?_
      refine TrL.nil (At.then_normal ?_)
      refine Tr.seq ?_
      refine Tr.region ?_
      refine TrL.move rfl rfl ?_
      refine TrL.nei rfl rfl rfl ?_
      refine TrL.nil (At.then_normal ?_)
      refine Tr.cond rfl (fun h29 => ?_) (fun h29 => ?_)
      · try simp only [beq_iff_eq, beq_eq_false_iff_ne, Bool.not_eq_true, Bool.not_eq_false, decide_eq_true_eq, decide_eq_false_iff_not, Bool.not_eq_true', Bool.not_eq_false', bne_iff_ne, Bool.not_eq_eq_eq_not, Bool.not_true, Bool.not_false, ne_eq, Decidable.not_not, Int.not_lt, Int.not_le] at h29
        refine Tr.seq ?_
        refine Tr.region ?_
        refine TrL.build rfl rfl pl38 zc38 rfl ?_
        refine TrL.storeLA rfl rfl sz38 ⟨rfl, List.cons_ne_nil _ _⟩ rfl (by repeat (first | with_reducible exact Upd.here | with_reducible apply Upd.there | with_reducible apply Upd.app_nil | with_reducible apply Upd.app_cons)) (by rfl) ?_
        refine TrL.assign rfl rfl ?_
        refine TrL.nil (At.then_normal ?_)
        refine Tr.ret (At.block_ret (At.then_ret (At.then_ret (At.block_ret (At.then_ret (At.retX [] (.inl rfl) rfl (Res.cellLA rfl ag38 sz38 (by repeat (first | with_reducible exact Pick.here | with_reducible apply Pick.there | with_reducible apply Pick.app_nil | with_reducible apply Pick.app_cons)) (by rfl) (Res.tmp rfl Res.nil)) (by repeat (first | exact Picks.nil | with_reducible exact Pick.here | with_reducible apply Pick.there | with_reducible apply Pick.app_nil | with_reducible apply Pick.app_cons | apply Picks.cons)) (by 
            refine ⟨[RowC encT 4 none ([] : List Tab)], fun h _ => one_stars (RowC.nil _), ?_⟩
            have e1 : replayR zeroS ts = (zeroS, 120) := by
              rw [← hrep, hcons]
              exact replay_bad2 h21 h29
            have e2 := hK none 0
            rw [e1] at e2
            exact e2)))))))
      · try simp only [beq_iff_eq, beq_eq_false_iff_ne, Bool.not_eq_true, Bool.not_eq_false, decide_eq_true_eq, decide_eq_false_iff_not, Bool.not_eq_true', Bool.not_eq_false', bne_iff_ne, Bool.not_eq_eq_eq_not, Bool.not_true, Bool.not_false, ne_eq, Decidable.not_not, Int.not_lt, Int.not_le] at h29
        refine Tr.skip (At.block_normal (At.then_normal ?_))
        refine Tr.region ?_
        refine TrL.addI rfl rfl rfl (by omega) ?_
        refine TrL.move rfl rfl ?_
        refine TrL.nil ?_
        obtain ⟨g2, l2⟩ := good_next (e := (takeEd lt).1) hg hsl h29
        refine At.again (i + 1, (applyF s (takeEd lt).1).1, (p25, c25)) ⟨by show i + 1 ≤ ts.length; omega, g2, l2, by rw [← hrep, hcons]; exact (replay_ok h21 h29).symm⟩ (by show ts.length - (i + 1) < ts.length - i; omega) (by repeat (first | exact Sub.nil | refine Sub.cons (by rfl) ?_)) (by repeat (first | exact Picks.nil | with_reducible exact Pick.here | with_reducible apply Pick.there | with_reducible apply Pick.app_nil | with_reducible apply Pick.app_cons | apply Picks.cons))
    · try simp only [beq_iff_eq, beq_eq_false_iff_ne, Bool.not_eq_true, Bool.not_eq_false, decide_eq_true_eq, decide_eq_false_iff_not, Bool.not_eq_true', Bool.not_eq_false', bne_iff_ne, Bool.not_eq_eq_eq_not, Bool.not_true, Bool.not_false, ne_eq, Decidable.not_not, Int.not_lt, Int.not_le] at h21
      refine Tr.skip (At.then_normal ?_)
      refine Tr.seq ?_
      refine Tr.region ?_
      refine TrL.move rfl rfl ?_
      refine TrL.nei rfl rfl rfl ?_
      refine TrL.nil (At.then_normal ?_)
      refine Tr.cond rfl (fun h29 => ?_) (fun h29 => ?_)
      · try simp only [beq_iff_eq, beq_eq_false_iff_ne, Bool.not_eq_true, Bool.not_eq_false, decide_eq_true_eq, decide_eq_false_iff_not, Bool.not_eq_true', Bool.not_eq_false', bne_iff_ne, Bool.not_eq_eq_eq_not, Bool.not_true, Bool.not_false, ne_eq, Decidable.not_not, Int.not_lt, Int.not_le] at h29
        refine Tr.seq ?_
        refine Tr.region ?_
        refine TrL.build rfl rfl pl38 zc38 rfl ?_
        refine TrL.storeLA rfl rfl sz38 ⟨rfl, List.cons_ne_nil _ _⟩ rfl (by repeat (first | with_reducible exact Upd.here | with_reducible apply Upd.there | with_reducible apply Upd.app_nil | with_reducible apply Upd.app_cons)) (by rfl) ?_
        refine TrL.assign rfl rfl ?_
        refine TrL.nil (At.then_normal ?_)
        refine Tr.ret (At.block_ret (At.then_ret (At.then_ret (At.block_ret (At.then_ret (At.retX [] (.inl rfl) rfl (Res.cellLA rfl ag38 sz38 (by repeat (first | with_reducible exact Pick.here | with_reducible apply Pick.there | with_reducible apply Pick.app_nil | with_reducible apply Pick.app_cons)) (by rfl) (Res.tmp rfl Res.nil)) (by repeat (first | exact Picks.nil | with_reducible exact Pick.here | with_reducible apply Pick.there | with_reducible apply Pick.app_nil | with_reducible apply Pick.app_cons | apply Picks.cons)) (by 
            refine ⟨[RowC encT 4 none ([] : List Tab)], fun h _ => one_stars (RowC.nil _), ?_⟩
            have e1 : replayR zeroS ts = (zeroS, 120) := by
              rw [← hrep, hcons]
              exact replay_bad1 h21
            have e2 := hK none 0
            rw [e1] at e2
            exact e2)))))))
      · try simp only [beq_iff_eq, beq_eq_false_iff_ne, Bool.not_eq_true, Bool.not_eq_false, decide_eq_true_eq, decide_eq_false_iff_not, Bool.not_eq_true', Bool.not_eq_false', bne_iff_ne, Bool.not_eq_eq_eq_not, Bool.not_true, Bool.not_false, ne_eq, Decidable.not_not, Int.not_lt, Int.not_le] at h29
        exact absurd h29 h21
        --END
  · try simp only [beq_iff_eq, beq_eq_false_iff_ne, Bool.not_eq_true, Bool.not_eq_false, decide_eq_true_eq, decide_eq_false_iff_not, Bool.not_eq_true', Bool.not_eq_false', bne_iff_ne, Bool.not_eq_eq_eq_not, Bool.not_true, Bool.not_false, ne_eq, Decidable.not_not, Int.not_lt, Int.not_le] at h12
    refine Tr.exit (At.then_exit (At.then_exit (At.block_hit (At.then_normal ?_))))
    refine Tr.seq ?_
    refine Tr.region ?_
    refine TrL.loadLA rfl rfl ag38 sz38 (by repeat (first | with_reducible exact Pick.here | with_reducible apply Pick.there | with_reducible apply Pick.app_nil | with_reducible apply Pick.app_cons)) (by rfl) ?_
    refine TrL.storeLA rfl rfl sz38 ⟨rfl, List.cons_ne_nil _ _⟩ rfl (by repeat (first | with_reducible exact Upd.here | with_reducible apply Upd.there | with_reducible apply Upd.app_nil | with_reducible apply Upd.app_cons)) (by rfl) ?_
    refine TrL.assign rfl rfl ?_
    refine TrL.nil (At.then_normal ?_)
    refine Tr.ret (At.retX [RowC encT 4 p1 s.tabs] (.inl rfl) rfl (Res.cellLA rfl ag38 sz38 (by repeat (first | with_reducible exact Pick.here | with_reducible apply Pick.there | with_reducible apply Pick.app_nil | with_reducible apply Pick.app_cons)) (by rfl) (Res.tmp rfl Res.nil)) (by repeat (first | exact Picks.nil | with_reducible exact Pick.here | with_reducible apply Pick.there | with_reducible apply Pick.app_nil | with_reducible apply Pick.app_cons | apply Picks.cons)) (by 
        have e1 : replayR zeroS ts = (s, 0) := by rw [← hrep, List.drop_of_length_le (by omega)]; rfl
        have e2 := hK p1 c1
        rw [e1] at e2
        exact ⟨_, fun h hs => hs, e2⟩))

set_option maxHeartbeats 8000000 in
theorem ReplayR_spec {F : Hp} {K : Value → List HProp → Prop} {p : Option Addr} {c : Nat} {ts : List ByteArray} (hT : SlIn F encS 1 p ts) (hl : ts.length ≤ 20) (hb : ∀ b ∈ ts, b.size ≤ 100000) (hK : ∀ p' c', K (.tuple #[.agg (stC p' c' (replayR zeroS ts).1).toArray, .int .i64 (replayR zeroS ts).2]) [RowC encT 4 p' (replayR zeroS ts).1.tabs]) : CallK Try.prog F 25 #[.slice p ts.length c] [] K := by
  refine CallK.enter Try.func25 rfl Try.ntmps25 rfl ?_
  refine Tr.seq ?_
  refine Tr.region ?_
  refine TrL.alloc rfl zc38 (fun b2 => ?_)
  refine TrL.assign rfl rfl ?_
  refine TrL.nil (At.then_normal ?_)
  refine Tr.seq ?_
  refine Tr.region ?_
  refine TrL.build rfl rfl pl38 zc38 rfl ?_
  refine TrL.alloc rfl zc38 (fun b4 => ?_)
  refine TrL.storeLA rfl rfl sz38 ⟨rfl, List.cons_ne_nil _ _⟩ rfl (by repeat (first | with_reducible exact Upd.here | with_reducible apply Upd.there | with_reducible apply Upd.app_nil | with_reducible apply Upd.app_cons)) (by rfl) ?_
  refine TrL.nil (At.then_normal ?_)
  refine Tr.seq ?_
  refine Tr.seq ?_
  refine Tr.region ?_
  refine TrL.assign rfl rfl ?_
  refine TrL.nil (At.then_normal ?_)
  refine Tr.block ?_
  refine Tr.row0 encT 4 ?_
  refine Tr.loopK [0, 2, 4] (α := Nat × Sta × (Option Addr × Nat)) (fun y => [(5, .int .i64 (y.1 : Int))]) (fun y => [cl b4 (stC y.2.2.1 y.2.2.2 y.2.1) 38, RowC encT 4 y.2.2.1 y.2.1.tabs]) (fun y => y.1 ≤ ts.length ∧ Good y.2.1 ∧ y.2.1.tabs.length ≤ 128 * y.1 ∧ replayR y.2.1 (ts.drop y.1) = replayR zeroS ts) (fun y => ts.length - y.1) (0, zeroS, (none, 0)) (by rfl) ?_ (by repeat (first | exact Sub.nil | refine Sub.cons (by rfl) ?_)) (by repeat (first | exact Picks.nil | with_reducible exact Pick.here | exact Pick.here | with_reducible apply Pick.there | with_reducible apply Pick.app_nil | with_reducible apply Pick.app_cons | apply Picks.cons)) ?_
  · exact ⟨Nat.zero_le _, zeroS_good, Nat.zero_le _, rfl⟩
  rintro ⟨i, s, ⟨p1, c1⟩⟩ ⟨hy1, hg, hsl, hrep⟩
  dsimp only at hy1 hg hsl hrep ⊢
  refine Tr.seq ?_
  refine Tr.seq ?_
  refine Tr.region ?_
  refine TrL.move rfl rfl ?_
  refine TrL.move rfl rfl ?_
  refine TrL.lenl rfl rfl se51 ?_
  refine TrL.lss rfl rfl rfl ?_
  refine TrL.nil (At.then_normal ?_)
  refine Tr.cond rfl (fun h14 => ?_) (fun h14 => ?_)
  · try simp only [beq_iff_eq, beq_eq_false_iff_ne, Bool.not_eq_true, Bool.not_eq_false, decide_eq_true_eq, decide_eq_false_iff_not, Bool.not_eq_true', Bool.not_eq_false', bne_iff_ne, Bool.not_eq_eq_eq_not, Bool.not_true, Bool.not_false, ne_eq, Decidable.not_not, Int.not_lt, Int.not_le] at h14
    refine Tr.skip (At.then_normal ?_)
    refine Tr.seq ?_
    refine Tr.block ?_
    refine Tr.seq ?_
    refine Tr.region ?_
    refine TrL.move rfl rfl ?_
    refine TrL.move rfl rfl ?_
    refine TrL.idxF rfl rfl rfl se51 sz9 hT rfl rfl rfl (List.getElem?_eq_getElem (show i < ts.length by omega)) (fun b20 o20 hp20 hc20 => ?_)
    refine TrL.loadR1 rfl rfl sc9 (Cells.part hc20 (j := 0) rfl) ?_
    obtain ⟨lt, hlt, hltl⟩ := str_of ts[i]
    have hlb := hb ts[i] (List.getElem_mem _)
    have hcons : ts.drop i = strOf lt :: ts.drop (i + 1) := by rw [List.drop_eq_getElem_cons (by omega), hlt]
    rw [hlt]
    refine TrL.call rfl rfl rfl ca14 .nil (fun Ft22 hUt22 => TakeR_spec (l := lt) (by omega) (fun pa ca pd cd => ?_))
    refine TrL.move rfl rfl ?_
    refine TrL.extract rfl rfl rfl ?_
    refine TrL.extract rfl rfl rfl ?_
    refine TrL.alloc rfl zc25 (fun b6 => ?_)
    refine TrL.storeLA rfl rfl sz25 ⟨rfl, List.cons_ne_nil _ _⟩ rfl (by repeat (first | with_reducible exact Upd.here | with_reducible apply Upd.there | with_reducible apply Upd.app_nil | with_reducible apply Upd.app_cons)) (by rfl) ?_
    refine TrL.assign rfl rfl ?_
    refine TrL.nil (At.then_normal ?_)
    refine Tr.seq ?_
    refine Tr.seq ?_
    refine Tr.region ?_
    refine TrL.move rfl rfl ?_
    refine TrL.nei rfl rfl rfl ?_
    refine TrL.nil (At.then_normal ?_)
    refine Tr.cond rfl (fun h26 => ?_) (fun h26 => ?_)
    · try simp only [beq_iff_eq, beq_eq_false_iff_ne, Bool.not_eq_true, Bool.not_eq_false, decide_eq_true_eq, decide_eq_false_iff_not, Bool.not_eq_true', Bool.not_eq_false', bne_iff_ne, Bool.not_eq_eq_eq_not, Bool.not_true, Bool.not_false, ne_eq, Decidable.not_not, Int.not_lt, Int.not_le] at h26
      refine Tr.seq ?_
      refine Tr.region ?_
      refine TrL.build rfl rfl pl38 zc38 rfl ?_
      refine TrL.storeLA rfl rfl sz38 ⟨rfl, List.cons_ne_nil _ _⟩ rfl (by repeat (first | with_reducible exact Upd.here | with_reducible apply Upd.there | with_reducible apply Upd.app_nil | with_reducible apply Upd.app_cons)) (by rfl) ?_
      refine TrL.assign rfl rfl ?_
      refine TrL.nil (At.then_normal ?_)
      refine Tr.ret (At.then_ret (At.block_ret (At.then_ret (At.then_ret (At.block_ret (At.then_ret (At.retX [] (.inl rfl) rfl (Res.cellLA rfl ag38 sz38 (by repeat (first | with_reducible exact Pick.here | with_reducible apply Pick.there | with_reducible apply Pick.app_nil | with_reducible apply Pick.app_cons)) (by rfl) (Res.tmp rfl Res.nil)) (by repeat (first | exact Picks.nil | with_reducible exact Pick.here | with_reducible apply Pick.there | with_reducible apply Pick.app_nil | with_reducible apply Pick.app_cons | apply Picks.cons)) (by 
          refine ⟨[RowC encT 4 none ([] : List Tab)], fun h _ => one_stars (RowC.nil _), ?_⟩
          have e1 : replayR zeroS ts = (zeroS, 120) := by
            rw [← hrep, hcons]
            exact replay_bad1 h26
          have e2 := hK none 0
          rw [e1] at e2
          exact e2))))))))
    · try simp only [beq_iff_eq, beq_eq_false_iff_ne, Bool.not_eq_true, Bool.not_eq_false, decide_eq_true_eq, decide_eq_false_iff_not, Bool.not_eq_true', Bool.not_eq_false', bne_iff_ne, Bool.not_eq_eq_eq_not, Bool.not_true, Bool.not_false, ne_eq, Decidable.not_not, Int.not_lt, Int.not_le] at h26
      refine Tr.skip (At.then_normal ?_)
      refine Tr.seq ?_
      refine Tr.region ?_
      refine TrL.loadLA rfl rfl ag38 sz38 (by repeat (first | with_reducible exact Pick.here | with_reducible apply Pick.there | with_reducible apply Pick.app_nil | with_reducible apply Pick.app_cons)) (by rfl) ?_
      refine TrL.loadLA rfl rfl ag25 sz25 (by repeat (first | with_reducible exact Pick.here | with_reducible apply Pick.there | with_reducible apply Pick.app_nil | with_reducible apply Pick.app_cons)) (by rfl) ?_
      refine TrL.call rfl rfl rfl ca19 .nil (fun Ft31 hUt31 => ApplyR_spec (s := s) (p := p1) (c := c1) (e := (takeEd lt).1) (RowC.up hUt31 (by repeat (first | with_reducible exact Pick.here | with_reducible apply Pick.there | with_reducible apply Pick.app_nil | with_reducible apply Pick.app_cons))) (by omega) (RowC.up hUt31 (by repeat (first | with_reducible exact Pick.here | with_reducible apply Pick.there | with_reducible apply Pick.app_nil | with_reducible apply Pick.app_cons))) (RowC.up hUt31 (by repeat (first | with_reducible exact Pick.here | with_reducible apply Pick.there | with_reducible apply Pick.app_nil | with_reducible apply Pick.app_cons))) (takeEd_add lt) (takeEd_drop lt) (fun p31 c31 => ?_))
      refine TrL.move rfl rfl ?_
      refine TrL.extract rfl rfl rfl ?_
      refine TrL.extract rfl rfl rfl ?_
      refine TrL.alloc rfl zc38 (fun b8 => ?_)
      refine TrL.storeLA rfl rfl sz38 ⟨rfl, List.cons_ne_nil _ _⟩ rfl (by repeat (first | with_reducible exact Upd.here | with_reducible apply Upd.there | with_reducible apply Upd.app_nil | with_reducible apply Upd.app_cons)) (by rfl) ?_
      refine TrL.assign rfl rfl ?_
      refine TrL.nil (At.then_normal ?_)
      refine Tr.seq ?_
      refine Tr.seq ?_
      refine Tr.region ?_
      refine TrL.move rfl rfl ?_
      refine TrL.nei rfl rfl rfl ?_
      refine TrL.nil (At.then_normal ?_)
      refine Tr.cond rfl (fun h35 => ?_) (fun h35 => ?_)
      · try simp only [beq_iff_eq, beq_eq_false_iff_ne, Bool.not_eq_true, Bool.not_eq_false, decide_eq_true_eq, decide_eq_false_iff_not, Bool.not_eq_true', Bool.not_eq_false', bne_iff_ne, Bool.not_eq_eq_eq_not, Bool.not_true, Bool.not_false, ne_eq, Decidable.not_not, Int.not_lt, Int.not_le] at h35
        refine Tr.seq ?_
        refine Tr.region ?_
        refine TrL.build rfl rfl pl38 zc38 rfl ?_
        refine TrL.storeLA rfl rfl sz38 ⟨rfl, List.cons_ne_nil _ _⟩ rfl (by repeat (first | with_reducible exact Upd.here | with_reducible apply Upd.there | with_reducible apply Upd.app_nil | with_reducible apply Upd.app_cons)) (by rfl) ?_
        refine TrL.assign rfl rfl ?_
        refine TrL.nil (At.then_normal ?_)
        refine Tr.ret (At.then_ret (At.block_ret (At.then_ret (At.then_ret (At.block_ret (At.then_ret (At.retX [] (.inl rfl) rfl (Res.cellLA rfl ag38 sz38 (by repeat (first | with_reducible exact Pick.here | with_reducible apply Pick.there | with_reducible apply Pick.app_nil | with_reducible apply Pick.app_cons)) (by rfl) (Res.tmp rfl Res.nil)) (by repeat (first | exact Picks.nil | with_reducible exact Pick.here | with_reducible apply Pick.there | with_reducible apply Pick.app_nil | with_reducible apply Pick.app_cons | apply Picks.cons)) (by 
            refine ⟨[RowC encT 4 none ([] : List Tab)], fun h _ => one_stars (RowC.nil _), ?_⟩
            have e1 : replayR zeroS ts = (zeroS, 120) := by
              rw [← hrep, hcons]
              exact replay_bad2 h26 h35
            have e2 := hK none 0
            rw [e1] at e2
            exact e2))))))))
      · try simp only [beq_iff_eq, beq_eq_false_iff_ne, Bool.not_eq_true, Bool.not_eq_false, decide_eq_true_eq, decide_eq_false_iff_not, Bool.not_eq_true', Bool.not_eq_false', bne_iff_ne, Bool.not_eq_eq_eq_not, Bool.not_true, Bool.not_false, ne_eq, Decidable.not_not, Int.not_lt, Int.not_le] at h35
        refine Tr.skip (At.then_normal ?_)
        refine Tr.region ?_
        refine TrL.loadLA rfl rfl ag38 sz38 (by repeat (first | with_reducible exact Pick.here | with_reducible apply Pick.there | with_reducible apply Pick.app_nil | with_reducible apply Pick.app_cons)) (by rfl) ?_
        refine TrL.storeLA rfl rfl sz38 ⟨rfl, List.cons_ne_nil _ _⟩ rfl (by repeat (first | with_reducible exact Upd.here | with_reducible apply Upd.there | with_reducible apply Upd.app_nil | with_reducible apply Upd.app_cons)) (by rfl) ?_
        refine TrL.nil (At.block_normal (At.then_normal ?_))
        refine Tr.region ?_
        refine TrL.move rfl rfl ?_
        refine TrL.addI rfl rfl rfl (by omega) ?_
        refine TrL.assign rfl rfl ?_
        refine TrL.nil ?_
        obtain ⟨g2, l2⟩ := good_next (e := (takeEd lt).1) hg hsl h35
        refine At.again (i + 1, (applyF s (takeEd lt).1).1, (p31, c31)) ⟨by show i + 1 ≤ ts.length; omega, g2, l2, by rw [← hrep, hcons]; exact (replay_ok h26 h35).symm⟩ (by show ts.length - (i + 1) < ts.length - i; omega) (by repeat (first | exact Sub.nil | refine Sub.cons (by rfl) ?_)) (by repeat (first | exact Picks.nil | with_reducible exact Pick.here | with_reducible apply Pick.there | with_reducible apply Pick.app_nil | with_reducible apply Pick.app_cons | apply Picks.cons))
  · try simp only [beq_iff_eq, beq_eq_false_iff_ne, Bool.not_eq_true, Bool.not_eq_false, decide_eq_true_eq, decide_eq_false_iff_not, Bool.not_eq_true', Bool.not_eq_false', bne_iff_ne, Bool.not_eq_eq_eq_not, Bool.not_true, Bool.not_false, ne_eq, Decidable.not_not, Int.not_lt, Int.not_le] at h14
    refine Tr.exit (At.then_exit (At.then_exit (At.block_hit (At.then_normal ?_))))
    refine Tr.seq ?_
    refine Tr.region ?_
    refine TrL.loadLA rfl rfl ag38 sz38 (by repeat (first | with_reducible exact Pick.here | with_reducible apply Pick.there | with_reducible apply Pick.app_nil | with_reducible apply Pick.app_cons)) (by rfl) ?_
    refine TrL.storeLA rfl rfl sz38 ⟨rfl, List.cons_ne_nil _ _⟩ rfl (by repeat (first | with_reducible exact Upd.here | with_reducible apply Upd.there | with_reducible apply Upd.app_nil | with_reducible apply Upd.app_cons)) (by rfl) ?_
    refine TrL.assign rfl rfl ?_
    refine TrL.nil (At.then_normal ?_)
    refine Tr.ret (At.retX [RowC encT 4 p1 s.tabs] (.inl rfl) rfl (Res.cellLA rfl ag38 sz38 (by repeat (first | with_reducible exact Pick.here | with_reducible apply Pick.there | with_reducible apply Pick.app_nil | with_reducible apply Pick.app_cons)) (by rfl) (Res.tmp rfl Res.nil)) (by repeat (first | exact Picks.nil | with_reducible exact Pick.here | with_reducible apply Pick.there | with_reducible apply Pick.app_nil | with_reducible apply Pick.app_cons | apply Picks.cons)) (by 
        have e1 : replayR zeroS ts = (s, 0) := by rw [← hrep, List.drop_of_length_le (by omega)]; rfl
        have e2 := hK p1 c1
        rw [e1] at e2
        exact ⟨_, fun h hs => hs, e2⟩))

theorem replay_len : ∀ (ts : List ByteArray) (s : Sta), (replayR s ts).1.tabs.length ≤ s.tabs.length + 128 * ts.length
  | [], s => by simp [replayR]
  | t :: r, s => by
    unfold replayR
    split
    · split
      · have h1 := replay_len r (applyF s (takeEd t.data.toList).1).1
        have h2 := applyF_len s (takeEd t.data.toList).1
        simp only [List.length_cons]; omega
      · simp [zeroS]
    · simp [zeroS]
theorem replay_small {ts : List ByteArray} (h : ts.length ≤ 1000) : (replayR zeroS ts).1.tabs.length ≤ 9223372036854775807 := by
  have := replay_len ts zeroS
  have h2 : zeroS.tabs.length = 0 := rfl
  omega

set_option maxHeartbeats 8000000 in
theorem ManifestReplays_spec {F : Hp} {K : Value → List HProp → Prop} {p : Option Addr} {c : Nat} {ts : List ByteArray} (hT : SlIn F encS 1 p ts) {pe : Option Addr} {ce : Nat} {l : List EdA} (hL : SlIn F encE 4 pe l) (hok : ∀ x ∈ l, EdOk F x) (hK : K (.bool true) []) : CallK Try.prog F 8 #[.slice p ts.length c, .slice pe l.length ce] [] K := by
  refine CallK.enter Try.func8 rfl Try.ntmps8 rfl ?_
  refine Tr.seq ?_
  refine Tr.region ?_
  refine TrL.assign rfl rfl ?_
  refine TrL.nil (At.then_normal ?_)
  refine Tr.seq ?_
  refine Tr.seq ?_
  refine Tr.region ?_
  refine TrL.move rfl rfl ?_
  refine TrL.lenl rfl rfl se51 ?_
  refine TrL.gtr rfl rfl rfl ?_
  refine TrL.move rfl rfl ?_
  refine TrL.cases (t := 21) rfl (fun h21 => ?_) (fun h21 => ?_)
  · try simp only [beq_iff_eq, beq_eq_false_iff_ne, Bool.not_eq_true, Bool.not_eq_false, decide_eq_true_eq, decide_eq_false_iff_not, Bool.not_eq_true', Bool.not_eq_false', bne_iff_ne, Bool.not_eq_eq_eq_not, Bool.not_true, Bool.not_false, ne_eq, Decidable.not_not, Int.not_lt, Int.not_le] at h21
    refine TrL.unwant rfl rfl rfl ?_
    refine TrL.unwant rfl rfl rfl ?_
    refine TrL.unwant rfl rfl rfl ?_
    refine TrL.pickT rfl rfl rfl ?_
    refine TrL.nil (At.then_normal ?_)
    refine Tr.condT rfl ?_
    refine Tr.seq ?_
    refine Tr.region ?_
    refine TrL.call rfl rfl rfl ca10 .nil (fun Ft26 hUt26 => awake_spec ?_)
    refine TrL.assign rfl rfl ?_
    refine TrL.nil (At.then_normal ?_)
    refine Tr.ret (At.then_ret (At.retP [] (.inl rfl) rfl (Res.tmp rfl Res.nil) (by repeat (first | exact Picks.nil | with_reducible exact Pick.here | with_reducible apply Pick.there | with_reducible apply Pick.app_nil | with_reducible apply Pick.app_cons | apply Picks.cons)) (by exact hK)))
  · try simp only [beq_iff_eq, beq_eq_false_iff_ne, Bool.not_eq_true, Bool.not_eq_false, decide_eq_true_eq, decide_eq_false_iff_not, Bool.not_eq_true', Bool.not_eq_false', bne_iff_ne, Bool.not_eq_eq_eq_not, Bool.not_true, Bool.not_false, ne_eq, Decidable.not_not, Int.not_lt, Int.not_le] at h21
    refine TrL.want rfl rfl ?_
    refine TrL.move rfl rfl ?_
    refine TrL.want rfl rfl ?_
    refine TrL.lenl rfl rfl se36 ?_
    refine TrL.want rfl rfl ?_
    refine TrL.gtr rfl rfl rfl ?_
    refine TrL.pickF rfl rfl rfl ?_
    refine TrL.nil (At.then_normal ?_)
    refine Tr.cond rfl (fun h25 => ?_) (fun h25 => ?_)
    · try simp only [beq_iff_eq, beq_eq_false_iff_ne, Bool.not_eq_true, Bool.not_eq_false, decide_eq_true_eq, decide_eq_false_iff_not, Bool.not_eq_true', Bool.not_eq_false', bne_iff_ne, Bool.not_eq_eq_eq_not, Bool.not_true, Bool.not_false, ne_eq, Decidable.not_not, Int.not_lt, Int.not_le] at h25
      refine Tr.seq ?_
      refine Tr.region ?_
      refine TrL.call rfl rfl rfl ca10 .nil (fun Ft26 hUt26 => awake_spec ?_)
      refine TrL.assign rfl rfl ?_
      refine TrL.nil (At.then_normal ?_)
      refine Tr.ret (At.then_ret (At.retP [] (.inl rfl) rfl (Res.tmp rfl Res.nil) (by repeat (first | exact Picks.nil | with_reducible exact Pick.here | with_reducible apply Pick.there | with_reducible apply Pick.app_nil | with_reducible apply Pick.app_cons | apply Picks.cons)) (by exact hK)))
    · try simp only [beq_iff_eq, beq_eq_false_iff_ne, Bool.not_eq_true, Bool.not_eq_false, decide_eq_true_eq, decide_eq_false_iff_not, Bool.not_eq_true', Bool.not_eq_false', bne_iff_ne, Bool.not_eq_eq_eq_not, Bool.not_true, Bool.not_false, ne_eq, Decidable.not_not, Int.not_lt, Int.not_le] at h25
      refine Tr.skip (At.then_normal ?_)
      refine Tr.seq ?_
      refine Tr.region ?_
      refine TrL.assign rfl rfl ?_
      refine TrL.nil (At.then_normal ?_)
      refine Tr.seq ?_
      refine Tr.seq ?_
      refine Tr.own0 9 1 encS ?_
      refine Tr.region ?_
      refine TrL.assign rfl rfl ?_
      refine TrL.nil (At.then_normal ?_)
      refine Tr.block ?_
      refine Tr.loopK [0, 1, 4] (α := Nat × List ByteArray × (Option Addr × Nat)) (fun y => [(6, .int .i64 (y.1 : Int)), (5, .slice y.2.2.1 y.2.1.length y.2.2.2)]) (fun y => [Own 9 1 encS y.2.2.1 y.2.2.2 y.2.1]) (fun y => y.1 ≤ l.length ∧ y.2.1.length ≤ y.1 ∧ ∀ b ∈ y.2.1, b.size ≤ 100000) (fun y => l.length - y.1) (0, [], (none, 0)) (by rfl) ?_ (by repeat (first | exact Sub.nil | refine Sub.cons (by rfl) ?_)) (by repeat (first | exact Picks.nil | with_reducible exact Pick.here | with_reducible apply Pick.there | with_reducible apply Pick.app_nil | with_reducible apply Pick.app_cons | apply Picks.cons)) ?_
      · exact ⟨Nat.zero_le _, Nat.zero_le _, by simp⟩
      rintro ⟨i, us, ⟨p5, c5⟩⟩ ⟨hy1, hul, hbu⟩
      dsimp only at hy1 hul hbu ⊢
      refine Tr.seq ?_
      refine Tr.seq ?_
      refine Tr.region ?_
      refine TrL.move rfl rfl ?_
      refine TrL.move rfl rfl ?_
      refine TrL.lenl rfl rfl se36 ?_
      refine TrL.lss rfl rfl rfl ?_
      refine TrL.nil (At.then_normal ?_)
      refine Tr.cond rfl (fun h30 => ?_) (fun h30 => ?_)
      · try simp only [beq_iff_eq, beq_eq_false_iff_ne, Bool.not_eq_true, Bool.not_eq_false, decide_eq_true_eq, decide_eq_false_iff_not, Bool.not_eq_true', Bool.not_eq_false', bne_iff_ne, Bool.not_eq_eq_eq_not, Bool.not_true, Bool.not_false, ne_eq, Decidable.not_not, Int.not_lt, Int.not_le] at h30
        refine Tr.skip (At.then_normal ?_)
        refine Tr.seq ?_
        refine Tr.block ?_
        refine Tr.seq ?_
        refine Tr.seq ?_
        have hx := hok l[i] (List.getElem_mem _)
        refine Tr.region ?_
        refine TrL.move rfl rfl ?_
        refine TrL.move rfl rfl ?_
        refine TrL.idxF rfl rfl rfl se36 sz25 hL rfl rfl rfl (List.getElem?_eq_getElem (by omega)) (fun b35 o35 hp35 hc35 => ?_)
        refine TrL.loadRA rfl rfl ag25 sz25 (by assumption) (by rfl) ?_
        refine TrL.call rfl rfl rfl ca9 .nil (fun Ft37 hUt37 => light_spec (e := l[i].ed) (pa := l[i].a.p) (ca := l[i].a.cap) (pd := l[i].d.p) (cd := l[i].d.cap) (hUt37.ro (SlIn.mono _ _ _ _) hx.1) (hUt37.ro (SlIn.mono _ _ _ _) hx.2.1) hx.2.2.1 hx.2.2.2 (fun rt37 => ?_))
        refine TrL.not rfl rfl ?_
        refine TrL.nil (At.then_normal ?_)
        refine Tr.cond rfl (fun h38 => ?_) (fun h38 => ?_)
        · try simp only [beq_iff_eq, beq_eq_false_iff_ne, Bool.not_eq_true, Bool.not_eq_false, decide_eq_true_eq, decide_eq_false_iff_not, Bool.not_eq_true', Bool.not_eq_false', bne_iff_ne, Bool.not_eq_eq_eq_not, Bool.not_true, Bool.not_false, ne_eq, Decidable.not_not, Int.not_lt, Int.not_le] at h38
          refine Tr.seq ?_
          refine Tr.region ?_
          refine TrL.call rfl rfl rfl ca10 .nil (fun Ft39 hUt39 => awake_spec ?_)
          refine TrL.assign rfl rfl ?_
          refine TrL.nil (At.then_normal ?_)
          refine Tr.ret (At.then_ret (At.block_ret (At.then_ret (At.then_ret (At.block_ret (At.then_ret (At.retP [] (.inl rfl) rfl (Res.tmp rfl Res.nil) (by repeat (first | exact Picks.nil | with_reducible exact Pick.here | with_reducible apply Pick.there | with_reducible apply Pick.app_nil | with_reducible apply Pick.app_cons | apply Picks.cons)) (by exact hK))))))))
        · try simp only [beq_iff_eq, beq_eq_false_iff_ne, Bool.not_eq_true, Bool.not_eq_false, decide_eq_true_eq, decide_eq_false_iff_not, Bool.not_eq_true', Bool.not_eq_false', bne_iff_ne, Bool.not_eq_eq_eq_not, Bool.not_true, Bool.not_false, ne_eq, Decidable.not_not, Int.not_lt, Int.not_le] at h38
          refine Tr.skip (At.then_normal ?_)
          refine Tr.seq ?_
          refine Tr.region ?_
          refine TrL.move rfl rfl ?_
          refine TrL.move rfl rfl ?_
          refine TrL.idxF rfl rfl rfl se36 sz25 hL rfl rfl rfl (List.getElem?_eq_getElem (by omega)) (fun b43 o43 hp43 hc43 => ?_)
          refine TrL.loadRA rfl rfl ag25 sz25 (by assumption) (by rfl) ?_
          refine TrL.call rfl rfl rfl ca12 .nil (fun Ft45 hUt45 => PutR_spec (e := l[i].ed) (pa := l[i].a.p) (ca := l[i].a.cap) (pd := l[i].d.p) (cd := l[i].d.cap) (hUt45.ro (SlIn.mono _ _ _ _) hx.1) (hUt45.ro (SlIn.mono _ _ _ _) hx.2.1) hx.2.2.1 hx.2.2.2 ?_)
          refine TrL.move rfl rfl ?_
          refine TrL.extract rfl rfl rfl ?_
          refine TrL.extract rfl rfl rfl ?_
          refine TrL.assign rfl rfl ?_
          refine TrL.assign rfl rfl ?_
          refine TrL.nil (At.then_normal ?_)
          refine Tr.seq ?_
          refine Tr.region ?_
          refine TrL.move rfl rfl ?_
          refine TrL.eqi rfl rfl rfl ?_
          refine TrL.nil (At.then_normal ?_)
          refine Tr.cond rfl (fun h49 => ?_) (fun h49 => ?_)
          · try simp only [beq_iff_eq, beq_eq_false_iff_ne, Bool.not_eq_true, Bool.not_eq_false, decide_eq_true_eq, decide_eq_false_iff_not, Bool.not_eq_true', Bool.not_eq_false', bne_iff_ne, Bool.not_eq_eq_eq_not, Bool.not_true, Bool.not_false, ne_eq, Decidable.not_not, Int.not_lt, Int.not_le] at h49
            have hm : mayE l[i].ed = true := by
              by_cases h : mayE l[i].ed = true
              · exact h
              · exfalso; unfold errE at h49; rw [if_neg h] at h49; omega
            have hpz : (putS l[i].ed).size ≤ 30000 := by rw [show putS l[i].ed = strOf (putE l[i].ed) from if_pos hm, strOf_size]; exact putE_small hm
            refine Tr.region ?_
            refine TrL.move rfl rfl ?_
            refine TrL.move rfl rfl ?_
            refine TrL.buildSlF rfl rfl rfl se51 sz9 zc9 rfl rfl rfl (fun b52 => ?_)
            refine TrL.append1 (v := putS l[i].ed) rfl rfl se51 sz9 by9 zc9 rfl (by decide) (by repeat (first | with_reducible exact Pick.here | with_reducible apply Pick.there | with_reducible apply Pick.app_nil | with_reducible apply Pick.app_cons)) (by repeat (first | with_reducible exact Pick.here | with_reducible apply Pick.there | with_reducible apply Pick.app_nil | with_reducible apply Pick.app_cons)) (by rfl) (by rfl) (by rfl) (by rfl) (by decide) (by omega) (fun p53 cap53 => ?_)
            refine TrL.assign rfl rfl ?_
            refine TrL.nil (At.block_normal (At.then_normal ?_))
            refine Tr.region ?_
            refine TrL.move rfl rfl ?_
            refine TrL.addI rfl rfl rfl (by omega) ?_
            refine TrL.assign rfl rfl ?_
            refine TrL.nil ?_
            refine At.again (i + 1, us ++ [putS l[i].ed], (p53, cap53)) ⟨by show i + 1 ≤ l.length; omega, by simp only [List.length_append, List.length_singleton]; omega, fun b hb => ?_⟩ (by show l.length - (i + 1) < l.length - i; omega) (by repeat (first | exact Sub.nil | refine Sub.cons (by rfl) ?_)) (by repeat (first | exact Picks.nil | with_reducible exact Pick.here | with_reducible apply Pick.there | with_reducible apply Pick.app_nil | with_reducible apply Pick.app_cons | apply Picks.cons))
            rcases List.mem_append.1 hb with h | h
            · exact hbu b h
            · rw [List.mem_singleton.1 h]; omega
          · try simp only [beq_iff_eq, beq_eq_false_iff_ne, Bool.not_eq_true, Bool.not_eq_false, decide_eq_true_eq, decide_eq_false_iff_not, Bool.not_eq_true', Bool.not_eq_false', bne_iff_ne, Bool.not_eq_eq_eq_not, Bool.not_true, Bool.not_false, ne_eq, Decidable.not_not, Int.not_lt, Int.not_le] at h49
            refine Tr.skip (At.block_normal (At.then_normal ?_))
            refine Tr.region ?_
            refine TrL.move rfl rfl ?_
            refine TrL.addI rfl rfl rfl (by omega) ?_
            refine TrL.assign rfl rfl ?_
            refine TrL.nil ?_
            refine At.again (i + 1, us, (p5, c5)) ⟨by show i + 1 ≤ l.length; omega, by show us.length ≤ i + 1; omega, hbu⟩ (by show l.length - (i + 1) < l.length - i; omega) (by repeat (first | exact Sub.nil | refine Sub.cons (by rfl) ?_)) (by repeat (first | exact Picks.nil | with_reducible exact Pick.here | with_reducible apply Pick.there | with_reducible apply Pick.app_nil | with_reducible apply Pick.app_cons | apply Picks.cons))
      · try simp only [beq_iff_eq, beq_eq_false_iff_ne, Bool.not_eq_true, Bool.not_eq_false, decide_eq_true_eq, decide_eq_false_iff_not, Bool.not_eq_true', Bool.not_eq_false', bne_iff_ne, Bool.not_eq_eq_eq_not, Bool.not_true, Bool.not_false, ne_eq, Decidable.not_not, Int.not_lt, Int.not_le] at h30
        refine Tr.exit (At.then_exit (At.then_exit (At.block_hit (At.then_normal ?_))))
        refine Tr.seq ?_
        refine Tr.seq ?_
        refine Tr.region ?_
        refine TrL.assign rfl rfl ?_
        refine TrL.nil (At.then_normal ?_)
        refine Tr.block ?_
        refine Tr.loopK [0, 1, 4, 5] (α := Nat) (fun j => [(9, .int .i64 (j : Int))]) (fun j => []) (fun j => j ≤ ts.length ∧ ∀ b ∈ ts.take j, b.size ≤ 1024) (fun j => ts.length - j) (0) (by rfl) ?_ (by repeat (first | exact Sub.nil | refine Sub.cons (by rfl) ?_)) (by repeat (first | exact Picks.nil | with_reducible exact Pick.here | with_reducible apply Pick.there | with_reducible apply Pick.app_nil | with_reducible apply Pick.app_cons | apply Picks.cons)) ?_
        · exact ⟨Nat.zero_le _, by simp⟩
        rintro j ⟨hj1, hj2⟩
        refine Tr.seq ?_
        refine Tr.seq ?_
        refine Tr.region ?_
        refine TrL.move rfl rfl ?_
        refine TrL.move rfl rfl ?_
        refine TrL.lenl rfl rfl se51 ?_
        refine TrL.lss rfl rfl rfl ?_
        refine TrL.nil (At.then_normal ?_)
        refine Tr.cond rfl (fun h57 => ?_) (fun h57 => ?_)
        · try simp only [beq_iff_eq, beq_eq_false_iff_ne, Bool.not_eq_true, Bool.not_eq_false, decide_eq_true_eq, decide_eq_false_iff_not, Bool.not_eq_true', Bool.not_eq_false', bne_iff_ne, Bool.not_eq_eq_eq_not, Bool.not_true, Bool.not_false, ne_eq, Decidable.not_not, Int.not_lt, Int.not_le] at h57
          refine Tr.skip (At.then_normal ?_)
          refine Tr.seq ?_
          refine Tr.block ?_
          refine Tr.seq ?_
          refine Tr.region ?_
          refine TrL.move rfl rfl ?_
          refine TrL.move rfl rfl ?_
          refine TrL.idxF rfl rfl rfl se51 sz9 hT rfl rfl rfl (List.getElem?_eq_getElem (show j < ts.length by omega)) (fun b62 o62 hp62 hc62 => ?_)
          refine TrL.loadR1 rfl rfl sc9 (Cells.part hc62 (j := 0) rfl) ?_
          refine TrL.lens rfl rfl st9 ?_
          refine TrL.gtr rfl rfl rfl ?_
          refine TrL.nil (At.then_normal ?_)
          refine Tr.cond rfl (fun h65 => ?_) (fun h65 => ?_)
          · try simp only [beq_iff_eq, beq_eq_false_iff_ne, Bool.not_eq_true, Bool.not_eq_false, decide_eq_true_eq, decide_eq_false_iff_not, Bool.not_eq_true', Bool.not_eq_false', bne_iff_ne, Bool.not_eq_eq_eq_not, Bool.not_true, Bool.not_false, ne_eq, Decidable.not_not, Int.not_lt, Int.not_le] at h65
            refine Tr.seq ?_
            refine Tr.region ?_
            refine TrL.call rfl rfl rfl ca10 .nil (fun Ft66 hUt66 => awake_spec ?_)
            refine TrL.assign rfl rfl ?_
            refine TrL.nil (At.then_normal ?_)
            refine Tr.ret (At.block_ret (At.then_ret (At.then_ret (At.block_ret (At.then_ret (At.retP [] (.inl rfl) rfl (Res.tmp rfl Res.nil) (by repeat (first | exact Picks.nil | with_reducible exact Pick.here | with_reducible apply Pick.there | with_reducible apply Pick.app_nil | with_reducible apply Pick.app_cons | apply Picks.cons)) (by exact hK)))))))
          · try simp only [beq_iff_eq, beq_eq_false_iff_ne, Bool.not_eq_true, Bool.not_eq_false, decide_eq_true_eq, decide_eq_false_iff_not, Bool.not_eq_true', Bool.not_eq_false', bne_iff_ne, Bool.not_eq_eq_eq_not, Bool.not_true, Bool.not_false, ne_eq, Decidable.not_not, Int.not_lt, Int.not_le] at h65
            refine Tr.skip (At.block_normal (At.then_normal ?_))
            refine Tr.region ?_
            refine TrL.move rfl rfl ?_
            refine TrL.addI rfl rfl rfl (by omega) ?_
            refine TrL.assign rfl rfl ?_
            refine TrL.nil ?_
            refine At.again (j + 1) ⟨by show j + 1 ≤ ts.length; omega, fun b hb => ?_⟩ (by omega) (by repeat (first | exact Sub.nil | refine Sub.cons (by rfl) ?_)) (by repeat (first | exact Picks.nil | with_reducible exact Pick.here | with_reducible apply Pick.there | with_reducible apply Pick.app_nil | with_reducible apply Pick.app_cons | apply Picks.cons))
            rw [List.take_succ_eq_append_getElem (by omega)] at hb
            rcases List.mem_append.1 hb with h | h
            · exact hj2 b h
            · rw [List.mem_singleton.1 h]; omega
        · try simp only [beq_iff_eq, beq_eq_false_iff_ne, Bool.not_eq_true, Bool.not_eq_false, decide_eq_true_eq, decide_eq_false_iff_not, Bool.not_eq_true', Bool.not_eq_false', bne_iff_ne, Bool.not_eq_eq_eq_not, Bool.not_true, Bool.not_false, ne_eq, Decidable.not_not, Int.not_lt, Int.not_le] at h57
          refine Tr.exit (At.then_exit (At.then_exit (At.block_hit (At.then_normal ?_))))
          refine Tr.seq ?_
          have hbt : ∀ b ∈ ts, b.size ≤ 100000 := fun b hb => by rw [List.take_of_length_le (by omega)] at hj2; have := hj2 b hb; omega
          have hs1 := replay_small (ts := ts) (by omega)
          have hs2 := replay_small (ts := us) (by omega)
          refine Tr.region ?_
          refine TrL.move rfl rfl ?_
          refine TrL.call rfl rfl rfl ca24 .nil (fun Ft69 hUt69 => Replay_spec (ts := ts) (hUt69.ro (SlIn.mono _ _ _ _) hT) (by omega) hbt (fun pt69 ct69 => ?_))
          refine TrL.move rfl rfl ?_
          refine TrL.extract rfl rfl rfl ?_
          refine TrL.extract rfl rfl rfl ?_
          refine TrL.alloc rfl zc38 (fun b10 => ?_)
          refine TrL.storeLA rfl rfl sz38 ⟨rfl, List.cons_ne_nil _ _⟩ rfl (by repeat (first | with_reducible exact Upd.here | with_reducible apply Upd.there | with_reducible apply Upd.app_nil | with_reducible apply Upd.app_cons)) (by rfl) ?_
          refine TrL.assign rfl rfl ?_
          refine TrL.nil (At.then_normal ?_)
          refine Tr.seq ?_
          refine Tr.region ?_
          refine TrL.move rfl rfl ?_
          refine TrL.call rfl rfl rfl ca25 .nil (fun Ft74 hUt74 => ReplayR_spec (ts := ts) (hUt74.ro (SlIn.mono _ _ _ _) hT) (by omega) hbt (fun pt74 ct74 => ?_))
          refine TrL.move rfl rfl ?_
          refine TrL.extract rfl rfl rfl ?_
          refine TrL.extract rfl rfl rfl ?_
          refine TrL.alloc rfl zc38 (fun b12 => ?_)
          refine TrL.storeLA rfl rfl sz38 ⟨rfl, List.cons_ne_nil _ _⟩ rfl (by repeat (first | with_reducible exact Upd.here | with_reducible apply Upd.there | with_reducible apply Upd.app_nil | with_reducible apply Upd.app_cons)) (by rfl) ?_
          refine TrL.assign rfl rfl ?_
          refine TrL.nil (At.then_normal ?_)
          refine Tr.seq ?_
          refine Tr.region ?_
          refine TrL.move rfl rfl ?_
          refine TrL.call rfl rfl rfl ca24 .nil (fun Ft79 hUt79 => Replay_spec (ts := us) (Own.up hUt79 (by repeat (first | with_reducible exact Pick.here | with_reducible apply Pick.there | with_reducible apply Pick.app_nil | with_reducible apply Pick.app_cons)) (by decide) (fun _ => rfl)) (by omega) hbu (fun pt79 ct79 => ?_))
          refine TrL.move rfl rfl ?_
          refine TrL.extract rfl rfl rfl ?_
          refine TrL.extract rfl rfl rfl ?_
          refine TrL.alloc rfl zc38 (fun b14 => ?_)
          refine TrL.storeLA rfl rfl sz38 ⟨rfl, List.cons_ne_nil _ _⟩ rfl (by repeat (first | with_reducible exact Upd.here | with_reducible apply Upd.there | with_reducible apply Upd.app_nil | with_reducible apply Upd.app_cons)) (by rfl) ?_
          refine TrL.assign rfl rfl ?_
          refine TrL.nil (At.then_normal ?_)
          refine Tr.seq ?_
          refine Tr.region ?_
          refine TrL.move rfl rfl ?_
          refine TrL.call rfl rfl rfl ca25 .nil (fun Ft84 hUt84 => ReplayR_spec (ts := us) (Own.up hUt84 (by repeat (first | with_reducible exact Pick.here | with_reducible apply Pick.there | with_reducible apply Pick.app_nil | with_reducible apply Pick.app_cons)) (by decide) (fun _ => rfl)) (by omega) hbu (fun pt84 ct84 => ?_))
          refine TrL.move rfl rfl ?_
          refine TrL.extract rfl rfl rfl ?_
          refine TrL.extract rfl rfl rfl ?_
          refine TrL.alloc rfl zc38 (fun b16 => ?_)
          refine TrL.storeLA rfl rfl sz38 ⟨rfl, List.cons_ne_nil _ _⟩ rfl (by repeat (first | with_reducible exact Upd.here | with_reducible apply Upd.there | with_reducible apply Upd.app_nil | with_reducible apply Upd.app_cons)) (by rfl) ?_
          refine TrL.assign rfl rfl ?_
          refine TrL.nil (At.then_normal ?_)
          refine Tr.seq ?_
          refine Tr.region ?_
          refine TrL.loadLA rfl rfl ag38 sz38 (by repeat (first | with_reducible exact Pick.here | with_reducible apply Pick.there | with_reducible apply Pick.app_nil | with_reducible apply Pick.app_cons)) (by rfl) ?_
          refine TrL.loadLA rfl rfl ag38 sz38 (by repeat (first | with_reducible exact Pick.here | with_reducible apply Pick.there | with_reducible apply Pick.app_nil | with_reducible apply Pick.app_cons)) (by rfl) ?_
          refine TrL.call rfl rfl rfl ca20 .nil (fun Ft89 hUt89 => Same_spec (RowC.up hUt89 (by repeat (first | with_reducible exact Pick.here | with_reducible apply Pick.there | with_reducible apply Pick.app_nil | with_reducible apply Pick.app_cons))) (RowC.up hUt89 (by repeat (first | with_reducible exact Pick.here | with_reducible apply Pick.there | with_reducible apply Pick.app_nil | with_reducible apply Pick.app_cons))) hs1 (fun r89 hr89 => ?_))
          obtain rfl : r89 = true := hr89.2 rfl
          refine TrL.move rfl rfl ?_
          refine TrL.want rfl rfl ?_
          refine TrL.move rfl rfl ?_
          refine TrL.want rfl rfl ?_
          refine TrL.move rfl rfl ?_
          refine TrL.want rfl rfl ?_
          refine TrL.eqi rfl rfl rfl ?_
          refine TrL.knownB (t := 93) (c := true) rfl (by simp) ?_
          refine TrL.pickT rfl rfl rfl ?_
          refine TrL.move rfl rfl ?_
          refine TrL.want rfl rfl ?_
          refine TrL.loadLA rfl rfl ag38 sz38 (by repeat (first | with_reducible exact Pick.here | with_reducible apply Pick.there | with_reducible apply Pick.app_nil | with_reducible apply Pick.app_cons)) (by rfl) ?_
          refine TrL.want rfl rfl ?_
          refine TrL.loadLA rfl rfl ag38 sz38 (by repeat (first | with_reducible exact Pick.here | with_reducible apply Pick.there | with_reducible apply Pick.app_nil | with_reducible apply Pick.app_cons)) (by rfl) ?_
          refine TrL.want rfl rfl ?_
          refine TrL.call rfl rfl rfl ca20 .nil (fun Ft98 hUt98 => Same_spec (RowC.up hUt98 (by repeat (first | with_reducible exact Pick.here | with_reducible apply Pick.there | with_reducible apply Pick.app_nil | with_reducible apply Pick.app_cons))) (RowC.up hUt98 (by repeat (first | with_reducible exact Pick.here | with_reducible apply Pick.there | with_reducible apply Pick.app_nil | with_reducible apply Pick.app_cons))) hs2 (fun r98 hr98 => ?_))
          obtain rfl : r98 = true := hr98.2 rfl
          refine TrL.pickT rfl rfl rfl ?_
          refine TrL.move rfl rfl ?_
          refine TrL.want rfl rfl ?_
          refine TrL.move rfl rfl ?_
          refine TrL.want rfl rfl ?_
          refine TrL.move rfl rfl ?_
          refine TrL.want rfl rfl ?_
          refine TrL.eqi rfl rfl rfl ?_
          refine TrL.knownB (t := 103) (c := true) rfl (by simp) ?_
          refine TrL.pickT rfl rfl rfl ?_
          refine TrL.move rfl rfl ?_
          refine TrL.want rfl rfl ?_
          refine TrL.call rfl rfl rfl ca10 .nil (fun Ft106 hUt106 => awake_spec ?_)
          refine TrL.pickT rfl rfl rfl ?_
          refine TrL.assign rfl rfl ?_
          refine TrL.nil (At.then_normal ?_)
          refine Tr.ret (At.retP [] (.inl rfl) rfl (Res.tmp rfl Res.nil) (by repeat (first | exact Picks.nil | with_reducible exact Pick.here | with_reducible apply Pick.there | with_reducible apply Pick.app_nil | with_reducible apply Pick.app_cons | apply Picks.cons)) (by exact hK))
end Go.Proofs.Ytiefmfimbmkdjaa

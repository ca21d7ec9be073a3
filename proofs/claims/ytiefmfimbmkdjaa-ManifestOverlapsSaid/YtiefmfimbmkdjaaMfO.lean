/-
  The state behind an edit, by the program: contracts.
  No condition but those that each statement names.
-/
import Derived.Test.YtiefmfimbmkdjaaMfN
namespace Go.Proofs.Ytiefmfimbmkdjaa
set_option linter.unusedSimpArgs false
set_option linter.unusedVariables false
set_option linter.unusedSectionVars false
open Go.RowKit
variable [Obs]


theorem goneOk_cons (ids g : List Int) (i : Int) (r : List Int) : goneOk ids g (i :: r) = (decide (i ∈ ids) && !decide (i ∈ g) && goneOk ids (g ++ [i]) r) := rfl
theorem addOk_cons (next : Int) (ids : List Int) (t : Tab) (r : List Tab) : addOk next ids (t :: r) = (!decide (t.id ∈ ids) && decide (t.id < next) && addOk next (ids ++ [t.id]) r) := rfl
theorem adjOk_cons (a b : Tab) (r : List Tab) : adjOk (a :: b :: r) = (adjT a b && adjOk (b :: r)) := rfl
theorem adjOk_short {l : List Tab} (h : l.length ≤ 1) : adjOk l = true := by
  cases l with
  | nil => rfl
  | cons a r => cases r with
    | nil => rfl
    | cons b r => simp at h
theorem drop_two {l : List Tab} {k : Nat} (h0 : 1 ≤ k) (h : k < l.length) : l.drop (k - 1) = l[k - 1] :: l[k] :: l.drop (k + 1) := by
  rw [List.drop_eq_getElem_cons (show k - 1 < l.length by omega), show k - 1 + 1 = k by omega, List.drop_eq_getElem_cons h]
theorem map_snoc {l : List Tab} {i : Nat} (h : i < l.length) : (l.take i).map (·.id) ++ [l[i].id] = (l.take (i + 1)).map (·.id) := by
  rw [List.take_succ_eq_append_getElem h, List.map_append]; rfl
set_option maxHeartbeats 16000000 in
theorem Apply_spec {F : Hp} {K : Value → List HProp → Prop} {p : Option Addr} {c : Nat} {s : Sta} (g : Good s) (hS : SlIn F encT 4 p s.tabs) (hls : s.tabs.length ≤ 50000) {pa : Option Addr} {ca : Nat} {pd : Option Addr} {cd : Nat} {e : Ed} (hA : SlIn F encT 4 pa e.add) (hD : SlIn F encI 1 pd e.drop) (hla : e.add.length ≤ 9223372036854775807) (hld : e.drop.length ≤ 9223372036854775807) (hK : ∀ p' c', K (.tuple #[.agg (stC p' c' (applyF s e).1).toArray, .int .i64 (applyF s e).2]) [RowC encT 4 p' (applyF s e).1.tabs]) :
    CallK Try.prog F 18 #[.agg (stC p c s).toArray, .agg (edC pa ca pd cd e).toArray] [] K := by
  refine CallK.enter Try.func18 rfl Try.ntmps18 rfl ?_
  refine Tr.seq ?_
  refine Tr.region ?_
  refine TrL.boxA rfl rfl (fun b2 => ?_)
  refine TrL.boxA rfl rfl (fun b3 => ?_)
  refine TrL.alloc rfl zc38 (fun b4 => ?_)
  refine TrL.assign rfl rfl ?_
  refine TrL.nil (At.then_normal ?_)
  refine Tr.seq ?_
  refine Tr.seq ?_
  refine Tr.region ?_
  refine TrL.loadLA rfl rfl ag25 sz25 (by repeat (first | with_reducible exact Pick.here | with_reducible apply Pick.there | with_reducible apply Pick.app_nil | with_reducible apply Pick.app_cons)) (by rfl) ?_
  refine TrL.call rfl rfl rfl ca16 .nil (fun Ft22 hUt22 => Check_spec (hUt22.ro (SlIn.mono _ _ _ _) hA) (hUt22.ro (SlIn.mono _ _ _ _) hD) hla hld ?_)
  refine TrL.assign rfl rfl ?_
  refine TrL.nil (At.then_normal ?_)
  refine Tr.seq ?_
  refine Tr.region ?_
  refine TrL.move rfl rfl ?_
  refine TrL.nei rfl rfl rfl ?_
  refine TrL.nil (At.then_normal ?_)
  refine Tr.cond rfl (fun h24 => ?_) (fun h24 => ?_)
  · try simp only [beq_iff_eq, beq_eq_false_iff_ne, Bool.not_eq_true, Bool.not_eq_false, decide_eq_true_eq, decide_eq_false_iff_not, Bool.not_eq_true', Bool.not_eq_false', bne_iff_ne, Bool.not_eq_eq_eq_not, Bool.not_true, Bool.not_false, ne_eq, Decidable.not_not, Int.not_lt, Int.not_le] at h24
    refine Tr.seq ?_
    refine Tr.region ?_
    refine TrL.build rfl rfl pl38 zc38 rfl ?_
    refine TrL.move rfl rfl ?_
    refine TrL.storeLA rfl rfl sz38 ⟨rfl, List.cons_ne_nil _ _⟩ rfl (by repeat (first | with_reducible exact Upd.here | with_reducible apply Upd.there | with_reducible apply Upd.app_nil | with_reducible apply Upd.app_cons)) (by rfl) ?_
    refine TrL.assign rfl rfl ?_
    refine TrL.nil (At.then_normal ?_)
    refine Tr.ret (At.then_ret (At.retX [] (.inl rfl) rfl (Res.cellLA rfl ag38 sz38 (by repeat (first | with_reducible exact Pick.here | with_reducible apply Pick.there | with_reducible apply Pick.app_nil | with_reducible apply Pick.app_cons)) (by rfl) (Res.tmp rfl Res.nil)) (by repeat (first | exact Picks.nil | with_reducible exact Pick.here | with_reducible apply Pick.there | with_reducible apply Pick.app_nil | with_reducible apply Pick.app_cons | apply Picks.cons)) (by 
        rw [show (if mayE e = true then (0 : Int) else 1) = 1 from if_neg (fun h => h24 (if_pos h))]
        refine ⟨[RowC encT 4 none ([] : List Tab)], fun h _ => one_stars (RowC.nil _), ?_⟩
        have e1 : applyF s e = (zeroS, 1) := by
          unfold applyF
          rw [if_pos]
          by_cases h : mayE e = true
          · rw [if_pos h] at h24; exact absurd rfl h24
          · simpa using h
        have e2 := hK none 0
        rw [e1] at e2
        exact e2)))
  · try simp only [beq_iff_eq, beq_eq_false_iff_ne, Bool.not_eq_true, Bool.not_eq_false, decide_eq_true_eq, decide_eq_false_iff_not, Bool.not_eq_true', Bool.not_eq_false', bne_iff_ne, Bool.not_eq_eq_eq_not, Bool.not_true, Bool.not_false, ne_eq, Decidable.not_not, Int.not_lt, Int.not_le] at h24
    have hm : mayE e = true := by
      by_cases h : mayE e = true
      · exact h
      · rw [if_neg h] at h24; cases h24
    obtain ⟨hm1, hm2⟩ := mayE_add hm
    refine Tr.skip (At.then_normal ?_)
    refine Tr.seq ?_
    refine Tr.region ?_
    refine TrL.makeMap rfl (Value.int .i64) (fun b27 => ?_)
    refine TrL.assign rfl rfl ?_
    refine TrL.nil (At.then_normal ?_)
    refine Tr.seq ?_
    refine Tr.seq ?_
    refine Tr.region ?_
    refine TrL.field0 rfl rfl fl38_0 ?_
    refine TrL.load1 rfl rfl sc22 (Sees.cl1 (by repeat (first | with_reducible exact Pick.here | with_reducible apply Pick.there | with_reducible apply Pick.app_nil | with_reducible apply Pick.app_cons)) (by rfl)) ?_
    refine TrL.lenl rfl rfl se22 ?_
    refine TrL.move rfl rfl ?_
    refine TrL.nil (At.then_normal ?_)
    refine Tr.block ?_
    refine Tr.loopK [2, 3, 4, 7, 29, 30] (α := Nat) (fun i => [(31, .int .i64 (i : Int))]) (fun i => [mapC (Value.int .i64) b27 (kvB ((s.tabs.take i).map (·.id)))]) (fun i => i ≤ s.tabs.length) (fun i => s.tabs.length - i) (0) (by rfl) ?_ (by repeat (first | exact Sub.nil | refine Sub.cons (by rfl) ?_)) (by repeat (first | exact Picks.nil | with_reducible exact Pick.here | exact Pick.here | with_reducible apply Pick.there | with_reducible apply Pick.app_nil | with_reducible apply Pick.app_cons | apply Picks.cons)) ?_
    · exact Nat.zero_le _
    rintro i hi
    refine Tr.seq ?_
    refine Tr.region ?_
    refine TrL.lss rfl rfl rfl ?_
    refine TrL.nil (At.then_normal ?_)
    refine Tr.seq ?_
    refine Tr.cond rfl (fun h32 => ?_) (fun h32 => ?_)
    · try simp only [beq_iff_eq, beq_eq_false_iff_ne, Bool.not_eq_true, Bool.not_eq_false, decide_eq_true_eq, decide_eq_false_iff_not, Bool.not_eq_true', Bool.not_eq_false', bne_iff_ne, Bool.not_eq_eq_eq_not, Bool.not_true, Bool.not_false, ne_eq, Decidable.not_not, Int.not_lt, Int.not_le] at h32
      refine Tr.skip (At.then_normal ?_)
      refine Tr.seq ?_
      refine Tr.block ?_
      refine Tr.seq ?_
      refine Tr.region ?_
      refine TrL.idxF rfl rfl rfl se22 sz46 hS rfl rfl rfl (List.getElem?_eq_getElem (by omega)) (fun b33 o33 hp33 hc33 => ?_)
      refine TrL.loadRA rfl rfl ag46 sz46 (by assumption) (by rfl) ?_
      refine TrL.alloc rfl zc46 (fun b9 => ?_)
      refine TrL.storeLA rfl rfl sz46 ⟨rfl, List.cons_ne_nil _ _⟩ rfl (by repeat (first | with_reducible exact Upd.here | with_reducible apply Upd.there | with_reducible apply Upd.app_nil | with_reducible apply Upd.app_cons)) (by rfl) ?_
      refine TrL.nil (At.then_normal ?_)
      refine Tr.region ?_
      refine TrL.move rfl rfl ?_
      refine TrL.field0 rfl rfl fl46_0 ?_
      refine TrL.load1 rfl rfl sc3 (Sees.cl1 (by repeat (first | with_reducible exact Pick.here | with_reducible apply Pick.there | with_reducible apply Pick.app_nil | with_reducible apply Pick.app_cons)) (by rfl)) ?_
      refine TrL.mapUpdate (kf := (Value.int .i64)) rfl rfl rfl (intKey in3) mp83 (by repeat (first | with_reducible exact Upd.here | with_reducible apply Upd.there | with_reducible apply Upd.app_nil | with_reducible apply Upd.app_cons)) ?_
      refine TrL.nil (At.block_normal (At.then_normal ?_))
      refine Tr.region ?_
      refine TrL.addI rfl rfl rfl (by omega) ?_
      refine TrL.move rfl rfl ?_
      refine TrL.nil ?_
      rw [kvB_snoc, map_snoc (by omega)]
      refine At.again (i + 1) (by show i + 1 ≤ s.tabs.length; omega) (by omega) (by repeat (first | exact Sub.nil | refine Sub.cons (by rfl) ?_)) (by repeat (first | exact Picks.nil | with_reducible exact Pick.here | with_reducible apply Pick.there | with_reducible apply Pick.app_nil | with_reducible apply Pick.app_cons | apply Picks.cons))
    · try simp only [beq_iff_eq, beq_eq_false_iff_ne, Bool.not_eq_true, Bool.not_eq_false, decide_eq_true_eq, decide_eq_false_iff_not, Bool.not_eq_true', Bool.not_eq_false', bne_iff_ne, Bool.not_eq_eq_eq_not, Bool.not_true, Bool.not_false, ne_eq, Decidable.not_not, Int.not_lt, Int.not_le] at h32
      refine Tr.exit (At.then_exit (At.then_exit (At.block_hit (At.then_normal ?_))))
      refine Tr.seq ?_
      rw [List.take_of_length_le (show s.tabs.length ≤ i by omega)]
      refine Tr.region ?_
      refine TrL.makeMap rfl (Value.int .i64) (fun b39 => ?_)
      refine TrL.assign rfl rfl ?_
      refine TrL.nil (At.then_normal ?_)
      refine Tr.seq ?_
      refine Tr.seq ?_
      refine Tr.region ?_
      refine TrL.field rfl rfl fl25_1 ?_
      refine TrL.load1 rfl rfl sc23 (Sees.cl1 (by repeat (first | with_reducible exact Pick.here | with_reducible apply Pick.there | with_reducible apply Pick.app_nil | with_reducible apply Pick.app_cons)) (by rfl)) ?_
      refine TrL.lenl rfl rfl se23 ?_
      refine TrL.move rfl rfl ?_
      refine TrL.nil (At.then_normal ?_)
      refine Tr.block ?_
      refine Tr.loopK [2, 3, 4, 7, 10, 41, 42] (α := Nat) (fun j => [(43, .int .i64 (j : Int))]) (fun j => [mapC (Value.int .i64) b39 (kvB (e.drop.take j))]) (fun j => j ≤ e.drop.length ∧ goneOk (s.tabs.map (·.id)) (e.drop.take j) (e.drop.drop j) = goneOk (s.tabs.map (·.id)) [] e.drop) (fun j => e.drop.length - j) (0) (by rfl) ?_ (by repeat (first | exact Sub.nil | refine Sub.cons (by rfl) ?_)) (by repeat (first | exact Picks.nil | with_reducible exact Pick.here | exact Pick.here | with_reducible apply Pick.there | with_reducible apply Pick.app_nil | with_reducible apply Pick.app_cons | apply Picks.cons)) ?_
      · exact ⟨Nat.zero_le _, rfl⟩
      rintro j ⟨hj1, hj2⟩
      refine Tr.seq ?_
      refine Tr.region ?_
      refine TrL.lss rfl rfl rfl ?_
      refine TrL.nil (At.then_normal ?_)
      refine Tr.seq ?_
      refine Tr.cond rfl (fun h44 => ?_) (fun h44 => ?_)
      · try simp only [beq_iff_eq, beq_eq_false_iff_ne, Bool.not_eq_true, Bool.not_eq_false, decide_eq_true_eq, decide_eq_false_iff_not, Bool.not_eq_true', Bool.not_eq_false', bne_iff_ne, Bool.not_eq_eq_eq_not, Bool.not_true, Bool.not_false, ne_eq, Decidable.not_not, Int.not_lt, Int.not_le] at h44
        refine Tr.skip (At.then_normal ?_)
        refine Tr.seq ?_
        refine Tr.block ?_
        refine Tr.seq ?_
        have hcons : goneOk (s.tabs.map (·.id)) (e.drop.take j) (e.drop.drop j) = (decide (e.drop[j] ∈ (s.tabs.map (·.id))) && !decide (e.drop[j] ∈ e.drop.take j) && goneOk (s.tabs.map (·.id)) (e.drop.take j ++ [e.drop[j]]) (e.drop.drop (j + 1))) := by rw [List.drop_eq_getElem_cons (by omega), goneOk_cons]
        refine Tr.region ?_
        refine TrL.idxF rfl rfl rfl se23 sz3 hD rfl rfl rfl (List.getElem?_eq_getElem (by omega)) (fun b45 o45 hp45 hc45 => ?_)
        refine TrL.loadR1 rfl rfl sc3 (Cells.part hc45 (j := 0) rfl) ?_
        refine TrL.assign rfl rfl ?_
        refine TrL.nil (At.then_normal ?_)
        refine Tr.seq ?_
        refine Tr.seq ?_
        refine Tr.region ?_
        refine TrL.move rfl rfl ?_
        refine TrL.move rfl rfl ?_
        refine TrL.lookup (kf := Value.int .i64) rfl rfl rfl (intKey in3) mp83 zv4 (by repeat (first | with_reducible exact Pick.here | with_reducible apply Pick.there | with_reducible apply Pick.app_nil | with_reducible apply Pick.app_cons)) (kvB_get _ _) ?_
        refine TrL.not rfl rfl ?_
        refine TrL.move rfl rfl ?_
        refine TrL.cases (t := 51) rfl (fun h51 => ?_) (fun h51 => ?_)
        · try simp only [beq_iff_eq, beq_eq_false_iff_ne, Bool.not_eq_true, Bool.not_eq_false, decide_eq_true_eq, decide_eq_false_iff_not, Bool.not_eq_true', Bool.not_eq_false', bne_iff_ne, Bool.not_eq_eq_eq_not, Bool.not_true, Bool.not_false, ne_eq, Decidable.not_not, Int.not_lt, Int.not_le] at h51
          refine TrL.unwant rfl rfl rfl ?_
          refine TrL.unwant rfl rfl rfl ?_
          refine TrL.unwant rfl rfl rfl ?_
          refine TrL.pickT rfl rfl rfl ?_
          refine TrL.nil (At.then_normal ?_)
          refine Tr.condT rfl ?_
          refine Tr.seq ?_
          refine Tr.region ?_
          refine TrL.build rfl rfl pl38 zc38 rfl ?_
          refine TrL.storeLA rfl rfl sz38 ⟨rfl, List.cons_ne_nil _ _⟩ rfl (by repeat (first | with_reducible exact Upd.here | with_reducible apply Upd.there | with_reducible apply Upd.app_nil | with_reducible apply Upd.app_cons)) (by rfl) ?_
          refine TrL.assign rfl rfl ?_
          refine TrL.nil (At.then_normal ?_)
          refine Tr.ret (At.then_ret (At.block_ret (At.then_ret (At.then_ret (At.block_ret (At.then_ret (At.retX [] (.inl rfl) rfl (Res.cellLA rfl ag38 sz38 (by repeat (first | with_reducible exact Pick.here | with_reducible apply Pick.there | with_reducible apply Pick.app_nil | with_reducible apply Pick.app_cons)) (by rfl) (Res.tmp rfl Res.nil)) (by repeat (first | exact Picks.nil | with_reducible exact Pick.here | with_reducible apply Pick.there | with_reducible apply Pick.app_nil | with_reducible apply Pick.app_cons | apply Picks.cons)) (by 
              refine ⟨[RowC encT 4 none ([] : List Tab)], fun h _ => one_stars (RowC.nil _), ?_⟩
              have e1 : applyF s e = (zeroS, 120) := by
                have hnf : fitsE s e = false := by unfold fitsE; rw [show goneOk (s.tabs.map (·.id)) [] e.drop = false by rw [← hj2, hcons]; simp [h51]]; simp
                unfold applyF
                rw [if_neg (by simp [hm]), hnf]
                rfl
              have e2 := hK none 0
              rw [e1] at e2
              exact e2))))))))
        · try simp only [beq_iff_eq, beq_eq_false_iff_ne, Bool.not_eq_true, Bool.not_eq_false, decide_eq_true_eq, decide_eq_false_iff_not, Bool.not_eq_true', Bool.not_eq_false', bne_iff_ne, Bool.not_eq_eq_eq_not, Bool.not_true, Bool.not_false, ne_eq, Decidable.not_not, Int.not_lt, Int.not_le] at h51
          refine TrL.want rfl rfl ?_
          refine TrL.move rfl rfl ?_
          refine TrL.want rfl rfl ?_
          refine TrL.move rfl rfl ?_
          refine TrL.want rfl rfl ?_
          refine TrL.lookup (kf := Value.int .i64) rfl rfl rfl (intKey in3) mp83 zv4 (by repeat (first | with_reducible exact Pick.here | with_reducible apply Pick.there | with_reducible apply Pick.app_nil | with_reducible apply Pick.app_cons)) (kvB_get _ _) ?_
          refine TrL.pickF rfl rfl rfl ?_
          refine TrL.nil (At.then_normal ?_)
          refine Tr.cond rfl (fun h55 => ?_) (fun h55 => ?_)
          · try simp only [beq_iff_eq, beq_eq_false_iff_ne, Bool.not_eq_true, Bool.not_eq_false, decide_eq_true_eq, decide_eq_false_iff_not, Bool.not_eq_true', Bool.not_eq_false', bne_iff_ne, Bool.not_eq_eq_eq_not, Bool.not_true, Bool.not_false, ne_eq, Decidable.not_not, Int.not_lt, Int.not_le] at h55
            refine Tr.seq ?_
            refine Tr.region ?_
            refine TrL.build rfl rfl pl38 zc38 rfl ?_
            refine TrL.storeLA rfl rfl sz38 ⟨rfl, List.cons_ne_nil _ _⟩ rfl (by repeat (first | with_reducible exact Upd.here | with_reducible apply Upd.there | with_reducible apply Upd.app_nil | with_reducible apply Upd.app_cons)) (by rfl) ?_
            refine TrL.assign rfl rfl ?_
            refine TrL.nil (At.then_normal ?_)
            refine Tr.ret (At.then_ret (At.block_ret (At.then_ret (At.then_ret (At.block_ret (At.then_ret (At.retX [] (.inl rfl) rfl (Res.cellLA rfl ag38 sz38 (by repeat (first | with_reducible exact Pick.here | with_reducible apply Pick.there | with_reducible apply Pick.app_nil | with_reducible apply Pick.app_cons)) (by rfl) (Res.tmp rfl Res.nil)) (by repeat (first | exact Picks.nil | with_reducible exact Pick.here | with_reducible apply Pick.there | with_reducible apply Pick.app_nil | with_reducible apply Pick.app_cons | apply Picks.cons)) (by 
                refine ⟨[RowC encT 4 none ([] : List Tab)], fun h _ => one_stars (RowC.nil _), ?_⟩
                have e1 : applyF s e = (zeroS, 120) := by
                  have hnf : fitsE s e = false := by unfold fitsE; rw [show goneOk (s.tabs.map (·.id)) [] e.drop = false by rw [← hj2, hcons]; simp [h55]]; simp
                  unfold applyF
                  rw [if_neg (by simp [hm]), hnf]
                  rfl
                have e2 := hK none 0
                rw [e1] at e2
                exact e2))))))))
          · try simp only [beq_iff_eq, beq_eq_false_iff_ne, Bool.not_eq_true, Bool.not_eq_false, decide_eq_true_eq, decide_eq_false_iff_not, Bool.not_eq_true', Bool.not_eq_false', bne_iff_ne, Bool.not_eq_eq_eq_not, Bool.not_true, Bool.not_false, ne_eq, Decidable.not_not, Int.not_lt, Int.not_le] at h55
            refine Tr.skip (At.then_normal ?_)
            refine Tr.region ?_
            refine TrL.move rfl rfl ?_
            refine TrL.move rfl rfl ?_
            refine TrL.mapUpdate (kf := (Value.int .i64)) rfl rfl rfl (intKey in3) mp83 (by repeat (first | with_reducible exact Upd.here | with_reducible apply Upd.there | with_reducible apply Upd.app_nil | with_reducible apply Upd.app_cons)) ?_
            refine TrL.nil (At.block_normal (At.then_normal ?_))
            refine Tr.region ?_
            refine TrL.addI rfl rfl rfl (by omega) ?_
            refine TrL.move rfl rfl ?_
            refine TrL.nil ?_
            rw [kvB_snoc, ← List.take_succ_eq_append_getElem (by omega)]
            refine At.again (j + 1) ⟨by show j + 1 ≤ e.drop.length; omega, ?_⟩ (by omega) (by repeat (first | exact Sub.nil | refine Sub.cons (by rfl) ?_)) (by repeat (first | exact Picks.nil | with_reducible exact Pick.here | with_reducible apply Pick.there | with_reducible apply Pick.app_nil | with_reducible apply Pick.app_cons | apply Picks.cons))
            rw [← hj2, hcons, ← List.take_succ_eq_append_getElem (by omega)]
            simp [h51, h55]
      · try simp only [beq_iff_eq, beq_eq_false_iff_ne, Bool.not_eq_true, Bool.not_eq_false, decide_eq_true_eq, decide_eq_false_iff_not, Bool.not_eq_true', Bool.not_eq_false', bne_iff_ne, Bool.not_eq_eq_eq_not, Bool.not_true, Bool.not_false, ne_eq, Decidable.not_not, Int.not_lt, Int.not_le] at h44
        refine Tr.exit (At.then_exit (At.then_exit (At.block_hit (At.then_normal ?_))))
        refine Tr.seq ?_
        rw [List.take_of_length_le (show e.drop.length ≤ j by omega)]
        have hgone : goneOk (s.tabs.map (·.id)) [] e.drop = true := by rw [← hj2, List.drop_of_length_le (by omega)]; rfl
        refine Tr.region ?_
        refine TrL.field rfl rfl fl25_2 ?_
        refine TrL.load1 rfl rfl sc3 (Sees.cl1 (by repeat (first | with_reducible exact Pick.here | with_reducible apply Pick.there | with_reducible apply Pick.app_nil | with_reducible apply Pick.app_cons)) (by rfl)) ?_
        refine TrL.field rfl rfl fl25_3 ?_
        refine TrL.load1 rfl rfl sc3 (Sees.cl1 (by repeat (first | with_reducible exact Pick.here | with_reducible apply Pick.there | with_reducible apply Pick.app_nil | with_reducible apply Pick.app_cons)) (by rfl)) ?_
        refine TrL.build rfl rfl pl38 zc38 rfl ?_
        refine TrL.alloc rfl zc38 (fun b13 => ?_)
        refine TrL.own0 46 4 encT ?_
        --L:b13
        refine TrL.storeLA rfl rfl sz38 ⟨rfl, List.cons_ne_nil _ _⟩ rfl (by repeat (first | with_reducible exact Upd.here | with_reducible apply Upd.there | with_reducible apply Upd.app_nil | with_reducible apply Upd.app_cons)) (by rfl) ?_
        refine TrL.nil (At.then_normal ?_)
        refine Tr.seq ?_
        refine Tr.seq ?_
        refine Tr.region ?_
        refine TrL.field0 rfl rfl fl38_0 ?_
        refine TrL.load1 rfl rfl sc22 (Sees.cl1 (by repeat (first | with_reducible exact Pick.here | with_reducible apply Pick.there | with_reducible apply Pick.app_nil | with_reducible apply Pick.app_cons)) (by rfl)) ?_
        refine TrL.lenl rfl rfl se22 ?_
        refine TrL.move rfl rfl ?_
        refine TrL.nil (At.then_normal ?_)
        refine Tr.block ?_
        refine Tr.loopK [2, 3, 4, 7, 10, 13, 66, 67] (α := Nat × Option Addr × Nat) (fun y => [(68, .int .i64 (y.1 : Int))]) (fun y => [cl b13 [.slice y.2.1 (((s.tabs.take y.1).filter fun t => !decide (t.id ∈ e.drop))).length y.2.2, .int .i64 e.log, .int .i64 e.next] 38, Own 46 4 encT y.2.1 y.2.2 (((s.tabs.take y.1).filter fun t => !decide (t.id ∈ e.drop)))]) (fun y => y.1 ≤ s.tabs.length) (fun y => s.tabs.length - y.1) (0, none, 0) (by rfl) ?_ (by repeat (first | exact Sub.nil | refine Sub.cons (by rfl) ?_)) (by repeat (first | exact Picks.nil | with_reducible exact Pick.here | exact Pick.here | with_reducible apply Pick.there | with_reducible apply Pick.app_nil | with_reducible apply Pick.app_cons | apply Picks.cons)) ?_
        · exact Nat.zero_le _
        rintro y hy1
        refine Tr.seq ?_
        refine Tr.region ?_
        refine TrL.lss rfl rfl rfl ?_
        refine TrL.nil (At.then_normal ?_)
        refine Tr.seq ?_
        refine Tr.cond rfl (fun h69 => ?_) (fun h69 => ?_)
        · try simp only [beq_iff_eq, beq_eq_false_iff_ne, Bool.not_eq_true, Bool.not_eq_false, decide_eq_true_eq, decide_eq_false_iff_not, Bool.not_eq_true', Bool.not_eq_false', bne_iff_ne, Bool.not_eq_eq_eq_not, Bool.not_true, Bool.not_false, ne_eq, Decidable.not_not, Int.not_lt, Int.not_le] at h69
          refine Tr.skip (At.then_normal ?_)
          refine Tr.seq ?_
          refine Tr.block ?_
          refine Tr.seq ?_
          refine Tr.region ?_
          refine TrL.idxF rfl rfl rfl se22 sz46 hS rfl rfl rfl (List.getElem?_eq_getElem (by omega)) (fun b70 o70 hp70 hc70 => ?_)
          refine TrL.loadRA rfl rfl ag46 sz46 (by assumption) (by rfl) ?_
          refine TrL.alloc rfl zc46 (fun b15 => ?_)
          refine TrL.storeLA rfl rfl sz46 ⟨rfl, List.cons_ne_nil _ _⟩ rfl (by repeat (first | with_reducible exact Upd.here | with_reducible apply Upd.there | with_reducible apply Upd.app_nil | with_reducible apply Upd.app_cons)) (by rfl) ?_
          refine TrL.nil (At.then_normal ?_)
          refine Tr.seq ?_
          refine Tr.region ?_
          refine TrL.move rfl rfl ?_
          refine TrL.field0 rfl rfl fl46_0 ?_
          refine TrL.load1 rfl rfl sc3 (Sees.cl1 (by repeat (first | with_reducible exact Pick.here | with_reducible apply Pick.there | with_reducible apply Pick.app_nil | with_reducible apply Pick.app_cons)) (by rfl)) ?_
          refine TrL.lookup (kf := Value.int .i64) rfl rfl rfl (intKey in3) mp83 zv4 (by repeat (first | with_reducible exact Pick.here | with_reducible apply Pick.there | with_reducible apply Pick.app_nil | with_reducible apply Pick.app_cons)) (kvB_get _ _) ?_
          refine TrL.not rfl rfl ?_
          refine TrL.nil (At.then_normal ?_)
          refine Tr.cond rfl (fun h76 => ?_) (fun h76 => ?_)
          · try simp only [beq_iff_eq, beq_eq_false_iff_ne, Bool.not_eq_true, Bool.not_eq_false, decide_eq_true_eq, decide_eq_false_iff_not, Bool.not_eq_true', Bool.not_eq_false', bne_iff_ne, Bool.not_eq_eq_eq_not, Bool.not_true, Bool.not_false, ne_eq, Decidable.not_not, Int.not_lt, Int.not_le] at h76
            refine Tr.region ?_
            refine TrL.field0 rfl rfl fl38_0 ?_
            refine TrL.load1 rfl rfl sc22 (Sees.cl1 (by repeat (first | with_reducible exact Pick.here | with_reducible apply Pick.there | with_reducible apply Pick.app_nil | with_reducible apply Pick.app_cons)) (by rfl)) ?_
            refine TrL.loadLA rfl rfl ag46 sz46 (by repeat (first | with_reducible exact Pick.here | with_reducible apply Pick.there | with_reducible apply Pick.app_nil | with_reducible apply Pick.app_cons)) (by rfl) ?_
            refine TrL.buildSlA rfl rfl se22 sz46 zc46 rfl rfl rfl (fun b80 => ?_)
            refine TrL.append1 (v := s.tabs[y.1]) rfl rfl se22 sz46 by46 zc46 rfl (by decide) (by repeat (first | with_reducible exact Pick.here | with_reducible apply Pick.there | with_reducible apply Pick.app_nil | with_reducible apply Pick.app_cons)) (by repeat (first | with_reducible exact Pick.here | with_reducible apply Pick.there | with_reducible apply Pick.app_nil | with_reducible apply Pick.app_cons)) (by rfl) (by rfl) (by rfl) (by rfl) (by decide) (by have := List.length_filter_le (fun t : Tab => !decide (t.id ∈ e.drop)) (s.tabs.take y.1); simp only [List.length_take] at this; omega) (fun p81 cap81 => ?_)
            refine TrL.field0 rfl rfl fl38_0 ?_
            refine TrL.store1 rfl rfl sz22 rfl (by repeat (first | with_reducible exact Upd.here | with_reducible apply Upd.there | with_reducible apply Upd.app_nil | with_reducible apply Upd.app_cons)) (by rfl) ?_
            refine TrL.nil (At.block_normal (At.then_normal ?_))
            refine Tr.region ?_
            refine TrL.addI rfl rfl rfl (by omega) ?_
            refine TrL.move rfl rfl ?_
            refine TrL.nil ?_
            have e5 : (((s.tabs.take y.1).filter fun t => !decide (t.id ∈ e.drop))) ++ [s.tabs[y.1]] = ((s.tabs.take (y.1 + 1)).filter fun t => !decide (t.id ∈ e.drop)) := by rw [List.take_succ_eq_append_getElem (show y.1 < s.tabs.length by omega), List.filter_append]; simp only [List.filter_cons, List.filter_nil]; simp [h76]
            rw [e5]
            refine At.again (y.1 + 1, p81, cap81) (by show y.1 + 1 ≤ s.tabs.length; omega) (by show s.tabs.length - (y.1 + 1) < s.tabs.length - y.1; omega) (by repeat (first | exact Sub.nil | refine Sub.cons (by rfl) ?_)) (by repeat (first | exact Picks.nil | with_reducible exact Pick.here | with_reducible apply Pick.there | with_reducible apply Pick.app_nil | with_reducible apply Pick.app_cons | apply Picks.cons))
          · try simp only [beq_iff_eq, beq_eq_false_iff_ne, Bool.not_eq_true, Bool.not_eq_false, decide_eq_true_eq, decide_eq_false_iff_not, Bool.not_eq_true', Bool.not_eq_false', bne_iff_ne, Bool.not_eq_eq_eq_not, Bool.not_true, Bool.not_false, ne_eq, Decidable.not_not, Int.not_lt, Int.not_le] at h76
            refine Tr.skip (At.block_normal (At.then_normal ?_))
            refine Tr.region ?_
            refine TrL.addI rfl rfl rfl (by omega) ?_
            refine TrL.move rfl rfl ?_
            refine TrL.nil ?_
            have e5 : ((s.tabs.take y.1).filter fun t => !decide (t.id ∈ e.drop)) = ((s.tabs.take (y.1 + 1)).filter fun t => !decide (t.id ∈ e.drop)) := by rw [List.take_succ_eq_append_getElem (show y.1 < s.tabs.length by omega), List.filter_append]; simp only [List.filter_cons, List.filter_nil]; simp [h76]
            rw [e5]
            refine At.again (y.1 + 1, y.2.1, y.2.2) (by show y.1 + 1 ≤ s.tabs.length; omega) (by show s.tabs.length - (y.1 + 1) < s.tabs.length - y.1; omega) (by repeat (first | exact Sub.nil | refine Sub.cons (by rfl) ?_)) (by repeat (first | exact Picks.nil | with_reducible exact Pick.here | with_reducible apply Pick.there | with_reducible apply Pick.app_nil | with_reducible apply Pick.app_cons | apply Picks.cons))
        · try simp only [beq_iff_eq, beq_eq_false_iff_ne, Bool.not_eq_true, Bool.not_eq_false, decide_eq_true_eq, decide_eq_false_iff_not, Bool.not_eq_true', Bool.not_eq_false', bne_iff_ne, Bool.not_eq_eq_eq_not, Bool.not_true, Bool.not_false, ne_eq, Decidable.not_not, Int.not_lt, Int.not_le] at h69
          refine Tr.exit (At.then_exit (At.then_exit (At.block_hit (At.then_normal ?_))))
          refine Tr.seq ?_
          refine Tr.seq ?_
          rw [List.take_of_length_le (show s.tabs.length ≤ y.1 by omega)]
          have hkeep : keepT s e = s.tabs.filter fun t => !decide (t.id ∈ e.drop) := rfl
          have hkl : (s.tabs.filter fun t => !decide (t.id ∈ e.drop)).length ≤ s.tabs.length := List.length_filter_le _ _
          refine Tr.region ?_
          refine TrL.field0 rfl rfl fl25_0 ?_
          refine TrL.load1 rfl rfl sc22 (Sees.cl1 (by repeat (first | with_reducible exact Pick.here | with_reducible apply Pick.there | with_reducible apply Pick.app_nil | with_reducible apply Pick.app_cons)) (by rfl)) ?_
          refine TrL.lenl rfl rfl se22 ?_
          refine TrL.move rfl rfl ?_
          refine TrL.nil (At.then_normal ?_)
          refine Tr.block ?_
          have ek : kvB (s.tabs.map (·.id)) = kvB ((s.tabs.map (·.id)) ++ (e.add.take 0).map (·.id)) := by simp
          have el : (s.tabs.filter fun t => !decide (t.id ∈ e.drop)) = (s.tabs.filter fun t => !decide (t.id ∈ e.drop)) ++ e.add.take 0 := by simp
          rw [ek, el]
          refine Tr.loopK [2, 3, 4, 7, 13, 85, 86] (α := Nat × Option Addr × Nat) (fun y => [(87, .int .i64 (y.1 : Int))]) (fun y => [mapC (Value.int .i64) b27 (kvB ((s.tabs.map (·.id)) ++ (e.add.take y.1).map (·.id))), cl b13 [.slice y.2.1 ((s.tabs.filter fun t => !decide (t.id ∈ e.drop)) ++ e.add.take y.1).length y.2.2, .int .i64 e.log, .int .i64 e.next] 38, Own 46 4 encT y.2.1 y.2.2 ((s.tabs.filter fun t => !decide (t.id ∈ e.drop)) ++ e.add.take y.1)]) (fun y => y.1 ≤ e.add.length ∧ addOk e.next ((s.tabs.map (·.id)) ++ (e.add.take y.1).map (·.id)) (e.add.drop y.1) = addOk e.next (s.tabs.map (·.id)) e.add) (fun y => e.add.length - y.1) (0, y.2.1, y.2.2) (by rfl) ?_ (by repeat (first | exact Sub.nil | refine Sub.cons (by rfl) ?_)) (by repeat (first | exact Picks.nil | with_reducible exact Pick.here | with_reducible apply Pick.there | with_reducible apply Pick.app_nil | with_reducible apply Pick.app_cons | apply Picks.cons)) ?_
          · exact ⟨Nat.zero_le _, by simp⟩
          rintro y ⟨hw1, hw2⟩
          refine Tr.seq ?_
          refine Tr.region ?_
          refine TrL.lss rfl rfl rfl ?_
          refine TrL.nil (At.then_normal ?_)
          refine Tr.seq ?_
          refine Tr.cond rfl (fun h88 => ?_) (fun h88 => ?_)
          · try simp only [beq_iff_eq, beq_eq_false_iff_ne, Bool.not_eq_true, Bool.not_eq_false, decide_eq_true_eq, decide_eq_false_iff_not, Bool.not_eq_true', Bool.not_eq_false', bne_iff_ne, Bool.not_eq_eq_eq_not, Bool.not_true, Bool.not_false, ne_eq, Decidable.not_not, Int.not_lt, Int.not_le] at h88
            refine Tr.skip (At.then_normal ?_)
            refine Tr.seq ?_
            refine Tr.block ?_
            refine Tr.seq ?_
            have hcons : addOk e.next ((s.tabs.map (·.id)) ++ (e.add.take y.1).map (·.id)) (e.add.drop y.1) = (!decide (e.add[y.1].id ∈ (s.tabs.map (·.id)) ++ (e.add.take y.1).map (·.id)) && decide (e.add[y.1].id < e.next) && addOk e.next ((s.tabs.map (·.id)) ++ (e.add.take y.1).map (·.id) ++ [e.add[y.1].id]) (e.add.drop (y.1 + 1))) := by rw [List.drop_eq_getElem_cons (by omega), addOk_cons]
            have hti : (e.add.take y.1).length ≤ 128 := by simp only [List.length_take]; omega
            refine Tr.region ?_
            refine TrL.idxF rfl rfl rfl se22 sz46 hA rfl rfl rfl (List.getElem?_eq_getElem (by omega)) (fun b89 o89 hp89 hc89 => ?_)
            refine TrL.loadRA rfl rfl ag46 sz46 (by assumption) (by rfl) ?_
            refine TrL.alloc rfl zc46 (fun b17 => ?_)
            refine TrL.storeLA rfl rfl sz46 ⟨rfl, List.cons_ne_nil _ _⟩ rfl (by repeat (first | with_reducible exact Upd.here | with_reducible apply Upd.there | with_reducible apply Upd.app_nil | with_reducible apply Upd.app_cons)) (by rfl) ?_
            refine TrL.nil (At.then_normal ?_)
            refine Tr.seq ?_
            refine Tr.seq ?_
            refine Tr.region ?_
            refine TrL.move rfl rfl ?_
            refine TrL.field0 rfl rfl fl46_0 ?_
            refine TrL.load1 rfl rfl sc3 (Sees.cl1 (by repeat (first | with_reducible exact Pick.here | with_reducible apply Pick.there | with_reducible apply Pick.app_nil | with_reducible apply Pick.app_cons)) (by rfl)) ?_
            refine TrL.lookup (kf := Value.int .i64) rfl rfl rfl (intKey in3) mp83 zv4 (by repeat (first | with_reducible exact Pick.here | with_reducible apply Pick.there | with_reducible apply Pick.app_nil | with_reducible apply Pick.app_cons)) (kvB_get _ _) ?_
            refine TrL.move rfl rfl ?_
            refine TrL.cases (t := 95) rfl (fun h95 => ?_) (fun h95 => ?_)
            · try simp only [beq_iff_eq, beq_eq_false_iff_ne, Bool.not_eq_true, Bool.not_eq_false, decide_eq_true_eq, decide_eq_false_iff_not, Bool.not_eq_true', Bool.not_eq_false', bne_iff_ne, Bool.not_eq_eq_eq_not, Bool.not_true, Bool.not_false, ne_eq, Decidable.not_not, Int.not_lt, Int.not_le] at h95
              refine TrL.unwant rfl rfl rfl ?_
              refine TrL.unwant rfl rfl rfl ?_
              refine TrL.unwant rfl rfl rfl ?_
              refine TrL.unwant rfl rfl rfl ?_
              refine TrL.unwant rfl rfl rfl ?_
              refine TrL.pickT rfl rfl rfl ?_
              refine TrL.nil (At.then_normal ?_)
              refine Tr.condT rfl ?_
              refine Tr.seq ?_
              refine Tr.region ?_
              refine TrL.build rfl rfl pl38 zc38 rfl ?_
              refine TrL.storeLA rfl rfl sz38 ⟨rfl, List.cons_ne_nil _ _⟩ rfl (by repeat (first | with_reducible exact Upd.here | with_reducible apply Upd.there | with_reducible apply Upd.app_nil | with_reducible apply Upd.app_cons)) (by rfl) ?_
              refine TrL.assign rfl rfl ?_
              refine TrL.nil (At.then_normal ?_)
              refine Tr.ret (At.then_ret (At.block_ret (At.then_ret (At.then_ret (At.block_ret (At.then_ret (At.retX [] (.inl rfl) rfl (Res.cellLA rfl ag38 sz38 (by repeat (first | with_reducible exact Pick.here | with_reducible apply Pick.there | with_reducible apply Pick.app_nil | with_reducible apply Pick.app_cons)) (by rfl) (Res.tmp rfl Res.nil)) (by repeat (first | exact Picks.nil | with_reducible exact Pick.here | with_reducible apply Pick.there | with_reducible apply Pick.app_nil | with_reducible apply Pick.app_cons | apply Picks.cons)) (by 
                  refine ⟨[RowC encT 4 none ([] : List Tab)], fun h _ => one_stars (RowC.nil _), ?_⟩
                  have e1 : applyF s e = (zeroS, 120) := by
                    have hnf : fitsE s e = false := by unfold fitsE; rw [show addOk e.next (s.tabs.map (·.id)) e.add = false by rw [← hw2, hcons]; simp only [h95]; simp]; simp
                    unfold applyF
                    rw [if_neg (by simp [hm]), hnf]
                    rfl
                  have e2 := hK none 0
                  rw [e1] at e2
                  exact e2))))))))
            · try simp only [beq_iff_eq, beq_eq_false_iff_ne, Bool.not_eq_true, Bool.not_eq_false, decide_eq_true_eq, decide_eq_false_iff_not, Bool.not_eq_true', Bool.not_eq_false', bne_iff_ne, Bool.not_eq_eq_eq_not, Bool.not_true, Bool.not_false, ne_eq, Decidable.not_not, Int.not_lt, Int.not_le] at h95
              refine TrL.want rfl rfl ?_
              refine TrL.field0 rfl rfl fl46_0 ?_
              refine TrL.want rfl rfl ?_
              refine TrL.load1 rfl rfl sc3 (Sees.cl1 (by repeat (first | with_reducible exact Pick.here | with_reducible apply Pick.there | with_reducible apply Pick.app_nil | with_reducible apply Pick.app_cons)) (by rfl)) ?_
              refine TrL.want rfl rfl ?_
              refine TrL.field rfl rfl fl25_3 ?_
              refine TrL.want rfl rfl ?_
              refine TrL.load1 rfl rfl sc3 (Sees.cl1 (by repeat (first | with_reducible exact Pick.here | with_reducible apply Pick.there | with_reducible apply Pick.app_nil | with_reducible apply Pick.app_cons)) (by rfl)) ?_
              refine TrL.want rfl rfl ?_
              refine TrL.geq rfl rfl rfl ?_
              refine TrL.pickF rfl rfl rfl ?_
              refine TrL.nil (At.then_normal ?_)
              refine Tr.cond rfl (fun h101 => ?_) (fun h101 => ?_)
              · try simp only [beq_iff_eq, beq_eq_false_iff_ne, Bool.not_eq_true, Bool.not_eq_false, decide_eq_true_eq, decide_eq_false_iff_not, Bool.not_eq_true', Bool.not_eq_false', bne_iff_ne, Bool.not_eq_eq_eq_not, Bool.not_true, Bool.not_false, ne_eq, Decidable.not_not, Int.not_lt, Int.not_le] at h101
                refine Tr.seq ?_
                refine Tr.region ?_
                refine TrL.build rfl rfl pl38 zc38 rfl ?_
                refine TrL.storeLA rfl rfl sz38 ⟨rfl, List.cons_ne_nil _ _⟩ rfl (by repeat (first | with_reducible exact Upd.here | with_reducible apply Upd.there | with_reducible apply Upd.app_nil | with_reducible apply Upd.app_cons)) (by rfl) ?_
                refine TrL.assign rfl rfl ?_
                refine TrL.nil (At.then_normal ?_)
                refine Tr.ret (At.then_ret (At.block_ret (At.then_ret (At.then_ret (At.block_ret (At.then_ret (At.retX [] (.inl rfl) rfl (Res.cellLA rfl ag38 sz38 (by repeat (first | with_reducible exact Pick.here | with_reducible apply Pick.there | with_reducible apply Pick.app_nil | with_reducible apply Pick.app_cons)) (by rfl) (Res.tmp rfl Res.nil)) (by repeat (first | exact Picks.nil | with_reducible exact Pick.here | with_reducible apply Pick.there | with_reducible apply Pick.app_nil | with_reducible apply Pick.app_cons | apply Picks.cons)) (by 
                    refine ⟨[RowC encT 4 none ([] : List Tab)], fun h _ => one_stars (RowC.nil _), ?_⟩
                    have e1 : applyF s e = (zeroS, 120) := by
                      have hnf : fitsE s e = false := by unfold fitsE; rw [show addOk e.next (s.tabs.map (·.id)) e.add = false by rw [← hw2, hcons, show decide (e.add[y.1].id < e.next) = false from by simpa using h101]; simp]; simp
                      unfold applyF
                      rw [if_neg (by simp [hm]), hnf]
                      rfl
                    have e2 := hK none 0
                    rw [e1] at e2
                    exact e2))))))))
              · try simp only [beq_iff_eq, beq_eq_false_iff_ne, Bool.not_eq_true, Bool.not_eq_false, decide_eq_true_eq, decide_eq_false_iff_not, Bool.not_eq_true', Bool.not_eq_false', bne_iff_ne, Bool.not_eq_eq_eq_not, Bool.not_true, Bool.not_false, ne_eq, Decidable.not_not, Int.not_lt, Int.not_le] at h101
                refine Tr.skip (At.then_normal ?_)
                refine Tr.seq ?_
                refine Tr.region ?_
                refine TrL.move rfl rfl ?_
                refine TrL.field0 rfl rfl fl46_0 ?_
                refine TrL.load1 rfl rfl sc3 (Sees.cl1 (by repeat (first | with_reducible exact Pick.here | with_reducible apply Pick.there | with_reducible apply Pick.app_nil | with_reducible apply Pick.app_cons)) (by rfl)) ?_
                refine TrL.mapUpdate (kf := (Value.int .i64)) rfl rfl rfl (intKey in3) mp83 (by repeat (first | with_reducible exact Upd.here | with_reducible apply Upd.there | with_reducible apply Upd.app_nil | with_reducible apply Upd.app_cons)) ?_
                refine TrL.nil (At.then_normal ?_)
                refine Tr.region ?_
                refine TrL.field0 rfl rfl fl38_0 ?_
                refine TrL.load1 rfl rfl sc22 (Sees.cl1 (by repeat (first | with_reducible exact Pick.here | with_reducible apply Pick.there | with_reducible apply Pick.app_nil | with_reducible apply Pick.app_cons)) (by rfl)) ?_
                refine TrL.loadLA rfl rfl ag46 sz46 (by repeat (first | with_reducible exact Pick.here | with_reducible apply Pick.there | with_reducible apply Pick.app_nil | with_reducible apply Pick.app_cons)) (by rfl) ?_
                refine TrL.buildSlA rfl rfl se22 sz46 zc46 rfl rfl rfl (fun b109 => ?_)
                refine TrL.append1 (v := e.add[y.1]) rfl rfl se22 sz46 by46 zc46 rfl (by decide) (by repeat (first | with_reducible exact Pick.here | with_reducible apply Pick.there | with_reducible apply Pick.app_nil | with_reducible apply Pick.app_cons)) (by repeat (first | with_reducible exact Pick.here | with_reducible apply Pick.there | with_reducible apply Pick.app_nil | with_reducible apply Pick.app_cons)) (by rfl) (by rfl) (by rfl) (by rfl) (by decide) (by simp only [List.length_append]; omega) (fun p110 cap110 => ?_)
                refine TrL.field0 rfl rfl fl38_0 ?_
                refine TrL.store1 rfl rfl sz22 rfl (by repeat (first | with_reducible exact Upd.here | with_reducible apply Upd.there | with_reducible apply Upd.app_nil | with_reducible apply Upd.app_cons)) (by rfl) ?_
                refine TrL.nil (At.block_normal (At.then_normal ?_))
                refine Tr.region ?_
                refine TrL.addI rfl rfl rfl (by omega) ?_
                refine TrL.move rfl rfl ?_
                refine TrL.nil ?_
                have e5 : ((s.tabs.map (·.id)) ++ (e.add.take y.1).map (·.id)) ++ [e.add[y.1].id] = (s.tabs.map (·.id)) ++ (e.add.take (y.1 + 1)).map (·.id) := by rw [List.append_assoc, map_snoc (by omega)]
                have e6 : ((s.tabs.filter fun t => !decide (t.id ∈ e.drop)) ++ e.add.take y.1) ++ [e.add[y.1]] = (s.tabs.filter fun t => !decide (t.id ∈ e.drop)) ++ e.add.take (y.1 + 1) := by rw [List.append_assoc, ← List.take_succ_eq_append_getElem (by omega)]
                rw [kvB_snoc, e5, e6]
                refine At.again (y.1 + 1, p110, cap110) ⟨by show y.1 + 1 ≤ e.add.length; omega, ?_⟩ (by show e.add.length - (y.1 + 1) < e.add.length - y.1; omega) (by repeat (first | exact Sub.nil | refine Sub.cons (by rfl) ?_)) (by repeat (first | exact Picks.nil | with_reducible exact Pick.here | with_reducible apply Pick.there | with_reducible apply Pick.app_nil | with_reducible apply Pick.app_cons | apply Picks.cons))
                show addOk e.next ((s.tabs.map (·.id)) ++ (e.add.take (y.1 + 1)).map (·.id)) (e.add.drop (y.1 + 1)) = _
                rw [← hw2, hcons, e5]
                have h1 : decide (e.add[y.1].id < e.next) = true := by simpa using h101
                simp only [h95, h1]
                simp
          · try simp only [beq_iff_eq, beq_eq_false_iff_ne, Bool.not_eq_true, Bool.not_eq_false, decide_eq_true_eq, decide_eq_false_iff_not, Bool.not_eq_true', Bool.not_eq_false', bne_iff_ne, Bool.not_eq_eq_eq_not, Bool.not_true, Bool.not_false, ne_eq, Decidable.not_not, Int.not_lt, Int.not_le] at h88
            refine Tr.exit (At.then_exit (At.then_exit (At.block_hit (At.then_normal ?_))))
            refine Tr.seq ?_
            rw [List.take_of_length_le (show e.add.length ≤ y.1 by omega)]
            have hadd : addOk e.next (s.tabs.map (·.id)) e.add = true := by rw [← hw2, List.drop_of_length_le (by omega)]; rfl
            refine Tr.region ?_
            refine TrL.field0 rfl rfl fl38_0 ?_
            refine TrL.load1 rfl rfl sc22 (Sees.cl1 (by repeat (first | with_reducible exact Pick.here | with_reducible apply Pick.there | with_reducible apply Pick.app_nil | with_reducible apply Pick.app_cons)) (by rfl)) ?_
            refine TrL.call rfl rfl rfl ca49 (by repeat (first | exact Picks.nil | with_reducible exact Pick.here | with_reducible apply Pick.there | with_reducible apply Pick.app_nil | with_reducible apply Pick.app_cons | apply Picks.cons)) (fun Ft115 hUt115 => SortStable_spec rfl (by simp only [List.length_append]; omega) (fun L hL1 hL2 => ?_))
            have hLr := hL1.length_eq
            have hLl := hLr
            simp only [List.length_append] at hLl
            refine TrL.nil (At.then_normal ?_)
            refine Tr.seq ?_
            refine Tr.seq ?_
            refine Tr.region ?_
            refine TrL.assign rfl rfl ?_
            refine TrL.nil (At.then_normal ?_)
            refine Tr.block ?_
            generalize hp3 : y.2.1 = p3
            generalize hc3 : y.2.2 = c3
            refine Tr.loopK [2, 3, 4, 13] (α := Nat) (fun k => [(18, .int .i64 (k : Int))]) (fun k => []) (fun k => 1 ≤ k ∧ adjOk (L.drop (k - 1)) = adjOk L) (fun k => L.length + 1 - k) (1) (by rfl) ?_ (by repeat (first | exact Sub.nil | refine Sub.cons (by rfl) ?_)) (by repeat (first | exact Picks.nil | with_reducible exact Pick.here | with_reducible apply Pick.there | with_reducible apply Pick.app_nil | with_reducible apply Pick.app_cons | apply Picks.cons)) ?_
            · exact ⟨Nat.le_refl _, rfl⟩
            rintro k ⟨hk1, hk2⟩
            refine Tr.seq ?_
            refine Tr.seq ?_
            refine Tr.region ?_
            refine TrL.move rfl rfl ?_
            refine TrL.field0 rfl rfl fl38_0 ?_
            refine TrL.load1 rfl rfl sc22 (Sees.cl1 (by repeat (first | with_reducible exact Pick.here | with_reducible apply Pick.there | with_reducible apply Pick.app_nil | with_reducible apply Pick.app_cons)) (by rfl)) ?_
            refine TrL.lenl rfl rfl se22 ?_
            refine TrL.lss rfl rfl rfl ?_
            refine TrL.nil (At.then_normal ?_)
            refine Tr.cond rfl (fun h120 => ?_) (fun h120 => ?_)
            · try simp only [beq_iff_eq, beq_eq_false_iff_ne, Bool.not_eq_true, Bool.not_eq_false, decide_eq_true_eq, decide_eq_false_iff_not, Bool.not_eq_true', Bool.not_eq_false', bne_iff_ne, Bool.not_eq_eq_eq_not, Bool.not_true, Bool.not_false, ne_eq, Decidable.not_not, Int.not_lt, Int.not_le] at h120
              refine Tr.skip (At.then_normal ?_)
              refine Tr.seq ?_
              refine Tr.block ?_
              refine Tr.seq ?_
              have hkl2 : k < L.length := by omega
              refine Tr.cutK [2, 3, 4, 13, 18] (β := Nat × Nat) (fun b => [(19, .pointer (some ⟨b.1, 0, none⟩)), (20, .pointer (some ⟨b.2, 0, none⟩))]) (fun b => [mapC (Value.int .i64) b27 (kvB ((s.tabs.map (·.id)) ++ e.add.map (·.id))), mapC (Value.int .i64) b39 (kvB (e.drop)), cl b.1 (encT L[k - 1]) 46, cl b.2 (encT L[k]) 46, cl b13 [.slice p3 ((s.tabs.filter fun t => !decide (t.id ∈ e.drop)) ++ e.add).length c3, .int .i64 e.log, .int .i64 e.next] 38, Own 46 4 encT p3 c3 L, cl b2 (stC p c s) 38, cl b3 (edC pa ca pd cd e) 25, cl b4 [.slice none 0 0, .int .i64 0, .int .i64 0] 38]) (fun b => True) (by rfl) ?_ ?_
              · skip
                refine Tr.regionDH mixed ?_
                refine TrD.take 0 rfl (by kernel_rfl) (by kernel_rfl) (by kernel_rfl) (by repeat (first | exact Picks.nil | with_reducible exact Pick.here | with_reducible apply Pick.there | with_reducible apply Pick.app_nil | with_reducible apply Pick.app_cons | apply Picks.cons)) ?_
                refine TrL.field0 rfl rfl fl38_0 ?_
                refine TrL.nilTake (listed' := #[true, false, false, false, false, false, false, false, false, false, false, false, false, false, false]) (by kernel_rfl) ?_
                refine TrD.take 1 rfl (by kernel_rfl) (by kernel_rfl) (by kernel_rfl) (by repeat (first | exact Picks.nil | with_reducible exact Pick.here | with_reducible apply Pick.there | with_reducible apply Pick.app_nil | with_reducible apply Pick.app_cons | apply Picks.cons)) ?_
                refine TrL.load1 rfl rfl sc22 (Sees.cl1 (by repeat (first | with_reducible exact Pick.here | with_reducible apply Pick.there | with_reducible apply Pick.app_nil | with_reducible apply Pick.app_cons)) (by rfl)) ?_
                refine TrL.nilTake (listed' := #[true, true, false, false, false, false, false, false, false, false, false, false, false, false, false]) (by kernel_rfl) ?_
                refine TrD.take 2 rfl (by kernel_rfl) (by kernel_rfl) (by kernel_rfl) (by repeat (first | exact Picks.nil | with_reducible exact Pick.here | with_reducible apply Pick.there | with_reducible apply Pick.app_nil | with_reducible apply Pick.app_cons | apply Picks.cons)) ?_
                refine TrL.move rfl rfl ?_
                refine TrL.nilTake (listed' := #[true, true, true, false, false, false, false, false, false, false, false, false, false, false, false]) (by kernel_rfl) ?_
                refine TrD.take 3 rfl (by kernel_rfl) (by kernel_rfl) (by kernel_rfl) (by repeat (first | exact Picks.nil | with_reducible exact Pick.here | with_reducible apply Pick.there | with_reducible apply Pick.app_nil | with_reducible apply Pick.app_cons | apply Picks.cons)) ?_
                refine TrL.subI rfl rfl rfl (by omega) ?_
                refine TrL.nilTake (listed' := #[true, true, true, true, false, false, false, false, false, false, false, false, false, false, false]) (by kernel_rfl) ?_
                refine TrD.take 4 rfl (by kernel_rfl) (by kernel_rfl) (by kernel_rfl) (by repeat (first | exact Picks.nil | with_reducible exact Pick.here | with_reducible apply Pick.there | with_reducible apply Pick.app_nil | with_reducible apply Pick.app_cons | apply Picks.cons)) ?_
                refine TrL.idxO (enc := encT) (k := 4) (k - 1) rfl rfl rfl se22 sz46 (by repeat (first | with_reducible exact Pick.here | with_reducible apply Pick.there | with_reducible apply Pick.app_nil | with_reducible apply Pick.app_cons)) rfl (by simp only [List.length_append]; omega) (by omega) (by simp only [List.length_append]; omega) ?_
                refine TrL.nilTake (listed' := #[true, true, true, true, true, false, false, false, false, false, false, false, false, false, false]) (by kernel_rfl) ?_
                refine TrD.take 5 rfl (by kernel_rfl) (by kernel_rfl) (by kernel_rfl) (by repeat (first | exact Picks.nil | with_reducible exact Pick.here | with_reducible apply Pick.there | with_reducible apply Pick.app_nil | with_reducible apply Pick.app_cons | apply Picks.cons)) ?_
                refine TrL.loadO (enc := encT) (k := 4) (i := k - 1) rfl rfl ag46 sz46 (by repeat (first | with_reducible exact Pick.here | with_reducible apply Pick.there | with_reducible apply Pick.app_nil | with_reducible apply Pick.app_cons)) rfl rfl encT_len (List.getElem?_eq_getElem (by omega)) ?_
                refine TrL.nilTake (listed' := #[true, true, true, true, true, true, false, false, false, false, false, false, false, false, false]) (by kernel_rfl) ?_
                refine TrD.take 6 rfl (by kernel_rfl) (by kernel_rfl) (by kernel_rfl) (by repeat (first | exact Picks.nil | with_reducible exact Pick.here | with_reducible apply Pick.there | with_reducible apply Pick.app_nil | with_reducible apply Pick.app_cons | apply Picks.cons)) ?_
                refine TrL.field0 rfl rfl fl38_0 ?_
                refine TrL.nilTake (listed' := #[true, true, true, true, true, true, true, false, false, false, false, false, false, false, false]) (by kernel_rfl) ?_
                refine TrD.take 7 rfl (by kernel_rfl) (by kernel_rfl) (by kernel_rfl) (by repeat (first | exact Picks.nil | with_reducible exact Pick.here | with_reducible apply Pick.there | with_reducible apply Pick.app_nil | with_reducible apply Pick.app_cons | apply Picks.cons)) ?_
                refine TrL.load1 rfl rfl sc22 (Sees.cl1 (by repeat (first | with_reducible exact Pick.here | with_reducible apply Pick.there | with_reducible apply Pick.app_nil | with_reducible apply Pick.app_cons)) (by rfl)) ?_
                refine TrL.nilTake (listed' := #[true, true, true, true, true, true, true, true, false, false, false, false, false, false, false]) (by kernel_rfl) ?_
                refine TrD.take 8 rfl (by kernel_rfl) (by kernel_rfl) (by kernel_rfl) (by repeat (first | exact Picks.nil | with_reducible exact Pick.here | with_reducible apply Pick.there | with_reducible apply Pick.app_nil | with_reducible apply Pick.app_cons | apply Picks.cons)) ?_
                refine TrL.move rfl rfl ?_
                refine TrL.nilTake (listed' := #[true, true, true, true, true, true, true, true, true, false, false, false, false, false, false]) (by kernel_rfl) ?_
                refine TrD.take 9 rfl (by kernel_rfl) (by kernel_rfl) (by kernel_rfl) (by repeat (first | exact Picks.nil | with_reducible exact Pick.here | with_reducible apply Pick.there | with_reducible apply Pick.app_nil | with_reducible apply Pick.app_cons | apply Picks.cons)) ?_
                refine TrL.idxO (enc := encT) (k := 4) k rfl rfl rfl se22 sz46 (by repeat (first | with_reducible exact Pick.here | with_reducible apply Pick.there | with_reducible apply Pick.app_nil | with_reducible apply Pick.app_cons)) rfl (by simp only [List.length_append]; omega) rfl (by simp only [List.length_append]; omega) ?_
                refine TrL.nilTake (listed' := #[true, true, true, true, true, true, true, true, true, true, false, false, false, false, false]) (by kernel_rfl) ?_
                refine TrD.take 10 rfl (by kernel_rfl) (by kernel_rfl) (by kernel_rfl) (by repeat (first | exact Picks.nil | with_reducible exact Pick.here | with_reducible apply Pick.there | with_reducible apply Pick.app_nil | with_reducible apply Pick.app_cons | apply Picks.cons)) ?_
                refine TrL.loadO (enc := encT) (k := 4) (i := k) rfl rfl ag46 sz46 (by repeat (first | with_reducible exact Pick.here | with_reducible apply Pick.there | with_reducible apply Pick.app_nil | with_reducible apply Pick.app_cons)) rfl rfl encT_len (List.getElem?_eq_getElem (by omega)) ?_
                refine TrL.nilTake (listed' := #[true, true, true, true, true, true, true, true, true, true, true, false, false, false, false]) (by kernel_rfl) ?_
                refine TrD.all [11, 12] (by kernel_rfl) rfl ?_
                refine all_cons ⟨_, rfl, ?_⟩ ?_
                · skip
                  refine TrL.alloc rfl zc46 (fun b19 => ?_)
                  refine TrL.nil (At.step (listed' := #[true, true, true, true, true, true, true, true, true, true, true, true, false, false, false]) (by kernel_rfl) (by repeat (first | exact Picks.nil | with_reducible exact Pick.here | with_reducible apply Pick.there | with_reducible apply Pick.app_nil | with_reducible apply Pick.app_cons | apply Picks.cons)) ?_)
                  refine TrD.all [12] (by kernel_rfl) rfl ?_
                  refine all_cons ⟨_, rfl, ?_⟩ all_nil
                  refine TrL.alloc rfl zc46 (fun b20 => ?_)
                  refine TrL.nil (At.step (listed' := #[true, true, true, true, true, true, true, true, true, true, true, true, true, false, false]) (by kernel_rfl) (by repeat (first | exact Picks.nil | with_reducible exact Pick.here | with_reducible apply Pick.there | with_reducible apply Pick.app_nil | with_reducible apply Pick.app_cons | apply Picks.cons)) ?_)
                  refine TrD.all [13] (by kernel_rfl) rfl ?_
                  refine all_cons ⟨_, rfl, ?_⟩ all_nil
                  refine TrL.storeLA rfl rfl sz46 ⟨rfl, List.cons_ne_nil _ _⟩ rfl (by repeat (first | with_reducible exact Upd.here | with_reducible apply Upd.there | with_reducible apply Upd.app_nil | with_reducible apply Upd.app_cons)) (by rfl) ?_
                  refine TrL.nil (At.step (listed' := #[true, true, true, true, true, true, true, true, true, true, true, true, true, true, false]) (by kernel_rfl) (by repeat (first | exact Picks.nil | with_reducible exact Pick.here | with_reducible apply Pick.there | with_reducible apply Pick.app_nil | with_reducible apply Pick.app_cons | apply Picks.cons)) ?_)
                  refine TrD.all [14] (by kernel_rfl) rfl ?_
                  refine all_cons ⟨_, rfl, ?_⟩ all_nil
                  refine TrL.storeLA rfl rfl sz46 ⟨rfl, List.cons_ne_nil _ _⟩ rfl (by repeat (first | with_reducible exact Upd.here | with_reducible apply Upd.there | with_reducible apply Upd.app_nil | with_reducible apply Upd.app_cons)) (by rfl) ?_
                  refine TrL.nil (At.step (listed' := #[true, true, true, true, true, true, true, true, true, true, true, true, true, true, true]) (by kernel_rfl) (by repeat (first | exact Picks.nil | with_reducible exact Pick.here | with_reducible apply Pick.there | with_reducible apply Pick.app_nil | with_reducible apply Pick.app_cons | apply Picks.cons)) ?_)
                  refine TrD.done (by kernel_rfl) ?_
                  refine At.meetK (b19, b20) trivial (by repeat (first | exact Sub.nil | refine Sub.cons (by rfl) ?_)) (by repeat (first | exact Picks.nil | with_reducible exact Pick.here | exact Pick.here | with_reducible apply Pick.there | with_reducible apply Pick.app_nil | with_reducible apply Pick.app_cons | apply Picks.cons))
                refine all_cons ⟨_, rfl, ?_⟩ ?_
                · skip
                  refine TrL.alloc rfl zc46 (fun b20 => ?_)
                  refine TrL.nil (At.step (listed' := #[true, true, true, true, true, true, true, true, true, true, true, false, true, false, false]) (by kernel_rfl) (by repeat (first | exact Picks.nil | with_reducible exact Pick.here | with_reducible apply Pick.there | with_reducible apply Pick.app_nil | with_reducible apply Pick.app_cons | apply Picks.cons)) ?_)
                  refine TrD.all [11] (by kernel_rfl) rfl ?_
                  refine all_cons ⟨_, rfl, ?_⟩ all_nil
                  refine TrL.alloc rfl zc46 (fun b19 => ?_)
                  refine TrL.nil (At.step (listed' := #[true, true, true, true, true, true, true, true, true, true, true, true, true, false, false]) (by kernel_rfl) (by repeat (first | exact Picks.nil | with_reducible exact Pick.here | with_reducible apply Pick.there | with_reducible apply Pick.app_nil | with_reducible apply Pick.app_cons | apply Picks.cons)) ?_)
                  refine TrD.all [13] (by kernel_rfl) rfl ?_
                  refine all_cons ⟨_, rfl, ?_⟩ all_nil
                  refine TrL.storeLA rfl rfl sz46 ⟨rfl, List.cons_ne_nil _ _⟩ rfl (by repeat (first | with_reducible exact Upd.here | with_reducible apply Upd.there | with_reducible apply Upd.app_nil | with_reducible apply Upd.app_cons)) (by rfl) ?_
                  refine TrL.nil (At.step (listed' := #[true, true, true, true, true, true, true, true, true, true, true, true, true, true, false]) (by kernel_rfl) (by repeat (first | exact Picks.nil | with_reducible exact Pick.here | with_reducible apply Pick.there | with_reducible apply Pick.app_nil | with_reducible apply Pick.app_cons | apply Picks.cons)) ?_)
                  refine TrD.all [14] (by kernel_rfl) rfl ?_
                  refine all_cons ⟨_, rfl, ?_⟩ all_nil
                  refine TrL.storeLA rfl rfl sz46 ⟨rfl, List.cons_ne_nil _ _⟩ rfl (by repeat (first | with_reducible exact Upd.here | with_reducible apply Upd.there | with_reducible apply Upd.app_nil | with_reducible apply Upd.app_cons)) (by rfl) ?_
                  refine TrL.nil (At.step (listed' := #[true, true, true, true, true, true, true, true, true, true, true, true, true, true, true]) (by kernel_rfl) (by repeat (first | exact Picks.nil | with_reducible exact Pick.here | with_reducible apply Pick.there | with_reducible apply Pick.app_nil | with_reducible apply Pick.app_cons | apply Picks.cons)) ?_)
                  refine TrD.done (by kernel_rfl) ?_
                  refine At.meetK (b19, b20) trivial (by repeat (first | exact Sub.nil | refine Sub.cons (by rfl) ?_)) (by repeat (first | exact Picks.nil | with_reducible exact Pick.here | exact Pick.here | with_reducible apply Pick.there | with_reducible apply Pick.app_nil | with_reducible apply Pick.app_cons | apply Picks.cons))
                exact all_nil
              · skip
                rintro ⟨b19, b20⟩ -
                refine Tr.seq ?_
                have hd2 := drop_two hk1 hkl2
                refine Tr.region ?_
                refine TrL.field rfl rfl fl46_1 ?_
                refine TrL.load1 rfl rfl sc3 (Sees.cl1 (by repeat (first | with_reducible exact Pick.here | with_reducible apply Pick.there | with_reducible apply Pick.app_nil | with_reducible apply Pick.app_cons)) (by rfl)) ?_
                refine TrL.gtr rfl rfl rfl ?_
                refine TrL.move rfl rfl ?_
                refine TrL.cases (t := 137) rfl (fun h137 => ?_) (fun h137 => ?_)
                · try simp only [beq_iff_eq, beq_eq_false_iff_ne, Bool.not_eq_true, Bool.not_eq_false, decide_eq_true_eq, decide_eq_false_iff_not, Bool.not_eq_true', Bool.not_eq_false', bne_iff_ne, Bool.not_eq_eq_eq_not, Bool.not_true, Bool.not_false, ne_eq, Decidable.not_not, Int.not_lt, Int.not_le] at h137
                  refine TrL.want rfl rfl ?_
                  refine TrL.field rfl rfl fl46_1 ?_
                  refine TrL.want rfl rfl ?_
                  refine TrL.load1 rfl rfl sc3 (Sees.cl1 (by repeat (first | with_reducible exact Pick.here | with_reducible apply Pick.there | with_reducible apply Pick.app_nil | with_reducible apply Pick.app_cons)) (by rfl)) ?_
                  refine TrL.want rfl rfl ?_
                  refine TrL.field rfl rfl fl46_1 ?_
                  refine TrL.want rfl rfl ?_
                  refine TrL.load1 rfl rfl sc3 (Sees.cl1 (by repeat (first | with_reducible exact Pick.here | with_reducible apply Pick.there | with_reducible apply Pick.app_nil | with_reducible apply Pick.app_cons)) (by rfl)) ?_
                  refine TrL.want rfl rfl ?_
                  refine TrL.eqi rfl rfl rfl ?_
                  refine TrL.pickT rfl rfl rfl ?_
                  refine TrL.move rfl rfl ?_
                  refine TrL.cases (t := 144) rfl (fun h144 => ?_) (fun h144 => ?_)
                  · try simp only [beq_iff_eq, beq_eq_false_iff_ne, Bool.not_eq_true, Bool.not_eq_false, decide_eq_true_eq, decide_eq_false_iff_not, Bool.not_eq_true', Bool.not_eq_false', bne_iff_ne, Bool.not_eq_eq_eq_not, Bool.not_true, Bool.not_false, ne_eq, Decidable.not_not, Int.not_lt, Int.not_le] at h144
                    refine TrL.want rfl rfl ?_
                    refine TrL.field rfl rfl fl46_2 ?_
                    refine TrL.want rfl rfl ?_
                    refine TrL.load1 rfl rfl sc9 (Sees.cl1 (by repeat (first | with_reducible exact Pick.here | with_reducible apply Pick.there | with_reducible apply Pick.app_nil | with_reducible apply Pick.app_cons)) (by rfl)) ?_
                    refine TrL.want rfl rfl ?_
                    refine TrL.field rfl rfl fl46_3 ?_
                    refine TrL.want rfl rfl ?_
                    refine TrL.load1 rfl rfl sc9 (Sees.cl1 (by repeat (first | with_reducible exact Pick.here | with_reducible apply Pick.there | with_reducible apply Pick.app_nil | with_reducible apply Pick.app_cons)) (by rfl)) ?_
                    refine TrL.want rfl rfl ?_
                    refine TrL.les rfl rfl rfl ?_
                    refine TrL.pickT rfl rfl rfl ?_
                    refine TrL.nil (At.then_normal ?_)
                    refine Tr.cond rfl (fun h150 => ?_) (fun h150 => ?_)
                    · try simp only [beq_iff_eq, beq_eq_false_iff_ne, Bool.not_eq_true, Bool.not_eq_false, decide_eq_true_eq, decide_eq_false_iff_not, Bool.not_eq_true', Bool.not_eq_false', bne_iff_ne, Bool.not_eq_eq_eq_not, Bool.not_true, Bool.not_false, ne_eq, Decidable.not_not, Int.not_lt, Int.not_le] at h150
                      refine Tr.seq ?_
                      refine Tr.region ?_
                      refine TrL.build rfl rfl pl38 zc38 rfl ?_
                      refine TrL.storeLA rfl rfl sz38 ⟨rfl, List.cons_ne_nil _ _⟩ rfl (by repeat (first | with_reducible exact Upd.here | with_reducible apply Upd.there | with_reducible apply Upd.app_nil | with_reducible apply Upd.app_cons)) (by rfl) ?_
                      refine TrL.assign rfl rfl ?_
                      refine TrL.nil (At.then_normal ?_)
                      refine Tr.ret (At.block_ret (At.then_ret (At.then_ret (At.block_ret (At.then_ret (At.retX [] (.inl rfl) rfl (Res.cellLA rfl ag38 sz38 (by repeat (first | with_reducible exact Pick.here | with_reducible apply Pick.there | with_reducible apply Pick.app_nil | with_reducible apply Pick.app_cons)) (by rfl) (Res.tmp rfl Res.nil)) (by repeat (first | exact Picks.nil | with_reducible exact Pick.here | with_reducible apply Pick.there | with_reducible apply Pick.app_nil | with_reducible apply Pick.app_cons | apply Picks.cons)) (by 
                          refine ⟨[RowC encT 4 none ([] : List Tab)], fun h _ => one_stars (RowC.nil _), ?_⟩
                          have e1 : applyF s e = (zeroS, 120) := by
                            have hadj : adjOk L = false := by rw [← hk2, hd2, adjOk_cons]; unfold adjT; have h1 : 0 < L[k].level := h144 ▸ h137; simp only [h1, h144, h150]; simp
                            have hu := sort_unique g hm hadd (l := L) hL1 hL2
                            have hnf : fitsE s e = false := by
                              unfold fitsE
                              have : decide (apartL (newT s e)) = false := by simp only [decide_eq_false_iff_not]; intro h; rw [hu.1.2 h] at hadj; cases hadj
                              rw [this]; simp
                            unfold applyF
                            rw [if_neg (by simp [hm]), hnf]
                            rfl
                          have e2 := hK none 0
                          rw [e1] at e2
                          exact e2)))))))
                    · try simp only [beq_iff_eq, beq_eq_false_iff_ne, Bool.not_eq_true, Bool.not_eq_false, decide_eq_true_eq, decide_eq_false_iff_not, Bool.not_eq_true', Bool.not_eq_false', bne_iff_ne, Bool.not_eq_eq_eq_not, Bool.not_true, Bool.not_false, ne_eq, Decidable.not_not, Int.not_lt, Int.not_le] at h150
                      refine Tr.skip (At.block_normal (At.then_normal ?_))
                      refine Tr.region ?_
                      refine TrL.move rfl rfl ?_
                      refine TrL.addI rfl rfl rfl (by omega) ?_
                      refine TrL.assign rfl rfl ?_
                      refine TrL.nil ?_
                      have h0 : adjT L[k - 1] L[k] = true := by unfold adjT; first | (rw [h150]; simp; done) | (rw [decide_eq_false h144]; simp; done) | (rw [show decide (0 < L[k - 1].level) = false from decide_eq_false (by omega)]; simp; done)
                      refine At.again (k + 1) ⟨by omega, ?_⟩ (by omega) (by repeat (first | exact Sub.nil | refine Sub.cons (by rfl) ?_)) (by repeat (first | exact Picks.nil | with_reducible exact Pick.here | with_reducible apply Pick.there | with_reducible apply Pick.app_nil | with_reducible apply Pick.app_cons | apply Picks.cons))
                      rw [← hk2, hd2, adjOk_cons, h0, Bool.true_and, Nat.add_sub_cancel, ← List.drop_eq_getElem_cons hkl2]
                  · try simp only [beq_iff_eq, beq_eq_false_iff_ne, Bool.not_eq_true, Bool.not_eq_false, decide_eq_true_eq, decide_eq_false_iff_not, Bool.not_eq_true', Bool.not_eq_false', bne_iff_ne, Bool.not_eq_eq_eq_not, Bool.not_true, Bool.not_false, ne_eq, Decidable.not_not, Int.not_lt, Int.not_le] at h144
                    refine TrL.unwant rfl rfl rfl ?_
                    refine TrL.unwant rfl rfl rfl ?_
                    refine TrL.unwant rfl rfl rfl ?_
                    refine TrL.unwant rfl rfl rfl ?_
                    refine TrL.unwant rfl rfl rfl ?_
                    refine TrL.pickF rfl rfl rfl ?_
                    refine TrL.nil (At.then_normal ?_)
                    refine Tr.condF rfl ?_
                    refine Tr.skip (At.block_normal (At.then_normal ?_))
                    refine Tr.region ?_
                    refine TrL.move rfl rfl ?_
                    refine TrL.addI rfl rfl rfl (by omega) ?_
                    refine TrL.assign rfl rfl ?_
                    refine TrL.nil ?_
                    have h0 : adjT L[k - 1] L[k] = true := by unfold adjT; first | (rw [h150]; simp; done) | (rw [decide_eq_false h144]; simp; done) | (rw [show decide (0 < L[k - 1].level) = false from decide_eq_false (by omega)]; simp; done)
                    refine At.again (k + 1) ⟨by omega, ?_⟩ (by omega) (by repeat (first | exact Sub.nil | refine Sub.cons (by rfl) ?_)) (by repeat (first | exact Picks.nil | with_reducible exact Pick.here | with_reducible apply Pick.there | with_reducible apply Pick.app_nil | with_reducible apply Pick.app_cons | apply Picks.cons))
                    rw [← hk2, hd2, adjOk_cons, h0, Bool.true_and, Nat.add_sub_cancel, ← List.drop_eq_getElem_cons hkl2]
                · try simp only [beq_iff_eq, beq_eq_false_iff_ne, Bool.not_eq_true, Bool.not_eq_false, decide_eq_true_eq, decide_eq_false_iff_not, Bool.not_eq_true', Bool.not_eq_false', bne_iff_ne, Bool.not_eq_eq_eq_not, Bool.not_true, Bool.not_false, ne_eq, Decidable.not_not, Int.not_lt, Int.not_le] at h137
                  refine TrL.unwant rfl rfl rfl ?_
                  refine TrL.unwant rfl rfl rfl ?_
                  refine TrL.unwant rfl rfl rfl ?_
                  refine TrL.unwant rfl rfl rfl ?_
                  refine TrL.unwant rfl rfl rfl ?_
                  refine TrL.pickF rfl rfl rfl ?_
                  refine TrL.move rfl rfl ?_
                  refine TrL.unwant rfl rfl rfl ?_
                  refine TrL.unwant rfl rfl rfl ?_
                  refine TrL.unwant rfl rfl rfl ?_
                  refine TrL.unwant rfl rfl rfl ?_
                  refine TrL.unwant rfl rfl rfl ?_
                  refine TrL.pickF rfl rfl rfl ?_
                  refine TrL.nil (At.then_normal ?_)
                  refine Tr.condF rfl ?_
                  refine Tr.skip (At.block_normal (At.then_normal ?_))
                  refine Tr.region ?_
                  refine TrL.move rfl rfl ?_
                  refine TrL.addI rfl rfl rfl (by omega) ?_
                  refine TrL.assign rfl rfl ?_
                  refine TrL.nil ?_
                  have h0 : adjT L[k - 1] L[k] = true := by unfold adjT; first | (rw [h150]; simp; done) | (rw [decide_eq_false h144]; simp; done) | (rw [show decide (0 < L[k - 1].level) = false from decide_eq_false (by omega)]; simp; done)
                  refine At.again (k + 1) ⟨by omega, ?_⟩ (by omega) (by repeat (first | exact Sub.nil | refine Sub.cons (by rfl) ?_)) (by repeat (first | exact Picks.nil | with_reducible exact Pick.here | with_reducible apply Pick.there | with_reducible apply Pick.app_nil | with_reducible apply Pick.app_cons | apply Picks.cons))
                  rw [← hk2, hd2, adjOk_cons, h0, Bool.true_and, Nat.add_sub_cancel, ← List.drop_eq_getElem_cons hkl2]
            · try simp only [beq_iff_eq, beq_eq_false_iff_ne, Bool.not_eq_true, Bool.not_eq_false, decide_eq_true_eq, decide_eq_false_iff_not, Bool.not_eq_true', Bool.not_eq_false', bne_iff_ne, Bool.not_eq_eq_eq_not, Bool.not_true, Bool.not_false, ne_eq, Decidable.not_not, Int.not_lt, Int.not_le] at h120
              refine Tr.exit (At.then_exit (At.then_exit (At.block_hit (At.then_normal ?_))))
              refine Tr.seq ?_
              refine Tr.seq ?_
              refine Tr.region ?_
              refine TrL.field rfl rfl fl25_2 ?_
              refine TrL.load1 rfl rfl sc3 (Sees.cl1 (by repeat (first | with_reducible exact Pick.here | with_reducible apply Pick.there | with_reducible apply Pick.app_nil | with_reducible apply Pick.app_cons)) (by rfl)) ?_
              refine TrL.field rfl rfl fl38_1 ?_
              refine TrL.load1 rfl rfl sc3 (Sees.cl1 (by repeat (first | with_reducible exact Pick.here | with_reducible apply Pick.there | with_reducible apply Pick.app_nil | with_reducible apply Pick.app_cons)) (by rfl)) ?_
              refine TrL.lss rfl rfl rfl ?_
              refine TrL.move rfl rfl ?_
              refine TrL.cases (t := 157) rfl (fun h157 => ?_) (fun h157 => ?_)
              · try simp only [beq_iff_eq, beq_eq_false_iff_ne, Bool.not_eq_true, Bool.not_eq_false, decide_eq_true_eq, decide_eq_false_iff_not, Bool.not_eq_true', Bool.not_eq_false', bne_iff_ne, Bool.not_eq_eq_eq_not, Bool.not_true, Bool.not_false, ne_eq, Decidable.not_not, Int.not_lt, Int.not_le] at h157
                refine TrL.unwant rfl rfl rfl ?_
                refine TrL.unwant rfl rfl rfl ?_
                refine TrL.unwant rfl rfl rfl ?_
                refine TrL.unwant rfl rfl rfl ?_
                refine TrL.unwant rfl rfl rfl ?_
                refine TrL.pickT rfl rfl rfl ?_
                refine TrL.nil (At.then_normal ?_)
                refine Tr.condT rfl ?_
                refine Tr.seq ?_
                refine Tr.region ?_
                refine TrL.build rfl rfl pl38 zc38 rfl ?_
                refine TrL.storeLA rfl rfl sz38 ⟨rfl, List.cons_ne_nil _ _⟩ rfl (by repeat (first | with_reducible exact Upd.here | with_reducible apply Upd.there | with_reducible apply Upd.app_nil | with_reducible apply Upd.app_cons)) (by rfl) ?_
                refine TrL.assign rfl rfl ?_
                refine TrL.nil (At.then_normal ?_)
                refine Tr.ret (At.then_ret (At.retX [] (.inl rfl) rfl (Res.cellLA rfl ag38 sz38 (by repeat (first | with_reducible exact Pick.here | with_reducible apply Pick.there | with_reducible apply Pick.app_nil | with_reducible apply Pick.app_cons)) (by rfl) (Res.tmp rfl Res.nil)) (by repeat (first | exact Picks.nil | with_reducible exact Pick.here | with_reducible apply Pick.there | with_reducible apply Pick.app_nil | with_reducible apply Pick.app_cons | apply Picks.cons)) (by 
                    refine ⟨[RowC encT 4 none ([] : List Tab)], fun h _ => one_stars (RowC.nil _), ?_⟩
                    have e1 : applyF s e = (zeroS, 120) := by
                      have hnf : fitsE s e = false := by unfold fitsE; rw [show decide (s.log ≤ e.log) = false by simp; omega]; simp
                      unfold applyF
                      rw [if_neg (by simp [hm]), hnf]
                      rfl
                    have e2 := hK none 0
                    rw [e1] at e2
                    exact e2)))
              · try simp only [beq_iff_eq, beq_eq_false_iff_ne, Bool.not_eq_true, Bool.not_eq_false, decide_eq_true_eq, decide_eq_false_iff_not, Bool.not_eq_true', Bool.not_eq_false', bne_iff_ne, Bool.not_eq_eq_eq_not, Bool.not_true, Bool.not_false, ne_eq, Decidable.not_not, Int.not_lt, Int.not_le] at h157
                refine TrL.want rfl rfl ?_
                refine TrL.field rfl rfl fl25_3 ?_
                refine TrL.want rfl rfl ?_
                refine TrL.load1 rfl rfl sc3 (Sees.cl1 (by repeat (first | with_reducible exact Pick.here | with_reducible apply Pick.there | with_reducible apply Pick.app_nil | with_reducible apply Pick.app_cons)) (by rfl)) ?_
                refine TrL.want rfl rfl ?_
                refine TrL.field rfl rfl fl38_2 ?_
                refine TrL.want rfl rfl ?_
                refine TrL.load1 rfl rfl sc3 (Sees.cl1 (by repeat (first | with_reducible exact Pick.here | with_reducible apply Pick.there | with_reducible apply Pick.app_nil | with_reducible apply Pick.app_cons)) (by rfl)) ?_
                refine TrL.want rfl rfl ?_
                refine TrL.lss rfl rfl rfl ?_
                refine TrL.pickF rfl rfl rfl ?_
                refine TrL.nil (At.then_normal ?_)
                refine Tr.cond rfl (fun h163 => ?_) (fun h163 => ?_)
                · try simp only [beq_iff_eq, beq_eq_false_iff_ne, Bool.not_eq_true, Bool.not_eq_false, decide_eq_true_eq, decide_eq_false_iff_not, Bool.not_eq_true', Bool.not_eq_false', bne_iff_ne, Bool.not_eq_eq_eq_not, Bool.not_true, Bool.not_false, ne_eq, Decidable.not_not, Int.not_lt, Int.not_le] at h163
                  refine Tr.seq ?_
                  refine Tr.region ?_
                  refine TrL.build rfl rfl pl38 zc38 rfl ?_
                  refine TrL.storeLA rfl rfl sz38 ⟨rfl, List.cons_ne_nil _ _⟩ rfl (by repeat (first | with_reducible exact Upd.here | with_reducible apply Upd.there | with_reducible apply Upd.app_nil | with_reducible apply Upd.app_cons)) (by rfl) ?_
                  refine TrL.assign rfl rfl ?_
                  refine TrL.nil (At.then_normal ?_)
                  refine Tr.ret (At.then_ret (At.retX [] (.inl rfl) rfl (Res.cellLA rfl ag38 sz38 (by repeat (first | with_reducible exact Pick.here | with_reducible apply Pick.there | with_reducible apply Pick.app_nil | with_reducible apply Pick.app_cons)) (by rfl) (Res.tmp rfl Res.nil)) (by repeat (first | exact Picks.nil | with_reducible exact Pick.here | with_reducible apply Pick.there | with_reducible apply Pick.app_nil | with_reducible apply Pick.app_cons | apply Picks.cons)) (by 
                      refine ⟨[RowC encT 4 none ([] : List Tab)], fun h _ => one_stars (RowC.nil _), ?_⟩
                      have e1 : applyF s e = (zeroS, 120) := by
                        have hnf : fitsE s e = false := by unfold fitsE; rw [show decide (s.next ≤ e.next) = false by simp; omega]; simp
                        unfold applyF
                        rw [if_neg (by simp [hm]), hnf]
                        rfl
                      have e2 := hK none 0
                      rw [e1] at e2
                      exact e2)))
                · try simp only [beq_iff_eq, beq_eq_false_iff_ne, Bool.not_eq_true, Bool.not_eq_false, decide_eq_true_eq, decide_eq_false_iff_not, Bool.not_eq_true', Bool.not_eq_false', bne_iff_ne, Bool.not_eq_eq_eq_not, Bool.not_true, Bool.not_false, ne_eq, Decidable.not_not, Int.not_lt, Int.not_le] at h163
                  refine Tr.skip (At.then_normal ?_)
                  refine Tr.seq ?_
                  refine Tr.region ?_
                  refine TrL.loadLA rfl rfl ag38 sz38 (by repeat (first | with_reducible exact Pick.here | with_reducible apply Pick.there | with_reducible apply Pick.app_nil | with_reducible apply Pick.app_cons)) (by rfl) ?_
                  refine TrL.storeLA rfl rfl sz38 ⟨rfl, List.cons_ne_nil _ _⟩ rfl (by repeat (first | with_reducible exact Upd.here | with_reducible apply Upd.there | with_reducible apply Upd.app_nil | with_reducible apply Upd.app_cons)) (by rfl) ?_
                  refine TrL.assign rfl rfl ?_
                  refine TrL.nil (At.then_normal ?_)
                  refine Tr.ret (At.retX [Own 46 4 encT p3 c3 L] (.inl rfl) rfl (Res.cellLA rfl ag38 sz38 (by repeat (first | with_reducible exact Pick.here | with_reducible apply Pick.there | with_reducible apply Pick.app_nil | with_reducible apply Pick.app_cons)) (by rfl) (Res.tmp rfl Res.nil)) (by repeat (first | exact Picks.nil | with_reducible exact Pick.here | with_reducible apply Pick.there | with_reducible apply Pick.app_nil | with_reducible apply Pick.app_cons | apply Picks.cons)) (by 
                      have hadj : adjOk L = true := by rw [← hk2]; exact adjOk_short (by simp only [List.length_drop]; omega)
                      have hu := sort_unique g hm hadd (l := L) hL1 hL2
                      have hLn := hu.2 hadj
                      have hf : fitsE s e = true := by unfold fitsE; rw [hgone, hadd]; simp only [Bool.and_eq_true, decide_eq_true_eq]; exact ⟨⟨⟨⟨by omega, by omega⟩, trivial⟩, trivial⟩, hu.1.1 hadj⟩
                      refine ⟨[RowC encT 4 p3 L], fun h hs => ?_, ?_⟩
                      · obtain ⟨h1, h2, d, l1, l2, c1, h3⟩ := hs
                        exact ⟨h1, h2, d, l1, l2, RowC.ofOwn (k := 4) (by decide) encT_len c1, h3⟩
                      · have e1 : applyF s e = (⟨L, e.log, e.next⟩, 0) := by unfold applyF; rw [if_neg (by simp [hm]), if_pos hf, hLn]
                        have e2 := hK p3 c3
                        rw [e1] at e2
                        rw [show (s.tabs.filter (fun t => !decide (t.id ∈ e.drop)) ++ e.add).length = L.length by simp only [List.length_append]; omega]
                        exact e2))
end Go.Proofs.Ytiefmfimbmkdjaa

/-
  Which tables overlap a range: contracts.
  No condition but those that each statement names.
-/
import Derived.Test.YtiefmfimbmkdjaaMfP
namespace Go.Proofs.Ytiefmfimbmkdjaa
set_option linter.unusedSimpArgs false
set_option linter.unusedVariables false
set_option linter.unusedSectionVars false
open Go.RowKit
variable [Obs]


theorem none_nil {F : Hp} {p : Option Addr} {l : List Tab} (hS : SlIn F encT 4 p l) (h : p.isNone = true) : l = [] := by
  rcases hS with h1 | ⟨b, o, rfl, _⟩
  · exact h1
  · cases h
theorem Clone_spec {F : Hp} {K : Value → List HProp → Prop} {p : Option Addr} {c : Nat} {l : List Tab} (hS : SlIn F encT 4 p l) (hl : l.length ≤ 100000) (hK : ∀ p' c', K (.slice p' l.length c') [Own 46 4 encT p' c' (l)]) : CallK Try.prog F 55 #[.slice p l.length c] [] K := by
  refine CallK.enter Try.func55 rfl Try.ntmps55 rfl ?_
  refine Tr.seq ?_
  refine Tr.region ?_
  refine TrL.assign rfl rfl ?_
  refine TrL.nil (At.then_normal ?_)
  refine Tr.seq ?_
  refine Tr.seq ?_
  refine Tr.region ?_
  refine TrL.move rfl rfl ?_
  refine TrL.eqlNil rfl rfl rfl se22 ?_
  refine TrL.nil (At.then_normal ?_)
  refine Tr.cond rfl (fun h4 => ?_) (fun h4 => ?_)
  · try simp only [beq_iff_eq, beq_eq_false_iff_ne, Bool.not_eq_true, Bool.not_eq_false, decide_eq_true_eq, decide_eq_false_iff_not, Bool.not_eq_true', Bool.not_eq_false', bne_iff_ne, Bool.not_eq_eq_eq_not, Bool.not_true, Bool.not_false, ne_eq, Decidable.not_not, Int.not_lt, Int.not_le] at h4
    refine Tr.seq ?_
    obtain rfl := none_nil hS h4
    refine Tr.own0 46 4 encT ?_
    refine Tr.region ?_
    refine TrL.assign rfl rfl ?_
    refine TrL.nil (At.then_normal ?_)
    refine Tr.ret (At.then_ret (At.retX [_] (.inl rfl) rfl (Res.tmp rfl Res.nil) (by repeat (first | exact Picks.nil | with_reducible exact Pick.here | with_reducible apply Pick.there | with_reducible apply Pick.app_nil | with_reducible apply Pick.app_cons | apply Picks.cons)) (by exact ⟨_, fun h hs => hs, hK none 0⟩)))
  · try simp only [beq_iff_eq, beq_eq_false_iff_ne, Bool.not_eq_true, Bool.not_eq_false, decide_eq_true_eq, decide_eq_false_iff_not, Bool.not_eq_true', Bool.not_eq_false', bne_iff_ne, Bool.not_eq_eq_eq_not, Bool.not_true, Bool.not_false, ne_eq, Decidable.not_not, Int.not_lt, Int.not_le] at h4
    refine Tr.skip (At.then_normal ?_)
    refine Tr.seq ?_
    refine Tr.region ?_
    refine TrL.buildSl0 encT rfl rfl se22 sz46 zc46 (fun b5 => ?_)
    refine TrL.move rfl rfl ?_
    refine TrL.appendSl (enc := encT) (k := 4) (l2 := l) rfl rfl se22 sz46 by46 zc46 rfl (by decide) (by repeat (first | with_reducible exact Pick.here | with_reducible apply Pick.there | with_reducible apply Pick.app_nil | with_reducible apply Pick.app_cons)) hS encT_len (fun _ => rfl) rfl rfl rfl (by simp only [List.length_nil]; omega) (by simp only [List.length_nil, maxLen]; omega) (fun p7 cap7 => ?_)
    rw [List.nil_append]
    refine TrL.assign rfl rfl ?_
    refine TrL.nil (At.then_normal ?_)
    refine Tr.ret (At.retX [_] (.inl rfl) rfl (Res.tmp rfl Res.nil) (by repeat (first | exact Picks.nil | with_reducible exact Pick.here | with_reducible apply Pick.there | with_reducible apply Pick.app_nil | with_reducible apply Pick.app_cons | apply Picks.cons)) (by exact ⟨_, fun h hs => hs, hK p7 cap7⟩))

theorem filter_none {l : List Tab} {pr : Tab → Bool} (h : ∀ x ∈ l, pr x = false) : l.filter (fun t => !pr t) = l := List.filter_eq_self.2 fun x hx => by rw [h x hx]; rfl
theorem filter_step {l : List Tab} {pr : Tab → Bool} {i : Nat} (h : i < l.length) : (l.take (i + 1)).filter (fun t => !pr t) = (l.take i).filter (fun t => !pr t) ++ (if pr l[i] then [] else [l[i]]) := by
  rw [List.take_succ_eq_append_getElem h, List.filter_append]; congr 1; cases hp : pr l[i] <;> simp [hp]
theorem get_drop {L l : List Tab} {i : Nat} (h : i < l.length) (e : L.drop i = l.drop i) : L[i]? = some l[i] := by
  have : (L.drop i)[0]? = (l.drop i)[0]? := by rw [e]
  rw [List.getElem?_drop, List.getElem?_drop] at this
  simpa [h] using this
theorem set_take {L : List Tab} {j : Nat} {v : Tab} (h : j < L.length) : (L.set j v).take (j + 1) = L.take j ++ [v] := by
  rw [List.take_succ_eq_append_getElem (by simpa using h), List.take_set, List.set_eq_of_length_le (by simp; omega)]; simp
theorem set_drop {L : List Tab} {i j : Nat} {v : Tab} (h : j < i) : (L.set j v).drop i = L.drop i := by rw [List.drop_set_of_lt h]
theorem drop_more {L l : List Tab} {i : Nat} (e : L.drop i = l.drop i) : L.drop (i + 1) = l.drop (i + 1) := by
  rw [← List.drop_drop, ← List.drop_drop, e]
theorem DeleteT_spec {F : Hp} {K : Value → List HProp → Prop} {p : Option Addr} {cap : Nat} {l : List Tab} {g : FuncId} {cc : List Value} {pr : Tab → Bool} (hg : ∀ (F' : Hp) (K : Value → List HProp → Prop) (x : Tab), Hp.le F F' → K (.bool (pr x)) [] → CallK Try.prog F' g (([Value.agg (encT x).toArray] ++ cc).toArray) [] K) (hc : callable Try.prog g = true) (hl : l.length ≤ 100000) (hK : K (.slice p ((l).filter (fun t => !pr t)).length cap) [Own 46 4 encT p cap ((l).filter (fun t => !pr t))]) :
    CallK Try.prog F 54 #[.slice p l.length cap, .func (.func g) #[] cc.toArray] [Own 46 4 encT p cap (l)] K := by
  refine CallK.enter Try.func54 rfl Try.ntmps54 rfl ?_
  refine Tr.seq ?_
  refine Tr.region ?_
  refine TrL.assign rfl rfl ?_
  refine TrL.nil (At.then_normal ?_)
  refine Tr.seq ?_
  refine Tr.region ?_
  refine TrL.move rfl rfl ?_
  refine TrL.move rfl rfl ?_
  refine TrL.call rfl rfl rfl ca64 .nil (fun Ft10 hUt10 => IndexFuncT_spec (fun F' K x le => hg F' K x (hUt10.le.trans le)) hc (Own.up hUt10 (by repeat (first | with_reducible exact Pick.here | with_reducible apply Pick.there | with_reducible apply Pick.app_nil | with_reducible apply Pick.app_cons)) (by decide) encT_len) (by omega) (fun r hr => ?_))
  refine TrL.assign rfl rfl ?_
  refine TrL.nil (At.then_normal ?_)
  refine Tr.seq ?_
  refine Tr.seq ?_
  refine Tr.region ?_
  refine TrL.move rfl rfl ?_
  refine TrL.eqi rfl rfl rfl ?_
  refine TrL.nil (At.then_normal ?_)
  refine Tr.cond rfl (fun h12 => ?_) (fun h12 => ?_)
  · try simp only [beq_iff_eq, beq_eq_false_iff_ne, Bool.not_eq_true, Bool.not_eq_false, decide_eq_true_eq, decide_eq_false_iff_not, Bool.not_eq_true', Bool.not_eq_false', bne_iff_ne, Bool.not_eq_eq_eq_not, Bool.not_true, Bool.not_false, ne_eq, Decidable.not_not, Int.not_lt, Int.not_le] at h12
    obtain ⟨_, hno⟩ : r = -1 ∧ ∀ x ∈ l, pr x = false := by
      rcases hr with h | ⟨i, x, hi, _⟩
      · exact h
      · omega
    refine Tr.seq ?_
    refine Tr.region ?_
    refine TrL.move rfl rfl ?_
    refine TrL.assign rfl rfl ?_
    refine TrL.nil (At.then_normal ?_)
    refine Tr.ret (At.then_ret (At.retX [_] (.inl rfl) rfl (Res.tmp rfl Res.nil) (by repeat (first | exact Picks.nil | with_reducible exact Pick.here | with_reducible apply Pick.there | with_reducible apply Pick.app_nil | with_reducible apply Pick.app_cons | apply Picks.cons)) (by 
        refine ⟨_, fun h hs => hs, ?_⟩
        rw [filter_none hno] at hK
        exact hK)))
  · try simp only [beq_iff_eq, beq_eq_false_iff_ne, Bool.not_eq_true, Bool.not_eq_false, decide_eq_true_eq, decide_eq_false_iff_not, Bool.not_eq_true', Bool.not_eq_false', bne_iff_ne, Bool.not_eq_eq_eq_not, Bool.not_true, Bool.not_false, ne_eq, Decidable.not_not, Int.not_lt, Int.not_le] at h12
    obtain ⟨i0, x0, rfl, hx1, hx2, hx3⟩ : ∃ (i : Nat) (x : Tab), r = (i : Int) ∧ l[i]? = some x ∧ pr x = true ∧ ∀ y ∈ l.take i, pr y = false := by
      rcases hr with h | h
      · exact absurd h.1 h12
      · exact h
    have hx4 : i0 < l.length := (List.getElem?_eq_some_iff.1 hx1).1
    have hx5 : l[i0] = x0 := (List.getElem?_eq_some_iff.1 hx1).2
    refine Tr.skip (At.then_normal ?_)
    refine Tr.seq ?_
    refine Tr.seq ?_
    refine Tr.region ?_
    refine TrL.move rfl rfl ?_
    refine TrL.addI rfl rfl rfl (by omega) ?_
    rw [show (i0 : Int) + 1 = ((i0 + 1 : Nat) : Int) by omega]
    refine TrL.assign rfl rfl ?_
    refine TrL.nil (At.then_normal ?_)
    refine Tr.block ?_
    refine Tr.loopK [0, 1] (α := Nat × Nat × List Tab) (fun y => [(5, .int .i64 (y.1 : Int)), (6, .int .i64 (y.2.1 : Int))]) (fun y => [Own 46 4 encT p cap (y.2.2)]) (fun y => y.1 < y.2.1 ∧ y.2.1 ≤ l.length ∧ y.2.2.length = l.length ∧ y.2.2.take y.1 = (l.take y.2.1).filter (fun t => !pr t) ∧ y.2.2.drop y.2.1 = l.drop y.2.1) (fun y => l.length - y.2.1) (i0, i0 + 1, l) (by rfl) ?_ (by repeat (first | exact Sub.nil | refine Sub.cons (by rfl) ?_)) (by repeat (first | exact Picks.nil | with_reducible exact Pick.here | with_reducible apply Pick.there | with_reducible apply Pick.app_nil | with_reducible apply Pick.app_cons | apply Picks.cons)) ?_
    · exact ⟨Nat.lt_succ_self _, by show i0 + 1 ≤ _; omega, rfl, by show l.take i0 = _; rw [filter_step hx4, filter_none hx3, hx5, hx2]; simp, rfl⟩
    rintro ⟨j, i, L⟩ ⟨hy1, hy2, hy3, hy4, hy5⟩
    dsimp only at hy1 hy2 hy3 hy4 hy5 ⊢
    refine Tr.seq ?_
    refine Tr.seq ?_
    refine Tr.region ?_
    refine TrL.move rfl rfl ?_
    refine TrL.move rfl rfl ?_
    refine TrL.lenl rfl rfl se22 ?_
    refine TrL.lss rfl rfl rfl ?_
    refine TrL.nil (At.then_normal ?_)
    refine Tr.cond rfl (fun h19 => ?_) (fun h19 => ?_)
    · try simp only [beq_iff_eq, beq_eq_false_iff_ne, Bool.not_eq_true, Bool.not_eq_false, decide_eq_true_eq, decide_eq_false_iff_not, Bool.not_eq_true', Bool.not_eq_false', bne_iff_ne, Bool.not_eq_eq_eq_not, Bool.not_true, Bool.not_false, ne_eq, Decidable.not_not, Int.not_lt, Int.not_le] at h19
      refine Tr.skip (At.then_normal ?_)
      refine Tr.seq ?_
      refine Tr.block ?_
      refine Tr.seq ?_
      have hgl := get_drop (by omega) hy5
      refine Tr.region ?_
      refine TrL.move rfl rfl ?_
      refine TrL.move rfl rfl ?_
      refine TrL.idxO (enc := encT) (k := 4) i rfl rfl rfl se22 sz46 (by repeat (first | with_reducible exact Pick.here | with_reducible apply Pick.there | with_reducible apply Pick.app_nil | with_reducible apply Pick.app_cons)) rfl (by omega) rfl (by omega) ?_
      refine TrL.loadO (enc := encT) (k := 4) (i := i) rfl rfl ag46 sz46 (by repeat (first | with_reducible exact Pick.here | with_reducible apply Pick.there | with_reducible apply Pick.app_nil | with_reducible apply Pick.app_cons)) rfl rfl encT_len hgl ?_
      refine TrL.alloc rfl zc46 (fun b7 => ?_)
      refine TrL.storeLA rfl rfl sz46 ⟨rfl, List.cons_ne_nil _ _⟩ rfl (by repeat (first | with_reducible exact Upd.here | with_reducible apply Upd.there | with_reducible apply Upd.app_nil | with_reducible apply Upd.app_cons)) (by rfl) ?_
      refine TrL.nil (At.then_normal ?_)
      refine Tr.seq ?_
      refine Tr.region ?_
      refine TrL.move rfl rfl ?_
      refine TrL.loadLA rfl rfl ag46 sz46 (by repeat (first | with_reducible exact Pick.here | with_reducible apply Pick.there | with_reducible apply Pick.app_nil | with_reducible apply Pick.app_cons)) (by rfl) ?_
      refine TrL.callC rfl rfl rfl hc .nil (fun F28 hU28 => hg _ _ _ hU28.le ?_)
      refine TrL.not rfl rfl ?_
      refine TrL.nil (At.then_normal ?_)
      refine Tr.cond rfl (fun h29 => ?_) (fun h29 => ?_)
      · try simp only [beq_iff_eq, beq_eq_false_iff_ne, Bool.not_eq_true, Bool.not_eq_false, decide_eq_true_eq, decide_eq_false_iff_not, Bool.not_eq_true', Bool.not_eq_false', bne_iff_ne, Bool.not_eq_eq_eq_not, Bool.not_true, Bool.not_false, ne_eq, Decidable.not_not, Int.not_lt, Int.not_le] at h29
        refine Tr.seq ?_
        refine Tr.region ?_
        refine TrL.move rfl rfl ?_
        refine TrL.move rfl rfl ?_
        refine TrL.loadLA rfl rfl ag46 sz46 (by repeat (first | with_reducible exact Pick.here | with_reducible apply Pick.there | with_reducible apply Pick.app_nil | with_reducible apply Pick.app_cons)) (by rfl) ?_
        refine TrL.idxO (enc := encT) (k := 4) j rfl rfl rfl se22 sz46 (by repeat (first | with_reducible exact Pick.here | with_reducible apply Pick.there | with_reducible apply Pick.app_nil | with_reducible apply Pick.app_cons)) rfl (by omega) rfl (by omega) ?_
        refine TrL.storeO (enc := encT) (k := 4) (i := j) (v := l[i]) rfl rfl sz46 (by repeat (first | with_reducible exact Pick.here | with_reducible apply Pick.there | with_reducible apply Pick.app_nil | with_reducible apply Pick.app_cons)) rfl rfl (by omega) rfl encT_len rfl ?_
        refine TrL.nil (At.then_normal ?_)
        refine Tr.region ?_
        refine TrL.move rfl rfl ?_
        refine TrL.addI rfl rfl rfl (by omega) ?_
        refine TrL.assign rfl rfl ?_
        refine TrL.nil (At.block_normal (At.then_normal ?_))
        refine Tr.region ?_
        refine TrL.move rfl rfl ?_
        refine TrL.addI rfl rfl rfl (by omega) ?_
        refine TrL.assign rfl rfl ?_
        refine TrL.nil ?_
        refine At.again (j + 1, i + 1, L.set j l[i]) ⟨by show j + 1 < i + 1; omega, by show i + 1 ≤ _; omega, by simpa using hy3, ?_, ?_⟩ (by show l.length - (i + 1) < l.length - i; omega) (by repeat (first | exact Sub.nil | refine Sub.cons (by rfl) ?_)) (by repeat (first | exact Picks.nil | with_reducible exact Pick.here | with_reducible apply Pick.there | with_reducible apply Pick.app_nil | with_reducible apply Pick.app_cons | apply Picks.cons))
        · show (L.set j l[i]).take (j + 1) = _
          rw [set_take (by omega), filter_step (by omega), hy4, h29]; simp
        · show (L.set j l[i]).drop (i + 1) = _
          rw [set_drop (by omega)]; exact drop_more hy5
      · try simp only [beq_iff_eq, beq_eq_false_iff_ne, Bool.not_eq_true, Bool.not_eq_false, decide_eq_true_eq, decide_eq_false_iff_not, Bool.not_eq_true', Bool.not_eq_false', bne_iff_ne, Bool.not_eq_eq_eq_not, Bool.not_true, Bool.not_false, ne_eq, Decidable.not_not, Int.not_lt, Int.not_le] at h29
        refine Tr.skip (At.block_normal (At.then_normal ?_))
        refine Tr.region ?_
        refine TrL.move rfl rfl ?_
        refine TrL.addI rfl rfl rfl (by omega) ?_
        refine TrL.assign rfl rfl ?_
        refine TrL.nil ?_
        refine At.again (j, i + 1, L) ⟨by show j < i + 1; omega, by show i + 1 ≤ _; omega, hy3, ?_, drop_more hy5⟩ (by show l.length - (i + 1) < l.length - i; omega) (by repeat (first | exact Sub.nil | refine Sub.cons (by rfl) ?_)) (by repeat (first | exact Picks.nil | with_reducible exact Pick.here | with_reducible apply Pick.there | with_reducible apply Pick.app_nil | with_reducible apply Pick.app_cons | apply Picks.cons))
        show L.take j = _
        rw [filter_step (by omega), hy4, h29]; simp
    · try simp only [beq_iff_eq, beq_eq_false_iff_ne, Bool.not_eq_true, Bool.not_eq_false, decide_eq_true_eq, decide_eq_false_iff_not, Bool.not_eq_true', Bool.not_eq_false', bne_iff_ne, Bool.not_eq_eq_eq_not, Bool.not_true, Bool.not_false, ne_eq, Decidable.not_not, Int.not_lt, Int.not_le] at h19
      refine Tr.exit (At.then_exit (At.then_exit (At.block_hit (At.then_normal ?_))))
      refine Tr.seq ?_
      have hfin : L.take j = (l).filter (fun t => !pr t) := by rw [hy4, List.take_of_length_le (by omega)]
      refine Tr.region ?_
      refine TrL.move rfl rfl ?_
      refine TrL.move rfl rfl ?_
      refine TrL.cutL rfl rfl rfl se22 sz46 (by omega) (by omega) ?_
      refine TrL.clearO (zs := []) (zv := .agg #[.int .i64 0, .int .i64 0, .string ⟨#[]⟩, .string ⟨#[]⟩]) (i := j) (z := ⟨0, 0, ⟨#[]⟩, ⟨#[]⟩⟩) rfl se22 (by kernel_rfl) rfl (by repeat (first | with_reducible exact Pick.here | with_reducible apply Pick.there | with_reducible apply Pick.app_nil | with_reducible apply Pick.app_cons)) (by omega) (by omega) encT_len (by decide) rfl ?_
      refine TrL.nil (At.then_normal ?_)
      refine Tr.seq ?_
      refine Tr.fact (ch := Own 46 4 encT p cap (L.take j ++ List.replicate (L.length - j) ⟨0, 0, ⟨#[]⟩, ⟨#[]⟩⟩)) (by repeat (first | with_reducible exact Pick.here | with_reducible apply Pick.there | with_reducible apply Pick.app_nil | with_reducible apply Pick.app_cons)) (fun _ ho => (OwnR.le ho).1) (fun hcap => ?_)
      have hcap2 : L.length ≤ cap := by simp only [List.length_append, List.length_take, List.length_replicate] at hcap; omega
      refine Tr.region ?_
      refine TrL.move rfl rfl ?_
      refine TrL.move rfl rfl ?_
      refine TrL.cutH rfl rfl rfl se22 sz46 (by omega) (by omega) ?_
      refine TrL.assign rfl rfl ?_
      refine TrL.nil (At.then_normal ?_)
      refine Tr.ret (At.retX [_] (.inl rfl) rfl (Res.tmp rfl Res.nil) (by repeat (first | exact Picks.nil | with_reducible exact Pick.here | with_reducible apply Pick.there | with_reducible apply Pick.app_nil | with_reducible apply Pick.app_cons | apply Picks.cons)) (by 
          have htl : (L.take j).length = j := by simp only [List.length_take]; omega
          refine ⟨[Own 46 4 encT p cap ((l).filter (fun t => !pr t))], fun h hs => ?_, ?_⟩
          · obtain ⟨h1, h2, d, l1, l2, c1, h3⟩ := hs
            refine ⟨h1, h2, d, l1, l2, ?_, h3⟩
            have := Own.take (k := 4) encT_len j (by simp only [List.length_append, htl]; omega) c1
            rw [List.take_append_of_le_length (by omega), List.take_take, Nat.min_self, hfin] at this
            exact this
          · rw [← hfin, htl, hfin] at hK
            exact hK))

/-- a table of the level, that meets the range -/
def ovT (v : Int) (lo hi : ByteArray) (t : Tab) : Bool := decide (t.level = v) && !blt t.hi lo && !blt hi t.lo
theorem Tr.freeze1 {P : Program} {F : Hp} {H R : List HProp} {n : Nat} {Q : Post} {σ : Sl} {b E : Nat} {v : Value} {c : Code} (pk : Pick (cl b [v] E) H R) (h : ∀ F', Hp.le F F' → Cells F' b 0 [v] → Tr P F' n c Q σ R) : Tr P F n c Q σ H := Tr.freezeC pk fun F' hF hs => by
  rcases hs with h1 | ⟨b', o', he, hc, _⟩
  · cases h1
  · cases he; exact h F' hF hc
theorem ov1_spec {F : Hp} {K : Value → List HProp → Prop} {b5 b6 b7 : Nat} {v : Int} {lo hi : ByteArray} {t : Tab} (h5 : Cells F b5 0 [.int .i64 v]) (h6 : Cells F b6 0 [.string lo]) (h7 : Cells F b7 0 [.string hi]) (hK : K (.bool (!ovT v lo hi t)) []) :
    CallK Try.prog F 56 #[.agg (encT t).toArray, .pointer (some ⟨b5, 0, none⟩), .pointer (some ⟨b6, 0, none⟩), .pointer (some ⟨b7, 0, none⟩)] [] K := by
  refine CallK.enter Try.func56 rfl Try.ntmps56 rfl ?_
  refine Tr.seq ?_
  refine Tr.region ?_
  refine TrL.boxA rfl rfl (fun b4 => ?_)
  refine TrL.assign rfl rfl ?_
  refine TrL.nil (At.then_normal ?_)
  refine Tr.seq ?_
  refine Tr.region ?_
  refine TrL.field rfl rfl fl46_1 ?_
  refine TrL.load1 rfl rfl sc3 (Sees.cl1 (by repeat (first | with_reducible exact Pick.here | with_reducible apply Pick.there | with_reducible apply Pick.app_nil | with_reducible apply Pick.app_cons)) (by rfl)) ?_
  refine TrL.loadR1 rfl rfl sc3 (by assumption) ?_
  refine TrL.nei rfl rfl rfl ?_
  refine TrL.move rfl rfl ?_
  refine TrL.cases (t := 10) rfl (fun h10 => ?_) (fun h10 => ?_)
  · try simp only [beq_iff_eq, beq_eq_false_iff_ne, Bool.not_eq_true, Bool.not_eq_false, decide_eq_true_eq, decide_eq_false_iff_not, Bool.not_eq_true', Bool.not_eq_false', bne_iff_ne, Bool.not_eq_eq_eq_not, Bool.not_true, Bool.not_false, ne_eq, Decidable.not_not, Int.not_lt, Int.not_le] at h10
    refine TrL.unwant rfl rfl rfl ?_
    refine TrL.unwant rfl rfl rfl ?_
    refine TrL.unwant rfl rfl rfl ?_
    refine TrL.unwant rfl rfl rfl ?_
    refine TrL.pickT rfl rfl rfl ?_
    refine TrL.move rfl rfl ?_
    refine TrL.unwant rfl rfl rfl ?_
    refine TrL.unwant rfl rfl rfl ?_
    refine TrL.unwant rfl rfl rfl ?_
    refine TrL.unwant rfl rfl rfl ?_
    refine TrL.pickT rfl rfl rfl ?_
    refine TrL.assign rfl rfl ?_
    refine TrL.nil (At.then_normal ?_)
    refine Tr.ret (At.retP [] (.inl rfl) rfl (Res.tmp rfl Res.nil) (by repeat (first | exact Picks.nil | with_reducible exact Pick.here | with_reducible apply Pick.there | with_reducible apply Pick.app_nil | with_reducible apply Pick.app_cons | apply Picks.cons)) (by 
        unfold ovT at hK
        first | (rw [decide_eq_false h10] at hK; exact hK) | (rw [decide_eq_true h10, h16] at hK; simp only [Bool.not_true, Bool.not_false, Bool.true_and, Bool.and_false, Bool.false_and, Bool.not_not] at hK; exact hK)))
  · try simp only [beq_iff_eq, beq_eq_false_iff_ne, Bool.not_eq_true, Bool.not_eq_false, decide_eq_true_eq, decide_eq_false_iff_not, Bool.not_eq_true', Bool.not_eq_false', bne_iff_ne, Bool.not_eq_eq_eq_not, Bool.not_true, Bool.not_false, ne_eq, Decidable.not_not, Int.not_lt, Int.not_le] at h10
    refine TrL.want rfl rfl ?_
    refine TrL.field rfl rfl fl46_3 ?_
    refine TrL.want rfl rfl ?_
    refine TrL.load1 rfl rfl sc9 (Sees.cl1 (by repeat (first | with_reducible exact Pick.here | with_reducible apply Pick.there | with_reducible apply Pick.app_nil | with_reducible apply Pick.app_cons)) (by rfl)) ?_
    refine TrL.want rfl rfl ?_
    refine TrL.loadR1 rfl rfl sc9 (by assumption) ?_
    refine TrL.want rfl rfl ?_
    refine TrL.lts rfl rfl rfl ?_
    refine TrL.pickF rfl rfl rfl ?_
    refine TrL.move rfl rfl ?_
    refine TrL.cases (t := 16) rfl (fun h16 => ?_) (fun h16 => ?_)
    · try simp only [beq_iff_eq, beq_eq_false_iff_ne, Bool.not_eq_true, Bool.not_eq_false, decide_eq_true_eq, decide_eq_false_iff_not, Bool.not_eq_true', Bool.not_eq_false', bne_iff_ne, Bool.not_eq_eq_eq_not, Bool.not_true, Bool.not_false, ne_eq, Decidable.not_not, Int.not_lt, Int.not_le] at h16
      refine TrL.unwant rfl rfl rfl ?_
      refine TrL.unwant rfl rfl rfl ?_
      refine TrL.unwant rfl rfl rfl ?_
      refine TrL.unwant rfl rfl rfl ?_
      refine TrL.pickT rfl rfl rfl ?_
      refine TrL.assign rfl rfl ?_
      refine TrL.nil (At.then_normal ?_)
      refine Tr.ret (At.retP [] (.inl rfl) rfl (Res.tmp rfl Res.nil) (by repeat (first | exact Picks.nil | with_reducible exact Pick.here | with_reducible apply Pick.there | with_reducible apply Pick.app_nil | with_reducible apply Pick.app_cons | apply Picks.cons)) (by 
          unfold ovT at hK
          first | (rw [decide_eq_false h10] at hK; exact hK) | (rw [decide_eq_true h10, h16] at hK; simp only [Bool.not_true, Bool.not_false, Bool.true_and, Bool.and_false, Bool.false_and, Bool.not_not] at hK; exact hK)))
    · try simp only [beq_iff_eq, beq_eq_false_iff_ne, Bool.not_eq_true, Bool.not_eq_false, decide_eq_true_eq, decide_eq_false_iff_not, Bool.not_eq_true', Bool.not_eq_false', bne_iff_ne, Bool.not_eq_eq_eq_not, Bool.not_true, Bool.not_false, ne_eq, Decidable.not_not, Int.not_lt, Int.not_le] at h16
      refine TrL.want rfl rfl ?_
      refine TrL.field rfl rfl fl46_2 ?_
      refine TrL.want rfl rfl ?_
      refine TrL.load1 rfl rfl sc9 (Sees.cl1 (by repeat (first | with_reducible exact Pick.here | with_reducible apply Pick.there | with_reducible apply Pick.app_nil | with_reducible apply Pick.app_cons)) (by rfl)) ?_
      refine TrL.want rfl rfl ?_
      refine TrL.loadR1 rfl rfl sc9 (by assumption) ?_
      refine TrL.want rfl rfl ?_
      refine TrL.gts rfl rfl rfl ?_
      refine TrL.pickF rfl rfl rfl ?_
      refine TrL.assign rfl rfl ?_
      refine TrL.nil (At.then_normal ?_)
      refine Tr.ret (At.retP [] (.inl rfl) rfl (Res.tmp rfl Res.nil) (by repeat (first | exact Picks.nil | with_reducible exact Pick.here | with_reducible apply Pick.there | with_reducible apply Pick.app_nil | with_reducible apply Pick.app_cons | apply Picks.cons)) (by 
          unfold ovT at hK
          first | (rw [decide_eq_false h10] at hK; exact hK) | (rw [decide_eq_true h10, h16] at hK; simp only [Bool.not_true, Bool.not_false, Bool.true_and, Bool.and_false, Bool.false_and, Bool.not_not] at hK; exact hK)))

set_option maxHeartbeats 1000000 in
theorem Overlap_spec {F : Hp} {K : Value → List HProp → Prop} {p : Option Addr} {c : Nat} {s : Sta} {v : Int} {lo hi : ByteArray} (hS : SlIn F encT 4 p s.tabs) (hls : s.tabs.length ≤ 60000) (hK : ∀ p' c', K (.slice p' (s.tabs.filter (ovT v lo hi)).length c') [Own 46 4 encT p' c' (s.tabs.filter (ovT v lo hi))]) :
    CallK Try.prog F 22 #[.agg (stC p c s).toArray, .int .i64 v, .string lo, .string hi] [] K := by
  refine CallK.enter Try.func22 rfl Try.ntmps22 rfl ?_
  refine Tr.seq ?_
  refine Tr.region ?_
  refine TrL.boxA rfl rfl (fun b4 => ?_)
  refine TrL.box1 rfl rfl rfl (fun b5 => ?_)
  refine TrL.box1 rfl rfl rfl (fun b6 => ?_)
  refine TrL.box1 rfl rfl rfl (fun b7 => ?_)
  refine TrL.assign rfl rfl ?_
  refine TrL.nil (At.then_normal ?_)
  refine Tr.seq ?_
  refine Tr.freeze1 (b := b5) (by repeat (first | with_reducible exact Pick.here | with_reducible apply Pick.there | with_reducible apply Pick.app_nil | with_reducible apply Pick.app_cons)) (fun F5 hF5 c5 => ?_)
  refine Tr.freeze1 (b := b6) (by repeat (first | with_reducible exact Pick.here | with_reducible apply Pick.there | with_reducible apply Pick.app_nil | with_reducible apply Pick.app_cons)) (fun F6 hF6 c6 => ?_)
  refine Tr.freeze1 (b := b7) (by repeat (first | with_reducible exact Pick.here | with_reducible apply Pick.there | with_reducible apply Pick.app_nil | with_reducible apply Pick.app_cons)) (fun F7 hF7 c7 => ?_)
  have hF0 : Hp.le F F7 := Hp.le.trans hF5 (Hp.le.trans hF6 hF7)
  have hS7 := SlIn.mono _ _ _ _ _ _ hF0 hS
  have c5 := Cells.mono _ _ _ _ _ (Hp.le.trans hF6 hF7) c5
  have c6 := Cells.mono _ _ _ _ _ hF7 c6
  refine Tr.region ?_
  refine TrL.field0 rfl rfl fl38_0 ?_
  refine TrL.load1 rfl rfl sc22 (Sees.cl1 (by repeat (first | with_reducible exact Pick.here | with_reducible apply Pick.there | with_reducible apply Pick.app_nil | with_reducible apply Pick.app_cons)) (by rfl)) ?_
  refine TrL.call rfl rfl rfl ca55 .nil (fun Ft11 hUt11 => Clone_spec (hUt11.ro (SlIn.mono _ _ _ _) hS7) (by omega) (fun p11 c11 => ?_))
  refine TrL.makeFunc rfl rfl rfl ?_
  refine TrL.call rfl rfl rfl ca54 (by repeat (first | exact Picks.nil | with_reducible exact Pick.here | with_reducible apply Pick.there | with_reducible apply Pick.app_nil | with_reducible apply Pick.app_cons | apply Picks.cons)) (fun Ft13 hUt13 => DeleteT_spec (l := s.tabs) (cc := [.pointer (some ⟨b5, 0, none⟩), .pointer (some ⟨b6, 0, none⟩), .pointer (some ⟨b7, 0, none⟩)]) (pr := fun t => !ovT v lo hi t) (fun F' K x le hk => ov1_spec (Cells.mono _ _ _ _ _ (hUt13.le.trans le) c5) (Cells.mono _ _ _ _ _ (hUt13.le.trans le) c6) (Cells.mono _ _ _ _ _ (hUt13.le.trans le) c7) hk) ca56 (by omega) ?_)
  refine TrL.assign rfl rfl ?_
  refine TrL.nil (At.then_normal ?_)
  refine Tr.ret (At.retX [_] (.inl rfl) rfl (Res.tmp rfl Res.nil) (by repeat (first | exact Picks.nil | with_reducible exact Pick.here | with_reducible apply Pick.there | with_reducible apply Pick.app_nil | with_reducible apply Pick.app_cons | apply Picks.cons)) (by 
      have e : s.tabs.filter (fun t => !(fun t => !ovT v lo hi t) t) = s.tabs.filter (ovT v lo hi) := by simp
      refine ⟨_, fun h hs => hs, ?_⟩
      rw [e]
      exact hK p11 c11))

theorem filter_on {l : List Tab} {pr : Tab → Bool} {i : Nat} (h : i < l.length) : (l.take (i + 1)).filter pr = (l.take i).filter pr ++ (if pr l[i] then [l[i]] else []) := by
  rw [List.take_succ_eq_append_getElem h, List.filter_append]; congr 1; cases hp : pr l[i] <;> simp [hp]
set_option maxHeartbeats 1000000 in
theorem OverlapR_spec {F : Hp} {K : Value → List HProp → Prop} {p : Option Addr} {c : Nat} {s : Sta} {v : Int} {lo hi : ByteArray} (hS : SlIn F encT 4 p s.tabs) (hls : s.tabs.length ≤ 60000) (hK : ∀ p' c', K (.slice p' (s.tabs.filter (ovT v lo hi)).length c') [Own 46 4 encT p' c' (s.tabs.filter (ovT v lo hi))]) :
    CallK Try.prog F 23 #[.agg (stC p c s).toArray, .int .i64 v, .string lo, .string hi] [] K := by
  refine CallK.enter Try.func23 rfl Try.ntmps23 rfl ?_
  refine Tr.seq ?_
  refine Tr.region ?_
  refine TrL.boxA rfl rfl (fun b4 => ?_)
  refine TrL.assign rfl rfl ?_
  refine TrL.nil (At.then_normal ?_)
  refine Tr.seq ?_
  refine Tr.region ?_
  refine TrL.assign rfl rfl ?_
  refine TrL.nil (At.then_normal ?_)
  refine Tr.seq ?_
  refine Tr.seq ?_
  refine Tr.own0 46 4 encT ?_
  refine Tr.region ?_
  refine TrL.assign rfl rfl ?_
  refine TrL.nil (At.then_normal ?_)
  refine Tr.block ?_
  refine Tr.loopK [1, 2, 3, 4] (α := Nat × Option Addr × Nat) (fun y => [(10, .int .i64 (y.1 : Int)), (9, .slice y.2.1 ((s.tabs.take y.1).filter (ovT v lo hi)).length y.2.2)]) (fun y => [Own 46 4 encT y.2.1 y.2.2 ((s.tabs.take y.1).filter (ovT v lo hi))]) (fun y => y.1 ≤ s.tabs.length) (fun y => s.tabs.length - y.1) (0, none, 0) (by rfl) ?_ (by repeat (first | exact Sub.nil | refine Sub.cons (by rfl) ?_)) (by repeat (first | exact Picks.nil | with_reducible exact Pick.here | exact Pick.here | with_reducible apply Pick.there | with_reducible apply Pick.app_nil | with_reducible apply Pick.app_cons | apply Picks.cons)) ?_
  · exact Nat.zero_le _
  rintro y hy1
  refine Tr.seq ?_
  refine Tr.seq ?_
  refine Tr.region ?_
  refine TrL.move rfl rfl ?_
  refine TrL.field0 rfl rfl fl38_0 ?_
  refine TrL.load1 rfl rfl sc22 (Sees.cl1 (by repeat (first | with_reducible exact Pick.here | with_reducible apply Pick.there | with_reducible apply Pick.app_nil | with_reducible apply Pick.app_cons)) (by rfl)) ?_
  refine TrL.lenl rfl rfl se22 ?_
  refine TrL.lss rfl rfl rfl ?_
  refine TrL.nil (At.then_normal ?_)
  refine Tr.cond rfl (fun h16 => ?_) (fun h16 => ?_)
  · try simp only [beq_iff_eq, beq_eq_false_iff_ne, Bool.not_eq_true, Bool.not_eq_false, decide_eq_true_eq, decide_eq_false_iff_not, Bool.not_eq_true', Bool.not_eq_false', bne_iff_ne, Bool.not_eq_eq_eq_not, Bool.not_true, Bool.not_false, ne_eq, Decidable.not_not, Int.not_lt, Int.not_le] at h16
    refine Tr.skip (At.then_normal ?_)
    refine Tr.seq ?_
    refine Tr.block ?_
    refine Tr.seq ?_
    have hfl := List.length_filter_le (ovT v lo hi) (s.tabs.take y.1)
    simp only [List.length_take] at hfl
    refine Tr.region ?_
    refine TrL.field0 rfl rfl fl38_0 ?_
    refine TrL.load1 rfl rfl sc22 (Sees.cl1 (by repeat (first | with_reducible exact Pick.here | with_reducible apply Pick.there | with_reducible apply Pick.app_nil | with_reducible apply Pick.app_cons)) (by rfl)) ?_
    refine TrL.move rfl rfl ?_
    refine TrL.idxF rfl rfl rfl se22 sz46 hS rfl rfl rfl (List.getElem?_eq_getElem (by omega)) (fun b22 o22 hp22 hc22 => ?_)
    refine TrL.loadRA rfl rfl ag46 sz46 (by assumption) (by rfl) ?_
    refine TrL.alloc rfl zc46 (fun b11 => ?_)
    --L:b11
    refine TrL.storeLA rfl rfl sz46 ⟨rfl, List.cons_ne_nil _ _⟩ rfl (by repeat (first | with_reducible exact Upd.here | with_reducible apply Upd.there | with_reducible apply Upd.app_nil | with_reducible apply Upd.app_cons)) (by rfl) ?_
    refine TrL.nil (At.then_normal ?_)
    refine Tr.seq ?_
    refine Tr.region ?_
    refine TrL.field rfl rfl fl46_1 ?_
    refine TrL.load1 rfl rfl sc3 (Sees.cl1 (by repeat (first | with_reducible exact Pick.here | with_reducible apply Pick.there | with_reducible apply Pick.app_nil | with_reducible apply Pick.app_cons)) (by rfl)) ?_
    refine TrL.move rfl rfl ?_
    refine TrL.eqi rfl rfl rfl ?_
    refine TrL.move rfl rfl ?_
    refine TrL.cases (t := 28) rfl (fun h28 => ?_) (fun h28 => ?_)
    · try simp only [beq_iff_eq, beq_eq_false_iff_ne, Bool.not_eq_true, Bool.not_eq_false, decide_eq_true_eq, decide_eq_false_iff_not, Bool.not_eq_true', Bool.not_eq_false', bne_iff_ne, Bool.not_eq_eq_eq_not, Bool.not_true, Bool.not_false, ne_eq, Decidable.not_not, Int.not_lt, Int.not_le] at h28
      refine TrL.want rfl rfl ?_
      refine TrL.field rfl rfl fl46_3 ?_
      refine TrL.want rfl rfl ?_
      refine TrL.load1 rfl rfl sc9 (Sees.cl1 (by repeat (first | with_reducible exact Pick.here | with_reducible apply Pick.there | with_reducible apply Pick.app_nil | with_reducible apply Pick.app_cons)) (by rfl)) ?_
      refine TrL.want rfl rfl ?_
      refine TrL.move rfl rfl ?_
      refine TrL.want rfl rfl ?_
      refine TrL.ges rfl rfl rfl ?_
      refine TrL.pickT rfl rfl rfl ?_
      refine TrL.move rfl rfl ?_
      refine TrL.cases (t := 34) rfl (fun h34 => ?_) (fun h34 => ?_)
      · try simp only [beq_iff_eq, beq_eq_false_iff_ne, Bool.not_eq_true, Bool.not_eq_false, decide_eq_true_eq, decide_eq_false_iff_not, Bool.not_eq_true', Bool.not_eq_false', bne_iff_ne, Bool.not_eq_eq_eq_not, Bool.not_true, Bool.not_false, ne_eq, Decidable.not_not, Int.not_lt, Int.not_le] at h34
        refine TrL.want rfl rfl ?_
        refine TrL.field rfl rfl fl46_2 ?_
        refine TrL.want rfl rfl ?_
        refine TrL.load1 rfl rfl sc9 (Sees.cl1 (by repeat (first | with_reducible exact Pick.here | with_reducible apply Pick.there | with_reducible apply Pick.app_nil | with_reducible apply Pick.app_cons)) (by rfl)) ?_
        refine TrL.want rfl rfl ?_
        refine TrL.move rfl rfl ?_
        refine TrL.want rfl rfl ?_
        refine TrL.les rfl rfl rfl ?_
        refine TrL.pickT rfl rfl rfl ?_
        refine TrL.nil (At.then_normal ?_)
        refine Tr.cond rfl (fun h39 => ?_) (fun h39 => ?_)
        · try simp only [beq_iff_eq, beq_eq_false_iff_ne, Bool.not_eq_true, Bool.not_eq_false, decide_eq_true_eq, decide_eq_false_iff_not, Bool.not_eq_true', Bool.not_eq_false', bne_iff_ne, Bool.not_eq_eq_eq_not, Bool.not_true, Bool.not_false, ne_eq, Decidable.not_not, Int.not_lt, Int.not_le] at h39
          refine Tr.region ?_
          refine TrL.move rfl rfl ?_
          refine TrL.loadLA rfl rfl ag46 sz46 (by repeat (first | with_reducible exact Pick.here | with_reducible apply Pick.there | with_reducible apply Pick.app_nil | with_reducible apply Pick.app_cons)) (by rfl) ?_
          refine TrL.buildSlA rfl rfl se22 sz46 zc46 rfl rfl rfl (fun b42 => ?_)
          refine TrL.append1 (v := s.tabs[y.1]) rfl rfl se22 sz46 by46 zc46 rfl (by decide) (by repeat (first | with_reducible exact Pick.here | with_reducible apply Pick.there | with_reducible apply Pick.app_nil | with_reducible apply Pick.app_cons)) (by repeat (first | with_reducible exact Pick.here | with_reducible apply Pick.there | with_reducible apply Pick.app_nil | with_reducible apply Pick.app_cons)) (by rfl) (by rfl) (by rfl) (by rfl) (by decide) (by omega) (fun p43 cap43 => ?_)
          refine TrL.assign rfl rfl ?_
          refine TrL.nil (At.block_normal (At.then_normal ?_))
          refine Tr.region ?_
          refine TrL.move rfl rfl ?_
          refine TrL.addI rfl rfl rfl (by omega) ?_
          refine TrL.assign rfl rfl ?_
          refine TrL.nil ?_
          have e5 : (s.tabs.take y.1).filter (ovT v lo hi) ++ [s.tabs[y.1]] = (s.tabs.take (y.1 + 1)).filter (ovT v lo hi) := by rw [filter_on (by omega), if_pos (show ovT v lo hi s.tabs[y.1] = true by unfold ovT; rw [decide_eq_true h28, h34, h39]; rfl)]
          rw [e5]
          refine At.again (y.1 + 1, p43, cap43) (by show y.1 + 1 ≤ s.tabs.length; omega) (by show s.tabs.length - (y.1 + 1) < s.tabs.length - y.1; omega) (by repeat (first | exact Sub.nil | refine Sub.cons (by rfl) ?_)) (by repeat (first | exact Picks.nil | with_reducible exact Pick.here | with_reducible apply Pick.there | with_reducible apply Pick.app_nil | with_reducible apply Pick.app_cons | apply Picks.cons))
        · try simp only [beq_iff_eq, beq_eq_false_iff_ne, Bool.not_eq_true, Bool.not_eq_false, decide_eq_true_eq, decide_eq_false_iff_not, Bool.not_eq_true', Bool.not_eq_false', bne_iff_ne, Bool.not_eq_eq_eq_not, Bool.not_true, Bool.not_false, ne_eq, Decidable.not_not, Int.not_lt, Int.not_le] at h39
          refine Tr.skip (At.block_normal (At.then_normal ?_))
          refine Tr.region ?_
          refine TrL.move rfl rfl ?_
          refine TrL.addI rfl rfl rfl (by omega) ?_
          refine TrL.assign rfl rfl ?_
          refine TrL.nil ?_
          have e5 : (s.tabs.take y.1).filter (ovT v lo hi) = (s.tabs.take (y.1 + 1)).filter (ovT v lo hi) := by rw [filter_on (by omega), if_neg (show ¬ ovT v lo hi s.tabs[y.1] = true by unfold ovT; first | (rw [decide_eq_false h28]; simp; done) | (rw [h34]; simp; done) | (rw [h39]; simp; done))]; simp
          rw [e5]
          refine At.again (y.1 + 1, y.2.1, y.2.2) (by show y.1 + 1 ≤ s.tabs.length; omega) (by show s.tabs.length - (y.1 + 1) < s.tabs.length - y.1; omega) (by repeat (first | exact Sub.nil | refine Sub.cons (by rfl) ?_)) (by repeat (first | exact Picks.nil | with_reducible exact Pick.here | with_reducible apply Pick.there | with_reducible apply Pick.app_nil | with_reducible apply Pick.app_cons | apply Picks.cons))
      · try simp only [beq_iff_eq, beq_eq_false_iff_ne, Bool.not_eq_true, Bool.not_eq_false, decide_eq_true_eq, decide_eq_false_iff_not, Bool.not_eq_true', Bool.not_eq_false', bne_iff_ne, Bool.not_eq_eq_eq_not, Bool.not_true, Bool.not_false, ne_eq, Decidable.not_not, Int.not_lt, Int.not_le] at h34
        refine TrL.unwant rfl rfl rfl ?_
        refine TrL.unwant rfl rfl rfl ?_
        refine TrL.unwant rfl rfl rfl ?_
        refine TrL.unwant rfl rfl rfl ?_
        refine TrL.pickF rfl rfl rfl ?_
        refine TrL.nil (At.then_normal ?_)
        refine Tr.condF rfl ?_
        refine Tr.skip (At.block_normal (At.then_normal ?_))
        refine Tr.region ?_
        refine TrL.move rfl rfl ?_
        refine TrL.addI rfl rfl rfl (by omega) ?_
        refine TrL.assign rfl rfl ?_
        refine TrL.nil ?_
        have e5 : (s.tabs.take y.1).filter (ovT v lo hi) = (s.tabs.take (y.1 + 1)).filter (ovT v lo hi) := by rw [filter_on (by omega), if_neg (show ¬ ovT v lo hi s.tabs[y.1] = true by unfold ovT; first | (rw [decide_eq_false h28]; simp; done) | (rw [h34]; simp; done) | (rw [h39]; simp; done))]; simp
        rw [e5]
        refine At.again (y.1 + 1, y.2.1, y.2.2) (by show y.1 + 1 ≤ s.tabs.length; omega) (by show s.tabs.length - (y.1 + 1) < s.tabs.length - y.1; omega) (by repeat (first | exact Sub.nil | refine Sub.cons (by rfl) ?_)) (by repeat (first | exact Picks.nil | with_reducible exact Pick.here | with_reducible apply Pick.there | with_reducible apply Pick.app_nil | with_reducible apply Pick.app_cons | apply Picks.cons))
    · try simp only [beq_iff_eq, beq_eq_false_iff_ne, Bool.not_eq_true, Bool.not_eq_false, decide_eq_true_eq, decide_eq_false_iff_not, Bool.not_eq_true', Bool.not_eq_false', bne_iff_ne, Bool.not_eq_eq_eq_not, Bool.not_true, Bool.not_false, ne_eq, Decidable.not_not, Int.not_lt, Int.not_le] at h28
      refine TrL.unwant rfl rfl rfl ?_
      refine TrL.unwant rfl rfl rfl ?_
      refine TrL.unwant rfl rfl rfl ?_
      refine TrL.unwant rfl rfl rfl ?_
      refine TrL.pickF rfl rfl rfl ?_
      refine TrL.move rfl rfl ?_
      refine TrL.unwant rfl rfl rfl ?_
      refine TrL.unwant rfl rfl rfl ?_
      refine TrL.unwant rfl rfl rfl ?_
      refine TrL.unwant rfl rfl rfl ?_
      refine TrL.pickF rfl rfl rfl ?_
      refine TrL.nil (At.then_normal ?_)
      refine Tr.condF rfl ?_
      refine Tr.skip (At.block_normal (At.then_normal ?_))
      refine Tr.region ?_
      refine TrL.move rfl rfl ?_
      refine TrL.addI rfl rfl rfl (by omega) ?_
      refine TrL.assign rfl rfl ?_
      refine TrL.nil ?_
      have e5 : (s.tabs.take y.1).filter (ovT v lo hi) = (s.tabs.take (y.1 + 1)).filter (ovT v lo hi) := by rw [filter_on (by omega), if_neg (show ¬ ovT v lo hi s.tabs[y.1] = true by unfold ovT; first | (rw [decide_eq_false h28]; simp; done) | (rw [h34]; simp; done) | (rw [h39]; simp; done))]; simp
      rw [e5]
      refine At.again (y.1 + 1, y.2.1, y.2.2) (by show y.1 + 1 ≤ s.tabs.length; omega) (by show s.tabs.length - (y.1 + 1) < s.tabs.length - y.1; omega) (by repeat (first | exact Sub.nil | refine Sub.cons (by rfl) ?_)) (by repeat (first | exact Picks.nil | with_reducible exact Pick.here | with_reducible apply Pick.there | with_reducible apply Pick.app_nil | with_reducible apply Pick.app_cons | apply Picks.cons))
  · try simp only [beq_iff_eq, beq_eq_false_iff_ne, Bool.not_eq_true, Bool.not_eq_false, decide_eq_true_eq, decide_eq_false_iff_not, Bool.not_eq_true', Bool.not_eq_false', bne_iff_ne, Bool.not_eq_eq_eq_not, Bool.not_true, Bool.not_false, ne_eq, Decidable.not_not, Int.not_lt, Int.not_le] at h16
    refine Tr.exit (At.then_exit (At.then_exit (At.block_hit (At.then_normal ?_))))
    refine Tr.seq ?_
    refine Tr.region ?_
    refine TrL.move rfl rfl ?_
    refine TrL.assign rfl rfl ?_
    refine TrL.nil (At.then_normal ?_)
    refine Tr.ret (At.retX [_] (.inl rfl) rfl (Res.tmp rfl Res.nil) (by repeat (first | exact Picks.nil | with_reducible exact Pick.here | with_reducible apply Pick.there | with_reducible apply Pick.app_nil | with_reducible apply Pick.app_cons | apply Picks.cons)) (by 
        rw [List.take_of_length_le (show s.tabs.length ≤ y.1 by omega)]
        exact ⟨_, fun h hs => hs, hK _ _⟩))
end Go.Proofs.Ytiefmfimbmkdjaa

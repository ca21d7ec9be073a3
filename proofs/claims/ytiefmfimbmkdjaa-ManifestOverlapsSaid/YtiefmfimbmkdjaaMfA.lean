/-
  Plain law of package manifest: the state behind an edit, by the program's way and by the document's; no program in sight.
  No condition but those that each statement names.
-/
import Derived.Test.YtiefmfimbmkdjaaMfL
namespace Go.Proofs.Ytiefmfimbmkdjaa
set_option linter.unusedSimpArgs false
set_option linter.unusedVariables false
set_option linter.unusedSectionVars false

/-! ### maps as sets -/
section
variable {κ β : Type} [DecidableEq κ]
theorem posK_shift : ∀ (l : List (κ × β)) (k : κ) (i : Nat), posK l k (i + 1) = (posK l k i).map fun p => (p.1 + 1, p.2)
  | [], _, _ => rfl
  | (a, u) :: r, k, i => by
    unfold posK
    split
    · rfl
    · exact posK_shift r k (i + 1)
theorem look_cons (a : κ) (u : β) (r : List (κ × β)) (k : κ) : look ((a, u) :: r) k = if a = k then some u else look r k := by
  unfold look
  rw [show posK ((a, u) :: r) k 0 = if a = k then some (0, u) else posK r k (0 + 1) from rfl]
  split
  · rfl
  · rw [posK_shift]; cases posK r k 0 <;> rfl
theorem putK_cons (a : κ) (u : β) (r : List (κ × β)) (k : κ) (v : β) : putK ((a, u) :: r) k v = if a = k then (k, v) :: r else (a, u) :: putK r k v := by
  unfold putK
  rw [show posK ((a, u) :: r) k 0 = if a = k then some (0, u) else posK r k (0 + 1) from rfl]
  by_cases h : a = k
  · rw [if_pos h, if_pos h]; rfl
  · rw [if_neg h, if_neg h, posK_shift]; cases posK r k 0 <;> rfl
theorem look_putK : ∀ (l : List (κ × β)) (k k' : κ) (v : β), look (putK l k v) k' = if k = k' then some v else look l k'
  | [], k, k', v => by
    show look [(k, v)] k' = _
    rw [look_cons]
  | (a, u) :: r, k, k', v => by
    rw [putK_cons]
    split
    · rename_i h; subst h
      rw [look_cons, look_cons]
      split <;> rfl
    · rename_i h
      rw [look_cons, look_cons, look_putK r k k' v]
      by_cases h1 : a = k'
      · subst h1
        rw [if_pos rfl, if_pos rfl, if_neg (fun e => h e.symm)]
      · rw [if_neg h1, if_neg h1]
end
/-- a map from numbers to true, as a set -/
def kvB (S : List Int) : List (Int × Value) := S.foldl (fun kv k => putK kv k (.bool true)) []
theorem kvB_snoc (S : List Int) (k : Int) : putK (kvB S) k (.bool true) = kvB (S ++ [k]) := by simp [kvB]
theorem kvB_look (S : List Int) (k : Int) : look (kvB S) k = if k ∈ S then some (.bool true) else none := by
  have key : ∀ (S : List Int) (kv : List (Int × Value)), look (S.foldl (fun kv k => putK kv k (.bool true)) kv) k = if k ∈ S then some (.bool true) else look kv k := by
    intro S
    induction S with
    | nil => intro kv; simp
    | cons a S ih =>
      intro kv
      rw [List.foldl_cons, ih, look_putK]
      by_cases h1 : k ∈ S
      · simp [h1]
      · by_cases h2 : a = k
        · subst h2; simp
        · have : ¬ k = a := fun e => h2 e.symm
          simp [h1, h2, this]
  rw [kvB, key]
  rfl
theorem kvB_get (S : List Int) (k : Int) : (look (kvB S) k).getD (.bool false) = .bool (decide (k ∈ S)) := by
  rw [kvB_look]; by_cases h : k ∈ S <;> simp [h]

/-! ### which of two tables stands first -/
def ltT (a b : Tab) : Bool := if a.level = b.level then (if a.level = 0 then decide (b.id < a.id) else blt a.lo b.lo) else decide (a.level < b.level)
theorem ble_trans {a b c : ByteArray} (h1 : blt b a = false) (h2 : blt c b = false) : blt c a = false := by
  rcases blt_tri a b with h | h | h
  · cases e : blt c a with
    | false => rfl
    | true => rw [blt_trans e h] at h2; cases h2
  · subst h; exact h2
  · rw [h] at h1; cases h1
theorem ltT_sw : SW ltT := by
  refine ⟨fun a => ?_, fun a b h => ?_, fun a b c h1 h2 => ?_⟩
  · unfold ltT; simp [blt_irrefl]
  · unfold ltT at h ⊢
    by_cases h1 : a.level = b.level
    · rw [if_pos h1] at h
      rw [if_pos h1.symm]
      by_cases h2 : a.level = 0
      · rw [if_pos h2] at h
        rw [if_pos (by omega)]
        simp only [decide_eq_true_eq, decide_eq_false_iff_not] at h ⊢; omega
      · rw [if_neg h2] at h
        rw [if_neg (by omega)]
        exact blt_asymm h
    · rw [if_neg h1] at h
      rw [if_neg (fun e => h1 e.symm)]
      simp only [decide_eq_true_eq, decide_eq_false_iff_not] at h ⊢; omega
  · unfold ltT at h1 h2 ⊢
    by_cases e1 : b.level = a.level
    · rw [if_pos e1] at h1
      by_cases e2 : c.level = b.level
      · rw [if_pos e2] at h2
        rw [if_pos (by omega)]
        by_cases z : b.level = 0
        · rw [if_pos z] at h1
          rw [if_pos (by omega)] at h2 ⊢
          simp only [decide_eq_false_iff_not] at h1 h2 ⊢; omega
        · rw [if_neg z] at h1
          rw [if_neg (by omega)] at h2 ⊢
          exact ble_trans h1 h2
      · rw [if_neg e2] at h2
        rw [if_neg (by omega)]
        simp only [decide_eq_false_iff_not] at h2 ⊢; omega
    · rw [if_neg e1] at h1
      by_cases e2 : c.level = b.level
      · rw [if_neg (by omega)]
        simp only [decide_eq_false_iff_not] at h1 ⊢; omega
      · rw [if_neg e2] at h2
        simp only [decide_eq_false_iff_not] at h1 h2
        rw [if_neg (by omega)]
        simp only [decide_eq_false_iff_not]; omega

/-! ### an edit of a state -/
/-- are the numbers that go there, each once? -/
def goneOk (ids : List Int) : List Int → List Int → Bool
  | _, [] => true
  | g, i :: r => decide (i ∈ ids) && !decide (i ∈ g) && goneOk ids (g ++ [i]) r
/-- are the numbers that come new, and small enough? -/
def addOk (next : Int) : List Int → List Tab → Bool
  | _, [] => true
  | ids, t :: r => !decide (t.id ∈ ids) && decide (t.id < next) && addOk next (ids ++ [t.id]) r
/-- have two tables of one level above 0 no key in common? -/
def apartT (a b : Tab) : Bool := !(decide (0 < a.level) && decide (a.level = b.level) && !blt a.hi b.lo && !blt b.hi a.lo)
def adjT (a b : Tab) : Bool := !(decide (0 < a.level) && decide (a.level = b.level) && !blt a.hi b.lo)
def adjOk : List Tab → Bool
  | a :: b :: r => adjT a b && adjOk (b :: r)
  | _ => true
def apartL (l : List Tab) : Prop := l.Pairwise fun a b => apartT a b = true
instance (l : List Tab) : Decidable (apartL l) := by unfold apartL; infer_instance
/-- tables with one more, in order -/
def putT (l : List Tab) (t : Tab) : List Tab := l.takeWhile (fun u => ltT u t) ++ t :: l.dropWhile (fun u => ltT u t)
def keepT (s : Sta) (e : Ed) : List Tab := s.tabs.filter fun t => !decide (t.id ∈ e.drop)
def newT (s : Sta) (e : Ed) : List Tab := e.add.foldl putT (keepT s e)
def zeroS : Sta := ⟨[], 0, 0⟩
def fitsE (s : Sta) (e : Ed) : Bool := decide (s.log ≤ e.log) && decide (s.next ≤ e.next) && goneOk (s.tabs.map (·.id)) [] e.drop && addOk e.next (s.tabs.map (·.id)) e.add && decide (apartL (newT s e))
def applyF (s : Sta) (e : Ed) : Sta × Int := if mayE e = false then (zeroS, 1) else if fitsE s e = true then (⟨newT s e, e.log, e.next⟩, 0) else (zeroS, 120)
/-- what a state is keeps -/
structure Good (s : Sta) : Prop where
  rise : s.tabs.Pairwise fun a b => ltT a b = true
  once : (s.tabs.map (·.id)).Nodup
  low : ∀ t ∈ s.tabs, t.id < s.next
  may : ∀ t ∈ s.tabs, tabOk t = true
  apart : apartL s.tabs
  log : 0 ≤ s.log ∧ s.log ≤ 1073741824
  next : 0 ≤ s.next ∧ s.next ≤ 1073741824
theorem zeroS_good : Good zeroS := ⟨.nil, .nil, by simp [zeroS], by simp [zeroS], .nil, by decide, by decide⟩

theorem putT_perm (l : List Tab) (t : Tab) : (putT l t).Perm (l ++ [t]) := by
  unfold putT
  have h : l.Perm (l.takeWhile (fun u => ltT u t) ++ l.dropWhile (fun u => ltT u t)) := by rw [List.takeWhile_append_dropWhile]
  refine List.perm_middle.trans ?_
  refine (List.Perm.cons t h.symm).trans ?_
  exact List.perm_append_comm (l₁ := [t]) (l₂ := l)
theorem putT_sorted {l : List Tab} (h : SortedL ltT l) (t : Tab) : SortedL ltT (putT l t) := by
  unfold putT
  have hs : SortedL ltT (l.takeWhile (fun u => ltT u t) ++ l.dropWhile (fun u => ltT u t)) := by rw [List.takeWhile_append_dropWhile]; exact h
  obtain ⟨k1, k2, k3⟩ := sorted_app.1 hs
  have h1 : ∀ a ∈ l.takeWhile (fun u => ltT u t), ltT a t = true := fun a ha => by
    have := List.all_takeWhile (p := fun u => ltT u t) (l := l)
    exact List.all_eq_true.1 this a ha
  have h2 : ∀ b ∈ l.dropWhile (fun u => ltT u t), ltT b t = false := by
    intro b hb
    cases hd : l.dropWhile (fun u => ltT u t) with
    | nil => rw [hd] at hb; cases hb
    | cons c r =>
      have hc : ltT c t = false := by
        have := List.head?_dropWhile_not (fun u => ltT u t) l
        rw [hd] at this
        simpa using this
      rw [hd] at hb k2
      rcases List.mem_cons.1 hb with rfl | hb
      · exact hc
      · exact ltT_sw.tr t c b hc ((List.pairwise_cons.1 k2).1 b hb)
  refine sorted_app.2 ⟨k1, List.pairwise_cons.2 ⟨fun b hb => h2 b hb, k2⟩, fun a ha b hb => ?_⟩
  rcases List.mem_cons.1 hb with rfl | hb
  · exact ltT_sw.asy _ _ (h1 a ha)
  · exact k3 a ha b hb
theorem foldl_putT : ∀ (add l : List Tab), (add.foldl putT l).Perm (l ++ add) ∧ (SortedL ltT l → SortedL ltT (add.foldl putT l))
  | [], l => ⟨by simp, id⟩
  | t :: add, l => by
    obtain ⟨h1, h2⟩ := foldl_putT add (putT l t)
    refine ⟨?_, fun h => h2 (putT_sorted h t)⟩
    rw [List.foldl_cons]
    refine h1.trans ?_
    have := (putT_perm l t).append_right add
    simpa using this

theorem strict_of {l : List Tab} (hs : SortedL ltT l) (hn : (l.map (·.id)).Nodup) (ha : adjOk l = true) (hk : ∀ t ∈ l, tabOk t = true) : l.Pairwise fun a b => ltT a b = true ∧ (0 < a.level → a.level = b.level → blt a.hi b.lo = true) := by
  have lohi : ∀ t ∈ l, blt t.hi t.lo = false := fun t ht => by
    have := hk t ht
    unfold tabOk at this
    simp only [Bool.and_eq_true, Bool.not_eq_true'] at this
    exact this.2
  have lev : ∀ t ∈ l, 0 ≤ t.level := fun t ht => by
    have := hk t ht
    unfold tabOk at this
    simp only [Bool.and_eq_true, decide_eq_true_eq] at this
    exact this.1.1.1.1.2
  clear hk
  induction l with
  | nil => exact .nil
  | cons a l ih =>
    obtain ⟨s1, s2⟩ := List.pairwise_cons.1 hs
    simp only [List.map_cons, List.nodup_cons] at hn
    have ha2 : adjOk l = true := by
      cases l with
      | nil => rfl
      | cons b r => simp only [adjOk, Bool.and_eq_true] at ha; exact ha.2
    have ih := ih s2 hn.2 ha2 (fun t ht => lohi t (by simp [ht])) (fun t ht => lev t (by simp [ht]))
    refine List.pairwise_cons.2 ⟨fun b hb => ?_, ih⟩
    have hab := s1 b hb
    have hne : a.id ≠ b.id := fun e => hn.1 (List.mem_map.2 ⟨b, hb, e.symm⟩)
    -- the neighbour first, then what follows it
    have far : 0 < a.level → a.level = b.level → blt a.hi b.lo = true := by
      intro h0 hl
      cases l with
      | nil => cases hb
      | cons c r =>
        simp only [adjOk, Bool.and_eq_true] at ha
        have hac := ha.1
        have hca := s1 c (by simp)
        have hbc : b = c ∨ (ltT c b = true ∧ (0 < c.level → c.level = b.level → blt c.hi b.lo = true)) := by
          rcases List.mem_cons.1 hb with rfl | hb
          · exact .inl rfl
          · exact .inr ((List.pairwise_cons.1 ih).1 b hb)
        have hcl : c.level = a.level := by
          rcases hbc with rfl | ⟨h1, _⟩
          · exact hl.symm
          · unfold ltT at h1 hca
            by_cases e1 : c.level = b.level
            · omega
            · rw [if_neg e1] at h1
              by_cases e2 : c.level = a.level
              · exact e2
              · rw [if_neg e2] at hca
                simp only [decide_eq_true_eq, decide_eq_false_iff_not] at h1 hca
                omega
        have h1 : blt a.hi c.lo = true := by
          unfold adjT at hac
          simp only [Bool.not_eq_true', Bool.and_eq_false_iff, decide_eq_false_iff_not, Bool.not_eq_false'] at hac
          rcases hac with (hac | hac) | hac
          · exact (hac h0).elim
          · exact (hac hcl.symm).elim
          · exact hac
        rcases hbc with rfl | ⟨h2, h3⟩
        · exact h1
        · have h4 := h3 (by omega) (by omega)
          have h5 := lohi c (by simp)
          -- a.hi < c.lo <= c.hi < b.lo
          rcases blt_tri c.lo c.hi with h | h | h
          · exact blt_trans h1 (blt_trans h h4)
          · rw [← h] at h4; exact blt_trans h1 h4
          · rw [h] at h5; cases h5
    refine ⟨?_, far⟩
    unfold ltT at hab ⊢
    by_cases e : a.level = b.level
    · rw [if_pos e.symm] at hab
      rw [if_pos e]
      by_cases z : a.level = 0
      · rw [if_pos (by omega)] at hab
        rw [if_pos z]
        simp only [decide_eq_true_eq, decide_eq_false_iff_not] at hab ⊢; omega
      · rw [if_neg (by omega)] at hab
        rw [if_neg z]
        have h1 := far (by have := lev a (by simp); omega) e
        have h2 := lohi a (by simp)
        rcases blt_tri a.lo a.hi with h | h | h
        · exact blt_trans h h1
        · rw [h]; exact h1
        · rw [h] at h2; cases h2
    · rw [if_neg (fun h => e h.symm)] at hab
      rw [if_neg e]
      simp only [decide_eq_true_eq, decide_eq_false_iff_not] at hab ⊢; omega

theorem apart_symm {a b : Tab} (h : apartT a b = true) : apartT b a = true := by
  unfold apartT at h ⊢
  simp only [Bool.not_eq_true', Bool.and_eq_false_iff, decide_eq_false_iff_not, Bool.not_eq_false'] at h ⊢
  rcases h with ((h | h) | h) | h
  · by_cases e : b.level = a.level
    · exact .inl (.inl (.inl (by omega)))
    · exact .inl (.inl (.inr e))
  · exact .inl (.inl (.inr fun e => h e.symm))
  · exact .inr h
  · exact .inl (.inr h)
theorem apart_perm {l l' : List Tab} (p : l.Perm l') (h : apartL l) : apartL l' := p.pairwise h (fun h => apart_symm h)
theorem adj_apart {l : List Tab} (h : l.Pairwise fun a b => ltT a b = true ∧ (0 < a.level → a.level = b.level → blt a.hi b.lo = true)) : apartL l := by
  refine h.imp ?_
  rintro a b ⟨_, h⟩
  unfold apartT
  simp only [Bool.not_eq_true', Bool.and_eq_false_iff, decide_eq_false_iff_not, Bool.not_eq_false']
  by_cases h0 : 0 < a.level
  · by_cases hl : a.level = b.level
    · exact .inl (.inr (h h0 hl))
    · exact .inl (.inl (.inr hl))
  · exact .inl (.inl (.inl h0))
theorem apart_adj : ∀ {l : List Tab}, SortedL ltT l → apartL l → (∀ t ∈ l, tabOk t = true) → adjOk l = true
  | [], _, _, _ => rfl
  | [_], _, _, _ => rfl
  | a :: b :: r, hs, h, hk => by
    obtain ⟨s1, s2⟩ := List.pairwise_cons.1 hs
    obtain ⟨a1, a2⟩ := List.pairwise_cons.1 h
    simp only [adjOk, Bool.and_eq_true]
    refine ⟨?_, apart_adj s2 a2 (fun t ht => hk t (by simp [ht]))⟩
    have hab := a1 b (by simp)
    have hsb := s1 b (by simp)
    have hkb := hk b (by simp)
    unfold apartT at hab
    unfold adjT
    simp only [Bool.not_eq_true', Bool.and_eq_false_iff, decide_eq_false_iff_not, Bool.not_eq_false'] at hab ⊢
    rcases hab with ((h | h) | h) | h
    · exact .inl (.inl h)
    · exact .inl (.inr h)
    · exact .inr h
    · -- b.hi < a.lo: then b.lo < a.lo, against the order
      by_cases h0 : 0 < a.level
      · by_cases hl : a.level = b.level
        · exfalso
          unfold ltT at hsb
          rw [if_pos hl.symm, if_neg (by omega)] at hsb
          unfold tabOk at hkb
          simp only [Bool.and_eq_true, Bool.not_eq_true'] at hkb
          rcases blt_tri b.lo b.hi with h1 | h1 | h1
          · rw [blt_trans h1 h] at hsb; cases hsb
          · rw [h1, h] at hsb; cases hsb
          · rw [h1] at hkb; exact absurd hkb.2 (by simp)
        · exact .inl (.inr hl)
      · exact .inl (.inl h0)

theorem addOk_iff {next : Int} : ∀ {l : List Tab} {ids : List Int}, addOk next ids l = true → (∀ t ∈ l, t.id < next ∧ t.id ∉ ids) ∧ (l.map (·.id)).Nodup
  | [], _, _ => by simp
  | t :: l, ids, h => by
    simp only [addOk, Bool.and_eq_true, Bool.not_eq_true', decide_eq_false_iff_not, decide_eq_true_eq] at h
    obtain ⟨h1, h2⟩ := addOk_iff h.2
    refine ⟨fun u hu => ?_, ?_⟩
    · rcases List.mem_cons.1 hu with rfl | hu
      · exact ⟨h.1.2, h.1.1⟩
      · obtain ⟨k1, k2⟩ := h1 u hu
        exact ⟨k1, fun hm => k2 (by simp [hm])⟩
    · simp only [List.map_cons, List.nodup_cons]
      refine ⟨fun hm => ?_, h2⟩
      obtain ⟨u, hu, e⟩ := List.mem_map.1 hm
      exact (h1 u hu).2 (by simp [e])

theorem keep_sub (s : Sta) (e : Ed) : (keepT s e).Sublist s.tabs := List.filter_sublist
/-- what stands together behind an edit that may be -/
theorem all_ok {s : Sta} {e : Ed} (g : Good s) (hm : mayE e = true) (ha : addOk e.next (s.tabs.map (·.id)) e.add = true) : (∀ t ∈ keepT s e ++ e.add, tabOk t = true) ∧ ((keepT s e ++ e.add).map (·.id)).Nodup := by
  obtain ⟨h1, h2⟩ := addOk_iff ha
  have hadd : ∀ t ∈ e.add, tabOk t = true := by
    unfold mayE at hm
    simp only [Bool.and_eq_true] at hm
    exact List.all_eq_true.1 hm.1.1.1.2
  refine ⟨fun t ht => ?_, ?_⟩
  · rcases List.mem_append.1 ht with ht | ht
    · exact g.may t ((keep_sub s e).subset ht)
    · exact hadd t ht
  · rw [List.map_append]
    refine List.nodup_append.2 ⟨?_, h2, fun a ha b hb hab => ?_⟩
    · exact List.Nodup.sublist ((keep_sub s e).map _) g.once
    · subst hab
      obtain ⟨u, hu, rfl⟩ := List.mem_map.1 hb
      have := ((keep_sub s e).map (·.id)).subset ha
      exact (h1 u hu).2 this
theorem rise_sorted {l : List Tab} (h : l.Pairwise fun a b => ltT a b = true) : SortedL ltT l := h.imp fun h => ltT_sw.asy _ _ h
/-- whichever way tables are put in order: it is one -/
theorem sort_unique {s : Sta} {e : Ed} (g : Good s) (hm : mayE e = true) (ha : addOk e.next (s.tabs.map (·.id)) e.add = true) {l : List Tab} (hp : l.Perm (keepT s e ++ e.add)) (hs : SortedL ltT l) : (adjOk l = true ↔ apartL (newT s e)) ∧ (adjOk l = true → l = newT s e) := by
  obtain ⟨k1, k2⟩ := all_ok g hm ha
  obtain ⟨f1, f2⟩ := foldl_putT e.add (keepT s e)
  have hnp : (newT s e).Perm (keepT s e ++ e.add) := f1
  have hns : SortedL ltT (newT s e) := f2 (rise_sorted (g.rise.sublist (keep_sub s e)))
  have hlk : ∀ t ∈ l, tabOk t = true := fun t ht => k1 t (hp.mem_iff.1 ht)
  have hnk : ∀ t ∈ newT s e, tabOk t = true := fun t ht => k1 t (hnp.mem_iff.1 ht)
  have hln : (l.map (·.id)).Nodup := (hp.map _).nodup_iff.2 k2
  have hnn : ((newT s e).map (·.id)).Nodup := (hnp.map _).nodup_iff.2 k2
  have imp1 : adjOk l = true → apartL (newT s e) := fun h => apart_perm (hp.trans hnp.symm) (adj_apart (strict_of hs hln h hlk))
  refine ⟨⟨imp1, fun h => apart_adj hs (apart_perm (hnp.trans hp.symm) h) hlk⟩, fun h => ?_⟩
  have st1 := strict_of hs hln h hlk
  have st2 := strict_of hns hnn (apart_adj hns (imp1 h) hnk) hnk
  refine List.Perm.eq_of_pairwise (le := fun a b => ltT a b = true) ?_ (st1.imp And.left) (st2.imp And.left) (hp.trans hnp.symm)
  intro a b _ _ h1 h2
  rw [ltT_sw.asy _ _ h1] at h2; cases h2
theorem applyF_good {s : Sta} {e : Ed} (g : Good s) (h : (applyF s e).2 = 0) : Good (applyF s e).1 ∧ s.log ≤ (applyF s e).1.log ∧ s.next ≤ (applyF s e).1.next := by
  unfold applyF at h ⊢
  by_cases hm : mayE e = true
  · rw [if_neg (by simp [hm])] at h ⊢
    by_cases hf : fitsE s e = true
    · rw [if_pos hf] at h ⊢
      unfold fitsE at hf
      simp only [Bool.and_eq_true, decide_eq_true_eq] at hf
      obtain ⟨⟨⟨⟨h1, h2⟩, h3⟩, h4⟩, h5⟩ := hf
      obtain ⟨k1, k2⟩ := all_ok g hm h4
      obtain ⟨f1, f2⟩ := foldl_putT e.add (keepT s e)
      have hnp : (newT s e).Perm (keepT s e ++ e.add) := f1
      have hns : SortedL ltT (newT s e) := f2 (rise_sorted (g.rise.sublist (keep_sub s e)))
      have hnk : ∀ t ∈ newT s e, tabOk t = true := fun t ht => k1 t (hnp.mem_iff.1 ht)
      have hnn : ((newT s e).map (·.id)).Nodup := (hnp.map _).nodup_iff.2 k2
      have st2 := strict_of hns hnn (apart_adj hns h5 hnk) hnk
      unfold mayE at hm
      simp only [Bool.and_eq_true, decide_eq_true_eq] at hm
      refine ⟨⟨st2.imp And.left, hnn, fun t ht => ?_, hnk, h5, hm.1.2, hm.2⟩, h1, h2⟩
      rcases List.mem_append.1 (hnp.mem_iff.1 ht) with ht | ht
      · have := g.low t ((keep_sub s e).subset ht)
        show t.id < e.next; omega
      · exact ((addOk_iff h4).1 t ht).1
    · rw [if_neg hf] at h; cases h
  · rw [if_pos (by simpa using hm)] at h; cases h
theorem applyF_len (s : Sta) (e : Ed) : (applyF s e).1.tabs.length ≤ s.tabs.length + 128 := by
  unfold applyF
  by_cases hm : mayE e = true
  case neg => rw [if_pos (by simpa using hm)]; simp [zeroS]
  rw [if_neg (by simp [hm])]
  split
  · show (newT s e).length ≤ _
    have h1 : (newT s e).length = (keepT s e ++ e.add).length := (foldl_putT e.add (keepT s e)).1.length_eq
    have h2 := (keep_sub s e).length_le
    have h3 := (mayE_add hm).1
    rw [h1, List.length_append]; omega
  · simp [zeroS]
end Go.Proofs.Ytiefmfimbmkdjaa

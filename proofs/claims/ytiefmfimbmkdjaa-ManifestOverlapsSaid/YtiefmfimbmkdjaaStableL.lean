/-
  Plain lists: what an insertion sort, a rotation and a symmetric merge do; no program in sight.
  No condition but those that each statement names.
-/
import Derived.Test.YtiefmfimbmkdjaaSxArr
namespace Go.Proofs.Ytiefmfimbmkdjaa
set_option linter.unusedSimpArgs false
set_option linter.unusedVariables false
set_option linter.unusedSectionVars false

section
variable {α : Type}
/-- a weak order, by 'less' -/
structure SW (lt : α → α → Bool) : Prop where
  irr : ∀ a, lt a a = false
  asy : ∀ a b, lt a b = true → lt b a = false
  tr : ∀ a b c, lt b a = false → lt c b = false → lt c a = false
/-- nothing is less than what stands ahead of it -/
def SortedL (lt : α → α → Bool) (l : List α) : Prop := l.Pairwise fun a b => lt b a = false
variable {lt : α → α → Bool}

theorem sorted_nil : SortedL lt ([] : List α) := .nil
theorem sorted_one (a : α) : SortedL lt [a] := List.pairwise_singleton _ _
theorem sorted_app {A B : List α} : SortedL lt (A ++ B) ↔ SortedL lt A ∧ SortedL lt B ∧ ∀ a ∈ A, ∀ b ∈ B, lt b a = false := List.pairwise_append
theorem sorted_take {l : List α} (h : SortedL lt l) (k : Nat) : SortedL lt (l.take k) := h.sublist (List.take_sublist _ _)
theorem sorted_drop {l : List α} (h : SortedL lt l) (k : Nat) : SortedL lt (l.drop k) := h.sublist (List.drop_sublist _ _)
theorem sorted_at {l : List α} (h : SortedL lt l) {i j : Nat} {a b : α} (hij : i < j) (hi : l[i]? = some a) (hj : l[j]? = some b) : lt b a = false := by
  have h1 := List.getElem?_eq_some_iff.1 hi
  have h2 := List.getElem?_eq_some_iff.1 hj
  obtain ⟨l1, rfl⟩ := h1
  obtain ⟨l2, rfl⟩ := h2
  exact List.pairwise_iff_getElem.1 h i j l1 l2 hij
theorem sorted_le {l : List α} (o : SW lt) (h : SortedL lt l) {i j : Nat} {a b : α} (hij : i ≤ j) (hi : l[i]? = some a) (hj : l[j]? = some b) : lt b a = false := by
  rcases Nat.lt_or_eq_of_le hij with h1 | rfl
  · exact sorted_at h h1 hi hj
  · rw [hi] at hj; cases hj; exact o.irr _

/-- an element comes to its place -/
theorem ins_step {P Q : List α} {x y : α} (h : SortedL lt ((P ++ [y]) ++ Q)) : SortedL lt (P ++ (y :: Q)) := by simpa using h
theorem ins_done {P Q : List α} {x : α} (o : SW lt) (h : SortedL lt (P ++ Q)) (hq : ∀ y ∈ Q, lt x y = true) (hp : P = [] ∨ ∃ P' y, P = P' ++ [y] ∧ lt x y = false) : SortedL lt (P ++ x :: Q) := by
  obtain ⟨h1, h2, h3⟩ := sorted_app.1 h
  have hx : ∀ a ∈ P, lt x a = false := by
    rcases hp with rfl | ⟨P', y, rfl, hy⟩
    · simp
    · obtain ⟨k1, k2, k3⟩ := sorted_app.1 h1
      intro a ha
      rcases List.mem_append.1 ha with ha | ha
      · exact o.tr a y x (k3 a ha y (by simp)) hy
      · simp at ha; subst ha; exact hy
  refine sorted_app.2 ⟨h1, List.pairwise_cons.2 ⟨fun y hy => o.asy _ _ (hq y hy), h2⟩, fun a ha b hb => ?_⟩
  rcases List.mem_cons.1 hb with rfl | hb
  · exact hx a ha
  · exact h3 a ha b hb

/-- two neighbours change places -/
theorem swap_adj (A W : List α) (x y : α) : ((A ++ y :: x :: W).set (A.length + 1) y).set A.length x = A ++ x :: y :: W := by
  rw [List.set_append_right _ _ (by omega)]
  simp only [Nat.add_sub_cancel_left, List.set_cons_succ, List.set_cons_zero]
  rw [List.set_append_right _ _ (by omega)]
  simp
theorem swap_adj' (A W : List α) (x y : α) : ((A ++ y :: x :: W).set A.length x).set (A.length + 1) y = A ++ x :: y :: W := by
  rw [List.set_append_right _ _ (by omega)]
  simp only [Nat.sub_self, List.set_cons_zero]
  rw [List.set_append_right _ _ (by omega)]
  simp
theorem at_app (A W : List α) (x : α) : (A ++ x :: W)[A.length]? = some x := by simp
theorem at_app1 (A W : List α) (x y : α) : (A ++ y :: x :: W)[A.length + 1]? = some x := by simp [List.getElem?_append]

/-- one element and a row -/
theorem one_left {x : α} {B : List α} {c : Nat} (o : SW lt) (hB : SortedL lt B) (h1 : c = 0 ∨ ∃ y, B[c - 1]? = some y ∧ lt y x = true) (h2 : c = B.length ∨ ∃ y, B[c]? = some y ∧ lt y x = false) (hc : c ≤ B.length) : SortedL lt (B.take c ++ x :: B.drop c) := by
  have hs : SortedL lt (B.take c ++ B.drop c) := by rw [List.take_append_drop]; exact hB
  obtain ⟨k1, k2, k3⟩ := sorted_app.1 hs
  refine sorted_app.2 ⟨k1, List.pairwise_cons.2 ⟨fun z hz => ?_, k2⟩, fun a ha b hb => ?_⟩
  · rcases h2 with rfl | ⟨y, hy, hxy⟩
    · simp at hz
    · obtain ⟨j, hj⟩ := List.mem_iff_getElem?.1 hz
      rw [List.getElem?_drop] at hj
      exact o.tr x y z hxy (sorted_le o hB (by omega) hy hj)
  · rcases List.mem_cons.1 hb with rfl | hb
    · rcases h1 with rfl | ⟨y, hy, hxy⟩
      · simp at ha
      · obtain ⟨j, hj⟩ := List.mem_iff_getElem?.1 ha
        rw [List.getElem?_take] at hj
        split at hj
        · exact o.tr a y b (sorted_le o hB (by omega) hj hy) (o.asy _ _ hxy)
        · cases hj
    · exact k3 a ha b hb
theorem one_right {x : α} {A : List α} {c : Nat} (o : SW lt) (hA : SortedL lt A) (h1 : c = 0 ∨ ∃ y, A[c - 1]? = some y ∧ lt x y = false) (h2 : c = A.length ∨ ∃ y, A[c]? = some y ∧ lt x y = true) (hc : c ≤ A.length) : SortedL lt (A.take c ++ x :: A.drop c) := by
  have hs : SortedL lt (A.take c ++ A.drop c) := by rw [List.take_append_drop]; exact hA
  obtain ⟨k1, k2, k3⟩ := sorted_app.1 hs
  refine sorted_app.2 ⟨k1, List.pairwise_cons.2 ⟨fun z hz => ?_, k2⟩, fun a ha b hb => ?_⟩
  · rcases h2 with rfl | ⟨y, hy, hxy⟩
    · simp at hz
    · obtain ⟨j, hj⟩ := List.mem_iff_getElem?.1 hz
      rw [List.getElem?_drop] at hj
      exact o.tr x y z (o.asy _ _ hxy) (sorted_le o hA (by omega) hy hj)
  · rcases List.mem_cons.1 hb with rfl | hb
    · rcases h1 with rfl | ⟨y, hy, hxy⟩
      · simp at ha
      · obtain ⟨j, hj⟩ := List.mem_iff_getElem?.1 ha
        rw [List.getElem?_take] at hj
        split at hj
        · exact o.tr a y b (sorted_le o hA (by omega) hj hy) hxy
        · cases hj
    · exact k3 a ha b hb

/-- two rows whose parts were changed -/
theorem sym_done {A B C1 C2 : List α} {c e : Nat} (o : SW lt) (hA : SortedL lt A) (hB : SortedL lt B) (hc : c ≤ A.length) (he : e ≤ B.length)
    (h1 : c = 0 ∨ e = B.length ∨ ∃ x y, A[c - 1]? = some x ∧ B[e]? = some y ∧ lt y x = false) (h2 : c = A.length ∨ e = 0 ∨ ∃ x y, A[c]? = some x ∧ B[e - 1]? = some y ∧ lt y x = true)
    (p1 : C1.Perm (A.take c ++ B.take e)) (p2 : C2.Perm (A.drop c ++ B.drop e)) (s1 : SortedL lt C1) (s2 : SortedL lt C2) : SortedL lt (C1 ++ C2) := by
  refine sorted_app.2 ⟨s1, s2, fun a ha b hb => ?_⟩
  have ha := p1.mem_iff.1 ha
  have hb := p2.mem_iff.1 hb
  have at_take : ∀ {l : List α} {k : Nat} {x : α}, x ∈ l.take k → ∃ j, j < k ∧ l[j]? = some x := by
    intro l k x hx
    obtain ⟨j, hj⟩ := List.mem_iff_getElem?.1 hx
    rw [List.getElem?_take] at hj
    split at hj
    · exact ⟨j, by assumption, hj⟩
    · cases hj
  have at_drop : ∀ {l : List α} {k : Nat} {x : α}, x ∈ l.drop k → ∃ j, k ≤ j ∧ l[j]? = some x := by
    intro l k x hx
    obtain ⟨j, hj⟩ := List.mem_iff_getElem?.1 hx
    rw [List.getElem?_drop] at hj
    exact ⟨_, by omega, hj⟩
  rcases List.mem_append.1 ha with ha | ha <;> rcases List.mem_append.1 hb with hb | hb
  · obtain ⟨i, hi, ei⟩ := at_take ha
    obtain ⟨j, hj, ej⟩ := at_drop hb
    exact sorted_at hA (by omega) ei ej
  · obtain ⟨i, hi, ei⟩ := at_take ha
    obtain ⟨j, hj, ej⟩ := at_drop hb
    have hjl := (List.getElem?_eq_some_iff.1 ej).1
    rcases h1 with h | h | ⟨x, y, hx, hy, hxy⟩
    · omega
    · omega
    · exact o.tr a x b (sorted_le o hA (by omega) ei hx) (o.tr x y b hxy (sorted_le o hB hj hy ej))
  · obtain ⟨i, hi, ei⟩ := at_take ha
    obtain ⟨j, hj, ej⟩ := at_drop hb
    have hjl := (List.getElem?_eq_some_iff.1 ej).1
    rcases h2 with h | h | ⟨x, y, hx, hy, hxy⟩
    · omega
    · omega
    · exact o.tr a y b (sorted_le o hB (by omega) ei hy) (o.tr y x b (o.asy _ _ hxy) (sorted_le o hA hj hx ej))
  · obtain ⟨i, hi, ei⟩ := at_take ha
    obtain ⟨j, hj, ej⟩ := at_drop hb
    exact sorted_at hB (by omega) ei ej

/-- each block of 'k' elements is sorted -/
def Blocks (lt : α → α → Bool) (k : Nat) (l : List α) : Prop := ∀ i, SortedL lt ((l.drop (i * k)).take k)
theorem blocks_all {k : Nat} {l : List α} (h : Blocks lt k l) (hk : l.length ≤ k) : SortedL lt l := by
  have := h 0
  rwa [Nat.zero_mul, List.drop_zero, List.take_of_length_le hk] at this
/-- .. up to the block 'j' blocks of 'k' elements, from there on of 'k2' -/
def BlkTo (lt : α → α → Bool) (k : Nat) (l : List α) (j : Nat) : Prop := ∀ i, i < j → SortedL lt ((l.drop (i * k)).take k)
def BlkFrom (lt : α → α → Bool) (k : Nat) (l : List α) (j : Nat) : Prop := ∀ i, j ≤ i → SortedL lt ((l.drop (i * k)).take k)
theorem cut_low {X M M' : List α} {a k : Nat} (h : a + k ≤ X.length) : ((X ++ M).drop a).take k = ((X ++ M').drop a).take k := by
  rw [List.drop_append_of_le_length (by omega), List.drop_append_of_le_length (by omega)]
  rw [List.take_append_of_le_length (by simp; omega), List.take_append_of_le_length (by simp; omega)]
theorem cut_high {X M M' Y : List α} {a : Nat} (hM : M.length = M'.length) (h : X.length + M.length ≤ a) : (X ++ (M ++ Y)).drop a = (X ++ (M' ++ Y)).drop a := by
  rw [← List.append_assoc, ← List.append_assoc, List.drop_append, List.drop_append (l₁ := X ++ M'), List.drop_of_length_le (l := X ++ M) (by simp; omega), List.drop_of_length_le (l := X ++ M') (by simp; omega)]
  simp [hM]
theorem BlkTo.step {k j : Nat} {X M M' Y : List α} (h : BlkTo lt k (X ++ (M ++ Y)) j) (hX : X.length = j * k) (hM : M'.length ≤ k) (hY : M'.length < k → Y = []) (hs : SortedL lt M') : BlkTo lt k (X ++ (M' ++ Y)) (j + 1) := by
  intro i hi
  rcases Nat.lt_or_eq_of_le (Nat.le_of_lt_succ hi) with h1 | rfl
  · have : i * k + k ≤ X.length := by rw [hX, ← Nat.succ_mul]; exact Nat.mul_le_mul_right _ h1
    rw [cut_low (M' := M ++ Y) this]
    exact h i h1
  · rw [← hX, List.drop_left]
    rcases Nat.lt_or_eq_of_le hM with h2 | h2
    · rw [hY h2, List.append_nil]; exact sorted_take hs _
    · rw [← h2, List.take_left]; exact hs
theorem BlkFrom.step {k j : Nat} {X M M' Y : List α} (h : BlkFrom lt k (X ++ (M ++ Y)) j) (hM : M.length = M'.length) {j' : Nat} (hX : X.length + M.length ≤ j' * k) (hj : j ≤ j') : BlkFrom lt k (X ++ (M' ++ Y)) j' := by
  intro i hi
  have : X.length + M.length ≤ i * k := Nat.le_trans hX (Nat.mul_le_mul_right _ hi)
  rw [cut_high (M' := M) hM.symm (by omega)]
  exact h i (by omega)
theorem BlkTo.all {k j : Nat} {l : List α} (h : BlkTo lt k l j) (hl : l.length ≤ j * k) : Blocks lt k l := fun i => by
  rcases Nat.lt_or_ge i j with h1 | h1
  · exact h i h1
  · have : l.length ≤ i * k := Nat.le_trans hl (Nat.mul_le_mul_right _ h1)
    rw [List.drop_of_length_le this]; exact sorted_take sorted_nil _

/-! ### rows in parts -/
theorem tda (l W : List α) (k : Nat) : l.take k ++ (l.drop k ++ W) = l ++ W := by rw [← List.append_assoc, List.take_append_drop]
theorem row_a {X A W : List α} {i : Nat} (h : i < A.length) : (X ++ (A ++ W))[X.length + i]? = A[i]? := by
  rw [List.getElem?_append_right (by omega), Nat.add_sub_cancel_left, List.getElem?_append_left h]
theorem row_b {X A B W : List α} {i : Nat} (h : i < B.length) : (X ++ (A ++ (B ++ W)))[X.length + A.length + i]? = B[i]? := by
  have := row_a (X := X ++ A) (W := W) h
  simpa [Nat.add_assoc] using this
theorem set_mid {X W : List α} {x y : α} : (X ++ x :: W).set X.length y = X ++ y :: W := by
  rw [List.set_append_right _ _ (by omega)]; simp
theorem cut_at {l : List α} {i : Nat} (h : i < l.length) : l = l.take i ++ l[i] :: l.drop (i + 1) := by
  rw [← List.drop_eq_getElem_cons h, List.take_append_drop]

/-- two parts that change places, up to the element 'i' of each -/
def swRow (X A W B Y : List α) (i : Nat) : List α := X ++ ((B.take i ++ A.drop i) ++ (W ++ ((A.take i ++ B.drop i) ++ Y)))
theorem swRow_zero (X A W B Y : List α) : swRow X A W B Y 0 = X ++ (A ++ (W ++ (B ++ Y))) := by simp [swRow]
theorem swRow_end {X A W B Y : List α} (h : A.length = B.length) : swRow X A W B Y A.length = X ++ (B ++ (W ++ (A ++ Y))) := by
  unfold swRow
  rw [List.take_of_length_le (l := B) (by omega), List.drop_of_length_le (l := A) (by omega), List.take_of_length_le (l := A) (by omega), List.drop_of_length_le (l := B) (by omega)]
  simp
theorem swRow_len (X A W B Y : List α) (i : Nat) : (swRow X A W B Y i).length = X.length + A.length + W.length + B.length + Y.length := by
  unfold swRow
  simp only [List.length_append, List.length_take, List.length_drop]; omega
theorem swRow_step {X A W B Y : List α} {i : Nat} (ha : i < A.length) (hb : i < B.length) :
    (swRow X A W B Y i)[X.length + i]? = some A[i] ∧ (swRow X A W B Y i)[X.length + A.length + W.length + i]? = some B[i] ∧ ((swRow X A W B Y i).set (X.length + i) B[i]).set (X.length + A.length + W.length + i) A[i] = swRow X A W B Y (i + 1) := by
  have e1 : swRow X A W B Y i = (X ++ B.take i) ++ A[i] :: (A.drop (i + 1) ++ (W ++ ((A.take i ++ B.drop i) ++ Y))) := by
    unfold swRow; rw [List.drop_eq_getElem_cons ha]; simp only [List.append_assoc, List.cons_append, List.nil_append]
  have e2 : swRow X A W B Y i = (X ++ B.take i ++ A.drop i ++ W ++ A.take i) ++ B[i] :: (B.drop (i + 1) ++ Y) := by
    unfold swRow; rw [List.drop_eq_getElem_cons hb]; simp only [List.append_assoc, List.cons_append, List.nil_append]
  have l1 : X.length + i = (X ++ B.take i).length := by simp; omega
  have l2 : X.length + A.length + W.length + i = (X ++ B.take i ++ A.drop i ++ W ++ A.take i).length := by simp; omega
  have l3 : X.length + A.length + W.length + i = (X ++ B.take (i + 1) ++ A.drop (i + 1) ++ W ++ A.take i).length := by simp; omega
  refine ⟨by rw [e1, l1]; exact at_app _ _ _, by rw [e2, l2]; exact at_app _ _ _, ?_⟩
  rw [e1]
  rw [l1, set_mid]
  have e3 : (X ++ B.take i) ++ B[i] :: (A.drop (i + 1) ++ (W ++ ((A.take i ++ B.drop i) ++ Y))) = (X ++ B.take (i + 1) ++ A.drop (i + 1) ++ W ++ A.take i) ++ B[i] :: (B.drop (i + 1) ++ Y) := by
    rw [List.take_succ_eq_append_getElem hb, List.drop_eq_getElem_cons hb]; simp only [List.append_assoc, List.cons_append, List.nil_append]
  rw [e3, l3, set_mid]
  unfold swRow
  rw [List.take_succ_eq_append_getElem ha]; simp only [List.append_assoc, List.cons_append, List.nil_append]

/-- one element among others -/
def oneRow (X : List α) (x : α) (B Y : List α) (c : Nat) : List α := X ++ (B.take c ++ (x :: (B.drop c ++ Y)))
theorem oneRow_len (X : List α) (x : α) (B Y : List α) (c : Nat) : (oneRow X x B Y c).length = X.length + 1 + B.length + Y.length := by
  unfold oneRow
  simp only [List.length_append, List.length_cons, List.length_take, List.length_drop]; omega
theorem oneRow_zero (X : List α) (x : α) (B Y : List α) : oneRow X x B Y 0 = X ++ ([x] ++ (B ++ Y)) := by simp [oneRow]
theorem oneRow_end (X : List α) (x : α) (B Y : List α) : oneRow X x B Y B.length = X ++ (B ++ ([x] ++ Y)) := by simp [oneRow]
theorem oneRow_mid (X : List α) (x : α) (B Y : List α) (c : Nat) : oneRow X x B Y c = X ++ ((B.take c ++ x :: B.drop c) ++ Y) := by simp [oneRow]
theorem one_at {X : List α} {x : α} {B Y : List α} {c : Nat} (h : c ≤ B.length) : (oneRow X x B Y c)[X.length + c]? = some x := by
  unfold oneRow
  have := at_app (X ++ B.take c) (B.drop c ++ Y) x
  rw [show (X ++ B.take c).length = X.length + c by simp; omega] at this
  simpa using this
theorem one_up {X : List α} {x : α} {B Y : List α} {c : Nat} (h : c < B.length) : (oneRow X x B Y c)[X.length + (c + 1)]? = some B[c] ∧ ((oneRow X x B Y c).set (X.length + c) B[c]).set (X.length + (c + 1)) x = oneRow X x B Y (c + 1) := by
  have e1 : oneRow X x B Y c = (X ++ B.take c) ++ x :: B[c] :: (B.drop (c + 1) ++ Y) := by
    unfold oneRow; rw [List.drop_eq_getElem_cons h]; simp only [List.append_assoc, List.cons_append, List.nil_append]
  have l1 : (X ++ B.take c).length = X.length + c := by simp; omega
  rw [e1, ← Nat.add_assoc, ← l1]
  refine ⟨at_app1 _ _ _ _, ?_⟩
  rw [swap_adj']
  unfold oneRow
  rw [List.take_succ_eq_append_getElem h]; simp only [List.append_assoc, List.cons_append, List.nil_append]
theorem one_down {X : List α} {x : α} {B Y : List α} {c : Nat} (h : c < B.length) : (oneRow X x B Y (c + 1))[X.length + c]? = some B[c] ∧ ((oneRow X x B Y (c + 1)).set (X.length + (c + 1)) B[c]).set (X.length + c) x = oneRow X x B Y c := by
  have e1 : oneRow X x B Y (c + 1) = (X ++ B.take c) ++ B[c] :: x :: (B.drop (c + 1) ++ Y) := by
    unfold oneRow; rw [List.take_succ_eq_append_getElem h]; simp only [List.append_assoc, List.cons_append, List.nil_append]
  have l1 : (X ++ B.take c).length = X.length + c := by simp; omega
  rw [e1, ← Nat.add_assoc, ← l1]
  refine ⟨at_app _ _ _, ?_⟩
  rw [swap_adj]
  unfold oneRow
  rw [List.drop_eq_getElem_cons h]; simp only [List.append_assoc, List.cons_append, List.nil_append]
end
end Go.Proofs.Ytiefmfimbmkdjaa

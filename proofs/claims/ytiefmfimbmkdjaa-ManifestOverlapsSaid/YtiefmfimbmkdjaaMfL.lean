/-
  Plain law of package manifest: numbers and texts as bytes, edits as bytes, the edit of bytes; no program in sight.
  No condition but those that each statement names.
-/
import Derived.Test.YtiefmfimbmkdjaaStableL
namespace Go.Proofs.Ytiefmfimbmkdjaa
set_option linter.unusedSimpArgs false
set_option linter.unusedVariables false
set_option linter.unusedSectionVars false

/-! ### numbers as bytes -/
def putV : Nat → Nat → List UInt8
  | 0, n => [UInt8.ofNat n]
  | f + 1, n => if n < 128 then [UInt8.ofNat n] else UInt8.ofNat (n % 128 + 128) :: putV f (n / 128)
def putN (n : Nat) : List UInt8 := putV 9 n
/-- the number that bytes begin with, how many bytes it has, why not -/
def takeV : List UInt8 → Nat → Nat → Nat → Int × Nat × Int
  | _, _, _, 0 => (0, 0, 11)
  | [], _, _, _ + 1 => (0, 0, 10)
  | c :: r, k, n, f + 1 =>
    if 128 ≤ c.toNat then takeV r (k + 1) (n + c.toNat % 128 * 2 ^ (7 * k)) f
    else if (0 < k ∧ c.toNat = 0) ∨ 4611686018427387904 < n + c.toNat % 128 * 2 ^ (7 * k) then (0, 0, 11) else (((n + c.toNat % 128 * 2 ^ (7 * k) : Nat) : Int), k + 1, 0)
def takeN (l : List UInt8) : Int × Nat × Int := takeV l 0 0 9
def takeT (l : List UInt8) : List UInt8 × Nat × Int :=
  if (takeN l).2.2 ≠ 0 then ([], 0, (takeN l).2.2)
  else if 262144 < (takeN l).1 then ([], 0, 11)
  else if (l.length : Int) - (takeN l).2.1 < (takeN l).1 then ([], 0, 10)
  else ((l.drop (takeN l).2.1).take (takeN l).1.toNat, (takeN l).2.1 + (takeN l).1.toNat, 0)
def textN (s : List UInt8) : List UInt8 := putN s.length ++ s

theorem putV_len : ∀ (f n : Nat), (putV f n).length ≤ f + 1
  | 0, _ => by simp [putV]
  | f + 1, n => by
    unfold putV
    split
    · simp
    · simp only [List.length_cons]; have := putV_len f (n / 128); omega
theorem putN_len (n : Nat) : (putN n).length ≤ 10 := putV_len 9 n
theorem takeV_num : ∀ (l : List UInt8) (k n f : Nat), 0 ≤ (takeV l k n f).1 ∧ (takeV l k n f).1 ≤ 4611686018427387904 ∧ ((takeV l k n f).2.2 = 0 → (takeV l k n f).2.1 ≤ k + l.length ∧ (takeV l k n f).2.1 ≤ k + f) ∧ ((takeV l k n f).2.2 ≠ 0 → (takeV l k n f).1 = 0 ∧ (takeV l k n f).2.1 = 0)
  | l, k, n, 0 => by simp [takeV]
  | [], k, n, f + 1 => by simp [takeV]
  | c :: r, k, n, f + 1 => by
    unfold takeV
    split
    · obtain ⟨h1, h2, h3, h4⟩ := takeV_num r (k + 1) (n + c.toNat % 128 * 2 ^ (7 * k)) f
      exact ⟨h1, h2, fun e => by have := h3 e; simp only [List.length_cons]; omega, h4⟩
    · split
      · simp
      · generalize c.toNat % 128 * 2 ^ (7 * k) = z at *
        refine ⟨by show (0 : Int) ≤ ((n + z : Nat) : Int); omega, by show ((n + z : Nat) : Int) ≤ _; omega, fun _ => by simp, fun h => by simp at h⟩
theorem takeN_num (l : List UInt8) : 0 ≤ (takeN l).1 ∧ (takeN l).1 ≤ 4611686018427387904 ∧ (takeN l).2.1 ≤ l.length ∧ (takeN l).2.1 ≤ 9 := by
  obtain ⟨h1, h2, h3, h4⟩ := takeV_num l 0 0 9
  by_cases h : (takeN l).2.2 = 0
  · have := h3 h
    exact ⟨h1, h2, by show (takeV l 0 0 9).2.1 ≤ _; omega, by show (takeV l 0 0 9).2.1 ≤ _; omega⟩
  · have := h4 h
    exact ⟨h1, h2, by show (takeV l 0 0 9).2.1 ≤ _; omega, by show (takeV l 0 0 9).2.1 ≤ _; omega⟩
theorem takeN_bad {l : List UInt8} (h : (takeN l).2.2 ≠ 0) : takeN l = (0, 0, (takeN l).2.2) := by
  obtain ⟨_, _, _, h4⟩ := takeV_num l 0 0 9
  have := h4 h
  exact Prod.ext this.1 (Prod.ext this.2 rfl)
theorem takeT_num (l : List UInt8) : (takeT l).2.1 ≤ l.length ∧ ((takeT l).2.2 ≠ 0 → (takeT l).1 = [] ∧ (takeT l).2.1 = 0) ∧ (takeT l).1.length ≤ 262144 := by
  have hn := takeN_num l
  unfold takeT
  split
  · simp
  · split
    · simp
    · split
      · simp
      · refine ⟨by simp only []; omega, fun h => by simp at h, by simp only [List.length_take]; omega⟩

theorem takeT_e {l : List UInt8} (h : ¬ (takeN l).2.2 = 0) : takeT l = ([], 0, (takeN l).2.2) := by unfold takeT; rw [if_pos h]
theorem takeT_big {l : List UInt8} (h : (takeN l).2.2 = 0) (h1 : 262144 < (takeN l).1) : takeT l = ([], 0, 11) := by unfold takeT; rw [if_neg (by simpa using h), if_pos h1]
theorem takeT_short {l : List UInt8} (h : (takeN l).2.2 = 0) (h1 : ¬ 262144 < (takeN l).1) (h2 : (l.length : Int) - (takeN l).2.1 < (takeN l).1) : takeT l = ([], 0, 10) := by unfold takeT; rw [if_neg (by simpa using h), if_neg h1, if_pos h2]
theorem takeT_ok {l : List UInt8} (h : (takeN l).2.2 = 0) (h1 : ¬ 262144 < (takeN l).1) (h2 : ¬ (l.length : Int) - (takeN l).2.1 < (takeN l).1) : takeT l = ((l.drop (takeN l).2.1).take (takeN l).1.toNat, (takeN l).2.1 + (takeN l).1.toNat, 0) := by unfold takeT; rw [if_neg (by simpa using h), if_neg h1, if_neg h2]
theorem u8_toNat {n : Nat} (h : n < 256) : (UInt8.ofNat n).toNat = n := by rw [UInt8.toNat_ofNat']; exact Nat.mod_eq_of_lt h
theorem takeV_put : ∀ (f n k m : Nat) (r : List UInt8), n < 128 ^ f → f + k ≤ 9 → (k = 0 ∨ 0 < n) → m + n * 2 ^ (7 * k) ≤ 4611686018427387904 →
    takeV (putV f n ++ r) k m (9 - k) = (((m + n * 2 ^ (7 * k) : Nat) : Int), k + (putV f n).length, 0)
  | 0, n, k, m, r, h, hk, h0, hm => by
    simp at h; subst h
    rcases h0 with rfl | h
    · simp only [Nat.zero_mul, Nat.add_zero] at hm
      simp [putV, takeV]; omega
    · omega
  | f + 1, n, k, m, r, h, hk, h0, hm => by
    unfold putV
    split
    · rename_i hn
      obtain ⟨g, hg⟩ : ∃ g, 9 - k = g + 1 := ⟨8 - k, by omega⟩
      rw [hg]
      simp only [List.cons_append, List.nil_append, takeV, u8_toNat (show n < 256 by omega)]
      rw [if_neg (by omega), Nat.mod_eq_of_lt hn, if_neg (by omega)]
      rfl
    · rename_i hn
      obtain ⟨g, hg⟩ : ∃ g, 9 - k = g + 1 := ⟨8 - k, by omega⟩
      rw [hg]
      simp only [List.cons_append, takeV, u8_toNat (show n % 128 + 128 < 256 by omega)]
      rw [if_pos (by omega), show (n % 128 + 128) % 128 = n % 128 by omega]
      have e1 : 2 ^ (7 * (k + 1)) = 2 ^ (7 * k) * 128 := by rw [Nat.mul_add, Nat.pow_add]
      have e2 : m + n % 128 * 2 ^ (7 * k) + n / 128 * 2 ^ (7 * (k + 1)) = m + n * 2 ^ (7 * k) := by
        rw [e1]
        have : n * 2 ^ (7 * k) = (n % 128 + 128 * (n / 128)) * 2 ^ (7 * k) := by rw [Nat.mod_add_div]
        rw [this, Nat.add_mul, Nat.mul_comm (2 ^ (7 * k)) 128, ← Nat.mul_assoc, Nat.mul_comm (n / 128) 128]; omega
      have ih := takeV_put f (n / 128) (k + 1) (m + n % 128 * 2 ^ (7 * k)) r (by rw [Nat.pow_succ] at h; exact Nat.div_lt_of_lt_mul (by rw [Nat.mul_comm]; exact h)) (by omega) (.inr (by omega)) (by omega)
      rw [show g = 9 - (k + 1) by omega, ih, e2]
      simp only [List.length_cons]
      congr 2; omega
theorem takeN_put {n : Nat} (h : n ≤ 4611686018427387904) (r : List UInt8) : takeN (putN n ++ r) = ((n : Int), (putN n).length, 0) := by
  have := takeV_put 9 n 0 0 r (Nat.lt_of_le_of_lt h (by decide)) (by omega) (.inl rfl) (by simpa using h)
  simpa [takeN, putN] using this
theorem takeT_put {s : List UInt8} (h : s.length ≤ 262144) (r : List UInt8) : takeT (textN s ++ r) = (s, (textN s).length, 0) := by
  have e : takeN (textN s ++ r) = ((s.length : Int), (putN s.length).length, 0) := by
    unfold textN; rw [List.append_assoc]; exact takeN_put (by omega) _
  unfold takeT
  rw [e]
  simp only [ne_eq, not_true, if_false]
  rw [if_neg (by omega), if_neg (by unfold textN; simp only [List.length_append]; omega)]
  simp only [Int.toNat_natCast]
  unfold textN
  rw [List.append_assoc, List.drop_left, List.take_left]
  simp

/-! ### edits -/
structure Tab where
  id : Int
  level : Int
  lo : ByteArray
  hi : ByteArray
structure Ed where
  add : List Tab
  drop : List Int
  log : Int
  next : Int
structure Sta where
  tabs : List Tab
  log : Int
  next : Int
theorem Tab.eq {a b : Tab} (h1 : a.id = b.id) (h2 : a.level = b.level) (h3 : a.lo = b.lo) (h4 : a.hi = b.hi) : a = b := by cases a; cases b; simp_all
def tabEq (a b : Tab) : Bool := decide (a.id = b.id) && decide (a.level = b.level) && decide (a.lo = b.lo) && decide (a.hi = b.hi)
theorem tabEq_iff {a b : Tab} : tabEq a b = true ↔ a = b := by
  unfold tabEq
  simp only [Bool.and_eq_true, decide_eq_true_eq]
  exact ⟨fun ⟨⟨⟨h1, h2⟩, h3⟩, h4⟩ => Tab.eq h1 h2 h3 h4, fun h => by subst h; simp⟩
def keyOk (s : ByteArray) : Bool := decide (1 ≤ s.size) && decide (s.size ≤ 64)
def tabOk (t : Tab) : Bool := decide (1 ≤ t.id) && decide (t.id ≤ 1073741824) && decide (0 ≤ t.level) && decide (t.level ≤ 2) && keyOk t.lo && keyOk t.hi && !blt t.hi t.lo
def numOk (n : Int) : Bool := decide (1 ≤ n) && decide (n ≤ 1073741824)
def mayE (e : Ed) : Bool := decide (e.add.length ≤ 128) && decide (e.drop.length ≤ 128) && e.add.all tabOk && e.drop.all numOk && (decide (0 ≤ e.log) && decide (e.log ≤ 1073741824)) && (decide (0 ≤ e.next) && decide (e.next ≤ 1073741824))
def tabB (t : Tab) : List UInt8 := putN t.id.toNat ++ putN t.level.toNat ++ textN t.lo.data.toList ++ textN t.hi.data.toList
def numB (n : Int) : List UInt8 := putN n.toNat
def putE (e : Ed) : List UInt8 := putN e.add.length ++ e.add.flatMap tabB ++ putN e.drop.length ++ e.drop.flatMap numB ++ putN e.log.toNat ++ putN e.next.toNat

/-- what is left to be read, and whether all was as it must be -/
abbrev Rd := Bool × List UInt8
def numR (s : Rd) : Int × Rd := ((takeN s.2).1, s.1 && decide ((takeN s.2).2.2 = 0), s.2.drop (takeN s.2).2.1)
def txtR (s : Rd) : List UInt8 × Rd := ((takeT s.2).1, s.1 && decide ((takeT s.2).2.2 = 0), s.2.drop (takeT s.2).2.1)
def tabR (s : Rd) : Tab × Rd :=
  let a := numR s
  let b := numR a.2
  let c := txtR b.2
  let d := txtR c.2
  (⟨a.1, b.1, strOf c.1, strOf d.1⟩, d.2)
def rdL {α : Type} (one : Rd → α × Rd) : Nat → Rd → List α → List α × Rd
  | 0, s, l => (l, s)
  | k + 1, s, l => if s.1 = true then rdL one k (one s).2 (l ++ [(one s).1]) else (l, s)
/-- many of them: 'n' at most -/
def manyR {α : Type} (one : Rd → α × Rd) (n : Nat) (s : Rd) : List α × Rd := rdL one n s []

/-- the program's -/
def takeP (l : List UInt8) : Option Ed :=
  let a := numR (true, l)
  let b := manyR tabR a.1.toNat (a.2.1 && decide (a.1 ≤ 128), a.2.2)
  let c := numR b.2
  let d := manyR numR c.1.toNat (c.2.1 && decide (c.1 ≤ 128), c.2.2)
  let e := numR d.2
  let f := numR e.2
  if f.2.1 = true ∧ f.2.2 = [] ∧ mayE ⟨b.1, d.1, e.1, f.1⟩ = true then some ⟨b.1, d.1, e.1, f.1⟩ else none
/-- the document's -/
def takeR (l : List UInt8) : Option Ed :=
  let a := numR (true, l)
  let b := manyR tabR (min a.1.toNat 129) a.2
  let c := numR b.2
  let d := manyR numR (min c.1.toNat 129) c.2
  let e := numR d.2
  let f := numR e.2
  if f.2.1 = true ∧ f.2.2 = [] ∧ (b.1.length : Int) = a.1 ∧ (d.1.length : Int) = c.1 ∧ mayE ⟨b.1, d.1, e.1, f.1⟩ = true then some ⟨b.1, d.1, e.1, f.1⟩ else none

theorem numR_num (s : Rd) : 0 ≤ (numR s).1 ∧ (numR s).1 ≤ 4611686018427387904 := ⟨(takeN_num s.2).1, (takeN_num s.2).2.1⟩
theorem numR_bad {s : Rd} (h : s.1 = false) : (numR s).2.1 = false := by simp [numR, h]
theorem txtR_bad {s : Rd} (h : s.1 = false) : (txtR s).2.1 = false := by simp [txtR, h]
theorem tabR_bad {s : Rd} (h : s.1 = false) : (tabR s).2.1 = false := by
  unfold tabR; exact txtR_bad (txtR_bad (numR_bad (numR_bad h)))
theorem rdL_bad {α : Type} (one : Rd → α × Rd) (k : Nat) {s : Rd} {l : List α} (h : s.1 = false) : rdL one k s l = (l, s) := by cases k <;> simp [rdL, h]
theorem rdL_len {α : Type} (one : Rd → α × Rd) : ∀ (k : Nat) (s : Rd) (l : List α), (rdL one k s l).2.1 = true → (rdL one k s l).1.length = l.length + k
  | 0, s, l, _ => by simp [rdL]
  | k + 1, s, l, h => by
    unfold rdL at h ⊢
    split
    · rename_i h1
      rw [if_pos h1] at h
      have := rdL_len one k _ _ h
      rw [this]; simp; omega
    · rename_i h1
      rw [if_neg h1] at h
      exact absurd h h1
theorem manyR_bad {α : Type} (one : Rd → α × Rd) (k : Nat) {s : Rd} (h : s.1 = false) : manyR one k s = ([], s) := rdL_bad one k h
theorem manyR_len {α : Type} (one : Rd → α × Rd) (k : Nat) (s : Rd) (h : (manyR one k s).2.1 = true) : (manyR one k s).1.length = k := by
  have := rdL_len one k s [] h
  simpa [manyR] using this
theorem mayE_add {e : Ed} (h : mayE e = true) : e.add.length ≤ 128 ∧ e.drop.length ≤ 128 := by
  unfold mayE at h
  simp only [Bool.and_eq_true, decide_eq_true_eq] at h
  exact ⟨h.1.1.1.1.1, h.1.1.1.1.2⟩
theorem takeP_eq (l : List UInt8) : takeP l = takeR l := by
  have key : ∀ {α : Type} (one : Rd → α × Rd) (a : Int × Rd), 0 ≤ a.1 → (∀ s : Rd, s.1 = false → (one s).2.1 = false) →
      (manyR one a.1.toNat (a.2.1 && decide (a.1 ≤ 128), a.2.2) = manyR one (min a.1.toNat 129) a.2 ∧ ((manyR one (min a.1.toNat 129) a.2).2.1 = true → ((manyR one (min a.1.toNat 129) a.2).1.length : Int) = a.1)) ∨
      ((manyR one a.1.toNat (a.2.1 && decide (a.1 ≤ 128), a.2.2)).2.1 = false ∧ ((manyR one (min a.1.toNat 129) a.2).2.1 = true → (manyR one (min a.1.toNat 129) a.2).1.length = 129)) := by
    intro α one a h0 hb
    by_cases h1 : a.1 ≤ 128
    · refine .inl ⟨?_, fun h => ?_⟩
      · rw [show min a.1.toNat 129 = a.1.toNat by omega]; simp [h1]
      · rw [manyR_len one _ _ h]; omega
    · refine .inr ⟨?_, fun h => ?_⟩
      · rw [manyR_bad one _ (by simp [h1])]; simp [h1]
      · rw [manyR_len one _ _ h]; omega
  have d_bad : ∀ {α : Type} (one : Rd → α × Rd) (c : Int × Rd) (k : Nat) (b : Bool), c.2.1 = false → (manyR one k (c.2.1 && b, c.2.2)).2.1 = false := by
    intro α one c k b h
    rw [manyR_bad one _ (by simp [h])]; simp [h]
  have d_bad' : ∀ {α : Type} (one : Rd → α × Rd) (c : Int × Rd) (k : Nat), c.2.1 = false → (manyR one k c.2).2.1 = false := by
    intro α one c k h
    rw [manyR_bad one _ h]; exact h
  unfold takeP takeR
  simp only []
  have ha := numR_num (true, l)
  generalize numR (true, l) = a at ha ⊢
  rcases key tabR a ha.1 (fun s => tabR_bad) with ⟨e1, l1⟩ | ⟨e1, l1⟩
  · rw [e1]
    generalize manyR tabR (min a.1.toNat 129) a.2 = b at l1 ⊢
    have hc := numR_num b.2
    have hbc : b.2.1 = false → (numR b.2).2.1 = false := numR_bad
    generalize numR b.2 = c at hc hbc ⊢
    rcases key numR c hc.1 (fun s => numR_bad) with ⟨e2, l2⟩ | ⟨e2, l2⟩
    · rw [e2]
      have hcd := d_bad' numR c (min c.1.toNat 129)
      generalize manyR numR (min c.1.toNat 129) c.2 = d at l2 hcd ⊢
      by_cases hf : (numR (numR d.2).2).2.1 = true
      · have hd : d.2.1 = true := by
          cases h : d.2.1 with
          | true => rfl
          | false => rw [numR_bad (numR_bad h)] at hf; cases hf
        have hb : b.2.1 = true := by
          cases h : b.2.1 with
          | true => rfl
          | false => rw [hcd (hbc h)] at hd; cases hd
        simp only [l1 hb, l2 hd, true_and]
      · rw [if_neg (fun h => hf h.1), if_neg (fun h => hf h.1)]
    · have hP : (numR (numR (manyR numR c.1.toNat (c.2.1 && decide (c.1 ≤ 128), c.2.2)).2).2).2.1 = false := numR_bad (numR_bad e2)
      rw [if_neg (by rw [hP]; simp)]
      rw [if_neg]
      rintro ⟨h1, _, _, _, h5⟩
      have hd : (manyR numR (min c.1.toNat 129) c.2).2.1 = true := by
        cases h : (manyR numR (min c.1.toNat 129) c.2).2.1 with
        | true => rfl
        | false => rw [numR_bad (numR_bad h)] at h1; cases h1
      have h6 := (mayE_add h5).2
      rw [l2 hd] at h6
      omega
  · have hP : (numR (numR (manyR numR (numR (manyR tabR a.1.toNat (a.2.1 && decide (a.1 ≤ 128), a.2.2)).2).1.toNat ((numR (manyR tabR a.1.toNat (a.2.1 && decide (a.1 ≤ 128), a.2.2)).2).2.1 && decide ((numR (manyR tabR a.1.toNat (a.2.1 && decide (a.1 ≤ 128), a.2.2)).2).1 ≤ 128), (numR (manyR tabR a.1.toNat (a.2.1 && decide (a.1 ≤ 128), a.2.2)).2).2.2)).2).2).2.1 = false :=
      numR_bad (numR_bad (d_bad _ _ _ _ (numR_bad e1)))
    rw [if_neg (by rw [hP]; simp)]
    rw [if_neg]
    rintro ⟨h1, _, _, _, h5⟩
    have hb : (manyR tabR (min a.1.toNat 129) a.2).2.1 = true := by
      cases h : (manyR tabR (min a.1.toNat 129) a.2).2.1 with
      | true => rfl
      | false => rw [numR_bad (numR_bad (d_bad' _ _ _ (numR_bad h)))] at h1; cases h1
    have h6 := (mayE_add h5).1
    rw [l1 hb] at h6
    omega

/-! ### there and back -/
theorem numR_put {n : Nat} (h : n ≤ 4611686018427387904) (r : List UInt8) : numR (true, putN n ++ r) = ((n : Int), true, r) := by
  unfold numR; simp [takeN_put h]
theorem txtR_put {s : List UInt8} (h : s.length ≤ 262144) (r : List UInt8) : txtR (true, textN s ++ r) = (s, true, r) := by
  unfold txtR; simp [takeT_put h]
theorem tabR_put {t : Tab} (h : tabOk t = true) (r : List UInt8) : tabR (true, tabB t ++ r) = (t, true, r) := by
  unfold tabOk keyOk at h
  simp only [Bool.and_eq_true, decide_eq_true_eq] at h
  obtain ⟨⟨⟨⟨⟨⟨h1, h2⟩, h3⟩, h4⟩, h5⟩, h6⟩, h7⟩ := h
  have hl : t.lo.data.toList.length ≤ 262144 := by simp; omega
  have hh : t.hi.data.toList.length ≤ 262144 := by simp; omega
  unfold tabR tabB
  simp only [List.append_assoc]
  rw [numR_put (by omega)]
  simp only []
  rw [numR_put (by omega)]
  simp only []
  rw [txtR_put hl]
  simp only []
  rw [txtR_put hh]
  simp only [strOf_data]
  congr 1
  exact Tab.eq (by simp; omega) (by simp; omega) rfl rfl
theorem numR_put' {n : Int} (h : numOk n = true) (r : List UInt8) : numR (true, numB n ++ r) = (n, true, r) := by
  unfold numOk at h
  simp only [Bool.and_eq_true, decide_eq_true_eq] at h
  unfold numB
  rw [numR_put (by omega)]
  congr 1; omega
theorem rdL_put {α : Type} {one : Rd → α × Rd} {enc : α → List UInt8} {ok : α → Bool} (h1 : ∀ a, ok a = true → ∀ r, one (true, enc a ++ r) = (a, true, r)) : ∀ (l : List α) (acc : List α) (r : List UInt8), l.all ok = true →
    rdL one l.length (true, l.flatMap enc ++ r) acc = (acc ++ l, true, r)
  | [], acc, r, _ => by simp [rdL]
  | a :: l, acc, r, h => by
    simp only [List.all_cons, Bool.and_eq_true] at h
    simp only [List.length_cons, List.flatMap_cons, List.append_assoc, rdL, if_true]
    rw [h1 a h.1]
    simp only []
    rw [rdL_put h1 l _ r h.2]
    simp
theorem manyR_put {α : Type} {one : Rd → α × Rd} {enc : α → List UInt8} {ok : α → Bool} (h1 : ∀ a, ok a = true → ∀ r, one (true, enc a ++ r) = (a, true, r)) {l : List α} (r : List UInt8) (h : l.all ok = true) :
    manyR one l.length (true, l.flatMap enc ++ r) = (l, true, r) := by
  unfold manyR; rw [rdL_put h1 l [] r h]; simp
theorem take_put {e : Ed} (h : mayE e = true) : takeP (putE e) = some e := by
  have h0 := h
  unfold mayE at h
  simp only [Bool.and_eq_true, decide_eq_true_eq] at h
  obtain ⟨⟨⟨⟨⟨h1, h2⟩, h3⟩, h4⟩, h5, h6⟩, h7, h8⟩ := h
  unfold takeP putE
  simp only [List.append_assoc]
  rw [numR_put (by omega)]
  have ea : decide ((e.add.length : Int) ≤ 128) = true := by simp; omega
  have ed : decide ((e.drop.length : Int) ≤ 128) = true := by simp; omega
  simp only [ea, ed, Bool.and_self, Int.toNat_natCast]
  rw [manyR_put (fun a ha r => tabR_put ha r) _ h3]
  simp only []
  rw [numR_put (by omega)]
  simp only [ea, ed, Bool.and_self, Int.toNat_natCast]
  rw [manyR_put (fun a ha r => numR_put' ha r) _ h4]
  simp only []
  rw [numR_put (by omega)]
  simp only []
  rw [show putN e.next.toNat = putN e.next.toNat ++ [] by simp, numR_put (by omega)]
  simp only [Int.toNat_of_nonneg h5, Int.toNat_of_nonneg h7]
  rw [if_pos ⟨trivial, trivial, h0⟩]
end Go.Proofs.Ytiefmfimbmkdjaa

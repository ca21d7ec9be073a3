/-
  Symbolic execution: slices that the code owns (made, grown by append, written), slice literals, parts of slices and of texts.
  No condition; plain lemmas.
-/
import Derived.Test.YtiefmfimbmkdjaaSxMore
import Derived.Great.BuildSlice
namespace Go.Proofs.Ytiefmfimbmkdjaa
set_option linter.unusedSimpArgs false
set_option linter.unusedVariables false
set_option linter.unusedSectionVars false
open Go.RowKit
variable [Obs]

def Hp.one (b : Nat) (o : Obj) : Hp := fun k => if k = b then some o else none
omit [Obs] in
theorem Hp.one_self (b : Nat) (o : Obj) : Hp.one b o b = some o := by simp [Hp.one]
omit [Obs] in
theorem Hp.one_some {b k : Nat} {o x : Obj} (h : Hp.one b o k = some x) : k = b ∧ x = o := by
  unfold Hp.one at h
  split at h
  · rename_i e; cases h; exact ⟨e, rfl⟩
  · cases h

/-- a chunk is let go, a new block bears another one -/
theorem St.fresh {F : Hp} {R : List HProp} {w : World} {c c' : HProp} (s : St F (c :: R) w) (o : Obj) (h : c' (Hp.one w.heap.size o)) : St F (c' :: R) (w.drew.alloc o) := by
  refine (s.heapEq (w' := w.drew) rfl).upd .here fun h1 _ _ => ⟨Hp.one w.heap.size o, h, ?_, ?_, ?_⟩
  · intro k x e
    obtain ⟨rfl, rfl⟩ := Hp.one_some e
    exact heap_alloc_new w.drew _
  · intro k x e
    obtain ⟨rfl, rfl⟩ := Hp.one_some e
    exact .inr (Nat.le_refl _)
  · intro k x _ e
    rw [heap_alloc_old w.drew o (Array.getElem?_eq_some_iff.1 e).1]; exact e

/-- a row that the code owns: 'n' elements of 'k' cells, room for 'cap' -/
def OwnR (E k : Nat) (p : Option Addr) (n cap : Nat) (xs : List Value) : HProp := fun h => xs.length = n * k ∧
  ((p = none ∧ n = 0 ∧ cap = 0) ∨ ∃ b cur, p = some ⟨b, 0, none⟩ ∧ h b = some (.cells cur E (0, 0)) ∧ n ≤ cap ∧ cap ≤ maxLen ∧ cur.size = cap * k ∧ cur.toList.take (n * k) = xs)
/-- .. of the elements 'l' -/
def Own {α : Type} (E k : Nat) (enc : α → List Value) (p : Option Addr) (cap : Nat) (l : List α) : HProp := OwnR E k p l.length cap (l.flatMap enc)

omit [Obs] in
theorem OwnR.nil (E k : Nat) (h : Hp) : OwnR E k none 0 0 [] h := ⟨by simp, .inl ⟨rfl, rfl, rfl⟩⟩
omit [Obs] in
theorem Own.nil {α : Type} (E k : Nat) (enc : α → List Value) (h : Hp) : Own E k enc none 0 [] h := OwnR.nil E k h
omit [Obs] in
theorem OwnR.cells {E k : Nat} {p : Option Addr} {n cap : Nat} {xs : List Value} {h : Hp} (o : OwnR E k p n cap xs h) : xs = [] ∨ ∃ b, p = some ⟨b, 0, none⟩ ∧ Cells h b 0 xs := by
  obtain ⟨hl, ⟨_, rfl, _⟩ | ⟨b, cur, rfl, hb, _, _, _, ht⟩⟩ := o
  · exact .inl (List.eq_nil_of_length_eq_zero (by simpa using hl))
  · refine .inr ⟨b, rfl, cur, E, (0, 0), hb, fun j u e => ?_⟩
    rw [← ht, List.getElem?_take] at e
    split at e
    · simpa using e
    · cases e
omit [Obs] in
theorem Own.slIn {α : Type} {E k : Nat} {enc : α → List Value} {p : Option Addr} {cap : Nat} {l : List α} (h0 : 0 < k) (hk : ∀ x, (enc x).length = k) {h : Hp} (o : Own E k enc p cap l h) : SlIn h enc k p l := by
  rcases OwnR.cells o with e | ⟨b, hp, hc⟩
  · refine .inl ?_
    cases l with
    | nil => rfl
    | cons x r =>
      simp only [List.flatMap_cons, List.append_eq_nil_iff] at e
      have := hk x
      rw [e.1] at this
      simp only [List.length_nil] at this
      omega
  · exact .inr ⟨b, 0, hp, hc, fun x _ => hk x⟩
omit [Obs] in
theorem Own.up {α : Type} {E k : Nat} {enc : α → List Value} {p : Option Addr} {cap : Nat} {l : List α} {F F' : Hp} {H R : List HProp} (u : Up F H F') (pk : Pick (Own E k enc p cap l) H R) (h0 : 0 < k) (hk : ∀ x, (enc x).length = k) : SlIn F' enc k p l := by
  obtain ⟨h, hc, hl⟩ := u.chunk pk
  exact SlIn.mono _ _ _ _ _ _ hl (hc.slIn h0 hk)

/-! ### append -/
def byOf (P : Program) (T : TypeId) : Option Nat := (P.info? T).map (·.bytes)
omit [Obs] in
theorem zeroCells_len (z : Array Value) (n : Nat) : (Builtin.zeroCells z n).size = n * z.size := size_zeroCells z n

theorem St.append {P : Program} {F : Hp} {H R : List HProp} {w : World} {E k by_ : Nat} {p : Option Addr} {n cap : Nat} {xs : List Value} {T ty : TypeId} (s : St F H w) (pk : Pick (OwnR E k p n cap xs) H R)
    (he : slEl P T = some E) (hk : szOf P E = some k) (hb : byOf P E = some by_) {zs : List Value} (hz : zc P E = some zs) (hzl : zs.length = k) (h0 : 0 < k)
    {b2 o2 m c2 : Nat} {news : List Value} (hs : Sees F H fun f => Cells f b2 o2 news) (hl : news.length = m * k) (h1 : ones news = true) (hm : 0 < m) (hbound : (n + m) * by_ ≤ 140737488355328) (h63 : n + m ≤ maxLen) :
    ∃ p' cap' w', (Builtin.append_ #[T, T] ty #[.slice p n cap, .slice (some ⟨b2, o2, none⟩) m c2]).run P w = .ok (.slice p' (n + m) cap') w' ∧ St F (OwnR E k p' (n + m) cap' (xs ++ news) :: R) w' := by
  have hnews : ∀ j u, news[j]? = some u → w.cell? ((⟨b2, o2, none⟩ : Addr).add j) = some u := fun j u e => by rw [addr_add]; exact (hs w s).cell e
  have hsmall : n + m ≤ 9223372036854775807 := by simp only [maxLen] at h63; omega
  have s' : St F (OwnR E k p n cap xs :: R) w := s.imp fun _ => pk.stars
  obtain ⟨hp, hc, hle⟩ := s'.chunk .here
  obtain ⟨i, hi, hik⟩ : ∃ i, P.info? E = some i ∧ i.size = k := by
    unfold szOf at hk
    cases hi : P.info? E with
    | none => rw [hi] at hk; cases hk
    | some i => rw [hi] at hk; simp only [Option.map_some, Option.some.injEq] at hk; exact ⟨i, rfl, hk⟩
  have hiby : i.bytes = by_ := by unfold byOf at hb; rw [hi] at hb; simpa using hb
  obtain ⟨z, hzz, hzc⟩ : ∃ z, i.zero = some z ∧ z.cells.size = k := by
    unfold zc at hz
    rw [hi] at hz
    simp only [Option.bind_some] at hz
    cases hzz : i.zero with
    | none => rw [hzz] at hz; cases hz
    | some z => rw [hzz] at hz; simp only [Option.map_some, Option.some.injEq] at hz; exact ⟨z, rfl, by rw [← hzl, ← hz]; simp⟩
  have ht := slEl_eq he
  subst hik
  subst hiby
  obtain ⟨hxl, hcase⟩ := hc
  have hlen : (xs ++ news).length = (n + m) * i.size := by rw [List.length_append, hxl, hl, Nat.add_mul]
  -- a new row
  have grown : ∀ (old : Nat), old < n + m → OwnR E i.size (some ⟨w.heap.size, 0, none⟩) (n + m) (grownCap w (n + m) old E) (xs ++ news)
      (Hp.one w.heap.size (.cells (xs.toArray ++ news.toArray ++ Builtin.zeroCells z.cells (grownCap w (n + m) old E - (n + m))) E)) := by
    intro old ho
    have hge := grownCap_ge w (n + m) old E
    have hcm : grownCap w (n + m) old E ≤ maxLen := grownCap_le_maxLen w (n + m) old E h63
    refine ⟨hlen, .inr ⟨w.heap.size, _, rfl, Hp.one_self _ _, hge, hcm, ?_, ?_⟩⟩
    · simp only [Array.size_append, List.size_toArray, size_zeroCells, hzc, hxl, hl, ← Nat.add_mul]
      congr 1
      omega
    · simp only [Array.toList_append, List.append_assoc]
      rw [← List.append_assoc, ← hlen]
      exact List.take_left
  rcases hcase with ⟨rfl, rfl, rfl⟩ | ⟨b, cur, rfl, hbb, hnc, hcm, hcs, htk⟩
  · have hx : xs = [] := List.eq_nil_of_length_eq_zero (by simpa using hxl)
    subst hx
    have hr := run_append_nil (P := P) w T ty E i z ht hi hzz ⟨b2, o2, none⟩ m c2 news hl hnews hm (by omega) (by simp only [Nat.zero_add] at hbound; omega)
    have g := grown 0 (by omega)
    simp only [Nat.zero_add, List.nil_append, Array.empty_append] at g ⊢
    exact ⟨_, _, _, hr, s'.fresh _ g⟩
  · have hw : w.heap[b]? = some (.cells cur E (0, 0)) := hle _ _ hbb
    by_cases hroom : n + m ≤ cap
    · have hfit : n * i.size + news.length ≤ cur.size := by rw [hl, hcs, ← Nat.add_mul]; exact Nat.mul_le_mul_right _ hroom
      have hr := run_append_room (P := P) w T ty E i ht hi b n cap cur hw ⟨b2, o2, none⟩ m c2 news hl hnews (ones_all h1) hroom hfit
      refine ⟨_, _, _, hr, ?_⟩
      refine s'.upd .here fun f hf _ => ?_
      obtain ⟨_, hcase⟩ := hf
      rcases hcase with ⟨e, _⟩ | ⟨b', cur', e, hbb', _⟩
      · cases e
      · obtain rfl : b' = b := by simpa using e.symm
        clear e
        refine ⟨Hp.one b' (.cells (cur.toList.take (n * i.size) ++ news ++ cur.toList.drop (n * i.size + news.length)).toArray E (0, 0)), ⟨hlen, .inr ⟨b', _, rfl, Hp.one_self _ _, hroom, hcm, ?_, ?_⟩⟩, ?_, ?_, ?_⟩
        · simp only [List.size_toArray, List.length_append, List.length_take, List.length_drop, Array.length_toList]; omega
        · simp only []
          rw [htk, ← hlen]
          exact List.take_left
        · intro k' x e
          obtain ⟨rfl, rfl⟩ := Hp.one_some e
          exact setRow_heap w _ cur _ E _ hw
        · intro k' x e
          obtain ⟨rfl, rfl⟩ := Hp.one_some e
          exact .inl ⟨_, hbb'⟩
        · intro k' x e1 e2
          have : k' ≠ b' := by rintro rfl; rw [hbb'] at e1; cases e1
          rw [setRow_other w b' k' _ this]; exact e2
    · have holds : ∀ j u, xs[j]? = some u → w.cell? ((⟨b, 0, none⟩ : Addr).add j) = some u := fun j u e => by
        rw [addr_add, Nat.zero_add]
        rw [← htk, List.getElem?_take] at e
        split at e
        · simp [World.cell?, hw]; simpa using e
        · cases e
      have hr := run_append_grow (P := P) w T ty E i z ht hi hzz ⟨b, 0, none⟩ n cap xs hxl holds ⟨b2, o2, none⟩ m c2 news hl hnews (by omega) (by omega) (growslice_fits (by omega) hbound)
      exact ⟨_, _, _, hr, s'.fresh _ (grown cap (by omega))⟩

section
variable {q : Md} {P : Program} {F : Hp} {n : Nat} {Q : Post} {σ : Sl} {H R : List HProp} {ops : Array Oper} {rest : List Oper}
variable {d : Nat} {ty : TypeId} {pos : String} {after : Array Edge} {T U : TypeId} {x y : Operand}

/-- an owned row comes out of nothing -/
theorem Tr.own0 {α : Type} {c : Code} (E k : Nat) (enc : α → List Value) (h : Tr P F n c Q σ (Own E k enc none 0 [] :: H)) : Tr P F n c Q σ H := fun a w f s =>
  h a w f (s.imp fun g hg => ⟨Hp.emp, g, Hp.emp_dj _, Hp.emp_le _, Hp.le.refl _, Own.nil E k enc _, hg⟩)
theorem TrL.own0 {α : Type} {l : List Oper} (E k : Nat) (enc : α → List Value) (h : TrL .eff P F n ops Q l σ (Own E k enc none 0 [] :: H)) : TrL .eff P F n ops Q l σ H := fun a w f s =>
  h a w f (s.imp fun g hg => ⟨Hp.emp, g, Hp.emp_dj _, Hp.emp_le _, Hp.le.refl _, Own.nil E k enc _, hg⟩)

theorem TrL.appendR {xs : Array Operand} {E k by_ : Nat} {p : Option Addr} {m0 cap : Nat} {olds : List Value} {b2 o2 m c2 : Nat} {news zs : List Value} (hd : Nat.ble (d + 1) n = true)
    (hx : evs σ xs.toList = some [.slice p m0 cap, .slice (some ⟨b2, o2, none⟩) m c2]) (he : slEl P T = some E) (hk : szOf P E = some k) (hb : byOf P E = some by_) (hz : zc P E = some zs) (hzl : zs.length = k) (h0 : 0 < k)
    (pk : Pick (OwnR E k p m0 cap olds) H R) (hs : Sees F H fun f => Cells f b2 o2 news) (hl : news.length = m * k) (h1 : ones news = true) (hm : 0 < m) (hbound : (m0 + m) * by_ ≤ 140737488355328) (h63 : m0 + m ≤ maxLen)
    (h : ∀ p' cap', TrL .eff P F n ops Q rest ((d, .slice p' (m0 + m) cap') :: σ) (OwnR E k p' (m0 + m) cap' (olds ++ news) :: R)) :
    TrL .eff P F n ops Q (⟨some d, .call ⟨.builtin .append, xs, #[T, T]⟩, ty, pos, after, none⟩ :: rest) σ H :=
  TrL.op hd fun a w f s => by
    have e1 : xs.map a.eval = #[.slice p m0 cap, .slice (some ⟨b2, o2, none⟩) m c2] := by apply Array.ext'; simpa using f.evals hx
    obtain ⟨p', cap', w', hr, s'⟩ := s.append (P := P) (ty := ty) (c2 := c2) pk he hk hb hz hzl h0 hs hl h1 hm hbound h63
    refine ⟨_, w', _, ?_, s', h p' cap'⟩
    rw [BigFrame.execOp_builtin, e1]
    simp [BigFrame.builtin_append, hr]

/-- one element behind the others; what is appended lies in a block of its own, which is let go -/
theorem TrL.append1 {α : Type} {enc : α → List Value} {xs : Array Operand} {E k by_ : Nat} {p : Option Addr} {m0 cap : Nat} {l : List α} {v : α} {b2 c2 : Nat} {zs cs : List Value} {R2 : List HProp} (hd : Nat.ble (d + 1) n = true)
    (hx : evs σ xs.toList = some [.slice p m0 cap, .slice (some ⟨b2, 0, none⟩) 1 c2]) (he : slEl P T = some E) (hk : szOf P E = some k) (hb : byOf P E = some by_) (hz : zc P E = some zs) (hzl : zs.length = k) (h0 : 0 < k)
    (p2 : Pick (cl b2 cs E) H R2) (pk : Pick (Own E k enc p cap l) H R) (hv : cs = enc v) (hl : (enc v).length = k) (h1 : ones (enc v) = true) (hm0 : m0 = l.length) (hby : 0 < by_) (hbound : (l.length + 1) * by_ ≤ 140737488355328)
    (h : ∀ p' cap', TrL .eff P F n ops Q rest ((d, .slice p' (l ++ [v]).length cap') :: σ) (Own E k enc p' cap' (l ++ [v]) :: R)) :
    TrL .eff P F n ops Q (⟨some d, .call ⟨.builtin .append, xs, #[T, T]⟩, ty, pos, after, none⟩ :: rest) σ H := by
  subst hv hm0
  have hs : Sees F H fun f => Cells f b2 0 (enc v) := Sees.clA p2 (k := (enc v).length) (by
    unfold cutv
    simp only [dpv]
    have : ∀ (l : List Value), tkv l l.length = some l := by
      intro l
      induction l with
      | nil => rfl
      | cons a l ih => simp [tkv, ih]
    exact this _)
  have h63 : l.length + 1 ≤ maxLen := by
    have : l.length + 1 ≤ (l.length + 1) * by_ := Nat.le_mul_of_pos_right _ hby
    simp only [maxLen]; omega
  · refine TrL.appendR hd hx he hk hb hz hzl h0 (olds := l.flatMap enc) pk hs (by simpa using hl) h1 (by omega) hbound h63 fun p' cap' => ?_
    have h2 := h p' cap'
    have e1 : (l ++ [v]).length = l.length + 1 := by simp
    have e2 : Own E k enc p' cap' (l ++ [v]) = OwnR E k p' (l.length + 1) cap' (l.flatMap enc ++ enc v) := by
      unfold Own; rw [e1]; simp
    rw [e2, e1] at h2
    exact h2
end
end Go.Proofs.Ytiefmfimbmkdjaa

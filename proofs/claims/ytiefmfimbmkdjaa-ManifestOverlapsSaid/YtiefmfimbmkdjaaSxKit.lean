/-
  How the kit's contracts (a row of the call's own, nothing that lay before has turned) are used in symbolic execution.
  No condition; plain lemmas.
-/
import Derived.Test.YtiefmfimbmkdjaaSxOpen
import Derived.Below
import Derived.Maps.Range
import Derived.Sort.KeysCollected
namespace Go.Proofs.Ytiefmfimbmkdjaa
set_option linter.unusedSimpArgs false
set_option linter.unusedVariables false
set_option linter.unusedSectionVars false
open Go.RowKit
variable [Obs]

omit [Obs] in
theorem hp_of_below {B : Nat} {w w' : World} (b : Below B w w') {k : Nat} {o : Obj} (hk : k < B) (h : w.heap[k]? = some o) : w'.heap[k]? = some o := by rw [b.block k hk]; exact h

theorem St.below {F : Hp} {H : List HProp} {w w' : World} (s : St F H w) (b : Below w.heap.size w w') : St F H w' := by
  obtain ⟨h, a, d, lF, lh, oo⟩ := s
  refine ⟨h, a, d, fun k o e => ?_, fun k o e => ?_, b.os.trans oo.1, b.output.trans oo.2⟩
  · exact hp_of_below b (hpOf_lt (lF k o e)) (lF k o e)
  · exact hp_of_below b (hpOf_lt (lh k o e)) (lh k o e)

/-- a new row beside what was -/
theorem St.newRow {F : Hp} {H : List HProp} {w w' : World} (s : St F H w) (b : Below w.heap.size w w') {base E k : Nat} (hb : w.heap.size ≤ base) {α : Type} {enc : α → List Value} {l : List α} {v : Value} {n : Nat} {xs : List Value}
    (hn : n = l.length) (hx : xs = l.flatMap enc) (r : w'.ownsRow base E k v n xs) : ∃ p cap, v = .slice p l.length cap ∧ St F (Own E k enc p cap l :: H) w' := by
  subst hn; subst hx
  obtain ⟨h1, ⟨rfl, h0⟩ | ⟨g, cap, cur, rfl, hg, hb2, r1, r2, r3, r4⟩⟩ := r
  · refine ⟨none, 0, by rw [h0], s.grow ⟨Hp.emp, ⟨h1, .inl ⟨rfl, h0, rfl⟩⟩, Hp.emp_le _, fun _ _ e => (nomatch e), fun k o e => ?_⟩ b.os b.output⟩
    exact hp_of_below b (Array.getElem?_eq_some_iff.1 e).1 e
  · refine ⟨_, cap, rfl, s.grow ⟨Hp.one g (.cells cur E (0, 0)), ⟨h1, .inr ⟨g, cur, rfl, Hp.one_self _ _, r1, r2, r3, r4⟩⟩, ?_, ?_, fun k o e => ?_⟩ b.os b.output⟩
    · intro k o e; obtain ⟨rfl, rfl⟩ := Hp.one_some e; exact hb2
    · intro k o e; obtain ⟨rfl, rfl⟩ := Hp.one_some e; omega
    · exact hp_of_below b (Array.getElem?_eq_some_iff.1 e).1 e

omit [Obs] in
theorem flatMap_single {α β : Type} (f : α → β) : ∀ l : List α, l.flatMap (fun x => [f x]) = l.map f
  | [] => rfl
  | a :: l => by simp [flatMap_single f l]
omit [Obs] in
theorem strOf_data (s : ByteArray) : strOf s.data.toList = s := by cases s; simp [strOf]

/-- how an element that is not looked at reads -/
abbrev anyR : Value → Option (DataW Unit × List MemPlace) := fun _ => some (.lit (.bool true), [])
omit [Obs] in
theorem mapC.owns {P : Program} {K : TypeId} (hk : isStr P K = true) {m : Nat} {kv : List (ByteArray × Value)} (hn : ∀ x ∈ kv, x.1.size ≤ maxLen) (hl : kv.length ≤ maxLen) {h : Hp} {w : World} (c : mapC Value.string m kv h) (le : Hp.le h (hpOf w)) :
    ∃ D0 : DataW Unit, w.ownsMap P K anyR m kv.length D0 ∧ (Go.strKeys D0).Perm (kv.map fun x => x.1.data.toList) ∧ Go.Maps.size D0 = kv.length := by
  obtain ⟨es, clock, hb, hr, hs⟩ := c
  have hlen : es.size = kv.length := by have := congrArg List.length hr; simpa using this
  have hrd : ∀ (es : List MapEntry) (kv : List (ByteArray × Value)), Reads Value.string es kv → (∀ x ∈ kv, x.1.size ≤ maxLen) → (∀ x ∈ es, ∃ y, Go.WideElems.rd (H := Unit) P K anyR x = some y) ∧
      es.map (Go.WideElems.rg (H := Unit) P K anyR) = kv.map fun x => (Lit.string x.1.data.toList, .lit (.bool true)) := by
    intro es
    induction es with
    | nil => intro kv hr _; cases kv with
      | nil => exact ⟨(by intro x h; cases h), rfl⟩
      | cons _ _ => simp [Reads] at hr
    | cons e es ih =>
      intro kv hr hn
      cases kv with
      | nil => simp [Reads] at hr
      | cons x kv =>
        simp only [Reads, List.map_cons, List.cons.injEq, Prod.mk.injEq] at hr
        obtain ⟨⟨h1, h2⟩, h3⟩ := hr
        obtain ⟨i1, i2⟩ := ih kv h3 (fun y hy => hn y (by simp [hy]))
        have hrd : Go.WideElems.rd (H := Unit) P K anyR e = some (Lit.string x.1.data.toList, .lit (.bool true)) := by
          unfold Go.WideElems.rd
          rw [h1, Go.WideMaps.keyOf_string_mk (isStr_eq hk) (hn x (by simp))]
          rfl
        refine ⟨fun y hy => ?_, ?_⟩
        · rcases List.mem_cons.1 hy with rfl | hy
          · exact ⟨_, hrd⟩
          · exact i1 y hy
        · simp only [List.map_cons, i2]
          unfold Go.WideElems.rg
          rw [hrd]
          rfl
  obtain ⟨r1, r2⟩ := hrd es.toList kv hr hn
  refine ⟨_, ⟨es, clock, le _ _ hb, ⟨by omega, hs, r1⟩, by omega, rfl⟩, ?_, ?_⟩
  · rw [r2]
    unfold Go.strKeys
    have := (Go.WideShapes.sorted_perm (kv.map fun x => (Lit.string x.1.data.toList, (DataW.lit (.bool true) : DataW Unit)))).map fun p => Go.strOf p.1
    refine this.trans ?_
    rw [List.map_map]
    exact List.Perm.refl _
  · show List.length _ = _
    rw [Go.length_sorted]
    simp [hlen]
end Go.Proofs.Ytiefmfimbmkdjaa

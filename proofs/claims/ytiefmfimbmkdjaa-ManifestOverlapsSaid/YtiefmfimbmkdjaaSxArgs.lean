/-
  What came in as an argument: slices of structs that hold slices, opened all the way down.
  No condition; plain lemmas.
-/
import Derived.Test.YtiefmfimbmkdjaaSxRow
import Derived.Lib.SmallJoins
namespace Go.Proofs.Ytiefmfimbmkdjaa
set_option linter.unusedSimpArgs false
set_option linter.unusedVariables false
set_option linter.unusedSectionVars false
open Go.RowKit Go.ChangeShapes Go.WideShapes Go.ChangeAt

section
variable {H : Type} {enc : TypeId × Value → H} {P : Program} {W : World}

/-- whatever reads as a value of type 'T' is the cells of some 'y' -/
def Opens (enc : TypeId × Value → H) (P : Program) (W : World) (T : TypeId) {α : Type} (f : α → List Value) (ok : α → Prop) : Prop := ∀ fuel cs x, DataW.trod enc P W 0 (fun _ => true) true fuel T cs = some x → ∃ y, cs = f y ∧ ok y

theorem opens_str {T : TypeId} (ht : P.underlying T = some .string) : Opens enc P W T encS (fun s => s.size ≤ maxLen) := fun fuel cs x h => by
  obtain ⟨s, rfl, _, hs⟩ := DataW.trod_string ht h
  exact ⟨s, rfl, hs⟩
theorem opens_int {T : TypeId} (ht : P.underlying T = some (.int .i64)) : Opens enc P W T encI (fun i => (Lit.int .i64 i).wf = true) := fun fuel cs x h => by
  obtain ⟨n, rfl, _, hs⟩ := DataW.trod_int ht h
  exact ⟨n, rfl, hs⟩
theorem opens_bool {T : TypeId} (ht : P.underlying T = some .bool) : Opens enc P W T (fun b => [Value.bool b]) (fun _ => True) := fun fuel cs x h => by
  obtain ⟨n, rfl, _⟩ := DataW.trod_bool ht h
  exact ⟨n, rfl, trivial⟩

theorem cells?_cells {a : Addr} {n : Nat} {cs : List Value} (h : W.cells? 0 a n = some cs) : cs.length = n ∧ ∀ i u, cs[i]? = some u → W.cell? (a.add i) = some u := by
  obtain ⟨_, h1, h2⟩ := World.cells?_some h
  refine ⟨h1, fun i u hi => ?_⟩
  rw [h2 i (by have := (List.getElem?_eq_some_iff.1 hi).1; omega), hi]

/-- a slice that came in: its list, and where it lies -/
structure SlV (α : Type) where
  p : Option Addr
  cap : Nat
  l : List α
def slV {α : Type} (s : SlV α) : Value := .slice s.p s.l.length s.cap
def SlOk {α : Type} (F : Hp) (f : α → List Value) (k : Nat) (ok : α → Prop) (s : SlV α) : Prop := SlIn F f k s.p s.l ∧ (∀ x ∈ s.l, ok x) ∧ s.l.length ≤ s.cap ∧ s.cap ≤ maxLen
theorem opens_slice {T E k : TypeId} {α : Type} {f : α → List Value} {ok : α → Prop} (ht : P.underlying T = some (.slice E)) (hk : P.cellsOf E = k) (h0 : 0 < k) (he : Opens enc P W E f ok) : Opens enc P W T (fun s => [slV s]) (SlOk (hpOf W) f k ok) := fun fuel cs x h => by
  subst hk
  rcases DataW.trod_slice ht h with ⟨rfl, _⟩ | ⟨a, len, cap, elems, rest, n, _, rfl, rfl, hb, hl, hm, hlen, hel, hsp, hns⟩
  · exact ⟨⟨none, 0, []⟩, rfl, .inl rfl, by simp, by simp, by show 0 ≤ maxLen; decide⟩
  · have each : ∀ i, i < len → ∃ y, W.cells? 0 (a.add (i * P.cellsOf E)) (P.cellsOf E) = some (f y) ∧ ok y := by
      intro i hi
      have h1 := hel i hi
      have h2 : elems[i]? = some elems[i] := List.getElem?_eq_getElem (by omega)
      rw [h2, Option.bind_eq_some_iff] at h1
      obtain ⟨cs, hc, ht⟩ := h1
      obtain ⟨y, rfl, hy⟩ := he _ _ _ ht
      exact ⟨y, hc, hy⟩
    have all : ∀ m, m ≤ len → ∃ l : List α, l.length = m ∧ (∀ x ∈ l, ok x) ∧ ∀ i x, l[i]? = some x → W.cells? 0 (a.add (i * P.cellsOf E)) (P.cellsOf E) = some (f x) := by
      intro m
      induction m with
      | zero => exact fun _ => ⟨[], rfl, by simp, by simp⟩
      | succ m ih =>
        intro hm
        obtain ⟨l, h1, h2, h3⟩ := ih (by omega)
        obtain ⟨y, h4, h5⟩ := each m (by omega)
        refine ⟨l ++ [y], by simp [h1], ?_, ?_⟩
        · intro x hx
          rcases List.mem_append.1 hx with hx | hx
          · exact h2 x hx
          · simp at hx; subst hx; exact h5
        · intro i x hi
          rw [List.getElem?_append] at hi
          split at hi
          · exact h3 i x hi
          · rename_i hge
            have : i = m := by
              have := (List.getElem?_eq_some_iff.1 hi).1
              simp at this; omega
            subst this
            rw [h1] at hi
            simp at hi; subst hi; exact h4
    obtain ⟨l, h1, h2, h3⟩ := all len (Nat.le_refl _)
    subst h1
    refine ⟨⟨some a, cap, l⟩, rfl, ?_, h2, hl, hm⟩
    have hlens : ∀ x ∈ l, (f x).length = P.cellsOf E := by
      intro x hx
      obtain ⟨i, hi⟩ := List.mem_iff_getElem?.1 hx
      exact (cells?_cells (h3 i x hi)).1
    by_cases hn : l = []
    · exact .inl hn
    · obtain ⟨x0, hx0⟩ : ∃ x0, l[0]? = some x0 := by
        cases l with
        | nil => exact (hn rfl).elim
        | cons x _ => exact ⟨x, rfl⟩
      have hx0k := hlens x0 (List.mem_of_getElem? hx0)
      obtain ⟨u0, hu0⟩ : ∃ u0, (f x0)[0]? = some u0 := by
        cases hf : f x0 with
        | nil => rw [hf] at hx0k; exact absurd h0 (by rw [← hx0k]; simp)
        | cons u _ => exact ⟨u, rfl⟩
      have c0 := (cells?_cells (h3 0 x0 hx0)).2 0 u0 hu0
      obtain ⟨b, o, sp⟩ := a
      have hsp : sp = none := by
        cases sp with
        | none => rfl
        | some z =>
          simp only [Addr.add, Nat.zero_mul] at c0
          unfold World.cell? at c0
          split at c0
          · simp at c0
          · cases c0
      subst hsp
      have hblk : ∃ c T fr, W.heap[b]? = some (.cells c T fr) := by
        simp only [Nat.zero_mul, addr_add] at c0
        unfold World.cell? at c0
        split at c0
        · rename_i c T fr hb; exact ⟨c, T, fr, hb⟩
        · cases c0
      obtain ⟨c, T, fr, hb⟩ := hblk
      refine .inr ⟨b, o, rfl, ⟨c, T, fr, hb, fun j u e => ?_⟩, hlens⟩
      have key : ∀ (l' : List α) (s : Nat), (∀ i x, l'[i]? = some x → ∀ q u, (f x)[q]? = some u → c[o + ((s + i) * P.cellsOf E + q)]? = some u) → (∀ x ∈ l', (f x).length = P.cellsOf E) → ∀ j u, (l'.flatMap f)[j]? = some u → c[o + (s * P.cellsOf E + j)]? = some u := by
        intro l'
        induction l' with
        | nil => intro s _ _ j u h; simp at h
        | cons y r ih =>
          intro s hh hl j u h
          have hy := hl y (by simp)
          rw [List.flatMap_cons, List.getElem?_append] at h
          split at h
          · have := hh 0 y rfl j u h
            simpa using this
          · rename_i hge
            have := ih (s + 1) (fun i x hi q u hq => by
              have := hh (i + 1) x (by simpa using hi) q u hq
              rwa [show s + (i + 1) = s + 1 + i by omega] at this) (fun x hx => hl x (by simp [hx])) _ u h
            rw [Nat.succ_mul] at this
            rwa [show s * P.cellsOf E + P.cellsOf E + (j - (f y).length) = s * P.cellsOf E + j by rw [hy] at hge ⊢; omega] at this
      have := key l 0 (fun i x hi q u hq => by
        have h5 := (cells?_cells (h3 i x hi)).2 q u hq
        rw [addr_add, addr_add] at h5
        unfold World.cell? at h5
        rw [hb] at h5
        simp only [Option.isSome_none, Bool.false_eq_true, if_false] at h5
        rw [Nat.zero_add]
        rwa [show o + (i * P.cellsOf E + q) = o + i * P.cellsOf E + q by omega]) hlens j u e
      simpa using this

/-- four fields of a cell each -/
theorem opens_struct4 {T : TypeId} {F0 F1 F2 F3 : Field} {α β γ δ : Type} {g0 : α → Value} {g1 : β → Value} {g2 : γ → Value} {g3 : δ → Value} {k0 : α → Prop} {k1 : β → Prop} {k2 : γ → Prop} {k3 : δ → Prop}
    (ht : P.underlying T = some (.struct #[F0, F1, F2, F3])) (hc : P.cellsOf T = 4) (ho : F0.offset = 0 ∧ F1.offset = 1 ∧ F2.offset = 2 ∧ F3.offset = 3)
    (hs : P.cellsOf F0.type = 1 ∧ P.cellsOf F1.type = 1 ∧ P.cellsOf F2.type = 1 ∧ P.cellsOf F3.type = 1)
    (h0 : Opens enc P W F0.type (fun x => [g0 x]) k0) (h1 : Opens enc P W F1.type (fun x => [g1 x]) k1) (h2 : Opens enc P W F2.type (fun x => [g2 x]) k2) (h3 : Opens enc P W F3.type (fun x => [g3 x]) k3) :
    Opens enc P W T (fun y : α × β × γ × δ => [g0 y.1, g1 y.2.1, g2 y.2.2.1, g3 y.2.2.2]) (fun y => k0 y.1 ∧ k1 y.2.1 ∧ k2 y.2.2.1 ∧ k3 y.2.2.2) := fun fuel cs x h => by
  obtain ⟨y0, y1, y2, y3, n, _, hl, e0, e1, e2, e3⟩ := Go.Joins.trod_struct4 ht h
  rw [hc] at hl
  rw [ho.1, hs.1] at e0
  rw [ho.2.1, hs.2.1] at e1
  rw [ho.2.2.1, hs.2.2.1] at e2
  rw [ho.2.2.2, hs.2.2.2] at e3
  match cs, hl with
  | [c0, c1, c2, c3], _ =>
    obtain ⟨z0, q0, r0⟩ := h0 _ _ _ e0
    obtain ⟨z1, q1, r1⟩ := h1 _ _ _ e1
    obtain ⟨z2, q2, r2⟩ := h2 _ _ _ e2
    obtain ⟨z3, q3, r3⟩ := h3 _ _ _ e3
    simp only [List.drop, List.take, List.cons.injEq, and_true] at q0 q1 q2 q3
    exact ⟨(z0, z1, z2, z3), by rw [q0, q1, q2, q3], r0, r1, r2, r3⟩
theorem opens_as {T : TypeId} {α β : Type} {f : α → List Value} {f' : β → List Value} {ok : α → Prop} {ok' : β → Prop} (he : Opens enc P W T f ok) (g : α → β) (hf : ∀ x, f x = f' (g x)) (hok : ∀ x, ok x → ok' (g x)) : Opens enc P W T f' ok' := fun fuel cs x h => by
  obtain ⟨y, rfl, hy⟩ := he fuel cs x h
  exact ⟨g y, hf y, hok y hy⟩
/-- an argument -/
theorem open_top {T : TypeId} {α : Type} {f : α → List Value} {ok : α → Prop} {v : Value} {d : DataW H} {ps : List MemPlace} (he : Opens enc P W T f ok) (h : DataW.Trod enc P W 0 (fun _ => true) true T v d ps) : ∃ y, v.cells.toList = f y ∧ ok y := by
  obtain ⟨fuel, hf⟩ := h
  exact he _ _ _ hf
theorem open_agg {T : TypeId} {fs : Array Field} {base : Nat} {α : Type} {f : α → List Value} {ok : α → Prop} {v : Value} {d : DataW H} {ps : List MemPlace} (ht : P.underlying T = some (.struct fs)) (hok : Value.okWide P W .any base T v) (he : Opens enc P W T f ok) (h : DataW.Trod enc P W 0 (fun _ => true) true T v d ps) : ∃ y, v = .agg (f y).toArray ∧ ok y := by
  obtain ⟨y, hy, hk⟩ := open_top he h
  simp only [Value.okWide, ht] at hok
  obtain ⟨cs, rfl, _⟩ := hok
  refine ⟨y, ?_, hk⟩
  rw [← hy]; rfl
theorem open_one {T e : TypeId} {base : Nat} {α : Type} {g : α → Value} {ok : α → Prop} {v : Value} {d : DataW H} {ps : List MemPlace} (ht : P.underlying T = some (.slice e)) (hok : Value.okWide P W .any base T v) (he : Opens enc P W T (fun x => [g x]) ok) (h : DataW.Trod enc P W 0 (fun _ => true) true T v d ps) : ∃ y, v = g y ∧ ok y := by
  obtain ⟨y, hy, hk⟩ := open_top he h
  obtain ⟨a, len, cap, rfl⟩ := okWide_slice ht hok
  refine ⟨y, ?_, hk⟩
  simpa [Value.cells] using hy
end
end Go.Proofs.Ytiefmfimbmkdjaa

/-
  Symbolic execution: one rule for each kind of operation.
  No condition; plain lemmas.
-/
import Derived.Test.YtiefmfimbmkdjaaSxCode
namespace Go.Proofs.Ytiefmfimbmkdjaa
set_option linter.unusedSimpArgs false
set_option linter.unusedVariables false
set_option linter.unusedSectionVars false
open Go.RowKit
variable [Obs]

section
variable {q : Md} {P : Program} {F : Hp} {n : Nat} {Q : Post} {σ : Sl} {H : List HProp} {ops : Array Oper} {rest : List Oper}

/-! ### guards -/
omit [Obs] in
theorem Oper.wp_guard {a : Act} {w : World} {K : Act → World → Prop} {dst : Option Tmp} {op : Op} {ty : TypeId} {pos : String} {after : Array Edge} {g g' : Option (Nat × Bool)} :
    Oper.wp P ⟨dst, op, ty, pos, after, g⟩ a w K Q = Oper.wp P ⟨dst, op, ty, pos, after, g'⟩ a w K Q := rfl
omit [Obs] in
theorem yielded_of {a : Act} (f : Fits n σ a) {j d : Nat} {b : Bool} (hj : (ops[j]?).bind (·.dst) = some d) (hl : lk σ d = some (.bool b)) : yielded ops a.tmps j = some b := by
  unfold yielded
  rw [hj]
  simp only [Option.bind_some]
  rw [f.slots _ _ hl]
/-- the guard says yes -/
theorem TrL.want {dst : Option Tmp} {op : Op} {ty : TypeId} {pos : String} {after : Array Edge} {j d : Nat} {b : Bool} (hj : (ops[j]?).bind (·.dst) = some d) (hl : lk σ d = some (.bool b))
    (h : TrL q P F n ops Q (⟨dst, op, ty, pos, after, none⟩ :: rest) σ H) : TrL q P F n ops Q (⟨dst, op, ty, pos, after, some (j, b)⟩ :: rest) σ H := by
  cases q with
  | eff =>
    intro a w f s
    have h1 := h a w f s
    unfold wpList at h1 ⊢
    rw [if_pos (by simp [Region.wanted])] at h1
    rw [if_pos (by simp [Region.wanted, yielded_of f hj hl])]
    exact h1
  | quiet =>
    intro a f
    have h1 := h a f
    unfold wpQuiet at h1 ⊢
    rw [if_pos (by simp [Region.wanted])] at h1
    rw [if_pos (by simp [Region.wanted, yielded_of f hj hl])]
    exact h1
  | still tail =>
    intro a w f s
    have h1 := h a w f s
    unfold wpStill at h1 ⊢
    rw [if_pos (by simp [Region.wanted])] at h1
    rw [if_pos (by simp [Region.wanted, yielded_of f hj hl])]
    exact h1
  | take G =>
    intro a f
    obtain ⟨v, hy, hk⟩ := h a f
    refine ⟨v, ?_, hk⟩
    rcases hy with ⟨_, hr⟩ | ⟨hw, _⟩
    · exact .inl ⟨by simp [Region.wanted, yielded_of f hj hl], hr⟩
    · simp [Region.wanted] at hw
/-- the guard says no -/
theorem TrL.unwant {d : Nat} {op : Op} {ty : TypeId} {pos : String} {after : Array Edge} {j e : Nat} {b : Bool} (hj : (ops[j]?).bind (·.dst) = some e) (hl : lk σ e = some (.bool (!b))) (hd : Nat.ble (d + 1) n = true)
    (h : TrL q P F n ops Q rest ((d, undef) :: σ) H) : TrL q P F n ops Q (⟨some d, op, ty, pos, after, some (j, b)⟩ :: rest) σ H := by
  cases q with
  | eff =>
    intro a w f s
    unfold wpList
    rw [if_neg (by simp [Region.wanted, yielded_of f hj hl])]
    exact h _ w (f.put hd _) s
  | quiet =>
    intro a f
    unfold wpQuiet
    rw [if_neg (by simp [Region.wanted, yielded_of f hj hl])]
    exact h _ (f.put hd _)
  | still tail =>
    intro a w f s
    unfold wpStill
    rw [if_neg (by simp [Region.wanted, yielded_of f hj hl])]
    exact h _ w (f.put hd _) s
  | take G =>
    intro a f
    exact ⟨undef, .inr ⟨by simp [Region.wanted, yielded_of f hj hl], rfl⟩, h _ (f.put hd _)⟩
theorem TrL.unwant0 {op : Op} {ty : TypeId} {pos : String} {after : Array Edge} {j e : Nat} {b : Bool} (hj : (ops[j]?).bind (·.dst) = some e) (hl : lk σ e = some (.bool (!b)))
    (h : TrL q P F n ops Q rest σ H) : TrL q P F n ops Q (⟨none, op, ty, pos, after, some (j, b)⟩ :: rest) σ H := by
  cases q with
  | eff =>
    intro a w f s
    unfold wpList
    rw [if_neg (by simp [Region.wanted, yielded_of f hj hl])]
    exact h _ w f s
  | quiet =>
    intro a f
    unfold wpQuiet
    rw [if_neg (by simp [Region.wanted, yielded_of f hj hl])]
    exact h _ f
  | still tail =>
    intro a w f s
    unfold wpStill
    rw [if_neg (by simp [Region.wanted, yielded_of f hj hl])]
    exact h _ w f s
  | take G =>
    intro a f
    exact ⟨undef, .inr ⟨by simp [Region.wanted, yielded_of f hj hl], rfl⟩, h _ f⟩
omit [Obs] in
theorem Fits.known {t : Nat} {b c : Bool} {a : Act} (f : Fits n σ a) (hl : lk σ t = some (.bool b)) (e : b = c) : Fits n ((t, .bool c) :: σ) a := by
  subst e
  refine ⟨f.size, f.defers, fun u v e => ?_⟩
  unfold lk at e
  cases hb : Nat.beq t u with
  | true =>
    have : t = u := Nat.eq_of_beq_eq_true hb
    subst this
    rw [hb] at e
    simp only [cond_true, Option.some.injEq] at e
    subst e
    exact f.slots _ _ hl
  | false => rw [hb] at e; exact f.slots _ _ e
/-- a Bool in a slot, yes and no -/
theorem TrL.cases {l : List Oper} {t : Nat} {b : Bool} (hl : lk σ t = some (.bool b)) (ht : b = true → TrL q P F n ops Q l ((t, .bool true) :: σ) H) (hf : b = false → TrL q P F n ops Q l ((t, .bool false) :: σ) H) : TrL q P F n ops Q l σ H := by
  cases q with
  | eff =>
    intro a w f s
    cases e : b with
    | true => exact ht e a w (f.known hl e) s
    | false => exact hf e a w (f.known hl e) s
  | quiet =>
    intro a f
    cases e : b with
    | true => exact ht e a (f.known hl e)
    | false => exact hf e a (f.known hl e)
  | still tail =>
    intro a w f s
    cases e : b with
    | true => exact ht e a w (f.known hl e) s
    | false => exact hf e a w (f.known hl e) s
  | take G =>
    intro a f
    cases e : b with
    | true => exact ht e a (f.known hl e)
    | false => exact hf e a (f.known hl e)

/-! ### an operation that gives a value -/
theorem TrL.op {d : Nat} {op : Op} {ty : TypeId} {pos : String} {after : Array Edge} (hd : Nat.ble (d + 1) n = true)
    (h : ∀ a w, Fits n σ a → St F H w → ∃ v w' H', (execOp a.eval ⟨some d, op, ty, pos, after, none⟩).run P w = .ok (.value v) w' ∧ St F H' w' ∧ TrL .eff P F n ops Q rest ((d, v) :: σ) H') :
    TrL .eff P F n ops Q (⟨some d, op, ty, pos, after, none⟩ :: rest) σ H := by
  intro a w f s
  obtain ⟨v, w', H', hr, s', ht⟩ := h a w f s
  unfold wpList
  rw [if_pos (by simp [Region.wanted])]
  left
  unfold Oper.wp
  rw [hr]
  exact ht _ _ (f.put hd v) s'
/-- .. whose value nobody takes -/
theorem TrL.op0 {op : Op} {ty : TypeId} {pos : String} {after : Array Edge}
    (h : ∀ a w, Fits n σ a → St F H w → ∃ v w' H', (execOp a.eval ⟨none, op, ty, pos, after, none⟩).run P w = .ok v w' ∧ (v = .skip ∨ ∃ u, v = .value u) ∧ St F H' w' ∧ TrL .eff P F n ops Q rest σ H') :
    TrL .eff P F n ops Q (⟨none, op, ty, pos, after, none⟩ :: rest) σ H := by
  intro a w f s
  obtain ⟨v, w', H', hr, hv, s', ht⟩ := h a w f s
  unfold wpList
  rw [if_pos (by simp [Region.wanted])]
  left
  unfold Oper.wp
  rw [hr]
  rcases hv with rfl | ⟨u, rfl⟩
  · exact ht _ _ f s'
  · exact ht _ _ f s'

/-- an operation that leaves the world alone -/
theorem TrL.pure {d : Nat} {op : Op} {ty : TypeId} {pos : String} {after : Array Edge} (hd : Nat.ble (d + 1) n = true) (v : Value)
    (hr : ∀ a w, Fits n σ a → St F H w → (execOp a.eval ⟨some d, op, ty, pos, after, none⟩).run P w = .ok (.value v) w) (h : TrL q P F n ops Q rest ((d, v) :: σ) H) :
    TrL q P F n ops Q (⟨some d, op, ty, pos, after, none⟩ :: rest) σ H := by
  cases q with
  | eff => exact TrL.op hd fun a w f s => ⟨v, w, H, hr a w f s, s, h⟩
  | quiet =>
    intro a f
    unfold wpQuiet
    rw [if_pos (by simp [Region.wanted])]
    refine ⟨v, fun w s => ?_, h _ (f.put hd v)⟩
    unfold Oper.quietAt
    rw [hr a w f s]
    exact ⟨rfl, rfl⟩
  | still tail =>
    intro a w f s
    unfold wpStill
    rw [if_pos (by simp [Region.wanted])]
    unfold Oper.still
    rw [hr a w f s]
    exact ⟨rfl, h _ w (f.put hd v) s⟩
  | take G =>
    intro a f
    exact ⟨v, .inl ⟨by simp [Region.wanted], fun w s => hr a w f s⟩, h _ (f.put hd v)⟩

variable {d : Nat} {ty : TypeId} {pos : String} {after : Array Edge}

theorem TrL.move {x : Operand} {v : Value} (hd : Nat.ble (d + 1) n = true) (hx : ev σ x = some v) (h : TrL q P F n ops Q rest ((d, v) :: σ) H) : TrL q P F n ops Q (⟨some d, .move x, ty, pos, after, none⟩ :: rest) σ H :=
  TrL.pure hd v (fun a w f _ => by simp only [execOp, Sem.run_pure, f.eval hx]) h
theorem TrL.assign {x : Operand} {v : Value} (hd : Nat.ble (d + 1) n = true) (hx : ev σ x = some v) (h : TrL q P F n ops Q rest ((d, v) :: σ) H) : TrL q P F n ops Q (⟨some d, .assign x, ty, pos, after, none⟩ :: rest) σ H :=
  TrL.pure hd v (fun a w f _ => by simp only [execOp, Sem.run_pure, f.eval hx]) h
theorem TrL.pickT {c x y : Operand} {v : Value} (hd : Nat.ble (d + 1) n = true) (hc : ev σ c = some (.bool true)) (hx : ev σ x = some v) (h : TrL q P F n ops Q rest ((d, v) :: σ) H) : TrL q P F n ops Q (⟨some d, .pick c x y, ty, pos, after, none⟩ :: rest) σ H :=
  TrL.pure hd v (fun a w f _ => by simp [execOp, f.eval hc, f.eval hx, asBool]) h
theorem TrL.pickF {c x y : Operand} {v : Value} (hd : Nat.ble (d + 1) n = true) (hc : ev σ c = some (.bool false)) (hx : ev σ y = some v) (h : TrL q P F n ops Q rest ((d, v) :: σ) H) : TrL q P F n ops Q (⟨some d, .pick c x y, ty, pos, after, none⟩ :: rest) σ H :=
  TrL.pure hd v (fun a w f _ => by simp [execOp, f.eval hc, f.eval hx, asBool]) h

/-! #### whole numbers -/
section
variable {T U : TypeId} {x y : Operand} {k : IntKind} {a b : Int}
theorem TrL.add (hd : Nat.ble (d + 1) n = true) (hx : ev σ x = some (.int k a)) (hy : ev σ y = some (.int k b)) (h : TrL q P F n ops Q rest ((d, .int k (k.wrap (a + b))) :: σ) H) : TrL q P F n ops Q (⟨some d, .binOp .add T x y U, ty, pos, after, none⟩ :: rest) σ H :=
  TrL.pure hd _ (fun a w f _ => by simp only [execOp, f.eval hx, f.eval hy]; simp [go_sem, Op.intArith]) h
theorem TrL.sub' (hd : Nat.ble (d + 1) n = true) (hx : ev σ x = some (.int k a)) (hy : ev σ y = some (.int k b)) (h : TrL q P F n ops Q rest ((d, .int k (k.wrap (a - b))) :: σ) H) : TrL q P F n ops Q (⟨some d, .binOp .sub T x y U, ty, pos, after, none⟩ :: rest) σ H :=
  TrL.pure hd _ (fun a w f _ => by simp only [execOp, f.eval hx, f.eval hy]; simp [go_sem, Op.intArith]) h
theorem TrL.mul (hd : Nat.ble (d + 1) n = true) (hx : ev σ x = some (.int k a)) (hy : ev σ y = some (.int k b)) (h : TrL q P F n ops Q rest ((d, .int k (k.wrap (a * b))) :: σ) H) : TrL q P F n ops Q (⟨some d, .binOp .mul T x y U, ty, pos, after, none⟩ :: rest) σ H :=
  TrL.pure hd _ (fun a w f _ => by simp only [execOp, f.eval hx, f.eval hy]; simp [go_sem, Op.intArith]) h
theorem TrL.lss (hd : Nat.ble (d + 1) n = true) (hx : ev σ x = some (.int k a)) (hy : ev σ y = some (.int k b)) (h : TrL q P F n ops Q rest ((d, .bool (decide (a < b))) :: σ) H) : TrL q P F n ops Q (⟨some d, .binOp .lss T x y U, ty, pos, after, none⟩ :: rest) σ H :=
  TrL.pure hd _ (fun a w f _ => by simp only [execOp, f.eval hx, f.eval hy]; simp [go_sem]) h
theorem TrL.leq (hd : Nat.ble (d + 1) n = true) (hx : ev σ x = some (.int k a)) (hy : ev σ y = some (.int k b)) (h : TrL q P F n ops Q rest ((d, .bool (decide (a ≤ b))) :: σ) H) : TrL q P F n ops Q (⟨some d, .binOp .leq T x y U, ty, pos, after, none⟩ :: rest) σ H :=
  TrL.pure hd _ (fun a w f _ => by simp only [execOp, f.eval hx, f.eval hy]; simp [go_sem]) h
theorem TrL.gtr (hd : Nat.ble (d + 1) n = true) (hx : ev σ x = some (.int k a)) (hy : ev σ y = some (.int k b)) (h : TrL q P F n ops Q rest ((d, .bool (decide (b < a))) :: σ) H) : TrL q P F n ops Q (⟨some d, .binOp .gtr T x y U, ty, pos, after, none⟩ :: rest) σ H :=
  TrL.pure hd _ (fun a w f _ => by simp only [execOp, f.eval hx, f.eval hy]; simp [go_sem]) h
theorem TrL.geq (hd : Nat.ble (d + 1) n = true) (hx : ev σ x = some (.int k a)) (hy : ev σ y = some (.int k b)) (h : TrL q P F n ops Q rest ((d, .bool (decide (b ≤ a))) :: σ) H) : TrL q P F n ops Q (⟨some d, .binOp .geq T x y U, ty, pos, after, none⟩ :: rest) σ H :=
  TrL.pure hd _ (fun a w f _ => by simp only [execOp, f.eval hx, f.eval hy]; simp [go_sem]) h
theorem TrL.eqi (hd : Nat.ble (d + 1) n = true) (hx : ev σ x = some (.int k a)) (hy : ev σ y = some (.int k b)) (h : TrL q P F n ops Q rest ((d, .bool (decide (a = b))) :: σ) H) : TrL q P F n ops Q (⟨some d, .binOp .eql T x y U, ty, pos, after, none⟩ :: rest) σ H :=
  TrL.pure hd _ (fun a w f _ => by simp only [execOp, f.eval hx, f.eval hy]; simp [go_sem]; try rfl) h
theorem TrL.nei (hd : Nat.ble (d + 1) n = true) (hx : ev σ x = some (.int k a)) (hy : ev σ y = some (.int k b)) (h : TrL q P F n ops Q rest ((d, .bool (decide (a ≠ b))) :: σ) H) : TrL q P F n ops Q (⟨some d, .binOp .neq T x y U, ty, pos, after, none⟩ :: rest) σ H :=
  TrL.pure hd _ (fun a w f _ => by simp only [execOp, f.eval hx, f.eval hy]; simp [go_sem, bne]; try rfl) h
theorem TrL.not {b : Bool} (hd : Nat.ble (d + 1) n = true) (hx : ev σ x = some (.bool b)) (h : TrL q P F n ops Q rest ((d, .bool (!b)) :: σ) H) : TrL q P F n ops Q (⟨some d, .unOp .not T x, ty, pos, after, none⟩ :: rest) σ H :=
  TrL.pure hd _ (fun a w f _ => by simp [execOp, f.eval hx, Op.unary]) h
end
end
end Go.Proofs.Ytiefmfimbmkdjaa

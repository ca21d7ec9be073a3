/-
  Symbolic execution of a function's code over a list of known slots and a list of chunks: the judgements, the rules for structured code and for calls.
  No condition; plain lemmas.
-/
import Derived.Test.YtiefmfimbmkdjaaSxBase
import Derived.Deep.LoopGhost
import Derived.Deep.Quiet
import Derived.StillTail
import Derived.LoopN
import Derived.OrdersHeld
namespace Go.Proofs.Ytiefmfimbmkdjaa
set_option linter.unusedSimpArgs false
set_option linter.unusedVariables false
set_option linter.unusedSectionVars false
open Go.RowKit
variable [Obs]

/-! ### slots that are known -/
abbrev Sl := List (Nat × Value)
def lk : Sl → Nat → Option Value
  | [], _ => none
  | (i, v) :: r, t => bif Nat.beq i t then some v else lk r t
def ev (σ : Sl) : Operand → Option Value
  | .tmp t => lk σ t
  | .const v => some v
  | .func f => some (.func (.func f) #[] #[])
  | .global g => some (.pointer (some ⟨g, 0, none⟩))
/-- the values of several operands -/
def evs (σ : Sl) : List Operand → Option (List Value)
  | [] => some []
  | x :: r => match ev σ x, evs σ r with
    | some v, some vs => some (v :: vs)
    | _, _ => none
/-- just these slots -/
def keepS (σ : Sl) : List Nat → Option Sl
  | [] => some []
  | t :: r => match lk σ t, keepS σ r with
    | some v, some vs => some ((t, v) :: vs)
    | _, _ => none

structure Fits (n : Nat) (σ : Sl) (a : Act) : Prop where
  size : a.tmps.size = n
  defers : a.defers = []
  slots : ∀ t v, lk σ t = some v → a.tmps[t]? = some v

omit [Obs] in
theorem Fits.eval {n : Nat} {σ : Sl} {a : Act} (f : Fits n σ a) {x : Operand} {v : Value} (h : ev σ x = some v) : a.eval x = v := by
  cases x with
  | tmp t => simp only [Act.eval]; rw [Array.getD_eq_getD_getElem?, f.slots t v h]; rfl
  | const u => simp only [ev] at h; cases h; rfl
  | global g => simp only [ev] at h; cases h; rfl
  | func g => simp only [ev] at h; cases h; rfl

omit [Obs] in
theorem Fits.evals {n : Nat} {σ : Sl} {a : Act} (f : Fits n σ a) : ∀ {xs : List Operand} {vs : List Value}, evs σ xs = some vs → xs.map a.eval = vs
  | [], vs, h => by simp only [evs] at h; cases h; rfl
  | x :: r, vs, h => by
    unfold evs at h
    split at h
    · rename_i v vs' e1 e2
      cases h
      simp only [List.map_cons, f.eval e1, f.evals e2]
    · cases h

omit [Obs] in
theorem Fits.put {n : Nat} {σ : Sl} {a : Act} (f : Fits n σ a) {d : Nat} (hd : Nat.ble (d + 1) n = true) (v : Value) : Fits n ((d, v) :: σ) (a.put (some d) v) := by
  have hd' : d < n := Nat.le_of_ble_eq_true hd
  refine ⟨by simp [Act.put, f.size], f.defers, fun t u h => ?_⟩
  unfold lk at h
  cases e : Nat.beq d t with
  | true =>
    rw [e] at h
    have : d = t := Nat.eq_of_beq_eq_true e
    subst this
    simp only [cond_true, Option.some.injEq] at h
    subst h
    simp [Act.put, f.size, hd']
  | false =>
    rw [e] at h
    have : d ≠ t := Nat.ne_of_beq_eq_false e
    simp only [cond_false] at h
    simp only [Act.put, Array.getElem?_setIfInBounds, if_neg this]
    exact f.slots t u h

omit [Obs] in
theorem Fits.of_keep {n : Nat} {σ σ' : Sl} {a : Act} (f : Fits n σ a) : ∀ {ts : List Nat}, keepS σ ts = some σ' → Fits n σ' a := by
  intro ts h
  refine ⟨f.size, f.defers, ?_⟩
  have key : ∀ (ts : List Nat) (σ' : Sl), keepS σ ts = some σ' → ∀ t v, lk σ' t = some v → lk σ t = some v := by
    intro ts
    induction ts with
    | nil => intro σ' h t v e; simp only [keepS] at h; cases h; cases e
    | cons t ts ih =>
      intro σ' h u v e
      unfold keepS at h
      split at h
      · rename_i x vs e1 e2
        cases h
        unfold lk at e
        cases hb : Nat.beq t u with
        | true =>
          have : t = u := Nat.eq_of_beq_eq_true hb
          subst this
          rw [hb] at e
          simp only [cond_true, Option.some.injEq] at e
          subst e
          exact e1
        | false => rw [hb] at e; exact ih _ e2 _ _ e
      · cases h
  exact fun t v e => f.slots t v (key ts σ' h t v e)

/-- 'σ'' says no more than 'σ' -/
def Sub : Sl → Sl → Prop
  | [], _ => True
  | (t, v) :: r, σ => lk σ t = some v ∧ Sub r σ

omit [Obs] in
theorem Sub.nil {σ : Sl} : Sub [] σ := trivial
omit [Obs] in
theorem Sub.cons {t : Nat} {v : Value} {r σ : Sl} (h : lk σ t = some v) (hr : Sub r σ) : Sub ((t, v) :: r) σ := ⟨h, hr⟩

omit [Obs] in
theorem Fits.sub {n : Nat} {σ : Sl} {a : Act} (f : Fits n σ a) : ∀ {σ' : Sl}, Sub σ' σ → Fits n σ' a
  | [], _ => ⟨f.size, f.defers, fun _ _ e => nomatch e⟩
  | (t, v) :: r, h => by
    have ih := f.sub (σ' := r) h.2
    refine ⟨f.size, f.defers, fun u x e => ?_⟩
    unfold lk at e
    cases hb : Nat.beq t u with
    | true =>
      have : t = u := Nat.eq_of_beq_eq_true hb
      subst this
      rw [hb] at e
      simp only [cond_true, Option.some.injEq] at e
      subst e
      exact f.slots _ _ h.1
    | false => rw [hb] at e; exact ih.slots _ _ e

/-! ### judgements -/
abbrev Post := Exit → Act → World → Prop
/-- 'Q' holds at the exit 'e' in each such state -/
def At (F : Hp) (n : Nat) (Q : Post) (e : Exit) (σ : Sl) (H : List HProp) : Prop := ∀ a w, Fits n σ a → St F H w → Q e a w
def Tr (P : Program) (F : Hp) (n : Nat) (c : Code) (Q : Post) (σ : Sl) (H : List HProp) : Prop := ∀ a w, Fits n σ a → St F H w → c.wp P Q a w
/-- how a region is walked: with effects; in whatever order, each operation leaving each state as it is; in whatever order, leaving the world as it is, and then the operations of 'tail', in order -/
inductive Md where
  | eff | quiet | still (tail : List Oper) | take (G : Act → Prop)
/-- operations that leave each state of a class as it is, one behind the other -/
def wpTake (P : Program) (ops : Array Oper) (C : World → Prop) (G : Act → Prop) : List Oper → Act → Prop
  | [], a => G a
  | o :: rest, a => ∃ v, YieldsIf P ops C o v a ∧ wpTake P ops C G rest (a.put o.dst v)
/-- the rest of a region -/
def TrL (q : Md) (P : Program) (F : Hp) (n : Nat) (ops : Array Oper) (Q : Post) (l : List Oper) (σ : Sl) (H : List HProp) : Prop := match q with
  | .eff => ∀ a w, Fits n σ a → St F H w → wpList P ops Q l a w
  | .quiet => ∀ a, Fits n σ a → wpQuiet P ops (St F H) (fun a' => ∀ w', St F H w' → Q .normal a' w') l a
  | .still tail => ∀ a w, Fits n σ a → St F H w → wpStill P ops w (fun a' => wpList P ops Q tail a' w) l a
  | .take G => ∀ a, Fits n σ a → wpTake P ops (St F H) G l a

section
variable {P : Program} {F : Hp} {n : Nat} {Q : Post} {σ : Sl} {H : List HProp}

theorem Tr.seq {x y : Code} (h : Tr P F n x (Exit.then (y.wp P Q) Q) σ H) : Tr P F n (.seq x y) Q σ H := fun a w f s => wp_seq (h a w f s)
theorem Tr.skip (h : At F n Q .normal σ H) : Tr P F n .skip Q σ H := fun a w f s => wp_skip (h a w f s)
theorem Tr.exit {id : Nat} (h : At F n Q (.exit id) σ H) : Tr P F n (.exit id) Q σ H := fun a w f s => wp_exit (h a w f s)
theorem Tr.ret (h : At F n Q .ret σ H) : Tr P F n .ret Q σ H := fun a w f s => wp_ret (h a w f s)
theorem Tr.block {id : Nat} {c : Code} (h : Tr P F n c (Exit.inBlock id Q) σ H) : Tr P F n (.block id c) Q σ H := fun a w f s => wp_block (h a w f s)
theorem Tr.cond {c : Operand} {x y : Code} {b : Bool} (hc : ev σ c = some (.bool b)) (ht : b = true → Tr P F n x Q σ H) (hf : b = false → Tr P F n y Q σ H) : Tr P F n (.cond c x y) Q σ H :=
  fun a w f s => wp_cond_split (f.eval hc) (fun e => ht e a w f s) (fun e => hf e a w f s)
theorem Tr.condT {c : Operand} {x y : Code} (hc : ev σ c = some (.bool true)) (ht : Tr P F n x Q σ H) : Tr P F n (.cond c x y) Q σ H :=
  fun a w f s => wp_cond_true (f.eval hc) (ht a w f s)
theorem Tr.condF {c : Operand} {x y : Code} (hc : ev σ c = some (.bool false)) (hf : Tr P F n y Q σ H) : Tr P F n (.cond c x y) Q σ H :=
  fun a w f s => wp_cond_false (f.eval hc) (hf a w f s)
theorem Tr.region {id : Nat} {l : List Oper} (h : TrL .eff P F n l.toArray Q l σ H) : Tr P F n (.region id l.toArray false) Q σ H := fun a w f s => wp_region_lit (h a w f s)
theorem Tr.regionQ {id : Nat} {l : List Oper} (hm : P.follows .mixedOrders = true) (hB : Region.lexB .any l.toArray = true) (h : TrL .quiet P F n l.toArray Q l σ H) : Tr P F n (.region id l.toArray true) Q σ H :=
  fun a w f s => wp_region_quiet (C := St F H) hm hB (s.heapEq rfl) (by simpa using h a f)
theorem TrL.nil {ops : Array Oper} (h : At F n Q .normal σ H) : TrL .eff P F n ops Q [] σ H := fun a w f s => wpList_nil (h a w f s)
theorem TrL.nilQ {ops : Array Oper} (h : At F n Q .normal σ H) : TrL .quiet P F n ops Q [] σ H := fun a f => wpQuiet_nil fun w' s => h a w' f s
/-- the head is through, now the tail -/
theorem TrL.turn {ops : Array Oper} {tail : List Oper} (h : TrL .eff P F n ops Q tail σ H) : TrL (.still tail) P F n ops Q [] σ H := fun a w f s => wpStill_nil (h a w f s)
/-- a region that draws its order: 'k' operations that leave the world alone, then some that do not -/
theorem Tr.regionT {id : Nat} {l : List Oper} (k : Nat) {hd tl : List Oper} (hm : P.follows .mixedOrders = true) (hB : Region.lexTailB .any l.toArray k = true) (h1 : l.take k = hd) (h2 : l.drop k = tl) (h : TrL (.still tl) P F n l.toArray Q hd σ H) : Tr P F n (.region id l.toArray true) Q σ H := by
  subst h1; subst h2
  exact fun a w f s => wp_region_still_tail k hm hB (h a _ f (s.heapEq rfl))

/-- forget what is not named -/
theorem Tr.keep {c : Code} (ts : List Nat) {σ' : Sl} (hk : keepS σ ts = some σ') (h : Tr P F n c Q σ' H) : Tr P F n c Q σ H := fun a w f s => h a w (f.of_keep hk) s
theorem Tr.sub {c : Code} {σ' : Sl} {H' R : List HProp} (hs : Sub σ' σ) (hp : Picks H' H R) (h : Tr P F n c Q σ' H') : Tr P F n c Q σ H := fun a w f s => h a w (f.sub hs) (s.sub hp)
theorem TrL.chunks {ops : Array Oper} {l : List Oper} {H' R : List HProp} (hp : Picks H' H R) (h : TrL .eff P F n ops Q l σ H') : TrL .eff P F n ops Q l σ H := fun a w f s => h a w f (s.sub hp)

theorem At.then_normal {y : Code} (h : Tr P F n y Q σ H) : At F n (Exit.then (y.wp P Q) Q) .normal σ H := fun a w f s => h a w f s
theorem At.then_exit {k : Act → World → Prop} {id : Nat} (h : At F n Q (.exit id) σ H) : At F n (Exit.then k Q) (.exit id) σ H := fun a w f s => h a w f s
theorem At.then_ret {k : Act → World → Prop} (h : At F n Q .ret σ H) : At F n (Exit.then k Q) .ret σ H := fun a w f s => h a w f s
theorem At.block_normal {id : Nat} (h : At F n Q .normal σ H) : At F n (Exit.inBlock id Q) .normal σ H := fun a w f s => h a w f s
theorem At.block_ret {id : Nat} (h : At F n Q .ret σ H) : At F n (Exit.inBlock id Q) .ret σ H := fun a w f s => h a w f s
theorem At.block_hit {id : Nat} (h : At F n Q .normal σ H) : At F n (Exit.inBlock id Q) (.exit id) σ H := fun a w f s => by simp only [Exit.inBlock, if_true]; exact h a w f s
theorem At.block_miss {id id' : Nat} (hn : Nat.beq id' id = false) (h : At F n Q (.exit id') σ H) : At F n (Exit.inBlock id Q) (.exit id') σ H := fun a w f s => by
  simp only [Exit.inBlock, if_neg (Nat.ne_of_beq_eq_false hn)]; exact h a w f s

/-! ### loops -/
/-- one round is over: the invariant stands at something smaller -/
def Again {α : Type} (F : Hp) (n : Nat) (S : α → Sl) (C : α → List HProp) (p : α → Prop) (μ : α → Nat) (x : α) : Act → World → Prop :=
  fun a w => ∃ y, p y ∧ μ y < μ x ∧ Fits n (S y) a ∧ St F (C y) w

theorem Tr.loop {c : Code} {α : Type} (S : α → Sl) (C : α → List HProp) (p : α → Prop) (μ : α → Nat) (x : α) {R : List HProp} (hx : p x) (hs : Sub (S x) σ) (hp : Picks (C x) H R)
    (body : ∀ y, p y → Tr P F n c (Exit.then (Again F n S C p μ y) Q) (S y) (C y)) : Tr P F n (.loop c) Q σ H := by
  intro a w f s
  refine wp_loop_ghost (fun m a w => ∃ y, μ y = m ∧ p y ∧ Fits n (S y) a ∧ St F (C y) w) (μ x) ⟨x, rfl, hx, f.sub hs, s.sub hp⟩ ?_
  rintro m a w ⟨y, rfl, hy, fy, sy⟩
  refine wp_mono (body y hy a w fy sy) ?_
  intro e a' w' hq
  cases e with
  | normal => obtain ⟨z, hz, hlt, fz, sz⟩ := hq; exact ⟨_, hlt, z, rfl, hz, fz, sz⟩
  | exit id => exact hq
  | goto l => exact hq
  | ret => exact hq
  | panic ch => exact hq
  | outgrown => exact hq

theorem At.again {α : Type} {S : α → Sl} {C : α → List HProp} {p : α → Prop} {μ : α → Nat} {x : α} {R : List HProp} (y : α) (hy : p y) (hm : μ y < μ x) (hs : Sub (S y) σ) (hp : Picks (C y) H R) :
    At F n (Exit.then (Again F n S C p μ x) Q) .normal σ H := fun _ _ f s => ⟨y, hy, hm, f.sub hs, s.sub hp⟩

/-- a cut: what follows is walked once, from 'J' on, whichever way leads there -/
theorem Tr.cut {x y : Code} {α : Type} (S : α → Sl) (C : α → List HProp) (p : α → Prop)
    (hx : Tr P F n x (Exit.then (fun a w => ∃ z, p z ∧ Fits n (S z) a ∧ St F (C z) w) Q) σ H) (hy : ∀ z, p z → Tr P F n y Q (S z) (C z)) : Tr P F n (.seq x y) Q σ H := by
  intro a w f s
  refine wp_seq (wp_mono (hx a w f s) ?_)
  intro e a' w' hq
  cases e with
  | normal => obtain ⟨z, hz, fz, sz⟩ := hq; exact hy z hz a' w' fz sz
  | exit id => exact hq
  | goto l => exact hq
  | ret => exact hq
  | panic ch => exact hq
  | outgrown => exact hq

theorem At.meet {α : Type} {S : α → Sl} {C : α → List HProp} {p : α → Prop} {R : List HProp} (y : α) (hy : p y) (hs : Sub (S y) σ) (hp : Picks (C y) H R) :
    At F n (Exit.then (fun a w => ∃ z, p z ∧ Fits n (S z) a ∧ St F (C z) w) Q) .normal σ H := fun _ _ f s => ⟨y, hy, f.sub hs, s.sub hp⟩

/-- so many rounds of a loop, one by one -/
def TrR (P : Program) (F : Hp) (n : Nat) (c : Code) (Q : Post) (k : Nat) (σ : Sl) (H : List HProp) : Prop := ∀ a w, Fits n σ a → St F H w → Code.rounds P c Q k a w
theorem Tr.unroll {c : Code} (k : Nat) (h : TrR P F n c Q k σ H) : Tr P F n (.loop c) Q σ H := fun a w f s => wp_loop_rounds k (h a w f s)
theorem TrR.succ {c : Code} {k : Nat} (h : Tr P F n c (Exit.then (Code.rounds P c Q k) Q) σ H) : TrR P F n c Q (k + 1) σ H := fun a w f s => h a w f s
theorem At.round {c : Code} {k : Nat} (h : TrR P F n c Q k σ H) : At F n (Exit.then (Code.rounds P c Q k) Q) .normal σ H := fun a w f s => h a w f s

/-! ### a call's contract, in the way of 'what comes next' -/
def CallK (P : Program) (F : Hp) (f : FuncId) (args : Array Value) (H : List HProp) (K : Value → List HProp → Prop) : Prop :=
  ∀ w, St F H w → Calls P f args w fun e w' => ∃ v H', e = .returned v ∧ K v H' ∧ St F H' w'

/-- a function's contract out of its code -/
theorem CallK.of {f : FuncId} {fn : Func} {c : Code} {args : Array Value} {K : Value → List HProp → Prop} (hf : P.funcs[f]? = some fn) (hb : fn.body = some c) {σ : Sl} {n : Nat}
    (hn : (args ++ Array.replicate (fn.ntmps - args.size) undef).size = n)
    (hσ : ∀ t v, lk σ t = some v → (args ++ Array.replicate (fn.ntmps - args.size) undef)[t]? = some v)
    (h : Tr P F n c (bodyPost P fn fun e w' => ∃ v H', e = .returned v ∧ K v H' ∧ St F H' w') σ H) : CallK P F f args H K :=
  fun w s => calls_of_wp hf hb (h _ w ⟨hn, rfl, hσ⟩ s)

/-- the arguments in their slots -/
def slotsFrom : Nat → List Value → Sl
  | _, [] => []
  | i, v :: r => (i, v) :: slotsFrom (i + 1) r

omit [Obs] in
theorem slotsFrom_lk : ∀ (vs : List Value) (i t : Nat) (v : Value), lk (slotsFrom i vs) t = some v → i ≤ t ∧ vs[t - i]? = some v
  | [], _, _, _, h => nomatch h
  | u :: r, i, t, v, h => by
    unfold slotsFrom lk at h
    cases hb : Nat.beq i t with
    | true =>
      have : i = t := Nat.eq_of_beq_eq_true hb
      subst this
      rw [hb] at h
      simp only [cond_true, Option.some.injEq] at h
      subst h
      simp
    | false =>
      rw [hb] at h
      obtain ⟨h1, h2⟩ := slotsFrom_lk r (i + 1) t v h
      refine ⟨by omega, ?_⟩
      rw [show t - i = (t - (i + 1)) + 1 by omega]
      simpa using h2

theorem CallK.enter {f : FuncId} {fn : Func} {c : Code} {vs : List Value} {K : Value → List HProp → Prop} (hf : P.funcs[f]? = some fn) (hb : fn.body = some c) {n : Nat} (hn : fn.ntmps = n) (hle : Nat.ble vs.length n = true)
    (h : Tr P F n c (bodyPost P fn fun e w' => ∃ v H', e = .returned v ∧ K v H' ∧ St F H' w') (slotsFrom 0 vs) H) : CallK P F f vs.toArray H K := by
  have hle' : vs.length ≤ n := Nat.le_of_ble_eq_true hle
  refine CallK.of hf hb (σ := slotsFrom 0 vs) (n := n) (by simp [hn]; omega) ?_ h
  intro t v e
  obtain ⟨_, h2⟩ := slotsFrom_lk vs 0 t v e
  simp only [Nat.sub_zero] at h2
  have hlt : t < vs.length := (List.getElem?_eq_some_iff.1 h2).1
  rw [Array.getElem?_append_left (by simpa using hlt)]
  simpa using h2

end
end Go.Proofs.Ytiefmfimbmkdjaa

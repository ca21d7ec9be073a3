/-
  Symbolic execution: loops that keep slots, whole numbers within bounds, rows that are read.
  No condition; plain lemmas.
-/
import Derived.Test.YtiefmfimbmkdjaaSxCall
namespace Go.Proofs.Ytiefmfimbmkdjaa
set_option linter.unusedSimpArgs false
set_option linter.unusedVariables false
set_option linter.unusedSectionVars false
open Go.RowKit
variable [Obs]

/-! ### a row that is read -/
section
variable {α : Type}
/-- the slice with this head holds the list 'l', 'k' cells an element -/
def SlIn (f : Hp) (enc : α → List Value) (k : Nat) (p : Option Addr) (l : List α) : Prop := l = [] ∨ ∃ b o, p = some ⟨b, o, none⟩ ∧ Cells f b o (l.flatMap enc) ∧ ∀ x ∈ l, (enc x).length = k
omit [Obs] in
theorem SlIn.mono (enc : α → List Value) (k : Nat) (p : Option Addr) (l : List α) : Mono fun f => SlIn f enc k p l := fun _ _ le h => h.imp id fun ⟨b, o, h1, h2, h3⟩ => ⟨b, o, h1, Cells.mono _ _ _ _ _ le h2, h3⟩
omit [Obs] in
theorem flat_at (enc : α → List Value) (k : Nat) : ∀ (l : List α), (∀ x ∈ l, (enc x).length = k) → ∀ (i : Nat) (x : α), l[i]? = some x → ∀ j u, (enc x)[j]? = some u → (l.flatMap enc)[i * k + j]? = some u
  | [], _, _, _, h, _, _, _ => by simp at h
  | y :: r, hk, i, x, hx, j, u, hj => by
    have hy : (enc y).length = k := hk y (by simp)
    have hjk : j < (enc x).length := (List.getElem?_eq_some_iff.1 hj).1
    simp only [List.flatMap_cons]
    cases i with
    | zero =>
      simp at hx; subst hx
      rw [Nat.zero_mul, Nat.zero_add, List.getElem?_append_left hjk]; exact hj
    | succ i =>
      simp at hx
      rw [List.getElem?_append_right (by rw [hy, Nat.succ_mul]; omega)]
      rw [show (i + 1) * k + j - (enc y).length = i * k + j by rw [hy, Nat.succ_mul]; omega]
      exact flat_at enc k r (fun z hz => hk z (by simp [hz])) i x hx j u hj
omit [Obs] in
theorem SlIn.cells {f : Hp} {enc : α → List Value} {k : Nat} {p : Option Addr} {l : List α} (h : SlIn f enc k p l) {i : Nat} {x : α} (hi : l[i]? = some x) : ∃ b o, p = some ⟨b, o, none⟩ ∧ Cells f b (o + i * k) (enc x) := by
  rcases h with rfl | ⟨b, o, hp, ⟨c, T, fr, hb, hc⟩, hk⟩
  · simp at hi
  · refine ⟨b, o, hp, c, T, fr, hb, fun j u e => ?_⟩
    have := hc (i * k + j) u (flat_at enc k l hk i x hi j u e)
    rwa [show o + i * k + j = o + (i * k + j) by omega]
end

section
variable {q : Md} {P : Program} {F : Hp} {n : Nat} {Q : Post} {σ : Sl} {H : List HProp} {ops : Array Oper} {rest : List Oper}
variable {d : Nat} {ty : TypeId} {pos : String} {after : Array Edge} {T U : TypeId} {x y : Operand}

/-! ### loops that keep slots and chunks -/
omit [Obs] in
theorem lk_append : ∀ (A B : Sl) (t : Nat), lk (A ++ B) t = (match lk A t with | some v => some v | none => lk B t)
  | [], _, _ => rfl
  | (i, u) :: A, B, t => by
    have ih := lk_append A B t
    have e1 : lk ((i, u) :: A ++ B) t = bif Nat.beq i t then some u else lk (A ++ B) t := rfl
    have e2 : lk ((i, u) :: A) t = bif Nat.beq i t then some u else lk A t := rfl
    rw [e1, e2]
    cases Nat.beq i t with
    | true => rfl
    | false => exact ih
omit [Obs] in
theorem Fits.append {a : Act} {A B : Sl} (f : Fits n A a) (g : Fits n B a) : Fits n (A ++ B) a := by
  refine ⟨f.size, f.defers, fun t v e => ?_⟩
  rw [lk_append] at e
  cases h : lk A t with
  | some u => rw [h] at e; exact f.slots t v (by rw [h]; exact e)
  | none => rw [h] at e; exact g.slots t v e

/-- a loop: the slots of 'S' and the chunks of 'C' turn; the slots 'ts' and all other chunks stay -/
theorem Tr.loopK {c : Code} {α : Type} (ts : List Nat) (S : α → Sl) (C : α → List HProp) (p : α → Prop) (μ : α → Nat) (x : α) {R : List HProp} {σ0 : Sl} (hk : keepS σ ts = some σ0) (hx : p x) (hs : Sub (S x) σ) (hp : Picks (C x) H R)
    (body : ∀ y, p y → Tr P F n c (Exit.then (Again F n (fun z => S z ++ σ0) (fun z => C z ++ R) p μ y) Q) (S y ++ σ0) (C y ++ R)) : Tr P F n (.loop c) Q σ H := by
  intro a w f s
  refine wp_loop_ghost (fun m a w => ∃ y, μ y = m ∧ p y ∧ Fits n (S y ++ σ0) a ∧ St F (C y ++ R) w) (μ x) ⟨x, rfl, hx, (f.sub hs).append (f.of_keep hk), s.picks hp⟩ ?_
  rintro m a w ⟨y, rfl, hy, fy, sy⟩
  refine wp_mono (body y hy a w fy sy) ?_
  intro e a' w' hq
  cases e with
  | normal => obtain ⟨z, hz, hlt, fz, sz⟩ := hq; exact ⟨_, hlt, z, rfl, hz, fz, sz⟩
  | exit id => exact hq
  | goto l => exact hq
  | ret => exact hq
  | panic ch => exact hq
  | outgrown => exact hq

/-! ### whole numbers within their bounds -/
omit [Obs] in
theorem wrap_i64 {a : Int} (h : -9223372036854775808 ≤ a ∧ a ≤ 9223372036854775807) : IntKind.i64.wrap a = a := IntWalk.i64_in a h
section
variable {a b : Int}
theorem TrL.addI (hd : Nat.ble (d + 1) n = true) (hx : ev σ x = some (.int .i64 a)) (hy : ev σ y = some (.int .i64 b)) (hb : -9223372036854775808 ≤ a + b ∧ a + b ≤ 9223372036854775807) (h : TrL q P F n ops Q rest ((d, .int .i64 (a + b)) :: σ) H) :
    TrL q P F n ops Q (⟨some d, .binOp .add T x y U, ty, pos, after, none⟩ :: rest) σ H := TrL.add hd hx hy (by rw [wrap_i64 hb]; exact h)
theorem TrL.subI (hd : Nat.ble (d + 1) n = true) (hx : ev σ x = some (.int .i64 a)) (hy : ev σ y = some (.int .i64 b)) (hb : -9223372036854775808 ≤ a - b ∧ a - b ≤ 9223372036854775807) (h : TrL q P F n ops Q rest ((d, .int .i64 (a - b)) :: σ) H) :
    TrL q P F n ops Q (⟨some d, .binOp .sub T x y U, ty, pos, after, none⟩ :: rest) σ H := TrL.sub' hd hx hy (by rw [wrap_i64 hb]; exact h)
theorem TrL.mulI (hd : Nat.ble (d + 1) n = true) (hx : ev σ x = some (.int .i64 a)) (hy : ev σ y = some (.int .i64 b)) (hb : -9223372036854775808 ≤ a * b ∧ a * b ≤ 9223372036854775807) (h : TrL q P F n ops Q rest ((d, .int .i64 (a * b)) :: σ) H) :
    TrL q P F n ops Q (⟨some d, .binOp .mul T x y U, ty, pos, after, none⟩ :: rest) σ H := TrL.mul hd hx hy (by rw [wrap_i64 hb]; exact h)
theorem TrL.min2 {xs : Array Operand} {ts : Array TypeId} (hd : Nat.ble (d + 1) n = true) (hx : evs σ xs.toList = some [.int .i64 a, .int .i64 b]) (h : TrL q P F n ops Q rest ((d, .int .i64 (min a b)) :: σ) H) :
    TrL q P F n ops Q (⟨some d, .call ⟨.builtin .min, xs, ts⟩, ty, pos, after, none⟩ :: rest) σ H :=
  TrL.pure hd _ (fun c w f _ => by
    have e1 : xs.map c.eval = #[.int .i64 a, .int .i64 b] := by apply Array.ext'; simpa using f.evals hx
    have e2 : (if b < a then b else a) = min a b := by split <;> omega
    rw [BigFrame.execOp_builtin, e1]
    simp [BigFrame.builtin_min, Builtin.min_, Builtin.min2, e2]) h
theorem TrL.max2 {xs : Array Operand} {ts : Array TypeId} (hd : Nat.ble (d + 1) n = true) (hx : evs σ xs.toList = some [.int .i64 a, .int .i64 b]) (h : TrL q P F n ops Q rest ((d, .int .i64 (max a b)) :: σ) H) :
    TrL q P F n ops Q (⟨some d, .call ⟨.builtin .max, xs, ts⟩, ty, pos, after, none⟩ :: rest) σ H :=
  TrL.pure hd _ (fun c w f _ => by
    have e1 : xs.map c.eval = #[.int .i64 a, .int .i64 b] := by apply Array.ext'; simpa using f.evals hx
    have e2 : (if a < b then b else a) = max a b := by split <;> omega
    rw [BigFrame.execOp_builtin, e1]
    simp [BigFrame.builtin_max, Builtin.max_, Builtin.max2, e2]) h
end

/-! ### more loads and stores -/
theorem TrL.loadLA {b off k : Nat} {vs cs : List Value} {E : TypeId} {R : List HProp} (hd : Nat.ble (d + 1) n = true) (hx : ev σ x = some (.pointer (some ⟨b, off, none⟩))) (ht : aggr P T = true) (hk : szOf P T = some k) (pk : Pick (cl b cs E) H R) (hc : cutv cs off k = some vs)
    (h : TrL q P F n ops Q rest ((d, .agg vs.toArray) :: σ) H) : TrL q P F n ops Q (⟨some d, .load T x, ty, pos, after, none⟩ :: rest) σ H := by
  have e : vs.length = k := by
    obtain ⟨h1, rfl⟩ := cutv_eq hc
    simp only [List.length_take, List.length_drop]; omega
  exact TrL.loadA hd hx ht (by rw [e]; exact hk) (Sees.clA pk hc) h
theorem TrL.loadRA {b off k : Nat} {vs : List Value} (hd : Nat.ble (d + 1) n = true) (hx : ev σ x = some (.pointer (some ⟨b, off, none⟩))) (ht : aggr P T = true) (hk : szOf P T = some k) (hc : Cells F b off vs) (hl : vs.length = k)
    (h : TrL q P F n ops Q rest ((d, .agg vs.toArray) :: σ) H) : TrL q P F n ops Q (⟨some d, .load T x, ty, pos, after, none⟩ :: rest) σ H :=
  TrL.loadA hd hx ht (by rw [hl]; exact hk) (Sees.ofF (Cells.mono _ _ _) hc) h
theorem TrL.loadR1 {b off : Nat} {v : Value} (hd : Nat.ble (d + 1) n = true) (hx : ev σ x = some (.pointer (some ⟨b, off, none⟩))) (ht : scal P T = true) (hc : Cells F b off [v])
    (h : TrL q P F n ops Q rest ((d, v) :: σ) H) : TrL q P F n ops Q (⟨some d, .load T x, ty, pos, after, none⟩ :: rest) σ H :=
  TrL.load1 hd hx ht (Sees.ofF (Cells.mono _ _ _) hc) h
theorem TrL.storeLA {b off k : Nat} {cs vs cs' : List Value} {E : TypeId} {H' : List HProp} (hx : ev σ x = some (.pointer (some ⟨b, off, none⟩))) (hy : ev σ y = some (.agg vs.toArray)) (hk : szOf P T = some k) (hl : vs.length = k ∧ vs ≠ []) (h1 : ones vs = true) (hu : Upd (cl b cs E) (cl b cs' E) H H')
    (hs : setvs cs off vs = some cs') (h : TrL .eff P F n ops Q rest σ H') : TrL .eff P F n ops Q (⟨none, .store T x y, ty, pos, after, none⟩ :: rest) σ H :=
  TrL.storeA hx hy (by rw [hl.1]; exact hk) h1 hl.2 hu hs h

/-- the address of an element of a row that the frame holds -/
theorem TrL.idxF {α : Type} {enc : α → List Value} {k size : Nat} {p : Option Addr} {l : List α} {len cap i : Nat} {kd : IntKind} {j : Int} {e : TypeId} (hd : Nat.ble (d + 1) n = true) (hx : ev σ x = some (.slice p len cap)) (hy : ev σ y = some (.int kd j))
    (he : slEl P T = some e) (hz : szOf P e = some size) (hs : SlIn F enc k p l) (hk : k = size) (hl : len = l.length) (hj : j = (i : Int)) {v : α} (hi : l[i]? = some v)
    (h : ∀ b o, p = some ⟨b, o, none⟩ → Cells F b (o + i * size) (enc v) → TrL q P F n ops Q rest ((d, .pointer (some ⟨b, o + i * size, none⟩)) :: σ) H) : TrL q P F n ops Q (⟨some d, .indexAddr T x y, ty, pos, after, none⟩ :: rest) σ H := by
  subst hk
  obtain ⟨b, o, rfl, hc⟩ := hs.cells hi
  exact TrL.indexAddr hd hx hy he hz hj (by rw [hl]; exact (List.getElem?_eq_some_iff.1 hi).1) (h b o rfl hc)

/-- a struct out of its parts -/
def vcells : Value → List Value
  | .agg a => a.toList
  | v => [v]
omit [Obs] in
theorem vcells_eq (v : Value) : v.cells.toList = vcells v := by cases v <;> rfl
def plOf (P : Program) (T : TypeId) : Option (List (Nat × Nat)) := match P.underlying T with
  | some (.struct fs) => fs.toList.mapM fun f => (P.info? f.type).map fun i => (f.offset, i.size)
  | _ => none
def nth2 : List (Nat × Nat) → Nat → Option (Nat × Nat)
  | [], _ => none
  | x :: _, 0 => some x
  | _ :: r, i + 1 => nth2 r i
def lenv : List Value → Nat
  | [] => 0
  | _ :: r => lenv r + 1
/-- the parts laid into the zero value's cells -/
def bldP (pl : List (Nat × Nat)) : List Value → List Nat → List Value → Option (List Value)
  | cs, [], _ => some cs
  | _, _ :: _, [] => none
  | cs, i :: is, v :: vs => match nth2 pl i with
    | none => none
    | some (off, size) => match Nat.beq (lenv (vcells v)) size && Nat.ble 1 size with
      | false => none
      | true => match setvs cs off (vcells v) with
        | none => none
        | some cs' => bldP pl cs' is vs
omit [Obs] in
theorem nth2_eq : ∀ (l : List (Nat × Nat)) (i : Nat), nth2 l i = l[i]?
  | [], _ => rfl
  | _ :: _, 0 => rfl
  | _ :: r, i + 1 => by simp [nth2, nth2_eq r i]
omit [Obs] in
theorem lenv_eq : ∀ l : List Value, lenv l = l.length
  | [] => rfl
  | _ :: r => by simp [lenv, lenv_eq r]
omit [Obs] in
theorem setv_of {cs : List Value} {i : Nat} {v : Value} (h : i < cs.length) : setv cs i v = some (cs.set i v) := by
  induction cs generalizing i with
  | nil => simp at h
  | cons x r ih =>
    cases i with
    | zero => rfl
    | succ i => simp only [setv, ih (i := i) (by simpa using h)]; rfl
omit [Obs] in
theorem foldl_setv : ∀ (vs : List Value) (s : Nat) (cs cs' : List Value) (off : Nat), setvs cs (off + s) vs = some cs' →
    (vs.zipIdx s).foldl (fun (cs : Array Value) (x : Value × Nat) => cs.setIfInBounds (off + x.2) x.1) cs.toArray = cs'.toArray
  | [], _, cs, cs', _, h => by simp only [setvs, Option.some.injEq] at h; subst h; rfl
  | v :: r, s, cs, cs', off, h => by
    unfold setvs at h
    split at h
    · rename_i c e
      obtain ⟨h1, rfl⟩ := setv_eq e
      simp only [List.zipIdx_cons, List.foldl_cons, List.setIfInBounds_toArray]
      exact foldl_setv r (s + 1) _ _ off (by rw [← Nat.add_assoc]; exact h)
    · cases h
omit [Obs] in
theorem fill_bld {pl : List (Nat × Nat)} : ∀ (is : List Nat) (vs cs cs' : List Value), bldP pl cs is vs = some cs' → is.length = vs.length → Instr.fill (fun i => pl.toArray[i]?) cs.toArray (is.zip vs) = some cs'.toArray
  | [], _, cs, cs', h, _ => by simp only [bldP, Option.some.injEq] at h; subst h; rfl
  | _ :: _, [], _, _, h, _ => nomatch h
  | i :: is, v :: vs, cs, cs', h, hl => by
    unfold bldP at h
    split at h
    · cases h
    · rename_i off size e
      split at h
      · cases h
      · rename_i hb
        split at h
        · cases h
        · rename_i cs2 e2
          simp only [Bool.and_eq_true] at hb
          have hsz : (vcells v).length = size := by rw [← lenv_eq]; exact Nat.eq_of_beq_eq_true hb.1
          have h1 : 1 ≤ size := Nat.le_of_ble_eq_true hb.2
          have hvs : v.cells.size = size := by rw [← hsz, ← vcells_eq]; simp
          have hne : vcells v ≠ [] := fun hh => by rw [hh] at hsz; simp at hsz; omega
          have hle := setvs_len e2 hne
          have hf := foldl_setv (vcells v) 0 cs cs2 off (by simpa using e2)
          have he : v.cells.zipIdx.foldl (fun (cs : Array Value) (x : Value × Nat) => cs.setIfInBounds (off + x.2) x.1) cs.toArray = cs2.toArray := by
            rw [← hf, ← vcells_eq, ← Array.foldl_toList, Array.toList_zipIdx]
          simp only [List.zip_cons_cons, Instr.fill]
          have hp : (pl.toArray)[i]? = some (off, size) := by rw [nth2_eq] at e; simpa using e
          rw [hp]
          simp only []
          rw [if_neg (by simp; omega)]
          rw [he]
          exact fill_bld is vs cs2 cs' h (by simpa using hl)
theorem TrL.build {parts : Array (Nat × Operand)} {us cs z : List Value} {pl : List (Nat × Nat)} (hd : Nat.ble (d + 1) n = true) (hx : evs σ (parts.toList.map (·.2)) = some us) (hpl : plOf P T = some pl) (hz : zc P T = some z) (hb : bldP pl z (parts.toList.map (·.1)) us = some cs)
    (h : TrL q P F n ops Q rest ((d, .agg cs.toArray) :: σ) H) : TrL q P F n ops Q (⟨some d, .build T parts, ty, pos, after, none⟩ :: rest) σ H :=
  TrL.pure hd _ (fun a w f _ => by
    have e0 := f.evals hx
    have e1 : (parts.map fun (i, x) => (i, a.eval x)).toList = (parts.toList.map (·.1)).zip us := by
      rw [← e0, Array.toList_map]
      generalize parts.toList = l
      induction l with
      | nil => rfl
      | cons q r ih => simp only [List.map_cons, List.zip_cons_cons, ih]
    have hl : (parts.toList.map (·.1)).length = us.length := by have := congrArg List.length e0; simpa using this
    have hbuilt : P.built T ((parts.toList.map (·.1)).zip us) = some cs.toArray := by
      unfold plOf at hpl
      split at hpl
      · rename_i fs hu
        unfold zc at hz
        cases hi : P.info? T with
        | none => rw [hi] at hz; cases hz
        | some it =>
          rw [hi] at hz
          simp only [Option.bind_some] at hz
          cases hzz : it.zero with
          | none => rw [hzz] at hz; cases hz
          | some zv =>
            rw [hzz] at hz
            simp only [Option.map_some, Option.some.injEq] at hz
            unfold Program.built
            rw [hi, hu]
            simp only [hzz, hpl]
            have := fill_bld _ _ _ _ hb hl
            rw [← hz] at this
            simpa using this
      · cases hpl
    have hr := run_build (P := P) w T (parts.map fun (i, x) => (i, a.eval x)) cs.toArray (by rw [e1]; exact hbuilt)
    simp only [execOp, Sem.run_bind, Sem.run_pure]
    rw [hr]
    rfl) h
end
end Go.Proofs.Ytiefmfimbmkdjaa

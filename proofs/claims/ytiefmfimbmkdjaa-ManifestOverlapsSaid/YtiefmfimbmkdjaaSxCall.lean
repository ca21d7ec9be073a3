/-
  Symbolic execution: calls and returns, texts, tuples.
  No condition; plain lemmas.
-/
import Derived.Test.YtiefmfimbmkdjaaSxMem
namespace Go.Proofs.Ytiefmfimbmkdjaa
set_option linter.unusedSimpArgs false
set_option linter.unusedVariables false
set_option linter.unusedSectionVars false
open Go.RowKit
variable [Obs]

/-- a function with a body, no name that the machine takes for itself -/
def callable (P : Program) (f : FuncId) : Bool := match P.funcs[f]? with
  | some fn => !(fn.name == "runtime.NumGoroutine") && fn.body.isSome
  | none => false

section
variable {q : Md} {P : Program} {F : Hp} {n : Nat} {Q : Post} {σ : Sl} {H : List HProp} {ops : Array Oper} {rest : List Oper}
variable {d : Nat} {ty : TypeId} {pos : String} {after : Array Edge} {T U : TypeId} {x y : Operand}

omit [Obs] in
theorem run_callFunc {f : FuncId} {args : Array Value} {w : World} (h : callable P f = true) : (callFunc f args).run P w = .ok (.enter f args) w := by
  unfold callable at h
  split at h
  · rename_i fn hf
    simp only [Bool.and_eq_true, Bool.not_eq_true'] at h
    have h1 : (fn.name == "runtime.NumGoroutine") = false := h.1
    have h2 : fn.body.isNone = false := by cases hb : fn.body with | none => rw [hb] at h; simp at h | some _ => rfl
    unfold callFunc
    simp only [Sem.run_bind, program, Sem.run, Result.andThen_ok, hf, h1, h2, Bool.false_eq_true, if_false]
    rfl
  · cases h

omit [Obs] in
theorem run_callOp {ρ : Operand → Value} {dst : Option Tmp} {c : Call} {fv : Operand} {g : Option (Nat × Bool)} {f : FuncId} {first cap : Array Value} {w : World} (hcl : c.callee = .value fv) (hf : ρ fv = .func (.func f) first cap) (h : callable P f = true) :
    (execOp ρ ⟨dst, .call c, ty, pos, after, g⟩).run P w = .ok (.enter f (first ++ c.args.map ρ ++ cap)) w := by
  simp [execOp, resolve, hcl, hf, Deferred.ofValue, invoke, run_callFunc h]

/-- the rest behind a call that returns -/
theorem TrL.callG {fv : Operand} {xs : Array Operand} {ts : Array TypeId} {f : FuncId} {first cap : Array Value} {vs : List Value} {Hp R : List HProp} {dst : Option Tmp} {g : Option (Nat × Bool)}
    (hw : ∀ a, Fits n σ a → Region.wanted ⟨dst, .call ⟨.value fv, xs, ts⟩, ty, pos, after, g⟩ (yielded ops a.tmps) = true)
    (hf : ev σ fv = some (.func (.func f) first cap)) (hx : evs σ xs.toList = some vs) (hc : callable P f = true) (hp : Picks Hp H R)
    (h : ∀ F', Up F R F' → CallK P F' f (first ++ vs.toArray ++ cap) Hp fun v H' => ∀ a w, (∀ a0, Fits n σ a0 → a = a0.put dst v → St F (H' ++ R) w → wpList P ops Q rest a w)) :
    TrL .eff P F n ops Q (⟨dst, .call ⟨.value fv, xs, ts⟩, ty, pos, after, g⟩ :: rest) σ H := by
  intro a w fit s
  unfold wpList
  rw [if_pos (hw a fit)]
  left
  unfold Oper.wp
  have hxs : xs.map a.eval = vs.toArray := by
    have := fit.evals hx
    apply Array.ext'
    simpa using this
  rw [run_callOp rfl (fit.eval hf) hc]
  simp only [hxs]
  obtain ⟨F', hu, s', back⟩ := s.up hp
  refine (h F' hu w s').mono ?_
  rintro e w' ⟨v, H', rfl, hK, s2⟩
  exact hK _ w' a fit rfl (back w' H' s2)

theorem TrL.call {fv : Operand} {xs : Array Operand} {ts : Array TypeId} {f : FuncId} {vs : List Value} {Hp R : List HProp}
    (hd : Nat.ble (d + 1) n = true) (hf : ev σ fv = some (.func (.func f) #[] #[])) (hx : evs σ xs.toList = some vs) (hc : callable P f = true) (hp : Picks Hp H R)
    (h : ∀ F', Up F R F' → CallK P F' f vs.toArray Hp fun v H' => TrL .eff P F n ops Q rest ((d, v) :: σ) (H' ++ R)) :
    TrL .eff P F n ops Q (⟨some d, .call ⟨.value fv, xs, ts⟩, ty, pos, after, none⟩ :: rest) σ H := by
  refine TrL.callG (fun _ _ => by simp [Region.wanted]) hf hx hc hp fun F' hu => ?_
  have e : (#[] ++ vs.toArray ++ #[] : Array Value) = vs.toArray := by simp
  rw [e]
  intro w s
  refine (h F' hu w s).mono ?_
  rintro e w' ⟨v, H', h1, hK, s2⟩
  exact ⟨v, H', h1, fun a w a0 f0 ha s0 => by subst ha; exact hK _ w (f0.put hd v) s0, s2⟩
theorem TrL.call0 {fv : Operand} {xs : Array Operand} {ts : Array TypeId} {f : FuncId} {vs : List Value} {Hp R : List HProp}
    (hf : ev σ fv = some (.func (.func f) #[] #[])) (hx : evs σ xs.toList = some vs) (hc : callable P f = true) (hp : Picks Hp H R)
    (h : ∀ F', Up F R F' → CallK P F' f vs.toArray Hp fun _ H' => TrL .eff P F n ops Q rest σ (H' ++ R)) :
    TrL .eff P F n ops Q (⟨none, .call ⟨.value fv, xs, ts⟩, ty, pos, after, none⟩ :: rest) σ H := by
  refine TrL.callG (fun _ _ => by simp [Region.wanted]) hf hx hc hp fun F' hu => ?_
  have e : (#[] ++ vs.toArray ++ #[] : Array Value) = vs.toArray := by simp
  rw [e]
  intro w s
  refine (h F' hu w s).mono ?_
  rintro e w' ⟨v, H', h1, hK, s2⟩
  exact ⟨v, H', h1, fun a w a0 f0 ha s0 => by subst ha; exact hK _ w f0 s0, s2⟩
/-- a closure: what it has caught comes behind its arguments -/
theorem TrL.callC {fv : Operand} {xs : Array Operand} {ts : Array TypeId} {f : FuncId} {cap : List Value} {vs : List Value} {Hp R : List HProp}
    (hd : Nat.ble (d + 1) n = true) (hf : ev σ fv = some (.func (.func f) #[] cap.toArray)) (hx : evs σ xs.toList = some vs) (hc : callable P f = true) (hp : Picks Hp H R)
    (h : ∀ F', Up F R F' → CallK P F' f (vs ++ cap).toArray Hp fun v H' => TrL .eff P F n ops Q rest ((d, v) :: σ) (H' ++ R)) :
    TrL .eff P F n ops Q (⟨some d, .call ⟨.value fv, xs, ts⟩, ty, pos, after, none⟩ :: rest) σ H := by
  refine TrL.callG (fun _ _ => by simp [Region.wanted]) hf hx hc hp fun F' hu => ?_
  have e : (#[] ++ vs.toArray ++ cap.toArray : Array Value) = (vs ++ cap).toArray := by simp
  rw [e]
  intro w s
  refine (h F' hu w s).mono ?_
  rintro e w' ⟨v, H', h1, hK, s2⟩
  exact ⟨v, H', h1, fun a w a0 f0 ha s0 => by subst ha; exact hK _ w (f0.put hd v) s0, s2⟩
theorem TrL.callC0 {fv : Operand} {xs : Array Operand} {ts : Array TypeId} {f : FuncId} {cap : List Value} {vs : List Value} {Hp R : List HProp}
    (hf : ev σ fv = some (.func (.func f) #[] cap.toArray)) (hx : evs σ xs.toList = some vs) (hc : callable P f = true) (hp : Picks Hp H R)
    (h : ∀ F', Up F R F' → CallK P F' f (vs ++ cap).toArray Hp fun _ H' => TrL .eff P F n ops Q rest σ (H' ++ R)) :
    TrL .eff P F n ops Q (⟨none, .call ⟨.value fv, xs, ts⟩, ty, pos, after, none⟩ :: rest) σ H := by
  refine TrL.callG (fun _ _ => by simp [Region.wanted]) hf hx hc hp fun F' hu => ?_
  have e : (#[] ++ vs.toArray ++ cap.toArray : Array Value) = (vs ++ cap).toArray := by simp
  rw [e]
  intro w s
  refine (h F' hu w s).mono ?_
  rintro e w' ⟨v, H', h1, hK, s2⟩
  exact ⟨v, H', h1, fun a w a0 f0 ha s0 => by subst ha; exact hK _ w f0 s0, s2⟩

/-- a call in a region that draws its order: one value, and each state stays -/
theorem TrL.callQ {fv : Operand} {xs : Array Operand} {ts : Array TypeId} {f : FuncId} {vs : List Value} {v : Value}
    (hd : Nat.ble (d + 1) n = true) (hf : ev σ fv = some (.func (.func f) #[] #[])) (hx : evs σ xs.toList = some vs) (hc : callable P f = true)
    (h : ∀ F', Up F H F' → CallK P F' f vs.toArray [] fun v' _ => v' = v) (hr : TrL .quiet P F n ops Q rest ((d, v) :: σ) H) :
    TrL .quiet P F n ops Q (⟨some d, .call ⟨.value fv, xs, ts⟩, ty, pos, after, none⟩ :: rest) σ H := by
  intro a fit
  unfold wpQuiet
  rw [if_pos (by simp [Region.wanted])]
  refine ⟨v, fun w s => ?_, hr _ (fit.put hd v)⟩
  unfold Oper.quietAt
  have hxs : xs.map a.eval = vs.toArray := by
    have := fit.evals hx
    apply Array.ext'
    simpa using this
  rw [run_callOp rfl (fit.eval hf) hc]
  simp only [hxs]
  obtain ⟨F', hu, s', back⟩ := s.up (.nil : Picks [] H H)
  have e : (#[] ++ vs.toArray ++ #[] : Array Value) = vs.toArray := by simp
  rw [e]
  refine ⟨rfl, (h F' hu w s').mono ?_⟩
  rintro e w' ⟨v', H', rfl, hv, s2⟩
  subst hv
  refine ⟨rfl, (back w' H' s2).imp fun g hg => ?_⟩
  obtain ⟨_, _, _, _, l2, _, h2⟩ := Stars.append hg
  exact h2.mono l2

/-- a function value -/
theorem TrL.makeFunc {fn : Fn} {first cap : Array Operand} {v1 v2 : List Value} (hd : Nat.ble (d + 1) n = true) (h1 : evs σ first.toList = some v1) (h2 : evs σ cap.toList = some v2)
    (h : TrL q P F n ops Q rest ((d, .func fn v1.toArray v2.toArray) :: σ) H) : TrL q P F n ops Q (⟨some d, .makeFunc fn first cap, ty, pos, after, none⟩ :: rest) σ H :=
  TrL.pure hd _ (fun a w f _ => by
    have e1 : first.map a.eval = v1.toArray := by apply Array.ext'; simpa using f.evals h1
    have e2 : cap.map a.eval = v2.toArray := by apply Array.ext'; simpa using f.evals h2
    simp [execOp, Instr.makeFunc, e1, e2]) h

/-- one result out of several -/
theorem TrL.extract {vs : List Value} {i : Nat} {v : Value} (hd : Nat.ble (d + 1) n = true) (hx : ev σ x = some (.tuple vs.toArray)) (hv : nv vs i = some v)
    (h : TrL q P F n ops Q rest ((d, v) :: σ) H) : TrL q P F n ops Q (⟨some d, .extract x i, ty, pos, after, none⟩ :: rest) σ H :=
  TrL.pure hd v (fun a w f _ => by
    rw [nv_eq] at hv
    simp [execOp, f.eval hx, Instr.extract, hv]) h

/-! ### returns -/
abbrev RetK (F : Hp) (K : Value → List HProp → Prop) : Ending → World → Prop := fun e w' => ∃ v H', e = .returned v ∧ K v H' ∧ St F H' w'

/-- what the results' variables hold -/
inductive Res (P : Program) (F : Hp) (σ : Sl) (H : List HProp) : List ResultVar → List Value → Prop
  | nil : Res P F σ H [] []
  | tmp {t : Tmp} {v : Value} {rs : List ResultVar} {vs : List Value} : lk σ t = some v → Res P F σ H rs vs → Res P F σ H (.tmp t :: rs) (v :: vs)
  | cell1 {t : Tmp} {T : TypeId} {b off : Nat} {v : Value} {rs : List ResultVar} {vs : List Value} : lk σ t = some (.pointer (some ⟨b, off, none⟩)) → scal P T = true → Sees F H (fun f => Cells f b off [v]) → Res P F σ H rs vs → Res P F σ H (.cell t T :: rs) (v :: vs)
  | cellA {t : Tmp} {T : TypeId} {b off : Nat} {us : List Value} {rs : List ResultVar} {vs : List Value} : lk σ t = some (.pointer (some ⟨b, off, none⟩)) → aggr P T = true → szOf P T = some us.length → Sees F H (fun f => Cells f b off us) → Res P F σ H rs vs → Res P F σ H (.cell t T :: rs) (.agg us.toArray :: vs)

def tup : List Value → Value
  | [v] => v
  | vs => .tuple vs.toArray

def resVar (tmps : Array Value) (r : ResultVar) : Sem Value := match r with
  | ResultVar.tmp t => Pure.pure (tmps.getD t undef)
  | ResultVar.cell x t => do loadVar t (← asAddr (tmps.getD x undef))
omit [Obs] in
theorem results_eq (fn : Func) (tmps : Array Value) : results fn tmps = (do
    let vs ← fn.results.mapM (resVar tmps)
    Pure.pure (if h : vs.size = 1 then vs[0] else .tuple vs)) := by
  unfold results
  congr 1

theorem Res.run {rs : List ResultVar} {vs : List Value} (h : Res P F σ H rs vs) {a : Act} {w : World} (f : Fits n σ a) (s : St F H w) :
    (rs.mapM (resVar a.tmps)).run P w = Result.ok vs w := by
  induction h with
  | nil => simp
  | tmp h1 _ ih =>
    have e : a.tmps.getD _ undef = _ := f.eval (x := Operand.tmp _) h1
    simp only [List.mapM_cons, resVar, Sem.run_bind, ih, e, Sem.run_pure, Result.andThen_ok]
  | cell1 h1 h2 h3 _ ih =>
    have e : a.tmps.getD _ undef = _ := f.eval (x := Operand.tmp _) h1
    have hc := (h3 w s).cell (j := 0) rfl
    simp only [Nat.add_zero] at hc
    simp only [List.mapM_cons, resVar, Sem.run_bind, ih, e, Sem.run_pure, Result.andThen_ok, asAddr, loadVar, isAgg_scal h2, Bool.false_eq_true, if_false, run_load, hc]
  | cellA h1 h2 h3 h4 _ ih =>
    have e : a.tmps.getD _ undef = _ := f.eval (x := Operand.tmp _) h1
    have hc := run_loadCells_list (P := P) w ⟨_, _, none⟩ _ (fun j v e => by rw [addr_add]; exact (h4 w s).cell e)
    simp only [List.mapM_cons, resVar, Sem.run_bind, ih, e, Sem.run_pure, Result.andThen_ok, asAddr, loadVar, isAgg_aggr h2, if_true, sizeOf_run h3, hc]

theorem St.frame {F0 F : Hp} {H : List HProp} {w : World} (s : St F H w) (le : Hp.le F0 F) : St F0 H w :=
  let ⟨h, a, b, c, d, o⟩ := s; ⟨h, a, b.mono le (.refl _), le.trans c, d, o⟩
theorem At.retG {F0 : Hp} {fn : Func} {e : Exit} {rs : List ResultVar} {vs : List Value} {K : Value → List HProp → Prop} {H' : List HProp} (he : e = .ret ∨ e = .normal) (hr : fn.results.toList = rs) (hv : Res P F σ H rs vs) (hK : K (tup vs) H') (hp : ∀ w, St F H w → St F H' w) (hF : Hp.le F0 F) :
    At F n (bodyPost P fn (RetK F0 K)) e σ H := by
  intro a w f s
  have h1 : (results fn a.tmps).run P w = .ok (tup vs) w := by
    rw [results_eq]
    have h2 := hv.run f s
    subst hr
    have h3 : fn.results = fn.results.toList.toArray := by simp
    rw [h3]
    simp only [List.mapM_toArray, Sem.run_bind, Sem.run_map]
    rw [h2]
    cases vs with
    | nil => rfl
    | cons v r => cases r <;> rfl
  have h4 : RetK F0 K (.returned (tup vs)) w := ⟨_, H', rfl, hK, (hp w s).frame hF⟩
  rcases he with rfl | rfl
  · exact ⟨f.defers, _, h1, h4⟩
  · exact ⟨f.defers, _, h1, h4⟩

theorem At.ret {fn : Func} {e : Exit} {rs : List ResultVar} {vs : List Value} {K : Value → List HProp → Prop} {H' R : List HProp} (he : e = .ret ∨ e = .normal) (hr : fn.results.toList = rs) (hv : Res P F σ H rs vs) (hK : K (tup vs) H') (hp : Picks H' H R) {F0 : Hp} (hF : Hp.le F0 F := by first | exact Hp.le.refl _ | assumption | exact Hp.le.trans (by assumption) (by assumption)) :
    At F n (bodyPost P fn (RetK F0 K)) e σ H := At.retG he hr hv hK (fun _ s => s.sub hp) hF
theorem At.retP {fn : Func} {e : Exit} {rs : List ResultVar} {vs : List Value} {K : Value → List HProp → Prop} (H' : List HProp) {R : List HProp} (he : e = .ret ∨ e = .normal) (hr : fn.results.toList = rs) (hv : Res P F σ H rs vs) (hp : Picks H' H R) (hK : K (tup vs) H') {F0 : Hp} (hF : Hp.le F0 F := by first | exact Hp.le.refl _ | assumption | exact Hp.le.trans (by assumption) (by assumption)) :
    At F n (bodyPost P fn (RetK F0 K)) e σ H := At.ret he hr hv hK hp hF

/-! ### texts -/
section
variable {s t : ByteArray}
theorem TrL.eqs (hd : Nat.ble (d + 1) n = true) (hx : ev σ x = some (.string s)) (hy : ev σ y = some (.string t)) (h : TrL q P F n ops Q rest ((d, .bool (decide (s = t))) :: σ) H) : TrL q P F n ops Q (⟨some d, .binOp .eql T x y U, ty, pos, after, none⟩ :: rest) σ H :=
  TrL.pure hd _ (fun a w f _ => by simp only [execOp, f.eval hx, f.eval hy]; simp [go_sem, binOp, Op.stringOp, bytes_beq]) h
theorem TrL.nes (hd : Nat.ble (d + 1) n = true) (hx : ev σ x = some (.string s)) (hy : ev σ y = some (.string t)) (h : TrL q P F n ops Q rest ((d, .bool (decide (s ≠ t))) :: σ) H) : TrL q P F n ops Q (⟨some d, .binOp .neq T x y U, ty, pos, after, none⟩ :: rest) σ H :=
  TrL.pure hd _ (fun a w f _ => by simp only [execOp, f.eval hx, f.eval hy]; simp [go_sem, binOp, Op.stringOp, bytes_beq]) h
theorem TrL.lts (hd : Nat.ble (d + 1) n = true) (hx : ev σ x = some (.string s)) (hy : ev σ y = some (.string t)) (h : TrL q P F n ops Q rest ((d, .bool (blt s t)) :: σ) H) : TrL q P F n ops Q (⟨some d, .binOp .lss T x y U, ty, pos, after, none⟩ :: rest) σ H :=
  TrL.pure hd _ (fun a w f _ => by simp only [execOp, f.eval hx, f.eval hy]; simp [go_sem, binOp, Op.stringOp, blt, ByteArray.toList_eq]) h
end
end

omit [Obs] in
theorem bytesLess_trans : ∀ {a b c : List UInt8}, Op.bytesLess a b = true → Op.bytesLess b c = true → Op.bytesLess a c = true
  | _, _, [], _, h => by cases ‹List UInt8› <;> simp [Op.bytesLess] at h
  | [], _, _ :: _, _, _ => rfl
  | _ :: _, [], _, h, _ => by simp [Op.bytesLess] at h
  | x :: a, y :: b, z :: c, h1, h2 => by
    simp only [Op.bytesLess, Bool.or_eq_true, Bool.and_eq_true, decide_eq_true_eq, beq_iff_eq] at *
    rcases h1 with h1 | ⟨rfl, h1⟩
    · rcases h2 with h2 | ⟨rfl, _⟩
      · exact .inl (UInt8.lt_trans h1 h2)
      · exact .inl h1
    · rcases h2 with h2 | ⟨rfl, h2⟩
      · exact .inl h2
      · exact .inr ⟨rfl, bytesLess_trans h1 h2⟩
omit [Obs] in
theorem bytesLess_irrefl : ∀ (a : List UInt8), Op.bytesLess a a = false
  | [] => rfl
  | x :: a => by simp [Op.bytesLess, bytesLess_irrefl a, UInt8.lt_irrefl]
omit [Obs] in
theorem bytesLess_tri : ∀ (a b : List UInt8), Op.bytesLess a b = true ∨ a = b ∨ Op.bytesLess b a = true
  | [], [] => .inr (.inl rfl)
  | [], _ :: _ => .inl rfl
  | _ :: _, [] => .inr (.inr rfl)
  | x :: a, y :: b => by
    simp only [Op.bytesLess, Bool.or_eq_true, Bool.and_eq_true, decide_eq_true_eq, beq_iff_eq]
    rcases Nat.lt_trichotomy x.toNat y.toNat with h | h | h
    · exact .inl (.inl (UInt8.lt_iff_toNat_lt.2 h))
    · have : x = y := UInt8.toNat_inj.1 h
      subst this
      rcases bytesLess_tri a b with h | rfl | h
      · exact .inl (.inr ⟨rfl, h⟩)
      · exact .inr (.inl rfl)
      · exact .inr (.inr (.inr ⟨rfl, h⟩))
    · exact .inr (.inr (.inl (UInt8.lt_iff_toNat_lt.2 h)))
omit [Obs] in
theorem blt_trans {a b c : ByteArray} (h1 : blt a b = true) (h2 : blt b c = true) : blt a c = true := bytesLess_trans h1 h2
omit [Obs] in
theorem blt_irrefl (a : ByteArray) : blt a a = false := bytesLess_irrefl _
omit [Obs] in
theorem bytes_ext {a b : ByteArray} (h : a.data.toList = b.data.toList) : a = b := ByteArray.ext (Array.ext' h)
omit [Obs] in
theorem blt_tri (a b : ByteArray) : blt a b = true ∨ a = b ∨ blt b a = true := by
  rcases bytesLess_tri a.data.toList b.data.toList with h | h | h
  · exact .inl h
  · exact .inr (.inl (bytes_ext h))
  · exact .inr (.inr h)
omit [Obs] in
theorem blt_asymm {a b : ByteArray} (h : blt a b = true) : blt b a = false := by
  cases e : blt b a with
  | false => rfl
  | true => have := blt_trans h e; rw [blt_irrefl] at this; cases this
omit [Obs] in
theorem ble_of {a b : ByteArray} : (blt a b || decide (a = b)) = !blt b a := by
  rcases blt_tri a b with h | h | h
  · simp [h, blt_asymm h]
  · subst h; simp [blt_irrefl]
  · have : a ≠ b := by rintro rfl; rw [blt_irrefl] at h; cases h
    simp [h, blt_asymm h, this]

section
variable {q : Md} {P : Program} {F : Hp} {n : Nat} {Q : Post} {σ : Sl} {H : List HProp} {ops : Array Oper} {rest : List Oper}
variable {d : Nat} {ty : TypeId} {pos : String} {after : Array Edge} {T U : TypeId} {x y : Operand} {s t : ByteArray}
theorem TrL.gts (hd : Nat.ble (d + 1) n = true) (hx : ev σ x = some (.string s)) (hy : ev σ y = some (.string t)) (h : TrL q P F n ops Q rest ((d, .bool (blt t s)) :: σ) H) : TrL q P F n ops Q (⟨some d, .binOp .gtr T x y U, ty, pos, after, none⟩ :: rest) σ H :=
  TrL.pure hd _ (fun a w f _ => by
    have e : blt t s = !(blt s t || decide (s = t)) := by rw [ble_of]; simp
    rw [e]
    simp only [execOp, f.eval hx, f.eval hy]; simp [go_sem, binOp, Op.stringOp, blt, ByteArray.toList_eq, ← bytes_beq]) h
theorem TrL.les (hd : Nat.ble (d + 1) n = true) (hx : ev σ x = some (.string s)) (hy : ev σ y = some (.string t)) (h : TrL q P F n ops Q rest ((d, .bool (!blt t s)) :: σ) H) : TrL q P F n ops Q (⟨some d, .binOp .leq T x y U, ty, pos, after, none⟩ :: rest) σ H :=
  TrL.pure hd _ (fun a w f _ => by
    rw [← ble_of]
    simp only [execOp, f.eval hx, f.eval hy]; simp [go_sem, binOp, Op.stringOp, blt, ByteArray.toList_eq, ← bytes_beq]) h
theorem TrL.ges (hd : Nat.ble (d + 1) n = true) (hx : ev σ x = some (.string s)) (hy : ev σ y = some (.string t)) (h : TrL q P F n ops Q rest ((d, .bool (!blt s t)) :: σ) H) : TrL q P F n ops Q (⟨some d, .binOp .geq T x y U, ty, pos, after, none⟩ :: rest) σ H :=
  TrL.pure hd _ (fun a w f _ => by
    simp only [execOp, f.eval hx, f.eval hy]; simp [go_sem, binOp, Op.stringOp, blt, ByteArray.toList_eq]) h
theorem TrL.adds (hd : Nat.ble (d + 1) n = true) (hx : ev σ x = some (.string s)) (hy : ev σ y = some (.string t)) (hb : s.size + t.size ≤ 9223372036854775807) (h : TrL q P F n ops Q rest ((d, .string (s ++ t)) :: σ) H) : TrL q P F n ops Q (⟨some d, .binOp .add T x y U, ty, pos, after, none⟩ :: rest) σ H :=
  TrL.pure hd _ (fun a w f _ => by
    have hn : ¬ (((s.size + t.size : Nat) : Int) > IntKind.i64.max) := by simp [IntKind.max, IntKind.signed, IntKind.bits]; omega
    simp only [execOp, f.eval hx, f.eval hy]
    simp only [go_sem, binOp, Op.stringOp, Sem.run_bind, Sem.run_pure, Result.andThen_ok]
    rw [if_neg hn]
    rfl) h
theorem TrL.lens {xs : Array Operand} {u : TypeId} (hd : Nat.ble (d + 1) n = true) (hx : evs σ xs.toList = some [.string s]) (ht : isStr P u = true) (h : TrL q P F n ops Q rest ((d, .int .i64 (s.size : Int)) :: σ) H) :
    TrL q P F n ops Q (⟨some d, .call ⟨.builtin .len, xs, #[u]⟩, ty, pos, after, none⟩ :: rest) σ H :=
  TrL.pure hd _ (fun a w f _ => by
    have e1 : xs.map a.eval = #[.string s] := by apply Array.ext'; simpa using f.evals hx
    rw [BigFrame.execOp_builtin, e1]
    simp [BigFrame.builtin_len, Builtin.len_, run_underlying (isStr_eq ht), goInt]) h
theorem TrL.lenl {xs : Array Operand} {u e : TypeId} {p : Option Addr} {l c : Nat} (hd : Nat.ble (d + 1) n = true) (hx : evs σ xs.toList = some [.slice p l c]) (ht : slEl P u = some e) (h : TrL q P F n ops Q rest ((d, .int .i64 (l : Int)) :: σ) H) :
    TrL q P F n ops Q (⟨some d, .call ⟨.builtin .len, xs, #[u]⟩, ty, pos, after, none⟩ :: rest) σ H :=
  TrL.pure hd _ (fun a w f _ => by
    have e1 : xs.map a.eval = #[.slice p l c] := by apply Array.ext'; simpa using f.evals hx
    rw [BigFrame.execOp_builtin, e1]
    simp [BigFrame.builtin_len, Builtin.len_, run_underlying (slEl_eq ht), goInt]) h
end
end Go.Proofs.Ytiefmfimbmkdjaa

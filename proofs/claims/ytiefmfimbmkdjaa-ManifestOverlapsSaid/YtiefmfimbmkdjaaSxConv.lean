/-
  Symbolic execution: slice literals, conversions, parts of slices and of texts, shifts.
  No condition; plain lemmas.
-/
import Derived.Test.YtiefmfimbmkdjaaSxMap
import Derived.Great.FillDense
namespace Go.Proofs.Ytiefmfimbmkdjaa
set_option linter.unusedSimpArgs false
set_option linter.unusedVariables false
set_option linter.unusedSectionVars false
open Go.RowKit
variable [Obs]

/-- how a byte lies in a cell -/
def encB (b : UInt8) : List Value := [.int .u8 (b.toNat : Int)]
/-- how a text lies in a cell -/
def encS (s : ByteArray) : List Value := [.string s]
/-- how a whole number lies in a cell -/
def encI (i : Int) : List Value := [.int .i64 i]
omit [Obs] in
theorem flatB (l : List UInt8) : l.flatMap encB = l.map fun b => Value.int .u8 (b.toNat : Int) := by induction l with | nil => rfl | cons a l ih => simp [encB, ih]
def strOf (l : List UInt8) : ByteArray := ⟨l.toArray⟩

section
variable {q : Md} {P : Program} {F : Hp} {n : Nat} {Q : Post} {σ : Sl} {H R : List HProp} {ops : Array Oper} {rest : List Oper}
variable {d : Nat} {ty : TypeId} {pos : String} {after : Array Edge} {T U : TypeId} {x y z : Operand}

theorem St.allocOwn {α : Type} {w : World} {E k len : Nat} {enc : α → List Value} {l : List α} {cs : List Value} (s : St F H w) (hcs : cs = l.flatMap enc) (hk : cs.length = len * k) (hl : l.length = len) (hm : len ≤ maxLen) :
    St F (Own E k enc (some ⟨w.heap.size, 0, none⟩) len l :: H) (w.alloc (.cells cs.toArray E)) := by
  refine s.grow ⟨Hp.one w.heap.size (.cells cs.toArray E), ?_, ?_, ?_, ?_⟩
  · unfold Own
    rw [← hcs]
    refine ⟨by rw [hk, hl], .inr ⟨w.heap.size, cs.toArray, rfl, Hp.one_self _ _, by omega, hm, by simp [hk], ?_⟩⟩
    rw [hl, ← hk]; simp
  · intro k v e; obtain ⟨rfl, rfl⟩ := Hp.one_some e; exact heap_alloc_new w _
  · intro k v e; obtain ⟨rfl, rfl⟩ := Hp.one_some e; exact Nat.le_refl _
  · intro k v e; rw [heap_alloc_old w _ (Array.getElem?_eq_some_iff.1 e).1]; exact e

omit [Obs] in
theorem run_bslice {w : World} {E k len : Nat} {zs us : List Value} {parts : Array (Nat × Value)} (he : slEl P T = some E) (hk : szOf P E = some k) (hz : zc P E = some zs) (hzl : zs.length = k) (h0 : 0 < k) (hp : parts.toList = (us.zipIdx 0).map fun x => (x.2, x.1)) (hl : us.length = len) (hu : ∀ v ∈ us, v.cells.size = k)
    (hlen : 0 < len) (hs : len * k ≤ 16777216) : (Instr.buildSlice T len parts).run P w = .ok (.slice (some ⟨w.heap.size, 0, none⟩) len len) (w.alloc (.cells (us.flatMap fun v => v.cells.toList).toArray E)) := by
  unfold szOf at hk
  unfold zc at hz
  cases hi : P.info? E with
  | none => rw [hi] at hk; cases hk
  | some ie =>
    rw [hi] at hk hz
    simp only [Option.map_some, Option.some.injEq, Option.bind_some] at hk hz
    subst hk
    cases hzz : ie.zero with
    | none => rw [hzz] at hz; cases hz
    | some zv =>
      rw [hzz] at hz
      simp only [Option.map_some, Option.some.injEq] at hz
      have hpos : 0 < len * ie.size := Nat.mul_pos hlen h0
      refine run_buildSlice w T E len parts _ ie zv (slEl_eq he) hi hzz (by omega) (by omega) ?_
      rw [hp]
      exact Great.fill_whole h0 us _ hu (by simp [hl])

omit [Obs] in
theorem parts_of {a : Act} (f : Fits n σ a) {parts : Array (Nat × Operand)} {us : List Value} {len : Nat} (hx : evs σ (parts.toList.map (·.2)) = some us) (hi : parts.toList.map (·.1) = List.range len) :
    us.length = len ∧ (parts.map fun (i, x) => (i, a.eval x)).toList = (us.zipIdx 0).map fun x => (x.2, x.1) := by
  have e0 := f.evals hx
  have hl : us.length = len := by
    have h1 := congrArg List.length e0
    have h2 := congrArg List.length hi
    simp at h1 h2; omega
  refine ⟨hl, ?_⟩
  rw [Array.toList_map]
  have e1 : parts.toList = (parts.toList.map (·.1)).zip (parts.toList.map (·.2)) := by
    generalize parts.toList = l
    induction l with
    | nil => rfl
    | cons q r ih => simp only [List.map_cons, List.zip_cons_cons, ← ih]
  apply List.ext_getElem?
  intro j
  have hj1 := congrArg (fun l => l[j]?) hi
  have hj0 := congrArg (fun l => l[j]?) e0
  simp only [List.getElem?_map] at hj1 hj0
  simp only [List.getElem?_map, List.getElem?_zipIdx]
  cases hp : parts.toList[j]? with
  | none =>
    rw [hp] at hj0
    simp only [Option.map_none] at hj0
    simp [← hj0]
  | some p =>
    rw [hp] at hj0 hj1
    simp only [Option.map_some] at hj0 hj1
    rw [← hj0]
    have hjl : j < len := by
      have := (List.getElem?_eq_some_iff.1 hj1.symm).1
      simpa using this
    rw [List.getElem?_range hjl] at hj1
    cases hj1
    simp

/-- a slice literal whose elements have one cell -/
theorem TrL.buildSlF {parts : Array (Nat × Operand)} {len E : Nat} {us zs : List Value} (hd : Nat.ble (d + 1) n = true) (hx : evs σ (parts.toList.map (·.2)) = some us) (hi : parts.toList.map (·.1) = List.range len) (he : slEl P T = some E) (hk : szOf P E = some 1) (hz : zc P E = some zs)
    (hzl : zs.length = 1) (h1 : ones us = true) (hlen : (Nat.ble 1 len && Nat.ble len 10000) = true) (h : ∀ b, TrL .eff P F n ops Q rest ((d, .slice (some ⟨b, 0, none⟩) len len) :: σ) (cl b us E :: H)) :
    TrL .eff P F n ops Q (⟨some d, .buildSlice T len parts, ty, pos, after, none⟩ :: rest) σ H :=
  TrL.op hd fun a w f s => by
    obtain ⟨hl, hp⟩ := parts_of f hx hi
    have hb : 1 ≤ len ∧ len ≤ 10000 := by
      simp only [Bool.and_eq_true] at hlen
      exact ⟨Nat.le_of_ble_eq_true hlen.1, Nat.le_of_ble_eq_true hlen.2⟩
    have hc : ∀ v ∈ us, v.cells = #[v] := fun v hv => by
      have := ones_all h1 v hv
      cases v <;> first | rfl | (simp [Value.oneCell'] at this)
    have hr := run_bslice (P := P) (T := T) (w := w) he hk hz hzl (by omega) hp hl (fun v hv => by rw [hc v hv]; rfl) hb.1 (by omega)
    have e : (us.flatMap fun v => v.cells.toList) = us := by
      clear hr hp hl h1 hx h
      induction us with
      | nil => rfl
      | cons v r ih => simp [hc v (by simp), ih (fun u hu => hc u (by simp [hu]))]
    rw [e] at hr
    exact ⟨_, _, _, by simp only [execOp, Sem.run_bind, hr, Result.andThen_ok, Sem.run_pure], s.alloc _, h w.heap.size⟩
/-- .. of one element of several cells -/
theorem TrL.buildSlA {x : Operand} {E k : Nat} {vs zs : List Value} (hd : Nat.ble (d + 1) n = true) (hx : ev σ x = some (.agg vs.toArray)) (he : slEl P T = some E) (hk : szOf P E = some k) (hz : zc P E = some zs)
    (hzl : zs.length = k) (hv : vs.length = k) (h0 : (Nat.ble 1 k && Nat.ble k 10000) = true) (h : ∀ b, TrL .eff P F n ops Q rest ((d, .slice (some ⟨b, 0, none⟩) 1 1) :: σ) (cl b vs E :: H)) :
    TrL .eff P F n ops Q (⟨some d, .buildSlice T 1 #[(0, x)], ty, pos, after, none⟩ :: rest) σ H :=
  TrL.op hd fun a w f s => by
    have hb : 1 ≤ k ∧ k ≤ 10000 := by
      simp only [Bool.and_eq_true] at h0
      exact ⟨Nat.le_of_ble_eq_true h0.1, Nat.le_of_ble_eq_true h0.2⟩
    have hr := run_bslice (P := P) (T := T) (w := w) (us := [.agg vs.toArray]) (parts := #[(0, .agg vs.toArray)]) he hk hz hzl (by omega) rfl rfl (fun v hv' => by simp at hv'; subst hv'; simp [Value.cells, hv]) (len := 1) (by omega) (by omega)
    refine ⟨_, w.alloc (.cells vs.toArray E), _, ?_, s.alloc _, h w.heap.size⟩
    have e : ([Value.agg vs.toArray].flatMap fun v => v.cells.toList) = vs := by simp [Value.cells]
    rw [e] at hr
    simp only [execOp, List.map_toArray, List.map_cons, List.map_nil, f.eval hx, Sem.run_bind, hr, Result.andThen_ok, Sem.run_pure]

/-! ### conversions -/
theorem TrL.convI {k k' : IntKind} {a : Int} (hd : Nat.ble (d + 1) n = true) (hx : ev σ x = some (.int k a)) (hs : scal P T = true) (ht : intT P U = some k') (h : TrL q P F n ops Q rest ((d, .int k' (k'.wrap a)) :: σ) H) :
    TrL q P F n ops Q (⟨some d, .convert T U x, ty, pos, after, none⟩ :: rest) σ H :=
  TrL.pure hd _ (fun c w f _ => by
    have hi : (P.underlying T).isSome = true := by
      unfold scal at hs
      cases hu : P.underlying T with
      | none => rw [hu] at hs; simp at hs
      | some _ => rfl
    have : (convert T U (.int k a)).run P w = .ok (.int k' (k'.wrap a)) w := by
      have := run_convert_int (P := P) T U k a (w := w) hi
      obtain ⟨t0, ht0⟩ := Option.isSome_iff_exists.1 hi
      simp [convert, run_underlying ht0, run_underlying (intT_eq ht), Conv.intToInt]
    simp only [execOp, f.eval hx, Sem.run_bind, this, Result.andThen_ok, Sem.run_pure]) h

/-- what a slice of bytes holds, as a text -/
theorem TrL.convBS {p : Option Addr} {len cap : Nat} {E : TypeId} {l : List UInt8} (hd : Nat.ble (d + 1) n = true) (hx : ev σ x = some (.slice p len cap)) (hT : slEl P T = some E) (hE : intT P E = some .u8) (hU : isStr P U = true)
    (hs : Sees F H fun f => SlIn f encB 1 p l) (hl : len = l.length) (h : TrL q P F n ops Q rest ((d, .string (strOf l)) :: σ) H) : TrL q P F n ops Q (⟨some d, .convert T U x, ty, pos, after, none⟩ :: rest) σ H :=
  TrL.pure hd _ (fun a w f s => by
    subst hl
    have hr : (convert T U (.slice p l.length cap)).run P w = .ok (.string (strOf l)) w := by
      rcases hs w s with rfl | ⟨b, o, rfl, hc, _⟩
      · rw [run_convert_bytes_string w T U E p _ cap (slEl_eq hT) (intT_eq hE) (isStr_eq hU)]
        cases p with
        | none => rfl
        | some a => rfl
      · exact run_convert_bytes_back w T U E ⟨b, o, none⟩ cap l (slEl_eq hT) (intT_eq hE) (isStr_eq hU) (fun j hj => by
          rw [addr_add]
          refine hc.cell ?_
          rw [flatB]; simp [hj])
    simp only [execOp, f.eval hx, Sem.run_bind, hr, Result.andThen_ok, Sem.run_pure]) h

/-! ### parts of texts -/
theorem TrL.subS {lo hi : Operand} {s : ByteArray} {kl kh : IntKind} {a b : Int} {i j : Nat} (hd : Nat.ble (d + 1) n = true) (hx : ev σ x = some (.string s)) (hlo : ev σ lo = some (.int kl a)) (hhi : ev σ hi = some (.int kh b)) (ht : isStr P T = true) (ha : a = (i : Int)) (hb : b = (j : Int)) (h1 : i ≤ j) (h2 : j ≤ s.size)
    (h : TrL q P F n ops Q rest ((d, .string (s.extract i j)) :: σ) H) : TrL q P F n ops Q (⟨some d, .slice T x (some lo) (some hi) none, ty, pos, after, none⟩ :: rest) σ H :=
  TrL.pure hd _ (fun c w f _ => by
    subst ha hb
    have e1 : (0 : Int) ≤ (i : Int) ∧ (i : Int) ≤ (j : Int) := ⟨by omega, by omega⟩
    have e2 : (0 : Int) ≤ (j : Int) ∧ (j : Int) ≤ (s.size : Int) := ⟨by omega, by omega⟩
    simp [execOp, f.eval hx, f.eval hlo, f.eval hhi, run_sliceAt_string w T _ _ _ _ (isStr_eq ht), Instr.slice, run_underlying (isStr_eq ht), Instr.sliceBounds, Instr.sliceBound, asIntOf, h1, h2]) h
theorem TrL.subSl {lo : Operand} {s : ByteArray} {kl : IntKind} {a : Int} {i : Nat} (hd : Nat.ble (d + 1) n = true) (hx : ev σ x = some (.string s)) (hlo : ev σ lo = some (.int kl a)) (ht : isStr P T = true) (ha : a = (i : Int)) (h2 : i ≤ s.size)
    (h : TrL q P F n ops Q rest ((d, .string (s.extract i s.size)) :: σ) H) : TrL q P F n ops Q (⟨some d, .slice T x (some lo) none none, ty, pos, after, none⟩ :: rest) σ H :=
  TrL.pure hd _ (fun c w f _ => by
    subst ha
    simp [execOp, f.eval hx, f.eval hlo, run_sliceAt_string w T _ _ _ _ (isStr_eq ht), Instr.slice, run_underlying (isStr_eq ht), Instr.sliceBounds, Instr.sliceBound, asIntOf, h2]) h
theorem TrL.subSh {hi : Operand} {s : ByteArray} {kh : IntKind} {b : Int} {j : Nat} (hd : Nat.ble (d + 1) n = true) (hx : ev σ x = some (.string s)) (hhi : ev σ hi = some (.int kh b)) (ht : isStr P T = true) (hb : b = (j : Int)) (h2 : j ≤ s.size)
    (h : TrL q P F n ops Q rest ((d, .string (s.extract 0 j)) :: σ) H) : TrL q P F n ops Q (⟨some d, .slice T x none (some hi) none, ty, pos, after, none⟩ :: rest) σ H :=
  TrL.pure hd _ (fun c w f _ => by
    subst hb
    simp [execOp, f.eval hx, f.eval hhi, run_sliceAt_string w T _ _ _ _ (isStr_eq ht), Instr.slice, run_underlying (isStr_eq ht), Instr.sliceBounds, Instr.sliceBound, asIntOf, h2]) h
end
end Go.Proofs.Ytiefmfimbmkdjaa

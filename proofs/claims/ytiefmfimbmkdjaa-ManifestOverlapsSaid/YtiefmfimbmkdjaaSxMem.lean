/-
  Symbolic execution: memory, calls, returns.
  No condition; plain lemmas.
-/
import Derived.Test.YtiefmfimbmkdjaaSxOps
namespace Go.Proofs.Ytiefmfimbmkdjaa
set_option linter.unusedSimpArgs false
set_option linter.unusedVariables false
set_option linter.unusedSectionVars false
open Go.RowKit
variable [Obs]

/-! ### lists of cells, by structure (so that they reckon) -/
def nv : List Value → Nat → Option Value
  | [], _ => none
  | x :: _, 0 => some x
  | _ :: r, i + 1 => nv r i
def setv : List Value → Nat → Value → Option (List Value)
  | [], _, _ => none
  | _ :: r, 0, v => some (v :: r)
  | x :: r, i + 1, v => match setv r i v with
    | some r' => some (x :: r')
    | none => none
def tkv : List Value → Nat → Option (List Value)
  | _, 0 => some []
  | [], _ + 1 => none
  | x :: r, i + 1 => match tkv r i with
    | some r' => some (x :: r')
    | none => none
def dpv : List Value → Nat → Option (List Value)
  | l, 0 => some l
  | [], _ + 1 => none
  | _ :: r, i + 1 => dpv r i
/-- 'k' cells from 'off' on -/
def cutv (cs : List Value) (off k : Nat) : Option (List Value) := match dpv cs off with
  | some r => tkv r k
  | none => none
/-- the cells from 'off' on give way to others -/
def setvs : List Value → Nat → List Value → Option (List Value)
  | cs, _, [] => some cs
  | cs, off, v :: r => match setv cs off v with
    | some cs' => setvs cs' (off + 1) r
    | none => none
def ones : List Value → Bool
  | [] => true
  | v :: r => v.oneCell' && ones r

omit [Obs] in
theorem nv_eq : ∀ (cs : List Value) (i : Nat), nv cs i = cs[i]?
  | [], _ => rfl
  | _ :: _, 0 => rfl
  | _ :: r, i + 1 => by simp [nv, nv_eq r i]
omit [Obs] in
theorem setv_eq : ∀ {cs : List Value} {i : Nat} {v : Value} {cs' : List Value}, setv cs i v = some cs' → i < cs.length ∧ cs' = cs.set i v
  | [], _, _, _, h => nomatch h
  | _ :: r, 0, v, cs', h => by simp only [setv, Option.some.injEq] at h; subst h; simp
  | x :: r, i + 1, v, cs', h => by
    unfold setv at h
    split at h
    · rename_i r' e
      obtain ⟨h1, h2⟩ := setv_eq e
      cases h; subst h2
      exact ⟨by simp; omega, rfl⟩
    · cases h
omit [Obs] in
theorem tkv_eq : ∀ {cs : List Value} {k : Nat} {r : List Value}, tkv cs k = some r → k ≤ cs.length ∧ r = cs.take k
  | _, 0, _, h => by simp only [tkv, Option.some.injEq] at h; subst h; simp
  | [], _ + 1, _, h => nomatch h
  | x :: l, k + 1, r, h => by
    unfold tkv at h
    split at h
    · rename_i r' e
      obtain ⟨h1, h2⟩ := tkv_eq e
      cases h; subst h2
      exact ⟨by simp; omega, rfl⟩
    · cases h
omit [Obs] in
theorem dpv_eq : ∀ {cs : List Value} {k : Nat} {r : List Value}, dpv cs k = some r → k ≤ cs.length ∧ r = cs.drop k
  | cs, 0, _, h => by simp only [dpv, Option.some.injEq] at h; subst h; simp
  | [], _ + 1, _, h => nomatch h
  | x :: l, k + 1, r, h => by
    unfold dpv at h
    obtain ⟨h1, h2⟩ := dpv_eq h
    exact ⟨by simp; omega, by simpa using h2⟩
omit [Obs] in
theorem cutv_eq {cs : List Value} {off k : Nat} {r : List Value} (h : cutv cs off k = some r) : off + k ≤ cs.length ∧ r = (cs.drop off).take k := by
  unfold cutv at h
  split at h
  · rename_i l e
    obtain ⟨h1, rfl⟩ := dpv_eq e
    obtain ⟨h2, h3⟩ := tkv_eq h
    simp only [List.length_drop] at h2
    exact ⟨by omega, h3⟩
  · cases h
omit [Obs] in
theorem setvs_eq : ∀ {vs cs : List Value} {off : Nat} {cs' : List Value}, setvs cs off vs = some cs' → off + vs.length ≤ cs.length ∨ vs = [] → cs' = cs.take off ++ vs ++ cs.drop (off + vs.length)
  | [], cs, off, cs', h, _ => by simp only [setvs, Option.some.injEq] at h; subst h; simp
  | v :: r, cs, off, cs', h, hl => by
    unfold setvs at h
    split at h
    · rename_i l e
      obtain ⟨h1, rfl⟩ := setv_eq e
      have hl' : off + (v :: r).length ≤ cs.length := hl.resolve_right (by simp)
      simp only [List.length_cons] at hl'
      have hl2 : off + 1 + r.length ≤ (cs.set off v).length := by rw [List.length_set]; omega
      have := setvs_eq h (.inl hl2)
      rw [this]
      have e2 := list_seg_step cs off v r (by omega)
      simpa using e2
    · cases h
omit [Obs] in
theorem setvs_len : ∀ {vs cs : List Value} {off : Nat} {cs' : List Value}, setvs cs off vs = some cs' → vs ≠ [] → off + vs.length ≤ cs.length
  | [], _, _, _, _, h => (h rfl).elim
  | [v], cs, off, cs', h, _ => by
    unfold setvs at h
    split at h
    · rename_i l e
      obtain ⟨h1, rfl⟩ := setv_eq e
      simp only [List.length_cons, List.length_nil]; omega
    · cases h
  | v :: u :: r, cs, off, cs', h, _ => by
    unfold setvs at h
    split at h
    · rename_i l e
      obtain ⟨h1, rfl⟩ := setv_eq e
      have := setvs_len h (by simp)
      simp at this ⊢; omega
    · cases h
omit [Obs] in
theorem ones_all : ∀ {vs : List Value}, ones vs = true → ∀ v ∈ vs, v.oneCell' = true
  | [], _, _, h => nomatch h
  | v :: r, h, u, hu => by
    simp only [ones, Bool.and_eq_true] at h
    cases hu with
    | head => exact h.1
    | tail _ hm => exact ones_all h.2 u hm

/-! ### what a type's row says, reckoned by the kernel once a type -/
def szOf (P : Program) (T : TypeId) : Option Nat := (P.info? T).map (·.size)
def scal (P : Program) (T : TypeId) : Bool := match P.underlying T with
  | some (.struct _) | some (.array _ _) | none => false
  | some _ => true
def aggr (P : Program) (T : TypeId) : Bool := match P.underlying T with
  | some (.struct _) | some (.array _ _) => true
  | _ => false
def zc (P : Program) (T : TypeId) : Option (List Value) := ((P.info? T).bind (·.zero)).map (·.cells.toList)
def fld (P : Program) (S : TypeId) (i : Nat) : Option Nat := match P.underlying S with
  | some (.struct fs) => (fs[i]?).bind fun f => match P.info? f.type with
    | some t => if t.size = 0 then none else some f.offset
    | none => none
  | _ => none
def isStr (P : Program) (T : TypeId) : Bool := match P.underlying T with
  | some .string => true
  | _ => false
def slEl (P : Program) (T : TypeId) : Option TypeId := match P.underlying T with
  | some (.slice e) => some e
  | _ => none
def mapT (P : Program) (T : TypeId) : Option (TypeId × TypeId) := match P.underlying T with
  | some (.map k e) => some (k, e)
  | _ => none
def intT (P : Program) (T : TypeId) : Option IntKind := match P.underlying T with
  | some (.int k) => some k
  | _ => none

omit [Obs] in
theorem isStr_eq {P : Program} {T : TypeId} (h : isStr P T = true) : P.underlying T = some .string := by
  unfold isStr at h; split at h
  · assumption
  · cases h
omit [Obs] in
theorem slEl_eq {P : Program} {T e : TypeId} (h : slEl P T = some e) : P.underlying T = some (.slice e) := by
  unfold slEl at h; split at h
  · rename_i e' he; cases h; exact he
  · cases h
omit [Obs] in
theorem mapT_eq {P : Program} {T k e : TypeId} (h : mapT P T = some (k, e)) : P.underlying T = some (.map k e) := by
  unfold mapT at h; split at h
  · rename_i k' e' he; cases h; exact he
  · cases h
omit [Obs] in
theorem intT_eq {P : Program} {T : TypeId} {k : IntKind} (h : intT P T = some k) : P.underlying T = some (.int k) := by
  unfold intT at h; split at h
  · rename_i e' he; cases h; exact he
  · cases h
omit [Obs] in
theorem isAgg_scal {P : Program} {T : TypeId} (h : scal P T = true) (w : World) : (isAgg T).run P w = .ok false w := by
  unfold scal at h
  split at h
  · cases h
  · cases h
  · cases h
  · rename_i d h1 h2 hd
    simp only [isAgg, Sem.run_bind, run_underlying hd, Result.andThen_ok]
    cases d <;> simp_all
omit [Obs] in
theorem isAgg_aggr {P : Program} {T : TypeId} (h : aggr P T = true) (w : World) : (isAgg T).run P w = .ok true w := by
  unfold aggr at h
  split at h
  · rename_i hd; simp [isAgg, run_underlying hd]
  · rename_i hd; simp [isAgg, run_underlying hd]
  · cases h
omit [Obs] in
theorem sizeOf_run {P : Program} {T : TypeId} {k : Nat} (h : szOf P T = some k) (w : World) : (sizeOf T).run P w = .ok k w := by
  unfold szOf at h
  cases hi : P.info? T with
  | none => rw [hi] at h; cases h
  | some i => rw [hi] at h; simp only [Option.map_some, Option.some.injEq] at h; simp [sizeOf, typeInfo, hi, h]
omit [Obs] in
theorem zero_run {P : Program} {T : TypeId} {cs : List Value} (h : zc P T = some cs) (w : World) : ∃ z, (zeroValue T).run P w = .ok z w ∧ z.cells = cs.toArray := by
  unfold zc at h
  cases hi : P.info? T with
  | none => rw [hi] at h; cases h
  | some i =>
    rw [hi] at h
    simp only [Option.bind_some] at h
    cases hz : i.zero with
    | none => rw [hz] at h; cases h
    | some z =>
      rw [hz] at h
      simp only [Option.map_some, Option.some.injEq] at h
      exact ⟨z, by simp [zeroValue, typeInfo, hi, hz], by rw [← h]⟩

/-! ### a block of cells -/
def cl (b : Nat) (cs : List Value) (T : TypeId) : HProp := pt b (.cells cs.toArray T (0, 0))
/-- the cells lie at 'off' in block 'b' -/
def Cells (f : Hp) (b off : Nat) (vs : List Value) : Prop := ∃ c T fr, f b = some (.cells c T fr) ∧ ∀ j u, vs[j]? = some u → c[off + j]? = some u
omit [Obs] in
theorem Cells.mono (b off : Nat) (vs : List Value) : Mono fun f => Cells f b off vs := fun _ _ l ⟨c, T, fr, h, hc⟩ => ⟨c, T, fr, l _ _ h, hc⟩
omit [Obs] in
theorem Cells.cell {w : World} {b off : Nat} {vs : List Value} (h : Cells (hpOf w) b off vs) {j : Nat} {u : Value} (hj : vs[j]? = some u) : w.cell? ⟨b, off + j, none⟩ = some u := by
  obtain ⟨c, T, fr, hb, hc⟩ := h
  have hb' : w.heap[b]? = some (.cells c T fr) := hb
  simp [World.cell?, hb', hc j u hj]
/-- what every state says -/
def Sees (F : Hp) (H : List HProp) (p : Hp → Prop) : Prop := ∀ w, St F H w → p (hpOf w)
theorem Sees.ofF {F : Hp} {H : List HProp} {p : Hp → Prop} (m : Mono p) (h : p F) : Sees F H p := fun _ ⟨_, _, _, l, _⟩ => m _ _ l h
theorem Sees.ofChunk {F : Hp} {H R : List HProp} {p : Hp → Prop} {c : HProp} (m : Mono p) (pk : Pick c H R) (h : ∀ f, c f → p f) : Sees F H p := fun _ s =>
  let ⟨_, hc, l⟩ := s.chunk pk; m _ _ l (h _ hc)
theorem Sees.clA {F : Hp} {H R : List HProp} {b : Nat} {cs : List Value} {T : TypeId} (pk : Pick (cl b cs T) H R) {off k : Nat} {vs : List Value} (h : cutv cs off k = some vs) : Sees F H fun f => Cells f b off vs :=
  Sees.ofChunk (Cells.mono _ _ _) pk fun f hf => ⟨cs.toArray, T, (0, 0), hf, fun j u e => by
    obtain ⟨_, rfl⟩ := cutv_eq h
    simp only [List.getElem?_take] at e
    split at e
    · simpa using e
    · cases e⟩
theorem Sees.cl1 {F : Hp} {H R : List HProp} {b : Nat} {cs : List Value} {T : TypeId} (pk : Pick (cl b cs T) H R) {off : Nat} {v : Value} (h : nv cs off = some v) : Sees F H fun f => Cells f b off [v] :=
  Sees.ofChunk (Cells.mono _ _ _) pk fun f hf => ⟨cs.toArray, T, (0, 0), hf, fun j u e => by
    rw [nv_eq] at h
    cases j with
    | zero => simp at e; subst e; simpa using h
    | succ j => simp at e⟩

omit [Obs] in
theorem addr_add (b off n : Nat) : (⟨b, off, none⟩ : Addr).add n = ⟨b, off + n, none⟩ := by unfold Addr.add; split <;> simp_all

section
variable {q : Md} {P : Program} {F : Hp} {n : Nat} {Q : Post} {σ : Sl} {H : List HProp} {ops : Array Oper} {rest : List Oper}
variable {d : Nat} {ty : TypeId} {pos : String} {after : Array Edge} {T U : TypeId} {x y : Operand}

theorem TrL.alloc {cs : List Value} (hd : Nat.ble (d + 1) n = true) (hz : zc P T = some cs) (h : ∀ b, TrL .eff P F n ops Q rest ((d, .pointer (some ⟨b, 0, none⟩)) :: σ) (cl b cs T :: H)) :
    TrL .eff P F n ops Q (⟨some d, .alloc T, ty, pos, after, none⟩ :: rest) σ H :=
  TrL.op hd fun a w _ s => by
    obtain ⟨z, hr, hzc⟩ := zero_run hz w
    refine ⟨_, w.alloc (.cells cs.toArray T), _, ?_, s.alloc _, h w.heap.size⟩
    simp [execOp, Instr.alloc, hr, newVar, newRow, newObj, Sem.run, hzc]

omit [Obs] in
theorem run_box (w : World) (v : Value) : (Instr.box T v).run P w = .ok (.pointer (some ⟨w.heap.size, 0, none⟩)) (w.alloc (.cells v.cells T)) := by
  simp [Instr.box, newVar, newRow, newObj, Sem.run]
theorem TrL.box1 {v : Value} (hd : Nat.ble (d + 1) n = true) (hx : ev σ x = some v) (h1 : v.oneCell' = true) (h : ∀ b, TrL .eff P F n ops Q rest ((d, .pointer (some ⟨b, 0, none⟩)) :: σ) (cl b [v] T :: H)) :
    TrL .eff P F n ops Q (⟨some d, .box T x, ty, pos, after, none⟩ :: rest) σ H :=
  TrL.op hd fun a w f s => by
    have hv : v.cells = [v].toArray := by cases v <;> first | rfl | (simp [Value.oneCell'] at h1)
    exact ⟨_, w.alloc (.cells [v].toArray T), _, by simp only [execOp, f.eval hx, Sem.run_bind, run_box, Result.andThen_ok, Sem.run_pure, hv], s.alloc _, h w.heap.size⟩
theorem TrL.boxA {cs : List Value} (hd : Nat.ble (d + 1) n = true) (hx : ev σ x = some (.agg cs.toArray)) (h : ∀ b, TrL .eff P F n ops Q rest ((d, .pointer (some ⟨b, 0, none⟩)) :: σ) (cl b cs T :: H)) :
    TrL .eff P F n ops Q (⟨some d, .box T x, ty, pos, after, none⟩ :: rest) σ H :=
  TrL.op hd fun a w f s => ⟨_, w.alloc (.cells cs.toArray T), _, by simp only [execOp, f.eval hx, Sem.run_bind, run_box, Result.andThen_ok, Sem.run_pure, Value.cells], s.alloc _, h w.heap.size⟩

omit [Obs] in
theorem run_load1 {w : World} {b off : Nat} {v : Value} (ht : scal P T = true) (hc : w.cell? ⟨b, off, none⟩ = some v) : (Instr.loadAt T (.pointer (some ⟨b, off, none⟩))).run P w = .ok v w := by
  simp [Instr.loadAt, Instr.sureAddr, loadVar, isAgg_scal ht, hc]
omit [Obs] in
theorem run_loadA {w : World} {b off : Nat} {vs : List Value} (ht : aggr P T = true) (hk : szOf P T = some vs.length) (hc : ∀ j u, vs[j]? = some u → w.cell? ⟨b, off + j, none⟩ = some u) :
    (Instr.loadAt T (.pointer (some ⟨b, off, none⟩))).run P w = .ok (.agg vs.toArray) w := by
  have := run_loadCells_list (P := P) w ⟨b, off, none⟩ vs (fun j v e => by rw [addr_add]; exact hc j v e)
  simp [Instr.loadAt, Instr.sureAddr, loadVar, isAgg_aggr ht, sizeOf_run hk, this]
theorem TrL.load1 {b off : Nat} {v : Value} (hd : Nat.ble (d + 1) n = true) (hx : ev σ x = some (.pointer (some ⟨b, off, none⟩))) (ht : scal P T = true) (hs : Sees F H fun f => Cells f b off [v])
    (h : TrL q P F n ops Q rest ((d, v) :: σ) H) : TrL q P F n ops Q (⟨some d, .load T x, ty, pos, after, none⟩ :: rest) σ H :=
  TrL.pure hd v (fun a w f s => by
    have hc : w.cell? ⟨b, off, none⟩ = some v := (hs w s).cell (j := 0) rfl
    simp only [execOp, f.eval hx, Sem.run_bind, run_load1 ht hc, Result.andThen_ok, Sem.run_pure]) h
theorem TrL.loadA {b off : Nat} {vs : List Value} (hd : Nat.ble (d + 1) n = true) (hx : ev σ x = some (.pointer (some ⟨b, off, none⟩))) (ht : aggr P T = true) (hk : szOf P T = some vs.length) (hs : Sees F H fun f => Cells f b off vs)
    (h : TrL q P F n ops Q rest ((d, .agg vs.toArray) :: σ) H) : TrL q P F n ops Q (⟨some d, .load T x, ty, pos, after, none⟩ :: rest) σ H :=
  TrL.pure hd _ (fun a w f s => by
    have hc := run_loadA (T := T) ht hk (fun j u e => (hs w s).cell (j := j) e)
    simp only [execOp, f.eval hx, Sem.run_bind, hc, Result.andThen_ok, Sem.run_pure]) h

omit [Obs] in
theorem run_store {w : World} {b off : Nat} {v : Value} {cs vs cs' : List Value} {E : TypeId} (hk : szOf P T = some vs.length) (hb : w.heap[b]? = some (.cells cs.toArray E (0, 0))) (hv : v.cells = vs.toArray) (h1 : ones vs = true) (hs : setvs cs off vs = some cs') (hne : vs ≠ []) :
    (Instr.storeAt T (.pointer (some ⟨b, off, none⟩)) v).run P w = .ok () (w.setRow b cs'.toArray) := by
  have hl := setvs_len hs hne
  have he := setvs_eq hs (.inl hl)
  have hr := run_storeCells_at P b off E vs 0 cs.toArray w hb (by simpa using hl) (ones_all h1)
  simp only [Nat.add_zero] at hr
  simp [Instr.storeAt, Instr.sureAddr, storeVar, sizeOf_run hk, hv, hr, he]
theorem TrL.storeG {b off : Nat} {v : Value} {cs vs cs' : List Value} {E : TypeId} {H' : List HProp} (hx : ev σ x = some (.pointer (some ⟨b, off, none⟩))) (hy : ev σ y = some v) (hk : szOf P T = some vs.length) (hu : Upd (cl b cs E) (cl b cs' E) H H')
    (hv : v.cells = vs.toArray) (h1 : ones vs = true) (hs : setvs cs off vs = some cs') (hne : vs ≠ []) (h : TrL .eff P F n ops Q rest σ H') : TrL .eff P F n ops Q (⟨none, .store T x y, ty, pos, after, none⟩ :: rest) σ H :=
  TrL.op0 fun a w f s => by
    obtain ⟨R, p, _⟩ := hu.split
    have hb := s.pt_at p
    refine ⟨.skip, w.setRow b cs'.toArray, H', ?_, .inl rfl, ?_, h⟩
    · simp only [execOp, f.eval hx, f.eval hy, Sem.run_bind, run_store hk hb hv h1 hs hne, Result.andThen_ok, Sem.run_pure]
    · exact s.put hu (setRow_heap w b _ _ _ _ hb) (fun k hk => setRow_other w b k _ hk)
theorem TrL.store1 {b off : Nat} {v : Value} {cs cs' : List Value} {E : TypeId} {H' : List HProp} (hx : ev σ x = some (.pointer (some ⟨b, off, none⟩))) (hy : ev σ y = some v) (hk : szOf P T = some 1) (h1 : v.oneCell' = true) (hu : Upd (cl b cs E) (cl b cs' E) H H')
    (hs : setvs cs off [v] = some cs') (h : TrL .eff P F n ops Q rest σ H') : TrL .eff P F n ops Q (⟨none, .store T x y, ty, pos, after, none⟩ :: rest) σ H :=
  TrL.storeG hx hy (vs := [v]) hk hu (by cases v <;> first | rfl | (simp [Value.oneCell'] at h1)) (by simp [ones, h1]) hs (by simp) h
theorem TrL.storeA {b off : Nat} {cs vs cs' : List Value} {E : TypeId} {H' : List HProp} (hx : ev σ x = some (.pointer (some ⟨b, off, none⟩))) (hy : ev σ y = some (.agg vs.toArray)) (hk : szOf P T = some vs.length) (h1 : ones vs = true) (hne : vs ≠ []) (hu : Upd (cl b cs E) (cl b cs' E) H H')
    (hs : setvs cs off vs = some cs') (h : TrL .eff P F n ops Q rest σ H') : TrL .eff P F n ops Q (⟨none, .store T x y, ty, pos, after, none⟩ :: rest) σ H :=
  TrL.storeG hx hy (vs := vs) hk hu rfl h1 hs hne h

omit [Obs] in
theorem run_field {w : World} {i off : Nat} {b o : Nat} (h : fld P T i = some off) : (Instr.fieldAt T (.pointer (some ⟨b, o, none⟩)) i).run P w = .ok (.pointer (some ⟨b, o + off, none⟩)) w := by
  unfold fld at h
  split at h
  · rename_i fs hu
    cases hf : fs[i]? with
    | none => rw [hf] at h; cases h
    | some f =>
      rw [hf] at h
      simp only [Option.bind_some] at h
      split at h
      · rename_i t ht
        split at h
        · cases h
        · rename_i hsz
          simp only [Option.some.injEq] at h
          subst h
          simp [Instr.fieldAt, run_underlying hu, hf, Instr.sureAddr, fieldPlace, sizeOf, typeInfo, ht, hsz, addr_add]
      · cases h
  · cases h
theorem TrL.field0 {b o i : Nat} (hd : Nat.ble (d + 1) n = true) (hx : ev σ x = some (.pointer (some ⟨b, o, none⟩))) (hf : fld P T i = some 0) (h : TrL q P F n ops Q rest ((d, .pointer (some ⟨b, o, none⟩)) :: σ) H) :
    TrL q P F n ops Q (⟨some d, .fieldAddr T x i, ty, pos, after, none⟩ :: rest) σ H :=
  TrL.pure hd _ (fun a w f s => by simp only [execOp, f.eval hx, Sem.run_bind, run_field hf, Result.andThen_ok, Sem.run_pure, Nat.add_zero]) h
theorem TrL.field {b o i k : Nat} (hd : Nat.ble (d + 1) n = true) (hx : ev σ x = some (.pointer (some ⟨b, o, none⟩))) (hf : fld P T i = some k) (h : TrL q P F n ops Q rest ((d, .pointer (some ⟨b, o + k, none⟩)) :: σ) H) :
    TrL q P F n ops Q (⟨some d, .fieldAddr T x i, ty, pos, after, none⟩ :: rest) σ H :=
  TrL.pure hd _ (fun a w f s => by simp only [execOp, f.eval hx, Sem.run_bind, run_field hf, Result.andThen_ok, Sem.run_pure]) h

/-- an element's address -/
theorem TrL.indexAddr {b o len cap i size : Nat} {k : IntKind} {j : Int} {e : TypeId} (hd : Nat.ble (d + 1) n = true) (hx : ev σ x = some (.slice (some ⟨b, o, none⟩) len cap)) (hy : ev σ y = some (.int k j)) (he : slEl P T = some e) (hz : szOf P e = some size)
    (hj : j = (i : Int)) (hi : i < len) (h : TrL q P F n ops Q rest ((d, .pointer (some ⟨b, o + i * size, none⟩)) :: σ) H) : TrL q P F n ops Q (⟨some d, .indexAddr T x y, ty, pos, after, none⟩ :: rest) σ H :=
  TrL.pure hd _ (fun a w f s => by
    subst hj
    have hb : 0 ≤ (i : Int) ∧ (i : Int) < (len : Int) := ⟨by omega, by omega⟩
    simp [execOp, f.eval hx, f.eval hy, Instr.indexAt, asIntOf, run_underlying (slEl_eq he), sizeOf_run hz, hi, addr_add]) h
/-- a byte of a text -/
def byteAt (s : ByteArray) (i : Nat) : Int := (s.data.toList.getD i 0).toNat
theorem TrL.indexStr {s : ByteArray} {i : Nat} {k : IntKind} {j : Int} (hd : Nat.ble (d + 1) n = true) (hx : ev σ x = some (.string s)) (hy : ev σ y = some (.int k j)) (ht : isStr P T = true) (hj : j = (i : Int)) (hi : i < s.size)
    (h : TrL q P F n ops Q rest ((d, .int .u8 (byteAt s i)) :: σ) H) : TrL q P F n ops Q (⟨some d, .index T x y, ty, pos, after, none⟩ :: rest) σ H :=
  TrL.pure hd _ (fun a w f _ => by
    subst hj
    have h0 : s[i]? = some s[i] := by simp [hi]
    have h1 : s.data[i]?.getD 0 = s[i] := by
      have : s.data[i]? = some s[i] := by rw [Array.getElem?_eq_getElem (by simpa using hi)]; rfl
      rw [this]; rfl
    simp [execOp, f.eval hx, f.eval hy, Instr.index, asIntOf, run_underlying (isStr_eq ht), h0, byteAt, List.getD, h1]) h

/-! #### texts -/
section
variable {s t : ByteArray}
omit [Obs] in
theorem bytes_beq (s t : ByteArray) : (s.toList == t.toList) = decide (s = t) := by
  by_cases h : s = t
  · subst h; simp
  · have : s.toList ≠ t.toList := fun e => h (by
      have e1 : s.data.toList = t.data.toList := by simpa [ByteArray.toList_eq] using e
      exact ByteArray.ext (Array.ext' e1))
    simp [h, this]
/-- which of two texts comes first -/
def blt (s t : ByteArray) : Bool := Op.bytesLess s.data.toList t.data.toList
end
end
end Go.Proofs.Ytiefmfimbmkdjaa

/-
  Symbolic execution: elements of rows that the code owns: where they lie, how they are read and written; what is cleared; rows that are only read.
  No condition; plain lemmas.
-/
import Derived.Test.YtiefmfimbmkdjaaSxCut
import Derived.OrdersHeld
import Derived.Great.BuildSlice
namespace Go.Proofs.Ytiefmfimbmkdjaa
set_option linter.unusedSimpArgs false
set_option linter.unusedVariables false
set_option linter.unusedSectionVars false
open Go.RowKit
variable [Obs]

def blk (p : Option Addr) : Nat := match p with
  | some a => a.block
  | none => 0

section
variable {α : Type} {E k : Nat} {enc : α → List Value} {p : Option Addr} {cap : Nat} {l : List α}
theorem Own.base {h : Hp} (o : Own E k enc p cap l h) (hn : 0 < l.length) : p = some ⟨blk p, 0, none⟩ := by
  obtain ⟨_, ⟨_, h2, _⟩ | ⟨b, cur, rfl, _⟩⟩ := o
  · omega
  · rfl
theorem Own.at {h : Hp} (o : Own E k enc p cap l h) (hk : ∀ x, (enc x).length = k) {i : Nat} {x : α} (hi : l[i]? = some x) : Cells h (blk p) (i * k) (enc x) := by
  obtain ⟨_, ⟨_, h2, _⟩ | ⟨b, cur, rfl, hb, _, _, _, ht⟩⟩ := o
  · have := (List.getElem?_eq_some_iff.1 hi).1; omega
  · refine ⟨cur, E, (0, 0), hb, fun j u e => ?_⟩
    have h3 := flat_at enc k l (fun x _ => hk x) i x hi j u e
    rw [← ht, List.getElem?_take] at h3
    split at h3
    · simpa using h3
    · cases h3
theorem flat_length (hk : ∀ x, (enc x).length = k) : ∀ l : List α, (l.flatMap enc).length = l.length * k
  | [] => by simp
  | a :: l => by simp only [List.flatMap_cons, List.length_append, List.length_cons, flat_length hk l, hk, Nat.succ_mul]; omega
theorem flat_set (hk : ∀ x, (enc x).length = k) : ∀ (l : List α) (i : Nat) (v : α), i < l.length → (l.set i v).flatMap enc = (l.flatMap enc).take (i * k) ++ enc v ++ (l.flatMap enc).drop (i * k + k)
  | [], _, _, h => by simp at h
  | a :: l, 0, v, _ => by simp [hk a]
  | a :: l, i + 1, v, h => by
    have ha := hk a
    rw [List.set_cons_succ, List.flatMap_cons, List.flatMap_cons, flat_set hk l i v (by simpa using h)]
    rw [List.take_append, List.drop_append, ha, List.take_of_length_le (l := enc a) (by rw [ha, Nat.succ_mul]; omega), List.drop_of_length_le (l := enc a) (by rw [ha, Nat.succ_mul]; omega)]
    rw [show (i + 1) * k - k = i * k by rw [Nat.succ_mul]; omega, show (i + 1) * k + k - k = i * k + k by rw [Nat.succ_mul]; omega]
    simp
end

section
variable {q : Md} {P : Program} {F : Hp} {n : Nat} {Q : Post} {σ : Sl} {H R : List HProp} {ops : Array Oper} {rest : List Oper}
variable {d : Nat} {ty : TypeId} {pos : String} {after : Array Edge} {T U : TypeId} {x y : Operand}
variable {α : Type} {E k : Nat} {enc : α → List Value} {p : Option Addr} {cap : Nat} {l : List α}

theorem Sees.own (pk : Pick (Own E k enc p cap l) H R) (hk : ∀ x, (enc x).length = k) {i : Nat} {x : α} (hi : l[i]? = some x) : Sees F H fun f => Cells f (blk p) (i * k) (enc x) :=
  Sees.ofChunk (Cells.mono _ _ _) pk fun _ ho => Own.at ho hk hi
theorem Cells.part {f : Hp} {b off : Nat} {vs : List Value} (c : Cells f b off vs) {j : Nat} {v : Value} (h : nv vs j = some v) : Cells f b (off + j) [v] := by
  obtain ⟨cs, T, fr, hb, hc⟩ := c
  rw [nv_eq] at h
  refine ⟨cs, T, fr, hb, fun i u e => ?_⟩
  cases i with
  | zero => simp at e; subst e; exact hc j v h
  | succ i => simp at e
theorem Sees.own1 (pk : Pick (Own E k enc p cap l) H R) (hk : ∀ x, (enc x).length = k) {i j : Nat} {x : α} {v : Value} (hi : l[i]? = some x) (hv : nv (enc x) j = some v) : Sees F H fun f => Cells f (blk p) (i * k + j) [v] :=
  Sees.ofChunk (Cells.mono _ _ _) pk fun _ ho => (Own.at ho hk hi).part hv

/-- the address of an element of a row that the code owns -/
theorem TrL.idxO {len capv size : Nat} {kd : IntKind} {j : Int} {e : TypeId} (i : Nat) (hd : Nat.ble (d + 1) n = true) (hx : ev σ x = some (.slice p len capv)) (hy : ev σ y = some (.int kd j)) (he : slEl P T = some e) (hz : szOf P e = some size)
    (pk : Pick (Own E k enc p cap l) H R) (hk : k = size) (hl : len ≤ l.length) (hj : j = (i : Int)) (hi : i < len)
    (h : TrL q P F n ops Q rest ((d, .pointer (some ⟨blk p, i * size, none⟩)) :: σ) H) : TrL q P F n ops Q (⟨some d, .indexAddr T x y, ty, pos, after, none⟩ :: rest) σ H :=
  TrL.pure hd _ (fun a w f s => by
    obtain ⟨g, hg, _⟩ := s.chunk pk
    have hp := Own.base hg (by omega)
    subst hj
    have hx' := f.eval hx
    rw [hp] at hx'
    simp [execOp, hx', f.eval hy, Instr.indexAt, asIntOf, run_underlying (slEl_eq he), sizeOf_run hz, hi, addr_add]) h
theorem TrL.idxQ {p : Option Addr} {len capv size : Nat} {kd : IntKind} {j : Int} {e : TypeId} (i : Nat) (hd : Nat.ble (d + 1) n = true) (hx : ev σ x = some (.slice p len capv)) (hy : ev σ y = some (.int kd j)) (he : slEl P T = some e) (hz : szOf P e = some size)
    (hp : p = some ⟨blk p, 0, none⟩) (hj : j = (i : Int)) (hi : i < len)
    (h : TrL q P F n ops Q rest ((d, .pointer (some ⟨blk p, i * size, none⟩)) :: σ) H) : TrL q P F n ops Q (⟨some d, .indexAddr T x y, ty, pos, after, none⟩ :: rest) σ H :=
  TrL.pure hd _ (fun a w f s => by
    subst hj
    have hx' := f.eval hx
    rw [hp] at hx'
    simp [execOp, hx', f.eval hy, Instr.indexAt, asIntOf, run_underlying (slEl_eq he), sizeOf_run hz, hi, addr_add]) h
theorem Tr.base {c : Code} (pk : Pick (Own E k enc p cap l) H R) (hl : 0 < l.length) (h : p = some ⟨blk p, 0, none⟩ → Tr P F n c Q σ H) : Tr P F n c Q σ H := Tr.fact pk (fun _ ho => Own.base ho hl) h
theorem TrL.loadO {b off : Nat} {v : α} {i : Nat} (hd : Nat.ble (d + 1) n = true) (hx : ev σ x = some (.pointer (some ⟨b, off, none⟩))) (ht : aggr P T = true) (hk : szOf P T = some k) (pk : Pick (Own E k enc p cap l) H R) (hb : b = blk p) (ho : off = i * k) (hl : ∀ x, (enc x).length = k) (hi : l[i]? = some v)
    (h : TrL q P F n ops Q rest ((d, .agg (enc v).toArray) :: σ) H) : TrL q P F n ops Q (⟨some d, .load T x, ty, pos, after, none⟩ :: rest) σ H := by
  subst hb ho
  exact TrL.loadA hd hx ht (by rw [hl]; exact hk) (Sees.own pk hl hi) h
theorem TrL.loadO1 {b off j : Nat} {v : α} {u : Value} {i : Nat} (hd : Nat.ble (d + 1) n = true) (hx : ev σ x = some (.pointer (some ⟨b, off, none⟩))) (ht : scal P T = true) (pk : Pick (Own E k enc p cap l) H R) (hb : b = blk p) (ho : off = i * k + j) (hl : ∀ x, (enc x).length = k) (hi : l[i]? = some v) (hu : nv (enc v) j = some u)
    (h : TrL q P F n ops Q rest ((d, u) :: σ) H) : TrL q P F n ops Q (⟨some d, .load T x, ty, pos, after, none⟩ :: rest) σ H := by
  subst hb ho
  exact TrL.load1 hd hx ht (Sees.own1 pk hl hi hu) h

theorem St.ownSet {w : World} {i : Nat} {v : α} (s : St F (Own E k enc p cap l :: R) w) (hk : ∀ x, (enc x).length = k) (hi : i < l.length) {cur' : Array Value}
    (hc : ∀ cur, w.heap[blk p]? = some (.cells cur E (0, 0)) → cur' = (cur.toList.take (i * k) ++ enc v ++ cur.toList.drop (i * k + k)).toArray) : St F (Own E k enc p cap (l.set i v) :: R) (w.setRow (blk p) cur') := by
  obtain ⟨g, hg, hle⟩ := s.chunk .here
  have hp := Own.base hg (by omega)
  obtain ⟨h1, h2⟩ := hg
  rw [hp] at s ⊢
  show St F (Own E k enc (some ⟨blk p, 0, none⟩) cap (l.set i v) :: R) (w.setRow (blk p) cur')
  refine St.rowSet s cur' ?_
  rcases h2 with ⟨_, h3, _⟩ | ⟨b, cur, e, hb, r1, r2, r3, r4⟩
  · omega
  · rw [hp] at e
    simp only [Option.some.injEq, Addr.mk.injEq, and_true] at e
    subst e
    have hcur := hc cur (hle _ _ hb)
    have hlen : (l.set i v).length = l.length := by simp
    have hik : i * k + k ≤ l.length * k := by rw [← Nat.succ_mul]; exact Nat.mul_le_mul_right _ hi
    have hcapk : l.length * k ≤ cap * k := Nat.mul_le_mul_right _ r1
    have hfl : (l.flatMap enc).length = l.length * k := h1
    unfold Own
    rw [hlen]
    refine ⟨?_, .inr ⟨_, cur', rfl, Hp.one_self _ _, r1, r2, ?_, ?_⟩⟩
    · rw [flat_set hk l i v hi]; simp only [List.length_append, List.length_take, List.length_drop, hk, hfl]; omega
    · rw [hcur]; simp only [List.size_toArray, List.length_append, List.length_take, List.length_drop, hk, Array.length_toList, r3]; omega
    · rw [hcur, flat_set hk l i v hi, ← r4]
      have e1 : (List.take (i * k) cur.toList).length = i * k := by simp only [List.length_take, Array.length_toList, r3]; omega
      have e2 : (List.take (i * k) cur.toList ++ enc v).length = i * k + k := by rw [List.length_append, e1, hk]
      simp only []
      rw [List.take_append, e2, List.take_of_length_le (l := List.take (i * k) cur.toList ++ enc v) (by rw [e2]; omega), List.take_take, Nat.min_eq_left (by omega), List.drop_take]

/-- an element is written -/
theorem TrL.storeO {b off : Nat} {u : Value} {v : α} {i : Nat} (hx : ev σ x = some (.pointer (some ⟨b, off, none⟩))) (hy : ev σ y = some u) (hk : szOf P T = some k) (pk : Pick (Own E k enc p cap l) H R) (hb : b = blk p) (ho : off = i * k) (hi : i < l.length) (hu : u.cells = (enc v).toArray) (hl : ∀ x, (enc x).length = k) (h1 : ones (enc v) = true)
    (h : TrL .eff P F n ops Q rest σ (Own E k enc p cap (l.set i v) :: R)) : TrL .eff P F n ops Q (⟨none, .store T x y, ty, pos, after, none⟩ :: rest) σ H :=
  TrL.op0 fun a w f s => by
    subst hb ho
    have s' : St F (Own E k enc p cap l :: R) w := s.imp fun _ => pk.stars
    obtain ⟨g, hg, hle⟩ := s'.chunk .here
    have hp := Own.base hg (by omega)
    obtain ⟨_, ⟨_, h3, _⟩ | ⟨b, cur, e, hb, r1, r2, r3, r4⟩⟩ := hg
    · omega
    · rw [hp] at e
      simp only [Option.some.injEq, Addr.mk.injEq, and_true] at e
      subst e
      have hik : i * k + k ≤ l.length * k := by rw [← Nat.succ_mul]; exact Nat.mul_le_mul_right _ hi
      have hcapk : l.length * k ≤ cap * k := Nat.mul_le_mul_right _ r1
      have hw := hle _ _ hb
      have hr := run_storeCells_at P (blk p) (i * k) E (enc v) 0 cur w hw (by rw [hl, r3]; omega) (ones_all h1)
      simp only [Nat.add_zero, hl] at hr
      refine ⟨.skip, w.setRow (blk p) (cur.toList.take (i * k) ++ enc v ++ cur.toList.drop (i * k + k)).toArray, _, ?_, .inl rfl, s'.ownSet hl hi (fun cur2 h2 => ?_), h⟩
      · have hst : (Instr.storeAt T (.pointer (some ⟨blk p, i * k, none⟩)) u).run P w = .ok () (w.setRow (blk p) (cur.toList.take (i * k) ++ enc v ++ cur.toList.drop (i * k + k)).toArray) := by
          simp only [List.append_assoc] at hr
          simp [Instr.storeAt, Instr.sureAddr, storeVar, sizeOf_run hk, hu, hl, hr]
        simp only [execOp, f.eval hx, f.eval hy, Sem.run_bind, hst, Result.andThen_ok, Sem.run_pure]
      · have hw2 : w.heap[blk p]? = some (.cells cur E (0, 0)) := hw
        rw [hw2] at h2
        cases h2; rfl

/-! ### rows that are only read -/
def RowC (enc : α → List Value) (k : Nat) (p : Option Addr) (l : List α) : HProp := fun h => SlIn h enc k p l
theorem RowC.up {F F' : Hp} (u : Up F H F') (pk : Pick (RowC enc k p l) H R) : SlIn F' enc k p l := by
  obtain ⟨h, hc, hl⟩ := u.chunk pk
  exact SlIn.mono _ _ _ _ _ _ hl hc
theorem RowC.ofOwn (h0 : 0 < k) (hk : ∀ x, (enc x).length = k) {h : Hp} (o : Own E k enc p cap l h) : RowC enc k p l h := o.slIn h0 hk
theorem RowC.nil (h : Hp) : RowC enc k p [] h := .inl rfl
theorem Sees.rowC (pk : Pick (RowC enc k p l) H R) {i : Nat} {x : α} (hi : l[i]? = some x) : Sees F H fun f => ∃ b o, p = some ⟨b, o, none⟩ ∧ Cells f b (o + i * k) (enc x) := fun w s => by
  obtain ⟨h, hc, hl⟩ := s.chunk pk
  obtain ⟨b, o, hp, hc⟩ := hc.cells hi
  exact ⟨b, o, hp, Cells.mono _ _ _ _ _ hl hc⟩
/-- such a row goes to the frame -/
theorem TrL.freezeW {ls : List Oper} (pk : Pick (RowC enc k p l) H R) (h : ∀ F', Hp.le F F' → SlIn F' enc k p l → TrL .eff P F' n ops Q ls σ R) : TrL .eff P F n ops Q ls σ H := TrL.freeze pk fun F' hF ⟨_, hc, hl⟩ => h F' hF (SlIn.mono _ _ _ _ _ _ hl hc)
theorem Tr.freezeW {c : Code} (pk : Pick (RowC enc k p l) H R) (h : ∀ F', Hp.le F F' → SlIn F' enc k p l → Tr P F' n c Q σ R) : Tr P F n c Q σ H := Tr.freeze pk fun F' hF ⟨_, hc, hl⟩ => h F' hF (SlIn.mono _ _ _ _ _ _ hl hc)

/-- a slice literal's cells that are only read from here on -/
theorem slIn_of_cl {b E : Nat} {cs : List Value} (h : ∃ g, cl b cs E g ∧ Hp.le g F) (hcs : cs = l.flatMap enc) (hk : ∀ x, (enc x).length = k) : SlIn F enc k (some ⟨b, 0, none⟩) l := by
  obtain ⟨g, hc, hl⟩ := h
  refine .inr ⟨b, 0, rfl, ⟨cs.toArray, E, (0, 0), hl _ _ hc, fun j u e => ?_⟩, fun x _ => hk x⟩
  rw [hcs]; simpa using e
theorem TrL.freezeL {b E2 : Nat} {cs : List Value} {ls : List Oper} (enc : α → List Value) (k : Nat) (l : List α) (pk : Pick (cl b cs E2) H R) (hcs : cs = l.flatMap enc) (hk : ∀ x, (enc x).length = k) (h : ∀ F', Hp.le F F' → SlIn F' enc k (some ⟨b, 0, none⟩) l → TrL .eff P F' n ops Q ls σ R) :
    TrL .eff P F n ops Q ls σ H := TrL.freeze pk fun F' hF hx => h F' hF (slIn_of_cl hx hcs hk)
theorem Tr.freezeL {b E2 : Nat} {cs : List Value} {c : Code} (enc : α → List Value) (k : Nat) (l : List α) (pk : Pick (cl b cs E2) H R) (hcs : cs = l.flatMap enc) (hk : ∀ x, (enc x).length = k) (h : ∀ F', Hp.le F F' → SlIn F' enc k (some ⟨b, 0, none⟩) l → Tr P F' n c Q σ R) :
    Tr P F n c Q σ H := Tr.freeze pk fun F' hF hx => h F' hF (slIn_of_cl hx hcs hk)
/-- what went to the frame is let go -/
theorem TrL.unfreeze {F0 : Hp} {ls : List Oper} (hF : Hp.le F0 F) (h : TrL .eff P F0 n ops Q ls σ H) : TrL .eff P F n ops Q ls σ H := fun a w f s => h a w f (s.frame hF)
theorem Tr.unfreeze {F0 : Hp} {c : Code} (hF : Hp.le F0 F) (h : Tr P F0 n c Q σ H) : Tr P F n c Q σ H := fun a w f s => h a w f (s.frame hF)
theorem At.unfreeze {F0 : Hp} {e : Exit} (hF : Hp.le F0 F) (h : At F0 n Q e σ H) : At F n Q e σ H := fun a w f s => h a w f (s.frame hF)

theorem Res.cellLA {t : Tmp} {T : TypeId} {b off k : Nat} {us cs : List Value} {E2 : TypeId} {rs : List ResultVar} {vs : List Value} (h1 : lk σ t = some (.pointer (some ⟨b, off, none⟩))) (h2 : aggr P T = true) (hk : szOf P T = some k) (pk : Pick (cl b cs E2) H R) (hc : cutv cs off k = some us) (hr : Res P F σ H rs vs) :
    Res P F σ H (.cell t T :: rs) (.agg us.toArray :: vs) := by
  have e : us.length = k := by
    obtain ⟨h1, rfl⟩ := cutv_eq hc
    simp only [List.length_take, List.length_drop]; omega
  exact Res.cellA h1 h2 (by rw [e]; exact hk) (Sees.clA pk hc) hr

/-- a slice literal without an element -/
theorem TrL.buildSl0 {parts : Array (Nat × Operand)} {E2 k2 : Nat} (enc2 : α → List Value) {zs : List Value} (hd : Nat.ble (d + 1) n = true) (hp : parts = #[]) (he : slEl P T = some E2) (hk : szOf P E2 = some k2) (hz : zc P E2 = some zs) (h : ∀ b, TrL .eff P F n ops Q rest ((d, .slice (some ⟨b, 0, none⟩) 0 0) :: σ) (Own E2 k2 enc2 (some ⟨b, 0, none⟩) 0 [] :: H)) :
    TrL .eff P F n ops Q (⟨some d, .buildSlice T 0 parts, ty, pos, after, none⟩ :: rest) σ H :=
  TrL.op hd fun a w f s => by
    subst hp
    refine ⟨_, w.alloc (.cells #[] E2), _, ?_, s.grow ⟨Hp.one w.heap.size (.cells #[] E2 (0, 0)), ?_, ?_, ?_, ?_⟩, h w.heap.size⟩
    · simp [execOp, Instr.buildSlice, run_underlying (slEl_eq he), sizeOf_run hk, Instr.fill, newRow, newObj, Sem.run]
      congr 2
      apply Array.ext'
      simp
    · exact ⟨by simp, .inr ⟨w.heap.size, #[], rfl, Hp.one_self _ _, Nat.le_refl _, by decide, by simp, by simp⟩⟩
    · intro k v e; obtain ⟨rfl, rfl⟩ := Hp.one_some e; exact heap_alloc_new w _
    · intro k v e; obtain ⟨rfl, rfl⟩ := Hp.one_some e; exact Nat.le_refl _
    · intro k v e; rw [heap_alloc_old w _ (Array.getElem?_eq_some_iff.1 e).1]; exact e

/-- elements of a row behind those that the code owns -/
theorem TrL.appendSl {xs : Array Operand} {by_ m0 m cp cp2 : Nat} {p2 : Option Addr} {l2 : List α} {zs : List Value} (hd : Nat.ble (d + 1) n = true)
    (hx : evs σ xs.toList = some [.slice p m0 cp, .slice p2 m cp2]) (he : slEl P T = some E) (hk : szOf P E = some k) (hb : byOf P E = some by_) (hz : zc P E = some zs) (hzl : zs.length = k) (h0 : 0 < k)
    (pk : Pick (Own E k enc p cap l) H R) (hs : SlIn F enc k p2 l2) (hl : ∀ x, (enc x).length = k) (h1 : ∀ x, ones (enc x) = true) (hm0 : m0 = l.length) (hm : m = l2.length) (hcp : cp = cap) (hbound : (l.length + l2.length) * by_ ≤ 140737488355328) (h63 : l.length + l2.length ≤ maxLen)
    (h : ∀ p' cap', TrL .eff P F n ops Q rest ((d, .slice p' (l ++ l2).length cap') :: σ) (Own E k enc p' cap' (l ++ l2) :: R)) :
    TrL .eff P F n ops Q (⟨some d, .call ⟨.builtin .append, xs, #[T, T]⟩, ty, pos, after, none⟩ :: rest) σ H := by
  subst hm0 hm hcp
  by_cases hn : l2 = []
  · subst hn
    refine TrL.op hd fun a w f s => ?_
    have s' : St F (Own E k enc p cp l :: R) w := s.imp fun _ => pk.stars
    obtain ⟨g, hg, _⟩ := s'.chunk .here
    have hle := (OwnR.le hg).1
    have e1 : xs.map a.eval = #[.slice p l.length cp, .slice p2 0 cp2] := by apply Array.ext'; simpa using f.evals hx
    have h' := h p cp
    simp only [List.append_nil] at h'
    refine ⟨_, w, _, ?_, s', h'⟩
    have hf : (Builtin.firstCells k 0 (.slice p2 0 cp2)).run P w = .ok #[] w := by
      cases p2 with
      | none => simp [Builtin.firstCells]
      | some a => simp [Builtin.firstCells, loadCells, loadCellsFrom]
    rw [BigFrame.execOp_builtin, e1]
    simp only [BigFrame.builtin_append, Sem.run_bind]
    have hr : (Builtin.append_ #[T, T] ty #[.slice p l.length cp, .slice p2 0 cp2]).run P w = .ok (.slice p l.length cp) w := by
      cases p <;> simp [Builtin.append_, run_underlying (slEl_eq he), sizeOf_run hk, Builtin.lenOf, hle, hf, storeCells]
    rw [show ([] : List α).length = 0 from rfl] at *
    rw [hr]; rfl
  · rcases hs with e | ⟨b2, o2, rfl, hc, _⟩
    · exact (hn e).elim
    · have hpos : 0 < l2.length := List.length_pos_iff.2 hn
      have hones : ones (l2.flatMap enc) = true := by
        have key : ∀ vs : List Value, (∀ v ∈ vs, v.oneCell' = true) → ones vs = true := by
          intro vs
          induction vs with
          | nil => intro _; rfl
          | cons v r ih => intro h; simp [ones, h v (by simp), ih (fun u hu => h u (by simp [hu]))]
        refine key _ fun v hv => ?_
        obtain ⟨y, _, hv⟩ := List.mem_flatMap.1 hv
        exact ones_all (h1 y) v hv
      have hlen : (l2.flatMap enc).length = l2.length * k := flat_length hl l2
      refine TrL.appendR hd hx he hk hb hz hzl h0 (olds := l.flatMap enc) pk (Sees.ofF (Cells.mono _ _ _) hc) hlen hones hpos hbound h63 fun p' cap' => ?_
      have h2 := h p' cap'
      have e1 : (l ++ l2).length = l.length + l2.length := by simp
      have e2 : Own E k enc p' cap' (l ++ l2) = OwnR E k p' (l.length + l2.length) cap' (l.flatMap enc ++ l2.flatMap enc) := by
        unfold Own; rw [e1]; simp
      rw [e2, e1] at h2
      exact h2

/-! ### a cut behind a fork -/
def Meet {β : Type} (F : Hp) (n : Nat) (S : β → Sl) (C : β → List HProp) (p : β → Prop) : Act → World → Prop := fun a w => ∃ z, p z ∧ Fits n (S z) a ∧ St F (C z) w
theorem Tr.cutK {cx cy : Code} {β : Type} (ts : List Nat) (S : β → Sl) (C : β → List HProp) (p : β → Prop) {σ0 : Sl} (hk : keepS σ ts = some σ0)
    (hx : Tr P F n cx (Exit.then (Meet F n (fun z => S z ++ σ0) C p) Q) σ H) (hy : ∀ z, p z → Tr P F n cy Q (S z ++ σ0) (C z)) : Tr P F n cx (Exit.then (cy.wp P Q) Q) σ H := by
  intro a w f s
  refine wp_mono (hx a w f s) ?_
  intro e a' w' hq
  cases e with
  | normal => obtain ⟨z, hz, fz, sz⟩ := hq; exact hy z hz a' w' fz sz
  | exit id => exact hq
  | goto l => exact hq
  | ret => exact hq
  | panic ch => exact hq
  | outgrown => exact hq
theorem At.meetK {β : Type} {S : β → Sl} {C : β → List HProp} {p : β → Prop} (y : β) (hy : p y) (hs : Sub (S y) σ) (hp : Picks (C y) H R) : At F n (Exit.then (Meet F n S C p) Q) .normal σ H := fun _ _ f s => ⟨y, hy, f.sub hs, s.sub hp⟩

/-! ### regions that draw their order: what only reads is taken first, what is left comes in whichever order -/
def normOf (K : Act → World → Prop) : Post := fun e a w => match e with
  | .normal => K a w
  | _ => False
def TrD (P : Program) (F : Hp) (n : Nat) (ops : Array Oper) (K : Act → World → Prop) (Hr : List HProp) (fuel : Nat) (listed : Array Bool) (σ : Sl) (H : List HProp) : Prop :=
  ∀ a w, Fits n σ a → St F H w → wpAnyH P .any ops (normOf K) (St F Hr) fuel listed a w
omit [Obs] in
theorem upon_norm {o : Oper} {a : Act} {next : Act → World → Prop} {K K' : Act → World → Prop} {r : Result Next} (h : o.upon P a next (normOf K) r) : o.upon P a next (normOf K') r := by
  cases r with
  | ok m w' =>
    cases m <;> simp only [Oper.upon] at h ⊢ <;> first
      | exact h
      | exact Calls.mono h fun e w'' he => by
          cases e with
          | returned u => exact he
          | panicked c => exact he.elim
          | outgrown => obtain ⟨_, _, h⟩ := he; exact h.elim
  | halt x w' => cases x <;> simp only [Oper.upon] at h ⊢ <;> first | exact h.elim | exact h
omit [Obs] in
theorem wpAny_norm {ops : Array Oper} {md : Region.Mode} {Q : Post} : ∀ (fuel : Nat) (listed : Array Bool) (a : Act) (w : World), wpAny P md ops (normOf (Q .normal)) fuel listed a w → wpAny P md ops Q fuel listed a w
  | 0, _, _, _, h => h
  | fuel + 1, listed, a, w, h => ⟨h.1, fun i hi => by
    have h1 := h.2 i hi
    unfold wpOp at h1 ⊢
    split
    · rename_i ho; simp only [ho] at h1; exact wpAny_norm fuel _ _ _ h1
    · rename_i o ho
      simp only [ho] at h1
      split
      · rename_i hw
        simp only [hw, if_true] at h1
        left
        rcases h1 with h1 | ⟨_, _, _, h1⟩
        · have h2 := Oper.wp_mono (fun a w => wpAny_norm fuel (listed.setIfInBounds i true) a w) h1
          unfold Oper.wp at h2 ⊢
          generalize (execOp a.eval o).run P w = r at *
          cases r with
          | ok m w' =>
            cases m <;> simp only [Oper.upon] at h2 ⊢ <;> first
              | exact h2
              | exact Calls.mono h2 fun e w'' he => by
                  cases e with
                  | returned u => exact he
                  | panicked c => exact he.elim
                  | outgrown => obtain ⟨_, _, h⟩ := he; exact h.elim
          | halt x w' => cases x <;> simp only [Oper.upon] at h2 ⊢ <;> first | exact h2.elim | exact h2
        · exact h1.elim
      · rename_i hw
        simp only [hw] at h1
        exact wpAny_norm fuel _ _ _ h1⟩
/-- the beginning -/
theorem Tr.regionD {id : Nat} {l : List Oper} (Hr : List HProp) (hm : P.follows .mixedOrders = true) (h : TrD P F n l.toArray (Q .normal) Hr l.length (Array.replicate l.length false) σ H) : Tr P F n (.region id l.toArray true) Q σ H := fun a w f s =>
  wp_region_any hm (wpAny_norm _ _ _ _ (wpAny_of_held (S := St F Hr) _ _ _ _ (by simpa using h a w.drew f (s.heapEq rfl))))
theorem Tr.regionDH {id : Nat} {l : List Oper} (hm : P.follows .mixedOrders = true) (h : TrD P F n l.toArray (Q .normal) H l.length (Array.replicate l.length false) σ H) : Tr P F n (.region id l.toArray true) Q σ H := Tr.regionD H hm h
/-- number 'i' first: it only reads -/
theorem TrD.take {K : Act → World → Prop} {Hr : List HProp} {fuel : Nat} {listed : Array Bool} (i : Nat) {o : Oper} (hi : ops[i]? = some o) (hs : Region.noSelect ops = true) (hf : Region.free .any ops listed i = true) (hr : (Region.ready .any ops listed).contains i = true)
    (hp : Picks Hr H R) (h : TrL (.take fun a => ∀ w, St F H w → wpAnyH P .any ops (normOf K) (St F Hr) fuel (listed.setIfInBounds i true) a w) P F n ops (normOf K) [o] σ Hr) : TrD P F n ops K Hr (fuel + 1) listed σ H := by
  intro a w f s
  obtain ⟨v, hy, hk⟩ := h a f
  exact wpAnyH_take hi hs hf hr (fun _ _ _ h => h) hy (s.sub hp) (hk w s)
theorem TrL.nilTake {Q : Post} {K : Act → World → Prop} {Hr H2 : List HProp} {fuel : Nat} {listed listed' : Array Bool} (hl : listed = listed') (h : TrD P F n ops K Hr fuel listed' σ H2) :
    TrL (.take fun a => ∀ w, St F H2 w → wpAnyH P .any ops (normOf K) (St F Hr) fuel listed a w) P F n ops Q [] σ Hr := by
  subst hl; exact fun a f w s => h a w f s
/-- whichever comes up -/
theorem TrD.all {K : Act → World → Prop} {Hr : List HProp} {fuel : Nat} {listed : Array Bool} (rs : List Nat) (hr : Region.ready .any ops listed = rs) (hne : rs.isEmpty = false)
    (h : ∀ i ∈ rs, ∃ o, ops[i]? = some o ∧ TrL .eff P F n ops (normOf fun a' w' => St F Hr w' ∧ wpAnyH P .any ops (normOf K) (St F Hr) fuel (listed.setIfInBounds i true) a' w') [o] σ H) : TrD P F n ops K Hr (fuel + 1) listed σ H := by
  intro a w f s
  refine wpAnyH_all hr (by cases rs <;> simp at hne ⊢) fun i hi => ?_
  obtain ⟨o, ho, h1⟩ := h i hi
  have h2 := h1 a w f s
  unfold wpList at h2
  unfold wpOp
  simp only [ho]
  split
  · rename_i hw
    simp only [hw, if_true] at h2
    left
    rcases h2 with h2 | ⟨_, _, _, h2⟩
    · have h3 : o.wp P a w (fun a' w' => St F Hr w' ∧ wpAnyH P .any ops (normOf K) (St F Hr) fuel (listed.setIfInBounds i true) a' w') (normOf _) := Oper.wp_mono (fun a w h => h) h2
      exact upon_norm h3
    · exact h2.elim
  · rename_i hw
    simp only [hw] at h2
    exact h2
theorem all_nil {p : Nat → Prop} : ∀ i ∈ ([] : List Nat), p i := fun _ h => nomatch h
theorem all_cons {p : Nat → Prop} {x : Nat} {r : List Nat} (h1 : p x) (h2 : ∀ i ∈ r, p i) : ∀ i ∈ x :: r, p i := fun i hi => by
  rcases List.mem_cons.1 hi with rfl | hi
  · exact h1
  · exact h2 i hi
theorem At.step {K : Act → World → Prop} {Hr : List HProp} {fuel : Nat} {listed listed' : Array Bool} (hl : listed = listed') (hp : Picks Hr H R) (h : TrD P F n ops K Hr fuel listed' σ H) :
    At F n (normOf fun a' w' => St F Hr w' ∧ wpAnyH P .any ops (normOf K) (St F Hr) fuel listed a' w') .normal σ H := by
  subst hl; exact fun a w f s => ⟨s.sub hp, h a w f s⟩
/-- all have come up -/
theorem TrD.done {Hr : List HProp} {fuel : Nat} {listed : Array Bool} (hr : Region.ready .any ops listed = []) (h : At F n Q .normal σ H) : TrD P F n ops (Q .normal) Hr fuel listed σ H := fun a w f s => wpAnyH_done (Q := normOf (Q .normal)) hr (h a w f s) fuel

/-- the middle of two places -/
theorem half {i j h : Nat} (hb : i + j < 4611686018427387904) (hh : (i + j) / 2 = h) : IntKind.i64.wrap (shrI .u64 (IntKind.u64.wrap ((i : Int) + (j : Int))) 1) = (h : Int) := by
  rw [IntWalk.u64_in _ ⟨by omega, by omega⟩]
  have e : shrI .u64 ((i : Int) + (j : Int)) 1 = (h : Int) := by
    unfold shrI
    show Int.fdiv _ 2 = _
    rw [Int.fdiv_eq_ediv_of_nonneg _ (by decide)]; omega
  rw [e]
  exact wrap_i64 ⟨by omega, by omega⟩

/-! ### clear -/
theorem Own.fill {i : Nat} {z : α} (hk : ∀ x, (enc x).length = k) (hi : i ≤ l.length) : (l.take i ++ List.replicate (l.length - i) z).flatMap enc = (l.flatMap enc).take (i * k) ++ (List.replicate (l.length - i) z).flatMap enc := by
  rw [List.flatMap_append, flat_take (fun x _ => hk x)]
theorem flat_rep (hk : ∀ x, (enc x).length = k) (m : Nat) (z : α) : ((List.replicate m z).flatMap enc).length = m * k := by
  induction m with
  | zero => simp
  | succ m ih => rw [List.replicate_succ, List.flatMap_cons, List.length_append, ih, hk, Nat.succ_mul]; omega
theorem zeroCells_flat {z : Array Value} {v : α} (hz : z = (enc v).toArray) (h0 : 0 < z.size) (m : Nat) : (Builtin.zeroCells z m).toList = (List.replicate m v).flatMap enc := by
  subst hz
  apply List.ext_getElem?
  intro j
  simp only [List.size_toArray] at h0
  have key : ∀ m j, ((List.replicate m v).flatMap enc)[j]? = if j < m * (enc v).length then (enc v)[j % (enc v).length]? else none := by
    intro m
    induction m with
    | zero => intro j; simp
    | succ m ih =>
      intro j
      rw [List.replicate_succ, List.flatMap_cons, List.getElem?_append]
      split
      · rename_i h
        rw [if_pos (by rw [Nat.succ_mul]; omega), Nat.mod_eq_of_lt h]
      · rename_i h
        rw [ih, Nat.succ_mul]
        have : (j - (enc v).length) % (enc v).length = j % (enc v).length := by
          rw [← Nat.mod_eq_sub_mod (by omega)]
        rw [this]
        by_cases hj : j - (enc v).length < m * (enc v).length
        · rw [if_pos hj, if_pos (by omega)]
        · rw [if_neg hj, if_neg (by omega)]
  rw [key]
  by_cases hj : j < m * (enc v).length
  · have hlt : j % (enc v).length < (enc v).length := Nat.mod_lt _ h0
    have hsz : j < (Builtin.zeroCells (enc v).toArray m).size := by rw [size_zeroCells]; simpa using hj
    rw [if_pos hj]
    simp [Builtin.zeroCells, hj, hlt]
  · rw [if_neg hj]
    refine List.getElem?_eq_none ?_
    have : (Builtin.zeroCells (enc v).toArray m).size = m * (enc v).length := by rw [size_zeroCells]; simp
    simp only [Array.length_toList]; omega
theorem TrL.clearO {xs : Array Operand} {e i cap2 len2 : Nat} {z : α} {zs : List Value} {zv : Value} (hx : evs σ xs.toList = some [.slice (adk p cap i k) len2 cap2]) (he : slEl P T = some e) (hz : zvOf P e = some zv) (hzc : zv.cells = (enc z).toArray)
    (pk : Pick (Own E k enc p cap l) H R) (hl : len2 = l.length - i) (hi : i ≤ l.length) (hk : ∀ x, (enc x).length = k) (h0 : 0 < k) (h1 : ones (enc z) = true)
    (h : TrL .eff P F n ops Q rest σ (Own E k enc p cap (l.take i ++ List.replicate (l.length - i) z) :: R)) : TrL .eff P F n ops Q (⟨none, .call ⟨.builtin .clear, xs, #[T]⟩, ty, pos, after, none⟩ :: rest) σ H :=
  TrL.op0 fun a w f s => by
    subst hl
    have e1 : xs.map a.eval = #[.slice (adk p cap i k) (l.length - i) cap2] := by apply Array.ext'; simpa using f.evals hx
    have s' : St F (Own E k enc p cap l :: R) w := s.imp fun _ => pk.stars
    by_cases hz0 : l.length - i = 0
    · refine ⟨.value (.tuple #[]), w, _, ?_, .inr ⟨_, rfl⟩, ?_, h⟩
      · rw [BigFrame.execOp_builtin, e1, hz0]
        simp only [BigFrame.builtin_clear, Builtin.clear_]
        cases adk p cap i k <;> simp [run_underlying (slEl_eq he)]
      · have : l.take i ++ List.replicate (l.length - i) z = l := by rw [hz0, List.take_of_length_le (by omega)]; simp
        rw [this]; exact s'
    · obtain ⟨g, hg, hle⟩ := s'.chunk .here
      have hp := Own.base hg (by omega)
      obtain ⟨hg1, ⟨_, h3, _⟩ | ⟨b, cur, e, hb, r1, r2, r3, r4⟩⟩ := hg
      · omega
      · rw [hp] at e
        simp only [Option.some.injEq, Addr.mk.injEq, and_true] at e
        subst e
        have hadk : adk p cap i k = some ⟨blk p, i * k, none⟩ := by
          unfold adk
          rw [if_neg (by omega), hp]
          simp [addr_add, blk]
        obtain ⟨m, hm⟩ : ∃ m, l.length - i = m + 1 := ⟨l.length - i - 1, by omega⟩
        have hw := hle _ _ hb
        have hzf := zeroCells_flat (enc := enc) (v := z) hzc (by rw [hzc]; simp [hk]; exact h0) (l.length - i)
        have hfr := flat_rep hk (l.length - i) z
        have hone : ∀ v ∈ (List.replicate (l.length - i) z).flatMap enc, v.oneCell' = true := by
          intro v hv
          obtain ⟨y, hy, hv⟩ := List.mem_flatMap.1 hv
          rw [List.eq_of_mem_replicate hy] at hv
          exact ones_all h1 v hv
        have hsum : i * k + (l.length - i) * k = l.length * k := by rw [← Nat.add_mul]; congr 1; omega
        have hcapk : l.length * k ≤ cap * k := Nat.mul_le_mul_right _ r1
        have hr := run_storeCells_at P (blk p) (i * k) E ((List.replicate (l.length - i) z).flatMap enc) 0 cur w hw (by rw [hfr, r3]; omega) hone
        simp only [Nat.add_zero, hfr] at hr
        refine ⟨.value (.tuple #[]), w.setRow (blk p) (cur.toList.take (i * k) ++ (List.replicate (l.length - i) z).flatMap enc ++ cur.toList.drop (i * k + (l.length - i) * k)).toArray, _, ?_, .inr ⟨_, rfl⟩, ?_, h⟩
        · rw [BigFrame.execOp_builtin, e1, hadk]
          rw [hm] at hr hzf ⊢
          simp only [BigFrame.builtin_clear, Builtin.clear_]
          simp [run_underlying (slEl_eq he), zv_run hz, hzf, hr]
        · have hlen : (l.take i ++ List.replicate (l.length - i) z).length = l.length := by simp; omega
          rw [hp] at s' ⊢
          refine St.rowSet s' _ ?_
          unfold Own
          rw [hlen]
          have e2 : (List.take (i * k) cur.toList).length = i * k := by simp only [List.length_take, Array.length_toList, r3]; omega
          refine ⟨?_, .inr ⟨_, _, rfl, Hp.one_self _ _, r1, r2, ?_, ?_⟩⟩
          · rw [Own.fill hk hi, List.length_append, hfr, List.length_take, hg1]; omega
          · simp only [List.size_toArray, List.length_append, e2, hfr, List.length_drop, Array.length_toList, r3]; omega
          · rw [Own.fill hk hi, ← r4]
            have e3 : (List.take (i * k) cur.toList ++ (List.replicate (l.length - i) z).flatMap enc).length = l.length * k := by rw [List.length_append, e2, hfr, hsum]
            simp only []
            rw [List.take_append, e3, Nat.sub_self, List.take_zero, List.append_nil, List.take_of_length_le (by rw [e3]; omega), List.take_take, Nat.min_eq_left (by omega)]
end
end Go.Proofs.Ytiefmfimbmkdjaa

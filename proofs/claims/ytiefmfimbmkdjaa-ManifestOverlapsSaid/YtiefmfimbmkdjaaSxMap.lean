/-
  Symbolic execution: maps, texts that are ranged over, pointers held against nil.
  No condition; plain lemmas.
-/
import Derived.Test.YtiefmfimbmkdjaaSxOwn
import Derived.MapKept
import Derived.Laws.Cover3
namespace Go.Proofs.Ytiefmfimbmkdjaa
set_option linter.unusedSimpArgs false
set_option linter.unusedVariables false
set_option linter.unusedSectionVars false
open Go.RowKit
variable [Obs]

/-! ### keys and entries -/
structure KeyOk {κ : Type} [DecidableEq κ] (P : Program) (K : TypeId) (kf : κ → Value) : Prop where
  same : ∃ desc, P.underlying K = some desc ∧ ∀ a b, Instr.sameNow desc (kf a) (kf b) = some (decide (a = b))
  bits : ∀ a, Instr.sameBits 10000 (kf a) (kf a) = true
  check : ∀ e w a, (Instr.checkKey e 10000 K (kf a)).run P w = .ok () w
  inj : ∀ a b, kf a = kf b → a = b

omit [Obs] in
theorem keyOk_of {κ : Type} [DecidableEq κ] {P : Program} {K : TypeId} {kf : κ → Value} {desc : TypeDesc} (hu : P.underlying K = some desc) (hk : ∀ a, MapKept.IsKey desc (kf a)) (hi : ∀ a b, kf a = kf b → a = b) : KeyOk P K kf := by
  refine ⟨⟨_, hu, fun a b => ?_⟩, fun a => MapKept.sameBits_self (hk a) _, fun e w a => MapKept.run_checkKey hu (hk a) e 9999, hi⟩
  obtain ⟨r, h1, h2⟩ := MapKept.sameNow_of_keys (hk a) (hk b)
  rw [h1]
  congr 1
  by_cases h : a = b
  · subst h; simp [h2]
  · have : r ≠ true := fun e => h (hi _ _ (h2.1 e))
    simp [h, this]
omit [Obs] in
theorem strKey {P : Program} {K : TypeId} (h : isStr P K = true) : KeyOk P K Value.string := keyOk_of (isStr_eq h) (fun _ => trivial) (fun a b e => by injection e)
omit [Obs] in
theorem intKey {P : Program} {K : TypeId} {k : IntKind} (h : intT P K = some k) : KeyOk P K (Value.int k) := keyOk_of (intT_eq h) (fun _ => rfl) (fun a b e => by injection e)

section
variable {κ : Type} [DecidableEq κ]
/-- where a key stands, and what stands there -/
def posK {β : Type} : List (κ × β) → κ → Nat → Option (Nat × β)
  | [], _, _ => none
  | (a, v) :: r, k, i => if a = k then some (i, v) else posK r k (i + 1)
def look {β : Type} (kv : List (κ × β)) (k : κ) : Option β := (posK kv k 0).map (·.2)
def putK {β : Type} (kv : List (κ × β)) (k : κ) (v : β) : List (κ × β) := match posK kv k 0 with
  | some (j, _) => kv.set j (k, v)
  | none => kv ++ [(k, v)]
def delK {β : Type} (kv : List (κ × β)) (k : κ) : List (κ × β) := match posK kv k 0 with
  | some (j, _) => kv.eraseIdx j
  | none => kv

section
variable {β γ : Type}
omit [Obs] in
theorem posK_some : ∀ {kv : List (κ × β)} {k : κ} {i j : Nat} {v : β}, posK kv k i = some (j, v) → i ≤ j ∧ kv[j - i]? = some (k, v)
  | [], _, _, _, _, h => nomatch h
  | (a, u) :: r, k, i, j, v, h => by
    unfold posK at h
    split at h
    · rename_i e; subst e; cases h; simp
    · obtain ⟨h1, h2⟩ := posK_some h
      refine ⟨by omega, ?_⟩
      rw [show j - i = (j - (i + 1)) + 1 by omega]
      simpa using h2
omit [Obs] in
theorem posK_none : ∀ {kv : List (κ × β)} {k : κ} {i : Nat}, posK kv k i = none → ∀ p ∈ kv, p.1 ≠ k
  | [], _, _, _, _, h => nomatch h
  | (a, u) :: r, k, i, h, p, hp => by
    unfold posK at h
    split at h
    · cases h
    · rename_i e
      cases hp with
      | head => exact e
      | tail _ hm => exact posK_none h p hm
omit [Obs] in
theorem posK_of_notMem : ∀ {kv : List (κ × β)} {k : κ} (i : Nat), (∀ p ∈ kv, p.1 ≠ k) → posK kv k i = none
  | [], _, _, _ => rfl
  | (a, u) :: r, k, i, h => by
    unfold posK
    rw [if_neg (h (a, u) (by simp))]
    exact posK_of_notMem _ fun p hp => h p (by simp [hp])
omit [Obs] in
/-- what the values are makes no difference to where a key stands -/
theorem posK_map (g : β → γ) : ∀ (kv : List (κ × β)) (k : κ) (i : Nat), posK (kv.map fun p => (p.1, g p.2)) k i = (posK kv k i).map fun p => (p.1, g p.2)
  | [], _, _ => rfl
  | (a, u) :: r, k, i => by
    simp only [List.map_cons, posK]
    split
    · rfl
    · exact posK_map g r k (i + 1)
omit [Obs] in
theorem look_map (g : β → γ) (kv : List (κ × β)) (k : κ) : look (kv.map fun p => (p.1, g p.2)) k = (look kv k).map g := by
  unfold look; rw [posK_map]; cases posK kv k 0 <;> rfl
omit [Obs] in
theorem putK_map (g : β → γ) (kv : List (κ × β)) (k : κ) (v : β) : putK (kv.map fun p => (p.1, g p.2)) k (g v) = (putK kv k v).map fun p => (p.1, g p.2) := by
  unfold putK; rw [posK_map]
  cases h : posK kv k 0 with
  | none => simp
  | some p => simp [List.map_set]
omit [Obs] in
theorem map_eraseIdx' (g : β → γ) : ∀ (l : List β) (j : Nat), (l.eraseIdx j).map g = (l.map g).eraseIdx j
  | [], _ => by simp
  | _ :: _, 0 => by simp
  | _ :: l, j + 1 => by simp [map_eraseIdx' g l j]
omit [Obs] in
theorem delK_map (g : β → γ) (kv : List (κ × β)) (k : κ) : delK (kv.map fun p => (p.1, g p.2)) k = (delK kv k).map fun p => (p.1, g p.2) := by
  unfold delK; rw [posK_map]
  cases h : posK kv k 0 with
  | none => simp
  | some p => simp [map_eraseIdx']
omit [Obs] in
theorem look_pos {kv : List (κ × β)} {k : κ} {v : β} (h : look kv k = some v) : ∃ j, posK kv k 0 = some (j, v) ∧ kv[j]? = some (k, v) := by
  unfold look at h
  cases hp : posK kv k 0 with
  | none => rw [hp] at h; cases h
  | some p =>
    obtain ⟨j, u⟩ := p
    rw [hp] at h; simp only [Option.map_some, Option.some.injEq] at h; subst h
    have := (posK_some hp).2
    exact ⟨j, rfl, by simpa using this⟩
omit [Obs] in
theorem putK_same {kv : List (κ × β)} {k : κ} {v : β} (h : look kv k = some v) : putK kv k v = kv := by
  obtain ⟨j, hp, hj⟩ := look_pos h
  unfold putK; rw [hp]
  simp only []
  apply List.ext_getElem?
  intro i
  rw [List.getElem?_set]
  by_cases e : j = i
  · subst e
    have := (List.getElem?_eq_some_iff.1 hj).1
    have h2 := (List.getElem?_eq_some_iff.1 hj).2
    simp [this, h2]
  · simp [e]
omit [Obs] in
theorem look_none {kv : List (κ × β)} {k : κ} (h : look kv k = none) : posK kv k 0 = none := by
  unfold look at h
  cases hp : posK kv k 0 with
  | none => rfl
  | some p => rw [hp] at h; cases h
end

/-- a map's entries read as 'kv' -/
def Reads (kf : κ → Value) (es : List MapEntry) (kv : List (κ × Value)) : Prop := es.map (fun e => (e.key, e.val)) = kv.map fun p => (kf p.1, p.2)

omit [Obs] in
theorem findNow_pos {P : Program} {K : TypeId} {kf : κ → Value} (_ : KeyOk P K kf) {desc : TypeDesc} (hs : ∀ a b, Instr.sameNow desc (kf a) (kf b) = some (decide (a = b))) (k : κ) :
    ∀ (es : List MapEntry) (kv : List (κ × Value)) (i : Nat), Reads kf es kv → Instr.findNow desc (kf k) es i = some (posK kv k i)
  | [], [], _, _ => rfl
  | [], _ :: _, _, h => by simp [Reads] at h
  | _ :: _, [], _, h => by simp [Reads] at h
  | e :: es, (a, v) :: kv, i, h => by
    simp only [Reads, List.map_cons, List.cons.injEq, Prod.mk.injEq] at h
    obtain ⟨⟨h1, h2⟩, h3⟩ := h
    unfold Instr.findNow posK
    rw [h1, hs k a]
    by_cases hk : a = k
    · subst hk; simp [h2]
    · have : ¬ k = a := fun e => hk e.symm
      simp only [this, decide_false, if_neg hk]
      exact findNow_pos ‹_› hs k es kv (i + 1) h3

/-- block 'b' is a map with these entries, in this order -/
def mapC (kf : κ → Value) (b : Nat) (kv : List (κ × Value)) : HProp := fun h => ∃ es clock, h b = some (.map es clock) ∧ Reads kf es.toList kv ∧ MapKept.Stamped es clock

omit [Obs] in
theorem mapC.nodup {P : Program} {K : TypeId} {kf : κ → Value} (ok : KeyOk P K kf) {b : Nat} {kv : List (κ × Value)} {h : Hp} (m : mapC kf b kv h) : (kv.map (·.1)).Nodup := by
  obtain ⟨es, clock, _, hr, hs⟩ := m
  have h1 : es.toList.map (·.key) = (kv.map (·.1)).map kf := by
    have := congrArg (List.map Prod.fst) hr
    simp only [List.map_map] at this ⊢
    exact this
  have h2 := hs.2.2
  rw [h1] at h2
  exact List.Pairwise.imp (fun hne e => hne (by rw [e])) (List.pairwise_map.1 h2)

section
variable {q : Md} {P : Program} {F : Hp} {n : Nat} {Q : Post} {σ : Sl} {H R : List HProp} {ops : Array Oper} {rest : List Oper}
variable {d : Nat} {ty : TypeId} {pos : String} {after : Array Edge} {T U : TypeId} {x y z : Operand} {kf : κ → Value}

omit [DecidableEq κ] in
theorem TrL.makeMap (hd : Nat.ble (d + 1) n = true) (kf : κ → Value) (h : ∀ b, TrL .eff P F n ops Q rest ((d, .map (some b)) :: σ) (mapC kf b [] :: H)) : TrL .eff P F n ops Q (⟨some d, .makeMap T none, ty, pos, after, none⟩ :: rest) σ H :=
  TrL.op hd fun a w f s => by
    refine ⟨_, w.alloc (.map #[] 0), _, by simp [execOp, Instr.makeMap, newObj, Sem.run], ?_, h w.heap.size⟩
    refine s.grow ⟨Hp.one w.heap.size (.map #[] 0), ⟨#[], 0, Hp.one_self _ _, rfl, MapKept.stamped_empty 0⟩, ?_, ?_, ?_⟩
    · intro k v e; obtain ⟨rfl, rfl⟩ := Hp.one_some e; exact heap_alloc_new w _
    · intro k v e; obtain ⟨rfl, rfl⟩ := Hp.one_some e; exact Nat.le_refl _
    · intro k v e; rw [heap_alloc_old w _ (Array.getElem?_eq_some_iff.1 e).1]; exact e

omit [Obs] in
theorem run_lookup {w : World} {K E : TypeId} {b : Nat} {es : Array MapEntry} {clock : Nat} {kv : List (κ × Value)} (ok : KeyOk P K kf) (hT : mapT P T = some (K, E)) (hb : w.heap[b]? = some (.map es clock)) (hr : Reads kf es.toList kv) (k : κ) {zv : Value} (hz : (zeroValue E).run P w = .ok zv w) (c : Bool) :
    (Instr.lookup T (.map (some b)) (kf k) c).run P w = .ok (if c then .tuple #[(look kv k).getD zv, .bool (look kv k).isSome] else (look kv k).getD zv) w := by
  obtain ⟨desc, hu, hs⟩ := ok.same
  have hf := findNow_pos ok hs k es.toList kv 0 hr
  have hg : (getObj b).run P w = .ok (.map es clock) w := by simp [getObj, Sem.run, hb]
  have hfk : (Instr.findKey K (kf k) es.toList).run P w = .ok (posK kv k 0) w := by simp [Instr.findKey, run_underlying hu, hf]
  simp only [Instr.lookup, Sem.run_bind, run_underlying (mapT_eq hT), Result.andThen_ok, hg, ok.check, hfk, Sem.run_pure]
  unfold look
  cases hp : posK kv k 0 with
  | none => cases c <;> simp [hz]
  | some p => cases c <;> simp
omit [Obs] in
theorem zero_scal {E : TypeId} {v : Value} (hs : scal P E = true) (hz : zc P E = some [v]) (hv : (P.info? E).bind (·.zero) = some v) (w : World) : (zeroValue E).run P w = .ok v w := by
  cases hi : P.info? E with
  | none => rw [hi] at hv; cases hv
  | some i => rw [hi] at hv; simp only [Option.bind_some] at hv; simp [zeroValue, typeInfo, hi, hv]
/-- what a type's zero value is -/
def zvOf (P : Program) (E : TypeId) : Option Value := (P.info? E).bind (·.zero)
omit [Obs] in
theorem zv_run {E : TypeId} {v : Value} (hv : zvOf P E = some v) (w : World) : (zeroValue E).run P w = .ok v w := by
  unfold zvOf at hv
  cases hi : P.info? E with
  | none => rw [hi] at hv; cases hv
  | some i => rw [hi] at hv; simp only [Option.bind_some] at hv; simp [zeroValue, typeInfo, hi, hv]

omit [DecidableEq κ] in
theorem St.map_at {F : Hp} {H R : List HProp} {w : World} {b : Nat} {kv : List (κ × Value)} (s : St F H w) (p : Pick (mapC kf b kv) H R) : ∃ es clock, w.heap[b]? = some (.map es clock) ∧ Reads kf es.toList kv := by
  obtain ⟨h, ⟨es, clock, h1, h2, _⟩, hl⟩ := s.chunk p
  exact ⟨es, clock, hl _ _ h1, h2⟩

theorem TrL.lookup {K E : TypeId} {b : Nat} {kv : List (κ × Value)} {k : κ} {zv v : Value} (hd : Nat.ble (d + 1) n = true) (hx : ev σ x = some (.map (some b))) (hy : ev σ y = some (kf k)) (ok : KeyOk P K kf) (hT : mapT P T = some (K, E)) (hz : zvOf P E = some zv)
    (p : Pick (mapC kf b kv) H R) (hv : (look kv k).getD zv = v) (h : TrL q P F n ops Q rest ((d, v) :: σ) H) : TrL q P F n ops Q (⟨some d, .lookup T x y false, ty, pos, after, none⟩ :: rest) σ H :=
  TrL.pure hd _ (fun a w f s => by
    obtain ⟨es, clock, hb, hr⟩ := s.map_at p
    have := run_lookup ok hT hb hr k (zv_run hz w) false
    simp only [execOp, f.eval hx, f.eval hy, Sem.run_bind, this, Result.andThen_ok, Sem.run_pure]
    rw [← hv]; rfl) h
theorem TrL.lookupOk {K E : TypeId} {b : Nat} {kv : List (κ × Value)} {k : κ} {zv v : Value} {found : Bool} (hd : Nat.ble (d + 1) n = true) (hx : ev σ x = some (.map (some b))) (hy : ev σ y = some (kf k)) (ok : KeyOk P K kf) (hT : mapT P T = some (K, E)) (hz : zvOf P E = some zv)
    (p : Pick (mapC kf b kv) H R) (hv : (look kv k).getD zv = v) (hf : (look kv k).isSome = found) (h : TrL q P F n ops Q rest ((d, .tuple #[v, .bool found]) :: σ) H) : TrL q P F n ops Q (⟨some d, .lookup T x y true, ty, pos, after, none⟩ :: rest) σ H :=
  TrL.pure hd _ (fun a w f s => by
    obtain ⟨es, clock, hb, hr⟩ := s.map_at p
    have := run_lookup ok hT hb hr k (zv_run hz w) true
    simp only [execOp, f.eval hx, f.eval hy, Sem.run_bind, this, Result.andThen_ok, Sem.run_pure]
    rw [← hv, ← hf]; rfl) h

omit [Obs] in
theorem modify_toList (es : Array MapEntry) (j : Nat) (g : MapEntry → MapEntry) : (es.modify j g).toList = es.toList.modify j g := by simp

omit [Obs] in
omit [DecidableEq κ] in
theorem reads_set {es : List MapEntry} {kv : List (κ × Value)} (hr : Reads kf es kv) (j : Nat) (k : κ) (v : Value) (g : MapEntry → MapEntry) (hg : ∀ e, (g e).key = kf k ∧ (g e).val = v) : Reads kf (es.modify j g) (kv.set j (k, v)) := by
  unfold Reads at *
  apply List.ext_getElem?
  intro i
  have h := congrArg (fun l => l[i]?) hr
  simp only [List.getElem?_map] at h
  simp only [List.getElem?_map, List.getElem?_modify, List.getElem?_set]
  by_cases hij : j = i
  · subst hij
    simp only [if_true]
    cases he : es[j]? with
    | none =>
      rw [he] at h
      have : kv[j]? = none := by cases hk : kv[j]? with | none => rfl | some _ => rw [hk] at h; cases h
      have hl : ¬ j < kv.length := by simpa using this
      simp [hl]
    | some e =>
      rw [he] at h
      have hl : j < kv.length := by
        cases hk : kv[j]? with
        | none => rw [hk] at h; cases h
        | some _ => exact (List.getElem?_eq_some_iff.1 hk).1
      simp [hl, (hg e).1, (hg e).2]
  · simp only [if_neg hij]
    simpa using h

/-- 'm[k] = v' -/
theorem TrL.mapUpdate {K E : TypeId} {b : Nat} {kv : List (κ × Value)} {k : κ} {v : Value} {H' : List HProp} (hx : ev σ x = some (.map (some b))) (hy : ev σ y = some (kf k)) (hz : ev σ z = some v) (ok : KeyOk P K kf) (hT : mapT P T = some (K, E))
    (u : Upd (mapC kf b kv) (mapC kf b (putK kv k v)) H H') (h : TrL .eff P F n ops Q rest σ H') : TrL .eff P F n ops Q (⟨none, .mapUpdate T x y z, ty, pos, after, none⟩ :: rest) σ H :=
  TrL.op0 fun a w f s => by
    obtain ⟨R, p, _⟩ := u.split
    obtain ⟨hp, ⟨es, clock, h1, hr, hst⟩, hl⟩ := s.chunk p
    have hb : w.heap[b]? = some (.map es clock) := hl _ _ h1
    obtain ⟨desc, hu, hs⟩ := ok.same
    have hf := findNow_pos ok hs k es.toList kv 0 hr
    have hg : (getObj b).run P w = .ok (.map es clock) w := by simp [getObj, Sem.run, hb]
    have hfk : (Instr.findKey K (kf k) es.toList).run P w = .ok (posK kv k 0) w := by simp [Instr.findKey, run_underlying hu, hf]
    have hlt := (Array.getElem?_eq_some_iff.1 hb).1
    have set_ok : ∀ o : Obj, (setObj b o).run P w = .ok () { w with heap := w.heap.setIfInBounds b o } := fun o => by simp [setObj, Sem.run, hb]
    have put_ok : ∀ es' clock', Reads kf es'.toList (putK kv k v) → MapKept.Stamped es' clock' → St F H' { w with heap := w.heap.setIfInBounds b (.map es' clock') } := by
      intro es' clock' hr' hs'
      refine s.upd u fun h1' hc _ => ⟨Hp.one b (.map es' clock'), ⟨es', clock', Hp.one_self _ _, hr', hs'⟩, ?_, ?_, ?_⟩
      · intro k' x' e; obtain ⟨rfl, rfl⟩ := Hp.one_some e; simp [hpOf, hlt]
      · intro k' x' e; obtain ⟨rfl, rfl⟩ := Hp.one_some e; obtain ⟨es0, c0, hc0, _⟩ := hc; exact .inl ⟨_, hc0⟩
      · intro k' x' e1 e2
        have : b ≠ k' := by rintro rfl; obtain ⟨es0, c0, hc0, _⟩ := hc; rw [hc0] at e1; cases e1
        simp only [Array.getElem?_setIfInBounds, if_neg this]; exact e2
    cases hpz : posK kv k 0 with
    | none =>
      have hnot := posK_none hpz
      refine ⟨.skip, { w with heap := w.heap.setIfInBounds b (.map (es.push { key := kf k, val := v, born := clock }) (clock + 1)) }, H', ?_, .inl rfl, put_ok _ _ ?_ ?_, h⟩
      · simp only [execOp, f.eval hx, f.eval hy, f.eval hz, Instr.mapUpdate, Sem.run_bind, run_underlying (mapT_eq hT), Result.andThen_ok, hg, ok.check, hfk, hpz, set_ok, Sem.run_pure]
      · unfold putK; rw [hpz]; unfold Reads at *; simp [hr]
      · refine MapKept.stamped_push hst fun e he => ?_
        intro hek
        have : (e.key, e.val) ∈ kv.map fun p => (kf p.1, p.2) := by rw [← hr]; exact List.mem_map.2 ⟨e, he, rfl⟩
        obtain ⟨p', hp', e'⟩ := List.mem_map.1 this
        simp only [Prod.mk.injEq] at e'
        exact hnot p' hp' (ok.inj _ _ (e'.1.trans hek))
    | some jv =>
      obtain ⟨j, v0⟩ := jv
      obtain ⟨_, hj⟩ := posK_some hpz
      simp only [Nat.sub_zero] at hj
      have hej : ∃ e, es[j]? = some e ∧ e.key = kf k := by
        have := congrArg (fun l => l[j]?) hr
        simp only [List.getElem?_map, hj, Option.map_some] at this
        cases he : es.toList[j]? with
        | none => rw [he] at this; cases this
        | some e => rw [he] at this; simp at this; exact ⟨e, by simpa using he, this.1⟩
      obtain ⟨e, he, hek⟩ := hej
      have hstay : (Instr.keyThatStays (((es[j]?).map (·.key)).getD (kf k)) (kf k)).run P w = .ok (kf k) w := by
        rw [he]; simp only [Option.map_some, Option.getD_some, hek, Instr.keyThatStays, ok.bits, if_true, Sem.run_pure]
      refine ⟨.skip, { w with heap := w.heap.setIfInBounds b (.map (es.modify j fun e => { e with key := kf k, val := v }) clock) }, H', ?_, .inl rfl, put_ok _ _ ?_ ?_, h⟩
      · simp only [execOp, f.eval hx, f.eval hy, f.eval hz, Instr.mapUpdate, Sem.run_bind, run_underlying (mapT_eq hT), Result.andThen_ok, hg, ok.check, hfk, hpz, hstay, set_ok, Sem.run_pure]
      · unfold putK; rw [hpz, modify_toList]; exact reads_set hr j k v _ fun _ => ⟨rfl, rfl⟩
      · exact MapKept.stamped_modify hst j _ (fun _ _ => rfl) (fun e' _ he' => by rw [he] at he'; cases he'; exact hek.symm)

/-- 'delete(m, k)' -/
theorem TrL.delete {xs : Array Operand} {K E : TypeId} {b : Nat} {kv : List (κ × Value)} {k : κ} {H' : List HProp} {ts : Array TypeId} (hx : evs σ xs.toList = some [.map (some b), kf k]) (ok : KeyOk P K kf) (hts : ts[0]? = some T) (hT : mapT P T = some (K, E))
    (u : Upd (mapC kf b kv) (mapC kf b (delK kv k)) H H') (h : TrL .eff P F n ops Q rest σ H') : TrL .eff P F n ops Q (⟨none, .call ⟨.builtin .delete, xs, ts⟩, ty, pos, after, none⟩ :: rest) σ H :=
  TrL.op0 fun a w f s => by
    have e1 : xs.map a.eval = #[.map (some b), kf k] := by apply Array.ext'; simpa using f.evals hx
    obtain ⟨R, p, _⟩ := u.split
    obtain ⟨hp, ⟨es, clock, h1, hr, hst⟩, hl⟩ := s.chunk p
    have hb : w.heap[b]? = some (.map es clock) := hl _ _ h1
    obtain ⟨desc, hu, hs⟩ := ok.same
    have hf := findNow_pos ok hs k es.toList kv 0 hr
    have hg : (getObj b).run P w = .ok (.map es clock) w := by simp [getObj, Sem.run, hb]
    have hfk : (Instr.findKey K (kf k) es.toList).run P w = .ok (posK kv k 0) w := by simp [Instr.findKey, run_underlying hu, hf]
    have hlt := (Array.getElem?_eq_some_iff.1 hb).1
    have set_ok : ∀ o : Obj, (setObj b o).run P w = .ok () { w with heap := w.heap.setIfInBounds b o } := fun o => by simp [setObj, Sem.run, hb]
    have put_ok : ∀ es' clock', Reads kf es'.toList (delK kv k) → MapKept.Stamped es' clock' → St F H' { w with heap := w.heap.setIfInBounds b (.map es' clock') } := by
      intro es' clock' hr' hs'
      refine s.upd u fun h1' hc _ => ⟨Hp.one b (.map es' clock'), ⟨es', clock', Hp.one_self _ _, hr', hs'⟩, ?_, ?_, ?_⟩
      · intro k' x' e; obtain ⟨rfl, rfl⟩ := Hp.one_some e; simp [hpOf, hlt]
      · intro k' x' e; obtain ⟨rfl, rfl⟩ := Hp.one_some e; obtain ⟨es0, c0, hc0, _⟩ := hc; exact .inl ⟨_, hc0⟩
      · intro k' x' e1 e2
        have : b ≠ k' := by rintro rfl; obtain ⟨es0, c0, hc0, _⟩ := hc; rw [hc0] at e1; cases e1
        simp only [Array.getElem?_setIfInBounds, if_neg this]; exact e2
    have h0 : (#[Value.map (some b), kf k] : Array Value)[0]? = some (.map (some b)) := rfl
    have h1' : (#[Value.map (some b), kf k] : Array Value)[1]? = some (kf k) := rfl
    cases hpz : posK kv k 0 with
    | none =>
      refine ⟨.value (.tuple #[]), { w with heap := w.heap.setIfInBounds b (.map es clock) }, H', ?_, .inr ⟨_, rfl⟩, put_ok _ _ ?_ hst, h⟩
      · rw [BigFrame.execOp_builtin, e1]
        simp only [BigFrame.builtin_delete, Builtin.delete_, hts, h0, h1', Sem.run_bind, run_underlying (mapT_eq hT), Result.andThen_ok, hg, ok.check, hfk, hpz, set_ok, Sem.run_pure]
      · unfold delK; rw [hpz]; exact hr
    | some jv =>
      obtain ⟨j, v0⟩ := jv
      refine ⟨.value (.tuple #[]), { w with heap := w.heap.setIfInBounds b (.map (es.eraseIdxIfInBounds j) clock) }, H', ?_, .inr ⟨_, rfl⟩, put_ok _ _ ?_ (MapKept.stamped_erase hst j), h⟩
      · rw [BigFrame.execOp_builtin, e1]
        simp only [BigFrame.builtin_delete, Builtin.delete_, hts, h0, h1', Sem.run_bind, run_underlying (mapT_eq hT), Result.andThen_ok, hg, ok.check, hfk, hpz, set_ok, Sem.run_pure]
      · unfold delK; rw [hpz]
        unfold Reads at *
        obtain ⟨_, hj⟩ := posK_some hpz
        simp only [Nat.sub_zero] at hj
        have hjl : j < es.size := by
          have h2 := (List.getElem?_eq_some_iff.1 hj).1
          have h3 := congrArg List.length hr
          simp at h3; omega
        have : (es.eraseIdxIfInBounds j).toList = es.toList.eraseIdx j := by simp [Array.eraseIdxIfInBounds, hjl]
        rw [this]
        rw [map_eraseIdx', map_eraseIdx', hr]

omit [DecidableEq κ] in
theorem TrL.lenMap {xs : Array Operand} {K E : TypeId} {b : Nat} {kv : List (κ × Value)} {u : TypeId} (hd : Nat.ble (d + 1) n = true) (hx : evs σ xs.toList = some [.map (some b)]) (hT : mapT P u = some (K, E)) (p : Pick (mapC kf b kv) H R)
    (h : TrL q P F n ops Q rest ((d, .int .i64 (kv.length : Int)) :: σ) H) : TrL q P F n ops Q (⟨some d, .call ⟨.builtin .len, xs, #[u]⟩, ty, pos, after, none⟩ :: rest) σ H :=
  TrL.pure hd _ (fun a w f s => by
    have e1 : xs.map a.eval = #[.map (some b)] := by apply Array.ext'; simpa using f.evals hx
    obtain ⟨es, clock, hb, hr⟩ := s.map_at p
    have hg : (getObj b).run P w = .ok (.map es clock) w := by simp [getObj, Sem.run, hb]
    have hl : es.size = kv.length := by have := congrArg List.length hr; simpa using this
    rw [BigFrame.execOp_builtin, e1]
    simp [BigFrame.builtin_len, Builtin.len_, run_underlying (mapT_eq hT), hg, goInt, hl]) h
end
end

section
variable {q : Md} {P : Program} {F : Hp} {n : Nat} {Q : Post} {σ : Sl} {H R : List HProp} {ops : Array Oper} {rest : List Oper}
variable {d : Nat} {ty : TypeId} {pos : String} {after : Array Edge} {T U : TypeId} {x y z : Operand}
/-! ### a text that is ranged over -/
theorem TrL.rangeS {s : ByteArray} (hd : Nat.ble (d + 1) n = true) (hx : ev σ x = some (.string s)) (ht : isStr P T = true) (h : ∀ b, TrL .eff P F n ops Q rest ((d, .pointer (some ⟨b, 0, none⟩)) :: σ) (pt b (.stringIter s 0) :: H)) :
    TrL .eff P F n ops Q (⟨some d, .range T x, ty, pos, after, none⟩ :: rest) σ H :=
  TrL.op hd fun a w f st => ⟨_, w.alloc (.stringIter s 0), _, by simp [execOp, f.eval hx, Instr.range, run_underlying (isStr_eq ht), newObj, Sem.run], st.alloc _, h w.heap.size⟩
theorem TrL.nextS {s : ByteArray} {b i : Nat} {H' : List HProp} (hd : Nat.ble (d + 1) n = true) (hx : ev σ x = some (.pointer (some ⟨b, 0, none⟩))) (u : Upd (pt b (.stringIter s i)) (pt b (.stringIter s (i + (Utf8.decode s i).2))) H H')
    (h1 : i < s.size → TrL .eff P F n ops Q rest ((d, .tuple #[.bool true, .int .i64 (i : Int), .int .i32 (Utf8.decode s i).1]) :: σ) H') (h2 : ¬ i < s.size → TrL .eff P F n ops Q rest ((d, .tuple #[.bool false]) :: σ) H) :
    TrL .eff P F n ops Q (⟨some d, .next x true, ty, pos, after, none⟩ :: rest) σ H := by
  by_cases hi : i < s.size
  · refine TrL.op hd fun a w f st => ?_
    obtain ⟨R, p, _⟩ := u.split
    have hb := st.pt_at p
    have hlt := (Array.getElem?_eq_some_iff.1 hb).1
    have hg : (getObj b).run P w = .ok (.stringIter s i) w := by simp [getObj, Sem.run, hb]
    refine ⟨_, { w with heap := w.heap.setIfInBounds b (.stringIter s (i + (Utf8.decode s i).2)) }, H', ?_, st.put u (by simp [hlt]) (fun k hk => by simp only [Array.getElem?_setIfInBounds, if_neg (Ne.symm hk)]), h1 hi⟩
    simp [execOp, f.eval hx, Instr.next, hg, hi, setObj, Sem.run, hb, goInt]
  · refine TrL.op hd fun a w f st => ?_
    obtain ⟨R, p, _⟩ := u.split
    have hb := st.pt_at p
    have hg : (getObj b).run P w = .ok (.stringIter s i) w := by simp [getObj, Sem.run, hb]
    exact ⟨_, w, H, by simp [execOp, f.eval hx, Instr.next, hg, hi], st, h2 hi⟩

/-! ### pointers, maps and slices held against nil; a pointer that is followed -/
theorem TrL.nilCheck {p : Addr} (hd : Nat.ble (d + 1) n = true) (hx : ev σ x = some (.pointer (some p))) (h : TrL q P F n ops Q rest ((d, .pointer (some p)) :: σ) H) : TrL q P F n ops Q (⟨some d, .nilCheck x, ty, pos, after, none⟩ :: rest) σ H :=
  TrL.pure hd _ (fun a w f _ => by simp [execOp, f.eval hx]) h
def isPtr (P : Program) (T : TypeId) : Bool := match P.underlying T with
  | some (.pointer _) => true
  | _ => false
omit [Obs] in
theorem isPtr_eq (h : isPtr P T = true) : ∃ e, P.underlying T = some (.pointer e) := by
  unfold isPtr at h; split at h
  · exact ⟨_, ‹_›⟩
  · cases h
omit [Obs] in
theorem eqIn_ptr {e : TypeId} {d : Nat} {p : Option Addr} {w : World} (h : P.underlying T = some (.pointer e)) : (Op.equalIn (d + 1) T (.pointer p) (.pointer none)).run P w = .ok p.isNone w := by
  cases p <;> simp [Op.equalIn, run_underlying h]
omit [Obs] in
theorem run_eqV {a b : Value} {c : Bool} {w : World} (hb : eqGuard .eql T x y a b = Pure.pure () ∧ binOp .eql T a b = (do Pure.pure (.bool (← Op.equal T a b)))) (he : (Op.equal T a b).run P w = .ok c w) :
    (do let v ← (do eqGuard .eql T x y a b; binOp .eql T a b); Pure.pure (Next.value v) : Sem Next).run P w = .ok (.value (.bool c)) w := by
  rw [hb.1, hb.2]; simp [he]
omit [Obs] in
theorem run_neV {a b : Value} {c : Bool} {w : World} (hb : eqGuard .neq T x y a b = Pure.pure () ∧ binOp .neq T a b = (do Pure.pure (.bool (!(← Op.equal T a b))))) (he : (Op.equal T a b).run P w = .ok c w) :
    (do let v ← (do eqGuard .neq T x y a b; binOp .neq T a b); Pure.pure (Next.value v) : Sem Next).run P w = .ok (.value (.bool (!c))) w := by
  rw [hb.1, hb.2]; simp [he]
theorem TrL.eqpNil {p : Option Addr} (hd : Nat.ble (d + 1) n = true) (hx : ev σ x = some (.pointer p)) (hy : ev σ y = some (.pointer none)) (ht : isPtr P T = true) (h : TrL q P F n ops Q rest ((d, .bool p.isNone) :: σ) H) :
    TrL q P F n ops Q (⟨some d, .binOp .eql T x y U, ty, pos, after, none⟩ :: rest) σ H :=
  TrL.pure hd _ (fun a w f _ => by
    obtain ⟨e, he⟩ := isPtr_eq ht
    simp only [execOp, f.eval hx, f.eval hy]
    exact run_eqV ⟨rfl, rfl⟩ (eqIn_ptr (d := 9999) he)) h
theorem TrL.nepNil {p : Option Addr} (hd : Nat.ble (d + 1) n = true) (hx : ev σ x = some (.pointer p)) (hy : ev σ y = some (.pointer none)) (ht : isPtr P T = true) (h : TrL q P F n ops Q rest ((d, .bool (!p.isNone)) :: σ) H) :
    TrL q P F n ops Q (⟨some d, .binOp .neq T x y U, ty, pos, after, none⟩ :: rest) σ H :=
  TrL.pure hd _ (fun a w f _ => by
    obtain ⟨e, he⟩ := isPtr_eq ht
    simp only [execOp, f.eval hx, f.eval hy]
    exact run_neV ⟨rfl, rfl⟩ (eqIn_ptr (d := 9999) he)) h
theorem TrL.eqpSome {p : Addr} (hd : Nat.ble (d + 1) n = true) (hx : ev σ x = some (.pointer (some p))) (hy : ev σ y = some (.pointer none)) (ht : isPtr P T = true) (h : TrL q P F n ops Q rest ((d, .bool false) :: σ) H) :
    TrL q P F n ops Q (⟨some d, .binOp .eql T x y U, ty, pos, after, none⟩ :: rest) σ H := TrL.eqpNil hd hx hy ht h
theorem TrL.nepSome {p : Addr} (hd : Nat.ble (d + 1) n = true) (hx : ev σ x = some (.pointer (some p))) (hy : ev σ y = some (.pointer none)) (ht : isPtr P T = true) (h : TrL q P F n ops Q rest ((d, .bool true) :: σ) H) :
    TrL q P F n ops Q (⟨some d, .binOp .neq T x y U, ty, pos, after, none⟩ :: rest) σ H := TrL.nepNil hd hx hy ht h
theorem TrL.eqmNil {p : Option Nat} {K E : TypeId} (hd : Nat.ble (d + 1) n = true) (hx : ev σ x = some (.map p)) (hy : ev σ y = some (.map none)) (ht : mapT P T = some (K, E)) (h : TrL q P F n ops Q rest ((d, .bool p.isNone) :: σ) H) :
    TrL q P F n ops Q (⟨some d, .binOp .eql T x y U, ty, pos, after, none⟩ :: rest) σ H :=
  TrL.pure hd _ (fun a w f _ => by
    simp only [execOp, f.eval hx, f.eval hy]
    exact run_eqV ⟨rfl, rfl⟩ (run_equal_map_nil w T K E p (mapT_eq ht))) h
theorem TrL.eqmSome {p : Nat} {K E : TypeId} (hd : Nat.ble (d + 1) n = true) (hx : ev σ x = some (.map (some p))) (hy : ev σ y = some (.map none)) (ht : mapT P T = some (K, E)) (h : TrL q P F n ops Q rest ((d, .bool false) :: σ) H) :
    TrL q P F n ops Q (⟨some d, .binOp .eql T x y U, ty, pos, after, none⟩ :: rest) σ H := TrL.eqmNil hd hx hy ht h
theorem TrL.eqlNil {p : Option Addr} {l c : Nat} {E : TypeId} (hd : Nat.ble (d + 1) n = true) (hx : ev σ x = some (.slice p l c)) (hy : ev σ y = some (.slice none 0 0)) (ht : slEl P T = some E) (h : TrL q P F n ops Q rest ((d, .bool p.isNone) :: σ) H) :
    TrL q P F n ops Q (⟨some d, .binOp .eql T x y U, ty, pos, after, none⟩ :: rest) σ H :=
  TrL.pure hd _ (fun a w f _ => by
    simp only [execOp, f.eval hx, f.eval hy]
    exact run_eqV ⟨rfl, rfl⟩ (Go.run_equal_slice_nil w T E p l c (slEl_eq ht))) h
def isBool (P : Program) (T : TypeId) : Bool := match P.underlying T with
  | some .bool => true
  | _ => false
omit [Obs] in
theorem isBool_eq (h : isBool P T = true) : P.underlying T = some .bool := by
  unfold isBool at h; split at h
  · assumption
  · cases h
theorem TrL.eqb {b c : Bool} (hd : Nat.ble (d + 1) n = true) (hx : ev σ x = some (.bool b)) (hy : ev σ y = some (.bool c)) (ht : isBool P T = true) (h : TrL q P F n ops Q rest ((d, .bool (b == c)) :: σ) H) :
    TrL q P F n ops Q (⟨some d, .binOp .eql T x y U, ty, pos, after, none⟩ :: rest) σ H :=
  TrL.pure hd _ (fun a w f _ => by
    simp only [execOp, f.eval hx, f.eval hy]
    exact run_eqV ⟨rfl, rfl⟩ (run_equal_bool w T b c (isBool_eq ht))) h
theorem TrL.neb {b c : Bool} (hd : Nat.ble (d + 1) n = true) (hx : ev σ x = some (.bool b)) (hy : ev σ y = some (.bool c)) (ht : isBool P T = true) (h : TrL q P F n ops Q rest ((d, .bool (b != c)) :: σ) H) :
    TrL q P F n ops Q (⟨some d, .binOp .neq T x y U, ty, pos, after, none⟩ :: rest) σ H :=
  TrL.pure hd _ (fun a w f _ => by
    simp only [execOp, f.eval hx, f.eval hy]
    exact run_neV ⟨rfl, rfl⟩ (run_equal_bool w T b c (isBool_eq ht))) h
theorem TrL.unwantU {d : Nat} {op : Op} {ty : TypeId} {pos : String} {after : Array Edge} {j e : Nat} {b : Bool} (hj : (ops[j]?).bind (·.dst) = some e) (hl : lk σ e = some undef) (hd : Nat.ble (d + 1) n = true)
    (h : TrL q P F n ops Q rest ((d, undef) :: σ) H) : TrL q P F n ops Q (⟨some d, op, ty, pos, after, some (j, b)⟩ :: rest) σ H := by
  have hy : ∀ {a : Act}, Fits n σ a → yielded ops a.tmps j = none := fun f => by
    unfold yielded
    rw [hj]
    simp only [Option.bind_some]
    rw [f.slots _ _ hl]
    rfl
  cases q with
  | eff =>
    intro a w f s
    unfold wpList
    rw [if_neg (by simp [Region.wanted, hy f])]
    exact h _ w (f.put hd _) s
  | quiet =>
    intro a f
    unfold wpQuiet
    rw [if_neg (by simp [Region.wanted, hy f])]
    exact h _ (f.put hd _)
  | still tail =>
    intro a w f s
    unfold wpStill
    rw [if_neg (by simp [Region.wanted, hy f])]
    exact h _ w (f.put hd _) s
  | take G =>
    intro a f
    exact ⟨undef, .inr ⟨by simp [Region.wanted, hy f], rfl⟩, h _ (f.put hd _)⟩
end
end Go.Proofs.Ytiefmfimbmkdjaa

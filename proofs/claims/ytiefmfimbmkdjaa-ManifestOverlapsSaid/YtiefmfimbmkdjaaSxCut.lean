/-
  Symbolic execution: parts of slices and of texts; what is left of a division.
  No condition; plain lemmas.
-/
import Derived.Test.YtiefmfimbmkdjaaSxKit
namespace Go.Proofs.Ytiefmfimbmkdjaa
set_option linter.unusedSimpArgs false
set_option linter.unusedVariables false
set_option linter.unusedSectionVars false
open Go.RowKit
variable [Obs]

section
variable {q : Md} {P : Program} {F : Hp} {n : Nat} {Q : Post} {σ : Sl} {H R : List HProp} {ops : Array Oper} {rest : List Oper}
variable {d : Nat} {ty : TypeId} {pos : String} {after : Array Edge} {T U : TypeId} {x y z : Operand}

/-- a Bool in a slot, known -/
theorem TrL.knownB {l : List Oper} {t : Nat} {b c : Bool} (hl : lk σ t = some (.bool b)) (e : b = c) (h : TrL q P F n ops Q l ((t, .bool c) :: σ) H) : TrL q P F n ops Q l σ H := by
  refine TrL.cases hl (fun h1 => ?_) (fun h1 => ?_)
  · rw [← h1]; rw [← e] at h; exact h
  · rw [← h1]; rw [← e] at h; exact h
/-- bit by bit -/
def andI (k : IntKind) (a b : Int) : Int := k.wrap ((BitVec.ofInt k.bits a &&& BitVec.ofInt k.bits b).toNat : Int)
def orI (k : IntKind) (a b : Int) : Int := k.wrap ((BitVec.ofInt k.bits a ||| BitVec.ofInt k.bits b).toNat : Int)
def xorI (k : IntKind) (a b : Int) : Int := k.wrap ((BitVec.ofInt k.bits a ^^^ BitVec.ofInt k.bits b).toNat : Int)
theorem TrL.and {k : IntKind} {a b : Int} (hd : Nat.ble (d + 1) n = true) (hx : ev σ x = some (.int k a)) (hy : ev σ y = some (.int k b)) (h : TrL q P F n ops Q rest ((d, .int k (andI k a b)) :: σ) H) :
    TrL q P F n ops Q (⟨some d, .binOp .and T x y U, ty, pos, after, none⟩ :: rest) σ H :=
  TrL.pure hd _ (fun a w f _ => by simp only [execOp, f.eval hx, f.eval hy]; simp [go_sem, Op.intBits, andI]) h
theorem TrL.or {k : IntKind} {a b : Int} (hd : Nat.ble (d + 1) n = true) (hx : ev σ x = some (.int k a)) (hy : ev σ y = some (.int k b)) (h : TrL q P F n ops Q rest ((d, .int k (orI k a b)) :: σ) H) :
    TrL q P F n ops Q (⟨some d, .binOp .or T x y U, ty, pos, after, none⟩ :: rest) σ H :=
  TrL.pure hd _ (fun a w f _ => by simp only [execOp, f.eval hx, f.eval hy]; simp [go_sem, Op.intBits, orI]) h
theorem TrL.xor {k : IntKind} {a b : Int} (hd : Nat.ble (d + 1) n = true) (hx : ev σ x = some (.int k a)) (hy : ev σ y = some (.int k b)) (h : TrL q P F n ops Q rest ((d, .int k (xorI k a b)) :: σ) H) :
    TrL q P F n ops Q (⟨some d, .binOp .xor T x y U, ty, pos, after, none⟩ :: rest) σ H :=
  TrL.pure hd _ (fun a w f _ => by simp only [execOp, f.eval hx, f.eval hy]; simp [go_sem, Op.intBits, xorI]) h
def shrI (k : IntKind) (a b : Int) : Int := a.fdiv (2 ^ min b.toNat k.bits)
def shlI (k : IntKind) (a b : Int) : Int := k.wrap (a * 2 ^ min b.toNat k.bits)
theorem TrL.shr {k k' : IntKind} {a b : Int} (hd : Nat.ble (d + 1) n = true) (hx : ev σ x = some (.int k a)) (hy : ev σ y = some (.int k' b)) (hb : 0 ≤ b) (h : TrL q P F n ops Q rest ((d, .int k (shrI k a b)) :: σ) H) :
    TrL q P F n ops Q (⟨some d, .binOp .shr T x y U, ty, pos, after, none⟩ :: rest) σ H :=
  TrL.pure hd _ (fun a w f _ => by simp only [execOp, f.eval hx, f.eval hy]; simp [go_sem, Op.shift, shrI, Int.not_lt.2 hb]) h
theorem TrL.shl {k k' : IntKind} {a b : Int} (hd : Nat.ble (d + 1) n = true) (hx : ev σ x = some (.int k a)) (hy : ev σ y = some (.int k' b)) (hb : 0 ≤ b) (h : TrL q P F n ops Q rest ((d, .int k (shlI k a b)) :: σ) H) :
    TrL q P F n ops Q (⟨some d, .binOp .shl T x y U, ty, pos, after, none⟩ :: rest) σ H :=
  TrL.pure hd _ (fun a w f _ => by simp only [execOp, f.eval hx, f.eval hy]; simp [go_sem, Op.shift, shlI, Int.not_lt.2 hb]) h
theorem andI_le {a : Int} {b : Int} (h0 : 0 ≤ b) (h1 : b ≤ 9223372036854775807) : 0 ≤ andI .i64 a b ∧ andI .i64 a b ≤ b := by
  have hb : (BitVec.ofInt 64 b).toNat = b.toNat := by
    rw [BitVec.toNat_ofInt]
    have : b % (2 ^ 64 : Nat) = b := Int.emod_eq_of_lt h0 (by omega)
    rw [this]
  have h2 : (BitVec.ofInt 64 a &&& BitVec.ofInt 64 b).toNat ≤ b.toNat := by
    rw [BitVec.toNat_and, hb]; exact Nat.and_le_right
  have h3 : andI .i64 a b = ((BitVec.ofInt 64 a &&& BitVec.ofInt 64 b).toNat : Int) := wrap_i64 (a := ((BitVec.ofInt 64 a &&& BitVec.ofInt 64 b).toNat : Int)) ⟨by omega, by omega⟩
  rw [h3]; omega
theorem TrL.rem {k : IntKind} {a b : Int} (hd : Nat.ble (d + 1) n = true) (hx : ev σ x = some (.int k a)) (hy : ev σ y = some (.int k b)) (hb : b ≠ 0) (h : TrL q P F n ops Q rest ((d, .int k (a.tmod b)) :: σ) H) :
    TrL q P F n ops Q (⟨some d, .binOp .rem T x y U, ty, pos, after, none⟩ :: rest) σ H :=
  TrL.pure hd _ (fun a w f _ => by simp only [execOp, f.eval hx, f.eval hy]; simp [go_sem, Op.intDiv, hb]) h
theorem TrL.quo {k : IntKind} {a b : Int} (hd : Nat.ble (d + 1) n = true) (hx : ev σ x = some (.int k a)) (hy : ev σ y = some (.int k b)) (hb : b ≠ 0) (h : TrL q P F n ops Q rest ((d, .int k (k.wrap (a.tdiv b))) :: σ) H) :
    TrL q P F n ops Q (⟨some d, .binOp .quo T x y U, ty, pos, after, none⟩ :: rest) σ H :=
  TrL.pure hd _ (fun a w f _ => by simp only [execOp, f.eval hx, f.eval hy]; simp [go_sem, Op.intDiv, hb]) h

/-! ### what is not written any more goes to the frame -/
theorem St.freeze {c : HProp} {w : World} (s : St F H w) (p : Pick c H R) : ∃ F', Hp.le F F' ∧ (∃ h, c h ∧ Hp.le h F') ∧ St F' R w := by
  obtain ⟨h, a, b, c, d, o⟩ := s
  obtain ⟨h1, h2, dd, l1, l2, hc, s2⟩ := p.stars a
  have d1 : Hp.dj F h1 := b.mono (.refl _) l1
  exact ⟨Hp.un F h1, Hp.le_un_left _ _, ⟨h1, hc, Hp.le_un_right d1⟩, h2, s2, Hp.dj_un (b.mono (.refl _) l2) dd, Hp.un_le c (l1.trans d), l2.trans d, o⟩
theorem Tr.freeze {c : HProp} {code : Code} (p : Pick c H R) (h : ∀ F', Hp.le F F' → (∃ h, c h ∧ Hp.le h F') → Tr P F' n code Q σ R) : Tr P F n code Q σ H := fun a w f s =>
  let ⟨F', h1, h2, s'⟩ := s.freeze p; h F' h1 h2 a w f s'
theorem TrL.freeze {c : HProp} {l : List Oper} (p : Pick c H R) (h : ∀ F', Hp.le F F' → (∃ h, c h ∧ Hp.le h F') → TrL .eff P F' n ops Q l σ R) : TrL .eff P F n ops Q l σ H := fun a w f s =>
  let ⟨F', h1, h2, s'⟩ := s.freeze p; h F' h1 h2 a w f s'
omit [Obs] in
theorem OwnR.le {E k : Nat} {p : Option Addr} {m cap : Nat} {xs : List Value} {h : Hp} (o : OwnR E k p m cap xs h) : m ≤ cap ∧ cap ≤ maxLen := by
  obtain ⟨_, ⟨_, h2, h3⟩ | ⟨b, cur, _, _, h1, h2, _⟩⟩ := o
  · omega
  · exact ⟨h1, h2⟩
/-- a row of the call's own, that is only read from here on -/
theorem TrL.freezeO {α : Type} {E k : Nat} {enc : α → List Value} {p : Option Addr} {cap : Nat} {xs : List α} {l : List Oper} (pk : Pick (Own E k enc p cap xs) H R) (h0 : 0 < k) (hk : ∀ x, (enc x).length = k)
    (h : ∀ F', Hp.le F F' → SlIn F' enc k p xs → xs.length ≤ cap → cap ≤ maxLen → TrL .eff P F' n ops Q l σ R) : TrL .eff P F n ops Q l σ H := TrL.freeze pk fun F' hF ⟨_, ho, hl⟩ =>
  h F' hF (SlIn.mono _ _ _ _ _ _ hl (Own.slIn h0 hk ho)) (OwnR.le ho).1 (OwnR.le ho).2
theorem Tr.freezeO {α : Type} {E k : Nat} {enc : α → List Value} {p : Option Addr} {cap : Nat} {xs : List α} {code : Code} (pk : Pick (Own E k enc p cap xs) H R) (h0 : 0 < k) (hk : ∀ x, (enc x).length = k)
    (h : ∀ F', Hp.le F F' → SlIn F' enc k p xs → xs.length ≤ cap → cap ≤ maxLen → Tr P F' n code Q σ R) : Tr P F n code Q σ H := Tr.freeze pk fun F' hF ⟨_, ho, hl⟩ =>
  h F' hF (SlIn.mono _ _ _ _ _ _ hl (Own.slIn h0 hk ho)) (OwnR.le ho).1 (OwnR.le ho).2

theorem TrL.quoI {a b : Int} (hd : Nat.ble (d + 1) n = true) (hx : ev σ x = some (.int .i64 a)) (hy : ev σ y = some (.int .i64 b)) (hb : b ≠ 0) (hr : -9223372036854775808 ≤ a.tdiv b ∧ a.tdiv b ≤ 9223372036854775807) (h : TrL q P F n ops Q rest ((d, .int .i64 (a.tdiv b)) :: σ) H) :
    TrL q P F n ops Q (⟨some d, .binOp .quo T x y U, ty, pos, after, none⟩ :: rest) σ H := TrL.quo hd hx hy hb (by rw [wrap_i64 hr]; exact h)

/-- cells that are only read from here on -/
theorem Tr.freezeC {b E : Nat} {cs : List Value} {code : Code} (pk : Pick (cl b cs E) H R) (h : ∀ F', Hp.le F F' → SlIn F' (fun v => [v]) 1 (some ⟨b, 0, none⟩) cs → Tr P F' n code Q σ R) : Tr P F n code Q σ H := Tr.freeze pk fun F' hF ⟨_, hc, hl⟩ =>
  h F' hF (.inr ⟨b, 0, rfl, ⟨cs.toArray, E, (0, 0), hl _ _ hc, fun j u e => by
    have : cs.flatMap (fun v => [v]) = cs := by induction cs with
      | nil => rfl
      | cons a r ih => simp
    rw [this] at e; simpa using e⟩, fun _ _ => rfl⟩)
def arrT (P : Program) (T : TypeId) : Option (Nat × TypeId) := match P.underlying T with
  | some (.array k e) => some (k, e)
  | _ => none
theorem arrT_eq {m : Nat} {e : TypeId} (h : arrT P T = some (m, e)) : P.underlying T = some (.array m e) := by
  unfold arrT at h; split at h
  · rename_i k e' he; cases h; exact he
  · cases h
/-- the address of an element of an array -/
theorem TrL.idxArr {b o i size m : Nat} {k : IntKind} {j : Int} {e : TypeId} (hd : Nat.ble (d + 1) n = true) (hx : ev σ x = some (.pointer (some ⟨b, o, none⟩))) (hy : ev σ y = some (.int k j)) (he : arrT P T = some (m, e)) (hz : szOf P e = some size)
    (hj : j = (i : Int)) (hi : i < m) (h : TrL q P F n ops Q rest ((d, .pointer (some ⟨b, o + i * size, none⟩)) :: σ) H) : TrL q P F n ops Q (⟨some d, .indexAddr T x y, ty, pos, after, none⟩ :: rest) σ H :=
  TrL.pure hd _ (fun a w f s => by
    subst hj
    simp [execOp, f.eval hx, f.eval hy, Instr.indexAt, asIntOf, run_underlying (arrT_eq he), sizeOf_run hz, hi, addr_add, Instr.sureAddr, asAddr]) h

/-- where a part of a slice begins -/
def adv (p : Option Addr) (cap i : Nat) : Option Addr := if cap = i then p else p.map (·.add i)
def adk (p : Option Addr) (cap i k : Nat) : Option Addr := if cap = i then p else p.map (·.add (i * k))

omit [Obs] in
theorem slEl_u {e : TypeId} (h : slEl P T = some e) : P.underlying T = some (.slice (P.elem T)) ∧ P.elem T = e := by
  have h1 := slEl_eq h
  have h2 : P.elem T = e := by simp [Program.elem, h1]
  exact ⟨by rw [h2]; exact h1, h2⟩

theorem TrL.cutH {p : Option Addr} {len cap : Nat} {kd : IntKind} {j : Int} {e k : Nat} (hd : Nat.ble (d + 1) n = true) (hx : ev σ x = some (.slice p len cap)) (hy : ev σ y = some (.int kd j)) (he : slEl P T = some e) (hz : szOf P e = some k)
    (h0 : 0 ≤ j) (h1 : j ≤ cap) (h : TrL q P F n ops Q rest ((d, .slice p j.toNat cap) :: σ) H) : TrL q P F n ops Q (⟨some d, .slice T x none (some y) none, ty, pos, after, none⟩ :: rest) σ H :=
  TrL.pure hd _ (fun a w f _ => by
    obtain ⟨h3, h4⟩ := slEl_u he
    have h5 : (if cap = 0 then p else p.map (·.add (0 * k))) = p := by
      split
      · rfl
      · cases p with
        | none => rfl
        | some a => obtain ⟨b, o, m⟩ := a; simp [Addr.add]
    simp only [execOp, Option.map_none, Option.map_some, f.eval hx, f.eval hy, Sem.run_bind, run_sliceAt_slice w T _ _ _ _ h3, run_slice_h w T p len cap h3 kd j h0 h1]
    rw [h4, sizeOf_run hz]
    simp only [Result.andThen_ok, sliced, Nat.sub_zero, Sem.run_pure]
    rw [h5]) h
theorem TrL.cutL {p : Option Addr} {len cap : Nat} {kd : IntKind} {j : Int} {e k : Nat} (hd : Nat.ble (d + 1) n = true) (hx : ev σ x = some (.slice p len cap)) (hy : ev σ y = some (.int kd j)) (he : slEl P T = some e) (hz : szOf P e = some k)
    (h0 : 0 ≤ j) (h1 : j ≤ len) (h : TrL q P F n ops Q rest ((d, .slice (adk p cap j.toNat k) (len - j.toNat) (cap - j.toNat)) :: σ) H) : TrL q P F n ops Q (⟨some d, .slice T x (some y) none none, ty, pos, after, none⟩ :: rest) σ H :=
  TrL.pure hd _ (fun a w f _ => by
    obtain ⟨h3, h4⟩ := slEl_u he
    simp only [execOp, Option.map_none, Option.map_some, f.eval hx, f.eval hy, Sem.run_bind, run_sliceAt_slice w T _ _ _ _ h3, run_slice_l w T p len cap h3 kd j h0 h1]
    rw [h4, sizeOf_run hz]
    simp only [Result.andThen_ok, sliced, Sem.run_pure, adk]) h
theorem TrL.cutLH {p : Option Addr} {len cap : Nat} {kd ke : IntKind} {i j : Int} {e k : Nat} (hd : Nat.ble (d + 1) n = true) (hx : ev σ x = some (.slice p len cap)) (hy : ev σ y = some (.int kd i)) (hz' : ev σ z = some (.int ke j)) (he : slEl P T = some e) (hz : szOf P e = some k)
    (h0 : 0 ≤ i) (h1 : i ≤ j) (h2 : j ≤ cap) (h : TrL q P F n ops Q rest ((d, .slice (adk p cap i.toNat k) (j.toNat - i.toNat) (cap - i.toNat)) :: σ) H) : TrL q P F n ops Q (⟨some d, .slice T x (some y) (some z) none, ty, pos, after, none⟩ :: rest) σ H :=
  TrL.pure hd _ (fun a w f _ => by
    obtain ⟨h3, h4⟩ := slEl_u he
    simp only [execOp, Option.map_none, Option.map_some, f.eval hx, f.eval hy, f.eval hz', Sem.run_bind, run_sliceAt_slice w T _ _ _ _ h3, run_slice_lh w T p len cap h3 kd ke i j h0 h1 h2]
    rw [h4, sizeOf_run hz]
    simp only [Result.andThen_ok, sliced, Sem.run_pure, adk]) h

omit [Obs] in
theorem run_sliceStr {w : World} {s : ByteArray} (h : isStr P T = true) {lo hi : Option Value} {l m : Nat} (hlo : lo = none ∧ l = 0 ∨ ∃ k, lo = some (.int k l)) (hhi : hi = none ∧ m = s.size ∨ ∃ k, hi = some (.int k m)) (h1 : l ≤ m) (h2 : m ≤ s.size) :
    (Instr.sliceAt T (.string s) lo hi none).run P w = .ok (.string (s.extract l m)) w := by
  rw [run_sliceAt_string w T _ _ _ _ (isStr_eq h)]
  rcases hlo with ⟨rfl, rfl⟩ | ⟨k, rfl⟩ <;> rcases hhi with ⟨rfl, rfl⟩ | ⟨k', rfl⟩ <;>
    simp [Instr.slice, run_underlying (isStr_eq h), Instr.sliceBounds, run_sliceBound, *]
theorem TrL.cutS {s : ByteArray} {k : IntKind} {i j : Int} {k' : IntKind} (hd : Nat.ble (d + 1) n = true) (hx : ev σ x = some (.string s)) (hy : ev σ y = some (.int k i)) (hz : ev σ z = some (.int k' j)) (ht : isStr P T = true)
    (h0 : 0 ≤ i) (h1 : i ≤ j) (h2 : j ≤ s.size) (h : TrL q P F n ops Q rest ((d, .string (s.extract i.toNat j.toNat)) :: σ) H) : TrL q P F n ops Q (⟨some d, .slice T x (some y) (some z) none, ty, pos, after, none⟩ :: rest) σ H :=
  TrL.pure hd _ (fun a w f _ => by
    simp only [execOp, Option.map_none, Option.map_some, f.eval hx, f.eval hy, f.eval hz, Sem.run_bind]
    rw [run_sliceStr ht (l := i.toNat) (m := j.toNat) (.inr ⟨k, by rw [Int.toNat_of_nonneg h0]⟩) (.inr ⟨k', by rw [Int.toNat_of_nonneg (by omega)]⟩) (by omega) (by omega)]
    simp) h
theorem TrL.cutSL {s : ByteArray} {k : IntKind} {i : Int} (hd : Nat.ble (d + 1) n = true) (hx : ev σ x = some (.string s)) (hy : ev σ y = some (.int k i)) (ht : isStr P T = true)
    (h0 : 0 ≤ i) (h1 : i ≤ s.size) (h : TrL q P F n ops Q rest ((d, .string (s.extract i.toNat s.size)) :: σ) H) : TrL q P F n ops Q (⟨some d, .slice T x (some y) none none, ty, pos, after, none⟩ :: rest) σ H :=
  TrL.pure hd _ (fun a w f _ => by
    simp only [execOp, Option.map_none, Option.map_some, f.eval hx, f.eval hy, Sem.run_bind]
    rw [run_sliceStr ht (l := i.toNat) (m := s.size) (.inr ⟨k, by rw [Int.toNat_of_nonneg h0]⟩) (.inl ⟨rfl, rfl⟩) (by omega) (by omega)]
    simp) h
theorem TrL.cutSH {s : ByteArray} {k : IntKind} {j : Int} (hd : Nat.ble (d + 1) n = true) (hx : ev σ x = some (.string s)) (hy : ev σ y = some (.int k j)) (ht : isStr P T = true)
    (h0 : 0 ≤ j) (h1 : j ≤ s.size) (h : TrL q P F n ops Q rest ((d, .string (s.extract 0 j.toNat)) :: σ) H) : TrL q P F n ops Q (⟨some d, .slice T x none (some y) none, ty, pos, after, none⟩ :: rest) σ H :=
  TrL.pure hd _ (fun a w f _ => by
    simp only [execOp, Option.map_none, Option.map_some, f.eval hx, f.eval hy, Sem.run_bind]
    rw [run_sliceStr ht (l := 0) (m := j.toNat) (.inl ⟨rfl, rfl⟩) (.inr ⟨k, by rw [Int.toNat_of_nonneg h0]⟩) (by omega) (by omega)]
    simp) h
end

section
variable {α : Type} {enc : α → List Value} {k : Nat} {p : Option Addr} {l : List α}
omit [Obs] in
theorem flat_take (hk : ∀ x ∈ l, (enc x).length = k) : ∀ i, (l.take i).flatMap enc = (l.flatMap enc).take (i * k) := by
  induction l with
  | nil => intro i; simp
  | cons a l ih =>
    intro i
    cases i with
    | zero => simp
    | succ i =>
      have h1 := hk a (by simp)
      simp only [List.take_succ_cons, List.flatMap_cons, ih (fun x hx => hk x (by simp [hx]))]
      rw [List.take_append, h1, show (i + 1) * k - k = i * k by rw [Nat.succ_mul]; omega, List.take_of_length_le (l := enc a) (by rw [h1, Nat.succ_mul]; omega)]
omit [Obs] in
theorem flat_drop (hk : ∀ x ∈ l, (enc x).length = k) : ∀ i, (l.drop i).flatMap enc = (l.flatMap enc).drop (i * k) := by
  induction l with
  | nil => intro i; simp
  | cons a l ih =>
    intro i
    cases i with
    | zero => simp
    | succ i =>
      have h1 := hk a (by simp)
      simp only [List.drop_succ_cons, List.flatMap_cons, ih (fun x hx => hk x (by simp [hx]))]
      rw [List.drop_append, h1, show (i + 1) * k - k = i * k by rw [Nat.succ_mul]; omega, List.drop_of_length_le (l := enc a) (by rw [h1, Nat.succ_mul]; omega), List.nil_append]
omit [Obs] in
theorem SlIn.take {f : Hp} (s : SlIn f enc k p l) (i : Nat) : SlIn f enc k p (l.take i) := by
  rcases s with rfl | ⟨b, o, hp, ⟨c, T, fr, hb, hc⟩, hk⟩
  · exact .inl (by simp)
  · refine .inr ⟨b, o, hp, ⟨c, T, fr, hb, fun j u e => hc j u ?_⟩, fun x hx => hk x (List.mem_of_mem_take hx)⟩
    rw [flat_take hk, List.getElem?_take] at e
    split at e
    · exact e
    · cases e
omit [Obs] in
theorem SlIn.drop {f : Hp} (s : SlIn f enc k p l) {cap i : Nat} (hc : l.length ≤ cap) : SlIn f enc k (adk p cap i k) (l.drop i) := by
  unfold adk
  split
  · exact .inl (List.drop_of_length_le (by omega))
  · rcases s with rfl | ⟨b, o, rfl, ⟨c, T, fr, hb, hc⟩, hk⟩
    · exact .inl (by simp)
    · refine .inr ⟨b, o + i * k, by simp [addr_add], ⟨c, T, fr, hb, fun j u e => ?_⟩, fun x hx => hk x (List.mem_of_mem_drop hx)⟩
      rw [flat_drop hk, List.getElem?_drop] at e
      have := hc _ _ e
      rwa [show o + i * k + j = o + (i * k + j) by omega]
omit [Obs] in
theorem Own.take {E cap : Nat} (hk : ∀ x, (enc x).length = k) (i : Nat) (hi : i ≤ l.length) {h : Hp} (o : Own E k enc p cap l h) : Own E k enc p cap (l.take i) h := by
  obtain ⟨h1, h2⟩ := o
  have hl : (l.take i).length = i := by simp; omega
  unfold Own
  rw [hl]
  refine ⟨?_, ?_⟩
  · rw [flat_take (fun x _ => hk x), List.length_take, h1]
    exact Nat.min_eq_left (Nat.mul_le_mul_right _ hi)
  · rcases h2 with ⟨rfl, h3, rfl⟩ | ⟨b, cur, rfl, hb, r1, r2, r3, r4⟩
    · exact .inl ⟨rfl, by omega, rfl⟩
    · refine .inr ⟨b, cur, rfl, hb, by omega, r2, r3, ?_⟩
      rw [flat_take (fun x _ => hk x), ← r4, List.take_take, Nat.min_eq_left (Nat.mul_le_mul_right _ hi)]
end
end Go.Proofs.Ytiefmfimbmkdjaa

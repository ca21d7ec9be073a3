/-
  Symbolic execution: what strings.Builder is made of: pointers turned to unsafe ones and back, a pointer held against itself, a text out of a row of bytes.
  No condition; plain lemmas.
-/
import Derived.Test.YtiefmfimbmkdjaaSxArr
import Derived.Lib.Builder
import Derived.Lib.UnsafeStr
import Derived.Laws.Externs
namespace Go.Proofs.Ytiefmfimbmkdjaa
set_option linter.unusedSimpArgs false
set_option linter.unusedVariables false
set_option linter.unusedSectionVars false
open Go.RowKit
variable [Obs]

def ptrEl (P : Program) (T : TypeId) : Option TypeId := match P.underlying T with
  | some (.pointer e) => some e
  | _ => none
theorem ptrEl_eq {P : Program} {T e : TypeId} (h : ptrEl P T = some e) : P.underlying T = some (.pointer e) := by
  unfold ptrEl at h; split at h
  · rename_i e' he; cases h; exact he
  · cases h
def isUns (P : Program) (T : TypeId) : Bool := match P.underlying T with
  | some .unsafePointer => true
  | _ => false
theorem isUns_eq {P : Program} {T : TypeId} (h : isUns P T = true) : P.underlying T = some .unsafePointer := by
  unfold isUns at h; split at h
  · assumption
  · cases h
def isSame (P : Program) (f : FuncId) : Bool := match P.funcs[f]? with
  | some fn => !(fn.name == "runtime.NumGoroutine") && fn.body.isNone && fn.name == "internal/abi.NoEscape"
  | none => false

section
variable {q : Md} {P : Program} {F : Hp} {n : Nat} {Q : Post} {σ : Sl} {H R : List HProp} {ops : Array Oper} {rest : List Oper}
variable {d : Nat} {ty : TypeId} {pos : String} {after : Array Edge} {T U : TypeId} {x y : Operand}

theorem sz_info {t k : Nat} (h : szOf P t = some k) : ∃ j, P.info? t = some j ∧ j.size = k := by
  unfold szOf at h
  cases hi : P.info? t with
  | none => rw [hi] at h; cases h
  | some i => rw [hi] at h; simp only [Option.map_some, Option.some.injEq] at h; exact ⟨i, rfl, h⟩
theorem TrL.toUnsafe {b o k t E : Nat} {cs : List Value} (hd : Nat.ble (d + 1) n = true) (hx : ev σ x = some (.pointer (some ⟨b, o, none⟩))) (hT : ptrEl P T = some t) (hU : isUns P U = true) (hk : szOf P t = some k) (h0 : Nat.ble 1 k = true) (pk : Pick (cl b cs E) H R) (ho : o < cs.length)
    (h : TrL q P F n ops Q rest ((d, .pointer (some ⟨b, o, none⟩)) :: σ) H) : TrL q P F n ops Q (⟨some d, .convert T U x, ty, pos, after, none⟩ :: rest) σ H :=
  TrL.pure hd _ (fun a w f s => by
    obtain ⟨j, hj, hjk⟩ := sz_info hk
    have hb := s.pt_at pk
    have h1 := Nat.le_of_ble_eq_true h0
    have hr := Go.Lib.run_to_unsafe (P := P) w ⟨b, o, none⟩ (ptrEl_eq hT) (isUns_eq hU) hj (by omega) (e := E) (cells := cs.length) (by simp [World.shape?, hb]) ho
    simp only [execOp, f.eval hx, Sem.run_bind, hr, Result.andThen_ok, Sem.run_pure]) h
theorem TrL.fromUnsafe {b o k u E m : Nat} {cs : List Value} (hd : Nat.ble (d + 1) n = true) (hx : ev σ x = some (.pointer (some ⟨b, o, none⟩))) (hT : isUns P T = true) (hU : ptrEl P U = some u) (hk : szOf P u = some k) (pk : Pick (cl b cs E) H R) (hm : cs.length = m)
    (hl : liesAt P P.depth E (m / P.cellsOf E) o u 1 = true) (h : TrL q P F n ops Q rest ((d, .pointer (some ⟨b, o, none⟩)) :: σ) H) : TrL q P F n ops Q (⟨some d, .convert T U x, ty, pos, after, none⟩ :: rest) σ H :=
  TrL.pure hd _ (fun a w f s => by
    subst hm
    obtain ⟨j, hj, _⟩ := sz_info hk
    have hb := s.pt_at pk
    have hr := Go.Lib.run_from_unsafe (P := P) w ⟨b, o, none⟩ (isUns_eq hT) (ptrEl_eq hU) hj (e := E) (cells := cs.length) (by simp [World.shape?, hb]) hl
    simp only [execOp, f.eval hx, Sem.run_bind, hr, Result.andThen_ok, Sem.run_pure]) h
theorem TrL.noEscape {fv : Operand} {xs : Array Operand} {ts : Array TypeId} {f : FuncId} {v : Value} {fn : Func} (hd : Nat.ble (d + 1) n = true) (hf : ev σ fv = some (.func (.func f) #[] #[])) (hx : evs σ xs.toList = some [v]) (hfn : P.funcs[f]? = some fn) (h1 : (fn.name == "runtime.NumGoroutine") = false) (h2 : fn.body.isNone = true)
    (h3 : Extern.findNext fn = none) (h4 : Extern.find fn = some Extern.AbiNoEscape.same) (h : TrL q P F n ops Q rest ((d, v) :: σ) H) : TrL q P F n ops Q (⟨some d, .call ⟨.value fv, xs, ts⟩, ty, pos, after, none⟩ :: rest) σ H :=
  TrL.pure hd _ (fun a w fit _ => by
    have e1 : xs.map a.eval = #[v] := by apply Array.ext'; simpa using fit.evals hx
    have hr : (callFunc f #[v]).run P w = .ok (.value v) w := by
      rw [run_callFunc_extern hfn h1 h2 h3 h4, Go.Lib.run_noEscape]; rfl
    simp [execOp, resolve, fit.eval hf, Deferred.ofValue, invoke, e1, hr]) h
theorem TrL.nepEq {a : Addr} {t k : Nat} (hd : Nat.ble (d + 1) n = true) (hx : ev σ x = some (.pointer (some a))) (hy : ev σ y = some (.pointer (some a))) (hT : ptrEl P T = some t) (hk : szOf P t = some k) (h : TrL q P F n ops Q rest ((d, .bool false) :: σ) H) :
    TrL q P F n ops Q (⟨some d, .binOp .neq T x y U, ty, pos, after, none⟩ :: rest) σ H :=
  TrL.pure hd _ (fun c w f _ => by
    obtain ⟨j, hj, _⟩ := sz_info hk
    have hr := Go.Lib.run_neq_ptr_same (P := P) w a (ptrEl_eq hT) hj
    simp only [execOp, f.eval hx, f.eval hy]
    have hg : eqGuard .neq T x y (.pointer (some a)) (.pointer (some a)) = Pure.pure () := rfl
    rw [hg]
    simp [hr]) h
theorem TrL.sliceData {xs : Array Operand} {ts : Array TypeId} {E k len cp : Nat} {α : Type} {enc : α → List Value} {p : Option Addr} {cap : Nat} {l : List α} (hd : Nat.ble (d + 1) n = true) (hx : evs σ xs.toList = some [.slice p len cp]) (pk : Pick (Own E k enc p cap l) H R) (hl : l ≠ []) (hc : cp = cap)
    (h : TrL q P F n ops Q rest ((d, .pointer (some ⟨blk p, 0, none⟩)) :: σ) H) : TrL q P F n ops Q (⟨some d, .call ⟨.builtin .unsafeSliceData, xs, ts⟩, ty, pos, after, none⟩ :: rest) σ H :=
  TrL.pure hd _ (fun a w f s => by
    subst hc
    obtain ⟨g, hg, _⟩ := s.chunk pk
    have h1 : 0 < l.length := List.length_pos_iff.2 hl
    have hp := Own.base hg h1
    have h2 := (OwnR.le hg).1
    have e1 : xs.map a.eval = #[.slice (some ⟨blk p, 0, none⟩) len cp] := by rw [← hp]; apply Array.ext'; simpa using f.evals hx
    rw [BigFrame.execOp_builtin, e1]
    have hr := Go.Lib.run_unsafeSliceData_row (P := P) w ts ty ⟨blk p, 0, none⟩ len cp (by omega)
    simp [BigFrame.builtin_unsafeSliceData, hr]) h
/-- a text out of a row of bytes; the row is let go -/
theorem TrL.unsafeStr {xs : Array Operand} {E len : Nat} {T1 : TypeId} {p : Option Addr} {cap : Nat} {l : List UInt8} (hd : Nat.ble (d + 1) n = true) (hx : evs σ xs.toList = some [.pointer (some ⟨blk p, 0, none⟩), .int .i64 (len : Int)]) (hT : ptrEl P T1 = some E) (hE : P.cellsOf E = 1) (pk : Pick (Own E 1 encB p cap l) H R) (hl : l ≠ []) (hlen : len = l.length)
    (h : TrL .eff P F n ops Q rest ((d, .string (strOf l)) :: σ) R) : TrL .eff P F n ops Q (⟨some d, .call ⟨.builtin .unsafeString, xs, #[T1, U]⟩, ty, pos, after, none⟩ :: rest) σ H :=
  TrL.op hd fun a w f s => by
    subst hlen
    have s' : St F (Own E 1 encB p cap l :: R) w := s.imp fun _ => pk.stars
    obtain ⟨g, hg, hle⟩ := s'.chunk .here
    have h1 : 0 < l.length := List.length_pos_iff.2 hl
    have hp := Own.base hg h1
    have hg0 := hg
    obtain ⟨_, ⟨_, h3, _⟩ | ⟨b, cur, e, hb, r1, r2, r3, r4⟩⟩ := hg
    · omega
    · rw [hp] at e
      simp only [Option.some.injEq, Addr.mk.injEq, and_true] at e
      subst e
      have hw : w.heap[blk p]? = some (.cells cur E (0, 0)) := hle _ _ hb
      have e1 : xs.map a.eval = #[.pointer (some ⟨blk p, 0, none⟩), .int .i64 (l.length : Int)] := by apply Array.ext'; simpa using f.evals hx
      have hcell : ∀ j x, l[j]? = some x → w.cell? ((⟨blk p, 0, none⟩ : Addr).add j) = some (.int .u8 x.toNat) := fun j x hj => by
        rw [addr_add, Nat.zero_add]
        have := (Cells.mono _ _ _ _ _ hle (Own.at hg0 (fun _ => rfl) hj)).cell (j := 0) rfl
        simpa using this
      have hr := Go.Lib.run_unsafeString_row (P := P) w T1 U ty E (ptrEl_eq hT) hE (blk p) cur.size (by simp [World.shape?, hw]) l hl (by omega) (by simp only [maxLen] at r2; omega) hcell
      refine ⟨.string (strOf l), w.freeze ⟨blk p, 0, none⟩ l.length, R, ?_, ?_, h⟩
      · rw [BigFrame.execOp_builtin, e1]
        simp only [BigFrame.builtin_unsafeString, Sem.run_bind, hr, Result.andThen_ok, Sem.run_pure]
        rfl
      · have s2 : St F ((fun _ => True) :: R) (w.freeze ⟨blk p, 0, none⟩ l.length) := by
          refine s'.upd .here (fun h1' hc _ => ⟨Hp.emp, trivial, Hp.emp_le _, fun _ _ e => (by cases e), fun k' x' e1 e2 => ?_⟩) (by simp only [World.freeze]; split <;> rfl) (by simp only [World.freeze]; split <;> rfl)
          have hne : k' ≠ blk p := by
            rintro rfl
            obtain ⟨_, ⟨_, h3, _⟩ | ⟨b, cur', e, hb', _⟩⟩ := hc
            · omega
            · rw [hp] at e
              simp only [Option.some.injEq, Addr.mk.injEq, and_true] at e
              subst e
              rw [hb'] at e1; cases e1
          unfold World.freeze
          split
          · exact e2
          · simp only [Array.getElem?_modify, if_neg (Ne.symm hne)]; exact e2
        exact s2.imp fun _ ⟨_, _, _, _, l2, _, hs⟩ => hs.mono l2
end
end Go.Proofs.Ytiefmfimbmkdjaa

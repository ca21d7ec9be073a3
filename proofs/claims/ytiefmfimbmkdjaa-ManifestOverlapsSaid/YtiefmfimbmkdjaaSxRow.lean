/-
  From a walked law to its row: the arguments read as they did, the answer is true; what lies in a slice that came in.
  No condition; plain lemmas.
-/
import Derived.Test.YtiefmfimbmkdjaaSxCut
import Derived.ProofKit
import Derived.SliceStrings
namespace Go.Proofs.Ytiefmfimbmkdjaa
set_option linter.unusedSimpArgs false
set_option linter.unusedVariables false
set_option linter.unusedSectionVars false
open Go.RowKit Go.ChangeShapes Go.WideShapes Go.ChangeAt

section
variable {H : Type} {enc : TypeId × Value → H} {P : Program}

theorem hp_same {W W' : World} (le : Hp.le (hpOf W) (hpOf W')) {k : Nat} (hk : k < W.heap.size) : W'.heap[k]? = W.heap[k]? := by
  have h1 : W.heap[k]? = some W.heap[k] := Array.getElem?_eq_getElem hk
  rw [h1]; exact le k _ h1
theorem hp_sameAt {W W' : World} (le : Hp.le (hpOf W) (hpOf W')) {p : MemPlace} (hp : p.block < W.heap.size) : W.sameAt W' p := by
  cases p with
  | cell b o => exact World.cell?_of_block (w := W) (hp_same le hp)
  | map b => exact hp_same le hp

def readable (P : Program) (ts : List TypeId) : Bool := laidOutB P && ts.all fun t => P.readableRec t && Nat.ble (t + 1) P.types.size

theorem trodAll_stays (hl : laidOutB P = true) {W W' : World} {sp' : Nat → Bool} : ∀ {ts : List TypeId} {vs : List Value} {ds : List (DataW H)} {ps : List MemPlace}, (ts.all fun t => P.readableRec t && Nat.ble (t + 1) P.types.size) = true →
    DataW.TrodAll enc P W 0 (fun _ => true) true ts vs ds ps → (∀ p ∈ ps, W.sameAt W' p) → (∀ p ∈ ps, sp' p.block = true) → DataW.TrodAll enc P W' 0 sp' true ts vs ds ps
  | [], _, _, _, _, h, _, _ => by
    obtain ⟨rfl, rfl, rfl⟩ := trodAll_nil h
    exact trodAll_mk0
  | t :: ts, _, _, _, hr, h, h1, h2 => by
    obtain ⟨v, vs, d, ds, p, q, rfl, rfl, rfl, ha, hb⟩ := trodAll_cons h
    simp only [List.all_cons, Bool.and_eq_true] at hr
    obtain ⟨⟨r1, r2⟩, r3⟩ := hr
    exact ⟨_, _, WideElems.Trod_stays hl r1 (Nat.le_of_ble_eq_true r2) ha (fun x hx => h1 x (by simp [hx])) (fun x hx => h2 x (by simp [hx])),
      trodAll_stays hl (by simpa using r3) hb (fun x hx => h1 x (by simp [hx])) (fun x hx => h2 x (by simp [hx])), rfl⟩

/-- a law that is walked: its row's contract -/
theorem law_calls {f : FuncId} {fn : Func} {s : ChangeSpec} {tb : TypeId} {W : World} {args : Array Value} {ds gs : List (DataW H)} {before : List MemPlace} (hread : readable P fn.params.toList = true) (hvars : s.vars = []) (hrt : fn.resultTypes = #[tb]) (htb : P.underlying tb = some .bool)
    (hW : DataW.Whole enc P fn.params.toList s.vars false W args.toList ds gs before) (hfn : s.fn H (ds ++ gs) = { results := [.lit (.bool true)], args := ds })
    (hcall : ∀ o : Obs, @CallK o P (hpOf W) f args [] fun v _ => v = .bool true) : Calls P f args W fun e W' => ∃ v, e = .returned v ∧ s.post enc P fn false true false false W args v W' := by
  letI o : Obs := ⟨W.os, W.output⟩
  have s0 : St (hpOf W) [] W := ⟨Hp.emp, trivial, (Hp.emp_dj _).symm, Hp.le.refl _, Hp.emp_le _, rfl, rfl⟩
  refine (hcall o W s0).mono ?_
  rintro e W' ⟨v, H', rfl, hv, h, _, _, le, _, os, out⟩
  have hv : v = .bool true := hv
  subst hv
  refine ⟨_, rfl, ?_⟩
  simp only [readable, Bool.and_eq_true] at hread
  have hW' := hW
  obtain ⟨p, q, hA, hV, rfl, hz, hn⟩ := hW
  have hq : q = [] ∧ gs = [] := by
    rw [hvars] at hV
    obtain ⟨h1, h2⟩ := trodVars_none hV
    exact ⟨by assumption, by assumption⟩
  obtain ⟨rfl, rfl⟩ := hq
  have hlt : ∀ x ∈ p, x.block < W.heap.size := fun x hx => hW'.lt x (by simp [hx])
  refine ⟨ds, [], p ++ [], [], p, [], hW', ?_, ?_, ?_, ?_, fun h => by cases h⟩
  · rw [hfn, hrt]
    exact trodAll_mk1 (shut_bool htb true)
  · rw [hfn]
    exact trodAll_stays hread.1 hread.2 hA (fun x hx => hp_sameAt le (hlt x hx)) (fun x hx => by simpa using hlt x hx)
  · rw [hfn, hvars]; rfl
  · refine ⟨os, out, fun i hi => ?_⟩
    rw [hp_same le hi]
    cases W.heap[i]? with
    | none => rfl
    | some ob => cases ob <;> simp

/-- a slice of texts that came in -/
theorem open_strs {t e : TypeId} {W : World} {base : Nat} {v : Value} {d : DataW H} {ps : List MemPlace} (ht : P.underlying t = some (.slice e)) (he : P.underlying e = some .string) (hc : P.cellsOf e = 1)
    (hok : Value.okWide P W .any base t v) (h : DataW.Trod enc P W 0 (fun _ => true) true t v d ps) :
    ∃ p cap, ∃ l : List ByteArray, v = .slice p l.length cap ∧ SlIn (hpOf W) encS 1 p l ∧ (∀ s ∈ l, s.size ≤ maxLen) ∧ l.length ≤ cap ∧ cap ≤ maxLen := by
  obtain ⟨a0, len, cap, rfl⟩ := okWide_slice ht hok
  obtain ⟨fuel, hf⟩ := h
  have hf' : DataW.trod enc P W 0 (fun _ => true) true fuel t [.slice a0 len cap] = some (d, ps) := hf
  rcases open_strings ht he hc hf' with ⟨hcs, hx⟩ | ⟨a, len', cap', ss, hcs, _, hl, hm, hz, hx, hcell, hws⟩
  · simp only [List.cons.injEq, Value.slice.injEq, and_true] at hcs
    obtain ⟨rfl, rfl, rfl⟩ := hcs
    exact ⟨none, 0, [], rfl, .inl rfl, by simp, by simp, by decide⟩
  · simp only [List.cons.injEq, Value.slice.injEq, and_true] at hcs
    obtain ⟨rfl, rfl, rfl⟩ := hcs
    simp only [if_true] at hz
    have hlen : (ss.take len).length = len := by simp; omega
    refine ⟨some a, cap, ss.take len, by rw [hlen], ?_, fun s hs => hws s (List.mem_of_mem_take hs), by omega, hm⟩
    by_cases h0 : len = 0
    · subst h0; exact .inl (by simp)
    · have c0 := hcell 0 (by omega)
      obtain ⟨b, o, sp⟩ := a
      simp only [Addr.add, if_true] at c0
      unfold World.cell? at c0
      split at c0
      · rename_i c T fr hb
        split at c0
        · cases c0
        · rename_i hsp
          simp only [Bool.not_eq_true, Option.isSome_eq_false_iff, Option.isNone_iff_eq_none] at hsp
          subst hsp
          refine .inr ⟨b, o, rfl, ⟨c, T, fr, hb, fun j u e => ?_⟩, fun _ _ => rfl⟩
          rw [show encS = fun x => [Value.string x] from rfl, flatMap_single, List.getElem?_map] at e
          cases hj : (ss.take len)[j]? with
          | none => rw [hj] at e; cases e
          | some x =>
            rw [hj] at e
            simp only [Option.map_some, Option.some.injEq] at e
            subst e
            have hjl : j < len := by have := (List.getElem?_eq_some_iff.1 hj).1; omega
            have hx : ss[j]? = some x := by rw [List.getElem?_take, if_pos hjl] at hj; exact hj
            have := hcell j (by omega)
            rw [addr_add] at this
            unfold World.cell? at this
            simp only [hb, Option.isSome_none, Bool.false_eq_true, if_false] at this
            rw [this, List.getD_eq_getElem?_getD, hx]; rfl
      · cases c0
/-- a slice of whole numbers that came in -/
theorem open_nums {t e : TypeId} {W : World} {base : Nat} {v : Value} {d : DataW H} {ps : List MemPlace} (ht : P.underlying t = some (.slice e)) (he : P.underlying e = some (.int .i64)) (hc : P.cellsOf e = 1)
    (hok : Value.okWide P W .any base t v) (h : DataW.Trod enc P W 0 (fun _ => true) true t v d ps) :
    ∃ p cap, ∃ l : List Int, v = .slice p l.length cap ∧ SlIn (hpOf W) encI 1 p l ∧ (∀ s ∈ l, (Lit.int .i64 s).wf = true) ∧ l.length ≤ cap ∧ cap ≤ maxLen := by
  obtain ⟨a0, len, cap, rfl⟩ := okWide_slice ht hok
  obtain ⟨fuel, hf⟩ := h
  have hf' : DataW.trod enc P W 0 (fun _ => true) true fuel t [.slice a0 len cap] = some (d, ps) := hf
  rcases open_ints ht he hc hf' with ⟨hcs, hx⟩ | ⟨a, len', cap', ss, hcs, _, hl, hm, hz, hx, hcell, hws⟩
  · simp only [List.cons.injEq, Value.slice.injEq, and_true] at hcs
    obtain ⟨rfl, rfl, rfl⟩ := hcs
    exact ⟨none, 0, [], rfl, .inl rfl, by simp, by simp, by decide⟩
  · simp only [List.cons.injEq, Value.slice.injEq, and_true] at hcs
    obtain ⟨rfl, rfl, rfl⟩ := hcs
    simp only [if_true] at hz
    have hlen : (ss.take len).length = len := by simp; omega
    refine ⟨some a, cap, ss.take len, by rw [hlen], ?_, fun s hs => hws s (List.mem_of_mem_take hs), by omega, hm⟩
    by_cases h0 : len = 0
    · subst h0; exact .inl (by simp)
    · have c0 := hcell 0 (by omega)
      obtain ⟨b, o, sp⟩ := a
      simp only [Addr.add, if_true] at c0
      unfold World.cell? at c0
      split at c0
      · rename_i c T fr hb
        split at c0
        · cases c0
        · rename_i hsp
          simp only [Bool.not_eq_true, Option.isSome_eq_false_iff, Option.isNone_iff_eq_none] at hsp
          subst hsp
          refine .inr ⟨b, o, rfl, ⟨c, T, fr, hb, fun j u e => ?_⟩, fun _ _ => rfl⟩
          rw [show encI = fun x => [Value.int .i64 x] from rfl, flatMap_single, List.getElem?_map] at e
          cases hj : (ss.take len)[j]? with
          | none => rw [hj] at e; cases e
          | some x =>
            rw [hj] at e
            simp only [Option.map_some, Option.some.injEq] at e
            subst e
            have hjl : j < len := by have := (List.getElem?_eq_some_iff.1 hj).1; omega
            have hx : ss[j]? = some x := by rw [List.getElem?_take, if_pos hjl] at hj; exact hj
            have := hcell j (by omega)
            rw [addr_add] at this
            unfold World.cell? at this
            simp only [hb, Option.isSome_none, Bool.false_eq_true, if_false] at this
            rw [this, List.getD_eq_getElem?_getD, hx]; rfl
      · cases c0
/-- an array of two texts that came in -/
theorem open_arr2 {t e : TypeId} {W : World} {base : Nat} {v : Value} (ht : P.underlying t = some (.array 2 e)) (he : P.underlying e = some .string) (hs : P.cellsOf t = 2) (hc : P.cellTypes P.depth t = some [e, e])
    (hok : Value.okWide P W .any base t v) : ∃ s0 s1 : ByteArray, v = .agg #[.string s0, .string s1] := by
  have cell : ∀ u, Cell.okWide P W .any base e u → ∃ s : ByteArray, u = .string s := by
    intro u hu
    simp only [Cell.okWide, he] at hu
    cases u <;> simp_all [Cell.ok]
  simp only [Value.okWide, ht] at hok
  obtain ⟨cs, rfl, hsz, ts, hts, _, hrow⟩ := hok
  rw [hc] at hts
  cases hts
  rw [hs] at hsz
  have h0 : cs[0]? = some cs[0] := Array.getElem?_eq_getElem (by omega)
  have h1 : cs[1]? = some cs[1] := Array.getElem?_eq_getElem (by omega)
  obtain ⟨u0, e0, k0⟩ := hrow 0 _ h0
  obtain ⟨u1, e1, k1⟩ := hrow 1 _ h1
  simp at e0 e1
  subst e0; subst e1
  obtain ⟨s0, h2⟩ := cell _ k0
  obtain ⟨s1, h3⟩ := cell _ k1
  refine ⟨s0, s1, ?_⟩
  congr 1
  apply Array.ext
  · simpa using hsz
  · intro i hi1 hi2
    have : i = 0 ∨ i = 1 := by omega
    rcases this with rfl | rfl
    · simpa using h2
    · simpa using h3
end
end Go.Proofs.Ytiefmfimbmkdjaa

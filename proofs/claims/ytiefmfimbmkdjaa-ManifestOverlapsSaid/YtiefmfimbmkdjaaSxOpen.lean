/-
  Symbolic execution: chunks that are opened and shut, texts appended to bytes, a region with a Bool joined again.
  No condition; plain lemmas.
-/
import Derived.Test.YtiefmfimbmkdjaaSxConv
import Derived.Lib.AppendStr
namespace Go.Proofs.Ytiefmfimbmkdjaa
set_option linter.unusedSimpArgs false
set_option linter.unusedVariables false
set_option linter.unusedSectionVars false
variable [Obs]
open Go.RowKit Go.Lib

section
variable {q : Md} {P : Program} {F : Hp} {n : Nat} {Q : Post} {σ : Sl} {H R : List HProp} {ops : Array Oper} {rest : List Oper} {l : List Oper} {c : Code}
variable {d : Nat} {ty : TypeId} {pos : String} {after : Array Edge} {T U : TypeId} {x y z : Operand}

omit [Obs] in
theorem Stars.open_ {ch : HProp} {cs : List HProp} (pk : Pick ch H R) (hc : ∀ h, ch h → Stars cs h) {h : Hp} (s : Stars H h) : Stars (cs ++ R) h := by
  obtain ⟨h1, h2, d, l1, l2, h3, h4⟩ := pk.stars s
  exact Stars.join d l1 l2 (hc _ h3) h4
omit [Obs] in
theorem Stars.close_ {ch : HProp} {cs : List HProp} (pk : Picks cs H R) (hc : ∀ h, Stars cs h → ch h) {h : Hp} (s : Stars H h) : Stars (ch :: R) h := by
  obtain ⟨h1, h2, d, l1, l2, h3, h4⟩ := Stars.append (pk.stars s)
  exact ⟨h1, h2, d, l1, l2, hc _ h3, h4⟩
theorem Tr.open_ {ch : HProp} {cs : List HProp} (pk : Pick ch H R) (hc : ∀ h, ch h → Stars cs h) (h : Tr P F n c Q σ (cs ++ R)) : Tr P F n c Q σ H := fun a w f s => h a w f (s.imp fun _ => Stars.open_ pk hc)
theorem Tr.close_ {ch : HProp} {cs : List HProp} (pk : Picks cs H R) (hc : ∀ h, Stars cs h → ch h) (h : Tr P F n c Q σ (ch :: R)) : Tr P F n c Q σ H := fun a w f s => h a w f (s.imp fun _ => Stars.close_ pk hc)
theorem TrL.open_ {ch : HProp} {cs : List HProp} (pk : Pick ch H R) (hc : ∀ h, ch h → Stars cs h) (h : TrL .eff P F n ops Q l σ (cs ++ R)) : TrL .eff P F n ops Q l σ H := fun a w f s => h a w f (s.imp fun _ => Stars.open_ pk hc)
theorem TrL.close_ {ch : HProp} {cs : List HProp} (pk : Picks cs H R) (hc : ∀ h, Stars cs h → ch h) (h : TrL .eff P F n ops Q l σ (ch :: R)) : TrL .eff P F n ops Q l σ H := fun a w f s => h a w f (s.imp fun _ => Stars.close_ pk hc)
theorem CallK.open_ {f : FuncId} {args : Array Value} {K : Value → List HProp → Prop} {ch : HProp} {cs : List HProp} (pk : Pick ch H R) (hc : ∀ h, ch h → Stars cs h) (h : CallK P F f args (cs ++ R) K) : CallK P F f args H K := fun w s => h w (s.imp fun _ => Stars.open_ pk hc)
theorem Tr.openE {α : Type} {ch : HProp} {cs : α → List HProp} (pk : Pick ch H R) (hc : ∀ h, ch h → ∃ x, Stars (cs x) h) (h : ∀ x, Tr P F n c Q σ (cs x ++ R)) : Tr P F n c Q σ H := fun a w f s => by
  obtain ⟨g, hg, d1, d2, d3⟩ := s
  obtain ⟨h1, h2, d, l1, l2, h3, h4⟩ := pk.stars hg
  obtain ⟨x, hx⟩ := hc _ h3
  exact h x a w f ⟨g, Stars.join d l1 l2 hx h4, d1, d2, d3⟩
theorem CallK.openE {α : Type} {f : FuncId} {args : Array Value} {K : Value → List HProp → Prop} {ch : HProp} {cs : α → List HProp} (pk : Pick ch H R) (hc : ∀ h, ch h → ∃ x, Stars (cs x) h) (h : ∀ x, CallK P F f args (cs x ++ R) K) : CallK P F f args H K := fun w s => by
  obtain ⟨g, hg, d1, d2, d3⟩ := s
  obtain ⟨h1, h2, d, l1, l2, h3, h4⟩ := pk.stars hg
  obtain ⟨x, hx⟩ := hc _ h3
  exact h x w ⟨g, Stars.join d l1 l2 hx h4, d1, d2, d3⟩
/-- a fact that a chunk bears -/
theorem Tr.fact {ch : HProp} {p : Prop} (pk : Pick ch H R) (hc : ∀ h, ch h → p) (h : p → Tr P F n c Q σ H) : Tr P F n c Q σ H := fun a w f s => by
  obtain ⟨g, hg, _⟩ := s.chunk pk
  exact h (hc g hg) a w f s
theorem TrL.fact {ch : HProp} {p : Prop} (pk : Pick ch H R) (hc : ∀ h, ch h → p) (h : p → TrL .eff P F n ops Q l σ H) : TrL .eff P F n ops Q l σ H := fun a w f s => by
  obtain ⟨g, hg, _⟩ := s.chunk pk
  exact h (hc g hg) a w f s

omit [Obs] in
theorem cl_own {α : Type} {b E k : Nat} {enc : α → List Value} {cs : List Value} {xs : List α} (hcs : cs = xs.flatMap enc) (hk : cs.length = xs.length * k) (hm : xs.length ≤ maxLen) {h : Hp} (hb : cl b cs E h) : Own E k enc (some ⟨b, 0, none⟩) xs.length xs h := by
  unfold Own
  rw [← hcs]
  refine ⟨hk, .inr ⟨b, cs.toArray, rfl, hb, Nat.le_refl _, hm, by simp [hk], ?_⟩⟩
  rw [← hk]; simp
/-- a slice literal's block is a row that the code owns -/
theorem TrL.toOwn {α : Type} {b E len : Nat} (k : Nat) (enc : α → List Value) (xs : List α) {cs : List Value} (pk : Pick (cl b cs E) H R) (hcs : cs = xs.flatMap enc) (hk : cs.length = xs.length * k) (hm : Nat.ble xs.length 10000 = true) (hlen : xs.length = len)
    (h : TrL .eff P F n ops Q l σ (Own E k enc (some ⟨b, 0, none⟩) len xs :: R)) : TrL .eff P F n ops Q l σ H :=
  fun a w f s => h a w f (s.imp fun _ hg => by
    subst hlen
    have := Stars.close_ (cs := [cl b cs E]) (ch := Own E k enc (some ⟨b, 0, none⟩) xs.length xs) (.cons pk .nil) (fun g hg => by
      obtain ⟨h1, h2, d, l1, l2, h3, _⟩ := hg
      have hm' := Nat.le_of_ble_eq_true hm
      obtain ⟨a1, a2⟩ := cl_own (α := α) (E := E) hcs hk (by simp only [maxLen]; omega) h3
      refine ⟨a1, a2.imp id ?_⟩
      rintro ⟨b', cur, e, hb, r⟩
      exact ⟨b', cur, e, l1 _ _ hb, r⟩) hg
    exact this)

omit [Obs] in
theorem Own.mono {α : Type} {E k : Nat} {enc : α → List Value} {p : Option Addr} {cap : Nat} {xs : List α} {h g : Hp} (l : Hp.le h g) (o : Own E k enc p cap xs h) : Own E k enc p cap xs g :=
  ⟨o.1, o.2.imp id fun ⟨b, cur, e, hb, r⟩ => ⟨b, cur, e, l _ _ hb, r⟩⟩

omit [Obs] in
theorem one_stars {c : HProp} {h : Hp} (hc : c h) : Stars [c] h := ⟨h, Hp.emp, (Hp.emp_dj _).symm, .refl _, Hp.emp_le _, hc, trivial⟩
/-- a return whose chunks are shut -/
theorem At.retX {fn : Func} {e : Exit} {rs : List ResultVar} {vs : List Value} {K : Value → List HProp → Prop} (cs : List HProp) (he : e = .ret ∨ e = .normal) (hr : fn.results.toList = rs) (hv : Res P F σ H rs vs) (hp : Picks cs H R)
    (hK : ∃ H', (∀ h, Stars cs h → Stars H' h) ∧ K (tup vs) H') {F0 : Hp} (hF : Hp.le F0 F := by first | exact Hp.le.refl _ | assumption | exact Hp.le.trans (by assumption) (by assumption)) : At F n (bodyPost P fn (RetK F0 K)) e σ H := by
  obtain ⟨H', h1, h2⟩ := hK
  exact At.retG he hr hv h2 (fun w s => (s.sub hp).imp h1) hF

theorem TrL.convBSo {p : Option Addr} {len cap : Nat} {E : TypeId} {l : List UInt8} (hd : Nat.ble (d + 1) n = true) (hx : ev σ x = some (.slice p len cap)) (hT : slEl P T = some E) (hE : intT P E = some .u8) (hU : isStr P U = true)
    (pk : Pick (Own E 1 encB p cap l) H R) (hl : len = l.length) (h : TrL q P F n ops Q rest ((d, .string (strOf l)) :: σ) H) : TrL q P F n ops Q (⟨some d, .convert T U x, ty, pos, after, none⟩ :: rest) σ H :=
  TrL.convBS hd hx hT hE hU (Sees.ofChunk (p := fun f => SlIn f encB 1 p l) (SlIn.mono encB 1 p l) pk fun _ ho => Own.slIn (k := 1) (by omega) (fun _ => rfl) ho) hl h

/-! ### a text behind bytes -/
theorem St.rowSet {w : World} {E k n0 cap b : Nat} {xs : List Value} {ch : HProp} (s : St F (OwnR E k (some ⟨b, 0, none⟩) n0 cap xs :: R) w) (cur' : Array Value) (h : ch (Hp.one b (.cells cur' E (0, 0)))) : St F (ch :: R) (w.setRow b cur') := by
  refine s.upd .here fun f hf hle => ?_
  obtain ⟨_, hcase⟩ := hf
  rcases hcase with ⟨e, _⟩ | ⟨b', cur, e, hbb, _⟩
  · cases e
  · obtain rfl : b' = b := by simpa using e.symm
    have hw : w.heap[b']? = some (.cells cur E (0, 0)) := hle _ _ hbb
    refine ⟨_, h, ?_, ?_, ?_⟩
    · intro k' x e
      obtain ⟨rfl, rfl⟩ := Hp.one_some e
      exact setRow_heap w _ cur _ E _ hw
    · intro k' x e
      obtain ⟨rfl, rfl⟩ := Hp.one_some e
      exact .inl ⟨_, hbb⟩
    · intro k' x e1 e2
      have : k' ≠ b' := by rintro rfl; rw [hbb] at e1; cases e1
      rw [setRow_other w b' k' _ this]; exact e2

omit [Obs] in
theorem strCells_eq (t : ByteArray) : strCells t = t.data.toList.flatMap encB := by rw [flatB]; rfl
theorem St.appendS {w : World} {E : Nat} {p : Option Addr} {cap : Nat} {xs : List UInt8} {T U ty : TypeId} {t : ByteArray} (s : St F H w) (pk : Pick (Own E 1 encB p cap xs) H R)
    (he : slEl P T = some E) (hk : szOf P E = some 1) (hb : byOf P E = some 1) (hz : zvOf P E = some (.int .u8 0)) (hU : isStr P U = true) (hbound : xs.length + t.size ≤ 140737488355328) :
    ∃ p' cap' w', (Builtin.append_ #[T, U] ty #[.slice p xs.length cap, .string t]).run P w = .ok (.slice p' (xs ++ t.data.toList).length cap') w' ∧ St F (Own E 1 encB p' cap' (xs ++ t.data.toList) :: R) w' := by
  have s' : St F (Own E 1 encB p cap xs :: R) w := s.imp fun _ => pk.stars
  obtain ⟨hp, hc, hle⟩ := s'.chunk .here
  have h63 : xs.length + t.size ≤ maxLen := by simp only [maxLen]; omega
  have hts : t.data.toList.length = t.size := by simp
  have hlen0 : (xs ++ t.data.toList).length = xs.length + t.size := by rw [List.length_append, hts]
  rw [hlen0]
  have hown : ∀ p' cap' , Own E 1 encB p' cap' (xs ++ t.data.toList) = OwnR E 1 p' (xs.length + t.size) cap' (xs.flatMap encB ++ strCells t) := by
    intro p' cap'
    unfold Own
    rw [hlen0, List.flatMap_append, strCells_eq]
  simp only [hown]
  obtain ⟨i, hi, hik⟩ : ∃ i, P.info? E = some i ∧ i.size = 1 := by
    unfold szOf at hk
    cases hi : P.info? E with
    | none => rw [hi] at hk; cases hk
    | some i => rw [hi] at hk; simp only [Option.map_some, Option.some.injEq] at hk; exact ⟨i, rfl, hk⟩
  have hiby : i.bytes = 1 := by unfold byOf at hb; rw [hi] at hb; simpa using hb
  have hzz : i.zero = some (.int .u8 0) := by unfold zvOf at hz; rw [hi] at hz; simpa using hz
  have ht := slEl_eq he
  have hu := isStr_eq hU
  obtain ⟨hxl, hcase⟩ := hc
  have hlen : (xs.flatMap encB ++ strCells t).length = (xs.length + t.size) * 1 := by rw [List.length_append, hxl, strCells_length, Nat.mul_one, Nat.mul_one]
  have grown : ∀ (old : Nat), old < xs.length + t.size → OwnR E 1 (some ⟨w.heap.size, 0, none⟩) (xs.length + t.size) (grownCap w (xs.length + t.size) old E) (xs.flatMap encB ++ strCells t)
      (Hp.one w.heap.size (.cells ((xs.flatMap encB).toArray ++ (strCells t).toArray ++ Builtin.zeroCells (Value.int .u8 0).cells (grownCap w (xs.length + t.size) old E - (xs.length + t.size))) E)) := by
    intro old ho
    have hge := grownCap_ge w (xs.length + t.size) old E
    have hcm : grownCap w (xs.length + t.size) old E ≤ maxLen := grownCap_le_maxLen w (xs.length + t.size) old E h63
    refine ⟨hlen, .inr ⟨w.heap.size, _, rfl, Hp.one_self _ _, hge, hcm, ?_, ?_⟩⟩
    · have hz1 : (Value.int IntKind.u8 0).cells.size = 1 := rfl
      simp only [Array.size_append, List.size_toArray, size_zeroCells, hz1, hxl, strCells_length]
      omega
    · simp only [Array.toList_append, List.append_assoc]
      rw [← List.append_assoc, ← hlen]
      exact List.take_left
  rcases hcase with ⟨rfl, hn0, rfl⟩ | ⟨b, cur, rfl, hbb, hnc, hcm, hcs, htk⟩
  · have hx : xs = [] := List.eq_nil_of_length_eq_zero hn0
    subst hx
    by_cases hm : t.size = 0
    · have hn : strCells t = [] := List.eq_nil_of_length_eq_zero (by rw [strCells_length]; exact hm)
      have hf := run_firstCells_string (P := P) w 1 t
      rw [hm] at hf
      refine ⟨none, 0, w, ?_, ?_⟩
      · simp [Builtin.append_, run_underlying ht, run_underlying hu, sizeOf, typeInfo, hi, hik, Builtin.lenOf, hm, hf]
      · rw [hm, hn]; exact s'
    · have hr := run_append_nil_string (P := P) w T U ty E i (.int .u8 0) ht hu hi hzz t (by omega) (by omega) (by rw [hiby]; omega)
      have g := grown 0 (by simp; omega)
      simp only [List.length_nil, Nat.zero_add, List.flatMap_nil, List.nil_append, Array.empty_append] at g ⊢
      have e1 : (t.data.map fun b => Value.int .u8 b.toNat) = (strCells t).toArray := by
        apply Array.ext'
        simp [strCells]
      rw [e1] at hr
      exact ⟨_, _, _, hr, s'.fresh _ g⟩
  · have hw : w.heap[b]? = some (.cells cur E (0, 0)) := hle _ _ hbb
    have hcs' : cur.size = cap := by simpa using hcs
    have htk' : cur.toList.take xs.length = xs.flatMap encB := by simpa using htk
    by_cases hroom : xs.length + t.size ≤ cap
    · have hr := run_append_room_string (P := P) w T U ty E i ht hu hi hik b xs.length cap cur hw t hroom (by omega)
      refine ⟨_, _, _, hr, s'.rowSet _ ⟨hlen, .inr ⟨b, _, rfl, Hp.one_self _ _, hroom, hcm, ?_, ?_⟩⟩⟩
      · simp only [List.size_toArray, List.length_append, List.length_take, List.length_drop, Array.length_toList, strCells_length]; omega
      · simp only []
        rw [htk', ← hlen]
        exact List.take_left
    · have holds : ∀ j u, (xs.flatMap encB)[j]? = some u → w.cell? ((⟨b, 0, none⟩ : Addr).add j) = some u := fun j u e => by
        rw [addr_add, Nat.zero_add]
        rw [← htk', List.getElem?_take] at e
        split at e
        · simp [World.cell?, hw]; simpa using e
        · cases e
      have hr := run_append_grow_string (P := P) w T U ty E i (.int .u8 0) ht hu hi hzz ⟨b, 0, none⟩ xs.length cap (xs.flatMap encB) (by rw [hik]; exact hxl) holds t (by omega) (by omega) (by rw [hiby]; exact growslice_fits (by omega) (by omega))
      exact ⟨_, _, _, hr, s'.fresh _ (grown cap (by omega))⟩

theorem TrL.appendS {xs : Array Operand} {E cap m0 : Nat} {p : Option Addr} {l : List UInt8} {t : ByteArray} (hd : Nat.ble (d + 1) n = true)
    (hx : evs σ xs.toList = some [.slice p m0 cap, .string t]) (he : slEl P T = some E) (hk : szOf P E = some 1) (hb : byOf P E = some 1) (hz : zvOf P E = some (.int .u8 0)) (hU : isStr P U = true)
    (pk : Pick (Own E 1 encB p cap l) H R) (hm0 : m0 = l.length) (hbound : l.length + t.size ≤ 140737488355328)
    (h : ∀ p' cap', TrL .eff P F n ops Q rest ((d, .slice p' (l ++ t.data.toList).length cap') :: σ) (Own E 1 encB p' cap' (l ++ t.data.toList) :: R)) :
    TrL .eff P F n ops Q (⟨some d, .call ⟨.builtin .append, xs, #[T, U]⟩, ty, pos, after, none⟩ :: rest) σ H :=
  TrL.op hd fun a w f s => by
    subst hm0
    have e1 : xs.map a.eval = #[.slice p l.length cap, .string t] := by apply Array.ext'; simpa using f.evals hx
    obtain ⟨p', cap', w', hr, s'⟩ := s.appendS (P := P) (T := T) (U := U) (ty := ty) (t := t) pk he hk hb hz hU hbound
    refine ⟨_, w', _, ?_, s', h p' cap'⟩
    rw [BigFrame.execOp_builtin, e1]
    simp only [BigFrame.builtin_append, Sem.run_bind, hr, Result.andThen_ok, Sem.run_pure]
end
end Go.Proofs.Ytiefmfimbmkdjaa

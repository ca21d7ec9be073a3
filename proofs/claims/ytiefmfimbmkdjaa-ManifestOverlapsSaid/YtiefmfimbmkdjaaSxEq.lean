/-
  Symbolic execution: structs held against each other.
  No condition; plain lemmas.
-/
import Derived.Test.YtiefmfimbmkdjaaSxArr
import Derived.Laws.StructEq
namespace Go.Proofs.Ytiefmfimbmkdjaa
set_option linter.unusedSimpArgs false
set_option linter.unusedVariables false
set_option linter.unusedSectionVars false
open Go.RowKit
variable [Obs]

/-- of which kind a field is (0: a whole number, 1: a text, 2: a Bool), and where it lies -/
def fkind (P : Program) (f : Field) : Option (Nat × Nat) := if f.name = "_" then none else match P.underlying f.type with
  | some (.int _) => some (0, f.offset)
  | some .string => some (1, f.offset)
  | some .bool => some (2, f.offset)
  | _ => none
def fkinds (P : Program) (T : TypeId) : Option (List (Nat × Nat)) := match P.underlying T with
  | some (.struct fs) => fs.toList.mapM (fkind P)
  | _ => none
def eqOne : Nat → Value → Value → Option Bool
  | 0, .int k a, .int k' b => if k = k' then some (decide (a = b)) else none
  | 1, .string a, .string b => some (decide (a = b))
  | 2, .bool a, .bool b => some (a == b)
  | _, _, _ => none
def eqFs : List (Nat × Nat) → List Value → List Value → Option Bool
  | [], _, _ => some true
  | (k, o) :: r, xs, ys => match nv xs o, nv ys o with
    | some u, some v => match eqOne k u v, eqFs r xs ys with
      | some b, some c => some (b && c)
      | _, _ => none
    | _, _ => none

section
variable {q : Md} {P : Program} {F : Hp} {n : Nat} {Q : Post} {σ : Sl} {H R : List HProp} {ops : Array Oper} {rest : List Oper}
variable {d : Nat} {ty : TypeId} {pos : String} {after : Array Edge} {T U : TypeId} {x y : Operand}

omit [Obs] in
theorem run_eqOne {f : Field} {k o : Nat} {xs ys : List Value} {u v : Value} {b : Bool} (hk : fkind P f = some (k, o)) (hu : nv xs o = some u) (hv : nv ys o = some v) (he : eqOne k u v = some b) (e : Nat) (w : World) :
    f.name ≠ "_" ∧ (part f.type xs.toArray f.offset).run P w = .ok u w ∧ (part f.type ys.toArray f.offset).run P w = .ok v w ∧ (Op.equalIn (e + 1) f.type u v).run P w = .ok b w := by
  unfold fkind at hk
  split at hk
  · cases hk
  · rename_i hn
    refine ⟨hn, ?_⟩
    rw [nv_eq] at hu hv
    have part_ok : ∀ (zs : List Value) (z : Value), f.offset = o → scal P f.type = true → zs[o]? = some z → (part f.type zs.toArray f.offset).run P w = .ok z w := by
      intro zs z ho hs hz
      subst ho
      simp [part, isAgg_scal hs, hz]
    split at hk
    · rename_i kd hd
      cases hk
      have hs : scal P f.type = true := by unfold scal; rw [hd]
      refine ⟨part_ok _ _ rfl hs hu, part_ok _ _ rfl hs hv, ?_⟩
      unfold eqOne at he
      split at he <;> simp_all
      rename_i k1 a k2 c
      rw [run_equalIn_int w e f.type k2 kd a c hd, ← he.2]
      simp [BEq.beq]
    · rename_i hd
      cases hk
      have hs : scal P f.type = true := by unfold scal; rw [hd]
      refine ⟨part_ok _ _ rfl hs hu, part_ok _ _ rfl hs hv, ?_⟩
      unfold eqOne at he
      split at he <;> simp_all
      rename_i a c
      rw [run_equalIn_string w e f.type a c hd, bytes_beq, ← he]
    · rename_i hd
      cases hk
      have hs : scal P f.type = true := by unfold scal; rw [hd]
      refine ⟨part_ok _ _ rfl hs hu, part_ok _ _ rfl hs hv, ?_⟩
      unfold eqOne at he
      split at he <;> simp_all
      rename_i a c
      rw [run_equalIn_bool' w e f.type a c hd, ← he]
    · cases hk
omit [Obs] in
theorem run_eqFs {xs ys : List Value} (e : Nat) (w : World) : ∀ {fs : List Field} {ks : List (Nat × Nat)} {b : Bool}, fs.mapM (fkind P) = some ks → eqFs ks xs ys = some b → (Op.eqFields (e + 1) xs.toArray ys.toArray fs).run P w = .ok b w
  | [], ks, b, h, he => by
    simp at h; subst h
    simp only [eqFs, Option.some.injEq] at he
    subst he
    simp [Op.eqFields]
  | f :: fs, ks, b, h, he => by
    rw [List.mapM_cons] at h
    cases h1 : fkind P f with
    | none => rw [h1] at h; cases h
    | some ko =>
      rw [h1] at h
      simp only [Option.bind_eq_bind, Option.bind_some] at h
      cases h2 : fs.mapM (fkind P) with
      | none => rw [h2] at h; cases h
      | some ks' =>
        rw [h2] at h
        simp only [Option.bind_some] at h
        obtain ⟨k, o⟩ := ko
        cases h
        unfold eqFs at he
        split at he
        · rename_i u v hu hv
          split at he
          · rename_i b1 c1 hb hc
            cases he
            obtain ⟨r1, r2, r3, r4⟩ := run_eqOne h1 hu hv hb e w
            have ih := run_eqFs e w h2 hc
            simp only [Op.eqFields, r1, ne_eq, not_false_eq_true, if_true, Sem.run_bind, r2, r3, r4, Result.andThen_ok]
            cases b1
            · simp
            · simp [ih]
          · cases he
        · cases he
omit [Obs] in
theorem run_eqS {xs ys : List Value} {ks : List (Nat × Nat)} {b : Bool} (hf : fkinds P T = some ks) (hs : P.stoodInHeld T = false) (he : eqFs ks xs ys = some b) (w : World) : (Op.equalIn 10000 T (.agg xs.toArray) (.agg ys.toArray)).run P w = .ok b w := by
  unfold fkinds at hf
  split at hf
  · rename_i fs hu
    have h0 : P.fieldsOf T = fs := by simp [Program.fieldsOf, hu]
    rw [show (10000 : Nat) = 9999 + 1 from rfl, run_equalIn_agg w 9999 T _ _ (by rw [h0]; exact hu) hs, h0]
    exact run_eqFs 9998 w hf he
  · cases hf
theorem TrL.eqS {xs ys : List Value} {ks : List (Nat × Nat)} {b : Bool} (hd : Nat.ble (d + 1) n = true) (hx : ev σ x = some (.agg xs.toArray)) (hy : ev σ y = some (.agg ys.toArray)) (hf : fkinds P T = some ks) (hs : P.stoodInHeld T = false) (hg : P.eqGuardType P.depth T = false) (he : eqFs ks xs ys = some b)
    (h : TrL q P F n ops Q rest ((d, .bool b) :: σ) H) : TrL q P F n ops Q (⟨some d, .binOp .eql T x y U, ty, pos, after, none⟩ :: rest) σ H :=
  TrL.pure hd _ (fun a w f _ => by
    simp only [execOp, f.eval hx, f.eval hy, Sem.run_bind, run_eqGuard_agg w .eql T x y _ _ hg, Result.andThen_ok, run_eql_struct, run_eqS hf hs he, Sem.run_pure]) h
theorem TrL.neS {xs ys : List Value} {ks : List (Nat × Nat)} {b : Bool} (hd : Nat.ble (d + 1) n = true) (hx : ev σ x = some (.agg xs.toArray)) (hy : ev σ y = some (.agg ys.toArray)) (hf : fkinds P T = some ks) (hs : P.stoodInHeld T = false) (hg : P.eqGuardType P.depth T = false) (he : eqFs ks xs ys = some b)
    (h : TrL q P F n ops Q rest ((d, .bool (!b)) :: σ) H) : TrL q P F n ops Q (⟨some d, .binOp .neq T x y U, ty, pos, after, none⟩ :: rest) σ H :=
  TrL.pure hd _ (fun a w f _ => by
    simp only [execOp, f.eval hx, f.eval hy, Sem.run_bind, run_eqGuard_agg w .neq T x y _ _ hg, Result.andThen_ok, run_neq_struct, run_eqS hf hs he, Sem.run_pure]) h
end
end Go.Proofs.Ytiefmfimbmkdjaa

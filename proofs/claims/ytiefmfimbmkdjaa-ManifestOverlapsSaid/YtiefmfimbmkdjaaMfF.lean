/-
  Edits as text, by the program and by the document: contracts.
  No condition but those that each statement names.
-/
import Derived.Test.YtiefmfimbmkdjaaMfE
namespace Go.Proofs.Ytiefmfimbmkdjaa
set_option linter.unusedSimpArgs false
set_option linter.unusedVariables false
set_option linter.unusedSectionVars false
open Go.RowKit
variable [Obs]

omit [Obs] in
theorem flat_len {α : Type} {g : α → List UInt8} {c : Nat} : ∀ (l : List α), (∀ x ∈ l, (g x).length ≤ c) → (l.flatMap g).length ≤ c * l.length
  | [], _ => by simp
  | a :: l, h => by
    have h1 := h a (by simp)
    have h2 := flat_len l (fun x hx => h x (by simp [hx]))
    simp only [List.flatMap_cons, List.length_append, List.length_cons, Nat.mul_succ]; omega
omit [Obs] in
theorem numB_len (n : Int) : (numB n).length ≤ 10 := putN_len _
omit [Obs] in
theorem flat_nums (l : List Int) : (l.flatMap numB).length ≤ 10 * l.length := flat_len l (fun x _ => numB_len x)
omit [Obs] in
theorem tabB_len {t : Tab} (h : tabOk t = true) : (tabB t).length ≤ 168 := by
  unfold tabOk keyOk at h
  simp only [Bool.and_eq_true, decide_eq_true_eq] at h
  have h1 := putN_len t.id.toNat
  have h2 := putN_len t.level.toNat
  have h3 := putN_len t.lo.data.toList.length
  have h4 := putN_len t.hi.data.toList.length
  have h5 : t.lo.data.toList.length = t.lo.size := by simp
  have h6 : t.hi.data.toList.length = t.hi.size := by simp
  unfold tabB textN
  simp only [List.length_append]; omega
omit [Obs] in
theorem putN_ne (n : Nat) : putN n ≠ [] := by unfold putN putV; split <;> simp
omit [Obs] in
theorem flat_snoc {α : Type} (g : α → List UInt8) {l : List α} {i : Nat} (h : i < l.length) : (l.take i).flatMap g ++ g l[i] = (l.take (i + 1)).flatMap g := by
  rw [List.take_succ_eq_append_getElem h, List.flatMap_append]; simp

set_option maxHeartbeats 1000000 in
theorem numbers_spec {F : Hp} {K : Value → List HProp → Prop} {b : Nat} {bs : List UInt8} {p : Option Addr} {cp : Nat} {l : List Int} (hs : SlIn F encI 1 p l) (hl : l.length ≤ 1000) (hr : ∀ x ∈ l, 0 ≤ x ∧ x ≤ 4611686018427387904) (hb : bs.length ≤ 1000000) (hK : K (.tuple #[]) [bldC b (bs ++ l.flatMap numB)]) :
    CallK Try.prog F 26 #[.slice p l.length cp, .pointer (some ⟨b, 0, none⟩)] [bldC b bs] K := by
  refine CallK.enter Try.func26 rfl Try.ntmps26 rfl ?_
  refine Tr.seq ?_
  refine Tr.region ?_
  refine TrL.move rfl rfl ?_
  refine TrL.lenl rfl rfl se23 ?_
  refine TrL.move rfl rfl ?_
  refine TrL.nil (At.then_normal ?_)
  refine Tr.block ?_
  skip
  refine Tr.loopK [1, 7, 8] (α := Nat) (fun i => [(9, .int .i64 (i : Int))]) (fun i => [bldC b (bs ++ (l.take i).flatMap numB)]) (fun i => i ≤ l.length) (fun i => l.length - i) (0) (by rfl) ?_ (by repeat (first | exact Sub.nil | refine Sub.cons (by rfl) ?_)) (by (rw [show bldC b (bs ++ (l.take 0).flatMap numB) = bldC b bs by simp]; repeat (first | exact Picks.nil | with_reducible exact Pick.here | with_reducible apply Pick.there | with_reducible apply Pick.app_nil | with_reducible apply Pick.app_cons | apply Picks.cons))) ?_
  · exact Nat.zero_le _
  rintro i hi
  refine Tr.seq ?_
  refine Tr.region ?_
  refine TrL.lss rfl rfl rfl ?_
  refine TrL.nil (At.then_normal ?_)
  refine Tr.seq ?_
  refine Tr.cond rfl (fun h10 => ?_) (fun h10 => ?_)
  · try simp only [beq_iff_eq, beq_eq_false_iff_ne, Bool.not_eq_true, Bool.not_eq_false, decide_eq_true_eq, decide_eq_false_iff_not, Bool.not_eq_true', Bool.not_eq_false', bne_iff_ne, Bool.not_eq_eq_eq_not, Bool.not_true, Bool.not_false, ne_eq, Decidable.not_not, Int.not_lt, Int.not_le] at h10
    refine Tr.skip (At.then_normal ?_)
    refine Tr.seq ?_
    refine Tr.block ?_
    refine Tr.seq ?_
    refine Tr.region ?_
    refine TrL.idxF rfl rfl rfl se23 sz3 (by assumption) rfl rfl rfl (List.getElem?_eq_getElem (by omega)) (fun b11 o11 hp11 hc11 => ?_)
    refine TrL.loadR1 rfl rfl sc3 (Cells.part hc11 (j := 0) rfl) ?_
    refine TrL.assign rfl rfl ?_
    refine TrL.nil (At.then_normal ?_)
    refine Tr.seq ?_
    have hx := hr l[i] (List.getElem_mem _)
    refine Tr.region ?_
    refine TrL.move rfl rfl ?_
    refine TrL.call rfl rfl rfl ca27 .nil (fun Ft15 hUt15 => PutI_spec hx.1 hx.2 ?_)
    refine TrL.move rfl rfl ?_
    refine TrL.extract rfl rfl rfl ?_
    refine TrL.extract rfl rfl rfl ?_
    refine TrL.assign rfl rfl ?_
    refine TrL.assign rfl rfl ?_
    refine TrL.nil (At.then_normal ?_)
    refine Tr.region ?_
    refine TrL.move rfl rfl ?_
    refine TrL.call rfl rfl rfl ca28 (by repeat (first | exact Picks.nil | with_reducible exact Pick.here | with_reducible apply Pick.there | with_reducible apply Pick.app_nil | with_reducible apply Pick.app_cons | apply Picks.cons)) (fun Ft19 hUt19 => WriteString_spec (bs := bs ++ (l.take i).flatMap numB) (by rw [strOf_size]; simp only [List.length_append]; have := flat_nums (l.take i); have h3 := numB_len l[i]; simp only [numB] at h3; simp only [List.length_take] at this; omega) ?_)
    refine TrL.nil (At.block_normal (At.then_normal ?_))
    refine Tr.region ?_
    refine TrL.addI rfl rfl rfl (by omega) ?_
    refine TrL.move rfl rfl ?_
    refine TrL.nil ?_
    have e1 : (bs ++ (l.take i).flatMap numB) ++ (strOf (putN l[i].toNat)).data.toList = bs ++ (l.take (i + 1)).flatMap numB := by
      rw [← flat_snoc numB (by omega)]; simp [strOf, numB]
    rw [e1]
    refine At.again (i + 1) (by show i + 1 ≤ l.length; omega) (by omega) (by repeat (first | exact Sub.nil | refine Sub.cons (by rfl) ?_)) (by repeat (first | exact Picks.nil | with_reducible exact Pick.here | with_reducible apply Pick.there | with_reducible apply Pick.app_nil | with_reducible apply Pick.app_cons | apply Picks.cons))
  · try simp only [beq_iff_eq, beq_eq_false_iff_ne, Bool.not_eq_true, Bool.not_eq_false, decide_eq_true_eq, decide_eq_false_iff_not, Bool.not_eq_true', Bool.not_eq_false', bne_iff_ne, Bool.not_eq_eq_eq_not, Bool.not_true, Bool.not_false, ne_eq, Decidable.not_not, Int.not_lt, Int.not_le] at h10
    refine Tr.exit (At.then_exit (At.then_exit (At.block_hit (At.retP [_] (.inr rfl) rfl Res.nil (by repeat (first | exact Picks.nil | with_reducible exact Pick.here | with_reducible apply Pick.there | with_reducible apply Pick.app_nil | with_reducible apply Pick.app_cons | apply Picks.cons)) (by rw [List.take_of_length_le (by omega)]; exact hK)))))
/-- an edit's text, and why there is none -/
def putS (e : Ed) : ByteArray := if mayE e = true then strOf (putE e) else ⟨#[]⟩
def errE (e : Ed) : Int := if mayE e = true then 0 else 1

set_option maxHeartbeats 4000000 in
theorem Put_spec {F : Hp} {K : Value → List HProp → Prop} {pa : Option Addr} {ca : Nat} {pd : Option Addr} {cd : Nat} {e : Ed} (hA : SlIn F encT 4 pa e.add) (hD : SlIn F encI 1 pd e.drop) (hla : e.add.length ≤ 9223372036854775807) (hld : e.drop.length ≤ 9223372036854775807) (hK : K (.tuple #[.string (putS e), .int .i64 (errE e)]) []) : CallK Try.prog F 11 #[.agg (edC pa ca pd cd e).toArray] [] K := by
  refine CallK.enter Try.func11 rfl Try.ntmps11 rfl ?_
  refine Tr.seq ?_
  refine Tr.region ?_
  refine TrL.boxA rfl rfl (fun b1 => ?_)
  refine TrL.assign rfl rfl ?_
  refine TrL.assign rfl rfl ?_
  refine TrL.nil (At.then_normal ?_)
  refine Tr.seq ?_
  refine Tr.seq ?_
  refine Tr.region ?_
  refine TrL.loadLA rfl rfl ag25 sz25 (by repeat (first | with_reducible exact Pick.here | with_reducible apply Pick.there | with_reducible apply Pick.app_nil | with_reducible apply Pick.app_cons)) (by rfl) ?_
  refine TrL.call rfl rfl rfl ca16 .nil (fun Ft14 hUt14 => Check_spec (hUt14.ro (SlIn.mono _ _ _ _) hA) (hUt14.ro (SlIn.mono _ _ _ _) hD) hla hld ?_)
  refine TrL.assign rfl rfl ?_
  refine TrL.nil (At.then_normal ?_)
  refine Tr.seq ?_
  refine Tr.region ?_
  refine TrL.move rfl rfl ?_
  refine TrL.nei rfl rfl rfl ?_
  refine TrL.nil (At.then_normal ?_)
  refine Tr.cond rfl (fun h16 => ?_) (fun h16 => ?_)
  · try simp only [beq_iff_eq, beq_eq_false_iff_ne, Bool.not_eq_true, Bool.not_eq_false, decide_eq_true_eq, decide_eq_false_iff_not, Bool.not_eq_true', Bool.not_eq_false', bne_iff_ne, Bool.not_eq_eq_eq_not, Bool.not_true, Bool.not_false, ne_eq, Decidable.not_not, Int.not_lt, Int.not_le] at h16
    have hm : ¬ mayE e = true := by intro h; rw [if_pos h] at h16; exact h16 rfl
    refine Tr.seq ?_
    refine Tr.region ?_
    refine TrL.move rfl rfl ?_
    refine TrL.assign rfl rfl ?_
    refine TrL.assign rfl rfl ?_
    refine TrL.nil (At.then_normal ?_)
    refine Tr.ret (At.then_ret (At.retP [] (.inl rfl) rfl (Res.tmp rfl (Res.tmp rfl Res.nil)) (by repeat (first | exact Picks.nil | with_reducible exact Pick.here | with_reducible apply Pick.there | with_reducible apply Pick.app_nil | with_reducible apply Pick.app_cons | apply Picks.cons)) (by 
        unfold putS errE at hK
        rw [if_neg hm, if_neg hm] at hK
        rw [if_neg hm]
        exact hK)))
  · try simp only [beq_iff_eq, beq_eq_false_iff_ne, Bool.not_eq_true, Bool.not_eq_false, decide_eq_true_eq, decide_eq_false_iff_not, Bool.not_eq_true', Bool.not_eq_false', bne_iff_ne, Bool.not_eq_eq_eq_not, Bool.not_true, Bool.not_false, ne_eq, Decidable.not_not, Int.not_lt, Int.not_le] at h16
    have hm : mayE e = true := by
      by_cases h : mayE e = true
      · exact h
      · rw [if_neg h] at h16; cases h16
    have hm0 := hm
    unfold mayE at hm0
    simp only [Bool.and_eq_true, decide_eq_true_eq] at hm0
    obtain ⟨⟨⟨⟨⟨hm1, hm2⟩, hm3⟩, hm4⟩, hm5⟩, hm6⟩ := hm0
    have hpl := putN_len e.add.length
    have htl : ∀ i, ((e.add.take i).flatMap tabB).length ≤ 168 * (e.add.take i).length := fun i => flat_len _ (fun x hx => tabB_len (List.all_eq_true.1 hm3 x (List.mem_of_mem_take hx)))
    have htl2 : (e.add.flatMap tabB).length ≤ 168 * e.add.length := flat_len _ (fun x hx => tabB_len (List.all_eq_true.1 hm3 x hx))
    have hdl : (e.drop.flatMap numB).length ≤ 10 * e.drop.length := flat_nums _
    have hd1 : ([(e.drop.length : Int)].flatMap numB).length ≤ 10 * 1 := flat_nums [(e.drop.length : Int)]
    have hdr : ∀ x ∈ e.drop, 0 ≤ x ∧ x ≤ 4611686018427387904 := fun x hx => by have := List.all_eq_true.1 hm4 x hx; unfold numOk at this; simp only [Bool.and_eq_true, decide_eq_true_eq] at this; omega
    refine Tr.skip (At.then_normal ?_)
    refine Tr.seq ?_
    refine Tr.region ?_
    refine TrL.alloc rfl zc57 (fun b5 => ?_)
    refine TrL.own0 5 1 encB ?_
    refine TrL.nil (At.then_normal ?_)
    refine Tr.seq ?_
    refine Tr.region ?_
    refine TrL.makeFunc rfl rfl rfl ?_
    refine TrL.assign rfl rfl ?_
    refine TrL.nil (At.then_normal ?_)
    refine Tr.seq ?_
    refine Tr.close_ (ch := bldC b5 []) (cs := [cl b5 [.pointer none, .slice none 0 0] 57, Own 5 1 encB none 0 []]) (by repeat (first | exact Picks.nil | with_reducible exact Pick.here | with_reducible apply Pick.there | with_reducible apply Pick.app_nil | with_reducible apply Pick.app_cons | apply Picks.cons)) (fun h hs => bld_close (bs := []) (.inl rfl) h hs) ?_
    refine Tr.region ?_
    refine TrL.move rfl rfl ?_
    refine TrL.field0 rfl rfl fl25_0 ?_
    refine TrL.load1 rfl rfl sc22 (Sees.cl1 (by repeat (first | with_reducible exact Pick.here | with_reducible apply Pick.there | with_reducible apply Pick.app_nil | with_reducible apply Pick.app_cons)) (by rfl)) ?_
    refine TrL.lenl rfl rfl se22 ?_
    refine TrL.buildSlF rfl rfl rfl se23 sz3 zc3 rfl rfl rfl (fun b23 => ?_)
    refine TrL.freezeL encI 1 [(e.add.length : Int)] (by repeat (first | with_reducible exact Pick.here | with_reducible apply Pick.there | with_reducible apply Pick.app_nil | with_reducible apply Pick.app_cons)) (by rfl) (fun _ => rfl) (fun F23 hF23 hs23 => ?_)
    refine TrL.callC rfl rfl rfl ca26 (by repeat (first | exact Picks.nil | with_reducible exact Pick.here | with_reducible apply Pick.there | with_reducible apply Pick.app_nil | with_reducible apply Pick.app_cons | apply Picks.cons)) (fun Ft24 hUt24 => numbers_spec (l := [(e.add.length : Int)]) (bs := []) (hUt24.ro (SlIn.mono _ _ _ _) hs23) (by simp) (by simp; omega) (by simp) ?_)
    refine TrL.unfreeze hF23 ?_
    refine TrL.nil (At.then_normal ?_)
    refine Tr.seq ?_
    refine Tr.seq ?_
    refine Tr.region ?_
    refine TrL.field0 rfl rfl fl25_0 ?_
    refine TrL.load1 rfl rfl sc22 (Sees.cl1 (by repeat (first | with_reducible exact Pick.here | with_reducible apply Pick.there | with_reducible apply Pick.app_nil | with_reducible apply Pick.app_cons)) (by rfl)) ?_
    refine TrL.lenl rfl rfl se22 ?_
    refine TrL.move rfl rfl ?_
    refine TrL.nil (At.then_normal ?_)
    refine Tr.block ?_
    refine Tr.loopK [1, 5, 6, 26, 27] (α := Nat) (fun i => [(28, .int .i64 (i : Int))]) (fun i => [bldC b5 (putN e.add.length ++ (e.add.take i).flatMap tabB)]) (fun i => i ≤ e.add.length) (fun i => e.add.length - i) (0) (by rfl) ?_ (by repeat (first | exact Sub.nil | refine Sub.cons (by rfl) ?_)) (by (rw [show bldC b5 (putN e.add.length ++ (e.add.take 0).flatMap tabB) = bldC b5 ([] ++ [(e.add.length : Int)].flatMap numB) by simp [numB]]; repeat (first | exact Picks.nil | with_reducible exact Pick.here | with_reducible apply Pick.there | with_reducible apply Pick.app_nil | with_reducible apply Pick.app_cons | apply Picks.cons))) ?_
    · exact Nat.zero_le _
    rintro i hi
    refine Tr.seq ?_
    refine Tr.region ?_
    refine TrL.lss rfl rfl rfl ?_
    refine TrL.nil (At.then_normal ?_)
    refine Tr.seq ?_
    refine Tr.cond rfl (fun h29 => ?_) (fun h29 => ?_)
    · try simp only [beq_iff_eq, beq_eq_false_iff_ne, Bool.not_eq_true, Bool.not_eq_false, decide_eq_true_eq, decide_eq_false_iff_not, Bool.not_eq_true', Bool.not_eq_false', bne_iff_ne, Bool.not_eq_eq_eq_not, Bool.not_true, Bool.not_false, ne_eq, Decidable.not_not, Int.not_lt, Int.not_le] at h29
      refine Tr.skip (At.then_normal ?_)
      refine Tr.seq ?_
      refine Tr.block ?_
      refine Tr.seq ?_
      refine Tr.region ?_
      refine TrL.idxF rfl rfl rfl se22 sz46 hA rfl rfl rfl (List.getElem?_eq_getElem (by omega)) (fun b30 o30 hp30 hc30 => ?_)
      refine TrL.loadRA rfl rfl ag46 sz46 (by assumption) (by rfl) ?_
      refine TrL.alloc rfl zc46 (fun b8 => ?_)
      refine TrL.storeLA rfl rfl sz46 ⟨rfl, List.cons_ne_nil _ _⟩ rfl (by repeat (first | with_reducible exact Upd.here | with_reducible apply Upd.there | with_reducible apply Upd.app_nil | with_reducible apply Upd.app_cons)) (by rfl) ?_
      refine TrL.nil (At.then_normal ?_)
      refine Tr.seq ?_
      have hti := List.all_eq_true.1 hm3 e.add[i] (List.getElem_mem _)
      have hti0 := hti
      unfold tabOk keyOk at hti
      simp only [Bool.and_eq_true, decide_eq_true_eq] at hti
      have htk := htl i
      have hkl : (e.add.take i).length ≤ 128 := by simp only [List.length_take]; omega
      have hi2 := flat_nums [e.add[i].id, e.add[i].level]
      simp only [List.length_cons, List.length_nil] at hi2
      have hlo : (textN e.add[i].lo.data.toList).length ≤ 74 := by
        have := putN_len e.add[i].lo.data.toList.length
        have h2 : e.add[i].lo.data.toList.length = e.add[i].lo.size := by simp
        unfold textN; simp only [List.length_append]; omega
      have hhi : (textN e.add[i].hi.data.toList).length ≤ 74 := by
        have := putN_len e.add[i].hi.data.toList.length
        have h2 : e.add[i].hi.data.toList.length = e.add[i].hi.size := by simp
        unfold textN; simp only [List.length_append]; omega
      have hlo2 : (strOf (textN e.add[i].lo.data.toList)).data.toList.length = (textN e.add[i].lo.data.toList).length := by simp [strOf]
      refine Tr.region ?_
      refine TrL.move rfl rfl ?_
      refine TrL.field0 rfl rfl fl46_0 ?_
      refine TrL.load1 rfl rfl sc3 (Sees.cl1 (by repeat (first | with_reducible exact Pick.here | with_reducible apply Pick.there | with_reducible apply Pick.app_nil | with_reducible apply Pick.app_cons)) (by rfl)) ?_
      refine TrL.field rfl rfl fl46_1 ?_
      refine TrL.load1 rfl rfl sc3 (Sees.cl1 (by repeat (first | with_reducible exact Pick.here | with_reducible apply Pick.there | with_reducible apply Pick.app_nil | with_reducible apply Pick.app_cons)) (by rfl)) ?_
      refine TrL.buildSlF rfl rfl rfl se23 sz3 zc3 rfl rfl rfl (fun b37 => ?_)
      refine TrL.freezeL encI 1 [e.add[i].id, e.add[i].level] (by repeat (first | with_reducible exact Pick.here | with_reducible apply Pick.there | with_reducible apply Pick.app_nil | with_reducible apply Pick.app_cons)) (by rfl) (fun _ => rfl) (fun F37 hF37 hs37 => ?_)
      refine TrL.callC rfl rfl rfl ca26 (by repeat (first | exact Picks.nil | with_reducible exact Pick.here | with_reducible apply Pick.there | with_reducible apply Pick.app_nil | with_reducible apply Pick.app_cons | apply Picks.cons)) (fun Ft38 hUt38 => numbers_spec (l := [e.add[i].id, e.add[i].level]) (bs := putN e.add.length ++ (e.add.take i).flatMap tabB) (hUt38.ro (SlIn.mono _ _ _ _) hs37) (by simp) (by simp; omega) (by simp only [List.length_append]; omega) ?_)
      refine TrL.unfreeze hF37 ?_
      refine TrL.nil (At.then_normal ?_)
      refine Tr.seq ?_
      refine Tr.region ?_
      refine TrL.field rfl rfl fl46_2 ?_
      refine TrL.load1 rfl rfl sc9 (Sees.cl1 (by repeat (first | with_reducible exact Pick.here | with_reducible apply Pick.there | with_reducible apply Pick.app_nil | with_reducible apply Pick.app_cons)) (by rfl)) ?_
      refine TrL.field rfl rfl fl46_3 ?_
      refine TrL.load1 rfl rfl sc9 (Sees.cl1 (by repeat (first | with_reducible exact Pick.here | with_reducible apply Pick.there | with_reducible apply Pick.app_nil | with_reducible apply Pick.app_cons)) (by rfl)) ?_
      refine TrL.buildSlF rfl rfl rfl se51 sz9 zc9 rfl rfl rfl (fun b43 => ?_)
      refine TrL.lenl rfl rfl se51 ?_
      refine TrL.move rfl rfl ?_
      refine TrL.nil (At.then_normal ?_)
      refine Tr.block ?_
      refine Tr.unroll 3 ?_
      refine TrR.succ ?_
      refine Tr.seq ?_
      refine Tr.region ?_
      refine TrL.lss rfl rfl rfl ?_
      refine TrL.knownB (t := 46) (c := true) rfl (by decide) ?_
      refine TrL.nil (At.then_normal ?_)
      refine Tr.seq ?_
      refine Tr.condT rfl ?_
      refine Tr.skip (At.then_normal ?_)
      refine Tr.seq ?_
      refine Tr.block ?_
      refine Tr.seq ?_
      refine Tr.region ?_
      refine TrL.indexAddr (i := 0) rfl rfl rfl se51 sz9 (by rfl) (by decide) ?_
      --L:b43
      refine TrL.load1 rfl rfl sc9 (Sees.cl1 (by repeat (first | with_reducible exact Pick.here | with_reducible apply Pick.there | with_reducible apply Pick.app_nil | with_reducible apply Pick.app_cons)) (by rfl)) ?_
      refine TrL.assign rfl rfl ?_
      refine TrL.nil (At.then_normal ?_)
      refine Tr.seq ?_
      refine Tr.region ?_
      refine TrL.move rfl rfl ?_
      refine TrL.call rfl rfl rfl ca29 .nil (fun Ft51 hUt51 => TextN_spec (by omega) ?_)
      refine TrL.move rfl rfl ?_
      refine TrL.extract rfl rfl rfl ?_
      refine TrL.extract rfl rfl rfl ?_
      refine TrL.assign rfl rfl ?_
      refine TrL.assign rfl rfl ?_
      refine TrL.nil (At.then_normal ?_)
      refine Tr.region ?_
      refine TrL.move rfl rfl ?_
      refine TrL.call (Hp := [bldC b5 ((putN e.add.length ++ (e.add.take i).flatMap tabB) ++ [e.add[i].id, e.add[i].level].flatMap numB)]) rfl rfl rfl ca28 (by repeat (first | exact Picks.nil | with_reducible exact Pick.here | with_reducible apply Pick.there | with_reducible apply Pick.app_nil | with_reducible apply Pick.app_cons | apply Picks.cons)) (fun Ft55 hUt55 => WriteString_spec (t := strOf (textN e.add[i].lo.data.toList)) (bs := (putN e.add.length ++ (e.add.take i).flatMap tabB) ++ [e.add[i].id, e.add[i].level].flatMap numB) (by rw [strOf_size]; simp only [List.length_append]; omega) ?_)
      refine TrL.nil (At.block_normal (At.then_normal ?_))
      refine Tr.region ?_
      refine TrL.addI rfl rfl rfl (by omega) ?_
      refine TrL.move rfl rfl ?_
      refine TrL.nil (At.round ?_)
      refine TrR.succ ?_
      refine Tr.seq ?_
      refine Tr.region ?_
      refine TrL.lss rfl rfl rfl ?_
      refine TrL.knownB (t := 46) (c := true) rfl (by decide) ?_
      refine TrL.nil (At.then_normal ?_)
      refine Tr.seq ?_
      refine Tr.condT rfl ?_
      refine Tr.skip (At.then_normal ?_)
      refine Tr.seq ?_
      refine Tr.block ?_
      refine Tr.seq ?_
      refine Tr.region ?_
      refine TrL.indexAddr (i := 1) rfl rfl rfl se51 sz9 (by rfl) (by decide) ?_
      --L:b43
      refine TrL.load1 rfl rfl sc9 (Sees.cl1 (by repeat (first | with_reducible exact Pick.here | with_reducible apply Pick.there | with_reducible apply Pick.app_nil | with_reducible apply Pick.app_cons)) (by rfl)) ?_
      refine TrL.assign rfl rfl ?_
      refine TrL.nil (At.then_normal ?_)
      refine Tr.seq ?_
      refine Tr.region ?_
      refine TrL.move rfl rfl ?_
      refine TrL.call rfl rfl rfl ca29 .nil (fun Ft51 hUt51 => TextN_spec (by omega) ?_)
      refine TrL.move rfl rfl ?_
      refine TrL.extract rfl rfl rfl ?_
      refine TrL.extract rfl rfl rfl ?_
      refine TrL.assign rfl rfl ?_
      refine TrL.assign rfl rfl ?_
      refine TrL.nil (At.then_normal ?_)
      refine Tr.region ?_
      refine TrL.move rfl rfl ?_
      refine TrL.call (Hp := [bldC b5 (((putN e.add.length ++ (e.add.take i).flatMap tabB) ++ [e.add[i].id, e.add[i].level].flatMap numB) ++ (strOf (textN e.add[i].lo.data.toList)).data.toList)]) rfl rfl rfl ca28 (by repeat (first | exact Picks.nil | with_reducible exact Pick.here | with_reducible apply Pick.there | with_reducible apply Pick.app_nil | with_reducible apply Pick.app_cons | apply Picks.cons)) (fun Ft55 hUt55 => WriteString_spec (t := strOf (textN e.add[i].hi.data.toList)) (bs := ((putN e.add.length ++ (e.add.take i).flatMap tabB) ++ [e.add[i].id, e.add[i].level].flatMap numB) ++ (strOf (textN e.add[i].lo.data.toList)).data.toList) (by rw [strOf_size]; simp only [List.length_append]; omega) ?_)
      refine TrL.nil (At.block_normal (At.then_normal ?_))
      refine Tr.region ?_
      refine TrL.addI rfl rfl rfl (by omega) ?_
      refine TrL.move rfl rfl ?_
      refine TrL.nil (At.round ?_)
      refine TrR.succ ?_
      refine Tr.seq ?_
      refine Tr.region ?_
      refine TrL.lss rfl rfl rfl ?_
      refine TrL.knownB (t := 46) (c := false) rfl (by decide) ?_
      refine TrL.nil (At.then_normal ?_)
      refine Tr.seq ?_
      refine Tr.condF rfl ?_
      refine Tr.exit (At.then_exit (At.then_exit (At.block_hit (At.block_normal (At.then_normal ?_)))))
      refine Tr.region ?_
      refine TrL.addI rfl rfl rfl (by omega) ?_
      refine TrL.move rfl rfl ?_
      refine TrL.nil ?_
      have e3 : ((putN e.add.length ++ (e.add.take i).flatMap tabB) ++ [e.add[i].id, e.add[i].level].flatMap numB) ++ (strOf (textN e.add[i].lo.data.toList)).data.toList ++ (strOf (textN e.add[i].hi.data.toList)).data.toList = putN e.add.length ++ (e.add.take (i + 1)).flatMap tabB := by
        rw [← flat_snoc tabB (by omega)]; simp [tabB, numB, strOf]
      rw [e3]
      refine At.again (i + 1) (by show i + 1 ≤ e.add.length; omega) (by omega) (by repeat (first | exact Sub.nil | refine Sub.cons (by rfl) ?_)) (by repeat (first | exact Picks.nil | with_reducible exact Pick.here | with_reducible apply Pick.there | with_reducible apply Pick.app_nil | with_reducible apply Pick.app_cons | apply Picks.cons))
    · try simp only [beq_iff_eq, beq_eq_false_iff_ne, Bool.not_eq_true, Bool.not_eq_false, decide_eq_true_eq, decide_eq_false_iff_not, Bool.not_eq_true', Bool.not_eq_false', bne_iff_ne, Bool.not_eq_eq_eq_not, Bool.not_true, Bool.not_false, ne_eq, Decidable.not_not, Int.not_lt, Int.not_le] at h29
      refine Tr.exit (At.then_exit (At.then_exit (At.block_hit (At.then_normal ?_))))
      refine Tr.seq ?_
      rw [List.take_of_length_le (show e.add.length ≤ i by omega)]
      refine Tr.region ?_
      refine TrL.move rfl rfl ?_
      refine TrL.field rfl rfl fl25_1 ?_
      refine TrL.load1 rfl rfl sc23 (Sees.cl1 (by repeat (first | with_reducible exact Pick.here | with_reducible apply Pick.there | with_reducible apply Pick.app_nil | with_reducible apply Pick.app_cons)) (by rfl)) ?_
      refine TrL.lenl rfl rfl se23 ?_
      refine TrL.buildSlF rfl rfl rfl se23 sz3 zc3 rfl rfl rfl (fun b62 => ?_)
      refine TrL.freezeL encI 1 [(e.drop.length : Int)] (by repeat (first | with_reducible exact Pick.here | with_reducible apply Pick.there | with_reducible apply Pick.app_nil | with_reducible apply Pick.app_cons)) (by rfl) (fun _ => rfl) (fun F62 hF62 hs62 => ?_)
      refine TrL.callC rfl rfl rfl ca26 (by repeat (first | exact Picks.nil | with_reducible exact Pick.here | with_reducible apply Pick.there | with_reducible apply Pick.app_nil | with_reducible apply Pick.app_cons | apply Picks.cons)) (fun Ft63 hUt63 => numbers_spec (l := [(e.drop.length : Int)]) (bs := putN e.add.length ++ e.add.flatMap tabB) (hUt63.ro (SlIn.mono _ _ _ _) hs62) (by simp) (by simp; omega) (by simp only [List.length_append]; omega) ?_)
      refine TrL.unfreeze hF62 ?_
      refine TrL.nil (At.then_normal ?_)
      refine Tr.seq ?_
      refine Tr.region ?_
      refine TrL.move rfl rfl ?_
      refine TrL.field rfl rfl fl25_1 ?_
      refine TrL.load1 rfl rfl sc23 (Sees.cl1 (by repeat (first | with_reducible exact Pick.here | with_reducible apply Pick.there | with_reducible apply Pick.app_nil | with_reducible apply Pick.app_cons)) (by rfl)) ?_
      refine TrL.callC rfl rfl rfl ca26 (by repeat (first | exact Picks.nil | with_reducible exact Pick.here | with_reducible apply Pick.there | with_reducible apply Pick.app_nil | with_reducible apply Pick.app_cons | apply Picks.cons)) (fun Ft67 hUt67 => numbers_spec (l := e.drop) (bs := (putN e.add.length ++ e.add.flatMap tabB) ++ [(e.drop.length : Int)].flatMap numB) (hUt67.ro (SlIn.mono _ _ _ _) hD) (by omega) hdr (by simp only [List.length_append]; omega) ?_)
      refine TrL.nil (At.then_normal ?_)
      refine Tr.seq ?_
      refine Tr.region ?_
      refine TrL.move rfl rfl ?_
      refine TrL.field rfl rfl fl25_2 ?_
      refine TrL.load1 rfl rfl sc3 (Sees.cl1 (by repeat (first | with_reducible exact Pick.here | with_reducible apply Pick.there | with_reducible apply Pick.app_nil | with_reducible apply Pick.app_cons)) (by rfl)) ?_
      refine TrL.field rfl rfl fl25_3 ?_
      refine TrL.load1 rfl rfl sc3 (Sees.cl1 (by repeat (first | with_reducible exact Pick.here | with_reducible apply Pick.there | with_reducible apply Pick.app_nil | with_reducible apply Pick.app_cons)) (by rfl)) ?_
      refine TrL.buildSlF rfl rfl rfl se23 sz3 zc3 rfl rfl rfl (fun b73 => ?_)
      refine TrL.freezeL encI 1 [e.log, e.next] (by repeat (first | with_reducible exact Pick.here | with_reducible apply Pick.there | with_reducible apply Pick.app_nil | with_reducible apply Pick.app_cons)) (by rfl) (fun _ => rfl) (fun F73 hF73 hs73 => ?_)
      refine TrL.callC rfl rfl rfl ca26 (by repeat (first | exact Picks.nil | with_reducible exact Pick.here | with_reducible apply Pick.there | with_reducible apply Pick.app_nil | with_reducible apply Pick.app_cons | apply Picks.cons)) (fun Ft74 hUt74 => numbers_spec (l := [e.log, e.next]) (bs := ((putN e.add.length ++ e.add.flatMap tabB) ++ [(e.drop.length : Int)].flatMap numB) ++ e.drop.flatMap numB) (hUt74.ro (SlIn.mono _ _ _ _) hs73) (by simp) (by simp; omega) (by simp only [List.length_append]; omega) ?_)
      refine TrL.unfreeze hF73 ?_
      refine TrL.nil (At.then_normal ?_)
      refine Tr.seq ?_
      refine Tr.region ?_
      refine TrL.call rfl rfl rfl ca30 (by repeat (first | exact Picks.nil | with_reducible exact Pick.here | with_reducible apply Pick.there | with_reducible apply Pick.app_nil | with_reducible apply Pick.app_cons | apply Picks.cons)) (fun Ft75 hUt75 => String_spec (by simp [putN_ne]) ?_)
      refine TrL.assign rfl rfl ?_
      refine TrL.assign rfl rfl ?_
      refine TrL.nil (At.then_normal ?_)
      refine Tr.ret (At.retP [] (.inl rfl) rfl (Res.tmp rfl (Res.tmp rfl Res.nil)) (by repeat (first | exact Picks.nil | with_reducible exact Pick.here | with_reducible apply Pick.there | with_reducible apply Pick.app_nil | with_reducible apply Pick.app_cons | apply Picks.cons)) (by 
          unfold putS errE at hK
          rw [if_pos hm, if_pos hm] at hK
          have e1 : [] ++ [(e.add.length : Int)].flatMap numB = putN e.add.length := by simp [numB]
          have e2 : ((((putN e.add.length ++ e.add.flatMap tabB) ++ [(e.drop.length : Int)].flatMap numB) ++ e.drop.flatMap numB) ++ [e.log, e.next].flatMap numB) = putE e := by simp [putE, numB]
          rw [e2]
          exact hK))
end Go.Proofs.Ytiefmfimbmkdjaa

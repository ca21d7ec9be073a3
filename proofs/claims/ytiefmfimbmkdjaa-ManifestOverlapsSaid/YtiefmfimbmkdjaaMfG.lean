/-
  The document's text of an edit; which tables, edits and states are the same: contracts.
  No condition but those that each statement names.
-/
import Derived.Test.YtiefmfimbmkdjaaMfF
namespace Go.Proofs.Ytiefmfimbmkdjaa
set_option linter.unusedSimpArgs false
set_option linter.unusedVariables false
set_option linter.unusedSectionVars false
open Go.RowKit
variable [Obs]

set_option maxHeartbeats 4000000 in
theorem PutR_spec {F : Hp} {K : Value → List HProp → Prop} {pa : Option Addr} {ca : Nat} {pd : Option Addr} {cd : Nat} {e : Ed} (hA : SlIn F encT 4 pa e.add) (hD : SlIn F encI 1 pd e.drop) (hla : e.add.length ≤ 9223372036854775807) (hld : e.drop.length ≤ 9223372036854775807) (hK : K (.tuple #[.string (putS e), .int .i64 (errE e)]) []) : CallK Try.prog F 12 #[.agg (edC pa ca pd cd e).toArray] [] K := by
  refine CallK.enter Try.func12 rfl Try.ntmps12 rfl ?_
  refine Tr.seq ?_
  refine Tr.region ?_
  refine TrL.boxA rfl rfl (fun b1 => ?_)
  refine TrL.assign rfl rfl ?_
  refine TrL.assign rfl rfl ?_
  refine TrL.nil (At.then_normal ?_)
  refine Tr.seq ?_
  refine Tr.seq ?_
  refine Tr.region ?_
  refine TrL.loadLA rfl rfl ag25 sz25 (by repeat (first | with_reducible exact Pick.here | with_reducible apply Pick.there | with_reducible apply Pick.app_nil | with_reducible apply Pick.app_cons)) (by rfl) ?_
  refine TrL.call rfl rfl rfl ca31 .nil (fun Ft8 hUt8 => May_spec (hUt8.ro (SlIn.mono _ _ _ _) hA) (hUt8.ro (SlIn.mono _ _ _ _) hD) hla hld ?_)
  refine TrL.not rfl rfl ?_
  refine TrL.nil (At.then_normal ?_)
  refine Tr.cond rfl (fun h9 => ?_) (fun h9 => ?_)
  · try simp only [beq_iff_eq, beq_eq_false_iff_ne, Bool.not_eq_true, Bool.not_eq_false, decide_eq_true_eq, decide_eq_false_iff_not, Bool.not_eq_true', Bool.not_eq_false', bne_iff_ne, Bool.not_eq_eq_eq_not, Bool.not_true, Bool.not_false, ne_eq, Decidable.not_not, Int.not_lt, Int.not_le] at h9
    refine Tr.seq ?_
    refine Tr.region ?_
    refine TrL.assign rfl rfl ?_
    refine TrL.assign rfl rfl ?_
    refine TrL.nil (At.then_normal ?_)
    refine Tr.ret (At.then_ret (At.retP [] (.inl rfl) rfl (Res.tmp rfl (Res.tmp rfl Res.nil)) (by repeat (first | exact Picks.nil | with_reducible exact Pick.here | with_reducible apply Pick.there | with_reducible apply Pick.app_nil | with_reducible apply Pick.app_cons | apply Picks.cons)) (by 
        have hm : ¬ mayE e = true := by simpa using h9
        unfold putS errE at hK
        rw [if_neg hm, if_neg hm] at hK
        exact hK)))
  · try simp only [beq_iff_eq, beq_eq_false_iff_ne, Bool.not_eq_true, Bool.not_eq_false, decide_eq_true_eq, decide_eq_false_iff_not, Bool.not_eq_true', Bool.not_eq_false', bne_iff_ne, Bool.not_eq_eq_eq_not, Bool.not_true, Bool.not_false, ne_eq, Decidable.not_not, Int.not_lt, Int.not_le] at h9
    have hm : mayE e = true := by simpa using h9
    have hm0 := hm
    unfold mayE at hm0
    simp only [Bool.and_eq_true, decide_eq_true_eq] at hm0
    obtain ⟨⟨⟨⟨⟨hm1, hm2⟩, hm3⟩, hm4⟩, hm5⟩, hm6⟩ := hm0
    have hpl := putN_len e.add.length
    have hpd := putN_len e.drop.length
    have hplg := putN_len e.log.toNat
    have hpnx := putN_len e.next.toNat
    have htl : ∀ i, ((e.add.take i).flatMap tabB).length ≤ 168 * (e.add.take i).length := fun i => flat_len _ (fun x hx => tabB_len (List.all_eq_true.1 hm3 x (List.mem_of_mem_take hx)))
    have htl2 : (e.add.flatMap tabB).length ≤ 168 * e.add.length := flat_len _ (fun x hx => tabB_len (List.all_eq_true.1 hm3 x hx))
    have hdl : ∀ j, ((e.drop.take j).flatMap numB).length ≤ 10 * (e.drop.take j).length := fun j => flat_nums _
    have hdl2 : (e.drop.flatMap numB).length ≤ 10 * e.drop.length := flat_nums _
    have hdr : ∀ x ∈ e.drop, 0 ≤ x ∧ x ≤ 4611686018427387904 := fun x hx => by have := List.all_eq_true.1 hm4 x hx; unfold numOk at this; simp only [Bool.and_eq_true, decide_eq_true_eq] at this; omega
    refine Tr.skip (At.then_normal ?_)
    refine Tr.seq ?_
    refine Tr.region ?_
    refine TrL.field0 rfl rfl fl25_0 ?_
    refine TrL.load1 rfl rfl sc22 (Sees.cl1 (by repeat (first | with_reducible exact Pick.here | with_reducible apply Pick.there | with_reducible apply Pick.app_nil | with_reducible apply Pick.app_cons)) (by rfl)) ?_
    refine TrL.lenl rfl rfl se22 ?_
    refine TrL.call rfl rfl rfl ca32 .nil (fun Ft13 hUt13 => num_spec (by omega) (by omega) ?_)
    refine TrL.assign rfl rfl ?_
    refine TrL.nil (At.then_normal ?_)
    refine Tr.seq ?_
    refine Tr.seq ?_
    refine Tr.region ?_
    refine TrL.assign rfl rfl ?_
    refine TrL.nil (At.then_normal ?_)
    refine Tr.block ?_
    refine Tr.loopK [1] (α := Nat) (fun i => [(5, .int .i64 (i : Int)), (4, .string (strOf (putN e.add.length ++ (e.add.take i).flatMap tabB)))]) (fun i => []) (fun i => i ≤ e.add.length) (fun i => e.add.length - i) (0) (by rfl) ?_ (by (rw [show putN e.add.length ++ (e.add.take 0).flatMap tabB = putN e.add.length by simp]; repeat (first | exact Sub.nil | refine Sub.cons (by rfl) ?_))) (by repeat (first | exact Picks.nil | with_reducible exact Pick.here | with_reducible apply Pick.there | with_reducible apply Pick.app_nil | with_reducible apply Pick.app_cons | apply Picks.cons)) ?_
    · exact Nat.zero_le _
    rintro i hi
    refine Tr.seq ?_
    refine Tr.seq ?_
    refine Tr.region ?_
    refine TrL.move rfl rfl ?_
    refine TrL.field0 rfl rfl fl25_0 ?_
    refine TrL.load1 rfl rfl sc22 (Sees.cl1 (by repeat (first | with_reducible exact Pick.here | with_reducible apply Pick.there | with_reducible apply Pick.app_nil | with_reducible apply Pick.app_cons)) (by rfl)) ?_
    refine TrL.lenl rfl rfl se22 ?_
    refine TrL.lss rfl rfl rfl ?_
    refine TrL.nil (At.then_normal ?_)
    refine Tr.cond rfl (fun h18 => ?_) (fun h18 => ?_)
    · try simp only [beq_iff_eq, beq_eq_false_iff_ne, Bool.not_eq_true, Bool.not_eq_false, decide_eq_true_eq, decide_eq_false_iff_not, Bool.not_eq_true', Bool.not_eq_false', bne_iff_ne, Bool.not_eq_eq_eq_not, Bool.not_true, Bool.not_false, ne_eq, Decidable.not_not, Int.not_lt, Int.not_le] at h18
      have hti := List.all_eq_true.1 hm3 e.add[i] (List.getElem_mem _)
      unfold tabOk keyOk at hti
      simp only [Bool.and_eq_true, decide_eq_true_eq] at hti
      have htk := htl i
      have hkl : (e.add.take i).length ≤ 128 := by simp only [List.length_take]; omega
      have hpi := putN_len e.add[i].id.toNat
      have hpv := putN_len e.add[i].level.toNat
      have hlo : (textN e.add[i].lo.data.toList).length ≤ 74 := by
        have := putN_len e.add[i].lo.data.toList.length
        have h2 : e.add[i].lo.data.toList.length = e.add[i].lo.size := by simp
        unfold textN; simp only [List.length_append]; omega
      have hhi : (textN e.add[i].hi.data.toList).length ≤ 74 := by
        have := putN_len e.add[i].hi.data.toList.length
        have h2 : e.add[i].hi.data.toList.length = e.add[i].hi.size := by simp
        unfold textN; simp only [List.length_append]; omega
      refine Tr.skip (At.then_normal ?_)
      refine Tr.seq ?_
      refine Tr.block ?_
      refine Tr.regionQ mixed (by kernel_rfl) ?_
      refine TrL.move rfl rfl ?_
      refine TrL.field0 rfl rfl fl25_0 ?_
      refine TrL.load1 rfl rfl sc22 (Sees.cl1 (by repeat (first | with_reducible exact Pick.here | with_reducible apply Pick.there | with_reducible apply Pick.app_nil | with_reducible apply Pick.app_cons)) (by rfl)) ?_
      refine TrL.move rfl rfl ?_
      refine TrL.idxF rfl rfl rfl se22 sz46 (by assumption) rfl rfl rfl (List.getElem?_eq_getElem (by omega)) (fun b25 o25 hp25 hc25 => ?_)
      refine TrL.field0 rfl rfl fl46_0 ?_
      refine TrL.loadR1 rfl rfl sc3 (Cells.part hc25 (j := 0) rfl) ?_
      refine TrL.callQ rfl rfl rfl ca32 (fun Ft28 hUt28 => num_spec (by omega) (by omega) rfl) ?_
      refine TrL.adds rfl rfl rfl (by simp only [ByteArray.size_append, strOf_size, List.length_append]; omega) ?_
      refine TrL.field0 rfl rfl fl25_0 ?_
      refine TrL.load1 rfl rfl sc22 (Sees.cl1 (by repeat (first | with_reducible exact Pick.here | with_reducible apply Pick.there | with_reducible apply Pick.app_nil | with_reducible apply Pick.app_cons)) (by rfl)) ?_
      refine TrL.move rfl rfl ?_
      refine TrL.idxF rfl rfl rfl se22 sz46 (by assumption) rfl rfl rfl (List.getElem?_eq_getElem (by omega)) (fun b33 o33 hp33 hc33 => ?_)
      refine TrL.field rfl rfl fl46_1 ?_
      refine TrL.loadR1 rfl rfl sc3 (Cells.part hc33 (j := 1) rfl) ?_
      refine TrL.callQ rfl rfl rfl ca32 (fun Ft36 hUt36 => num_spec (by omega) (by omega) rfl) ?_
      refine TrL.adds rfl rfl rfl (by simp only [ByteArray.size_append, strOf_size, List.length_append]; omega) ?_
      refine TrL.field0 rfl rfl fl25_0 ?_
      refine TrL.load1 rfl rfl sc22 (Sees.cl1 (by repeat (first | with_reducible exact Pick.here | with_reducible apply Pick.there | with_reducible apply Pick.app_nil | with_reducible apply Pick.app_cons)) (by rfl)) ?_
      refine TrL.move rfl rfl ?_
      refine TrL.idxF rfl rfl rfl se22 sz46 (by assumption) rfl rfl rfl (List.getElem?_eq_getElem (by omega)) (fun b41 o41 hp41 hc41 => ?_)
      refine TrL.field rfl rfl fl46_2 ?_
      refine TrL.loadR1 rfl rfl sc9 (Cells.part hc41 (j := 2) rfl) ?_
      refine TrL.callQ rfl rfl rfl ca33 (fun Ft44 hUt44 => text_spec (by omega) rfl) ?_
      refine TrL.adds rfl rfl rfl (by simp only [ByteArray.size_append, strOf_size, List.length_append]; omega) ?_
      refine TrL.field0 rfl rfl fl25_0 ?_
      refine TrL.load1 rfl rfl sc22 (Sees.cl1 (by repeat (first | with_reducible exact Pick.here | with_reducible apply Pick.there | with_reducible apply Pick.app_nil | with_reducible apply Pick.app_cons)) (by rfl)) ?_
      refine TrL.move rfl rfl ?_
      refine TrL.idxF rfl rfl rfl se22 sz46 (by assumption) rfl rfl rfl (List.getElem?_eq_getElem (by omega)) (fun b49 o49 hp49 hc49 => ?_)
      refine TrL.field rfl rfl fl46_3 ?_
      refine TrL.loadR1 rfl rfl sc9 (Cells.part hc49 (j := 3) rfl) ?_
      refine TrL.callQ rfl rfl rfl ca33 (fun Ft52 hUt52 => text_spec (by omega) rfl) ?_
      refine TrL.adds rfl rfl rfl (by simp only [ByteArray.size_append, strOf_size, List.length_append]; omega) ?_
      refine TrL.assign rfl rfl ?_
      refine TrL.nilQ (At.block_normal (At.then_normal ?_))
      refine Tr.region ?_
      refine TrL.move rfl rfl ?_
      refine TrL.addI rfl rfl rfl (by omega) ?_
      refine TrL.assign rfl rfl ?_
      refine TrL.nil ?_
      have e3 : strOf (putN e.add.length ++ (e.add.take i).flatMap tabB) ++ strOf (putN e.add[i].id.toNat) ++ strOf (putN e.add[i].level.toNat) ++ strOf (textN e.add[i].lo.data.toList) ++ strOf (textN e.add[i].hi.data.toList) = strOf (putN e.add.length ++ (e.add.take (i + 1)).flatMap tabB) := by
        rw [strOf_append, strOf_append, strOf_append, strOf_append, ← flat_snoc tabB (by omega)]; simp [tabB]
      rw [e3]
      refine At.again (i + 1) (by show i + 1 ≤ e.add.length; omega) (by omega) (by repeat (first | exact Sub.nil | refine Sub.cons (by rfl) ?_)) (by repeat (first | exact Picks.nil | with_reducible exact Pick.here | with_reducible apply Pick.there | with_reducible apply Pick.app_nil | with_reducible apply Pick.app_cons | apply Picks.cons))
    · try simp only [beq_iff_eq, beq_eq_false_iff_ne, Bool.not_eq_true, Bool.not_eq_false, decide_eq_true_eq, decide_eq_false_iff_not, Bool.not_eq_true', Bool.not_eq_false', bne_iff_ne, Bool.not_eq_eq_eq_not, Bool.not_true, Bool.not_false, ne_eq, Decidable.not_not, Int.not_lt, Int.not_le] at h18
      refine Tr.exit (At.then_exit (At.then_exit (At.block_hit (At.then_normal ?_))))
      refine Tr.seq ?_
      rw [List.take_of_length_le (show e.add.length ≤ i by omega)]
      refine Tr.region ?_
      refine TrL.move rfl rfl ?_
      refine TrL.field rfl rfl fl25_1 ?_
      refine TrL.load1 rfl rfl sc23 (Sees.cl1 (by repeat (first | with_reducible exact Pick.here | with_reducible apply Pick.there | with_reducible apply Pick.app_nil | with_reducible apply Pick.app_cons)) (by rfl)) ?_
      refine TrL.lenl rfl rfl se23 ?_
      refine TrL.call rfl rfl rfl ca32 .nil (fun Ft58 hUt58 => num_spec (by omega) (by omega) ?_)
      rw [Int.toNat_natCast]
      refine TrL.adds rfl rfl rfl (by simp only [ByteArray.size_append, strOf_size, List.length_append]; omega) ?_
      refine TrL.assign rfl rfl ?_
      refine TrL.nil (At.then_normal ?_)
      refine Tr.seq ?_
      refine Tr.seq ?_
      refine Tr.region ?_
      refine TrL.assign rfl rfl ?_
      refine TrL.nil (At.then_normal ?_)
      refine Tr.block ?_
      rw [strOf_append]
      refine Tr.loopK [1] (α := Nat) (fun j => [(6, .int .i64 (j : Int)), (4, .string (strOf ((putN e.add.length ++ e.add.flatMap tabB ++ putN e.drop.length) ++ (e.drop.take j).flatMap numB)))]) (fun j => []) (fun j => j ≤ e.drop.length) (fun j => e.drop.length - j) (0) (by rfl) ?_ (by (rw [show (putN e.add.length ++ e.add.flatMap tabB ++ putN e.drop.length) ++ (e.drop.take 0).flatMap numB = putN e.add.length ++ e.add.flatMap tabB ++ putN e.drop.length by simp]; repeat (first | exact Sub.nil | refine Sub.cons (by rfl) ?_))) (by repeat (first | exact Picks.nil | with_reducible exact Pick.here | with_reducible apply Pick.there | with_reducible apply Pick.app_nil | with_reducible apply Pick.app_cons | apply Picks.cons)) ?_
      · exact Nat.zero_le _
      rintro j hj
      refine Tr.seq ?_
      refine Tr.seq ?_
      refine Tr.region ?_
      refine TrL.move rfl rfl ?_
      refine TrL.field rfl rfl fl25_1 ?_
      refine TrL.load1 rfl rfl sc23 (Sees.cl1 (by repeat (first | with_reducible exact Pick.here | with_reducible apply Pick.there | with_reducible apply Pick.app_nil | with_reducible apply Pick.app_cons)) (by rfl)) ?_
      refine TrL.lenl rfl rfl se23 ?_
      refine TrL.lss rfl rfl rfl ?_
      refine TrL.nil (At.then_normal ?_)
      refine Tr.cond rfl (fun h64 => ?_) (fun h64 => ?_)
      · try simp only [beq_iff_eq, beq_eq_false_iff_ne, Bool.not_eq_true, Bool.not_eq_false, decide_eq_true_eq, decide_eq_false_iff_not, Bool.not_eq_true', Bool.not_eq_false', bne_iff_ne, Bool.not_eq_eq_eq_not, Bool.not_true, Bool.not_false, ne_eq, Decidable.not_not, Int.not_lt, Int.not_le] at h64
        refine Tr.skip (At.then_normal ?_)
        refine Tr.seq ?_
        refine Tr.block ?_
        have hdj := hdr e.drop[j] (List.getElem_mem _)
        have hdk := hdl j
        have hkd : (e.drop.take j).length ≤ 128 := by simp only [List.length_take]; omega
        have hnb := putN_len e.drop[j].toNat
        refine Tr.region ?_
        refine TrL.move rfl rfl ?_
        refine TrL.field rfl rfl fl25_1 ?_
        refine TrL.load1 rfl rfl sc23 (Sees.cl1 (by repeat (first | with_reducible exact Pick.here | with_reducible apply Pick.there | with_reducible apply Pick.app_nil | with_reducible apply Pick.app_cons)) (by rfl)) ?_
        refine TrL.move rfl rfl ?_
        refine TrL.idxF rfl rfl rfl se23 sz3 (by assumption) rfl rfl rfl (List.getElem?_eq_getElem (by omega)) (fun b71 o71 hp71 hc71 => ?_)
        refine TrL.loadR1 rfl rfl sc3 (Cells.part hc71 (j := 0) rfl) ?_
        refine TrL.call rfl rfl rfl ca32 .nil (fun Ft73 hUt73 => num_spec (by omega) (by omega) ?_)
        refine TrL.adds rfl rfl rfl (by simp only [ByteArray.size_append, strOf_size, List.length_append]; omega) ?_
        refine TrL.assign rfl rfl ?_
        refine TrL.nil (At.block_normal (At.then_normal ?_))
        refine Tr.region ?_
        refine TrL.move rfl rfl ?_
        refine TrL.addI rfl rfl rfl (by omega) ?_
        refine TrL.assign rfl rfl ?_
        refine TrL.nil ?_
        rw [strOf_append]
        have e3 : ((putN e.add.length ++ e.add.flatMap tabB ++ putN e.drop.length) ++ (e.drop.take j).flatMap numB) ++ putN e.drop[j].toNat = (putN e.add.length ++ e.add.flatMap tabB ++ putN e.drop.length) ++ (e.drop.take (j + 1)).flatMap numB := by
          rw [← flat_snoc numB (by omega)]; simp [numB]
        rw [e3]
        refine At.again (j + 1) (by show j + 1 ≤ e.drop.length; omega) (by omega) (by repeat (first | exact Sub.nil | refine Sub.cons (by rfl) ?_)) (by repeat (first | exact Picks.nil | with_reducible exact Pick.here | with_reducible apply Pick.there | with_reducible apply Pick.app_nil | with_reducible apply Pick.app_cons | apply Picks.cons))
      · try simp only [beq_iff_eq, beq_eq_false_iff_ne, Bool.not_eq_true, Bool.not_eq_false, decide_eq_true_eq, decide_eq_false_iff_not, Bool.not_eq_true', Bool.not_eq_false', bne_iff_ne, Bool.not_eq_eq_eq_not, Bool.not_true, Bool.not_false, ne_eq, Decidable.not_not, Int.not_lt, Int.not_le] at h64
        refine Tr.exit (At.then_exit (At.then_exit (At.block_hit (At.then_normal ?_))))
        refine Tr.seq ?_
        rw [List.take_of_length_le (show e.drop.length ≤ j by omega)]
        refine Tr.regionQ mixed (by kernel_rfl) ?_
        refine TrL.move rfl rfl ?_
        refine TrL.field rfl rfl fl25_2 ?_
        refine TrL.load1 rfl rfl sc3 (Sees.cl1 (by repeat (first | with_reducible exact Pick.here | with_reducible apply Pick.there | with_reducible apply Pick.app_nil | with_reducible apply Pick.app_cons)) (by rfl)) ?_
        refine TrL.callQ rfl rfl rfl ca32 (fun Ft78 hUt78 => num_spec (by omega) (by omega) rfl) ?_
        refine TrL.adds rfl rfl rfl (by simp only [ByteArray.size_append, strOf_size, List.length_append]; omega) ?_
        refine TrL.field rfl rfl fl25_3 ?_
        refine TrL.load1 rfl rfl sc3 (Sees.cl1 (by repeat (first | with_reducible exact Pick.here | with_reducible apply Pick.there | with_reducible apply Pick.app_nil | with_reducible apply Pick.app_cons)) (by rfl)) ?_
        refine TrL.callQ rfl rfl rfl ca32 (fun Ft82 hUt82 => num_spec (by omega) (by omega) rfl) ?_
        refine TrL.adds rfl rfl rfl (by simp only [ByteArray.size_append, strOf_size, List.length_append]; omega) ?_
        refine TrL.assign rfl rfl ?_
        refine TrL.assign rfl rfl ?_
        refine TrL.nilQ (At.then_normal ?_)
        refine Tr.ret (At.retP [] (.inl rfl) rfl (Res.tmp rfl (Res.tmp rfl Res.nil)) (by repeat (first | exact Picks.nil | with_reducible exact Pick.here | with_reducible apply Pick.there | with_reducible apply Pick.app_nil | with_reducible apply Pick.app_cons | apply Picks.cons)) (by 
            unfold putS errE at hK
            rw [if_pos hm, if_pos hm] at hK
            have e2 : strOf (putN e.add.length ++ e.add.flatMap tabB ++ putN e.drop.length ++ e.drop.flatMap numB) ++ strOf (putN e.log.toNat) ++ strOf (putN e.next.toNat) = strOf (putE e) := by rw [strOf_append, strOf_append]; rfl
            rw [← e2] at hK
            exact hK))

theorem SameTabs_spec {F : Hp} {K : Value → List HProp → Prop} {pa pb : Option Addr} {ca cb : Nat} {a b : List Tab} (hA : SlIn F encT 4 pa a) (hB : SlIn F encT 4 pb b) (hl : a.length ≤ 9223372036854775807) (hK : ∀ r : Bool, (r = true ↔ a = b) → K (.bool r) []) : CallK Try.prog F 21 #[.slice pa a.length ca, .slice pb b.length cb] [] K := by
  refine CallK.enter Try.func21 rfl Try.ntmps21 rfl ?_
  refine Tr.seq ?_
  refine Tr.region ?_
  refine TrL.assign rfl rfl ?_
  refine TrL.nil (At.then_normal ?_)
  refine Tr.seq ?_
  refine Tr.seq ?_
  refine Tr.region ?_
  refine TrL.move rfl rfl ?_
  refine TrL.lenl rfl rfl se22 ?_
  refine TrL.move rfl rfl ?_
  refine TrL.lenl rfl rfl se22 ?_
  refine TrL.nei rfl rfl rfl ?_
  refine TrL.nil (At.then_normal ?_)
  refine Tr.cond rfl (fun h10 => ?_) (fun h10 => ?_)
  · try simp only [beq_iff_eq, beq_eq_false_iff_ne, Bool.not_eq_true, Bool.not_eq_false, decide_eq_true_eq, decide_eq_false_iff_not, Bool.not_eq_true', Bool.not_eq_false', bne_iff_ne, Bool.not_eq_eq_eq_not, Bool.not_true, Bool.not_false, ne_eq, Decidable.not_not, Int.not_lt, Int.not_le] at h10
    refine Tr.seq ?_
    refine Tr.region ?_
    refine TrL.assign rfl rfl ?_
    refine TrL.nil (At.then_normal ?_)
    refine Tr.ret (At.then_ret (At.retP [] (.inl rfl) rfl (Res.tmp rfl Res.nil) (by repeat (first | exact Picks.nil | with_reducible exact Pick.here | with_reducible apply Pick.there | with_reducible apply Pick.app_nil | with_reducible apply Pick.app_cons | apply Picks.cons)) (by 
        refine hK _ ⟨fun h => by simp at h, fun h => ?_⟩
        subst h; omega)))
  · try simp only [beq_iff_eq, beq_eq_false_iff_ne, Bool.not_eq_true, Bool.not_eq_false, decide_eq_true_eq, decide_eq_false_iff_not, Bool.not_eq_true', Bool.not_eq_false', bne_iff_ne, Bool.not_eq_eq_eq_not, Bool.not_true, Bool.not_false, ne_eq, Decidable.not_not, Int.not_lt, Int.not_le] at h10
    refine Tr.skip (At.then_normal ?_)
    refine Tr.seq ?_
    refine Tr.seq ?_
    refine Tr.region ?_
    refine TrL.assign rfl rfl ?_
    refine TrL.nil (At.then_normal ?_)
    refine Tr.block ?_
    refine Tr.loopK [0, 1] (α := Nat) (fun i => [(5, .int .i64 (i : Int))]) (fun i => []) (fun i => i ≤ a.length ∧ a.take i = b.take i) (fun i => a.length - i) (0) (by rfl) ?_ (by repeat (first | exact Sub.nil | refine Sub.cons (by rfl) ?_)) (by repeat (first | exact Picks.nil | with_reducible exact Pick.here | with_reducible apply Pick.there | with_reducible apply Pick.app_nil | with_reducible apply Pick.app_cons | apply Picks.cons)) ?_
    · exact ⟨Nat.zero_le _, by simp⟩
    rintro i ⟨hi, hall⟩
    refine Tr.seq ?_
    refine Tr.seq ?_
    refine Tr.region ?_
    refine TrL.move rfl rfl ?_
    refine TrL.move rfl rfl ?_
    refine TrL.lenl rfl rfl se22 ?_
    refine TrL.lss rfl rfl rfl ?_
    refine TrL.nil (At.then_normal ?_)
    refine Tr.cond rfl (fun h14 => ?_) (fun h14 => ?_)
    · try simp only [beq_iff_eq, beq_eq_false_iff_ne, Bool.not_eq_true, Bool.not_eq_false, decide_eq_true_eq, decide_eq_false_iff_not, Bool.not_eq_true', Bool.not_eq_false', bne_iff_ne, Bool.not_eq_eq_eq_not, Bool.not_true, Bool.not_false, ne_eq, Decidable.not_not, Int.not_lt, Int.not_le] at h14
      refine Tr.skip (At.then_normal ?_)
      refine Tr.seq ?_
      refine Tr.block ?_
      refine Tr.seq ?_
      refine Tr.regionQ mixed (by kernel_rfl) ?_
      refine TrL.move rfl rfl ?_
      refine TrL.move rfl rfl ?_
      refine TrL.idxF rfl rfl rfl se22 sz46 hA rfl rfl rfl (List.getElem?_eq_getElem (by omega)) (fun b19 o19 hp19 hc19 => ?_)
      refine TrL.loadRA rfl rfl ag46 sz46 (by assumption) (by rfl) ?_
      refine TrL.move rfl rfl ?_
      refine TrL.move rfl rfl ?_
      refine TrL.idxF rfl rfl rfl se22 sz46 hB rfl rfl rfl (List.getElem?_eq_getElem (by omega)) (fun b23 o23 hp23 hc23 => ?_)
      refine TrL.loadRA rfl rfl ag46 sz46 (by assumption) (by rfl) ?_
      refine TrL.neS rfl rfl rfl fk46 si46 eg46 (by rfl) ?_
      refine TrL.nilQ (At.then_normal ?_)
      refine Tr.cond rfl (fun h25 => ?_) (fun h25 => ?_)
      · try simp only [beq_iff_eq, beq_eq_false_iff_ne, Bool.not_eq_true, Bool.not_eq_false, decide_eq_true_eq, decide_eq_false_iff_not, Bool.not_eq_true', Bool.not_eq_false', bne_iff_ne, Bool.not_eq_eq_eq_not, Bool.not_true, Bool.not_false, ne_eq, Decidable.not_not, Int.not_lt, Int.not_le] at h25
        refine Tr.seq ?_
        refine Tr.region ?_
        refine TrL.assign rfl rfl ?_
        refine TrL.nil (At.then_normal ?_)
        refine Tr.ret (At.block_ret (At.then_ret (At.then_ret (At.block_ret (At.then_ret (At.retP [] (.inl rfl) rfl (Res.tmp rfl Res.nil) (by repeat (first | exact Picks.nil | with_reducible exact Pick.here | with_reducible apply Pick.there | with_reducible apply Pick.app_nil | with_reducible apply Pick.app_cons | apply Picks.cons)) (by 
            refine hK _ ⟨fun h => by simp at h, fun h => ?_⟩
            subst h; simp at h25)))))))
      · try simp only [beq_iff_eq, beq_eq_false_iff_ne, Bool.not_eq_true, Bool.not_eq_false, decide_eq_true_eq, decide_eq_false_iff_not, Bool.not_eq_true', Bool.not_eq_false', bne_iff_ne, Bool.not_eq_eq_eq_not, Bool.not_true, Bool.not_false, ne_eq, Decidable.not_not, Int.not_lt, Int.not_le] at h25
        refine Tr.skip (At.block_normal (At.then_normal ?_))
        refine Tr.region ?_
        refine TrL.move rfl rfl ?_
        refine TrL.addI rfl rfl rfl (by omega) ?_
        refine TrL.assign rfl rfl ?_
        refine TrL.nil ?_
        refine At.again (i + 1) ⟨by omega, ?_⟩ (by omega) (by repeat (first | exact Sub.nil | refine Sub.cons (by rfl) ?_)) (by repeat (first | exact Picks.nil | with_reducible exact Pick.here | with_reducible apply Pick.there | with_reducible apply Pick.app_nil | with_reducible apply Pick.app_cons | apply Picks.cons))
        rw [List.take_succ_eq_append_getElem (show i < a.length by omega), List.take_succ_eq_append_getElem (show i < b.length by omega), hall]
        have : a[i] = b[i] := by (simp only [Bool.and_eq_true, decide_eq_true_eq] at h25; exact Tab.eq h25.1 h25.2.1 h25.2.2.1 h25.2.2.2.1)
        rw [this]
    · try simp only [beq_iff_eq, beq_eq_false_iff_ne, Bool.not_eq_true, Bool.not_eq_false, decide_eq_true_eq, decide_eq_false_iff_not, Bool.not_eq_true', Bool.not_eq_false', bne_iff_ne, Bool.not_eq_eq_eq_not, Bool.not_true, Bool.not_false, ne_eq, Decidable.not_not, Int.not_lt, Int.not_le] at h14
      refine Tr.exit (At.then_exit (At.then_exit (At.block_hit (At.then_normal ?_))))
      refine Tr.seq ?_
      refine Tr.region ?_
      refine TrL.assign rfl rfl ?_
      refine TrL.nil (At.then_normal ?_)
      refine Tr.ret (At.retP [] (.inl rfl) rfl (Res.tmp rfl Res.nil) (by repeat (first | exact Picks.nil | with_reducible exact Pick.here | with_reducible apply Pick.there | with_reducible apply Pick.app_nil | with_reducible apply Pick.app_cons | apply Picks.cons)) (by 
          refine hK _ ⟨fun _ => ?_, fun _ => rfl⟩
          rw [List.take_of_length_le (by omega), List.take_of_length_le (by omega)] at hall
          exact hall))

theorem SameInts_spec {F : Hp} {K : Value → List HProp → Prop} {pa pb : Option Addr} {ca cb : Nat} {a b : List Int} (hA : SlIn F encI 1 pa a) (hB : SlIn F encI 1 pb b) (hl : a.length ≤ 9223372036854775807) (hK : ∀ r : Bool, (r = true ↔ a = b) → K (.bool r) []) : CallK Try.prog F 43 #[.slice pa a.length ca, .slice pb b.length cb] [] K := by
  refine CallK.enter Try.func43 rfl Try.ntmps43 rfl ?_
  refine Tr.seq ?_
  refine Tr.region ?_
  refine TrL.assign rfl rfl ?_
  refine TrL.nil (At.then_normal ?_)
  refine Tr.seq ?_
  refine Tr.seq ?_
  refine Tr.region ?_
  refine TrL.move rfl rfl ?_
  refine TrL.lenl rfl rfl se23 ?_
  refine TrL.move rfl rfl ?_
  refine TrL.lenl rfl rfl se23 ?_
  refine TrL.nei rfl rfl rfl ?_
  refine TrL.nil (At.then_normal ?_)
  refine Tr.cond rfl (fun h10 => ?_) (fun h10 => ?_)
  · try simp only [beq_iff_eq, beq_eq_false_iff_ne, Bool.not_eq_true, Bool.not_eq_false, decide_eq_true_eq, decide_eq_false_iff_not, Bool.not_eq_true', Bool.not_eq_false', bne_iff_ne, Bool.not_eq_eq_eq_not, Bool.not_true, Bool.not_false, ne_eq, Decidable.not_not, Int.not_lt, Int.not_le] at h10
    refine Tr.seq ?_
    refine Tr.region ?_
    refine TrL.assign rfl rfl ?_
    refine TrL.nil (At.then_normal ?_)
    refine Tr.ret (At.then_ret (At.retP [] (.inl rfl) rfl (Res.tmp rfl Res.nil) (by repeat (first | exact Picks.nil | with_reducible exact Pick.here | with_reducible apply Pick.there | with_reducible apply Pick.app_nil | with_reducible apply Pick.app_cons | apply Picks.cons)) (by 
        refine hK _ ⟨fun h => by simp at h, fun h => ?_⟩
        subst h; omega)))
  · try simp only [beq_iff_eq, beq_eq_false_iff_ne, Bool.not_eq_true, Bool.not_eq_false, decide_eq_true_eq, decide_eq_false_iff_not, Bool.not_eq_true', Bool.not_eq_false', bne_iff_ne, Bool.not_eq_eq_eq_not, Bool.not_true, Bool.not_false, ne_eq, Decidable.not_not, Int.not_lt, Int.not_le] at h10
    refine Tr.skip (At.then_normal ?_)
    refine Tr.seq ?_
    refine Tr.seq ?_
    refine Tr.region ?_
    refine TrL.assign rfl rfl ?_
    refine TrL.nil (At.then_normal ?_)
    refine Tr.block ?_
    refine Tr.loopK [0, 1] (α := Nat) (fun i => [(5, .int .i64 (i : Int))]) (fun i => []) (fun i => i ≤ a.length ∧ a.take i = b.take i) (fun i => a.length - i) (0) (by rfl) ?_ (by repeat (first | exact Sub.nil | refine Sub.cons (by rfl) ?_)) (by repeat (first | exact Picks.nil | with_reducible exact Pick.here | with_reducible apply Pick.there | with_reducible apply Pick.app_nil | with_reducible apply Pick.app_cons | apply Picks.cons)) ?_
    · exact ⟨Nat.zero_le _, by simp⟩
    rintro i ⟨hi, hall⟩
    refine Tr.seq ?_
    refine Tr.seq ?_
    refine Tr.region ?_
    refine TrL.move rfl rfl ?_
    refine TrL.move rfl rfl ?_
    refine TrL.lenl rfl rfl se23 ?_
    refine TrL.lss rfl rfl rfl ?_
    refine TrL.nil (At.then_normal ?_)
    refine Tr.cond rfl (fun h14 => ?_) (fun h14 => ?_)
    · try simp only [beq_iff_eq, beq_eq_false_iff_ne, Bool.not_eq_true, Bool.not_eq_false, decide_eq_true_eq, decide_eq_false_iff_not, Bool.not_eq_true', Bool.not_eq_false', bne_iff_ne, Bool.not_eq_eq_eq_not, Bool.not_true, Bool.not_false, ne_eq, Decidable.not_not, Int.not_lt, Int.not_le] at h14
      refine Tr.skip (At.then_normal ?_)
      refine Tr.seq ?_
      refine Tr.block ?_
      refine Tr.seq ?_
      refine Tr.regionQ mixed (by kernel_rfl) ?_
      refine TrL.move rfl rfl ?_
      refine TrL.move rfl rfl ?_
      refine TrL.idxF rfl rfl rfl se23 sz3 hA rfl rfl rfl (List.getElem?_eq_getElem (by omega)) (fun b19 o19 hp19 hc19 => ?_)
      refine TrL.loadR1 rfl rfl sc3 (Cells.part hc19 (j := 0) rfl) ?_
      refine TrL.move rfl rfl ?_
      refine TrL.move rfl rfl ?_
      refine TrL.idxF rfl rfl rfl se23 sz3 hB rfl rfl rfl (List.getElem?_eq_getElem (by omega)) (fun b23 o23 hp23 hc23 => ?_)
      refine TrL.loadR1 rfl rfl sc3 (Cells.part hc23 (j := 0) rfl) ?_
      refine TrL.nei rfl rfl rfl ?_
      refine TrL.nilQ (At.then_normal ?_)
      refine Tr.cond rfl (fun h25 => ?_) (fun h25 => ?_)
      · try simp only [beq_iff_eq, beq_eq_false_iff_ne, Bool.not_eq_true, Bool.not_eq_false, decide_eq_true_eq, decide_eq_false_iff_not, Bool.not_eq_true', Bool.not_eq_false', bne_iff_ne, Bool.not_eq_eq_eq_not, Bool.not_true, Bool.not_false, ne_eq, Decidable.not_not, Int.not_lt, Int.not_le] at h25
        refine Tr.seq ?_
        refine Tr.region ?_
        refine TrL.assign rfl rfl ?_
        refine TrL.nil (At.then_normal ?_)
        refine Tr.ret (At.block_ret (At.then_ret (At.then_ret (At.block_ret (At.then_ret (At.retP [] (.inl rfl) rfl (Res.tmp rfl Res.nil) (by repeat (first | exact Picks.nil | with_reducible exact Pick.here | with_reducible apply Pick.there | with_reducible apply Pick.app_nil | with_reducible apply Pick.app_cons | apply Picks.cons)) (by 
            refine hK _ ⟨fun h => by simp at h, fun h => ?_⟩
            subst h; simp at h25)))))))
      · try simp only [beq_iff_eq, beq_eq_false_iff_ne, Bool.not_eq_true, Bool.not_eq_false, decide_eq_true_eq, decide_eq_false_iff_not, Bool.not_eq_true', Bool.not_eq_false', bne_iff_ne, Bool.not_eq_eq_eq_not, Bool.not_true, Bool.not_false, ne_eq, Decidable.not_not, Int.not_lt, Int.not_le] at h25
        refine Tr.skip (At.block_normal (At.then_normal ?_))
        refine Tr.region ?_
        refine TrL.move rfl rfl ?_
        refine TrL.addI rfl rfl rfl (by omega) ?_
        refine TrL.assign rfl rfl ?_
        refine TrL.nil ?_
        refine At.again (i + 1) ⟨by omega, ?_⟩ (by omega) (by repeat (first | exact Sub.nil | refine Sub.cons (by rfl) ?_)) (by repeat (first | exact Picks.nil | with_reducible exact Pick.here | with_reducible apply Pick.there | with_reducible apply Pick.app_nil | with_reducible apply Pick.app_cons | apply Picks.cons))
        rw [List.take_succ_eq_append_getElem (show i < a.length by omega), List.take_succ_eq_append_getElem (show i < b.length by omega), hall]
        have : a[i] = b[i] := h25
        rw [this]
    · try simp only [beq_iff_eq, beq_eq_false_iff_ne, Bool.not_eq_true, Bool.not_eq_false, decide_eq_true_eq, decide_eq_false_iff_not, Bool.not_eq_true', Bool.not_eq_false', bne_iff_ne, Bool.not_eq_eq_eq_not, Bool.not_true, Bool.not_false, ne_eq, Decidable.not_not, Int.not_lt, Int.not_le] at h14
      refine Tr.exit (At.then_exit (At.then_exit (At.block_hit (At.then_normal ?_))))
      refine Tr.seq ?_
      refine Tr.region ?_
      refine TrL.assign rfl rfl ?_
      refine TrL.nil (At.then_normal ?_)
      refine Tr.ret (At.retP [] (.inl rfl) rfl (Res.tmp rfl Res.nil) (by repeat (first | exact Picks.nil | with_reducible exact Pick.here | with_reducible apply Pick.there | with_reducible apply Pick.app_nil | with_reducible apply Pick.app_cons | apply Picks.cons)) (by 
          refine hK _ ⟨fun _ => ?_, fun _ => rfl⟩
          rw [List.take_of_length_le (by omega), List.take_of_length_le (by omega)] at hall
          exact hall))

theorem Ed.eq {a b : Ed} (h1 : a.add = b.add) (h2 : a.drop = b.drop) (h3 : a.log = b.log) (h4 : a.next = b.next) : a = b := by cases a; cases b; simp_all
theorem Sta.eq {a b : Sta} (h1 : a.tabs = b.tabs) (h3 : a.log = b.log) (h4 : a.next = b.next) : a = b := by cases a; cases b; simp_all
theorem SameEdit_spec {F : Hp} {K : Value → List HProp → Prop} {pa pa2 pd pd2 : Option Addr} {ca ca2 cd cd2 : Nat} {a b : Ed} (hA : SlIn F encT 4 pa a.add) (hB : SlIn F encT 4 pa2 b.add) (hD : SlIn F encI 1 pd a.drop) (hE : SlIn F encI 1 pd2 b.drop) (hl : a.add.length ≤ 9223372036854775807) (hl2 : a.drop.length ≤ 9223372036854775807) (hK : ∀ r : Bool, (r = true ↔ a = b) → K (.bool r) []) : CallK Try.prog F 15 #[.agg (edC pa ca pd cd a).toArray, .agg (edC pa2 ca2 pd2 cd2 b).toArray] [] K := by
  refine CallK.enter Try.func15 rfl Try.ntmps15 rfl ?_
  refine Tr.seq ?_
  refine Tr.region ?_
  refine TrL.boxA rfl rfl (fun b2 => ?_)
  refine TrL.boxA rfl rfl (fun b3 => ?_)
  refine TrL.assign rfl rfl ?_
  refine TrL.nil (At.then_normal ?_)
  refine Tr.seq ?_
  refine Tr.region ?_
  refine TrL.field0 rfl rfl fl25_0 ?_
  refine TrL.load1 rfl rfl sc22 (Sees.cl1 (by repeat (first | with_reducible exact Pick.here | with_reducible apply Pick.there | with_reducible apply Pick.app_nil | with_reducible apply Pick.app_cons)) (by rfl)) ?_
  refine TrL.field0 rfl rfl fl25_0 ?_
  refine TrL.load1 rfl rfl sc22 (Sees.cl1 (by repeat (first | with_reducible exact Pick.here | with_reducible apply Pick.there | with_reducible apply Pick.app_nil | with_reducible apply Pick.app_cons)) (by rfl)) ?_
  refine TrL.call rfl rfl rfl ca21 .nil (fun Ft9 hUt9 => SameTabs_spec (hUt9.ro (SlIn.mono _ _ _ _) hA) (hUt9.ro (SlIn.mono _ _ _ _) hB) hl (fun r1 hr1 => ?_))
  refine TrL.move rfl rfl ?_
  refine TrL.cases (t := 10) rfl (fun h10 => ?_) (fun h10 => ?_)
  · try simp only [beq_iff_eq, beq_eq_false_iff_ne, Bool.not_eq_true, Bool.not_eq_false, decide_eq_true_eq, decide_eq_false_iff_not, Bool.not_eq_true', Bool.not_eq_false', bne_iff_ne, Bool.not_eq_eq_eq_not, Bool.not_true, Bool.not_false, ne_eq, Decidable.not_not, Int.not_lt, Int.not_le] at h10
    refine TrL.want rfl rfl ?_
    refine TrL.field rfl rfl fl25_1 ?_
    refine TrL.want rfl rfl ?_
    refine TrL.load1 rfl rfl sc23 (Sees.cl1 (by repeat (first | with_reducible exact Pick.here | with_reducible apply Pick.there | with_reducible apply Pick.app_nil | with_reducible apply Pick.app_cons)) (by rfl)) ?_
    refine TrL.want rfl rfl ?_
    refine TrL.field rfl rfl fl25_1 ?_
    refine TrL.want rfl rfl ?_
    refine TrL.load1 rfl rfl sc23 (Sees.cl1 (by repeat (first | with_reducible exact Pick.here | with_reducible apply Pick.there | with_reducible apply Pick.app_nil | with_reducible apply Pick.app_cons)) (by rfl)) ?_
    refine TrL.want rfl rfl ?_
    refine TrL.call rfl rfl rfl ca43 .nil (fun Ft15 hUt15 => SameInts_spec (hUt15.ro (SlIn.mono _ _ _ _) hD) (hUt15.ro (SlIn.mono _ _ _ _) hE) hl2 (fun r2 hr2 => ?_))
    refine TrL.pickT rfl rfl rfl ?_
    refine TrL.move rfl rfl ?_
    refine TrL.cases (t := 17) rfl (fun h17 => ?_) (fun h17 => ?_)
    · try simp only [beq_iff_eq, beq_eq_false_iff_ne, Bool.not_eq_true, Bool.not_eq_false, decide_eq_true_eq, decide_eq_false_iff_not, Bool.not_eq_true', Bool.not_eq_false', bne_iff_ne, Bool.not_eq_eq_eq_not, Bool.not_true, Bool.not_false, ne_eq, Decidable.not_not, Int.not_lt, Int.not_le] at h17
      refine TrL.want rfl rfl ?_
      refine TrL.field rfl rfl fl25_2 ?_
      refine TrL.want rfl rfl ?_
      refine TrL.load1 rfl rfl sc3 (Sees.cl1 (by repeat (first | with_reducible exact Pick.here | with_reducible apply Pick.there | with_reducible apply Pick.app_nil | with_reducible apply Pick.app_cons)) (by rfl)) ?_
      refine TrL.want rfl rfl ?_
      refine TrL.field rfl rfl fl25_2 ?_
      refine TrL.want rfl rfl ?_
      refine TrL.load1 rfl rfl sc3 (Sees.cl1 (by repeat (first | with_reducible exact Pick.here | with_reducible apply Pick.there | with_reducible apply Pick.app_nil | with_reducible apply Pick.app_cons)) (by rfl)) ?_
      refine TrL.want rfl rfl ?_
      refine TrL.eqi rfl rfl rfl ?_
      refine TrL.pickT rfl rfl rfl ?_
      refine TrL.move rfl rfl ?_
      refine TrL.cases (t := 24) rfl (fun h24 => ?_) (fun h24 => ?_)
      · try simp only [beq_iff_eq, beq_eq_false_iff_ne, Bool.not_eq_true, Bool.not_eq_false, decide_eq_true_eq, decide_eq_false_iff_not, Bool.not_eq_true', Bool.not_eq_false', bne_iff_ne, Bool.not_eq_eq_eq_not, Bool.not_true, Bool.not_false, ne_eq, Decidable.not_not, Int.not_lt, Int.not_le] at h24
        refine TrL.want rfl rfl ?_
        refine TrL.field rfl rfl fl25_3 ?_
        refine TrL.want rfl rfl ?_
        refine TrL.load1 rfl rfl sc3 (Sees.cl1 (by repeat (first | with_reducible exact Pick.here | with_reducible apply Pick.there | with_reducible apply Pick.app_nil | with_reducible apply Pick.app_cons)) (by rfl)) ?_
        refine TrL.want rfl rfl ?_
        refine TrL.field rfl rfl fl25_3 ?_
        refine TrL.want rfl rfl ?_
        refine TrL.load1 rfl rfl sc3 (Sees.cl1 (by repeat (first | with_reducible exact Pick.here | with_reducible apply Pick.there | with_reducible apply Pick.app_nil | with_reducible apply Pick.app_cons)) (by rfl)) ?_
        refine TrL.want rfl rfl ?_
        refine TrL.eqi rfl rfl rfl ?_
        refine TrL.pickT rfl rfl rfl ?_
        refine TrL.assign rfl rfl ?_
        refine TrL.nil (At.then_normal ?_)
        refine Tr.ret (At.retP [] (.inl rfl) rfl (Res.tmp rfl Res.nil) (by repeat (first | exact Picks.nil | with_reducible exact Pick.here | with_reducible apply Pick.there | with_reducible apply Pick.app_nil | with_reducible apply Pick.app_cons | apply Picks.cons)) (by 
            refine hK _ ⟨fun h => ?_, fun h => ?_⟩
            · (first | (exact Ed.eq (hr1.1 (by assumption)) (hr2.1 (by assumption)) (by assumption) (by simpa using h)) | simp_all)
            · subst h; simp_all))
      · try simp only [beq_iff_eq, beq_eq_false_iff_ne, Bool.not_eq_true, Bool.not_eq_false, decide_eq_true_eq, decide_eq_false_iff_not, Bool.not_eq_true', Bool.not_eq_false', bne_iff_ne, Bool.not_eq_eq_eq_not, Bool.not_true, Bool.not_false, ne_eq, Decidable.not_not, Int.not_lt, Int.not_le] at h24
        refine TrL.unwant rfl rfl rfl ?_
        refine TrL.unwant rfl rfl rfl ?_
        refine TrL.unwant rfl rfl rfl ?_
        refine TrL.unwant rfl rfl rfl ?_
        refine TrL.unwant rfl rfl rfl ?_
        refine TrL.pickF rfl rfl rfl ?_
        refine TrL.assign rfl rfl ?_
        refine TrL.nil (At.then_normal ?_)
        refine Tr.ret (At.retP [] (.inl rfl) rfl (Res.tmp rfl Res.nil) (by repeat (first | exact Picks.nil | with_reducible exact Pick.here | with_reducible apply Pick.there | with_reducible apply Pick.app_nil | with_reducible apply Pick.app_cons | apply Picks.cons)) (by 
            refine hK _ ⟨fun h => ?_, fun h => ?_⟩
            · (first | (exact Ed.eq (hr1.1 (by assumption)) (hr2.1 (by assumption)) (by assumption) (by simpa using h)) | simp_all)
            · subst h; simp_all))
    · try simp only [beq_iff_eq, beq_eq_false_iff_ne, Bool.not_eq_true, Bool.not_eq_false, decide_eq_true_eq, decide_eq_false_iff_not, Bool.not_eq_true', Bool.not_eq_false', bne_iff_ne, Bool.not_eq_eq_eq_not, Bool.not_true, Bool.not_false, ne_eq, Decidable.not_not, Int.not_lt, Int.not_le] at h17
      refine TrL.unwant rfl rfl rfl ?_
      refine TrL.unwant rfl rfl rfl ?_
      refine TrL.unwant rfl rfl rfl ?_
      refine TrL.unwant rfl rfl rfl ?_
      refine TrL.unwant rfl rfl rfl ?_
      refine TrL.pickF rfl rfl rfl ?_
      refine TrL.move rfl rfl ?_
      refine TrL.unwant rfl rfl rfl ?_
      refine TrL.unwant rfl rfl rfl ?_
      refine TrL.unwant rfl rfl rfl ?_
      refine TrL.unwant rfl rfl rfl ?_
      refine TrL.unwant rfl rfl rfl ?_
      refine TrL.pickF rfl rfl rfl ?_
      refine TrL.assign rfl rfl ?_
      refine TrL.nil (At.then_normal ?_)
      refine Tr.ret (At.retP [] (.inl rfl) rfl (Res.tmp rfl Res.nil) (by repeat (first | exact Picks.nil | with_reducible exact Pick.here | with_reducible apply Pick.there | with_reducible apply Pick.app_nil | with_reducible apply Pick.app_cons | apply Picks.cons)) (by 
          refine hK _ ⟨fun h => ?_, fun h => ?_⟩
          · (first | (exact Ed.eq (hr1.1 (by assumption)) (hr2.1 (by assumption)) (by assumption) (by simpa using h)) | simp_all)
          · subst h; simp_all))
  · try simp only [beq_iff_eq, beq_eq_false_iff_ne, Bool.not_eq_true, Bool.not_eq_false, decide_eq_true_eq, decide_eq_false_iff_not, Bool.not_eq_true', Bool.not_eq_false', bne_iff_ne, Bool.not_eq_eq_eq_not, Bool.not_true, Bool.not_false, ne_eq, Decidable.not_not, Int.not_lt, Int.not_le] at h10
    refine TrL.unwant rfl rfl rfl ?_
    refine TrL.unwant rfl rfl rfl ?_
    refine TrL.unwant rfl rfl rfl ?_
    refine TrL.unwant rfl rfl rfl ?_
    refine TrL.unwant rfl rfl rfl ?_
    refine TrL.pickF rfl rfl rfl ?_
    refine TrL.move rfl rfl ?_
    refine TrL.unwant rfl rfl rfl ?_
    refine TrL.unwant rfl rfl rfl ?_
    refine TrL.unwant rfl rfl rfl ?_
    refine TrL.unwant rfl rfl rfl ?_
    refine TrL.unwant rfl rfl rfl ?_
    refine TrL.pickF rfl rfl rfl ?_
    refine TrL.move rfl rfl ?_
    refine TrL.unwant rfl rfl rfl ?_
    refine TrL.unwant rfl rfl rfl ?_
    refine TrL.unwant rfl rfl rfl ?_
    refine TrL.unwant rfl rfl rfl ?_
    refine TrL.unwant rfl rfl rfl ?_
    refine TrL.pickF rfl rfl rfl ?_
    refine TrL.assign rfl rfl ?_
    refine TrL.nil (At.then_normal ?_)
    refine Tr.ret (At.retP [] (.inl rfl) rfl (Res.tmp rfl Res.nil) (by repeat (first | exact Picks.nil | with_reducible exact Pick.here | with_reducible apply Pick.there | with_reducible apply Pick.app_nil | with_reducible apply Pick.app_cons | apply Picks.cons)) (by 
        refine hK _ ⟨fun h => ?_, fun h => ?_⟩
        · (first | (exact Ed.eq (hr1.1 (by assumption)) (hr2.1 (by assumption)) (by assumption) (by simpa using h)) | simp_all)
        · subst h; simp_all))

theorem Same_spec {F : Hp} {K : Value → List HProp → Prop} {pa pb : Option Addr} {ca cb : Nat} {a b : Sta} (hA : SlIn F encT 4 pa a.tabs) (hB : SlIn F encT 4 pb b.tabs) (hl : a.tabs.length ≤ 9223372036854775807) (hK : ∀ r : Bool, (r = true ↔ a = b) → K (.bool r) []) : CallK Try.prog F 20 #[.agg (stC pa ca a).toArray, .agg (stC pb cb b).toArray] [] K := by
  refine CallK.enter Try.func20 rfl Try.ntmps20 rfl ?_
  refine Tr.seq ?_
  refine Tr.region ?_
  refine TrL.boxA rfl rfl (fun b2 => ?_)
  refine TrL.boxA rfl rfl (fun b3 => ?_)
  refine TrL.assign rfl rfl ?_
  refine TrL.nil (At.then_normal ?_)
  refine Tr.seq ?_
  refine Tr.region ?_
  refine TrL.field0 rfl rfl fl38_0 ?_
  refine TrL.load1 rfl rfl sc22 (Sees.cl1 (by repeat (first | with_reducible exact Pick.here | with_reducible apply Pick.there | with_reducible apply Pick.app_nil | with_reducible apply Pick.app_cons)) (by rfl)) ?_
  refine TrL.field0 rfl rfl fl38_0 ?_
  refine TrL.load1 rfl rfl sc22 (Sees.cl1 (by repeat (first | with_reducible exact Pick.here | with_reducible apply Pick.there | with_reducible apply Pick.app_nil | with_reducible apply Pick.app_cons)) (by rfl)) ?_
  refine TrL.call rfl rfl rfl ca21 .nil (fun Ft9 hUt9 => SameTabs_spec (hUt9.ro (SlIn.mono _ _ _ _) hA) (hUt9.ro (SlIn.mono _ _ _ _) hB) hl (fun r1 hr1 => ?_))
  refine TrL.move rfl rfl ?_
  refine TrL.cases (t := 10) rfl (fun h10 => ?_) (fun h10 => ?_)
  · try simp only [beq_iff_eq, beq_eq_false_iff_ne, Bool.not_eq_true, Bool.not_eq_false, decide_eq_true_eq, decide_eq_false_iff_not, Bool.not_eq_true', Bool.not_eq_false', bne_iff_ne, Bool.not_eq_eq_eq_not, Bool.not_true, Bool.not_false, ne_eq, Decidable.not_not, Int.not_lt, Int.not_le] at h10
    refine TrL.want rfl rfl ?_
    refine TrL.field rfl rfl fl38_1 ?_
    refine TrL.want rfl rfl ?_
    refine TrL.load1 rfl rfl sc3 (Sees.cl1 (by repeat (first | with_reducible exact Pick.here | with_reducible apply Pick.there | with_reducible apply Pick.app_nil | with_reducible apply Pick.app_cons)) (by rfl)) ?_
    refine TrL.want rfl rfl ?_
    refine TrL.field rfl rfl fl38_1 ?_
    refine TrL.want rfl rfl ?_
    refine TrL.load1 rfl rfl sc3 (Sees.cl1 (by repeat (first | with_reducible exact Pick.here | with_reducible apply Pick.there | with_reducible apply Pick.app_nil | with_reducible apply Pick.app_cons)) (by rfl)) ?_
    refine TrL.want rfl rfl ?_
    refine TrL.eqi rfl rfl rfl ?_
    refine TrL.pickT rfl rfl rfl ?_
    refine TrL.move rfl rfl ?_
    refine TrL.cases (t := 17) rfl (fun h17 => ?_) (fun h17 => ?_)
    · try simp only [beq_iff_eq, beq_eq_false_iff_ne, Bool.not_eq_true, Bool.not_eq_false, decide_eq_true_eq, decide_eq_false_iff_not, Bool.not_eq_true', Bool.not_eq_false', bne_iff_ne, Bool.not_eq_eq_eq_not, Bool.not_true, Bool.not_false, ne_eq, Decidable.not_not, Int.not_lt, Int.not_le] at h17
      refine TrL.want rfl rfl ?_
      refine TrL.field rfl rfl fl38_2 ?_
      refine TrL.want rfl rfl ?_
      refine TrL.load1 rfl rfl sc3 (Sees.cl1 (by repeat (first | with_reducible exact Pick.here | with_reducible apply Pick.there | with_reducible apply Pick.app_nil | with_reducible apply Pick.app_cons)) (by rfl)) ?_
      refine TrL.want rfl rfl ?_
      refine TrL.field rfl rfl fl38_2 ?_
      refine TrL.want rfl rfl ?_
      refine TrL.load1 rfl rfl sc3 (Sees.cl1 (by repeat (first | with_reducible exact Pick.here | with_reducible apply Pick.there | with_reducible apply Pick.app_nil | with_reducible apply Pick.app_cons)) (by rfl)) ?_
      refine TrL.want rfl rfl ?_
      refine TrL.eqi rfl rfl rfl ?_
      refine TrL.pickT rfl rfl rfl ?_
      refine TrL.assign rfl rfl ?_
      refine TrL.nil (At.then_normal ?_)
      refine Tr.ret (At.retP [] (.inl rfl) rfl (Res.tmp rfl Res.nil) (by repeat (first | exact Picks.nil | with_reducible exact Pick.here | with_reducible apply Pick.there | with_reducible apply Pick.app_nil | with_reducible apply Pick.app_cons | apply Picks.cons)) (by 
          refine hK _ ⟨fun h => ?_, fun h => ?_⟩
          · (first | (exact Sta.eq (hr1.1 (by assumption)) (by assumption) (by simpa using h)) | simp_all)
          · subst h; simp_all))
    · try simp only [beq_iff_eq, beq_eq_false_iff_ne, Bool.not_eq_true, Bool.not_eq_false, decide_eq_true_eq, decide_eq_false_iff_not, Bool.not_eq_true', Bool.not_eq_false', bne_iff_ne, Bool.not_eq_eq_eq_not, Bool.not_true, Bool.not_false, ne_eq, Decidable.not_not, Int.not_lt, Int.not_le] at h17
      refine TrL.unwant rfl rfl rfl ?_
      refine TrL.unwant rfl rfl rfl ?_
      refine TrL.unwant rfl rfl rfl ?_
      refine TrL.unwant rfl rfl rfl ?_
      refine TrL.unwant rfl rfl rfl ?_
      refine TrL.pickF rfl rfl rfl ?_
      refine TrL.assign rfl rfl ?_
      refine TrL.nil (At.then_normal ?_)
      refine Tr.ret (At.retP [] (.inl rfl) rfl (Res.tmp rfl Res.nil) (by repeat (first | exact Picks.nil | with_reducible exact Pick.here | with_reducible apply Pick.there | with_reducible apply Pick.app_nil | with_reducible apply Pick.app_cons | apply Picks.cons)) (by 
          refine hK _ ⟨fun h => ?_, fun h => ?_⟩
          · (first | (exact Sta.eq (hr1.1 (by assumption)) (by assumption) (by simpa using h)) | simp_all)
          · subst h; simp_all))
  · try simp only [beq_iff_eq, beq_eq_false_iff_ne, Bool.not_eq_true, Bool.not_eq_false, decide_eq_true_eq, decide_eq_false_iff_not, Bool.not_eq_true', Bool.not_eq_false', bne_iff_ne, Bool.not_eq_eq_eq_not, Bool.not_true, Bool.not_false, ne_eq, Decidable.not_not, Int.not_lt, Int.not_le] at h10
    refine TrL.unwant rfl rfl rfl ?_
    refine TrL.unwant rfl rfl rfl ?_
    refine TrL.unwant rfl rfl rfl ?_
    refine TrL.unwant rfl rfl rfl ?_
    refine TrL.unwant rfl rfl rfl ?_
    refine TrL.pickF rfl rfl rfl ?_
    refine TrL.move rfl rfl ?_
    refine TrL.unwant rfl rfl rfl ?_
    refine TrL.unwant rfl rfl rfl ?_
    refine TrL.unwant rfl rfl rfl ?_
    refine TrL.unwant rfl rfl rfl ?_
    refine TrL.unwant rfl rfl rfl ?_
    refine TrL.pickF rfl rfl rfl ?_
    refine TrL.assign rfl rfl ?_
    refine TrL.nil (At.then_normal ?_)
    refine Tr.ret (At.retP [] (.inl rfl) rfl (Res.tmp rfl Res.nil) (by repeat (first | exact Picks.nil | with_reducible exact Pick.here | with_reducible apply Pick.there | with_reducible apply Pick.app_nil | with_reducible apply Pick.app_cons | apply Picks.cons)) (by 
        refine hK _ ⟨fun h => ?_, fun h => ?_⟩
        · (first | (exact Sta.eq (hr1.1 (by assumption)) (by assumption) (by simpa using h)) | simp_all)
        · subst h; simp_all))
end Go.Proofs.Ytiefmfimbmkdjaa

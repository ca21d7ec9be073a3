/-
  What is light, the law's own look at the program, and the law ManifestTexts, walked.
  No condition but those that each statement names.
-/
import Derived.Test.YtiefmfimbmkdjaaMfQ
namespace Go.Proofs.Ytiefmfimbmkdjaa
set_option linter.unusedSimpArgs false
set_option linter.unusedVariables false
set_option linter.unusedSectionVars false
open Go.RowKit
variable [Obs]


theorem light_spec {F : Hp} {K : Value → List HProp → Prop} {pa : Option Addr} {ca : Nat} {pd : Option Addr} {cd : Nat} {e : Ed} (hA : SlIn F encT 4 pa e.add) (hD : SlIn F encI 1 pd e.drop) (hla : e.add.length ≤ 9223372036854775807) (hld : e.drop.length ≤ 9223372036854775807) (hK : ∀ r : Bool, K (.bool r) []) : CallK Try.prog F 9 #[.agg (edC pa ca pd cd e).toArray] [] K := by
  refine CallK.enter Try.func9 rfl Try.ntmps9 rfl ?_
  refine Tr.seq ?_
  refine Tr.region ?_
  refine TrL.boxA rfl rfl (fun b1 => ?_)
  refine TrL.assign rfl rfl ?_
  refine TrL.nil (At.then_normal ?_)
  refine Tr.seq ?_
  refine Tr.seq ?_
  refine Tr.region ?_
  refine TrL.assign rfl rfl ?_
  refine TrL.nil (At.then_normal ?_)
  refine Tr.block ?_
  refine Tr.loopK [1] (α := Nat) (fun i => [(3, .int .i64 (i : Int))]) (fun i => []) (fun i => i ≤ e.add.length) (fun i => e.add.length - i) (0) (by rfl) ?_ (by repeat (first | exact Sub.nil | refine Sub.cons (by rfl) ?_)) (by repeat (first | exact Picks.nil | with_reducible exact Pick.here | with_reducible apply Pick.there | with_reducible apply Pick.app_nil | with_reducible apply Pick.app_cons | apply Picks.cons)) ?_
  · exact Nat.zero_le _
  rintro i hi
  refine Tr.seq ?_
  refine Tr.seq ?_
  refine Tr.region ?_
  refine TrL.move rfl rfl ?_
  refine TrL.field0 rfl rfl fl25_0 ?_
  refine TrL.load1 rfl rfl sc22 (Sees.cl1 (by repeat (first | with_reducible exact Pick.here | with_reducible apply Pick.there | with_reducible apply Pick.app_nil | with_reducible apply Pick.app_cons)) (by rfl)) ?_
  refine TrL.lenl rfl rfl se22 ?_
  refine TrL.lss rfl rfl rfl ?_
  refine TrL.move rfl rfl ?_
  refine TrL.cases (t := 9) rfl (fun h9 => ?_) (fun h9 => ?_)
  · try simp only [beq_iff_eq, beq_eq_false_iff_ne, Bool.not_eq_true, Bool.not_eq_false, decide_eq_true_eq, decide_eq_false_iff_not, Bool.not_eq_true', Bool.not_eq_false', bne_iff_ne, Bool.not_eq_eq_eq_not, Bool.not_true, Bool.not_false, ne_eq, Decidable.not_not, Int.not_lt, Int.not_le] at h9
    refine TrL.want rfl rfl ?_
    refine TrL.move rfl rfl ?_
    refine TrL.want rfl rfl ?_
    refine TrL.lss rfl rfl rfl ?_
    refine TrL.pickT rfl rfl rfl ?_
    refine TrL.nil (At.then_normal ?_)
    refine Tr.cond rfl (fun h12 => ?_) (fun h12 => ?_)
    · try simp only [beq_iff_eq, beq_eq_false_iff_ne, Bool.not_eq_true, Bool.not_eq_false, decide_eq_true_eq, decide_eq_false_iff_not, Bool.not_eq_true', Bool.not_eq_false', bne_iff_ne, Bool.not_eq_eq_eq_not, Bool.not_true, Bool.not_false, ne_eq, Decidable.not_not, Int.not_lt, Int.not_le] at h12
      refine Tr.skip (At.then_normal ?_)
      refine Tr.seq ?_
      refine Tr.block ?_
      refine Tr.seq ?_
      refine Tr.region ?_
      refine TrL.field0 rfl rfl fl25_0 ?_
      refine TrL.load1 rfl rfl sc22 (Sees.cl1 (by repeat (first | with_reducible exact Pick.here | with_reducible apply Pick.there | with_reducible apply Pick.app_nil | with_reducible apply Pick.app_cons)) (by rfl)) ?_
      refine TrL.move rfl rfl ?_
      refine TrL.idxF rfl rfl rfl se22 sz46 hA rfl rfl rfl (List.getElem?_eq_getElem (by omega)) (fun b18 o18 hp18 hc18 => ?_)
      refine TrL.field rfl rfl fl46_2 ?_
      refine TrL.loadR1 rfl rfl sc9 (Cells.part hc18 (j := 2) rfl) ?_
      refine TrL.lens rfl rfl st9 ?_
      refine TrL.gtr rfl rfl rfl ?_
      refine TrL.move rfl rfl ?_
      refine TrL.cases (t := 23) rfl (fun h23 => ?_) (fun h23 => ?_)
      · try simp only [beq_iff_eq, beq_eq_false_iff_ne, Bool.not_eq_true, Bool.not_eq_false, decide_eq_true_eq, decide_eq_false_iff_not, Bool.not_eq_true', Bool.not_eq_false', bne_iff_ne, Bool.not_eq_eq_eq_not, Bool.not_true, Bool.not_false, ne_eq, Decidable.not_not, Int.not_lt, Int.not_le] at h23
        refine TrL.unwant rfl rfl rfl ?_
        refine TrL.unwant rfl rfl rfl ?_
        refine TrL.unwant rfl rfl rfl ?_
        refine TrL.unwant rfl rfl rfl ?_
        refine TrL.unwant rfl rfl rfl ?_
        refine TrL.unwant rfl rfl rfl ?_
        refine TrL.unwant rfl rfl rfl ?_
        refine TrL.unwant rfl rfl rfl ?_
        refine TrL.pickT rfl rfl rfl ?_
        refine TrL.nil (At.then_normal ?_)
        refine Tr.condT rfl ?_
        refine Tr.seq ?_
        refine Tr.region ?_
        refine TrL.assign rfl rfl ?_
        refine TrL.nil (At.then_normal ?_)
        refine Tr.ret (At.block_ret (At.then_ret (At.then_ret (At.block_ret (At.then_ret (At.retP [] (.inl rfl) rfl (Res.tmp rfl Res.nil) (by repeat (first | exact Picks.nil | with_reducible exact Pick.here | with_reducible apply Pick.there | with_reducible apply Pick.app_nil | with_reducible apply Pick.app_cons | apply Picks.cons)) (by exact hK _)))))))
      · try simp only [beq_iff_eq, beq_eq_false_iff_ne, Bool.not_eq_true, Bool.not_eq_false, decide_eq_true_eq, decide_eq_false_iff_not, Bool.not_eq_true', Bool.not_eq_false', bne_iff_ne, Bool.not_eq_eq_eq_not, Bool.not_true, Bool.not_false, ne_eq, Decidable.not_not, Int.not_lt, Int.not_le] at h23
        refine TrL.want rfl rfl ?_
        refine TrL.field0 rfl rfl fl25_0 ?_
        refine TrL.want rfl rfl ?_
        refine TrL.load1 rfl rfl sc22 (Sees.cl1 (by repeat (first | with_reducible exact Pick.here | with_reducible apply Pick.there | with_reducible apply Pick.app_nil | with_reducible apply Pick.app_cons)) (by rfl)) ?_
        refine TrL.want rfl rfl ?_
        refine TrL.move rfl rfl ?_
        refine TrL.want rfl rfl ?_
        refine TrL.idxF rfl rfl rfl se22 sz46 hA rfl rfl rfl (List.getElem?_eq_getElem (by omega)) (fun b27 o27 hp27 hc27 => ?_)
        refine TrL.want rfl rfl ?_
        refine TrL.field rfl rfl fl46_3 ?_
        refine TrL.want rfl rfl ?_
        refine TrL.loadR1 rfl rfl sc9 (Cells.part hc27 (j := 3) rfl) ?_
        refine TrL.want rfl rfl ?_
        refine TrL.lens rfl rfl st9 ?_
        refine TrL.want rfl rfl ?_
        refine TrL.gtr rfl rfl rfl ?_
        refine TrL.pickF rfl rfl rfl ?_
        refine TrL.nil (At.then_normal ?_)
        refine Tr.cond rfl (fun h32 => ?_) (fun h32 => ?_)
        · try simp only [beq_iff_eq, beq_eq_false_iff_ne, Bool.not_eq_true, Bool.not_eq_false, decide_eq_true_eq, decide_eq_false_iff_not, Bool.not_eq_true', Bool.not_eq_false', bne_iff_ne, Bool.not_eq_eq_eq_not, Bool.not_true, Bool.not_false, ne_eq, Decidable.not_not, Int.not_lt, Int.not_le] at h32
          refine Tr.seq ?_
          refine Tr.region ?_
          refine TrL.assign rfl rfl ?_
          refine TrL.nil (At.then_normal ?_)
          refine Tr.ret (At.block_ret (At.then_ret (At.then_ret (At.block_ret (At.then_ret (At.retP [] (.inl rfl) rfl (Res.tmp rfl Res.nil) (by repeat (first | exact Picks.nil | with_reducible exact Pick.here | with_reducible apply Pick.there | with_reducible apply Pick.app_nil | with_reducible apply Pick.app_cons | apply Picks.cons)) (by exact hK _)))))))
        · try simp only [beq_iff_eq, beq_eq_false_iff_ne, Bool.not_eq_true, Bool.not_eq_false, decide_eq_true_eq, decide_eq_false_iff_not, Bool.not_eq_true', Bool.not_eq_false', bne_iff_ne, Bool.not_eq_eq_eq_not, Bool.not_true, Bool.not_false, ne_eq, Decidable.not_not, Int.not_lt, Int.not_le] at h32
          refine Tr.skip (At.block_normal (At.then_normal ?_))
          refine Tr.region ?_
          refine TrL.move rfl rfl ?_
          refine TrL.addI rfl rfl rfl (by omega) ?_
          refine TrL.assign rfl rfl ?_
          refine TrL.nil ?_
          refine At.again (i + 1) (by omega) (by omega) (by repeat (first | exact Sub.nil | refine Sub.cons (by rfl) ?_)) (by repeat (first | exact Picks.nil | with_reducible exact Pick.here | with_reducible apply Pick.there | with_reducible apply Pick.app_nil | with_reducible apply Pick.app_cons | apply Picks.cons))
    · try simp only [beq_iff_eq, beq_eq_false_iff_ne, Bool.not_eq_true, Bool.not_eq_false, decide_eq_true_eq, decide_eq_false_iff_not, Bool.not_eq_true', Bool.not_eq_false', bne_iff_ne, Bool.not_eq_eq_eq_not, Bool.not_true, Bool.not_false, ne_eq, Decidable.not_not, Int.not_lt, Int.not_le] at h12
      refine Tr.exit (At.then_exit (At.then_exit (At.block_hit (At.then_normal ?_))))
      refine Tr.seq ?_
      refine Tr.region ?_
      refine TrL.field0 rfl rfl fl25_0 ?_
      refine TrL.load1 rfl rfl sc22 (Sees.cl1 (by repeat (first | with_reducible exact Pick.here | with_reducible apply Pick.there | with_reducible apply Pick.app_nil | with_reducible apply Pick.app_cons)) (by rfl)) ?_
      refine TrL.lenl rfl rfl se22 ?_
      refine TrL.leq rfl rfl rfl ?_
      refine TrL.move rfl rfl ?_
      refine TrL.cases (t := 37) rfl (fun h37 => ?_) (fun h37 => ?_)
      · try simp only [beq_iff_eq, beq_eq_false_iff_ne, Bool.not_eq_true, Bool.not_eq_false, decide_eq_true_eq, decide_eq_false_iff_not, Bool.not_eq_true', Bool.not_eq_false', bne_iff_ne, Bool.not_eq_eq_eq_not, Bool.not_true, Bool.not_false, ne_eq, Decidable.not_not, Int.not_lt, Int.not_le] at h37
        refine TrL.want rfl rfl ?_
        refine TrL.field rfl rfl fl25_1 ?_
        refine TrL.want rfl rfl ?_
        refine TrL.load1 rfl rfl sc23 (Sees.cl1 (by repeat (first | with_reducible exact Pick.here | with_reducible apply Pick.there | with_reducible apply Pick.app_nil | with_reducible apply Pick.app_cons)) (by rfl)) ?_
        refine TrL.want rfl rfl ?_
        refine TrL.lenl rfl rfl se23 ?_
        refine TrL.want rfl rfl ?_
        refine TrL.leq rfl rfl rfl ?_
        refine TrL.pickT rfl rfl rfl ?_
        refine TrL.assign rfl rfl ?_
        refine TrL.nil (At.then_normal ?_)
        refine Tr.ret (At.retP [] (.inl rfl) rfl (Res.tmp rfl Res.nil) (by repeat (first | exact Picks.nil | with_reducible exact Pick.here | with_reducible apply Pick.there | with_reducible apply Pick.app_nil | with_reducible apply Pick.app_cons | apply Picks.cons)) (by exact hK _))
      · try simp only [beq_iff_eq, beq_eq_false_iff_ne, Bool.not_eq_true, Bool.not_eq_false, decide_eq_true_eq, decide_eq_false_iff_not, Bool.not_eq_true', Bool.not_eq_false', bne_iff_ne, Bool.not_eq_eq_eq_not, Bool.not_true, Bool.not_false, ne_eq, Decidable.not_not, Int.not_lt, Int.not_le] at h37
        refine TrL.unwant rfl rfl rfl ?_
        refine TrL.unwant rfl rfl rfl ?_
        refine TrL.unwant rfl rfl rfl ?_
        refine TrL.unwant rfl rfl rfl ?_
        refine TrL.pickF rfl rfl rfl ?_
        refine TrL.assign rfl rfl ?_
        refine TrL.nil (At.then_normal ?_)
        refine Tr.ret (At.retP [] (.inl rfl) rfl (Res.tmp rfl Res.nil) (by repeat (first | exact Picks.nil | with_reducible exact Pick.here | with_reducible apply Pick.there | with_reducible apply Pick.app_nil | with_reducible apply Pick.app_cons | apply Picks.cons)) (by exact hK _))
  · try simp only [beq_iff_eq, beq_eq_false_iff_ne, Bool.not_eq_true, Bool.not_eq_false, decide_eq_true_eq, decide_eq_false_iff_not, Bool.not_eq_true', Bool.not_eq_false', bne_iff_ne, Bool.not_eq_eq_eq_not, Bool.not_true, Bool.not_false, ne_eq, Decidable.not_not, Int.not_lt, Int.not_le] at h9
    refine TrL.unwant rfl rfl rfl ?_
    refine TrL.unwant rfl rfl rfl ?_
    refine TrL.pickF rfl rfl rfl ?_
    refine TrL.nil (At.then_normal ?_)
    refine Tr.condF rfl ?_
    refine Tr.exit (At.then_exit (At.then_exit (At.block_hit (At.then_normal ?_))))
    refine Tr.seq ?_
    refine Tr.region ?_
    refine TrL.field0 rfl rfl fl25_0 ?_
    refine TrL.load1 rfl rfl sc22 (Sees.cl1 (by repeat (first | with_reducible exact Pick.here | with_reducible apply Pick.there | with_reducible apply Pick.app_nil | with_reducible apply Pick.app_cons)) (by rfl)) ?_
    refine TrL.lenl rfl rfl se22 ?_
    refine TrL.leq rfl rfl rfl ?_
    refine TrL.move rfl rfl ?_
    refine TrL.cases (t := 37) rfl (fun h37 => ?_) (fun h37 => ?_)
    · try simp only [beq_iff_eq, beq_eq_false_iff_ne, Bool.not_eq_true, Bool.not_eq_false, decide_eq_true_eq, decide_eq_false_iff_not, Bool.not_eq_true', Bool.not_eq_false', bne_iff_ne, Bool.not_eq_eq_eq_not, Bool.not_true, Bool.not_false, ne_eq, Decidable.not_not, Int.not_lt, Int.not_le] at h37
      refine TrL.want rfl rfl ?_
      refine TrL.field rfl rfl fl25_1 ?_
      refine TrL.want rfl rfl ?_
      refine TrL.load1 rfl rfl sc23 (Sees.cl1 (by repeat (first | with_reducible exact Pick.here | with_reducible apply Pick.there | with_reducible apply Pick.app_nil | with_reducible apply Pick.app_cons)) (by rfl)) ?_
      refine TrL.want rfl rfl ?_
      refine TrL.lenl rfl rfl se23 ?_
      refine TrL.want rfl rfl ?_
      refine TrL.leq rfl rfl rfl ?_
      refine TrL.pickT rfl rfl rfl ?_
      refine TrL.assign rfl rfl ?_
      refine TrL.nil (At.then_normal ?_)
      refine Tr.ret (At.retP [] (.inl rfl) rfl (Res.tmp rfl Res.nil) (by repeat (first | exact Picks.nil | with_reducible exact Pick.here | with_reducible apply Pick.there | with_reducible apply Pick.app_nil | with_reducible apply Pick.app_cons | apply Picks.cons)) (by exact hK _))
    · try simp only [beq_iff_eq, beq_eq_false_iff_ne, Bool.not_eq_true, Bool.not_eq_false, decide_eq_true_eq, decide_eq_false_iff_not, Bool.not_eq_true', Bool.not_eq_false', bne_iff_ne, Bool.not_eq_eq_eq_not, Bool.not_true, Bool.not_false, ne_eq, Decidable.not_not, Int.not_lt, Int.not_le] at h37
      refine TrL.unwant rfl rfl rfl ?_
      refine TrL.unwant rfl rfl rfl ?_
      refine TrL.unwant rfl rfl rfl ?_
      refine TrL.unwant rfl rfl rfl ?_
      refine TrL.pickF rfl rfl rfl ?_
      refine TrL.assign rfl rfl ?_
      refine TrL.nil (At.then_normal ?_)
      refine Tr.ret (At.retP [] (.inl rfl) rfl (Res.tmp rfl Res.nil) (by repeat (first | exact Picks.nil | with_reducible exact Pick.here | with_reducible apply Pick.there | with_reducible apply Pick.app_nil | with_reducible apply Pick.app_cons | apply Picks.cons)) (by exact hK _))

/-- the law's own look at the program -/
def tab0 : Tab := ⟨1, 0, ⟨#[97]⟩, ⟨#[99]⟩⟩
def ed0 : Ed := ⟨[tab0], [], 2, 3⟩
theorem may0 : mayE ed0 = true := by kernel_rfl
theorem put0 : (strOf (putE ed0)).size = 10 := by kernel_rfl
theorem app0 : applyF zeroS ed0 = (⟨[tab0], 2, 3⟩, 0) := by kernel_rfl
theorem ov0 : [tab0].filter (ovT 0 ⟨#[99]⟩ ⟨#[100]⟩) = [tab0] := by kernel_rfl
theorem putS0 : putS ed0 = strOf (putE ed0) := if_pos may0
theorem errE0 : errE ed0 = 0 := if_pos may0
theorem take0 : takeEd (putE ed0) = (ed0, 0) := by unfold takeEd; rw [take_put may0]
noncomputable def sameEd (a b : Ed) : Bool := @decide (a = b) (Classical.propDecidable _)
theorem sameEd_self (a : Ed) : sameEd a a = true := by unfold sameEd; simp
theorem SameEditD_spec {F : Hp} {K : Value → List HProp → Prop} {pa pa2 pd pd2 : Option Addr} {ca ca2 cd cd2 : Nat} {a b : Ed} (hA : SlIn F encT 4 pa a.add) (hB : SlIn F encT 4 pa2 b.add) (hD : SlIn F encI 1 pd a.drop) (hE : SlIn F encI 1 pd2 b.drop) (hl : a.add.length ≤ 9223372036854775807) (hl2 : a.drop.length ≤ 9223372036854775807) (hK : K (.bool (sameEd a b)) []) :
    CallK Try.prog F 15 #[.agg (edC pa ca pd cd a).toArray, .agg (edC pa2 ca2 pd2 cd2 b).toArray] [] K := SameEdit_spec hA hB hD hE hl hl2 fun r hr => by
  have : r = sameEd a b := by
    unfold sameEd
    by_cases h : a = b
    · rw [hr.2 h]; simp [h]
    · have : r = false := by cases r with
        | false => rfl
        | true => exact absurd (hr.1 rfl) h
      rw [this]; simp [h]
  rw [this]; exact hK


set_option maxHeartbeats 4000000 in
theorem awake_spec {F : Hp} {K : Value → List HProp → Prop} (hK : K (.bool true) []) : CallK Try.prog F 10 #[] [] K := by
  refine CallK.enter Try.func10 rfl Try.ntmps10 rfl ?_
  refine Tr.seq ?_
  refine Tr.region ?_
  refine TrL.assign rfl rfl ?_
  refine TrL.nil (At.then_normal ?_)
  refine Tr.seq ?_
  refine Tr.region ?_
  refine TrL.build rfl rfl pl46 zc46 rfl ?_
  refine TrL.buildSlA rfl rfl se22 sz46 zc46 rfl rfl rfl (fun b9 => ?_)
  refine TrL.build rfl rfl pl25 zc25 rfl ?_
  refine TrL.alloc rfl zc25 (fun b1 => ?_)
  refine TrL.storeLA rfl rfl sz25 ⟨rfl, List.cons_ne_nil _ _⟩ rfl (by repeat (first | with_reducible exact Upd.here | with_reducible apply Upd.there | with_reducible apply Upd.app_nil | with_reducible apply Upd.app_cons)) (by rfl) ?_
  refine TrL.nil (At.then_normal ?_)
  refine Tr.seq ?_
  refine Tr.freezeL encT 4 [tab0] (b := b9) (by repeat (first | with_reducible exact Pick.here | with_reducible apply Pick.there | with_reducible apply Pick.app_nil | with_reducible apply Pick.app_cons)) (by rfl) encT_len (fun F9 hF9 hs9 => ?_)
  refine Tr.region ?_
  refine TrL.loadLA rfl rfl ag25 sz25 (by repeat (first | with_reducible exact Pick.here | with_reducible apply Pick.there | with_reducible apply Pick.app_nil | with_reducible apply Pick.app_cons)) (by rfl) ?_
  refine TrL.call rfl rfl rfl ca11 .nil (fun Ft13 hUt13 => Put_spec (e := ed0) (pa := some ⟨b9, 0, none⟩) (ca := 1) (pd := none) (cd := 0) (hUt13.ro (SlIn.mono _ _ _ _) hs9) (.inl rfl) (by decide) (by decide) ?_)
  rw [putS0, errE0]
  refine TrL.move rfl rfl ?_
  refine TrL.extract rfl rfl rfl ?_
  refine TrL.extract rfl rfl rfl ?_
  refine TrL.assign rfl rfl ?_
  refine TrL.assign rfl rfl ?_
  refine TrL.nil (At.then_normal ?_)
  refine Tr.seq ?_
  refine Tr.region ?_
  refine TrL.move rfl rfl ?_
  refine TrL.call rfl rfl rfl ca13 .nil (fun Ft18 hUt18 => Take_spec (l := putE ed0) (by have := put0; rw [strOf_size] at this; omega) (fun pa ca pd cd => ?_))
  rw [take0]
  refine TrL.move rfl rfl ?_
  refine TrL.extract rfl rfl rfl ?_
  refine TrL.extract rfl rfl rfl ?_
  refine TrL.alloc rfl zc25 (fun b4 => ?_)
  refine TrL.storeLA rfl rfl sz25 ⟨rfl, List.cons_ne_nil _ _⟩ rfl (by repeat (first | with_reducible exact Upd.here | with_reducible apply Upd.there | with_reducible apply Upd.app_nil | with_reducible apply Upd.app_cons)) (by rfl) ?_
  refine TrL.assign rfl rfl ?_
  refine TrL.nil (At.then_normal ?_)
  refine Tr.seq ?_
  refine Tr.region ?_
  refine TrL.build rfl rfl pl38 zc38 rfl ?_
  refine TrL.loadLA rfl rfl ag25 sz25 (by repeat (first | with_reducible exact Pick.here | with_reducible apply Pick.there | with_reducible apply Pick.app_nil | with_reducible apply Pick.app_cons)) (by rfl) ?_
  refine TrL.call rfl rfl rfl ca18 .nil (fun Ft24 hUt24 => Apply_spec (s := zeroS) (p := none) (c := 0) (e := ed0) (pa := some ⟨b9, 0, none⟩) (ca := 1) (pd := none) (cd := 0) zeroS_good (.inl rfl) (by decide) (hUt24.ro (SlIn.mono _ _ _ _) hs9) (.inl rfl) (by decide) (by decide) (fun p2 c2 => ?_))
  rw [app0]
  refine TrL.move rfl rfl ?_
  refine TrL.extract rfl rfl rfl ?_
  refine TrL.extract rfl rfl rfl ?_
  refine TrL.alloc rfl zc38 (fun b6 => ?_)
  refine TrL.storeLA rfl rfl sz38 ⟨rfl, List.cons_ne_nil _ _⟩ rfl (by repeat (first | with_reducible exact Upd.here | with_reducible apply Upd.there | with_reducible apply Upd.app_nil | with_reducible apply Upd.app_cons)) (by rfl) ?_
  refine TrL.assign rfl rfl ?_
  refine TrL.nil (At.then_normal ?_)
  refine Tr.seq ?_
  refine Tr.region ?_
  refine TrL.move rfl rfl ?_
  refine TrL.eqi rfl rfl rfl ?_
  refine TrL.knownB (t := 28) (c := true) rfl (by decide) ?_
  refine TrL.move rfl rfl ?_
  refine TrL.want rfl rfl ?_
  refine TrL.move rfl rfl ?_
  refine TrL.want rfl rfl ?_
  refine TrL.lens rfl rfl st9 ?_
  refine TrL.want rfl rfl ?_
  refine TrL.eqi rfl rfl rfl ?_
  refine TrL.knownB (t := 32) (c := true) rfl (by rw [put0]; rfl) ?_
  refine TrL.pickT rfl rfl rfl ?_
  refine TrL.move rfl rfl ?_
  refine TrL.want rfl rfl ?_
  refine TrL.loadLA rfl rfl ag25 sz25 (by repeat (first | with_reducible exact Pick.here | with_reducible apply Pick.there | with_reducible apply Pick.app_nil | with_reducible apply Pick.app_cons)) (by rfl) ?_
  refine TrL.want rfl rfl ?_
  refine TrL.loadLA rfl rfl ag25 sz25 (by repeat (first | with_reducible exact Pick.here | with_reducible apply Pick.there | with_reducible apply Pick.app_nil | with_reducible apply Pick.app_cons)) (by rfl) ?_
  refine TrL.want rfl rfl ?_
  refine TrL.call rfl rfl rfl ca15 .nil (fun Ft37 hUt37 => SameEditD_spec (a := ed0) (b := ed0) (pa := pa) (ca := ca) (pd := pd) (cd := cd) (pa2 := some ⟨b9, 0, none⟩) (ca2 := 1) (pd2 := none) (cd2 := 0) (RowC.up hUt37 (by repeat (first | with_reducible exact Pick.here | with_reducible apply Pick.there | with_reducible apply Pick.app_nil | with_reducible apply Pick.app_cons))) (hUt37.ro (SlIn.mono _ _ _ _) hs9) (RowC.up hUt37 (by repeat (first | with_reducible exact Pick.here | with_reducible apply Pick.there | with_reducible apply Pick.app_nil | with_reducible apply Pick.app_cons))) (.inl rfl) (by decide) (by decide) ?_)
  refine TrL.knownB (t := 37) (c := true) rfl (by exact sameEd_self _) ?_
  refine TrL.pickT rfl rfl rfl ?_
  refine TrL.move rfl rfl ?_
  refine TrL.want rfl rfl ?_
  refine TrL.move rfl rfl ?_
  refine TrL.want rfl rfl ?_
  refine TrL.eqi rfl rfl rfl ?_
  refine TrL.knownB (t := 41) (c := true) rfl (by decide) ?_
  refine TrL.pickT rfl rfl rfl ?_
  refine TrL.move rfl rfl ?_
  refine TrL.want rfl rfl ?_
  refine TrL.move rfl rfl ?_
  refine TrL.want rfl rfl ?_
  refine TrL.eqi rfl rfl rfl ?_
  refine TrL.knownB (t := 45) (c := true) rfl (by decide) ?_
  refine TrL.pickT rfl rfl rfl ?_
  refine TrL.move rfl rfl ?_
  refine TrL.want rfl rfl ?_
  refine TrL.field0 rfl rfl fl38_0 ?_
  refine TrL.want rfl rfl ?_
  refine TrL.load1 rfl rfl sc22 (Sees.cl1 (by repeat (first | with_reducible exact Pick.here | with_reducible apply Pick.there | with_reducible apply Pick.app_nil | with_reducible apply Pick.app_cons)) (by rfl)) ?_
  refine TrL.want rfl rfl ?_
  refine TrL.lenl rfl rfl se22 ?_
  refine TrL.want rfl rfl ?_
  refine TrL.eqi rfl rfl rfl ?_
  refine TrL.knownB (t := 51) (c := true) rfl (by decide) ?_
  refine TrL.pickT rfl rfl rfl ?_
  refine TrL.move rfl rfl ?_
  refine TrL.want rfl rfl ?_
  refine TrL.field rfl rfl fl38_1 ?_
  refine TrL.want rfl rfl ?_
  refine TrL.load1 rfl rfl sc3 (Sees.cl1 (by repeat (first | with_reducible exact Pick.here | with_reducible apply Pick.there | with_reducible apply Pick.app_nil | with_reducible apply Pick.app_cons)) (by rfl)) ?_
  refine TrL.want rfl rfl ?_
  refine TrL.eqi rfl rfl rfl ?_
  refine TrL.knownB (t := 56) (c := true) rfl (by decide) ?_
  refine TrL.pickT rfl rfl rfl ?_
  refine TrL.move rfl rfl ?_
  refine TrL.want rfl rfl ?_
  refine TrL.loadLA rfl rfl ag38 sz38 (by repeat (first | with_reducible exact Pick.here | with_reducible apply Pick.there | with_reducible apply Pick.app_nil | with_reducible apply Pick.app_cons)) (by rfl) ?_
  refine TrL.want rfl rfl ?_
  refine TrL.call rfl rfl rfl ca22 .nil (fun Ft60 hUt60 => Overlap_spec (s := ⟨[tab0], 2, 3⟩) (p := p2) (c := c2) (RowC.up hUt60 (by repeat (first | with_reducible exact Pick.here | with_reducible apply Pick.there | with_reducible apply Pick.app_nil | with_reducible apply Pick.app_cons))) (by decide) (fun p3 c3 => ?_))
  rw [ov0]
  refine TrL.want rfl rfl ?_
  refine TrL.lenl rfl rfl se22 ?_
  refine TrL.want rfl rfl ?_
  refine TrL.eqi rfl rfl rfl ?_
  refine TrL.knownB (t := 62) (c := true) rfl (by decide) ?_
  refine TrL.pickT rfl rfl rfl ?_
  refine TrL.assign rfl rfl ?_
  refine TrL.nil (At.then_normal ?_)
  refine Tr.ret (At.retP [] (.inl rfl) rfl (Res.tmp rfl Res.nil) (by repeat (first | exact Picks.nil | with_reducible exact Pick.here | with_reducible apply Pick.there | with_reducible apply Pick.app_nil | with_reducible apply Pick.app_cons | apply Picks.cons)) (by exact hK))

theorem takeP_may {l : List UInt8} {e : Ed} (h : takeP l = some e) : mayE e = true := by
  unfold takeP at h
  dsimp only at h
  split at h
  · rename_i h2; cases h; exact h2.2.2
  · cases h
theorem takeEd_len (l : List UInt8) : (takeEd l).1.add.length ≤ 128 ∧ (takeEd l).1.drop.length ≤ 128 := by
  unfold takeEd
  cases h : takeP l with
  | none => exact ⟨Nat.zero_le _, Nat.zero_le _⟩
  | some e => exact mayE_add (takeP_may h)
theorem takeEd_add (l : List UInt8) : (takeEd l).1.add.length ≤ 9223372036854775807 := Nat.le_trans (takeEd_len l).1 (by decide)
theorem takeEd_drop (l : List UInt8) : (takeEd l).1.drop.length ≤ 9223372036854775807 := Nat.le_trans (takeEd_len l).2 (by decide)
theorem putE_small {e : Ed} (hm : mayE e = true) : (putE e).length ≤ 30000 := by
  have hm0 := hm
  unfold mayE at hm0
  simp only [Bool.and_eq_true, decide_eq_true_eq] at hm0
  obtain ⟨⟨⟨⟨⟨hm1, hm2⟩, hm3⟩, hm4⟩, hm5⟩, hm6⟩ := hm0
  have hpl := putN_len e.add.length
  have hpd := putN_len e.drop.length
  have hplg := putN_len e.log.toNat
  have hpnx := putN_len e.next.toNat
  have htl2 : (e.add.flatMap tabB).length ≤ 168 * e.add.length := flat_len _ (fun x hx => tabB_len (List.all_eq_true.1 hm3 x hx))
  have hdl2 : (e.drop.flatMap numB).length ≤ 10 * e.drop.length := flat_nums _
  unfold putE
  simp only [List.length_append]
  omega
theorem putE_len {e : Ed} (hm : mayE e = true) : (putE e).length ≤ 9223372036854775807 := Nat.le_trans (putE_small hm) (by decide)
set_option maxHeartbeats 4000000 in
theorem ManifestTexts_spec {F : Hp} {K : Value → List HProp → Prop} {pa : Option Addr} {ca : Nat} {pd : Option Addr} {cd : Nat} {e : Ed} (hA : SlIn F encT 4 pa e.add) (hD : SlIn F encI 1 pd e.drop) (hla : e.add.length ≤ 9223372036854775807) (hld : e.drop.length ≤ 9223372036854775807) {l : List UInt8} (hl : l.length ≤ 9223372036854775807) (hK : K (.bool true) []) : CallK Try.prog F 3 #[.agg (edC pa ca pd cd e).toArray, .string (strOf l)] [] K := by
  refine CallK.enter Try.func3 rfl Try.ntmps3 rfl ?_
  refine Tr.seq ?_
  refine Tr.region ?_
  refine TrL.boxA rfl rfl (fun b2 => ?_)
  refine TrL.assign rfl rfl ?_
  refine TrL.nil (At.then_normal ?_)
  refine Tr.seq ?_
  refine Tr.seq ?_
  refine Tr.region ?_
  refine TrL.loadLA rfl rfl ag25 sz25 (by repeat (first | with_reducible exact Pick.here | with_reducible apply Pick.there | with_reducible apply Pick.app_nil | with_reducible apply Pick.app_cons)) (by rfl) ?_
  refine TrL.call rfl rfl rfl ca9 .nil (fun Ft16 hUt16 => light_spec (hUt16.ro (SlIn.mono _ _ _ _) hA) (hUt16.ro (SlIn.mono _ _ _ _) hD) hla hld (fun r16 => ?_))
  refine TrL.not rfl rfl ?_
  refine TrL.move rfl rfl ?_
  refine TrL.cases (t := 18) rfl (fun h18 => ?_) (fun h18 => ?_)
  · try simp only [beq_iff_eq, beq_eq_false_iff_ne, Bool.not_eq_true, Bool.not_eq_false, decide_eq_true_eq, decide_eq_false_iff_not, Bool.not_eq_true', Bool.not_eq_false', bne_iff_ne, Bool.not_eq_eq_eq_not, Bool.not_true, Bool.not_false, ne_eq, Decidable.not_not, Int.not_lt, Int.not_le] at h18
    refine TrL.unwant rfl rfl rfl ?_
    refine TrL.unwant rfl rfl rfl ?_
    refine TrL.unwant rfl rfl rfl ?_
    refine TrL.pickT rfl rfl rfl ?_
    refine TrL.nil (At.then_normal ?_)
    refine Tr.condT rfl ?_
    refine Tr.seq ?_
    refine Tr.region ?_
    refine TrL.call rfl rfl rfl ca10 .nil (fun Ft23 hUt23 => awake_spec ?_)
    refine TrL.assign rfl rfl ?_
    refine TrL.nil (At.then_normal ?_)
    refine Tr.ret (At.then_ret (At.retP [] (.inl rfl) rfl (Res.tmp rfl Res.nil) (by repeat (first | exact Picks.nil | with_reducible exact Pick.here | with_reducible apply Pick.there | with_reducible apply Pick.app_nil | with_reducible apply Pick.app_cons | apply Picks.cons)) (by exact hK)))
  · try simp only [beq_iff_eq, beq_eq_false_iff_ne, Bool.not_eq_true, Bool.not_eq_false, decide_eq_true_eq, decide_eq_false_iff_not, Bool.not_eq_true', Bool.not_eq_false', bne_iff_ne, Bool.not_eq_eq_eq_not, Bool.not_true, Bool.not_false, ne_eq, Decidable.not_not, Int.not_lt, Int.not_le] at h18
    refine TrL.want rfl rfl ?_
    refine TrL.move rfl rfl ?_
    refine TrL.want rfl rfl ?_
    refine TrL.lens rfl rfl st9 ?_
    refine TrL.want rfl rfl ?_
    refine TrL.gtr rfl rfl rfl ?_
    refine TrL.pickF rfl rfl rfl ?_
    refine TrL.nil (At.then_normal ?_)
    refine Tr.cond rfl (fun h22 => ?_) (fun h22 => ?_)
    · try simp only [beq_iff_eq, beq_eq_false_iff_ne, Bool.not_eq_true, Bool.not_eq_false, decide_eq_true_eq, decide_eq_false_iff_not, Bool.not_eq_true', Bool.not_eq_false', bne_iff_ne, Bool.not_eq_eq_eq_not, Bool.not_true, Bool.not_false, ne_eq, Decidable.not_not, Int.not_lt, Int.not_le] at h22
      refine Tr.seq ?_
      refine Tr.region ?_
      refine TrL.call rfl rfl rfl ca10 .nil (fun Ft23 hUt23 => awake_spec ?_)
      refine TrL.assign rfl rfl ?_
      refine TrL.nil (At.then_normal ?_)
      refine Tr.ret (At.then_ret (At.retP [] (.inl rfl) rfl (Res.tmp rfl Res.nil) (by repeat (first | exact Picks.nil | with_reducible exact Pick.here | with_reducible apply Pick.there | with_reducible apply Pick.app_nil | with_reducible apply Pick.app_cons | apply Picks.cons)) (by exact hK)))
    · try simp only [beq_iff_eq, beq_eq_false_iff_ne, Bool.not_eq_true, Bool.not_eq_false, decide_eq_true_eq, decide_eq_false_iff_not, Bool.not_eq_true', Bool.not_eq_false', bne_iff_ne, Bool.not_eq_eq_eq_not, Bool.not_true, Bool.not_false, ne_eq, Decidable.not_not, Int.not_lt, Int.not_le] at h22
      refine Tr.skip (At.then_normal ?_)
      refine Tr.seq ?_
      refine Tr.region ?_
      refine TrL.loadLA rfl rfl ag25 sz25 (by repeat (first | with_reducible exact Pick.here | with_reducible apply Pick.there | with_reducible apply Pick.app_nil | with_reducible apply Pick.app_cons)) (by rfl) ?_
      refine TrL.call rfl rfl rfl ca11 .nil (fun Ft26 hUt26 => Put_spec (hUt26.ro (SlIn.mono _ _ _ _) hA) (hUt26.ro (SlIn.mono _ _ _ _) hD) hla hld ?_)
      refine TrL.move rfl rfl ?_
      refine TrL.extract rfl rfl rfl ?_
      refine TrL.extract rfl rfl rfl ?_
      refine TrL.assign rfl rfl ?_
      refine TrL.assign rfl rfl ?_
      refine TrL.nil (At.then_normal ?_)
      refine Tr.seq ?_
      refine Tr.region ?_
      refine TrL.loadLA rfl rfl ag25 sz25 (by repeat (first | with_reducible exact Pick.here | with_reducible apply Pick.there | with_reducible apply Pick.app_nil | with_reducible apply Pick.app_cons)) (by rfl) ?_
      refine TrL.call rfl rfl rfl ca12 .nil (fun Ft31 hUt31 => PutR_spec (hUt31.ro (SlIn.mono _ _ _ _) hA) (hUt31.ro (SlIn.mono _ _ _ _) hD) hla hld ?_)
      refine TrL.move rfl rfl ?_
      refine TrL.extract rfl rfl rfl ?_
      refine TrL.extract rfl rfl rfl ?_
      refine TrL.assign rfl rfl ?_
      refine TrL.assign rfl rfl ?_
      refine TrL.nil (At.then_normal ?_)
      refine Tr.seq ?_
      refine Tr.region ?_
      refine TrL.move rfl rfl ?_
      refine TrL.call rfl rfl rfl ca13 .nil (fun Ft36 hUt36 => Take_spec hl (fun pa1 ca1 pd1 cd1 => ?_))
      refine TrL.move rfl rfl ?_
      refine TrL.extract rfl rfl rfl ?_
      refine TrL.extract rfl rfl rfl ?_
      refine TrL.alloc rfl zc25 (fun b9 => ?_)
      refine TrL.storeLA rfl rfl sz25 ⟨rfl, List.cons_ne_nil _ _⟩ rfl (by repeat (first | with_reducible exact Upd.here | with_reducible apply Upd.there | with_reducible apply Upd.app_nil | with_reducible apply Upd.app_cons)) (by rfl) ?_
      refine TrL.assign rfl rfl ?_
      refine TrL.nil (At.then_normal ?_)
      refine Tr.seq ?_
      refine Tr.region ?_
      refine TrL.move rfl rfl ?_
      refine TrL.call rfl rfl rfl ca14 .nil (fun Ft41 hUt41 => TakeR_spec hl (fun pa2 ca2 pd2 cd2 => ?_))
      refine TrL.move rfl rfl ?_
      refine TrL.extract rfl rfl rfl ?_
      refine TrL.extract rfl rfl rfl ?_
      refine TrL.alloc rfl zc25 (fun b11 => ?_)
      refine TrL.storeLA rfl rfl sz25 ⟨rfl, List.cons_ne_nil _ _⟩ rfl (by repeat (first | with_reducible exact Upd.here | with_reducible apply Upd.there | with_reducible apply Upd.app_nil | with_reducible apply Upd.app_cons)) (by rfl) ?_
      refine TrL.assign rfl rfl ?_
      refine TrL.nil (At.then_normal ?_)
      refine Tr.seq ?_
      refine Tr.seq ?_
      refine Tr.regionQ mixed (by kernel_rfl) ?_
      refine TrL.move rfl rfl ?_
      refine TrL.move rfl rfl ?_
      refine TrL.nes rfl rfl rfl ?_
      refine TrL.knownB (t := 46) (c := false) rfl (by simp) ?_
      refine TrL.move rfl rfl ?_
      refine TrL.want rfl rfl ?_
      refine TrL.move rfl rfl ?_
      refine TrL.want rfl rfl ?_
      refine TrL.move rfl rfl ?_
      refine TrL.want rfl rfl ?_
      refine TrL.nei rfl rfl rfl ?_
      refine TrL.knownB (t := 50) (c := false) rfl (by simp) ?_
      refine TrL.pickF rfl rfl rfl ?_
      refine TrL.move rfl rfl ?_
      refine TrL.want rfl rfl ?_
      refine TrL.loadLA rfl rfl ag25 sz25 (by repeat (first | with_reducible exact Pick.here | with_reducible apply Pick.there | with_reducible apply Pick.app_nil | with_reducible apply Pick.app_cons)) (by rfl) ?_
      refine TrL.want rfl rfl ?_
      refine TrL.loadLA rfl rfl ag25 sz25 (by repeat (first | with_reducible exact Pick.here | with_reducible apply Pick.there | with_reducible apply Pick.app_nil | with_reducible apply Pick.app_cons)) (by rfl) ?_
      refine TrL.want rfl rfl ?_
      refine TrL.callQ rfl rfl rfl ca15 (fun Ft55 hUt55 => SameEditD_spec (RowC.up hUt55 (by repeat (first | with_reducible exact Pick.here | with_reducible apply Pick.there | with_reducible apply Pick.app_nil | with_reducible apply Pick.app_cons))) (RowC.up hUt55 (by repeat (first | with_reducible exact Pick.here | with_reducible apply Pick.there | with_reducible apply Pick.app_nil | with_reducible apply Pick.app_cons))) (RowC.up hUt55 (by repeat (first | with_reducible exact Pick.here | with_reducible apply Pick.there | with_reducible apply Pick.app_nil | with_reducible apply Pick.app_cons))) (RowC.up hUt55 (by repeat (first | with_reducible exact Pick.here | with_reducible apply Pick.there | with_reducible apply Pick.app_nil | with_reducible apply Pick.app_cons))) (takeEd_add l) (takeEd_drop l) rfl) ?_
      refine TrL.knownB (t := 55) (c := true) rfl (by exact sameEd_self _) ?_
      refine TrL.want rfl rfl ?_
      refine TrL.not rfl rfl ?_
      refine TrL.pickF rfl rfl rfl ?_
      refine TrL.move rfl rfl ?_
      refine TrL.want rfl rfl ?_
      refine TrL.move rfl rfl ?_
      refine TrL.want rfl rfl ?_
      refine TrL.move rfl rfl ?_
      refine TrL.want rfl rfl ?_
      refine TrL.nei rfl rfl rfl ?_
      refine TrL.knownB (t := 61) (c := false) rfl (by simp) ?_
      refine TrL.pickF rfl rfl rfl ?_
      refine TrL.move rfl rfl ?_
      refine TrL.want rfl rfl ?_
      refine TrL.loadLA rfl rfl ag25 sz25 (by repeat (first | with_reducible exact Pick.here | with_reducible apply Pick.there | with_reducible apply Pick.app_nil | with_reducible apply Pick.app_cons)) (by rfl) ?_
      refine TrL.want rfl rfl ?_
      refine TrL.callQ rfl rfl rfl ca16 (fun Ft65 hUt65 => Check_spec (hUt65.ro (SlIn.mono _ _ _ _) hA) (hUt65.ro (SlIn.mono _ _ _ _) hD) hla hld rfl) ?_
      refine TrL.want rfl rfl ?_
      refine TrL.loadLA rfl rfl ag25 sz25 (by repeat (first | with_reducible exact Pick.here | with_reducible apply Pick.there | with_reducible apply Pick.app_nil | with_reducible apply Pick.app_cons)) (by rfl) ?_
      refine TrL.want rfl rfl ?_
      refine TrL.callQ rfl rfl rfl ca17 (fun Ft67 hUt67 => CheckR_spec (hUt67.ro (SlIn.mono _ _ _ _) hA) (hUt67.ro (SlIn.mono _ _ _ _) hD) hla hld rfl) ?_
      refine TrL.want rfl rfl ?_
      refine TrL.nei rfl rfl rfl ?_
      refine TrL.knownB (t := 68) (c := false) rfl (by simp) ?_
      refine TrL.pickF rfl rfl rfl ?_
      refine TrL.nilQ (At.then_normal ?_)
      refine Tr.condF rfl ?_
      refine Tr.skip (At.then_normal ?_)
      refine Tr.seq ?_
      refine Tr.seq ?_
      refine Tr.region ?_
      refine TrL.move rfl rfl ?_
      refine TrL.nei rfl rfl rfl ?_
      refine TrL.nil (At.then_normal ?_)
      refine Tr.cond rfl (fun h71 => ?_) (fun h71 => ?_)
      · try simp only [beq_iff_eq, beq_eq_false_iff_ne, Bool.not_eq_true, Bool.not_eq_false, decide_eq_true_eq, decide_eq_false_iff_not, Bool.not_eq_true', Bool.not_eq_false', bne_iff_ne, Bool.not_eq_eq_eq_not, Bool.not_true, Bool.not_false, ne_eq, Decidable.not_not, Int.not_lt, Int.not_le] at h71
        refine Tr.seq ?_
        refine Tr.region ?_
        refine TrL.call rfl rfl rfl ca10 .nil (fun Ft72 hUt72 => awake_spec ?_)
        refine TrL.assign rfl rfl ?_
        refine TrL.nil (At.then_normal ?_)
        refine Tr.ret (At.then_ret (At.retP [] (.inl rfl) rfl (Res.tmp rfl Res.nil) (by repeat (first | exact Picks.nil | with_reducible exact Pick.here | with_reducible apply Pick.there | with_reducible apply Pick.app_nil | with_reducible apply Pick.app_cons | apply Picks.cons)) (by exact hK)))
      · try simp only [beq_iff_eq, beq_eq_false_iff_ne, Bool.not_eq_true, Bool.not_eq_false, decide_eq_true_eq, decide_eq_false_iff_not, Bool.not_eq_true', Bool.not_eq_false', bne_iff_ne, Bool.not_eq_eq_eq_not, Bool.not_true, Bool.not_false, ne_eq, Decidable.not_not, Int.not_lt, Int.not_le] at h71
        have hm : mayE e = true := by
          by_cases h : mayE e = true
          · exact h
          · exfalso; unfold errE at h71; rw [if_neg h] at h71; omega
        have hpl : (putE e).length ≤ 9223372036854775807 := putE_len hm
        rw [show putS e = strOf (putE e) from if_pos hm]
        refine Tr.skip (At.then_normal ?_)
        refine Tr.seq ?_
        refine Tr.region ?_
        refine TrL.move rfl rfl ?_
        refine TrL.call rfl rfl rfl ca13 .nil (fun Ft75 hUt75 => Take_spec (l := putE e) hpl (fun pa3 ca3 pd3 cd3 => ?_))
        rw [show takeEd (putE e) = (e, 0) by unfold takeEd; rw [take_put hm]]
        refine TrL.move rfl rfl ?_
        refine TrL.extract rfl rfl rfl ?_
        refine TrL.extract rfl rfl rfl ?_
        refine TrL.alloc rfl zc25 (fun b13 => ?_)
        refine TrL.storeLA rfl rfl sz25 ⟨rfl, List.cons_ne_nil _ _⟩ rfl (by repeat (first | with_reducible exact Upd.here | with_reducible apply Upd.there | with_reducible apply Upd.app_nil | with_reducible apply Upd.app_cons)) (by rfl) ?_
        refine TrL.assign rfl rfl ?_
        refine TrL.nil (At.then_normal ?_)
        refine Tr.seq ?_
        refine Tr.region ?_
        refine TrL.loadLA rfl rfl ag25 sz25 (by repeat (first | with_reducible exact Pick.here | with_reducible apply Pick.there | with_reducible apply Pick.app_nil | with_reducible apply Pick.app_cons)) (by rfl) ?_
        refine TrL.loadLA rfl rfl ag25 sz25 (by repeat (first | with_reducible exact Pick.here | with_reducible apply Pick.there | with_reducible apply Pick.app_nil | with_reducible apply Pick.app_cons)) (by rfl) ?_
        refine TrL.call rfl rfl rfl ca15 .nil (fun Ft80 hUt80 => SameEditD_spec (a := e) (b := e) (RowC.up hUt80 (by repeat (first | with_reducible exact Pick.here | with_reducible apply Pick.there | with_reducible apply Pick.app_nil | with_reducible apply Pick.app_cons))) (hUt80.ro (SlIn.mono _ _ _ _) hA) (RowC.up hUt80 (by repeat (first | with_reducible exact Pick.here | with_reducible apply Pick.there | with_reducible apply Pick.app_nil | with_reducible apply Pick.app_cons))) (hUt80.ro (SlIn.mono _ _ _ _) hD) hla hld ?_)
        refine TrL.knownB (t := 80) (c := true) rfl (by exact sameEd_self _) ?_
        refine TrL.move rfl rfl ?_
        refine TrL.want rfl rfl ?_
        refine TrL.move rfl rfl ?_
        refine TrL.want rfl rfl ?_
        refine TrL.eqi rfl rfl rfl ?_
        refine TrL.knownB (t := 83) (c := true) rfl (by simp) ?_
        refine TrL.pickT rfl rfl rfl ?_
        refine TrL.move rfl rfl ?_
        refine TrL.want rfl rfl ?_
        refine TrL.call rfl rfl rfl ca10 .nil (fun Ft86 hUt86 => awake_spec ?_)
        refine TrL.pickT rfl rfl rfl ?_
        refine TrL.assign rfl rfl ?_
        refine TrL.nil (At.then_normal ?_)
        refine Tr.ret (At.retP [] (.inl rfl) rfl (Res.tmp rfl Res.nil) (by repeat (first | exact Picks.nil | with_reducible exact Pick.here | with_reducible apply Pick.there | with_reducible apply Pick.app_nil | with_reducible apply Pick.app_cons | apply Picks.cons)) (by exact hK))
end Go.Proofs.Ytiefmfimbmkdjaa

/-
  Edits that may be: contracts.
  No condition but those that each statement names.
-/
import Derived.Test.YtiefmfimbmkdjaaMfC
namespace Go.Proofs.Ytiefmfimbmkdjaa
set_option linter.unusedSimpArgs false
set_option linter.unusedVariables false
set_option linter.unusedSectionVars false
open Go.RowKit
variable [Obs]


omit [Obs] in
theorem any_not {α : Type} (l : List α) (p : α → Bool) : l.any (fun x => !p x) = !l.all p := by induction l with
  | nil => rfl
  | cons a l ih => simp [ih, Bool.not_and]
set_option maxHeartbeats 1000000 in
theorem Check_spec {F : Hp} {K : Value → List HProp → Prop} {pa : Option Addr} {ca : Nat} {pd : Option Addr} {cd : Nat} {e : Ed} (hA : SlIn F encT 4 pa e.add) (hD : SlIn F encI 1 pd e.drop) (hla : e.add.length ≤ 9223372036854775807) (hld : e.drop.length ≤ 9223372036854775807) (hK : K (.int .i64 (if mayE e = true then 0 else 1)) []) : CallK Try.prog F 16 #[.agg (edC pa ca pd cd e).toArray] [] K := by
  refine CallK.enter Try.func16 rfl Try.ntmps16 rfl ?_
  refine Tr.seq ?_
  refine Tr.region ?_
  refine TrL.boxA rfl rfl (fun b1 => ?_)
  refine TrL.assign rfl rfl ?_
  refine TrL.nil (At.then_normal ?_)
  refine Tr.seq ?_
  refine Tr.region ?_
  refine TrL.assign rfl rfl ?_
  refine TrL.nil (At.then_normal ?_)
  refine Tr.seq ?_
  refine Tr.region ?_
  refine TrL.assign rfl rfl ?_
  refine TrL.nil (At.then_normal ?_)
  refine Tr.seq ?_
  refine Tr.seq ?_
  refine Tr.region ?_
  refine TrL.field0 rfl rfl fl25_0 ?_
  refine TrL.load1 rfl rfl sc22 (Sees.cl1 (by repeat (first | with_reducible exact Pick.here | with_reducible apply Pick.there | with_reducible apply Pick.app_nil | with_reducible apply Pick.app_cons)) (by rfl)) ?_
  refine TrL.lenl rfl rfl se22 ?_
  refine TrL.gtr rfl rfl rfl ?_
  refine TrL.move rfl rfl ?_
  refine TrL.cases (t := 9) rfl (fun h9 => ?_) (fun h9 => ?_)
  · try simp only [beq_iff_eq, beq_eq_false_iff_ne, Bool.not_eq_true, Bool.not_eq_false, decide_eq_true_eq, decide_eq_false_iff_not, Bool.not_eq_true', Bool.not_eq_false', bne_iff_ne, Bool.not_eq_eq_eq_not, Bool.not_true, Bool.not_false, ne_eq, Decidable.not_not, Int.not_lt, Int.not_le] at h9
    refine TrL.unwant rfl rfl rfl ?_
    refine TrL.unwant rfl rfl rfl ?_
    refine TrL.unwant rfl rfl rfl ?_
    refine TrL.unwant rfl rfl rfl ?_
    refine TrL.pickT rfl rfl rfl ?_
    refine TrL.move rfl rfl ?_
    refine TrL.unwant rfl rfl rfl ?_
    refine TrL.unwant rfl rfl rfl ?_
    refine TrL.unwant rfl rfl rfl ?_
    refine TrL.unwant rfl rfl rfl ?_
    refine TrL.pickT rfl rfl rfl ?_
    refine TrL.move rfl rfl ?_
    refine TrL.unwant rfl rfl rfl ?_
    refine TrL.unwant rfl rfl rfl ?_
    refine TrL.unwant rfl rfl rfl ?_
    refine TrL.unwant rfl rfl rfl ?_
    refine TrL.pickT rfl rfl rfl ?_
    refine TrL.move rfl rfl ?_
    refine TrL.unwant rfl rfl rfl ?_
    refine TrL.unwant rfl rfl rfl ?_
    refine TrL.unwant rfl rfl rfl ?_
    refine TrL.unwant rfl rfl rfl ?_
    refine TrL.unwant rfl rfl rfl ?_
    refine TrL.unwant rfl rfl rfl ?_
    refine TrL.pickT rfl rfl rfl ?_
    refine TrL.move rfl rfl ?_
    refine TrL.unwant rfl rfl rfl ?_
    refine TrL.unwant rfl rfl rfl ?_
    refine TrL.unwant rfl rfl rfl ?_
    refine TrL.unwant rfl rfl rfl ?_
    refine TrL.unwant rfl rfl rfl ?_
    refine TrL.unwant rfl rfl rfl ?_
    refine TrL.pickT rfl rfl rfl ?_
    refine TrL.nil (At.then_normal ?_)
    refine Tr.condT rfl ?_
    refine Tr.seq ?_
    refine Tr.region ?_
    refine TrL.assign rfl rfl ?_
    refine TrL.nil (At.then_normal ?_)
    refine Tr.ret (At.then_ret (At.retP [] (.inl rfl) rfl (Res.tmp rfl Res.nil) (by repeat (first | exact Picks.nil | with_reducible exact Pick.here | with_reducible apply Pick.there | with_reducible apply Pick.app_nil | with_reducible apply Pick.app_cons | apply Picks.cons)) (by 
        refine ki ?_ hK
        try simp only [any_not] at *
        unfold mayE
        grind)))
  · try simp only [beq_iff_eq, beq_eq_false_iff_ne, Bool.not_eq_true, Bool.not_eq_false, decide_eq_true_eq, decide_eq_false_iff_not, Bool.not_eq_true', Bool.not_eq_false', bne_iff_ne, Bool.not_eq_eq_eq_not, Bool.not_true, Bool.not_false, ne_eq, Decidable.not_not, Int.not_lt, Int.not_le] at h9
    refine TrL.want rfl rfl ?_
    refine TrL.field rfl rfl fl25_1 ?_
    refine TrL.want rfl rfl ?_
    refine TrL.load1 rfl rfl sc23 (Sees.cl1 (by repeat (first | with_reducible exact Pick.here | with_reducible apply Pick.there | with_reducible apply Pick.app_nil | with_reducible apply Pick.app_cons)) (by rfl)) ?_
    refine TrL.want rfl rfl ?_
    refine TrL.lenl rfl rfl se23 ?_
    refine TrL.want rfl rfl ?_
    refine TrL.gtr rfl rfl rfl ?_
    refine TrL.pickF rfl rfl rfl ?_
    refine TrL.move rfl rfl ?_
    refine TrL.cases (t := 15) rfl (fun h15 => ?_) (fun h15 => ?_)
    · try simp only [beq_iff_eq, beq_eq_false_iff_ne, Bool.not_eq_true, Bool.not_eq_false, decide_eq_true_eq, decide_eq_false_iff_not, Bool.not_eq_true', Bool.not_eq_false', bne_iff_ne, Bool.not_eq_eq_eq_not, Bool.not_true, Bool.not_false, ne_eq, Decidable.not_not, Int.not_lt, Int.not_le] at h15
      refine TrL.unwant rfl rfl rfl ?_
      refine TrL.unwant rfl rfl rfl ?_
      refine TrL.unwant rfl rfl rfl ?_
      refine TrL.unwant rfl rfl rfl ?_
      refine TrL.pickT rfl rfl rfl ?_
      refine TrL.move rfl rfl ?_
      refine TrL.unwant rfl rfl rfl ?_
      refine TrL.unwant rfl rfl rfl ?_
      refine TrL.unwant rfl rfl rfl ?_
      refine TrL.unwant rfl rfl rfl ?_
      refine TrL.pickT rfl rfl rfl ?_
      refine TrL.move rfl rfl ?_
      refine TrL.unwant rfl rfl rfl ?_
      refine TrL.unwant rfl rfl rfl ?_
      refine TrL.unwant rfl rfl rfl ?_
      refine TrL.unwant rfl rfl rfl ?_
      refine TrL.unwant rfl rfl rfl ?_
      refine TrL.unwant rfl rfl rfl ?_
      refine TrL.pickT rfl rfl rfl ?_
      refine TrL.move rfl rfl ?_
      refine TrL.unwant rfl rfl rfl ?_
      refine TrL.unwant rfl rfl rfl ?_
      refine TrL.unwant rfl rfl rfl ?_
      refine TrL.unwant rfl rfl rfl ?_
      refine TrL.unwant rfl rfl rfl ?_
      refine TrL.unwant rfl rfl rfl ?_
      refine TrL.pickT rfl rfl rfl ?_
      refine TrL.nil (At.then_normal ?_)
      refine Tr.condT rfl ?_
      refine Tr.seq ?_
      refine Tr.region ?_
      refine TrL.assign rfl rfl ?_
      refine TrL.nil (At.then_normal ?_)
      refine Tr.ret (At.then_ret (At.retP [] (.inl rfl) rfl (Res.tmp rfl Res.nil) (by repeat (first | exact Picks.nil | with_reducible exact Pick.here | with_reducible apply Pick.there | with_reducible apply Pick.app_nil | with_reducible apply Pick.app_cons | apply Picks.cons)) (by 
          refine ki ?_ hK
          try simp only [any_not] at *
          unfold mayE
          grind)))
    · try simp only [beq_iff_eq, beq_eq_false_iff_ne, Bool.not_eq_true, Bool.not_eq_false, decide_eq_true_eq, decide_eq_false_iff_not, Bool.not_eq_true', Bool.not_eq_false', bne_iff_ne, Bool.not_eq_eq_eq_not, Bool.not_true, Bool.not_false, ne_eq, Decidable.not_not, Int.not_lt, Int.not_le] at h15
      refine TrL.want rfl rfl ?_
      refine TrL.field0 rfl rfl fl25_0 ?_
      refine TrL.want rfl rfl ?_
      refine TrL.load1 rfl rfl sc22 (Sees.cl1 (by repeat (first | with_reducible exact Pick.here | with_reducible apply Pick.there | with_reducible apply Pick.app_nil | with_reducible apply Pick.app_cons)) (by rfl)) ?_
      refine TrL.want rfl rfl ?_
      refine TrL.move rfl rfl ?_
      refine TrL.want rfl rfl ?_
      refine TrL.call rfl rfl rfl ca47 .nil (fun Ft19 hUt19 => ContainsFuncT_spec (pr := fun t => !tabOk t) (cap := []) (g := 44) (fun _ _ _ _ h => odd_spec h) rfl (hUt19.ro (SlIn.mono _ _ _ _) hA) hla ?_)
      refine TrL.pickF rfl rfl rfl ?_
      refine TrL.move rfl rfl ?_
      refine TrL.cases (t := 21) rfl (fun h21 => ?_) (fun h21 => ?_)
      · try simp only [beq_iff_eq, beq_eq_false_iff_ne, Bool.not_eq_true, Bool.not_eq_false, decide_eq_true_eq, decide_eq_false_iff_not, Bool.not_eq_true', Bool.not_eq_false', bne_iff_ne, Bool.not_eq_eq_eq_not, Bool.not_true, Bool.not_false, ne_eq, Decidable.not_not, Int.not_lt, Int.not_le] at h21
        refine TrL.unwant rfl rfl rfl ?_
        refine TrL.unwant rfl rfl rfl ?_
        refine TrL.unwant rfl rfl rfl ?_
        refine TrL.unwant rfl rfl rfl ?_
        refine TrL.pickT rfl rfl rfl ?_
        refine TrL.move rfl rfl ?_
        refine TrL.unwant rfl rfl rfl ?_
        refine TrL.unwant rfl rfl rfl ?_
        refine TrL.unwant rfl rfl rfl ?_
        refine TrL.unwant rfl rfl rfl ?_
        refine TrL.unwant rfl rfl rfl ?_
        refine TrL.unwant rfl rfl rfl ?_
        refine TrL.pickT rfl rfl rfl ?_
        refine TrL.move rfl rfl ?_
        refine TrL.unwant rfl rfl rfl ?_
        refine TrL.unwant rfl rfl rfl ?_
        refine TrL.unwant rfl rfl rfl ?_
        refine TrL.unwant rfl rfl rfl ?_
        refine TrL.unwant rfl rfl rfl ?_
        refine TrL.unwant rfl rfl rfl ?_
        refine TrL.pickT rfl rfl rfl ?_
        refine TrL.nil (At.then_normal ?_)
        refine Tr.condT rfl ?_
        refine Tr.seq ?_
        refine Tr.region ?_
        refine TrL.assign rfl rfl ?_
        refine TrL.nil (At.then_normal ?_)
        refine Tr.ret (At.then_ret (At.retP [] (.inl rfl) rfl (Res.tmp rfl Res.nil) (by repeat (first | exact Picks.nil | with_reducible exact Pick.here | with_reducible apply Pick.there | with_reducible apply Pick.app_nil | with_reducible apply Pick.app_cons | apply Picks.cons)) (by 
            refine ki ?_ hK
            try simp only [any_not] at *
            unfold mayE
            grind)))
      · try simp only [beq_iff_eq, beq_eq_false_iff_ne, Bool.not_eq_true, Bool.not_eq_false, decide_eq_true_eq, decide_eq_false_iff_not, Bool.not_eq_true', Bool.not_eq_false', bne_iff_ne, Bool.not_eq_eq_eq_not, Bool.not_true, Bool.not_false, ne_eq, Decidable.not_not, Int.not_lt, Int.not_le] at h21
        refine TrL.want rfl rfl ?_
        refine TrL.field rfl rfl fl25_1 ?_
        refine TrL.want rfl rfl ?_
        refine TrL.load1 rfl rfl sc23 (Sees.cl1 (by repeat (first | with_reducible exact Pick.here | with_reducible apply Pick.there | with_reducible apply Pick.app_nil | with_reducible apply Pick.app_cons)) (by rfl)) ?_
        refine TrL.want rfl rfl ?_
        refine TrL.move rfl rfl ?_
        refine TrL.want rfl rfl ?_
        refine TrL.call rfl rfl rfl ca48 .nil (fun Ft25 hUt25 => ContainsFuncI_spec (pr := fun t => !numOk t) (cap := []) (g := 46) (fun _ _ _ _ h => none_spec h) rfl (hUt25.ro (SlIn.mono _ _ _ _) hD) hld ?_)
        refine TrL.pickF rfl rfl rfl ?_
        refine TrL.move rfl rfl ?_
        refine TrL.cases (t := 27) rfl (fun h27 => ?_) (fun h27 => ?_)
        · try simp only [beq_iff_eq, beq_eq_false_iff_ne, Bool.not_eq_true, Bool.not_eq_false, decide_eq_true_eq, decide_eq_false_iff_not, Bool.not_eq_true', Bool.not_eq_false', bne_iff_ne, Bool.not_eq_eq_eq_not, Bool.not_true, Bool.not_false, ne_eq, Decidable.not_not, Int.not_lt, Int.not_le] at h27
          refine TrL.unwant rfl rfl rfl ?_
          refine TrL.unwant rfl rfl rfl ?_
          refine TrL.unwant rfl rfl rfl ?_
          refine TrL.unwant rfl rfl rfl ?_
          refine TrL.unwant rfl rfl rfl ?_
          refine TrL.unwant rfl rfl rfl ?_
          refine TrL.pickT rfl rfl rfl ?_
          refine TrL.move rfl rfl ?_
          refine TrL.unwant rfl rfl rfl ?_
          refine TrL.unwant rfl rfl rfl ?_
          refine TrL.unwant rfl rfl rfl ?_
          refine TrL.unwant rfl rfl rfl ?_
          refine TrL.unwant rfl rfl rfl ?_
          refine TrL.unwant rfl rfl rfl ?_
          refine TrL.pickT rfl rfl rfl ?_
          refine TrL.nil (At.then_normal ?_)
          refine Tr.condT rfl ?_
          refine Tr.seq ?_
          refine Tr.region ?_
          refine TrL.assign rfl rfl ?_
          refine TrL.nil (At.then_normal ?_)
          refine Tr.ret (At.then_ret (At.retP [] (.inl rfl) rfl (Res.tmp rfl Res.nil) (by repeat (first | exact Picks.nil | with_reducible exact Pick.here | with_reducible apply Pick.there | with_reducible apply Pick.app_nil | with_reducible apply Pick.app_cons | apply Picks.cons)) (by 
              refine ki ?_ hK
              try simp only [any_not] at *
              unfold mayE
              grind)))
        · try simp only [beq_iff_eq, beq_eq_false_iff_ne, Bool.not_eq_true, Bool.not_eq_false, decide_eq_true_eq, decide_eq_false_iff_not, Bool.not_eq_true', Bool.not_eq_false', bne_iff_ne, Bool.not_eq_eq_eq_not, Bool.not_true, Bool.not_false, ne_eq, Decidable.not_not, Int.not_lt, Int.not_le] at h27
          refine TrL.want rfl rfl ?_
          refine TrL.field rfl rfl fl25_2 ?_
          refine TrL.want rfl rfl ?_
          refine TrL.load1 rfl rfl sc3 (Sees.cl1 (by repeat (first | with_reducible exact Pick.here | with_reducible apply Pick.there | with_reducible apply Pick.app_nil | with_reducible apply Pick.app_cons)) (by rfl)) ?_
          refine TrL.want rfl rfl ?_
          refine TrL.field rfl rfl fl25_3 ?_
          refine TrL.want rfl rfl ?_
          refine TrL.load1 rfl rfl sc3 (Sees.cl1 (by repeat (first | with_reducible exact Pick.here | with_reducible apply Pick.there | with_reducible apply Pick.app_nil | with_reducible apply Pick.app_cons)) (by rfl)) ?_
          refine TrL.want rfl rfl ?_
          refine TrL.min2 rfl rfl ?_
          refine TrL.want rfl rfl ?_
          refine TrL.lss rfl rfl rfl ?_
          refine TrL.pickF rfl rfl rfl ?_
          refine TrL.move rfl rfl ?_
          refine TrL.cases (t := 35) rfl (fun h35 => ?_) (fun h35 => ?_)
          · try simp only [beq_iff_eq, beq_eq_false_iff_ne, Bool.not_eq_true, Bool.not_eq_false, decide_eq_true_eq, decide_eq_false_iff_not, Bool.not_eq_true', Bool.not_eq_false', bne_iff_ne, Bool.not_eq_eq_eq_not, Bool.not_true, Bool.not_false, ne_eq, Decidable.not_not, Int.not_lt, Int.not_le] at h35
            refine TrL.unwant rfl rfl rfl ?_
            refine TrL.unwant rfl rfl rfl ?_
            refine TrL.unwant rfl rfl rfl ?_
            refine TrL.unwant rfl rfl rfl ?_
            refine TrL.unwant rfl rfl rfl ?_
            refine TrL.unwant rfl rfl rfl ?_
            refine TrL.pickT rfl rfl rfl ?_
            refine TrL.nil (At.then_normal ?_)
            refine Tr.condT rfl ?_
            refine Tr.seq ?_
            refine Tr.region ?_
            refine TrL.assign rfl rfl ?_
            refine TrL.nil (At.then_normal ?_)
            refine Tr.ret (At.then_ret (At.retP [] (.inl rfl) rfl (Res.tmp rfl Res.nil) (by repeat (first | exact Picks.nil | with_reducible exact Pick.here | with_reducible apply Pick.there | with_reducible apply Pick.app_nil | with_reducible apply Pick.app_cons | apply Picks.cons)) (by 
                refine ki ?_ hK
                try simp only [any_not] at *
                unfold mayE
                grind)))
          · try simp only [beq_iff_eq, beq_eq_false_iff_ne, Bool.not_eq_true, Bool.not_eq_false, decide_eq_true_eq, decide_eq_false_iff_not, Bool.not_eq_true', Bool.not_eq_false', bne_iff_ne, Bool.not_eq_eq_eq_not, Bool.not_true, Bool.not_false, ne_eq, Decidable.not_not, Int.not_lt, Int.not_le] at h35
            refine TrL.want rfl rfl ?_
            refine TrL.field rfl rfl fl25_2 ?_
            refine TrL.want rfl rfl ?_
            refine TrL.load1 rfl rfl sc3 (Sees.cl1 (by repeat (first | with_reducible exact Pick.here | with_reducible apply Pick.there | with_reducible apply Pick.app_nil | with_reducible apply Pick.app_cons)) (by rfl)) ?_
            refine TrL.want rfl rfl ?_
            refine TrL.field rfl rfl fl25_3 ?_
            refine TrL.want rfl rfl ?_
            refine TrL.load1 rfl rfl sc3 (Sees.cl1 (by repeat (first | with_reducible exact Pick.here | with_reducible apply Pick.there | with_reducible apply Pick.app_nil | with_reducible apply Pick.app_cons)) (by rfl)) ?_
            refine TrL.want rfl rfl ?_
            refine TrL.max2 rfl rfl ?_
            refine TrL.want rfl rfl ?_
            refine TrL.gtr rfl rfl rfl ?_
            refine TrL.pickF rfl rfl rfl ?_
            refine TrL.nil (At.then_normal ?_)
            refine Tr.cond rfl (fun h42 => ?_) (fun h42 => ?_)
            · try simp only [beq_iff_eq, beq_eq_false_iff_ne, Bool.not_eq_true, Bool.not_eq_false, decide_eq_true_eq, decide_eq_false_iff_not, Bool.not_eq_true', Bool.not_eq_false', bne_iff_ne, Bool.not_eq_eq_eq_not, Bool.not_true, Bool.not_false, ne_eq, Decidable.not_not, Int.not_lt, Int.not_le] at h42
              refine Tr.seq ?_
              refine Tr.region ?_
              refine TrL.assign rfl rfl ?_
              refine TrL.nil (At.then_normal ?_)
              refine Tr.ret (At.then_ret (At.retP [] (.inl rfl) rfl (Res.tmp rfl Res.nil) (by repeat (first | exact Picks.nil | with_reducible exact Pick.here | with_reducible apply Pick.there | with_reducible apply Pick.app_nil | with_reducible apply Pick.app_cons | apply Picks.cons)) (by 
                  refine ki ?_ hK
                  try simp only [any_not] at *
                  unfold mayE
                  grind)))
            · try simp only [beq_iff_eq, beq_eq_false_iff_ne, Bool.not_eq_true, Bool.not_eq_false, decide_eq_true_eq, decide_eq_false_iff_not, Bool.not_eq_true', Bool.not_eq_false', bne_iff_ne, Bool.not_eq_eq_eq_not, Bool.not_true, Bool.not_false, ne_eq, Decidable.not_not, Int.not_lt, Int.not_le] at h42
              refine Tr.skip (At.then_normal ?_)
              refine Tr.seq ?_
              refine Tr.region ?_
              refine TrL.assign rfl rfl ?_
              refine TrL.nil (At.then_normal ?_)
              refine Tr.ret (At.retP [] (.inl rfl) rfl (Res.tmp rfl Res.nil) (by repeat (first | exact Picks.nil | with_reducible exact Pick.here | with_reducible apply Pick.there | with_reducible apply Pick.app_nil | with_reducible apply Pick.app_cons | apply Picks.cons)) (by 
                  refine ki ?_ hK
                  try simp only [any_not] at *
                  unfold mayE
                  grind))

set_option maxHeartbeats 1000000 in
theorem May_spec {F : Hp} {K : Value → List HProp → Prop} {pa : Option Addr} {ca : Nat} {pd : Option Addr} {cd : Nat} {e : Ed} (hA : SlIn F encT 4 pa e.add) (hD : SlIn F encI 1 pd e.drop) (hla : e.add.length ≤ 9223372036854775807) (hld : e.drop.length ≤ 9223372036854775807) (hK : K (.bool (mayE e)) []) : CallK Try.prog F 31 #[.agg (edC pa ca pd cd e).toArray] [] K := by
  refine CallK.enter Try.func31 rfl Try.ntmps31 rfl ?_
  refine Tr.seq ?_
  refine Tr.region ?_
  refine TrL.boxA rfl rfl (fun b1 => ?_)
  refine TrL.assign rfl rfl ?_
  refine TrL.nil (At.then_normal ?_)
  refine Tr.seq ?_
  refine Tr.seq ?_
  refine Tr.region ?_
  refine TrL.field0 rfl rfl fl25_0 ?_
  refine TrL.load1 rfl rfl sc22 (Sees.cl1 (by repeat (first | with_reducible exact Pick.here | with_reducible apply Pick.there | with_reducible apply Pick.app_nil | with_reducible apply Pick.app_cons)) (by rfl)) ?_
  refine TrL.lenl rfl rfl se22 ?_
  refine TrL.gtr rfl rfl rfl ?_
  refine TrL.move rfl rfl ?_
  refine TrL.cases (t := 9) rfl (fun h9 => ?_) (fun h9 => ?_)
  · try simp only [beq_iff_eq, beq_eq_false_iff_ne, Bool.not_eq_true, Bool.not_eq_false, decide_eq_true_eq, decide_eq_false_iff_not, Bool.not_eq_true', Bool.not_eq_false', bne_iff_ne, Bool.not_eq_eq_eq_not, Bool.not_true, Bool.not_false, ne_eq, Decidable.not_not, Int.not_lt, Int.not_le] at h9
    refine TrL.unwant rfl rfl rfl ?_
    refine TrL.unwant rfl rfl rfl ?_
    refine TrL.unwant rfl rfl rfl ?_
    refine TrL.unwant rfl rfl rfl ?_
    refine TrL.pickT rfl rfl rfl ?_
    refine TrL.nil (At.then_normal ?_)
    refine Tr.condT rfl ?_
    refine Tr.seq ?_
    refine Tr.region ?_
    refine TrL.assign rfl rfl ?_
    refine TrL.nil (At.then_normal ?_)
    refine Tr.ret (At.then_ret (At.retP [] (.inl rfl) rfl (Res.tmp rfl Res.nil) (by repeat (first | exact Picks.nil | with_reducible exact Pick.here | with_reducible apply Pick.there | with_reducible apply Pick.app_nil | with_reducible apply Pick.app_cons | apply Picks.cons)) (by 
        refine kb ?_ hK
        unfold mayE
        first | (rw [hbad]; simp) | grind)))
  · try simp only [beq_iff_eq, beq_eq_false_iff_ne, Bool.not_eq_true, Bool.not_eq_false, decide_eq_true_eq, decide_eq_false_iff_not, Bool.not_eq_true', Bool.not_eq_false', bne_iff_ne, Bool.not_eq_eq_eq_not, Bool.not_true, Bool.not_false, ne_eq, Decidable.not_not, Int.not_lt, Int.not_le] at h9
    refine TrL.want rfl rfl ?_
    refine TrL.field rfl rfl fl25_1 ?_
    refine TrL.want rfl rfl ?_
    refine TrL.load1 rfl rfl sc23 (Sees.cl1 (by repeat (first | with_reducible exact Pick.here | with_reducible apply Pick.there | with_reducible apply Pick.app_nil | with_reducible apply Pick.app_cons)) (by rfl)) ?_
    refine TrL.want rfl rfl ?_
    refine TrL.lenl rfl rfl se23 ?_
    refine TrL.want rfl rfl ?_
    refine TrL.gtr rfl rfl rfl ?_
    refine TrL.pickF rfl rfl rfl ?_
    refine TrL.nil (At.then_normal ?_)
    refine Tr.cond rfl (fun h14 => ?_) (fun h14 => ?_)
    · try simp only [beq_iff_eq, beq_eq_false_iff_ne, Bool.not_eq_true, Bool.not_eq_false, decide_eq_true_eq, decide_eq_false_iff_not, Bool.not_eq_true', Bool.not_eq_false', bne_iff_ne, Bool.not_eq_eq_eq_not, Bool.not_true, Bool.not_false, ne_eq, Decidable.not_not, Int.not_lt, Int.not_le] at h14
      refine Tr.seq ?_
      refine Tr.region ?_
      refine TrL.assign rfl rfl ?_
      refine TrL.nil (At.then_normal ?_)
      refine Tr.ret (At.then_ret (At.retP [] (.inl rfl) rfl (Res.tmp rfl Res.nil) (by repeat (first | exact Picks.nil | with_reducible exact Pick.here | with_reducible apply Pick.there | with_reducible apply Pick.app_nil | with_reducible apply Pick.app_cons | apply Picks.cons)) (by 
          refine kb ?_ hK
          unfold mayE
          first | (rw [hbad]; simp) | grind)))
    · try simp only [beq_iff_eq, beq_eq_false_iff_ne, Bool.not_eq_true, Bool.not_eq_false, decide_eq_true_eq, decide_eq_false_iff_not, Bool.not_eq_true', Bool.not_eq_false', bne_iff_ne, Bool.not_eq_eq_eq_not, Bool.not_true, Bool.not_false, ne_eq, Decidable.not_not, Int.not_lt, Int.not_le] at h14
      refine Tr.skip (At.then_normal ?_)
      refine Tr.seq ?_
      refine Tr.seq ?_
      refine Tr.region ?_
      refine TrL.assign rfl rfl ?_
      refine TrL.nil (At.then_normal ?_)
      refine Tr.block ?_
      refine Tr.loopK [1] (α := Nat) (fun i => [(3, .int .i64 (i : Int))]) (fun i => []) (fun i => i ≤ e.add.length ∧ ∀ x ∈ e.add.take i, tabOk x = true) (fun i => e.add.length - i) (0) (by rfl) ?_ (by repeat (first | exact Sub.nil | refine Sub.cons (by rfl) ?_)) (by repeat (first | exact Picks.nil | with_reducible exact Pick.here | with_reducible apply Pick.there | with_reducible apply Pick.app_nil | with_reducible apply Pick.app_cons | apply Picks.cons)) ?_
      · exact ⟨Nat.zero_le _, by simp⟩
      rintro i ⟨hi, hall⟩
      refine Tr.seq ?_
      refine Tr.seq ?_
      refine Tr.region ?_
      refine TrL.move rfl rfl ?_
      refine TrL.field0 rfl rfl fl25_0 ?_
      refine TrL.load1 rfl rfl sc22 (Sees.cl1 (by repeat (first | with_reducible exact Pick.here | with_reducible apply Pick.there | with_reducible apply Pick.app_nil | with_reducible apply Pick.app_cons)) (by rfl)) ?_
      refine TrL.lenl rfl rfl se22 ?_
      refine TrL.lss rfl rfl rfl ?_
      refine TrL.nil (At.then_normal ?_)
      refine Tr.cond rfl (fun h19 => ?_) (fun h19 => ?_)
      · try simp only [beq_iff_eq, beq_eq_false_iff_ne, Bool.not_eq_true, Bool.not_eq_false, decide_eq_true_eq, decide_eq_false_iff_not, Bool.not_eq_true', Bool.not_eq_false', bne_iff_ne, Bool.not_eq_eq_eq_not, Bool.not_true, Bool.not_false, ne_eq, Decidable.not_not, Int.not_lt, Int.not_le] at h19
        refine Tr.skip (At.then_normal ?_)
        refine Tr.seq ?_
        refine Tr.block ?_
        refine Tr.seq ?_
        refine Tr.region ?_
        refine TrL.field0 rfl rfl fl25_0 ?_
        refine TrL.load1 rfl rfl sc22 (Sees.cl1 (by repeat (first | with_reducible exact Pick.here | with_reducible apply Pick.there | with_reducible apply Pick.app_nil | with_reducible apply Pick.app_cons)) (by rfl)) ?_
        refine TrL.move rfl rfl ?_
        refine TrL.idxF rfl rfl rfl se22 sz46 (by assumption) rfl rfl rfl (List.getElem?_eq_getElem (by omega)) (fun b25 o25 hp25 hc25 => ?_)
        refine TrL.loadRA rfl rfl ag46 sz46 (by assumption) (by rfl) ?_
        refine TrL.call rfl rfl rfl ca58 .nil (fun Ft27 hUt27 => tab_spec ?_)
        refine TrL.not rfl rfl ?_
        refine TrL.nil (At.then_normal ?_)
        refine Tr.cond rfl (fun h28 => ?_) (fun h28 => ?_)
        · try simp only [beq_iff_eq, beq_eq_false_iff_ne, Bool.not_eq_true, Bool.not_eq_false, decide_eq_true_eq, decide_eq_false_iff_not, Bool.not_eq_true', Bool.not_eq_false', bne_iff_ne, Bool.not_eq_eq_eq_not, Bool.not_true, Bool.not_false, ne_eq, Decidable.not_not, Int.not_lt, Int.not_le] at h28
          have hbad : e.add.all tabOk = false := List.all_eq_false.2 ⟨_, List.getElem_mem _, by rw [h28]; simp⟩
          refine Tr.seq ?_
          refine Tr.region ?_
          refine TrL.assign rfl rfl ?_
          refine TrL.nil (At.then_normal ?_)
          refine Tr.ret (At.block_ret (At.then_ret (At.then_ret (At.block_ret (At.then_ret (At.retP [] (.inl rfl) rfl (Res.tmp rfl Res.nil) (by repeat (first | exact Picks.nil | with_reducible exact Pick.here | with_reducible apply Pick.there | with_reducible apply Pick.app_nil | with_reducible apply Pick.app_cons | apply Picks.cons)) (by 
              refine kb ?_ hK
              unfold mayE
              first | (rw [hbad]; simp) | grind)))))))
        · try simp only [beq_iff_eq, beq_eq_false_iff_ne, Bool.not_eq_true, Bool.not_eq_false, decide_eq_true_eq, decide_eq_false_iff_not, Bool.not_eq_true', Bool.not_eq_false', bne_iff_ne, Bool.not_eq_eq_eq_not, Bool.not_true, Bool.not_false, ne_eq, Decidable.not_not, Int.not_lt, Int.not_le] at h28
          refine Tr.skip (At.block_normal (At.then_normal ?_))
          refine Tr.region ?_
          refine TrL.move rfl rfl ?_
          refine TrL.addI rfl rfl rfl (by omega) ?_
          refine TrL.assign rfl rfl ?_
          refine TrL.nil ?_
          refine At.again (i + 1) ⟨by omega, fun x hx => ?_⟩ (by omega) (by repeat (first | exact Sub.nil | refine Sub.cons (by rfl) ?_)) (by repeat (first | exact Picks.nil | with_reducible exact Pick.here | with_reducible apply Pick.there | with_reducible apply Pick.app_nil | with_reducible apply Pick.app_cons | apply Picks.cons))
          rw [List.take_succ_eq_append_getElem (by omega)] at hx
          rcases List.mem_append.1 hx with hx | hx
          · exact hall x hx
          · simp only [List.mem_singleton] at hx; subst hx; exact h28
      · try simp only [beq_iff_eq, beq_eq_false_iff_ne, Bool.not_eq_true, Bool.not_eq_false, decide_eq_true_eq, decide_eq_false_iff_not, Bool.not_eq_true', Bool.not_eq_false', bne_iff_ne, Bool.not_eq_eq_eq_not, Bool.not_true, Bool.not_false, ne_eq, Decidable.not_not, Int.not_lt, Int.not_le] at h19
        refine Tr.exit (At.then_exit (At.then_exit (At.block_hit (At.then_normal ?_))))
        refine Tr.seq ?_
        refine Tr.seq ?_
        refine Tr.region ?_
        refine TrL.assign rfl rfl ?_
        refine TrL.nil (At.then_normal ?_)
        refine Tr.block ?_
        have hadd : e.add.all tabOk = true := by rw [List.take_of_length_le (by omega)] at hall; exact List.all_eq_true.2 hall
        refine Tr.loopK [1] (α := Nat) (fun i => [(4, .int .i64 (i : Int))]) (fun i => []) (fun i => i ≤ e.drop.length ∧ ∀ x ∈ e.drop.take i, numOk x = true) (fun i => e.drop.length - i) (0) (by rfl) ?_ (by repeat (first | exact Sub.nil | refine Sub.cons (by rfl) ?_)) (by repeat (first | exact Picks.nil | with_reducible exact Pick.here | with_reducible apply Pick.there | with_reducible apply Pick.app_nil | with_reducible apply Pick.app_cons | apply Picks.cons)) ?_
        · exact ⟨Nat.zero_le _, by simp⟩
        rintro j ⟨hj, hall2⟩
        refine Tr.seq ?_
        refine Tr.seq ?_
        refine Tr.region ?_
        refine TrL.move rfl rfl ?_
        refine TrL.field rfl rfl fl25_1 ?_
        refine TrL.load1 rfl rfl sc23 (Sees.cl1 (by repeat (first | with_reducible exact Pick.here | with_reducible apply Pick.there | with_reducible apply Pick.app_nil | with_reducible apply Pick.app_cons)) (by rfl)) ?_
        refine TrL.lenl rfl rfl se23 ?_
        refine TrL.lss rfl rfl rfl ?_
        refine TrL.nil (At.then_normal ?_)
        refine Tr.cond rfl (fun h33 => ?_) (fun h33 => ?_)
        · try simp only [beq_iff_eq, beq_eq_false_iff_ne, Bool.not_eq_true, Bool.not_eq_false, decide_eq_true_eq, decide_eq_false_iff_not, Bool.not_eq_true', Bool.not_eq_false', bne_iff_ne, Bool.not_eq_eq_eq_not, Bool.not_true, Bool.not_false, ne_eq, Decidable.not_not, Int.not_lt, Int.not_le] at h33
          refine Tr.skip (At.then_normal ?_)
          refine Tr.seq ?_
          refine Tr.block ?_
          refine Tr.seq ?_
          refine Tr.region ?_
          refine TrL.field rfl rfl fl25_1 ?_
          refine TrL.load1 rfl rfl sc23 (Sees.cl1 (by repeat (first | with_reducible exact Pick.here | with_reducible apply Pick.there | with_reducible apply Pick.app_nil | with_reducible apply Pick.app_cons)) (by rfl)) ?_
          refine TrL.move rfl rfl ?_
          refine TrL.idxF rfl rfl rfl se23 sz3 (by assumption) rfl rfl rfl (List.getElem?_eq_getElem (by omega)) (fun b39 o39 hp39 hc39 => ?_)
          refine TrL.loadR1 rfl rfl sc3 (Cells.part hc39 (j := 0) rfl) ?_
          refine TrL.call rfl rfl rfl ca59 .nil (fun Ft41 hUt41 => number_spec ?_)
          refine TrL.not rfl rfl ?_
          refine TrL.nil (At.then_normal ?_)
          refine Tr.cond rfl (fun h42 => ?_) (fun h42 => ?_)
          · try simp only [beq_iff_eq, beq_eq_false_iff_ne, Bool.not_eq_true, Bool.not_eq_false, decide_eq_true_eq, decide_eq_false_iff_not, Bool.not_eq_true', Bool.not_eq_false', bne_iff_ne, Bool.not_eq_eq_eq_not, Bool.not_true, Bool.not_false, ne_eq, Decidable.not_not, Int.not_lt, Int.not_le] at h42
            have hbad : e.drop.all numOk = false := List.all_eq_false.2 ⟨_, List.getElem_mem _, by unfold numOk; rw [h42]; simp⟩
            refine Tr.seq ?_
            refine Tr.region ?_
            refine TrL.assign rfl rfl ?_
            refine TrL.nil (At.then_normal ?_)
            refine Tr.ret (At.block_ret (At.then_ret (At.then_ret (At.block_ret (At.then_ret (At.retP [] (.inl rfl) rfl (Res.tmp rfl Res.nil) (by repeat (first | exact Picks.nil | with_reducible exact Pick.here | with_reducible apply Pick.there | with_reducible apply Pick.app_nil | with_reducible apply Pick.app_cons | apply Picks.cons)) (by 
                refine kb ?_ hK
                unfold mayE
                first | (rw [hbad]; simp) | grind)))))))
          · try simp only [beq_iff_eq, beq_eq_false_iff_ne, Bool.not_eq_true, Bool.not_eq_false, decide_eq_true_eq, decide_eq_false_iff_not, Bool.not_eq_true', Bool.not_eq_false', bne_iff_ne, Bool.not_eq_eq_eq_not, Bool.not_true, Bool.not_false, ne_eq, Decidable.not_not, Int.not_lt, Int.not_le] at h42
            refine Tr.skip (At.block_normal (At.then_normal ?_))
            refine Tr.region ?_
            refine TrL.move rfl rfl ?_
            refine TrL.addI rfl rfl rfl (by omega) ?_
            refine TrL.assign rfl rfl ?_
            refine TrL.nil ?_
            refine At.again (j + 1) ⟨by omega, fun x hx => ?_⟩ (by omega) (by repeat (first | exact Sub.nil | refine Sub.cons (by rfl) ?_)) (by repeat (first | exact Picks.nil | with_reducible exact Pick.here | with_reducible apply Pick.there | with_reducible apply Pick.app_nil | with_reducible apply Pick.app_cons | apply Picks.cons))
            rw [List.take_succ_eq_append_getElem (by omega)] at hx
            rcases List.mem_append.1 hx with hx | hx
            · exact hall2 x hx
            · simp only [List.mem_singleton] at hx; subst hx; unfold numOk; exact h42
        · try simp only [beq_iff_eq, beq_eq_false_iff_ne, Bool.not_eq_true, Bool.not_eq_false, decide_eq_true_eq, decide_eq_false_iff_not, Bool.not_eq_true', Bool.not_eq_false', bne_iff_ne, Bool.not_eq_eq_eq_not, Bool.not_true, Bool.not_false, ne_eq, Decidable.not_not, Int.not_lt, Int.not_le] at h33
          refine Tr.exit (At.then_exit (At.then_exit (At.block_hit (At.then_normal ?_))))
          refine Tr.seq ?_
          have hdrop : e.drop.all numOk = true := by rw [List.take_of_length_le (by omega)] at hall2; exact List.all_eq_true.2 hall2
          refine Tr.region ?_
          refine TrL.field rfl rfl fl25_2 ?_
          refine TrL.load1 rfl rfl sc3 (Sees.cl1 (by repeat (first | with_reducible exact Pick.here | with_reducible apply Pick.there | with_reducible apply Pick.app_nil | with_reducible apply Pick.app_cons)) (by rfl)) ?_
          refine TrL.call rfl rfl rfl ca59 .nil (fun Ft45 hUt45 => number_spec ?_)
          refine TrL.move rfl rfl ?_
          refine TrL.cases (t := 46) rfl (fun h46 => ?_) (fun h46 => ?_)
          · try simp only [beq_iff_eq, beq_eq_false_iff_ne, Bool.not_eq_true, Bool.not_eq_false, decide_eq_true_eq, decide_eq_false_iff_not, Bool.not_eq_true', Bool.not_eq_false', bne_iff_ne, Bool.not_eq_eq_eq_not, Bool.not_true, Bool.not_false, ne_eq, Decidable.not_not, Int.not_lt, Int.not_le] at h46
            refine TrL.want rfl rfl ?_
            refine TrL.field rfl rfl fl25_3 ?_
            refine TrL.want rfl rfl ?_
            refine TrL.load1 rfl rfl sc3 (Sees.cl1 (by repeat (first | with_reducible exact Pick.here | with_reducible apply Pick.there | with_reducible apply Pick.app_nil | with_reducible apply Pick.app_cons)) (by rfl)) ?_
            refine TrL.want rfl rfl ?_
            refine TrL.call rfl rfl rfl ca59 .nil (fun Ft49 hUt49 => number_spec ?_)
            refine TrL.pickT rfl rfl rfl ?_
            refine TrL.assign rfl rfl ?_
            refine TrL.nil (At.then_normal ?_)
            refine Tr.ret (At.retP [] (.inl rfl) rfl (Res.tmp rfl Res.nil) (by repeat (first | exact Picks.nil | with_reducible exact Pick.here | with_reducible apply Pick.there | with_reducible apply Pick.app_nil | with_reducible apply Pick.app_cons | apply Picks.cons)) (by 
                refine kb ?_ hK
                unfold mayE
                first | (rw [hbad]; simp) | grind))
          · try simp only [beq_iff_eq, beq_eq_false_iff_ne, Bool.not_eq_true, Bool.not_eq_false, decide_eq_true_eq, decide_eq_false_iff_not, Bool.not_eq_true', Bool.not_eq_false', bne_iff_ne, Bool.not_eq_eq_eq_not, Bool.not_true, Bool.not_false, ne_eq, Decidable.not_not, Int.not_lt, Int.not_le] at h46
            refine TrL.unwant rfl rfl rfl ?_
            refine TrL.unwant rfl rfl rfl ?_
            refine TrL.unwant rfl rfl rfl ?_
            refine TrL.pickF rfl rfl rfl ?_
            refine TrL.assign rfl rfl ?_
            refine TrL.nil (At.then_normal ?_)
            refine Tr.ret (At.retP [] (.inl rfl) rfl (Res.tmp rfl Res.nil) (by repeat (first | exact Picks.nil | with_reducible exact Pick.here | with_reducible apply Pick.there | with_reducible apply Pick.app_nil | with_reducible apply Pick.app_cons | apply Picks.cons)) (by 
                refine kb ?_ hK
                unfold mayE
                first | (rw [hbad]; simp) | grind))
theorem CheckR_spec {F : Hp} {K : Value → List HProp → Prop} {pa : Option Addr} {ca : Nat} {pd : Option Addr} {cd : Nat} {e : Ed} (hA : SlIn F encT 4 pa e.add) (hD : SlIn F encI 1 pd e.drop) (hla : e.add.length ≤ 9223372036854775807) (hld : e.drop.length ≤ 9223372036854775807) (hK : K (.int .i64 (if mayE e = true then 0 else 1)) []) : CallK Try.prog F 17 #[.agg (edC pa ca pd cd e).toArray] [] K := by
  refine CallK.enter Try.func17 rfl Try.ntmps17 rfl ?_
  refine Tr.seq ?_
  refine Tr.region ?_
  refine TrL.boxA rfl rfl (fun b1 => ?_)
  refine TrL.assign rfl rfl ?_
  refine TrL.nil (At.then_normal ?_)
  refine Tr.seq ?_
  refine Tr.seq ?_
  refine Tr.region ?_
  refine TrL.loadLA rfl rfl ag25 sz25 (by repeat (first | with_reducible exact Pick.here | with_reducible apply Pick.there | with_reducible apply Pick.app_nil | with_reducible apply Pick.app_cons)) (by rfl) ?_
  refine TrL.call rfl rfl rfl ca31 .nil (fun Ft4 hUt4 => May_spec (hUt4.ro (SlIn.mono _ _ _ _) hA) (hUt4.ro (SlIn.mono _ _ _ _) hD) hla hld ?_)
  refine TrL.not rfl rfl ?_
  refine TrL.nil (At.then_normal ?_)
  refine Tr.cond rfl (fun h5 => ?_) (fun h5 => ?_)
  · try simp only [beq_iff_eq, beq_eq_false_iff_ne, Bool.not_eq_true, Bool.not_eq_false, decide_eq_true_eq, decide_eq_false_iff_not, Bool.not_eq_true', Bool.not_eq_false', bne_iff_ne, Bool.not_eq_eq_eq_not, Bool.not_true, Bool.not_false, ne_eq, Decidable.not_not, Int.not_lt, Int.not_le] at h5
    refine Tr.seq ?_
    refine Tr.region ?_
    refine TrL.assign rfl rfl ?_
    refine TrL.nil (At.then_normal ?_)
    refine Tr.ret (At.then_ret (At.retP [] (.inl rfl) rfl (Res.tmp rfl Res.nil) (by repeat (first | exact Picks.nil | with_reducible exact Pick.here | with_reducible apply Pick.there | with_reducible apply Pick.app_nil | with_reducible apply Pick.app_cons | apply Picks.cons)) (by exact ki (by simp [*]) hK)))
  · try simp only [beq_iff_eq, beq_eq_false_iff_ne, Bool.not_eq_true, Bool.not_eq_false, decide_eq_true_eq, decide_eq_false_iff_not, Bool.not_eq_true', Bool.not_eq_false', bne_iff_ne, Bool.not_eq_eq_eq_not, Bool.not_true, Bool.not_false, ne_eq, Decidable.not_not, Int.not_lt, Int.not_le] at h5
    refine Tr.skip (At.then_normal ?_)
    refine Tr.seq ?_
    refine Tr.region ?_
    refine TrL.assign rfl rfl ?_
    refine TrL.nil (At.then_normal ?_)
    refine Tr.ret (At.retP [] (.inl rfl) rfl (Res.tmp rfl Res.nil) (by repeat (first | exact Picks.nil | with_reducible exact Pick.here | with_reducible apply Pick.there | with_reducible apply Pick.app_nil | with_reducible apply Pick.app_cons | apply Picks.cons)) (by exact ki (by simp [*]) hK))

theorem PutI_spec {F : Hp} {K : Value → List HProp → Prop} {n : Int} (h0 : 0 ≤ n) (hn : n ≤ 4611686018427387904) (hK : K (.tuple #[.string (strOf (putN n.toNat)), .int .i64 0]) []) : CallK Try.prog F 27 #[.int .i64 n] [] K := by
  obtain ⟨m, rfl⟩ := Int.eq_ofNat_of_zero_le h0
  exact PutN_spec (by omega) hK
theorem PutIR_spec {F : Hp} {K : Value → List HProp → Prop} {n : Int} (h0 : 0 ≤ n) (hn : n ≤ 4611686018427387904) (hK : K (.tuple #[.string (strOf (putN n.toNat)), .int .i64 0]) []) : CallK Try.prog F 60 #[.int .i64 n] [] K := by
  obtain ⟨m, rfl⟩ := Int.eq_ofNat_of_zero_le h0
  exact PutNR_spec (by omega) hK
theorem num_spec {F : Hp} {K : Value → List HProp → Prop} {n : Int} (h0 : 0 ≤ n) (hn : n ≤ 4611686018427387904) (hK : K (.string (strOf (putN n.toNat))) []) : CallK Try.prog F 32 #[.int .i64 n] [] K := by
  refine CallK.enter Try.func32 rfl Try.ntmps32 rfl ?_
  refine Tr.seq ?_
  refine Tr.region ?_
  refine TrL.assign rfl rfl ?_
  refine TrL.nil (At.then_normal ?_)
  refine Tr.seq ?_
  refine Tr.region ?_
  refine TrL.move rfl rfl ?_
  refine TrL.call rfl rfl rfl ca60 .nil (fun Ft7 hUt7 => PutIR_spec h0 hn ?_)
  refine TrL.move rfl rfl ?_
  refine TrL.extract rfl rfl rfl ?_
  refine TrL.extract rfl rfl rfl ?_
  refine TrL.assign rfl rfl ?_
  refine TrL.assign rfl rfl ?_
  refine TrL.nil (At.then_normal ?_)
  refine Tr.seq ?_
  refine Tr.region ?_
  refine TrL.move rfl rfl ?_
  refine TrL.assign rfl rfl ?_
  refine TrL.nil (At.then_normal ?_)
  refine Tr.ret (At.retP [] (.inl rfl) rfl (Res.tmp rfl Res.nil) (by repeat (first | exact Picks.nil | with_reducible exact Pick.here | with_reducible apply Pick.there | with_reducible apply Pick.app_nil | with_reducible apply Pick.app_cons | apply Picks.cons)) (by exact hK))
theorem text_spec {F : Hp} {K : Value → List HProp → Prop} {t : ByteArray} (ht : t.size ≤ 262144) (hK : K (.string (strOf (textN t.data.toList))) []) : CallK Try.prog F 33 #[.string t] [] K := by
  refine CallK.enter Try.func33 rfl Try.ntmps33 rfl ?_
  refine Tr.seq ?_
  refine Tr.region ?_
  refine TrL.assign rfl rfl ?_
  refine TrL.nil (At.then_normal ?_)
  refine Tr.seq ?_
  refine Tr.region ?_
  refine TrL.move rfl rfl ?_
  refine TrL.call rfl rfl rfl ca61 .nil (fun Ft7 hUt7 => TextNR_spec ht ?_)
  refine TrL.move rfl rfl ?_
  refine TrL.extract rfl rfl rfl ?_
  refine TrL.extract rfl rfl rfl ?_
  refine TrL.assign rfl rfl ?_
  refine TrL.assign rfl rfl ?_
  refine TrL.nil (At.then_normal ?_)
  refine Tr.seq ?_
  refine Tr.region ?_
  refine TrL.move rfl rfl ?_
  refine TrL.assign rfl rfl ?_
  refine TrL.nil (At.then_normal ?_)
  refine Tr.ret (At.retP [] (.inl rfl) rfl (Res.tmp rfl Res.nil) (by repeat (first | exact Picks.nil | with_reducible exact Pick.here | with_reducible apply Pick.there | with_reducible apply Pick.app_nil | with_reducible apply Pick.app_cons | apply Picks.cons)) (by exact hK))
end Go.Proofs.Ytiefmfimbmkdjaa

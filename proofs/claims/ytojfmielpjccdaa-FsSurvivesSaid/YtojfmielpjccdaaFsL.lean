/-
  Outcomes of the doings of a disk whose power stays; the law FsParts, walked.
  No condition but those that each statement names.
-/
import Derived.Test.YtojfmielpjccdaaFsE
namespace Go.Proofs.Ytojfmielpjccdaa
set_option linter.unusedSimpArgs false
set_option linter.unusedVariables false
set_option linter.unusedSectionVars false
open Go.RowKit
variable [Obs]

omit [Obs] in
theorem makeF_ok {fs : List (ByteArray × (List UInt8 × Int))} {name : ByteArray} (hn : nameOk name = true) (hl : look fs name = none) (hs : fs.length < 256) : makeF ⟨fs, -1, false⟩ name = (0, ⟨putK fs name ([], 0), -1, false⟩) := by
  unfold makeF; simp [hn, doingF, hl]; omega
omit [Obs] in
theorem appendF_ok {fs : List (ByteArray × (List UInt8 × Int))} {name s : ByteArray} {b : List UInt8 × Int} (hn : nameOk name = true) (hl : look fs name = some b) (hs : b.1.length + s.size ≤ 4194304) :
    appendF ⟨fs, -1, false⟩ name s = (0, ⟨putK fs name (b.1 ++ s.data.toList, b.2), -1, false⟩) := by
  unfold appendF; simp [hn, doingF, hl]; omega
omit [Obs] in
theorem syncF_ok {fs : List (ByteArray × (List UInt8 × Int))} {name : ByteArray} {b : List UInt8 × Int} (hn : nameOk name = true) (hl : look fs name = some b) : syncF ⟨fs, -1, false⟩ name = (0, ⟨putK fs name (b.1, (b.1.length : Int)), -1, false⟩) := by
  unfold syncF; simp [hn, doingF, hl]
omit [Obs] in
theorem removeF_ok {fs : List (ByteArray × (List UInt8 × Int))} {name : ByteArray} {b : List UInt8 × Int} (hn : nameOk name = true) (hl : look fs name = some b) : removeF ⟨fs, -1, false⟩ name = (0, ⟨delK fs name, -1, false⟩) := by
  unfold removeF; simp [hn, doingF, hl]
omit [Obs] in
theorem renameF_ok {fs : List (ByteArray × (List UInt8 × Int))} {name to : ByteArray} {b : List UInt8 × Int} (hn : nameOk name = true) (hn2 : nameOk to = true) (hl : look fs name = some b) : renameF ⟨fs, -1, false⟩ name to = (0, ⟨putK (delK fs name) to b, -1, false⟩) := by
  unfold renameF; simp [hn, hn2, doingF, hl]
omit [Obs] in
theorem readF_ok {fs : List (ByteArray × (List UInt8 × Int))} {name : ByteArray} {b : List UInt8 × Int} (hn : nameOk name = true) (hl : look fs name = some b) : readF ⟨fs, -1, false⟩ name = (strOf b.1, 0) := by
  unfold readF; simp [hn, hl]
omit [Obs] in
theorem sureF_ok {fs : List (ByteArray × (List UInt8 × Int))} {name : ByteArray} {b : List UInt8 × Int} (hn : nameOk name = true) (hl : look fs name = some b) : sureF ⟨fs, -1, false⟩ name = (b.2, 0) := by
  unfold sureF; simp [hn, hl]
omit [Obs] in
theorem cutF_nil {k : Nat} {b : List UInt8} {n : Int} (h0 : 0 ≤ n) (h1 : n ≤ b.length) : cutF [] k (b, n) = (b.take n.toNat, n) := by
  have e : leftN [] k b.length n = n := by unfold leftN; simp; omega
  unfold cutF; rw [e]; simp; omega

omit [Obs] in
theorem okm {fs : List (ByteArray × (List UInt8 × Int))} {off : Bool} : DS.ok ⟨fs, -1, off⟩ := ⟨by show (-1 : Int) ≤ -1; decide, by show (-1 : Int) ≤ 9223372036854775807; decide⟩

set_option maxHeartbeats 2000000 in
theorem FsParts_spec {F : Hp} {K : Value → List HProp → Prop} {p : Option Addr} {cap : Nat} {parts : List ByteArray} (hl : SlIn F encS 1 p parts) (hK : K (.bool true) []) :
    CallK Try.prog F 4 #[.slice p parts.length cap] [] K := by
  refine CallK.enter Try.func4 rfl Try.ntmps4 rfl ?_
  refine Tr.seq ?_
  refine Tr.region ?_
  refine TrL.assign rfl rfl ?_
  refine TrL.nil (At.then_normal ?_)
  refine Tr.seq ?_
  refine Tr.region ?_
  refine TrL.call rfl rfl rfl ca8 .nil (fun Ft12 hUt12 => New_spec (fun d => ?_))
  refine TrL.assign rfl rfl ?_
  refine TrL.nil (At.then_normal ?_)
  refine Tr.seq ?_
  refine Tr.seq ?_
  refine Tr.region ?_
  refine TrL.move rfl rfl ?_
  refine TrL.eqpSome rfl rfl rfl pp24 ?_
  refine TrL.move rfl rfl ?_
  refine TrL.want rfl rfl ?_
  refine TrL.move rfl rfl ?_
  refine TrL.want rfl rfl ?_
  refine TrL.lenl rfl rfl se22 ?_
  refine TrL.want rfl rfl ?_
  refine TrL.gtr rfl rfl rfl ?_
  refine TrL.pickF rfl rfl rfl ?_
  refine TrL.move rfl rfl ?_
  refine TrL.cases (t := 20) rfl (fun h20 => ?_) (fun h20 => ?_)
  · try simp only [beq_iff_eq, beq_eq_false_iff_ne, Bool.not_eq_true, Bool.not_eq_false, decide_eq_true_eq, decide_eq_false_iff_not, Bool.not_eq_true', Bool.not_eq_false', bne_iff_ne, Bool.not_eq_eq_eq_not, Bool.not_true, Bool.not_false, ne_eq, Decidable.not_not, Int.not_lt, Int.not_le] at h20
    refine TrL.unwant rfl rfl rfl ?_
    refine TrL.unwant rfl rfl rfl ?_
    refine TrL.unwant rfl rfl rfl ?_
    refine TrL.pickT rfl rfl rfl ?_
    refine TrL.move rfl rfl ?_
    refine TrL.unwant rfl rfl rfl ?_
    refine TrL.unwant rfl rfl rfl ?_
    refine TrL.unwant rfl rfl rfl ?_
    refine TrL.pickT rfl rfl rfl ?_
    refine TrL.nil (At.then_normal ?_)
    refine Tr.condT rfl ?_
    refine Tr.seq ?_
    refine Tr.region ?_
    refine TrL.move rfl rfl ?_
    refine TrL.nepSome rfl rfl rfl pp24 ?_
    refine TrL.move rfl rfl ?_
    refine TrL.want rfl rfl ?_
    refine TrL.call rfl rfl rfl ca9 .nil (fun Ft33 hUt33 => awake_spec ?_)
    refine TrL.pickT rfl rfl rfl ?_
    refine TrL.assign rfl rfl ?_
    refine TrL.nil (At.then_normal ?_)
    refine Tr.ret (At.then_ret (At.retP [] (.inl rfl) rfl (Res.tmp rfl Res.nil) (by repeat (first | exact Picks.nil | with_reducible exact Pick.here | with_reducible apply Pick.there | with_reducible apply Pick.app_nil | with_reducible apply Pick.app_cons | apply Picks.cons)) (by exact hK)))
  · try simp only [beq_iff_eq, beq_eq_false_iff_ne, Bool.not_eq_true, Bool.not_eq_false, decide_eq_true_eq, decide_eq_false_iff_not, Bool.not_eq_true', Bool.not_eq_false', bne_iff_ne, Bool.not_eq_eq_eq_not, Bool.not_true, Bool.not_false, ne_eq, Decidable.not_not, Int.not_lt, Int.not_le] at h20
    refine TrL.want rfl rfl ?_
    refine TrL.move rfl rfl ?_
    refine TrL.want rfl rfl ?_
    refine TrL.call rfl rfl rfl ca10 (by repeat (first | exact Picks.nil | with_reducible exact Pick.here | with_reducible apply Pick.there | with_reducible apply Pick.app_nil | with_reducible apply Pick.app_cons | apply Picks.cons)) (fun Ft22 hUt22 => Make_at (e := 0) (S' := ⟨[(⟨#[112]⟩, ([], 0))], -1, false⟩) okm (makeF_ok (fs := []) (name := ⟨#[112]⟩) (by decide) (by rfl) (by show _ < _; simp)) ?_)
    refine TrL.want rfl rfl ?_
    refine TrL.nei rfl rfl rfl ?_
    refine TrL.knownB (t := 23) (c := false) rfl (by simp) ?_
    refine TrL.pickF rfl rfl rfl ?_
    refine TrL.move rfl rfl ?_
    refine TrL.want rfl rfl ?_
    refine TrL.move rfl rfl ?_
    refine TrL.want rfl rfl ?_
    refine TrL.call rfl rfl rfl ca10 (by repeat (first | exact Picks.nil | with_reducible exact Pick.here | with_reducible apply Pick.there | with_reducible apply Pick.app_nil | with_reducible apply Pick.app_cons | apply Picks.cons)) (fun Ft27 hUt27 => Make_at (e := 0) (S' := ⟨[(⟨#[112]⟩, ([], 0)), (⟨#[113]⟩, ([], 0))], -1, false⟩) okm (makeF_ok (fs := [(⟨#[112]⟩, ([], 0))]) (name := ⟨#[113]⟩) (by decide) (by rfl) (by show _ < _; simp)) ?_)
    refine TrL.want rfl rfl ?_
    refine TrL.nei rfl rfl rfl ?_
    refine TrL.knownB (t := 28) (c := false) rfl (by simp) ?_
    refine TrL.pickF rfl rfl rfl ?_
    refine TrL.nil (At.then_normal ?_)
    refine Tr.condF rfl ?_
    refine Tr.skip (At.then_normal ?_)
    refine Tr.seq ?_
    refine Tr.region ?_
    refine TrL.assign rfl rfl ?_
    refine TrL.nil (At.then_normal ?_)
    refine Tr.seq ?_
    refine Tr.seq ?_
    refine Tr.region ?_
    refine TrL.assign rfl rfl ?_
    refine TrL.nil (At.then_normal ?_)
    refine Tr.block ?_
    refine Tr.loopK [0, 3] (α := Nat × ByteArray) (fun y => [(5, .int .i64 (y.1 : Int)), (4, .string y.2)]) (fun y => [diskC d ⟨[(⟨#[112]⟩, (y.2.data.toList, 0)), (⟨#[113]⟩, ([], 0))], -1, false⟩]) (fun y => y.1 ≤ parts.length ∧ y.2.size ≤ 40 * y.1) (fun y => parts.length - y.1) ((0, ⟨#[]⟩)) (by rfl) ?_ (by repeat (first | exact Sub.nil | refine Sub.cons (by rfl) ?_)) (by repeat (first | exact Picks.nil | with_reducible exact Pick.here | with_reducible apply Pick.there | with_reducible apply Pick.app_nil | with_reducible apply Pick.app_cons | apply Picks.cons)) ?_
    · exact ⟨Nat.zero_le _, by decide⟩
    rintro y ⟨hy1, hy2⟩
    have hysz : y.2.data.toList.length = y.2.size := by simp
    refine Tr.seq ?_
    refine Tr.seq ?_
    refine Tr.region ?_
    refine TrL.move rfl rfl ?_
    refine TrL.move rfl rfl ?_
    refine TrL.lenl rfl rfl se22 ?_
    refine TrL.lss rfl rfl rfl ?_
    refine TrL.nil (At.then_normal ?_)
    refine Tr.cond rfl (fun h38 => ?_) (fun h38 => ?_)
    · try simp only [beq_iff_eq, beq_eq_false_iff_ne, Bool.not_eq_true, Bool.not_eq_false, decide_eq_true_eq, decide_eq_false_iff_not, Bool.not_eq_true', Bool.not_eq_false', bne_iff_ne, Bool.not_eq_eq_eq_not, Bool.not_true, Bool.not_false, ne_eq, Decidable.not_not, Int.not_lt, Int.not_le] at h38
      refine Tr.skip (At.then_normal ?_)
      refine Tr.seq ?_
      refine Tr.block ?_
      refine Tr.seq ?_
      refine Tr.seq ?_
      refine Tr.region ?_
      refine TrL.move rfl rfl ?_
      refine TrL.move rfl rfl ?_
      refine TrL.idxF rfl rfl rfl se22 sz9 (by assumption) rfl rfl rfl (List.getElem?_eq_getElem (by omega)) (fun b43 o43 hp43 hc43 => ?_)
      refine TrL.loadR1 rfl rfl sc9 (by assumption) ?_
      refine TrL.lens rfl rfl st9 ?_
      refine TrL.gtr rfl rfl rfl ?_
      refine TrL.nil (At.then_normal ?_)
      refine Tr.cond rfl (fun h46 => ?_) (fun h46 => ?_)
      · try simp only [beq_iff_eq, beq_eq_false_iff_ne, Bool.not_eq_true, Bool.not_eq_false, decide_eq_true_eq, decide_eq_false_iff_not, Bool.not_eq_true', Bool.not_eq_false', bne_iff_ne, Bool.not_eq_eq_eq_not, Bool.not_true, Bool.not_false, ne_eq, Decidable.not_not, Int.not_lt, Int.not_le] at h46
        refine Tr.seq ?_
        refine Tr.region ?_
        refine TrL.call rfl rfl rfl ca9 .nil (fun Ft47 hUt47 => awake_spec ?_)
        refine TrL.assign rfl rfl ?_
        refine TrL.nil (At.then_normal ?_)
        refine Tr.ret (At.then_ret (At.block_ret (At.then_ret (At.then_ret (At.block_ret (At.then_ret (At.retP [] (.inl rfl) rfl (Res.tmp rfl Res.nil) (by repeat (first | exact Picks.nil | with_reducible exact Pick.here | with_reducible apply Pick.there | with_reducible apply Pick.app_nil | with_reducible apply Pick.app_cons | apply Picks.cons)) (by exact hK))))))))
      · try simp only [beq_iff_eq, beq_eq_false_iff_ne, Bool.not_eq_true, Bool.not_eq_false, decide_eq_true_eq, decide_eq_false_iff_not, Bool.not_eq_true', Bool.not_eq_false', bne_iff_ne, Bool.not_eq_eq_eq_not, Bool.not_true, Bool.not_false, ne_eq, Decidable.not_not, Int.not_lt, Int.not_le] at h46
        refine Tr.skip (At.then_normal ?_)
        refine Tr.seq ?_
        refine Tr.seq ?_
        have hroom : (y.2.data.toList, (0 : Int)).1.length + (parts[y.1]).size ≤ 4194304 := by simp only [hysz]; omega
        refine Tr.region ?_
        refine TrL.move rfl rfl ?_
        refine TrL.move rfl rfl ?_
        refine TrL.move rfl rfl ?_
        refine TrL.idxF rfl rfl rfl se22 sz9 (by assumption) rfl rfl rfl (List.getElem?_eq_getElem (by omega)) (fun b51 o51 hp51 hc51 => ?_)
        refine TrL.loadR1 rfl rfl sc9 (by assumption) ?_
        refine TrL.call rfl rfl rfl ca11 (by repeat (first | exact Picks.nil | with_reducible exact Pick.here | with_reducible apply Pick.there | with_reducible apply Pick.app_nil | with_reducible apply Pick.app_cons | apply Picks.cons)) (fun Ft53 hUt53 => Append_at (e := 0) (S' := ⟨[(⟨#[112]⟩, (y.2.data.toList ++ parts[y.1].data.toList, 0)), (⟨#[113]⟩, ([], 0))], -1, false⟩) okm (by omega) (appendF_ok (fs := [(⟨#[112]⟩, (y.2.data.toList, 0)), (⟨#[113]⟩, ([], 0))]) (name := ⟨#[112]⟩) (s := parts[y.1]) (b := (y.2.data.toList, 0)) (by decide) (by rfl) hroom) ?_)
        refine TrL.nei rfl rfl rfl ?_
        refine TrL.knownB (t := 54) (c := false) rfl (by simp) ?_
        refine TrL.nil (At.then_normal ?_)
        refine Tr.condF rfl ?_
        refine Tr.skip (At.then_normal ?_)
        refine Tr.region ?_
        refine TrL.move rfl rfl ?_
        refine TrL.move rfl rfl ?_
        refine TrL.move rfl rfl ?_
        refine TrL.idxF rfl rfl rfl se22 sz9 (by assumption) rfl rfl rfl (List.getElem?_eq_getElem (by omega)) (fun b58 o58 hp58 hc58 => ?_)
        refine TrL.loadR1 rfl rfl sc9 (by assumption) ?_
        refine TrL.adds rfl rfl rfl (by omega) ?_
        refine TrL.assign rfl rfl ?_
        refine TrL.nil (At.block_normal (At.then_normal ?_))
        rw [show y.2.data.toList ++ parts[y.1].data.toList = (y.2 ++ parts[y.1]).data.toList by simp]
        refine Tr.region ?_
        refine TrL.move rfl rfl ?_
        refine TrL.addI rfl rfl rfl (by omega) ?_
        refine TrL.assign rfl rfl ?_
        refine TrL.nil ?_
        refine At.again (y.1 + 1, y.2 ++ parts[y.1]) ⟨by omega, ?_⟩ (by show parts.length - (y.1 + 1) < parts.length - y.1; omega) (by repeat (first | exact Sub.nil | refine Sub.cons (by rfl) ?_)) (by repeat (first | exact Picks.nil | with_reducible exact Pick.here | with_reducible apply Pick.there | with_reducible apply Pick.app_nil | with_reducible apply Pick.app_cons | apply Picks.cons))
        simp only [ByteArray.size_append]; omega
    · try simp only [beq_iff_eq, beq_eq_false_iff_ne, Bool.not_eq_true, Bool.not_eq_false, decide_eq_true_eq, decide_eq_false_iff_not, Bool.not_eq_true', Bool.not_eq_false', bne_iff_ne, Bool.not_eq_eq_eq_not, Bool.not_true, Bool.not_false, ne_eq, Decidable.not_not, Int.not_lt, Int.not_le] at h38
      refine Tr.exit (At.then_exit (At.then_exit (At.block_hit (At.then_normal ?_))))
      refine Tr.seq ?_
      refine Tr.seq ?_
      refine Tr.region ?_
      refine TrL.move rfl rfl ?_
      refine TrL.move rfl rfl ?_
      refine TrL.call rfl rfl rfl ca11 (by repeat (first | exact Picks.nil | with_reducible exact Pick.here | with_reducible apply Pick.there | with_reducible apply Pick.app_nil | with_reducible apply Pick.app_cons | apply Picks.cons)) (fun Ft63 hUt63 => Append_at (e := 0) (S' := ⟨[(⟨#[112]⟩, (y.2.data.toList, 0)), (⟨#[113]⟩, (y.2.data.toList, 0))], -1, false⟩) okm (by omega) (appendF_ok (fs := [(⟨#[112]⟩, (y.2.data.toList, 0)), (⟨#[113]⟩, ([], 0))]) (name := ⟨#[113]⟩) (s := y.2) (b := ([], 0)) (by decide) (by rfl) (by simp only [List.length_nil]; omega)) ?_)
      refine TrL.nei rfl rfl rfl ?_
      refine TrL.knownB (t := 64) (c := false) rfl (by simp) ?_
      refine TrL.move rfl rfl ?_
      refine TrL.want rfl rfl ?_
      refine TrL.move rfl rfl ?_
      refine TrL.want rfl rfl ?_
      refine TrL.call rfl rfl rfl ca12 (by repeat (first | exact Picks.nil | with_reducible exact Pick.here | with_reducible apply Pick.there | with_reducible apply Pick.app_nil | with_reducible apply Pick.app_cons | apply Picks.cons)) (fun Ft67 hUt67 => Sync_at (e := 0) (S' := ⟨[(⟨#[112]⟩, (y.2.data.toList, (List.length (y.2.data.toList) : Int))), (⟨#[113]⟩, (y.2.data.toList, 0))], -1, false⟩) okm (syncF_ok (fs := [(⟨#[112]⟩, (y.2.data.toList, 0)), (⟨#[113]⟩, (y.2.data.toList, 0))]) (name := ⟨#[112]⟩) (b := (y.2.data.toList, 0)) (by decide) (by rfl)) ?_)
      refine TrL.want rfl rfl ?_
      refine TrL.nei rfl rfl rfl ?_
      refine TrL.knownB (t := 68) (c := false) rfl (by simp) ?_
      refine TrL.pickF rfl rfl rfl ?_
      refine TrL.move rfl rfl ?_
      refine TrL.want rfl rfl ?_
      refine TrL.move rfl rfl ?_
      refine TrL.want rfl rfl ?_
      refine TrL.call rfl rfl rfl ca13 (by repeat (first | exact Picks.nil | with_reducible exact Pick.here | with_reducible apply Pick.there | with_reducible apply Pick.app_nil | with_reducible apply Pick.app_cons | apply Picks.cons)) (fun Ft72 hUt72 => Crash_at (keep := []) (l := [⟨#[112]⟩, ⟨#[113]⟩]) ⟨by show _ ≤ _; simp, ?_⟩ (.inl rfl) (by simp) (by simp) (by simp [Rising]; decide) ?_)
      · simp only [List.mem_cons, List.not_mem_nil, or_false]
        rintro x (rfl | rfl)
        · refine ⟨Nat.le_of_ble_eq_true rfl, ?_, ?_, ?_⟩ <;> simp only [hysz] <;> omega
        · refine ⟨Nat.le_of_ble_eq_true rfl, ?_, ?_, ?_⟩ <;> simp only [hysz] <;> omega
      rw [show crashF [] [⟨#[112]⟩, ⟨#[113]⟩] 0 [(⟨#[112]⟩, (y.2.data.toList, (List.length (y.2.data.toList) : Int))), (⟨#[113]⟩, (y.2.data.toList, 0))] = [(⟨#[112]⟩, cutF [] 0 (y.2.data.toList, (List.length (y.2.data.toList) : Int))), (⟨#[113]⟩, cutF [] 1 (y.2.data.toList, 0))] from rfl]
      rw [cutF_nil (by omega) (by omega), cutF_nil (by omega) (by omega)]
      simp only [Int.toNat_natCast, List.take_length, Int.toNat_zero, List.take_zero]
      simp only [hysz]
      refine TrL.want rfl rfl ?_
      refine TrL.nei rfl rfl rfl ?_
      refine TrL.knownB (t := 73) (c := false) rfl (by simp) ?_
      refine TrL.pickF rfl rfl rfl ?_
      refine TrL.nil (At.then_normal ?_)
      refine Tr.condF rfl ?_
      refine Tr.skip (At.then_normal ?_)
      refine Tr.seq ?_
      refine Tr.region ?_
      refine TrL.move rfl rfl ?_
      refine TrL.call rfl rfl rfl ca14 (by repeat (first | exact Picks.nil | with_reducible exact Pick.here | with_reducible apply Pick.there | with_reducible apply Pick.app_nil | with_reducible apply Pick.app_cons | apply Picks.cons)) (fun Ft77 hUt77 => Read_at (e := 0) (v := y.2) okm (by rw [readF_ok (fs := [(⟨#[112]⟩, (y.2.data.toList, (y.2.size : Int))), (⟨#[113]⟩, ([], 0))]) (name := ⟨#[112]⟩) (b := (y.2.data.toList, (y.2.size : Int))) (by decide) (by rfl)]; simp only [strOf_data]) ?_)
      refine TrL.move rfl rfl ?_
      refine TrL.extract rfl rfl rfl ?_
      refine TrL.extract rfl rfl rfl ?_
      refine TrL.assign rfl rfl ?_
      refine TrL.assign rfl rfl ?_
      refine TrL.nil (At.then_normal ?_)
      refine Tr.seq ?_
      refine Tr.region ?_
      refine TrL.move rfl rfl ?_
      refine TrL.call rfl rfl rfl ca14 (by repeat (first | exact Picks.nil | with_reducible exact Pick.here | with_reducible apply Pick.there | with_reducible apply Pick.app_nil | with_reducible apply Pick.app_cons | apply Picks.cons)) (fun Ft82 hUt82 => Read_at (e := 0) (v := ⟨#[]⟩) okm (by rw [readF_ok (fs := [(⟨#[112]⟩, (y.2.data.toList, (y.2.size : Int))), (⟨#[113]⟩, ([], 0))]) (name := ⟨#[113]⟩) (b := ([], 0)) (by decide) (by rfl)]; rfl) ?_)
      refine TrL.move rfl rfl ?_
      refine TrL.extract rfl rfl rfl ?_
      refine TrL.extract rfl rfl rfl ?_
      refine TrL.assign rfl rfl ?_
      refine TrL.assign rfl rfl ?_
      refine TrL.nil (At.then_normal ?_)
      refine Tr.seq ?_
      refine Tr.region ?_
      refine TrL.move rfl rfl ?_
      refine TrL.call rfl rfl rfl ca15 (by repeat (first | exact Picks.nil | with_reducible exact Pick.here | with_reducible apply Pick.there | with_reducible apply Pick.app_nil | with_reducible apply Pick.app_cons | apply Picks.cons)) (fun Ft87 hUt87 => Sure_at (e := 0) (v := (y.2.size : Int)) okm (by rw [sureF_ok (fs := [(⟨#[112]⟩, (y.2.data.toList, (y.2.size : Int))), (⟨#[113]⟩, ([], 0))]) (name := ⟨#[112]⟩) (b := (y.2.data.toList, (y.2.size : Int))) (by decide) (by rfl)]; skip) ?_)
      refine TrL.move rfl rfl ?_
      refine TrL.extract rfl rfl rfl ?_
      refine TrL.extract rfl rfl rfl ?_
      refine TrL.assign rfl rfl ?_
      refine TrL.assign rfl rfl ?_
      refine TrL.nil (At.then_normal ?_)
      refine Tr.seq ?_
      refine Tr.region ?_
      refine TrL.move rfl rfl ?_
      refine TrL.move rfl rfl ?_
      refine TrL.eqs rfl rfl rfl ?_
      refine TrL.knownB (t := 92) (c := true) rfl (by simp) ?_
      refine TrL.move rfl rfl ?_
      refine TrL.want rfl rfl ?_
      refine TrL.move rfl rfl ?_
      refine TrL.want rfl rfl ?_
      refine TrL.eqs rfl rfl rfl ?_
      refine TrL.knownB (t := 95) (c := true) rfl (by simp) ?_
      refine TrL.pickT rfl rfl rfl ?_
      refine TrL.move rfl rfl ?_
      refine TrL.want rfl rfl ?_
      refine TrL.move rfl rfl ?_
      refine TrL.want rfl rfl ?_
      refine TrL.move rfl rfl ?_
      refine TrL.want rfl rfl ?_
      refine TrL.lens rfl rfl st9 ?_
      refine TrL.want rfl rfl ?_
      refine TrL.eqi rfl rfl rfl ?_
      refine TrL.knownB (t := 101) (c := true) rfl (by simp) ?_
      refine TrL.pickT rfl rfl rfl ?_
      refine TrL.move rfl rfl ?_
      refine TrL.want rfl rfl ?_
      refine TrL.move rfl rfl ?_
      refine TrL.want rfl rfl ?_
      refine TrL.eqi rfl rfl rfl ?_
      refine TrL.knownB (t := 105) (c := true) rfl (by simp) ?_
      refine TrL.pickT rfl rfl rfl ?_
      refine TrL.move rfl rfl ?_
      refine TrL.want rfl rfl ?_
      refine TrL.move rfl rfl ?_
      refine TrL.want rfl rfl ?_
      refine TrL.eqi rfl rfl rfl ?_
      refine TrL.knownB (t := 109) (c := true) rfl (by simp) ?_
      refine TrL.pickT rfl rfl rfl ?_
      refine TrL.move rfl rfl ?_
      refine TrL.want rfl rfl ?_
      refine TrL.move rfl rfl ?_
      refine TrL.want rfl rfl ?_
      refine TrL.eqi rfl rfl rfl ?_
      refine TrL.knownB (t := 113) (c := true) rfl (by simp) ?_
      refine TrL.pickT rfl rfl rfl ?_
      refine TrL.move rfl rfl ?_
      refine TrL.want rfl rfl ?_
      refine TrL.call rfl rfl rfl ca9 .nil (fun Ft116 hUt116 => awake_spec ?_)
      refine TrL.pickT rfl rfl rfl ?_
      refine TrL.assign rfl rfl ?_
      refine TrL.nil (At.then_normal ?_)
      refine Tr.ret (At.retP [] (.inl rfl) rfl (Res.tmp rfl Res.nil) (by repeat (first | exact Picks.nil | with_reducible exact Pick.here | with_reducible apply Pick.there | with_reducible apply Pick.app_nil | with_reducible apply Pick.app_cons | apply Picks.cons)) (by exact hK))
end Go.Proofs.Ytojfmielpjccdaa

/-
  A disk that nobody made: each function's answer; the law FsNobody, walked.
  No condition but those that each statement names.
-/
import Derived.Test.YtojfmielpjccdaaFsE
namespace Go.Proofs.Ytojfmielpjccdaa
set_option linter.unusedSimpArgs false
set_option linter.unusedVariables false
set_option linter.unusedSectionVars false
open Go.RowKit
variable [Obs]


/-- a receiver of which 'may' says no, with a chunk that it may look at -/
structure Nobody (v : Value) (HC : HProp) : Prop where
  may : ∀ (F : Hp) (K : Value → List HProp → Prop) (sv : Value), K (.bool false) [HC] → CallK Try.prog F 25 #[v, sv] [HC] K
theorem nobody_nil (HC : HProp) : Nobody (.pointer none) HC := ⟨fun F K sv hK => by
  refine CallK.enter Try.func25 rfl Try.ntmps25 rfl ?_
  refine Tr.seq ?_
  refine Tr.region ?_
  refine TrL.assign rfl rfl ?_
  refine TrL.nil (At.then_normal ?_)
  refine Tr.seq ?_
  refine Tr.seq ?_
  refine Tr.region ?_
  refine TrL.move rfl rfl ?_
  refine TrL.eqpNil rfl rfl rfl pp24 ?_
  refine TrL.knownB (t := 9) (c := true) rfl (by rfl) ?_
  refine TrL.move rfl rfl ?_
  refine TrL.unwant rfl rfl rfl ?_
  refine TrL.unwant rfl rfl rfl ?_
  refine TrL.unwant rfl rfl rfl ?_
  refine TrL.unwant rfl rfl rfl ?_
  refine TrL.unwant rfl rfl rfl ?_
  refine TrL.pickT rfl rfl rfl ?_
  refine TrL.nil (At.then_normal ?_)
  refine Tr.condT rfl ?_
  refine Tr.seq ?_
  refine Tr.region ?_
  refine TrL.assign rfl rfl ?_
  refine TrL.nil (At.then_normal ?_)
  refine Tr.ret (At.then_ret (At.retP [_] (.inl rfl) rfl (Res.tmp rfl Res.nil) (by repeat (first | exact Picks.nil | with_reducible exact Pick.here | with_reducible apply Pick.there | with_reducible apply Pick.app_nil | with_reducible apply Pick.app_cons | apply Picks.cons)) (by exact hK)))⟩

theorem nobody_new {d : Nat} {a b : Value} : Nobody (.pointer (some ⟨d, 0, none⟩)) (cl d [.map none, a, b] 48) := ⟨fun F K sv hK => by
  refine CallK.enter Try.func25 rfl Try.ntmps25 rfl ?_
  refine Tr.seq ?_
  refine Tr.region ?_
  refine TrL.assign rfl rfl ?_
  refine TrL.nil (At.then_normal ?_)
  refine Tr.seq ?_
  refine Tr.seq ?_
  refine Tr.region ?_
  refine TrL.move rfl rfl ?_
  refine TrL.eqpSome rfl rfl rfl pp24 ?_
  refine TrL.move rfl rfl ?_
  refine TrL.want rfl rfl ?_
  refine TrL.move rfl rfl ?_
  refine TrL.want rfl rfl ?_
  refine TrL.nilCheck rfl rfl ?_
  refine TrL.want rfl rfl ?_
  refine TrL.field0 rfl rfl fl48_0 ?_
  refine TrL.want rfl rfl ?_
  refine TrL.load1 rfl rfl sc46 (Sees.cl1 (by repeat (first | with_reducible exact Pick.here | with_reducible apply Pick.there | with_reducible apply Pick.app_nil | with_reducible apply Pick.app_cons)) (by rfl)) ?_
  refine TrL.want rfl rfl ?_
  refine TrL.eqmNil rfl rfl rfl mp46 ?_
  refine TrL.knownB (t := 15) (c := true) rfl (by rfl) ?_
  refine TrL.pickF rfl rfl rfl ?_
  refine TrL.nil (At.then_normal ?_)
  refine Tr.condT rfl ?_
  refine Tr.seq ?_
  refine Tr.region ?_
  refine TrL.assign rfl rfl ?_
  refine TrL.nil (At.then_normal ?_)
  refine Tr.ret (At.then_ret (At.retP [cl d [_, _, _] 48] (.inl rfl) rfl (Res.tmp rfl Res.nil) (by repeat (first | exact Picks.nil | with_reducible exact Pick.here | with_reducible apply Pick.there | with_reducible apply Pick.app_nil | with_reducible apply Pick.app_cons | apply Picks.cons)) (by exact hK)))⟩

theorem doing_nob {F : Hp} {K : Value → List HProp → Prop} {v : Value} {HC : HProp} {sv : Value} (hn : Nobody v HC) (hK : K (.int .i64 1) [HC]) : CallK Try.prog F 23 #[v, sv] [HC] K := by
  refine CallK.enter Try.func23 rfl Try.ntmps23 rfl ?_
  refine Tr.seq ?_
  refine Tr.region ?_
  refine TrL.assign rfl rfl ?_
  refine TrL.nil (At.then_normal ?_)
  refine Tr.seq ?_
  refine Tr.seq ?_
  refine Tr.region ?_
  refine TrL.move rfl rfl ?_
  refine TrL.move rfl rfl ?_
  refine TrL.call rfl rfl rfl ca25 (by repeat (first | exact Picks.nil | with_reducible exact Pick.here | with_reducible apply Pick.there | with_reducible apply Pick.app_nil | with_reducible apply Pick.app_cons | apply Picks.cons)) (fun Ft7 hUt7 => hn.may _ _ _ ?_)
  refine TrL.not rfl rfl ?_
  refine TrL.nil (At.then_normal ?_)
  refine Tr.condT rfl ?_
  refine Tr.seq ?_
  refine Tr.region ?_
  refine TrL.assign rfl rfl ?_
  refine TrL.nil (At.then_normal ?_)
  refine Tr.ret (At.then_ret (At.retP [HC] (.inl rfl) rfl (Res.tmp rfl Res.nil) (by repeat (first | exact Picks.nil | with_reducible exact Pick.here | with_reducible apply Pick.there | with_reducible apply Pick.app_nil | with_reducible apply Pick.app_cons | apply Picks.cons)) (by exact hK)))

theorem find_nob {F : Hp} {K : Value → List HProp → Prop} {v : Value} {HC : HProp} {name : ByteArray} {p : Option Addr} {cap : Nat} {l : List ByteArray} (hm : l.length ≤ 1000) (hn : Nobody v HC) (hK : K (.tuple #[.pointer none, .int .i64 1]) [HC]) : CallK Try.prog F 24 #[v, .string name, .slice p l.length cap] [HC, Own 9 1 encS p cap l] K := by
  refine CallK.enter Try.func24 rfl Try.ntmps24 rfl ?_
  refine Tr.seq ?_
  refine Tr.region ?_
  refine TrL.assign rfl rfl ?_
  refine TrL.assign rfl rfl ?_
  refine TrL.nil (At.then_normal ?_)
  refine Tr.seq ?_
  refine Tr.seq ?_
  refine Tr.region ?_
  refine TrL.move rfl rfl ?_
  refine TrL.move rfl rfl ?_
  refine TrL.move rfl rfl ?_
  refine TrL.buildSlF rfl rfl rfl se22 sz9 zc9 rfl rfl rfl (fun b14 => ?_)
  refine TrL.append1 rfl rfl se22 sz9 by9 zc9 rfl (by decide) (by repeat (first | with_reducible exact Pick.here | with_reducible apply Pick.there | with_reducible apply Pick.app_nil | with_reducible apply Pick.app_cons)) (by repeat (first | with_reducible exact Pick.here | with_reducible apply Pick.there | with_reducible apply Pick.app_nil | with_reducible apply Pick.app_cons)) (by rfl) (by rfl) (by rfl) (by rfl) (by decide) (by omega) (fun p15 cap15 => ?_)
  refine TrL.call rfl rfl rfl ca23 (by repeat (first | exact Picks.nil | with_reducible exact Pick.here | with_reducible apply Pick.there | with_reducible apply Pick.app_nil | with_reducible apply Pick.app_cons | apply Picks.cons)) (fun Ft16 hUt16 => doing_nob hn ?_)
  refine TrL.assign rfl rfl ?_
  refine TrL.nil (At.then_normal ?_)
  refine Tr.seq ?_
  refine Tr.region ?_
  refine TrL.move rfl rfl ?_
  refine TrL.nei rfl rfl rfl ?_
  refine TrL.knownB (t := 18) (c := true) rfl (by rfl) ?_
  refine TrL.nil (At.then_normal ?_)
  refine Tr.condT rfl ?_
  refine Tr.seq ?_
  refine Tr.region ?_
  refine TrL.move rfl rfl ?_
  refine TrL.assign rfl rfl ?_
  refine TrL.assign rfl rfl ?_
  refine TrL.nil (At.then_normal ?_)
  refine Tr.ret (At.then_ret (At.retP [HC] (.inl rfl) rfl (Res.tmp rfl (Res.tmp rfl Res.nil)) (by repeat (first | exact Picks.nil | with_reducible exact Pick.here | with_reducible apply Pick.there | with_reducible apply Pick.app_nil | with_reducible apply Pick.app_cons | apply Picks.cons)) (by exact hK)))

theorem Make_nob {F : Hp} {K : Value → List HProp → Prop} {v : Value} {HC : HProp} {name : ByteArray} (hn : Nobody v HC) (hK : K (.int .i64 1) [HC]) : CallK Try.prog F 10 #[v, .string name] [HC] K := by
  refine CallK.enter Try.func10 rfl Try.ntmps10 rfl ?_
  refine Tr.seq ?_
  refine Tr.region ?_
  refine TrL.assign rfl rfl ?_
  refine TrL.nil (At.then_normal ?_)
  refine Tr.seq ?_
  refine Tr.seq ?_
  refine Tr.region ?_
  refine TrL.move rfl rfl ?_
  refine TrL.move rfl rfl ?_
  refine TrL.buildSlF rfl rfl rfl se22 sz9 zc9 rfl rfl rfl (fun b10 => ?_)
  refine TrL.call rfl rfl rfl ca23 (by repeat (first | exact Picks.nil | with_reducible exact Pick.here | with_reducible apply Pick.there | with_reducible apply Pick.app_nil | with_reducible apply Pick.app_cons | apply Picks.cons)) (fun Ft11 hUt11 => doing_nob hn ?_)
  refine TrL.assign rfl rfl ?_
  refine TrL.nil (At.then_normal ?_)
  refine Tr.seq ?_
  refine Tr.region ?_
  refine TrL.move rfl rfl ?_
  refine TrL.nei rfl rfl rfl ?_
  refine TrL.knownB (t := 13) (c := true) rfl (by rfl) ?_
  refine TrL.nil (At.then_normal ?_)
  refine Tr.condT rfl ?_
  refine Tr.seq ?_
  refine Tr.region ?_
  refine TrL.move rfl rfl ?_
  refine TrL.assign rfl rfl ?_
  refine TrL.nil (At.then_normal ?_)
  refine Tr.ret (At.then_ret (At.retP [HC] (.inl rfl) rfl (Res.tmp rfl Res.nil) (by repeat (first | exact Picks.nil | with_reducible exact Pick.here | with_reducible apply Pick.there | with_reducible apply Pick.app_nil | with_reducible apply Pick.app_cons | apply Picks.cons)) (by exact hK)))

theorem Append_nob {F : Hp} {K : Value → List HProp → Prop} {v : Value} {HC : HProp} {name x : ByteArray} (hn : Nobody v HC) (hK : K (.int .i64 1) [HC]) : CallK Try.prog F 11 #[v, .string name, .string x] [HC] K := by
  refine CallK.enter Try.func11 rfl Try.ntmps11 rfl ?_
  refine Tr.seq ?_
  refine Tr.region ?_
  refine TrL.assign rfl rfl ?_
  refine TrL.nil (At.then_normal ?_)
  refine Tr.seq ?_
  refine Tr.region ?_
  refine TrL.move rfl rfl ?_
  refine TrL.move rfl rfl ?_
  refine TrL.own0 9 1 encS ?_
  refine TrL.call rfl rfl rfl ca24 (by repeat (first | exact Picks.nil | with_reducible exact Pick.here | with_reducible apply Pick.there | with_reducible apply Pick.app_nil | with_reducible apply Pick.app_cons | apply Picks.cons)) (fun Ft12 hUt12 => find_nob (l := []) (by simp) hn ?_)
  refine TrL.move rfl rfl ?_
  refine TrL.extract rfl rfl rfl ?_
  refine TrL.extract rfl rfl rfl ?_
  refine TrL.assign rfl rfl ?_
  refine TrL.assign rfl rfl ?_
  refine TrL.nil (At.then_normal ?_)
  refine Tr.seq ?_
  refine Tr.block ?_
  refine Tr.seq ?_
  refine Tr.region ?_
  refine TrL.move rfl rfl ?_
  refine TrL.nei rfl rfl rfl ?_
  refine TrL.knownB (t := 17) (c := true) rfl (by rfl) ?_
  refine TrL.assign rfl rfl ?_
  refine TrL.nil (At.then_normal ?_)
  refine Tr.condT rfl ?_
  refine Tr.seq ?_
  refine Tr.region ?_
  refine TrL.move rfl rfl ?_
  refine TrL.assign rfl rfl ?_
  refine TrL.nil (At.then_normal ?_)
  refine Tr.ret (At.block_ret (At.then_ret (At.retP [HC] (.inl rfl) rfl (Res.tmp rfl Res.nil) (by repeat (first | exact Picks.nil | with_reducible exact Pick.here | with_reducible apply Pick.there | with_reducible apply Pick.app_nil | with_reducible apply Pick.app_cons | apply Picks.cons)) (by exact hK))))

theorem Sync_nob {F : Hp} {K : Value → List HProp → Prop} {v : Value} {HC : HProp} {name : ByteArray} (hn : Nobody v HC) (hK : K (.int .i64 1) [HC]) : CallK Try.prog F 12 #[v, .string name] [HC] K := by
  refine CallK.enter Try.func12 rfl Try.ntmps12 rfl ?_
  refine Tr.seq ?_
  refine Tr.region ?_
  refine TrL.assign rfl rfl ?_
  refine TrL.nil (At.then_normal ?_)
  refine Tr.seq ?_
  refine Tr.region ?_
  refine TrL.move rfl rfl ?_
  refine TrL.move rfl rfl ?_
  refine TrL.own0 9 1 encS ?_
  refine TrL.call rfl rfl rfl ca24 (by repeat (first | exact Picks.nil | with_reducible exact Pick.here | with_reducible apply Pick.there | with_reducible apply Pick.app_nil | with_reducible apply Pick.app_cons | apply Picks.cons)) (fun Ft10 hUt10 => find_nob (l := []) (by simp) hn ?_)
  refine TrL.move rfl rfl ?_
  refine TrL.extract rfl rfl rfl ?_
  refine TrL.extract rfl rfl rfl ?_
  refine TrL.assign rfl rfl ?_
  refine TrL.assign rfl rfl ?_
  refine TrL.nil (At.then_normal ?_)
  refine Tr.seq ?_
  refine Tr.seq ?_
  refine Tr.region ?_
  refine TrL.move rfl rfl ?_
  refine TrL.eqi rfl rfl rfl ?_
  refine TrL.knownB (t := 14) (c := false) rfl (by rfl) ?_
  refine TrL.nil (At.then_normal ?_)
  refine Tr.condF rfl ?_
  refine Tr.skip (At.then_normal ?_)
  refine Tr.seq ?_
  refine Tr.region ?_
  refine TrL.move rfl rfl ?_
  refine TrL.assign rfl rfl ?_
  refine TrL.nil (At.then_normal ?_)
  refine Tr.ret (At.retP [HC] (.inl rfl) rfl (Res.tmp rfl Res.nil) (by repeat (first | exact Picks.nil | with_reducible exact Pick.here | with_reducible apply Pick.there | with_reducible apply Pick.app_nil | with_reducible apply Pick.app_cons | apply Picks.cons)) (by exact hK))

theorem Remove_nob {F : Hp} {K : Value → List HProp → Prop} {v : Value} {HC : HProp} {name : ByteArray} (hn : Nobody v HC) (hK : K (.int .i64 1) [HC]) : CallK Try.prog F 22 #[v, .string name] [HC] K := by
  refine CallK.enter Try.func22 rfl Try.ntmps22 rfl ?_
  refine Tr.seq ?_
  refine Tr.region ?_
  refine TrL.assign rfl rfl ?_
  refine TrL.nil (At.then_normal ?_)
  refine Tr.seq ?_
  refine Tr.region ?_
  refine TrL.move rfl rfl ?_
  refine TrL.move rfl rfl ?_
  refine TrL.own0 9 1 encS ?_
  refine TrL.call rfl rfl rfl ca24 (by repeat (first | exact Picks.nil | with_reducible exact Pick.here | with_reducible apply Pick.there | with_reducible apply Pick.app_nil | with_reducible apply Pick.app_cons | apply Picks.cons)) (fun Ft10 hUt10 => find_nob (l := []) (by simp) hn ?_)
  refine TrL.move rfl rfl ?_
  refine TrL.extract rfl rfl rfl ?_
  refine TrL.extract rfl rfl rfl ?_
  refine TrL.assign rfl rfl ?_
  refine TrL.assign rfl rfl ?_
  refine TrL.nil (At.then_normal ?_)
  refine Tr.seq ?_
  refine Tr.seq ?_
  refine Tr.region ?_
  refine TrL.move rfl rfl ?_
  refine TrL.eqi rfl rfl rfl ?_
  refine TrL.knownB (t := 14) (c := false) rfl (by rfl) ?_
  refine TrL.nil (At.then_normal ?_)
  refine Tr.condF rfl ?_
  refine Tr.skip (At.then_normal ?_)
  refine Tr.seq ?_
  refine Tr.region ?_
  refine TrL.move rfl rfl ?_
  refine TrL.assign rfl rfl ?_
  refine TrL.nil (At.then_normal ?_)
  refine Tr.ret (At.retP [HC] (.inl rfl) rfl (Res.tmp rfl Res.nil) (by repeat (first | exact Picks.nil | with_reducible exact Pick.here | with_reducible apply Pick.there | with_reducible apply Pick.app_nil | with_reducible apply Pick.app_cons | apply Picks.cons)) (by exact hK))

theorem Rename_nob {F : Hp} {K : Value → List HProp → Prop} {v : Value} {HC : HProp} {name to : ByteArray} (hn : Nobody v HC) (hK : K (.int .i64 1) [HC]) : CallK Try.prog F 20 #[v, .string name, .string to] [HC] K := by
  refine CallK.enter Try.func20 rfl Try.ntmps20 rfl ?_
  refine Tr.seq ?_
  refine Tr.region ?_
  refine TrL.assign rfl rfl ?_
  refine TrL.nil (At.then_normal ?_)
  refine Tr.seq ?_
  refine Tr.region ?_
  refine TrL.move rfl rfl ?_
  refine TrL.move rfl rfl ?_
  refine TrL.move rfl rfl ?_
  refine TrL.buildSlF rfl rfl rfl se22 sz9 zc9 rfl rfl rfl (fun b13 => ?_)
  refine TrL.toOwn (b := b13) 1 encS [to] (len := 1) (by repeat (first | with_reducible exact Pick.here | with_reducible apply Pick.there | with_reducible apply Pick.app_nil | with_reducible apply Pick.app_cons)) (by rfl) (by rfl) (by rfl) rfl ?_
  refine TrL.call rfl rfl rfl ca24 (by repeat (first | exact Picks.nil | with_reducible exact Pick.here | with_reducible apply Pick.there | with_reducible apply Pick.app_nil | with_reducible apply Pick.app_cons | apply Picks.cons)) (fun Ft14 hUt14 => find_nob (l := [to]) (by simp) hn ?_)
  refine TrL.move rfl rfl ?_
  refine TrL.extract rfl rfl rfl ?_
  refine TrL.extract rfl rfl rfl ?_
  refine TrL.assign rfl rfl ?_
  refine TrL.assign rfl rfl ?_
  refine TrL.nil (At.then_normal ?_)
  refine Tr.seq ?_
  refine Tr.seq ?_
  refine Tr.region ?_
  refine TrL.move rfl rfl ?_
  refine TrL.eqi rfl rfl rfl ?_
  refine TrL.knownB (t := 18) (c := false) rfl (by rfl) ?_
  refine TrL.nil (At.then_normal ?_)
  refine Tr.condF rfl ?_
  refine Tr.skip (At.then_normal ?_)
  refine Tr.seq ?_
  refine Tr.region ?_
  refine TrL.move rfl rfl ?_
  refine TrL.assign rfl rfl ?_
  refine TrL.nil (At.then_normal ?_)
  refine Tr.ret (At.retP [HC] (.inl rfl) rfl (Res.tmp rfl Res.nil) (by repeat (first | exact Picks.nil | with_reducible exact Pick.here | with_reducible apply Pick.there | with_reducible apply Pick.app_nil | with_reducible apply Pick.app_cons | apply Picks.cons)) (by exact hK))

theorem look_nob {F : Hp} {K : Value → List HProp → Prop} {v : Value} {HC : HProp} {name : ByteArray} (hn : Nobody v HC) (hK : K (.tuple #[.pointer none, .int .i64 1]) [HC]) : CallK Try.prog F 26 #[v, .string name] [HC] K := by
  refine CallK.enter Try.func26 rfl Try.ntmps26 rfl ?_
  refine Tr.seq ?_
  refine Tr.region ?_
  refine TrL.assign rfl rfl ?_
  refine TrL.assign rfl rfl ?_
  refine TrL.nil (At.then_normal ?_)
  refine Tr.seq ?_
  refine Tr.seq ?_
  refine Tr.region ?_
  refine TrL.move rfl rfl ?_
  refine TrL.move rfl rfl ?_
  refine TrL.buildSlF rfl rfl rfl se22 sz9 zc9 rfl rfl rfl (fun b10 => ?_)
  refine TrL.call rfl rfl rfl ca25 (by repeat (first | exact Picks.nil | with_reducible exact Pick.here | with_reducible apply Pick.there | with_reducible apply Pick.app_nil | with_reducible apply Pick.app_cons | apply Picks.cons)) (fun Ft11 hUt11 => hn.may _ _ _ ?_)
  refine TrL.not rfl rfl ?_
  refine TrL.nil (At.then_normal ?_)
  refine Tr.condT rfl ?_
  refine Tr.seq ?_
  refine Tr.region ?_
  refine TrL.assign rfl rfl ?_
  refine TrL.assign rfl rfl ?_
  refine TrL.nil (At.then_normal ?_)
  refine Tr.ret (At.then_ret (At.retP [HC] (.inl rfl) rfl (Res.tmp rfl (Res.tmp rfl Res.nil)) (by repeat (first | exact Picks.nil | with_reducible exact Pick.here | with_reducible apply Pick.there | with_reducible apply Pick.app_nil | with_reducible apply Pick.app_cons | apply Picks.cons)) (by exact hK)))

theorem Read_nob {F : Hp} {K : Value → List HProp → Prop} {v : Value} {HC : HProp} {name : ByteArray} (hn : Nobody v HC) (hK : K (.tuple #[.string ⟨#[]⟩, .int .i64 1]) [HC]) : CallK Try.prog F 14 #[v, .string name] [HC] K := by
  refine CallK.enter Try.func14 rfl Try.ntmps14 rfl ?_
  refine Tr.seq ?_
  refine Tr.region ?_
  refine TrL.assign rfl rfl ?_
  refine TrL.assign rfl rfl ?_
  refine TrL.nil (At.then_normal ?_)
  refine Tr.seq ?_
  refine Tr.region ?_
  refine TrL.move rfl rfl ?_
  refine TrL.move rfl rfl ?_
  refine TrL.call rfl rfl rfl ca26 (by repeat (first | exact Picks.nil | with_reducible exact Pick.here | with_reducible apply Pick.there | with_reducible apply Pick.app_nil | with_reducible apply Pick.app_cons | apply Picks.cons)) (fun Ft11 hUt11 => look_nob hn ?_)
  refine TrL.move rfl rfl ?_
  refine TrL.extract rfl rfl rfl ?_
  refine TrL.extract rfl rfl rfl ?_
  refine TrL.assign rfl rfl ?_
  refine TrL.assign rfl rfl ?_
  refine TrL.nil (At.then_normal ?_)
  refine Tr.seq ?_
  refine Tr.seq ?_
  refine Tr.region ?_
  refine TrL.move rfl rfl ?_
  refine TrL.nei rfl rfl rfl ?_
  refine TrL.knownB (t := 15) (c := true) rfl (by rfl) ?_
  refine TrL.nil (At.then_normal ?_)
  refine Tr.condT rfl ?_
  refine Tr.seq ?_
  refine Tr.region ?_
  refine TrL.move rfl rfl ?_
  refine TrL.assign rfl rfl ?_
  refine TrL.assign rfl rfl ?_
  refine TrL.nil (At.then_normal ?_)
  refine Tr.ret (At.then_ret (At.retP [HC] (.inl rfl) rfl (Res.tmp rfl (Res.tmp rfl Res.nil)) (by repeat (first | exact Picks.nil | with_reducible exact Pick.here | with_reducible apply Pick.there | with_reducible apply Pick.app_nil | with_reducible apply Pick.app_cons | apply Picks.cons)) (by exact hK)))

theorem Sure_nob {F : Hp} {K : Value → List HProp → Prop} {v : Value} {HC : HProp} {name : ByteArray} (hn : Nobody v HC) (hK : K (.tuple #[.int .i64 0, .int .i64 1]) [HC]) : CallK Try.prog F 15 #[v, .string name] [HC] K := by
  refine CallK.enter Try.func15 rfl Try.ntmps15 rfl ?_
  refine Tr.seq ?_
  refine Tr.region ?_
  refine TrL.assign rfl rfl ?_
  refine TrL.assign rfl rfl ?_
  refine TrL.nil (At.then_normal ?_)
  refine Tr.seq ?_
  refine Tr.region ?_
  refine TrL.move rfl rfl ?_
  refine TrL.move rfl rfl ?_
  refine TrL.call rfl rfl rfl ca26 (by repeat (first | exact Picks.nil | with_reducible exact Pick.here | with_reducible apply Pick.there | with_reducible apply Pick.app_nil | with_reducible apply Pick.app_cons | apply Picks.cons)) (fun Ft11 hUt11 => look_nob hn ?_)
  refine TrL.move rfl rfl ?_
  refine TrL.extract rfl rfl rfl ?_
  refine TrL.extract rfl rfl rfl ?_
  refine TrL.assign rfl rfl ?_
  refine TrL.assign rfl rfl ?_
  refine TrL.nil (At.then_normal ?_)
  refine Tr.seq ?_
  refine Tr.seq ?_
  refine Tr.region ?_
  refine TrL.move rfl rfl ?_
  refine TrL.nei rfl rfl rfl ?_
  refine TrL.knownB (t := 15) (c := true) rfl (by rfl) ?_
  refine TrL.nil (At.then_normal ?_)
  refine Tr.condT rfl ?_
  refine Tr.seq ?_
  refine Tr.region ?_
  refine TrL.move rfl rfl ?_
  refine TrL.assign rfl rfl ?_
  refine TrL.assign rfl rfl ?_
  refine TrL.nil (At.then_normal ?_)
  refine Tr.ret (At.then_ret (At.retP [HC] (.inl rfl) rfl (Res.tmp rfl (Res.tmp rfl Res.nil)) (by repeat (first | exact Picks.nil | with_reducible exact Pick.here | with_reducible apply Pick.there | with_reducible apply Pick.app_nil | with_reducible apply Pick.app_cons | apply Picks.cons)) (by exact hK)))

theorem Names_nob {F : Hp} {K : Value → List HProp → Prop} {v : Value} {HC : HProp} (hn : Nobody v HC) (hK : K (.slice none 0 0) [HC]) : CallK Try.prog F 18 #[v] [HC] K := by
  refine CallK.enter Try.func18 rfl Try.ntmps18 rfl ?_
  refine Tr.seq ?_
  refine Tr.region ?_
  refine TrL.assign rfl rfl ?_
  refine TrL.nil (At.then_normal ?_)
  refine Tr.seq ?_
  refine Tr.seq ?_
  refine Tr.region ?_
  refine TrL.move rfl rfl ?_
  refine TrL.call rfl rfl rfl ca25 (by repeat (first | exact Picks.nil | with_reducible exact Pick.here | with_reducible apply Pick.there | with_reducible apply Pick.app_nil | with_reducible apply Pick.app_cons | apply Picks.cons)) (fun Ft4 hUt4 => hn.may _ _ _ ?_)
  refine TrL.not rfl rfl ?_
  refine TrL.nil (At.then_normal ?_)
  refine Tr.condT rfl ?_
  refine Tr.seq ?_
  refine Tr.region ?_
  refine TrL.assign rfl rfl ?_
  refine TrL.nil (At.then_normal ?_)
  refine Tr.ret (At.then_ret (At.retP [HC] (.inl rfl) rfl (Res.tmp rfl Res.nil) (by repeat (first | exact Picks.nil | with_reducible exact Pick.here | with_reducible apply Pick.there | with_reducible apply Pick.app_nil | with_reducible apply Pick.app_cons | apply Picks.cons)) (by exact hK)))

theorem Fuse_nob {F : Hp} {K : Value → List HProp → Prop} {v : Value} {HC : HProp} {x : Int} (hn : Nobody v HC) (hK : K (.int .i64 1) [HC]) : CallK Try.prog F 16 #[v, .int .i64 x] [HC] K := by
  refine CallK.enter Try.func16 rfl Try.ntmps16 rfl ?_
  refine Tr.seq ?_
  refine Tr.region ?_
  refine TrL.assign rfl rfl ?_
  refine TrL.nil (At.then_normal ?_)
  refine Tr.seq ?_
  refine Tr.seq ?_
  refine Tr.region ?_
  refine TrL.move rfl rfl ?_
  refine TrL.call rfl rfl rfl ca25 (by repeat (first | exact Picks.nil | with_reducible exact Pick.here | with_reducible apply Pick.there | with_reducible apply Pick.app_nil | with_reducible apply Pick.app_cons | apply Picks.cons)) (fun Ft6 hUt6 => hn.may _ _ _ ?_)
  refine TrL.not rfl rfl ?_
  refine TrL.nil (At.then_normal ?_)
  refine Tr.condT rfl ?_
  refine Tr.seq ?_
  refine Tr.region ?_
  refine TrL.assign rfl rfl ?_
  refine TrL.nil (At.then_normal ?_)
  refine Tr.ret (At.then_ret (At.retP [HC] (.inl rfl) rfl (Res.tmp rfl Res.nil) (by repeat (first | exact Picks.nil | with_reducible exact Pick.here | with_reducible apply Pick.there | with_reducible apply Pick.app_nil | with_reducible apply Pick.app_cons | apply Picks.cons)) (by exact hK)))

theorem Off_nob {F : Hp} {K : Value → List HProp → Prop} {v : Value} {HC : HProp} (hn : Nobody v HC) (hK : K (.bool false) [HC]) : CallK Try.prog F 17 #[v] [HC] K := by
  refine CallK.enter Try.func17 rfl Try.ntmps17 rfl ?_
  refine Tr.seq ?_
  refine Tr.region ?_
  refine TrL.assign rfl rfl ?_
  refine TrL.nil (At.then_normal ?_)
  refine Tr.seq ?_
  refine Tr.region ?_
  refine TrL.move rfl rfl ?_
  refine TrL.call rfl rfl rfl ca25 (by repeat (first | exact Picks.nil | with_reducible exact Pick.here | with_reducible apply Pick.there | with_reducible apply Pick.app_nil | with_reducible apply Pick.app_cons | apply Picks.cons)) (fun Ft4 hUt4 => hn.may _ _ _ ?_)
  refine TrL.move rfl rfl ?_
  refine TrL.unwant rfl rfl rfl ?_
  refine TrL.unwant rfl rfl rfl ?_
  refine TrL.unwant rfl rfl rfl ?_
  refine TrL.unwant rfl rfl rfl ?_
  refine TrL.pickF rfl rfl rfl ?_
  refine TrL.assign rfl rfl ?_
  refine TrL.nil (At.then_normal ?_)
  refine Tr.ret (At.retP [HC] (.inl rfl) rfl (Res.tmp rfl Res.nil) (by repeat (first | exact Picks.nil | with_reducible exact Pick.here | with_reducible apply Pick.there | with_reducible apply Pick.app_nil | with_reducible apply Pick.app_cons | apply Picks.cons)) (by exact hK))

theorem Crash_nob {F : Hp} {K : Value → List HProp → Prop} {v : Value} {HC : HProp} {sv : Value} (hn : Nobody v HC) (hK : K (.int .i64 1) [HC]) : CallK Try.prog F 13 #[v, sv] [HC] K := by
  refine CallK.enter Try.func13 rfl Try.ntmps13 rfl ?_
  refine Tr.seq ?_
  refine Tr.region ?_
  refine TrL.assign rfl rfl ?_
  refine TrL.nil (At.then_normal ?_)
  refine Tr.seq ?_
  refine Tr.seq ?_
  refine Tr.region ?_
  refine TrL.move rfl rfl ?_
  refine TrL.call rfl rfl rfl ca25 (by repeat (first | exact Picks.nil | with_reducible exact Pick.here | with_reducible apply Pick.there | with_reducible apply Pick.app_nil | with_reducible apply Pick.app_cons | apply Picks.cons)) (fun Ft10 hUt10 => hn.may _ _ _ ?_)
  refine TrL.not rfl rfl ?_
  refine TrL.nil (At.then_normal ?_)
  refine Tr.condT rfl ?_
  refine Tr.seq ?_
  refine Tr.region ?_
  refine TrL.assign rfl rfl ?_
  refine TrL.nil (At.then_normal ?_)
  refine Tr.ret (At.then_ret (At.retP [HC] (.inl rfl) rfl (Res.tmp rfl Res.nil) (by repeat (first | exact Picks.nil | with_reducible exact Pick.here | with_reducible apply Pick.there | with_reducible apply Pick.app_nil | with_reducible apply Pick.app_cons | apply Picks.cons)) (by exact hK)))

set_option maxHeartbeats 4000000 in
theorem FsNobody_spec {F : Hp} {K : Value → List HProp → Prop} {a b : ByteArray} {m : Int} (hK : K (.bool true) []) : CallK Try.prog F 7 #[.string a, .string b, .int .i64 m] [] K := by
  refine CallK.enter Try.func7 rfl Try.ntmps7 rfl ?_
  refine Tr.seq ?_
  refine Tr.region ?_
  refine TrL.assign rfl rfl ?_
  refine TrL.nil (At.then_normal ?_)
  refine Tr.seq ?_
  refine Tr.region ?_
  refine TrL.build rfl rfl pl48 zc48 rfl ?_
  refine TrL.boxA rfl rfl (fun b14 => ?_)
  refine TrL.buildSlF rfl rfl rfl se49 sz24 zc24 rfl rfl rfl (fun b15 => ?_)
  refine TrL.assign rfl rfl ?_
  refine TrL.nil (At.then_normal ?_)
  refine Tr.seq ?_
  refine Tr.seq ?_
  refine Tr.freezeC (b := b15) (by repeat (first | with_reducible exact Pick.here | with_reducible apply Pick.there | with_reducible apply Pick.app_nil | with_reducible apply Pick.app_cons)) (fun Fz hFz hsl => ?_)
  refine Tr.region ?_
  refine TrL.assign rfl rfl ?_
  refine TrL.nil (At.then_normal ?_)
  refine Tr.block ?_
  refine Tr.loopK [0, 1, 2, 7] (α := Nat) (fun i => [(8, .int .i64 (i : Int))]) (fun i => []) (fun i => i ≤ 2) (fun i => 2 - i) (0) (by rfl) ?_ (by repeat (first | exact Sub.nil | refine Sub.cons (by rfl) ?_)) (by repeat (first | exact Picks.nil | with_reducible exact Pick.here | with_reducible apply Pick.there | with_reducible apply Pick.app_nil | with_reducible apply Pick.app_cons | apply Picks.cons)) ?_
  · exact Nat.zero_le _
  rintro i hi
  refine Tr.seq ?_
  refine Tr.seq ?_
  refine Tr.region ?_
  refine TrL.move rfl rfl ?_
  refine TrL.move rfl rfl ?_
  refine TrL.lenl rfl rfl se49 ?_
  refine TrL.lss rfl rfl rfl ?_
  refine TrL.nil (At.then_normal ?_)
  refine Tr.cond rfl (fun h19 => ?_) (fun h19 => ?_)
  · try simp only [beq_iff_eq, beq_eq_false_iff_ne, Bool.not_eq_true, Bool.not_eq_false, decide_eq_true_eq, decide_eq_false_iff_not, Bool.not_eq_true', Bool.not_eq_false', bne_iff_ne, Bool.not_eq_eq_eq_not, Bool.not_true, Bool.not_false, ne_eq, Decidable.not_not, Int.not_lt, Int.not_le] at h19
    refine Tr.skip (At.then_normal ?_)
    refine Tr.seq ?_
    refine Tr.block ?_
    refine Tr.seq ?_
    obtain ⟨vi, hgi, hnb⟩ : ∃ vi, [Value.pointer none, Value.pointer (some ⟨b14, 0, none⟩)][i]? = some vi ∧ Nobody vi (cl b14 [.map none, .int .i64 0, .bool false] 48) := by
      have : i = 0 ∨ i = 1 := by omega
      rcases this with rfl | rfl
      · exact ⟨_, rfl, nobody_nil _⟩
      · exact ⟨_, rfl, nobody_new⟩
    refine Tr.region ?_
    refine TrL.move rfl rfl ?_
    refine TrL.move rfl rfl ?_
    refine TrL.idxF rfl rfl rfl se49 sz24 hsl rfl rfl rfl hgi (fun b25 o25 hp25 hc25 => ?_)
    refine TrL.loadR1 rfl rfl sc24 (by assumption) ?_
    refine TrL.move rfl rfl ?_
    refine TrL.call rfl rfl rfl ca14 (by repeat (first | exact Picks.nil | with_reducible exact Pick.here | with_reducible apply Pick.there | with_reducible apply Pick.app_nil | with_reducible apply Pick.app_cons | apply Picks.cons)) (fun Ft28 hUt28 => Read_nob hnb ?_)
    refine TrL.move rfl rfl ?_
    refine TrL.extract rfl rfl rfl ?_
    refine TrL.extract rfl rfl rfl ?_
    refine TrL.assign rfl rfl ?_
    refine TrL.assign rfl rfl ?_
    refine TrL.nil (At.then_normal ?_)
    refine Tr.seq ?_
    refine Tr.region ?_
    refine TrL.move rfl rfl ?_
    refine TrL.move rfl rfl ?_
    refine TrL.idxF rfl rfl rfl se49 sz24 hsl rfl rfl rfl hgi (fun b34 o34 hp34 hc34 => ?_)
    refine TrL.loadR1 rfl rfl sc24 (by assumption) ?_
    refine TrL.move rfl rfl ?_
    refine TrL.call rfl rfl rfl ca15 (by repeat (first | exact Picks.nil | with_reducible exact Pick.here | with_reducible apply Pick.there | with_reducible apply Pick.app_nil | with_reducible apply Pick.app_cons | apply Picks.cons)) (fun Ft37 hUt37 => Sure_nob hnb ?_)
    refine TrL.move rfl rfl ?_
    refine TrL.extract rfl rfl rfl ?_
    refine TrL.extract rfl rfl rfl ?_
    refine TrL.assign rfl rfl ?_
    refine TrL.assign rfl rfl ?_
    refine TrL.nil (At.then_normal ?_)
    refine Tr.seq ?_
    refine Tr.region ?_
    refine TrL.move rfl rfl ?_
    refine TrL.nes rfl rfl rfl ?_
    refine TrL.knownB (t := 41) (c := false) rfl (by simp) ?_
    refine TrL.move rfl rfl ?_
    refine TrL.want rfl rfl ?_
    refine TrL.move rfl rfl ?_
    refine TrL.want rfl rfl ?_
    refine TrL.nei rfl rfl rfl ?_
    refine TrL.knownB (t := 44) (c := false) rfl (by simp) ?_
    refine TrL.pickF rfl rfl rfl ?_
    refine TrL.move rfl rfl ?_
    refine TrL.want rfl rfl ?_
    refine TrL.move rfl rfl ?_
    refine TrL.want rfl rfl ?_
    refine TrL.nei rfl rfl rfl ?_
    refine TrL.knownB (t := 48) (c := false) rfl (by simp) ?_
    refine TrL.pickF rfl rfl rfl ?_
    refine TrL.move rfl rfl ?_
    refine TrL.want rfl rfl ?_
    refine TrL.move rfl rfl ?_
    refine TrL.want rfl rfl ?_
    refine TrL.nei rfl rfl rfl ?_
    refine TrL.knownB (t := 52) (c := false) rfl (by simp) ?_
    refine TrL.pickF rfl rfl rfl ?_
    refine TrL.move rfl rfl ?_
    refine TrL.want rfl rfl ?_
    refine TrL.move rfl rfl ?_
    refine TrL.want rfl rfl ?_
    refine TrL.move rfl rfl ?_
    refine TrL.want rfl rfl ?_
    refine TrL.idxF rfl rfl rfl se49 sz24 hsl rfl rfl rfl hgi (fun b57 o57 hp57 hc57 => ?_)
    refine TrL.want rfl rfl ?_
    refine TrL.loadR1 rfl rfl sc24 (by assumption) ?_
    refine TrL.want rfl rfl ?_
    refine TrL.move rfl rfl ?_
    refine TrL.want rfl rfl ?_
    refine TrL.call rfl rfl rfl ca10 (by repeat (first | exact Picks.nil | with_reducible exact Pick.here | with_reducible apply Pick.there | with_reducible apply Pick.app_nil | with_reducible apply Pick.app_cons | apply Picks.cons)) (fun Ft60 hUt60 => Make_nob hnb ?_)
    refine TrL.want rfl rfl ?_
    refine TrL.nei rfl rfl rfl ?_
    refine TrL.knownB (t := 61) (c := false) rfl (by simp) ?_
    refine TrL.pickF rfl rfl rfl ?_
    refine TrL.move rfl rfl ?_
    refine TrL.want rfl rfl ?_
    refine TrL.move rfl rfl ?_
    refine TrL.want rfl rfl ?_
    refine TrL.move rfl rfl ?_
    refine TrL.want rfl rfl ?_
    refine TrL.idxF rfl rfl rfl se49 sz24 hsl rfl rfl rfl hgi (fun b66 o66 hp66 hc66 => ?_)
    refine TrL.want rfl rfl ?_
    refine TrL.loadR1 rfl rfl sc24 (by assumption) ?_
    refine TrL.want rfl rfl ?_
    refine TrL.move rfl rfl ?_
    refine TrL.want rfl rfl ?_
    refine TrL.move rfl rfl ?_
    refine TrL.want rfl rfl ?_
    refine TrL.call rfl rfl rfl ca11 (by repeat (first | exact Picks.nil | with_reducible exact Pick.here | with_reducible apply Pick.there | with_reducible apply Pick.app_nil | with_reducible apply Pick.app_cons | apply Picks.cons)) (fun Ft70 hUt70 => Append_nob hnb ?_)
    refine TrL.want rfl rfl ?_
    refine TrL.nei rfl rfl rfl ?_
    refine TrL.knownB (t := 71) (c := false) rfl (by simp) ?_
    refine TrL.pickF rfl rfl rfl ?_
    refine TrL.move rfl rfl ?_
    refine TrL.want rfl rfl ?_
    refine TrL.move rfl rfl ?_
    refine TrL.want rfl rfl ?_
    refine TrL.move rfl rfl ?_
    refine TrL.want rfl rfl ?_
    refine TrL.idxF rfl rfl rfl se49 sz24 hsl rfl rfl rfl hgi (fun b76 o76 hp76 hc76 => ?_)
    refine TrL.want rfl rfl ?_
    refine TrL.loadR1 rfl rfl sc24 (by assumption) ?_
    refine TrL.want rfl rfl ?_
    refine TrL.move rfl rfl ?_
    refine TrL.want rfl rfl ?_
    refine TrL.call rfl rfl rfl ca12 (by repeat (first | exact Picks.nil | with_reducible exact Pick.here | with_reducible apply Pick.there | with_reducible apply Pick.app_nil | with_reducible apply Pick.app_cons | apply Picks.cons)) (fun Ft79 hUt79 => Sync_nob hnb ?_)
    refine TrL.want rfl rfl ?_
    refine TrL.nei rfl rfl rfl ?_
    refine TrL.knownB (t := 80) (c := false) rfl (by simp) ?_
    refine TrL.pickF rfl rfl rfl ?_
    refine TrL.move rfl rfl ?_
    refine TrL.want rfl rfl ?_
    refine TrL.move rfl rfl ?_
    refine TrL.want rfl rfl ?_
    refine TrL.move rfl rfl ?_
    refine TrL.want rfl rfl ?_
    refine TrL.idxF rfl rfl rfl se49 sz24 hsl rfl rfl rfl hgi (fun b85 o85 hp85 hc85 => ?_)
    refine TrL.want rfl rfl ?_
    refine TrL.loadR1 rfl rfl sc24 (by assumption) ?_
    refine TrL.want rfl rfl ?_
    refine TrL.move rfl rfl ?_
    refine TrL.want rfl rfl ?_
    refine TrL.move rfl rfl ?_
    refine TrL.want rfl rfl ?_
    refine TrL.call rfl rfl rfl ca20 (by repeat (first | exact Picks.nil | with_reducible exact Pick.here | with_reducible apply Pick.there | with_reducible apply Pick.app_nil | with_reducible apply Pick.app_cons | apply Picks.cons)) (fun Ft89 hUt89 => Rename_nob hnb ?_)
    refine TrL.want rfl rfl ?_
    refine TrL.nei rfl rfl rfl ?_
    refine TrL.knownB (t := 90) (c := false) rfl (by simp) ?_
    refine TrL.pickF rfl rfl rfl ?_
    refine TrL.move rfl rfl ?_
    refine TrL.want rfl rfl ?_
    refine TrL.move rfl rfl ?_
    refine TrL.want rfl rfl ?_
    refine TrL.move rfl rfl ?_
    refine TrL.want rfl rfl ?_
    refine TrL.idxF rfl rfl rfl se49 sz24 hsl rfl rfl rfl hgi (fun b95 o95 hp95 hc95 => ?_)
    refine TrL.want rfl rfl ?_
    refine TrL.loadR1 rfl rfl sc24 (by assumption) ?_
    refine TrL.want rfl rfl ?_
    refine TrL.move rfl rfl ?_
    refine TrL.want rfl rfl ?_
    refine TrL.call rfl rfl rfl ca22 (by repeat (first | exact Picks.nil | with_reducible exact Pick.here | with_reducible apply Pick.there | with_reducible apply Pick.app_nil | with_reducible apply Pick.app_cons | apply Picks.cons)) (fun Ft98 hUt98 => Remove_nob hnb ?_)
    refine TrL.want rfl rfl ?_
    refine TrL.nei rfl rfl rfl ?_
    refine TrL.knownB (t := 99) (c := false) rfl (by simp) ?_
    refine TrL.pickF rfl rfl rfl ?_
    refine TrL.move rfl rfl ?_
    refine TrL.want rfl rfl ?_
    refine TrL.move rfl rfl ?_
    refine TrL.want rfl rfl ?_
    refine TrL.move rfl rfl ?_
    refine TrL.want rfl rfl ?_
    refine TrL.idxF rfl rfl rfl se49 sz24 hsl rfl rfl rfl hgi (fun b104 o104 hp104 hc104 => ?_)
    refine TrL.want rfl rfl ?_
    refine TrL.loadR1 rfl rfl sc24 (by assumption) ?_
    refine TrL.want rfl rfl ?_
    refine TrL.call rfl rfl rfl ca18 (by repeat (first | exact Picks.nil | with_reducible exact Pick.here | with_reducible apply Pick.there | with_reducible apply Pick.app_nil | with_reducible apply Pick.app_cons | apply Picks.cons)) (fun Ft106 hUt106 => Names_nob hnb ?_)
    refine TrL.want rfl rfl ?_
    refine TrL.lenl rfl rfl se22 ?_
    refine TrL.want rfl rfl ?_
    refine TrL.gtr rfl rfl rfl ?_
    refine TrL.knownB (t := 108) (c := false) rfl (by simp) ?_
    refine TrL.pickF rfl rfl rfl ?_
    refine TrL.move rfl rfl ?_
    refine TrL.want rfl rfl ?_
    refine TrL.move rfl rfl ?_
    refine TrL.want rfl rfl ?_
    refine TrL.move rfl rfl ?_
    refine TrL.want rfl rfl ?_
    refine TrL.idxF rfl rfl rfl se49 sz24 hsl rfl rfl rfl hgi (fun b113 o113 hp113 hc113 => ?_)
    refine TrL.want rfl rfl ?_
    refine TrL.loadR1 rfl rfl sc24 (by assumption) ?_
    refine TrL.want rfl rfl ?_
    refine TrL.move rfl rfl ?_
    refine TrL.want rfl rfl ?_
    refine TrL.call rfl rfl rfl ca16 (by repeat (first | exact Picks.nil | with_reducible exact Pick.here | with_reducible apply Pick.there | with_reducible apply Pick.app_nil | with_reducible apply Pick.app_cons | apply Picks.cons)) (fun Ft116 hUt116 => Fuse_nob hnb ?_)
    refine TrL.want rfl rfl ?_
    refine TrL.nei rfl rfl rfl ?_
    refine TrL.knownB (t := 117) (c := false) rfl (by simp) ?_
    refine TrL.pickF rfl rfl rfl ?_
    refine TrL.move rfl rfl ?_
    refine TrL.want rfl rfl ?_
    refine TrL.move rfl rfl ?_
    refine TrL.want rfl rfl ?_
    refine TrL.move rfl rfl ?_
    refine TrL.want rfl rfl ?_
    refine TrL.idxF rfl rfl rfl se49 sz24 hsl rfl rfl rfl hgi (fun b122 o122 hp122 hc122 => ?_)
    refine TrL.want rfl rfl ?_
    refine TrL.loadR1 rfl rfl sc24 (by assumption) ?_
    refine TrL.want rfl rfl ?_
    refine TrL.call rfl rfl rfl ca17 (by repeat (first | exact Picks.nil | with_reducible exact Pick.here | with_reducible apply Pick.there | with_reducible apply Pick.app_nil | with_reducible apply Pick.app_cons | apply Picks.cons)) (fun Ft124 hUt124 => Off_nob hnb ?_)
    refine TrL.pickF rfl rfl rfl ?_
    refine TrL.move rfl rfl ?_
    refine TrL.want rfl rfl ?_
    refine TrL.move rfl rfl ?_
    refine TrL.want rfl rfl ?_
    refine TrL.move rfl rfl ?_
    refine TrL.want rfl rfl ?_
    refine TrL.idxF rfl rfl rfl se49 sz24 hsl rfl rfl rfl hgi (fun b129 o129 hp129 hc129 => ?_)
    refine TrL.want rfl rfl ?_
    refine TrL.loadR1 rfl rfl sc24 (by assumption) ?_
    refine TrL.want rfl rfl ?_
    refine TrL.call rfl rfl rfl ca13 (by repeat (first | exact Picks.nil | with_reducible exact Pick.here | with_reducible apply Pick.there | with_reducible apply Pick.app_nil | with_reducible apply Pick.app_cons | apply Picks.cons)) (fun Ft131 hUt131 => Crash_nob hnb ?_)
    refine TrL.want rfl rfl ?_
    refine TrL.nei rfl rfl rfl ?_
    refine TrL.knownB (t := 132) (c := false) rfl (by simp) ?_
    refine TrL.pickF rfl rfl rfl ?_
    refine TrL.nil (At.then_normal ?_)
    refine Tr.condF rfl ?_
    refine Tr.skip (At.block_normal (At.then_normal ?_))
    refine Tr.region ?_
    refine TrL.move rfl rfl ?_
    refine TrL.addI rfl rfl rfl (by omega) ?_
    refine TrL.assign rfl rfl ?_
    refine TrL.nil ?_
    refine At.again (i + 1) (by omega) (by omega) (by repeat (first | exact Sub.nil | refine Sub.cons (by rfl) ?_)) (by repeat (first | exact Picks.nil | with_reducible exact Pick.here | with_reducible apply Pick.there | with_reducible apply Pick.app_nil | with_reducible apply Pick.app_cons | apply Picks.cons))
  · try simp only [beq_iff_eq, beq_eq_false_iff_ne, Bool.not_eq_true, Bool.not_eq_false, decide_eq_true_eq, decide_eq_false_iff_not, Bool.not_eq_true', Bool.not_eq_false', bne_iff_ne, Bool.not_eq_eq_eq_not, Bool.not_true, Bool.not_false, ne_eq, Decidable.not_not, Int.not_lt, Int.not_le] at h19
    refine Tr.exit (At.then_exit (At.then_exit (At.block_hit (At.then_normal ?_))))
    refine Tr.seq ?_
    refine Tr.region ?_
    refine TrL.call rfl rfl rfl ca9 .nil (fun Ft134 hUt134 => awake_spec ?_)
    refine TrL.assign rfl rfl ?_
    refine TrL.nil (At.then_normal ?_)
    refine Tr.ret (At.retP [] (.inl rfl) rfl (Res.tmp rfl Res.nil) (by repeat (first | exact Picks.nil | with_reducible exact Pick.here | with_reducible apply Pick.there | with_reducible apply Pick.app_nil | with_reducible apply Pick.app_cons | apply Picks.cons)) (by exact hK))
end Go.Proofs.Ytojfmielpjccdaa

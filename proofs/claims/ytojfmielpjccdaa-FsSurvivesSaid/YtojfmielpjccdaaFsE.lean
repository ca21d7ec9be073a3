/-
  The doings of a disk where their outcome is known; a disk is awake.
  No condition but those that each statement names.
-/
import Derived.Test.YtojfmielpjccdaaFsD
namespace Go.Proofs.Ytojfmielpjccdaa
set_option linter.unusedSimpArgs false
set_option linter.unusedVariables false
set_option linter.unusedSectionVars false
open Go.RowKit
variable [Obs]

theorem Make_at {F : Hp} {K : Value → List HProp → Prop} {d : Nat} {S : DS} {name : ByteArray} {e : Int} {S' : DS} (h64 : S.ok) (h : makeF S name = (e, S')) (hK : K (.int .i64 e) [diskC d S']) :
    CallK Try.prog F 10 #[.pointer (some ⟨d, 0, none⟩), .string name] [diskC d S] K := Make_spec h64 (fun e2 S2 h2 => by rw [h] at h2; cases h2; exact hK)
theorem Append_at {F : Hp} {K : Value → List HProp → Prop} {d : Nat} {S : DS} {name s : ByteArray} {e : Int} {S' : DS} (h64 : S.ok) (hsz : s.size ≤ 4194304) (h : appendF S name s = (e, S')) (hK : K (.int .i64 e) [diskC d S']) :
    CallK Try.prog F 11 #[.pointer (some ⟨d, 0, none⟩), .string name, .string s] [diskC d S] K := Append_spec h64 hsz (fun e2 S2 h2 => by rw [h] at h2; cases h2; exact hK)
theorem Sync_at {F : Hp} {K : Value → List HProp → Prop} {d : Nat} {S : DS} {name : ByteArray} {e : Int} {S' : DS} (h64 : S.ok) (h : syncF S name = (e, S')) (hK : K (.int .i64 e) [diskC d S']) :
    CallK Try.prog F 12 #[.pointer (some ⟨d, 0, none⟩), .string name] [diskC d S] K := Sync_spec h64 (fun e2 S2 h2 => by rw [h] at h2; cases h2; exact hK)
theorem Remove_at {F : Hp} {K : Value → List HProp → Prop} {d : Nat} {S : DS} {name : ByteArray} {e : Int} {S' : DS} (h64 : S.ok) (h : removeF S name = (e, S')) (hK : K (.int .i64 e) [diskC d S']) :
    CallK Try.prog F 22 #[.pointer (some ⟨d, 0, none⟩), .string name] [diskC d S] K := Remove_spec h64 (fun e2 S2 h2 => by rw [h] at h2; cases h2; exact hK)
theorem Rename_at {F : Hp} {K : Value → List HProp → Prop} {d : Nat} {S : DS} {name to : ByteArray} {e : Int} {S' : DS} (h64 : S.ok) (h : renameF S name to = (e, S')) (hK : K (.int .i64 e) [diskC d S']) :
    CallK Try.prog F 20 #[.pointer (some ⟨d, 0, none⟩), .string name, .string to] [diskC d S] K := Rename_spec h64 (fun e2 S2 h2 => by rw [h] at h2; cases h2; exact hK)
theorem Read_at {F : Hp} {K : Value → List HProp → Prop} {d : Nat} {S : DS} {name : ByteArray} {v : _} {e : Int} (h64 : S.ok) (h : readF S name = (v, e)) (hK : K (.tuple #[.string v, .int .i64 e]) [diskC d S]) :
    CallK Try.prog F 14 #[.pointer (some ⟨d, 0, none⟩), .string name] [diskC d S] K := Read_spec h64 (by rw [h]; exact hK)
theorem Sure_at {F : Hp} {K : Value → List HProp → Prop} {d : Nat} {S : DS} {name : ByteArray} {v : _} {e : Int} (h64 : S.ok) (h : sureF S name = (v, e)) (hK : K (.tuple #[.int .i64 v, .int .i64 e]) [diskC d S]) :
    CallK Try.prog F 15 #[.pointer (some ⟨d, 0, none⟩), .string name] [diskC d S] K := Sure_spec h64 (by rw [h]; exact hK)

omit [Obs] in
theorem rising_unique {l r : List ByteArray} (p : l.Perm r) (hl : Rising l) (hr : Rising r) : l = r := by
  refine List.Perm.eq_of_pairwise (le := fun x y => blt x y = true) ?_ hl hr p
  intro a b _ _ h1 h2
  have := blt_trans h1 h2; rw [blt_irrefl] at this; cases this
theorem Crash_at {F : Hp} {K : Value → List HProp → Prop} {d : Nat} {S : DS} {pk : Option Addr} {kcap : Nat} {keep : List Int} {l : List ByteArray} (hg : S.good) (hkeep : SlIn F encI 1 pk keep) (hkl : keep.length ≤ 4611686018427387904)
    (hl : l.Perm (S.fs.map (·.1))) (hr : Rising l) (hK : K (.int .i64 0) [diskC d ⟨crashF keep l 0 S.fs, -1, false⟩]) :
    CallK Try.prog F 13 #[.pointer (some ⟨d, 0, none⟩), .slice pk keep.length kcap] [diskC d S] K := Crash_spec hg hkeep hkl fun l2 h2 r2 => by
  rw [rising_unique (h2.trans hl.symm) r2 hr]; exact hK
theorem Names_any {F : Hp} {K : Value → List HProp → Prop} {d : Nat} {S : DS} (hg : S.good)
    (hK : ∀ p cap l, l.Perm (S.fs.map (·.1)) → Rising l → K (.slice p l.length cap) [Own 9 1 encS p cap l, diskC d S]) : CallK Try.prog F 18 #[.pointer (some ⟨d, 0, none⟩)] [diskC d S] K := by
  obtain ⟨Sfs, fuse, off⟩ := S
  refine CallK.openE .here disk_open ?_
  rintro ⟨m, ⟨fs, hfs⟩⟩
  simp only at hfs
  subst hfs
  show CallK _ _ _ _ [diskH d m fuse off, mapC Value.string m (kvOf fs), filesC fs] _
  intro w s
  obtain ⟨F', hu, s', back⟩ := s.up (H1 := [diskH d m fuse off, mapC Value.string m (kvOf fs)]) (R := [filesC fs]) (.cons .here (.cons .here .nil))
  refine (Names0_spec (F := F') (K := fun v H' => ∃ p cap l, v = .slice p l.length cap ∧ l.Perm (fs.map (·.1)) ∧ Rising l ∧ H' = [Own 9 1 encS p cap l, diskH d m fuse off, mapC Value.string m (kvOf fs)]) ?_ ?_ ?_ w s').mono ?_
  · intro x hx
    obtain ⟨y, hy, rfl⟩ := List.mem_map.1 hx
    exact (hg.2 (y.1, (y.2.bytes, y.2.sure)) (List.mem_map.2 ⟨y, hy, rfl⟩)).1
  · have := hg.1; simpa [vw, kvOf] using this
  · intro p cap l h2 r2
    exact ⟨p, cap, l, rfl, by rw [kv_names] at h2; exact h2, r2, rfl⟩
  · rintro e w' ⟨v, H', rfl, ⟨p, cap, l, rfl, h1, h2, rfl⟩, s2⟩
    refine ⟨_, _, rfl, hK p cap l (h1.trans (by simp only [vw, List.map_map]; exact List.Perm.refl _)) h2, (back w' _ s2).imp fun h hs => ?_⟩
    exact Stars.cons_le (fun h hs => one_stars (disk_close rfl h hs)) hs
theorem Names_spec {F : Hp} {K : Value → List HProp → Prop} {d : Nat} {S : DS} {l : List ByteArray} (hg : S.good) (hl : l.Perm (S.fs.map (·.1))) (hr : Rising l)
    (hK : ∀ p cap, K (.slice p l.length cap) [Own 9 1 encS p cap l, diskC d S]) : CallK Try.prog F 18 #[.pointer (some ⟨d, 0, none⟩)] [diskC d S] K :=
  Names_any hg fun p cap l2 h2 r2 => by
    have e : l2 = l := rising_unique (h2.trans hl.symm) r2 hr
    subst e
    exact hK p cap


set_option maxHeartbeats 1000000 in
theorem awake_spec {F : Hp} {K : Value → List HProp → Prop} (hK : K (.bool true) []) : CallK Try.prog F 9 #[] [] K := by
  refine CallK.enter Try.func9 rfl Try.ntmps9 rfl ?_
  refine Tr.seq ?_
  refine Tr.region ?_
  refine TrL.assign rfl rfl ?_
  refine TrL.nil (At.then_normal ?_)
  refine Tr.seq ?_
  refine Tr.region ?_
  refine TrL.call rfl rfl rfl ca8 .nil (fun Ft9 hUt9 => New_spec (fun d => ?_))
  refine TrL.assign rfl rfl ?_
  refine TrL.nil (At.then_normal ?_)
  refine Tr.seq ?_
  refine Tr.seq ?_
  refine Tr.region ?_
  refine TrL.move rfl rfl ?_
  refine TrL.eqpSome rfl rfl rfl pp24 ?_
  refine TrL.move rfl rfl ?_
  refine TrL.want rfl rfl ?_
  refine TrL.move rfl rfl ?_
  refine TrL.want rfl rfl ?_
  refine TrL.call rfl rfl rfl ca10 (by repeat (first | exact Picks.nil | with_reducible exact Pick.here | with_reducible apply Pick.there | with_reducible apply Pick.app_nil | with_reducible apply Pick.app_cons | apply Picks.cons)) (fun Ft14 hUt14 => Make_at (e := 0) (S' := ⟨[(⟨#[97]⟩, ([], 0))], -1, false⟩) ⟨by decide, by decide⟩ (by rfl) ?_)
  refine TrL.want rfl rfl ?_
  refine TrL.nei rfl rfl rfl ?_
  refine TrL.knownB (t := 15) (c := false) rfl (by simp) ?_
  refine TrL.pickF rfl rfl rfl ?_
  refine TrL.move rfl rfl ?_
  refine TrL.want rfl rfl ?_
  refine TrL.move rfl rfl ?_
  refine TrL.want rfl rfl ?_
  refine TrL.call rfl rfl rfl ca11 (by repeat (first | exact Picks.nil | with_reducible exact Pick.here | with_reducible apply Pick.there | with_reducible apply Pick.app_nil | with_reducible apply Pick.app_cons | apply Picks.cons)) (fun Ft19 hUt19 => Append_at (e := 0) (S' := ⟨[(⟨#[97]⟩, ([120, 121], 0))], -1, false⟩) ⟨by decide, by decide⟩ (by decide) (by rfl) ?_)
  refine TrL.want rfl rfl ?_
  refine TrL.nei rfl rfl rfl ?_
  refine TrL.knownB (t := 20) (c := false) rfl (by simp) ?_
  refine TrL.pickF rfl rfl rfl ?_
  refine TrL.move rfl rfl ?_
  refine TrL.want rfl rfl ?_
  refine TrL.move rfl rfl ?_
  refine TrL.want rfl rfl ?_
  refine TrL.call rfl rfl rfl ca12 (by repeat (first | exact Picks.nil | with_reducible exact Pick.here | with_reducible apply Pick.there | with_reducible apply Pick.app_nil | with_reducible apply Pick.app_cons | apply Picks.cons)) (fun Ft24 hUt24 => Sync_at (e := 0) (S' := ⟨[(⟨#[97]⟩, ([120, 121], 2))], -1, false⟩) ⟨by decide, by decide⟩ (by rfl) ?_)
  refine TrL.want rfl rfl ?_
  refine TrL.nei rfl rfl rfl ?_
  refine TrL.knownB (t := 25) (c := false) rfl (by simp) ?_
  refine TrL.pickF rfl rfl rfl ?_
  refine TrL.move rfl rfl ?_
  refine TrL.want rfl rfl ?_
  refine TrL.move rfl rfl ?_
  refine TrL.want rfl rfl ?_
  refine TrL.call rfl rfl rfl ca11 (by repeat (first | exact Picks.nil | with_reducible exact Pick.here | with_reducible apply Pick.there | with_reducible apply Pick.app_nil | with_reducible apply Pick.app_cons | apply Picks.cons)) (fun Ft29 hUt29 => Append_at (e := 0) (S' := ⟨[(⟨#[97]⟩, ([120, 121, 122], 2))], -1, false⟩) ⟨by decide, by decide⟩ (by decide) (by rfl) ?_)
  refine TrL.want rfl rfl ?_
  refine TrL.nei rfl rfl rfl ?_
  refine TrL.knownB (t := 30) (c := false) rfl (by simp) ?_
  refine TrL.pickF rfl rfl rfl ?_
  refine TrL.nil (At.then_normal ?_)
  refine Tr.condF rfl ?_
  refine Tr.skip (At.then_normal ?_)
  refine Tr.seq ?_
  refine Tr.region ?_
  refine TrL.move rfl rfl ?_
  refine TrL.call rfl rfl rfl ca14 (by repeat (first | exact Picks.nil | with_reducible exact Pick.here | with_reducible apply Pick.there | with_reducible apply Pick.app_nil | with_reducible apply Pick.app_cons | apply Picks.cons)) (fun Ft34 hUt34 => Read_at (e := 0) (v := ⟨#[120, 121, 122]⟩) ⟨by decide, by decide⟩ (by rfl) ?_)
  refine TrL.move rfl rfl ?_
  refine TrL.extract rfl rfl rfl ?_
  refine TrL.extract rfl rfl rfl ?_
  refine TrL.assign rfl rfl ?_
  refine TrL.assign rfl rfl ?_
  refine TrL.nil (At.then_normal ?_)
  refine Tr.seq ?_
  refine Tr.region ?_
  refine TrL.move rfl rfl ?_
  refine TrL.call rfl rfl rfl ca15 (by repeat (first | exact Picks.nil | with_reducible exact Pick.here | with_reducible apply Pick.there | with_reducible apply Pick.app_nil | with_reducible apply Pick.app_cons | apply Picks.cons)) (fun Ft39 hUt39 => Sure_at (e := 0) (v := 2) ⟨by decide, by decide⟩ (by rfl) ?_)
  refine TrL.move rfl rfl ?_
  refine TrL.extract rfl rfl rfl ?_
  refine TrL.extract rfl rfl rfl ?_
  refine TrL.assign rfl rfl ?_
  refine TrL.assign rfl rfl ?_
  refine TrL.nil (At.then_normal ?_)
  refine Tr.seq ?_
  refine Tr.region ?_
  refine TrL.move rfl rfl ?_
  refine TrL.call rfl rfl rfl ca13 (by repeat (first | exact Picks.nil | with_reducible exact Pick.here | with_reducible apply Pick.there | with_reducible apply Pick.app_nil | with_reducible apply Pick.app_cons | apply Picks.cons)) (fun Ft43 hUt43 => Crash_at (keep := []) (l := [⟨#[97]⟩]) ⟨by decide, by simp; decide⟩ (.inl rfl) (by simp) (by simp) (by simp [Rising]) ?_)
  rw [show crashF [] [⟨#[97]⟩] 0 [(⟨#[97]⟩, ([120, 121, 122], 2))] = [(⟨#[97]⟩, ([120, 121], 2))] from by rfl]
  refine TrL.assign rfl rfl ?_
  refine TrL.nil (At.then_normal ?_)
  refine Tr.seq ?_
  refine Tr.region ?_
  refine TrL.move rfl rfl ?_
  refine TrL.call rfl rfl rfl ca14 (by repeat (first | exact Picks.nil | with_reducible exact Pick.here | with_reducible apply Pick.there | with_reducible apply Pick.app_nil | with_reducible apply Pick.app_cons | apply Picks.cons)) (fun Ft46 hUt46 => Read_at (e := 0) (v := ⟨#[120, 121]⟩) ⟨by decide, by decide⟩ (by rfl) ?_)
  refine TrL.move rfl rfl ?_
  refine TrL.extract rfl rfl rfl ?_
  refine TrL.extract rfl rfl rfl ?_
  refine TrL.assign rfl rfl ?_
  refine TrL.assign rfl rfl ?_
  refine TrL.nil (At.then_normal ?_)
  refine Tr.seq ?_
  refine Tr.region ?_
  refine TrL.move rfl rfl ?_
  refine TrL.eqs rfl rfl rfl ?_
  refine TrL.knownB (t := 50) (c := true) rfl (by simp) ?_
  refine TrL.move rfl rfl ?_
  refine TrL.want rfl rfl ?_
  refine TrL.move rfl rfl ?_
  refine TrL.want rfl rfl ?_
  refine TrL.eqi rfl rfl rfl ?_
  refine TrL.knownB (t := 53) (c := true) rfl (by simp) ?_
  refine TrL.pickT rfl rfl rfl ?_
  refine TrL.move rfl rfl ?_
  refine TrL.want rfl rfl ?_
  refine TrL.move rfl rfl ?_
  refine TrL.want rfl rfl ?_
  refine TrL.eqi rfl rfl rfl ?_
  refine TrL.knownB (t := 57) (c := true) rfl (by simp) ?_
  refine TrL.pickT rfl rfl rfl ?_
  refine TrL.move rfl rfl ?_
  refine TrL.want rfl rfl ?_
  refine TrL.move rfl rfl ?_
  refine TrL.want rfl rfl ?_
  refine TrL.eqi rfl rfl rfl ?_
  refine TrL.knownB (t := 61) (c := true) rfl (by simp) ?_
  refine TrL.pickT rfl rfl rfl ?_
  refine TrL.move rfl rfl ?_
  refine TrL.want rfl rfl ?_
  refine TrL.move rfl rfl ?_
  refine TrL.want rfl rfl ?_
  refine TrL.eqi rfl rfl rfl ?_
  refine TrL.knownB (t := 65) (c := true) rfl (by simp) ?_
  refine TrL.pickT rfl rfl rfl ?_
  refine TrL.move rfl rfl ?_
  refine TrL.want rfl rfl ?_
  refine TrL.move rfl rfl ?_
  refine TrL.want rfl rfl ?_
  refine TrL.eqs rfl rfl rfl ?_
  refine TrL.knownB (t := 69) (c := true) rfl (by simp) ?_
  refine TrL.pickT rfl rfl rfl ?_
  refine TrL.move rfl rfl ?_
  refine TrL.want rfl rfl ?_
  refine TrL.move rfl rfl ?_
  refine TrL.want rfl rfl ?_
  refine TrL.eqi rfl rfl rfl ?_
  refine TrL.knownB (t := 73) (c := true) rfl (by simp) ?_
  refine TrL.pickT rfl rfl rfl ?_
  refine TrL.assign rfl rfl ?_
  refine TrL.nil (At.then_normal ?_)
  refine Tr.ret (At.retP [] (.inl rfl) rfl (Res.tmp rfl Res.nil) (by repeat (first | exact Picks.nil | with_reducible exact Pick.here | with_reducible apply Pick.there | with_reducible apply Pick.app_nil | with_reducible apply Pick.app_cons | apply Picks.cons)) (by exact hK))
end Go.Proofs.Ytojfmielpjccdaa

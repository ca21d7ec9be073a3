/-
  The contracts of package fs: a new disk, its fuse and power, the files' names, a crash.
  No condition but those that each statement names.
-/
import Derived.Test.YtojfmielpjccdaaFsC
import Derived.Test.YtojfmielpjccdaaKeys
namespace Go.Proofs.Ytojfmielpjccdaa
set_option linter.unusedSimpArgs false
set_option linter.unusedVariables false
set_option linter.unusedSectionVars false
open Go.RowKit
variable [Obs]

omit [Obs] in
theorem disk_new {d m : Nat} (h : Hp) (s : Stars [diskH d m (-1) false, mapC Value.string m []] h) : diskC d ⟨[], -1, false⟩ h := by
  obtain ⟨h1, h2, d1, l1, l2, a, h3, h4, d2, l3, l4, b, _⟩ := s
  exact ⟨m, [], rfl, h1, h2, d1, l1, l2, a, h3, h4, d2, l3, l4, b, Hp.emp, Hp.emp, Hp.emp_dj _, Hp.emp_le _, Hp.emp_le _, trivial, trivial⟩
theorem New_spec {F : Hp} {K : Value → List HProp → Prop} (hK : ∀ d, K (.pointer (some ⟨d, 0, none⟩)) [diskC d ⟨[], -1, false⟩]) : CallK Try.prog F 8 #[] [] K := by
  refine CallK.enter Try.func8 rfl Try.ntmps8 rfl ?_
  refine Tr.seq ?_
  refine Tr.region ?_
  refine TrL.assign rfl rfl ?_
  refine TrL.nil (At.then_normal ?_)
  refine Tr.seq ?_
  refine Tr.region ?_
  refine TrL.makeMap rfl Value.string (fun b1 => ?_)
  refine TrL.build rfl rfl pl48 zc48 rfl ?_
  refine TrL.boxA rfl rfl (fun b3 => ?_)
  refine TrL.assign rfl rfl ?_
  refine TrL.nil (At.then_normal ?_)
  refine Tr.ret (At.retX [cl _ [_, _, _] 48, mapC Value.string _ _] (.inl rfl) rfl (Res.tmp rfl Res.nil) (by repeat (first | exact Picks.nil | with_reducible exact Pick.here | with_reducible apply Pick.there | with_reducible apply Pick.app_nil | with_reducible apply Pick.app_cons | apply Picks.cons)) (by exact ⟨_, fun h hs => one_stars (disk_new h hs), hK _⟩))

theorem Fuse_spec {F : Hp} {K : Value → List HProp → Prop} {d : Nat} {S : DS} {n : Int} (hK : K (.int .i64 0) [diskC d ⟨S.fs, max n (-1), S.off⟩]) : CallK Try.prog F 16 #[.pointer (some ⟨d, 0, none⟩), .int .i64 n] [diskC d S] K := by
  obtain ⟨Sfs, fuse, off⟩ := S
  refine CallK.openE .here disk_open ?_
  rintro ⟨m, ⟨fs, hfs⟩⟩
  simp only at hfs
  subst hfs
  show CallK _ _ _ _ [diskH d m fuse off, mapC Value.string m (kvOf fs), filesC fs] _
  refine CallK.enter Try.func16 rfl Try.ntmps16 rfl ?_
  refine Tr.seq ?_
  refine Tr.region ?_
  refine TrL.assign rfl rfl ?_
  refine TrL.nil (At.then_normal ?_)
  refine Tr.seq ?_
  refine Tr.seq ?_
  refine Tr.region ?_
  refine TrL.move rfl rfl ?_
  refine TrL.call rfl rfl rfl ca25 (by repeat (first | exact Picks.nil | with_reducible exact Pick.here | with_reducible apply Pick.there | with_reducible apply Pick.app_nil | with_reducible apply Pick.app_cons | apply Picks.cons)) (fun Ft6 hUt6 => may_spec (l := []) (.inl rfl) (by simp) ?_)
  refine TrL.not rfl rfl ?_
  refine TrL.nil (At.then_normal ?_)
  refine Tr.cond rfl (fun h7 => ?_) (fun h7 => ?_)
  · try simp only [beq_iff_eq, beq_eq_false_iff_ne, Bool.not_eq_true, Bool.not_eq_false, decide_eq_true_eq, decide_eq_false_iff_not, Bool.not_eq_true', Bool.not_eq_false', bne_iff_ne, Bool.not_eq_eq_eq_not, Bool.not_true, Bool.not_false, ne_eq, Decidable.not_not, Int.not_lt, Int.not_le] at h7
    simp at h7
    --END
  · try simp only [beq_iff_eq, beq_eq_false_iff_ne, Bool.not_eq_true, Bool.not_eq_false, decide_eq_true_eq, decide_eq_false_iff_not, Bool.not_eq_true', Bool.not_eq_false', bne_iff_ne, Bool.not_eq_eq_eq_not, Bool.not_true, Bool.not_false, ne_eq, Decidable.not_not, Int.not_lt, Int.not_le] at h7
    refine Tr.skip (At.then_normal ?_)
    refine Tr.seq ?_
    refine Tr.region ?_
    refine TrL.move rfl rfl ?_
    refine TrL.move rfl rfl ?_
    refine TrL.max2 rfl rfl ?_
    refine TrL.nilCheck rfl rfl ?_
    refine TrL.field rfl rfl fl48_1 ?_
    refine TrL.store1 rfl rfl sz3 rfl (by repeat (first | with_reducible exact Upd.here | with_reducible apply Upd.there | with_reducible apply Upd.app_nil | with_reducible apply Upd.app_cons)) (by rfl) ?_
    refine TrL.nil (At.then_normal ?_)
    refine Tr.seq ?_
    refine Tr.region ?_
    refine TrL.assign rfl rfl ?_
    refine TrL.nil (At.then_normal ?_)
    refine Tr.ret (At.retX [diskH d m _ _, mapC Value.string m (kvOf _), filesC _] (.inl rfl) rfl (Res.tmp rfl Res.nil) (by repeat (first | exact Picks.nil | with_reducible exact Pick.here | with_reducible apply Pick.there | with_reducible apply Pick.app_nil | with_reducible apply Pick.app_cons | apply Picks.cons)) (by exact ⟨_, fun h hs => one_stars (disk_close rfl h hs), hK⟩))

theorem Off_spec {F : Hp} {K : Value → List HProp → Prop} {d : Nat} {S : DS} (hK : K (.bool S.off) [diskC d S]) : CallK Try.prog F 17 #[.pointer (some ⟨d, 0, none⟩)] [diskC d S] K := by
  obtain ⟨Sfs, fuse, off⟩ := S
  refine CallK.openE .here disk_open ?_
  rintro ⟨m, ⟨fs, hfs⟩⟩
  simp only at hfs
  subst hfs
  show CallK _ _ _ _ [diskH d m fuse off, mapC Value.string m (kvOf fs), filesC fs] _
  refine CallK.enter Try.func17 rfl Try.ntmps17 rfl ?_
  refine Tr.seq ?_
  refine Tr.region ?_
  refine TrL.assign rfl rfl ?_
  refine TrL.nil (At.then_normal ?_)
  refine Tr.seq ?_
  refine Tr.region ?_
  refine TrL.move rfl rfl ?_
  refine TrL.call rfl rfl rfl ca25 (by repeat (first | exact Picks.nil | with_reducible exact Pick.here | with_reducible apply Pick.there | with_reducible apply Pick.app_nil | with_reducible apply Pick.app_cons | apply Picks.cons)) (fun Ft4 hUt4 => may_spec (l := []) (.inl rfl) (by simp) ?_)
  refine TrL.move rfl rfl ?_
  refine TrL.cases (t := 5) rfl (fun h5 => ?_) (fun h5 => ?_)
  · try simp only [beq_iff_eq, beq_eq_false_iff_ne, Bool.not_eq_true, Bool.not_eq_false, decide_eq_true_eq, decide_eq_false_iff_not, Bool.not_eq_true', Bool.not_eq_false', bne_iff_ne, Bool.not_eq_eq_eq_not, Bool.not_true, Bool.not_false, ne_eq, Decidable.not_not, Int.not_lt, Int.not_le] at h5
    refine TrL.want rfl rfl ?_
    refine TrL.move rfl rfl ?_
    refine TrL.want rfl rfl ?_
    refine TrL.nilCheck rfl rfl ?_
    refine TrL.want rfl rfl ?_
    refine TrL.field rfl rfl fl48_2 ?_
    refine TrL.want rfl rfl ?_
    refine TrL.load1 rfl rfl sc4 (Sees.cl1 (by repeat (first | with_reducible exact Pick.here | with_reducible apply Pick.there | with_reducible apply Pick.app_nil | with_reducible apply Pick.app_cons)) (by rfl)) ?_
    refine TrL.pickT rfl rfl rfl ?_
    refine TrL.assign rfl rfl ?_
    refine TrL.nil (At.then_normal ?_)
    refine Tr.ret (At.retX [diskH d m _ _, mapC Value.string m (kvOf _), filesC _] (.inl rfl) rfl (Res.tmp rfl Res.nil) (by repeat (first | exact Picks.nil | with_reducible exact Pick.here | with_reducible apply Pick.there | with_reducible apply Pick.app_nil | with_reducible apply Pick.app_cons | apply Picks.cons)) (by exact ⟨_, fun h hs => one_stars (disk_close rfl h hs), hK⟩))
  · try simp only [beq_iff_eq, beq_eq_false_iff_ne, Bool.not_eq_true, Bool.not_eq_false, decide_eq_true_eq, decide_eq_false_iff_not, Bool.not_eq_true', Bool.not_eq_false', bne_iff_ne, Bool.not_eq_eq_eq_not, Bool.not_true, Bool.not_false, ne_eq, Decidable.not_not, Int.not_lt, Int.not_le] at h5
    simp at h5
    --END

theorem Names0_spec {F : Hp} {K : Value → List HProp → Prop} {d m : Nat} {fuse : Int} {off : Bool} {kv : List (ByteArray × Value)} (hn : ∀ x ∈ kv, x.1.size ≤ 1000) (hl : kv.length ≤ 1000)
    (hK : ∀ p cap l, l.Perm (kv.map (·.1)) → Rising l → K (.slice p l.length cap) [Own 9 1 encS p cap l, diskH d m fuse off, mapC Value.string m kv]) :
    CallK Try.prog F 18 #[.pointer (some ⟨d, 0, none⟩)] [diskH d m fuse off, mapC Value.string m kv] K := by
  refine CallK.enter Try.func18 rfl Try.ntmps18 rfl ?_
  refine Tr.seq ?_
  refine Tr.region ?_
  refine TrL.assign rfl rfl ?_
  refine TrL.nil (At.then_normal ?_)
  refine Tr.seq ?_
  refine Tr.seq ?_
  refine Tr.region ?_
  refine TrL.move rfl rfl ?_
  refine TrL.call rfl rfl rfl ca25 (by repeat (first | exact Picks.nil | with_reducible exact Pick.here | with_reducible apply Pick.there | with_reducible apply Pick.app_nil | with_reducible apply Pick.app_cons | apply Picks.cons)) (fun Ft4 hUt4 => may_spec (l := []) (.inl rfl) (by simp) ?_)
  refine TrL.not rfl rfl ?_
  refine TrL.nil (At.then_normal ?_)
  refine Tr.cond rfl (fun h5 => ?_) (fun h5 => ?_)
  · try simp only [beq_iff_eq, beq_eq_false_iff_ne, Bool.not_eq_true, Bool.not_eq_false, decide_eq_true_eq, decide_eq_false_iff_not, Bool.not_eq_true', Bool.not_eq_false', bne_iff_ne, Bool.not_eq_eq_eq_not, Bool.not_true, Bool.not_false, ne_eq, Decidable.not_not, Int.not_lt, Int.not_le] at h5
    simp at h5
    --END
  · try simp only [beq_iff_eq, beq_eq_false_iff_ne, Bool.not_eq_true, Bool.not_eq_false, decide_eq_true_eq, decide_eq_false_iff_not, Bool.not_eq_true', Bool.not_eq_false', bne_iff_ne, Bool.not_eq_eq_eq_not, Bool.not_true, Bool.not_false, ne_eq, Decidable.not_not, Int.not_lt, Int.not_le] at h5
    refine Tr.skip (At.then_normal ?_)
    refine Tr.seq ?_
    refine Tr.region ?_
    refine TrL.move rfl rfl ?_
    refine TrL.nilCheck rfl rfl ?_
    refine TrL.field0 rfl rfl fl48_0 ?_
    refine TrL.load1 rfl rfl sc46 (Sees.cl1 (by repeat (first | with_reducible exact Pick.here | with_reducible apply Pick.there | with_reducible apply Pick.app_nil | with_reducible apply Pick.app_cons)) (by rfl)) ?_
    refine TrL.call rfl rfl rfl ca28 .nil (fun Ft10 hUt10 => keys_spec (fun bk => ?_))
    refine TrL.call rfl rfl rfl ca27 (by repeat (first | exact Picks.nil | with_reducible exact Pick.here | with_reducible apply Pick.there | with_reducible apply Pick.app_nil | with_reducible apply Pick.app_cons | apply Picks.cons)) (fun Ft11 hUt11 => sorted_spec (fun x hx => Nat.le_trans (hn x hx) (by decide)) (by omega) (fun ps caps ls hps hrs => ?_))
    refine TrL.assign rfl rfl ?_
    refine TrL.nil (At.then_normal ?_)
    refine Tr.ret (At.retP [Own 9 1 encS _ _ _, diskH d m _ _, mapC Value.string m _] (.inl rfl) rfl (Res.tmp rfl Res.nil) (by repeat (first | exact Picks.nil | with_reducible exact Pick.here | with_reducible apply Pick.there | with_reducible apply Pick.app_nil | with_reducible apply Pick.app_cons | apply Picks.cons)) (by exact hK _ _ _ hps hrs))

/-- how many bytes are left of a file at place 'k' -/
def leftN (keep : List Int) (k : Nat) (len : Nat) (sure : Int) : Int := sure + min (if keep = [] then 0 else max 0 ((keep[k % keep.length]?).getD 0)) ((len : Int) - sure)
def cutF (keep : List Int) (k : Nat) (b : List UInt8 × Int) : List UInt8 × Int := (b.1.take (leftN keep k b.1.length b.2).toNat, ((leftN keep k b.1.length b.2).toNat : Int))
/-- the files behind a crash: 'l' are the names, from place 'k' on -/
def crashF (keep : List Int) : List ByteArray → Nat → List (ByteArray × (List UInt8 × Int)) → List (ByteArray × (List UInt8 × Int))
  | [], _, fs => fs
  | x :: r, k, fs => crashF keep r (k + 1) (match look fs x with | none => fs | some b => putK fs x (cutF keep k b))
def DS.good (S : DS) : Prop := S.fs.length ≤ 1000 ∧ ∀ x ∈ S.fs, x.1.size ≤ 1000 ∧ x.2.1.length ≤ 4194304 ∧ 0 ≤ x.2.2 ∧ x.2.2 ≤ x.2.1.length
omit [Obs] in
theorem leftN_le {keep : List Int} {k len : Nat} {sure : Int} (h0 : 0 ≤ sure) (h1 : sure ≤ len) : 0 ≤ leftN keep k len sure ∧ leftN keep k len sure ≤ len := by
  unfold leftN; split <;> omega
omit [Obs] in
theorem leftN_pos {keep : List Int} {k len : Nat} {sure : Int} (h : k % keep.length < keep.length) : sure + min (max 0 (keep[k % keep.length])) ((len : Int) - sure) = leftN keep k len sure := by
  unfold leftN
  rw [if_neg (by rintro rfl; simp at h), List.getElem?_eq_getElem h]; rfl
omit [Obs] in
theorem leftN_nil {keep : List Int} {k len : Nat} {sure : Int} (h : (keep.length : Int) ≤ 0) : sure + min 0 ((len : Int) - sure) = leftN keep k len sure := by
  unfold leftN
  rw [if_pos (List.eq_nil_of_length_eq_zero (by omega))]
omit [Obs] in
theorem crashF_drop {keep : List Int} {l : List ByteArray} {i : Nat} (h : i < l.length) (fs : List (ByteArray × (List UInt8 × Int))) :
    crashF keep (l.drop i) i fs = crashF keep (l.drop (i + 1)) (i + 1) (match look fs l[i] with | none => fs | some b => putK fs l[i] (cutF keep i b)) := by
  rw [List.drop_eq_getElem_cons h]; rfl
omit [Obs] in
theorem look_cut {fs : List (ByteArray × Fi)} {name : ByteArray} {f : Fi} (hf : look fs name = some f) {j : Int} (h0 : 0 ≤ j) (h1 : j ≤ f.bytes.length) (hp : Hp)
    (s : Stars [cl f.blk [.slice f.p j.toNat f.cap, .int .i64 (j.toNat : Int)] 55, Own 5 1 encB f.p f.cap f.bytes, filesC (delK fs name)] hp) : filesC (putK fs name ⟨f.blk, f.p, f.cap, f.bytes.take j.toNat, (j.toNat : Int)⟩) hp := by
  refine look_close hf ⟨f.blk, f.p, f.cap, f.bytes.take j.toNat, (j.toNat : Int)⟩ hp ?_
  obtain ⟨h1', h2, d1, l1, l2, a, h3, h4, d2, l3, l4, b, c⟩ := s
  have hl : (f.bytes.take j.toNat).length = j.toNat := by simp; omega
  refine ⟨h1', h2, d1, l1, l2, ?_, h3, h4, d2, l3, l4, Own.take (l := f.bytes) (enc := encB) (k := 1) (fun _ => rfl) j.toNat (by omega) b, c⟩
  show cl f.blk [.slice f.p (f.bytes.take j.toNat).length f.cap, .int .i64 (j.toNat : Int)] 55 h1'
  rw [hl]; exact a
omit [Obs] in
theorem look_mem {κ β : Type} [DecidableEq κ] {l : List (κ × β)} {k : κ} {v : β} (h : look l k = some v) : (k, v) ∈ l := by
  obtain ⟨j, _, hj⟩ := look_pos h; exact List.mem_of_getElem? hj
omit [Obs] in
theorem look_isSome {κ β : Type} [DecidableEq κ] {l : List (κ × β)} {k : κ} (h : k ∈ l.map (·.1)) : ∃ v, look l k = some v := by
  cases e : look l k with
  | some v => exact ⟨v, rfl⟩
  | none =>
    obtain ⟨x, hx, rfl⟩ := List.mem_map.1 h
    exact (posK_none (look_none e) x hx rfl).elim
omit [Obs] in
theorem putK_mem {κ β : Type} [DecidableEq κ] {l : List (κ × β)} {k : κ} {v : β} {x : κ × β} (h : x ∈ putK l k v) : x ∈ l ∨ x = (k, v) := by
  unfold putK at h
  split at h
  · exact (List.mem_or_eq_of_mem_set h)
  · simpa using h
omit [Obs] in
theorem kv_names (fs : List (ByteArray × Fi)) : (kvOf fs).map (·.1) = fs.map (·.1) := by simp [kvOf]


set_option maxHeartbeats 2000000 in
theorem Crash_spec {F : Hp} {K : Value → List HProp → Prop} {d : Nat} {S : DS} {pk : Option Addr} {kcap : Nat} {keep : List Int} (hg : S.good) (hkeep : SlIn F encI 1 pk keep) (hkl : keep.length ≤ 4611686018427387904)
    (hK : ∀ l, l.Perm (S.fs.map (·.1)) → Rising l → K (.int .i64 0) [diskC d ⟨crashF keep l 0 S.fs, -1, false⟩]) :
    CallK Try.prog F 13 #[.pointer (some ⟨d, 0, none⟩), .slice pk keep.length kcap] [diskC d S] K := by
  obtain ⟨Sfs, fuse, off⟩ := S
  refine CallK.openE .here disk_open ?_
  rintro ⟨m, ⟨fs, hfs⟩⟩
  simp only at hfs
  subst hfs
  show CallK _ _ _ _ [diskH d m fuse off, mapC Value.string m (kvOf fs), filesC fs] _
  have hgk : (kvOf fs).length ≤ 1000 := by have := hg.1; simpa [vw, kvOf] using this
  have hgn : ∀ x ∈ kvOf fs, x.1.size ≤ 1000 := by
    intro x hx
    obtain ⟨y, hy, rfl⟩ := List.mem_map.1 hx
    exact (hg.2 (y.1, (y.2.bytes, y.2.sure)) (List.mem_map.2 ⟨y, hy, rfl⟩)).1
  have hgf : ∀ x ∈ fs, x.2.bytes.length ≤ 4194304 ∧ 0 ≤ x.2.sure ∧ x.2.sure ≤ x.2.bytes.length := fun y hy => (hg.2 (y.1, (y.2.bytes, y.2.sure)) (List.mem_map.2 ⟨y, hy, rfl⟩)).2
  refine CallK.enter Try.func13 rfl Try.ntmps13 rfl ?_
  refine Tr.seq ?_
  refine Tr.region ?_
  refine TrL.assign rfl rfl ?_
  refine TrL.nil (At.then_normal ?_)
  refine Tr.seq ?_
  refine Tr.seq ?_
  refine Tr.region ?_
  refine TrL.move rfl rfl ?_
  refine TrL.call rfl rfl rfl ca25 (by repeat (first | exact Picks.nil | with_reducible exact Pick.here | with_reducible apply Pick.there | with_reducible apply Pick.app_nil | with_reducible apply Pick.app_cons | apply Picks.cons)) (fun Ft10 hUt10 => may_spec (l := []) (.inl rfl) (by simp) ?_)
  refine TrL.not rfl rfl ?_
  refine TrL.nil (At.then_normal ?_)
  refine Tr.cond rfl (fun h11 => ?_) (fun h11 => ?_)
  · try simp only [beq_iff_eq, beq_eq_false_iff_ne, Bool.not_eq_true, Bool.not_eq_false, decide_eq_true_eq, decide_eq_false_iff_not, Bool.not_eq_true', Bool.not_eq_false', bne_iff_ne, Bool.not_eq_eq_eq_not, Bool.not_true, Bool.not_false, ne_eq, Decidable.not_not, Int.not_lt, Int.not_le] at h11
    simp at h11
    --END
  · try simp only [beq_iff_eq, beq_eq_false_iff_ne, Bool.not_eq_true, Bool.not_eq_false, decide_eq_true_eq, decide_eq_false_iff_not, Bool.not_eq_true', Bool.not_eq_false', bne_iff_ne, Bool.not_eq_eq_eq_not, Bool.not_true, Bool.not_false, ne_eq, Decidable.not_not, Int.not_lt, Int.not_le] at h11
    refine Tr.skip (At.then_normal ?_)
    refine Tr.seq ?_
    refine Tr.seq ?_
    refine Tr.region ?_
    refine TrL.move rfl rfl ?_
    refine TrL.call rfl rfl rfl ca18 (by repeat (first | exact Picks.nil | with_reducible exact Pick.here | with_reducible apply Pick.there | with_reducible apply Pick.app_nil | with_reducible apply Pick.app_cons | apply Picks.cons)) (fun Ft13 hUt13 => Names0_spec hgn hgk (fun pl capl l hpl hrl => ?_))
    have hll : l.length ≤ 1000 := by rw [hpl.length_eq, List.length_map]; exact hgk
    refine TrL.freezeO (enc := encS) (k := 1) (by repeat (first | with_reducible exact Pick.here | with_reducible apply Pick.there | with_reducible apply Pick.app_nil | with_reducible apply Pick.app_cons)) (by decide) (fun _ => rfl) (fun Fz hFz hsl hlc _ => ?_)
    replace hkeep := SlIn.mono _ _ _ _ _ _ hFz hkeep
    refine TrL.lenl rfl rfl se22 ?_
    refine TrL.move rfl rfl ?_
    refine TrL.nil (At.then_normal ?_)
    refine Tr.block ?_
    refine Tr.loopK [0, 1, 13, 14] (α := Nat × List (ByteArray × Fi)) (fun y => [(15, .int .i64 (y.1 : Int))]) (fun y => [filesC y.2]) (fun y => y.1 ≤ l.length ∧ kvOf y.2 = kvOf fs ∧ crashF keep (l.drop y.1) y.1 (vw y.2) = crashF keep l 0 (vw fs) ∧ (∀ x ∈ y.2, x.2.bytes.length ≤ 4194304 ∧ 0 ≤ x.2.sure ∧ x.2.sure ≤ x.2.bytes.length)) (fun y => l.length - y.1) ((0, fs)) (by rfl) ?_ (by repeat (first | exact Sub.nil | refine Sub.cons (by rfl) ?_)) (by repeat (first | exact Picks.nil | with_reducible exact Pick.here | with_reducible apply Pick.there | with_reducible apply Pick.app_nil | with_reducible apply Pick.app_cons | apply Picks.cons)) ?_
    · exact ⟨Nat.zero_le _, rfl, rfl, hgf⟩
    rintro y ⟨hy1, hy2, hy3, hy4⟩
    refine Tr.seq ?_
    refine Tr.region ?_
    refine TrL.lss rfl rfl rfl ?_
    refine TrL.nil (At.then_normal ?_)
    refine Tr.seq ?_
    refine Tr.cond rfl (fun h16 => ?_) (fun h16 => ?_)
    · try simp only [beq_iff_eq, beq_eq_false_iff_ne, Bool.not_eq_true, Bool.not_eq_false, decide_eq_true_eq, decide_eq_false_iff_not, Bool.not_eq_true', Bool.not_eq_false', bne_iff_ne, Bool.not_eq_eq_eq_not, Bool.not_true, Bool.not_false, ne_eq, Decidable.not_not, Int.not_lt, Int.not_le] at h16
      refine Tr.skip (At.then_normal ?_)
      refine Tr.seq ?_
      refine Tr.block ?_
      refine Tr.seq ?_
      refine Tr.region ?_
      refine TrL.move rfl rfl ?_
      refine TrL.idxF rfl rfl rfl se22 sz9 (by assumption) rfl rfl rfl (List.getElem?_eq_getElem (by omega)) (fun b18 o18 hp18 hc18 => ?_)
      refine TrL.loadR1 rfl rfl sc9 (by assumption) ?_
      refine TrL.assign rfl rfl ?_
      refine TrL.assign rfl rfl ?_
      refine TrL.nil (At.then_normal ?_)
      refine Tr.seq ?_
      have hmem : l[y.1] ∈ y.2.map (·.1) := by rw [← kv_names, hy2]; exact hpl.mem_iff.1 (List.getElem_mem _)
      obtain ⟨fi, hfi⟩ := look_isSome hmem
      have hlk : (look (kvOf fs) l[y.1]).getD (.pointer none) = ptrOf fi := by rw [← hy2, look_kv, hfi]; rfl
      have hfb := hy4 _ (look_mem hfi)
      simp only at hfb
      refine Tr.region ?_
      refine TrL.move rfl rfl ?_
      refine TrL.nilCheck rfl rfl ?_
      refine TrL.field0 rfl rfl fl48_0 ?_
      refine TrL.load1 rfl rfl sc46 (Sees.cl1 (by repeat (first | with_reducible exact Pick.here | with_reducible apply Pick.there | with_reducible apply Pick.app_nil | with_reducible apply Pick.app_cons)) (by rfl)) ?_
      refine TrL.move rfl rfl ?_
      refine TrL.lookup (kf := Value.string) rfl rfl rfl (strKey st9) mp46 zv52 (by repeat (first | with_reducible exact Pick.here | with_reducible apply Pick.there | with_reducible apply Pick.app_nil | with_reducible apply Pick.app_cons)) rfl ?_
      refine TrL.assign rfl rfl ?_
      refine TrL.nil (At.then_normal ?_)
      refine Tr.seq ?_
      refine Tr.open_ (by repeat (first | with_reducible exact Pick.here | with_reducible apply Pick.there | with_reducible apply Pick.app_nil | with_reducible apply Pick.app_cons)) (look_open hfi) ?_
      refine Tr.fact (ch := bytesH fi) (by repeat (first | with_reducible exact Pick.here | with_reducible apply Pick.there | with_reducible apply Pick.app_nil | with_reducible apply Pick.app_cons)) (fun _ ho => OwnR.le ho) (fun hle => ?_)
      rw [hlk]
      refine Tr.region ?_
      refine TrL.assign rfl rfl ?_
      refine TrL.nil (At.then_normal ?_)
      refine Tr.seq ?_
      refine Tr.seq ?_
      refine Tr.region ?_
      refine TrL.move rfl rfl ?_
      refine TrL.lenl rfl rfl se23 ?_
      refine TrL.gtr rfl rfl rfl ?_
      refine TrL.nil (At.then_normal ?_)
      refine Tr.cond rfl (fun h28 => ?_) (fun h28 => ?_)
      · try simp only [beq_iff_eq, beq_eq_false_iff_ne, Bool.not_eq_true, Bool.not_eq_false, decide_eq_true_eq, decide_eq_false_iff_not, Bool.not_eq_true', Bool.not_eq_false', bne_iff_ne, Bool.not_eq_eq_eq_not, Bool.not_true, Bool.not_false, ne_eq, Decidable.not_not, Int.not_lt, Int.not_le] at h28
        refine Tr.region ?_
        refine TrL.move rfl rfl ?_
        refine TrL.move rfl rfl ?_
        refine TrL.move rfl rfl ?_
        refine TrL.lenl rfl rfl se23 ?_
        refine TrL.rem rfl rfl rfl (by omega) ?_
        refine TrL.idxF rfl rfl rfl se23 sz3 hkeep rfl rfl (show _ = ((y.1 % keep.length : Nat) : Int) from (Int.ofNat_tmod _ _)) (List.getElem?_eq_getElem (Nat.mod_lt _ (by omega))) (fun b34 o34 hp34 hc34 => ?_)
        refine TrL.loadR1 rfl rfl sc3 (by assumption) ?_
        refine TrL.max2 rfl rfl ?_
        refine TrL.assign rfl rfl ?_
        refine TrL.nil (At.then_normal ?_)
        refine Tr.seq ?_
        refine Tr.regionT 25 mixed (by kernel_rfl) rfl rfl ?_
        refine TrL.move rfl rfl ?_
        refine TrL.move rfl rfl ?_
        refine TrL.nilCheck rfl rfl ?_
        refine TrL.field0 rfl rfl fl55_0 ?_
        refine TrL.load1 rfl rfl sc39 (Sees.cl1 (by repeat (first | with_reducible exact Pick.here | with_reducible apply Pick.there | with_reducible apply Pick.app_nil | with_reducible apply Pick.app_cons)) (by rfl)) ?_
        refine TrL.move rfl rfl ?_
        refine TrL.nilCheck rfl rfl ?_
        refine TrL.field rfl rfl fl55_1 ?_
        refine TrL.load1 rfl rfl sc3 (Sees.cl1 (by repeat (first | with_reducible exact Pick.here | with_reducible apply Pick.there | with_reducible apply Pick.app_nil | with_reducible apply Pick.app_cons)) (by rfl)) ?_
        refine TrL.move rfl rfl ?_
        refine TrL.move rfl rfl ?_
        refine TrL.nilCheck rfl rfl ?_
        refine TrL.field0 rfl rfl fl55_0 ?_
        refine TrL.load1 rfl rfl sc39 (Sees.cl1 (by repeat (first | with_reducible exact Pick.here | with_reducible apply Pick.there | with_reducible apply Pick.app_nil | with_reducible apply Pick.app_cons)) (by rfl)) ?_
        refine TrL.lenl rfl rfl se39 ?_
        refine TrL.move rfl rfl ?_
        refine TrL.nilCheck rfl rfl ?_
        refine TrL.field rfl rfl fl55_1 ?_
        refine TrL.load1 rfl rfl sc3 (Sees.cl1 (by repeat (first | with_reducible exact Pick.here | with_reducible apply Pick.there | with_reducible apply Pick.app_nil | with_reducible apply Pick.app_cons)) (by rfl)) ?_
        refine TrL.subI rfl rfl rfl (by omega) ?_
        refine TrL.min2 rfl rfl ?_
        refine TrL.addI rfl rfl rfl (by omega) ?_
        refine TrL.cutH rfl rfl rfl se39 sz5 (by omega) (by omega) ?_
        refine TrL.nilCheck rfl rfl ?_
        refine TrL.field0 rfl rfl fl55_0 ?_
        refine TrL.turn ?_
        refine TrL.store1 rfl rfl sz39 rfl (by repeat (first | with_reducible exact Upd.here | with_reducible apply Upd.there | with_reducible apply Upd.app_nil | with_reducible apply Upd.app_cons)) (by rfl) ?_
        refine TrL.nil (At.then_normal ?_)
        refine Tr.region ?_
        refine TrL.move rfl rfl ?_
        refine TrL.move rfl rfl ?_
        refine TrL.nilCheck rfl rfl ?_
        refine TrL.field0 rfl rfl fl55_0 ?_
        refine TrL.load1 rfl rfl sc39 (Sees.cl1 (by repeat (first | with_reducible exact Pick.here | with_reducible apply Pick.there | with_reducible apply Pick.app_nil | with_reducible apply Pick.app_cons)) (by rfl)) ?_
        refine TrL.lenl rfl rfl se39 ?_
        refine TrL.nilCheck rfl rfl ?_
        refine TrL.field rfl rfl fl55_1 ?_
        refine TrL.store1 rfl rfl sz3 rfl (by repeat (first | with_reducible exact Upd.here | with_reducible apply Upd.there | with_reducible apply Upd.app_nil | with_reducible apply Upd.app_cons)) (by rfl) ?_
        refine TrL.nil (At.block_normal (At.then_normal ?_))
        first | rw [leftN_pos (Nat.mod_lt _ (by omega))] | rw [leftN_nil (by omega)]
        have hlf := leftN_le (keep := keep) (k := y.1) hfb.2.1 hfb.2.2
        refine Tr.close_ (by repeat (first | exact Picks.nil | with_reducible exact Pick.here | with_reducible apply Pick.there | with_reducible apply Pick.app_nil | with_reducible apply Pick.app_cons | apply Picks.cons)) (look_cut hfi hlf.1 hlf.2) ?_
        refine Tr.region ?_
        refine TrL.addI rfl rfl rfl (by omega) ?_
        refine TrL.move rfl rfl ?_
        refine TrL.nil ?_
        refine At.again (y.1 + 1, putK y.2 l[y.1] _) ⟨by omega, ?_, ?_, ?_⟩ (by show l.length - (y.1 + 1) < l.length - y.1; omega) (by repeat (first | exact Sub.nil | refine Sub.cons (by rfl) ?_)) (by repeat (first | exact Picks.nil | with_reducible exact Pick.here | with_reducible apply Pick.there | with_reducible apply Pick.app_nil | with_reducible apply Pick.app_cons | apply Picks.cons))
        · simp only; rw [← hy2]; exact kv_same hfi rfl
        · simp only; rw [← hy3, crashF_drop (l := l) (i := y.1) (by omega), put_vw, look_vw, hfi]; rfl
        · intro x hx; rcases putK_mem hx with hx | rfl
          · exact hy4 x hx
          · simp only [List.length_take]; omega
      · try simp only [beq_iff_eq, beq_eq_false_iff_ne, Bool.not_eq_true, Bool.not_eq_false, decide_eq_true_eq, decide_eq_false_iff_not, Bool.not_eq_true', Bool.not_eq_false', bne_iff_ne, Bool.not_eq_eq_eq_not, Bool.not_true, Bool.not_false, ne_eq, Decidable.not_not, Int.not_lt, Int.not_le] at h28
        refine Tr.skip (At.then_normal ?_)
        refine Tr.seq ?_
        refine Tr.regionT 25 mixed (by kernel_rfl) rfl rfl ?_
        refine TrL.move rfl rfl ?_
        refine TrL.move rfl rfl ?_
        refine TrL.nilCheck rfl rfl ?_
        refine TrL.field0 rfl rfl fl55_0 ?_
        refine TrL.load1 rfl rfl sc39 (Sees.cl1 (by repeat (first | with_reducible exact Pick.here | with_reducible apply Pick.there | with_reducible apply Pick.app_nil | with_reducible apply Pick.app_cons)) (by rfl)) ?_
        refine TrL.move rfl rfl ?_
        refine TrL.nilCheck rfl rfl ?_
        refine TrL.field rfl rfl fl55_1 ?_
        refine TrL.load1 rfl rfl sc3 (Sees.cl1 (by repeat (first | with_reducible exact Pick.here | with_reducible apply Pick.there | with_reducible apply Pick.app_nil | with_reducible apply Pick.app_cons)) (by rfl)) ?_
        refine TrL.move rfl rfl ?_
        refine TrL.move rfl rfl ?_
        refine TrL.nilCheck rfl rfl ?_
        refine TrL.field0 rfl rfl fl55_0 ?_
        refine TrL.load1 rfl rfl sc39 (Sees.cl1 (by repeat (first | with_reducible exact Pick.here | with_reducible apply Pick.there | with_reducible apply Pick.app_nil | with_reducible apply Pick.app_cons)) (by rfl)) ?_
        refine TrL.lenl rfl rfl se39 ?_
        refine TrL.move rfl rfl ?_
        refine TrL.nilCheck rfl rfl ?_
        refine TrL.field rfl rfl fl55_1 ?_
        refine TrL.load1 rfl rfl sc3 (Sees.cl1 (by repeat (first | with_reducible exact Pick.here | with_reducible apply Pick.there | with_reducible apply Pick.app_nil | with_reducible apply Pick.app_cons)) (by rfl)) ?_
        refine TrL.subI rfl rfl rfl (by omega) ?_
        refine TrL.min2 rfl rfl ?_
        refine TrL.addI rfl rfl rfl (by omega) ?_
        refine TrL.cutH rfl rfl rfl se39 sz5 (by omega) (by omega) ?_
        refine TrL.nilCheck rfl rfl ?_
        refine TrL.field0 rfl rfl fl55_0 ?_
        refine TrL.turn ?_
        refine TrL.store1 rfl rfl sz39 rfl (by repeat (first | with_reducible exact Upd.here | with_reducible apply Upd.there | with_reducible apply Upd.app_nil | with_reducible apply Upd.app_cons)) (by rfl) ?_
        refine TrL.nil (At.then_normal ?_)
        refine Tr.region ?_
        refine TrL.move rfl rfl ?_
        refine TrL.move rfl rfl ?_
        refine TrL.nilCheck rfl rfl ?_
        refine TrL.field0 rfl rfl fl55_0 ?_
        refine TrL.load1 rfl rfl sc39 (Sees.cl1 (by repeat (first | with_reducible exact Pick.here | with_reducible apply Pick.there | with_reducible apply Pick.app_nil | with_reducible apply Pick.app_cons)) (by rfl)) ?_
        refine TrL.lenl rfl rfl se39 ?_
        refine TrL.nilCheck rfl rfl ?_
        refine TrL.field rfl rfl fl55_1 ?_
        refine TrL.store1 rfl rfl sz3 rfl (by repeat (first | with_reducible exact Upd.here | with_reducible apply Upd.there | with_reducible apply Upd.app_nil | with_reducible apply Upd.app_cons)) (by rfl) ?_
        refine TrL.nil (At.block_normal (At.then_normal ?_))
        first | rw [leftN_pos (Nat.mod_lt _ (by omega))] | rw [leftN_nil (by omega)]
        have hlf := leftN_le (keep := keep) (k := y.1) hfb.2.1 hfb.2.2
        refine Tr.close_ (by repeat (first | exact Picks.nil | with_reducible exact Pick.here | with_reducible apply Pick.there | with_reducible apply Pick.app_nil | with_reducible apply Pick.app_cons | apply Picks.cons)) (look_cut hfi hlf.1 hlf.2) ?_
        refine Tr.region ?_
        refine TrL.addI rfl rfl rfl (by omega) ?_
        refine TrL.move rfl rfl ?_
        refine TrL.nil ?_
        refine At.again (y.1 + 1, putK y.2 l[y.1] _) ⟨by omega, ?_, ?_, ?_⟩ (by show l.length - (y.1 + 1) < l.length - y.1; omega) (by repeat (first | exact Sub.nil | refine Sub.cons (by rfl) ?_)) (by repeat (first | exact Picks.nil | with_reducible exact Pick.here | with_reducible apply Pick.there | with_reducible apply Pick.app_nil | with_reducible apply Pick.app_cons | apply Picks.cons))
        · simp only; rw [← hy2]; exact kv_same hfi rfl
        · simp only; rw [← hy3, crashF_drop (l := l) (i := y.1) (by omega), put_vw, look_vw, hfi]; rfl
        · intro x hx; rcases putK_mem hx with hx | rfl
          · exact hy4 x hx
          · simp only [List.length_take]; omega
    · try simp only [beq_iff_eq, beq_eq_false_iff_ne, Bool.not_eq_true, Bool.not_eq_false, decide_eq_true_eq, decide_eq_false_iff_not, Bool.not_eq_true', Bool.not_eq_false', bne_iff_ne, Bool.not_eq_eq_eq_not, Bool.not_true, Bool.not_false, ne_eq, Decidable.not_not, Int.not_lt, Int.not_le] at h16
      refine Tr.exit (At.then_exit (At.then_exit (At.block_hit (At.then_normal ?_))))
      refine Tr.seq ?_
      refine Tr.region ?_
      refine TrL.move rfl rfl ?_
      refine TrL.move rfl rfl ?_
      refine TrL.nilCheck rfl rfl ?_
      refine TrL.field rfl rfl fl48_1 ?_
      refine TrL.store1 rfl rfl sz3 rfl (by repeat (first | with_reducible exact Upd.here | with_reducible apply Upd.there | with_reducible apply Upd.app_nil | with_reducible apply Upd.app_cons)) (by rfl) ?_
      refine TrL.nilCheck rfl rfl ?_
      refine TrL.field rfl rfl fl48_2 ?_
      refine TrL.store1 rfl rfl sz4 rfl (by repeat (first | with_reducible exact Upd.here | with_reducible apply Upd.there | with_reducible apply Upd.app_nil | with_reducible apply Upd.app_cons)) (by rfl) ?_
      refine TrL.nil (At.then_normal ?_)
      refine Tr.seq ?_
      refine Tr.region ?_
      refine TrL.assign rfl rfl ?_
      refine TrL.nil (At.then_normal ?_)
      refine Tr.ret (At.retX [diskH d m _ _, mapC Value.string m (kvOf _), filesC _] (.inl rfl) rfl (Res.tmp rfl Res.nil) (by repeat (first | exact Picks.nil | with_reducible exact Pick.here | with_reducible apply Pick.there | with_reducible apply Pick.app_nil | with_reducible apply Pick.app_cons | apply Picks.cons)) (by 
          refine ⟨_, fun h hs => by rw [← hy2] at hs; exact one_stars (disk_close rfl h hs), ?_⟩
          have e : l.drop y.1 = [] := List.drop_of_length_le (by omega)
          rw [e] at hy3; simp only [crashF] at hy3; rw [hy3]; refine hK l (hpl.trans (by rw [kv_names]; simp only [vw, List.map_map]; exact List.Perm.refl _)) hrl))
end Go.Proofs.Ytojfmielpjccdaa

/-
  The contracts of package fs: the doings, over a disk as plain data.
  No condition but those that each statement names.
-/
import Derived.Test.YtojfmielpjccdaaFsB
namespace Go.Proofs.Ytojfmielpjccdaa
set_option linter.unusedSimpArgs false
set_option linter.unusedVariables false
set_option linter.unusedSectionVars false
open Go.RowKit
variable [Obs]


def DS.ok (S : DS) : Prop := -1 ≤ S.fuse ∧ S.fuse ≤ 9223372036854775807
def makeF (S : DS) (name : ByteArray) : Int × DS := match doingF (nameOk name) S.fuse S.off with
  | (e, fu, of) => if e ≠ 0 then (e, ⟨S.fs, fu, of⟩) else if (look S.fs name).isSome then (1, ⟨S.fs, fu, of⟩) else if 256 ≤ S.fs.length then (2, ⟨S.fs, fu, of⟩) else (0, ⟨putK S.fs name ([], 0), fu, of⟩)
def appendF (S : DS) (name s : ByteArray) : Int × DS := match doingF (nameOk name) S.fuse S.off with
  | (e, fu, of) => if e ≠ 0 then (e, ⟨S.fs, fu, of⟩) else match look S.fs name with
    | none => (3, ⟨S.fs, fu, of⟩)
    | some f => if 4194304 < f.1.length + s.size then (2, ⟨S.fs, fu, of⟩) else (0, ⟨putK S.fs name (f.1 ++ s.data.toList, f.2), fu, of⟩)
def syncF (S : DS) (name : ByteArray) : Int × DS := match doingF (nameOk name) S.fuse S.off with
  | (e, fu, of) => if e ≠ 0 then (e, ⟨S.fs, fu, of⟩) else match look S.fs name with
    | none => (3, ⟨S.fs, fu, of⟩)
    | some f => (0, ⟨putK S.fs name (f.1, (f.1.length : Int)), fu, of⟩)
def removeF (S : DS) (name : ByteArray) : Int × DS := match doingF (nameOk name) S.fuse S.off with
  | (e, fu, of) => if e ≠ 0 then (e, ⟨S.fs, fu, of⟩) else match look S.fs name with
    | none => (3, ⟨S.fs, fu, of⟩)
    | some _ => (0, ⟨delK S.fs name, fu, of⟩)


set_option maxHeartbeats 1000000 in
theorem Make_spec {F : Hp} {K : Value → List HProp → Prop} {d : Nat} {S : DS} {name : ByteArray} (h64 : S.ok) (hK : ∀ e S', makeF S name = (e, S') → K (.int .i64 e) [diskC d S']) :
    CallK Try.prog F 10 #[.pointer (some ⟨d, 0, none⟩), .string name] [diskC d S] K := by
  obtain ⟨Sfs, fuse, off⟩ := S
  refine CallK.openE .here disk_open ?_
  rintro ⟨m, ⟨fs, hfs⟩⟩
  simp only at hfs
  subst hfs
  have h64 : -1 ≤ fuse ∧ fuse ≤ 9223372036854775807 := h64
  show CallK _ _ _ _ [diskH d m fuse off, mapC Value.string m (kvOf fs), filesC fs] _
  refine CallK.enter Try.func10 rfl Try.ntmps10 rfl ?_
  refine Tr.seq ?_
  refine Tr.region ?_
  refine TrL.assign rfl rfl ?_
  refine TrL.nil (At.then_normal ?_)
  refine Tr.seq ?_
  refine Tr.seq ?_
  refine Tr.region ?_
  refine TrL.move rfl rfl ?_
  refine TrL.move rfl rfl ?_
  refine TrL.buildSlF rfl rfl rfl se22 sz9 zc9 rfl rfl rfl (fun b10 => ?_)
  refine TrL.call rfl rfl rfl ca23 (by repeat (first | exact Picks.nil | with_reducible exact Pick.here | with_reducible apply Pick.there | with_reducible apply Pick.app_nil | with_reducible apply Pick.app_cons | apply Picks.cons)) (fun Ft11 hUt11 => doing_spec (l := [name]) (cl_up hUt11 (by repeat (first | with_reducible exact Pick.here | with_reducible apply Pick.there | with_reducible apply Pick.app_nil | with_reducible apply Pick.app_cons)) (by rfl) (fun _ _ => rfl)) (by simp) (by omega) (fun e11 fu11 of11 hd11 => ?_))
  have hd' : doingF (nameOk name) fuse off = (e11, fu11, of11) := by rw [← hd11]; simp
  refine TrL.assign rfl rfl ?_
  refine TrL.nil (At.then_normal ?_)
  refine Tr.seq ?_
  refine Tr.region ?_
  refine TrL.move rfl rfl ?_
  refine TrL.nei rfl rfl rfl ?_
  refine TrL.nil (At.then_normal ?_)
  refine Tr.cond rfl (fun h13 => ?_) (fun h13 => ?_)
  · try simp only [beq_iff_eq, beq_eq_false_iff_ne, Bool.not_eq_true, Bool.not_eq_false, decide_eq_true_eq, decide_eq_false_iff_not, Bool.not_eq_true', Bool.not_eq_false', bne_iff_ne, Bool.not_eq_eq_eq_not, Bool.not_true, Bool.not_false, ne_eq, Decidable.not_not, Int.not_lt, Int.not_le] at h13
    refine Tr.seq ?_
    refine Tr.region ?_
    refine TrL.move rfl rfl ?_
    refine TrL.assign rfl rfl ?_
    refine TrL.nil (At.then_normal ?_)
    refine Tr.ret (At.then_ret (At.retX [diskH d m _ _, mapC Value.string m (kvOf _), filesC _] (.inl rfl) rfl (Res.tmp rfl Res.nil) (by repeat (first | exact Picks.nil | with_reducible exact Pick.here | with_reducible apply Pick.there | with_reducible apply Pick.app_nil | with_reducible apply Pick.app_cons | apply Picks.cons)) (by 
        refine ⟨_, fun h hs => one_stars (disk_close rfl h hs), hK _ _ ?_⟩
        unfold makeF; simp only [hd', look_vw, look_kv, Option.isSome_map, put_vw] at *
        simp [vw, kvOf] at *; grind)))
  · try simp only [beq_iff_eq, beq_eq_false_iff_ne, Bool.not_eq_true, Bool.not_eq_false, decide_eq_true_eq, decide_eq_false_iff_not, Bool.not_eq_true', Bool.not_eq_false', bne_iff_ne, Bool.not_eq_eq_eq_not, Bool.not_true, Bool.not_false, ne_eq, Decidable.not_not, Int.not_lt, Int.not_le] at h13
    refine Tr.skip (At.then_normal ?_)
    refine Tr.seq ?_
    refine Tr.seq ?_
    refine Tr.region ?_
    refine TrL.move rfl rfl ?_
    refine TrL.nilCheck rfl rfl ?_
    refine TrL.field0 rfl rfl fl48_0 ?_
    refine TrL.load1 rfl rfl sc46 (Sees.cl1 (by repeat (first | with_reducible exact Pick.here | with_reducible apply Pick.there | with_reducible apply Pick.app_nil | with_reducible apply Pick.app_cons)) (by rfl)) ?_
    refine TrL.move rfl rfl ?_
    refine TrL.lookupOk (kf := Value.string) rfl rfl rfl (strKey st9) mp46 zv52 (by repeat (first | with_reducible exact Pick.here | with_reducible apply Pick.there | with_reducible apply Pick.app_nil | with_reducible apply Pick.app_cons)) rfl rfl ?_
    refine TrL.move rfl rfl ?_
    refine TrL.extract rfl rfl rfl ?_
    refine TrL.extract rfl rfl rfl ?_
    refine TrL.assign rfl rfl ?_
    refine TrL.assign rfl rfl ?_
    refine TrL.nil (At.then_normal ?_)
    refine Tr.seq ?_
    refine Tr.region ?_
    refine TrL.move rfl rfl ?_
    refine TrL.nil (At.then_normal ?_)
    refine Tr.cond rfl (fun h24 => ?_) (fun h24 => ?_)
    · try simp only [beq_iff_eq, beq_eq_false_iff_ne, Bool.not_eq_true, Bool.not_eq_false, decide_eq_true_eq, decide_eq_false_iff_not, Bool.not_eq_true', Bool.not_eq_false', bne_iff_ne, Bool.not_eq_eq_eq_not, Bool.not_true, Bool.not_false, ne_eq, Decidable.not_not, Int.not_lt, Int.not_le] at h24
      refine Tr.seq ?_
      refine Tr.region ?_
      refine TrL.assign rfl rfl ?_
      refine TrL.nil (At.then_normal ?_)
      refine Tr.ret (At.then_ret (At.retX [diskH d m _ _, mapC Value.string m (kvOf _), filesC _] (.inl rfl) rfl (Res.tmp rfl Res.nil) (by repeat (first | exact Picks.nil | with_reducible exact Pick.here | with_reducible apply Pick.there | with_reducible apply Pick.app_nil | with_reducible apply Pick.app_cons | apply Picks.cons)) (by 
          refine ⟨_, fun h hs => one_stars (disk_close rfl h hs), hK _ _ ?_⟩
          unfold makeF; simp only [hd', look_vw, look_kv, Option.isSome_map, put_vw] at *
          simp [vw, kvOf] at *; grind)))
    · try simp only [beq_iff_eq, beq_eq_false_iff_ne, Bool.not_eq_true, Bool.not_eq_false, decide_eq_true_eq, decide_eq_false_iff_not, Bool.not_eq_true', Bool.not_eq_false', bne_iff_ne, Bool.not_eq_eq_eq_not, Bool.not_true, Bool.not_false, ne_eq, Decidable.not_not, Int.not_lt, Int.not_le] at h24
      refine Tr.skip (At.then_normal ?_)
      refine Tr.seq ?_
      refine Tr.seq ?_
      refine Tr.region ?_
      refine TrL.move rfl rfl ?_
      refine TrL.nilCheck rfl rfl ?_
      refine TrL.field0 rfl rfl fl48_0 ?_
      refine TrL.load1 rfl rfl sc46 (Sees.cl1 (by repeat (first | with_reducible exact Pick.here | with_reducible apply Pick.there | with_reducible apply Pick.app_nil | with_reducible apply Pick.app_cons)) (by rfl)) ?_
      refine TrL.lenMap rfl rfl mp46 (by repeat (first | with_reducible exact Pick.here | with_reducible apply Pick.there | with_reducible apply Pick.app_nil | with_reducible apply Pick.app_cons)) ?_
      refine TrL.geq rfl rfl rfl ?_
      refine TrL.nil (At.then_normal ?_)
      refine Tr.cond rfl (fun h30 => ?_) (fun h30 => ?_)
      · try simp only [beq_iff_eq, beq_eq_false_iff_ne, Bool.not_eq_true, Bool.not_eq_false, decide_eq_true_eq, decide_eq_false_iff_not, Bool.not_eq_true', Bool.not_eq_false', bne_iff_ne, Bool.not_eq_eq_eq_not, Bool.not_true, Bool.not_false, ne_eq, Decidable.not_not, Int.not_lt, Int.not_le] at h30
        refine Tr.seq ?_
        refine Tr.region ?_
        refine TrL.assign rfl rfl ?_
        refine TrL.nil (At.then_normal ?_)
        refine Tr.ret (At.then_ret (At.retX [diskH d m _ _, mapC Value.string m (kvOf _), filesC _] (.inl rfl) rfl (Res.tmp rfl Res.nil) (by repeat (first | exact Picks.nil | with_reducible exact Pick.here | with_reducible apply Pick.there | with_reducible apply Pick.app_nil | with_reducible apply Pick.app_cons | apply Picks.cons)) (by 
            refine ⟨_, fun h hs => one_stars (disk_close rfl h hs), hK _ _ ?_⟩
            unfold makeF; simp only [hd', look_vw, look_kv, Option.isSome_map, put_vw] at *
            simp [vw, kvOf] at *; grind)))
      · try simp only [beq_iff_eq, beq_eq_false_iff_ne, Bool.not_eq_true, Bool.not_eq_false, decide_eq_true_eq, decide_eq_false_iff_not, Bool.not_eq_true', Bool.not_eq_false', bne_iff_ne, Bool.not_eq_eq_eq_not, Bool.not_true, Bool.not_false, ne_eq, Decidable.not_not, Int.not_lt, Int.not_le] at h30
        refine Tr.skip (At.then_normal ?_)
        refine Tr.seq ?_
        refine Tr.region ?_
        refine TrL.move rfl rfl ?_
        refine TrL.nilCheck rfl rfl ?_
        refine TrL.field0 rfl rfl fl48_0 ?_
        refine TrL.load1 rfl rfl sc46 (Sees.cl1 (by repeat (first | with_reducible exact Pick.here | with_reducible apply Pick.there | with_reducible apply Pick.app_nil | with_reducible apply Pick.app_cons)) (by rfl)) ?_
        refine TrL.move rfl rfl ?_
        refine TrL.build rfl rfl pl55 zc55 rfl ?_
        refine TrL.boxA rfl rfl (fun b37 => ?_)
        refine TrL.mapUpdate (kf := Value.string) rfl rfl rfl (strKey st9) mp46 (by repeat (first | with_reducible exact Upd.here | with_reducible apply Upd.there | with_reducible apply Upd.app_nil | with_reducible apply Upd.app_cons)) ?_
        refine TrL.nil (At.then_normal ?_)
        refine Tr.seq ?_
        have hnone : look fs name = none := by
          rw [look_kv] at h24; simpa using h24
        have hkv : putK (kvOf fs) name (.pointer (some ⟨b37, 0, none⟩)) = kvOf (putK fs name ⟨b37, none, 0, [], 0⟩) := (put_kv fs name ⟨b37, none, 0, [], 0⟩).symm
        rw [hkv]
        have hput : putK fs name ⟨b37, none, 0, [], 0⟩ = fs ++ [(name, ⟨b37, none, 0, [], 0⟩)] := by unfold putK; rw [look_none hnone]
        refine Tr.close_ (cs := [filesC fs, cl b37 [.slice none 0 0, .int .i64 0] 55]) (ch := filesC (putK fs name ⟨b37, none, 0, [], 0⟩)) (by repeat (first | exact Picks.nil | with_reducible exact Pick.here | with_reducible apply Pick.there | with_reducible apply Pick.app_nil | with_reducible apply Pick.app_cons | apply Picks.cons)) (fun h hs => by rw [hput]; exact files_add name ⟨b37, none, 0, [], 0⟩ rfl rfl rfl h hs) ?_
        refine Tr.region ?_
        refine TrL.assign rfl rfl ?_
        refine TrL.nil (At.then_normal ?_)
        refine Tr.ret (At.retX [diskH d m _ _, mapC Value.string m (kvOf _), filesC _] (.inl rfl) rfl (Res.tmp rfl Res.nil) (by repeat (first | exact Picks.nil | with_reducible exact Pick.here | with_reducible apply Pick.there | with_reducible apply Pick.app_nil | with_reducible apply Pick.app_cons | apply Picks.cons)) (by 
            refine ⟨_, fun h hs => one_stars (disk_close rfl h hs), hK _ _ ?_⟩
            unfold makeF; simp only [hd', look_vw, look_kv, Option.isSome_map, put_vw] at *
            simp [vw, kvOf] at *; grind))

omit [Obs] in
theorem findF_ok {ok : Bool} {fs : List (ByteArray × Fi)} {fuse : Int} {off : Bool} {name : ByteArray} {v : Value} {e fu : Int} {of : Bool} (h : findF ok (kvOf fs) fuse off name = (v, e, fu, of)) (he : e = 0) : ∃ fi, look fs name = some fi ∧ v = ptrOf fi ∧ doingF ok fuse off = (0, fu, of) := by
  unfold findF at h
  generalize hd : doingF ok fuse off = dd at h
  obtain ⟨e0, fu0, of0⟩ := dd
  rw [look_kv] at h
  by_cases h0 : e0 = 0
  · subst h0
    cases hl : look fs name with
    | none => rw [hl] at h; simp at h; omega
    | some fi => rw [hl] at h; simp at h; obtain ⟨rfl, _, rfl, rfl⟩ := h; exact ⟨fi, rfl, rfl, rfl⟩
  · simp [h0] at h; omega
omit [Obs] in
theorem findF_err {ok : Bool} {fs : List (ByteArray × Fi)} {fuse : Int} {off : Bool} {name : ByteArray} {v : Value} {e fu : Int} {of : Bool} (h : findF ok (kvOf fs) fuse off name = (v, e, fu, of)) (he : ¬ e = 0) : ∃ e0, doingF ok fuse off = (e0, fu, of) ∧ ((e0 ≠ 0 ∧ e = e0) ∨ (e0 = 0 ∧ look fs name = none ∧ e = 3)) := by
  unfold findF at h
  generalize hd : doingF ok fuse off = dd at h
  obtain ⟨e0, fu0, of0⟩ := dd
  rw [look_kv] at h
  by_cases h0 : e0 = 0
  · subst h0
    cases hl : look fs name with
    | none => rw [hl] at h; simp at h; obtain ⟨_, rfl, rfl, rfl⟩ := h; exact ⟨0, rfl, .inr ⟨rfl, rfl, rfl⟩⟩
    | some fi => rw [hl] at h; simp at h; omega
  · simp [h0] at h; obtain ⟨_, rfl, rfl, rfl⟩ := h; exact ⟨e0, rfl, .inl ⟨h0, rfl⟩⟩


omit [Obs] in
theorem disk_close2 {d m : Nat} {fs : List (ByteArray × Fi)} {fuse : Int} {off : Bool} {name : ByteArray} {f : Fi} (hf : look fs name = some f) (g : Fi) (hb : g.blk = f.blk) (h : Hp)
    (s : Stars [diskH d m fuse off, mapC Value.string m (kvOf fs), fileH g, bytesH g, filesC (delK fs name)] h) : diskC d ⟨vw (putK fs name g), fuse, off⟩ h := by
  refine ⟨m, putK fs name g, rfl, ?_⟩
  rw [kv_same hf hb]
  obtain ⟨h1, h2, d1, l1, l2, a, h3, h4, d2, l3, l4, b, c⟩ := s
  exact ⟨h1, h2, d1, l1, l2, a, h3, h4, d2, l3, l4, b, one_stars (look_close hf g _ c)⟩
omit [Obs] in
theorem disk_close3 {d m : Nat} {fs : List (ByteArray × Fi)} {fuse : Int} {off : Bool} {name : ByteArray} {f : Fi} (hf : look fs name = some f) {p : Option Addr} {cap : Nat} {bytes : List UInt8} {sure : Int} (h : Hp)
    (s : Stars [diskH d m fuse off, mapC Value.string m (kvOf fs), cl f.blk [.slice p bytes.length cap, .int .i64 sure] 55, Own 5 1 encB p cap bytes, filesC (delK fs name)] h) : diskC d ⟨vw (putK fs name ⟨f.blk, p, cap, bytes, sure⟩), fuse, off⟩ h :=
  disk_close2 hf ⟨f.blk, p, cap, bytes, sure⟩ rfl h s
omit [Obs] in
theorem files_del_name {fs : List (ByteArray × Fi)} (name : ByteArray) (h : Hp) (s : filesC fs h) : filesC (delK fs name) h := by
  unfold delK
  split
  · exact files_del _ h s
  · exact s
omit [Obs] in
theorem disk_del {d m : Nat} {fs : List (ByteArray × Fi)} {fuse : Int} {off : Bool} (name : ByteArray) (h : Hp)
    (s : Stars [diskH d m fuse off, mapC Value.string m (delK (kvOf fs) name), filesC fs] h) : diskC d ⟨vw (delK fs name), fuse, off⟩ h := by
  refine ⟨m, delK fs name, rfl, ?_⟩
  rw [del_kv]
  obtain ⟨h1, h2, d1, l1, l2, a, h3, h4, d2, l3, l4, b, h5, h6, d3, l5, l6, c, e⟩ := s
  exact ⟨h1, h2, d1, l1, l2, a, h3, h4, d2, l3, l4, b, h5, h6, d3, l5, l6, files_del_name name _ c, e⟩
omit [Obs] in
theorem vw_same {fs : List (ByteArray × Fi)} {name : ByteArray} {f : Fi} (hf : look fs name = some f) : putK (vw fs) name (f.bytes, f.sure) = vw fs := putK_same (by rw [look_vw, hf]; rfl)


set_option maxHeartbeats 1000000 in
theorem Append_spec {F : Hp} {K : Value → List HProp → Prop} {d : Nat} {S : DS} {name s : ByteArray} (h64 : S.ok) (hsz : s.size ≤ 4194304) (hK : ∀ e S', appendF S name s = (e, S') → K (.int .i64 e) [diskC d S']) :
    CallK Try.prog F 11 #[.pointer (some ⟨d, 0, none⟩), .string name, .string s] [diskC d S] K := by
  obtain ⟨Sfs, fuse, off⟩ := S
  refine CallK.openE .here disk_open ?_
  rintro ⟨m, ⟨fs, hfs⟩⟩
  simp only at hfs
  subst hfs
  have h64 : -1 ≤ fuse ∧ fuse ≤ 9223372036854775807 := h64
  show CallK _ _ _ _ [diskH d m fuse off, mapC Value.string m (kvOf fs), filesC fs] _
  refine CallK.enter Try.func11 rfl Try.ntmps11 rfl ?_
  refine Tr.seq ?_
  refine Tr.region ?_
  refine TrL.assign rfl rfl ?_
  refine TrL.nil (At.then_normal ?_)
  refine Tr.seq ?_
  refine Tr.region ?_
  refine TrL.move rfl rfl ?_
  refine TrL.move rfl rfl ?_
  refine TrL.own0 9 1 encS ?_
  refine TrL.call rfl rfl rfl ca24 (by repeat (first | exact Picks.nil | with_reducible exact Pick.here | with_reducible apply Pick.there | with_reducible apply Pick.app_nil | with_reducible apply Pick.app_cons | apply Picks.cons)) (fun Ft12 hUt12 => find_spec (l := []) (by simp) (by omega) (fun vt12 et12 fut12 oft12 hdt120 => ?_))
  have hdt12 : findF (nameOk name) (kvOf fs) fuse off name = (vt12, et12, fut12, oft12) := by rw [← hdt120]; simp
  refine TrL.move rfl rfl ?_
  refine TrL.extract rfl rfl rfl ?_
  refine TrL.extract rfl rfl rfl ?_
  refine TrL.assign rfl rfl ?_
  refine TrL.assign rfl rfl ?_
  refine TrL.nil (At.then_normal ?_)
  refine Tr.seq ?_
  refine Tr.block ?_
  refine Tr.seq ?_
  refine Tr.region ?_
  refine TrL.move rfl rfl ?_
  refine TrL.nei rfl rfl rfl ?_
  refine TrL.assign rfl rfl ?_
  refine TrL.nil (At.then_normal ?_)
  refine Tr.cond rfl (fun h15 => ?_) (fun h15 => ?_)
  · try simp only [beq_iff_eq, beq_eq_false_iff_ne, Bool.not_eq_true, Bool.not_eq_false, decide_eq_true_eq, decide_eq_false_iff_not, Bool.not_eq_true', Bool.not_eq_false', bne_iff_ne, Bool.not_eq_eq_eq_not, Bool.not_true, Bool.not_false, ne_eq, Decidable.not_not, Int.not_lt, Int.not_le] at h15
    refine Tr.seq ?_
    refine Tr.region ?_
    refine TrL.move rfl rfl ?_
    refine TrL.assign rfl rfl ?_
    refine TrL.nil (At.then_normal ?_)
    refine Tr.ret (At.block_ret (At.then_ret (At.retX [diskH d m _ _, mapC Value.string m (kvOf _), filesC _] (.inl rfl) rfl (Res.tmp rfl Res.nil) (by repeat (first | exact Picks.nil | with_reducible exact Pick.here | with_reducible apply Pick.there | with_reducible apply Pick.app_nil | with_reducible apply Pick.app_cons | apply Picks.cons)) (by 
        refine ⟨_, fun h hs => one_stars (disk_close rfl h hs), hK _ _ ?_⟩
        obtain ⟨e0, hd0, hcase⟩ := findF_err hdt12 h15
        unfold appendF; simp only [hd0, look_vw]; rcases hcase with ⟨h1, rfl⟩ | ⟨rfl, h2, rfl⟩ <;> simp [*]))))
  · try simp only [beq_iff_eq, beq_eq_false_iff_ne, Bool.not_eq_true, Bool.not_eq_false, decide_eq_true_eq, decide_eq_false_iff_not, Bool.not_eq_true', Bool.not_eq_false', bne_iff_ne, Bool.not_eq_eq_eq_not, Bool.not_true, Bool.not_false, ne_eq, Decidable.not_not, Int.not_lt, Int.not_le] at h15
    obtain ⟨fi, hfi, rfl, hdo⟩ := findF_ok hdt12 h15
    refine Tr.open_ (by repeat (first | with_reducible exact Pick.here | with_reducible apply Pick.there | with_reducible apply Pick.app_nil | with_reducible apply Pick.app_cons)) (look_open hfi) ?_
    refine Tr.fact (ch := bytesH fi) (by repeat (first | with_reducible exact Pick.here | with_reducible apply Pick.there | with_reducible apply Pick.app_nil | with_reducible apply Pick.app_cons)) (fun _ ho => ho.le) (fun hle => ?_)
    unfold maxLen at hle
    refine Tr.seq ?_
    refine Tr.region ?_
    refine TrL.move rfl rfl ?_
    refine TrL.lens rfl rfl st9 ?_
    refine TrL.move rfl rfl ?_
    refine TrL.nilCheck rfl rfl ?_
    refine TrL.field0 rfl rfl fl55_0 ?_
    refine TrL.load1 rfl rfl sc39 (Sees.cl1 (by repeat (first | with_reducible exact Pick.here | with_reducible apply Pick.there | with_reducible apply Pick.app_nil | with_reducible apply Pick.app_cons)) (by rfl)) ?_
    refine TrL.lenl rfl rfl se39 ?_
    refine TrL.subI rfl rfl rfl (by omega) ?_
    refine TrL.gtr rfl rfl rfl ?_
    refine TrL.assign rfl rfl ?_
    refine TrL.nil (At.then_normal ?_)
    refine Tr.cond rfl (fun h19 => ?_) (fun h19 => ?_)
    · try simp only [beq_iff_eq, beq_eq_false_iff_ne, Bool.not_eq_true, Bool.not_eq_false, decide_eq_true_eq, decide_eq_false_iff_not, Bool.not_eq_true', Bool.not_eq_false', bne_iff_ne, Bool.not_eq_eq_eq_not, Bool.not_true, Bool.not_false, ne_eq, Decidable.not_not, Int.not_lt, Int.not_le] at h19
      refine Tr.seq ?_
      refine Tr.region ?_
      refine TrL.assign rfl rfl ?_
      refine TrL.nil (At.then_normal ?_)
      refine Tr.ret (At.block_ret (At.then_ret (At.retX [diskH d m _ _, mapC Value.string m (kvOf _), cl fi.blk [_, _] 55, Own 5 1 encB _ _ _, filesC _] (.inl rfl) rfl (Res.tmp rfl Res.nil) (by repeat (first | exact Picks.nil | with_reducible exact Pick.here | with_reducible apply Pick.there | with_reducible apply Pick.app_nil | with_reducible apply Pick.app_cons | apply Picks.cons)) (by 
          refine ⟨_, fun h hs => one_stars (disk_close3 hfi h hs), hK _ _ ?_⟩
          unfold appendF; simp only [hdo, look_vw, hfi, Option.map_some, put_vw, vw_same hfi]
          simp; grind))))
    · try simp only [beq_iff_eq, beq_eq_false_iff_ne, Bool.not_eq_true, Bool.not_eq_false, decide_eq_true_eq, decide_eq_false_iff_not, Bool.not_eq_true', Bool.not_eq_false', bne_iff_ne, Bool.not_eq_eq_eq_not, Bool.not_true, Bool.not_false, ne_eq, Decidable.not_not, Int.not_lt, Int.not_le] at h19
      refine Tr.skip (At.block_normal (At.then_normal ?_))
      refine Tr.seq ?_
      refine Tr.region ?_
      refine TrL.move rfl rfl ?_
      refine TrL.move rfl rfl ?_
      refine TrL.nilCheck rfl rfl ?_
      refine TrL.field0 rfl rfl fl55_0 ?_
      refine TrL.load1 rfl rfl sc39 (Sees.cl1 (by repeat (first | with_reducible exact Pick.here | with_reducible apply Pick.there | with_reducible apply Pick.app_nil | with_reducible apply Pick.app_cons)) (by rfl)) ?_
      refine TrL.move rfl rfl ?_
      refine TrL.appendS rfl rfl se39 sz5 by5 zv5 st9 (by repeat (first | with_reducible exact Pick.here | with_reducible apply Pick.there | with_reducible apply Pick.app_nil | with_reducible apply Pick.app_cons)) (by rfl) (by omega) (fun p35 cap35 => ?_)
      refine TrL.nilCheck rfl rfl ?_
      refine TrL.field0 rfl rfl fl55_0 ?_
      refine TrL.store1 rfl rfl sz39 rfl (by repeat (first | with_reducible exact Upd.here | with_reducible apply Upd.there | with_reducible apply Upd.app_nil | with_reducible apply Upd.app_cons)) (by rfl) ?_
      refine TrL.nil (At.then_normal ?_)
      refine Tr.seq ?_
      refine Tr.region ?_
      refine TrL.assign rfl rfl ?_
      refine TrL.nil (At.then_normal ?_)
      refine Tr.ret (At.retX [diskH d m _ _, mapC Value.string m (kvOf _), cl fi.blk [_, _] 55, Own 5 1 encB _ _ _, filesC _] (.inl rfl) rfl (Res.tmp rfl Res.nil) (by repeat (first | exact Picks.nil | with_reducible exact Pick.here | with_reducible apply Pick.there | with_reducible apply Pick.app_nil | with_reducible apply Pick.app_cons | apply Picks.cons)) (by 
          refine ⟨_, fun h hs => one_stars (disk_close3 hfi h hs), hK _ _ ?_⟩
          unfold appendF; simp only [hdo, look_vw, hfi, Option.map_some, put_vw, vw_same hfi]
          simp; grind))

set_option maxHeartbeats 1000000 in
theorem Sync_spec {F : Hp} {K : Value → List HProp → Prop} {d : Nat} {S : DS} {name : ByteArray} (h64 : S.ok) (hK : ∀ e S', syncF S name = (e, S') → K (.int .i64 e) [diskC d S']) :
    CallK Try.prog F 12 #[.pointer (some ⟨d, 0, none⟩), .string name] [diskC d S] K := by
  obtain ⟨Sfs, fuse, off⟩ := S
  refine CallK.openE .here disk_open ?_
  rintro ⟨m, ⟨fs, hfs⟩⟩
  simp only at hfs
  subst hfs
  have h64 : -1 ≤ fuse ∧ fuse ≤ 9223372036854775807 := h64
  show CallK _ _ _ _ [diskH d m fuse off, mapC Value.string m (kvOf fs), filesC fs] _
  refine CallK.enter Try.func12 rfl Try.ntmps12 rfl ?_
  refine Tr.seq ?_
  refine Tr.region ?_
  refine TrL.assign rfl rfl ?_
  refine TrL.nil (At.then_normal ?_)
  refine Tr.seq ?_
  refine Tr.region ?_
  refine TrL.move rfl rfl ?_
  refine TrL.move rfl rfl ?_
  refine TrL.own0 9 1 encS ?_
  refine TrL.call rfl rfl rfl ca24 (by repeat (first | exact Picks.nil | with_reducible exact Pick.here | with_reducible apply Pick.there | with_reducible apply Pick.app_nil | with_reducible apply Pick.app_cons | apply Picks.cons)) (fun Ft10 hUt10 => find_spec (l := []) (by simp) (by omega) (fun vt10 et10 fut10 oft10 hdt100 => ?_))
  have hdt10 : findF (nameOk name) (kvOf fs) fuse off name = (vt10, et10, fut10, oft10) := by rw [← hdt100]; simp
  refine TrL.move rfl rfl ?_
  refine TrL.extract rfl rfl rfl ?_
  refine TrL.extract rfl rfl rfl ?_
  refine TrL.assign rfl rfl ?_
  refine TrL.assign rfl rfl ?_
  refine TrL.nil (At.then_normal ?_)
  refine Tr.seq ?_
  refine Tr.seq ?_
  refine Tr.region ?_
  refine TrL.move rfl rfl ?_
  refine TrL.eqi rfl rfl rfl ?_
  refine TrL.nil (At.then_normal ?_)
  refine Tr.cond rfl (fun h14 => ?_) (fun h14 => ?_)
  · try simp only [beq_iff_eq, beq_eq_false_iff_ne, Bool.not_eq_true, Bool.not_eq_false, decide_eq_true_eq, decide_eq_false_iff_not, Bool.not_eq_true', Bool.not_eq_false', bne_iff_ne, Bool.not_eq_eq_eq_not, Bool.not_true, Bool.not_false, ne_eq, Decidable.not_not, Int.not_lt, Int.not_le] at h14
    obtain ⟨fi, hfi, rfl, hdo⟩ := findF_ok hdt10 h14
    refine Tr.open_ (by repeat (first | with_reducible exact Pick.here | with_reducible apply Pick.there | with_reducible apply Pick.app_nil | with_reducible apply Pick.app_cons)) (look_open hfi) ?_
    refine Tr.fact (ch := bytesH fi) (by repeat (first | with_reducible exact Pick.here | with_reducible apply Pick.there | with_reducible apply Pick.app_nil | with_reducible apply Pick.app_cons)) (fun _ ho => ho.le) (fun hle => ?_)
    unfold maxLen at hle
    refine Tr.region ?_
    refine TrL.move rfl rfl ?_
    refine TrL.move rfl rfl ?_
    refine TrL.nilCheck rfl rfl ?_
    refine TrL.field0 rfl rfl fl55_0 ?_
    refine TrL.load1 rfl rfl sc39 (Sees.cl1 (by repeat (first | with_reducible exact Pick.here | with_reducible apply Pick.there | with_reducible apply Pick.app_nil | with_reducible apply Pick.app_cons)) (by rfl)) ?_
    refine TrL.lenl rfl rfl se39 ?_
    refine TrL.nilCheck rfl rfl ?_
    refine TrL.field rfl rfl fl55_1 ?_
    refine TrL.store1 rfl rfl sz3 rfl (by repeat (first | with_reducible exact Upd.here | with_reducible apply Upd.there | with_reducible apply Upd.app_nil | with_reducible apply Upd.app_cons)) (by rfl) ?_
    refine TrL.nil (At.then_normal ?_)
    refine Tr.seq ?_
    refine Tr.region ?_
    refine TrL.move rfl rfl ?_
    refine TrL.assign rfl rfl ?_
    refine TrL.nil (At.then_normal ?_)
    refine Tr.ret (At.retX [diskH d m _ _, mapC Value.string m (kvOf _), cl fi.blk [_, _] 55, Own 5 1 encB _ _ _, filesC _] (.inl rfl) rfl (Res.tmp rfl Res.nil) (by repeat (first | exact Picks.nil | with_reducible exact Pick.here | with_reducible apply Pick.there | with_reducible apply Pick.app_nil | with_reducible apply Pick.app_cons | apply Picks.cons)) (by 
        refine ⟨_, fun h hs => one_stars (disk_close3 hfi h hs), hK _ _ ?_⟩
        unfold syncF; simp only [hdo, look_vw, hfi, Option.map_some, put_vw, vw_same hfi]
        simp; grind))
  · try simp only [beq_iff_eq, beq_eq_false_iff_ne, Bool.not_eq_true, Bool.not_eq_false, decide_eq_true_eq, decide_eq_false_iff_not, Bool.not_eq_true', Bool.not_eq_false', bne_iff_ne, Bool.not_eq_eq_eq_not, Bool.not_true, Bool.not_false, ne_eq, Decidable.not_not, Int.not_lt, Int.not_le] at h14
    refine Tr.skip (At.then_normal ?_)
    refine Tr.seq ?_
    refine Tr.region ?_
    refine TrL.move rfl rfl ?_
    refine TrL.assign rfl rfl ?_
    refine TrL.nil (At.then_normal ?_)
    refine Tr.ret (At.retX [diskH d m _ _, mapC Value.string m (kvOf _), filesC _] (.inl rfl) rfl (Res.tmp rfl Res.nil) (by repeat (first | exact Picks.nil | with_reducible exact Pick.here | with_reducible apply Pick.there | with_reducible apply Pick.app_nil | with_reducible apply Pick.app_cons | apply Picks.cons)) (by 
        refine ⟨_, fun h hs => one_stars (disk_close rfl h hs), hK _ _ ?_⟩
        obtain ⟨e0, hd0, hcase⟩ := findF_err hdt10 h14
        unfold syncF; simp only [hd0, look_vw]; rcases hcase with ⟨h1, rfl⟩ | ⟨rfl, h2, rfl⟩ <;> simp [*]))

set_option maxHeartbeats 1000000 in
theorem Remove_spec {F : Hp} {K : Value → List HProp → Prop} {d : Nat} {S : DS} {name : ByteArray} (h64 : S.ok) (hK : ∀ e S', removeF S name = (e, S') → K (.int .i64 e) [diskC d S']) :
    CallK Try.prog F 22 #[.pointer (some ⟨d, 0, none⟩), .string name] [diskC d S] K := by
  obtain ⟨Sfs, fuse, off⟩ := S
  refine CallK.openE .here disk_open ?_
  rintro ⟨m, ⟨fs, hfs⟩⟩
  simp only at hfs
  subst hfs
  have h64 : -1 ≤ fuse ∧ fuse ≤ 9223372036854775807 := h64
  show CallK _ _ _ _ [diskH d m fuse off, mapC Value.string m (kvOf fs), filesC fs] _
  refine CallK.enter Try.func22 rfl Try.ntmps22 rfl ?_
  refine Tr.seq ?_
  refine Tr.region ?_
  refine TrL.assign rfl rfl ?_
  refine TrL.nil (At.then_normal ?_)
  refine Tr.seq ?_
  refine Tr.region ?_
  refine TrL.move rfl rfl ?_
  refine TrL.move rfl rfl ?_
  refine TrL.own0 9 1 encS ?_
  refine TrL.call rfl rfl rfl ca24 (by repeat (first | exact Picks.nil | with_reducible exact Pick.here | with_reducible apply Pick.there | with_reducible apply Pick.app_nil | with_reducible apply Pick.app_cons | apply Picks.cons)) (fun Ft10 hUt10 => find_spec (l := []) (by simp) (by omega) (fun vt10 et10 fut10 oft10 hdt100 => ?_))
  have hdt10 : findF (nameOk name) (kvOf fs) fuse off name = (vt10, et10, fut10, oft10) := by rw [← hdt100]; simp
  refine TrL.move rfl rfl ?_
  refine TrL.extract rfl rfl rfl ?_
  refine TrL.extract rfl rfl rfl ?_
  refine TrL.assign rfl rfl ?_
  refine TrL.assign rfl rfl ?_
  refine TrL.nil (At.then_normal ?_)
  refine Tr.seq ?_
  refine Tr.seq ?_
  refine Tr.region ?_
  refine TrL.move rfl rfl ?_
  refine TrL.eqi rfl rfl rfl ?_
  refine TrL.nil (At.then_normal ?_)
  refine Tr.cond rfl (fun h14 => ?_) (fun h14 => ?_)
  · try simp only [beq_iff_eq, beq_eq_false_iff_ne, Bool.not_eq_true, Bool.not_eq_false, decide_eq_true_eq, decide_eq_false_iff_not, Bool.not_eq_true', Bool.not_eq_false', bne_iff_ne, Bool.not_eq_eq_eq_not, Bool.not_true, Bool.not_false, ne_eq, Decidable.not_not, Int.not_lt, Int.not_le] at h14
    obtain ⟨fi, hfi, rfl, hdo⟩ := findF_ok hdt10 h14
    refine Tr.region ?_
    refine TrL.move rfl rfl ?_
    refine TrL.nilCheck rfl rfl ?_
    refine TrL.field0 rfl rfl fl48_0 ?_
    refine TrL.load1 rfl rfl sc46 (Sees.cl1 (by repeat (first | with_reducible exact Pick.here | with_reducible apply Pick.there | with_reducible apply Pick.app_nil | with_reducible apply Pick.app_cons)) (by rfl)) ?_
    refine TrL.move rfl rfl ?_
    refine TrL.delete (kf := Value.string) rfl (strKey st9) rfl mp46 (by repeat (first | with_reducible exact Upd.here | with_reducible apply Upd.there | with_reducible apply Upd.app_nil | with_reducible apply Upd.app_cons)) ?_
    refine TrL.nil (At.then_normal ?_)
    refine Tr.seq ?_
    refine Tr.region ?_
    refine TrL.move rfl rfl ?_
    refine TrL.assign rfl rfl ?_
    refine TrL.nil (At.then_normal ?_)
    refine Tr.ret (At.retX [diskH d m _ _, mapC Value.string m (delK (kvOf fs) name), filesC fs] (.inl rfl) rfl (Res.tmp rfl Res.nil) (by repeat (first | exact Picks.nil | with_reducible exact Pick.here | with_reducible apply Pick.there | with_reducible apply Pick.app_nil | with_reducible apply Pick.app_cons | apply Picks.cons)) (by 
        refine ⟨[diskC d ⟨vw (delK fs name), _, _⟩], fun h hs => one_stars (disk_del name h hs), hK _ _ ?_⟩
        unfold removeF; simp only [hdo, look_vw, hfi, Option.map_some, del_vw]; simp [*]))
  · try simp only [beq_iff_eq, beq_eq_false_iff_ne, Bool.not_eq_true, Bool.not_eq_false, decide_eq_true_eq, decide_eq_false_iff_not, Bool.not_eq_true', Bool.not_eq_false', bne_iff_ne, Bool.not_eq_eq_eq_not, Bool.not_true, Bool.not_false, ne_eq, Decidable.not_not, Int.not_lt, Int.not_le] at h14
    refine Tr.skip (At.then_normal ?_)
    refine Tr.seq ?_
    refine Tr.region ?_
    refine TrL.move rfl rfl ?_
    refine TrL.assign rfl rfl ?_
    refine TrL.nil (At.then_normal ?_)
    refine Tr.ret (At.retX [diskH d m _ _, mapC Value.string m (kvOf _), filesC _] (.inl rfl) rfl (Res.tmp rfl Res.nil) (by repeat (first | exact Picks.nil | with_reducible exact Pick.here | with_reducible apply Pick.there | with_reducible apply Pick.app_nil | with_reducible apply Pick.app_cons | apply Picks.cons)) (by 
        refine ⟨_, fun h hs => one_stars (disk_close rfl h hs), hK _ _ ?_⟩
        obtain ⟨e0, hd0, hcase⟩ := findF_err hdt10 h14
        unfold removeF; simp only [hd0, look_vw]; rcases hcase with ⟨h1, rfl⟩ | ⟨rfl, h2, rfl⟩ <;> simp [*]))

omit [Obs] in
theorem files_put {l : List (ByteArray × Fi)} (name : ByteArray) (g : Fi) (h : Hp) (s : Stars [fileH g, bytesH g, filesC l] h) : filesC (putK l name g) h := by
  unfold putK
  split
  · rename_i j _ hp
    have hj := (posK_some hp).2
    simp only [Nat.sub_zero] at hj
    refine files_close hj (name, g) h ?_
    obtain ⟨h1, h2, d1, l1, l2, a, h3, h4, d2, l3, l4, b, h5, h6, d3, l5, l6, c, e⟩ := s
    exact ⟨h1, h2, d1, l1, l2, a, h3, h4, d2, l3, l4, b, h5, h6, d3, l5, l6, files_del j _ c, e⟩
  · unfold filesC
    rw [List.map_append]
    refine stars_snoc ?_
    obtain ⟨h1, h2, d1, l1, l2, a, h3, h4, d2, l3, l4, b, h5, h6, d3, l5, l6, c, e⟩ := s
    have d13 : Hp.dj h1 h3 := d1.mono (.refl _) l3
    have d15 : Hp.dj h1 h5 := d1.mono (.refl _) (l5.trans l4)
    have d35 : Hp.dj h3 h5 := d2.mono (.refl _) l5
    refine ⟨h5, Hp.un h1 h3, (Hp.dj_un d15 d35).symm, (l5.trans l4).trans l2, Hp.un_le l1 (l3.trans l2), c, ?_⟩
    exact one_stars (c := fileC g) ⟨h1, h3, d13, Hp.le_un_left _ _, Hp.le_un_right d13, a, one_stars b⟩
omit [Obs] in
theorem disk_ren {d m : Nat} {fs : List (ByteArray × Fi)} {fuse : Int} {off : Bool} {fr to : ByteArray} {f : Fi} (h : Hp)
    (s : Stars [diskH d m fuse off, mapC Value.string m (putK (delK (kvOf fs) fr) to (ptrOf f)), fileH f, bytesH f, filesC (delK fs fr)] h) : diskC d ⟨vw (putK (delK fs fr) to f), fuse, off⟩ h := by
  refine ⟨m, putK (delK fs fr) to f, rfl, ?_⟩
  rw [put_kv, del_kv]
  obtain ⟨h1, h2, d1, l1, l2, a, h3, h4, d2, l3, l4, b, c⟩ := s
  exact ⟨h1, h2, d1, l1, l2, a, h3, h4, d2, l3, l4, b, one_stars (files_put to f _ c)⟩
def renameF (S : DS) (fr to : ByteArray) : Int × DS := match doingF (nameOk to && nameOk fr) S.fuse S.off with
  | (e, fu, of) => if e ≠ 0 then (e, ⟨S.fs, fu, of⟩) else match look S.fs fr with
    | none => (3, ⟨S.fs, fu, of⟩)
    | some f => (0, ⟨putK (delK S.fs fr) to f, fu, of⟩)
set_option maxHeartbeats 1000000 in
theorem Rename_spec {F : Hp} {K : Value → List HProp → Prop} {d : Nat} {S : DS} {fr to : ByteArray} (h64 : S.ok) (hK : ∀ e S', renameF S fr to = (e, S') → K (.int .i64 e) [diskC d S']) :
    CallK Try.prog F 20 #[.pointer (some ⟨d, 0, none⟩), .string fr, .string to] [diskC d S] K := by
  obtain ⟨Sfs, fuse, off⟩ := S
  refine CallK.openE .here disk_open ?_
  rintro ⟨m, ⟨fs, hfs⟩⟩
  simp only at hfs
  subst hfs
  have h64 : -1 ≤ fuse ∧ fuse ≤ 9223372036854775807 := h64
  show CallK _ _ _ _ [diskH d m fuse off, mapC Value.string m (kvOf fs), filesC fs] _
  refine CallK.enter Try.func20 rfl Try.ntmps20 rfl ?_
  refine Tr.seq ?_
  refine Tr.region ?_
  refine TrL.assign rfl rfl ?_
  refine TrL.nil (At.then_normal ?_)
  refine Tr.seq ?_
  refine Tr.region ?_
  refine TrL.move rfl rfl ?_
  refine TrL.move rfl rfl ?_
  refine TrL.move rfl rfl ?_
  refine TrL.buildSlF rfl rfl rfl se22 sz9 zc9 rfl rfl rfl (fun b13 => ?_)
  refine TrL.toOwn (b := b13) 1 encS [to] (len := 1) (by repeat (first | with_reducible exact Pick.here | with_reducible apply Pick.there | with_reducible apply Pick.app_nil | with_reducible apply Pick.app_cons)) (by rfl) (by rfl) (by rfl) rfl ?_
  refine TrL.call rfl rfl rfl ca24 (by repeat (first | exact Picks.nil | with_reducible exact Pick.here | with_reducible apply Pick.there | with_reducible apply Pick.app_nil | with_reducible apply Pick.app_cons | apply Picks.cons)) (fun Ft14 hUt14 => find_spec (l := [to]) (by simp) (by omega) (fun vt14 et14 fut14 oft14 hdt140 => ?_))
  have hdt14 : findF (nameOk to && nameOk fr) (kvOf fs) fuse off fr = (vt14, et14, fut14, oft14) := by rw [← hdt140]; simp
  refine TrL.move rfl rfl ?_
  refine TrL.extract rfl rfl rfl ?_
  refine TrL.extract rfl rfl rfl ?_
  refine TrL.assign rfl rfl ?_
  refine TrL.assign rfl rfl ?_
  refine TrL.nil (At.then_normal ?_)
  refine Tr.seq ?_
  refine Tr.seq ?_
  refine Tr.region ?_
  refine TrL.move rfl rfl ?_
  refine TrL.eqi rfl rfl rfl ?_
  refine TrL.nil (At.then_normal ?_)
  refine Tr.cond rfl (fun h18 => ?_) (fun h18 => ?_)
  · try simp only [beq_iff_eq, beq_eq_false_iff_ne, Bool.not_eq_true, Bool.not_eq_false, decide_eq_true_eq, decide_eq_false_iff_not, Bool.not_eq_true', Bool.not_eq_false', bne_iff_ne, Bool.not_eq_eq_eq_not, Bool.not_true, Bool.not_false, ne_eq, Decidable.not_not, Int.not_lt, Int.not_le] at h18
    obtain ⟨fi, hfi, rfl, hdo⟩ := findF_ok hdt14 h18
    refine Tr.open_ (by repeat (first | with_reducible exact Pick.here | with_reducible apply Pick.there | with_reducible apply Pick.app_nil | with_reducible apply Pick.app_cons)) (look_open hfi) ?_
    refine Tr.fact (ch := bytesH fi) (by repeat (first | with_reducible exact Pick.here | with_reducible apply Pick.there | with_reducible apply Pick.app_nil | with_reducible apply Pick.app_cons)) (fun _ ho => ho.le) (fun hle => ?_)
    unfold maxLen at hle
    refine Tr.seq ?_
    refine Tr.region ?_
    refine TrL.move rfl rfl ?_
    refine TrL.nilCheck rfl rfl ?_
    refine TrL.field0 rfl rfl fl48_0 ?_
    refine TrL.load1 rfl rfl sc46 (Sees.cl1 (by repeat (first | with_reducible exact Pick.here | with_reducible apply Pick.there | with_reducible apply Pick.app_nil | with_reducible apply Pick.app_cons)) (by rfl)) ?_
    refine TrL.move rfl rfl ?_
    refine TrL.delete (kf := Value.string) rfl (strKey st9) rfl mp46 (by repeat (first | with_reducible exact Upd.here | with_reducible apply Upd.there | with_reducible apply Upd.app_nil | with_reducible apply Upd.app_cons)) ?_
    refine TrL.nil (At.then_normal ?_)
    refine Tr.region ?_
    refine TrL.move rfl rfl ?_
    refine TrL.nilCheck rfl rfl ?_
    refine TrL.field0 rfl rfl fl48_0 ?_
    refine TrL.load1 rfl rfl sc46 (Sees.cl1 (by repeat (first | with_reducible exact Pick.here | with_reducible apply Pick.there | with_reducible apply Pick.app_nil | with_reducible apply Pick.app_cons)) (by rfl)) ?_
    refine TrL.move rfl rfl ?_
    refine TrL.move rfl rfl ?_
    refine TrL.mapUpdate (kf := Value.string) rfl rfl rfl (strKey st9) mp46 (by repeat (first | with_reducible exact Upd.here | with_reducible apply Upd.there | with_reducible apply Upd.app_nil | with_reducible apply Upd.app_cons)) ?_
    refine TrL.nil (At.then_normal ?_)
    refine Tr.seq ?_
    refine Tr.region ?_
    refine TrL.move rfl rfl ?_
    refine TrL.assign rfl rfl ?_
    refine TrL.nil (At.then_normal ?_)
    refine Tr.ret (At.retX [diskH d m _ _, mapC Value.string m (putK (delK (kvOf fs) fr) to (ptrOf fi)), fileH fi, bytesH fi, filesC (delK fs fr)] (.inl rfl) rfl (Res.tmp rfl Res.nil) (by repeat (first | exact Picks.nil | with_reducible exact Pick.here | with_reducible apply Pick.there | with_reducible apply Pick.app_nil | with_reducible apply Pick.app_cons | apply Picks.cons)) (by 
        refine ⟨_, fun h hs => one_stars (disk_ren h hs), hK _ _ ?_⟩
        unfold renameF; simp only [hdo, look_vw, hfi, Option.map_some, del_vw, put_vw]; simp [*]))
  · try simp only [beq_iff_eq, beq_eq_false_iff_ne, Bool.not_eq_true, Bool.not_eq_false, decide_eq_true_eq, decide_eq_false_iff_not, Bool.not_eq_true', Bool.not_eq_false', bne_iff_ne, Bool.not_eq_eq_eq_not, Bool.not_true, Bool.not_false, ne_eq, Decidable.not_not, Int.not_lt, Int.not_le] at h18
    refine Tr.skip (At.then_normal ?_)
    refine Tr.seq ?_
    refine Tr.region ?_
    refine TrL.move rfl rfl ?_
    refine TrL.assign rfl rfl ?_
    refine TrL.nil (At.then_normal ?_)
    refine Tr.ret (At.retX [diskH d m _ _, mapC Value.string m (kvOf _), filesC _] (.inl rfl) rfl (Res.tmp rfl Res.nil) (by repeat (first | exact Picks.nil | with_reducible exact Pick.here | with_reducible apply Pick.there | with_reducible apply Pick.app_nil | with_reducible apply Pick.app_cons | apply Picks.cons)) (by 
        refine ⟨_, fun h hs => one_stars (disk_close rfl h hs), hK _ _ ?_⟩
        obtain ⟨e0, hd0, hcase⟩ := findF_err hdt14 h18
        unfold renameF; simp only [hd0, look_vw]; rcases hcase with ⟨h1, rfl⟩ | ⟨rfl, h2, rfl⟩ <;> simp [*]))

def lookF (ok : Bool) (kv : List (ByteArray × Value)) (off : Bool) (name : ByteArray) : Value × Int := if ok = false then (.pointer none, 1) else if off = true then (.pointer none, 50) else match look kv name with
  | none => (.pointer none, 3)
  | some v => (v, 0)
set_option maxHeartbeats 1000000 in
theorem look_spec {F : Hp} {K : Value → List HProp → Prop} {d m : Nat} {fuse : Int} {off : Bool} {name : ByteArray} {kv : List (ByteArray × Value)}
    (hK : ∀ v e, lookF (nameOk name) kv off name = (v, e) → K (.tuple #[v, .int .i64 e]) [diskH d m fuse off, mapC Value.string m kv]) :
    CallK Try.prog F 26 #[.pointer (some ⟨d, 0, none⟩), .string name] [diskH d m fuse off, mapC Value.string m kv] K := by
  refine CallK.enter Try.func26 rfl Try.ntmps26 rfl ?_
  refine Tr.seq ?_
  refine Tr.region ?_
  refine TrL.assign rfl rfl ?_
  refine TrL.assign rfl rfl ?_
  refine TrL.nil (At.then_normal ?_)
  refine Tr.seq ?_
  refine Tr.seq ?_
  refine Tr.region ?_
  refine TrL.move rfl rfl ?_
  refine TrL.move rfl rfl ?_
  refine TrL.buildSlF rfl rfl rfl se22 sz9 zc9 rfl rfl rfl (fun b10 => ?_)
  refine TrL.call rfl rfl rfl ca25 (by repeat (first | exact Picks.nil | with_reducible exact Pick.here | with_reducible apply Pick.there | with_reducible apply Pick.app_nil | with_reducible apply Pick.app_cons | apply Picks.cons)) (fun Ft11 hUt11 => may_spec (l := [name]) (cl_up hUt11 (by repeat (first | with_reducible exact Pick.here | with_reducible apply Pick.there | with_reducible apply Pick.app_nil | with_reducible apply Pick.app_cons)) (by rfl) (fun _ _ => rfl)) (by simp) ?_)
  have hall : [name].all nameOk = nameOk name := by simp
  rw [hall]
  refine TrL.not rfl rfl ?_
  refine TrL.nil (At.then_normal ?_)
  refine Tr.cond rfl (fun h12 => ?_) (fun h12 => ?_)
  · try simp only [beq_iff_eq, beq_eq_false_iff_ne, Bool.not_eq_true, Bool.not_eq_false, decide_eq_true_eq, decide_eq_false_iff_not, Bool.not_eq_true', Bool.not_eq_false', bne_iff_ne, Bool.not_eq_eq_eq_not, Bool.not_true, Bool.not_false, ne_eq, Decidable.not_not, Int.not_lt, Int.not_le] at h12
    refine Tr.seq ?_
    refine Tr.region ?_
    refine TrL.assign rfl rfl ?_
    refine TrL.assign rfl rfl ?_
    refine TrL.nil (At.then_normal ?_)
    refine Tr.ret (At.then_ret (At.retP [diskH d m _ _, mapC Value.string m _] (.inl rfl) rfl (Res.tmp rfl (Res.tmp rfl Res.nil)) (by repeat (first | exact Picks.nil | with_reducible exact Pick.here | with_reducible apply Pick.there | with_reducible apply Pick.app_nil | with_reducible apply Pick.app_cons | apply Picks.cons)) (by exact hK _ _ (by unfold lookF; grind))))
  · try simp only [beq_iff_eq, beq_eq_false_iff_ne, Bool.not_eq_true, Bool.not_eq_false, decide_eq_true_eq, decide_eq_false_iff_not, Bool.not_eq_true', Bool.not_eq_false', bne_iff_ne, Bool.not_eq_eq_eq_not, Bool.not_true, Bool.not_false, ne_eq, Decidable.not_not, Int.not_lt, Int.not_le] at h12
    refine Tr.skip (At.then_normal ?_)
    refine Tr.seq ?_
    refine Tr.region ?_
    refine TrL.move rfl rfl ?_
    refine TrL.nilCheck rfl rfl ?_
    refine TrL.field0 rfl rfl fl48_0 ?_
    refine TrL.load1 rfl rfl sc46 (Sees.cl1 (by repeat (first | with_reducible exact Pick.here | with_reducible apply Pick.there | with_reducible apply Pick.app_nil | with_reducible apply Pick.app_cons)) (by rfl)) ?_
    refine TrL.move rfl rfl ?_
    refine TrL.lookupOk (kf := Value.string) rfl rfl rfl (strKey st9) mp46 zv52 (by repeat (first | with_reducible exact Pick.here | with_reducible apply Pick.there | with_reducible apply Pick.app_nil | with_reducible apply Pick.app_cons)) rfl rfl ?_
    refine TrL.move rfl rfl ?_
    refine TrL.extract rfl rfl rfl ?_
    refine TrL.extract rfl rfl rfl ?_
    refine TrL.assign rfl rfl ?_
    refine TrL.assign rfl rfl ?_
    refine TrL.nil (At.then_normal ?_)
    refine Tr.seq ?_
    refine Tr.block ?_
    refine Tr.seq ?_
    refine Tr.region ?_
    refine TrL.move rfl rfl ?_
    refine TrL.nilCheck rfl rfl ?_
    refine TrL.field rfl rfl fl48_2 ?_
    refine TrL.load1 rfl rfl sc4 (Sees.cl1 (by repeat (first | with_reducible exact Pick.here | with_reducible apply Pick.there | with_reducible apply Pick.app_nil | with_reducible apply Pick.app_cons)) (by rfl)) ?_
    refine TrL.assign rfl rfl ?_
    refine TrL.nil (At.then_normal ?_)
    refine Tr.cond rfl (fun h22 => ?_) (fun h22 => ?_)
    · try simp only [beq_iff_eq, beq_eq_false_iff_ne, Bool.not_eq_true, Bool.not_eq_false, decide_eq_true_eq, decide_eq_false_iff_not, Bool.not_eq_true', Bool.not_eq_false', bne_iff_ne, Bool.not_eq_eq_eq_not, Bool.not_true, Bool.not_false, ne_eq, Decidable.not_not, Int.not_lt, Int.not_le] at h22
      refine Tr.seq ?_
      refine Tr.region ?_
      refine TrL.assign rfl rfl ?_
      refine TrL.assign rfl rfl ?_
      refine TrL.nil (At.then_normal ?_)
      refine Tr.ret (At.block_ret (At.then_ret (At.retP [diskH d m _ _, mapC Value.string m _] (.inl rfl) rfl (Res.tmp rfl (Res.tmp rfl Res.nil)) (by repeat (first | exact Picks.nil | with_reducible exact Pick.here | with_reducible apply Pick.there | with_reducible apply Pick.app_nil | with_reducible apply Pick.app_cons | apply Picks.cons)) (by exact hK _ _ (by unfold lookF; grind)))))
    · try simp only [beq_iff_eq, beq_eq_false_iff_ne, Bool.not_eq_true, Bool.not_eq_false, decide_eq_true_eq, decide_eq_false_iff_not, Bool.not_eq_true', Bool.not_eq_false', bne_iff_ne, Bool.not_eq_eq_eq_not, Bool.not_true, Bool.not_false, ne_eq, Decidable.not_not, Int.not_lt, Int.not_le] at h22
      refine Tr.seq ?_
      refine Tr.region ?_
      refine TrL.move rfl rfl ?_
      refine TrL.not rfl rfl ?_
      refine TrL.assign rfl rfl ?_
      refine TrL.nil (At.then_normal ?_)
      refine Tr.cond rfl (fun h27 => ?_) (fun h27 => ?_)
      · try simp only [beq_iff_eq, beq_eq_false_iff_ne, Bool.not_eq_true, Bool.not_eq_false, decide_eq_true_eq, decide_eq_false_iff_not, Bool.not_eq_true', Bool.not_eq_false', bne_iff_ne, Bool.not_eq_eq_eq_not, Bool.not_true, Bool.not_false, ne_eq, Decidable.not_not, Int.not_lt, Int.not_le] at h27
        refine Tr.seq ?_
        refine Tr.region ?_
        refine TrL.assign rfl rfl ?_
        refine TrL.assign rfl rfl ?_
        refine TrL.nil (At.then_normal ?_)
        refine Tr.ret (At.block_ret (At.then_ret (At.retP [diskH d m _ _, mapC Value.string m _] (.inl rfl) rfl (Res.tmp rfl (Res.tmp rfl Res.nil)) (by repeat (first | exact Picks.nil | with_reducible exact Pick.here | with_reducible apply Pick.there | with_reducible apply Pick.app_nil | with_reducible apply Pick.app_cons | apply Picks.cons)) (by exact hK _ _ (by unfold lookF; grind)))))
      · try simp only [beq_iff_eq, beq_eq_false_iff_ne, Bool.not_eq_true, Bool.not_eq_false, decide_eq_true_eq, decide_eq_false_iff_not, Bool.not_eq_true', Bool.not_eq_false', bne_iff_ne, Bool.not_eq_eq_eq_not, Bool.not_true, Bool.not_false, ne_eq, Decidable.not_not, Int.not_lt, Int.not_le] at h27
        refine Tr.skip (At.block_normal (At.then_normal ?_))
        refine Tr.seq ?_
        refine Tr.region ?_
        refine TrL.move rfl rfl ?_
        refine TrL.assign rfl rfl ?_
        refine TrL.assign rfl rfl ?_
        refine TrL.nil (At.then_normal ?_)
        refine Tr.ret (At.retP [diskH d m _ _, mapC Value.string m _] (.inl rfl) rfl (Res.tmp rfl (Res.tmp rfl Res.nil)) (by repeat (first | exact Picks.nil | with_reducible exact Pick.here | with_reducible apply Pick.there | with_reducible apply Pick.app_nil | with_reducible apply Pick.app_cons | apply Picks.cons)) (by exact hK _ _ (by unfold lookF; grind)))

omit [Obs] in
theorem lookF_ok {ok : Bool} {fs : List (ByteArray × Fi)} {off : Bool} {name : ByteArray} {v : Value} {e : Int} (h : lookF ok (kvOf fs) off name = (v, e)) (he : e = 0) : ∃ fi, look fs name = some fi ∧ v = ptrOf fi ∧ ok = true ∧ off = false := by
  unfold lookF at h
  rw [look_kv] at h
  cases hl : look fs name <;> rw [hl] at h <;> cases ok <;> cases off <;> simp at h <;> first | omega | exact ⟨_, rfl, h.1.symm, rfl, rfl⟩
def readF (S : DS) (name : ByteArray) : ByteArray × Int := if nameOk name = false then (⟨#[]⟩, 1) else if S.off = true then (⟨#[]⟩, 50) else match look S.fs name with
  | none => (⟨#[]⟩, 3)
  | some f => (strOf f.1, 0)
def sureF (S : DS) (name : ByteArray) : Int × Int := if nameOk name = false then (0, 1) else if S.off = true then (0, 50) else match look S.fs name with
  | none => (0, 3)
  | some f => (f.2, 0)
omit [Obs] in
theorem lookF_err {ok : Bool} {fs : List (ByteArray × Fi)} {off : Bool} {name : ByteArray} {v : Value} {e : Int} (h : lookF ok (kvOf fs) off name = (v, e)) (he : ¬ e = 0) : (ok = false ∧ e = 1) ∨ (ok = true ∧ off = true ∧ e = 50) ∨ (ok = true ∧ off = false ∧ look fs name = none ∧ e = 3) := by
  unfold lookF at h
  rw [look_kv] at h
  cases hl : look fs name <;> rw [hl] at h <;> cases ok <;> cases off <;> simp at h <;> simp <;> omega
set_option maxHeartbeats 1000000 in
theorem Read_spec {F : Hp} {K : Value → List HProp → Prop} {d : Nat} {S : DS} {name : ByteArray} (h64 : S.ok) (hK : K (.tuple #[.string (readF S name).1, .int .i64 (readF S name).2]) [diskC d S]) :
    CallK Try.prog F 14 #[.pointer (some ⟨d, 0, none⟩), .string name] [diskC d S] K := by
  obtain ⟨Sfs, fuse, off⟩ := S
  refine CallK.openE .here disk_open ?_
  rintro ⟨m, ⟨fs, hfs⟩⟩
  simp only at hfs
  subst hfs
  have h64 : -1 ≤ fuse ∧ fuse ≤ 9223372036854775807 := h64
  show CallK _ _ _ _ [diskH d m fuse off, mapC Value.string m (kvOf fs), filesC fs] _
  refine CallK.enter Try.func14 rfl Try.ntmps14 rfl ?_
  refine Tr.seq ?_
  refine Tr.region ?_
  refine TrL.assign rfl rfl ?_
  refine TrL.assign rfl rfl ?_
  refine TrL.nil (At.then_normal ?_)
  refine Tr.seq ?_
  refine Tr.region ?_
  refine TrL.move rfl rfl ?_
  refine TrL.move rfl rfl ?_
  refine TrL.call rfl rfl rfl ca26 (by repeat (first | exact Picks.nil | with_reducible exact Pick.here | with_reducible apply Pick.there | with_reducible apply Pick.app_nil | with_reducible apply Pick.app_cons | apply Picks.cons)) (fun Ft11 hUt11 => look_spec (fun vt11 et11 hdt11 => ?_))
  refine TrL.move rfl rfl ?_
  refine TrL.extract rfl rfl rfl ?_
  refine TrL.extract rfl rfl rfl ?_
  refine TrL.assign rfl rfl ?_
  refine TrL.assign rfl rfl ?_
  refine TrL.nil (At.then_normal ?_)
  refine Tr.seq ?_
  refine Tr.seq ?_
  refine Tr.region ?_
  refine TrL.move rfl rfl ?_
  refine TrL.nei rfl rfl rfl ?_
  refine TrL.nil (At.then_normal ?_)
  refine Tr.cond rfl (fun h15 => ?_) (fun h15 => ?_)
  · try simp only [beq_iff_eq, beq_eq_false_iff_ne, Bool.not_eq_true, Bool.not_eq_false, decide_eq_true_eq, decide_eq_false_iff_not, Bool.not_eq_true', Bool.not_eq_false', bne_iff_ne, Bool.not_eq_eq_eq_not, Bool.not_true, Bool.not_false, ne_eq, Decidable.not_not, Int.not_lt, Int.not_le] at h15
    refine Tr.seq ?_
    refine Tr.region ?_
    refine TrL.move rfl rfl ?_
    refine TrL.assign rfl rfl ?_
    refine TrL.assign rfl rfl ?_
    refine TrL.nil (At.then_normal ?_)
    refine Tr.ret (At.then_ret (At.retX [diskH d m _ _, mapC Value.string m (kvOf _), filesC _] (.inl rfl) rfl (Res.tmp rfl (Res.tmp rfl Res.nil)) (by repeat (first | exact Picks.nil | with_reducible exact Pick.here | with_reducible apply Pick.there | with_reducible apply Pick.app_nil | with_reducible apply Pick.app_cons | apply Picks.cons)) (by 
        refine ⟨_, fun h hs => one_stars (disk_close rfl h hs), ?_⟩
        have e : readF ⟨vw fs, fuse, off⟩ name = (⟨#[]⟩, et11) := by
          rcases lookF_err hdt11 h15 with ⟨h1, rfl⟩ | ⟨h1, h2, rfl⟩ | ⟨h1, h2, h3, rfl⟩ <;> unfold readF <;> simp [look_vw, *]
        rw [e] at hK; exact hK)))
  · try simp only [beq_iff_eq, beq_eq_false_iff_ne, Bool.not_eq_true, Bool.not_eq_false, decide_eq_true_eq, decide_eq_false_iff_not, Bool.not_eq_true', Bool.not_eq_false', bne_iff_ne, Bool.not_eq_eq_eq_not, Bool.not_true, Bool.not_false, ne_eq, Decidable.not_not, Int.not_lt, Int.not_le] at h15
    obtain ⟨fi, hfi, rfl, hok, rfl⟩ := lookF_ok hdt11 h15
    refine Tr.open_ (by repeat (first | with_reducible exact Pick.here | with_reducible apply Pick.there | with_reducible apply Pick.app_nil | with_reducible apply Pick.app_cons)) (look_open hfi) ?_
    refine Tr.skip (At.then_normal ?_)
    refine Tr.seq ?_
    refine Tr.region ?_
    refine TrL.move rfl rfl ?_
    refine TrL.nilCheck rfl rfl ?_
    refine TrL.field0 rfl rfl fl55_0 ?_
    refine TrL.load1 rfl rfl sc39 (Sees.cl1 (by repeat (first | with_reducible exact Pick.here | with_reducible apply Pick.there | with_reducible apply Pick.app_nil | with_reducible apply Pick.app_cons)) (by rfl)) ?_
    refine TrL.convBSo rfl rfl se39 in5 st9 (by repeat (first | with_reducible exact Pick.here | with_reducible apply Pick.there | with_reducible apply Pick.app_nil | with_reducible apply Pick.app_cons)) (by rfl) ?_
    refine TrL.assign rfl rfl ?_
    refine TrL.assign rfl rfl ?_
    refine TrL.nil (At.then_normal ?_)
    refine Tr.ret (At.retX [diskH d m _ _, mapC Value.string m (kvOf _), cl fi.blk [_, _] 55, Own 5 1 encB _ _ _, filesC _] (.inl rfl) rfl (Res.tmp rfl (Res.tmp rfl Res.nil)) (by repeat (first | exact Picks.nil | with_reducible exact Pick.here | with_reducible apply Pick.there | with_reducible apply Pick.app_nil | with_reducible apply Pick.app_cons | apply Picks.cons)) (by 
        refine ⟨_, fun h hs => one_stars (disk_close3 hfi h hs), ?_⟩
        have e : readF ⟨vw fs, fuse, false⟩ name = (strOf fi.bytes, 0) := by unfold readF; simp [look_vw, *]
        rw [e] at hK; rw [show vw (putK fs name ⟨fi.blk, fi.p, fi.cap, fi.bytes, fi.sure⟩) = vw fs by rw [put_vw]; exact vw_same hfi]; exact hK))

set_option maxHeartbeats 1000000 in
theorem Sure_spec {F : Hp} {K : Value → List HProp → Prop} {d : Nat} {S : DS} {name : ByteArray} (h64 : S.ok) (hK : K (.tuple #[.int .i64 (sureF S name).1, .int .i64 (sureF S name).2]) [diskC d S]) :
    CallK Try.prog F 15 #[.pointer (some ⟨d, 0, none⟩), .string name] [diskC d S] K := by
  obtain ⟨Sfs, fuse, off⟩ := S
  refine CallK.openE .here disk_open ?_
  rintro ⟨m, ⟨fs, hfs⟩⟩
  simp only at hfs
  subst hfs
  have h64 : -1 ≤ fuse ∧ fuse ≤ 9223372036854775807 := h64
  show CallK _ _ _ _ [diskH d m fuse off, mapC Value.string m (kvOf fs), filesC fs] _
  refine CallK.enter Try.func15 rfl Try.ntmps15 rfl ?_
  refine Tr.seq ?_
  refine Tr.region ?_
  refine TrL.assign rfl rfl ?_
  refine TrL.assign rfl rfl ?_
  refine TrL.nil (At.then_normal ?_)
  refine Tr.seq ?_
  refine Tr.region ?_
  refine TrL.move rfl rfl ?_
  refine TrL.move rfl rfl ?_
  refine TrL.call rfl rfl rfl ca26 (by repeat (first | exact Picks.nil | with_reducible exact Pick.here | with_reducible apply Pick.there | with_reducible apply Pick.app_nil | with_reducible apply Pick.app_cons | apply Picks.cons)) (fun Ft11 hUt11 => look_spec (fun vt11 et11 hdt11 => ?_))
  refine TrL.move rfl rfl ?_
  refine TrL.extract rfl rfl rfl ?_
  refine TrL.extract rfl rfl rfl ?_
  refine TrL.assign rfl rfl ?_
  refine TrL.assign rfl rfl ?_
  refine TrL.nil (At.then_normal ?_)
  refine Tr.seq ?_
  refine Tr.seq ?_
  refine Tr.region ?_
  refine TrL.move rfl rfl ?_
  refine TrL.nei rfl rfl rfl ?_
  refine TrL.nil (At.then_normal ?_)
  refine Tr.cond rfl (fun h15 => ?_) (fun h15 => ?_)
  · try simp only [beq_iff_eq, beq_eq_false_iff_ne, Bool.not_eq_true, Bool.not_eq_false, decide_eq_true_eq, decide_eq_false_iff_not, Bool.not_eq_true', Bool.not_eq_false', bne_iff_ne, Bool.not_eq_eq_eq_not, Bool.not_true, Bool.not_false, ne_eq, Decidable.not_not, Int.not_lt, Int.not_le] at h15
    refine Tr.seq ?_
    refine Tr.region ?_
    refine TrL.move rfl rfl ?_
    refine TrL.assign rfl rfl ?_
    refine TrL.assign rfl rfl ?_
    refine TrL.nil (At.then_normal ?_)
    refine Tr.ret (At.then_ret (At.retX [diskH d m _ _, mapC Value.string m (kvOf _), filesC _] (.inl rfl) rfl (Res.tmp rfl (Res.tmp rfl Res.nil)) (by repeat (first | exact Picks.nil | with_reducible exact Pick.here | with_reducible apply Pick.there | with_reducible apply Pick.app_nil | with_reducible apply Pick.app_cons | apply Picks.cons)) (by 
        refine ⟨_, fun h hs => one_stars (disk_close rfl h hs), ?_⟩
        have e : sureF ⟨vw fs, fuse, off⟩ name = (0, et11) := by
          rcases lookF_err hdt11 h15 with ⟨h1, rfl⟩ | ⟨h1, h2, rfl⟩ | ⟨h1, h2, h3, rfl⟩ <;> unfold sureF <;> simp [look_vw, *]
        rw [e] at hK; exact hK)))
  · try simp only [beq_iff_eq, beq_eq_false_iff_ne, Bool.not_eq_true, Bool.not_eq_false, decide_eq_true_eq, decide_eq_false_iff_not, Bool.not_eq_true', Bool.not_eq_false', bne_iff_ne, Bool.not_eq_eq_eq_not, Bool.not_true, Bool.not_false, ne_eq, Decidable.not_not, Int.not_lt, Int.not_le] at h15
    obtain ⟨fi, hfi, rfl, hok, rfl⟩ := lookF_ok hdt11 h15
    refine Tr.open_ (by repeat (first | with_reducible exact Pick.here | with_reducible apply Pick.there | with_reducible apply Pick.app_nil | with_reducible apply Pick.app_cons)) (look_open hfi) ?_
    refine Tr.skip (At.then_normal ?_)
    refine Tr.seq ?_
    refine Tr.region ?_
    refine TrL.move rfl rfl ?_
    refine TrL.nilCheck rfl rfl ?_
    refine TrL.field rfl rfl fl55_1 ?_
    refine TrL.load1 rfl rfl sc3 (Sees.cl1 (by repeat (first | with_reducible exact Pick.here | with_reducible apply Pick.there | with_reducible apply Pick.app_nil | with_reducible apply Pick.app_cons)) (by rfl)) ?_
    refine TrL.assign rfl rfl ?_
    refine TrL.assign rfl rfl ?_
    refine TrL.nil (At.then_normal ?_)
    refine Tr.ret (At.retX [diskH d m _ _, mapC Value.string m (kvOf _), cl fi.blk [_, _] 55, Own 5 1 encB _ _ _, filesC _] (.inl rfl) rfl (Res.tmp rfl (Res.tmp rfl Res.nil)) (by repeat (first | exact Picks.nil | with_reducible exact Pick.here | with_reducible apply Pick.there | with_reducible apply Pick.app_nil | with_reducible apply Pick.app_cons | apply Picks.cons)) (by 
        refine ⟨_, fun h hs => one_stars (disk_close3 hfi h hs), ?_⟩
        have e : sureF ⟨vw fs, fuse, false⟩ name = (fi.sure, 0) := by unfold sureF; simp [look_vw, *]
        rw [e] at hK; rw [show vw (putK fs name ⟨fi.blk, fi.p, fi.cap, fi.bytes, fi.sure⟩) = vw fs by rw [put_vw]; exact vw_same hfi]; exact hK))
end Go.Proofs.Ytojfmielpjccdaa

/-
  The contracts of package fs: looking for a file, and what is done with files.
  No condition but those that each statement names.
-/
import Derived.Test.YtojfmielpjccdaaFsA
namespace Go.Proofs.Ytojfmielpjccdaa
set_option linter.unusedSimpArgs false
set_option linter.unusedVariables false
set_option linter.unusedSectionVars false
open Go.RowKit
variable [Obs]

/-- why a doing can not be, the fuse and the power behind it -/
def doingF (ok : Bool) (fuse : Int) (off : Bool) : Int × Int × Bool :=
  if ok = false then (1, fuse, off) else if off = true ∨ fuse = 0 then (50, fuse, true) else (0, if 0 < fuse then fuse - 1 else fuse, false)

/-- a file: its block, the head of its bytes, the room, the bytes, how many are sure -/
structure Fi where
  blk : Nat
  p : Option Addr
  cap : Nat
  bytes : List UInt8
  sure : Int
abbrev ptrOf (f : Fi) : Value := .pointer (some ⟨f.blk, 0, none⟩)
def kvOf (fs : List (ByteArray × Fi)) : List (ByteArray × Value) := fs.map fun x => (x.1, ptrOf x.2)
abbrev diskH (d m : Nat) (fuse : Int) (off : Bool) : HProp := cl d [.map (some m), .int .i64 fuse, .bool off] 48
abbrev fileH (f : Fi) : HProp := cl f.blk [.slice f.p f.bytes.length f.cap, .int .i64 f.sure] 55
abbrev bytesH (f : Fi) : HProp := Own 5 1 encB f.p f.cap f.bytes
def fileC (f : Fi) : HProp := fun h => Stars [fileH f, bytesH f] h
def filesC (fs : List (ByteArray × Fi)) : HProp := fun h => Stars (fs.map fun x => fileC x.2) h

omit [Obs] in
theorem pick_at {α : Type} : ∀ (l : List α) (j : Nat) (x : α), l[j]? = some x → Pick x l (l.eraseIdx j)
  | [], _, _, h => by simp at h
  | a :: l, 0, x, h => by simp at h; subst h; exact .here
  | a :: l, j + 1, x, h => by simp at h; exact .there (pick_at l j x h)
omit [Obs] in
theorem Stars.flat {cs : List HProp} {R : List HProp} {h : Hp} : Stars ((fun g => Stars cs g) :: R) h → Stars (cs ++ R) h := fun ⟨_, _, d, l1, l2, a, b⟩ => Stars.join d l1 l2 a b
omit [Obs] in
theorem Stars.unflat {cs : List HProp} {R : List HProp} {h : Hp} (s : Stars (cs ++ R) h) : Stars ((fun g => Stars cs g) :: R) h :=
  let ⟨h1, h2, d, l1, l2, a, b⟩ := Stars.append s; ⟨h1, h2, d, l1, l2, a, b⟩
omit [Obs] in
/-- one file is taken out -/
theorem files_open {fs : List (ByteArray × Fi)} {j : Nat} {x : ByteArray × Fi} (hj : fs[j]? = some x) (h : Hp) (s : filesC fs h) : Stars [fileH x.2, bytesH x.2, filesC (fs.eraseIdx j)] h := by
  have p := pick_at (fs.map fun x => fileC x.2) j (fileC x.2) (by simp [hj])
  have s2 := p.stars s
  rw [← map_eraseIdx'] at s2
  obtain ⟨h1, h2, d, l1, l2, h3, h4⟩ := s2
  obtain ⟨k1, k2, d', m1, m2, a, k3, k4, d'', m3, m4, b, _⟩ := h3
  refine ⟨k1, Hp.un k2 h2, (Hp.dj_un d'.symm (d.mono m1 (.refl _)).symm).symm, m1.trans l1, Hp.un_le (m2.trans l1) l2, a, ?_⟩
  exact ⟨k2, h2, d.mono m2 (.refl _), Hp.le_un_left _ _, Hp.le_un_right (d.mono m2 (.refl _)), Own.mono m3 b, h2, Hp.emp, (Hp.emp_dj _).symm, .refl _, Hp.emp_le _, h4, trivial⟩
omit [Obs] in
theorem eraseIdx_set {α : Type} : ∀ (l : List α) (j : Nat) (y : α), (l.set j y).eraseIdx j = l.eraseIdx j
  | [], _, _ => rfl
  | _ :: _, 0, _ => rfl
  | a :: l, j + 1, y => by simp [eraseIdx_set l j y]
omit [Obs] in
/-- .. and laid back, or another one in its place -/
theorem files_close {fs : List (ByteArray × Fi)} {j : Nat} {x : ByteArray × Fi} (hj : fs[j]? = some x) (y : ByteArray × Fi) (h : Hp) (s : Stars [fileH y.2, bytesH y.2, filesC (fs.eraseIdx j)] h) : filesC (fs.set j y) h := by
  have hlt := (List.getElem?_eq_some_iff.1 hj).1
  have p := pick_at ((fs.set j y).map fun x => fileC x.2) j (fileC y.2) (by simp [hlt])
  refine p.back ?_
  rw [← map_eraseIdx', eraseIdx_set]
  obtain ⟨k1, k2, d1, l1, l2, a, k3, k4, d2, l3, l4, b, k5, k6, d3, l5, l6, c, _⟩ := s
  have d13 : Hp.dj k1 k3 := d1.mono (.refl _) l3
  have d15 : Hp.dj k1 k5 := d1.mono (.refl _) (l5.trans l4)
  have d35 : Hp.dj k3 k5 := d2.mono (.refl _) l5
  refine ⟨Hp.un k1 k3, k5, Hp.dj_un d15 d35, Hp.un_le l1 (l3.trans l2), (l5.trans l4).trans l2, ?_, c⟩
  exact ⟨k1, k3, d13, Hp.le_un_left _ _, Hp.le_un_right d13, a, k3, Hp.emp, (Hp.emp_dj _).symm, .refl _, Hp.emp_le _, b, trivial⟩
omit [Obs] in
theorem files_del {fs : List (ByteArray × Fi)} (j : Nat) (h : Hp) (s : filesC fs h) : filesC (fs.eraseIdx j) h := by
  by_cases hj : j < fs.length
  · obtain ⟨_, h2, _, _, l2, _, h3, h4, _, l3, l4, _, h5, _, _, l5, _, c, _⟩ := files_open (x := fs[j]) (List.getElem?_eq_getElem hj) h s
    exact Stars.mono ((l5.trans l4).trans l2) c
  · rw [List.eraseIdx_of_length_le (by omega)]; exact s
omit [Obs] in
theorem stars_snoc {A : List HProp} {c : HProp} {h : Hp} (s : Stars [fun g => Stars A g, c] h) : Stars (A ++ [c]) h := by
  obtain ⟨h1, h2, d, l1, l2, a, b⟩ := s
  exact Stars.join d l1 l2 a b
omit [Obs] in
theorem files_add {fs : List (ByteArray × Fi)} (name : ByteArray) (f : Fi) (hp : f.p = none) (hc : f.cap = 0) (hb : f.bytes = []) (h : Hp) (s : Stars [filesC fs, fileH f] h) : filesC (fs ++ [(name, f)]) h := by
  unfold filesC
  rw [List.map_append]
  refine stars_snoc ?_
  obtain ⟨h1, h2, d, l1, l2, a, h3, h4, d', l3, l4, b, _⟩ := s
  refine ⟨h1, h2, d, l1, l2, a, h2, Hp.emp, (Hp.emp_dj _).symm, .refl _, Hp.emp_le _, ?_, trivial⟩
  refine ⟨h3, Hp.emp, (Hp.emp_dj _).symm, l3, Hp.emp_le _, b, Hp.emp, Hp.emp, Hp.emp_dj _, Hp.emp_le _, Hp.emp_le _, ?_, trivial⟩
  unfold bytesH
  rw [hp, hc, hb]
  exact Own.nil _ _ _ _
omit [Obs] in
theorem Own.le {α : Type} {E k : Nat} {enc : α → List Value} {p : Option Addr} {cap : Nat} {l : List α} {h : Hp} (o : Own E k enc p cap l h) : l.length ≤ maxLen := by
  obtain ⟨_, ⟨_, h2, _⟩ | ⟨b, cur, _, _, h1, h2, _⟩⟩ := o
  · omega
  · omega
omit [Obs] in
theorem cl_up {α : Type} {F F' : Hp} {H R : List HProp} {b k E : Nat} {enc : α → List Value} {cs : List Value} {l : List α} (u : Up F H F') (pk : Pick (cl b cs E) H R) (hcs : cs = l.flatMap enc) (hk : ∀ x ∈ l, (enc x).length = k) : SlIn F' enc k (some ⟨b, 0, none⟩) l := by
  obtain ⟨h, hc, hl⟩ := u.chunk pk
  refine .inr ⟨b, 0, rfl, ⟨cs.toArray, E, (0, 0), hl _ _ hc, fun j u e => ?_⟩, hk⟩
  rw [← hcs] at e
  simpa using e

/-- a disk, as plain data -/
structure DS where
  fs : List (ByteArray × (List UInt8 × Int))
  fuse : Int
  off : Bool
def vw (fs : List (ByteArray × Fi)) : List (ByteArray × (List UInt8 × Int)) := fs.map fun x => (x.1, (x.2.bytes, x.2.sure))
def diskIn (d : Nat) (S : DS) (m : Nat) (fs : List (ByteArray × Fi)) : List HProp := [diskH d m S.fuse S.off, mapC Value.string m (kvOf fs), filesC fs]
/-- at block 'd' lies a disk that is 'S' -/
def diskC (d : Nat) (S : DS) : HProp := fun h => ∃ m fs, vw fs = S.fs ∧ Stars [diskH d m S.fuse S.off, mapC Value.string m (kvOf fs), filesC fs] h
omit [Obs] in
theorem disk_open {d : Nat} {S : DS} (h : Hp) (s : diskC d S h) : ∃ x : Nat × {fs : List (ByteArray × Fi) // vw fs = S.fs}, Stars [diskH d x.1 S.fuse S.off, mapC Value.string x.1 (kvOf x.2.1), filesC x.2.1] h := by
  obtain ⟨m, fs, h1, h2⟩ := s; exact ⟨(m, ⟨fs, h1⟩), h2⟩
omit [Obs] in
theorem disk_close {d m : Nat} {fs : List (ByteArray × Fi)} {fuse : Int} {off : Bool} {S : DS} (hS : S = ⟨vw fs, fuse, off⟩) (h : Hp) (s : Stars [diskH d m fuse off, mapC Value.string m (kvOf fs), filesC fs] h) : diskC d S h := by
  subst hS; exact ⟨m, fs, rfl, s⟩
omit [Obs] in
theorem look_vw (fs : List (ByteArray × Fi)) (name : ByteArray) : look (vw fs) name = (look fs name).map fun f => (f.bytes, f.sure) := look_map (fun f : Fi => (f.bytes, f.sure)) fs name
omit [Obs] in
theorem look_kv (fs : List (ByteArray × Fi)) (name : ByteArray) : look (kvOf fs) name = (look fs name).map ptrOf := look_map ptrOf fs name
omit [Obs] in
theorem put_vw (fs : List (ByteArray × Fi)) (name : ByteArray) (f : Fi) : vw (putK fs name f) = putK (vw fs) name (f.bytes, f.sure) := (putK_map (fun f : Fi => (f.bytes, f.sure)) fs name f).symm
omit [Obs] in
theorem put_kv (fs : List (ByteArray × Fi)) (name : ByteArray) (f : Fi) : kvOf (putK fs name f) = putK (kvOf fs) name (ptrOf f) := (putK_map ptrOf fs name f).symm
omit [Obs] in
theorem del_vw (fs : List (ByteArray × Fi)) (name : ByteArray) : vw (delK fs name) = delK (vw fs) name := (delK_map (fun f : Fi => (f.bytes, f.sure)) fs name).symm
omit [Obs] in
theorem del_kv (fs : List (ByteArray × Fi)) (name : ByteArray) : kvOf (delK fs name) = delK (kvOf fs) name := (delK_map ptrOf fs name).symm
omit [Obs] in
/-- a file is turned in place -/
theorem kv_same {fs : List (ByteArray × Fi)} {name : ByteArray} {f g : Fi} (h : look fs name = some f) (hb : g.blk = f.blk) : kvOf (putK fs name g) = kvOf fs := by
  rw [put_kv, show ptrOf g = ptrOf f by simp [ptrOf, hb]]
  exact putK_same (by rw [look_kv, h]; rfl)

omit [Obs] in
theorem look_open {fs : List (ByteArray × Fi)} {name : ByteArray} {f : Fi} (h : look fs name = some f) (hp : Hp) (s : filesC fs hp) : Stars [fileH f, bytesH f, filesC (delK fs name)] hp := by
  obtain ⟨j, h1, h2⟩ := look_pos h
  have := files_open h2 hp s
  unfold delK; rw [h1]; exact this
omit [Obs] in
theorem look_close {fs : List (ByteArray × Fi)} {name : ByteArray} {f : Fi} (h : look fs name = some f) (g : Fi) (hp : Hp) (s : Stars [fileH g, bytesH g, filesC (delK fs name)] hp) : filesC (putK fs name g) hp := by
  obtain ⟨j, h1, h2⟩ := look_pos h
  unfold delK at s; rw [h1] at s
  unfold putK; rw [h1]
  exact files_close h2 (name, g) hp s

set_option maxHeartbeats 1000000 in
theorem may_spec {F : Hp} {K : Value → List HProp → Prop} {d m : Nat} {fuse : Int} {off : Bool} {p : Option Addr} {cap : Nat} {l : List ByteArray} (hl : SlIn F encS 1 p l) (hm : l.length ≤ 10000) (hK : K (.bool (l.all nameOk)) [diskH d m fuse off]) :
    CallK Try.prog F 25 #[.pointer (some ⟨d, 0, none⟩), .slice p l.length cap] [diskH d m fuse off] K := by
  refine CallK.enter Try.func25 rfl Try.ntmps25 rfl ?_
  refine Tr.seq ?_
  refine Tr.region ?_
  refine TrL.assign rfl rfl ?_
  refine TrL.nil (At.then_normal ?_)
  refine Tr.seq ?_
  refine Tr.seq ?_
  refine Tr.region ?_
  refine TrL.move rfl rfl ?_
  refine TrL.eqpSome rfl rfl rfl pp24 ?_
  refine TrL.move rfl rfl ?_
  refine TrL.want rfl rfl ?_
  refine TrL.move rfl rfl ?_
  refine TrL.want rfl rfl ?_
  refine TrL.nilCheck rfl rfl ?_
  refine TrL.want rfl rfl ?_
  refine TrL.field0 rfl rfl fl48_0 ?_
  refine TrL.want rfl rfl ?_
  refine TrL.load1 rfl rfl sc46 (Sees.cl1 (by repeat (first | with_reducible exact Pick.here | with_reducible apply Pick.there | with_reducible apply Pick.app_nil | with_reducible apply Pick.app_cons)) (by rfl)) ?_
  refine TrL.want rfl rfl ?_
  refine TrL.eqmSome rfl rfl rfl mp46 ?_
  --K:False
  refine TrL.pickF rfl rfl rfl ?_
  refine TrL.nil (At.then_normal ?_)
  refine Tr.condF rfl ?_
  refine Tr.skip (At.then_normal ?_)
  refine Tr.seq ?_
  refine Tr.region ?_
  refine TrL.assign rfl rfl ?_
  refine TrL.nil (At.then_normal ?_)
  refine Tr.seq ?_
  refine Tr.seq ?_
  refine Tr.region ?_
  refine TrL.move rfl rfl ?_
  refine TrL.lenl rfl rfl se22 ?_
  refine TrL.move rfl rfl ?_
  refine TrL.nil (At.then_normal ?_)
  refine Tr.block ?_
  refine Tr.loopK [0, 1, 5, 17, 18] (α := Nat) (fun i => [(19, .int .i64 (i : Int))]) (fun i => []) (fun i => i ≤ l.length ∧ ∀ x ∈ l.take i, nameOk x = true) (fun i => l.length - i) (0) (by rfl) ?_ (by repeat (first | exact Sub.nil | refine Sub.cons (by rfl) ?_)) (by repeat (first | exact Picks.nil | with_reducible exact Pick.here | with_reducible apply Pick.there | with_reducible apply Pick.app_nil | with_reducible apply Pick.app_cons | apply Picks.cons)) ?_
  · exact ⟨Nat.zero_le _, by simp⟩
  rintro i ⟨hi, hall⟩
  refine Tr.seq ?_
  refine Tr.region ?_
  refine TrL.lss rfl rfl rfl ?_
  refine TrL.nil (At.then_normal ?_)
  refine Tr.seq ?_
  refine Tr.cond rfl (fun h20 => ?_) (fun h20 => ?_)
  · try simp only [beq_iff_eq, beq_eq_false_iff_ne, Bool.not_eq_true, Bool.not_eq_false, decide_eq_true_eq, decide_eq_false_iff_not, Bool.not_eq_true', Bool.not_eq_false', bne_iff_ne, Bool.not_eq_eq_eq_not, Bool.not_true, Bool.not_false, ne_eq, Decidable.not_not, Int.not_lt, Int.not_le] at h20
    refine Tr.skip (At.then_normal ?_)
    refine Tr.seq ?_
    refine Tr.block ?_
    refine Tr.seq ?_
    refine Tr.region ?_
    refine TrL.idxF rfl rfl rfl se22 sz9 (by assumption) rfl rfl rfl (List.getElem?_eq_getElem (by omega)) (fun b21 o21 hp21 hc21 => ?_)
    refine TrL.loadR1 rfl rfl sc9 (by assumption) ?_
    refine TrL.assign rfl rfl ?_
    refine TrL.nil (At.then_normal ?_)
    refine Tr.seq ?_
    refine Tr.region ?_
    refine TrL.move rfl rfl ?_
    refine TrL.eqs rfl rfl rfl ?_
    refine TrL.move rfl rfl ?_
    refine TrL.cases (t := 25) rfl (fun h25 => ?_) (fun h25 => ?_)
    · try simp only [beq_iff_eq, beq_eq_false_iff_ne, Bool.not_eq_true, Bool.not_eq_false, decide_eq_true_eq, decide_eq_false_iff_not, Bool.not_eq_true', Bool.not_eq_false', bne_iff_ne, Bool.not_eq_eq_eq_not, Bool.not_true, Bool.not_false, ne_eq, Decidable.not_not, Int.not_lt, Int.not_le] at h25
      refine TrL.unwant rfl rfl rfl ?_
      refine TrL.unwant rfl rfl rfl ?_
      refine TrL.unwant rfl rfl rfl ?_
      refine TrL.pickT rfl rfl rfl ?_
      refine TrL.move rfl rfl ?_
      refine TrL.unwant rfl rfl rfl ?_
      refine TrL.unwant rfl rfl rfl ?_
      refine TrL.unwant rfl rfl rfl ?_
      refine TrL.unwant rfl rfl rfl ?_
      refine TrL.pickT rfl rfl rfl ?_
      refine TrL.nil (At.then_normal ?_)
      refine Tr.condT rfl ?_
      refine Tr.seq ?_
      refine Tr.region ?_
      refine TrL.assign rfl rfl ?_
      refine TrL.nil (At.then_normal ?_)
      refine Tr.ret (At.block_ret (At.then_ret (At.then_ret (At.block_ret (At.then_ret (At.retP [cl d [_, _, _] 48] (.inl rfl) rfl (Res.tmp rfl Res.nil) (by repeat (first | exact Picks.nil | with_reducible exact Pick.here | with_reducible apply Pick.there | with_reducible apply Pick.app_nil | with_reducible apply Pick.app_cons | apply Picks.cons)) (by 
          have hbad : nameOk l[i] = false := by first | (rw [nameOk_of _ hr33]; grind) | (unfold nameOk; grind)
          exact kb (List.all_eq_false.2 ⟨l[i], List.getElem_mem (by omega), by rw [hbad]; decide⟩) hK)))))))
    · try simp only [beq_iff_eq, beq_eq_false_iff_ne, Bool.not_eq_true, Bool.not_eq_false, decide_eq_true_eq, decide_eq_false_iff_not, Bool.not_eq_true', Bool.not_eq_false', bne_iff_ne, Bool.not_eq_eq_eq_not, Bool.not_true, Bool.not_false, ne_eq, Decidable.not_not, Int.not_lt, Int.not_le] at h25
      refine TrL.want rfl rfl ?_
      refine TrL.move rfl rfl ?_
      refine TrL.want rfl rfl ?_
      refine TrL.lens rfl rfl st9 ?_
      refine TrL.want rfl rfl ?_
      refine TrL.gtr rfl rfl rfl ?_
      refine TrL.pickF rfl rfl rfl ?_
      refine TrL.move rfl rfl ?_
      refine TrL.cases (t := 30) rfl (fun h30 => ?_) (fun h30 => ?_)
      · try simp only [beq_iff_eq, beq_eq_false_iff_ne, Bool.not_eq_true, Bool.not_eq_false, decide_eq_true_eq, decide_eq_false_iff_not, Bool.not_eq_true', Bool.not_eq_false', bne_iff_ne, Bool.not_eq_eq_eq_not, Bool.not_true, Bool.not_false, ne_eq, Decidable.not_not, Int.not_lt, Int.not_le] at h30
        refine TrL.unwant rfl rfl rfl ?_
        refine TrL.unwant rfl rfl rfl ?_
        refine TrL.unwant rfl rfl rfl ?_
        refine TrL.unwant rfl rfl rfl ?_
        refine TrL.pickT rfl rfl rfl ?_
        refine TrL.nil (At.then_normal ?_)
        refine Tr.condT rfl ?_
        refine Tr.seq ?_
        refine Tr.region ?_
        refine TrL.assign rfl rfl ?_
        refine TrL.nil (At.then_normal ?_)
        refine Tr.ret (At.block_ret (At.then_ret (At.then_ret (At.block_ret (At.then_ret (At.retP [cl d [_, _, _] 48] (.inl rfl) rfl (Res.tmp rfl Res.nil) (by repeat (first | exact Picks.nil | with_reducible exact Pick.here | with_reducible apply Pick.there | with_reducible apply Pick.app_nil | with_reducible apply Pick.app_cons | apply Picks.cons)) (by 
            have hbad : nameOk l[i] = false := by first | (rw [nameOk_of _ hr33]; grind) | (unfold nameOk; grind)
            exact kb (List.all_eq_false.2 ⟨l[i], List.getElem_mem (by omega), by rw [hbad]; decide⟩) hK)))))))
      · try simp only [beq_iff_eq, beq_eq_false_iff_ne, Bool.not_eq_true, Bool.not_eq_false, decide_eq_true_eq, decide_eq_false_iff_not, Bool.not_eq_true', Bool.not_eq_false', bne_iff_ne, Bool.not_eq_eq_eq_not, Bool.not_true, Bool.not_false, ne_eq, Decidable.not_not, Int.not_lt, Int.not_le] at h30
        refine TrL.want rfl rfl ?_
        refine TrL.move rfl rfl ?_
        refine TrL.want rfl rfl ?_
        refine TrL.move rfl rfl ?_
        refine TrL.want rfl rfl ?_
        refine TrL.call rfl rfl rfl ca30 .nil (fun Ft33 hUt33 => IndexFunc_spec (pr := oddR) (fun _ _ _ => odd_spec) ca29 (fun _ => oddR_high) (fun r33 hr33 => ?_))
        refine TrL.want rfl rfl ?_
        refine TrL.geq rfl rfl rfl ?_
        refine TrL.pickF rfl rfl rfl ?_
        refine TrL.nil (At.then_normal ?_)
        refine Tr.cond rfl (fun h35 => ?_) (fun h35 => ?_)
        · try simp only [beq_iff_eq, beq_eq_false_iff_ne, Bool.not_eq_true, Bool.not_eq_false, decide_eq_true_eq, decide_eq_false_iff_not, Bool.not_eq_true', Bool.not_eq_false', bne_iff_ne, Bool.not_eq_eq_eq_not, Bool.not_true, Bool.not_false, ne_eq, Decidable.not_not, Int.not_lt, Int.not_le] at h35
          refine Tr.seq ?_
          refine Tr.region ?_
          refine TrL.assign rfl rfl ?_
          refine TrL.nil (At.then_normal ?_)
          refine Tr.ret (At.block_ret (At.then_ret (At.then_ret (At.block_ret (At.then_ret (At.retP [cl d [_, _, _] 48] (.inl rfl) rfl (Res.tmp rfl Res.nil) (by repeat (first | exact Picks.nil | with_reducible exact Pick.here | with_reducible apply Pick.there | with_reducible apply Pick.app_nil | with_reducible apply Pick.app_cons | apply Picks.cons)) (by 
              have hbad : nameOk l[i] = false := by first | (rw [nameOk_of _ hr33]; grind) | (unfold nameOk; grind)
              exact kb (List.all_eq_false.2 ⟨l[i], List.getElem_mem (by omega), by rw [hbad]; decide⟩) hK)))))))
        · try simp only [beq_iff_eq, beq_eq_false_iff_ne, Bool.not_eq_true, Bool.not_eq_false, decide_eq_true_eq, decide_eq_false_iff_not, Bool.not_eq_true', Bool.not_eq_false', bne_iff_ne, Bool.not_eq_eq_eq_not, Bool.not_true, Bool.not_false, ne_eq, Decidable.not_not, Int.not_lt, Int.not_le] at h35
          refine Tr.skip (At.block_normal (At.then_normal ?_))
          refine Tr.region ?_
          refine TrL.addI rfl rfl rfl (by omega) ?_
          refine TrL.move rfl rfl ?_
          refine TrL.nil ?_
          refine At.again (i + 1) ⟨by omega, fun x hx => ?_⟩ (by omega) (by repeat (first | exact Sub.nil | refine Sub.cons (by rfl) ?_)) (by repeat (first | exact Picks.nil | with_reducible exact Pick.here | with_reducible apply Pick.there | with_reducible apply Pick.app_nil | with_reducible apply Pick.app_cons | apply Picks.cons))
          rw [take_succ_of (by omega)] at hx
          rcases List.mem_append.1 hx with hx | hx
          · exact hall x hx
          · simp only [List.mem_singleton] at hx
            subst hx
            rw [nameOk_of _ hr33]; simp; grind
  · try simp only [beq_iff_eq, beq_eq_false_iff_ne, Bool.not_eq_true, Bool.not_eq_false, decide_eq_true_eq, decide_eq_false_iff_not, Bool.not_eq_true', Bool.not_eq_false', bne_iff_ne, Bool.not_eq_eq_eq_not, Bool.not_true, Bool.not_false, ne_eq, Decidable.not_not, Int.not_lt, Int.not_le] at h20
    refine Tr.exit (At.then_exit (At.then_exit (At.block_hit (At.then_normal ?_))))
    refine Tr.seq ?_
    refine Tr.region ?_
    refine TrL.assign rfl rfl ?_
    refine TrL.nil (At.then_normal ?_)
    refine Tr.ret (At.retP [cl d [_, _, _] 48] (.inl rfl) rfl (Res.tmp rfl Res.nil) (by repeat (first | exact Picks.nil | with_reducible exact Pick.here | with_reducible apply Pick.there | with_reducible apply Pick.app_nil | with_reducible apply Pick.app_cons | apply Picks.cons)) (by exact kb (List.all_eq_true.2 (by rw [List.take_of_length_le (by omega)] at hall; exact hall)) hK))

set_option maxHeartbeats 1000000 in
theorem doing_spec {F : Hp} {K : Value → List HProp → Prop} {d m : Nat} {fuse : Int} {off : Bool} {p : Option Addr} {cap : Nat} {l : List ByteArray} (hl : SlIn F encS 1 p l) (hm : l.length ≤ 10000) (h64 : -9223372036854775808 ≤ fuse ∧ fuse ≤ 9223372036854775807)
    (hK : ∀ e fu of, doingF (l.all nameOk) fuse off = (e, fu, of) → K (.int .i64 e) [diskH d m fu of]) :
    CallK Try.prog F 23 #[.pointer (some ⟨d, 0, none⟩), .slice p l.length cap] [diskH d m fuse off] K := by
  refine CallK.enter Try.func23 rfl Try.ntmps23 rfl ?_
  refine Tr.seq ?_
  refine Tr.region ?_
  refine TrL.assign rfl rfl ?_
  refine TrL.nil (At.then_normal ?_)
  refine Tr.seq ?_
  refine Tr.seq ?_
  refine Tr.region ?_
  refine TrL.move rfl rfl ?_
  refine TrL.move rfl rfl ?_
  refine TrL.call rfl rfl rfl ca25 (by repeat (first | exact Picks.nil | with_reducible exact Pick.here | with_reducible apply Pick.there | with_reducible apply Pick.app_nil | with_reducible apply Pick.app_cons | apply Picks.cons)) (fun Ft7 hUt7 => may_spec (SlIn.mono _ _ _ _ _ _ hUt7.le hl) hm ?_)
  refine TrL.not rfl rfl ?_
  refine TrL.nil (At.then_normal ?_)
  refine Tr.cond rfl (fun h8 => ?_) (fun h8 => ?_)
  · try simp only [beq_iff_eq, beq_eq_false_iff_ne, Bool.not_eq_true, Bool.not_eq_false, decide_eq_true_eq, decide_eq_false_iff_not, Bool.not_eq_true', Bool.not_eq_false', bne_iff_ne, Bool.not_eq_eq_eq_not, Bool.not_true, Bool.not_false, ne_eq, Decidable.not_not, Int.not_lt, Int.not_le] at h8
    refine Tr.seq ?_
    refine Tr.region ?_
    refine TrL.assign rfl rfl ?_
    refine TrL.nil (At.then_normal ?_)
    refine Tr.ret (At.then_ret (At.retP [diskH d m _ _] (.inl rfl) rfl (Res.tmp rfl Res.nil) (by repeat (first | exact Picks.nil | with_reducible exact Pick.here | with_reducible apply Pick.there | with_reducible apply Pick.app_nil | with_reducible apply Pick.app_cons | apply Picks.cons)) (by exact hK _ _ _ (by unfold doingF; grind))))
  · try simp only [beq_iff_eq, beq_eq_false_iff_ne, Bool.not_eq_true, Bool.not_eq_false, decide_eq_true_eq, decide_eq_false_iff_not, Bool.not_eq_true', Bool.not_eq_false', bne_iff_ne, Bool.not_eq_eq_eq_not, Bool.not_true, Bool.not_false, ne_eq, Decidable.not_not, Int.not_lt, Int.not_le] at h8
    refine Tr.skip (At.then_normal ?_)
    refine Tr.seq ?_
    refine Tr.seq ?_
    refine Tr.region ?_
    refine TrL.move rfl rfl ?_
    refine TrL.move rfl rfl ?_
    refine TrL.nilCheck rfl rfl ?_
    refine TrL.field rfl rfl fl48_2 ?_
    refine TrL.load1 rfl rfl sc4 (Sees.cl1 (by repeat (first | with_reducible exact Pick.here | with_reducible apply Pick.there | with_reducible apply Pick.app_nil | with_reducible apply Pick.app_cons)) (by rfl)) ?_
    refine TrL.move rfl rfl ?_
    refine TrL.cases (t := 14) rfl (fun h14 => ?_) (fun h14 => ?_)
    · try simp only [beq_iff_eq, beq_eq_false_iff_ne, Bool.not_eq_true, Bool.not_eq_false, decide_eq_true_eq, decide_eq_false_iff_not, Bool.not_eq_true', Bool.not_eq_false', bne_iff_ne, Bool.not_eq_eq_eq_not, Bool.not_true, Bool.not_false, ne_eq, Decidable.not_not, Int.not_lt, Int.not_le] at h14
      refine TrL.unwant rfl rfl rfl ?_
      refine TrL.unwant rfl rfl rfl ?_
      refine TrL.unwant rfl rfl rfl ?_
      refine TrL.unwant rfl rfl rfl ?_
      refine TrL.unwant rfl rfl rfl ?_
      refine TrL.pickT rfl rfl rfl ?_
      refine TrL.nilCheck rfl rfl ?_
      refine TrL.field rfl rfl fl48_2 ?_
      refine TrL.store1 rfl rfl sz4 rfl (by repeat (first | with_reducible exact Upd.here | with_reducible apply Upd.there | with_reducible apply Upd.app_nil | with_reducible apply Upd.app_cons)) (by rfl) ?_
      refine TrL.nil (At.then_normal ?_)
      refine Tr.seq ?_
      refine Tr.region ?_
      refine TrL.move rfl rfl ?_
      refine TrL.nilCheck rfl rfl ?_
      refine TrL.field rfl rfl fl48_2 ?_
      refine TrL.load1 rfl rfl sc4 (Sees.cl1 (by repeat (first | with_reducible exact Pick.here | with_reducible apply Pick.there | with_reducible apply Pick.app_nil | with_reducible apply Pick.app_cons)) (by rfl)) ?_
      refine TrL.nil (At.then_normal ?_)
      refine Tr.cond rfl (fun h26 => ?_) (fun h26 => ?_)
      · try simp only [beq_iff_eq, beq_eq_false_iff_ne, Bool.not_eq_true, Bool.not_eq_false, decide_eq_true_eq, decide_eq_false_iff_not, Bool.not_eq_true', Bool.not_eq_false', bne_iff_ne, Bool.not_eq_eq_eq_not, Bool.not_true, Bool.not_false, ne_eq, Decidable.not_not, Int.not_lt, Int.not_le] at h26
        refine Tr.seq ?_
        refine Tr.region ?_
        refine TrL.assign rfl rfl ?_
        refine TrL.nil (At.then_normal ?_)
        refine Tr.ret (At.then_ret (At.retP [diskH d m _ _] (.inl rfl) rfl (Res.tmp rfl Res.nil) (by repeat (first | exact Picks.nil | with_reducible exact Pick.here | with_reducible apply Pick.there | with_reducible apply Pick.app_nil | with_reducible apply Pick.app_cons | apply Picks.cons)) (by exact hK _ _ _ (by unfold doingF; grind))))
      · try simp only [beq_iff_eq, beq_eq_false_iff_ne, Bool.not_eq_true, Bool.not_eq_false, decide_eq_true_eq, decide_eq_false_iff_not, Bool.not_eq_true', Bool.not_eq_false', bne_iff_ne, Bool.not_eq_eq_eq_not, Bool.not_true, Bool.not_false, ne_eq, Decidable.not_not, Int.not_lt, Int.not_le] at h26
        refine Tr.skip (At.then_normal ?_)
        refine Tr.seq ?_
        refine Tr.seq ?_
        refine Tr.region ?_
        refine TrL.move rfl rfl ?_
        refine TrL.nilCheck rfl rfl ?_
        refine TrL.field rfl rfl fl48_1 ?_
        refine TrL.load1 rfl rfl sc3 (Sees.cl1 (by repeat (first | with_reducible exact Pick.here | with_reducible apply Pick.there | with_reducible apply Pick.app_nil | with_reducible apply Pick.app_cons)) (by rfl)) ?_
        refine TrL.gtr rfl rfl rfl ?_
        refine TrL.nil (At.then_normal ?_)
        refine Tr.cond rfl (fun h31 => ?_) (fun h31 => ?_)
        · try simp only [beq_iff_eq, beq_eq_false_iff_ne, Bool.not_eq_true, Bool.not_eq_false, decide_eq_true_eq, decide_eq_false_iff_not, Bool.not_eq_true', Bool.not_eq_false', bne_iff_ne, Bool.not_eq_eq_eq_not, Bool.not_true, Bool.not_false, ne_eq, Decidable.not_not, Int.not_lt, Int.not_le] at h31
          refine Tr.region ?_
          refine TrL.move rfl rfl ?_
          refine TrL.nilCheck rfl rfl ?_
          refine TrL.field rfl rfl fl48_1 ?_
          refine TrL.load1 rfl rfl sc3 (Sees.cl1 (by repeat (first | with_reducible exact Pick.here | with_reducible apply Pick.there | with_reducible apply Pick.app_nil | with_reducible apply Pick.app_cons)) (by rfl)) ?_
          refine TrL.subI rfl rfl rfl (by omega) ?_
          refine TrL.nilCheck rfl rfl ?_
          refine TrL.field rfl rfl fl48_1 ?_
          refine TrL.store1 rfl rfl sz3 rfl (by repeat (first | with_reducible exact Upd.here | with_reducible apply Upd.there | with_reducible apply Upd.app_nil | with_reducible apply Upd.app_cons)) (by rfl) ?_
          refine TrL.nil (At.then_normal ?_)
          refine Tr.seq ?_
          refine Tr.region ?_
          refine TrL.assign rfl rfl ?_
          refine TrL.nil (At.then_normal ?_)
          refine Tr.ret (At.retP [diskH d m _ _] (.inl rfl) rfl (Res.tmp rfl Res.nil) (by repeat (first | exact Picks.nil | with_reducible exact Pick.here | with_reducible apply Pick.there | with_reducible apply Pick.app_nil | with_reducible apply Pick.app_cons | apply Picks.cons)) (by exact hK _ _ _ (by unfold doingF; grind)))
        · try simp only [beq_iff_eq, beq_eq_false_iff_ne, Bool.not_eq_true, Bool.not_eq_false, decide_eq_true_eq, decide_eq_false_iff_not, Bool.not_eq_true', Bool.not_eq_false', bne_iff_ne, Bool.not_eq_eq_eq_not, Bool.not_true, Bool.not_false, ne_eq, Decidable.not_not, Int.not_lt, Int.not_le] at h31
          refine Tr.skip (At.then_normal ?_)
          refine Tr.seq ?_
          refine Tr.region ?_
          refine TrL.assign rfl rfl ?_
          refine TrL.nil (At.then_normal ?_)
          refine Tr.ret (At.retP [diskH d m _ _] (.inl rfl) rfl (Res.tmp rfl Res.nil) (by repeat (first | exact Picks.nil | with_reducible exact Pick.here | with_reducible apply Pick.there | with_reducible apply Pick.app_nil | with_reducible apply Pick.app_cons | apply Picks.cons)) (by exact hK _ _ _ (by unfold doingF; grind)))
    · try simp only [beq_iff_eq, beq_eq_false_iff_ne, Bool.not_eq_true, Bool.not_eq_false, decide_eq_true_eq, decide_eq_false_iff_not, Bool.not_eq_true', Bool.not_eq_false', bne_iff_ne, Bool.not_eq_eq_eq_not, Bool.not_true, Bool.not_false, ne_eq, Decidable.not_not, Int.not_lt, Int.not_le] at h14
      refine TrL.want rfl rfl ?_
      refine TrL.move rfl rfl ?_
      refine TrL.want rfl rfl ?_
      refine TrL.nilCheck rfl rfl ?_
      refine TrL.want rfl rfl ?_
      refine TrL.field rfl rfl fl48_1 ?_
      refine TrL.want rfl rfl ?_
      refine TrL.load1 rfl rfl sc3 (Sees.cl1 (by repeat (first | with_reducible exact Pick.here | with_reducible apply Pick.there | with_reducible apply Pick.app_nil | with_reducible apply Pick.app_cons)) (by rfl)) ?_
      refine TrL.want rfl rfl ?_
      refine TrL.eqi rfl rfl rfl ?_
      refine TrL.pickF rfl rfl rfl ?_
      refine TrL.nilCheck rfl rfl ?_
      refine TrL.field rfl rfl fl48_2 ?_
      refine TrL.store1 rfl rfl sz4 rfl (by repeat (first | with_reducible exact Upd.here | with_reducible apply Upd.there | with_reducible apply Upd.app_nil | with_reducible apply Upd.app_cons)) (by rfl) ?_
      refine TrL.nil (At.then_normal ?_)
      refine Tr.seq ?_
      refine Tr.region ?_
      refine TrL.move rfl rfl ?_
      refine TrL.nilCheck rfl rfl ?_
      refine TrL.field rfl rfl fl48_2 ?_
      refine TrL.load1 rfl rfl sc4 (Sees.cl1 (by repeat (first | with_reducible exact Pick.here | with_reducible apply Pick.there | with_reducible apply Pick.app_nil | with_reducible apply Pick.app_cons)) (by rfl)) ?_
      refine TrL.nil (At.then_normal ?_)
      refine Tr.cond rfl (fun h26 => ?_) (fun h26 => ?_)
      · try simp only [beq_iff_eq, beq_eq_false_iff_ne, Bool.not_eq_true, Bool.not_eq_false, decide_eq_true_eq, decide_eq_false_iff_not, Bool.not_eq_true', Bool.not_eq_false', bne_iff_ne, Bool.not_eq_eq_eq_not, Bool.not_true, Bool.not_false, ne_eq, Decidable.not_not, Int.not_lt, Int.not_le] at h26
        refine Tr.seq ?_
        refine Tr.region ?_
        refine TrL.assign rfl rfl ?_
        refine TrL.nil (At.then_normal ?_)
        refine Tr.ret (At.then_ret (At.retP [diskH d m _ _] (.inl rfl) rfl (Res.tmp rfl Res.nil) (by repeat (first | exact Picks.nil | with_reducible exact Pick.here | with_reducible apply Pick.there | with_reducible apply Pick.app_nil | with_reducible apply Pick.app_cons | apply Picks.cons)) (by exact hK _ _ _ (by unfold doingF; grind))))
      · try simp only [beq_iff_eq, beq_eq_false_iff_ne, Bool.not_eq_true, Bool.not_eq_false, decide_eq_true_eq, decide_eq_false_iff_not, Bool.not_eq_true', Bool.not_eq_false', bne_iff_ne, Bool.not_eq_eq_eq_not, Bool.not_true, Bool.not_false, ne_eq, Decidable.not_not, Int.not_lt, Int.not_le] at h26
        refine Tr.skip (At.then_normal ?_)
        refine Tr.seq ?_
        refine Tr.seq ?_
        refine Tr.region ?_
        refine TrL.move rfl rfl ?_
        refine TrL.nilCheck rfl rfl ?_
        refine TrL.field rfl rfl fl48_1 ?_
        refine TrL.load1 rfl rfl sc3 (Sees.cl1 (by repeat (first | with_reducible exact Pick.here | with_reducible apply Pick.there | with_reducible apply Pick.app_nil | with_reducible apply Pick.app_cons)) (by rfl)) ?_
        refine TrL.gtr rfl rfl rfl ?_
        refine TrL.nil (At.then_normal ?_)
        refine Tr.cond rfl (fun h31 => ?_) (fun h31 => ?_)
        · try simp only [beq_iff_eq, beq_eq_false_iff_ne, Bool.not_eq_true, Bool.not_eq_false, decide_eq_true_eq, decide_eq_false_iff_not, Bool.not_eq_true', Bool.not_eq_false', bne_iff_ne, Bool.not_eq_eq_eq_not, Bool.not_true, Bool.not_false, ne_eq, Decidable.not_not, Int.not_lt, Int.not_le] at h31
          refine Tr.region ?_
          refine TrL.move rfl rfl ?_
          refine TrL.nilCheck rfl rfl ?_
          refine TrL.field rfl rfl fl48_1 ?_
          refine TrL.load1 rfl rfl sc3 (Sees.cl1 (by repeat (first | with_reducible exact Pick.here | with_reducible apply Pick.there | with_reducible apply Pick.app_nil | with_reducible apply Pick.app_cons)) (by rfl)) ?_
          refine TrL.subI rfl rfl rfl (by omega) ?_
          refine TrL.nilCheck rfl rfl ?_
          refine TrL.field rfl rfl fl48_1 ?_
          refine TrL.store1 rfl rfl sz3 rfl (by repeat (first | with_reducible exact Upd.here | with_reducible apply Upd.there | with_reducible apply Upd.app_nil | with_reducible apply Upd.app_cons)) (by rfl) ?_
          refine TrL.nil (At.then_normal ?_)
          refine Tr.seq ?_
          refine Tr.region ?_
          refine TrL.assign rfl rfl ?_
          refine TrL.nil (At.then_normal ?_)
          refine Tr.ret (At.retP [diskH d m _ _] (.inl rfl) rfl (Res.tmp rfl Res.nil) (by repeat (first | exact Picks.nil | with_reducible exact Pick.here | with_reducible apply Pick.there | with_reducible apply Pick.app_nil | with_reducible apply Pick.app_cons | apply Picks.cons)) (by exact hK _ _ _ (by unfold doingF; grind)))
        · try simp only [beq_iff_eq, beq_eq_false_iff_ne, Bool.not_eq_true, Bool.not_eq_false, decide_eq_true_eq, decide_eq_false_iff_not, Bool.not_eq_true', Bool.not_eq_false', bne_iff_ne, Bool.not_eq_eq_eq_not, Bool.not_true, Bool.not_false, ne_eq, Decidable.not_not, Int.not_lt, Int.not_le] at h31
          refine Tr.skip (At.then_normal ?_)
          refine Tr.seq ?_
          refine Tr.region ?_
          refine TrL.assign rfl rfl ?_
          refine TrL.nil (At.then_normal ?_)
          refine Tr.ret (At.retP [diskH d m _ _] (.inl rfl) rfl (Res.tmp rfl Res.nil) (by repeat (first | exact Picks.nil | with_reducible exact Pick.here | with_reducible apply Pick.there | with_reducible apply Pick.app_nil | with_reducible apply Pick.app_cons | apply Picks.cons)) (by exact hK _ _ _ (by unfold doingF; grind)))

/-- what 'find' gives: the file's pointer or none, why not, the fuse and the power behind it -/
def findF (ok : Bool) (kv : List (ByteArray × Value)) (fuse : Int) (off : Bool) (name : ByteArray) : Value × Int × Int × Bool :=
  if (doingF ok fuse off).1 ≠ 0 then (.pointer none, doingF ok fuse off) else match look kv name with
    | none => (.pointer none, 3, (doingF ok fuse off).2)
    | some v => (v, 0, (doingF ok fuse off).2)
set_option maxHeartbeats 1000000 in
theorem find_spec {F : Hp} {K : Value → List HProp → Prop} {d m : Nat} {fuse : Int} {off : Bool} {p : Option Addr} {cap : Nat} {l : List ByteArray} {name : ByteArray} {kv : List (ByteArray × Value)} (hm : l.length ≤ 1000) (h64 : -9223372036854775808 ≤ fuse ∧ fuse ≤ 9223372036854775807)
    (hK : ∀ v e fu of, findF (l.all nameOk && nameOk name) kv fuse off name = (v, e, fu, of) → K (.tuple #[v, .int .i64 e]) [diskH d m fu of, mapC Value.string m kv]) :
    CallK Try.prog F 24 #[.pointer (some ⟨d, 0, none⟩), .string name, .slice p l.length cap] [diskH d m fuse off, mapC Value.string m kv, Own 9 1 encS p cap l] K := by
  refine CallK.enter Try.func24 rfl Try.ntmps24 rfl ?_
  refine Tr.seq ?_
  refine Tr.region ?_
  refine TrL.assign rfl rfl ?_
  refine TrL.assign rfl rfl ?_
  refine TrL.nil (At.then_normal ?_)
  refine Tr.seq ?_
  refine Tr.seq ?_
  refine Tr.region ?_
  refine TrL.move rfl rfl ?_
  refine TrL.move rfl rfl ?_
  refine TrL.move rfl rfl ?_
  refine TrL.buildSlF rfl rfl rfl se22 sz9 zc9 rfl rfl rfl (fun b14 => ?_)
  refine TrL.append1 rfl rfl se22 sz9 by9 zc9 rfl (by decide) (by repeat (first | with_reducible exact Pick.here | with_reducible apply Pick.there | with_reducible apply Pick.app_nil | with_reducible apply Pick.app_cons)) (by repeat (first | with_reducible exact Pick.here | with_reducible apply Pick.there | with_reducible apply Pick.app_nil | with_reducible apply Pick.app_cons)) (by rfl) (by rfl) (by rfl) (by rfl) (by decide) (by omega) (fun p15 cap15 => ?_)
  refine TrL.call rfl rfl rfl ca23 (by repeat (first | exact Picks.nil | with_reducible exact Pick.here | with_reducible apply Pick.there | with_reducible apply Pick.app_nil | with_reducible apply Pick.app_cons | apply Picks.cons)) (fun Ft16 hUt16 => doing_spec (Own.up hUt16 (by repeat (first | with_reducible exact Pick.here | with_reducible apply Pick.there | with_reducible apply Pick.app_nil | with_reducible apply Pick.app_cons)) (by decide) (fun _ => rfl)) (by simp only [List.length_append, List.length_cons, List.length_nil]; omega) h64 (fun e16 fu16 of16 hd16 => ?_))
  have hd16' : doingF (l.all nameOk && nameOk name) fuse off = (e16, fu16, of16) := by rw [← hd16]; simp
  refine TrL.assign rfl rfl ?_
  refine TrL.nil (At.then_normal ?_)
  refine Tr.seq ?_
  refine Tr.region ?_
  refine TrL.move rfl rfl ?_
  refine TrL.nei rfl rfl rfl ?_
  refine TrL.nil (At.then_normal ?_)
  refine Tr.cond rfl (fun h18 => ?_) (fun h18 => ?_)
  · try simp only [beq_iff_eq, beq_eq_false_iff_ne, Bool.not_eq_true, Bool.not_eq_false, decide_eq_true_eq, decide_eq_false_iff_not, Bool.not_eq_true', Bool.not_eq_false', bne_iff_ne, Bool.not_eq_eq_eq_not, Bool.not_true, Bool.not_false, ne_eq, Decidable.not_not, Int.not_lt, Int.not_le] at h18
    refine Tr.seq ?_
    refine Tr.region ?_
    refine TrL.move rfl rfl ?_
    refine TrL.assign rfl rfl ?_
    refine TrL.assign rfl rfl ?_
    refine TrL.nil (At.then_normal ?_)
    refine Tr.ret (At.then_ret (At.retP [diskH d m _ _, mapC Value.string m _] (.inl rfl) rfl (Res.tmp rfl (Res.tmp rfl Res.nil)) (by repeat (first | exact Picks.nil | with_reducible exact Pick.here | with_reducible apply Pick.there | with_reducible apply Pick.app_nil | with_reducible apply Pick.app_cons | apply Picks.cons)) (by exact hK _ _ _ _ (by unfold findF; rw [hd16']; grind))))
  · try simp only [beq_iff_eq, beq_eq_false_iff_ne, Bool.not_eq_true, Bool.not_eq_false, decide_eq_true_eq, decide_eq_false_iff_not, Bool.not_eq_true', Bool.not_eq_false', bne_iff_ne, Bool.not_eq_eq_eq_not, Bool.not_true, Bool.not_false, ne_eq, Decidable.not_not, Int.not_lt, Int.not_le] at h18
    refine Tr.skip (At.then_normal ?_)
    refine Tr.seq ?_
    refine Tr.region ?_
    refine TrL.move rfl rfl ?_
    refine TrL.nilCheck rfl rfl ?_
    refine TrL.field0 rfl rfl fl48_0 ?_
    refine TrL.load1 rfl rfl sc46 (Sees.cl1 (by repeat (first | with_reducible exact Pick.here | with_reducible apply Pick.there | with_reducible apply Pick.app_nil | with_reducible apply Pick.app_cons)) (by rfl)) ?_
    refine TrL.move rfl rfl ?_
    refine TrL.lookupOk (kf := Value.string) rfl rfl rfl (strKey st9) mp46 zv52 (by repeat (first | with_reducible exact Pick.here | with_reducible apply Pick.there | with_reducible apply Pick.app_nil | with_reducible apply Pick.app_cons)) rfl rfl ?_
    refine TrL.move rfl rfl ?_
    refine TrL.extract rfl rfl rfl ?_
    refine TrL.extract rfl rfl rfl ?_
    refine TrL.assign rfl rfl ?_
    refine TrL.assign rfl rfl ?_
    refine TrL.nil (At.then_normal ?_)
    refine Tr.seq ?_
    refine Tr.seq ?_
    refine Tr.region ?_
    refine TrL.move rfl rfl ?_
    refine TrL.not rfl rfl ?_
    refine TrL.nil (At.then_normal ?_)
    refine Tr.cond rfl (fun h30 => ?_) (fun h30 => ?_)
    · try simp only [beq_iff_eq, beq_eq_false_iff_ne, Bool.not_eq_true, Bool.not_eq_false, decide_eq_true_eq, decide_eq_false_iff_not, Bool.not_eq_true', Bool.not_eq_false', bne_iff_ne, Bool.not_eq_eq_eq_not, Bool.not_true, Bool.not_false, ne_eq, Decidable.not_not, Int.not_lt, Int.not_le] at h30
      refine Tr.seq ?_
      refine Tr.region ?_
      refine TrL.assign rfl rfl ?_
      refine TrL.assign rfl rfl ?_
      refine TrL.nil (At.then_normal ?_)
      refine Tr.ret (At.then_ret (At.retP [diskH d m _ _, mapC Value.string m _] (.inl rfl) rfl (Res.tmp rfl (Res.tmp rfl Res.nil)) (by repeat (first | exact Picks.nil | with_reducible exact Pick.here | with_reducible apply Pick.there | with_reducible apply Pick.app_nil | with_reducible apply Pick.app_cons | apply Picks.cons)) (by exact hK _ _ _ _ (by unfold findF; rw [hd16']; grind))))
    · try simp only [beq_iff_eq, beq_eq_false_iff_ne, Bool.not_eq_true, Bool.not_eq_false, decide_eq_true_eq, decide_eq_false_iff_not, Bool.not_eq_true', Bool.not_eq_false', bne_iff_ne, Bool.not_eq_eq_eq_not, Bool.not_true, Bool.not_false, ne_eq, Decidable.not_not, Int.not_lt, Int.not_le] at h30
      refine Tr.skip (At.then_normal ?_)
      refine Tr.seq ?_
      refine Tr.region ?_
      refine TrL.move rfl rfl ?_
      refine TrL.assign rfl rfl ?_
      refine TrL.assign rfl rfl ?_
      refine TrL.nil (At.then_normal ?_)
      refine Tr.ret (At.retP [diskH d m _ _, mapC Value.string m _] (.inl rfl) rfl (Res.tmp rfl (Res.tmp rfl Res.nil)) (by repeat (first | exact Picks.nil | with_reducible exact Pick.here | with_reducible apply Pick.there | with_reducible apply Pick.app_nil | with_reducible apply Pick.app_cons | apply Picks.cons)) (by exact hK _ _ _ _ (by unfold findF; rw [hd16']; grind)))
end Go.Proofs.Ytojfmielpjccdaa

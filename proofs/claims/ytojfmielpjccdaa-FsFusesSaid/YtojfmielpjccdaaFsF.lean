/-
  The law FsFuses, walked.
  No condition but those that each statement names.
-/
import Derived.Test.YtojfmielpjccdaaFsL
namespace Go.Proofs.Ytojfmielpjccdaa
set_option linter.unusedSimpArgs false
set_option linter.unusedVariables false
set_option linter.unusedSectionVars false
open Go.RowKit
variable [Obs]


/-- the i-th name -/
def nmF (i : Nat) : ByteArray := ⟨#[102, UInt8.ofNat (97 + i % 20), UInt8.ofNat (97 + i / 20)]⟩
def fsF (j : Nat) : List (ByteArray × (List UInt8 × Int)) := (List.range j).map fun i => (nmF i, ([], 0))
/-- the disk behind 'i' doings, the fuse being 'k' -/
def stF (k i : Nat) : DS := ⟨fsF (min i k), (k : Int) - (min i k : Nat), decide (k < i)⟩
theorem nmF_ok : ∀ i, i < 40 → nameOk (nmF i) = true := by decide +kernel
theorem nmF_ne : ∀ i, i < 40 → ∀ j, j < i → nmF j ≠ nmF i := by decide +kernel
theorem nmF_z : ∀ i, i < 40 → nmF i ≠ ⟨#[102, 122, 122]⟩ ∧ nmF i ≠ ⟨#[120]⟩ := by decide +kernel
theorem look_ne {κ β : Type} [DecidableEq κ] {l : List (κ × β)} {k : κ} (h : ∀ x ∈ l, x.1 ≠ k) : look l k = none := by
  cases e : look l k with
  | none => rfl
  | some v => exact (h _ (look_mem e) rfl).elim
theorem fsF_succ (j : Nat) : fsF (j + 1) = fsF j ++ [(nmF j, ([], 0))] := by simp [fsF, List.range_succ]
theorem fsF_none {j : Nat} {x : ByteArray} (h : ∀ i, i < j → nmF i ≠ x) : look (fsF j) x = none := look_ne fun y hy => by
  simp only [fsF, List.mem_map, List.mem_range] at hy
  obtain ⟨i, hi, rfl⟩ := hy
  exact h i hi
theorem putK_none {κ β : Type} [DecidableEq κ] {l : List (κ × β)} {k : κ} {v : β} (h : look l k = none) : putK l k v = l ++ [(k, v)] := by unfold putK; rw [look_none h]
theorem fsF_len (j : Nat) : (fsF j).length = j := by simp [fsF]
theorem makeF_st {k i : Nat} (hi : i < 40) : makeF (stF k i) (nmF i) = (if i < k then 0 else 50, stF k (i + 1)) := by
  unfold makeF stF
  by_cases h : i < k
  · have h1 : min i k = i := by omega
    have h2 : min (i + 1) k = i + 1 := by omega
    have h3 : ¬ k < i := by omega
    have h4 : ¬ k < i + 1 := by omega
    have h5 : ¬ (k : Int) - (i : Int) = 0 := by omega
    have h6 : 0 < (k : Int) - (i : Int) := by omega
    have hn : look (fsF i) (nmF i) = none := fsF_none fun j hj => nmF_ne i hi j hj
    have h7 : (k : Int) - ((i + 1 : Nat) : Int) = (k : Int) - (i : Int) - 1 := by omega
    have h8 : ¬ 256 ≤ i := by omega
    simp only [h1, h2, h3, h4, h7, nmF_ok i hi, doingF, h5, h6, hn, putK_none hn, fsF_succ, fsF_len]
    simp [h, h5, h6, h8]
  · have h1 : min i k = k := by omega
    have h2 : min (i + 1) k = k := by omega
    have h4 : k < i + 1 := by omega
    simp only [h1, h2, h4, nmF_ok i hi, doingF]
    simp [h]
theorem stF_ok {k i : Nat} (hk : k < 50) : (stF k i).ok := by unfold DS.ok stF; simp only; omega
theorem stF_good {k i : Nat} (hi : i ≤ 40) : (stF k i).good := by
  refine ⟨by show (fsF _).length ≤ _; rw [fsF_len]; omega, fun x hx => ?_⟩
  have hx : x ∈ fsF (min i k) := hx
  simp only [fsF, List.mem_map, List.mem_range] at hx
  obtain ⟨j, hj, rfl⟩ := hx
  exact ⟨by show (3 : Nat) ≤ 1000; decide, by simp, by simp, by simp⟩
theorem readF_st {k i : Nat} (hi : i ≤ 40) : readF (stF k i) ⟨#[102, 122, 122]⟩ = (⟨#[]⟩, if k < i then 50 else 3) := by
  have h1 : nameOk ⟨#[102, 122, 122]⟩ = true := by decide
  have h2 : look (fsF (min i k)) ⟨#[102, 122, 122]⟩ = none := fsF_none fun j hj => (nmF_z j (by omega)).1
  unfold readF stF
  by_cases h : k < i <;> simp [h, h1, h2]
theorem crashF_same {l : List ByteArray} : ∀ {k : Nat} {fs : List (ByteArray × (List UInt8 × Int))}, (∀ x ∈ fs, x.2 = ([], 0)) → crashF [] l k fs = fs := by
  induction l with
  | nil => intros; rfl
  | cons a l ih =>
    intro k fs h
    unfold crashF
    cases e : look fs a with
    | none => exact ih h
    | some b =>
      have hb : b = ([], 0) := h _ (look_mem e)
      subst hb
      have : cutF [] k ([], 0) = ([], 0) := by rw [cutF_nil (by omega) (by simp)]; rfl
      simp only [this, putK_same e]
      exact ih h
theorem crashF_st {l : List ByteArray} {k i : Nat} : crashF [] l 0 (stF k i).fs = fsF (min i k) := by
  refine crashF_same (fs := fsF (min i k)) fun x hx => ?_
  simp only [fsF, List.mem_map, List.mem_range] at hx
  obtain ⟨j, hj, rfl⟩ := hx
  rfl
theorem u8_of {m : Nat} (h : m < 100) : IntKind.u8.wrap (97 + (m : Int)) = ((UInt8.ofNat (97 + m)).toNat : Int) := by
  have h1 : (UInt8.ofNat (97 + m)).toNat = 97 + m := by rw [UInt8.toNat_ofNat']; omega
  rw [h1]
  simp [IntKind.wrap, IntKind.signed, IntKind.bits]
  omega
theorem nmF_eq (i : Nat) : (⟨#[102]⟩ : ByteArray) ++ strOf [UInt8.ofNat (97 + i % 20), UInt8.ofNat (97 + i / 20)] = nmF i := by
  apply ByteArray.ext; simp [strOf, nmF]
theorem small_of {a : Int} {m : Int} (h : 0 < m) (h0 : 0 ≤ a) : ∃ n : Nat, a.tmod m = (n : Int) ∧ (n : Int) < m := by
  refine ⟨(a.tmod m).toNat, (Int.toNat_of_nonneg (Int.tmod_nonneg _ h0)).symm, ?_⟩
  rw [Int.toNat_of_nonneg (Int.tmod_nonneg _ h0)]
  exact Int.tmod_lt_of_pos _ h


set_option maxHeartbeats 2000000 in
theorem FsFuses_spec {F : Hp} {K : Value → List HProp → Prop} {many fuse : Int} (hK : K (.bool true) []) : CallK Try.prog F 5 #[.int .i64 many, .int .i64 fuse] [] K := by
  refine CallK.enter Try.func5 rfl Try.ntmps5 rfl ?_
  refine Tr.seq ?_
  refine Tr.region ?_
  refine TrL.assign rfl rfl ?_
  refine TrL.nil (At.then_normal ?_)
  refine Tr.seq ?_
  refine Tr.region ?_
  refine TrL.call rfl rfl rfl ca8 .nil (fun Ft12 hUt12 => New_spec (fun d => ?_))
  refine TrL.assign rfl rfl ?_
  refine TrL.nil (At.then_normal ?_)
  refine Tr.seq ?_
  refine Tr.region ?_
  refine TrL.move rfl rfl ?_
  refine TrL.and rfl rfl rfl ?_
  refine TrL.rem rfl rfl rfl (by omega) ?_
  obtain ⟨nn, hnn, hnlt⟩ := small_of (m := 40) (by omega) (andI_le (a := many) (b := 255) (by omega) (by omega)).1
  rw [hnn]
  refine TrL.move rfl rfl ?_
  refine TrL.and rfl rfl rfl ?_
  refine TrL.rem rfl rfl rfl (by omega) ?_
  obtain ⟨kk, hkk, hklt⟩ := small_of (m := 50) (by omega) (andI_le (a := fuse) (b := 255) (by omega) (by omega)).1
  rw [hkk]
  refine TrL.assign rfl rfl ?_
  refine TrL.assign rfl rfl ?_
  refine TrL.nil (At.then_normal ?_)
  refine Tr.seq ?_
  refine Tr.seq ?_
  refine Tr.region ?_
  refine TrL.move rfl rfl ?_
  refine TrL.eqpSome rfl rfl rfl pp24 ?_
  refine TrL.move rfl rfl ?_
  refine TrL.want rfl rfl ?_
  refine TrL.move rfl rfl ?_
  refine TrL.want rfl rfl ?_
  refine TrL.move rfl rfl ?_
  refine TrL.want rfl rfl ?_
  refine TrL.call rfl rfl rfl ca16 (by repeat (first | exact Picks.nil | with_reducible exact Pick.here | with_reducible apply Pick.there | with_reducible apply Pick.app_nil | with_reducible apply Pick.app_cons | apply Picks.cons)) (fun Ft24 hUt24 => Fuse_spec ?_)
  refine TrL.want rfl rfl ?_
  refine TrL.nei rfl rfl rfl ?_
  refine TrL.knownB (t := 25) (c := false) rfl (by simp) ?_
  refine TrL.pickF rfl rfl rfl ?_
  refine TrL.nil (At.then_normal ?_)
  refine Tr.condF rfl ?_
  refine Tr.skip (At.then_normal ?_)
  refine Tr.seq ?_
  refine Tr.seq ?_
  have e0 : (⟨[], max (kk : Int) (-1), false⟩ : DS) = stF kk 0 := by
    have hm : max (kk : Int) (-1) = kk := by omega
    unfold stF; rw [hm]; simp [fsF]
  rw [e0]
  refine Tr.region ?_
  refine TrL.assign rfl rfl ?_
  refine TrL.nil (At.then_normal ?_)
  refine Tr.block ?_
  refine Tr.loopK [5, 6, 7] (α := Nat) (fun i => [(8, .int .i64 (i : Int))]) (fun i => [diskC d (stF kk i)]) (fun i => i ≤ nn) (fun i => nn - i) (0) (by rfl) ?_ (by repeat (first | exact Sub.nil | refine Sub.cons (by rfl) ?_)) (by repeat (first | exact Picks.nil | with_reducible exact Pick.here | with_reducible apply Pick.there | with_reducible apply Pick.app_nil | with_reducible apply Pick.app_cons | apply Picks.cons)) ?_
  · exact Nat.zero_le _
  rintro i hi
  refine Tr.seq ?_
  refine Tr.seq ?_
  refine Tr.region ?_
  refine TrL.move rfl rfl ?_
  refine TrL.move rfl rfl ?_
  refine TrL.lss rfl rfl rfl ?_
  refine TrL.nil (At.then_normal ?_)
  refine Tr.cond rfl (fun h29 => ?_) (fun h29 => ?_)
  · try simp only [beq_iff_eq, beq_eq_false_iff_ne, Bool.not_eq_true, Bool.not_eq_false, decide_eq_true_eq, decide_eq_false_iff_not, Bool.not_eq_true', Bool.not_eq_false', bne_iff_ne, Bool.not_eq_eq_eq_not, Bool.not_true, Bool.not_false, ne_eq, Decidable.not_not, Int.not_lt, Int.not_le] at h29
    refine Tr.skip (At.then_normal ?_)
    refine Tr.seq ?_
    refine Tr.block ?_
    refine Tr.seq ?_
    refine Tr.region ?_
    refine TrL.move rfl rfl ?_
    refine TrL.move rfl rfl ?_
    refine TrL.rem rfl rfl rfl (by omega) ?_
    rw [show Int.tmod (i : Int) 20 = ((i % 20 : Nat) : Int) from (Int.ofNat_tmod _ _).symm]
    refine TrL.addI rfl rfl rfl (by omega) ?_
    refine TrL.convI rfl rfl sc3 in5 ?_
    refine TrL.move rfl rfl ?_
    refine TrL.quo rfl rfl rfl (by omega) ?_
    rw [show Int.tdiv (i : Int) 20 = ((i / 20 : Nat) : Int) from (Int.ofNat_tdiv _ _).symm, wrap_i64 (by omega)]
    refine TrL.addI rfl rfl rfl (by omega) ?_
    refine TrL.convI rfl rfl sc3 in5 ?_
    rw [u8_of (by omega), u8_of (by omega)]
    refine TrL.buildSlF rfl rfl rfl se39 sz5 zc5 rfl rfl rfl (fun b41 => ?_)
    refine TrL.toOwn (b := b41) 1 encB [UInt8.ofNat (97 + i % 20), UInt8.ofNat (97 + i / 20)] (len := 2) (by repeat (first | with_reducible exact Pick.here | with_reducible apply Pick.there | with_reducible apply Pick.app_nil | with_reducible apply Pick.app_cons)) (by rfl) (by rfl) (by rfl) rfl ?_
    refine TrL.convBSo rfl rfl se39 in5 st9 (by repeat (first | with_reducible exact Pick.here | with_reducible apply Pick.there | with_reducible apply Pick.app_nil | with_reducible apply Pick.app_cons)) (by rfl) ?_
    refine TrL.adds rfl rfl rfl (by show 1 + 2 ≤ 9223372036854775807; decide) ?_
    rw [nmF_eq]
    refine TrL.call rfl rfl rfl ca10 (by repeat (first | exact Picks.nil | with_reducible exact Pick.here | with_reducible apply Pick.there | with_reducible apply Pick.app_nil | with_reducible apply Pick.app_cons | apply Picks.cons)) (fun Ft44 hUt44 => Make_at (e := if i < kk then 0 else 50) (S' := stF kk (i + 1)) (stF_ok (by omega)) (makeF_st (by omega)) ?_)
    refine TrL.assign rfl rfl ?_
    refine TrL.nil (At.then_normal ?_)
    refine Tr.seq ?_
    refine Tr.region ?_
    refine TrL.move rfl rfl ?_
    refine TrL.move rfl rfl ?_
    refine TrL.lss rfl rfl rfl ?_
    refine TrL.move rfl rfl ?_
    refine TrL.cases (t := 48) rfl (fun h48 => ?_) (fun h48 => ?_)
    · try simp only [beq_iff_eq, beq_eq_false_iff_ne, Bool.not_eq_true, Bool.not_eq_false, decide_eq_true_eq, decide_eq_false_iff_not, Bool.not_eq_true', Bool.not_eq_false', bne_iff_ne, Bool.not_eq_eq_eq_not, Bool.not_true, Bool.not_false, ne_eq, Decidable.not_not, Int.not_lt, Int.not_le] at h48
      refine TrL.want rfl rfl ?_
      refine TrL.move rfl rfl ?_
      refine TrL.want rfl rfl ?_
      refine TrL.nei rfl rfl rfl ?_
      refine TrL.knownB (t := 50) (c := false) rfl (by rw [if_pos (by omega)]; decide) ?_
      refine TrL.pickT rfl rfl rfl ?_
      refine TrL.move rfl rfl ?_
      refine TrL.want rfl rfl ?_
      refine TrL.move rfl rfl ?_
      refine TrL.want rfl rfl ?_
      refine TrL.move rfl rfl ?_
      refine TrL.want rfl rfl ?_
      refine TrL.geq rfl rfl rfl ?_
      refine TrL.knownB (t := 55) (c := false) rfl (by simp; omega) ?_
      refine TrL.want rfl rfl ?_
      refine TrL.move rfl rfl ?_
      refine TrL.unwant rfl rfl rfl ?_
      refine TrL.unwant rfl rfl rfl ?_
      refine TrL.want rfl rfl ?_
      refine TrL.pickF rfl rfl rfl ?_
      refine TrL.pickF rfl rfl rfl ?_
      refine TrL.nil (At.then_normal ?_)
      refine Tr.condF rfl ?_
      refine Tr.skip (At.block_normal (At.then_normal ?_))
      refine Tr.region ?_
      refine TrL.move rfl rfl ?_
      refine TrL.addI rfl rfl rfl (by omega) ?_
      refine TrL.assign rfl rfl ?_
      refine TrL.nil ?_
      refine At.again (i + 1) (by omega) (by omega) (by repeat (first | exact Sub.nil | refine Sub.cons (by rfl) ?_)) (by repeat (first | exact Picks.nil | with_reducible exact Pick.here | with_reducible apply Pick.there | with_reducible apply Pick.app_nil | with_reducible apply Pick.app_cons | apply Picks.cons))
    · try simp only [beq_iff_eq, beq_eq_false_iff_ne, Bool.not_eq_true, Bool.not_eq_false, decide_eq_true_eq, decide_eq_false_iff_not, Bool.not_eq_true', Bool.not_eq_false', bne_iff_ne, Bool.not_eq_eq_eq_not, Bool.not_true, Bool.not_false, ne_eq, Decidable.not_not, Int.not_lt, Int.not_le] at h48
      refine TrL.unwant rfl rfl rfl ?_
      refine TrL.unwant rfl rfl rfl ?_
      refine TrL.pickF rfl rfl rfl ?_
      refine TrL.move rfl rfl ?_
      refine TrL.want rfl rfl ?_
      refine TrL.move rfl rfl ?_
      refine TrL.want rfl rfl ?_
      refine TrL.move rfl rfl ?_
      refine TrL.want rfl rfl ?_
      refine TrL.geq rfl rfl rfl ?_
      refine TrL.knownB (t := 55) (c := true) rfl (by simp; omega) ?_
      refine TrL.want rfl rfl ?_
      refine TrL.move rfl rfl ?_
      refine TrL.want rfl rfl ?_
      refine TrL.move rfl rfl ?_
      refine TrL.want rfl rfl ?_
      refine TrL.nei rfl rfl rfl ?_
      refine TrL.knownB (t := 58) (c := false) rfl (by rw [if_neg (by omega)]; decide) ?_
      refine TrL.want rfl rfl ?_
      refine TrL.pickT rfl rfl rfl ?_
      refine TrL.pickF rfl rfl rfl ?_
      refine TrL.nil (At.then_normal ?_)
      refine Tr.condF rfl ?_
      refine Tr.skip (At.block_normal (At.then_normal ?_))
      refine Tr.region ?_
      refine TrL.move rfl rfl ?_
      refine TrL.addI rfl rfl rfl (by omega) ?_
      refine TrL.assign rfl rfl ?_
      refine TrL.nil ?_
      refine At.again (i + 1) (by omega) (by omega) (by repeat (first | exact Sub.nil | refine Sub.cons (by rfl) ?_)) (by repeat (first | exact Picks.nil | with_reducible exact Pick.here | with_reducible apply Pick.there | with_reducible apply Pick.app_nil | with_reducible apply Pick.app_cons | apply Picks.cons))
  · try simp only [beq_iff_eq, beq_eq_false_iff_ne, Bool.not_eq_true, Bool.not_eq_false, decide_eq_true_eq, decide_eq_false_iff_not, Bool.not_eq_true', Bool.not_eq_false', bne_iff_ne, Bool.not_eq_eq_eq_not, Bool.not_true, Bool.not_false, ne_eq, Decidable.not_not, Int.not_lt, Int.not_le] at h29
    refine Tr.exit (At.then_exit (At.then_exit (At.block_hit (At.then_normal ?_))))
    refine Tr.seq ?_
    have hin : nn = i := by omega
    subst hin
    refine Tr.region ?_
    refine TrL.move rfl rfl ?_
    refine TrL.call rfl rfl rfl ca14 (by repeat (first | exact Picks.nil | with_reducible exact Pick.here | with_reducible apply Pick.there | with_reducible apply Pick.app_nil | with_reducible apply Pick.app_cons | apply Picks.cons)) (fun Ft63 hUt63 => Read_at (v := ⟨#[]⟩) (e := if kk < nn then 50 else 3) (stF_ok (by omega)) (readF_st (by omega)) ?_)
    refine TrL.move rfl rfl ?_
    refine TrL.extract rfl rfl rfl ?_
    refine TrL.extract rfl rfl rfl ?_
    refine TrL.assign rfl rfl ?_
    refine TrL.assign rfl rfl ?_
    refine TrL.nil (At.then_normal ?_)
    refine Tr.seq ?_
    refine Tr.seq ?_
    refine Tr.region ?_
    refine TrL.move rfl rfl ?_
    refine TrL.call rfl rfl rfl ca17 (by repeat (first | exact Picks.nil | with_reducible exact Pick.here | with_reducible apply Pick.there | with_reducible apply Pick.app_nil | with_reducible apply Pick.app_cons | apply Picks.cons)) (fun Ft67 hUt67 => Off_spec ?_)
    refine TrL.move rfl rfl ?_
    refine TrL.move rfl rfl ?_
    refine TrL.gtr rfl rfl rfl ?_
    refine TrL.neb rfl rfl rfl bo4 ?_
    refine TrL.knownB (t := 71) (c := false) rfl (by simp [stF]) ?_
    refine TrL.move rfl rfl ?_
    refine TrL.want rfl rfl ?_
    refine TrL.move rfl rfl ?_
    refine TrL.want rfl rfl ?_
    refine TrL.call rfl rfl rfl ca18 (by repeat (first | exact Picks.nil | with_reducible exact Pick.here | with_reducible apply Pick.there | with_reducible apply Pick.app_nil | with_reducible apply Pick.app_cons | apply Picks.cons)) (fun Ft74 hUt74 => Names_any (stF_good (by omega)) (fun pt74 capt74 lt74 hpt74 _ => ?_))
    have hlen : lt74.length = min nn kk := by rw [hpt74.length_eq, List.length_map]; exact fsF_len _
    refine TrL.want rfl rfl ?_
    refine TrL.lenl rfl rfl se22 ?_
    refine TrL.want rfl rfl ?_
    refine TrL.move rfl rfl ?_
    refine TrL.want rfl rfl ?_
    refine TrL.move rfl rfl ?_
    refine TrL.want rfl rfl ?_
    refine TrL.min2 rfl rfl ?_
    refine TrL.want rfl rfl ?_
    refine TrL.nei rfl rfl rfl ?_
    refine TrL.knownB (t := 79) (c := false) rfl (by simp [hlen]; omega) ?_
    refine TrL.pickF rfl rfl rfl ?_
    refine TrL.move rfl rfl ?_
    refine TrL.want rfl rfl ?_
    refine TrL.move rfl rfl ?_
    refine TrL.want rfl rfl ?_
    refine TrL.eqi rfl rfl rfl ?_
    refine TrL.want rfl rfl ?_
    refine TrL.move rfl rfl ?_
    refine TrL.want rfl rfl ?_
    refine TrL.move rfl rfl ?_
    refine TrL.want rfl rfl ?_
    refine TrL.gtr rfl rfl rfl ?_
    refine TrL.want rfl rfl ?_
    refine TrL.neb rfl rfl rfl bo4 ?_
    refine TrL.knownB (t := 87) (c := false) rfl (by by_cases hc : kk < nn <;> simp [hc]) ?_
    refine TrL.pickF rfl rfl rfl ?_
    refine TrL.nil (At.then_normal ?_)
    refine Tr.condF rfl ?_
    refine Tr.skip (At.then_normal ?_)
    refine Tr.seq ?_
    have hmx : makeF ⟨fsF (min nn kk), -1, false⟩ ⟨#[120]⟩ = (0, ⟨fsF (min nn kk) ++ [(⟨#[120]⟩, ([], 0))], -1, false⟩) := by
      have hnone : look (fsF (min nn kk)) ⟨#[120]⟩ = none := fsF_none fun j hj => (nmF_z j (by omega)).2
      rw [makeF_ok (by decide) hnone (by rw [fsF_len]; omega), putK_none hnone]
    have hgx : DS.good ⟨fsF (min nn kk) ++ [(⟨#[120]⟩, ([], 0))], -1, false⟩ := by
      refine ⟨by simp only [List.length_append, fsF_len, List.length_cons, List.length_nil]; omega, fun x hx => ?_⟩
      rcases List.mem_append.1 hx with hx | hx
      · exact (stF_good (k := kk) (i := nn) (by omega)).2 x hx
      · simp only [List.mem_singleton] at hx; subst hx; exact ⟨by show (1 : Nat) ≤ 1000; decide, by simp, by simp, by simp⟩
    refine Tr.region ?_
    refine TrL.move rfl rfl ?_
    refine TrL.call rfl rfl rfl ca13 (by repeat (first | exact Picks.nil | with_reducible exact Pick.here | with_reducible apply Pick.there | with_reducible apply Pick.app_nil | with_reducible apply Pick.app_cons | apply Picks.cons)) (fun Ft90 hUt90 => Crash_spec (keep := []) (stF_good (by omega)) (.inl rfl) (by simp) (fun lt90 _ _ => ?_))
    rw [crashF_st]
    refine TrL.eqi rfl rfl rfl ?_
    refine TrL.knownB (t := 91) (c := true) rfl (by simp) ?_
    refine TrL.move rfl rfl ?_
    refine TrL.want rfl rfl ?_
    refine TrL.move rfl rfl ?_
    refine TrL.want rfl rfl ?_
    refine TrL.call rfl rfl rfl ca17 (by repeat (first | exact Picks.nil | with_reducible exact Pick.here | with_reducible apply Pick.there | with_reducible apply Pick.app_nil | with_reducible apply Pick.app_cons | apply Picks.cons)) (fun Ft94 hUt94 => Off_spec ?_)
    refine TrL.want rfl rfl ?_
    refine TrL.not rfl rfl ?_
    refine TrL.knownB (t := 95) (c := true) rfl (by simp) ?_
    refine TrL.pickT rfl rfl rfl ?_
    refine TrL.move rfl rfl ?_
    refine TrL.want rfl rfl ?_
    refine TrL.move rfl rfl ?_
    refine TrL.want rfl rfl ?_
    refine TrL.call rfl rfl rfl ca10 (by repeat (first | exact Picks.nil | with_reducible exact Pick.here | with_reducible apply Pick.there | with_reducible apply Pick.app_nil | with_reducible apply Pick.app_cons | apply Picks.cons)) (fun Ft99 hUt99 => Make_at (e := 0) (S' := ⟨fsF (min nn kk) ++ [(⟨#[120]⟩, ([], 0))], -1, false⟩) okm hmx ?_)
    refine TrL.want rfl rfl ?_
    refine TrL.eqi rfl rfl rfl ?_
    refine TrL.knownB (t := 100) (c := true) rfl (by simp) ?_
    refine TrL.pickT rfl rfl rfl ?_
    refine TrL.move rfl rfl ?_
    refine TrL.want rfl rfl ?_
    refine TrL.move rfl rfl ?_
    refine TrL.want rfl rfl ?_
    refine TrL.call rfl rfl rfl ca18 (by repeat (first | exact Picks.nil | with_reducible exact Pick.here | with_reducible apply Pick.there | with_reducible apply Pick.app_nil | with_reducible apply Pick.app_cons | apply Picks.cons)) (fun Ft104 hUt104 => Names_any hgx (fun pt104 capt104 lt104 hpt104 _ => ?_))
    have hlen2 : lt104.length = min nn kk + 1 := by rw [hpt104.length_eq, List.length_map, List.length_append, fsF_len]; rfl
    refine TrL.want rfl rfl ?_
    refine TrL.lenl rfl rfl se22 ?_
    refine TrL.want rfl rfl ?_
    refine TrL.move rfl rfl ?_
    refine TrL.want rfl rfl ?_
    refine TrL.move rfl rfl ?_
    refine TrL.want rfl rfl ?_
    refine TrL.min2 rfl rfl ?_
    refine TrL.want rfl rfl ?_
    refine TrL.addI rfl rfl rfl (by omega) ?_
    refine TrL.want rfl rfl ?_
    refine TrL.eqi rfl rfl rfl ?_
    refine TrL.knownB (t := 110) (c := true) rfl (by simp [hlen2]; omega) ?_
    refine TrL.pickT rfl rfl rfl ?_
    refine TrL.move rfl rfl ?_
    refine TrL.want rfl rfl ?_
    refine TrL.call rfl rfl rfl ca9 .nil (fun Ft113 hUt113 => awake_spec ?_)
    refine TrL.pickT rfl rfl rfl ?_
    refine TrL.assign rfl rfl ?_
    refine TrL.nil (At.then_normal ?_)
    refine Tr.ret (At.retP [] (.inl rfl) rfl (Res.tmp rfl Res.nil) (by repeat (first | exact Picks.nil | with_reducible exact Pick.here | with_reducible apply Pick.there | with_reducible apply Pick.app_nil | with_reducible apply Pick.app_cons | apply Picks.cons)) (by exact hK))
end Go.Proofs.Ytojfmielpjccdaa

/-
  The contracts of maps.Keys and slices.Sorted at this program's maps, in the form of symbolic execution.
  No condition but those that each statement names.
-/
import Derived.Test.YtojfmielpjccdaaKeysL
import Derived.Test.YtojfmielpjccdaaSxTy
import Derived.Test.YtojfmielpjccdaaSxKit
namespace Go.Proofs.Ytojfmielpjccdaa
set_option linter.unusedSimpArgs false
set_option linter.unusedVariables false
set_option linter.unusedSectionVars false
open Go.RowKit Go.Maps Go.Sort Go.Shelf
variable [Obs]

theorem keys_spec {F : Hp} {K : Value → List HProp → Prop} {mb : Option Nat} (hK : ∀ b, K (.func (.func 33) #[] #[.pointer (some ⟨b, 0, none⟩)]) [cl b [.map mb] 46]) : CallK Try.prog F 28 #[.map mb] [] K := by
  intro w s
  refine ((callsIn_wide (n := 5)).1 (AnyZ.keys_in Try.keys28 Fence.wide 5 trivial rfl mb w)).mono ?_
  rintro e w' ⟨rfl, rfl⟩
  exact ⟨_, _, rfl, hK w.heap.size, s.alloc _⟩

omit [Obs] in
theorem sorts27 (m : Nat) : AnyZ.SortsIn Try.prog Try.sorted27_ren Fence.wide m :=
  ⟨fun blk off cap ss W hH hblk hsz => callsIn_wide.2 (AnyM.slices_Sort_string Try.sort32 blk off cap ss W hH hblk hsz), fun p cap W => callsIn_wide.2 (AnyM.slices_Sort_string_none Try.sort32 p cap W)⟩

omit [Obs] in
theorem le_blt {x y : List UInt8} : x ≤ y ↔ Op.bytesLess y x = false := by
  show ¬ y < x ↔ _
  have key : ∀ a b : List UInt8, a < b ↔ Op.bytesLess a b = true := by
    intro a
    induction a with
    | nil => intro b; cases b <;> simp [Op.bytesLess]
    | cons u a ih => intro b; cases b with
      | nil => simp [Op.bytesLess]
      | cons v b => rw [List.cons_lt_cons_iff, ih]; simp [Op.bytesLess]
  rw [key]; simp
omit [Obs] in
theorem sorted_str (l : List (List UInt8)) : (l.mergeSort (fun x y => decide (x ≤ y))).Pairwise (fun x y => Op.bytesLess y x = false) := by
  have h := List.pairwise_mergeSort (le := fun x y : List UInt8 => decide (x ≤ y)) (by
    intro a b c h1 h2
    simp only [decide_eq_true_eq, le_blt] at *
    rcases bytesLess_tri a b with h | h | h
    · rcases bytesLess_tri b c with k | k | k
      · cases e : Op.bytesLess c a with
        | false => rfl
        | true => have := bytesLess_trans (bytesLess_trans e h) k; rw [bytesLess_irrefl] at this; cases this
      · subst k; exact h1
      · rw [h2] at k; cases k
    · subst h; exact h2
    · rw [h1] at h; cases h) (by
    intro a b
    simp only [Bool.or_eq_true, decide_eq_true_eq, le_blt]
    cases e : Op.bytesLess b a with
    | false => exact .inl rfl
    | true =>
      refine .inr ?_
      cases k : Op.bytesLess a b with
      | false => rfl
      | true => have := bytesLess_trans e k; rw [bytesLess_irrefl] at this; cases this) l
  refine h.imp ?_
  intro a b hab
  exact le_blt.1 (of_decide_eq_true hab)

/-- rising: each one is less than what follows -/
def Rising (l : List ByteArray) : Prop := l.Pairwise fun x y => blt x y = true

set_option maxHeartbeats 1000000 in
theorem sorted_spec {F : Hp} {K : Value → List HProp → Prop} {Bm m : Nat} {kv : List (ByteArray × Value)} (hn : ∀ x ∈ kv, x.1.size ≤ maxLen) (hl : kv.length ≤ 1000000)
    (hK : ∀ p cap l, l.Perm (kv.map (·.1)) → Rising l → K (.slice p l.length cap) [Own 9 1 encS p cap l, cl Bm [.map (some m)] 46, mapC Value.string m kv]) :
    CallK Try.prog F 27 #[.func (.func 33) #[] #[.pointer (some ⟨Bm, 0, none⟩)]] [cl Bm [.map (some m)] 46, mapC Value.string m kv] K := by
  intro w s
  have hcell : w.cell? ⟨Bm, 0, none⟩ = some (.map (some m)) := (Sees.cl1 .here (by rfl) w s).cell (j := 0) rfl
  have hB : Bm < w.heap.size := (Array.getElem?_eq_some_iff.1 (s.pt_at .here)).1
  obtain ⟨h, hc, hle⟩ := s.chunk (.there .here)
  have hm7 : (7 : Nat) ≤ maxLen := by decide
  obtain ⟨D0, hown, hperm, hsz⟩ := mapC.owns st9 hn (Nat.le_trans hl (by decide)) hc hle
  have hnd := mapC.nodup (P := Try.prog) (strKey st9) hc
  have hseq : SeqGives Fence.wide 2 Try.prog 33 #[.pointer (some ⟨Bm, 0, none⟩)] encStr (fun ss => ss.Perm (strKeys D0)) (Maps.size D0) w :=
    AnyZ.keys_gives (ρ := Try.keys28_ren) { Try.keys28 with } Fence.wide _ trivial rfl (by omega) Bm m kv.length D0 _ hB hcell hown
  have hs := AnyZ.sorted_in Try.sorted27 Fence.wide 5 trivial trivial trivial trivial rfl (by omega) (sorts27 _) (enters_of Try.func32 (by kernel_rfl) rfl) 33 #[.pointer (some ⟨Bm, 0, none⟩)] trivial
    (enters_of Try.func33 (by kernel_rfl) rfl) _ _ (by rw [hsz]; exact Nat.le_trans hl (by decide)) (by rw [hsz]; omega) _ hseq
  refine ((callsIn_wide (n := 5)).1 hs).mono ?_
  rintro e w' ⟨v, ss, rfl, hS, hrow, _, hb⟩
  have hlen : ss.length = ((ss.mergeSort (fun x y => decide (x ≤ y))).map strOf).length := by simp
  have hx : (ss.mergeSort (fun x y => decide (x ≤ y))).map encStr = ((ss.mergeSort (fun x y => decide (x ≤ y))).map strOf).flatMap encS := by
    rw [show encS = fun x => [Value.string x] from rfl, flatMap_single, List.map_map]; rfl
  obtain ⟨p, cap, rfl, s'⟩ := s.newRow hb (Nat.le_refl _) hlen hx hrow
  have hp : ((ss.mergeSort (fun x y => decide (x ≤ y))).map strOf).Perm (kv.map (·.1)) := by
    have := (((List.mergeSort_perm ss (fun x y => decide (x ≤ y))).trans hS).trans hperm).map strOf
    rw [List.map_map] at this
    rw [show (strOf ∘ fun x : ByteArray × Value => x.1.data.toList) = fun x => x.1 from funext fun x => strOf_data x.1] at this
    exact this
  refine ⟨_, _, rfl, hK p cap _ hp ?_, s'⟩
  have hnd2 := hp.nodup_iff.2 hnd
  rw [List.Nodup, List.pairwise_map] at hnd2
  unfold Rising
  rw [List.pairwise_map]
  refine List.Pairwise.imp₂ ?_ hnd2 (sorted_str ss)
  intro a b h1 h2
  show Op.bytesLess _ _ = true
  simp only [strOf, List.toList_toArray]
  rcases bytesLess_tri a b with h | h | h
  · exact h
  · subst h; exact (h1 rfl).elim
  · rw [h2] at h; cases h
end Go.Proofs.Ytojfmielpjccdaa

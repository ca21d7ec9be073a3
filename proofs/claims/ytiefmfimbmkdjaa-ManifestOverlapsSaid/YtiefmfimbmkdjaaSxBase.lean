/-
  A small separation logic over the kit's machine: heaplets, chunks, states, and symbolic execution of a function's code over a list of known slots.
  No condition; plain lemmas that every later text uses.
-/
import Derived.WalkKit
namespace Go.Proofs.Ytiefmfimbmkdjaa
set_option linter.unusedSimpArgs false
set_option linter.unusedVariables false
set_option linter.unusedSectionVars false
open Go.RowKit

/-! ### heaplets -/
abbrev Hp := Nat → Option Obj
def Hp.le (f g : Hp) : Prop := ∀ b o, f b = some o → g b = some o
def Hp.dj (f g : Hp) : Prop := ∀ b o, f b = some o → g b = none
def Hp.un (f g : Hp) : Hp := fun b => match f b with | some o => some o | none => g b
def hpOf (w : World) : Hp := fun b => w.heap[b]?

theorem Hp.le.refl (f : Hp) : Hp.le f f := fun _ _ h => h
theorem Hp.le.trans {f g h : Hp} (a : Hp.le f g) (b : Hp.le g h) : Hp.le f h := fun x o e => b x o (a x o e)
theorem Hp.dj.symm {f g : Hp} (a : Hp.dj f g) : Hp.dj g f := fun b o h => by
  cases e : f b with
  | none => rfl
  | some o' => rw [a b o' e] at h; cases h
theorem Hp.dj.mono {f g f' g' : Hp} (a : Hp.dj f g) (h1 : Hp.le f' f) (h2 : Hp.le g' g) : Hp.dj f' g' := fun b o h => by
  have h3 := a b o (h1 b o h)
  cases e : g' b with
  | none => rfl
  | some o' => rw [h2 b o' e] at h3; cases h3
theorem Hp.le_un_left (f g : Hp) : Hp.le f (Hp.un f g) := fun b o h => by simp [Hp.un, h]
theorem Hp.le_un_right {f g : Hp} (d : Hp.dj f g) : Hp.le g (Hp.un f g) := fun b o h => by simp [Hp.un, d.symm b o h, h]
theorem Hp.un_le {f g h : Hp} (a : Hp.le f h) (b : Hp.le g h) : Hp.le (Hp.un f g) h := fun x o e => by
  unfold Hp.un at e
  cases k : f x with
  | none => rw [k] at e; exact b x o e
  | some o' => rw [k] at e; simp only at e; cases e; exact a x o k
theorem Hp.un_some {f g : Hp} {b : Nat} {o : Obj} (h : Hp.un f g b = some o) : f b = some o ∨ g b = some o := by
  unfold Hp.un at h
  cases k : f b with
  | none => rw [k] at h; exact .inr h
  | some o' => rw [k] at h; simp only at h; exact .inl h
theorem Hp.dj_un {f g h : Hp} (a : Hp.dj f h) (b : Hp.dj g h) : Hp.dj (Hp.un f g) h := fun x o e => by
  rcases Hp.un_some e with e | e
  · exact a x o e
  · exact b x o e
def Hp.emp : Hp := fun _ => none
theorem Hp.emp_dj (f : Hp) : Hp.dj Hp.emp f := fun _ _ e => nomatch e
theorem Hp.emp_le (f : Hp) : Hp.le Hp.emp f := fun _ _ e => nomatch e
theorem hpOf_lt {w : World} {b : Nat} {o : Obj} (h : hpOf w b = some o) : b < w.heap.size := (Array.getElem?_eq_some_iff.1 h).1

abbrev HProp := Hp → Prop
/-- the chunks lie apart from one another in a heaplet -/
def Stars : List HProp → Hp → Prop
  | [], _ => True
  | c :: cs, h => ∃ h1 h2, Hp.dj h1 h2 ∧ Hp.le h1 h ∧ Hp.le h2 h ∧ c h1 ∧ Stars cs h2

theorem Stars.mono : ∀ {H : List HProp} {h h' : Hp}, Hp.le h h' → Stars H h → Stars H h'
  | [], _, _, _, _ => trivial
  | _ :: _, _, _, l, ⟨h1, h2, d, l1, l2, hc, hs⟩ => ⟨h1, h2, d, l1.trans l, l2.trans l, hc, hs⟩

theorem Stars.swap {a b : HProp} {H : List HProp} {h : Hp} (s : Stars (a :: b :: H) h) : Stars (b :: a :: H) h := by
  obtain ⟨h1, h2, d, l1, l2, ha, h3, h4, d', l3, l4, hb, hs⟩ := s
  have d14 : Hp.dj h1 h4 := d.mono (.refl _) l4
  have d13 : Hp.dj h1 h3 := d.mono (.refl _) l3
  exact ⟨h3, Hp.un h1 h4, (Hp.dj_un d13 d'.symm).symm, l3.trans l2, Hp.un_le l1 (l4.trans l2), hb, h1, h4, d14, Hp.le_un_left _ _, Hp.le_un_right d14, ha, hs⟩

/-- one chunk is taken out of a list, and what is left -/
inductive Pick {α : Type} : α → List α → List α → Prop
  | here {c : α} {H : List α} : Pick c (c :: H) H
  | there {c d : α} {H H' : List α} : Pick c H H' → Pick c (d :: H) (d :: H')
theorem Pick.app_nil {α : Type} {c : α} {H H' : List α} (h : Pick c H H') : Pick c ([] ++ H) H' := h
theorem Pick.app_cons {α : Type} {c d : α} {A H H' : List α} (h : Pick c (d :: (A ++ H)) H') : Pick c ((d :: A) ++ H) H' := h

/-- one chunk is replaced where it stands -/
inductive Upd {α : Type} : α → α → List α → List α → Prop
  | here {c c' : α} {H : List α} : Upd c c' (c :: H) (c' :: H)
  | there {c c' d : α} {H H' : List α} : Upd c c' H H' → Upd c c' (d :: H) (d :: H')
theorem Upd.app_nil {α : Type} {c c' : α} {H H' : List α} (h : Upd c c' H H') : Upd c c' ([] ++ H) H' := h
theorem Upd.app_cons {α : Type} {c c' d : α} {A H H' : List α} (h : Upd c c' (d :: (A ++ H)) H') : Upd c c' ((d :: A) ++ H) H' := h

/-- several chunks are taken out, one behind the other -/
inductive Picks {α : Type} : List α → List α → List α → Prop
  | nil {H : List α} : Picks [] H H
  | cons {c : α} {cs H H1 H2 : List α} : Pick c H H1 → Picks cs H1 H2 → Picks (c :: cs) H H2

theorem Stars.cons_le {c : HProp} {H H' : List HProp} (hl : ∀ h, Stars H h → Stars H' h) {h : Hp} : Stars (c :: H) h → Stars (c :: H') h :=
  fun ⟨h1, h2, d, l1, l2, hc, hs⟩ => ⟨h1, h2, d, l1, l2, hc, hl _ hs⟩

theorem Pick.stars {c : HProp} {H H' : List HProp} (p : Pick c H H') : ∀ {h : Hp}, Stars H h → Stars (c :: H') h := by
  induction p with
  | here => exact fun s => s
  | there _ ih => exact fun s => Stars.swap (Stars.cons_le (fun _ => ih) s)

theorem Pick.back {c : HProp} {H H' : List HProp} (p : Pick c H H') : ∀ {h : Hp}, Stars (c :: H') h → Stars H h := by
  induction p with
  | here => exact fun s => s
  | there _ ih => exact fun s => Stars.cons_le (fun _ => ih) (Stars.swap s)

theorem Upd.split {α : Type} {c c' : α} {H H' : List α} (u : Upd c c' H H') : ∃ R, Pick c H R ∧ Pick c' H' R := by
  induction u with
  | here => exact ⟨_, .here, .here⟩
  | there _ ih => obtain ⟨R, a, b⟩ := ih; exact ⟨_, .there a, .there b⟩

theorem Stars.append : ∀ {H H' : List HProp} {h : Hp}, Stars (H ++ H') h → ∃ h1 h2, Hp.dj h1 h2 ∧ Hp.le h1 h ∧ Hp.le h2 h ∧ Stars H h1 ∧ Stars H' h2
  | [], H', h, s => ⟨Hp.emp, h, Hp.emp_dj _, Hp.emp_le _, Hp.le.refl _, trivial, s⟩
  | c :: H, H', h, ⟨h1, h2, d, l1, l2, hc, hs⟩ => by
    obtain ⟨h3, h4, d', l3, l4, a, b⟩ := Stars.append hs
    exact ⟨Hp.un h1 h3, h4, Hp.dj_un (d.mono (.refl _) l4) d', Hp.un_le l1 (l3.trans l2), l4.trans l2,
      ⟨h1, h3, d.mono (.refl _) l3, Hp.le_un_left _ _, Hp.le_un_right (d.mono (.refl _) l3), hc, a⟩, b⟩

theorem Stars.join : ∀ {H H' : List HProp} {h h1 h2 : Hp}, Hp.dj h1 h2 → Hp.le h1 h → Hp.le h2 h → Stars H h1 → Stars H' h2 → Stars (H ++ H') h
  | [], _, _, _, _, _, _, l2, _, b => b.mono l2
  | c :: H, H', h, h1, h2, d, l1, l2, ⟨h3, h4, d', l3, l4, hc, hs⟩, b => by
    refine ⟨h3, Hp.un h4 h2, ?_, l3.trans l1, Hp.un_le (l4.trans l1) l2, hc, ?_⟩
    · exact (Hp.dj_un d'.symm (d.mono l3 (.refl _)).symm).symm
    · exact Stars.join (d.mono l4 (.refl _)) (Hp.le_un_left _ _) (Hp.le_un_right (d.mono l4 (.refl _))) hs b

theorem Picks.stars {cs H R : List HProp} (p : Picks cs H R) : ∀ {h : Hp}, Stars H h → Stars (cs ++ R) h := by
  induction p with
  | nil => exact fun s => s
  | cons p _ ih => exact fun s => Stars.cons_le (fun _ => ih) (p.stars s)

/-! ### states -/
/-- what a call must leave as it was beside memory -/
class Obs where
  os : Os
  out : Array (Nat × ByteArray)
variable [Obs]
def Seen (w : World) : Prop := w.os = Obs.os ∧ w.output = Obs.out
/-- the world holds the frame 'F', untouched, and the chunks 'H' beside it -/
def St (F : Hp) (H : List HProp) (w : World) : Prop := ∃ h, Stars H h ∧ Hp.dj F h ∧ Hp.le F (hpOf w) ∧ Hp.le h (hpOf w) ∧ Seen w

theorem St.imp {F : Hp} {H H' : List HProp} {w : World} (s : St F H w) (hl : ∀ h, Stars H h → Stars H' h) : St F H' w :=
  let ⟨h, a, b, c, d, o⟩ := s; ⟨h, hl h a, b, c, d, o⟩
theorem St.heapEq {F : Hp} {H : List HProp} {w w' : World} (s : St F H w) (e : w'.heap = w.heap) (e1 : w'.os = w.os := by rfl) (e2 : w'.output = w.output := by rfl) : St F H w' := by
  obtain ⟨h, a, b, c, d, o⟩ := s
  have : hpOf w' = hpOf w := by unfold hpOf; rw [e]
  exact ⟨h, a, b, this ▸ c, this ▸ d, e1.trans o.1, e2.trans o.2⟩
theorem St.picks {F : Hp} {H cs R : List HProp} {w : World} (s : St F H w) (p : Picks cs H R) : St F (cs ++ R) w := s.imp fun _ => p.stars
omit [Obs] in
theorem Stars.drop : ∀ {H R : List HProp} {h : Hp}, Stars (H ++ R) h → Stars H h
  | [], _, _, _ => trivial
  | _ :: _, _, _, ⟨h1, h2, d, l1, l2, hc, hs⟩ => ⟨h1, h2, d, l1, l2, hc, Stars.drop hs⟩
theorem St.sub {F : Hp} {H cs R : List HProp} {w : World} (s : St F H w) (p : Picks cs H R) : St F cs w := s.imp fun _ h => (p.stars h).drop

/-- a block with what lies in it -/
def pt (b : Nat) (o : Obj) : HProp := fun h => h b = some o

theorem St.pt_at {F : Hp} {H R : List HProp} {w : World} {b : Nat} {o : Obj} (s : St F H w) (p : Pick (pt b o) H R) : w.heap[b]? = some o := by
  obtain ⟨h, a, _, _, d, _⟩ := s
  obtain ⟨h1, _, _, l1, _, hc, _⟩ := p.stars a
  exact d _ _ (l1 _ _ hc)

/-- what a chunk says of a heaplet, the world says -/
theorem St.chunk {F : Hp} {H R : List HProp} {w : World} {c : HProp} (s : St F H w) (p : Pick c H R) : ∃ h, c h ∧ Hp.le h (hpOf w) := by
  obtain ⟨h, a, _, _, d, _⟩ := s
  obtain ⟨h1, _, _, l1, _, hc, _⟩ := p.stars a
  exact ⟨h1, hc, l1.trans d⟩

/-- one chunk gives way to another; all else stays -/
theorem St.upd {F : Hp} {H H' : List HProp} {w w' : World} {c c' : HProp} (u : Upd c c' H H') (s : St F H w)
    (hloc : ∀ h1, c h1 → Hp.le h1 (hpOf w) → ∃ h1', c' h1' ∧ Hp.le h1' (hpOf w') ∧ (∀ b o, h1' b = some o → (∃ o', h1 b = some o') ∨ w.heap.size ≤ b) ∧
      (∀ b o, h1 b = none → w.heap[b]? = some o → w'.heap[b]? = some o)) (e1 : w'.os = w.os := by rfl) (e2 : w'.output = w.output := by rfl) : St F H' w' := by
  obtain ⟨h, a, dF, lF, lh, oo⟩ := s
  obtain ⟨R, p, p'⟩ := u.split
  obtain ⟨h1, h2, d, l1, l2, hc, hs⟩ := p.stars a
  obtain ⟨h1', hc', l1', hdom, hkeep⟩ := hloc h1 hc (l1.trans lh)
  have old : ∀ b o, w.heap[b]? = some o → w.heap.size ≤ b → False := fun b o e hb => by
    have := (Array.getElem?_eq_some_iff.1 e).1; omega
  have d2 : Hp.dj h1' h2 := fun b o e => by
    rcases hdom b o e with ⟨o', e'⟩ | hb
    · exact d b o' e'
    · cases k : h2 b with
      | none => rfl
      | some o' => exact (old b o' (lh _ _ (l2 _ _ k)) hb).elim
  have l2' : Hp.le h2 (hpOf w') := fun b o e => hkeep b o (d.symm b o e) (lh _ _ (l2 _ _ e))
  have dF1 : Hp.dj F h1' := fun b o e => by
    cases k : h1' b with
    | none => rfl
    | some o' =>
      rcases hdom b o' k with ⟨o'', e'⟩ | hb
      · have := dF b o e; rw [l1 b o'' e'] at this; cases this
      · exact (old b o (lF b o e) hb).elim
  refine ⟨Hp.un h1' h2, p'.back ⟨h1', h2, d2, Hp.le_un_left _ _, Hp.le_un_right d2, hc', hs⟩, ?_, ?_, Hp.un_le l1' l2', e1.trans oo.1, e2.trans oo.2⟩
  · exact (Hp.dj_un dF1.symm (dF.mono (.refl _) l2).symm).symm
  · intro b o e
    refine hkeep b o ?_ (lF b o e)
    cases k : h1 b with
    | none => rfl
    | some o' => have := dF b o e; rw [l1 b o' k] at this; cases this

/-- something new is made, nothing else turns -/
theorem St.grow {F : Hp} {H : List HProp} {w w' : World} {c' : HProp} (s : St F H w)
    (hloc : ∃ h1' : Hp, c' h1' ∧ Hp.le h1' (hpOf w') ∧ (∀ (b : Nat) (o : Obj), h1' b = some o → w.heap.size ≤ b) ∧ (∀ (b : Nat) (o : Obj), w.heap[b]? = some o → w'.heap[b]? = some o)) (e1 : w'.os = w.os := by rfl) (e2 : w'.output = w.output := by rfl) : St F (c' :: H) w' := by
  have s' : St F ((fun _ => True) :: H) w := by
    obtain ⟨h, a, b, c, d, o⟩ := s
    exact ⟨h, ⟨Hp.emp, h, Hp.emp_dj _, Hp.emp_le _, Hp.le.refl _, trivial, a⟩, b, c, d, o⟩
  refine s'.upd .here (fun h1 _ _ => ?_) e1 e2
  obtain ⟨h1', a, b, c, d⟩ := hloc
  exact ⟨h1', a, b, fun x o e => .inr (c x o e), fun x o _ => d x o⟩

theorem St.alloc {F : Hp} {H : List HProp} {w : World} (s : St F H w) (o : Obj) : St F (pt w.heap.size o :: H) (w.alloc o) := by
  refine s.grow ⟨fun b => if b = w.heap.size then some o else none, by simp [pt], ?_, ?_, ?_⟩
  · intro b o' e
    simp only at e
    split at e
    · rename_i h; subst h; cases e; exact heap_alloc_new w o
    · cases e
  · intro b o' e
    simp only at e
    split at e
    · rename_i h; subst h; exact Nat.le_refl _
    · cases e
  · intro b o' e
    rw [heap_alloc_old w o (Array.getElem?_eq_some_iff.1 e).1]
    exact e

/-- a world whose heap is the old one but for one block -/
theorem St.put {F : Hp} {H H' : List HProp} {w w' : World} {b : Nat} {o o' : Obj} (s : St F H w) (u : Upd (pt b o) (pt b o') H H')
    (h0 : w'.heap[b]? = some o') (h1 : ∀ k, k ≠ b → w'.heap[k]? = w.heap[k]?) (e1 : w'.os = w.os := by rfl) (e2 : w'.output = w.output := by rfl) : St F H' w' := by
  refine s.upd u (fun h1' hc _ => ⟨fun k => if k = b then some o' else none, by simp [pt], ?_, ?_, ?_⟩) e1 e2
  · intro k x e
    simp only at e
    split at e
    · rename_i h; subst h; cases e; exact h0
    · cases e
  · intro k x e
    simp only at e
    split at e
    · rename_i h; subst h; exact .inl ⟨o, hc⟩
    · cases e
  · intro k x e1 e2
    have : k ≠ b := by rintro rfl; rw [hc] at e1; cases e1
    rw [h1 k this]; exact e2

/-! ### what is read: predicates of a heaplet that a greater one keeps -/
def Mono (p : Hp → Prop) : Prop := ∀ f g, Hp.le f g → p f → p g

/-- 'F' with the chunks 'H' beside it -/
def Up (F : Hp) (H : List HProp) (F' : Hp) : Prop := ∃ h, Stars H h ∧ Hp.dj F h ∧ F' = Hp.un F h
omit [Obs] in
theorem Up.le {F F' : Hp} {H : List HProp} (u : Up F H F') : Hp.le F F' := by
  obtain ⟨h, _, _, rfl⟩ := u; exact Hp.le_un_left _ _
omit [Obs] in
theorem Up.ro {F F' : Hp} {H : List HProp} (u : Up F H F') {p : Hp → Prop} (m : Mono p) (h : p F) : p F' := m _ _ u.le h
omit [Obs] in
theorem Up.chunk {F F' : Hp} {H R : List HProp} (u : Up F H F') {c : HProp} (p : Pick c H R) : ∃ h, c h ∧ Hp.le h F' := by
  obtain ⟨h, s, d, rfl⟩ := u
  obtain ⟨h1, _, _, l1, _, hc, _⟩ := p.stars s
  exact ⟨h1, hc, l1.trans (Hp.le_un_right d)⟩

theorem St.up {F : Hp} {H H1 R : List HProp} {w : World} (s : St F H w) (p : Picks H1 H R) : ∃ F', Up F R F' ∧ St F' H1 w ∧
    ∀ w' H2, St F' H2 w' → St F (H2 ++ R) w' := by
  obtain ⟨h, a, b, c, d, oo⟩ := s
  obtain ⟨h1, h2, dd, l1, l2, s1, s2⟩ := Stars.append (p.stars a)
  have dF2 : Hp.dj F h2 := b.mono (.refl _) l2
  refine ⟨Hp.un F h2, ⟨h2, s2, dF2, rfl⟩, ⟨h1, s1, Hp.dj_un (b.mono (.refl _) l1) dd.symm, Hp.un_le c (l2.trans d), l1.trans d, oo⟩, ?_⟩
  rintro w' H2 ⟨h', a', b', c', d', oo'⟩
  have b2 : Hp.dj h2 h' := b'.mono (Hp.le_un_right dF2) (.refl _)
  refine ⟨Hp.un h' h2, Stars.join b2.symm (Hp.le_un_left _ _) (Hp.le_un_right b2.symm) a' s2, ?_, (Hp.le_un_left _ _).trans c', Hp.un_le d' ((Hp.le_un_right dF2).trans c'), oo'⟩
  exact (Hp.dj_un (b'.mono (Hp.le_un_left _ _) (.refl _)).symm dF2.symm).symm

end Go.Proofs.Ytiefmfimbmkdjaa

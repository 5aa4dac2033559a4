/- What the printed functions of the arena come to: valid arenas by their free list; each function's answer. -/
import Derived.Test.YtlgfopdindklnaaPArenax0
import Derived.Test.YtlgfopdindklnaaPArenax1
import Derived.Test.YtlgfopdindklnaaPArenax2
import Derived.Test.YtlgfopdindklnaaPArenax3
import Derived.Test.YtlgfopdindklnaaPArenax4
import Derived.Test.YtlgfopdindklnaaPArenax5
import Derived.Test.YtlgfopdindklnaaPArenax6
import Derived.Test.YtlgfopdindklnaaPArenax7
import Derived.Test.YtlgfopdindklnaaPArenax8
import Derived.Test.YtlgfopdindklnaaPArenax9
import Derived.Test.YtlgfopdindklnaaPArenax10
import Derived.Test.YtlgfopdindklnaaPArenax11
import Derived.Test.YtlgfopdindklnaaPArenax14
import Derived.Test.YtlgfopdindklnaaPArenax15
import Derived.Test.YtlgfopdindklnaaPArenax16
import Derived.Test.YtlgfopdindklnaaPArenax17
import Derived.Test.YtlgfopdindklnaaPArenax18
namespace Go.Proofs.Ytlgfopdindklnaa.ArenaPlain
open Go.RowKit Go.Proofs.Ytlgfopdindklnaa.PArena Go.Proofs.YtlgfopdindklnaaW.PrintWords Go.Proofs.YtlgfopdindklnaaW.PrintLast

theorem Ev.succ {α : Type} {g : Nat → Option α} {r : α} (K : Nat) (h : ∀ k, K ≤ k → g (k + 1) = some r) : Ev g r := ⟨K + 1, fun k hk => by
  obtain ⟨m, rfl⟩ : ∃ m, k = m + 1 := ⟨k - 1, by omega⟩
  exact h m (by omega)⟩

theorem Ev.get {α : Type} {g : Nat → Option α} {r : α} (h : Ev g r) : ∃ K, ∀ k, K ≤ k → g k = some r := h

/-- The list that begins at i and goes on by next, up to -1. -/
inductive Chain (next : List Int) : Int → List Int → Prop
  | nil : Chain next (-1) []
  | cons {i : Int} {l : List Int} (h0 : 0 ≤ i) (h1 : i < next.length) (h : Chain next (rd next i) l) : Chain next i (i :: l)

theorem Chain.det {next : List Int} {i : Int} {l l' : List Int} (h : Chain next i l) (h' : Chain next i l') : l = l' := by
  induction h generalizing l' with
  | nil => cases h' with
    | nil => rfl
    | cons h0 => omega
  | cons h0 h1 _ ih => cases h' with
    | nil => omega
    | cons _ _ h2 => rw [ih h2]

theorem Chain.range {next : List Int} {i : Int} {l : List Int} (h : Chain next i l) : ∀ x ∈ l, 0 ≤ x ∧ x < next.length := by
  induction h with
  | nil => simp
  | cons h0 h1 _ ih =>
    intro x hx
    rcases List.mem_cons.1 hx with rfl | hx
    · exact ⟨h0, h1⟩
    · exact ih x hx

theorem rd_set {l : List Int} {i j v : Int} (h0 : 0 ≤ i) (h1 : i < l.length) (h2 : 0 ≤ j) : rd (l.set i.toNat v) j = if i = j then v else rd l j := by
  unfold rd
  simp only [List.getD_eq_getElem?_getD, List.getElem?_set]
  by_cases e : i = j
  · subst e; rw [if_pos rfl, if_pos rfl, if_pos (by omega)]; rfl
  · rw [if_neg (by omega), if_neg e]
theorem rdOf_set {l : List Bool} {i j : Int} {v : Bool} (h0 : 0 ≤ i) (h1 : i < l.length) (h2 : 0 ≤ j) : rdOf false (l.set i.toNat v) j = if i = j then v else rdOf false l j := by
  unfold rdOf
  simp only [List.getD_eq_getElem?_getD, List.getElem?_set]
  by_cases e : i = j
  · subst e; rw [if_pos rfl, if_pos rfl, if_pos (by omega)]; rfl
  · rw [if_neg (by omega), if_neg e]

theorem w1 {i : Int} (h0 : 0 ≤ i) (h1 : i ≤ 1000000) : wrap64 (i + 1) = i + 1 := by unfold wrap64; omega

/-- A list of numbers below n that has none twice has at most n of them. -/
theorem nodup_le {l : List Int} {n : Nat} (h : l.Nodup) (hr : ∀ x ∈ l, 0 ≤ x ∧ x < n) : l.length ≤ n := by
  have h2 : l ⊆ (List.range n).map Int.ofNat := by
    intro x hx
    have := hr x hx
    exact List.mem_map.2 ⟨x.toNat, by simp; omega, by simp; omega⟩
  have := List.Nodup.length_le_of_subset h h2
  simpa using this

/-! ### slices.Clone -/
theorem clone_int {l : List Int} (h : l.length ≤ 1000) : slices_Clone_int_int.f l = some l := by
  unfold slices_Clone_int_int.f
  simp only [Option.bind_some, List.length_nil, List.nil_append]
  rw [if_pos (by omega)]
theorem clone_bool {l : List Bool} (h : l.length ≤ 1000) : slices_Clone_bool_bool.f l = some l := by
  unfold slices_Clone_bool_bool.f
  simp only [Option.bind_some, List.length_nil, List.nil_append]
  rw [if_pos (by omega)]

/-! ### arena.Check -/
/-- The marks after all of l are marked. -/
def marks (s : List Bool) (l : List Int) : List Bool := l.foldl (fun s x => s.set x.toNat true) s
theorem marks_length (s : List Bool) (l : List Int) : (marks s l).length = s.length := by
  induction l generalizing s with
  | nil => rfl
  | cons x l ih => show (marks (s.set x.toNat true) l).length = _; rw [ih]; simp
theorem marks_at {s : List Bool} {l : List Int} (hl : ∀ x ∈ l, 0 ≤ x ∧ x < s.length) {j : Int} (hj : 0 ≤ j) : rdOf false (marks s l) j = true ↔ (rdOf false s j = true ∨ j ∈ l) := by
  induction l generalizing s with
  | nil => simp [marks]
  | cons x l ih =>
    have hx := hl x (by simp)
    show rdOf false (marks (s.set x.toNat true) l) j = true ↔ _
    rw [ih (by intro y hy; have := hl y (by simp [hy]); simpa using this), rdOf_set hx.1 hx.2 hj]
    by_cases e : x = j
    · subst e; simp
    · rw [if_neg e]; simp [show ¬ j = x from fun h => e h.symm]

/-- What the last loop of Check looks at. -/
def AllOk (s used : List Bool) (next : List Int) (j : Int) : Prop := ∀ i : Int, j ≤ i → i < used.length → rdOf false s i = true ∧ (rdOf false used i = true → rd next i = -1)

theorem check_l1_yes {s used : List Bool} {next : List Int} {free : Int} (h1 : s.length = used.length) (h2 : next.length = used.length) (hu : used.length ≤ 16) (d : Nat) :
    ∀ j : Int, 0 ≤ j → (used.length : Int) - j ≤ d → AllOk s used next j → Ev (fun k => arena_Check.l1 k s used used.length j next used free) 0 := by
  induction d with
  | zero =>
    intro j h0 hd _
    refine Ev.step (f := fun _ => some 0) (fun k => ?_) (Ev.now 0)
    rw [arena_Check.l1, if_neg (by omega)]
  | succ d ih =>
    intro j h0 hd ho
    by_cases hj : j < used.length
    · have hr := ih (j + 1) (by omega) (by omega) (fun i hi hl => ho i (by omega) hl)
      obtain ⟨ha, hb⟩ := ho j (Int.le_refl _) hj
      refine Ev.step (fun k => ?_) hr
      rw [arena_Check.l1, if_pos hj, if_pos h0, if_pos hj, if_pos (by omega), if_pos ha, w1 h0 (by omega)]
      by_cases hc : rdOf false used j = true
      · rw [if_pos hc, if_pos (by omega), if_pos (hb hc)]
      · rw [if_neg hc]
    · refine Ev.step (f := fun _ => some 0) (fun k => ?_) (Ev.now 0)
      rw [arena_Check.l1, if_neg hj]

theorem check_l1_no {s used : List Bool} {next : List Int} {free : Int} (h1 : s.length = used.length) (h2 : next.length = used.length) (hu : used.length ≤ 16) (d : Nat) :
    ∀ j : Int, 0 ≤ j → (used.length : Int) - j ≤ d → ¬ AllOk s used next j → Ev (fun k => arena_Check.l1 k s used used.length j next used free) 8 := by
  induction d with
  | zero => intro j h0 hd hn; exact absurd (fun i hi hl => by omega) hn
  | succ d ih =>
    intro j h0 hd hn
    by_cases hj : j < used.length
    · by_cases ha : rdOf false s j = true
      · by_cases hc : rdOf false used j = true ∧ ¬ rd next j = -1
        · refine Ev.step (f := fun _ => some 8) (fun k => ?_) (Ev.now 8)
          rw [arena_Check.l1, if_pos hj, if_pos h0, if_pos hj, if_pos (by omega), if_pos ha, if_pos hc.1, if_pos (by omega), if_neg hc.2]
        · have hr := ih (j + 1) (by omega) (by omega) (fun ho => hn (fun i hi hl => by
            by_cases e : i = j
            · subst e; exact ⟨ha, fun hq => Classical.byContradiction fun hz => hc ⟨hq, hz⟩⟩
            · exact ho i (by omega) hl))
          refine Ev.step (fun k => ?_) hr
          rw [arena_Check.l1, if_pos hj, if_pos h0, if_pos hj, if_pos (by omega), if_pos ha, w1 h0 (by omega)]
          by_cases hq : rdOf false used j = true
          · rw [if_pos hq, if_pos (by omega), if_pos (Classical.byContradiction fun hz => hc ⟨hq, hz⟩)]
          · rw [if_neg hq]
      · refine Ev.step (f := fun _ => some 8) (fun k => ?_) (Ev.now 8)
        rw [arena_Check.l1, if_pos hj, if_pos h0, if_pos hj, if_pos (by omega), if_neg ha]
    · exact absurd (fun i hi hl => by omega) hn

theorem check_l0_yes {used : List Bool} {next : List Int} {free r : Int} {i : Int} {l : List Int} (h : Chain next i l) :
    ∀ s : List Bool, s.length = next.length → l.Nodup → (∀ x ∈ l, rdOf false s x = false) → Ev (fun k => arena_Check.l1 k (marks s l) used used.length 0 next used free) r →
      Ev (fun k => arena_Check.l0 k next.length s i next used free) r := by
  induction h with
  | nil =>
    intro s hs _ _ hr
    refine Ev.step (fun k => ?_) hr
    rw [arena_Check.l0, if_pos rfl]; rfl
  | @cons i l h0 h1 hc ih =>
    intro s hs hn hf hr
    obtain ⟨hi, hn⟩ := List.nodup_cons.1 hn
    have hfi := hf i (by simp)
    have hr2 := ih (s.set i.toNat true) (by simpa using hs) hn (fun x hx => by
      have hxr := hc.range x hx
      rw [rdOf_set h0 (by omega) hxr.1, if_neg (fun e => hi (by rw [e]; exact hx))]
      exact hf x (by simp [hx])) hr
    refine Ev.step (fun k => ?_) hr2
    rw [arena_Check.l0, if_neg (by omega), if_neg (by omega), if_neg (by omega), if_pos h0, if_pos (by omega), if_neg (by rw [hfi]; decide), if_pos h1]

theorem count_set {s : List Bool} {i : Int} (h0 : 0 ≤ i) (h1 : i < s.length) (hf : ¬ rdOf false s i = true) : (s.set i.toNat true).count false + 1 = s.count false := by
  have hi : i.toNat < s.length := by omega
  have e : s[i.toNat] = false := by
    simp [rdOf, List.getD_eq_getElem?_getD, List.getElem?_eq_getElem hi] at hf
    exact hf
  rw [List.count_set hi, e]
  have : 0 < s.count false := List.count_pos_iff.2 (by rw [← e]; exact List.getElem_mem hi)
  simp; omega

theorem check_l0_no {used : List Bool} {next : List Int} {free : Int} (d : Nat) :
    ∀ (s : List Bool) (i : Int), s.length = next.length → s.count false ≤ d → (¬ ∃ l, Chain next i l ∧ l.Nodup ∧ ∀ x ∈ l, rdOf false s x = false) →
      Ev (fun k => arena_Check.l0 k next.length s i next used free) 8 := by
  induction d with
  | zero =>
    intro s i hs hd hn
    by_cases e : i = -1
    · exact absurd ⟨[], by rw [e]; exact .nil, by simp, by simp⟩ hn
    by_cases h0 : i < 0
    · refine Ev.step (f := fun _ => some 8) (fun k => ?_) (Ev.now 8)
      rw [arena_Check.l0, if_neg e, if_pos h0]
    by_cases h1 : i ≥ next.length
    · refine Ev.step (f := fun _ => some 8) (fun k => ?_) (Ev.now 8)
      rw [arena_Check.l0, if_neg e, if_neg h0, if_pos h1]
    by_cases hf : rdOf false s i = true
    · refine Ev.step (f := fun _ => some 8) (fun k => ?_) (Ev.now 8)
      rw [arena_Check.l0, if_neg e, if_neg h0, if_neg h1, if_pos (by omega), if_pos (by omega), if_pos hf]
    · have := count_set (by omega) (by omega) hf
      omega
  | succ d ih =>
    intro s i hs hd hn
    by_cases e : i = -1
    · exact absurd ⟨[], by rw [e]; exact .nil, by simp, by simp⟩ hn
    by_cases h0 : i < 0
    · refine Ev.step (f := fun _ => some 8) (fun k => ?_) (Ev.now 8)
      rw [arena_Check.l0, if_neg e, if_pos h0]
    by_cases h1 : i ≥ next.length
    · refine Ev.step (f := fun _ => some 8) (fun k => ?_) (Ev.now 8)
      rw [arena_Check.l0, if_neg e, if_neg h0, if_pos h1]
    by_cases hf : rdOf false s i = true
    · refine Ev.step (f := fun _ => some 8) (fun k => ?_) (Ev.now 8)
      rw [arena_Check.l0, if_neg e, if_neg h0, if_neg h1, if_pos (by omega), if_pos (by omega), if_pos hf]
    · have hc := count_set (s := s) (i := i) (by omega) (by omega) hf
      have hr := ih (s.set i.toNat true) (rd next i) (by simpa using hs) (by omega) (by
        rintro ⟨l, hl, hnd, hx⟩
        refine hn ⟨i :: l, .cons (by omega) (by omega) hl, List.nodup_cons.2 ⟨fun hi => ?_, hnd⟩, ?_⟩
        · have := hx i hi
          rw [rdOf_set (by omega) (by omega) (by omega), if_pos rfl] at this
          exact Bool.noConfusion this
        · intro x hxm
          rcases List.mem_cons.1 hxm with rfl | hxm
          · simpa using hf
          · have := hx x hxm
            have hxr := hl.range x hxm
            rw [rdOf_set (by omega) (by omega) hxr.1] at this
            split at this
            · exact Bool.noConfusion this
            · exact this)
      refine Ev.step (fun k => ?_) hr
      rw [arena_Check.l0, if_neg e, if_neg h0, if_neg h1, if_pos (by omega), if_pos (by omega), if_neg hf, if_pos (by omega)]

/-- l is the free list of a valid arena. -/
structure Good (next : List Int) (used : List Bool) (free : Int) (l : List Int) : Prop where
  low : 1 ≤ next.length
  high : next.length ≤ 16
  same : used.length = next.length
  chain : Chain next free l
  nodup : l.Nodup
  mark : ∀ j : Int, 0 ≤ j → j < used.length → (rdOf false used j = true ↔ ¬ j ∈ l)
  end_ : ∀ j : Int, 0 ≤ j → j < used.length → rdOf false used j = true → rd next j = -1
def Valid (next : List Int) (used : List Bool) (free : Int) : Prop := ∃ l, Good next used free l

theorem Check_yes {next : List Int} {used : List Bool} {free : Int} {l : List Int} (g : Good next used free l) : Ev (fun k => arena_Check.f k next used free) 0 := by
  have hlow := g.low
  have hhigh := g.high
  have hsame := g.same
  have h1 : Ev (fun k => arena_Check.l0 k next.length used free next used free) 0 := by
    refine check_l0_yes g.chain used hsame g.nodup (fun x hx => ?_) (check_l1_yes (by rw [marks_length]) hsame.symm (by omega) used.length 0 (Int.le_refl _) (by omega) ?_)
    · have hr := g.chain.range x hx
      have := g.mark x hr.1 (by omega)
      simpa [hx] using this
    · intro i hi hl
      refine ⟨(marks_at (fun x hx => by have := g.chain.range x hx; omega) hi).2 ?_, g.end_ i hi hl⟩
      rw [g.mark i hi hl]
      exact Decidable.not_or_of_imp id |>.symm |> fun h => h.elim (fun h => .inr h) (fun h => .inl h)
  have h2 : Ev (fun k => arena_Check.j0 k next.length false next used free) 0 := by
    refine Ev.step (fun k => ?_) h1
    rw [arena_Check.j0, if_neg (by decide), clone_bool (by omega)]; rfl
  refine Ev.congr (fun k => ?_) h2
  unfold arena_Check.f
  rw [if_neg (by omega), if_neg (by omega), show ((used.length : Int) != (next.length : Int)) = false by simp; omega]

theorem Check_no {next : List Int} {used : List Bool} {free : Int} (hn : ¬ Valid next used free) : Ev (fun k => arena_Check.f k next used free) 8 := by
  have hbad : ∀ n : Int, Ev (fun k => arena_Check.j0 k n true next used free) 8 := fun n => by
    refine Ev.step (f := fun _ => some 8) (fun k => ?_) (Ev.now 8)
    rw [arena_Check.j0, if_pos rfl]
  by_cases hlow : next.length < 1
  · refine Ev.congr (fun k => ?_) (hbad next.length)
    unfold arena_Check.f; rw [if_pos (by omega)]
  by_cases hhigh : 16 < next.length
  · refine Ev.congr (fun k => ?_) (hbad next.length)
    unfold arena_Check.f; rw [if_neg (by omega), if_pos (by omega)]
  by_cases hsame : used.length = next.length
  · have h1 : Ev (fun k => arena_Check.l0 k next.length used free next used free) 8 := by
      by_cases hc : ∃ l, Chain next free l ∧ l.Nodup ∧ ∀ x ∈ l, rdOf false used x = false
      · obtain ⟨l, hl, hnd, hx⟩ := hc
        refine check_l0_yes hl used hsame hnd hx (check_l1_no (by rw [marks_length]) hsame.symm (by omega) used.length 0 (Int.le_refl _) (by omega) (fun ho => hn ⟨l, ⟨by omega, by omega, hsame, hl, hnd, ?_, fun j h0 h1 h2 => (ho j h0 h1).2 h2⟩⟩))
        intro j h0 h1
        have h2 := (marks_at (fun x hx => by have := hl.range x hx; omega) h0).1 (ho j h0 h1).1
        constructor
        · intro ht hm; rw [hx j hm] at ht; exact Bool.noConfusion ht
        · intro hm; exact h2.resolve_right hm
      · exact check_l0_no (used.count false) used free hsame (Nat.le_refl _) hc
    have h2 : Ev (fun k => arena_Check.j0 k next.length false next used free) 8 := by
      refine Ev.step (fun k => ?_) h1
      rw [arena_Check.j0, if_neg (by decide), clone_bool (by omega)]; rfl
    refine Ev.congr (fun k => ?_) h2
    unfold arena_Check.f
    rw [if_neg (by omega), if_neg (by omega), show ((used.length : Int) != (next.length : Int)) = false by simp; omega]
  · refine Ev.congr (fun k => ?_) (hbad next.length)
    unfold arena_Check.f
    rw [if_neg (by omega), if_neg (by omega), show ((used.length : Int) != (next.length : Int)) = true by simp; omega]

/-! ### the reference's list and check -/
theorem In_tells {l : List Int} {n : Int} (hl : l.length ≤ 1000) (d : Nat) :
    ∀ i : Int, 0 ≤ i → (l.length : Int) - i ≤ d → Ev (fun k => spigotref13_In.l0 k l n i) (decide (n ∈ l.drop i.toNat)) := by
  induction d with
  | zero =>
    intro i h0 hd
    rw [List.drop_of_length_le (by omega)]
    refine Ev.step (f := fun _ => some (decide (n ∈ ([] : List Int)))) (fun k => ?_) (Ev.now _)
    rw [spigotref13_In.l0, if_neg (by omega)]; simp
  | succ d ih =>
    intro i h0 hd
    by_cases hi : i < l.length
    · have hlt : i.toNat < l.length := by omega
      rw [List.drop_eq_getElem_cons hlt]
      have hrd : rd l i = l[i.toNat] := by simp [rd, List.getD_eq_getElem?_getD, hlt]
      by_cases e : l[i.toNat] = n
      · refine Ev.step (f := fun _ => some _) (fun k => ?_) (Ev.now _)
        rw [spigotref13_In.l0, if_pos hi, if_pos h0, hrd, if_pos e]
        simp [e]
      · have := ih (i + 1) (by omega) (by omega)
        rw [show (i + 1).toNat = i.toNat + 1 by omega] at this
        have h2 : decide (n ∈ l[i.toNat] :: l.drop (i.toNat + 1)) = decide (n ∈ l.drop (i.toNat + 1)) := by
          have h5 : ¬ n = l[i.toNat] := fun h => e h.symm
          rw [decide_eq_decide, List.mem_cons]
          exact ⟨fun h => h.resolve_left h5, Or.inr⟩
        rw [h2]
        refine Ev.step (fun k => ?_) this
        rw [spigotref13_In.l0, if_pos hi, if_pos h0, hrd, if_neg e, w1 h0 (by omega)]
    · rw [List.drop_of_length_le (by omega)]
      refine Ev.step (f := fun _ => some (decide (n ∈ ([] : List Int)))) (fun k => ?_) (Ev.now _)
      rw [spigotref13_In.l0, if_neg hi]; simp
theorem In_f {l : List Int} {n : Int} (hl : l.length ≤ 1000) : Ev (fun k => spigotref13_In.f k l n) (decide (n ∈ l)) := by
  have := In_tells (n := n) hl l.length 0 (Int.le_refl _) (by omega)
  simpa [spigotref13_In.f] using this

theorem nodup_snoc {acc : List Int} {i : Int} (h : acc.Nodup) (hi : ¬ i ∈ acc) : (acc ++ [i]).Nodup := by
  rw [List.nodup_append]
  refine ⟨h, by simp, fun a ha b hb => ?_⟩
  rw [List.mem_singleton.1 hb]
  rintro rfl
  exact hi ha

theorem Free_yes {next : List Int} {used : List Bool} {free : Int} (hn : next.length ≤ 16) {i : Int} {l : List Int} (h : Chain next i l) :
    ∀ acc : List Int, (acc ++ l).Nodup → (∀ x ∈ acc, 0 ≤ x ∧ x < next.length) → Ev (fun k => spigotref13_Free.l0 k acc i next used free) (acc ++ l, true) := by
  induction h with
  | nil =>
    intro acc _ _
    refine Ev.step (f := fun _ => some (acc ++ [], true)) (fun k => ?_) (Ev.now _)
    rw [spigotref13_Free.l0, if_pos rfl, List.append_nil]
  | @cons i l h0 h1 hc ih =>
    intro acc hnd hr
    have hni : ¬ i ∈ acc := fun hm => (List.nodup_append.1 hnd).2.2 i hm i (by simp) rfl
    have hlen := nodup_le (List.nodup_append.1 hnd).1 hr
    have h2 := ih (acc ++ [i]) (by simpa using hnd) (fun x hx => by
      rcases List.mem_append.1 hx with hx | hx
      · exact hr x hx
      · rw [List.mem_singleton.1 hx]; exact ⟨h0, h1⟩)
    rw [List.append_assoc, List.singleton_append] at h2
    have h3 := In_f (l := acc) (n := i) (by omega)
    rw [decide_eq_false hni] at h3
    obtain ⟨K1, h3⟩ := Ev.get (h3)
    obtain ⟨K2, h2⟩ := Ev.get (h2)
    refine Ev.succ (max K1 K2) fun k hk => ?_
    rw [spigotref13_Free.l0, if_neg (by omega), if_neg (by omega), if_neg (by omega), h3 k (by omega)]
    simp only [Option.bind_some]
    rw [if_neg (by decide), if_pos (by omega), if_pos h0, if_pos h1]
    exact h2 k (by omega)

theorem Free_no {next : List Int} {used : List Bool} {free : Int} (hn : next.length ≤ 16) (d : Nat) :
    ∀ (acc : List Int) (i : Int), acc.Nodup → (∀ x ∈ acc, 0 ≤ x ∧ x < next.length) → next.length - acc.length ≤ d → (¬ ∃ l, Chain next i l ∧ (acc ++ l).Nodup) →
      Ev (fun k => spigotref13_Free.l0 k acc i next used free) ([], false) := by
  induction d with
  | zero =>
    intro acc i hnd hr hd hx
    have hlen := nodup_le hnd hr
    by_cases e : i = -1
    · exact absurd ⟨[], by rw [e]; exact .nil, by simpa using hnd⟩ hx
    by_cases h0 : i < 0
    · exact Ev.succ 0 fun k _ => by rw [spigotref13_Free.l0, if_neg e, if_pos h0]
    by_cases h1 : i ≥ next.length
    · exact Ev.succ 0 fun k _ => by rw [spigotref13_Free.l0, if_neg e, if_neg h0, if_pos h1]
    by_cases hm : i ∈ acc
    · have h3 := In_f (l := acc) (n := i) (by omega)
      rw [decide_eq_true hm] at h3
      obtain ⟨K1, h3⟩ := Ev.get (h3)
      exact Ev.succ K1 fun k hk => by rw [spigotref13_Free.l0, if_neg e, if_neg h0, if_neg h1, h3 k (by omega)]; rfl
    · have := nodup_le (nodup_snoc hnd hm) (n := next.length) (fun x hx => by
        rcases List.mem_append.1 hx with hx | hx
        · exact hr x hx
        · rw [List.mem_singleton.1 hx]; omega)
      simp at this
      omega
  | succ d ih =>
    intro acc i hnd hr hd hx
    have hlen := nodup_le hnd hr
    by_cases e : i = -1
    · exact absurd ⟨[], by rw [e]; exact .nil, by simpa using hnd⟩ hx
    by_cases h0 : i < 0
    · exact Ev.succ 0 fun k _ => by rw [spigotref13_Free.l0, if_neg e, if_pos h0]
    by_cases h1 : i ≥ next.length
    · exact Ev.succ 0 fun k _ => by rw [spigotref13_Free.l0, if_neg e, if_neg h0, if_pos h1]
    have h3 := In_f (l := acc) (n := i) (by omega)
    obtain ⟨K1, h3⟩ := Ev.get (h3)
    by_cases hm : i ∈ acc
    · rw [decide_eq_true hm] at h3
      exact Ev.succ K1 fun k hk => by rw [spigotref13_Free.l0, if_neg e, if_neg h0, if_neg h1, h3 k (by omega)]; rfl
    · rw [decide_eq_false hm] at h3
      have h9_ := ih (acc ++ [i]) (rd next i) (nodup_snoc hnd hm) (fun x hx => by
        rcases List.mem_append.1 hx with hx | hx
        · exact hr x hx
        · rw [List.mem_singleton.1 hx]; omega) (by simp; omega) (by
        rintro ⟨l, hl, hn2⟩
        exact hx ⟨i :: l, .cons (by omega) (by omega) hl, by simpa using hn2⟩)
      obtain ⟨K2, h2⟩ := Ev.get h9_
      refine Ev.succ (max K1 K2) fun k hk => ?_
      rw [spigotref13_Free.l0, if_neg e, if_neg h0, if_neg h1, h3 k (by omega)]
      simp only [Option.bind_some]
      rw [if_neg (by decide), if_pos (by omega), if_pos (by omega), if_pos (by omega)]
      exact h2 k (by omega)

theorem Free_f_yes {next : List Int} {used : List Bool} {free : Int} {l : List Int} (hn : next.length ≤ 16) (h : Chain next free l) (hnd : l.Nodup) : Ev (fun k => spigotref13_Free.f k next used free) (l, true) := by
  have := Free_yes (used := used) (free := free) hn h [] (by simpa using hnd) (by simp)
  simpa [spigotref13_Free.f] using this
theorem Free_f_no {next : List Int} {used : List Bool} {free : Int} (hn : next.length ≤ 16) (h : ¬ ∃ l, Chain next free l ∧ l.Nodup) : Ev (fun k => spigotref13_Free.f k next used free) ([], false) := by
  have := Free_no (used := used) (free := free) hn next.length [] free (by simp) (by simp) (by simp) (by simpa using h)
  simpa [spigotref13_Free.f] using this

/-- What the reference's last loop looks at. -/
def RefOk (l : List Int) (used : List Bool) (next : List Int) (j : Int) : Prop := ∀ i : Int, j ≤ i → i < used.length → (rdOf false used i = true ↔ ¬ i ∈ l) ∧ (rdOf false used i = true → rd next i = -1)

theorem ref_l0_yes {l : List Int} {used : List Bool} {next : List Int} {free : Int} (hl : l.length ≤ 1000) (h2 : next.length = used.length) (hu : used.length ≤ 16) (d : Nat) :
    ∀ j : Int, 0 ≤ j → (used.length : Int) - j ≤ d → RefOk l used next j → Ev (fun k => spigotref13_Check.l0 k l j next used free) 0 := by
  induction d with
  | zero =>
    intro j h0 hd _
    exact Ev.succ 0 fun k _ => by rw [spigotref13_Check.l0, if_neg (by omega)]
  | succ d ih =>
    intro j h0 hd ho
    by_cases hj : j < used.length
    · obtain ⟨K2, hr⟩ := Ev.get (ih (j + 1) (by omega) (by omega) (fun i hi hl => ho i (by omega) hl))
      obtain ⟨ha, hb⟩ := ho j (Int.le_refl _) hj
      obtain ⟨K1, h3⟩ := Ev.get (In_f (l := l) (n := j) hl)
      refine Ev.succ (max K1 K2) fun k hk => ?_
      rw [spigotref13_Check.l0, if_pos hj, if_pos h0, h3 k (by omega)]
      simp only [Option.bind_some]
      have he : ¬ ((rdOf false used j == decide (j ∈ l)) = true) := by
        by_cases hm : j ∈ l
        · have : ¬ rdOf false used j = true := fun h => ha.1 h hm
          simp [hm, this]
        · have : rdOf false used j = true := ha.2 hm
          simp [hm, this]
      rw [if_neg he, w1 h0 (by omega)]
      by_cases hc : rdOf false used j = true
      · rw [if_pos hc, if_pos (by omega), if_pos (hb hc)]; exact hr k (by omega)
      · rw [if_neg hc]; exact hr k (by omega)
    · exact Ev.succ 0 fun k _ => by rw [spigotref13_Check.l0, if_neg hj]

theorem ref_l0_no {l : List Int} {used : List Bool} {next : List Int} {free : Int} (hl : l.length ≤ 1000) (h2 : next.length = used.length) (hu : used.length ≤ 16) (d : Nat) :
    ∀ j : Int, 0 ≤ j → (used.length : Int) - j ≤ d → ¬ RefOk l used next j → Ev (fun k => spigotref13_Check.l0 k l j next used free) 8 := by
  induction d with
  | zero => intro j h0 hd hn; exact absurd (fun i hi hl => by omega) hn
  | succ d ih =>
    intro j h0 hd hn
    by_cases hj : j < used.length
    · obtain ⟨K1, h3⟩ := Ev.get (In_f (l := l) (n := j) hl)
      by_cases he : (rdOf false used j == decide (j ∈ l)) = true
      · refine Ev.succ K1 fun k hk => ?_
        rw [spigotref13_Check.l0, if_pos hj, if_pos h0, h3 k (by omega)]
        simp only [Option.bind_some]
        rw [if_pos he]
      · have ha : rdOf false used j = true ↔ ¬ j ∈ l := by
          by_cases hm : j ∈ l
          · simp [hm] at he ⊢; exact he
          · simp [hm] at he ⊢; exact he
        by_cases hc : rdOf false used j = true ∧ ¬ rd next j = -1
        · refine Ev.succ K1 fun k hk => ?_
          rw [spigotref13_Check.l0, if_pos hj, if_pos h0, h3 k (by omega)]
          simp only [Option.bind_some]
          rw [if_neg he, if_pos hc.1, if_pos (by omega), if_neg hc.2]
        · have h9_ := ih (j + 1) (by omega) (by omega) (fun ho => hn (fun i hi hl => by
            by_cases e : i = j
            · subst e; exact ⟨ha, fun hq => Classical.byContradiction fun hz => hc ⟨hq, hz⟩⟩
            · exact ho i (by omega) hl))
          obtain ⟨K2, hr⟩ := Ev.get h9_
          refine Ev.succ (max K1 K2) fun k hk => ?_
          rw [spigotref13_Check.l0, if_pos hj, if_pos h0, h3 k (by omega)]
          simp only [Option.bind_some]
          rw [if_neg he, w1 h0 (by omega)]
          by_cases hq : rdOf false used j = true
          · rw [if_pos hq, if_pos (by omega), if_pos (Classical.byContradiction fun hz => hc ⟨hq, hz⟩)]; exact hr k (by omega)
          · rw [if_neg hq]; exact hr k (by omega)
    · exact absurd (fun i hi hl => by omega) hn

theorem Good.short {next : List Int} {used : List Bool} {free : Int} {l : List Int} (g : Good next used free l) : l.length ≤ 16 := by
  have := nodup_le g.nodup g.chain.range
  have := g.high
  omega

theorem Ref_yes {next : List Int} {used : List Bool} {free : Int} {l : List Int} (g : Good next used free l) : Ev (fun k => spigotref13_Check.f k next used free) 0 := by
  have hlow := g.low
  have hhigh := g.high
  have hsame := g.same
  have hs := g.short
  obtain ⟨K1, h1⟩ := Ev.get (ref_l0_yes (free := free) (l := l) (used := used) (next := next) (by omega) hsame.symm (by omega) used.length 0 (Int.le_refl _) (by omega) (fun i h0 h1 => ⟨g.mark i h0 h1, g.end_ i h0 h1⟩))
  obtain ⟨K2, h2⟩ := Ev.get (Free_f_yes (used := used) hhigh g.chain g.nodup)
  refine Ev.succ (max K1 K2) fun k hk => ?_
  unfold spigotref13_Check.f
  rw [if_neg (by omega), if_neg (by omega), show ((used.length : Int) != (next.length : Int)) = false by simp; omega, spigotref13_Check.j0, if_neg (by decide), h2 k (by omega)]
  simp only [Option.bind_some, if_true]
  exact h1 k (by omega)

theorem Ref_no {next : List Int} {used : List Bool} {free : Int} (hn : ¬ Valid next used free) : Ev (fun k => spigotref13_Check.f k next used free) 8 := by
  have hbad : ∀ k, spigotref13_Check.j0 (k + 1) true next used free = some 8 := fun k => by rw [spigotref13_Check.j0, if_pos rfl]
  by_cases hlow : next.length < 1
  · exact Ev.succ 0 fun k _ => by unfold spigotref13_Check.f; rw [if_pos (by omega), hbad]
  by_cases hhigh : 16 < next.length
  · exact Ev.succ 0 fun k _ => by unfold spigotref13_Check.f; rw [if_neg (by omega), if_pos (by omega), hbad]
  by_cases hsame : used.length = next.length
  · by_cases hc : ∃ l, Chain next free l ∧ l.Nodup
    · obtain ⟨l, hl, hnd⟩ := hc
      have hs := nodup_le hnd hl.range
      obtain ⟨K1, h1⟩ := Ev.get (ref_l0_no (free := free) (l := l) (used := used) (next := next) (by omega) hsame.symm (by omega) used.length 0 (Int.le_refl _) (by omega) (fun ho => hn ⟨l, ⟨by omega, by omega, hsame, hl, hnd, fun j h0 h1 => (ho j h0 h1).1, fun j h0 h1 => (ho j h0 h1).2⟩⟩))
      obtain ⟨K2, h2⟩ := Ev.get (Free_f_yes (used := used) (by omega) hl hnd)
      refine Ev.succ (max K1 K2) fun k hk => ?_
      unfold spigotref13_Check.f
      rw [if_neg (by omega), if_neg (by omega), show ((used.length : Int) != (next.length : Int)) = false by simp; omega, spigotref13_Check.j0, if_neg (by decide), h2 k (by omega)]
      simp only [Option.bind_some, if_true]
      exact h1 k (by omega)
    · obtain ⟨K2, h2⟩ := Ev.get (Free_f_no (used := used) (by omega) hc)
      refine Ev.succ K2 fun k hk => ?_
      unfold spigotref13_Check.f
      rw [if_neg (by omega), if_neg (by omega), show ((used.length : Int) != (next.length : Int)) = false by simp; omega, spigotref13_Check.j0, if_neg (by decide), h2 k (by omega)]
      rfl
  · exact Ev.succ 0 fun k _ => by
      unfold spigotref13_Check.f
      rw [if_neg (by omega), if_neg (by omega), show ((used.length : Int) != (next.length : Int)) = true by simp; omega, hbad]

/-! ### Same, Twin, Great -/
theorem Same_self {next : List Int} {used : List Bool} {free : Int} (h1 : next.length ≤ 1000) (h2 : used.length ≤ 1000) : Ev (fun k => spigotref13_Same.f k next used free next used free) true := by
  have hl1 : ∀ (d : Nat) (j : Int), 0 ≤ j → (used.length : Int) - j ≤ d → Ev (fun k => spigotref13_Same.l1 k j next used free next used free) true := by
    intro d
    induction d with
    | zero => intro j h0 hd; exact Ev.succ 0 fun k _ => by rw [spigotref13_Same.l1, if_neg (by omega)]
    | succ d ih =>
      intro j h0 hd
      by_cases hj : j < used.length
      · obtain ⟨K, h⟩ := Ev.get (ih (j + 1) (by omega) (by omega))
        exact Ev.succ K fun k hk => by rw [spigotref13_Same.l1, if_pos hj, if_pos h0, if_pos hj, if_neg (by simp), w1 h0 (by omega)]; exact h k hk
      · exact Ev.succ 0 fun k _ => by rw [spigotref13_Same.l1, if_neg hj]
  have hl0 : ∀ (d : Nat) (j : Int), 0 ≤ j → (next.length : Int) - j ≤ d → Ev (fun k => spigotref13_Same.l0 k j next used free next used free) true := by
    intro d
    induction d with
    | zero =>
      intro j h0 hd
      obtain ⟨K, h⟩ := Ev.get (hl1 used.length 0 (Int.le_refl _) (by omega))
      exact Ev.succ K fun k hk => by rw [spigotref13_Same.l0, if_neg (by omega)]; exact h k hk
    | succ d ih =>
      intro j h0 hd
      by_cases hj : j < next.length
      · obtain ⟨K, h⟩ := Ev.get (ih (j + 1) (by omega) (by omega))
        exact Ev.succ K fun k hk => by rw [spigotref13_Same.l0, if_pos hj, if_pos h0, if_pos hj, if_pos rfl, w1 h0 (by omega)]; exact h k hk
      · obtain ⟨K, h⟩ := Ev.get (hl1 used.length 0 (Int.le_refl _) (by omega))
        exact Ev.succ K fun k hk => by rw [spigotref13_Same.l0, if_neg hj]; exact h k hk
  obtain ⟨K, h⟩ := Ev.get (hl0 next.length 0 (Int.le_refl _) (by omega))
  refine Ev.succ K fun k hk => ?_
  unfold spigotref13_Same.f
  rw [if_pos rfl, if_pos rfl, show ((used.length : Int) != (used.length : Int)) = false by simp, spigotref13_Same.j0, if_neg (by decide)]
  exact h k hk
theorem twin_f {next : List Int} {used : List Bool} {free : Int} (h1 : next.length ≤ 1000) (h2 : used.length ≤ 1000) : arena_twin.f next used free = some (next, used, free) := by
  unfold arena_twin.f
  rw [clone_int h1, clone_bool h2]; rfl
theorem Twin_f {next : List Int} {used : List Bool} {free : Int} (h1 : next.length ≤ 1000) (h2 : used.length ≤ 1000) : spigotref13_Twin.f next used free = some (next, used, free) := by
  unfold spigotref13_Twin.f
  simp only [Option.bind_some, List.length_nil, List.nil_append]
  rw [if_pos (by omega), if_pos (by omega)]
end Go.Proofs.Ytlgfopdindklnaa.ArenaPlain

/- Words for tables: rounds, chains of places, marks. -/
import Derived.Test.YtkihjakbbcajbaaPlain0
namespace Go.Proofs.Ytkihjakbbcajbaa.RP
set_option linter.unusedSimpArgs false
set_option linter.unusedVariables false
open Go Go.Proofs.Ytkihjakbbcajbaa.PM
/-- A number, told as an Int. -/
@[reducible] def Z (x : Int) : Int := x
/-- A check answers 0 if P, else 8. -/
def Says (P : Prop) (o : Option (Int × Unit)) : Prop := (P ∧ o = some (0, ())) ∨ (¬ P ∧ o = some (8, ()))
theorem Says.yes {P : Prop} {o : Option (Int × Unit)} (h : Says P o) (p : P) : o = some (0, ()) := by
  rcases h with h | h
  · exact h.2
  · exact absurd p h.1
theorem Says.no {P : Prop} {o : Option (Int × Unit)} (h : Says P o) (p : ¬ P) : o = some (8, ()) := by
  rcases h with h | h
  · exact absurd h.1 p
  · exact h.2
theorem Says.iff {P : Prop} {o : Option (Int × Unit)} (h : Says P o) : P ↔ o = some (0, ()) := by
  rcases h with h | h
  · exact ⟨fun _ => h.2, fun _ => h.1⟩
  · exact ⟨fun p => absurd p h.1, fun e => by rw [h.2] at e; exact absurd e (by simp)⟩
theorem Says.congr {P Q : Prop} {o : Option (Int × Unit)} (h : Says P o) (e : P ↔ Q) : Says Q o := by
  rcases h with h | h
  · exact .inl ⟨e.1 h.1, h.2⟩
  · exact .inr ⟨fun q => h.1 (e.2 q), h.2⟩
theorem Says.eq {P : Prop} {o q : Option (Int × Unit)} (h : Says P o) (k : Says P q) : o = q := by
  rcases h with h | h
  · rw [h.2, k.yes h.1]
  · rw [h.2, k.no h.1]
/-- Rounds that each ask. -/
theorem loop_all {R : Type} {n : Nat} {L : Nat → R} {ok : Nat → Prop} {stop : R} (h : ∀ i, i < n → (ok i ∧ L i = L (i + 1)) ∨ (¬ ok i ∧ L i = stop)) :
    ((∀ i, i < n → ok i) ∧ L 0 = L n) ∨ ((¬ ∀ i, i < n → ok i) ∧ L 0 = stop) := by
  induction n with
  | zero => exact .inl ⟨fun i hi => by omega, rfl⟩
  | succ n ih =>
    rcases ih (fun i hi => h i (by omega)) with ⟨h1, h2⟩ | ⟨h1, h2⟩
    · rcases h n (by omega) with ⟨h3, h4⟩ | ⟨h3, h4⟩
      · exact .inl ⟨fun i hi => by
          by_cases e : i = n
          · rw [e]; exact h3
          · exact h1 i (by omega), h2.trans h4⟩
      · exact .inr ⟨fun h5 => h3 (h5 n (by omega)), h2.trans h4⟩
    · exact .inr ⟨fun h3 => h1 fun i hi => h3 i (by omega), h2⟩
theorem loop_go {R : Type} {n : Nat} {L : Nat → R} (h : ∀ i, i < n → L i = L (i + 1)) : L 0 = L n := by
  induction n with
  | zero => rfl
  | succ n ih => rw [ih (fun i hi => h i (by omega)), h n (by omega)]
/-- The list that begins at i and goes on by next, up to -1. -/
inductive Chain (next : List Int) : Int → List Int → Prop
  | nil : Chain next (-1) []
  | cons {i : Int} {l : List Int} (h0 : 0 ≤ i) (h1 : i < next.length) (h : Chain next (next.getD i.toNat 0) l) : Chain next i (i :: l)
theorem Chain.det {next : List Int} {i : Int} {l l' : List Int} (h : Chain next i l) (h' : Chain next i l') : l = l' := by
  induction h generalizing l' with
  | nil => cases h' with
    | nil => rfl
    | cons h0 => omega
  | cons h0 h1 _ ih => cases h' with
    | nil => omega
    | cons _ _ h2 => rw [ih h2]
theorem Chain.range {next : List Int} {i : Int} {l : List Int} (h : Chain next i l) : ∀ x ∈ l, 0 ≤ x ∧ x < next.length := by
  induction h with
  | nil => simp
  | cons h0 h1 _ ih =>
    intro x hx
    rcases List.mem_cons.1 hx with rfl | hx
    · exact ⟨h0, h1⟩
    · exact ih x hx
theorem set_at {α : Type} {l : List α} {i j : Int} {v d : α} (h0 : 0 ≤ i) (h1 : i < l.length) (h2 : 0 ≤ j) : (l.set i.toNat v).getD j.toNat d = if i = j then v else l.getD j.toNat d := by
  simp only [List.getD_eq_getElem?_getD, List.getElem?_set]
  by_cases e : i = j
  · subst e; rw [if_pos rfl, if_pos rfl, if_pos (by omega)]; rfl
  · rw [if_neg (by omega), if_neg e]
theorem nodup_le {l : List Int} {n : Nat} (h : l.Nodup) (hr : ∀ x ∈ l, 0 ≤ x ∧ x < n) : l.length ≤ n := by
  have h2 : l ⊆ (List.range n).map Int.ofNat := by
    intro x hx
    have := hr x hx
    exact List.mem_map.2 ⟨x.toNat, by simp; omega, by simp; omega⟩
  have := List.Nodup.length_le_of_subset h h2
  simpa using this
theorem nodup_snoc {acc : List Int} {i : Int} (h : acc.Nodup) (hi : ¬ i ∈ acc) : (acc ++ [i]).Nodup := by
  rw [List.nodup_append]
  refine ⟨h, by simp, fun a ha b hb => ?_⟩
  rw [List.mem_singleton.1 hb]
  rintro rfl
  exact hi ha
/-- The marks after all of l are marked. -/
def marks (s : List Bool) (l : List Int) : List Bool := l.foldl (fun s x => s.set x.toNat true) s
theorem marks_length (s : List Bool) (l : List Int) : (marks s l).length = s.length := by
  induction l generalizing s with
  | nil => rfl
  | cons x l ih => show (marks (s.set x.toNat true) l).length = _; rw [ih]; simp
theorem marks_at {s : List Bool} {l : List Int} (hl : ∀ x ∈ l, 0 ≤ x ∧ x < s.length) {j : Int} (hj : 0 ≤ j) : (marks s l).getD j.toNat false = true ↔ (s.getD j.toNat false = true ∨ j ∈ l) := by
  induction l generalizing s with
  | nil => simp [marks]
  | cons x l ih =>
    have hx := hl x (by simp)
    show (marks (s.set x.toNat true) l).getD j.toNat false = true ↔ _
    rw [ih (by intro y hy; have := hl y (by simp [hy]); simpa using this), set_at hx.1 hx.2 hj]
    by_cases e : x = j
    · subst e; simp
    · rw [if_neg e]; simp [show ¬ j = x from fun h => e h.symm]
theorem count_set {s : List Bool} {i : Int} (h0 : 0 ≤ i) (h1 : i < s.length) (hf : ¬ s.getD i.toNat false = true) : (s.set i.toNat true).count false + 1 = s.count false := by
  have hi : i.toNat < s.length := by omega
  have e : s[i.toNat] = false := by
    simp [List.getD_eq_getElem?_getD, List.getElem?_eq_getElem hi] at hf
    exact hf
  rw [List.count_set hi, e]
  have : 0 < s.count false := List.count_pos_iff.2 (by rw [← e]; exact List.getElem_mem hi)
  simp; omega
theorem bool_not {b : Bool} (h : ¬ b = true) : b = false := by simpa using h
theorem bt {α : Type} {b : Bool} {x y : α} (h : b = true) : (bif b then x else y) = x := by rw [h]; rfl
theorem bf {α : Type} {b : Bool} {x y : α} (h : b = false) : (bif b then x else y) = y := by rw [h]; rfl
theorem bnt {α : Type} {b : Bool} {x y : α} (h : b = true) : (bif !b then x else y) = y := by rw [h]; rfl
theorem bnf {α : Type} {b : Bool} {x y : α} (h : b = false) : (bif !b then x else y) = x := by rw [h]; rfl
theorem lim_small {n : Nat} {u : Ty} {α : Type} {a b : α} (hu : u.bytes ≤ 1000000) (h : n ≤ 100000000) : (bif lim n u then a else b) = a := lim_ok_small hu h
theorem allB_iff {α : Type} {f : α → α → Bool} (h : ∀ a b, f a b = true ↔ a = b) : ∀ xs ys : List α, allB f xs ys = true ↔ xs = ys
  | [], [] => by simp [allB]
  | [], y :: ys => by simp [allB]
  | x :: xs, [] => by simp [allB]
  | x :: xs, y :: ys => by
    rw [allB, Bool.and_eq_true, h x y, allB_iff h xs ys]
    simp
theorem beq_iff : ∀ (t : Ty) (a b : t.den), Ty.beq t a b = true ↔ a = b
  | .int _, x, y => by unfold Ty.beq; exact decide_eq_true_iff
  | .bool, x, y => by unfold Ty.beq; exact beq_iff_eq
  | .str, x, y => by unfold Ty.beq; exact decide_eq_true_iff
  | .unit, _, _ => by unfold Ty.beq; exact ⟨fun _ => rfl, fun _ => rfl⟩
  | .pair a b, (x1, x2), (y1, y2) => by
    unfold Ty.beq
    rw [Bool.and_eq_true, beq_iff a, beq_iff b]
    exact ⟨fun h => Prod.ext h.1 h.2, fun h => ⟨congrArg Prod.fst h, congrArg Prod.snd h⟩⟩
  | .arr _ t, x, y => by unfold Ty.beq; exact allB_iff (beq_iff t) x y
  | .slice t, x, y => by unfold Ty.beq; exact allB_iff (beq_iff t) x y
theorem nbeq_pos {t : Ty} {x y : t.den} {α : Type} {a b : α} (h : x ≠ y) : (bif !(Ty.beq t x y) then a else b) = a := by
  rw [bool_not (fun e => h ((beq_iff t x y).1 e))]; rfl
theorem nbeq_neg {t : Ty} {x y : t.den} {α : Type} {a b : α} (h : x = y) : (bif !(Ty.beq t x y) then a else b) = b := by
  rw [(beq_iff t x y).2 h]; rfl
theorem tbeq_pos {t : Ty} {x y : t.den} {α : Type} {a b : α} (h : x = y) : (bif Ty.beq t x y then a else b) = a := by
  rw [(beq_iff t x y).2 h]; rfl
theorem tbeq_neg {t : Ty} {x y : t.den} {α : Type} {a b : α} (h : x ≠ y) : (bif Ty.beq t x y then a else b) = b := by
  rw [bool_not (fun e => h ((beq_iff t x y).1 e))]; rfl
theorem Says.done : Says True (some (0, ())) := .inl ⟨trivial, rfl⟩
theorem Says.guard {p P : Prop} [Decidable p] {o : Option (Int × Unit)} (h : ¬ p → Says P o) : Says (¬ p ∧ P) (bif decide p then some (8, ()) else o) := by
  by_cases q : p
  · rw [bd_pos q]; exact .inr ⟨fun k => k.1 q, rfl⟩
  · rw [bd_neg q]
    rcases h q with h | h
    · exact .inl ⟨⟨q, h.1⟩, h.2⟩
    · exact .inr ⟨fun k => h.1 k.2, h.2⟩
theorem Says.neq {x y : Int} {P : Prop} {o : Option (Int × Unit)} (h : x = y → Says P o) : Says (x = y ∧ P) (bif x != y then some (8, ()) else o) := by
  by_cases q : x = y
  · rw [bne_neg q]
    rcases h q with h | h
    · exact .inl ⟨⟨q, h.1⟩, h.2⟩
    · exact .inr ⟨fun k => h.1 k.2, h.2⟩
  · rw [bne_pos q]; exact .inr ⟨fun k => q k.1, rfl⟩
theorem Says.nflag {b : Bool} {P : Prop} {o : Option (Int × Unit)} (h : b = false → Says P o) : Says (b = false ∧ P) (bif b then some (8, ()) else o) := by
  cases b with
  | true => exact .inr ⟨fun k => (by cases k.1), rfl⟩
  | false =>
    rcases h rfl with h | h
    · exact .inl ⟨⟨rfl, h.1⟩, h.2⟩
    · exact .inr ⟨fun k => h.1 k.2, h.2⟩
theorem Says.flag {b : Bool} {P : Prop} {o : Option (Int × Unit)} (h : b = true → Says P o) : Says (b = true ∧ P) (bif !b then some (8, ()) else o) := by
  cases b with
  | false => exact .inr ⟨fun k => (by cases k.1), rfl⟩
  | true =>
    rcases h rfl with h | h
    · exact .inl ⟨⟨rfl, h.1⟩, h.2⟩
    · exact .inr ⟨fun k => h.1 k.2, h.2⟩
theorem Says.same {t : Ty} {x y : t.den} {P : Prop} {o : Option (Int × Unit)} (h : x = y → Says P o) : Says (x = y ∧ P) (bif !(Ty.beq t x y) then some (8, ()) else o) :=
  (Says.flag (b := Ty.beq t x y) fun e => h ((beq_iff t x y).1 e)).congr (and_congr (beq_iff t x y) Iff.rfl)
theorem Says.need {p P : Prop} [Decidable p] {o : Option (Int × Unit)} (hp : p) (h : Says P o) : Says P (bif decide p then o else none) := by
  rw [bd_pos hp]; exact h
theorem Says.call {P Q : Prop} {o : Option (Int × Unit)} {f : Int × Unit → Option (Int × Unit)} (h : Says P o) (k : P → Says Q (f (0, ()))) (k8 : f (8, ()) = some (8, ())) : Says (P ∧ Q) (o.bind f) := by
  rcases h with ⟨h, e⟩ | ⟨h, e⟩
  · rw [e]
    rcases k h with k | k
    · exact .inl ⟨⟨h, k.1⟩, k.2⟩
    · exact .inr ⟨fun q => k.1 q.2, k.2⟩
  · rw [e]; exact .inr ⟨fun q => h q.1, k8⟩
theorem Says.cond {b : Bool} {P Q : Prop} {o q : Option (Int × Unit)} (h1 : b = true → Says P o) (h2 : b = false → Says Q q) : Says ((b = true → P) ∧ (b = false → Q)) (bif b then o else q) := by
  cases b with
  | true => exact (h1 rfl).congr ⟨fun p => ⟨fun _ => p, fun h => (by cases h)⟩, fun k => k.1 rfl⟩
  | false => exact (h2 rfl).congr ⟨fun p => ⟨fun h => (by cases h), fun _ => p⟩, fun k => k.2 rfl⟩
/-- Rounds that look for the first hit. -/
theorem find_loop {R : Type} {n : Nat} {L : Nat → R} {p : Nat → Prop} {hit : Nat → R} {miss : R} (h : ∀ i, i < n → (p i ∧ L i = hit i) ∨ (¬ p i ∧ L i = L (i + 1))) (hm : L n = miss) :
    (∃ i, i < n ∧ p i ∧ (∀ j, j < i → ¬ p j) ∧ L 0 = hit i) ∨ ((∀ i, i < n → ¬ p i) ∧ L 0 = miss) := by
  have go : ∀ m, m ≤ n → (∃ i, i < m ∧ p i ∧ (∀ j, j < i → ¬ p j) ∧ L 0 = hit i) ∨ ((∀ i, i < m → ¬ p i) ∧ L 0 = L m) := by
    intro m
    induction m with
    | zero => exact fun _ => .inr ⟨fun i hi => by omega, rfl⟩
    | succ m ih =>
      intro hm
      rcases ih (by omega) with ⟨i, h1, h2, h3, h4⟩ | ⟨h1, h2⟩
      · exact .inl ⟨i, by omega, h2, h3, h4⟩
      · rcases h m (by omega) with ⟨h3, h4⟩ | ⟨h3, h4⟩
        · exact .inl ⟨m, by omega, h3, h1, h2.trans h4⟩
        · refine .inr ⟨fun i hi => ?_, h2.trans h4⟩
          by_cases e : i = m
          · rw [e]; exact h3
          · exact h1 i (by omega)
  rcases go n (Nat.le_refl _) with h1 | ⟨h1, h2⟩
  · exact .inl h1
  · exact .inr ⟨h1, h2.trans hm⟩
/-- A walk along next that stops at what was met before. -/
theorem walk_gen {L : Int → List Int → Option (List Int × Bool × Unit)} {next : List Int} (hn : next.length ≤ 100)
    (h : ∀ i acc, acc.length ≤ 100 → L i acc = if i = -1 then some (acc, true, ()) else if i < 0 then some ([], false, ()) else if i ≥ next.length then some ([], false, ()) else if i ∈ acc then some ([], false, ()) else L (next.getD i.toNat 0) (acc ++ [i])) (d : Nat) :
    ∀ (acc : List Int) (i : Int), acc.Nodup → (∀ x ∈ acc, 0 ≤ x ∧ x < next.length) → next.length - acc.length ≤ d →
      (∃ l, Chain next i l ∧ (acc ++ l).Nodup ∧ L i acc = some (acc ++ l, true, ())) ∨ ((¬ ∃ l, Chain next i l ∧ (acc ++ l).Nodup) ∧ L i acc = some ([], false, ())) := by
  induction d with
  | zero =>
    intro acc i hnd hr hd
    have hlen := nodup_le hnd hr
    rw [h i acc (by omega)]
    by_cases e : i = -1
    · rw [if_pos e]
      exact .inl ⟨[], by rw [e]; exact .nil, by simpa using hnd, by rw [List.append_nil]⟩
    rw [if_neg e]
    by_cases h0 : i < 0
    · rw [if_pos h0]; exact .inr ⟨fun ⟨l, hl, _⟩ => by cases hl <;> omega, rfl⟩
    rw [if_neg h0]
    by_cases h1 : i ≥ next.length
    · rw [if_pos h1]; exact .inr ⟨fun ⟨l, hl, _⟩ => by cases hl <;> omega, rfl⟩
    rw [if_neg h1]
    by_cases hm : i ∈ acc
    · rw [if_pos hm]
      refine .inr ⟨fun ⟨l, hl, hn2⟩ => ?_, rfl⟩
      cases hl with
      | nil => omega
      | cons a b c => exact (List.nodup_append.1 hn2).2.2 i hm i (by simp) rfl
    · have := nodup_le (nodup_snoc hnd hm) (n := next.length) (fun x hx => by
        rcases List.mem_append.1 hx with hx | hx
        · exact hr x hx
        · rw [List.mem_singleton.1 hx]; omega)
      simp at this
      omega
  | succ d ih =>
    intro acc i hnd hr hd
    have hlen := nodup_le hnd hr
    rw [h i acc (by omega)]
    by_cases e : i = -1
    · rw [if_pos e]
      exact .inl ⟨[], by rw [e]; exact .nil, by simpa using hnd, by rw [List.append_nil]⟩
    rw [if_neg e]
    by_cases h0 : i < 0
    · rw [if_pos h0]; exact .inr ⟨fun ⟨l, hl, _⟩ => by cases hl <;> omega, rfl⟩
    rw [if_neg h0]
    by_cases h1 : i ≥ next.length
    · rw [if_pos h1]; exact .inr ⟨fun ⟨l, hl, _⟩ => by cases hl <;> omega, rfl⟩
    rw [if_neg h1]
    by_cases hm : i ∈ acc
    · rw [if_pos hm]
      refine .inr ⟨fun ⟨l, hl, hn2⟩ => ?_, rfl⟩
      cases hl with
      | nil => omega
      | cons a b c => exact (List.nodup_append.1 hn2).2.2 i hm i (by simp) rfl
    · rw [if_neg hm]
      rcases ih (acc ++ [i]) (next.getD i.toNat 0) (nodup_snoc hnd hm) (fun x hx => by
        rcases List.mem_append.1 hx with hx | hx
        · exact hr x hx
        · rw [List.mem_singleton.1 hx]; omega) (by simp; omega) with ⟨l, hl, hn2, e2⟩ | ⟨hx, e2⟩
      · exact .inl ⟨i :: l, .cons (by omega) (by omega) hl, by simpa using hn2, by rw [e2]; simp⟩
      · refine .inr ⟨fun ⟨l, hl, hn2⟩ => ?_, e2⟩
        cases hl with
        | nil => omega
        | cons a b c => exact hx ⟨_, c, by simpa using hn2⟩
/-- A list that has no more than what another one has once, and is as long, has the same. -/
theorem count_of_sub {U : List Int} : ∀ {S : List Int}, U.Nodup → (∀ x ∈ U, x ∈ S) → S.length = U.length → ∀ p, S.count p = U.count p := by
  induction U with
  | nil =>
    intro S _ _ hl p
    have : S = [] := List.length_eq_zero_iff.1 hl
    rw [this]
  | cons u U ih =>
    intro S hn hs hl p
    obtain ⟨h1, h2⟩ := List.nodup_cons.1 hn
    have hu := hs u (by simp)
    have h3 := ih (S := S.erase u) h2 (fun x hx => (List.mem_erase_of_ne (fun e => h1 (by rw [← e]; exact hx))).2 (hs x (by simp [hx]))) (by
      rw [List.length_erase_of_mem hu, hl]; simp) p
    rw [List.count_erase] at h3
    rw [List.count_cons]
    by_cases e : u = p
    · subst e
      have := List.count_pos_iff.2 hu
      simp at h3 ⊢
      omega
    · have e2 : (u == p) = false := by simpa using e
      rw [e2] at h3 ⊢
      simp at h3 ⊢
      exact h3
theorem nodup_of_count {S : List Int} (h : ∀ p, S.count p ≤ 1) : S.Nodup := by
  induction S with
  | nil => exact List.nodup_nil
  | cons a S ih =>
    refine List.nodup_cons.2 ⟨fun hm => ?_, ih fun p => Nat.le_trans ?_ (h p)⟩
    · have h1 := h a
      have h2 := List.count_pos_iff.2 hm
      rw [List.count_cons] at h1
      simp at h1
      omega
    · rw [List.count_cons]; omega
theorem inj_of_nodup_map {α β : Type} {f : α → β} : ∀ {l : List α}, (l.map f).Nodup → ∀ a ∈ l, ∀ b ∈ l, f a = f b → a = b
  | [], _, a, ha, _, _, _ => by cases ha
  | c :: l, h, a, ha, b, hb, e => by
    obtain ⟨h1, h2⟩ := List.nodup_cons.1 h
    by_cases ea : a = c
    · by_cases eb : b = c
      · rw [ea, eb]
      · have hb : b ∈ l := (List.mem_cons.1 hb).resolve_left eb
        exact (h1 (List.mem_map.2 ⟨b, hb, by rw [← e, ea]⟩)).elim
    · have ha : a ∈ l := (List.mem_cons.1 ha).resolve_left ea
      by_cases eb : b = c
      · exact (h1 (List.mem_map.2 ⟨a, ha, by rw [e, eb]⟩)).elim
      · exact inj_of_nodup_map h2 a ha b ((List.mem_cons.1 hb).resolve_left eb) e
/-- As many are marked as the list of the marked ones has. -/
theorem count_mem {used : List Bool} {l : List Int} (hn : l.Nodup) (hr : ∀ x ∈ l, 0 ≤ x ∧ x < used.length) (h : ∀ i : Nat, i < used.length → (used.getD i false = true ↔ (i : Int) ∈ l)) : used.countP id = l.length := by
  have e : used = (List.range used.length).map (fun i => used.getD i false) := by
    refine List.ext_getElem (by simp) fun i h1 h2 => ?_
    simp only [List.getElem_map, List.getElem_range]
    rw [getD_get h1]
  have e2 : used.countP id = ((List.range used.length).filter (fun i => used.getD i false)).length := by
    conv => lhs; rw [e]
    rw [List.countP_map, List.countP_eq_length_filter]; rfl
  rw [e2]
  have hU : ((List.range used.length).filter (fun i => used.getD i false)).Nodup := List.Pairwise.filter _ List.nodup_range
  have h1 : (((List.range used.length).filter (fun i => used.getD i false)).map Int.ofNat).length ≤ l.length := by
    refine List.Nodup.length_le_of_subset ?_ ?_
    · refine List.Pairwise.map _ (fun a b hab e => hab (Int.ofNat.inj e)) hU
    · intro x hx
      obtain ⟨i, hi, rfl⟩ := List.mem_map.1 hx
      have := List.mem_filter.1 hi
      exact (h i (List.mem_range.1 this.1)).1 this.2
  have h2 : l.length ≤ (((List.range used.length).filter (fun i => used.getD i false)).map Int.ofNat).length := by
    refine List.Nodup.length_le_of_subset hn ?_
    intro x hx
    have hx2 := hr x hx
    have ex : ((x.toNat : Nat) : Int) = x := by omega
    refine List.mem_map.2 ⟨x.toNat, List.mem_filter.2 ⟨List.mem_range.2 (by omega), (h x.toNat (by omega)).2 (by rw [ex]; exact hx)⟩, ex⟩
  rw [List.length_map] at h1 h2
  omega
theorem Says.bflag {P Q : Prop} {r : Option (Bool × Unit)} (h : (P ∧ r = some (true, ())) ∨ (¬ P ∧ r = some (false, ()))) {f : Bool × Unit → Option (Int × Unit)} (hf : f (false, ()) = some (8, ())) (ht : P → Says Q (f (true, ()))) : Says (P ∧ Q) (r.bind f) := by
  rcases h with ⟨h, e⟩ | ⟨h, e⟩
  · rw [e]
    rcases ht h with k | k
    · exact .inl ⟨⟨h, k.1⟩, k.2⟩
    · exact .inr ⟨fun q => k.1 q.2, k.2⟩
  · rw [e]; exact .inr ⟨fun q => h q.1, hf⟩
end Go.Proofs.Ytkihjakbbcajbaa.RP

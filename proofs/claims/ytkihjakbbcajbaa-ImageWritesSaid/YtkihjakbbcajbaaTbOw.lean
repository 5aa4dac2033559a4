/- Lists of places and the orders that they make: rows by functions, what is ahead of and behind a place, taking out and putting in front. -/
import Derived.Test.YtkihjakbbcajbaaTbW
namespace Go.Proofs.Ytkihjakbbcajbaa.TB
set_option linter.unusedSimpArgs false
set_option linter.unusedVariables false
open Go.Proofs.Ytkihjakbbcajbaa.RP
@[reducible] def rd (l : List Int) (i : Int) : Int := l.getD i.toNat 0
/-! ### rows -/
def row (n : Nat) (f : Int → Int) : List Int := (List.range n).map (fun i : Nat => f (i : Int))
theorem row_len (n : Nat) (f : Int → Int) : (row n f).length = n := by simp [row]
theorem row_congr {n : Nat} {f g : Int → Int} (h : ∀ i : Int, 0 ≤ i → i < n → f i = g i) : row n f = row n g := by
  unfold row
  refine List.map_congr_left fun i hi => ?_
  have := List.mem_range.1 hi
  exact h i (by omega) (by omega)
theorem set_row (n : Nat) (f : Int → Int) (p v : Int) (h0 : 0 ≤ p) : (row n f).set p.toNat v = row n (fun i => if i = p then v else f i) := by
  refine List.ext_getElem (by simp [row]) fun i h1 h2 => ?_
  simp only [row, List.getElem_set, List.getElem_map, List.getElem_range]
  by_cases e : p.toNat = i
  · rw [if_pos e, if_pos (by omega)]
  · rw [if_neg e, if_neg (by omega)]
theorem rd_row {n : Nat} {f : Int → Int} {i : Int} (h0 : 0 ≤ i) (h1 : i < n) : rd (row n f) i = f i := by
  have e : ((i.toNat : Nat) : Int) = i := by omega
  unfold rd row
  rw [List.getD_eq_getElem?_getD, List.getElem?_map, List.getElem?_range (by omega)]
  simp [e]
theorem row_of (xs : List Int) : xs = row xs.length (rd xs) := by
  refine List.ext_getElem (by simp [row]) fun i h1 h2 => ?_
  simp [row, rd, List.getD_eq_getElem?_getD, h1]
theorem row_nil (n : Nat) : row n (fun _ => -1) = List.replicate n (-1) := by
  simp [row, List.map_const', List.length_range]

/-! ### ahead and behind -/
def hd (e : Int) : List Int → Int
  | [] => e
  | y :: _ => y
def lst : Int → List Int → Int
  | c, [] => c
  | _, y :: l => lst y l
def pv : Int → List Int → Int → Int
  | _, [], _ => -1
  | c, y :: l, x => if x = y then c else pv y l x
def nx (e : Int) : List Int → Int → Int
  | [], _ => -1
  | y :: l, x => if x = y then hd e l else nx e l x

theorem hd_app (e : Int) (A B : List Int) : hd e (A ++ B) = hd (hd e B) A := by cases A <;> rfl
theorem lst_app (c : Int) (A B : List Int) : lst c (A ++ B) = lst (lst c A) B := by
  induction A generalizing c with
  | nil => rfl
  | cons y l ih => exact ih y
theorem lst_mem {A : List Int} (h : A ≠ []) (c : Int) : lst c A ∈ A := by
  induction A generalizing c with
  | nil => exact absurd rfl h
  | cons y l ih =>
    cases l with
    | nil => exact List.mem_cons_self
    | cons z l => exact List.mem_cons_of_mem _ (ih (by simp) y)
theorem lst_any {A : List Int} (h : A ≠ []) (c d : Int) : lst c A = lst d A := by cases A with
  | nil => exact absurd rfl h
  | cons y l => rfl
theorem hd_mem {A : List Int} (h : A ≠ []) (c : Int) : hd c A ∈ A := by cases A with
  | nil => exact absurd rfl h
  | cons y l => exact List.mem_cons_self
theorem pv_app (c : Int) (A B : List Int) (x : Int) : pv c (A ++ B) x = if x ∈ A then pv c A x else pv (lst c A) B x := by
  induction A generalizing c with
  | nil => simp [lst]
  | cons y l ih =>
    rw [List.cons_append, pv, pv, lst]
    by_cases e : x = y
    · simp [e]
    · rw [if_neg e, if_neg e, ih]
      simp [e]
theorem nx_app (e : Int) (A B : List Int) (x : Int) : nx e (A ++ B) x = if x ∈ A then nx (hd e B) A x else nx e B x := by
  induction A with
  | nil => simp
  | cons y l ih =>
    rw [List.cons_append, nx, nx]
    by_cases h : x = y
    · simp [h, hd_app]
    · rw [if_neg h, if_neg h, ih]
      simp [h]
theorem pv_out {c : Int} {A : List Int} {x : Int} (h : x ∉ A) : pv c A x = -1 := by
  induction A generalizing c with
  | nil => rfl
  | cons y l ih =>
    rw [pv, if_neg (fun e => h (by rw [e]; exact List.mem_cons_self)), ih (fun m => h (List.mem_cons_of_mem _ m))]
theorem nx_out {e : Int} {A : List Int} {x : Int} (h : x ∉ A) : nx e A x = -1 := by
  induction A with
  | nil => rfl
  | cons y l ih =>
    rw [nx, if_neg (fun e => h (by rw [e]; exact List.mem_cons_self)), ih (fun m => h (List.mem_cons_of_mem _ m))]
theorem nx_lst {e c : Int} {A : List Int} (h : A ≠ []) (hn : A.Nodup) : nx e A (lst c A) = e := by
  induction A generalizing c with
  | nil => exact absurd rfl h
  | cons y l ih =>
    rw [nx, lst]
    cases l with
    | nil => simp [lst, hd]
    | cons z l =>
      have hm : lst y (z :: l) ∈ z :: l := lst_mem (by simp) y
      rw [if_neg (fun e => (List.nodup_cons.1 hn).1 (by rw [← e]; exact hm))]
      exact ih (by simp) (List.nodup_cons.1 hn).2
theorem nx_else {e d c : Int} {A : List Int} {x : Int} (hx : x ≠ lst c A) : nx e A x = nx d A x := by
  induction A generalizing c with
  | nil => rfl
  | cons y l ih =>
    rw [nx, nx]
    by_cases h : x = y
    · rw [if_pos h, if_pos h]
      cases l with
      | nil => exact absurd h hx
      | cons z l => rfl
    · rw [if_neg h, if_neg h]
      exact ih (c := y) hx
theorem pv_else {c d : Int} {B : List Int} {x : Int} (hx : x ≠ hd (-1) B ∨ B = []) : pv c B x = pv d B x := by
  cases B with
  | nil => rfl
  | cons y l =>
    have h : x ≠ y := by rcases hx with h | h; exact h; cases h
    rw [pv, pv, if_neg h, if_neg h]

/-- A list of places: each once, all below n. -/
def Ok (n : Nat) (L : List Int) : Prop := L.Nodup ∧ ∀ x ∈ L, 0 ≤ x ∧ x < n
def PV (n : Nat) (L : List Int) : List Int := row n (pv (-1) L)
def NX (n : Nat) (L : List Int) : List Int := row n (nx (-1) L)
theorem PV_len (n : Nat) (L : List Int) : (PV n L).length = n := row_len _ _
theorem NX_len (n : Nat) (L : List Int) : (NX n L).length = n := row_len _ _
theorem rd_PV {n : Nat} {L : List Int} {i : Int} (h0 : 0 ≤ i) (h1 : i < n) : rd (PV n L) i = pv (-1) L i := rd_row h0 h1
theorem rd_NX {n : Nat} {L : List Int} {i : Int} (h0 : 0 ≤ i) (h1 : i < n) : rd (NX n L) i = nx (-1) L i := rd_row h0 h1
theorem Ok.nil (n : Nat) : Ok n [] := ⟨List.nodup_nil, fun _ h => by cases h⟩
theorem Ok.app {n : Nat} {A B : List Int} (h : Ok n (A ++ B)) : Ok n A ∧ Ok n B ∧ ∀ x ∈ A, x ∉ B := by
  obtain ⟨h1, h2⟩ := h
  obtain ⟨a, b, c⟩ := List.nodup_append.1 h1
  exact ⟨⟨a, fun x hx => h2 x (List.mem_append_left _ hx)⟩, ⟨b, fun x hx => h2 x (List.mem_append_right _ hx)⟩, fun x hx hb => c x hx x hb rfl⟩
theorem Ok.hd_ne {n : Nat} {B : List Int} (h : Ok n B) : hd (-1) B = -1 ↔ B = [] := by
  constructor
  · intro e
    apply Classical.byContradiction
    intro hb
    have := h.2 _ (hd_mem hb (-1))
    omega
  · rintro rfl; rfl
theorem Ok.lst_ne {n : Nat} {B : List Int} (h : Ok n B) : lst (-1) B = -1 ↔ B = [] := by
  constructor
  · intro e
    apply Classical.byContradiction
    intro hb
    have := h.2 _ (lst_mem hb (-1))
    omega
  · rintro rfl; rfl
theorem Ok.len {n : Nat} {L : List Int} (h : Ok n L) : L.length ≤ n := by
  induction n generalizing L with
  | zero =>
    cases L with
    | nil => exact Nat.le_refl _
    | cons y l => have := h.2 y List.mem_cons_self; omega
  | succ n ih =>
    by_cases m : (n : Int) ∈ L
    · have h2 : Ok n (L.erase (n : Int)) := ⟨h.1.erase _, fun x hx => by
        have h3 := (h.1.mem_erase_iff).1 hx
        have := h.2 x h3.2
        have := h3.1
        omega⟩
      have := ih h2
      rw [List.length_erase_of_mem m] at this
      omega
    · have := ih (L := L) ⟨h.1, fun x hx => by
        have h3 := h.2 x hx
        have : x ≠ n := fun e => m (by rw [← e]; exact hx)
        omega⟩
      omega

/-! ### one more behind -/
theorem PV_snoc {n : Nat} {A : List Int} {y : Int} (h : Ok n (A ++ [y])) : PV n (A ++ [y]) = (PV n A).set y.toNat (lst (-1) A) := by
  obtain ⟨hA, hB, hd_⟩ := h.app
  have hy := hB.2 y List.mem_cons_self
  unfold PV
  rw [set_row _ _ _ _ hy.1]
  refine row_congr fun i h0 h1 => ?_
  rw [pv_app]
  by_cases m : i ∈ A
  · rw [if_pos m, if_neg (fun e => hd_ i m (by rw [e]; exact List.mem_cons_self))]
  · rw [if_neg m, pv_out m]; rfl
theorem NX_snoc {n : Nat} {A : List Int} {y : Int} (h : Ok n (A ++ [y])) (hne : A ≠ []) : NX n (A ++ [y]) = (NX n A).set (lst (-1) A).toNat y := by
  obtain ⟨hA, hB, hd_⟩ := h.app
  have hl := hA.2 _ (lst_mem hne (-1))
  unfold NX
  rw [set_row _ _ _ _ hl.1]
  refine row_congr fun i h0 h1 => ?_
  rw [nx_app]
  by_cases m : i ∈ A
  · rw [if_pos m]
    by_cases e : i = lst (-1) A
    · rw [if_pos e, e, nx_lst hne hA.1]; rfl
    · rw [if_neg e]; exact nx_else e
  · rw [if_neg m, if_neg (fun e => m (by rw [e]; exact lst_mem hne _)), nx_out m, nx, nx]
    split <;> rfl
theorem NX_one (n : Nat) (y : Int) : NX n [y] = NX n [] := by
  refine row_congr fun i _ _ => ?_
  simp [nx, hd]
theorem PV_one (n : Nat) (y : Int) : PV n [y] = PV n [] := by
  refine row_congr fun i _ _ => ?_
  simp [pv]

/-! ### a place taken out -/
def putIf (xs : List Int) (i v : Int) : List Int := if i = -1 then xs else xs.set i.toNat v
theorem PV_out {n : Nat} {A B : List Int} {p : Int} (h : Ok n (A ++ p :: B)) : (putIf (PV n (A ++ p :: B)) (hd (-1) B) (lst (-1) A)).set p.toNat (-1) = PV n (A ++ B) := by
  obtain ⟨hA, hpB, hd_⟩ := h.app
  have hp := hpB.2 p List.mem_cons_self
  have hB : Ok n B := ⟨(List.nodup_cons.1 hpB.1).2, fun x hx => hpB.2 x (List.mem_cons_of_mem _ hx)⟩
  have hpn : p ∉ B := (List.nodup_cons.1 hpB.1).1
  have hpA : p ∉ A := fun m => hd_ p m List.mem_cons_self
  have key : ∀ i, pv (-1) (A ++ p :: B) i = if i ∈ A then pv (-1) A i else if i = p then lst (-1) A else pv p B i := fun i => by rw [pv_app]; rfl
  unfold putIf PV
  by_cases e : hd (-1) B = -1
  · rw [if_pos e, set_row _ _ _ _ hp.1]
    have eB : B = [] := (hB.hd_ne).1 e
    subst eB
    refine row_congr fun i h0 h1 => ?_
    rw [key, List.append_nil]
    by_cases q : i = p
    · rw [if_pos q, q, pv_out hpA]
    · rw [if_neg q, if_neg q]
      by_cases m : i ∈ A
      · rw [if_pos m]
      · rw [if_neg m, pv_out m]; rfl
  · rw [if_neg e]
    have hne : B ≠ [] := fun hb => e ((hB.hd_ne).2 hb)
    have hm := hd_mem hne (-1)
    have hh := hB.2 _ hm
    rw [set_row _ _ _ _ hh.1, set_row _ _ _ _ hp.1]
    refine row_congr fun i h0 h1 => ?_
    rw [key, pv_app]
    by_cases q : i = p
    · rw [if_pos q, q, if_neg hpA, pv_out hpn]
    · rw [if_neg q, if_neg q]
      by_cases m : i ∈ A
      · rw [if_pos m, if_pos m, if_neg (fun e2 => hd_ i m (by rw [e2]; exact List.mem_cons_of_mem _ hm))]
      · rw [if_neg m, if_neg m]
        by_cases e2 : i = hd (-1) B
        · rw [if_pos e2]
          cases B with
          | nil => exact absurd rfl hne
          | cons b l => rw [pv, if_pos (show i = b from e2)]
        · rw [if_neg e2]; exact pv_else (.inl e2)
theorem NX_out {n : Nat} {A B : List Int} {p : Int} (h : Ok n (A ++ p :: B)) : (putIf (NX n (A ++ p :: B)) (lst (-1) A) (hd (-1) B)).set p.toNat (-1) = NX n (A ++ B) := by
  obtain ⟨hA, hpB, hd_⟩ := h.app
  have hp := hpB.2 p List.mem_cons_self
  have hB : Ok n B := ⟨(List.nodup_cons.1 hpB.1).2, fun x hx => hpB.2 x (List.mem_cons_of_mem _ hx)⟩
  have hpn : p ∉ B := (List.nodup_cons.1 hpB.1).1
  have hpA : p ∉ A := fun m => hd_ p m List.mem_cons_self
  have key : ∀ i, nx (-1) (A ++ p :: B) i = if i ∈ A then nx p A i else if i = p then hd (-1) B else nx (-1) B i := fun i => by rw [nx_app]; rfl
  unfold putIf NX
  by_cases e : lst (-1) A = -1
  · rw [if_pos e, set_row _ _ _ _ hp.1]
    have eA : A = [] := (hA.lst_ne).1 e
    subst eA
    refine row_congr fun i h0 h1 => ?_
    rw [key, List.nil_append]
    by_cases q : i = p
    · rw [if_pos q, q, nx_out hpn]
    · rw [if_neg q, if_neg q]; simp
  · rw [if_neg e]
    have hne : A ≠ [] := fun hb => e ((hA.lst_ne).2 hb)
    have hm := lst_mem hne (-1)
    have hh := hA.2 _ hm
    rw [set_row _ _ _ _ hh.1, set_row _ _ _ _ hp.1]
    refine row_congr fun i h0 h1 => ?_
    rw [key, nx_app]
    by_cases q : i = p
    · rw [if_pos q, q, if_neg hpA, nx_out hpn]
    · rw [if_neg q, if_neg q]
      by_cases m : i ∈ A
      · rw [if_pos m, if_pos m]
        by_cases e2 : i = lst (-1) A
        · rw [if_pos e2, e2, nx_lst hne hA.1]
        · rw [if_neg e2]; exact nx_else e2
      · rw [if_neg m, if_neg m, if_neg (fun e2 => m (by rw [e2]; exact hm))]

/-! ### a place put in front -/
theorem PV_cons {n : Nat} {L : List Int} {p : Int} (h : Ok n (p :: L)) : PV n (p :: L) = putIf (PV n L) (hd (-1) L) p := by
  have hp := h.2 p List.mem_cons_self
  have hL : Ok n L := ⟨(List.nodup_cons.1 h.1).2, fun x hx => h.2 x (List.mem_cons_of_mem _ hx)⟩
  have hpn : p ∉ L := (List.nodup_cons.1 h.1).1
  unfold putIf PV
  by_cases e : hd (-1) L = -1
  · rw [if_pos e]
    have eL : L = [] := (hL.hd_ne).1 e
    subst eL
    refine row_congr fun i h0 h1 => ?_
    simp [pv]
  · rw [if_neg e]
    have hne : L ≠ [] := fun hb => e ((hL.hd_ne).2 hb)
    have hh := hL.2 _ (hd_mem hne (-1))
    rw [set_row _ _ _ _ hh.1]
    refine row_congr fun i h0 h1 => ?_
    rw [pv]
    by_cases q : i = p
    · rw [if_pos q, if_neg (fun e2 => hpn (by rw [← q, e2]; exact hd_mem hne _)), q, pv_out hpn]
    · rw [if_neg q]
      by_cases e2 : i = hd (-1) L
      · rw [if_pos e2]
        cases L with
        | nil => exact absurd rfl hne
        | cons b l => rw [pv, if_pos (show i = b from e2)]
      · rw [if_neg e2]; exact pv_else (.inl e2)
theorem NX_cons {n : Nat} {L : List Int} {p : Int} (h : Ok n (p :: L)) : NX n (p :: L) = (NX n L).set p.toNat (hd (-1) L) := by
  have hp := h.2 p List.mem_cons_self
  unfold NX
  rw [set_row _ _ _ _ hp.1]
  rfl

/-! ### the way through the followers -/
def path (N : List Int) : Int → List Int → Prop
  | i, [] => i = -1
  | i, y :: l => i = y ∧ y ≠ -1 ∧ path N (rd N y) l
theorem path_one {N : List Int} {i : Int} {A B : List Int} (h : path N i A) (k : path N i B) : A = B := by
  induction A generalizing i B with
  | nil =>
    cases B with
    | nil => rfl
    | cons y l => exact absurd (k.1.symm.trans h) k.2.1
  | cons x A ih =>
    cases B with
    | nil => exact absurd (h.1.symm.trans k) h.2.1
    | cons y l =>
      have e : x = y := h.1.symm.trans k.1
      subst e
      rw [ih h.2.2 k.2.2]
theorem path_NX {n : Nat} {A B : List Int} (h : Ok n (A ++ B)) : path (NX n (A ++ B)) (hd (-1) B) B := by
  induction B generalizing A with
  | nil => rfl
  | cons y l ih =>
    obtain ⟨hA, hB, hd_⟩ := h.app
    have hy := hB.2 y List.mem_cons_self
    refine ⟨rfl, by omega, ?_⟩
    have e : A ++ y :: l = (A ++ [y]) ++ l := by simp
    rw [rd_NX hy.1 hy.2, nx_app, if_neg (fun m => hd_ y m List.mem_cons_self), nx, if_pos rfl, e]
    exact ih (by rw [← e]; exact h)
theorem nx_of_path {N : List Int} {i : Int} {L : List Int} (h : path N i L) (hn : L.Nodup) : i = hd (-1) L ∧ ∀ x ∈ L, rd N x = nx (-1) L x := by
  induction L generalizing i with
  | nil => exact ⟨h, fun _ m => by cases m⟩
  | cons y l ih =>
    obtain ⟨h1, h2, h3⟩ := h
    obtain ⟨e1, e2⟩ := ih h3 (List.nodup_cons.1 hn).2
    refine ⟨h1, fun x hx => ?_⟩
    rw [nx]
    by_cases q : x = y
    · rw [if_pos q, q, e1]
    · rw [if_neg q]
      exact e2 x (by rcases List.mem_cons.1 hx with m | m; exact absurd m q; exact m)
/-- The same, with the ones ahead. -/
def both (P N : List Int) : Int → Int → List Int → Prop
  | _, i, [] => i = -1
  | c, i, y :: l => i = y ∧ y ≠ -1 ∧ rd P y = c ∧ both P N y (rd N y) l
theorem both_path {P N : List Int} {c i : Int} {L : List Int} (h : both P N c i L) : path N i L := by
  induction L generalizing c i with
  | nil => exact h
  | cons y l ih => exact ⟨h.1, h.2.1, ih h.2.2.2⟩
theorem both_pv {P N : List Int} {c i : Int} {L : List Int} (h : both P N c i L) (hn : L.Nodup) : ∀ x ∈ L, rd P x = pv c L x := by
  induction L generalizing c i with
  | nil => exact fun _ m => by cases m
  | cons y l ih =>
    intro x hx
    rw [pv]
    by_cases q : x = y
    · rw [if_pos q, q]; exact h.2.2.1
    · rw [if_neg q]
      exact ih h.2.2.2 (List.nodup_cons.1 hn).2 x (by rcases List.mem_cons.1 hx with m | m; exact absurd m q; exact m)
theorem both_made {n : Nat} {A B : List Int} (h : Ok n (A ++ B)) : both (PV n (A ++ B)) (NX n (A ++ B)) (lst (-1) A) (hd (-1) B) B := by
  induction B generalizing A with
  | nil => rfl
  | cons y l ih =>
    obtain ⟨hA, hB, hd_⟩ := h.app
    have hy := hB.2 y List.mem_cons_self
    have e : A ++ y :: l = (A ++ [y]) ++ l := by simp
    have hm : y ∉ A := fun m => hd_ y m List.mem_cons_self
    refine ⟨rfl, by omega, ?_, ?_⟩
    · rw [rd_PV hy.1 hy.2, pv_app, if_neg hm, pv, if_pos rfl]
    · have h2 := ih (A := A ++ [y]) (by rw [← e]; exact h)
      rw [lst_app] at h2
      rw [rd_NX hy.1 hy.2, nx_app, if_neg hm, nx, if_pos rfl, e]
      exact h2

end Go.Proofs.Ytkihjakbbcajbaa.TB

/- What Put and Drop of the probe come to, on both sides; what a valid index has after them. -/
import Derived.Test.YtlgfopdindklnaaProbePlain
import Derived.Test.YtlgfopdindklnaaPProbex9
import Derived.Test.YtlgfopdindklnaaPProbex10
import Derived.Test.YtlgfopdindklnaaPProbex11
import Derived.Test.YtlgfopdindklnaaPProbex12
import Derived.Test.YtlgfopdindklnaaPProbex13
import Derived.Test.YtlgfopdindklnaaPProbex14
import Derived.Test.YtlgfopdindklnaaPProbex15
namespace Go.Proofs.Ytlgfopdindklnaa.ProbePlain
open Go.RowKit Go.Proofs.Ytlgfopdindklnaa.PProbe Go.Proofs.YtlgfopdindklnaaW.PrintWords Go.Proofs.YtlgfopdindklnaaW.PrintLast

theorem rdc_set {l : List S71} {i j : Int} {v : S71} (h0 : 0 ≤ i) (h1 : i < l.length) (h2 : 0 ≤ j) : rd_T71 (l.set i.toNat v) j = if i = j then v else rd_T71 l j := by
  unfold rd_T71
  simp only [List.getD_eq_getElem?_getD, List.getElem?_set]
  by_cases e : i = j
  · subst e; rw [if_pos rfl, if_pos rfl, if_pos (by omega)]; rfl
  · rw [if_neg (by omega), if_neg e]

/-! ### how many cells are used -/
theorem cnt_range {x : List S71} (hx : x.length = 16) : cnt x = ((List.range 16).filter (fun i : Nat => (rd_T71 x (i : Int)).f2)).length := by
  have e : x = (List.range 16).map (fun i : Nat => rd_T71 x (i : Int)) := by
    apply List.ext_getElem
    · simp [hx]
    · intro i h1 h2
      simp [rd_get h1]
  unfold cnt
  rw [← List.countP_eq_length_filter]
  conv => lhs; rw [e]
  rw [List.countP_map]; rfl

theorem used_le {x : List S71} (hx : x.length = 16) {h : Int} {D : Nat} (hD : D ≤ 16) (hu : ∀ e : Nat, e < D → (rd_T71 x ((h + e) % 16)).f2 = true) : D ≤ cnt x := by
  rw [cnt_range hx]
  have n : ((List.range D).map (fun e : Nat => ((h + (e : Int)) % 16).toNat)).Nodup := by
    rw [List.Nodup, List.pairwise_map]
    refine List.Pairwise.imp_of_mem ?_ (List.pairwise_lt_range (n := D))
    intro a b ha hb hab
    rw [List.mem_range] at ha hb
    omega
  have s : ((List.range D).map (fun e : Nat => ((h + (e : Int)) % 16).toNat)) ⊆ ((List.range 16).filter (fun i : Nat => (rd_T71 x (i : Int)).f2)) := by
    intro y hy
    obtain ⟨e, he, rfl⟩ := List.mem_map.1 hy
    rw [List.mem_range] at he
    rw [List.mem_filter, List.mem_range]
    refine ⟨by omega, ?_⟩
    rw [Int.toNat_of_nonneg (by omega)]; exact hu e he
  have := List.Nodup.length_le_of_subset n s
  simpa using this

theorem cnt_set {x : List S71} {i : Int} {v : S71} (h0 : 0 ≤ i) (h1 : i < x.length) : cnt (x.set i.toNat v) + (if (rd_T71 x i).f2 = true then 1 else 0) = cnt x + (if v.f2 = true then 1 else 0) := by
  have hi : i.toNat < x.length := by omega
  have g : rd_T71 x i = x[i.toNat] := by
    have := rd_get hi
    rwa [Int.toNat_of_nonneg h0] at this
  unfold cnt
  rw [List.countP_set hi, g]
  by_cases u : x[i.toNat].f2 = true
  · have : 0 < x.countP (·.f2) := List.countP_pos_iff.2 ⟨x[i.toNat], List.getElem_mem _, u⟩
    rw [if_pos u]; omega
  · rw [if_neg u]; omega

/-! ### Put -/
theorem cell_f {x : List S71} (hx : x.length = 16) : api_Cell.f x = some x := by
  unfold api_Cell.f
  simp only [Option.bind_some, List.length_nil, List.nil_append]
  rw [if_pos (by omega)]

/-- What Put answers at a search that ends at d. -/
def putAt (x : List S71) (key place : Int) (d : Nat) : List S71 × Int :=
  if place < 0 ∨ place ≥ 16 then ([], 2) else if (rd_T71 x ((hm key + d) % 16)).f2 = true then ([], 14) else
  if 12 ≤ cnt x then ([], 18) else (x.set ((hm key + d) % 16).toNat ⟨key, place, true⟩, 0)

theorem put_l0 {x : List S71} (hx : x.length = 16) {key place pos : Int} (p0 : 0 ≤ pos) (p1 : pos < 16) (n : Nat) :
    ∀ (i s : Nat), i + n = 16 → s ≤ i → s + (x.drop i).countP (·.f2) = cnt x →
      Ev (fun k => probe_Put.l0 k x key place pos s x 16 i) (if 12 ≤ cnt x then ([], 18) else (x.set pos.toNat ⟨key, place, true⟩, 0)) := by
  induction n with
  | zero =>
    intro i s hi hs he
    rw [List.drop_eq_nil_of_le (by omega)] at he
    have he : s = cnt x := by simpa using he
    refine Ev.step (f := fun _ => some _) (fun k => ?_) (Ev.now _)
    rw [probe_Put.l0, if_neg (by omega)]
    by_cases h : 12 ≤ cnt x
    · rw [if_pos (by omega), if_pos h]
    · rw [if_neg (by omega), if_neg h, cell_f hx, Option.bind_some, if_pos p0, if_pos (by omega)]
  | succ n ih =>
    intro i s hi hs he
    rw [drop_cnt (by omega)] at he
    by_cases u : (rd_T71 x (i : Int)).f2 = true
    · rw [if_pos u] at he
      refine Ev.step (fun k => ?_) (ih (i + 1) (s + 1) (by omega) (by omega) (by omega))
      rw [probe_Put.l0, if_pos (by omega), if_pos (by omega), if_pos (by omega), if_pos u, w0 (by omega) (by omega), w0 (by omega) (by omega)]; rfl
    · rw [if_neg u] at he
      refine Ev.step (fun k => ?_) (ih (i + 1) s (by omega) (by omega) (by omega))
      rw [probe_Put.l0, if_pos (by omega), if_pos (by omega), if_pos (by omega), if_neg u, w0 (by omega) (by omega)]; rfl

theorem put_j0 {x : List S71} (h : Valid x) {key place : Int} (hpl : ¬ (place < 0 ∨ place ≥ 16)) {d : Nat} (hd : d < 16) (hp : Other x key d) (hq : Ends x key d) :
    Ev (fun k => probe_Put.j0 k x key place false) (putAt x key place d) := by
  have hl := h.len
  refine Ev.step (fun k => ?_) (Ev.bind (look_ev h.len (by omega) hp hq) (f := fun k bt161 => (if 0 ≤ bt161.1 then (if bt161.1 < (x.length : Int) then (if (rd_T71 x bt161.1).f2 = true then (some (([] : List (S71)), 14)) else (probe_Put.l0 k x key place bt161.1 0 x (x.length : Int) 0)) else (none)) else (none))) ?_)
  · rw [probe_Put.j0, if_neg (by simp)]
  · unfold putAt
    rw [if_neg hpl]
    by_cases u : (rd_T71 x ((hm key + d) % 16)).f2 = true
    · rw [if_pos u]
      refine Ev.congr (fun k => ?_) (Ev.now _)
      show (if 0 ≤ (hm key + (d : Int)) % 16 then _ else _) = _
      rw [if_pos (by omega), if_pos (by show (hm key + (d : Int)) % 16 < _; omega), if_pos u]
    · rw [if_neg u]
      refine Ev.congr (fun k => ?_) (put_l0 (key := key) (place := place) hl (pos := (hm key + d) % 16) (by omega) (by omega) 16 0 0 (by omega) (by omega) (by simp [cnt]))
      show (if 0 ≤ (hm key + (d : Int)) % 16 then _ else _) = _
      rw [if_pos (by omega), if_pos (by show (hm key + (d : Int)) % 16 < _; omega), if_neg u, hl]; rfl

theorem put_ev {x : List S71} (h : Valid x) {key : Int} (place : Int) {d : Nat} (hd : d < 16) (hp : Other x key d) (hq : Ends x key d) : Ev (fun k => probe_Put.f k x key place) (putAt x key place d) := by
  refine Ev.bind (check_yes h) (f := fun k t160 => (if t160 = 0 then (if place < 0 then (probe_Put.j0 k x key place true) else (probe_Put.j0 k x key place (decide (place ≥ 16)))) else (some (([] : List (S71)), t160)))) ?_
  simp only [if_true]
  by_cases hpl : place < 0 ∨ place ≥ 16
  · refine Ev.step (f := fun _ => some (([] : List S71), (2 : Int))) (fun k => ?_) (by unfold putAt; rw [if_pos hpl]; exact Ev.now _)
    rcases hpl with a | a
    · rw [if_pos a, probe_Put.j0, if_pos rfl]
    · rw [if_neg (by omega), decide_eq_true a, probe_Put.j0, if_pos rfl]
  · refine Ev.congr (fun k => ?_) (put_j0 h hpl hd hp hq)
    rw [if_neg (by omega), decide_eq_false (by omega)]

theorem rput_l0 {x : List S71} {key place : Int} (hx : x.length = 16) {d : Nat} (hp : Other x key d) (hu : (rd_T71 x ((hm key + d) % 16)).f2 = false) (n : Nat) :
    ∀ e : Nat, e + n = d → Ev (fun k => spigotref14_Put.l0 k key place x ((hm key + e) % 16)) (x.set ((hm key + d) % 16).toNat ⟨key, place, true⟩, 0) := by
  induction n with
  | zero =>
    intro e he
    have : e = d := by omega
    subst this
    refine Ev.step (f := fun _ => some _) (fun k => ?_) (Ev.now _)
    rw [spigotref14_Put.l0, if_pos (by omega), if_pos (by omega), if_neg (by rw [hu]; simp)]
  | succ n ih =>
    intro e he
    refine Ev.step (fun k => ?_) (ih (e + 1) (by omega))
    rw [spigotref14_Put.l0, if_pos (by omega), if_pos (by omega), if_pos (hp e (by omega)).1, w0 (by omega) (by omega), Int.tmod_eq_emod_of_nonneg (by omega), next_pos]

/-- Where a key of a valid index is, or that it is not there. -/
abbrev Where (x : List S71) (key : Int) (d : Nat) : Prop := (((rd_T71 x ((hm key + d) % 16)).f2 = true ∧ (rd_T71 x ((hm key + d) % 16)).f0 = key ∧ Ev (fun k => spigotref14_At.f k x key) ((hm key + d) % 16)) ∨
     ((rd_T71 x ((hm key + d) % 16)).f2 = false ∧ (∀ j : Int, 0 ≤ j → j < 16 → ¬ ((rd_T71 x j).f2 = true ∧ (rd_T71 x j).f0 = key)) ∧ Ev (fun k => spigotref14_At.f k x key) (-1)))

theorem rput_j0 {x : List S71} (h : Valid x) {key place : Int} (k0 : 0 ≤ key) (k1 : key < 4294967296) (hpl : ¬ (place < 0 ∨ place ≥ 16)) {d : Nat} (hd : d < 16) (hp : Other x key d)
    (hc : Where x key d) : Ev (fun k => spigotref14_Put.j0 k x key place false) (putAt x key place d) := by
  have hl := h.len
  have hr := hm_range key
  have fin : ∀ (a : Int) (r : List S71 × Int), Ev (fun k => spigotref14_At.f k x key) a → Ev (fun k => if a ≥ 0 then some (([] : List S71), (14 : Int)) else ((spigotref14_Count.f k x).bind fun t173 => (if t173 = 12 then (some (([] : List (S71)), 18)) else ((some (([] : List (S71)) : List (S71))).bind fun y174 => (if y174.length + x.length < 5864062014805 then ((spigotref14_Home.f key).bind fun t180 => (spigotref14_Put.l0 k key place (y174 ++ x) t180)) else (none)))))) r →
      Ev (fun k => spigotref14_Put.j0 k x key place false) r := by
    intro a r ha hr
    refine Ev.step (fun k => ?_) (Ev.bind ha (f := fun k t172 => if t172 ≥ 0 then some (([] : List S71), (14 : Int)) else ((spigotref14_Count.f k x).bind fun t173 => (if t173 = 12 then (some (([] : List (S71)), 18)) else ((some (([] : List (S71)) : List (S71))).bind fun y174 => (if y174.length + x.length < 5864062014805 then ((spigotref14_Home.f key).bind fun t180 => (spigotref14_Put.l0 k key place (y174 ++ x) t180)) else (none)))))) hr)
    rw [spigotref14_Put.j0, if_neg (by simp)]
  unfold putAt
  rw [if_neg hpl]
  rcases hc with ⟨u, e, ha⟩ | ⟨u, _, ha⟩
  · rw [if_pos u]
    refine fin _ _ ha (Ev.congr (fun k => ?_) (Ev.now _))
    rw [if_pos (by omega)]
  · rw [if_neg (by rw [u]; simp)]
    refine fin _ _ ha ?_
    refine Ev.congr (f := fun k => ((spigotref14_Count.f k x).bind fun t173 => (if t173 = 12 then (some (([] : List (S71)), 18)) else (spigotref14_Put.l0 k key place x (hm key))))) (fun k => ?_) ?_
    · rw [if_neg (by omega)]
      simp only [Option.bind_some, List.length_nil, List.nil_append, rhome_f k0 k1]
      rw [if_pos (by omega)]
    · refine Ev.bind (count_ev (x := x) (by omega)) (f := fun k t173 => (if t173 = 12 then (some (([] : List (S71)), 18)) else (spigotref14_Put.l0 k key place x (hm key)))) ?_
      have := h.few
      by_cases c : 12 ≤ cnt x
      · rw [if_pos c]
        refine Ev.congr (fun k => ?_) (Ev.now _)
        rw [if_pos (by omega)]
      · rw [if_neg c]
        have := rput_l0 (place := place) hl hp u d 0 (by omega)
        rw [show (hm key + ((0 : Nat) : Int)) % 16 = hm key by omega] at this
        refine Ev.congr (fun k => ?_) this
        rw [if_neg (by omega)]

theorem rput_ev {x : List S71} (hk : Keys x) (h : Valid x) {key : Int} (k0 : 0 ≤ key) (k1 : key < 4294967296) (place : Int) {d : Nat} (hd : d < 16) (hp : Other x key d) (hc : Where x key d) :
    Ev (fun k => spigotref14_Put.f k x key place) (putAt x key place d) := by
  refine Ev.bind (rcheck_yes hk h) (f := fun k t170 => (if t170 = 0 then (if place < 0 then (spigotref14_Put.j0 k x key place true) else (spigotref14_Put.j0 k x key place (decide (place ≥ 16)))) else ((spigotref14_Check.f k x).bind fun t171 => (some (([] : List (S71)), t171))))) ?_
  simp only [if_true]
  by_cases hpl : place < 0 ∨ place ≥ 16
  · refine Ev.step (f := fun _ => some (([] : List S71), (2 : Int))) (fun k => ?_) (by unfold putAt; rw [if_pos hpl]; exact Ev.now _)
    rcases hpl with a | a
    · rw [if_pos a, spigotref14_Put.j0, if_pos rfl]
    · rw [if_neg (by omega), decide_eq_true a, spigotref14_Put.j0, if_pos rfl]
  · refine Ev.congr (fun k => ?_) (rput_j0 h k0 k1 hpl hd hp hc)
    rw [if_neg (by omega), decide_eq_false (by omega)]

theorem put_no {x : List S71} (h : ¬ Valid x) (key place : Int) : Ev (fun k => probe_Put.f k x key place) ([], 8) := by
  refine Ev.bind (check_no h) (f := fun k t160 => (if t160 = 0 then (if place < 0 then (probe_Put.j0 k x key place true) else (probe_Put.j0 k x key place (decide (place ≥ 16)))) else (some (([] : List (S71)), t160)))) ?_
  exact Ev.now _
theorem rput_no {x : List S71} (hk : Keys x) (h : ¬ Valid x) (key place : Int) : Ev (fun k => spigotref14_Put.f k x key place) ([], 8) := by
  refine Ev.bind (rcheck_no hk h) (f := fun k t170 => (if t170 = 0 then (if place < 0 then (spigotref14_Put.j0 k x key place true) else (spigotref14_Put.j0 k x key place (decide (place ≥ 16)))) else ((spigotref14_Check.f k x).bind fun t171 => (some (([] : List (S71)), t171))))) ?_
  exact Ev.bind (rcheck_no hk h) (f := fun _ t171 => some (([] : List S71), t171)) (Ev.now _)

/-! ### Drop -/
/-- The cells after the hole i is filled from the n used cells from j on, and cleared. -/
def fill : Nat → Int → List S71 → Int → List S71
  | 0, i, p, _ => p.set i.toNat z71
  | n + 1, i, p, j => if (hm (rd_T71 p j).f0 - i - 1) % 16 ≥ (j - i) % 16 then fill n j (p.set i.toNat (rd_T71 p j)) ((j + 1) % 16) else fill n i p ((j + 1) % 16)

/-- n used cells from j on, an unused one behind them, and the hole i ahead of them. -/
structure Run (p : List S71) (i j : Int) (n : Nat) : Prop where
  len : p.length = 16
  i0 : 0 ≤ i
  i1 : i < 16
  j0 : 0 ≤ j
  j1 : j < 16
  ahead : 1 ≤ (j - i) % 16
  fits : (j - i) % 16 + n < 16
  used : ∀ e : Nat, e < n → (rd_T71 p ((j + e) % 16)).f2 = true
  last : (rd_T71 p ((j + n) % 16)).f2 = false

theorem Run.next {p : List S71} {i j : Int} {n : Nat} (h : Run p i j (n + 1)) : Run p i ((j + 1) % 16) n := by
  obtain ⟨a, b, c, d, e, f, g, u, l⟩ := h
  refine ⟨a, b, c, by omega, by omega, by omega, by omega, ?_, ?_⟩
  · intro m hm
    have := u (m + 1) (by omega)
    rw [show (((j + 1) % 16 + (m : Int)) % 16) = (j + ((m + 1 : Nat) : Int)) % 16 by omega]; exact this
  · rw [show (((j + 1) % 16 + (n : Int)) % 16) = (j + ((n + 1 : Nat) : Int)) % 16 by omega]; exact l
theorem Run.move {p : List S71} {i j : Int} {n : Nat} (h : Run p i j (n + 1)) : Run (p.set i.toNat (rd_T71 p j)) j ((j + 1) % 16) n := by
  obtain ⟨a, b, c, d, e, f, g, u, l⟩ := h
  refine ⟨by simpa using a, d, e, by omega, by omega, by omega, by omega, ?_, ?_⟩
  · intro m hm
    have := u (m + 1) (by omega)
    rw [show (((j + 1) % 16 + (m : Int)) % 16) = (j + ((m + 1 : Nat) : Int)) % 16 by omega, rdc_set b (by omega) (by omega), if_neg (by omega)]; exact this
  · rw [show (((j + 1) % 16 + (n : Int)) % 16) = (j + ((n + 1 : Nat) : Int)) % 16 by omega, rdc_set b (by omega) (by omega), if_neg (by omega)]; exact l

theorem drop_l0 (n : Nat) : ∀ (p : List S71) (i j : Int), Run p i j n → Ev (fun k => probe_Drop.l0 k i p j) (fill n i p j, 0) := by
  induction n with
  | zero =>
    intro p i j h
    obtain ⟨a, b, c, d, e, f, g, u, l⟩ := h
    refine Ev.step (f := fun _ => some _) (fun k => ?_) (Ev.now _)
    rw [show (j + ((0 : Nat) : Int)) % 16 = j by omega] at l
    rw [probe_Drop.l0, if_pos d, if_pos (by omega), if_neg (by rw [l]; simp), if_pos b, if_pos (by omega)]; rfl
  | succ n ih =>
    intro p i j h
    have hn := h.next
    have hmv := h.move
    obtain ⟨a, b, c, d, e, f, g, u, l⟩ := h
    have hr := hm_range (rd_T71 p j).f0
    have u0 := u 0 (by omega)
    rw [show (j + ((0 : Nat) : Int)) % 16 = j by omega] at u0
    rw [fill]
    by_cases t : (hm (rd_T71 p j).f0 - i - 1) % 16 ≥ (j - i) % 16
    · rw [if_pos t]
      refine Ev.step (fun k => ?_) (ih _ _ _ hmv)
      rw [probe_Drop.l0, if_pos d, if_pos (by omega), if_pos u0, w0 (i := j - i) (by omega) (by omega), wrap_f (by omega) (by omega), Option.bind_some, home_f, Option.bind_some,
        w0 (i := hm (rd_T71 p j).f0 - i) (by omega) (by omega), w0 (i := hm (rd_T71 p j).f0 - i - 1) (by omega) (by omega), wrap_f (by omega) (by omega), Option.bind_some, if_pos t, if_pos b, if_pos (by omega),
        w0 (by omega) (by omega), wrap_f (by omega) (by omega), Option.bind_some]
    · rw [if_neg t]
      refine Ev.step (fun k => ?_) (ih _ _ _ hn)
      rw [probe_Drop.l0, if_pos d, if_pos (by omega), if_pos u0, w0 (i := j - i) (by omega) (by omega), wrap_f (by omega) (by omega), Option.bind_some, home_f, Option.bind_some,
        w0 (i := hm (rd_T71 p j).f0 - i) (by omega) (by omega), w0 (i := hm (rd_T71 p j).f0 - i - 1) (by omega) (by omega), wrap_f (by omega) (by omega), Option.bind_some, if_neg t,
        w0 (by omega) (by omega), wrap_f (by omega) (by omega), Option.bind_some]

/-- behind, from the cell m on: the cell c lies in the cells from m to j. -/
theorem behind_l0 {c j : Int} (c0 : 0 ≤ c) (c1 : c < 16) (j0 : 0 ≤ j) (j1 : j < 16) (n : Nat) : ∀ m : Int, 0 ≤ m → m < 16 → (j - m) % 16 = n →
    Ev (fun k => spigotref14_behind.l0 k c j m) (decide ((c - m) % 16 ≤ (j - m) % 16)) := by
  induction n with
  | zero =>
    intro m m0 m1 h
    refine Ev.step (f := fun _ => some _) (fun k => ?_) (Ev.now _)
    rw [spigotref14_behind.l0]
    by_cases e : m = c
    · rw [if_pos e, decide_eq_true (by omega)]
    · rw [if_neg e, if_pos (by omega), decide_eq_false (by omega)]
  | succ n ih =>
    intro m m0 m1 h
    by_cases e : m = c
    · refine Ev.step (f := fun _ => some _) (fun k => ?_) (Ev.now _)
      rw [spigotref14_behind.l0, if_pos e, decide_eq_true (by omega)]
    · have := ih ((m + 1) % 16) (by omega) (by omega) (by omega)
      rw [show decide ((c - (m + 1) % 16) % 16 ≤ (j - (m + 1) % 16) % 16) = decide ((c - m) % 16 ≤ (j - m) % 16) by
        by_cases q : (c - m) % 16 ≤ (j - m) % 16
        · rw [decide_eq_true q, decide_eq_true (by omega)]
        · rw [decide_eq_false q, decide_eq_false (by omega)]] at this
      refine Ev.step (fun k => ?_) this
      rw [spigotref14_behind.l0, if_neg e, if_neg (by omega), w0 (by omega) (by omega), Int.tmod_eq_emod_of_nonneg (by omega)]
theorem behind_ev {c i j : Int} (c0 : 0 ≤ c) (c1 : c < 16) (i0 : 0 ≤ i) (i1 : i < 16) (j0 : 0 ≤ j) (j1 : j < 16) (h : 1 ≤ (j - i) % 16) :
    Ev (fun k => spigotref14_behind.f k c i j) (!decide ((c - i - 1) % 16 ≥ (j - i) % 16)) := by
  have := behind_l0 c0 c1 j0 j1 ((j - (i + 1) % 16) % 16).toNat ((i + 1) % 16) (by omega) (by omega) (by omega)
  rw [show decide ((c - (i + 1) % 16) % 16 ≤ (j - (i + 1) % 16) % 16) = !decide ((c - i - 1) % 16 ≥ (j - i) % 16) by
    by_cases q : (c - i - 1) % 16 ≥ (j - i) % 16
    · rw [decide_eq_true q, decide_eq_false (by omega)]; rfl
    · rw [decide_eq_false q, decide_eq_true (by omega)]; rfl] at this
  refine Ev.congr (fun k => ?_) this
  unfold spigotref14_behind.f
  rw [w0 (by omega) (by omega), Int.tmod_eq_emod_of_nonneg (by omega)]

theorem rdrop_l0 (n : Nat) : ∀ (p : List S71) (i j : Int), Keys p → Run p i j n → Ev (fun k => spigotref14_Drop.l0 k i (p.set i.toNat z71) j) (fill n i p j, 0) := by
  induction n with
  | zero =>
    intro p i j hk h
    obtain ⟨a, b, c, d, e, f, g, u, l⟩ := h
    have hne : rd_T71 (p.set i.toNat z71) j = rd_T71 p j := by rw [rdc_set b (by omega) d, if_neg (by omega)]
    refine Ev.step (f := fun _ => some _) (fun k => ?_) (Ev.now _)
    rw [show (j + ((0 : Nat) : Int)) % 16 = j by omega] at l
    rw [spigotref14_Drop.l0, if_pos d, if_pos (by rw [List.length_set]; omega), hne, if_neg (by rw [l]; simp)]; rfl
  | succ n ih =>
    intro p i j hk h
    have hn := h.next
    have hmv := h.move
    obtain ⟨a, b, c, d, e, f, g, u, l⟩ := h
    have hr := hm_range (rd_T71 p j).f0
    have u0 := u 0 (by omega)
    rw [show (j + ((0 : Nat) : Int)) % 16 = j by omega] at u0
    have hkj := hk j d (by omega)
    have hne : rd_T71 (p.set i.toNat z71) j = rd_T71 p j := by rw [rdc_set b (by omega) d, if_neg (by omega)]
    have hb := behind_ev hr.1 hr.2 b c d e f
    rw [fill]
    have go : ∀ r, Ev (fun k => (if (!decide ((hm (rd_T71 p j).f0 - i - 1) % 16 ≥ (j - i) % 16)) = true then (spigotref14_Drop.l0 k i (p.set i.toNat z71) ((j + 1) % 16)) else (spigotref14_Drop.l0 k j ((p.set i.toNat (rd_T71 p j)).set j.toNat z71) ((j + 1) % 16)))) r →
        Ev (fun k => spigotref14_Drop.l0 k i (p.set i.toNat z71) j) r := by
      intro r hr2
      refine Ev.step (fun k => ?_) (Ev.bind hb (f := fun k t => (if t = true then (spigotref14_Drop.l0 k i (p.set i.toNat z71) ((j + 1) % 16)) else (spigotref14_Drop.l0 k j ((p.set i.toNat (rd_T71 p j)).set j.toNat z71) ((j + 1) % 16)))) hr2)
      rw [spigotref14_Drop.l0, if_pos d, if_pos (by rw [List.length_set]; omega), hne, if_pos u0, rhome_f hkj.1 hkj.2, Option.bind_some, w0 (by omega) (by omega), Int.tmod_eq_emod_of_nonneg (by omega),
        if_pos b, if_pos (by rw [List.length_set]; omega), List.set_set]; rfl
    by_cases t : (hm (rd_T71 p j).f0 - i - 1) % 16 ≥ (j - i) % 16
    · rw [if_pos t]
      refine go _ ?_
      rw [decide_eq_true t]
      simp only [Bool.not_true, Bool.false_eq_true, if_false]
      refine ih _ _ _ ?_ hmv
      intro m m0 m1
      rw [rdc_set b (by omega) m0]
      by_cases e2 : i = m
      · rw [if_pos e2]; exact hkj
      · rw [if_neg e2]; exact hk m m0 (by simpa using m1)
    · rw [if_neg t]
      refine go _ ?_
      rw [decide_eq_false t]
      simp only [Bool.not_false, if_true]
      exact ih _ _ _ hk hn

/-- From a used cell of a valid index on there is a run. -/
theorem run_ex {x : List S71} (hx : x.length = 16) (hc : cnt x ≤ 12) {i : Int} (h0 : 0 ≤ i) (h1 : i < 16) (hu : (rd_T71 x i).f2 = true) : ∃ n, Run x i ((i + 1) % 16) n := by
  obtain ⟨f, f0, f1, fu⟩ := free_ex hx hc
  have hne : f ≠ i := fun e => by rw [e, hu] at fu; exact absurd fu (by simp)
  obtain ⟨d, hd, hp, hq⟩ := first_ex (fun d : Nat => (rd_T71 x (((i + 1) % 16 + (d : Int)) % 16)).f2 = false) ((f - i - 1) % 16).toNat (by
    rw [show ((i + 1) % 16 + ((((f - i - 1) % 16).toNat : Nat) : Int)) % 16 = f by omega]; exact fu)
  exact ⟨d, hx, h0, h1, by omega, by omega, by omega, by omega, fun e he => by simpa using hq e he, hp⟩

theorem drop_ev {x : List S71} (h : Valid x) {key : Int} {d : Nat} (hd : d < 16) (hp : Other x key d) (hq : Ends x key d) {n : Nat}
    (hr : (rd_T71 x ((hm key + d) % 16)).f2 = true → Run x ((hm key + d) % 16) (((hm key + d) % 16 + 1) % 16) n) :
    Ev (fun k => probe_Drop.f k x key) (if (rd_T71 x ((hm key + d) % 16)).f2 = true then (fill n ((hm key + d) % 16) x (((hm key + d) % 16 + 1) % 16), 0) else ([], 6)) := by
  have hl := h.len
  refine Ev.bind (check_yes h) (f := fun k t183 => (if t183 = 0 then ((probe_look.f k x key).bind fun bt184 => (if 0 ≤ bt184.1 then (if bt184.1 < (x.length : Int) then (if ((rd_T71 x bt184.1).f2 = true) then ((api_Cell.f x).bind fun t187 => ((probe_wrap.f (wrap64 (bt184.1 + 1))).bind fun t190 => (probe_Drop.l0 k bt184.1 t187 t190))) else (some (([] : List (S71)), 6))) else (none)) else (none))) else (some (([] : List (S71)), t183)))) ?_
  simp only [if_true]
  refine Ev.bind (look_ev h.len (by omega) hp hq) (f := fun k bt184 => (if 0 ≤ bt184.1 then (if bt184.1 < (x.length : Int) then (if ((rd_T71 x bt184.1).f2 = true) then ((api_Cell.f x).bind fun t187 => ((probe_wrap.f (wrap64 (bt184.1 + 1))).bind fun t190 => (probe_Drop.l0 k bt184.1 t187 t190))) else (some (([] : List (S71)), 6))) else (none)) else (none))) ?_
  by_cases u : (rd_T71 x ((hm key + d) % 16)).f2 = true
  · rw [if_pos u]
    refine Ev.congr (fun k => ?_) (drop_l0 n _ _ _ (hr u))
    show (if 0 ≤ (hm key + (d : Int)) % 16 then _ else _) = _
    rw [if_pos (by omega), if_pos (by show (hm key + (d : Int)) % 16 < _; omega), if_pos u, cell_f hl, Option.bind_some]
    show (probe_wrap.f (wrap64 ((hm key + (d : Int)) % 16 + 1))).bind _ = _
    rw [w0 (by omega) (by omega), wrap_f (by omega) (by omega), Option.bind_some]
  · rw [if_neg u]
    refine Ev.congr (fun k => ?_) (Ev.now _)
    show (if 0 ≤ (hm key + (d : Int)) % 16 then _ else _) = _
    rw [if_pos (by omega), if_pos (by show (hm key + (d : Int)) % 16 < _; omega), if_neg u]

theorem rdrop_ev {x : List S71} (hk : Keys x) (h : Valid x) {key : Int} {d : Nat} (hd : d < 16) (hc : Where x key d) {n : Nat}
    (hr : (rd_T71 x ((hm key + d) % 16)).f2 = true → Run x ((hm key + d) % 16) (((hm key + d) % 16 + 1) % 16) n) :
    Ev (fun k => spigotref14_Drop.f k x key) (if (rd_T71 x ((hm key + d) % 16)).f2 = true then (fill n ((hm key + d) % 16) x (((hm key + d) % 16 + 1) % 16), 0) else ([], 6)) := by
  have hl := h.len
  refine Ev.bind (rcheck_yes hk h) (f := fun k t201 => (if t201 = 0 then ((spigotref14_At.f k x key).bind fun t203 => (if t203 < 0 then (some (([] : List (S71)), 6)) else ((some (([] : List (S71)) : List (S71))).bind fun y204 => (if y204.length + x.length < 5864062014805 then ((some (y204 ++ x : List (S71))).bind fun y207 => (if 0 ≤ t203 then (if t203 < (y207.length : Int) then (spigotref14_Drop.l0 k t203 (y207.set (t203 : Int).toNat (⟨0, 0, false⟩ : S71)) (Int.tmod (wrap64 (t203 + 1)) 16)) else (none)) else (none))) else (none))))) else ((spigotref14_Check.f k x).bind fun t202 => (some (([] : List (S71)), t202))))) ?_
  simp only [if_true, Option.bind_some, List.length_nil, List.nil_append]
  rcases hc with ⟨u, e, ha⟩ | ⟨u, _, ha⟩
  · rw [if_pos u]
    refine Ev.bind ha (f := fun k t203 => (if t203 < 0 then (some (([] : List (S71)), 6)) else (if 0 + x.length < 5864062014805 then (if 0 ≤ t203 then (if t203 < (x.length : Int) then (spigotref14_Drop.l0 k t203 (x.set (t203 : Int).toNat (⟨0, 0, false⟩ : S71)) (Int.tmod (wrap64 (t203 + 1)) 16)) else (none)) else (none)) else (none)))) ?_
    refine Ev.congr (fun k => ?_) (rdrop_l0 n _ _ _ hk (hr u))
    rw [if_neg (by omega), if_pos (by omega), if_pos (by omega), if_pos (by omega), w0 (by omega) (by omega), Int.tmod_eq_emod_of_nonneg (by omega)]; rfl
  · rw [if_neg (by rw [u]; simp)]
    refine Ev.bind ha (f := fun k t203 => (if t203 < 0 then (some (([] : List (S71)), 6)) else (if 0 + x.length < 5864062014805 then (if 0 ≤ t203 then (if t203 < (x.length : Int) then (spigotref14_Drop.l0 k t203 (x.set (t203 : Int).toNat (⟨0, 0, false⟩ : S71)) (Int.tmod (wrap64 (t203 + 1)) 16)) else (none)) else (none)) else (none)))) ?_
    refine Ev.congr (fun k => ?_) (Ev.now _)
    rw [if_pos (by omega)]

theorem drop_no {x : List S71} (h : ¬ Valid x) (key : Int) : Ev (fun k => probe_Drop.f k x key) ([], 8) := by
  refine Ev.bind (check_no h) (f := fun k t183 => (if t183 = 0 then ((probe_look.f k x key).bind fun bt184 => (if 0 ≤ bt184.1 then (if bt184.1 < (x.length : Int) then (if ((rd_T71 x bt184.1).f2 = true) then ((api_Cell.f x).bind fun t187 => ((probe_wrap.f (wrap64 (bt184.1 + 1))).bind fun t190 => (probe_Drop.l0 k bt184.1 t187 t190))) else (some (([] : List (S71)), 6))) else (none)) else (none))) else (some (([] : List (S71)), t183)))) ?_
  exact Ev.now _
theorem rdrop_no {x : List S71} (hk : Keys x) (h : ¬ Valid x) (key : Int) : Ev (fun k => spigotref14_Drop.f k x key) ([], 8) := by
  refine Ev.bind (rcheck_no hk h) (f := fun k t201 => (if t201 = 0 then _ else ((spigotref14_Check.f k x).bind fun t202 => (some (([] : List (S71)), t202))))) ?_
  exact Ev.bind (rcheck_no hk h) (f := fun _ t202 => some (([] : List S71), t202)) (Ev.now _)

/-! ### Same -/
theorem same_l0 {x : List S71} (hx : x.length ≤ 1000) (n : Nat) : ∀ i : Nat, i + n = x.length → Ev (fun k => spigotref14_Same.l0 k x x i) true := by
  induction n with
  | zero =>
    intro i hi
    refine Ev.step (f := fun _ => some _) (fun k => ?_) (Ev.now _)
    rw [spigotref14_Same.l0, if_neg (by omega)]
  | succ n ih =>
    intro i hi
    refine Ev.step (fun k => ?_) (ih (i + 1) (by omega))
    rw [spigotref14_Same.l0, if_pos (by omega), if_pos (by omega), if_pos (by omega), if_neg (by simp), w0 (by omega) (by omega)]; rfl
theorem same_ev {x : List S71} (hx : x.length ≤ 1000) : Ev (fun k => spigotref14_Same.f k x x) true := by
  refine Ev.congr (fun k => ?_) (same_l0 hx x.length 0 (by omega))
  unfold spigotref14_Same.f
  rw [if_pos rfl]; rfl
end Go.Proofs.Ytlgfopdindklnaa.ProbePlain

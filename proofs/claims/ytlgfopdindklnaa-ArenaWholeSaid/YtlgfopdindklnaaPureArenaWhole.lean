/- ArenaWhole, plain: the printed law answers true. -/
import Derived.Test.YtlgfopdindklnaaPArenax21
import Derived.Test.YtlgfopdindklnaaArenaPlain2
namespace Go.Proofs.Ytlgfopdindklnaa.Pure
open Go.RowKit Go.Proofs.Ytlgfopdindklnaa.PArena Go.Proofs.Ytlgfopdindklnaa.ArenaPlain Go.Proofs.YtlgfopdindklnaaW.PrintWords Go.Proofs.YtlgfopdindklnaaW.PrintLast

theorem whole_alive : Ev (fun k => spigotlaw13_alive.f k) true := Ev.of (fun k => spigotlaw13_alive.mono k) (k := 60) (by decide +kernel)

/-- The law's state: an arena, what is used, what was given back last. -/
structure Inv (n : Int) (used : List Bool) (given : Int) (next : List Int) (free : Int) (l : List Int) : Prop where
  good : ArenaPlain.Good next used free l
  len : (next.length : Int) = n
  last : 0 ≤ given → ∃ l', l = given :: l'

theorem count_loop {n given i : Int} {xs : List Int} {used : List Bool} {next : List Int} {free : Int} {r : Bool} (hn : (used.length : Int) = n) (hu : used.length ≤ 16) (d : Nat) :
    ∀ (c j : Int), 0 ≤ j → j ≤ n → n - j ≤ d → 0 ≤ c → c ≤ j → Ev (fun k => spigotlaw13_ArenaWhole.l1 k n xs true used given i (c + (used.drop j.toNat).count true) n next used free) r →
      Ev (fun k => spigotlaw13_ArenaWhole.l1 k n xs true used given i c j next used free) r := by
  induction d with
  | zero =>
    intro c j h0 hle hd hc hj h
    obtain rfl : j = n := by omega
    rw [List.drop_of_length_le (by omega)] at h
    simpa using h
  | succ d ih =>
    intro c j h0 hle hd hc hj h
    by_cases hlt : j < n
    · have hm : j.toNat < used.length := by omega
      rw [List.drop_eq_getElem_cons hm, List.count_cons] at h
      have hrd : rdOf false used j = used[j.toNat] := by simp [rdOf, List.getD_eq_getElem?_getD, hm]
      rw [← hrd] at h
      by_cases hb : rdOf false used j = true
      · rw [hb] at h
        obtain ⟨K, h1⟩ := Ev.get (ih (c + 1) (j + 1) (by omega) (by omega) (by omega) (by omega) (by omega) (by
          rw [show (j + 1).toNat = j.toNat + 1 by omega]
          refine Ev.congr (fun k => ?_) h
          congr 1
          simp; omega))
        exact Ev.succ K fun k hk => by rw [spigotlaw13_ArenaWhole.l1, if_pos hlt, if_pos h0, if_pos (by omega), if_pos hb, w1 hc (by omega), w1 h0 (by omega)]; exact h1 k hk
      · rw [Bool.eq_false_iff.2 hb] at h
        obtain ⟨K, h1⟩ := Ev.get (ih c (j + 1) (by omega) (by omega) (by omega) (by omega) (by omega) (by
          rw [show (j + 1).toNat = j.toNat + 1 by omega]
          simpa using h))
        exact Ev.succ K fun k hk => by rw [spigotlaw13_ArenaWhole.l1, if_pos hlt, if_pos h0, if_pos (by omega), if_neg hb, w1 h0 (by omega)]; exact h1 k hk
    · obtain rfl : j = n := by omega
      rw [List.drop_of_length_le (by omega)] at h
      simpa using h

theorem count_f {next : List Int} {used : List Bool} {free : Int} {l : List Int} (g : ArenaPlain.Good next used free l) :
    Ev (fun k => arena_Count.f k next used free) (((used.count true : Nat) : Int), (used.length : Int) - (used.count true : Nat), 0) := by
  have hh := g.high
  have hs := g.same
  obtain ⟨K, h⟩ := Ev.get (Check_yes g)
  obtain ⟨K3, h3⟩ := Ev.get (count_l0 (used := used) (next := next) (free := free) (by omega) used.length 0 0 (Int.le_refl _) (by omega) (by omega) (Int.le_refl _) (Int.le_refl _))
  refine Ev.succ (max K K3) fun k hk => ?_
  unfold arena_Count.f
  rw [h (k + 1) (by omega)]
  simp only [Option.bind_some, if_true]
  rw [h3 (k + 1) (by omega)]
  simp

theorem whole_loop {n : Int} {xs : List Int} (hx : xs.length ≤ 60) (d : Nat) :
    ∀ (used : List Bool) (given i : Int) (next : List Int) (free : Int) (l : List Int), 0 ≤ i → (xs.length : Int) - i ≤ d → Inv n used given next free l →
      Ev (fun k => spigotlaw13_ArenaWhole.l0 k n xs true used given i next used free) true := by
  induction d with
  | zero =>
    intro used given i next free l h0 hd v
    exact Ev.succ 0 fun k _ => by rw [spigotlaw13_ArenaWhole.l0, if_neg (by omega)]
  | succ d ih =>
    intro used given i next free l h0 hd v
    by_cases hi : i < xs.length
    case neg => exact Ev.succ 0 fun k _ => by rw [spigotlaw13_ArenaWhole.l0, if_neg hi]
    have g := v.good
    have hh := g.high
    have hs := g.same
    have hlen := v.len
    have hcount := g.count
    have hc0 : used.count true ≤ used.length := List.count_le_length
    suffices h : Ev (fun k => spigotlaw13_ArenaWhole.l1 k n xs true used given i ((used.count true : Nat) : Int) n next used free) true by
      obtain ⟨K, h1⟩ := Ev.get (count_loop (n := n) (given := given) (i := i) (xs := xs) (used := used) (next := next) (free := free) (r := true) (by omega) (by omega) used.length 0 0 (Int.le_refl _) (by omega) (by omega) (Int.le_refl _) (Int.le_refl _) (by simpa using h))
      exact Ev.succ K fun k hk => by rw [spigotlaw13_ArenaWhole.l0, if_pos hi]; exact h1 k hk
    obtain ⟨K1, hC⟩ := Ev.get (count_f g)
    obtain ⟨K2, hR⟩ := Ev.get (Ref_yes g)
    have hw : wrap64 (n - ((used.count true : Nat) : Int)) = n - ((used.count true : Nat) : Int) := by unfold wrap64; omega
    have hi1 := w1 h0 (show i ≤ 1000000 by omega)
    by_cases hp : 0 ≤ rd xs i ∧ rd xs i < n ∧ rdOf false used (rd xs i) = true
    · obtain ⟨hp0, hp1, hpu⟩ := hp
      obtain ⟨K3, hG⟩ := Ev.get (Give_yes g hp0 (by omega) hpu).1
      obtain ⟨K4, h4⟩ := Ev.get (ih (used.set (rd xs i).toNat false) (rd xs i) (i + 1) (next.set (rd xs i).toNat free) (rd xs i) (rd xs i :: l) (by omega) (by omega) ⟨g.give hp0 (by omega) hpu, by simpa using hlen, fun _ => ⟨l, rfl⟩⟩)
      refine Ev.succ (K1 + K2 + K3 + K4) fun k hk => ?_
      rw [spigotlaw13_ArenaWhole.l1, if_neg (by omega), hC k (by omega)]
      simp only [Option.bind_some, if_true]
      rw [hw, if_pos (by omega), hR k (by omega)]
      simp only [Option.bind_some, if_true]
      rw [if_pos h0, if_pos hi, if_pos hp0, if_pos hp1, if_pos hp0, if_pos (by omega), if_pos hpu, hG k (by omega)]
      simp only [Option.bind_some, if_true]
      rw [hi1]
      exact h4 k (by omega)
    · cases l with
      | nil =>
        obtain ⟨he, hT⟩ := Take_full g
        obtain ⟨K3, hT⟩ := Ev.get hT
        obtain ⟨K4, h4⟩ := Ev.get (ih used given (i + 1) next free [] (by omega) (by omega) v)
        have hcn : ((used.count true : Nat) : Int) = n := by simp at hcount; omega
        refine Ev.succ (K1 + K2 + K3 + K4) fun k hk => ?_
        rw [spigotlaw13_ArenaWhole.l1, if_neg (by omega), hC k (by omega)]
        simp only [Option.bind_some, if_true]
        rw [hw, if_pos (by omega), hR k (by omega)]
        simp only [Option.bind_some, if_true]
        rw [if_pos h0, if_pos hi]
        by_cases h1 : rd xs i ≥ 0
        · by_cases h2 : rd xs i < n
          · have h3 : ¬ rdOf false used (rd xs i) = true := fun h => hp ⟨h1, h2, h⟩
            rw [if_pos h1, if_pos h2, if_pos h1, if_pos (by omega), if_neg h3, hT k (by omega)]
            simp only [Option.bind_some, if_true]
            rw [if_pos hcn, hi1]
            exact h4 k (by omega)
          · rw [if_pos h1, if_neg h2, hT k (by omega)]
            simp only [Option.bind_some, if_true]
            rw [if_pos hcn, hi1]
            exact h4 k (by omega)
        · rw [if_neg h1, hT k (by omega)]
          simp only [Option.bind_some, if_true]
          rw [if_pos hcn, hi1]
          exact h4 k (by omega)
      | cons q l =>
        obtain ⟨he, hq0, hq1, hqu, g2⟩ := g.take
        obtain ⟨K3, hT⟩ := Ev.get (Take_yes g)
        obtain ⟨K4, h4⟩ := Ev.get (ih (used.set q.toNat true) (-1) (i + 1) (next.set q.toNat (-1)) (rd next q) l (by omega) (by omega) ⟨g2, by simpa using hlen, fun h => by omega⟩)
        have hcn : ¬ ((used.count true : Nat) : Int) = n := by simp at hcount; omega
        have hlast : given ≥ 0 → q = given := fun h => by
          obtain ⟨l', e⟩ := v.last h
          injection e
        have fin : ∀ k, K1 + K2 + K3 + K4 ≤ k → (if ((used.count true : Nat) : Int) = n then (if (0 : Int) = 18 then spigotlaw13_ArenaWhole.l0 k n xs true used given (i + 1) next used free else some false) else if (0 : Int) = 0 then (if q < 0 then some false else if q ≥ n then some false else if 0 ≤ q then (if q < (used.length : Int) then (if rdOf false used q = true then some false else if given ≥ 0 then (if q = given then spigotlaw13_ArenaWhole.l0 k n xs true (used.set q.toNat true) (-1) (i + 1) (next.set q.toNat (-1)) (used.set q.toNat true) (rd next q) else some false) else spigotlaw13_ArenaWhole.l0 k n xs true (used.set q.toNat true) (-1) (i + 1) (next.set q.toNat (-1)) (used.set q.toNat true) (rd next q)) else none) else none) else some false) = some true := by
          intro k hk
          rw [if_neg hcn, if_pos rfl, if_neg (by omega), if_neg (by omega), if_pos hq0, if_pos (by omega), if_neg hqu]
          by_cases hg : given ≥ 0
          · rw [if_pos hg, if_pos (hlast hg)]; exact h4 k (by omega)
          · rw [if_neg hg]; exact h4 k (by omega)
        refine Ev.succ (K1 + K2 + K3 + K4) fun k hk => ?_
        rw [spigotlaw13_ArenaWhole.l1, if_neg (by omega), hC k (by omega)]
        simp only [Option.bind_some, if_true]
        rw [hw, if_pos (by omega), hR k (by omega)]
        simp only [Option.bind_some, if_true]
        rw [if_pos h0, if_pos hi]
        by_cases h1 : rd xs i ≥ 0
        · by_cases h2 : rd xs i < n
          · have h3 : ¬ rdOf false used (rd xs i) = true := fun h => hp ⟨h1, h2, h⟩
            rw [if_pos h1, if_pos h2, if_pos h1, if_pos (by omega), if_neg h3, hT k (by omega)]
            simp only [Option.bind_some]
            rw [hi1]
            exact fin k hk
          · rw [if_pos h1, if_neg h2, hT k (by omega)]
            simp only [Option.bind_some]
            rw [hi1]
            exact fin k hk
        · rw [if_neg h1, hT k (by omega)]
          simp only [Option.bind_some]
          rw [hi1]
          exact fin k hk

/-- A new arena: all places in order. -/
def newB (n : Nat) : Bool := (arena_New.f 40 n).any fun r => decide (r = ((List.range n).map (fun i => if i + 1 = n then (-1 : Int) else (i : Int) + 1), List.replicate n false, 0, 0))
theorem new_all : ∀ n : Fin 17, 1 ≤ n.val → newB n.val = true := by decide +kernel
theorem new_at {n : Nat} (h0 : 1 ≤ n) (h1 : n ≤ 16) : arena_New.f 40 n = some ((List.range n).map (fun i => if i + 1 = n then (-1 : Int) else (i : Int) + 1), List.replicate n false, 0, 0) := by
  have := new_all ⟨n, by omega⟩ h0
  unfold newB at this
  cases hr : arena_New.f 40 (n : Int) with
  | none => simp only [hr] at this; simp at this
  | some r => simp only [hr] at this; simp only [Option.any_some, decide_eq_true_eq] at this; rw [this]

theorem new_chain {n : Nat} {next : List Int} (hn : next.length = n) (h0 : 1 ≤ n) (hr : ∀ i : Nat, i < n → rd next i = if i + 1 = n then (-1 : Int) else (i : Int) + 1) :
    ∀ d i : Nat, i + d + 1 = n → Chain next i ((List.range' i (d + 1)).map Int.ofNat) := by
  intro d
  induction d with
  | zero =>
    intro i hi
    refine .cons (by omega) (by omega) ?_
    rw [hr i (by omega), if_pos (by omega)]
    exact .nil
  | succ d ih =>
    intro i hi
    rw [List.range'_succ, List.map_cons]
    refine .cons (by simp) (by simp; omega) ?_
    have := hr i (by omega)
    rw [if_neg (by omega)] at this
    show Chain next (rd next (i : Int)) _
    rw [this]
    exact ih (i + 1) (by omega)

theorem new_good {n : Nat} (h0 : 1 ≤ n) (h1 : n ≤ 16) : ∃ l, ArenaPlain.Good ((List.range n).map (fun i => if i + 1 = n then (-1 : Int) else (i : Int) + 1)) (List.replicate n false) 0 l := by
  refine ⟨(List.range' 0 (n - 1 + 1)).map Int.ofNat, ⟨by simpa using h0, by simpa using h1, by simp, ?_, ?_, ?_, ?_⟩⟩
  · exact new_chain (n := n) (by simp) h0 (fun i hi => by simp [rd, List.getD_eq_getElem?_getD, hi]) (n - 1) 0 (by omega)
  · apply List.Pairwise.map (R := (· ≠ ·)) (S := (· ≠ ·))
    · intro a b h e; exact h (Int.ofNat.inj e)
    · exact List.nodup_range'
  · intro j a b
    simp at b
    have hf : rdOf false (List.replicate n false) j = false := by
      simp [rdOf, List.getD_eq_getElem?_getD, List.getElem?_replicate]
      split <;> rfl
    rw [hf]
    simp only [Bool.false_eq_true, false_iff, Classical.not_not]
    refine List.mem_map.2 ⟨j.toNat, ?_, by simp; omega⟩
    rw [List.mem_range']
    exact ⟨j.toNat, by omega, by omega⟩
  · intro j a b c
    have hf : rdOf false (List.replicate n false) j = false := by
      simp [rdOf, List.getD_eq_getElem?_getD, List.getElem?_replicate]
      split <;> rfl
    rw [hf] at c
    exact Bool.noConfusion c

theorem ArenaWhole : spigotlaw13_ArenaWhole.Pure := by
  intro n xs _ _
  obtain ⟨K1, ha⟩ := Ev.get whole_alive
  by_cases hn : 1 ≤ n ∧ n ≤ 16
  · obtain ⟨m, rfl⟩ : ∃ m : Nat, n = m := ⟨n.toNat, by omega⟩
    obtain ⟨K2, hN⟩ := Ev.get (Ev.of (fun k => arena_New.mono (m : Int) k) (new_at (n := m) (by omega) (by omega)))
    by_cases hx : 60 < xs.length
    · refine ⟨K1 + K2, ?_⟩
      unfold spigotlaw13_ArenaWhole.f
      rw [ha _ (by omega), hN _ (by omega)]
      simp only [Option.bind_some, if_true]
      rw [if_neg (by omega), if_neg (by omega), if_pos (by omega), decide_eq_false (by omega)]
      rfl
    · obtain ⟨l, g⟩ := new_good (n := m) (by omega) (by omega)
      obtain ⟨K3, h3⟩ := Ev.get (whole_loop (n := m) (xs := xs) (by omega) xs.length (List.replicate m false) (-1) 0 _ 0 l (Int.le_refl _) (by omega) ⟨g, by simp, fun h => by omega⟩)
      refine ⟨K1 + K2 + K3, ?_⟩
      unfold spigotlaw13_ArenaWhole.f
      rw [ha _ (by omega), hN _ (by omega)]
      simp only [Option.bind_some, if_true]
      rw [if_neg (by omega), if_neg (by omega), if_neg (by omega), if_pos (by omega), if_pos (by simp; omega)]
      simpa using h3 (K1 + K2 + K3) (by omega)
  · have hN : Ev (fun k => arena_New.f k n) ([], [], 0, 2) := Ev.succ 0 fun k _ => by
      unfold arena_New.f
      by_cases h0 : n < 1
      · rw [if_pos h0, arena_New.j0, if_pos rfl]
      · rw [if_neg h0, decide_eq_true (by omega), arena_New.j0, if_pos rfl]
    obtain ⟨K2, hN⟩ := Ev.get hN
    refine ⟨K1 + K2, ?_⟩
    unfold spigotlaw13_ArenaWhole.f
    rw [ha _ (by omega), hN _ (by omega)]
    simp only [Option.bind_some, if_true]
    rw [if_neg (by decide)]
    by_cases h0 : n < 1
    · rw [if_pos h0]; rfl
    · rw [if_neg h0, decide_eq_true (by omega)]; rfl
end Go.Proofs.Ytlgfopdindklnaa.Pure

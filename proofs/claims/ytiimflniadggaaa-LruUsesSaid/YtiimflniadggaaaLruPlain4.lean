/- What the printed functions of the orders come to: New, Touch, Remove, List and Last on both sides. -/
import Derived.Test.YtiimflniadggaaaLruPlain3
namespace Go.Proofs.Ytiimflniadggaaa.LruPlain
open Go.RowKit Go.Proofs.Ytiimflniadggaaa.PLru Go.Proofs.YtiimflniadggaaaW.PrintWords Go.Proofs.YtiimflniadggaaaW.PrintLast

theorem clone_f {l : List Int} (h : l.length ≤ 1000) : slices_Clone_int_int.f l = some l := by
  unfold slices_Clone_int_int.f
  simp only [Option.bind_some]
  rw [if_pos (by simp; omega), List.nil_append]
theorem ltwin_f {P N : List Int} (hP : P.length ≤ 1000) (hN : N.length ≤ 1000) (h t : Int) : lru_twin.f P N h t = some (P, N, h, t) := by
  unfold lru_twin.f
  rw [clone_f hP, Option.bind_some, clone_f hN, Option.bind_some]
theorem rtwin_f {P N : List Int} (hP : P.length ≤ 1000) (hN : N.length ≤ 1000) (h t : Int) : spigotref15_Twin.f P N h t = some (P, N, h, t) := by
  unfold spigotref15_Twin.f
  simp only [Option.bind_some]
  rw [if_pos (by simp; omega), if_pos (by simp; omega), List.nil_append, List.nil_append]
theorem great_f (P N : List Int) (h t : Int) : spigotref15_Great.f P N h t = some (decide (P.length > 100 ∨ N.length > 100)) := by
  unfold spigotref15_Great.f
  by_cases c : P.length > 100
  · rw [if_pos (by omega), decide_eq_true (Or.inl c)]
  · rw [if_neg (by omega)]
    congr 1
    apply decide_eq_decide.2
    omega

/-! ### New -/
theorem lnew_ev (n : Int) : Ev (fun k => lru_New.f k n) (if 1 ≤ n ∧ n ≤ 16 then (PV n.toNat [], NX n.toNat [], -1, -1, 0) else ([], [], 0, 0, 2)) := by
  by_cases c : 1 ≤ n ∧ n ≤ 16
  · rw [if_pos c]
    refine Ev.step (f := fun _ => some (PV n.toNat [], NX n.toNat [], -1, -1, 0)) (fun k => ?_) (Ev.now _)
    unfold lru_New.f
    have h1 : slices_Repeat_int_int.f ([(-1)] : List Int) n = some (List.replicate n.toNat (-1)) := by
      unfold slices_Repeat_int_int.f
      rw [if_pos ⟨rfl, c⟩]; rfl
    rw [if_neg (by omega), lru_New.j0, if_neg (by simp; omega), h1, Option.bind_some, clone_f (by simp; omega), Option.bind_some]
    have e1 : PV n.toNat [] = List.replicate n.toNat (-1) := row_nil _
    have e2 : NX n.toNat [] = List.replicate n.toNat (-1) := row_nil _
    rw [e1, e2]
  · rw [if_neg c]
    refine Ev.step (f := fun _ => some ([], [], 0, 0, 2)) (fun k => ?_) (Ev.now _)
    unfold lru_New.f
    by_cases q : n < 1
    · rw [if_pos q, lru_New.j0, if_pos rfl]
    · rw [if_neg q, lru_New.j0, if_pos (by simp; omega)]
theorem rnew_ev (n : Int) : Ev (fun k => spigotref15_New.f k n) (if 1 ≤ n ∧ n ≤ 16 then (PV n.toNat [], NX n.toNat [], -1, -1, 0) else ([], [], 0, 0, 2)) := by
  by_cases c : 1 ≤ n ∧ n ≤ 16
  · rw [if_pos c]
    obtain ⟨K, hK⟩ := Ev.get (made_ev (n := n.toNat) (by omega) (Ok.nil _))
    refine ⟨K, fun k hk => ?_⟩
    have e : ((n.toNat : Nat) : Int) = n := by omega
    have h1 := hK k hk
    rw [e] at h1
    dsimp only
    unfold spigotref15_New.f
    rw [if_neg (by omega), if_neg (by omega), h1, Option.bind_some]; rfl
  · rw [if_neg c]
    refine Ev.congr (f := fun _ => some ([], [], 0, 0, 2)) (fun k => ?_) (Ev.now _)
    unfold spigotref15_New.f
    by_cases q : n < 1
    · rw [if_pos q]
    · rw [if_neg q, if_pos (by omega)]

/-! ### a place's error -/
theorem places {P N : List Int} {h t : Int} (p : Int) (hP : P.length ≤ 100) (hN : N.length ≤ 100) :
    ∃ r, Ev (fun k => lru_check.f k P N h t p) r ∧ Ev (fun k => spigotref15_Place.f k P N h t p) r ∧ (r = 0 ↔ Val P N h t ∧ 0 ≤ p ∧ p < P.length) ∧ (Val P N h t → r = if 0 ≤ p ∧ p < P.length then 0 else 2) := by
  obtain ⟨r, a, b, c, d⟩ := checks P N h t hP hN
  obtain ⟨K1, h1⟩ := Ev.get a
  obtain ⟨K2, h2⟩ := Ev.get b
  by_cases v : r = 0
  · by_cases q : 0 ≤ p ∧ p < P.length
    · refine ⟨0, ⟨K1, fun k hk => ?_⟩, ⟨K2, fun k hk => ?_⟩, ⟨fun _ => ⟨d.1 v, q⟩, fun _ => rfl⟩, fun _ => by rw [if_pos q]⟩
      · dsimp only; unfold lru_check.f; rw [h1 k hk, Option.bind_some, if_pos v, if_neg (by omega), if_neg (by omega)]
      · dsimp only; unfold spigotref15_Place.f; rw [h2 k hk, Option.bind_some, if_pos v, if_neg (by omega), if_neg (by omega)]
    · refine ⟨2, ⟨K1, fun k hk => ?_⟩, ⟨K2, fun k hk => ?_⟩, ⟨fun e => by omega, fun e => absurd e.2 q⟩, fun _ => by rw [if_neg q]⟩
      · dsimp only; unfold lru_check.f; rw [h1 k hk, Option.bind_some, if_pos v]
        by_cases u : p < 0
        · rw [if_pos u]
        · rw [if_neg u, if_pos (by omega)]
      · dsimp only; unfold spigotref15_Place.f; rw [h2 k hk, Option.bind_some, if_pos v]
        by_cases u : p < 0
        · rw [if_pos u]
        · rw [if_neg u, if_pos (by omega)]
  · refine ⟨r, ⟨K1, fun k hk => ?_⟩, ⟨K2, fun k hk => ?_⟩, ⟨fun e => absurd e v, fun e => d.2 e.1⟩, fun e => absurd (d.2 e) v⟩
    · dsimp only; unfold lru_check.f; rw [h1 k hk, Option.bind_some, if_neg v]
    · dsimp only; unfold spigotref15_Place.f; rw [h2 k hk, Option.bind_some, if_neg v, Option.bind_some]

/-! ### in -/
theorem pv_in {c : Int} {n : Nat} {L : List Int} (hL : Ok n L) {p : Int} (hm : p ∈ L) (hne : hd (-1) L ≠ p) : pv c L p ≠ -1 := by
  induction L generalizing c with
  | nil => cases hm
  | cons y l ih =>
    rw [pv, if_neg (fun e => hne e.symm)]
    have hm2 : p ∈ l := by rcases List.mem_cons.1 hm with m | m; exact absurd m.symm hne; exact m
    cases l with
    | nil => cases hm2
    | cons z l =>
      by_cases q : p = z
      · rw [pv, if_pos q]; have := hL.2 y List.mem_cons_self; omega
      · exact ih ⟨(List.nodup_cons.1 hL.1).2, fun x hx => hL.2 x (List.mem_cons_of_mem _ hx)⟩ hm2 (fun e => q e.symm)
theorem lin_f {n : Nat} {L : List Int} (hL : Ok n L) {p : Int} (h0 : 0 ≤ p) (h1 : p < n) : lru_in.f (PV n L) (NX n L) (hd (-1) L) (lst (-1) L) p = some (decide (p ∈ L)) := by
  unfold lru_in.f
  by_cases c : hd (-1) L = p
  · rw [if_pos c]
    have hne : L ≠ [] := by rintro rfl; simp [hd] at c; omega
    rw [decide_eq_true (by rw [← c]; exact hd_mem hne _)]
  · rw [if_neg c, if_pos h0, PV_len, if_pos h1, rd_PV h0 h1]
    by_cases m : p ∈ L
    · rw [decide_eq_true m, bne_iff_ne.2 (pv_in hL m c)]
    · rw [decide_eq_false m, pv_out m]; rfl

/-! ### the parts of an order around a place -/
theorem around {n : Nat} {A B : List Int} {p : Int} (h : Ok n (A ++ p :: B)) : rd (PV n (A ++ p :: B)) p = lst (-1) A ∧ rd (NX n (A ++ p :: B)) p = hd (-1) B ∧
    (if lst (-1) A = -1 then hd (-1) B else hd (-1) (A ++ p :: B)) = hd (-1) (A ++ B) ∧ (if hd (-1) B = -1 then lst (-1) A else lst (-1) (A ++ p :: B)) = lst (-1) (A ++ B) ∧
    (lst (-1) A = -1 ∨ (0 ≤ lst (-1) A ∧ lst (-1) A < n)) ∧ (hd (-1) B = -1 ∨ (0 ≤ hd (-1) B ∧ hd (-1) B < n)) := by
  obtain ⟨hA, hpB, hd_⟩ := h.app
  have hp := hpB.2 p List.mem_cons_self
  have hB : Ok n B := ⟨(List.nodup_cons.1 hpB.1).2, fun x hx => hpB.2 x (List.mem_cons_of_mem _ hx)⟩
  have hpA : p ∉ A := fun m => hd_ p m List.mem_cons_self
  refine ⟨?_, ?_, ?_, ?_, ?_, ?_⟩
  · rw [rd_PV hp.1 hp.2, pv_app, if_neg hpA, pv, if_pos rfl]
  · rw [rd_NX hp.1 hp.2, nx_app, if_neg hpA, nx, if_pos rfl]
  · by_cases e : lst (-1) A = -1
    · rw [if_pos e, (hA.lst_ne).1 e]; rfl
    · rw [if_neg e]
      cases A with
      | nil => exact absurd rfl e
      | cons => rfl
  · by_cases e : hd (-1) B = -1
    · rw [if_pos e, (hB.hd_ne).1 e, List.append_nil]
    · rw [if_neg e, lst_app, lst_app, lst]
      exact lst_any (fun e2 => e (by rw [e2]; rfl)) _ _
  · by_cases e : A = []
    · left; rw [e]; rfl
    · right; exact hA.2 _ (lst_mem e _)
  · by_cases e : B = []
    · left; rw [e]; rfl
    · right; exact hB.2 _ (hd_mem e _)
theorem Ok.gone {n : Nat} {A B : List Int} {p : Int} (h : Ok n (A ++ p :: B)) : Ok n (A ++ B) ∧ p ∉ A ++ B := by
  have e := wo_mid h.1
  have h2 : p ∉ A ++ B := by rw [← e]; unfold wo; simp
  refine ⟨⟨?_, fun x hx => h.2 x ?_⟩, h2⟩
  · rw [← e]; exact h.1.filter _
  · rcases List.mem_append.1 hx with m | m
    · exact List.mem_append_left _ m
    · exact List.mem_append_right _ (List.mem_cons_of_mem _ m)
theorem Ok.wo {n : Nat} {L : List Int} (h : Ok n L) (p : Int) : Ok n (wo p L) ∧ p ∉ wo p L := by
  refine ⟨⟨h.1.filter _, fun x hx => h.2 x (List.mem_filter.1 hx).1⟩, fun m => ?_⟩
  have := (List.mem_filter.1 m).2
  simp at this
theorem Ok.cons {n : Nat} {L : List Int} (h : Ok n L) {p : Int} (h0 : 0 ≤ p) (h1 : p < n) (hp : p ∉ L) : Ok n (p :: L) :=
  ⟨List.nodup_cons.2 ⟨hp, h.1⟩, fun x hx => by rcases List.mem_cons.1 hx with m | m; rw [m]; exact ⟨h0, h1⟩; exact h.2 x m⟩
theorem Ok.touch {n : Nat} {L : List Int} (h : Ok n L) {p : Int} (h0 : 0 ≤ p) (h1 : p < n) : Ok n (p :: LruPlain.wo p L) := (h.wo p).1.cons h0 h1 (h.wo p).2

/-! ### Touch -/
theorem j0_f {n : Nat} {L : List Int} {p : Int} (h : Ok n (p :: L)) (k : Nat) :
    lru_Touch.j0 (k + 1) p (PV n L) (NX n L) (hd (-1) L) (lst (-1) L) = some (PV n (p :: L), NX n (p :: L), hd (-1) (p :: L), lst (-1) (p :: L), 0) := by
  have hp := h.2 p List.mem_cons_self
  have hL : Ok n L := ⟨(List.nodup_cons.1 h.1).2, fun x hx => h.2 x (List.mem_cons_of_mem _ hx)⟩
  rw [lru_Touch.j0, if_pos hp.1, NX_len, if_pos hp.2]
  simp only [Option.bind_some]
  rw [← NX_cons h, PV_cons h]
  unfold putIf
  by_cases e : hd (-1) L = -1
  · rw [if_pos e, if_pos e, (hL.hd_ne).1 e]; rfl
  · have hne : L ≠ [] := fun e2 => e (by rw [e2]; rfl)
    have hr := hL.2 _ (hd_mem hne (-1))
    rw [if_neg e, if_neg e, if_pos hr.1, PV_len, if_pos hr.2]
    have e3 : lst (-1) (p :: L) = lst (-1) L := lst_any hne _ _
    rw [e3]; rfl
theorem ltouch_ev {n : Nat} {L : List Int} (hn1 : 1 ≤ n) (hn : n ≤ 16) (hL : Ok n L) {p : Int} (h0 : 0 ≤ p) (h1 : p < n) :
    Ev (fun k => lru_Touch.f k (PV n L) (NX n L) (hd (-1) L) (lst (-1) L) p) (PV n (p :: wo p L), NX n (p :: wo p L), p, lst (-1) (p :: wo p L), 0) := by
  obtain ⟨r, hr, _, hq, _⟩ := places (P := PV n L) (N := NX n L) (h := hd (-1) L) (t := lst (-1) L) p (by rw [PV_len]; omega) (by rw [NX_len]; omega)
  have r0 : r = 0 := hq.2 ⟨Val.made hn1 hn hL, h0, by rw [PV_len]; exact h1⟩
  subst r0
  obtain ⟨K, hK⟩ := Ev.get hr
  refine ⟨K + 1, fun k hk => ?_⟩
  obtain ⟨k, rfl⟩ : ∃ j, k = j + 1 := ⟨k - 1, by omega⟩
  have hj := j0_f (hL.touch h0 h1) k
  dsimp only
  unfold lru_Touch.f
  rw [hK (k + 1) (by omega), Option.bind_some, if_pos rfl, ltwin_f (by rw [PV_len]; omega) (by rw [NX_len]; omega), Option.bind_some, lin_f hL h0 h1, Option.bind_some]
  by_cases m : p ∈ L
  · rw [if_pos (decide_eq_true m)]
    obtain ⟨A, B, rfl⟩ := List.append_of_mem m
    obtain ⟨ra, rb, ha, hb, qa, qb⟩ := around hL
    have PO := PV_out hL
    have NO := NX_out hL
    rw [wo_mid hL.1] at hj ⊢
    have l1 := PV_len n (A ++ p :: B)
    have l2 := NX_len n (A ++ p :: B)
    have q1 : p < ((PV n (A ++ p :: B)).length : Int) := by rw [l1]; exact h1
    have q2 : p < ((NX n (A ++ p :: B)).length : Int) := by rw [l2]; exact h1
    refine Eq.trans ?_ hj
    dsimp only
    rw [if_pos h0, if_pos q1, if_pos q2, ra, rb]
    rw [← ha, ← hb, ← PO, ← NO, l1, l2]
    unfold putIf
    generalize lst (-1) A = a at *
    generalize hd (-1) B = b at *
    rcases qa with qa | ⟨qa1, qa2⟩ <;> rcases qb with qb | ⟨qb1, qb2⟩
    · simp only [qa, qb, if_true]
    · rw [if_pos qa, if_neg (by omega), if_pos qb1, if_pos qb2]
      simp only [qa, if_true, if_neg (show ¬ b = -1 by omega)]
    · rw [if_neg (by omega), if_pos qa1, if_pos qa2, Option.bind_some, if_pos qb]
      simp only [qb, if_true, if_neg (show ¬ a = -1 by omega)]
    · rw [if_neg (by omega), if_pos qa1, if_pos qa2, Option.bind_some, if_neg (by omega), if_pos qb1, if_pos qb2]
      simp only [if_neg (show ¬ a = -1 by omega), if_neg (show ¬ b = -1 by omega)]
  · rw [if_neg (by rw [decide_eq_false m]; simp)]
    rw [wo_out m] at hj ⊢
    exact hj
theorem rtouch_ev {n : Nat} {L : List Int} (hn1 : 1 ≤ n) (hn : n ≤ 16) (hL : Ok n L) {p : Int} (h0 : 0 ≤ p) (h1 : p < n) :
    Ev (fun k => spigotref15_Touch.f k (PV n L) (NX n L) (hd (-1) L) (lst (-1) L) p) (PV n (p :: wo p L), NX n (p :: wo p L), p, lst (-1) (p :: wo p L), 0) := by
  obtain ⟨r, _, hr, hq, _⟩ := places (P := PV n L) (N := NX n L) (h := hd (-1) L) (t := lst (-1) L) p (by rw [PV_len]; omega) (by rw [NX_len]; omega)
  have r0 : r = 0 := hq.2 ⟨Val.made hn1 hn hL, h0, by rw [PV_len]; exact h1⟩
  subst r0
  have hlen := hL.len
  obtain ⟨K1, h1'⟩ := Ev.get hr
  obtain ⟨K2, h2'⟩ := Ev.get (all_made (by omega) hL (PV n L) (lst (-1) L))
  obtain ⟨K3, h3'⟩ := Ev.get (without_ev (l := L) (by omega) p)
  obtain ⟨K4, h4'⟩ := Ev.get (made_ev (n := n) (by omega) (hL.touch h0 h1))
  refine ⟨K1 + K2 + K3 + K4, fun k hk => ?_⟩
  dsimp only
  unfold spigotref15_Touch.f
  rw [h1' k (by omega), Option.bind_some, if_pos rfl, h2' k (by omega), Option.bind_some]
  simp only [Option.bind_some]
  rw [h3' k (by omega), Option.bind_some, if_pos (by have := wo_len p L; simp; omega), PV_len]
  rw [show [p] ++ wo p L = p :: wo p L from rfl, h4' k (by omega), Option.bind_some]; rfl
/-- Both touches return the same. -/
theorem touches {P N : List Int} {h t : Int} (p : Int) (hP : P.length ≤ 100) (hN : N.length ≤ 100) :
    ∃ x, Ev (fun k => lru_Touch.f k P N h t p) x ∧ Ev (fun k => spigotref15_Touch.f k P N h t p) x ∧ x.1.length ≤ 100 ∧ x.2.1.length ≤ 100 := by
  obtain ⟨r, hr, hs, hq, _⟩ := places (P := P) (N := N) (h := h) (t := t) p hP hN
  by_cases r0 : r = 0
  · obtain ⟨⟨n1, n2, L, hL, e1, e2, e3, e4⟩, h0, h1⟩ := hq.1 r0
    have a := ltouch_ev n1 n2 hL h0 h1
    have b := rtouch_ev n1 n2 hL h0 h1
    rw [← e1, ← e2, ← e3, ← e4] at a b
    exact ⟨_, a, b, by show (PV _ _).length ≤ 100; rw [PV_len]; omega, by show (NX _ _).length ≤ 100; rw [NX_len]; omega⟩
  · obtain ⟨K1, h1⟩ := Ev.get hr
    obtain ⟨K2, h2⟩ := Ev.get hs
    refine ⟨([], [], 0, 0, r), ⟨K1, fun k hk => ?_⟩, ⟨K2, fun k hk => ?_⟩, by simp, by simp⟩
    · dsimp only; unfold lru_Touch.f; rw [h1 k hk, Option.bind_some, if_neg r0]
    · dsimp only; unfold spigotref15_Touch.f; rw [h2 k hk, Option.bind_some, if_neg r0, Option.bind_some]

/-! ### Remove -/
theorem lremove_ev {n : Nat} {L : List Int} (hn1 : 1 ≤ n) (hn : n ≤ 16) (hL : Ok n L) {p : Int} (h0 : 0 ≤ p) (h1 : p < n) :
    Ev (fun k => lru_Remove.f k (PV n L) (NX n L) (hd (-1) L) (lst (-1) L) p) (if p ∈ L then (PV n (wo p L), NX n (wo p L), hd (-1) (wo p L), lst (-1) (wo p L), 0) else ([], [], 0, 0, 6)) := by
  obtain ⟨r, hr, _, hq, _⟩ := places (P := PV n L) (N := NX n L) (h := hd (-1) L) (t := lst (-1) L) p (by rw [PV_len]; omega) (by rw [NX_len]; omega)
  have r0 : r = 0 := hq.2 ⟨Val.made hn1 hn hL, h0, by rw [PV_len]; exact h1⟩
  subst r0
  obtain ⟨K, hK⟩ := Ev.get hr
  refine ⟨K, fun k hk => ?_⟩
  dsimp only
  unfold lru_Remove.f
  rw [hK k hk, Option.bind_some, if_pos rfl, lin_f hL h0 h1, Option.bind_some]
  by_cases m : p ∈ L
  · rw [if_pos (decide_eq_true m), if_pos m, ltwin_f (by rw [PV_len]; omega) (by rw [NX_len]; omega), Option.bind_some]
    obtain ⟨A, B, rfl⟩ := List.append_of_mem m
    obtain ⟨ra, rb, ha, hb, qa, qb⟩ := around hL
    have PO := PV_out hL
    have NO := NX_out hL
    rw [wo_mid hL.1]
    have l1 := PV_len n (A ++ p :: B)
    have l2 := NX_len n (A ++ p :: B)
    have q1 : p < ((PV n (A ++ p :: B)).length : Int) := by rw [l1]; exact h1
    have q2 : p < ((NX n (A ++ p :: B)).length : Int) := by rw [l2]; exact h1
    dsimp only
    rw [if_pos h0, if_pos q1, if_pos q2, ra, rb]
    rw [← ha, ← hb, ← PO, ← NO, l1, l2]
    unfold putIf
    generalize lst (-1) A = a at *
    generalize hd (-1) B = b at *
    rcases qa with qa | ⟨qa1, qa2⟩ <;> rcases qb with qb | ⟨qb1, qb2⟩
    · simp only [qa, qb, if_true]
    · rw [if_pos qa, if_neg (by omega), if_pos qb1, if_pos qb2]
      simp only [qa, if_true, if_neg (show ¬ b = -1 by omega)]
    · rw [if_neg (by omega), if_pos qa1, if_pos qa2, Option.bind_some, if_pos qb]
      simp only [qb, if_true, if_neg (show ¬ a = -1 by omega)]
    · rw [if_neg (by omega), if_pos qa1, if_pos qa2, Option.bind_some, if_neg (by omega), if_pos qb1, if_pos qb2]
      simp only [if_neg (show ¬ a = -1 by omega), if_neg (show ¬ b = -1 by omega)]
  · rw [if_neg (by rw [decide_eq_false m]; simp), if_neg m]
theorem rremove_ev {n : Nat} {L : List Int} (hn1 : 1 ≤ n) (hn : n ≤ 16) (hL : Ok n L) {p : Int} (h0 : 0 ≤ p) (h1 : p < n) :
    Ev (fun k => spigotref15_Remove.f k (PV n L) (NX n L) (hd (-1) L) (lst (-1) L) p) (if p ∈ L then (PV n (wo p L), NX n (wo p L), hd (-1) (wo p L), lst (-1) (wo p L), 0) else ([], [], 0, 0, 6)) := by
  obtain ⟨r, _, hr, hq, _⟩ := places (P := PV n L) (N := NX n L) (h := hd (-1) L) (t := lst (-1) L) p (by rw [PV_len]; omega) (by rw [NX_len]; omega)
  have r0 : r = 0 := hq.2 ⟨Val.made hn1 hn hL, h0, by rw [PV_len]; exact h1⟩
  subst r0
  have hlen := hL.len
  obtain ⟨K1, h1'⟩ := Ev.get hr
  obtain ⟨K2, h2'⟩ := Ev.get (all_made (by omega) hL (PV n L) (lst (-1) L))
  obtain ⟨K3, h3'⟩ := Ev.get (without_ev (l := L) (by omega) p)
  obtain ⟨K4, h4'⟩ := Ev.get (made_ev (n := n) (by omega) (hL.wo p).1)
  obtain ⟨K5, h5'⟩ := Ev.get (in_ev (l := L) (by omega) p)
  refine ⟨K1 + K2 + K3 + K4 + K5, fun k hk => ?_⟩
  dsimp only
  unfold spigotref15_Remove.f
  rw [h1' k (by omega), Option.bind_some, if_pos rfl, h2' k (by omega), Option.bind_some, h5' k (by omega), Option.bind_some]
  by_cases m : p ∈ L
  · rw [if_pos (decide_eq_true m), if_pos m, h3' k (by omega), Option.bind_some, PV_len, h4' k (by omega), Option.bind_some]
  · rw [if_neg (by rw [decide_eq_false m]; simp), if_neg m]
theorem removes {P N : List Int} {h t : Int} (p : Int) (hP : P.length ≤ 100) (hN : N.length ≤ 100) :
    ∃ x, Ev (fun k => lru_Remove.f k P N h t p) x ∧ Ev (fun k => spigotref15_Remove.f k P N h t p) x ∧ x.1.length ≤ 100 ∧ x.2.1.length ≤ 100 := by
  obtain ⟨r, hr, hs, hq, _⟩ := places (P := P) (N := N) (h := h) (t := t) p hP hN
  by_cases r0 : r = 0
  · obtain ⟨⟨n1, n2, L, hL, e1, e2, e3, e4⟩, h0, h1⟩ := hq.1 r0
    have a := lremove_ev n1 n2 hL h0 h1
    have b := rremove_ev n1 n2 hL h0 h1
    rw [← e1, ← e2, ← e3, ← e4] at a b
    refine ⟨_, a, b, ?_, ?_⟩
    · split
      · show (PV _ _).length ≤ 100; rw [PV_len]; omega
      · simp
    · split
      · show (NX _ _).length ≤ 100; rw [NX_len]; omega
      · simp
  · obtain ⟨K1, h1⟩ := Ev.get hr
    obtain ⟨K2, h2⟩ := Ev.get hs
    refine ⟨([], [], 0, 0, r), ⟨K1, fun k hk => ?_⟩, ⟨K2, fun k hk => ?_⟩, by simp, by simp⟩
    · dsimp only; unfold lru_Remove.f; rw [h1 k hk, Option.bind_some, if_neg r0]
    · dsimp only; unfold spigotref15_Remove.f; rw [h2 k hk, Option.bind_some, if_neg r0, Option.bind_some]

/-! ### List and Last -/
theorem list_l0 {n : Nat} (hn : n ≤ 1000) {L : List Int} (hL : Ok n L) (P : List Int) (h t : Int) : ∀ B A : List Int, L = A ++ B → Ev (fun k => lru_List.l0 k A (hd (-1) B) P (NX n L) h t) (L, 0) := by
  intro B
  induction B with
  | nil =>
    intro A e
    rw [List.append_nil] at e
    subst e
    refine Ev.step (f := fun _ => some (L, 0)) (fun k => ?_) (Ev.now _)
    rw [hd, lru_List.l0, if_pos rfl]
  | cons y B ih =>
    intro A e
    have hl := hL.len
    have hll : L.length = A.length + 1 + B.length := by rw [e]; simp; omega
    have hy := hL.2 y (by rw [e]; simp)
    have h2 : rd (NX n L) y = hd (-1) B := by
      have h3 := hL
      rw [e] at h3 ⊢
      exact (around h3).2.1
    refine Ev.step (fun k => ?_) (ih (A ++ [y]) (by rw [e]; simp))
    rw [hd, lru_List.l0, if_neg (by omega), if_pos (by omega), if_pos hy.1, NX_len, if_pos hy.2, h2]
theorem llist_made {n : Nat} {L : List Int} (hn1 : 1 ≤ n) (hn : n ≤ 16) (hL : Ok n L) : Ev (fun k => lru_List.f k (PV n L) (NX n L) (hd (-1) L) (lst (-1) L)) (L, 0) := by
  obtain ⟨r, hr, _, hq⟩ := check_ev (PV n L) (NX n L) (hd (-1) L) (lst (-1) L)
  have r0 : r = 0 := hq.2 (Val.made hn1 hn hL)
  subst r0
  obtain ⟨K1, h1⟩ := Ev.get hr
  obtain ⟨K2, h2⟩ := Ev.get (list_l0 (by omega) hL (PV n L) (hd (-1) L) (lst (-1) L) L [] rfl)
  refine ⟨K1 + K2, fun k hk => ?_⟩
  dsimp only
  unfold lru_List.f
  rw [h1 k (by omega), Option.bind_some, if_pos rfl, h2 k (by omega)]
theorem lists {P N : List Int} {h t : Int} (hP : P.length ≤ 100) (hN : N.length ≤ 100) :
    ∃ x, Ev (fun k => lru_List.f k P N h t) x ∧ Ev (fun k => spigotref15_List.f k P N h t) x ∧ x.1.length ≤ 100 := by
  obtain ⟨r, hr, hs, _, hq⟩ := checks P N h t hP hN
  obtain ⟨K2, h2⟩ := Ev.get hs
  by_cases r0 : r = 0
  · obtain ⟨n1, n2, L, hL, e1, e2, e3, e4⟩ := hq.1 r0
    have a := llist_made n1 n2 hL
    obtain ⟨K3, h3⟩ := Ev.get (all_made (by omega) hL P t)
    rw [← e1, ← e2, ← e3, ← e4] at a
    rw [← e2, ← e3] at h3
    have := hL.len
    refine ⟨_, a, ⟨K2 + K3, fun k hk => ?_⟩, by show L.length ≤ 100; omega⟩
    dsimp only; unfold spigotref15_List.f; rw [h2 k (by omega), Option.bind_some, if_pos r0, h3 k (by omega), Option.bind_some]
  · obtain ⟨K1, h1⟩ := Ev.get hr
    refine ⟨([], r), ⟨K1, fun k hk => ?_⟩, ⟨K2, fun k hk => ?_⟩, by simp⟩
    · dsimp only; unfold lru_List.f; rw [h1 k hk, Option.bind_some, if_neg r0]
    · dsimp only; unfold spigotref15_List.f; rw [h2 k hk, Option.bind_some, if_neg r0, Option.bind_some]
theorem llast_made {n : Nat} {L : List Int} (hn1 : 1 ≤ n) (hn : n ≤ 16) (hL : Ok n L) : Ev (fun k => lru_Last.f k (PV n L) (NX n L) (hd (-1) L) (lst (-1) L)) (if L = [] then (0, 6) else (lst (-1) L, 0)) := by
  obtain ⟨r, hr, _, hq⟩ := check_ev (PV n L) (NX n L) (hd (-1) L) (lst (-1) L)
  have r0 : r = 0 := hq.2 (Val.made hn1 hn hL)
  subst r0
  obtain ⟨K1, h1⟩ := Ev.get hr
  refine ⟨K1, fun k hk => ?_⟩
  dsimp only
  unfold lru_Last.f
  rw [h1 k hk, Option.bind_some, if_pos rfl]
  by_cases e : L = []
  · rw [if_pos ((hL.lst_ne).2 e), if_pos e]
  · rw [if_neg (fun q => e ((hL.lst_ne).1 q)), if_neg e]
theorem lasts {P N : List Int} {h t : Int} (hP : P.length ≤ 100) (hN : N.length ≤ 100) :
    ∃ x, Ev (fun k => lru_Last.f k P N h t) x ∧ Ev (fun k => spigotref15_Last.f k P N h t) x := by
  obtain ⟨r, hr, hs, _, hq⟩ := checks P N h t hP hN
  obtain ⟨K2, h2⟩ := Ev.get hs
  by_cases r0 : r = 0
  · obtain ⟨n1, n2, L, hL, e1, e2, e3, e4⟩ := hq.1 r0
    have a := llast_made n1 n2 hL
    obtain ⟨K3, h3⟩ := Ev.get (all_made (by omega) hL P t)
    rw [← e1, ← e2, ← e3, ← e4] at a
    rw [← e2, ← e3] at h3
    have hlen := hL.len
    refine ⟨_, a, ⟨K2 + K3, fun k hk => ?_⟩⟩
    dsimp only; unfold spigotref15_Last.f; rw [h2 k (by omega), Option.bind_some, if_pos r0, h3 k (by omega), Option.bind_some]
    dsimp only
    by_cases e : L = []
    · rw [if_pos e, if_pos (by rw [e]; rfl)]
    · have hp : 0 < L.length := List.length_pos_iff.2 e
      have hl : rd L ((L.length : Int) - 1) = lst (-1) L := by
        have := rd_last [] e (-1); rwa [List.append_nil] at this
      rw [if_neg e, if_neg (by omega), w0 (by omega) (by omega), if_pos (by omega), if_pos (by omega), hl, e4]
  · obtain ⟨K1, h1⟩ := Ev.get hr
    refine ⟨(0, r), ⟨K1, fun k hk => ?_⟩, ⟨K2, fun k hk => ?_⟩⟩
    · dsimp only; unfold lru_Last.f; rw [h1 k hk, Option.bind_some, if_neg r0]
    · dsimp only; unfold spigotref15_Last.f; rw [h2 k hk, Option.bind_some, if_neg r0, Option.bind_some]

end Go.Proofs.Ytiimflniadggaaa.LruPlain

-- printed by a program of this session (a turned copy of the kit's print); Lean checks it
import Derived.Test.YtlgfopdindklnaaPArenax0
namespace Go.Proofs.Ytlgfopdindklnaa.PArena
open Go.RowKit Go.Proofs.YtlgfopdindklnaaW.PrintWords Go.Proofs.YtlgfopdindklnaaW.PrintLast Go.Proofs.YtlgfopdindklnaaW.PrintMore
attribute [local go_sem] max2_int min2_int max_two min_two max_three min_three max_four min_four   -- for this text's walks alone
set_option linter.unusedVariables false
set_option linter.unusedSimpArgs false

/-! ### spigotref13_Twin: function 29 -/
def spigotref13_Twin.f (l0_0 : List Int) (l0_1 : List Bool) (a0_2 : Int) : Option (List Int × List Bool × Int) := (some (([] : List Int) : List Int)).bind fun y350 => (if y350.length + l0_0.length < 17592186044416 then ((some (([] : List Bool) : List Bool)).bind fun y356 => (if y356.length + l0_1.length < 140737488355328 then (some ((y350 ++ l0_0), (y356 ++ l0_1), a0_2)) else (none))) else (none))
def spigotref13_Twin.T1 : Bool × List (List Nat × List Nat) := (true, [([], []), ([], []), ([1], [1]), ([0, 2], [0, 2]), ([], []), ([], []), ([5], [5]), ([4, 6, 3], [4, 6]), ([], []), ([8], [8]), ([3, 7, 9], [3, 7, 9]), ([10, 7, 0, 1, 2, 3, 4, 5, 6, 7, 8, 9, 10], [10])])
def spigotref13_Twin.B1 : List Nat := [0, 0, 2, 7, 0, 0, 32, 127, 0, 256, 1023, 2047]
theorem spigotref13_Twin.tab1 : rtab .any (opsOf Try.f29 1) = spigotref13_Twin.T1 := by kernel_rfl
theorem spigotref13_Twin.bits1 : waitsOk spigotref13_Twin.T1.2 spigotref13_Twin.B1 = true := by kernel_rfl
set_option maxHeartbeats 8000000 in
set_option maxRecDepth 100000 in
theorem spigotref13_Twin.calls (A0_0 : Option Addr) (c0_0 : Nat) (l0_0 : List Int) (A0_1 : Option Addr) (c0_1 : Nat) (l0_1 : List Bool) (a0_2 : Int) (r1 : List Int) (r2 : List Bool) (r3 : Int) (w : World) (hr0_0 : Kd.C (Kd.int .i64) w A0_0 l0_0.length l0_0) (hc0_0 : l0_0.length ≤ c0_0) (hr0_1 : Kd.C Kd.bool w A0_1 l0_1.length l0_1) (hc0_1 : l0_1.length ≤ c0_1) (h : spigotref13_Twin.f l0_0 l0_1 a0_2 = some (r1, r2, r3)) :
    Calls Try.prog 29 #[.agg #[.slice A0_0 l0_0.length c0_0, .slice A0_1 l0_1.length c0_1, .int .i64 a0_2]] w fun e w' => ∃ v0_ v1_ : Value, e = .returned (.agg #[v0_, v1_, .int .i64 r3]) ∧ Kd.R (Kd.int .i64) 3 w' w.heap.size (fun _ => True) v0_ r1 ∧ Kd.R Kd.bool 4 w' w.heap.size (fun _ => True) v1_ r2 ∧ Below w.heap.size w w' := by
  have hu36 := Try.underlying36
  have HR0_0 := Aside0.mk hr0_0
  have HC0_0 := Aside0.mk hc0_0
  clear hr0_0 hc0_0
  have HR0_1 := Aside0.mk hr0_1
  have HC0_1 := Aside0.mk hc0_1
  clear hr0_1 hc0_1
  have HB := Aside0.mk (Below.refl w.heap.size w)
  have H : ((some (([] : List Int) : List Int)).bind fun y350 => (if y350.length + l0_0.length < 17592186044416 then ((some (([] : List Bool) : List Bool)).bind fun y356 => (if y356.length + l0_1.length < 140737488355328 then (some ((y350 ++ l0_0), (y356 ++ l0_1), a0_2)) else (none))) else (none))) = some (r1, r2, r3) := h
  clear h
  obtain ⟨y350, hy350⟩ : ∃ y_ : List Int, y_ = (([] : List Int)) := ⟨_, rfl⟩
  replace H : (if y350.length + l0_0.length < 17592186044416 then ((some (([] : List Bool) : List Bool)).bind fun y356 => (if y356.length + l0_1.length < 140737488355328 then (some ((y350 ++ l0_0), (y356 ++ l0_1), a0_2)) else (none))) else (none)) = some (r1, r2, r3) := by first | (rw [hy350]; with_reducible exact H) | (have H2_ := (Option.bind_some _ _).symm.trans H; rw [hy350]; with_reducible exact H2_) | (have H2_ := (Option.bind_some _ _).symm.trans H; with_reducible exact H2_) | with_reducible exact H | (rw [hy350]; exact H) | exact H
  have Ny350 := Aside0.mk hy350
  (try clear hy350)
  by_cases c2 : y350.length + l0_0.length < 17592186044416
  · rw [if_pos c2] at H
    have LMc2 := Aside0.mk c2
    clear c2
    obtain ⟨y353, hy353⟩ : ∃ y_ : List Int, y_ = (y350 ++ l0_0) := ⟨_, rfl⟩
    replace H : ((some (([] : List Bool) : List Bool)).bind fun y356 => (if y356.length + l0_1.length < 140737488355328 then (some (y353, (y356 ++ l0_1), a0_2)) else (none))) = some (r1, r2, r3) := by first | (rw [hy353]; with_reducible exact H) | (have H2_ := (Option.bind_some _ _).symm.trans H; rw [hy353]; with_reducible exact H2_) | (have H2_ := (Option.bind_some _ _).symm.trans H; with_reducible exact H2_) | with_reducible exact H | (rw [hy353]; exact H) | exact H
    have Ny353 := Aside0.mk hy353
    (try clear hy353)
    obtain ⟨y356, hy356⟩ : ∃ y_ : List Bool, y_ = (([] : List Bool)) := ⟨_, rfl⟩
    replace H : (if y356.length + l0_1.length < 140737488355328 then (some (y353, (y356 ++ l0_1), a0_2)) else (none)) = some (r1, r2, r3) := by first | (rw [hy356]; with_reducible exact H) | (have H2_ := (Option.bind_some _ _).symm.trans H; rw [hy356]; with_reducible exact H2_) | (have H2_ := (Option.bind_some _ _).symm.trans H; with_reducible exact H2_) | with_reducible exact H | (rw [hy356]; exact H) | exact H
    have Ny356 := Aside0.mk hy356
    (try clear hy356)
    by_cases c3 : y356.length + l0_1.length < 140737488355328
    · rw [if_pos c3] at H
      have LMc3 := Aside0.mk c3
      clear c3
      obtain ⟨y359, hy359⟩ : ∃ y_ : List Bool, y_ = (y356 ++ l0_1) := ⟨_, rfl⟩
      replace H : (some (y353, y359, a0_2)) = some (r1, r2, r3) := by first | (rw [hy359]; with_reducible exact H) | (have H2_ := (Option.bind_some _ _).symm.trans H; rw [hy359]; with_reducible exact H2_) | (have H2_ := (Option.bind_some _ _).symm.trans H; with_reducible exact H2_) | with_reducible exact H | (rw [hy359]; exact H) | exact H
      have Ny359 := Aside0.mk hy359
      (try clear hy359)
      simp only [Option.some.injEq, Prod.mk.injEq] at H
      obtain ⟨rfl, rfl, rfl⟩ := H
      go_enter Try.func29, Try.ntmps29
      try go_wp2_with (first | ((with_reducible refine gate_dst (N := 1) rfl ?_); refine boxE (N := 1) (cs := #[.slice A0_0 l0_0.length c0_0, .slice A0_1 l0_1.length c0_1, .int .i64 a0_2]) (t := 36) ?_; intro gb348 hg w4 hbox hb; have n0_ := Aside0.mk (below_step (pB HB.out) hb); have n1_ := Aside0.mk (hbox); have n3_ := Aside0.mk (pL HB.out hg); clear HB; have HB := n0_; have BK348 := n1_; have GE348 := n3_; clear n0_ n1_ n3_; clear hb hbox hg) | ((with_reducible refine gate_dst (N := 2) rfl ?_); refine boxE (N := 2) (cs := #[.slice none 0 0, .slice none 0 0, .int .i64 0]) (t := 36) ?_; intro gb349 hg w5 hbox hb; have n0_ := Aside0.mk (blk_below (pK BK348.out) hb); have n1_ := Aside0.mk (below_step (pB HB.out) hb); have n2_ := Aside0.mk (hbox); have n4_ := Aside0.mk (pL HB.out hg); have n5_ := Aside0.mk (pNl BK348.out hg); have n6_ := Aside0.mk (pNg BK348.out hg); clear BK348; clear HB; have BK348 := n0_; have HB := n1_; have BK349 := n2_; have GE349 := n4_; have NB348_349 := n5_; have NB349_348 := n6_; clear n0_ n1_ n2_ n4_ n5_ n6_; clear hb hbox hg))
      have n0_ := Aside0.mk (blk_drew BK348.out)
      have n1_ := Aside0.mk (blk_drew BK349.out)
      have n2_ := Aside0.mk (below_drew1 HB.out)
      clear BK348
      clear BK349
      clear HB
      have BK348 := n0_
      have BK349 := n1_
      have HB := n2_
      clear n0_ n1_ n2_
      refine start_ (n := 12) (S := fun w' => w'.cell? ⟨gb348, 0, none⟩ = some (.slice A0_0 l0_0.length c0_0) ∧ w'.cell? ⟨gb348, 1, none⟩ = some (.slice A0_1 l0_1.length c0_1) ∧ w'.cell? ⟨gb348, 2, none⟩ = some (.int .i64 a0_2)) (ds := []) #[false, false, false, false, false, false, false, false, false, false, false, false] (by kernel_rfl) rfl rfl ⟨(blk_cell BK348.out 0).trans rfl, (blk_cell BK348.out 1).trans rfl, (blk_cell BK348.out 2).trans rfl⟩ (fun hHeld => ?_); refine with_tabW spigotref13_Twin.tab1 spigotref13_Twin.bits1 (fun HT_ HW_ => ?_)
      generalize w5.drew = w6 at BK348 BK349 HB hHeld ⊢
      refine pure_ (i := 1) (N := some 4) (v := ?_) (a' := ?_) #[false, true, false, false, false, false, false, false, false, false, false, false] rfl rfl (any_of HT_.out (by kernel_rfl)) (fun _ _ _ h => h) (Or.inl ⟨by rfl, ?_⟩) ?_ ?_
      rotate_left
      · intro w'
        go_simp
        with_reducible rfl
      rotate_left
      · simp only [Act.put, List.setIfInBounds_toArray, List.set_cons_zero, List.set_cons_succ, i64_w, i32_w]
        rfl
      refine pure_ (i := 5) (N := some 8) (v := ?_) (a' := ?_) #[false, true, false, false, false, true, false, false, false, false, false, false] rfl rfl (any_of HT_.out (by kernel_rfl)) (fun _ _ _ h => h) (Or.inl ⟨by rfl, ?_⟩) ?_ ?_
      rotate_left
      · intro w'
        go_simp
        with_reducible rfl
      rotate_left
      · simp only [Act.put, List.setIfInBounds_toArray, List.set_cons_zero, List.set_cons_succ, i64_w, i32_w]
        rfl
      refine pure_ (i := 8) (N := some 11) (v := ?_) (a' := ?_) #[false, true, false, false, false, true, false, false, true, false, false, false] rfl rfl (any_of HT_.out (by kernel_rfl)) (fun _ _ _ h => h) (Or.inl ⟨by rfl, ?_⟩) ?_ ?_
      rotate_left
      · intro w'
        go_simp
        with_reducible rfl
      rotate_left
      · simp only [Act.put, List.setIfInBounds_toArray, List.set_cons_zero, List.set_cons_succ, i64_w, i32_w]
        rfl
      refine take_ (i := 2) (N := some 5) (v := ?_) (a' := ?_) #[false, true, true, false, false, true, false, false, true, false, false, false] rfl rfl (take_ofW HT_.out HW_.out (by kernel_rfl)) (fun _ _ _ h => h) (Or.inl ⟨by rfl, ?_⟩) hHeld ?_ ?_
      rotate_left
      · rintro w' ⟨s0, s1, s2⟩
        go_simp
        with_reducible rfl
      rotate_left
      · simp only [Act.put, List.setIfInBounds_toArray, List.set_cons_zero, List.set_cons_succ, i64_w, i32_w]
        rfl
      refine take_ (i := 6) (N := some 9) (v := ?_) (a' := ?_) #[false, true, true, false, false, true, true, false, true, false, false, false] rfl rfl (take_ofW HT_.out HW_.out (by kernel_rfl)) (fun _ _ _ h => h) (Or.inl ⟨by rfl, ?_⟩) hHeld ?_ ?_
      rotate_left
      · rintro w' ⟨s0, s1, s2⟩
        go_simp
        with_reducible rfl
      rotate_left
      · simp only [Act.put, List.setIfInBounds_toArray, List.set_cons_zero, List.set_cons_succ, i64_w, i32_w]
        rfl
      refine take_ (i := 9) (N := some 12) (v := ?_) (a' := ?_) #[false, true, true, false, false, true, true, false, true, true, false, false] rfl rfl (take_ofW HT_.out HW_.out (by kernel_rfl)) (fun _ _ _ h => h) (Or.inl ⟨by rfl, ?_⟩) hHeld ?_ ?_
      rotate_left
      · rintro w' ⟨s0, s1, s2⟩
        go_simp
        with_reducible rfl
      rotate_left
      · simp only [Act.put, List.setIfInBounds_toArray, List.set_cons_zero, List.set_cons_succ, i64_w, i32_w]
        rfl
      refine join_ (σ := Value × Value × Value) 3 #[true, true, true, true, true, true, true, false, true, true, false, false] (fun s_ => [(3, s_.1), (6, s_.2.1), (7, s_.2.2)]) (fun s_ w' => (w'.cell? ⟨gb348, 0, none⟩ = some (.slice A0_0 l0_0.length c0_0) ∧ w'.cell? ⟨gb348, 1, none⟩ = some (.slice A0_1 l0_1.length c0_1) ∧ w'.cell? ⟨gb348, 2, none⟩ = some (.int .i64 a0_2)) ∧ (Kd.R (Kd.int .i64) 3 w' w.heap.size (fun _ => True) s_.2.1 y353) ∧ (Kd.R Kd.bool 4 w' w.heap.size (fun _ => True) s_.2.2 y356) ∧ (w'.heap[gb348]? = some (.cells #[.slice A0_0 l0_0.length c0_0, .slice A0_1 l0_1.length c0_1, .int .i64 a0_2] 36 (0, 0))) ∧ (w'.heap[gb349]? = some (.cells #[.slice none 0 0, .slice none 0 0, .int .i64 0] 36 (0, 0))) ∧ (Below w.heap.size w w')) ?_ ?_
      rotate_left
      · intro hCont
        refine two_ (i := 0) (j := 4) (Ni := some 3) (Nj := some 7) #[true, true, true, false, false, true, true, false, true, true, false, false] #[false, true, true, false, true, true, true, false, true, true, false, false] rfl rfl rfl rfl (two_of HT_.out (by kernel_rfl)) (by decide) (by decide) (fun K hK => ?_) (fun K hK => ?_)
        · skip
          refine Kd.R_lit_step (Kd.int .i64) _ 3 ?hg (N := 3) ?hd (xs := ([] : List Int)) (inner := []) (ok := fun _ => True) (okp := fun _ => True) ?hr ?hp (fun _ hk => hk) trivial (Below.refl _ _) (Nat.le_refl _) (by simp) ?_; (case hd => rfl); (case hg => rfl); (case hr => first | (go_simp; done) | (go_simp; rfl)); (case hp => exact (Reps.none _ _))
          intro v351 w7 ho8 hb hg_ hnew_
          clear hg_ hnew_
          (first | rw [← Ny350.out] at ho8 | (simp only [Int.reduceToNat] at ho8; rw [← Ny350.out] at ho8))
          have n0_ := Aside0.mk (Kd.R_lower ho8 (below_size (pB HB.out)))
          have n1_ := Aside0.mk (blk_below (pK BK348.out) hb)
          have n2_ := Aside0.mk (blk_below (pK BK349.out) hb)
          have n3_ := Aside0.mk (below_step (pB HB.out) hb)
          clear BK348
          clear BK349
          clear HB
          have HO352 := n0_
          have BK348 := n1_
          have BK349 := n2_
          have HB := n3_
          clear n0_ n1_ n2_ n3_
          clear hb ho8
          refine hK.out _ _ ⟨(blk_cell BK348.out 0).trans rfl, (blk_cell BK348.out 1).trans rfl, (blk_cell BK348.out 2).trans rfl⟩ (fun hHeld => ?_)
          clear hK K
          refine norm_ (a' := ?_) ?_ ?_
          rotate_left
          · show Act.put _ (some 3) _ = _
            simp only [Act.put, List.setIfInBounds_toArray, List.set_cons_zero, List.set_cons_succ, i64_w, i32_w]
            rfl
          refine two_ (i := 3) (j := 4) (Ni := some 6) (Nj := some 7) #[true, true, true, true, false, true, true, false, true, true, false, false] #[true, true, true, false, true, true, true, false, true, true, false, false] rfl rfl rfl rfl (two_of HT_.out (by kernel_rfl)) (by decide) (by decide) (fun K hK => ?_) (fun K hK => ?_)
          · skip
            refine Kd.R_append_rows_step (Kd.int .i64) (w0 := w) w.heap.size (by rfl) (.tmp 3) (.tmp 5) 33 3 (.int .i64 0) 8 rfl Try.underlying33 info3 rfl (by decide) (by omega) v351 y350 l0_0 _ _ _ (fun _ => True) (fun _ => False) rfl rfl ?aO ?aR (fun _ _ h => h) (fun _ h => h.elim) ?aF ?aB ?aS ?aL ?_
            (case aR => exact Kd.pC ((Kd.C_below HR0_0.out HB.out)))
            (case aB => exact (pB HB.out))
            (case aF => exact (fun _ _ => trivial))
            (case aO => exact (Kd.pR HO352.out))
            (case aS => exact (below_size (pB HB.out)))
            (case aL => have := LMc2.out; omega)
            intro v354 w9 ho hb hg hat
            rw [← Ny353.out] at ho
            have n0_ := Aside0.mk (blk_grown (pK BK348.out) hg (Kd.R_ne HO352.out BK348.out (by decide)))
            have n1_ := Aside0.mk (blk_grown (pK BK349.out) hg (Kd.R_ne HO352.out BK349.out (by decide)))
            have n2_ := Aside0.mk (hb)
            have n3_ := Aside0.mk (ho)
            clear BK348
            clear BK349
            clear HB
            clear HO352
            have BK348 := n0_
            have BK349 := n1_
            have HB := n2_
            have HO355 := n3_
            clear n0_ n1_ n2_ n3_
            clear ho hb hg hat
            refine hK.out _ _ ⟨(blk_cell BK348.out 0).trans rfl, (blk_cell BK348.out 1).trans rfl, (blk_cell BK348.out 2).trans rfl⟩ (fun hHeld => ?_)
            clear hK K
            refine norm_ (a' := ?_) ?_ ?_
            rotate_left
            · show Act.put _ (some 6) _ = _
              simp only [Act.put, List.setIfInBounds_toArray, List.set_cons_zero, List.set_cons_succ, i64_w, i32_w]
              rfl
            refine one_ (i := 4) (N := some 7) #[true, true, true, true, true, true, true, false, true, true, false, false] rfl rfl (one_of HT_.out (by kernel_rfl)) (by decide) (fun K hK => ?_)
            refine Kd.R_lit_step Kd.bool _ 4 ?hg (N := 7) ?hd (xs := ([] : List Bool)) (inner := []) (ok := fun _ => True) (okp := fun _ => True) ?hr ?hp (fun _ hk => hk) trivial (Below.refl _ _) (Nat.le_refl _) (by simp) ?_; (case hd => rfl); (case hg => rfl); (case hr => first | (go_simp; done) | (go_simp; rfl)); (case hp => exact (Reps.none _ _))
            intro v357 w10 ho11 hb hg_ hnew_
            clear hg_ hnew_
            (first | rw [← Ny356.out] at ho11 | (simp only [Int.reduceToNat] at ho11; rw [← Ny356.out] at ho11))
            have n0_ := Aside0.mk (Kd.R_below (Kd.pR HO355.out) hb)
            have n1_ := Aside0.mk (Kd.R_lower ho11 (below_size (pB HB.out)))
            have n2_ := Aside0.mk (blk_below (pK BK348.out) hb)
            have n3_ := Aside0.mk (blk_below (pK BK349.out) hb)
            have n4_ := Aside0.mk (below_step (pB HB.out) hb)
            clear HO355
            clear BK348
            clear BK349
            clear HB
            have HO355 := n0_
            have HO358 := n1_
            have BK348 := n2_
            have BK349 := n3_
            have HB := n4_
            clear n0_ n1_ n2_ n3_ n4_
            clear hb ho11
            refine hK.out _ _ ⟨(blk_cell BK348.out 0).trans rfl, (blk_cell BK348.out 1).trans rfl, (blk_cell BK348.out 2).trans rfl⟩ (fun hHeld => ?_)
            clear hK K
            refine norm_ (a' := ?_) ?_ ?_
            rotate_left
            · show Act.put _ (some 7) _ = _
              simp only [Act.put, List.setIfInBounds_toArray, List.set_cons_zero, List.set_cons_succ, i64_w, i32_w]
              rfl
            exact norm_ (by simp only [putAll, Act.put, List.setIfInBounds_toArray, List.set_cons_zero, List.set_cons_succ]) (hCont (v351, v354, v357) _ ⟨hHeld, (Kd.pR HO355.out), (Kd.pR HO358.out), (pK BK348.out), (pK BK349.out), (pB HB.out)⟩)
          · skip
            refine Kd.R_lit_step Kd.bool _ 4 ?hg (N := 7) ?hd (xs := ([] : List Bool)) (inner := []) (ok := fun _ => True) (okp := fun _ => True) ?hr ?hp (fun _ hk => hk) trivial (Below.refl _ _) (Nat.le_refl _) (by simp) ?_; (case hd => rfl); (case hg => rfl); (case hr => first | (go_simp; done) | (go_simp; rfl)); (case hp => exact (Reps.none _ _))
            intro v357 w9 ho10 hb hg_ hnew_
            clear hg_ hnew_
            (first | rw [← Ny356.out] at ho10 | (simp only [Int.reduceToNat] at ho10; rw [← Ny356.out] at ho10))
            have n0_ := Aside0.mk (Kd.R_below (Kd.pR HO352.out) hb)
            have n1_ := Aside0.mk (Kd.R_lower ho10 (below_size (pB HB.out)))
            have n2_ := Aside0.mk (blk_below (pK BK348.out) hb)
            have n3_ := Aside0.mk (blk_below (pK BK349.out) hb)
            have n4_ := Aside0.mk (below_step (pB HB.out) hb)
            clear HO352
            clear BK348
            clear BK349
            clear HB
            have HO352 := n0_
            have HO358 := n1_
            have BK348 := n2_
            have BK349 := n3_
            have HB := n4_
            clear n0_ n1_ n2_ n3_ n4_
            clear hb ho10
            refine hK.out _ _ ⟨(blk_cell BK348.out 0).trans rfl, (blk_cell BK348.out 1).trans rfl, (blk_cell BK348.out 2).trans rfl⟩ (fun hHeld => ?_)
            clear hK K
            refine norm_ (a' := ?_) ?_ ?_
            rotate_left
            · show Act.put _ (some 7) _ = _
              simp only [Act.put, List.setIfInBounds_toArray, List.set_cons_zero, List.set_cons_succ, i64_w, i32_w]
              rfl
            refine one_ (i := 3) (N := some 6) #[true, true, true, true, true, true, true, false, true, true, false, false] rfl rfl (one_of HT_.out (by kernel_rfl)) (by decide) (fun K hK => ?_)
            refine Kd.R_append_rows_step (Kd.int .i64) (w0 := w) w.heap.size (by rfl) (.tmp 3) (.tmp 5) 33 3 (.int .i64 0) 8 rfl Try.underlying33 info3 rfl (by decide) (by omega) v351 y350 l0_0 _ _ _ (fun _ => True) (fun _ => False) rfl rfl ?aO ?aR (fun _ _ h => h) (fun _ h => h.elim) ?aF ?aB ?aS ?aL ?_
            (case aR => exact Kd.pC ((Kd.C_below HR0_0.out HB.out)))
            (case aB => exact (pB HB.out))
            (case aF => exact (fun _ _ => trivial))
            (case aO => exact (Kd.pR HO352.out))
            (case aS => exact (below_size (pB HB.out)))
            (case aL => have := LMc2.out; omega)
            intro v354 w11 ho hb hg hat
            rw [← Ny353.out] at ho
            have n0_ := Aside0.mk (blk_grown (pK BK348.out) hg (Kd.R_ne HO352.out BK348.out (by decide)))
            have n1_ := Aside0.mk (blk_grown (pK BK349.out) hg (Kd.R_ne HO352.out BK349.out (by decide)))
            have n2_ := Aside0.mk (Kd.R_over' (Kd.pR HO358.out) (Kd.R_typed (Kd.pR HO352.out)) (by decide) hg)
            have n3_ := Aside0.mk (hb)
            have n4_ := Aside0.mk (ho)
            clear BK348
            clear BK349
            clear HO358
            clear HB
            (try clear HO352)
            have BK348 := n0_
            have BK349 := n1_
            have HO358 := n2_
            have HB := n3_
            have HO355 := n4_
            clear n0_ n1_ n2_ n3_ n4_
            clear ho hb hg hat
            refine hK.out _ _ ⟨(blk_cell BK348.out 0).trans rfl, (blk_cell BK348.out 1).trans rfl, (blk_cell BK348.out 2).trans rfl⟩ (fun hHeld => ?_)
            clear hK K
            refine norm_ (a' := ?_) ?_ ?_
            rotate_left
            · show Act.put _ (some 6) _ = _
              simp only [Act.put, List.setIfInBounds_toArray, List.set_cons_zero, List.set_cons_succ, i64_w, i32_w]
              rfl
            exact norm_ (by simp only [putAll, Act.put, List.setIfInBounds_toArray, List.set_cons_zero, List.set_cons_succ]) (hCont (v351, v354, v357) _ ⟨hHeld, (Kd.pR HO355.out), (Kd.pR HO358.out), (pK BK348.out), (pK BK349.out), (pB HB.out)⟩)
        · skip
          refine Kd.R_lit_step Kd.bool _ 4 ?hg (N := 7) ?hd (xs := ([] : List Bool)) (inner := []) (ok := fun _ => True) (okp := fun _ => True) ?hr ?hp (fun _ hk => hk) trivial (Below.refl _ _) (Nat.le_refl _) (by simp) ?_; (case hd => rfl); (case hg => rfl); (case hr => first | (go_simp; done) | (go_simp; rfl)); (case hp => exact (Reps.none _ _))
          intro v357 w7 ho8 hb hg_ hnew_
          clear hg_ hnew_
          (first | rw [← Ny356.out] at ho8 | (simp only [Int.reduceToNat] at ho8; rw [← Ny356.out] at ho8))
          have n0_ := Aside0.mk (Kd.R_lower ho8 (below_size (pB HB.out)))
          have n1_ := Aside0.mk (blk_below (pK BK348.out) hb)
          have n2_ := Aside0.mk (blk_below (pK BK349.out) hb)
          have n3_ := Aside0.mk (below_step (pB HB.out) hb)
          clear BK348
          clear BK349
          clear HB
          have HO358 := n0_
          have BK348 := n1_
          have BK349 := n2_
          have HB := n3_
          clear n0_ n1_ n2_ n3_
          clear hb ho8
          refine hK.out _ _ ⟨(blk_cell BK348.out 0).trans rfl, (blk_cell BK348.out 1).trans rfl, (blk_cell BK348.out 2).trans rfl⟩ (fun hHeld => ?_)
          clear hK K
          refine norm_ (a' := ?_) ?_ ?_
          rotate_left
          · show Act.put _ (some 7) _ = _
            simp only [Act.put, List.setIfInBounds_toArray, List.set_cons_zero, List.set_cons_succ, i64_w, i32_w]
            rfl
          refine one_ (i := 0) (N := some 3) #[true, true, true, false, true, true, true, false, true, true, false, false] rfl rfl (one_of HT_.out (by kernel_rfl)) (by decide) (fun K hK => ?_)
          refine Kd.R_lit_step (Kd.int .i64) _ 3 ?hg (N := 3) ?hd (xs := ([] : List Int)) (inner := []) (ok := fun _ => True) (okp := fun _ => True) ?hr ?hp (fun _ hk => hk) trivial (Below.refl _ _) (Nat.le_refl _) (by simp) ?_; (case hd => rfl); (case hg => rfl); (case hr => first | (go_simp; done) | (go_simp; rfl)); (case hp => exact (Reps.none _ _))
          intro v351 w9 ho10 hb hg_ hnew_
          clear hg_ hnew_
          (first | rw [← Ny350.out] at ho10 | (simp only [Int.reduceToNat] at ho10; rw [← Ny350.out] at ho10))
          have n0_ := Aside0.mk (Kd.R_below (Kd.pR HO358.out) hb)
          have n1_ := Aside0.mk (Kd.R_lower ho10 (below_size (pB HB.out)))
          have n2_ := Aside0.mk (blk_below (pK BK348.out) hb)
          have n3_ := Aside0.mk (blk_below (pK BK349.out) hb)
          have n4_ := Aside0.mk (below_step (pB HB.out) hb)
          clear HO358
          clear BK348
          clear BK349
          clear HB
          have HO358 := n0_
          have HO352 := n1_
          have BK348 := n2_
          have BK349 := n3_
          have HB := n4_
          clear n0_ n1_ n2_ n3_ n4_
          clear hb ho10
          refine hK.out _ _ ⟨(blk_cell BK348.out 0).trans rfl, (blk_cell BK348.out 1).trans rfl, (blk_cell BK348.out 2).trans rfl⟩ (fun hHeld => ?_)
          clear hK K
          refine norm_ (a' := ?_) ?_ ?_
          rotate_left
          · show Act.put _ (some 3) _ = _
            simp only [Act.put, List.setIfInBounds_toArray, List.set_cons_zero, List.set_cons_succ, i64_w, i32_w]
            rfl
          refine one_ (i := 3) (N := some 6) #[true, true, true, true, true, true, true, false, true, true, false, false] rfl rfl (one_of HT_.out (by kernel_rfl)) (by decide) (fun K hK => ?_)
          refine Kd.R_append_rows_step (Kd.int .i64) (w0 := w) w.heap.size (by rfl) (.tmp 3) (.tmp 5) 33 3 (.int .i64 0) 8 rfl Try.underlying33 info3 rfl (by decide) (by omega) v351 y350 l0_0 _ _ _ (fun _ => True) (fun _ => False) rfl rfl ?aO ?aR (fun _ _ h => h) (fun _ h => h.elim) ?aF ?aB ?aS ?aL ?_
          (case aR => exact Kd.pC ((Kd.C_below HR0_0.out HB.out)))
          (case aB => exact (pB HB.out))
          (case aF => exact (fun _ _ => trivial))
          (case aO => exact (Kd.pR HO352.out))
          (case aS => exact (below_size (pB HB.out)))
          (case aL => have := LMc2.out; omega)
          intro v354 w11 ho hb hg hat
          rw [← Ny353.out] at ho
          have n0_ := Aside0.mk (blk_grown (pK BK348.out) hg (Kd.R_ne HO352.out BK348.out (by decide)))
          have n1_ := Aside0.mk (blk_grown (pK BK349.out) hg (Kd.R_ne HO352.out BK349.out (by decide)))
          have n2_ := Aside0.mk (Kd.R_over' (Kd.pR HO358.out) (Kd.R_typed (Kd.pR HO352.out)) (by decide) hg)
          have n3_ := Aside0.mk (hb)
          have n4_ := Aside0.mk (ho)
          clear BK348
          clear BK349
          clear HO358
          clear HB
          (try clear HO352)
          have BK348 := n0_
          have BK349 := n1_
          have HO358 := n2_
          have HB := n3_
          have HO355 := n4_
          clear n0_ n1_ n2_ n3_ n4_
          clear ho hb hg hat
          refine hK.out _ _ ⟨(blk_cell BK348.out 0).trans rfl, (blk_cell BK348.out 1).trans rfl, (blk_cell BK348.out 2).trans rfl⟩ (fun hHeld => ?_)
          clear hK K
          refine norm_ (a' := ?_) ?_ ?_
          rotate_left
          · show Act.put _ (some 6) _ = _
            simp only [Act.put, List.setIfInBounds_toArray, List.set_cons_zero, List.set_cons_succ, i64_w, i32_w]
            rfl
          exact norm_ (by simp only [putAll, Act.put, List.setIfInBounds_toArray, List.set_cons_zero, List.set_cons_succ]) (hCont (v351, v354, v357) _ ⟨hHeld, (Kd.pR HO355.out), (Kd.pR HO358.out), (pK BK348.out), (pK BK349.out), (pB HB.out)⟩)
      rintro ⟨v351, v354, v357⟩ w12 ⟨hS_, h0_, h1_, h2_, h3_, h4_⟩
      have n0_ : Aside0 (Kd.R (Kd.int .i64) 3 w12 w.heap.size (fun _ => True) v354 y353) := ⟨h0_⟩
      have n1_ : Aside0 (Kd.R Kd.bool 4 w12 w.heap.size (fun _ => True) v357 y356) := ⟨h1_⟩
      have n2_ : Aside0 (w12.heap[gb348]? = some (.cells #[.slice A0_0 l0_0.length c0_0, .slice A0_1 l0_1.length c0_1, .int .i64 a0_2] 36 (0, 0))) := ⟨h2_⟩
      have n3_ : Aside0 (w12.heap[gb349]? = some (.cells #[.slice none 0 0, .slice none 0 0, .int .i64 0] 36 (0, 0))) := ⟨h3_⟩
      have n4_ : Aside0 (Below w.heap.size w w12) := ⟨h4_⟩
      clear BK348
      clear BK349
      clear HB
      clear h0_ h1_ h2_ h3_ h4_
      have HO355 := n0_
      have HO358 := n1_
      have BK348 := n2_
      have BK349 := n3_
      have HB := n4_
      clear n0_ n1_ n2_ n3_ n4_
      have hHeld : w12.cell? ⟨gb348, 0, none⟩ = some (.slice A0_0 l0_0.length c0_0) ∧ w12.cell? ⟨gb348, 1, none⟩ = some (.slice A0_1 l0_1.length c0_1) ∧ w12.cell? ⟨gb348, 2, none⟩ = some (.int .i64 a0_2) := hS_
      refine norm_ (a' := ?_) ?_ ?_
      rotate_left
      · simp only [putAll, Act.put, List.setIfInBounds_toArray, List.set_cons_zero, List.set_cons_succ]
        rfl
      refine one_ (i := 7) (N := some 10) #[true, true, true, true, true, true, true, true, true, true, false, false] rfl rfl (one_of HT_.out (by kernel_rfl)) (by decide) (fun K hK => ?_)
      refine Kd.R_append_rows_step Kd.bool (w0 := w) w.heap.size (by rfl) (.tmp 7) (.tmp 9) 34 4 (.bool false) 1 rfl Try.underlying34 info4 rfl (by decide) (by omega) v357 y356 l0_1 _ _ _ (fun _ => True) (fun _ => False) rfl rfl ?aO ?aR (fun _ _ h => h) (fun _ h => h.elim) ?aF ?aB ?aS ?aL ?_
      (case aR => exact Kd.pC ((Kd.C_below HR0_1.out HB.out)))
      (case aB => exact (pB HB.out))
      (case aF => exact (fun _ _ => trivial))
      (case aO => exact (Kd.pR HO358.out))
      (case aS => exact (below_size (pB HB.out)))
      (case aL => have := LMc3.out; omega)
      intro v360 w13 ho hb hg hat
      rw [← Ny359.out] at ho
      have n0_ := Aside0.mk (blk_grown (pK BK348.out) hg (Kd.R_ne HO358.out BK348.out (by decide)))
      have n1_ := Aside0.mk (blk_grown (pK BK349.out) hg (Kd.R_ne HO358.out BK349.out (by decide)))
      have n2_ := Aside0.mk (Kd.R_over' (Kd.pR HO355.out) (Kd.R_typed (Kd.pR HO358.out)) (by decide) hg)
      have n3_ := Aside0.mk (hb)
      have n4_ := Aside0.mk (ho)
      clear BK348
      clear BK349
      clear HO355
      clear HB
      (try clear HO358)
      have BK348 := n0_
      have BK349 := n1_
      have HO355 := n2_
      have HB := n3_
      have HO361 := n4_
      clear n0_ n1_ n2_ n3_ n4_
      clear ho hb hg hat
      obtain ⟨Ao14, co14, eo14⟩ := Kd.R_slice HO361.out
      (first | subst eo14 | (injection eo14 with f1_ f2_ f3_; have f4_ := f1_.symm; have f5_ := f3_.symm; clear f1_ f2_ f3_; subst f4_; subst f5_))
      obtain ⟨Ao15, co15, eo15⟩ := Kd.R_slice HO355.out
      (first | subst eo15 | (injection eo15 with f1_ f2_ f3_; have f4_ := f1_.symm; have f5_ := f3_.symm; clear f1_ f2_ f3_; subst f4_; subst f5_))
      refine hK.out _ _ ⟨(blk_cell BK348.out 0).trans rfl, (blk_cell BK348.out 1).trans rfl, (blk_cell BK348.out 2).trans rfl⟩ (fun hHeld => ?_)
      clear hK K
      refine norm_ (a' := ?_) ?_ ?_
      rotate_left
      · show Act.put _ (some 10) _ = _
        simp only [Act.put, List.setIfInBounds_toArray, List.set_cons_zero, List.set_cons_succ, i64_w, i32_w]
        rfl
      refine pure_ (i := 10) (N := some 13) (v := ?_) (a' := ?_) #[true, true, true, true, true, true, true, true, true, true, true, false] rfl rfl (any_of HT_.out (by kernel_rfl)) (fun _ _ _ h => h) (Or.inl ⟨by rfl, ?_⟩) ?_ ?_
      rotate_left
      · intro w'
        go_simp
        with_reducible rfl
      rotate_left
      · simp only [Act.put, List.setIfInBounds_toArray, List.set_cons_zero, List.set_cons_succ, i64_w, i32_w]
        rfl
      refine one_ (i := 11) (N := none) #[true, true, true, true, true, true, true, true, true, true, true, true] rfl rfl (one_of HT_.out (by kernel_rfl)) (by decide) (fun K hK => ?_)
      have hs16 : w13.cell? ⟨gb349, 0, none⟩ = some (.slice none 0 0) := (blk_cell BK349.out 0).trans rfl
      have hfs16 := blk_frozen BK349.out 0
      have hns16_0 := NB348_349.out
      have hms16_0 := NB349_348.out
      have hs17 : w13.cell? ⟨gb349, 1, none⟩ = some (.slice none 0 0) := (blk_cell BK349.out 1).trans rfl
      have hfs17 := blk_frozen BK349.out 1
      have hns17_0 := NB348_349.out
      have hms17_0 := NB349_348.out
      have hs18 : w13.cell? ⟨gb349, 2, none⟩ = some (.int .i64 0) := (blk_cell BK349.out 2).trans rfl
      have hfs18 := blk_frozen BK349.out 2
      have hns18_0 := NB348_349.out
      have hms18_0 := NB349_348.out
      refine skip_ (w1 := ?_) (by rfl) rfl ?_ ?_
      rotate_left
      · go_simp
        rfl
      refine hK.out _ _ ⟨((cell_far (p := ⟨gb349, _, none⟩) NB348_349.out _).trans (((cell_far (p := ⟨gb349, _, none⟩) NB348_349.out _).trans (((cell_far (p := ⟨gb349, _, none⟩) NB348_349.out _).trans (hHeld.1)))))), ((cell_far (p := ⟨gb349, _, none⟩) NB348_349.out _).trans (((cell_far (p := ⟨gb349, _, none⟩) NB348_349.out _).trans (((cell_far (p := ⟨gb349, _, none⟩) NB348_349.out _).trans (hHeld.2.1)))))), ((cell_far (p := ⟨gb349, _, none⟩) NB348_349.out _).trans (((cell_far (p := ⟨gb349, _, none⟩) NB348_349.out _).trans (((cell_far (p := ⟨gb349, _, none⟩) NB348_349.out _).trans (hHeld.2.2))))))⟩ (fun hHeld => ?_)
      clear hK K
      refine done_ (done_of HT_.out (by kernel_rfl)) ?_
      try go_wp2
      refine bodyPost_ret (results_cell_row rfl _ _ gb349 36 #[.slice Ao15 y353.length co15, .slice Ao14 y359.length co14, .int .i64 a0_2] (0, 0) _ rfl (by (with_reducible repeat (first | refine blk_drewN ?_ _ | refine blk_drew ?_ | refine blk_alloc ?_ _)); refine blk_put (cs := #[.slice Ao15 y353.length co15, .slice Ao14 y359.length co14, .int .i64 0]) ?_ 2 _ rfl; (with_reducible repeat (first | refine blk_drewN ?_ _ | refine blk_drew ?_ | refine blk_alloc ?_ _)); refine blk_put (cs := #[.slice Ao15 y353.length co15, .slice none 0 0, .int .i64 0]) ?_ 1 _ rfl; (with_reducible repeat (first | refine blk_drewN ?_ _ | refine blk_drew ?_ | refine blk_alloc ?_ _)); refine blk_put (cs := #[.slice none 0 0, .slice none 0 0, .int .i64 0]) ?_ 0 _ rfl; (with_reducible repeat (first | refine blk_drewN ?_ _ | refine blk_drew ?_ | refine blk_alloc ?_ _)); exact BK349.out) Try.underlying36 rfl (by kernel_rfl)) rfl ?_
      exact ⟨_, _, by first | rfl | (simp [errW_none, errW_some] <;> rfl) | (simp [*, errW_none, errW_some] <;> rfl), Kd.pR (Kd.R_mono (Kd.R_far (p := ⟨gb349, 2, none⟩) (Kd.R_far (p := ⟨gb349, 1, none⟩) (Kd.R_far (p := ⟨gb349, 0, none⟩) (Kd.R_types HO355.out BK349.out (by decide)) (fun _ hk => hk.2) (.slice Ao15 y353.length co15)) (fun _ hk => hk.2) (.slice Ao14 y359.length co14)) (fun _ hk => hk.2) (.int .i64 a0_2)) (fun _ hk => trivial)), Kd.pR (Kd.R_mono (Kd.R_far (p := ⟨gb349, 2, none⟩) (Kd.R_far (p := ⟨gb349, 1, none⟩) (Kd.R_far (p := ⟨gb349, 0, none⟩) (Kd.R_types HO361.out BK349.out (by decide)) (fun _ hk => hk.2) (.slice Ao15 y353.length co15)) (fun _ hk => hk.2) (.slice Ao14 y359.length co14)) (fun _ hk => hk.2) (.int .i64 a0_2)) (fun _ hk => trivial)), pB HB.out⟩
    · rw [if_neg c3] at H
      exact absurd H (by simp)
  · rw [if_neg c2] at H
    exact absurd H (by simp)

end Go.Proofs.Ytlgfopdindklnaa.PArena

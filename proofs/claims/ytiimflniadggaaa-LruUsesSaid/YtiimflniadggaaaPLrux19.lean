-- printed by a program of this session (a turned copy of the kit's print); Lean checks it
import Derived.Test.YtiimflniadggaaaPLrux0
import Derived.Test.YtiimflniadggaaaPLrux5
import Derived.Test.YtiimflniadggaaaPLrux13
import Derived.Test.YtiimflniadggaaaPLrux14
import Derived.Test.YtiimflniadggaaaPLrux16
namespace Go.Proofs.Ytiimflniadggaaa.PLru
open Go.RowKit Go.Proofs.YtiimflniadggaaaW.PrintWords Go.Proofs.YtiimflniadggaaaW.PrintLast Go.Proofs.YtiimflniadggaaaW.PrintMore
attribute [local go_sem] max2_int min2_int max_two min_two max_three min_three max_four min_four   -- for this text's walks alone
set_option linter.unusedVariables false
set_option linter.unusedSimpArgs false

/-! ### spigotref15_Remove: function 15 -/
def spigotref15_Remove.f (k : Nat) (l0_0 : List Int) (l0_1 : List Int) (a0_2 : Int) (a0_3 : Int) (a1 : Int) : Option (List Int × List Int × Int × Int × Int) := (spigotref15_Place.f k l0_0 l0_1 a0_2 a0_3 a1).bind fun t312 => (if t312 = 0 then ((spigotref15_All.f k l0_0 l0_1 a0_2 a0_3).bind fun bt314 => ((spigotref13_In.f k bt314.1 a1).bind fun t318 => (if t318 = true then ((spigotref15_Without.f k bt314.1 a1).bind fun t319 => ((spigotref15_Made.f k (l0_0.length : Int) t319).bind fun bt322 => (some (bt322.1, bt322.2.1, bt322.2.2.1, bt322.2.2.2, 0)))) else (some (([] : List Int), ([] : List Int), 0, 0, 6))))) else ((spigotref15_Place.f k l0_0 l0_1 a0_2 a0_3 a1).bind fun t313 => (some (([] : List Int), ([] : List Int), 0, 0, t313))))
theorem spigotref15_Remove.mono : ∀ a0 a1 a2 a3 a4 k, LeO (spigotref15_Remove.f k a0 a1 a2 a3 a4) (spigotref15_Remove.f (k + 1) a0 a1 a2 a3 a4) := by
  intro a0 a1 a2 a3 a4 k
  unfold spigotref15_Remove.f
  repeat' first
      | (with_reducible exact spigotref13_In.mono _ _ _)
      | (with_reducible exact spigotref15_All.mono _ _ _ _ _)
      | (with_reducible exact spigotref15_Made.mono _ _ _)
      | (with_reducible exact spigotref15_Place.mono _ _ _ _ _ _)
      | (with_reducible exact spigotref15_Without.mono _ _ _)
      | (with_reducible exact LeO.refl _)
      | (with_reducible exact LeO.none _)
      | (with_reducible refine LeO.ite ?_ ?_)
      | (with_reducible refine LeO.bind ?_ (fun _ => ?_))
      | exact spigotref13_In.mono _ _ _
      | exact spigotref15_All.mono _ _ _ _ _
      | exact spigotref15_Made.mono _ _ _
      | exact spigotref15_Place.mono _ _ _ _ _ _
      | exact spigotref15_Without.mono _ _ _
      | exact LeO.none _
      | refine LeO.ite ?_ ?_
      | refine LeO.bind ?_ (fun _ => ?_)
def spigotref15_Remove.T6 : Bool × List (List Nat × List Nat) := (true, [([], []), ([0], [0]), ([1], [1]), ([], []), ([], []), ([3, 4], [3, 4]), ([2, 5, 5], [2, 5]), ([6, 6, 0, 1, 2, 3, 4, 5, 6], [6]), ([7, 0, 1, 2, 3, 4, 5, 6, 7], [])])
def spigotref15_Remove.B6 : List Nat := [0, 1, 3, 0, 0, 24, 63, 127, 255]
theorem spigotref15_Remove.tab6 : rtab .any (opsOf Try.f15 6) = spigotref15_Remove.T6 := by kernel_rfl
theorem spigotref15_Remove.bits6 : waitsOk spigotref15_Remove.T6.2 spigotref15_Remove.B6 = true := by kernel_rfl
set_option maxHeartbeats 8000000 in
set_option maxRecDepth 100000 in
theorem spigotref15_Remove.calls (k : Nat) (A0_0 : Option Addr) (c0_0 : Nat) (l0_0 : List Int) (A0_1 : Option Addr) (c0_1 : Nat) (l0_1 : List Int) (a0_2 : Int) (a0_3 : Int) (a1 : Int) (r1 : List Int) (r2 : List Int) (r3 : Int) (r4 : Int) (r5 : Int) (w : World) (hr0_0 : Kd.C (Kd.int .i64) w A0_0 l0_0.length l0_0) (hc0_0 : l0_0.length ≤ c0_0) (hr0_1 : Kd.C (Kd.int .i64) w A0_1 l0_1.length l0_1) (hc0_1 : l0_1.length ≤ c0_1) (h : spigotref15_Remove.f k l0_0 l0_1 a0_2 a0_3 a1 = some (r1, r2, r3, r4, r5)) :
    Calls Try.prog 15 #[.agg #[.slice A0_0 l0_0.length c0_0, .slice A0_1 l0_1.length c0_1, .int .i64 a0_2, .int .i64 a0_3], .int .i64 a1] w fun e w' => ∃ v0_ v1_ : Value, e = .returned (.tuple #[.agg #[v0_, v1_, .int .i64 r3, .int .i64 r4], .int .i64 r5]) ∧ Kd.R (Kd.int .i64) 3 w' w.heap.size (fun k_ => some k_ ≠ (v1_ : Value).ownBlock) v0_ r1 ∧ Kd.R (Kd.int .i64) 3 w' w.heap.size (fun k_ => some k_ ≠ (v0_ : Value).ownBlock) v1_ r2 ∧ Below w.heap.size w w' := by
  have hu24 := Try.underlying24
  have HR0_0 := Aside0.mk hr0_0
  have HC0_0 := Aside0.mk hc0_0
  clear hr0_0 hc0_0
  have HR0_1 := Aside0.mk hr0_1
  have HC0_1 := Aside0.mk hc0_1
  clear hr0_1 hc0_1
  have HB := Aside0.mk (Below.refl w.heap.size w)
  have H : ((spigotref15_Place.f k l0_0 l0_1 a0_2 a0_3 a1).bind fun t312 => (if t312 = 0 then ((spigotref15_All.f k l0_0 l0_1 a0_2 a0_3).bind fun bt314 => ((spigotref13_In.f k bt314.1 a1).bind fun t318 => (if t318 = true then ((spigotref15_Without.f k bt314.1 a1).bind fun t319 => ((spigotref15_Made.f k (l0_0.length : Int) t319).bind fun bt322 => (some (bt322.1, bt322.2.1, bt322.2.2.1, bt322.2.2.2, 0)))) else (some (([] : List Int), ([] : List Int), 0, 0, 6))))) else ((spigotref15_Place.f k l0_0 l0_1 a0_2 a0_3 a1).bind fun t313 => (some (([] : List Int), ([] : List Int), 0, 0, t313))))) = some (r1, r2, r3, r4, r5) := h
  clear h
  replace H := Option.bind_eq_some_iff.mp H
  obtain ⟨t312, A30, H⟩ := H
  replace H : (if t312 = 0 then ((spigotref15_All.f k l0_0 l0_1 a0_2 a0_3).bind fun bt314 => ((spigotref13_In.f k bt314.1 a1).bind fun t318 => (if t318 = true then ((spigotref15_Without.f k bt314.1 a1).bind fun t319 => ((spigotref15_Made.f k (l0_0.length : Int) t319).bind fun bt322 => (some (bt322.1, bt322.2.1, bt322.2.2.1, bt322.2.2.2, 0)))) else (some (([] : List Int), ([] : List Int), 0, 0, 6))))) else ((spigotref15_Place.f k l0_0 l0_1 a0_2 a0_3 a1).bind fun t313 => (some (([] : List Int), ([] : List Int), 0, 0, t313)))) = some (r1, r2, r3, r4, r5) := H
  have A3 := Aside0.mk A30
  (try clear A30)
  by_cases c4 : t312 = 0
  · rw [if_pos c4] at H
    have c4b0 : (t312 == 0) = true := beq_iff_eq.mpr c4
    have c4b1 : (t312 != 0) = false := bne_eq_false_iff_eq.mpr c4
    clear c4
    replace H := Option.bind_eq_some_iff.mp H
    obtain ⟨⟨t314, t317⟩, A50, H⟩ := H
    replace H : ((spigotref13_In.f k t314 a1).bind fun t318 => (if t318 = true then ((spigotref15_Without.f k t314 a1).bind fun t319 => ((spigotref15_Made.f k (l0_0.length : Int) t319).bind fun bt322 => (some (bt322.1, bt322.2.1, bt322.2.2.1, bt322.2.2.2, 0)))) else (some (([] : List Int), ([] : List Int), 0, 0, 6)))) = some (r1, r2, r3, r4, r5) := H
    have A5 := Aside0.mk A50
    (try clear A50)
    replace H := Option.bind_eq_some_iff.mp H
    obtain ⟨t318, A60, H⟩ := H
    replace H : (if t318 = true then ((spigotref15_Without.f k t314 a1).bind fun t319 => ((spigotref15_Made.f k (l0_0.length : Int) t319).bind fun bt322 => (some (bt322.1, bt322.2.1, bt322.2.2.1, bt322.2.2.2, 0)))) else (some (([] : List Int), ([] : List Int), 0, 0, 6))) = some (r1, r2, r3, r4, r5) := H
    have A6 := Aside0.mk A60
    (try clear A60)
    by_cases c7 : t318 = true
    · subst c7
      have H1 : ((spigotref15_Without.f k t314 a1).bind fun t319 => ((spigotref15_Made.f k (l0_0.length : Int) t319).bind fun bt322 => (some (bt322.1, bt322.2.1, bt322.2.2.1, bt322.2.2.2, 0)))) = some (r1, r2, r3, r4, r5) := by rw [if_pos rfl] at H; exact H
      clear H
      have H := H1
      clear H1
      replace H := Option.bind_eq_some_iff.mp H
      obtain ⟨t319, A80, H⟩ := H
      replace H : ((spigotref15_Made.f k (l0_0.length : Int) t319).bind fun bt322 => (some (bt322.1, bt322.2.1, bt322.2.2.1, bt322.2.2.2, 0))) = some (r1, r2, r3, r4, r5) := H
      have A8 := Aside0.mk A80
      (try clear A80)
      replace H := Option.bind_eq_some_iff.mp H
      obtain ⟨⟨t322, t325, t328, t329⟩, A90, H⟩ := H
      replace H : (some (t322, t325, t328, t329, 0)) = some (r1, r2, r3, r4, r5) := H
      have A9 := Aside0.mk A90
      (try clear A90)
      simp only [Option.some.injEq, Prod.mk.injEq] at H
      obtain ⟨rfl, rfl, rfl, rfl, rfl⟩ := H
      go_enter Try.func15, Try.ntmps15
      try go_wp2_with (first | ((with_reducible refine gate_dst (N := 2) rfl ?_); refine boxE (N := 2) (cs := #[.slice A0_0 l0_0.length c0_0, .slice A0_1 l0_1.length c0_1, .int .i64 a0_2, .int .i64 a0_3]) (t := 24) ?_; intro gb310 hg w10 hbox hb; have n0_ := Aside0.mk (below_step (pB HB.out) hb); have n1_ := Aside0.mk (hbox); have n3_ := Aside0.mk (pL HB.out hg); clear HB; have HB := n0_; have BK310 := n1_; have GE310 := n3_; clear n0_ n1_ n3_; clear hb hbox hg) | ((with_reducible refine gate_dst (N := 4) rfl ?_); refine boxE (N := 4) (cs := #[.slice none 0 0, .slice none 0 0, .int .i64 0, .int .i64 0]) (t := 24) ?_; intro gb311 hg w11 hbox hb; have n0_ := Aside0.mk (blk_below (pK BK310.out) hb); have n1_ := Aside0.mk (below_step (pB HB.out) hb); have n2_ := Aside0.mk (hbox); have n4_ := Aside0.mk (pL HB.out hg); have n5_ := Aside0.mk (pNl BK310.out hg); have n6_ := Aside0.mk (pNg BK310.out hg); clear BK310; clear HB; have BK310 := n0_; have HB := n1_; have BK311 := n2_; have GE311 := n4_; have NB310_311 := n5_; have NB311_310 := n6_; clear n0_ n1_ n2_ n4_ n5_ n6_; clear hb hbox hg; have hnb12 := NB310_311.out; have hnc12 := NB311_310.out; obtain ⟨hcz13_0, hcz13_1, hcz13_2, hcz13_3, hfz13_0, hfz13_1, hfz13_2, hfz13_3⟩ := bk4 BK310.out) | ((with_reducible refine gate_callee (f := 26) rfl ?_); refine goesE (some 10) rfl rfl Try.func26 (by kernel_rfl) rfl #[.agg #[.slice A0_0 l0_0.length c0_0, .slice A0_1 l0_1.length c0_1, .int .i64 a0_2, .int .i64 a0_3], .int .i64 a1] rfl ?_; (with_reducible refine (spigotref15_Place.calls k _ _ l0_0 _ _ l0_1 a0_2 a0_3 a1 t312 _ ?side1 ?side2 ?side3 ?side4 A3.out).mono ?_); (case side1 => exact Kd.pC ((Kd.C_below HR0_0.out HB.out))); (case side2 => exact HC0_0.out); (case side3 => exact Kd.pC ((Kd.C_below HR0_1.out HB.out))); (case side4 => exact HC0_1.out); rintro e w14 ⟨rfl, hb⟩; refine ⟨_, rfl, ?_⟩; have n0_ := Aside0.mk (blk_below (pK BK310.out) hb); have n1_ := Aside0.mk (blk_below (pK BK311.out) hb); have n2_ := Aside0.mk (below_step (pB HB.out) hb); clear BK310; clear BK311; clear HB; have BK310 := n0_; have BK311 := n1_; have HB := n2_; clear n0_ n1_ n2_; (try clear hb); (try clear hb2); (try clear hk); (try clear hi); obtain ⟨hcz15_0, hcz15_1, hcz15_2, hcz15_3, hfz15_0, hfz15_1, hfz15_2, hfz15_3⟩ := bk4 BK310.out) | ((with_reducible refine gate_callee (f := 35) rfl ?_); refine goesE (some 18) rfl rfl Try.func35 (by kernel_rfl) rfl #[.agg #[.slice A0_0 l0_0.length c0_0, .slice A0_1 l0_1.length c0_1, .int .i64 a0_2, .int .i64 a0_3]] rfl ?_; (with_reducible refine (spigotref15_All.calls k _ _ l0_0 _ _ l0_1 a0_2 a0_3 t314 t317 _ ?side1 ?side2 ?side3 ?side4 A5.out).mono ?_); (case side1 => exact Kd.pC ((Kd.C_below HR0_0.out HB.out))); (case side2 => exact HC0_0.out); (case side3 => exact Kd.pC ((Kd.C_below HR0_1.out HB.out))); (case side4 => exact HC0_1.out); rintro e w16 ⟨v315, rfl, ho0, hb⟩; refine ⟨_, rfl, ?_⟩; have n0_ := Aside0.mk (Kd.R_lower ho0 (below_size (pB HB.out))); have n1_ := Aside0.mk (blk_below (pK BK310.out) hb); have n2_ := Aside0.mk (blk_below (pK BK311.out) hb); have n3_ := Aside0.mk (below_step (pB HB.out) hb); clear BK310; clear BK311; clear HB; have HO316 := n0_; have BK310 := n1_; have BK311 := n2_; have HB := n3_; clear n0_ n1_ n2_ n3_; (try clear hb); (try clear hb2); (try clear hk); (try clear hi); (try clear ho0); obtain ⟨Ao17, co17, eo17⟩ := Kd.R_slice HO316.out; subst eo17) | ((with_reducible refine gate_callee (f := 25) rfl ?_); refine goesE (some 23) rfl rfl Try.func25 (by kernel_rfl) rfl #[.slice Ao17 t314.length co17, .int .i64 a1] rfl ?_; (with_reducible refine (spigotref13_In.calls k _ _ t314 a1 true _ ?side1 ?side2 A6.out).mono ?_); (case side1 => exact Kd.pC ((Kd.R_reads' HO316.out).2.2)); (case side2 => exact (Kd.R_reads' HO316.out).2.1); rintro e w' ⟨rfl, ⟨nd, rfl⟩⟩; refine ⟨_, rfl, ?_⟩; (try (rw [drewN_self w16]; generalize hq_ : World.drewN w16 _ = w16; have n0_ : Aside0 (Kd.R (Kd.int .i64) 3 w16 w.heap.size (fun _ => True) (.slice Ao17 t314.length co17) t314) := ⟨by rw [← hq_]; exact (Kd.pR HO316.out)⟩; have n1_ : Aside0 (w16.heap[gb310]? = some (.cells #[.slice A0_0 l0_0.length c0_0, .slice A0_1 l0_1.length c0_1, .int .i64 a0_2, .int .i64 a0_3] 24 (0, 0))) := ⟨by rw [← hq_]; exact (pK BK310.out)⟩; have n2_ : Aside0 (w16.heap[gb311]? = some (.cells #[.slice none 0 0, .slice none 0 0, .int .i64 0, .int .i64 0] 24 (0, 0))) := ⟨by rw [← hq_]; exact (pK BK311.out)⟩; have n3_ : Aside0 (Below w.heap.size w w16) := ⟨by rw [← hq_]; exact (pB HB.out)⟩; clear HO316 BK310 BK311 HB hq_; have HO316 := n0_; have BK310 := n1_; have BK311 := n2_; have HB := n3_; clear n0_ n1_ n2_ n3_))))
      have n0_ := Aside0.mk (Kd.R_drew HO316.out)
      have n1_ := Aside0.mk (blk_drew BK310.out)
      have n2_ := Aside0.mk (blk_drew BK311.out)
      have n3_ := Aside0.mk (below_drew1 HB.out)
      clear HO316
      clear BK310
      clear BK311
      clear HB
      have HO316 := n0_
      have BK310 := n1_
      have BK311 := n2_
      have HB := n3_
      clear n0_ n1_ n2_ n3_
      refine start_ (n := 9) (S := fun w' => w'.cell? ⟨gb310, 0, none⟩ = some (.slice A0_0 l0_0.length c0_0) ∧ w'.cell? ⟨gb310, 1, none⟩ = some (.slice A0_1 l0_1.length c0_1) ∧ w'.cell? ⟨gb310, 2, none⟩ = some (.int .i64 a0_2) ∧ w'.cell? ⟨gb310, 3, none⟩ = some (.int .i64 a0_3)) (ds := []) #[false, false, false, false, false, false, false, false, false] (by kernel_rfl) rfl rfl ⟨(blk_cell BK310.out 0).trans rfl, (blk_cell BK310.out 1).trans rfl, (blk_cell BK310.out 2).trans rfl, (blk_cell BK310.out 3).trans rfl⟩ (fun hHeld => ?_); refine with_tabW spigotref15_Remove.tab6 spigotref15_Remove.bits6 (fun HT_ HW_ => ?_)
      generalize w16.drew = w18 at HO316 BK310 BK311 HB hHeld ⊢
      refine pure_ (i := 0) (N := some 26) (v := ?_) (a' := ?_) #[true, false, false, false, false, false, false, false, false] rfl rfl (any_of HT_.out (by kernel_rfl)) (fun _ _ _ h => h) (Or.inl ⟨by rfl, ?_⟩) ?_ ?_
      rotate_left
      · intro w'
        go_simp
        with_reducible rfl
      rotate_left
      · simp only [Act.put, List.setIfInBounds_toArray, List.set_cons_zero, List.set_cons_succ, i64_w, i32_w]
        rfl
      refine pure_ (i := 3) (N := some 29) (v := ?_) (a' := ?_) #[true, false, false, true, false, false, false, false, false] rfl rfl (any_of HT_.out (by kernel_rfl)) (fun _ _ _ h => h) (Or.inl ⟨by rfl, ?_⟩) ?_ ?_
      rotate_left
      · intro w'
        go_simp
        with_reducible rfl
      rotate_left
      · simp only [Act.put, List.setIfInBounds_toArray, List.set_cons_zero, List.set_cons_succ, i64_w, i32_w]
        rfl
      refine pure_ (i := 4) (N := some 30) (v := ?_) (a' := ?_) #[true, false, false, true, true, false, false, false, false] rfl rfl (any_of HT_.out (by kernel_rfl)) (fun _ _ _ h => h) (Or.inl ⟨by rfl, ?_⟩) ?_ ?_
      rotate_left
      · intro w'
        go_simp
        with_reducible rfl
      rotate_left
      · simp only [Act.put, List.setIfInBounds_toArray, List.set_cons_zero, List.set_cons_succ, i64_w, i32_w]
        rfl
      refine take_ (i := 1) (N := some 27) (v := ?_) (a' := ?_) #[true, true, false, true, true, false, false, false, false] rfl rfl (take_ofW HT_.out HW_.out (by kernel_rfl)) (fun _ _ _ h => h) (Or.inl ⟨by rfl, ?_⟩) hHeld ?_ ?_
      rotate_left
      · rintro w' ⟨s0, s1, s2, s3⟩
        go_simp
        with_reducible rfl
      rotate_left
      · simp only [Act.put, List.setIfInBounds_toArray, List.set_cons_zero, List.set_cons_succ, i64_w, i32_w]
        rfl
      refine pure_ (i := 2) (N := some 28) (v := ?_) (a' := ?_) #[true, true, true, true, true, false, false, false, false] rfl rfl (any_of HT_.out (by kernel_rfl)) (fun _ _ _ h => h) (Or.inl ⟨by rfl, ?_⟩) ?_ ?_
      rotate_left
      · intro w'
        go_simp
        with_reducible rfl
      rotate_left
      · simp only [Act.put, List.setIfInBounds_toArray, List.set_cons_zero, List.set_cons_succ, i64_w, i32_w]
        rfl
      refine one_ (i := 5) (N := some 31) #[true, true, true, true, true, true, false, false, false] rfl rfl (one_of HT_.out (by kernel_rfl)) (by decide) (fun K hK => ?_)
      refine goes_ Try.func27 (by kernel_rfl) rfl #[.slice Ao17 t314.length co17, .int .i64 a1] (by rfl) rfl rfl (by (try simp only [List.map_toArray, List.map_cons, List.map_nil]); first | done | rfl | (simp only [List.length_drop, List.length_take]; rfl)) ?_
      with_reducible refine (spigotref15_Without.calls k _ _ t314 a1 t319 _ ?side1 ?side2 A8.out).mono ?_
      (case side1 => exact Kd.pC ((Kd.R_reads' HO316.out).2.2))
      (case side2 => exact (Kd.R_reads' HO316.out).2.1)
      rintro e w19 ⟨v320, rfl, ho0, hb⟩
      refine ⟨_, rfl, ?_⟩
      have n0_ := Aside0.mk (Kd.R_elder' (Kd.pR HO316.out) (Kd.R_base ho0) hb)
      have n1_ := Aside0.mk (Kd.R_lower (Kd.R_new' ho0 (Kd.R_lt (Kd.pR HO316.out))) (below_size (pB HB.out)))
      have n2_ := Aside0.mk (blk_below (pK BK310.out) hb)
      have n3_ := Aside0.mk (blk_below (pK BK311.out) hb)
      have n4_ := Aside0.mk (below_step (pB HB.out) hb)
      clear HO316
      clear BK310
      clear BK311
      clear HB
      have HO316 := n0_
      have HO321 := n1_
      have BK310 := n2_
      have BK311 := n3_
      have HB := n4_
      clear n0_ n1_ n2_ n3_ n4_
      (try clear hb)
      (try clear hb2)
      (try clear hk)
      (try clear hi)
      (try clear ho0)
      obtain ⟨Ao20, co20, eo20⟩ := Kd.R_slice HO321.out
      (first | subst eo20 | (injection eo20 with f1_ f2_ f3_; have f4_ := f1_.symm; have f5_ := f3_.symm; clear f1_ f2_ f3_; subst f4_; subst f5_))
      refine hK.out _ _ ⟨(blk_cell BK310.out 0).trans rfl, (blk_cell BK310.out 1).trans rfl, (blk_cell BK310.out 2).trans rfl, (blk_cell BK310.out 3).trans rfl⟩ (fun hHeld => ?_)
      clear hK K
      refine norm_ (a' := ?_) ?_ ?_
      rotate_left
      · show Act.put _ (some 31) _ = _
        simp only [Act.put, List.setIfInBounds_toArray, List.set_cons_zero, List.set_cons_succ, i64_w, i32_w]
        rfl
      refine one_ (i := 6) (N := some 32) #[true, true, true, true, true, true, true, false, false] rfl rfl (one_of HT_.out (by kernel_rfl)) (by decide) (fun K hK => ?_)
      refine goes_ Try.func30 (by kernel_rfl) rfl #[.int .i64 (l0_0.length : Int), .slice Ao20 t319.length co20] (by rfl) rfl rfl (by (try simp only [List.map_toArray, List.map_cons, List.map_nil]); first | done | rfl | (simp only [List.length_drop, List.length_take]; rfl)) ?_
      with_reducible refine (spigotref15_Made.calls k (l0_0.length : Int) _ _ t319 t322 t325 t328 t329 _ ?side1 ?side2 A9.out).mono ?_
      (case side1 => exact Kd.pC ((Kd.R_reads' HO321.out).2.2))
      (case side2 => exact (Kd.R_reads' HO321.out).2.1)
      rintro e w21 ⟨v323, v326, rfl, ho0, ho1, hb⟩
      refine ⟨_, rfl, ?_⟩
      have n2_ := Aside0.mk (Kd.R_lower (Kd.R_new' (Kd.R_new' ho0 (Kd.R_lt (Kd.pR HO316.out))) (Kd.R_lt (Kd.pR HO321.out))) (below_size (pB HB.out)))
      have n3_ := Aside0.mk (Kd.R_lower (Kd.R_new' (Kd.R_new' ho1 (Kd.R_lt (Kd.pR HO316.out))) (Kd.R_lt (Kd.pR HO321.out))) (below_size (pB HB.out)))
      have n4_ := Aside0.mk (blk_below (pK BK310.out) hb)
      have n5_ := Aside0.mk (blk_below (pK BK311.out) hb)
      have n6_ := Aside0.mk (below_step (pB HB.out) hb)
      (try clear HO316)
      (try clear HO321)
      clear BK310
      clear BK311
      clear HB
      have HO324 := n2_
      have HO327 := n3_
      have BK310 := n4_
      have BK311 := n5_
      have HB := n6_
      clear n2_ n3_ n4_ n5_ n6_
      (try clear hb)
      (try clear hb2)
      (try clear hk)
      (try clear hi)
      (try clear ho0)
      (try clear ho1)
      obtain ⟨Ao22, co22, eo22⟩ := Kd.R_slice HO324.out
      (first | subst eo22 | (injection eo22 with f1_ f2_ f3_; have f4_ := f1_.symm; have f5_ := f3_.symm; clear f1_ f2_ f3_; subst f4_; subst f5_))
      obtain ⟨Ao24, co24, eo24⟩ := Kd.R_slice HO327.out
      (first | subst eo24 | (injection eo24 with f1_ f2_ f3_; have f4_ := f1_.symm; have f5_ := f3_.symm; clear f1_ f2_ f3_; subst f4_; subst f5_))
      refine hK.out _ _ ⟨(blk_cell BK310.out 0).trans rfl, (blk_cell BK310.out 1).trans rfl, (blk_cell BK310.out 2).trans rfl, (blk_cell BK310.out 3).trans rfl⟩ (fun hHeld => ?_)
      clear hK K
      refine norm_ (a' := ?_) ?_ ?_
      rotate_left
      · show Act.put _ (some 32) _ = _
        simp only [Act.put, List.setIfInBounds_toArray, List.set_cons_zero, List.set_cons_succ, i64_w, i32_w]
        rfl
      refine one_ (i := 7) (N := none) #[true, true, true, true, true, true, true, true, false] rfl rfl (one_of HT_.out (by kernel_rfl)) (by decide) (fun K hK => ?_)
      have hs23 : w21.cell? ⟨gb311, 0, none⟩ = some (.slice none 0 0) := (blk_cell BK311.out 0).trans rfl
      have hfs23 := blk_frozen BK311.out 0
      have hns23_0 := NB310_311.out
      have hms23_0 := NB311_310.out
      have hs25 : w21.cell? ⟨gb311, 1, none⟩ = some (.slice none 0 0) := (blk_cell BK311.out 1).trans rfl
      have hfs25 := blk_frozen BK311.out 1
      have hns25_0 := NB310_311.out
      have hms25_0 := NB311_310.out
      have hs26 : w21.cell? ⟨gb311, 2, none⟩ = some (.int .i64 0) := (blk_cell BK311.out 2).trans rfl
      have hfs26 := blk_frozen BK311.out 2
      have hns26_0 := NB310_311.out
      have hms26_0 := NB311_310.out
      have hs27 : w21.cell? ⟨gb311, 3, none⟩ = some (.int .i64 0) := (blk_cell BK311.out 3).trans rfl
      have hfs27 := blk_frozen BK311.out 3
      have hns27_0 := NB310_311.out
      have hms27_0 := NB311_310.out
      refine skip_ (w1 := ?_) (by rfl) rfl ?_ ?_
      rotate_left
      · go_simp
        rfl
      refine hK.out _ _ ⟨((cell_far (p := ⟨gb311, _, none⟩) NB310_311.out _).trans (((cell_far (p := ⟨gb311, _, none⟩) NB310_311.out _).trans (((cell_far (p := ⟨gb311, _, none⟩) NB310_311.out _).trans (((cell_far (p := ⟨gb311, _, none⟩) NB310_311.out _).trans (hHeld.1)))))))), ((cell_far (p := ⟨gb311, _, none⟩) NB310_311.out _).trans (((cell_far (p := ⟨gb311, _, none⟩) NB310_311.out _).trans (((cell_far (p := ⟨gb311, _, none⟩) NB310_311.out _).trans (((cell_far (p := ⟨gb311, _, none⟩) NB310_311.out _).trans (hHeld.2.1)))))))), ((cell_far (p := ⟨gb311, _, none⟩) NB310_311.out _).trans (((cell_far (p := ⟨gb311, _, none⟩) NB310_311.out _).trans (((cell_far (p := ⟨gb311, _, none⟩) NB310_311.out _).trans (((cell_far (p := ⟨gb311, _, none⟩) NB310_311.out _).trans (hHeld.2.2.1)))))))), ((cell_far (p := ⟨gb311, _, none⟩) NB310_311.out _).trans (((cell_far (p := ⟨gb311, _, none⟩) NB310_311.out _).trans (((cell_far (p := ⟨gb311, _, none⟩) NB310_311.out _).trans (((cell_far (p := ⟨gb311, _, none⟩) NB310_311.out _).trans (hHeld.2.2.2))))))))⟩ (fun hHeld => ?_)
      clear hK K
      refine pure_ (i := 8) (N := some 5) (v := ?_) (a' := ?_) #[true, true, true, true, true, true, true, true, true] rfl rfl (any_of HT_.out (by kernel_rfl)) (fun _ _ _ h => h) (Or.inl ⟨by rfl, ?_⟩) ?_ ?_
      rotate_left
      · intro w'
        go_simp
        with_reducible rfl
      rotate_left
      · simp only [Act.put, List.setIfInBounds_toArray, List.set_cons_zero, List.set_cons_succ, i64_w, i32_w]
        rfl
      refine done_ (done_of HT_.out (by kernel_rfl)) ?_
      try go_wp2
      refine bodyPost_ret (results_ct rfl _ _ gb311 24 #[.slice Ao22 t322.length co22, .slice Ao24 t325.length co24, .int .i64 t328, .int .i64 t329] (0, 0) _ rfl (by (with_reducible repeat (first | refine blk_drewN ?_ _ | refine blk_drew ?_ | refine blk_alloc ?_ _)); refine blk_put (cs := #[.slice Ao22 t322.length co22, .slice Ao24 t325.length co24, .int .i64 t328, .int .i64 0]) ?_ 3 _ rfl; (with_reducible repeat (first | refine blk_drewN ?_ _ | refine blk_drew ?_ | refine blk_alloc ?_ _)); refine blk_put (cs := #[.slice Ao22 t322.length co22, .slice Ao24 t325.length co24, .int .i64 0, .int .i64 0]) ?_ 2 _ rfl; (with_reducible repeat (first | refine blk_drewN ?_ _ | refine blk_drew ?_ | refine blk_alloc ?_ _)); refine blk_put (cs := #[.slice Ao22 t322.length co22, .slice none 0 0, .int .i64 0, .int .i64 0]) ?_ 1 _ rfl; (with_reducible repeat (first | refine blk_drewN ?_ _ | refine blk_drew ?_ | refine blk_alloc ?_ _)); refine blk_put (cs := #[.slice none 0 0, .slice none 0 0, .int .i64 0, .int .i64 0]) ?_ 0 _ rfl; (with_reducible repeat (first | refine blk_drewN ?_ _ | refine blk_drew ?_ | refine blk_alloc ?_ _)); exact BK311.out) Try.underlying24 rfl (by kernel_rfl)) rfl ?_
      exact ⟨_, _, by first | rfl | (simp [errW_none, errW_some] <;> rfl) | (simp [*, errW_none, errW_some] <;> rfl), Kd.pR (Kd.R_mono (Kd.R_far (p := ⟨gb311, 3, none⟩) (Kd.R_far (p := ⟨gb311, 2, none⟩) (Kd.R_far (p := ⟨gb311, 1, none⟩) (Kd.R_far (p := ⟨gb311, 0, none⟩) (Kd.R_types HO324.out BK311.out (by decide)) (fun _ hk => hk.2) (.slice Ao22 t322.length co22)) (fun _ hk => hk.2) (.slice Ao24 t325.length co24)) (fun _ hk => hk.2) (.int .i64 t328)) (fun _ hk => hk.2) (.int .i64 t329)) (fun _ hk => hk.1.1.1)), Kd.pR (Kd.R_mono (Kd.R_far (p := ⟨gb311, 3, none⟩) (Kd.R_far (p := ⟨gb311, 2, none⟩) (Kd.R_far (p := ⟨gb311, 1, none⟩) (Kd.R_far (p := ⟨gb311, 0, none⟩) (Kd.R_types HO327.out BK311.out (by decide)) (fun _ hk => hk.2) (.slice Ao22 t322.length co22)) (fun _ hk => hk.2) (.slice Ao24 t325.length co24)) (fun _ hk => hk.2) (.int .i64 t328)) (fun _ hk => hk.2) (.int .i64 t329)) (fun _ hk => hk.1.1.1)), pB HB.out⟩
    · replace c7 := Bool.eq_false_iff.mpr c7
      subst c7
      have H1 : (some (([] : List Int), ([] : List Int), 0, 0, 6)) = some (r1, r2, r3, r4, r5) := by rw [if_neg (show ¬ (false = true) by decide)] at H; exact H
      clear H
      have H := H1
      (try clear H1)
      simp only [Option.some.injEq, Prod.mk.injEq] at H
      obtain ⟨rfl, rfl, rfl, rfl, rfl⟩ := H
      go_enter Try.func15, Try.ntmps15
      go_wp2_with (first | ((with_reducible refine gate_dst (N := 2) rfl ?_); refine boxE (N := 2) (cs := #[.slice A0_0 l0_0.length c0_0, .slice A0_1 l0_1.length c0_1, .int .i64 a0_2, .int .i64 a0_3]) (t := 24) ?_; intro gb310 hg w28 hbox hb; have n0_ := Aside0.mk (below_step (pB HB.out) hb); have n1_ := Aside0.mk (hbox); have n3_ := Aside0.mk (pL HB.out hg); clear HB; have HB := n0_; have BK310 := n1_; have GE310 := n3_; clear n0_ n1_ n3_; clear hb hbox hg) | ((with_reducible refine gate_dst (N := 4) rfl ?_); refine boxE (N := 4) (cs := #[.slice none 0 0, .slice none 0 0, .int .i64 0, .int .i64 0]) (t := 24) ?_; intro gb311 hg w29 hbox hb; have n0_ := Aside0.mk (blk_below (pK BK310.out) hb); have n1_ := Aside0.mk (below_step (pB HB.out) hb); have n2_ := Aside0.mk (hbox); have n4_ := Aside0.mk (pL HB.out hg); have n5_ := Aside0.mk (pNl BK310.out hg); have n6_ := Aside0.mk (pNg BK310.out hg); clear BK310; clear HB; have BK310 := n0_; have HB := n1_; have BK311 := n2_; have GE311 := n4_; have NB310_311 := n5_; have NB311_310 := n6_; clear n0_ n1_ n2_ n4_ n5_ n6_; clear hb hbox hg; have hnb30 := NB310_311.out; have hnc30 := NB311_310.out; obtain ⟨hcz31_0, hcz31_1, hcz31_2, hcz31_3, hfz31_0, hfz31_1, hfz31_2, hfz31_3⟩ := bk4 BK310.out) | ((with_reducible refine gate_callee (f := 26) rfl ?_); refine goesE (some 10) rfl rfl Try.func26 (by kernel_rfl) rfl #[.agg #[.slice A0_0 l0_0.length c0_0, .slice A0_1 l0_1.length c0_1, .int .i64 a0_2, .int .i64 a0_3], .int .i64 a1] rfl ?_; (with_reducible refine (spigotref15_Place.calls k _ _ l0_0 _ _ l0_1 a0_2 a0_3 a1 t312 _ ?side1 ?side2 ?side3 ?side4 A3.out).mono ?_); (case side1 => exact Kd.pC ((Kd.C_below HR0_0.out HB.out))); (case side2 => exact HC0_0.out); (case side3 => exact Kd.pC ((Kd.C_below HR0_1.out HB.out))); (case side4 => exact HC0_1.out); rintro e w32 ⟨rfl, hb⟩; refine ⟨_, rfl, ?_⟩; have n0_ := Aside0.mk (blk_below (pK BK310.out) hb); have n1_ := Aside0.mk (blk_below (pK BK311.out) hb); have n2_ := Aside0.mk (below_step (pB HB.out) hb); clear BK310; clear BK311; clear HB; have BK310 := n0_; have BK311 := n1_; have HB := n2_; clear n0_ n1_ n2_; (try clear hb); (try clear hb2); (try clear hk); (try clear hi); obtain ⟨hcz33_0, hcz33_1, hcz33_2, hcz33_3, hfz33_0, hfz33_1, hfz33_2, hfz33_3⟩ := bk4 BK310.out) | ((with_reducible refine gate_callee (f := 35) rfl ?_); refine goesE (some 18) rfl rfl Try.func35 (by kernel_rfl) rfl #[.agg #[.slice A0_0 l0_0.length c0_0, .slice A0_1 l0_1.length c0_1, .int .i64 a0_2, .int .i64 a0_3]] rfl ?_; (with_reducible refine (spigotref15_All.calls k _ _ l0_0 _ _ l0_1 a0_2 a0_3 t314 t317 _ ?side1 ?side2 ?side3 ?side4 A5.out).mono ?_); (case side1 => exact Kd.pC ((Kd.C_below HR0_0.out HB.out))); (case side2 => exact HC0_0.out); (case side3 => exact Kd.pC ((Kd.C_below HR0_1.out HB.out))); (case side4 => exact HC0_1.out); rintro e w34 ⟨v315, rfl, ho0, hb⟩; refine ⟨_, rfl, ?_⟩; have n0_ := Aside0.mk (Kd.R_lower ho0 (below_size (pB HB.out))); have n1_ := Aside0.mk (blk_below (pK BK310.out) hb); have n2_ := Aside0.mk (blk_below (pK BK311.out) hb); have n3_ := Aside0.mk (below_step (pB HB.out) hb); clear BK310; clear BK311; clear HB; have HO316 := n0_; have BK310 := n1_; have BK311 := n2_; have HB := n3_; clear n0_ n1_ n2_ n3_; (try clear hb); (try clear hb2); (try clear hk); (try clear hi); (try clear ho0); obtain ⟨Ao35, co35, eo35⟩ := Kd.R_slice HO316.out; subst eo35) | ((with_reducible refine gate_callee (f := 25) rfl ?_); refine goesE (some 23) rfl rfl Try.func25 (by kernel_rfl) rfl #[.slice Ao35 t314.length co35, .int .i64 a1] rfl ?_; (with_reducible refine (spigotref13_In.calls k _ _ t314 a1 false _ ?side1 ?side2 A6.out).mono ?_); (case side1 => exact Kd.pC ((Kd.R_reads' HO316.out).2.2)); (case side2 => exact (Kd.R_reads' HO316.out).2.1); rintro e w' ⟨rfl, ⟨nd, rfl⟩⟩; refine ⟨_, rfl, ?_⟩; (try (rw [drewN_self w34]; generalize hq_ : World.drewN w34 _ = w34; have n0_ : Aside0 (Kd.R (Kd.int .i64) 3 w34 w.heap.size (fun _ => True) (.slice Ao35 t314.length co35) t314) := ⟨by rw [← hq_]; exact (Kd.pR HO316.out)⟩; have n1_ : Aside0 (w34.heap[gb310]? = some (.cells #[.slice A0_0 l0_0.length c0_0, .slice A0_1 l0_1.length c0_1, .int .i64 a0_2, .int .i64 a0_3] 24 (0, 0))) := ⟨by rw [← hq_]; exact (pK BK310.out)⟩; have n2_ : Aside0 (w34.heap[gb311]? = some (.cells #[.slice none 0 0, .slice none 0 0, .int .i64 0, .int .i64 0] 24 (0, 0))) := ⟨by rw [← hq_]; exact (pK BK311.out)⟩; have n3_ : Aside0 (Below w.heap.size w w34) := ⟨by rw [← hq_]; exact (pB HB.out)⟩; clear HO316 BK310 BK311 HB hq_; have HO316 := n0_; have BK310 := n1_; have BK311 := n2_; have HB := n3_; clear n0_ n1_ n2_ n3_)); obtain ⟨hcz36_0, hcz36_1, hcz36_2, hcz36_3, hfz36_0, hfz36_1, hfz36_2, hfz36_3⟩ := bk4 BK311.out))
      refine bodyPost_ret (results_ct rfl _ _ gb311 24 #[.slice none 0 0, .slice none 0 0, .int .i64 0, .int .i64 0] (0, 0) _ rfl (by (with_reducible repeat (first | refine blk_drewN ?_ _ | refine blk_drew ?_ | refine blk_alloc ?_ _)); refine blk_put (cs := #[.slice none 0 0, .slice none 0 0, .int .i64 0, .int .i64 0]) ?_ 3 _ rfl; (with_reducible repeat (first | refine blk_drewN ?_ _ | refine blk_drew ?_ | refine blk_alloc ?_ _)); refine blk_put (cs := #[.slice none 0 0, .slice none 0 0, .int .i64 0, .int .i64 0]) ?_ 2 _ rfl; (with_reducible repeat (first | refine blk_drewN ?_ _ | refine blk_drew ?_ | refine blk_alloc ?_ _)); refine blk_put (cs := #[.slice none 0 0, .slice none 0 0, .int .i64 0, .int .i64 0]) ?_ 1 _ rfl; (with_reducible repeat (first | refine blk_drewN ?_ _ | refine blk_drew ?_ | refine blk_alloc ?_ _)); refine blk_put (cs := #[.slice none 0 0, .slice none 0 0, .int .i64 0, .int .i64 0]) ?_ 0 _ rfl; (with_reducible repeat (first | refine blk_drewN ?_ _ | refine blk_drew ?_ | refine blk_alloc ?_ _)); exact BK311.out) Try.underlying24 rfl (by kernel_rfl)) rfl ?_
      exact ⟨_, _, by first | rfl | (simp [errW_none, errW_some] <;> rfl) | (simp [*, errW_none, errW_some] <;> rfl), by first | exact Kd.R_nil _ _ _ _ _ | exact Kd.N_nil _ _ _ _ _ | exact Kd.V_nil _ _ _ _ _ | exact Kd.Q_nil _ _ _ _ _ | exact Kd.S_nil _ _ _ _ _, by first | exact Kd.R_nil _ _ _ _ _ | exact Kd.N_nil _ _ _ _ _ | exact Kd.V_nil _ _ _ _ _ | exact Kd.Q_nil _ _ _ _ _ | exact Kd.S_nil _ _ _ _ _, pB HB.out⟩
  · rw [if_neg c4] at H
    have c4b0 : (t312 == 0) = false := beq_eq_false_iff_ne.mpr c4
    have c4b1 : (t312 != 0) = true := bne_iff_ne.mpr c4
    replace H := Option.bind_eq_some_iff.mp H
    obtain ⟨t313, A370, H⟩ := H
    replace H : (some (([] : List Int), ([] : List Int), 0, 0, t313)) = some (r1, r2, r3, r4, r5) := H
    have A37 := Aside0.mk A370
    (try clear A370)
    simp only [Option.some.injEq, Prod.mk.injEq] at H
    obtain ⟨rfl, rfl, rfl, rfl, rfl⟩ := H
    go_enter Try.func15, Try.ntmps15
    go_wp2_with (first | ((with_reducible refine gate_dst (N := 2) rfl ?_); refine boxE (N := 2) (cs := #[.slice A0_0 l0_0.length c0_0, .slice A0_1 l0_1.length c0_1, .int .i64 a0_2, .int .i64 a0_3]) (t := 24) ?_; intro gb310 hg w38 hbox hb; have n0_ := Aside0.mk (below_step (pB HB.out) hb); have n1_ := Aside0.mk (hbox); have n3_ := Aside0.mk (pL HB.out hg); clear HB; have HB := n0_; have BK310 := n1_; have GE310 := n3_; clear n0_ n1_ n3_; clear hb hbox hg) | ((with_reducible refine gate_dst (N := 4) rfl ?_); refine boxE (N := 4) (cs := #[.slice none 0 0, .slice none 0 0, .int .i64 0, .int .i64 0]) (t := 24) ?_; intro gb311 hg w39 hbox hb; have n0_ := Aside0.mk (blk_below (pK BK310.out) hb); have n1_ := Aside0.mk (below_step (pB HB.out) hb); have n2_ := Aside0.mk (hbox); have n4_ := Aside0.mk (pL HB.out hg); have n5_ := Aside0.mk (pNl BK310.out hg); have n6_ := Aside0.mk (pNg BK310.out hg); clear BK310; clear HB; have BK310 := n0_; have HB := n1_; have BK311 := n2_; have GE311 := n4_; have NB310_311 := n5_; have NB311_310 := n6_; clear n0_ n1_ n2_ n4_ n5_ n6_; clear hb hbox hg; have hnb40 := NB310_311.out; have hnc40 := NB311_310.out; obtain ⟨hcz41_0, hcz41_1, hcz41_2, hcz41_3, hfz41_0, hfz41_1, hfz41_2, hfz41_3⟩ := bk4 BK310.out) | ((with_reducible refine gate_callee (f := 26) rfl ?_); refine goesE (some 10) rfl rfl Try.func26 (by kernel_rfl) rfl #[.agg #[.slice A0_0 l0_0.length c0_0, .slice A0_1 l0_1.length c0_1, .int .i64 a0_2, .int .i64 a0_3], .int .i64 a1] rfl ?_; (with_reducible refine (spigotref15_Place.calls k _ _ l0_0 _ _ l0_1 a0_2 a0_3 a1 t312 _ ?side1 ?side2 ?side3 ?side4 A3.out).mono ?_); (case side1 => exact Kd.pC ((Kd.C_below HR0_0.out HB.out))); (case side2 => exact HC0_0.out); (case side3 => exact Kd.pC ((Kd.C_below HR0_1.out HB.out))); (case side4 => exact HC0_1.out); rintro e w42 ⟨rfl, hb⟩; refine ⟨_, rfl, ?_⟩; have n0_ := Aside0.mk (blk_below (pK BK310.out) hb); have n1_ := Aside0.mk (blk_below (pK BK311.out) hb); have n2_ := Aside0.mk (below_step (pB HB.out) hb); clear BK310; clear BK311; clear HB; have BK310 := n0_; have BK311 := n1_; have HB := n2_; clear n0_ n1_ n2_; (try clear hb); (try clear hb2); (try clear hk); (try clear hi); obtain ⟨hcz43_0, hcz43_1, hcz43_2, hcz43_3, hfz43_0, hfz43_1, hfz43_2, hfz43_3⟩ := bk4 BK310.out) | ((with_reducible refine gate_callee (f := 26) rfl ?_); refine goesE (some 15) rfl rfl Try.func26 (by kernel_rfl) rfl #[.agg #[.slice A0_0 l0_0.length c0_0, .slice A0_1 l0_1.length c0_1, .int .i64 a0_2, .int .i64 a0_3], .int .i64 a1] rfl ?_; (with_reducible refine (spigotref15_Place.calls k _ _ l0_0 _ _ l0_1 a0_2 a0_3 a1 t313 _ ?side1 ?side2 ?side3 ?side4 A37.out).mono ?_); (case side1 => exact Kd.pC ((Kd.C_below HR0_0.out HB.out))); (case side2 => exact HC0_0.out); (case side3 => exact Kd.pC ((Kd.C_below HR0_1.out HB.out))); (case side4 => exact HC0_1.out); rintro e w44 ⟨rfl, hb⟩; refine ⟨_, rfl, ?_⟩; have n1_ := Aside0.mk (blk_below (pK BK311.out) hb); have n2_ := Aside0.mk (below_step (pB HB.out) hb); (try clear BK310); clear BK311; clear HB; have BK311 := n1_; have HB := n2_; clear n1_ n2_; (try clear hb); (try clear hb2); (try clear hk); (try clear hi); obtain ⟨hcz45_0, hcz45_1, hcz45_2, hcz45_3, hfz45_0, hfz45_1, hfz45_2, hfz45_3⟩ := bk4 BK311.out))
    refine bodyPost_ret (results_ct rfl _ _ gb311 24 #[.slice none 0 0, .slice none 0 0, .int .i64 0, .int .i64 0] (0, 0) _ rfl (by (with_reducible repeat (first | refine blk_drewN ?_ _ | refine blk_drew ?_ | refine blk_alloc ?_ _)); refine blk_put (cs := #[.slice none 0 0, .slice none 0 0, .int .i64 0, .int .i64 0]) ?_ 3 _ rfl; (with_reducible repeat (first | refine blk_drewN ?_ _ | refine blk_drew ?_ | refine blk_alloc ?_ _)); refine blk_put (cs := #[.slice none 0 0, .slice none 0 0, .int .i64 0, .int .i64 0]) ?_ 2 _ rfl; (with_reducible repeat (first | refine blk_drewN ?_ _ | refine blk_drew ?_ | refine blk_alloc ?_ _)); refine blk_put (cs := #[.slice none 0 0, .slice none 0 0, .int .i64 0, .int .i64 0]) ?_ 1 _ rfl; (with_reducible repeat (first | refine blk_drewN ?_ _ | refine blk_drew ?_ | refine blk_alloc ?_ _)); refine blk_put (cs := #[.slice none 0 0, .slice none 0 0, .int .i64 0, .int .i64 0]) ?_ 0 _ rfl; (with_reducible repeat (first | refine blk_drewN ?_ _ | refine blk_drew ?_ | refine blk_alloc ?_ _)); exact BK311.out) Try.underlying24 rfl (by kernel_rfl)) rfl ?_
    exact ⟨_, _, by first | rfl | (simp [errW_none, errW_some] <;> rfl) | (simp [*, errW_none, errW_some] <;> rfl), by first | exact Kd.R_nil _ _ _ _ _ | exact Kd.N_nil _ _ _ _ _ | exact Kd.V_nil _ _ _ _ _ | exact Kd.Q_nil _ _ _ _ _ | exact Kd.S_nil _ _ _ _ _, by first | exact Kd.R_nil _ _ _ _ _ | exact Kd.N_nil _ _ _ _ _ | exact Kd.V_nil _ _ _ _ _ | exact Kd.Q_nil _ _ _ _ _ | exact Kd.S_nil _ _ _ _ _, pB HB.out⟩

end Go.Proofs.Ytiimflniadggaaa.PLru

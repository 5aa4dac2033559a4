/- The pure statement of ShareLevel. -/
import Derived.Test.YteeceppbnkkfpaaPSharex20
import Derived.Test.YteeceppbnkkfpaaShareAlive
import Derived.Test.YteeceppbnkkfpaaSharePlain5
namespace Go.Proofs.Yteeceppbnkkfpaa.Pure
open Go.RowKit Go.Proofs.Yteeceppbnkkfpaa.PShare Go.Proofs.YteeceppbnkkfpaaW.PrintWords Go.Proofs.YteeceppbnkkfpaaW.PrintLast Go.Proofs.Yteeceppbnkkfpaa.SharePlain

theorem no_idxs {a b : Int} (l : List D) (j : Int) : idxs j (Zs false a b l) = [] := by
  induction l generalizing j with
  | nil => rfl
  | cons d m ih => simp only [Zs, List.map_cons, idxs] at ih ⊢; rw [if_neg (by simp [flag])]; exact ih _

theorem level_l0 {l : List D} {S T a b : Int} (hA : SharePlain.Ask l S) (hB : SharePlain.Ask l T) (hv : Lvl l S a b true) : ∀ B A : List (D × Int), l.zip (Shr true a b S l) = A ++ B →
    Ev (fun k => spigotlaw36_ShareLevel.l0 k l S T true (idxs 0 (Zs true a b l)) (Shr true a b S l) (sm (cap a b) (A.map (·.1))) ((idxs 0 (Zs true a b (A.map (·.1)))).length : Int) (A.length : Int) a b) true := by
  have hn := nums hv
  have hl := hA.1
  have sl := shr_len true a b S l
  have m1 : (l.zip (Shr true a b S l)).map (·.1) = l := List.map_fst_zip (by omega)
  have m2 : (l.zip (Shr true a b S l)).map (·.2) = Shr true a b S l := List.map_snd_zip (by omega)
  have hL := (hv.1 rfl).1
  intro B
  induction B with
  | nil =>
    intro A e
    rw [List.append_nil] at e
    have lA : A.length = l.length := by rw [← e, List.length_zip]; omega
    rw [← e, m1]
    obtain ⟨a2, b2, ok2, hv2, h2, _⟩ := all_of hB
    obtain ⟨K, hK⟩ := Ev.get h2
    have hS := hA.2.2
    refine ⟨K + 1, fun k hk => ?_⟩
    obtain ⟨k, rfl⟩ : ∃ j, k = j + 1 := ⟨k - 1, by omega⟩
    have sb := mul_bound (m := 1000000000000) (n := 12000) hS.1 hn.2.2.2.1 hS.2 hn.2.2.2.2
    dsimp only
    rw [spigotlaw36_ShareLevel.l0, if_neg (by rw [List.length_zip]; omega), w0 (i := S * b) (by omega) (by omega), if_pos hL.2.2.1, if_pos rfl, hK k (by omega), Option.bind_some]
    cases ok2
    · rfl
    · have hn2 := nums hv2
      have hL2 := (hv2.1 rfl).1
      simp only [if_true]
      by_cases q : T < S
      · rw [if_pos q]
      · have k1 := hL.le hA.2.1 hL2 (by omega)
        have p1 := mul_bound (m := 1000000000000) (n := 12000) hn2.2.1 hn.2.2.2.1 hn2.2.2.1 hn.2.2.2.2
        have p2 := mul_bound (m := 1000000000000) (n := 12000) hn.2.1 hn2.2.2.2.1 hn.2.2.1 hn2.2.2.2.2
        have hb2 := hL2.1
        rw [if_neg q, if_pos (by omega), if_pos hn2.2.2.2.2, if_pos (by have := hn2.2.1; omega), if_pos hn2.2.2.1, w0 (i := a2 * b) (by omega) (by omega), w0 (i := a * b2) (by omega) (by omega), decide_eq_true (by omega)]
  | cons z B ih =>
    intro A e
    obtain ⟨d, v⟩ := z
    have lP : l.length = A.length + 1 + B.length := by have := congrArg List.length e; rw [List.length_zip] at this; simp at this; omega
    have e1 : l = A.map (·.1) ++ d :: B.map (·.1) := by rw [← m1, e]; simp
    have e2 : Shr true a b S l = A.map (·.2) ++ v :: B.map (·.2) := by rw [← m2, e]; simp
    have y1 : rd_T37 l (A.length : Int) = d := by rw [e1]; have := rd_mid (A.map (·.1)) (B.map (·.1)) d; simpa using this
    have y2 : rd (Shr true a b S l) (A.length : Int) = v := by rw [e2]; have := rdi_mid (A.map (·.2)) (B.map (·.2)) v; simpa using this
    have hd : d ∈ l := by rw [e1]; simp
    have gm := (give_mem l (S - sm (SharePlain.part true a b) l) (d, v) (by show (d, v) ∈ l.zip (Shr true a b S l); rw [e]; simp)).2
    have p := prods hA hv hd
    have pr := part_range hA hv hd
    have wd := (hA.2.1 d hd).2.1
    have il := idxs_len 0 (Zs true a b (A.map (·.1)))
    have zl : (Zs true a b (A.map (·.1))).length = A.length := by simp [Zs]
    have eZl : Zs true a b l = Zs true a b (A.map (·.1)) ++ (SharePlain.part true a b d, flag true a b d) :: Zs true a b (B.map (·.1)) := by
      conv => lhs; rw [e1]
      simp [Zs]
    have cs : 0 ≤ sm (cap a b) (A.map (·.1)) ∧ sm (cap a b) (A.map (·.1)) ≤ 144000000000000 := by
      have hm : ∀ x ∈ A.map (·.1), x ∈ l := fun x hx => by rw [e1]; exact List.mem_append_left _ hx
      have c1 := sm_nonneg (f := cap a b) (A := A.map (·.1)) (fun x hx => by have := prods hA hv (hm x hx); unfold cap; split <;> omega)
      have c2 := sm_bound (f := cap a b) (A := A.map (·.1)) (m := 12000000000000) (fun x hx => by have := prods hA hv (hm x hx); have := cap_le1 a b x; omega)
      have lm : ((A.map (·.1)).length : Int) ≤ 12 := by simp; omega
      omega
    have h2 := ih (A ++ [(d, v)]) (by rw [e]; simp)
    have e6 : sm (cap a b) ((A ++ [(d, v)]).map (·.1)) = sm (cap a b) (A.map (·.1)) + cap a b d := by rw [List.map_append, sm_app]; simp [sm]
    have e7 : ((A ++ [(d, v)]).length : Int) = (A.length : Int) + 1 := by simp
    have eZ : Zs true a b ((A ++ [(d, v)]).map (·.1)) = Zs true a b (A.map (·.1)) ++ [(SharePlain.part true a b d, flag true a b d)] := by simp [Zs]
    rw [e6, e7, eZ, idxs_app, zl] at h2
    refine Ev.step (fun k => ?_) h2
    rw [spigotlaw36_ShareLevel.l0, if_pos (by omega), if_pos (by omega), y1, w0 (i := d.f0 * b) (by unfold W at p; omega) (by unfold W at p; omega), w0 (i := a * d.f1) (by unfold G at p; omega) (by unfold G at p; omega), w0 (i := (A.length : Int) + 1) (by omega) (by omega)]
    by_cases f : flag true a b d = true
    · have fl := floor_of hv hd f
      have hp : SharePlain.part true a b d = a * G d / b := by unfold SharePlain.part; rw [if_pos f]
      have ei : idxs 0 (Zs true a b l) = idxs 0 (Zs true a b (A.map (·.1))) ++ (A.length : Int) :: idxs ((A.length : Int) + 1) (Zs true a b (B.map (·.1))) := by
        rw [eZl, idxs_app, zl]; simp [idxs, f]
      have ri : rd (idxs 0 (Zs true a b l)) ((idxs 0 (Zs true a b (A.map (·.1)))).length : Int) = A.length := by rw [ei]; exact rdi_mid _ _ _
      have li : (idxs 0 (Zs true a b (A.map (·.1)))).length < (idxs 0 (Zs true a b l)).length := by rw [ei]; simp
      have low : wrap64 (Int.tdiv (a * d.f1) b) = SharePlain.part true a b d := by
        rw [Int.tdiv_eq_ediv_of_nonneg (by unfold G at p; exact p.2.1), hp]
        have e8 : a * d.f1 / b = a * G d / b := rfl
        rw [e8, ← hp]
        exact w0 (by omega) (by unfold W at pr; omega)
      have hc : cap a b d = a * d.f1 := by unfold cap; rw [if_neg (by omega)]; rfl
      have e9 : (((idxs 0 (Zs true a b (A.map (·.1))) ++ idxs (0 + (A.length : Int)) [(SharePlain.part true a b d, flag true a b d)]).length : Nat) : Int) = ((idxs 0 (Zs true a b (A.map (·.1)))).length : Int) + 1 := by simp [idxs, f]
      have nle : ¬ (d.f0 * b ≤ a * d.f1) := by have := fl.2.1; unfold W G at this; omega
      have s1 : wrap64 (sm (cap a b) (A.map (·.1)) + a * d.f1) = sm (cap a b) (A.map (·.1)) + cap a b d := by rw [hc]; exact w0 (by unfold G at p; omega) (by unfold G at p; omega)
      rw [if_neg nle, if_neg (by omega), if_neg (by omega), if_pos (by omega), if_pos (by omega), ri, if_pos rfl, if_pos (by omega), y2, low, s1, w0 (i := ((idxs 0 (Zs true a b (A.map (·.1)))).length : Int) + 1) (by omega) (by omega), e9]
      rcases gm with g | ⟨_, g⟩
      · have g' : v = SharePlain.part true a b d := g
        rw [if_pos g']
      · have g' : v = SharePlain.part true a b d + 1 := g
        rw [if_neg (by omega), w0 (i := SharePlain.part true a b d + 1) (by omega) (by unfold W at pr; omega), if_pos g']
    · have u := unflag hd rfl f
      have hc : cap a b d = d.f0 * b := by unfold cap; rw [if_pos u.2]; rfl
      have hvv : v = d.f0 := by
        rcases gm with g | ⟨g, _⟩
        · have g' : v = SharePlain.part true a b d := g
          rw [g', u.1]; rfl
        · exact absurd g f
      have e9 : (((idxs 0 (Zs true a b (A.map (·.1))) ++ idxs (0 + (A.length : Int)) [(SharePlain.part true a b d, flag true a b d)]).length : Nat) : Int) = ((idxs 0 (Zs true a b (A.map (·.1)))).length : Int) := by simp [idxs, f]
      have s1 : wrap64 (sm (cap a b) (A.map (·.1)) + d.f0 * b) = sm (cap a b) (A.map (·.1)) + cap a b d := by rw [hc]; exact w0 (by unfold W at p; omega) (by unfold W at p; omega)
      rw [if_pos (show d.f0 * b ≤ a * d.f1 from u.2), if_pos (by omega), y2, if_pos hvv, s1, e9]

theorem ShareLevel : spigotlaw36_ShareLevel.Pure := by
  intro l S T _ _ _
  obtain ⟨K0, k0⟩ := Ev.get alive_ev
  by_cases g : l.length > 20
  · refine ⟨K0, ?_⟩
    unfold spigotlaw36_ShareLevel.f
    rw [k0 _ (Nat.le_refl _), Option.bind_some, if_pos rfl, if_pos (by omega)]
  obtain ⟨r, hr, _, h2⟩ := asks l S
  obtain ⟨K1, k1⟩ := Ev.get h2
  by_cases c : r = 0
  · obtain ⟨r2, hr2, _, h3⟩ := asks l T
    obtain ⟨K2, k2⟩ := Ev.get h3
    by_cases c2 : r2 = 0
    · have hA := hr.1 c
      have hB := hr2.1 c2
      obtain ⟨a, b, ok, hv, q1, _, q2, _, q3, _⟩ := all_of hA
      obtain ⟨K3, k3⟩ := Ev.get q1
      obtain ⟨K4, k4⟩ := Ev.get q2
      obtain ⟨K5, k5⟩ := Ev.get q3
      have sl := shr_len ok a b S l
      have hn := nums hv
      cases ok
      · refine ⟨K0 + K1 + K2 + K3 + K4 + K5, ?_⟩
        unfold spigotlaw36_ShareLevel.f
        rw [k0 _ (by omega), Option.bind_some, if_pos rfl, if_neg (by omega), k1 _ (by omega), Option.bind_some, if_pos c, k2 _ (by omega), Option.bind_some, if_pos c2, k3 _ (by omega), Option.bind_some, k4 _ (by omega), Option.bind_some, k5 _ (by omega), Option.bind_some]
        dsimp only
        rw [if_pos rfl, if_pos rfl, if_pos (by omega), if_neg (by simp), if_pos (by simp), no_idxs]
        rfl
      · obtain ⟨K6, k6⟩ := Ev.get (level_l0 hA hB hv (l.zip (Shr true a b S l)) [] rfl)
        have hb := hn.1 rfl
        refine ⟨K0 + K1 + K2 + K3 + K4 + K5 + K6, ?_⟩
        unfold spigotlaw36_ShareLevel.f
        rw [k0 _ (by omega), Option.bind_some, if_pos rfl, if_neg (by omega), k1 _ (by omega), Option.bind_some, if_pos c, k2 _ (by omega), Option.bind_some, if_pos c2, k3 _ (by omega), Option.bind_some, k4 _ (by omega), Option.bind_some, k5 _ (by omega), Option.bind_some]
        dsimp only
        rw [if_pos rfl, if_pos rfl, if_pos (by omega), if_pos (by simp), if_neg (by omega), if_neg (by omega), if_neg (by omega), if_neg (by omega)]
        exact k6 _ (by omega)
    · refine ⟨K0 + K1 + K2, ?_⟩
      unfold spigotlaw36_ShareLevel.f
      rw [k0 _ (by omega), Option.bind_some, if_pos rfl, if_neg (by omega), k1 _ (by omega), Option.bind_some, if_pos c, k2 _ (by omega), Option.bind_some, if_neg c2]
  · refine ⟨K0 + K1, ?_⟩
    unfold spigotlaw36_ShareLevel.f
    rw [k0 _ (by omega), Option.bind_some, if_pos rfl, if_neg (by omega), k1 _ (by omega), Option.bind_some, if_neg c]

end Go.Proofs.Yteeceppbnkkfpaa.Pure

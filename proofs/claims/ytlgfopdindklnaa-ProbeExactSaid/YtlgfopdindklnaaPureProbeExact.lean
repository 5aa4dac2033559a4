/- ProbeExact, plain: the index has exactly the keys that were put and not dropped since. -/
import Derived.Test.YtlgfopdindklnaaPProbex19
import Derived.Test.YtlgfopdindklnaaProbePlain3
namespace Go.Proofs.Ytlgfopdindklnaa.Pure
open Go.RowKit Go.Proofs.Ytlgfopdindklnaa.PProbe Go.Proofs.YtlgfopdindklnaaW.PrintWords Go.Proofs.YtlgfopdindklnaaW.PrintLast
open ProbePlain (Valid Has cnt w0)

theorem exact_alive_60 : spigotlaw14_alive.f 60 = some true := by decide +kernel
theorem exact_alive : Ev (fun k => spigotlaw14_alive.f k) true := Ev.of (fun k => spigotlaw14_alive.mono k) exact_alive_60

/-- The index x holds the pairs of L, and no others. -/
structure Holds (x : List S71) (L : List (Int × Int)) : Prop where
  valid : Valid x
  count : cnt x = L.length
  nodup : (L.map Prod.fst).Nodup
  has : ∀ k p, Has x k p ↔ (k, p) ∈ L
  keys : ∀ k p, (k, p) ∈ L → 0 ≤ k ∧ k < 4294967296

theorem exact_rd {l : List Int} {i : Nat} (h : i < l.length) : rd l (i : Int) = l[i] := by
  unfold rd; simp [List.getD_eq_getElem?_getD, h]
theorem rd_fst {L : List (Int × Int)} {i : Nat} (h : i < L.length) : rd (L.map Prod.fst) (i : Int) = L[i].1 := by
  rw [exact_rd (by simpa using h)]; simp
theorem rd_snd {L : List (Int × Int)} {i : Nat} (h : i < L.length) : rd (L.map Prod.snd) (i : Int) = L[i].2 := by
  rw [exact_rd (by simpa using h)]; simp

theorem Holds.check {x : List S71} {L : List (Int × Int)} (h : Holds x L) : Ev (fun k => spigotref14_Check.f k x) 0 :=
  ProbePlain.rcheck_yes (ProbePlain.keys_of h.valid fun k p hh => h.keys k p ((h.has k p).1 hh)) h.valid

theorem pairs_erase {L : List (Int × Int)} (hn : (L.map Prod.fst).Nodup) {i : Nat} (hi : i < L.length) (k p : Int) : (k, p) ∈ L.eraseIdx i ↔ (k, p) ∈ L ∧ k ≠ L[i].1 := by
  have inj : ∀ (a b : Nat) (ha : a < L.length) (hb : b < L.length), L[a].1 = L[b].1 → a = b := by
    intro a b ha hb e
    have hp := List.pairwise_iff_getElem.1 hn
    rcases Nat.lt_trichotomy a b with q | q | q
    · exact False.elim <| (hp a b (by simpa using ha) (by simpa using hb) q) (by rw [List.getElem_map, List.getElem_map]; exact e)
    · exact q
    · exact False.elim <| (hp b a (by simpa using hb) (by simpa using ha) q) (by rw [List.getElem_map, List.getElem_map]; exact e.symm)
  rw [List.mem_eraseIdx_iff_getElem]
  constructor
  · rintro ⟨j, hj, hne, e⟩
    refine ⟨e ▸ List.getElem_mem hj, fun z => hne ?_⟩
    exact inj j i hj hi (by rw [e]; exact z)
  · rintro ⟨hm, hne⟩
    obtain ⟨j, hj, e⟩ := List.mem_iff_getElem.1 hm
    refine ⟨j, hj, fun z => hne ?_, e⟩
    subst z
    rw [e]

theorem exact_l2 {x : List S71} {L : List (Int × Int)} (h : Holds x L) {key : Int} (n : Nat) : ∀ (j : Nat) (there : Bool), j + n = L.length → (there = true ↔ ∃ i, ∃ hi : i < L.length, i < j ∧ L[i].1 = key) →
    Ev (fun k => spigotlaw14_ProbeExact.l2 k key true x (L.map Prod.fst) (L.map Prod.snd) there j) true := by
  have hl : L.length ≤ 12 := by have := h.count; have := h.valid.few; omega
  induction n with
  | zero =>
    intro j there hj ht
    have step : ∀ (r : Int × Int), Ev (fun k => probe_Find.f k x key) r → (((r.2 == 0) == there) = true) → (r.2 = 0 ∨ r.2 = 6) → Ev (fun k => spigotlaw14_ProbeExact.l2 k key true x (L.map Prod.fst) (L.map Prod.snd) there j) true := by
      intro r hr h1 h2
      refine Ev.step (fun k => ?_) (Ev.bind hr (f := fun _ bt420 => (if true = true then (if ((bt420.2 == 0) == there) = true then (if bt420.2 = 0 then (some true) else (some (bt420.2 == 6))) else (some false)) else (some false))) ?_)
      · rw [spigotlaw14_ProbeExact.l2, if_neg (by simp; omega)]
      · refine Ev.congr (fun k => ?_) (Ev.now _)
        rw [if_pos rfl, if_pos h1]
        rcases h2 with e | e
        · rw [if_pos e]
        · rw [if_neg (by omega), e]; rfl
    by_cases hh : ∃ p, Has x key p
    · obtain ⟨p, hp⟩ := hh
      have hm := (h.has key p).1 hp
      obtain ⟨i, hi, e⟩ := List.mem_iff_getElem.1 hm
      have : there = true := ht.2 ⟨i, hi, by omega, by rw [e]⟩
      refine step _ (ProbePlain.find_has h.valid hp) ?_ (Or.inl rfl)
      rw [this]; rfl
    · have hno : ∀ p, ¬ Has x key p := fun p hp => hh ⟨p, hp⟩
      have : there = false := by
        cases hb : there with
        | false => rfl
        | true =>
          obtain ⟨i, hi, _, e⟩ := ht.1 hb
          exact absurd ((h.has key L[i].2).2 (by rw [← e]; exact List.getElem_mem hi)) (hno _)
      refine step _ (ProbePlain.find_none h.valid hno) ?_ (Or.inr rfl)
      rw [this]; rfl
  | succ n ih =>
    intro j there hj ht
    have hjl : j < L.length := by omega
    have hhas : Has x L[j].1 L[j].2 := (h.has _ _).2 (List.getElem_mem hjl)
    have hr := ProbePlain.find_has h.valid hhas
    have cont : ∀ b : Bool, (b = true ↔ (there = true ∨ L[j].1 = key)) → Ev (fun k => spigotlaw14_ProbeExact.l2 k key true x (L.map Prod.fst) (L.map Prod.snd) b ((j : Int) + 1)) true := by
      intro b hb
      refine ih (j + 1) b (by omega) ?_
      rw [hb, ht]
      constructor
      · rintro (⟨i, hi, h1, h2⟩ | h2)
        · exact ⟨i, hi, by omega, h2⟩
        · exact ⟨j, hjl, by omega, h2⟩
      · rintro ⟨i, hi, h1, h2⟩
        by_cases q : i < j
        · exact Or.inl ⟨i, hi, q, h2⟩
        · have : i = j := by omega
          subst this
          exact Or.inr h2
    refine Ev.step (fun k => ?_) (Ev.bind hr (f := fun k bt416 => (if bt416.2 = 0 then (if (j : Int) < ((L.map Prod.snd).length : Int) then (if bt416.1 = (rd (L.map Prod.snd) j) then (if there = true then (spigotlaw14_ProbeExact.l2 k key true x (L.map Prod.fst) (L.map Prod.snd) true (wrap64 ((j : Int) + 1))) else (spigotlaw14_ProbeExact.l2 k key true x (L.map Prod.fst) (L.map Prod.snd) ((rd (L.map Prod.fst) j) == key) (wrap64 ((j : Int) + 1)))) else (some false)) else (none)) else (some false))) ?_)
    · rw [spigotlaw14_ProbeExact.l2, if_pos (by simp; omega), if_pos (by omega), rd_fst hjl]
    · by_cases q : there = true
      · refine Ev.congr (fun k => ?_) (cont true ⟨fun _ => Or.inl q, fun _ => rfl⟩)
        rw [if_pos rfl, if_pos (by simp; omega), if_pos (by rw [rd_snd hjl]), if_pos q, w0 (by omega) (by omega)]
      · refine Ev.congr (fun k => ?_) (cont (L[j].1 == key) (by rw [beq_iff_eq]; exact ⟨Or.inr, fun z => z.resolve_left q⟩))
        rw [if_pos rfl, if_pos (by simp; omega), if_pos (by rw [rd_snd hjl]), if_neg q, rd_fst hjl, w0 (by omega) (by omega)]

theorem exact_l0 {xs : List Int} (hx : xs.length ≤ 60) (hr : ∀ i : Nat, i < xs.length → 0 ≤ rd xs i ∧ rd xs i < 4294967296) {key : Int} (d : Nat) : ∀ (i : Nat) (x : List S71) (L : List (Int × Int)), i + d = xs.length → Holds x L →
    Ev (fun k => spigotlaw14_ProbeExact.l0 k xs key true x (L.map Prod.fst) (L.map Prod.snd) i) true := by
  induction d with
  | zero =>
    intro i x L hi h
    refine Ev.step (fun k => ?_) (exact_l2 (key := key) h L.length 0 false (by omega) (by simp))
    rw [spigotlaw14_ProbeExact.l0, if_neg (by omega)]; rfl
  | succ d ih =>
    intro i x L hi h
    have hl : L.length ≤ 12 := by have := h.count; have := h.valid.few; omega
    have hri := hr i (by omega)
    generalize hkey : rd xs (i : Int) = key1 at hri
    -- the loop over the keys
    have inner : ∀ (n j : Nat) (at_ : Int), j + n = L.length → ((at_ = -1 ∧ ∀ m (hm : m < L.length), m < j → L[m].1 ≠ key1) ∨ (∃ a : Nat, ∃ ha : a < L.length, at_ = a ∧ L[a].1 = key1)) →
        Ev (fun k => spigotlaw14_ProbeExact.l1 k xs key true x (L.map Prod.fst) (L.map Prod.snd) i at_ j) true := by
      intro n
      induction n with
      | zero =>
        intro j at_ hj hat
        rcases hat with ⟨rfl, hno⟩ | ⟨a, ha, rfl, hak⟩
        · -- a key that is not there
          have hnone : ∀ p, ¬ Has x key1 p := fun p hp => by
            obtain ⟨m, hm, e⟩ := List.mem_iff_getElem.1 ((h.has key1 p).1 hp)
            exact hno m hm (by omega) (by rw [e])
          have p0 : 0 ≤ Int.tmod (i : Int) 16 ∧ Int.tmod (i : Int) 16 < 16 := by rw [Int.tmod_eq_emod_of_nonneg (by omega)]; omega
          by_cases hfull : L.length = 12
          · obtain ⟨K1, h1⟩ : ∃ K, ∀ k, K ≤ k → probe_Put.f k x key1 (Int.tmod (i : Int) 16) = some ([], 18) := ProbePlain.put_full h.valid hnone p0.1 p0.2 (by have := h.count; omega)
            obtain ⟨K2, h2⟩ : ∃ K, ∀ k, K ≤ k → spigotlaw14_ProbeExact.l0 k xs key true x (L.map Prod.fst) (L.map Prod.snd) ((i + 1 : Nat) : Int) = some true := ih (i + 1) x L (by omega) h
            refine ProbePlain.Ev.succ (K1 + K2) fun k hk => ?_
            rw [spigotlaw14_ProbeExact.l1, if_neg (by simp; omega), if_neg (by omega), if_pos (by omega), if_pos (by omega), hkey, h1 k (by omega), Option.bind_some, if_pos (by simp [hfull]), if_pos rfl, w0 (by omega) (by omega)]
            exact h2 k (by omega)
          · obtain ⟨y, hput, vy, hy, cy⟩ := ProbePlain.put_ok h.valid hnone p0.1 p0.2 (by have := h.count; omega)
            have hl1 : (L ++ [(key1, Int.tmod (i : Int) 16)]).map Prod.fst = L.map Prod.fst ++ [key1] := by simp
            have hl2 : (L ++ [(key1, Int.tmod (i : Int) 16)]).map Prod.snd = L.map Prod.snd ++ [Int.tmod (i : Int) 16] := by simp
            have hnm : key1 ∉ L.map Prod.fst := by
              intro hm
              obtain ⟨⟨k', p'⟩, hm2, e⟩ := List.mem_map.1 hm
              have e : k' = key1 := e
              subst e
              exact hnone p' ((h.has _ _).2 hm2)
            have H' : Holds y (L ++ [(key1, Int.tmod (i : Int) 16)]) := by
              refine ⟨vy, by rw [cy, h.count]; simp, ?_, ?_, ?_⟩
              · rw [hl1, List.nodup_append]
                refine ⟨h.nodup, by simp, ?_⟩
                intro a ha b hb
                rw [List.mem_singleton] at hb
                subst hb
                exact fun z => hnm (z ▸ ha)
              · intro k p
                rw [hy, h.has, List.mem_append, List.mem_singleton, Prod.mk.injEq]
              · intro k p hm
                rw [List.mem_append, List.mem_singleton, Prod.mk.injEq] at hm
                rcases hm with hm | ⟨e, _⟩
                · exact h.keys k p hm
                · rw [e]; exact hri
            obtain ⟨K1, h1⟩ : ∃ K, ∀ k, K ≤ k → probe_Put.f k x key1 (Int.tmod (i : Int) 16) = some (y, 0) := hput
            obtain ⟨K2, h2⟩ : ∃ K, ∀ k, K ≤ k → spigotlaw14_ProbeExact.l0 k xs key true y ((L ++ [(key1, Int.tmod (i : Int) 16)]).map Prod.fst) ((L ++ [(key1, Int.tmod (i : Int) 16)]).map Prod.snd) ((i + 1 : Nat) : Int) = some true := ih (i + 1) y _ (by omega) H'
            obtain ⟨K3, h3⟩ : ∃ K, ∀ k, K ≤ k → spigotref14_Check.f k y = some 0 := H'.check
            obtain ⟨K4, h4⟩ : ∃ K, ∀ k, K ≤ k → spigotref14_Count.f k y = some (cnt y : Int) := ProbePlain.count_ev (by have := vy.len; omega)
            refine ProbePlain.Ev.succ (K1 + K2 + K3 + K4) fun k hk => ?_
            rw [spigotlaw14_ProbeExact.l1, if_neg (by simp; omega), if_neg (by omega), if_pos (by omega), if_pos (by omega), hkey, h1 k (by omega), Option.bind_some, if_neg (by simp; omega), if_pos rfl, if_pos (by simp; omega)]
            simp only [Option.bind_some]
            rw [if_pos (by simp; omega), h3 k (by omega), Option.bind_some, if_pos rfl, h4 k (by omega), Option.bind_some, if_pos (by rw [cy, h.count]; simp), w0 (by omega) (by omega)]
            rw [hl1, hl2] at h2
            exact h2 k (by omega)
        · -- a key that is there
          have hhas : Has x key1 L[a].2 := (h.has _ _).2 (by rw [← hak]; exact List.getElem_mem ha)
          obtain ⟨z, hd, vz, hz, cz⟩ := ProbePlain.drop_ok h.valid hhas
          have e1 : (L.map Prod.fst).take a ++ (L.map Prod.fst).drop (a + 1) = (L.eraseIdx a).map Prod.fst := by
            rw [List.eraseIdx_eq_take_drop_succ, List.map_append, List.map_take, List.map_drop]
          have e2 : (L.map Prod.snd).take a ++ (L.map Prod.snd).drop (a + 1) = (L.eraseIdx a).map Prod.snd := by
            rw [List.eraseIdx_eq_take_drop_succ, List.map_append, List.map_take, List.map_drop]
          have hlen : (L.eraseIdx a).length = L.length - 1 := by rw [List.length_eraseIdx, if_pos ha]
          have H' : Holds z (L.eraseIdx a) := by
            refine ⟨vz, by have := h.count; omega, ?_, ?_, ?_⟩
            · exact List.Nodup.sublist ((List.eraseIdx_sublist L a).map _) h.nodup
            · intro k p
              rw [hz, pairs_erase h.nodup ha, h.has, hak]
            · intro k p hm
              exact h.keys k p ((pairs_erase h.nodup ha k p).1 hm).1
          obtain ⟨K1, h1⟩ : ∃ K, ∀ k, K ≤ k → probe_Drop.f k x key1 = some (z, 0) := hd
          obtain ⟨K2, h2⟩ : ∃ K, ∀ k, K ≤ k → spigotlaw14_ProbeExact.l0 k xs key true z ((L.eraseIdx a).map Prod.fst) ((L.eraseIdx a).map Prod.snd) ((i + 1 : Nat) : Int) = some true := ih (i + 1) z _ (by omega) H'
          obtain ⟨K3, h3⟩ : ∃ K, ∀ k, K ≤ k → spigotref14_Check.f k z = some 0 := H'.check
          obtain ⟨K4, h4⟩ : ∃ K, ∀ k, K ≤ k → spigotref14_Count.f k z = some (cnt z : Int) := ProbePlain.count_ev (by have := vz.len; omega)
          refine ProbePlain.Ev.succ (K1 + K2 + K3 + K4) fun k hk => ?_
          have n1 : (((a : Int) + 1).toNat) = a + 1 := by omega
          have la : (L.map Prod.fst).length = L.length := by simp
          have lb : (L.map Prod.snd).length = L.length := by simp
          rw [spigotlaw14_ProbeExact.l1, if_neg (by simp; omega), if_pos (by omega), if_pos (by omega), if_pos (by omega), hkey, h1 k (by omega), Option.bind_some, if_pos rfl]
          simp only [Option.bind_some, List.nil_append, List.length_nil, w0 (i := (a : Int) + 1) (by omega) (by omega), Int.toNat_natCast, n1, e1, e2]
          rw [if_pos (by omega), if_pos (by omega), if_pos (by rw [List.length_take]; omega), if_pos (by omega), if_pos (by omega), if_pos (by rw [List.length_take, List.length_drop]; omega),
            if_pos (by omega), if_pos (by rw [List.length_take]; omega), if_pos (by omega), if_pos (by rw [List.length_take, List.length_drop]; omega), h3 k (by omega), Option.bind_some, if_pos rfl, h4 k (by omega), Option.bind_some,
            if_pos (by rw [List.length_map, hlen]; have := h.count; omega), w0 (by omega) (by omega)]
          exact h2 k (by omega)
      | succ n ihn =>
        intro j at_ hj hat
        have hjl : j < L.length := by omega
        by_cases e : L[j].1 = key1
        · refine Ev.step (fun k => ?_) (ihn (j + 1) j (by omega) (Or.inr ⟨j, hjl, rfl, e⟩))
          rw [spigotlaw14_ProbeExact.l1, if_pos (by simp; omega), if_pos (by omega), if_pos (by omega), if_pos (by omega), hkey, rd_fst hjl, if_pos e, w0 (by omega) (by omega)]; rfl
        · refine Ev.step (fun k => ?_) (ihn (j + 1) at_ (by omega) ?_)
          · rw [spigotlaw14_ProbeExact.l1, if_pos (by simp; omega), if_pos (by omega), if_pos (by omega), if_pos (by omega), hkey, rd_fst hjl, if_neg e, w0 (by omega) (by omega)]; rfl
          · rcases hat with ⟨ha, hno⟩ | hyes
            · refine Or.inl ⟨ha, fun m hm hmj => ?_⟩
              by_cases q : m < j
              · exact hno m hm q
              · have : m = j := by omega
                subst this
                exact e
            · exact Or.inr hyes
    refine Ev.step (fun k => ?_) (inner L.length 0 (-1) (by omega) (Or.inl ⟨rfl, fun m _ hm => by omega⟩))
    rw [spigotlaw14_ProbeExact.l0, if_pos (by omega)]; rfl

theorem rd_new (i : Int) : rd_T71 (List.replicate 16 z71) i = z71 := by
  unfold rd_T71
  rw [List.getD_eq_getElem?_getD, List.getElem?_replicate]
  split <;> rfl
theorem new_holds : Holds (List.replicate 16 z71) [] where
  valid := {
    len := by simp
    few := by decide
    zero := fun i _ _ _ => by rw [rd_new]; exact ⟨rfl, rfl⟩
    place := fun i _ _ h => by rw [rd_new] at h; exact absurd h (by decide)
    uniq := fun i j _ _ _ _ h => by rw [rd_new] at h; exact absurd h (by decide)
    path := fun i _ _ h => by rw [rd_new] at h; exact absurd h (by decide) }
  count := by decide
  nodup := by simp
  has := fun k p => by
    constructor
    · rintro ⟨m, _, _, h, _⟩
      rw [rd_new] at h; exact absurd h (by decide)
    · intro h; simp at h
  keys := fun k p h => by simp at h

theorem ProbeExact : spigotlaw14_ProbeExact.Pure := by
  intro xs key hx _
  obtain ⟨K0, h0⟩ : ∃ K, ∀ k, K ≤ k → spigotlaw14_alive.f k = some true := exact_alive
  by_cases hlen : (xs.length : Int) > 60
  · refine ⟨K0, ?_⟩
    unfold spigotlaw14_ProbeExact.f
    rw [h0 _ (by omega), Option.bind_some, if_pos rfl, if_pos hlen]
  · have hr : ∀ i : Nat, i < xs.length → 0 ≤ rd xs i ∧ rd xs i < 4294967296 := by
      intro i hi
      rw [exact_rd hi]
      exact ProbePlain.u32_wf (hx.1 _ (List.getElem_mem hi))
    obtain ⟨K1, h1⟩ : ∃ K, ∀ k, K ≤ k → spigotlaw14_ProbeExact.l0 k xs key true (List.replicate 16 z71) [] [] ((0 : Nat) : Int) = some true := exact_l0 (by omega) hr xs.length 0 _ [] (by omega) new_holds
    refine ⟨K0 + K1, ?_⟩
    unfold spigotlaw14_ProbeExact.f probe_New.f
    rw [h0 _ (by omega), Option.bind_some, if_pos rfl, if_neg hlen, if_pos (by omega), Option.bind_some]
    exact h1 _ (by omega)
end Go.Proofs.Ytlgfopdindklnaa.Pure

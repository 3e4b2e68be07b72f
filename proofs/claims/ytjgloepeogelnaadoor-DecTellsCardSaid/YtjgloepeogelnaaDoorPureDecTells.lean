/- Texts, digits, the natural of a text, and powers of ten are those of the reference: over numbers and lists alone. No condition beyond the statement's own. -/
import Derived.Test.YtjgloepeogelnaaDoorPrx21
import Derived.OpenShut
namespace Go.Proofs.YtjgloepeogelnaaDoor.Pure
open Go.RowKit Go.Proofs.YtjgloepeogelnaaDoor.Pr Go.Proofs.YtjgloepeogelnaaDoorW.PrintWords Go.Proofs.YtjgloepeogelnaaDoorW.PrintLast
theorem rng_of_wf {l : List Int} (h : ∀ x ∈ l, (Lit.int .u32 x).wf = true) : Nums.rng l = true := by
  unfold Nums.rng
  rw [List.all_eq_true]
  intro x hx
  have := bounds_u32 (h x hx)
  simp
  omega
theorem big_gen (c n : Nat) (h : 10 * c ≤ n) : 4294967296 ^ c ≤ 10 ^ n := Nat.le_trans (Nums.pow_pow_le 4294967296 10 10 c (by decide)) (Nums.pow_le_gen 10 (10 * c) n (by decide) h)
theorem big_ten (n : Nat) (h : 1099511627776 ≤ n) : Nums.lim (10 ^ n) = [] := Nums.lim_big (Nat.not_lt.2 (big_gen 65536 n (by omega)))
/-- What comes of any number, by the program and by the reference. -/
theorem tens (a2 : Int) (h : a2 ≤ 3000) : ∃ r : List Int, r.length ≤ 65536 ∧ Nums.Ev (fun k => dec_Ten.f k a2) r ∧ Nums.Ev (fun k => alidaderef04_Ten.f k a2) r := by
  by_cases h0 : a2 < 0
  · refine ⟨[], by decide, ?_, ?_⟩
    · have h1 := nat_Of_ev 10 (by decide) (by decide)
      refine Nums.Ev.bind (f := fun k => nat_Of.f k 10) h1 (Nums.Ev.bind (f := fun k => mul_Pow.f k (Nums.toL (10 : Int).toNat) a2) (r := []) (Nums.Ev.now fun k => ?_) (Nums.Ev.some _))
      have hm : Nums.may (Nums.toL (10 : Int).toNat) = true := Nums.may_toL (Nat.lt_of_lt_of_le (show (10 : Int).toNat < 4294967296 ^ 1 by decide) (Nums.pow_le_gen 4294967296 1 65536 (by decide) (by decide)))
      unfold mul_Pow.f
      rw [nat_May_eq, hm, Option.bind_some, if_pos rfl, if_pos h0, mul_Pow.j0, if_pos rfl]
    · refine Nums.Ev.bind (f := fun k => alidaderef02_Pow.f k [10] a2) (r := []) (Nums.Ev.now fun k => ?_) (Nums.Ev.some _)
      unfold alidaderef02_Pow.f
      rw [ref_May_eq [10] (by decide), show Nums.may [10] = true by decide, Option.bind_some, if_pos rfl, decide_eq_true h0, alidaderef02_Pow.j0, if_pos rfl]
  · obtain ⟨n, rfl⟩ := Int.eq_ofNat_of_zero_le (show 0 ≤ a2 by omega)
    exact ⟨Nums.lim (10 ^ n), (Nums.may_iff.1 (Nums.may_lim _)).1, dec_Ten_ev 65536 mul_tells n (by omega) (.inr (Nat.le_refl _)), ref_Ten_ev n (by omega)⟩
theorem empty_bytes : ByteArray.empty.data.toList = [] := rfl
theorem DecTells : alidadelaw04_DecTells.Pure := by
  intro l0 a1 a2 _ _ hw _ hwf
  have hr := rng_of_wf hw
  have ha2 := bounds_i64 hwf
  have hW := works_ev
  refine Nums.Ev.get (r := true) ?_
  have hT : Nums.Ev (fun k => alidadelaw04_DecTells.j0 k l0 a1 a2 true) true := by
    refine Nums.Ev.succ (g := fun k => (alidadelaw04_works.f k).bind fun t => some t) (Nums.Ev.bind (f := fun k => alidadelaw04_works.f k) hW (Nums.Ev.some _)) fun k => ?_
    rw [alidadelaw04_DecTells.j0, if_pos rfl]
  by_cases g1 : (l0.length : Int) > 300
  · refine hT.congr fun k => ?_
    unfold alidadelaw04_DecTells.f
    rw [if_pos g1]
  by_cases g2 : (a1.size : Int) > 3000
  · refine hT.congr fun k => ?_
    unfold alidadelaw04_DecTells.f
    rw [if_neg g1, if_pos g2]
  by_cases g3 : a2 > 3000 ∧ a2 < 1099511627776
  · refine hT.congr fun k => ?_
    unfold alidadelaw04_DecTells.f
    rw [if_neg g1, if_neg g2, if_pos g3.1, decide_eq_true g3.2]
  have hf : ∀ k, alidadelaw04_DecTells.f k l0 a1 a2 = alidadelaw04_DecTells.j0 k l0 a1 a2 false := by
    intro k
    unfold alidadelaw04_DecTells.f
    rw [if_neg g1, if_neg g2]
    by_cases h3 : a2 > 3000
    · rw [if_pos h3, decide_eq_false (fun h => g3 ⟨h3, h⟩)]
    · rw [if_neg h3]
  have hsame0 := (same_ev l0 l0 (by omega)).cast (decide_eq_true rfl)
  -- behind the rounds
  have hlast : ∀ (t : ByteArray) (i : Int), ¬ i < 2 → Nums.Ev (fun k => alidadelaw04_DecTells.l0 k l0 a1 a2 l0 t i) true := by
    intro t i hi
    have hend : Nums.Ev (fun k => (alidadelaw04_same.f k l0 l0).bind fun t383 => (if t383 = true then ((alidadelaw04_works.f k).bind fun t384 => (some t384)) else (some false))) true := by
      refine Nums.Ev.bind (f := fun k => alidadelaw04_same.f k l0 l0) hsame0 ?_
      simp only [if_true]
      exact Nums.Ev.bind (f := fun k => alidadelaw04_works.f k) hW (Nums.Ev.some _)
    by_cases h4 : a2 < 1099511627776
    · refine hend.succ fun k => ?_
      rw [alidadelaw04_DecTells.l0, if_neg hi, if_pos h4]
    · obtain ⟨n, hn⟩ := Int.eq_ofNat_of_zero_le (show 0 ≤ a2 by omega)
      have ht := dec_Ten_ev 65536 mul_tells n (by omega) (.inr (Nat.le_refl _))
      rw [big_ten n (by omega), ← hn] at ht
      refine Nums.Ev.succ (g := fun k => (dec_Ten.f k a2).bind fun t385 => (if (t385.length : Int) = 0 then ((alidadelaw04_same.f k l0 l0).bind fun t388 => (if t388 = true then ((alidadelaw04_works.f k).bind fun t389 => (some t389)) else (some false))) else (some false))) (Nums.Ev.bind (f := fun k => dec_Ten.f k a2) ht ?_) fun k => ?_
      · simp only [if_pos (show (([] : List Int).length : Int) = 0 from rfl)]
        exact hend
      · rw [alidadelaw04_DecTells.l0, if_neg hi, if_neg h4]
  -- the parts of a round that do not turn on the natural
  have hP := dec_Parse_eq a1 (by omega)
  have hRP := ref_Parse_ev a1 (by omega)
  obtain ⟨PR, hPR⟩ : ∃ PR : List Int × Int, (if Nums.good a1.data.toList = true then (if Nums.num a1.data.toList < 4294967296 ^ 65536 then (Nums.toL (Nums.num a1.data.toList), 0) else ([], 40)) else ([], 4)) = PR := ⟨_, rfl⟩
  have hPl : PR.1.length ≤ 65536 := by
    rw [← hPR]
    split
    · split
      · rename_i h; exact (Nums.may_iff.1 (Nums.may_toL h)).1
      · exact Nat.zero_le _
    · exact Nat.zero_le _
  rw [hPR] at hP hRP
  clear hPR
  have hsP := (same_ev PR.1 PR.1 (by omega)).cast (decide_eq_true rfl)
  obtain ⟨s1, hs1⟩ := spoil_any PR.1 (by omega)
  have hj3 : ∀ (t : ByteArray) (c : List Int) (i : Int), 0 ≤ i → i < 2 → c.length ≤ 65536 → Nums.Ev (fun k => alidadelaw04_DecTells.l0 k l0 a1 a2 l0 t (i + 1)) true → Nums.Ev (fun k => alidadelaw04_DecTells.j3 k l0 a1 a2 l0 t i PR.1 c false) true := by
    intro t c i hi0 hi hc hnext
    obtain ⟨s2, hs2⟩ := spoil_any c (by omega)
    have hw1 : wrap64 (i + 1) = i + 1 := by unfold wrap64; omega
    have htail : Nums.Ev (fun k => (alidadelaw04_spoil.f k PR.1).bind fun t412 => ((alidadelaw04_spoil.f k c).bind fun t413 => (alidadelaw04_DecTells.l0 k l0 a1 a2 l0 t (i + 1)))) true :=
      Nums.Ev.bind (f := fun k => alidadelaw04_spoil.f k PR.1) hs1 (Nums.Ev.bind (f := fun k => alidadelaw04_spoil.f k c) hs2 hnext)
    by_cases h5 : a2 ≤ 3000
    · obtain ⟨r, hrl, t1, t2⟩ := tens a2 h5
      obtain ⟨s3, hs3⟩ := spoil_any r (by omega)
      have ht3 : Nums.Ev (fun k => (alidadelaw04_same.f k r r).bind fun t410 => (if t410 = true then ((alidadelaw04_spoil.f k r).bind fun t411 => ((alidadelaw04_spoil.f k PR.1).bind fun t412 => ((alidadelaw04_spoil.f k c).bind fun t413 => (alidadelaw04_DecTells.l0 k l0 a1 a2 l0 t (i + 1))))) else (some false))) true := by
        refine Nums.Ev.bind (f := fun k => alidadelaw04_same.f k r r) ((same_ev r r (by omega)).cast (decide_eq_true rfl)) ?_
        simp only [if_true]
        exact Nums.Ev.bind (f := fun k => alidadelaw04_spoil.f k r) hs3 htail
      refine Nums.Ev.succ (g := fun k => (dec_Ten.f k a2).bind fun t404 => ((alidaderef04_Ten.f k a2).bind fun t407 => ((alidadelaw04_same.f k t404 t407).bind fun t410 => (if t410 = true then ((alidadelaw04_spoil.f k t404).bind fun t411 => ((alidadelaw04_spoil.f k PR.1).bind fun t412 => ((alidadelaw04_spoil.f k c).bind fun t413 => (alidadelaw04_DecTells.l0 k l0 a1 a2 l0 t (i + 1))))) else (some false))))) (Nums.Ev.bind (f := fun k => dec_Ten.f k a2) t1 (Nums.Ev.bind (f := fun k => alidaderef04_Ten.f k a2) t2 ht3)) fun k => ?_
      rw [alidadelaw04_DecTells.j3, if_neg (by decide), if_pos h5, hw1]
    · refine htail.succ fun k => ?_
      rw [alidadelaw04_DecTells.j3, if_neg (by decide), if_neg h5, hw1]
  -- a round, by what is told of the natural's text
  have hround : ∀ (t : ByteArray) (C : List Int × Int), dec_Parse.f t = some C → C.1.length ≤ 65536 → (t.data.toList ≠ [] → C = (l0, 0)) → ∀ i : Int, 0 ≤ i → i < 2 → Nums.Ev (fun k => alidadelaw04_DecTells.l0 k l0 a1 a2 l0 t (i + 1)) true → Nums.Ev (fun k => alidadelaw04_DecTells.l0 k l0 a1 a2 l0 t i) true := by
    intro t C hC hCl hCt i hi0 hi hnext
    have h3 := hj3 t C.1 i hi0 hi hCl hnext
    refine Nums.Ev.succ (g := fun k => (alidaderef04_Parse.f k a1).bind fun bt394 => ((alidadelaw04_same.f k PR.1 bt394.1).bind fun t402 => (if t402 = true then (if PR.2 = bt394.2 then (if t.toList = ([] : List UInt8) then (alidadelaw04_DecTells.j3 k l0 a1 a2 l0 t i PR.1 C.1 false) else ((alidadelaw04_same.f k C.1 l0).bind fun t403 => (if t403 = true then (alidadelaw04_DecTells.j3 k l0 a1 a2 l0 t i PR.1 C.1 (C.2 != 0)) else (alidadelaw04_DecTells.j3 k l0 a1 a2 l0 t i PR.1 C.1 true)))) else (alidadelaw04_DecTells.j3 k l0 a1 a2 l0 t i PR.1 C.1 true)) else (alidadelaw04_DecTells.j3 k l0 a1 a2 l0 t i PR.1 C.1 true)))) ?_ fun k => ?_
    · refine Nums.Ev.bind (f := fun k => alidaderef04_Parse.f k a1) hRP (Nums.Ev.bind (f := fun k => alidadelaw04_same.f k PR.1 PR.1) hsP ?_)
      simp only [if_true, Lib.toList_data]
      by_cases ht : t.data.toList = []
      · simp only [if_pos ht]
        exact h3
      · simp only [if_neg ht]
        have hCC := hCt ht
        subst hCC
        refine Nums.Ev.bind (f := fun k => alidadelaw04_same.f k l0 l0) hsame0 ?_
        simp only [if_true]
        exact h3
    · rw [alidadelaw04_DecTells.l0, if_pos hi, hP, Option.bind_some, hC]
      rfl
  have hall : ∀ (t : ByteArray) (C : List Int × Int), dec_Parse.f t = some C → C.1.length ≤ 65536 → (t.data.toList ≠ [] → C = (l0, 0)) → Nums.Ev (fun k => alidadelaw04_DecTells.l0 k l0 a1 a2 l0 t 0) true := by
    intro t C hC hCl hCt
    exact hround t C hC hCl hCt 0 (by decide) (by decide) (hround t C hC hCl hCt 1 (by decide) (by decide) (hlast t 2 (by decide)))
  have hfin : ∀ (t : ByteArray) (C : List Int × Int), Nums.Ev (fun k => alidaderef04_Show.f k l0) t → dec_Show.f l0 = some t → dec_Parse.f t = some C → C.1.length ≤ 65536 → (t.data.toList ≠ [] → C = (l0, 0)) → Nums.Ev (fun k => alidadelaw04_DecTells.f k l0 a1 a2) true := by
    intro t C hrs hs hC hCl hCt
    have h := hall t C hC hCl hCt
    have hj1 : Nums.Ev (fun k => alidadelaw04_DecTells.j1 k l0 a1 a2 l0 t false) true := h.succ fun k => by rw [alidadelaw04_DecTells.j1, if_neg (by decide)]
    have hll : ([] : List Int).length + l0.length < 35184372088832 := by simp; omega
    refine Nums.Ev.succ (g := fun k => (alidaderef04_Show.f k l0).bind fun t380 => ((dec_Show.f l0).bind fun t381 => (if t381.toList = t380.toList then ((dec_Digits.f l0).bind fun t382 => (alidadelaw04_DecTells.j1 k l0 a1 a2 l0 t380 (t382 != (t380.size : Int)))) else (alidadelaw04_DecTells.j1 k l0 a1 a2 l0 t380 true)))) (Nums.Ev.bind (f := fun k => alidaderef04_Show.f k l0) hrs ?_) fun k => ?_
    · refine hj1.congr fun k => ?_
      unfold dec_Digits.f
      rw [hs]
      simp only [Option.bind_some, if_true]
      rw [show ((t.size : Int) != (t.size : Int)) = false from by simp]
    · rw [hf, alidadelaw04_DecTells.j0, if_neg (by decide), Option.bind_some, if_pos hll]
      rfl
  cases hm : Nums.may l0 with
  | true =>
    obtain ⟨v1, v2⟩ := Nums.may_val hr hm
    have hlen : (Nums.deci (Nums.val l0)).length ≤ 3200 := by
      rw [Nums.deci_len_le (by decide)]
      exact Nat.lt_of_lt_of_le (Nums.val_lt hr) (Nat.le_trans (Nums.pow_pow_le 4294967296 10 10 l0.length (by decide)) (Nums.pow_le_gen 10 (10 * l0.length) 3200 (by decide) (by omega)))
    have hsz := bytes_size (Nums.deci (Nums.val l0))
    have hPP := dec_Parse_eq ⟨(Nums.deci (Nums.val l0)).toArray⟩ (by omega)
    rw [if_pos (Nums.deci_good _), Nums.num_deci, if_pos v2, v1] at hPP
    exact hfin _ (l0, 0) (ref_Show_ev l0 hr hm (by omega)) (dec_Show_eq l0 hr hm) hPP (by show l0.length ≤ 65536; omega) (fun _ => rfl)
  | false =>
    exact hfin ByteArray.empty ([], 4) (ref_Show_no l0 hr hm) (dec_Show_no l0 hr hm) (dec_Parse_eq ByteArray.empty (by decide)) (Nat.zero_le _) (fun h => absurd empty_bytes h)

end Go.Proofs.YtjgloepeogelnaaDoor.Pure

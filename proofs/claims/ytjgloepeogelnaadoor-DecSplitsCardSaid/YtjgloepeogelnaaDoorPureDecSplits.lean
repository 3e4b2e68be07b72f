/- The digits of a natural, parted, are those of the reference: over numbers and lists alone. No condition beyond the statement's own. -/
import Derived.Test.YtjgloepeogelnaaDoorPrx21
import Derived.OpenShut
namespace Go.Proofs.YtjgloepeogelnaaDoor.Pure
open Go.RowKit Go.Proofs.YtjgloepeogelnaaDoor.Pr Go.Proofs.YtjgloepeogelnaaDoorW.PrintWords Go.Proofs.YtjgloepeogelnaaDoorW.PrintLast
theorem rng_of_wf {l : List Int} (h : ∀ x ∈ l, (Lit.int .u32 x).wf = true) : Nums.rng l = true := by
  unfold Nums.rng
  rw [List.all_eq_true]
  intro x hx
  have := bounds_u32 (h x hx)
  simp
  omega
theorem dig_take {l : List UInt8} (h : Nums.allDig l = true) (k : Nat) : Nums.allDig (l.take k) = true := Nums.allDig_iff.2 fun b hb => Nums.allDig_iff.1 h b (List.mem_of_mem_take hb)
theorem dig_drop {l : List UInt8} (h : Nums.allDig l = true) (k : Nat) : Nums.allDig (l.drop k) = true := Nums.allDig_iff.2 fun b hb => Nums.allDig_iff.1 h b (List.mem_of_mem_drop hb)
theorem good_take {l : List UInt8} {k : Nat} (h : Nums.good l = true) (hk : 0 < k) : Nums.good (l.take k) = true := by
  obtain ⟨h1, h2, h3⟩ := Nums.good_iff.1 h
  cases l with
  | nil => exact absurd rfl h1
  | cons x xs =>
    obtain ⟨j, rfl⟩ : ∃ j, k = j + 1 := ⟨k - 1, by omega⟩
    refine Nums.good_iff.2 ⟨by simp, ?_, dig_take h3 _⟩
    rcases h2 with h2 | h2
    · left; exact h2
    · right
      have : xs = [] := List.length_eq_zero_iff.1 (by simpa using h2)
      subst this
      simp
theorem num_split (l : List UInt8) (p : Nat) : Nums.num l = Nums.num (l.take p) * 10 ^ (l.drop p).length + Nums.num (l.drop p) := by
  rw [← Nums.num_append, List.take_append_drop]
theorem extract_low (t : ByteArray) (j : Nat) : (t.extract 0 j).data.toList = t.data.toList.take j := by
  rw [ByteArray.data_extract, Array.toList_extract, List.extract_eq_take_drop, List.drop_zero, Nat.sub_zero]
/-- The reference's low part: behind the 0s. -/
theorem ref_low (s : ByteArray) (H : List Int) (hs : s.size ≤ 140737488355328) (hd : Nums.allDig s.data.toList = true) (hb : ∀ p, Nums.num (s.data.toList.drop p) < 4294967296 ^ 65536) :
    ∀ (d p : Nat), p + d = s.size → Nums.Ev (fun k => alidaderef04_Split.l0 k s H (p : Int)) (H, Nums.toL (Nums.num (s.data.toList.drop p))) := by
  obtain ⟨M, hM⟩ : ∃ M, 4294967296 ^ 65536 = M := ⟨_, rfl⟩
  have hP := ref_Parse_ev
  rw [hM] at hb hP
  clear hM
  have hsz : s.data.toList.length = s.size := by rw [Array.length_toList]; rfl
  intro d
  induction d with
  | zero =>
    intro p hp
    refine Nums.Ev.now fun k => ?_
    rw [alidaderef04_Split.l0, if_neg (by omega), if_pos (by omega), List.drop_of_length_le (by omega), Nums.num_nil, Nums.toL_zero]
  | succ d ih =>
    intro p hp
    have hlt : p < s.data.toList.length := by omega
    have hw : wrap64 ((p : Int) + 1) = ((p + 1 : Nat) : Int) := by unfold wrap64; omega
    have hbt := bt_at_nat s p hlt
    have hcons : s.data.toList.drop p = s.data.toList[p] :: s.data.toList.drop (p + 1) := List.drop_eq_getElem_cons hlt
    by_cases h48 : bt s (p : Int) = 48
    · have hn : Nums.num (s.data.toList.drop p) = Nums.num (s.data.toList.drop (p + 1)) := by
        rw [hcons, show s.data.toList[p] :: s.data.toList.drop (p + 1) = [s.data.toList[p]] ++ s.data.toList.drop (p + 1) from rfl, Nums.num_append, Nums.num_one]
        rw [hbt] at h48
        rw [show s.data.toList[p].toNat - 48 = 0 by omega, Nat.zero_mul, Nat.zero_add]
      rw [hn]
      refine (ih (p + 1) (by omega)).succ fun k => ?_
      rw [alidaderef04_Split.l0, if_pos (by omega), if_pos (by omega), if_pos h48, hw]
    · have hgood : Nums.good (s.data.toList.drop p) = true := by
        refine Nums.good_iff.2 ⟨by rw [hcons]; simp, .inl ?_, dig_drop hd p⟩
        rw [hcons, List.head?_cons]
        intro e
        injection e with e
        rw [hbt, e] at h48
        exact h48 rfl
      have hpar := hP (s.extract p s.size) (by rw [ByteArray.size_extract]; omega)
      rw [Nums.extract_toList, if_pos hgood, if_pos (hb p)] at hpar
      refine Nums.Ev.succ (g := fun k => (alidaderef04_Parse.f k (s.extract p s.size)).bind fun bt349 => (some (H, bt349.1))) (Nums.Ev.bind (f := fun k => alidaderef04_Parse.f k (s.extract p s.size)) hpar (Nums.Ev.some _)) fun k => ?_
      rw [alidaderef04_Split.l0, if_pos (by omega), if_pos (by omega), if_neg h48, if_neg (by omega), if_pos (by omega), Int.toNat_natCast]
theorem ref_split_ev (l : List Int) (n : Nat) (hr : Nums.rng l = true) (hm : Nums.may l = true) (hl : l.length ≤ 300) : Nums.Ev (fun k => alidaderef04_Split.f k l (n : Int)) (Nums.toL (Nums.val l / 10 ^ n), Nums.toL (Nums.val l % 10 ^ n)) := by
  obtain ⟨v1, v2⟩ := Nums.may_val hr hm
  have hS := ref_Show_ev l hr hm hl
  have hlow := ref_low
  have hP := ref_Parse_ev
  have hlen : (Nums.deci (Nums.val l)).length ≤ 3200 := by
    rw [Nums.deci_len_le (by decide)]
    exact Nat.lt_of_lt_of_le (Nums.val_lt hr) (Nat.le_trans (Nums.pow_pow_le 4294967296 10 10 l.length (by decide)) (Nums.pow_le_gen 10 (10 * l.length) 3200 (by decide) (by omega)))
  obtain ⟨M, hM⟩ : ∃ M, 4294967296 ^ 65536 = M := ⟨_, rfl⟩
  rw [hM] at v2 hP hlow
  clear hM
  obtain ⟨v, hv⟩ : ∃ v, Nums.val l = v := ⟨_, rfl⟩
  rw [hv] at v1 v2 hS hlen ⊢
  have hg := Nums.deci_good v
  have hd := Nums.deci_dig v
  have hnum := Nums.num_deci v
  have hpos := Nums.deci_pos v
  have hle := fun m (h : 0 < m) => @Nums.deci_len_le v m h
  obtain ⟨D, hD⟩ : ∃ D, Nums.deci v = D := ⟨_, rfl⟩
  rw [hD] at hS hlen hg hd hnum hpos hle
  clear hD
  have hsz : (⟨D.toArray⟩ : ByteArray).size = D.length := bytes_size D
  refine Nums.Ev.bind (f := fun k => alidaderef04_Show.f k l) hS ?_
  simp only [Lib.toList_data, if_neg (show ¬ D = [] from fun e => by rw [e] at hpos; exact absurd hpos (by decide)), decide_eq_false (show ¬ (n : Int) < 0 by omega)]
  have hll : ([] : List Int).length + l.length < 35184372088832 := by simp; omega
  by_cases hn : D.length ≤ n
  · have hvn : v < 10 ^ n := (hle n (by omega)).1 hn
    rw [Nat.div_eq_of_lt hvn, Nat.mod_eq_of_lt hvn, Nums.toL_zero, v1]
    refine Nums.Ev.now fun k => ?_
    rw [alidaderef04_Split.j0, if_neg (by decide), if_pos (by rw [hsz]; omega), Option.bind_some, if_pos hll]
    rfl
  · have hw : wrap64 ((D.length : Int) - (n : Int)) = ((D.length - n : Nat) : Int) := by unfold wrap64; omega
    have hsp := num_split D (D.length - n)
    have hdl : (D.drop (D.length - n)).length = n := by rw [List.length_drop]; omega
    have hlt := Nums.num_lt_dig (dig_drop hd (D.length - n))
    rw [hdl] at hsp hlt
    rw [hnum] at hsp
    have e1 : v / 10 ^ n = Nums.num (D.take (D.length - n)) := by
      rw [hsp, Nat.add_comm, Nat.add_mul_div_right _ _ (Nat.pow_pos (by decide)), Nat.div_eq_of_lt hlt, Nat.zero_add]
    have e2 : v % 10 ^ n = Nums.num (D.drop (D.length - n)) := by
      rw [hsp, Nat.add_comm, Nat.add_mul_mod_self_right, Nat.mod_eq_of_lt hlt]
    have hb : ∀ p, Nums.num (D.drop p) < M := fun p => by
      have h := num_split D p
      rw [hnum] at h
      exact Nat.lt_of_le_of_lt (by omega) v2
    have hb2 : Nums.num (D.take (D.length - n)) < M := Nat.lt_of_le_of_lt (by rw [← e1]; exact Nat.div_le_self _ _) v2
    have hpar := hP ((⟨D.toArray⟩ : ByteArray).extract 0 (D.length - n)) (by rw [ByteArray.size_extract, hsz]; omega)
    rw [extract_low, if_pos (good_take hg (by omega)), if_pos hb2] at hpar
    have hl0 := hlow ⟨D.toArray⟩ (Nums.toL (Nums.num (D.take (D.length - n)))) (by rw [hsz]; omega) hd hb n (D.length - n) (by rw [hsz]; omega)
    rw [e1, e2]
    refine Nums.Ev.succ (g := fun k => (alidaderef04_Parse.f k ((⟨D.toArray⟩ : ByteArray).extract 0 (D.length - n))).bind fun bt345 => (alidaderef04_Split.l0 k ⟨D.toArray⟩ bt345.1 ((D.length - n : Nat) : Int))) (Nums.Ev.bind (f := fun k => alidaderef04_Parse.f k ((⟨D.toArray⟩ : ByteArray).extract 0 (D.length - n))) hpar hl0) fun k => ?_
    rw [alidaderef04_Split.j0, if_neg (by decide), if_neg (by rw [hsz]; omega), hsz, hw, if_pos (by omega), if_pos (by omega), Int.toNat_natCast]
theorem divmod_tells (l : List Int) (T : Nat) (hr : Nums.rng l = true) (hm : Nums.may l = true) (h0 : 0 < T) (hm1 : Nums.may (Nums.toL T) = true) : div_DivMod.f l (Nums.toL T) = some (Nums.toL (Nums.val l / T), Nums.toL (Nums.val l % T), 0) := by
  unfold div_DivMod.f
  rw [hr, Nums.rng_toL, if_pos (show (true && true) = true from rfl), hm, hm1, if_pos (show (true && true) = true from rfl), Nums.val_toL, if_neg (fun e => by rw [Nums.toL_eq_nil] at e; omega)]
theorem dec_split_ev (l : List Int) (n : Nat) (hr : Nums.rng l = true) (hm : Nums.may l = true) (hn : n < 9223372036854775808) : Nums.Ev (fun k => dec_Split.f k l (n : Int)) (Nums.toL (Nums.val l / 10 ^ n), Nums.toL (Nums.val l % 10 ^ n)) :=
  dec_Split_ev 65536 mul_tells l n hr hm hn (.inr (Nat.le_refl _)) (fun h1 _ => divmod_tells l (10 ^ n) hr hm (Nat.pow_pos (by decide)) (Nums.may_toL h1))
/-- What comes of any natural and number, by the program and by the reference. -/
theorem splits (l : List Int) (a : Int) (hr : Nums.rng l = true) (ha : a < 9223372036854775808) (hl : l.length ≤ 300) : ∃ A B : List Int, A.length ≤ 300 ∧ B.length ≤ 300 ∧ Nums.Ev (fun k => dec_Split.f k l a) (A, B) ∧ Nums.Ev (fun k => alidaderef04_Split.f k l a) (A, B) := by
  cases hm : Nums.may l with
  | false =>
    refine ⟨[], [], Nat.zero_le _, Nat.zero_le _, Nums.Ev.now fun k => ?_, ?_⟩
    · unfold dec_Split.f
      rw [nat_May_eq, hm, Option.bind_some, if_neg (by decide), dec_Split.j0, if_pos rfl]
    · refine Nums.Ev.bind (f := fun k => alidaderef04_Show.f k l) (ref_Show_no l hr hm) ?_
      simp only [Lib.toList_data, if_true]
      exact Nums.Ev.now fun k => by rw [alidaderef04_Split.j0, if_pos rfl]
  | true =>
    by_cases h0 : a < 0
    · refine ⟨[], [], Nat.zero_le _, Nat.zero_le _, Nums.Ev.now fun k => ?_, ?_⟩
      · unfold dec_Split.f
        rw [nat_May_eq, hm, Option.bind_some, if_pos rfl, decide_eq_true h0, dec_Split.j0, if_pos rfl]
      · refine Nums.Ev.bind (f := fun k => alidaderef04_Show.f k l) (ref_Show_ev l hr hm hl) (Nums.Ev.now fun k => ?_)
        rw [decide_eq_true h0, ite_self, alidaderef04_Split.j0, if_pos rfl]
    · obtain ⟨n, rfl⟩ := Int.eq_ofNat_of_zero_le (show 0 ≤ a by omega)
      have hv := Nums.val_lt hr
      have hk : ∀ x : Nat, x ≤ Nums.val l → (Nums.toL x).length ≤ 300 := fun x hx => Nat.le_trans (Nums.len_toL_le.2 (Nat.lt_of_le_of_lt hx hv)) hl
      exact ⟨_, _, hk _ (Nat.div_le_self _ _), hk _ (Nat.mod_le _ _), dec_split_ev l n hr hm (by omega), ref_split_ev l n hr hm hl⟩
theorem DecSplits : alidadelaw04_DecSplits.Pure := by
  intro l0 a1 _ _ hw hwf
  have hr := rng_of_wf hw
  have ha := bounds_i64 hwf
  refine Nums.Ev.get (r := true) ?_
  have hW : Nums.Ev (fun k => (alidadelaw04_works.f k).bind fun t => some t) true := Nums.Ev.bind (f := fun k => alidadelaw04_works.f k) works_ev (Nums.Ev.some _)
  by_cases g1 : (l0.length : Int) > 300
  · refine hW.congr fun k => ?_
    unfold alidadelaw04_DecSplits.f
    rw [if_pos g1]
  obtain ⟨A, B, hA, hB, e1, e2⟩ := splits l0 a1 hr (by omega) (by omega)
  obtain ⟨sA, hsA⟩ := spoil_any A (by omega)
  obtain ⟨sB, hsB⟩ := spoil_any B (by omega)
  have hsame := fun (x : List Int) (h : x.length ≤ 300) => (same_ev x x (by omega)).cast (decide_eq_true rfl)
  have hend : Nums.Ev (fun k => alidadelaw04_DecSplits.l0 k l0 a1 l0 A B 2) true := by
    refine Nums.Ev.succ (g := fun k => (alidadelaw04_same.f k l0 l0).bind fun t370 => (if t370 = true then ((alidadelaw04_works.f k).bind fun t371 => (some t371)) else (some false))) (Nums.Ev.bind (f := fun k => alidadelaw04_same.f k l0 l0) (hsame l0 (by omega)) ?_) fun k => ?_
    · simp only [if_true]
      exact hW
    · rw [alidadelaw04_DecSplits.l0, if_neg (by decide)]
  have hround : ∀ i : Int, 0 ≤ i → i < 2 → Nums.Ev (fun k => alidadelaw04_DecSplits.l0 k l0 a1 l0 A B (i + 1)) true → Nums.Ev (fun k => alidadelaw04_DecSplits.l0 k l0 a1 l0 A B i) true := by
    intro i hi0 hi hnext
    have hw1 : wrap64 (i + 1) = i + 1 := by unfold wrap64; omega
    have hj : Nums.Ev (fun k => alidadelaw04_DecSplits.j1 k l0 a1 l0 A B i A B false) true := by
      refine Nums.Ev.succ (g := fun k => (alidadelaw04_spoil.f k A).bind fun t380 => ((alidadelaw04_spoil.f k B).bind fun t381 => (alidadelaw04_DecSplits.l0 k l0 a1 l0 A B (i + 1)))) (Nums.Ev.bind (f := fun k => alidadelaw04_spoil.f k A) hsA (Nums.Ev.bind (f := fun k => alidadelaw04_spoil.f k B) hsB hnext)) fun k => ?_
      rw [alidadelaw04_DecSplits.j1, if_neg (by decide), hw1]
    refine Nums.Ev.succ (g := fun k => (dec_Split.f k l0 a1).bind fun bt372 => ((alidadelaw04_same.f k bt372.1 A).bind fun t378 => (if t378 = true then ((alidadelaw04_same.f k bt372.2 B).bind fun t379 => (alidadelaw04_DecSplits.j1 k l0 a1 l0 A B i bt372.1 bt372.2 (!t379))) else (alidadelaw04_DecSplits.j1 k l0 a1 l0 A B i bt372.1 bt372.2 true)))) ?_ fun k => ?_
    · refine Nums.Ev.bind (f := fun k => dec_Split.f k l0 a1) e1 (Nums.Ev.bind (f := fun k => alidadelaw04_same.f k A A) (hsame A hA) ?_)
      simp only [if_true]
      refine Nums.Ev.bind (f := fun k => alidadelaw04_same.f k B B) (hsame B hB) ?_
      exact hj
    · rw [alidadelaw04_DecSplits.l0, if_pos hi]
  have hll : ([] : List Int).length + l0.length < 35184372088832 := by simp; omega
  refine Nums.Ev.congr (g := fun k => (alidaderef04_Split.f k l0 a1).bind fun bt364 => (alidadelaw04_DecSplits.l0 k l0 a1 l0 bt364.1 bt364.2 0)) (Nums.Ev.bind (f := fun k => alidaderef04_Split.f k l0 a1) e2 (hround 0 (by decide) (by decide) (hround 1 (by decide) (by decide) hend))) fun k => ?_
  unfold alidadelaw04_DecSplits.f
  rw [if_neg g1, Option.bind_some, if_pos hll]
  rfl

end Go.Proofs.YtjgloepeogelnaaDoor.Pure

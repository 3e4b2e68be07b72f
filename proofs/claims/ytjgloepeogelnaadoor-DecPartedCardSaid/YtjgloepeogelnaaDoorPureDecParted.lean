/- What is parted, put together, is the natural, and its text is the parts' texts: over numbers and lists alone. No condition beyond the statement's own. -/
import Derived.Test.YtjgloepeogelnaaDoorPrx17
import Derived.OpenShut
namespace Go.Proofs.YtjgloepeogelnaaDoor.Pure
open Go.RowKit Go.Proofs.YtjgloepeogelnaaDoor.Pr Go.Proofs.YtjgloepeogelnaaDoorW.PrintWords Go.Proofs.YtjgloepeogelnaaDoorW.PrintLast
theorem rng_of_wf {l : List Int} (h : ∀ x ∈ l, (Lit.int .u32 x).wf = true) : Nums.rng l = true := by
  unfold Nums.rng
  rw [List.all_eq_true]
  intro x hx
  have := bounds_u32 (h x hx)
  simp
  omega
theorem divmod_tells (l : List Int) (T : Nat) (hr : Nums.rng l = true) (hm : Nums.may l = true) (h0 : 0 < T) (hm1 : Nums.may (Nums.toL T) = true) : div_DivMod.f l (Nums.toL T) = some (Nums.toL (Nums.val l / T), Nums.toL (Nums.val l % T), 0) := by
  unfold div_DivMod.f
  rw [hr, Nums.rng_toL, if_pos (show (true && true) = true from rfl), hm, hm1, if_pos (show (true && true) = true from rfl), Nums.val_toL, if_neg (fun e => by rw [Nums.toL_eq_nil] at e; omega)]
theorem dec_split_ev (l : List Int) (n : Nat) (hr : Nums.rng l = true) (hm : Nums.may l = true) (hn : n < 9223372036854775808) : Nums.Ev (fun k => dec_Split.f k l (n : Int)) (Nums.toL (Nums.val l / 10 ^ n), Nums.toL (Nums.val l % 10 ^ n)) :=
  dec_Split_ev 65536 mul_tells l n hr hm hn (.inr (Nat.le_refl _)) (fun h1 _ => divmod_tells l (10 ^ n) hr hm (Nat.pow_pos (by decide)) (Nums.may_toL h1))
theorem dig_zeros (k : Nat) : Nums.allDig (List.replicate k 48) = true := Nums.allDig_iff.2 fun b hb => by rw [List.eq_of_mem_replicate hb]; decide
theorem head_app {a b : List UInt8} (h : a ≠ []) : (a ++ b).head? = a.head? := by
  cases a with
  | nil => exact absurd rfl h
  | cons x xs => rfl
/-- The text of a natural in two parts. -/
theorem deci_parts (v n : Nat) (hn : 0 < n) (h : v / 10 ^ n ≠ 0) : Nums.deci v = Nums.deci (v / 10 ^ n) ++ List.replicate (n - (Nums.deci (v % 10 ^ n)).length) 48 ++ Nums.deci (v % 10 ^ n) := by
  have hl : (Nums.deci (v % 10 ^ n)).length ≤ n := (Nums.deci_len_le hn).2 (Nat.mod_lt _ (Nat.pow_pos (by decide)))
  have hg : Nums.good (Nums.deci (v / 10 ^ n) ++ List.replicate (n - (Nums.deci (v % 10 ^ n)).length) 48 ++ Nums.deci (v % 10 ^ n)) = true := by
    refine Nums.good_iff.2 ⟨?_, .inl ?_, ?_⟩
    · rw [List.append_assoc]; exact List.append_ne_nil_of_left_ne_nil (Nums.deci_ne _) _
    · rw [List.append_assoc, head_app (Nums.deci_ne _)]; exact Nums.deci_head h
    · rw [Nums.allDig_append, Nums.allDig_append]; exact ⟨⟨Nums.deci_dig _, dig_zeros _⟩, Nums.deci_dig _⟩
  rw [← Nums.deci_num _ hg]
  congr 1
  rw [Nums.num_append, Nums.num_append, Nums.num_zeros, Nums.num_deci, Nums.num_deci, List.length_replicate, Nat.add_zero, Nat.mul_assoc, ← Nat.pow_add, Nat.sub_add_cancel hl]
  have := Nat.div_add_mod v (10 ^ n)
  rw [Nat.mul_comm] at this
  exact this.symm
theorem deci_times (v n : Nat) (h : v ≠ 0) : Nums.deci (v * 10 ^ n) = Nums.deci v ++ List.replicate n 48 := by
  have hg : Nums.good (Nums.deci v ++ List.replicate n 48) = true := by
    refine Nums.good_iff.2 ⟨List.append_ne_nil_of_left_ne_nil (Nums.deci_ne _) _, .inl ?_, ?_⟩
    · rw [head_app (Nums.deci_ne _)]; exact Nums.deci_head h
    · rw [Nums.allDig_append]; exact ⟨Nums.deci_dig _, dig_zeros _⟩
  rw [← Nums.deci_num _ hg]
  congr 1
  rw [Nums.num_append, Nums.num_zeros, Nums.num_deci, List.length_replicate, Nat.add_zero]
theorem copies_run (n : Nat) (hn : n ≤ 4000) : ∀ (d i : Nat) (t : ByteArray), i + d = n → t.size ≤ 100000 + i → Nums.Ev (fun k => alidadelaw04_copies.l0 k ⟨#[48]⟩ (n : Int) t (i : Int)) (t ++ ⟨(List.replicate d 48).toArray⟩) := by
  intro d
  induction d with
  | zero =>
    intro i t hi _
    refine Nums.Ev.now fun k => ?_
    rw [alidadelaw04_copies.l0, if_neg (by omega)]
    congr 1
    exact (ByteArray.append_empty).symm
  | succ d ih =>
    intro i t hi ht
    have hw : wrap64 ((i : Int) + 1) = ((i + 1 : Nat) : Int) := by unfold wrap64; omega
    have hs : (t ++ (⟨#[48]⟩ : ByteArray)).size = t.size + 1 := by rw [ByteArray.size_append]; rfl
    have he : t ++ (⟨#[48]⟩ : ByteArray) ++ ⟨(List.replicate d 48).toArray⟩ = t ++ ⟨(List.replicate (d + 1) 48).toArray⟩ := by
      rw [ByteArray.append_assoc]
      congr 1
    rw [← he]
    refine (ih (i + 1) (t ++ ⟨#[48]⟩) (by omega) (by omega)).succ fun k => ?_
    have hz : (⟨#[48]⟩ : ByteArray).size = 1 := rfl
    rw [alidadelaw04_copies.l0, if_pos (by omega), if_pos (by rw [hz]; omega), hw]
theorem copies_ev (n : Nat) (hn : n ≤ 4000) : Nums.Ev (fun k => alidadelaw04_copies.f k ⟨#[48]⟩ (n : Int)) ⟨(List.replicate n 48).toArray⟩ := by
  have h := copies_run n hn n 0 ⟨#[]⟩ (by omega) (by decide)
  have e : (⟨#[]⟩ : ByteArray) ++ ⟨(List.replicate n 48).toArray⟩ = ⟨(List.replicate n 48).toArray⟩ := ByteArray.empty_append
  rw [e] at h
  exact h
theorem app_list (a b : List UInt8) : (⟨a.toArray⟩ : ByteArray) ++ ⟨b.toArray⟩ = ⟨(a ++ b).toArray⟩ := by
  apply ByteArray.ext
  rw [ByteArray.data_append]
  simp
theorem pow_add_lt (b m n k : Nat) (hb : 1 < b) (h : m + n < k) : b ^ m * b ^ n < b ^ k := by rw [← Nat.pow_add]; exact Nat.pow_lt_pow_of_lt hb h
theorem DecParted : alidadelaw04_DecParted.Pure := by
  intro l0 a1 _ _ hw hwf
  have hr := rng_of_wf hw
  have ha := bounds_i64 hwf
  refine Nums.Ev.get (r := true) ?_
  have hj0 : Nums.Ev (fun k => alidadelaw04_DecParted.j0 k l0 a1 true) true :=
    Nums.Ev.succ (g := fun k => (alidadelaw04_works.f k).bind fun t => some t) (Nums.Ev.bind (f := fun k => alidadelaw04_works.f k) works_ev (Nums.Ev.some _)) fun k => by rw [alidadelaw04_DecParted.j0, if_pos rfl]
  refine Nums.Ev.bind (f := fun k => alidadelaw04_works.f k) works_ev ?_
  simp only [if_true]
  by_cases g1 : (l0.length : Int) > 300
  · simp only [if_pos g1]; exact hj0
  simp only [if_neg g1, nat_May_eq, Option.bind_some]
  cases hm : Nums.may l0 with
  | false => simp only [Bool.false_eq_true, if_false]; exact hj0
  | true =>
  simp only [if_true]
  by_cases g2 : a1 < 0
  · simp only [if_pos g2]; exact hj0
  simp only [if_neg g2]
  by_cases g3 : a1 > 2000
  · simp only [decide_eq_true g3]; exact hj0
  simp only [decide_eq_false g3]
  obtain ⟨n, rfl⟩ := Int.eq_ofNat_of_zero_le (show 0 ≤ a1 by omega)
  have hn : n ≤ 2000 := by omega
  have hll : l0.length ≤ 300 := by omega
  clear g1 g2 g3 hj0 hw hwf
  obtain ⟨v1, v2⟩ := Nums.may_val hr hm
  obtain ⟨c1, hc1⟩ : ∃ c : Nat, c = 300 := ⟨_, rfl⟩
  obtain ⟨c2, hc2⟩ : ∃ c : Nat, c = 2000 := ⟨_, rfl⟩
  have hv300 : Nums.val l0 < 4294967296 ^ c1 := Nat.lt_of_lt_of_le (Nums.val_lt hr) (Nums.pow_le_gen 4294967296 l0.length c1 (by decide) (by omega))
  have hten : 10 ^ n ≤ 4294967296 ^ c2 := Nat.le_trans (Nums.pow_le_gen 10 n c2 (by decide) (by omega)) (Nat.pow_le_pow_left (by decide) c2)
  have h2300 : c1 + c2 < 65536 := by omega
  have hbig : ∀ x : Nat, x ≤ 4294967296 ^ c1 * 4294967296 ^ c2 → x < 4294967296 ^ 65536 := fun x hx => Nat.lt_of_le_of_lt hx (pow_add_lt 4294967296 c1 c2 65536 (by decide) h2300)
  have hT0 : 0 < 10 ^ n := Nat.pow_pos (by decide)
  have hp300 : 0 < 4294967296 ^ c1 := Nat.pow_pos (by decide)
  have hp2000 : 0 < 4294967296 ^ c2 := Nat.pow_pos (by decide)
  have hS := dec_split_ev l0 n hr hm (by omega)
  have hTen := dec_Ten_ev 65536 mul_tells n (by omega) (.inr (Nat.le_refl _))
  have hlen : (Nums.deci (Nums.val l0)).length ≤ 3200 := by
    rw [Nums.deci_len_le (by decide)]
    exact Nat.lt_of_lt_of_le (Nums.val_lt hr) (Nat.le_trans (Nums.pow_pow_le 4294967296 10 10 l0.length (by decide)) (Nums.pow_le_gen 10 (10 * l0.length) 3200 (by decide) (by omega)))
  have hmulT : ∀ x : Nat, x ≤ 4294967296 ^ c1 → Nums.Ev (fun k => mul_Mul.f k (Nums.toL x) (Nums.toL (10 ^ n))) (Nums.toL (x * 10 ^ n)) := by
    intro x hx
    have h1 : x < 4294967296 ^ 65536 := hbig x (Nat.le_trans hx (Nat.le_mul_of_pos_right _ hp2000))
    have h2 : 10 ^ n < 4294967296 ^ 65536 := hbig _ (Nat.le_trans hten (Nat.le_mul_of_pos_left _ hp300))
    have h3 := mul_Mul_ev (Nums.toL x) (Nums.toL (10 ^ n)) (Nums.rng_toL _) (Nums.rng_toL _) (Nums.may_toL h1) (Nums.may_toL h2) (fun hle => mul_tells _ _ (Nums.rng_toL _) (Nums.rng_toL _) (Nums.may_toL h1) (Nums.may_toL h2) (.inl (Nums.may_iff.1 (Nums.may_toL h1)).1) hle)
    rw [Nums.val_toL, Nums.val_toL, Nums.lim_eq (hbig _ (Nat.mul_le_mul hx hten))] at h3
    exact h3
  rw [Nums.lim_eq (hbig _ (Nat.le_trans hten (Nat.le_mul_of_pos_left _ hp300)))] at hTen
  have hmayT := Nums.may_toL (hbig _ (Nat.le_trans hten (Nat.le_mul_of_pos_left _ hp300)))
  have hsmall : ∀ x : Nat, x ≤ Nums.val l0 → Nums.may (Nums.toL x) = true := fun x hx => Nums.may_toL (Nat.lt_of_le_of_lt hx v2)
  have hmul0 := hmulT (Nums.val l0 / 10 ^ n) (Nat.le_trans (Nat.div_le_self _ _) (Nat.le_of_lt hv300))
  have hmul1 := hmulT (Nums.val l0) (Nat.le_of_lt hv300)
  have hmayP : Nums.may (Nums.toL (Nums.val l0 * 10 ^ n)) = true := Nums.may_toL (hbig _ (Nat.mul_le_mul (Nat.le_of_lt hv300) hten))
  have hlimv : Nums.lim (Nums.val l0) = l0 := by rw [Nums.lim_eq v2, v1]
  rw [v1] at hmul1
  have hshow0 := dec_Show_eq l0 hr hm
  clear hbig hten hmulT hv300 hp300 hp2000 v2 h2300 hc1 hc2 c1 c2
  obtain ⟨T, hT⟩ : ∃ T, 10 ^ n = T := ⟨_, rfl⟩
  obtain ⟨v, hv⟩ : ∃ v, Nums.val l0 = v := ⟨_, rfl⟩
  have hdp := deci_parts v n
  have hdt := deci_times v n
  have hdl := fun (h : 0 < n) => @Nums.deci_len_le (v % T) n h
  rw [hT] at hS hTen hmul0 hmul1 hmayT hmayP hT0 hdp hdt hdl
  rw [hv] at hS hmul0 hmul1 hmayP hlimv v1 hlen hsmall hshow0
  have hmodlt : v % T < T := Nat.mod_lt _ hT0
  have hadd : nat_Add.f (Nums.toL (v / T * T)) (Nums.toL (v % T)) = some l0 := by
    unfold nat_Add.f
    have e : v / T * T + v % T = v := by rw [Nat.mul_comm]; exact Nat.div_add_mod v T
    rw [Nums.rng_toL, Nums.rng_toL, if_pos (show (true && true) = true from rfl), hsmall _ (Nat.div_mul_le_self v T), hsmall _ (Nat.mod_le v T), if_pos (show (true && true) = true from rfl), Nums.val_toL, Nums.val_toL, e, hlimv]
  have hcmp : nat_Cmp.f (Nums.toL (v % T)) (Nums.toL T) = some (-1) := by
    rw [nat_Cmp_eq (Nums.rng_toL _) (Nums.rng_toL _) (hsmall _ (Nat.mod_le v T)) hmayT, Nums.val_toL, Nums.val_toL, if_pos hmodlt]
  have hshowB := dec_Show_eq (Nums.toL (v % T)) (Nums.rng_toL _) (hsmall _ (Nat.mod_le v T))
  have hshowA := dec_Show_eq (Nums.toL (v / T)) (Nums.rng_toL _) (hsmall _ (Nat.div_le_self v T))
  have hshowP := dec_Show_eq (Nums.toL (v * T)) (Nums.rng_toL _) hmayP
  rw [Nums.val_toL] at hshowA hshowB hshowP
  have hlenA : (Nums.deci (v / T)).length ≤ 3200 := Nat.le_trans (Nat.le_of_not_lt fun h => by have := Nums.deci_lt_of_len (Nat.lt_of_le_of_lt (Nat.le_refl _) h); have := Nat.div_le_self v T; omega) hlen
  have hlenB : (Nums.deci (v % T)).length ≤ 3200 := Nat.le_trans (Nat.le_of_not_lt fun h => by have := Nums.deci_lt_of_len (Nat.lt_of_le_of_lt (Nat.le_refl _) h); have := Nat.mod_le v T; omega) hlen
  have hj2 : Nums.Ev (fun k => alidadelaw04_DecParted.j2 k l0 (n : Int) ⟨(Nums.deci v).toArray⟩) true := by
    by_cases hz : (l0.length : Int) = 0
    · refine Nums.Ev.now fun k => ?_
      rw [alidadelaw04_DecParted.j2, hshow0, Option.bind_some, if_pos rfl, if_pos hz]
    · have hv0 : v ≠ 0 := fun e => by
        rw [e, Nums.toL_zero] at v1
        rw [← v1] at hz
        exact hz rfl
      refine Nums.Ev.succ (g := fun k => (dec_Ten.f k (n : Int)).bind fun t324 => ((mul_Mul.f k l0 t324).bind fun t327 => ((dec_Show.f t327).bind fun t330 => ((dec_Show.f l0).bind fun t331 => ((alidadelaw04_copies.f k (⟨#[48]⟩ : ByteArray) (n : Int)).bind fun t332 => (if t331.size + t332.size ≤ 9223372036854775807 then (some (t330.toList == (t331 ++ t332).toList)) else (none))))))) ?_ fun k => ?_
      · refine Nums.Ev.bind (f := fun k => dec_Ten.f k (n : Int)) hTen (Nums.Ev.bind (f := fun k => mul_Mul.f k l0 (Nums.toL T)) hmul1 ?_)
        simp only [hshowP, hshow0, Option.bind_some]
        refine Nums.Ev.bind (f := fun k => alidadelaw04_copies.f k (⟨#[48]⟩ : ByteArray) (n : Int)) (copies_ev n (by omega)) ?_
        refine Nums.Ev.of fun _ => ?_
        rw [bytes_size, bytes_size, List.length_replicate, if_pos (by omega), app_list, hdt hv0]
        simp
      · rw [alidadelaw04_DecParted.j2, hshow0, Option.bind_some, if_pos rfl, if_neg hz]
  have hj1 : Nums.Ev (fun k => alidadelaw04_DecParted.j1 k l0 (n : Int) (Nums.toL (v / T)) (Nums.toL (v % T)) false) true := by
    by_cases hA : v / T = 0
    · have hlt : v < T := (Nat.div_eq_zero_iff_lt hT0).1 hA
      refine hj2.succ fun k => ?_
      rw [alidadelaw04_DecParted.j1, if_neg (by decide), hshowB, Option.bind_some, hA, Nums.toL_zero, if_neg (by decide), Nat.mod_eq_of_lt hlt]
    · have hAp : ((Nums.toL (v / T)).length : Int) > 0 := by
        have := List.length_pos_iff.2 (fun e => hA (Nums.toL_eq_nil.1 e))
        omega
      by_cases hn0 : n = 0
      · subst hn0
        have hT1 : T = 1 := hT.symm.trans (Nat.pow_zero _)
        have hc := copies_ev 0 (by decide)
        refine Nums.Ev.succ (g := fun k => (alidadelaw04_copies.f k (⟨#[48]⟩ : ByteArray) ((0 : Nat) : Int)).bind fun t320 => (if (⟨(Nums.deci (v / T)).toArray⟩ : ByteArray).size + t320.size ≤ 9223372036854775807 then (if ((⟨(Nums.deci (v / T)).toArray⟩ : ByteArray) ++ t320).size + 0 ≤ 9223372036854775807 then (alidadelaw04_DecParted.j2 k l0 ((0 : Nat) : Int) (((⟨(Nums.deci (v / T)).toArray⟩ : ByteArray) ++ t320) ++ (⟨#[]⟩ : ByteArray))) else (none)) else (none))) ?_ fun k => ?_
        · refine Nums.Ev.bind (f := fun k => alidadelaw04_copies.f k (⟨#[48]⟩ : ByteArray) ((0 : Nat) : Int)) hc ?_
          have e1 : (⟨(Nums.deci (v / T)).toArray⟩ : ByteArray) ++ ⟨(List.replicate 0 48).toArray⟩ = ⟨(Nums.deci v).toArray⟩ := by rw [app_list, hT1, Nat.div_one]; simp
          have e2 : (⟨(Nums.deci v).toArray⟩ : ByteArray) ++ (⟨#[]⟩ : ByteArray) = ⟨(Nums.deci v).toArray⟩ := ByteArray.append_empty
          simp only [e1, e2, bytes_size, List.length_replicate]
          simp only [if_pos (show (Nums.deci (v / T)).length + 0 ≤ 9223372036854775807 by omega), if_pos (show (Nums.deci v).length + 0 ≤ 9223372036854775807 by omega)]
          exact hj2
        · rw [alidadelaw04_DecParted.j1, if_neg (by decide), hshowB, Option.bind_some, if_pos hAp, if_pos (show ((0 : Nat) : Int) = 0 from rfl), hshowA, show wrap64 ((0 : Nat) : Int) = ((0 : Nat) : Int) from by unfold wrap64; omega]
          rfl
      · have hlB := (hdl (by omega)).2 hmodlt
        have hw1 : wrap64 ((n : Int) - ((Nums.deci (v % T)).length : Int)) = ((n - (Nums.deci (v % T)).length : Nat) : Int) := by unfold wrap64; omega
        have hc := copies_ev (n - (Nums.deci (v % T)).length) (by omega)
        refine Nums.Ev.succ (g := fun k => (alidadelaw04_copies.f k (⟨#[48]⟩ : ByteArray) ((n - (Nums.deci (v % T)).length : Nat) : Int)).bind fun t322 => (if (⟨(Nums.deci (v / T)).toArray⟩ : ByteArray).size + t322.size ≤ 9223372036854775807 then (if ((⟨(Nums.deci (v / T)).toArray⟩ : ByteArray) ++ t322).size + (⟨(Nums.deci (v % T)).toArray⟩ : ByteArray).size ≤ 9223372036854775807 then (alidadelaw04_DecParted.j2 k l0 (n : Int) (((⟨(Nums.deci (v / T)).toArray⟩ : ByteArray) ++ t322) ++ (⟨(Nums.deci (v % T)).toArray⟩ : ByteArray))) else (none)) else (none))) ?_ fun k => ?_
        · refine Nums.Ev.bind (f := fun k => alidadelaw04_copies.f k (⟨#[48]⟩ : ByteArray) ((n - (Nums.deci (v % T)).length : Nat) : Int)) hc ?_
          simp only [app_list, bytes_size, List.length_append, List.length_replicate]
          simp only [if_pos (show (Nums.deci (v / T)).length + (n - (Nums.deci (v % T)).length) ≤ 9223372036854775807 by omega), if_pos (show (Nums.deci (v / T)).length + (n - (Nums.deci (v % T)).length) + (Nums.deci (v % T)).length ≤ 9223372036854775807 by omega), ← hdp (by omega) hA]
          exact hj2
        · rw [alidadelaw04_DecParted.j1, if_neg (by decide), hshowB, Option.bind_some, if_pos hAp, if_neg (by omega), hshowA, bytes_size, hw1]
          rfl
  refine Nums.Ev.succ (g := fun k => (dec_Split.f k l0 (n : Int)).bind fun bt298 => ((dec_Ten.f k (n : Int)).bind fun t304 => ((mul_Mul.f k bt298.1 t304).bind fun t307 => ((nat_Add.f t307 bt298.2).bind fun t310 => ((alidadelaw04_same.f k t310 l0).bind fun t313 => (if t313 = true then ((dec_Ten.f k (n : Int)).bind fun t314 => ((nat_Cmp.f bt298.2 t314).bind fun t317 => (alidadelaw04_DecParted.j1 k l0 (n : Int) bt298.1 bt298.2 (decide (t317 ≥ 0))))) else (alidadelaw04_DecParted.j1 k l0 (n : Int) bt298.1 bt298.2 true))))))) ?_ fun k => ?_
  · refine Nums.Ev.bind (f := fun k => dec_Split.f k l0 (n : Int)) hS (Nums.Ev.bind (f := fun k => dec_Ten.f k (n : Int)) hTen (Nums.Ev.bind (f := fun k => mul_Mul.f k (Nums.toL (v / T)) (Nums.toL T)) hmul0 ?_))
    simp only [hadd, Option.bind_some]
    refine Nums.Ev.bind (f := fun k => alidadelaw04_same.f k l0 l0) ((same_ev l0 l0 (by omega)).cast (decide_eq_true rfl)) ?_
    simp only [if_true]
    refine Nums.Ev.bind (f := fun k => dec_Ten.f k (n : Int)) hTen ?_
    simp only [hcmp, Option.bind_some]
    exact hj1
  · rw [alidadelaw04_DecParted.j0, if_neg (by decide)]

end Go.Proofs.YtjgloepeogelnaaDoor.Pure

/- The examples, powers of ten, texts that are none, and numbers that are too long: over numbers and lists alone. No condition. -/
import Derived.Test.YtjgloepeogelnaaDoorPrx18
import Derived.OpenShut
namespace Go.Proofs.YtjgloepeogelnaaDoor.Pure
open Go.RowKit Go.Proofs.YtjgloepeogelnaaDoor.Pr Go.Proofs.YtjgloepeogelnaaDoorW.PrintWords Go.Proofs.YtjgloepeogelnaaDoorW.PrintLast
/-- A natural that may be. -/
structure Fits (N : Nat) : Prop where
  lt : N < 4294967296 ^ 65536
theorem Fits.of {N : Nat} (c : Nat) (h : N < 4294967296 ^ c) (hc : c ≤ 65536) : Fits N := ⟨Nat.lt_of_lt_of_le h (Nums.pow_le_gen 4294967296 c 65536 (by decide) hc)⟩
theorem Fits.may {N : Nat} (h : Fits N) : Nums.may (Nums.toL N) = true := Nums.may_toL h.lt
theorem Fits.lim {N : Nat} (h : Fits N) : Nums.lim N = Nums.toL N := Nums.lim_eq h.lt
theorem ten_fits (K : Nat) (hK : K ≤ 100) : Fits (10 ^ K) ∧ Fits (10 ^ K - 1) ∧ Fits (10 ^ K + 1) := by
  have h : 10 ^ K ≤ 4294967296 ^ 100 := Nat.le_trans (Nums.pow_le_gen 10 K 100 (by decide) hK) (Nat.pow_le_pow_left (by decide) 100)
  have h2 : 4294967296 ^ 100 + 1 < 4294967296 ^ 101 := by decide
  generalize 4294967296 ^ 100 = x at h h2
  exact ⟨.of 101 (by omega) (by decide), .of 101 (by omega) (by decide), .of 101 (by omega) (by decide)⟩
theorem is_ev (N : Nat) (s : ByteArray) (hN : Fits N) (hs : s.size ≤ 140737488355328) (hg : Nums.good s.data.toList = true) (hn : Nums.num s.data.toList = N) : Nums.Ev (fun k => alidadelaw04_is.f k (Nums.toL N) s) true :=
  law_is_ev (Nums.toL N) s (Nums.rng_toL N) hN.may hs (by rw [Nums.val_toL]; exact deci_of_num N hg hn)
theorem of_ev (a : Int) (N : Nat) (h : a = (N : Int)) (hN : N < 18446744073709551616) : Nums.Ev (fun k => nat_Of.f k a) (Nums.toL N) := by
  subst h
  exact nat_Of_ev (N : Int) (by omega) (by omega)
theorem ten_ev (n : Nat) (a : Int) (h : a = (n : Int)) (hn : n < 9223372036854775808) : Nums.Ev (fun k => dec_Ten.f k a) (Nums.lim (10 ^ n)) := by
  subst h
  exact dec_Ten_ev 65536 mul_tells n hn (.inr (Nat.le_refl _))
theorem divmod_tells (l : List Int) (T : Nat) (hr : Nums.rng l = true) (hm : Nums.may l = true) (h0 : 0 < T) (hm1 : Nums.may (Nums.toL T) = true) : div_DivMod.f l (Nums.toL T) = some (Nums.toL (Nums.val l / T), Nums.toL (Nums.val l % T), 0) := by
  unfold div_DivMod.f
  rw [hr, Nums.rng_toL, if_pos (show (true && true) = true from rfl), hm, hm1, if_pos (show (true && true) = true from rfl), Nums.val_toL, if_neg (fun e => by rw [Nums.toL_eq_nil] at e; omega)]
theorem split_ev (N n : Nat) (hN : Fits N) (hn : n < 9223372036854775808) : Nums.Ev (fun k => dec_Split.f k (Nums.toL N) (n : Int)) (Nums.toL (N / 10 ^ n), Nums.toL (N % 10 ^ n)) := by
  have h := dec_Split_ev 65536 mul_tells (Nums.toL N) n (Nums.rng_toL N) hN.may hn (.inr (Nat.le_refl _)) (fun h1 _ => divmod_tells (Nums.toL N) (10 ^ n) (Nums.rng_toL N) hN.may (Nat.pow_pos (by decide)) (Nums.may_toL h1))
  rw [Nums.val_toL] at h
  exact h
theorem dig_rep (b : UInt8) (hb : 48 ≤ b.toNat ∧ b.toNat ≤ 57) (k : Nat) : Nums.allDig (List.replicate k b) = true := Nums.allDig_iff.2 fun c hc => by rw [List.eq_of_mem_replicate hc]; exact hb
theorem num_nines (k : Nat) : Nums.num (List.replicate k 57) + 1 = 10 ^ k := by
  induction k with
  | zero => rfl
  | succ k ih =>
    rw [List.replicate_succ', Nums.num_snoc, Nat.pow_succ, ← ih]
    have : (57 : UInt8).toNat - 48 = 9 := rfl
    omega
theorem copies_run (b : UInt8) (n : Nat) (hn : n ≤ 4000) : ∀ (d i : Nat) (t : ByteArray), i + d = n → t.size ≤ 100000 + i → Nums.Ev (fun k => alidadelaw04_copies.l0 k ⟨#[b]⟩ (n : Int) t (i : Int)) (t ++ ⟨(List.replicate d b).toArray⟩) := by
  intro d
  induction d with
  | zero =>
    intro i t hi _
    refine Nums.Ev.now fun k => ?_
    rw [alidadelaw04_copies.l0, if_neg (by omega)]
    congr 1
    exact (ByteArray.append_empty).symm
  | succ d ih =>
    intro i t hi ht
    have hw : wrap64 ((i : Int) + 1) = ((i + 1 : Nat) : Int) := by unfold wrap64; omega
    have hs : (t ++ (⟨#[b]⟩ : ByteArray)).size = t.size + 1 := by rw [ByteArray.size_append]; rfl
    have he : t ++ (⟨#[b]⟩ : ByteArray) ++ ⟨(List.replicate d b).toArray⟩ = t ++ ⟨(List.replicate (d + 1) b).toArray⟩ := by
      rw [ByteArray.append_assoc]
      congr 1
    rw [← he]
    refine (ih (i + 1) (t ++ ⟨#[b]⟩) (by omega) (by omega)).succ fun k => ?_
    have hz : (⟨#[b]⟩ : ByteArray).size = 1 := rfl
    rw [alidadelaw04_copies.l0, if_pos (by omega), if_pos (by rw [hz]; omega), hw]
theorem copies_ev (b : UInt8) (n : Nat) (hn : n ≤ 4000) : Nums.Ev (fun k => alidadelaw04_copies.f k ⟨#[b]⟩ (n : Int)) ⟨(List.replicate n b).toArray⟩ := by
  have h := copies_run b n hn n 0 ⟨#[]⟩ (by omega) (by decide)
  have e : (⟨#[]⟩ : ByteArray) ++ ⟨(List.replicate n b).toArray⟩ = ⟨(List.replicate n b).toArray⟩ := ByteArray.empty_append
  rw [e] at h
  exact h
theorem app_list (a b : List UInt8) : (⟨a.toArray⟩ : ByteArray) ++ ⟨b.toArray⟩ = ⟨(a ++ b).toArray⟩ := by
  apply ByteArray.ext
  rw [ByteArray.data_append]
  simp
theorem sub_tells (a b : Nat) (ha : Fits a) (hb : Fits b) (h : b ≤ a) : nat_Sub.f (Nums.toL a) (Nums.toL b) = some (Nums.toL (a - b), true) := by
  unfold nat_Sub.f
  rw [Nums.rng_toL, Nums.rng_toL, if_pos (show (true && true) = true from rfl), ha.may, hb.may, if_pos (show (true && true) = true from rfl), Nums.val_toL, Nums.val_toL, if_neg (Nat.not_lt.2 h)]
theorem add_tells (a b : Nat) (ha : Fits a) (hb : Fits b) (h : Fits (a + b)) : nat_Add.f (Nums.toL a) (Nums.toL b) = some (Nums.toL (a + b)) := by
  unfold nat_Add.f
  rw [Nums.rng_toL, Nums.rng_toL, if_pos (show (true && true) = true from rfl), ha.may, hb.may, if_pos (show (true && true) = true from rfl), Nums.val_toL, Nums.val_toL, h.lim]
/-- Powers of ten and of two. -/
theorem pow_from (p q c n m : Nat) (h : 2 ^ p ≤ 10 ^ q) (h1 : q * m ≤ n) (h2 : 32 * c ≤ p * m) : 4294967296 ^ c ≤ 10 ^ n := by
  have e1 := Nums.pow_pow_le 4294967296 2 32 c (by decide)
  have e2 := Nums.pow_le_gen 2 (32 * c) (p * m) (by decide) h2
  have e3 := Nat.pow_le_pow_left h m
  have e4 := Nums.pow_le_gen 10 (q * m) n (by decide) h1
  rw [← Nat.pow_mul, ← Nat.pow_mul] at e3
  exact Nat.le_trans e1 (Nat.le_trans e2 (Nat.le_trans e3 e4))
theorem pow_from2 (a b q c n m : Nat) (h : (2 ^ a) ^ b ≤ 10 ^ q) (h1 : q * m ≤ n) (h2 : 32 * c ≤ a * b * m) : 4294967296 ^ c ≤ 10 ^ n := pow_from (a * b) q c n m (by rw [Nat.pow_mul]; exact h) h1 h2
theorem pow_to (p q c n m : Nat) (h : 10 ^ q ≤ 2 ^ p) (h1 : n ≤ q * m) (h2 : p * m < 32 * c) : 10 ^ n < 4294967296 ^ c := by
  have e1 : 4294967296 ^ c = 2 ^ (32 * c) := by rw [Nat.pow_mul]
  have e2 : 2 ^ (p * m) < 2 ^ (32 * c) := Nat.pow_lt_pow_of_lt (by decide) h2
  have e3 := Nat.pow_le_pow_left h m
  have e4 := Nums.pow_le_gen 10 n (q * m) (by decide) h1
  rw [← Nat.pow_mul, ← Nat.pow_mul] at e3
  rw [e1]
  exact Nat.lt_of_le_of_lt e4 (Nat.lt_of_le_of_lt e3 e2)
theorem lim_over {N c : Nat} (h : Fits N) (hc : 4294967296 ^ c ≤ N) : c < (Nums.lim N).length := by
  rw [h.lim]
  exact Nat.lt_of_not_le fun e => Nat.not_lt.2 hc (Nums.len_toL_le.1 e)
theorem ten_631306 : ∃ r : List Int, Nums.Ev (fun k => dec_Ten.f k 631306) r ∧ (r.length = 0 ∨ r.length = 65536) := by
  obtain ⟨n, hn⟩ : ∃ n : Nat, n = 631306 := ⟨_, rfl⟩
  refine ⟨Nums.lim (10 ^ n), ten_ev n _ (by omega) (by omega), ?_⟩
  have h1 := pow_from2 97 5 146 65535 n 4324 (by decide) (by omega) (by decide)
  by_cases h : Fits (10 ^ n)
  · right
    have h2 := lim_over h h1
    have h3 := (Nums.may_iff.1 (Nums.may_lim (10 ^ n))).1
    exact Nat.le_antisymm h3 h2
  · left
    rw [Nums.lim_big (fun e => h ⟨e⟩)]
    rfl
theorem ten_640000 : Nums.Ev (fun k => dec_Ten.f k 640000) [] := by
  obtain ⟨n, hn⟩ : ∃ n : Nat, n = 640000 := ⟨_, rfl⟩
  have h := ten_ev n 640000 (by omega) (by omega)
  rw [Nums.lim_big (Nat.not_lt.2 (pow_from 93 28 65536 n 22857 (by decide) (by omega) (by decide)))] at h
  exact h
theorem ten_most : Nums.Ev (fun k => dec_Ten.f k 9223372036854775807) [] := by
  obtain ⟨n, hn⟩ : ∃ n : Nat, n = 9223372036854775807 := ⟨_, rfl⟩
  have h := ten_ev n 9223372036854775807 (by omega) (by omega)
  rw [Nums.lim_big (Nat.not_lt.2 (pow_from 93 28 65536 n 22857 (by decide) (by omega) (by decide)))] at h
  exact h
theorem ten_631000 : ∃ r : List Int, Nums.Ev (fun k => dec_Ten.f k 631000) r ∧ 65000 < r.length := by
  obtain ⟨n, hn⟩ : ∃ n : Nat, n = 631000 := ⟨_, rfl⟩
  have h1 : Fits (10 ^ n) := ⟨pow_to 196 59 65536 n 10695 (by decide) (by omega) (by decide)⟩
  have h2 := pow_from 93 28 65000 n 22535 (by decide) (by omega) (by decide)
  exact ⟨Nums.lim (10 ^ n), ten_ev n _ (by omega) (by omega), lim_over h1 h2⟩
theorem ten_less : Nums.Ev (fun k => dec_Ten.f k (-1)) [] := by
  refine Nums.Ev.bind (f := fun k => nat_Of.f k 10) (nat_Of_ev 10 (by decide) (by decide)) (Nums.Ev.bind (f := fun k => mul_Pow.f k (Nums.toL (10 : Int).toNat) (-1)) (r := []) (Nums.Ev.now fun k => ?_) (Nums.Ev.some _))
  have hm : Nums.may (Nums.toL (10 : Int).toNat) = true := (Fits.of 1 (by decide) (by decide)).may
  unfold mul_Pow.f
  rw [nat_May_eq, hm, Option.bind_some, if_pos rfl, if_pos (by decide), mul_Pow.j0, if_pos rfl]
theorem same_self (l : List Int) (h : l.length ≤ 65536) : Nums.Ev (fun k => alidadelaw04_same.f k l l) true := (same_ev l l (by omega)).cast (decide_eq_true rfl)
theorem toL_len_le {N : Nat} (h : Fits N) : (Nums.toL N).length ≤ 65536 := (Nums.may_iff.1 h.may).1
/-- One round over the powers of ten. -/
theorem names_round (K : Nat) (h1 : 1 ≤ K) (h2 : K ≤ 100) (L : List Int) (i : Int) (hi0 : 0 ≤ i) (hi1 : i < 10) (hL : L.length = 10) (hrd : rd L i = (K : Int)) (hnext : Nums.Ev (fun k => alidadelaw04_DecNames.l0 k (Nums.toL 1) L 10 (i + 1)) true) :
    Nums.Ev (fun k => alidadelaw04_DecNames.l0 k (Nums.toL 1) L 10 i) true := by
  obtain ⟨f1, f2, f3⟩ := ten_fits K h2
  have f0 : Fits 1 := .of 1 (by decide) (by decide)
  have hT := ten_ev K (K : Int) rfl (by omega)
  rw [f1.lim] at hT
  have hn9 := num_nines K
  have hz := Nums.num_zeros K
  have hz1 := Nums.num_zeros (K - 1)
  have hpos : 0 < 10 ^ K := Nat.pow_pos (by decide)
  have hsub := sub_tells (10 ^ K) 1 f1 f0 hpos
  have hadd := add_tells (10 ^ K) 1 f1 f0 f3
  have HW : Aside0 (wrap64 ((K : Int) - 1) = ((K - 1 : Nat) : Int)) := ⟨by unfold wrap64; omega⟩
  have HW1 : Aside0 (wrap64 (i + 1) = i + 1) := ⟨by unfold wrap64; omega⟩
  have a1 : 1 + K ≤ 9223372036854775807 := by omega
  have a2 : 1 + (K - 1) ≤ 9223372036854775807 := by omega
  have a3 : 1 + (K - 1) + 1 ≤ 9223372036854775807 := by omega
  have a4 : i < (L.length : Int) := by omega
  have c0 := copies_ev 48 K (by omega)
  have c9 := copies_ev 57 K (by omega)
  have c1 := copies_ev 48 (K - 1) (by omega)
  have i1 : Nums.Ev (fun k => alidadelaw04_is.f k (Nums.toL (10 ^ K)) ((⟨#[49]⟩ : ByteArray) ++ ⟨(List.replicate K 48).toArray⟩)) true := by
    rw [show (⟨#[49]⟩ : ByteArray) = ⟨[49].toArray⟩ from rfl, app_list]
    refine is_ev _ _ f1 (by rw [bytes_size, List.length_append, List.length_replicate, List.length_singleton]; omega) (Nums.good_iff.2 ⟨by simp, .inl (by simp), ?_⟩) ?_
    · show Nums.allDig ([49] ++ List.replicate K 48) = true
      rw [Nums.allDig_append]; exact ⟨by decide, dig_rep 48 (by decide) K⟩
    · show Nums.num ([49] ++ List.replicate K 48) = 10 ^ K
      rw [Nums.num_append, hz, List.length_replicate, show Nums.num [49] = 1 from rfl, Nat.one_mul, Nat.add_zero]
  have i9 : Nums.Ev (fun k => alidadelaw04_is.f k (Nums.toL (10 ^ K - 1)) ⟨(List.replicate K 57).toArray⟩) true := by
    refine is_ev _ _ f2 (by rw [bytes_size, List.length_replicate]; omega) (Nums.good_iff.2 ⟨?_, .inl ?_, dig_rep 57 (by decide) K⟩) ?_
    · show List.replicate K 57 ≠ []
      obtain ⟨j, rfl⟩ : ∃ j, K = j + 1 := ⟨K - 1, by omega⟩
      rw [List.replicate_succ]; exact List.cons_ne_nil _ _
    · show (List.replicate K (57 : UInt8)).head? ≠ some 48
      obtain ⟨j, rfl⟩ : ∃ j, K = j + 1 := ⟨K - 1, by omega⟩
      rw [List.replicate_succ, List.head?_cons]; decide
    · show Nums.num (List.replicate K 57) = 10 ^ K - 1
      omega
  have i3 : Nums.Ev (fun k => alidadelaw04_is.f k (Nums.toL (10 ^ K + 1)) (((⟨#[49]⟩ : ByteArray) ++ ⟨(List.replicate (K - 1) 48).toArray⟩) ++ (⟨#[49]⟩ : ByteArray))) true := by
    rw [show (⟨#[49]⟩ : ByteArray) = ⟨[49].toArray⟩ from rfl, app_list, app_list]
    refine is_ev _ _ f3 (by rw [bytes_size, List.length_append, List.length_append, List.length_replicate, List.length_singleton]; omega) (Nums.good_iff.2 ⟨by simp, .inl (by simp), ?_⟩) ?_
    · show Nums.allDig (([49] ++ List.replicate (K - 1) 48) ++ [49]) = true
      rw [Nums.allDig_append, Nums.allDig_append]; exact ⟨⟨by decide, dig_rep 48 (by decide) _⟩, by decide⟩
    · show Nums.num (([49] ++ List.replicate (K - 1) 48) ++ [49]) = 10 ^ K + 1
      obtain ⟨j, rfl⟩ : ∃ j, K = j + 1 := ⟨K - 1, by omega⟩
      rw [Nat.add_sub_cancel] at hz1 ⊢
      rw [Nums.num_append, Nums.num_append, hz1, List.length_replicate, List.length_singleton, show Nums.num [49] = 1 from rfl, Nat.pow_one, Nat.one_mul, Nat.pow_succ]
      omega
  have s1 := split_ev (10 ^ K) K f1 (by omega)
  rw [Nat.div_self hpos, Nat.mod_self, Nums.toL_zero] at s1
  have s2 := split_ev (10 ^ K - 1) K f2 (by omega)
  rw [Nat.div_eq_of_lt (by omega), Nat.mod_eq_of_lt (by omega), Nums.toL_zero] at s2
  have s3 := split_ev (10 ^ K - 1) 0 f2 (by omega)
  rw [Nat.pow_zero, Nat.div_one, Nat.mod_one, Nums.toL_zero] at s3
  have l1 := toL_len_le f0
  have l2 := toL_len_le f2
  clear hz hz1 hn9 f1 f2 f3 f0 hpos
  obtain ⟨T, hTT⟩ : ∃ T, Nums.toL (10 ^ K) = T := ⟨_, rfl⟩
  obtain ⟨N, hNN⟩ : ∃ N, Nums.toL (10 ^ K - 1) = N := ⟨_, rfl⟩
  obtain ⟨P, hPP⟩ : ∃ P, Nums.toL (10 ^ K + 1) = P := ⟨_, rfl⟩
  rw [hTT] at hT hsub hadd i1 s1
  rw [hNN] at hsub i9 s2 s3 l2
  rw [hPP] at hadd i3
  clear hTT hNN hPP
  obtain ⟨O, hO⟩ : ∃ O, Nums.toL 1 = O := ⟨_, rfl⟩
  rw [hO] at hsub hadd s1 l1 hnext ⊢
  clear hO
  have hj2 : Nums.Ev (fun k => alidadelaw04_DecNames.j2 k O (K : Int) N L 10 i false) true := by
    refine Nums.Ev.succ (g := fun k => (dec_Ten.f k (K : Int)).bind fun t342 => ((dec_Split.f k t342 (K : Int)).bind fun bt345 => ((dec_Split.f k N (K : Int)).bind fun bt351 => ((dec_Split.f k N 0).bind fun bt357 => ((alidadelaw04_same.f k bt345.1 O).bind fun t363 => (if t363 = true then (if (bt345.2.length : Int) = 0 then (if (bt351.1.length : Int) = 0 then ((alidadelaw04_same.f k bt351.2 N).bind fun t364 => (if t364 = true then ((alidadelaw04_same.f k bt357.1 N).bind fun t365 => (if t365 = true then (if (bt357.2.length : Int) = 0 then (alidadelaw04_DecNames.l0 k O L 10 (i + 1)) else (some false)) else (some false))) else (some false))) else (some false)) else (some false)) else (some false))))))) ?_ fun k => by rw [alidadelaw04_DecNames.j2, if_neg (by decide), HW1.out]
    refine Nums.Ev.bind (f := fun k => dec_Ten.f k (K : Int)) hT (Nums.Ev.bind (f := fun k => dec_Split.f k T (K : Int)) s1 (Nums.Ev.bind (f := fun k => dec_Split.f k N (K : Int)) s2 (Nums.Ev.bind (f := fun k => dec_Split.f k N 0) s3 (Nums.Ev.bind (f := fun k => alidadelaw04_same.f k O O) (same_self O l1) ?_))))
    simp only [if_true, List.length_nil, Int.ofNat_zero]
    refine Nums.Ev.bind (f := fun k => alidadelaw04_same.f k N N) (same_self N l2) ?_
    simp only [if_true]
    refine Nums.Ev.bind (f := fun k => alidadelaw04_same.f k N N) (same_self N l2) ?_
    simp only [if_true]
    exact hnext
  have hsz0 : (⟨(List.replicate K (48 : UInt8)).toArray⟩ : ByteArray).size = K := by rw [bytes_size, List.length_replicate]
  have hsz1 : (⟨(List.replicate (K - 1) (48 : UInt8)).toArray⟩ : ByteArray).size = K - 1 := by rw [bytes_size, List.length_replicate]
  have hsz2 : ((⟨#[49]⟩ : ByteArray) ++ (⟨(List.replicate (K - 1) (48 : UInt8)).toArray⟩ : ByteArray)).size = 1 + (K - 1) := by rw [ByteArray.size_append, hsz1]; rfl
  refine Nums.Ev.succ (g := fun k => (dec_Ten.f k (K : Int)).bind fun t320 => ((nat_Sub.f t320 O).bind fun bt323 => ((dec_Ten.f k (K : Int)).bind fun t327 => ((alidadelaw04_copies.f k (⟨#[48]⟩ : ByteArray) (K : Int)).bind fun t330 => (if 1 + t330.size ≤ 9223372036854775807 then ((alidadelaw04_is.f k t327 ((⟨#[49]⟩ : ByteArray) ++ t330)).bind fun t331 => (if t331 = true then ((alidadelaw04_copies.f k (⟨#[57]⟩ : ByteArray) (K : Int)).bind fun t332 => ((alidadelaw04_is.f k bt323.1 t332).bind fun t333 => (if t333 = true then ((dec_Ten.f k (K : Int)).bind fun t334 => ((nat_Add.f t334 O).bind fun t337 => ((alidadelaw04_copies.f k (⟨#[48]⟩ : ByteArray) ((K - 1 : Nat) : Int)).bind fun t340 => (if 1 + t340.size ≤ 9223372036854775807 then (if ((⟨#[49]⟩ : ByteArray) ++ t340).size + 1 ≤ 9223372036854775807 then ((alidadelaw04_is.f k t337 (((⟨#[49]⟩ : ByteArray) ++ t340) ++ (⟨#[49]⟩ : ByteArray))).bind fun t341 => (alidadelaw04_DecNames.j2 k O (K : Int) bt323.1 L 10 i (!t341))) else (none)) else (none))))) else (alidadelaw04_DecNames.j2 k O (K : Int) bt323.1 L 10 i true)))) else (alidadelaw04_DecNames.j2 k O (K : Int) bt323.1 L 10 i true))) else (none)))))) ?_ fun k => ?_
  · refine Nums.Ev.bind (f := fun k => dec_Ten.f k (K : Int)) hT ?_
    simp only [hsub, Option.bind_some]
    refine Nums.Ev.bind (f := fun k => dec_Ten.f k (K : Int)) hT (Nums.Ev.bind (f := fun k => alidadelaw04_copies.f k (⟨#[48]⟩ : ByteArray) (K : Int)) c0 ?_)
    simp only [hsz0, if_pos a1]
    refine Nums.Ev.bind (f := fun k => alidadelaw04_is.f k T ((⟨#[49]⟩ : ByteArray) ++ ⟨(List.replicate K 48).toArray⟩)) i1 ?_
    simp only [if_true]
    refine Nums.Ev.bind (f := fun k => alidadelaw04_copies.f k (⟨#[57]⟩ : ByteArray) (K : Int)) c9 (Nums.Ev.bind (f := fun k => alidadelaw04_is.f k N ⟨(List.replicate K 57).toArray⟩) i9 ?_)
    simp only [if_true]
    refine Nums.Ev.bind (f := fun k => dec_Ten.f k (K : Int)) hT ?_
    simp only [hadd, Option.bind_some]
    refine Nums.Ev.bind (f := fun k => alidadelaw04_copies.f k (⟨#[48]⟩ : ByteArray) ((K - 1 : Nat) : Int)) c1 ?_
    simp only [hsz1, hsz2, if_pos a2, if_pos a3]
    have hfin := Nums.Ev.bind (g := fun n t341 => alidadelaw04_DecNames.j2 n O (K : Int) N L 10 i (!t341)) i3 hj2
    clear i1 i9 c0 c9 c1 hnext hT
    exact hfin
  · rw [alidadelaw04_DecNames.l0, if_pos hi1, if_pos hi0, if_pos a4, hrd, HW.out]
/-- Texts that are none. -/
theorem names_bad (L : List ByteArray) (hL : L.length = 11) (hb : ∀ i : Nat, i < 11 → dec_Parse.f (rdOf ByteArray.empty L (i : Int)) = some ([], 4)) (hend : Nums.Ev (fun k => alidadelaw04_DecNames.l1 k (Nums.toL 1) L 11 11) true) :
    ∀ d i : Nat, i + d = 11 → Nums.Ev (fun k => alidadelaw04_DecNames.l1 k (Nums.toL 1) L 11 (i : Int)) true := by
  intro d
  induction d with
  | zero =>
    intro i hi
    obtain rfl : i = 11 := by omega
    exact hend
  | succ d ih =>
    intro i hi
    have hw : wrap64 ((i : Int) + 1) = ((i + 1 : Nat) : Int) := by unfold wrap64; omega
    refine (ih (i + 1) (by omega)).succ fun k => ?_
    rw [alidadelaw04_DecNames.l1, if_pos (by omega), if_pos (by omega), if_pos (by rw [hL]; omega), hb i (by omega), Option.bind_some, if_pos (show ((([] : List Int).length : Nat) : Int) = 0 from rfl), if_pos (show (4 : Int) = 4 from rfl), hw]
theorem names_end (L : List ByteArray) : Nums.Ev (fun k => alidadelaw04_DecNames.l1 k (Nums.toL 1) L 11 11) true := by
  have f1 : Fits 1 := .of 1 (by decide) (by decide)
  obtain ⟨r1, e1, h1⟩ := ten_631306
  obtain ⟨r2, e2, h2⟩ := ten_631000
  have t0 := ten_ev 0 0 rfl (by decide)
  rw [Nat.pow_zero, f1.lim] at t0
  have sb : Nums.Ev (fun k => dec_Split.f k [1, 0] 1) ([], []) := Nums.Ev.now fun k => by
    unfold dec_Split.f
    rw [nat_May_eq, show Nums.may [1, 0] = false from rfl, Option.bind_some, if_neg (by decide), dec_Split.j0, if_pos rfl]
  have sn : Nums.Ev (fun k => dec_Split.f k (Nums.toL 1) (-1)) ([], []) := Nums.Ev.now fun k => by
    unfold dec_Split.f
    rw [nat_May_eq, f1.may, Option.bind_some, if_pos rfl, decide_eq_true (by decide), dec_Split.j0, if_pos rfl]
  have hsh : dec_Show.f [1, 0] = some ByteArray.empty := dec_Show_no [1, 0] rfl rfl
  have hbe : ByteArray.empty.toList = [] := by rw [Lib.toList_data]; rfl
  have hdg : dec_Digits.f [1, 0] = some 0 := by unfold dec_Digits.f; rw [hsh]; rfl
  have hss := same_self (Nums.toL 1) (toL_len_le f1)
  obtain ⟨O, hO⟩ : ∃ O, Nums.toL 1 = O := ⟨_, rfl⟩
  rw [hO] at t0 sn hss ⊢
  clear hO f1
  have hlast : Nums.Ev (fun k => (dec_Ten.f k 631000).bind fun t409 => (some (decide ((t409.length : Int) > 65000)))) true := by
    refine Nums.Ev.bind (f := fun k => dec_Ten.f k 631000) e2 (Nums.Ev.of fun _ => ?_)
    rw [decide_eq_true (by omega)]
  refine Nums.Ev.succ (g := fun k => (dec_Split.f k [1, 0] 1).bind fun bt379 => ((dec_Split.f k O (-1)).bind fun bt385 => ((dec_Ten.f k 631306).bind fun t391 => ((dec_Show.f [1, 0]).bind fun t394 => (if t394.toList = ([] : List UInt8) then ((dec_Digits.f [1, 0]).bind fun t395 => (if t395 = 0 then (if (wrap64 ((wrap64 ((wrap64 ((bt379.1.length : Int) + (bt379.2.length : Int))) + (bt385.1.length : Int))) + (bt385.2.length : Int))) = 0 then ((dec_Ten.f k (-1)).bind fun t396 => (if (t396.length : Int) = 0 then ((dec_Ten.f k 0).bind fun t399 => ((alidadelaw04_same.f k t399 O).bind fun t402 => (if t402 = true then ((dec_Ten.f k 9223372036854775807).bind fun t403 => (if (t403.length : Int) = 0 then ((dec_Ten.f k 640000).bind fun t406 => (if (t406.length : Int) = 0 then (if (t391.length : Int) = 0 then ((dec_Ten.f k 631000).bind fun t409 => (some (decide ((t409.length : Int) > 65000)))) else (if (t391.length : Int) = 65536 then ((dec_Ten.f k 631000).bind fun t412 => (some (decide ((t412.length : Int) > 65000)))) else (some false))) else (some false))) else (some false))) else (some false)))) else (some false))) else (some false)) else (some false))) else (some false)))))) ?_ fun k => by rw [alidadelaw04_DecNames.l1, if_neg (by decide), Option.bind_some]
  refine Nums.Ev.bind (f := fun k => dec_Split.f k [1, 0] 1) sb (Nums.Ev.bind (f := fun k => dec_Split.f k O (-1)) sn (Nums.Ev.bind (f := fun k => dec_Ten.f k 631306) e1 ?_))
  have hw0 : wrap64 ((wrap64 ((wrap64 ((([] : List Int).length : Int) + (([] : List Int).length : Int))) + (([] : List Int).length : Int))) + (([] : List Int).length : Int)) = 0 := by show wrap64 (wrap64 (wrap64 (0 + 0) + 0) + 0) = 0; unfold wrap64; omega
  simp only [hsh, Option.bind_some, if_pos hbe]
  simp only [hdg, Option.bind_some, if_true, if_pos hw0]
  refine Nums.Ev.bind (f := fun k => dec_Ten.f k (-1)) ten_less ?_
  simp only [if_pos (show (([] : List Int).length : Int) = 0 from rfl)]
  refine Nums.Ev.bind (f := fun k => dec_Ten.f k 0) t0 (Nums.Ev.bind (f := fun k => alidadelaw04_same.f k O O) hss ?_)
  simp only [if_true]
  refine Nums.Ev.bind (f := fun k => dec_Ten.f k 9223372036854775807) ten_most ?_
  simp only [if_pos (show (([] : List Int).length : Int) = 0 from rfl)]
  refine Nums.Ev.bind (f := fun k => dec_Ten.f k 640000) ten_640000 ?_
  simp only [if_pos (show (([] : List Int).length : Int) = 0 from rfl)]
  rcases h1 with h | h
  · simp only [if_pos (show (r1.length : Int) = 0 by omega)]; exact hlast
  · simp only [if_neg (show ¬ (r1.length : Int) = 0 by omega), if_pos (show (r1.length : Int) = 65536 by omega)]; exact hlast
theorem DecNames : alidadelaw04_DecNames.Pure := by
  refine Nums.Ev.get (r := true) ?_
  have f0 : Fits 0 := .of 1 (by decide) (by decide)
  have f1 : Fits 1 := .of 1 (by decide) (by decide)
  have f2 : Fits 4294967295 := .of 1 (by decide) (by decide)
  have f3 : Fits 4294967296 := .of 2 (by decide) (by decide)
  have f4 : Fits 18446744073709551615 := .of 2 (by decide) (by decide)
  have i0 := is_ev 0 ⟨#[48]⟩ f0 (by decide) (by decide) (by decide)
  rw [Nums.toL_zero] at i0
  have i1 := is_ev 1 ⟨#[49]⟩ f1 (by decide) (by decide) (by decide)
  have i2 := is_ev 4294967295 ⟨#[52, 50, 57, 52, 57, 54, 55, 50, 57, 53]⟩ f2 (by decide) (by decide) (by decide)
  have i3 := is_ev 4294967296 ⟨#[52, 50, 57, 52, 57, 54, 55, 50, 57, 54]⟩ f3 (by decide) (by decide) (by decide)
  have i4 := is_ev 18446744073709551615 ⟨#[49, 56, 52, 52, 54, 55, 52, 52, 48, 55, 51, 55, 48, 57, 53, 53, 49, 54, 49, 53]⟩ f4 (by decide) (by decide) (by decide)
  have o1 := of_ev 1 1 rfl (by decide)
  have o2 := of_ev 4294967295 4294967295 rfl (by decide)
  have o3 := of_ev 4294967296 4294967296 rfl (by decide)
  have o4 := of_ev 18446744073709551615 18446744073709551615 rfl (by decide)
  have c0 := copies_ev 48 9 (by decide)
  have c9 := copies_ev 57 9 (by decide)
  have hl1 : Nums.Ev (fun k => alidadelaw04_DecNames.l0 k (Nums.toL 1) [1, 8, 9, 10, 17, 18, 19, 27, 28, 100] 10 10) true := by
    refine Nums.Ev.succ (g := fun k => (alidadelaw04_copies.f k (⟨#[48]⟩ : ByteArray) 9).bind fun t366 => ((alidadelaw04_copies.f k (⟨#[57]⟩ : ByteArray) 9).bind fun t367 => (if 1 + t367.size ≤ 9223372036854775807 then ((some (([(⟨#[32, 49]⟩ : ByteArray), (⟨#[49, 32]⟩ : ByteArray), (⟨#[43, 49]⟩ : ByteArray), (⟨#[48, 49]⟩ : ByteArray), (⟨#[48, 120, 49]⟩ : ByteArray), (⟨#[49, 46, 48]⟩ : ByteArray), (⟨#[49, 95, 48]⟩ : ByteArray), (⟨#[128]⟩ : ByteArray), (⟨#[97]⟩ : ByteArray), t366, (⟨#[48]⟩ : ByteArray) ++ t367] : List ByteArray) : List ByteArray)).bind fun y368 => (alidadelaw04_DecNames.l1 k (Nums.toL 1) y368 (y368.length : Int) 0)) else (none)))) ?_ fun k => by rw [alidadelaw04_DecNames.l0, if_neg (by decide)]
    refine Nums.Ev.bind (f := fun k => alidadelaw04_copies.f k (⟨#[48]⟩ : ByteArray) 9) c0 (Nums.Ev.bind (f := fun k => alidadelaw04_copies.f k (⟨#[57]⟩ : ByteArray) 9) c9 ?_)
    simp only [bytes_size, List.length_replicate, if_pos (show 1 + 9 ≤ 9223372036854775807 by decide), Option.bind_some]
    refine names_bad _ rfl ?_ (names_end _) 11 0 rfl
    intro i hi
    have hsb : ∀ s : ByteArray, s.size ≤ 100 → Nums.good s.data.toList = false → dec_Parse.f s = some ([], 4) := fun s h1 h2 => parse_bad s (by omega) h2
    rcases (show i = 0 ∨ i = 1 ∨ i = 2 ∨ i = 3 ∨ i = 4 ∨ i = 5 ∨ i = 6 ∨ i = 7 ∨ i = 8 ∨ i = 9 ∨ i = 10 by omega) with rfl | rfl | rfl | rfl | rfl | rfl | rfl | rfl | rfl | rfl | rfl
    all_goals exact hsb _ (by decide) (by decide)
  have hl0 : Nums.Ev (fun k => alidadelaw04_DecNames.l0 k (Nums.toL 1) [1, 8, 9, 10, 17, 18, 19, 27, 28, 100] 10 0) true := by
    refine names_round 1 (by decide) (by decide) _ 0 (by decide) (by decide) rfl rfl ?_
    refine names_round 8 (by decide) (by decide) _ 1 (by decide) (by decide) rfl rfl ?_
    refine names_round 9 (by decide) (by decide) _ 2 (by decide) (by decide) rfl rfl ?_
    refine names_round 10 (by decide) (by decide) _ 3 (by decide) (by decide) rfl rfl ?_
    refine names_round 17 (by decide) (by decide) _ 4 (by decide) (by decide) rfl rfl ?_
    refine names_round 18 (by decide) (by decide) _ 5 (by decide) (by decide) rfl rfl ?_
    refine names_round 19 (by decide) (by decide) _ 6 (by decide) (by decide) rfl rfl ?_
    refine names_round 27 (by decide) (by decide) _ 7 (by decide) (by decide) rfl rfl ?_
    refine names_round 28 (by decide) (by decide) _ 8 (by decide) (by decide) rfl rfl ?_
    exact names_round 100 (by decide) (by decide) _ 9 (by decide) (by decide) rfl rfl hl1
  have hj0 : Nums.Ev (fun k => alidadelaw04_DecNames.j0 k false) true := by
    refine Nums.Ev.succ (g := fun k => (nat_Of.f k 1).bind fun t313 => ((some (([1, 8, 9, 10, 17, 18, 19, 27, 28, 100] : List Int) : List Int)).bind fun y316 => (alidadelaw04_DecNames.l0 k t313 y316 (y316.length : Int) 0))) (Nums.Ev.bind (f := fun k => nat_Of.f k 1) o1 hl0) fun k => by rw [alidadelaw04_DecNames.j0, if_neg (by decide)]
  unfold alidadelaw04_DecNames.f
  refine Nums.Ev.bind (f := fun k => alidadelaw04_works.f k) works_ev ?_
  simp only [if_true]
  refine Nums.Ev.bind (f := fun k => alidadelaw04_is.f k [] ⟨#[48]⟩) i0 ?_
  simp only [if_true]
  refine Nums.Ev.bind (f := fun k => nat_Of.f k 1) o1 (Nums.Ev.bind (f := fun k => alidadelaw04_is.f k (Nums.toL 1) ⟨#[49]⟩) i1 ?_)
  simp only [if_true]
  refine Nums.Ev.bind (f := fun k => nat_Of.f k 4294967295) o2 (Nums.Ev.bind (f := fun k => alidadelaw04_is.f k (Nums.toL 4294967295) _) i2 ?_)
  simp only [if_true]
  refine Nums.Ev.bind (f := fun k => nat_Of.f k 4294967296) o3 (Nums.Ev.bind (f := fun k => alidadelaw04_is.f k (Nums.toL 4294967296) _) i3 ?_)
  simp only [if_true]
  refine Nums.Ev.bind (f := fun k => nat_Of.f k 18446744073709551615) o4 (Nums.Ev.bind (f := fun k => alidadelaw04_is.f k (Nums.toL 18446744073709551615) _) i4 ?_)
  exact hj0

end Go.Proofs.YtjgloepeogelnaaDoor.Pure

/- The remainders of a natural by 10, 9 and 11, by its digits: over numbers and lists alone. No condition beyond the statement's own. -/
import Derived.Test.YtjgloepeogelnaaDoorPrx19
import Derived.OpenShut
namespace Go.Proofs.YtjgloepeogelnaaDoor.Pure
open Go.RowKit Go.Proofs.YtjgloepeogelnaaDoor.Pr Go.Proofs.YtjgloepeogelnaaDoorW.PrintWords Go.Proofs.YtjgloepeogelnaaDoorW.PrintLast
theorem rng_of_wf {l : List Int} (h : ∀ x ∈ l, (Lit.int .u32 x).wf = true) : Nums.rng l = true := by
  unfold Nums.rng
  rw [List.all_eq_true]
  intro x hx
  have := bounds_u32 (h x hx)
  simp
  omega
/-- A number, by its digits from the last one on; their sum; their sum, the signs to and fro. -/
def rv : List UInt8 → Nat
  | [] => 0
  | x :: xs => (x.toNat - 48) + 10 * rv xs
def ds : List UInt8 → Nat
  | [] => 0
  | x :: xs => (x.toNat - 48) + ds xs
def al : List UInt8 → Int
  | [] => 0
  | x :: xs => ((x.toNat - 48 : Nat) : Int) - al xs
theorem num_rv (l : List UInt8) : Nums.num l = rv l.reverse := by
  refine Nums.snoc_ind (p := fun l => Nums.num l = rv l.reverse) rfl ?_ l
  intro l b ih
  rw [Nums.num_snoc, ih, List.reverse_append, List.reverse_singleton, List.singleton_append, rv]
  omega
theorem rv_ds : ∀ l : List UInt8, rv l % 9 = ds l % 9
  | [] => rfl
  | x :: xs => by have := rv_ds xs; rw [rv, ds]; omega
theorem rv_al : ∀ l : List UInt8, ((rv l : Nat) : Int) % 11 = al l % 11
  | [] => rfl
  | x :: xs => by have := rv_al xs; rw [rv, al]; omega
theorem tmod_up (x : Int) : Int.tmod (Int.tmod x 11 + 11) 11 = x % 11 := by
  have h : Int.tmod x 11 + 11 = if 0 ≤ x then x % 11 + 11 else 11 - (-x) % 11 := by
    split
    · rename_i h; rw [Int.tmod_eq_emod_of_nonneg h]
    · have e : Int.tmod x 11 = -Int.tmod (-x) 11 := by rw [Int.neg_tmod, Int.neg_neg]
      rw [e, Int.tmod_eq_emod_of_nonneg (by omega)]
      omega
  rw [h]
  split
  · rw [Int.tmod_eq_emod_of_nonneg (by omega)]; omega
  · rw [Int.tmod_eq_emod_of_nonneg (by omega)]; omega
theorem w64_id {x : Int} (h0 : -9223372036854775808 ≤ x) (h1 : x ≤ 9223372036854775807) : wrap64 x = x := by unfold wrap64; omega
theorem w64_to {x y : Int} (e : x = y) (h0 : -9223372036854775808 ≤ y) (h1 : y ≤ 9223372036854775807) : wrap64 x = y := by subst e; exact w64_id h0 h1
theorem dd_idx (n i : Nat) (hi : i < n) (hn : n ≤ 4000) : wrap64 (wrap64 ((n : Int) - 1) - (i : Int)) = ((n - 1 - i : Nat) : Int) := by
  rw [w64_id (x := (n : Int) - 1) (by omega) (by omega)]
  exact w64_to (by omega) (by omega) (by omega)
theorem dd_step (i D : Nat) (s t : Int) (hi : i < 4000) (hD : D ≤ 9) (s0 : 0 ≤ s) (s1 : s ≤ 9 * i) (t0 : -(9 * i : Int) ≤ t) (t1 : t ≤ 9 * i) :
    wrap64 (s + (D : Int)) = s + D ∧ wrap64 (t + (D : Int)) = t + D ∧ wrap64 (t - (D : Int)) = t - D ∧ wrap64 ((i : Int) + 1) = ((i + 1 : Nat) : Int) :=
  ⟨w64_id (by omega) (by omega), w64_id (by omega) (by omega), w64_id (by omega) (by omega), w64_to (by omega) (by omega) (by omega)⟩
theorem dd_small (n m : Nat) (hm : 0 < m) (h : m ≤ 11) : wrap64 ((n % m : Nat) : Int) = ((n % m : Nat) : Int) := by
  have := Nat.mod_lt n hm
  exact w64_id (by omega) (by omega)
theorem dd_eleven (T : Int) (n : Nat) (h : ((n : Nat) : Int) % 11 = T % 11) : Int.tmod (wrap64 (Int.tmod T 11 + 11)) 11 = ((n % 11 : Nat) : Int) := by
  have hx := Int.tmod_lt_of_pos T (show (0 : Int) < 11 by decide)
  have hy : -11 < Int.tmod T 11 := by
    have e : Int.tmod T 11 = -Int.tmod (-T) 11 := by rw [Int.neg_tmod, Int.neg_neg]
    have := Int.tmod_lt_of_pos (-T) (show (0 : Int) < 11 by decide)
    omega
  rw [w64_id (by omega) (by omega), tmod_up, ← h]
  omega
theorem bt_list (l : List UInt8) (j : Nat) (h : j < l.length) : bt (⟨l.toArray⟩ : ByteArray) (j : Int) = l[j].toNat := by
  unfold bt
  rw [dif_pos (show (j : Int).toNat < (⟨l.toArray⟩ : ByteArray).size by rw [bytes_size]; omega)]
  rfl
theorem digits_loop (l0 : List Int) (l : List UInt8) (hl : l.length ≤ 4000) (hd : Nums.allDig l = true)
    (hend : Nums.Ev (fun k => alidadelaw04_DecDigits.l0 k l0 ⟨l.toArray⟩ (ds l.reverse : Int) (al l.reverse) (l.length : Int)) true) :
    ∀ (d i : Nat) (s t : Int), i + d = l.length → 0 ≤ s → s ≤ 9 * i → -(9 * i) ≤ t → t ≤ 9 * i → s + ds (l.reverse.drop i) = ds l.reverse → (if i % 2 = 0 then t + al (l.reverse.drop i) else t - al (l.reverse.drop i)) = al l.reverse →
      Nums.Ev (fun k => alidadelaw04_DecDigits.l0 k l0 ⟨l.toArray⟩ s t (i : Int)) true := by
  intro d
  induction d with
  | zero =>
    intro i s t hi _ _ _ _ h1 h2
    obtain rfl : i = l.length := by omega
    rw [List.drop_eq_nil_of_le (by simp)] at h1 h2
    simp only [ds, al, Int.add_zero, Int.sub_zero, ite_self] at h1 h2
    have h1' : s = (ds l.reverse : Int) := by omega
    rw [h1', h2]
    exact hend
  | succ d ih =>
    intro i s t hi s0 s1 t0 t1 h1 h2
    have hir : i < l.reverse.length := by rw [List.length_reverse]; omega
    have hir2 : i < l.length := by omega
    have hj : l.length - 1 - i < l.length := by omega
    have hr : l.reverse[i] = l[l.length - 1 - i] := List.getElem_reverse hir
    rw [List.drop_eq_getElem_cons hir, hr] at h1 h2
    have hb := Nums.allDig_iff.1 hd _ (List.getElem_mem hj)
    have hbt := bt_list l (l.length - 1 - i) hj
    obtain ⟨x, hx⟩ : ∃ x, l[l.length - 1 - i] = x := ⟨_, rfl⟩
    rw [hx] at h1 h2 hb hbt
    obtain ⟨D, hD⟩ : ∃ D : Nat, x.toNat - 48 = D := ⟨_, rfl⟩
    have hD9 : D ≤ 9 := by omega
    have e2 : ((x.toNat : Int) - 48) % 256 = D := by omega
    simp only [ds, al, hD] at h1 h2
    have hsz := bytes_size l
    have c1 : (i : Int) < (l.length : Int) := by omega
    have c2 : (0 : Int) ≤ ((l.length - 1 - i : Nat) : Int) := by omega
    have c3 : ((l.length - 1 - i : Nat) : Int) < (l.length : Int) := by omega
    by_cases hp : i % 2 = 0
    · rw [if_pos hp] at h2
      have c4 : Int.tmod (i : Int) 2 = 0 := by rw [Int.tmod_eq_emod_of_nonneg (by omega)]; omega
      have h3 := ih (i + 1) (s + D) (t + D) (by omega) (by omega) (by omega) (by omega) (by omega) (by omega) (by rw [if_neg (by omega)]; omega)
      refine h3.succ fun k => ?_
      obtain ⟨es, et, eu, ew⟩ := dd_step i D s t (by omega) hD9 s0 s1 t0 t1
      rw [alidadelaw04_DecDigits.l0, hsz, dd_idx l.length i hir2 hl, hbt, e2, es, et, ew, if_pos c1, if_pos c2, if_pos c3, if_pos c4]
    · rw [if_neg hp] at h2
      have c4 : ¬ Int.tmod (i : Int) 2 = 0 := by rw [Int.tmod_eq_emod_of_nonneg (by omega)]; omega
      have h3 := ih (i + 1) (s + D) (t - D) (by omega) (by omega) (by omega) (by omega) (by omega) (by omega) (by rw [if_pos (by omega)]; omega)
      refine h3.succ fun k => ?_
      obtain ⟨es, et, eu, ew⟩ := dd_step i D s t (by omega) hD9 s0 s1 t0 t1
      rw [alidadelaw04_DecDigits.l0, hsz, dd_idx l.length i hir2 hl, hbt, e2, es, eu, ew, if_pos c1, if_pos c2, if_pos c3, if_neg c4]
theorem ds_le : ∀ l : List UInt8, Nums.allDig l = true → ds l ≤ 9 * l.length
  | [], _ => Nat.le_refl _
  | x :: xs, h => by
    have h1 := Nums.allDig_iff.1 h
    have := ds_le xs (Nums.allDig_iff.2 (fun c hc => h1 c (List.mem_cons_of_mem _ hc)))
    have := h1 x List.mem_cons_self
    rw [ds, List.length_cons]
    omega
theorem al_le : ∀ l : List UInt8, Nums.allDig l = true → -(9 * l.length : Int) ≤ al l ∧ al l ≤ 9 * l.length
  | [], _ => by decide
  | x :: xs, h => by
    have h1 := Nums.allDig_iff.1 h
    have := al_le xs (Nums.allDig_iff.2 (fun c hc => h1 c (List.mem_cons_of_mem _ hc)))
    have := h1 x List.mem_cons_self
    rw [al, List.length_cons]
    omega
theorem DecDigits : alidadelaw04_DecDigits.Pure := by
  intro l0 _ _ hw
  have hr := rng_of_wf hw
  have hW := works_ev
  refine Nums.Ev.get (r := true) ?_
  have hT : Nums.Ev (fun k => alidadelaw04_DecDigits.j0 k l0 true) true := by
    refine Nums.Ev.succ (g := fun k => (alidadelaw04_works.f k).bind fun t => some t) (Nums.Ev.bind (f := fun k => alidadelaw04_works.f k) hW (Nums.Ev.some _)) fun k => ?_
    rw [alidadelaw04_DecDigits.j0, if_pos rfl]
  refine Nums.Ev.bind (f := fun k => alidadelaw04_works.f k) hW ?_
  simp only [if_true, nat_May_eq, Option.bind_some]
  by_cases h1 : (l0.length : Int) > 300
  · simp only [if_pos h1]
    exact hT
  · simp only [if_neg h1]
    cases hm : Nums.may l0 with
    | false => simpa using hT
    | true =>
      have hS := dec_Show_eq l0 hr hm
      have a10 := div_Small_ev l0 10 hr hm (by decide) (by decide)
      have a9 := div_Small_ev l0 9 hr hm (by decide) (by decide)
      have a11 := div_Small_ev l0 11 hr hm (by decide) (by decide)
      rw [show (10 : Int).toNat = 10 from rfl] at a10
      rw [show (9 : Int).toNat = 9 from rfl] at a9
      rw [show (11 : Int).toNat = 11 from rfl] at a11
      have hlen : (Nums.deci (Nums.val l0)).length ≤ 3200 := by
        rw [Nums.deci_len_le (by decide)]
        exact Nat.lt_of_lt_of_le (Nums.val_lt hr) (Nat.le_trans (Nums.pow_pow_le 4294967296 10 10 l0.length (by decide)) (Nums.pow_le_gen 10 (10 * l0.length) 3200 (by decide) (by omega)))
      have hdig := Nums.deci_dig (Nums.val l0)
      have hpos := Nums.deci_pos (Nums.val l0)
      have hnum := Nums.num_deci (Nums.val l0)
      obtain ⟨n, hn⟩ : ∃ n, Nums.val l0 = n := ⟨_, rfl⟩
      rw [hn] at hS a10 a9 a11 hlen hdig hpos hnum
      obtain ⟨l, hl⟩ : ∃ l, Nums.deci n = l := ⟨_, rfl⟩
      rw [hl] at hS hlen hdig hpos hnum
      rw [num_rv] at hnum
      have hdr : Nums.allDig l.reverse = true := Nums.allDig_iff.2 (fun b hb => Nums.allDig_iff.1 hdig b (List.mem_reverse.1 hb))
      have b1 := ds_le _ hdr
      have b2 := al_le _ hdr
      rw [List.length_reverse] at b1 b2
      have m9 := rv_ds l.reverse
      have m11 := rv_al l.reverse
      rw [hnum] at m9 m11
      have hlast : n % 10 = (l[l.length - 1]'(by omega)).toNat - 48 := by
        have h2 : l.reverse = l.reverse[0]'(by rw [List.length_reverse]; omega) :: l.reverse.drop 1 := by
          have := List.drop_eq_getElem_cons (l := l.reverse) (i := 0) (by rw [List.length_reverse]; omega)
          simpa using this
        have h3 : l.reverse[0]'(by rw [List.length_reverse]; omega) = l[l.length - 1]'(by omega) := by rw [List.getElem_reverse]; rfl
        rw [h3] at h2
        rw [← hnum, h2, rv]
        have := Nums.allDig_iff.1 hdig _ (List.getElem_mem (show l.length - 1 < l.length by omega))
        omega
      have hbl := Nums.allDig_iff.1 hdig _ (List.getElem_mem (show l.length - 1 < l.length by omega))
      have hbt := bt_list l (l.length - 1) (by omega)
      have hsz := bytes_size l
      have hend : Nums.Ev (fun k => alidadelaw04_DecDigits.l0 k l0 ⟨l.toArray⟩ (ds l.reverse : Int) (al l.reverse) (l.length : Int)) true := by
        obtain ⟨S, hSS⟩ : ∃ S, ds l.reverse = S := ⟨_, rfl⟩
        obtain ⟨T, hTT⟩ : ∃ T, al l.reverse = T := ⟨_, rfl⟩
        rw [hSS] at b1 m9
        rw [hTT] at b2 m11
        rw [hSS, hTT]
        have e9 : Int.tmod (S : Int) 9 = ((n % 9 : Nat) : Int) := by rw [Int.tmod_eq_emod_of_nonneg (by omega)]; omega
        have e10 : ((n % 10 : Nat) : Int) = (((l[l.length - 1]'(by omega)).toNat : Int) - 48) % 256 := by omega
        refine Nums.Ev.succ (g := fun k => (div_Small.f k l0 10).bind fun bt345 => ((div_Small.f k l0 9).bind fun bt350 => ((div_Small.f k l0 11).bind fun bt355 => (if bt345.2.2 = 0 then (if bt350.2.2 = 0 then (if bt355.2.2 = 0 then (if (l.length : Int) > 0 then (if 0 ≤ ((l.length - 1 : Nat) : Int) then (if ((l.length - 1 : Nat) : Int) < (l.length : Int) then (if (wrap64 (bt345.2.1)) = ((n % 10 : Nat) : Int) then (if (wrap64 (bt350.2.1)) = ((n % 9 : Nat) : Int) then (some ((wrap64 (bt355.2.1)) == ((n % 11 : Nat) : Int))) else (some false)) else (some false)) else (none)) else (none)) else (some false)) else (some false)) else (some false)) else (some false))))) ?_ fun k => ?_
        · refine Nums.Ev.bind (f := fun k => div_Small.f k l0 10) a10 (Nums.Ev.bind (f := fun k => div_Small.f k l0 9) a9 (Nums.Ev.bind (f := fun k => div_Small.f k l0 11) a11 (Nums.Ev.of fun _ => ?_)))
          rw [dd_small n 10 (by decide) (by decide), dd_small n 9 (by decide) (by decide), dd_small n 11 (by decide) (by decide)]
          simp only [if_true, beq_self_eq_true]
          rw [if_pos (by omega), if_pos (by omega), if_pos (by omega)]
        · rw [alidadelaw04_DecDigits.l0, hsz, if_neg (Int.lt_irrefl _), w64_to (x := (l.length : Int) - 1) (y := ((l.length - 1 : Nat) : Int)) (by omega) (by omega) (by omega), hbt, ← e10, e9, dd_eleven T n m11]
      have hloop := digits_loop l0 l (by omega) hdig hend l.length 0 0 0 (by omega) (by decide) (by decide) (by decide) (by decide) (by simp) (by simp)
      refine hloop.succ fun k => ?_
      rw [alidadelaw04_DecDigits.j0]
      simp only [Bool.not_true, Bool.false_eq_true, if_false, hS, Option.bind_some]
      rfl

end Go.Proofs.YtjgloepeogelnaaDoor.Pure

/- Functions with the same answers as the Go functions of the program, with the proofs that the program comes to just these answers; no condition but those that each theorem names. (Laid by this work's own program mk.py out of the translation.) -/
import Derived.Test.YtjgloepeogelnaaDoorPrx0
import Derived.Test.YtjgloepeogelnaaDoorPrx1
import Derived.Test.YtjgloepeogelnaaDoorPrx3
import Derived.Test.YtjgloepeogelnaaDoorPrx5
import Derived.Test.YtjgloepeogelnaaDoorPrx7
import Derived.Test.YtjgloepeogelnaaDoorPrx10
import Derived.Test.YtjgloepeogelnaaDoorPrx11
import Derived.Test.YtjgloepeogelnaaDoorPrx12
import Derived.Test.YtjgloepeogelnaaDoorPrx13
namespace Go.Proofs.YtjgloepeogelnaaDoor.Pr
open Go.RowKit Go.Proofs.YtjgloepeogelnaaDoorW.PrintWords Go.Proofs.YtjgloepeogelnaaDoorW.PrintLast Go.Proofs.YtjgloepeogelnaaDoorW.PrintMore
attribute [local go_sem] max2_int min2_int max_two min_two max_three min_three max_four min_four   -- for this text's walks alone
set_option linter.unusedVariables false
set_option linter.unusedSimpArgs false

/-! ### div_DivMod: function 44 -/
set_option maxRecDepth 100000 in
set_option maxHeartbeats 1000000 in
theorem div_DivMod.calls_bad (A0 : Option Addr) (c0 : Nat) (l0 : List Int) (A1 : Option Addr) (c1 : Nat) (l1 : List Int) (w : World) (hr0 : Kd.C (Kd.int .u32) w A0 l0.length l0) (hc0 : l0.length ≤ c0) (hr1 : Kd.C (Kd.int .u32) w A1 l1.length l1) (hc1 : l1.length ≤ c1) (h : (Nums.may l0 && Nums.may l1) = false) :
    Calls Tryd.prog 44 #[.slice A0 l0.length c0, .slice A1 l1.length c1] w fun e w' => e = .returned (.tuple #[.slice none 0 0, .slice none 0 0, .int .i64 4]) ∧ Below w.heap.size w w' := by
  have HM0 := Aside0.mk (nat_May.calls A0 c0 l0 _ w hr0 hc0 (nat_May_eq l0))
  have HM1 := Aside0.mk (fun nd => nat_May.calls A1 c1 l1 _ (w.drewN nd) (Kd.C_drewN hr1 nd) hc1 (nat_May_eq l1))
  clear hr0 hc0 hr1 hc1
  by_cases h0 : Nums.may l0 = true
  · rw [h0, Bool.true_and] at h
    rw [h0] at HM0
    rw [h] at HM1
    clear h h0
    go_enter Tryd.func44, Tryd.ntmps44
    go_wp2_with fail
    refine HM0.out.mono ?_
    rintro e w' ⟨rfl, ⟨nd, rfl⟩⟩
    go_wp2_with fail
    refine (HM1.out nd).mono ?_
    rintro e w' ⟨rfl, ⟨nd2, rfl⟩⟩
    go_wp2_with fail
    go_ret3
    exact ⟨rfl, pw_below_drewN (Below.refl _ _) _⟩
  · rw [Bool.not_eq_true] at h0
    rw [h0] at HM0
    clear h h0 HM1
    go_enter Tryd.func44, Tryd.ntmps44
    go_wp2_with fail
    refine HM0.out.mono ?_
    rintro e w' ⟨rfl, ⟨nd, rfl⟩⟩
    go_wp2_with fail
    go_ret3
    exact ⟨rfl, pw_below_drewN (Below.refl _ _) _⟩
set_option maxRecDepth 100000 in
set_option maxHeartbeats 1000000 in
theorem div_DivMod.calls_zero (A0 : Option Addr) (c0 : Nat) (l0 : List Int) (A1 : Option Addr) (c1 : Nat) (w : World) (hr0 : Kd.C (Kd.int .u32) w A0 l0.length l0) (hc0 : l0.length ≤ c0) (hr1 : Kd.C (Kd.int .u32) w A1 0 []) (hc1 : 0 ≤ c1) (h : Nums.may l0 = true) :
    Calls Tryd.prog 44 #[.slice A0 l0.length c0, .slice A1 0 c1] w fun e w' => e = .returned (.tuple #[.slice none 0 0, .slice none 0 0, .int .i64 41]) ∧ Below w.heap.size w w' := by
  have HM0 := Aside0.mk (nat_May.calls A0 c0 l0 _ w hr0 hc0 (nat_May_eq l0))
  have HM1 := Aside0.mk (fun nd => nat_May.calls A1 c1 [] _ (w.drewN nd) (Kd.C_drewN hr1 nd) hc1 (nat_May_eq []))
  clear hr0 hc0 hr1 hc1
  rw [h] at HM0
  clear h
  go_enter Tryd.func44, Tryd.ntmps44
  go_wp2_with fail
  refine HM0.out.mono ?_
  rintro e w' ⟨rfl, ⟨nd, rfl⟩⟩
  go_wp2_with fail
  refine (HM1.out nd).mono ?_
  rintro e w' ⟨rfl, ⟨nd2, rfl⟩⟩
  rw [show Nums.may [] = true from rfl]
  go_wp2_with fail
  go_ret3
  exact ⟨rfl, pw_below_drewN (Below.refl _ _) _⟩
set_option maxRecDepth 100000 in
set_option maxHeartbeats 1000000 in
theorem div_DivMod.calls_one (A0 : Option Addr) (c0 : Nat) (l0 : List Int) (A1 : Option Addr) (c1 : Nat) (x : Int) (q : List Int) (r : Int) (R : List Int) (k : Nat) (w : World) (hr0 : Kd.C (Kd.int .u32) w A0 l0.length l0) (hc0 : l0.length ≤ c0) (hr1 : Kd.C (Kd.int .u32) w A1 1 [x]) (hc1 : 1 ≤ c1) (h : Nums.may l0 = true) (h1 : Nums.may [x] = true)
    (hs : div_Small.f k l0 x = some (q, r, 0)) (hr : 0 ≤ r ∧ r < 4294967296) (ho : nat_Of.f k r = some R) :
    Calls Tryd.prog 44 #[.slice A0 l0.length c0, .slice A1 1 c1] w fun e w' => ∃ v0_ v1_ : Value, e = .returned (.tuple #[v0_, v1_, .int .i64 0]) ∧ Kd.R (Kd.int .u32) 39 w' w.heap.size (fun k_ => some k_ ≠ (v1_ : Value).ownBlock) v0_ q ∧ Kd.R (Kd.int .u32) 39 w' w.heap.size (fun k_ => some k_ ≠ (v0_ : Value).ownBlock) v1_ R ∧ Below w.heap.size w w' := by
  have HM0 := Aside0.mk (nat_May.calls A0 c0 l0 _ w hr0 hc0 (nat_May_eq l0))
  have HM1 := Aside0.mk (fun nd => nat_May.calls A1 c1 [x] _ (w.drewN nd) (Kd.C_drewN hr1 nd) hc1 (nat_May_eq [x]))
  have HS := Aside0.mk (fun nd => div_Small.calls k A0 c0 l0 x q r 0 (w.drewN nd) (Kd.C_drewN hr0 nd) hc0 hs)
  have HO := Aside0.mk ho
  obtain ⟨ad, hA, hcell⟩ := Kd.at_int hr1 0 (by decide) (by decide)
  subst hA
  rw [h] at HM0
  rw [h1] at HM1
  have hx : rd [x] 0 = x := rfl
  rw [hx, Int.toNat_zero, show ad.add 0 = ad from rfl] at hcell
  have hra := hr.1
  have hrb := hr.2
  clear hr0 hc0 hr1 hc1 h h1 hs ho hx hr
  go_enter Tryd.func44, Tryd.ntmps44
  go_wp2_with fail
  refine HM0.out.mono ?_
  rintro e w' ⟨rfl, ⟨nd, rfl⟩⟩
  go_wp2_with fail
  refine (HM1.out nd).mono ?_
  rintro e w' ⟨rfl, ⟨nd2, rfl⟩⟩
  go_wp2_with fail
  refine (HS.out _).mono ?_
  rintro e w1 ⟨v0, rfl, hR1, hB1⟩
  have HR1 := Aside0.mk hR1
  have HB1 := Aside0.mk hB1
  clear hR1 hB1
  go_wp2_with fail
  refine (nat_Of.calls k r R w1 HO.out).mono ?_
  rintro e w2 ⟨v1, rfl, hR2, hB2⟩
  have HR2 := Aside0.mk hR2
  have HB2 := Aside0.mk hB2
  clear hR2 hB2
  go_wp2_with fail
  go_ret3
  refine ⟨_, _, rfl, ?_, ?_, ?_⟩
  · exact Kd.R_mono (Kd.R_elder' (Kd.R_lower HR1.out (by simp)) (Kd.R_base HR2.out) HB2.out) (fun _ hk => hk.2)
  · exact Kd.R_mono (Kd.R_lower (Kd.R_new' HR2.out (Kd.R_lt HR1.out)) (Nat.le_trans (by simp) HB1.out.size)) (fun _ hk => hk.2)
  · have h1 := pw_below_drewN (Below.refl w.heap.size w) (nd + nd2)
    exact (h1.trans (HB1.out.mono (by simp))).trans (HB2.out.mono (Nat.le_trans (by simp) HB1.out.size))

set_option maxRecDepth 100000 in
set_option maxHeartbeats 1000000 in
theorem div_DivMod.calls_less (A0 : Option Addr) (c0 : Nat) (l0 : List Int) (A1 : Option Addr) (c1 : Nat) (l1 : List Int) (w : World) (hr0 : Kd.C (Kd.int .u32) w A0 l0.length l0) (hc0 : l0.length ≤ c0) (hr1 : Kd.C (Kd.int .u32) w A1 l1.length l1) (hc1 : l1.length ≤ c1) (h : Nums.may l0 = true) (h1 : Nums.may l1 = true) (hl : 1 < l1.length)
    (hs : nat_Cmp.f l0 l1 = some (-1)) :
    Calls Tryd.prog 44 #[.slice A0 l0.length c0, .slice A1 l1.length c1] w fun e w' => ∃ v1_ : Value, e = .returned (.tuple #[.slice none 0 0, v1_, .int .i64 0]) ∧ Kd.R (Kd.int .u32) 39 w' w.heap.size (fun _ => True) v1_ l0 ∧ Below w.heap.size w w' := by
  have HM0 := Aside0.mk (nat_May.calls A0 c0 l0 _ w hr0 hc0 (nat_May_eq l0))
  have HM1 := Aside0.mk (fun nd => nat_May.calls A1 c1 l1 _ (w.drewN nd) (Kd.C_drewN hr1 nd) hc1 (nat_May_eq l1))
  have HS := Aside0.mk (fun nd => nat_Cmp.calls A0 c0 l0 A1 c1 l1 (-1) (w.drewN nd) (Kd.C_drewN hr0 nd) hc0 (Kd.C_drewN hr1 nd) hc1 hs)
  have HR0 := Aside0.mk hr0
  have hla := (Nums.may_iff.1 h).1
  rw [h] at HM0
  rw [h1] at HM1
  have d1 : ((l1.length : Int) == 0) = false := beq_eq_false_iff_ne.mpr (by omega)
  have d2 : ((l1.length : Int) == 1) = false := beq_eq_false_iff_ne.mpr (by omega)
  clear hr0 hc0 hr1 hc1 h h1 hs
  go_enter Tryd.func44, Tryd.ntmps44
  go_wp2_with fail
  refine HM0.out.mono ?_
  rintro e w' ⟨rfl, ⟨nd, rfl⟩⟩
  go_wp2_with fail
  refine (HM1.out nd).mono ?_
  rintro e w' ⟨rfl, ⟨nd2, rfl⟩⟩
  go_wp2_with fail
  refine (HS.out _).mono ?_
  rintro e w1 ⟨rfl, hB1⟩
  have HB1 := Aside0.mk ((pw_below_drewN (Below.refl w.heap.size w) (nd + nd2)).trans (hB1.mono (by simp)))
  clear hB1
  go_wp2_with ((with_reducible refine gate_builtin (b := .append) (xs := #[.const (.slice none 0 0), .tmp 56]) rfl ?_); at_builtin; refine Kd.R_append_rows (Kd.int .u32) (w0 := w) w.heap.size rfl (.const (.slice none 0 0)) (.tmp 56) 22 39 (.int .u32 0) 4 rfl Tryd.underlying22 info39 rfl (by decide) (by omega) (.slice none 0 0) ([] : List Int) l0 _ _ _ (fun _ => True) (fun _ => False) rfl rfl ?aO ?aR (fun _ _ h => h) (fun _ h => h.elim) ?aF ?aB ?aS ?aL ?_; (case aR => exact Kd.C_below HR0.out HB1.out); (case aB => exact HB1.out); (case aF => exact (fun _ _ => trivial)); (case aO => exact Kd.R_nil _ _ _ _ _); (case aS => exact below_size HB1.out); (case aL => simp; omega); intro v1 w2 ho hb hg hat; have HR := Aside0.mk ho; have HB := Aside0.mk hb; clear ho hb hg hat)
  go_ret3
  exact ⟨_, rfl, HR.out, HB.out⟩
theorem val_get {l : List Int} {i : Nat} (hi : i < l.length) : Nums.val (l.drop i) = l[i].toNat + 4294967296 * Nums.val (l.drop (i + 1)) := Nums.val_drop l i hi
theorem val_low {l : List Int} (hr : Nums.rng l = true) (m : Nat) (hm : m ≤ l.length) : Nums.val l = Nums.val (l.take m) + 4294967296 ^ m * Nums.val (l.drop m) ∧ Nums.val (l.take m) < 4294967296 ^ m := by
  refine ⟨Nums.val_take_drop l m hm, ?_⟩
  have := Nums.val_lt (Nums.rng_take hr m)
  rw [List.length_take, Nat.min_eq_left hm] at this
  exact this
/-- The three greatest limbs of a window, and the two of the divisor, and the window's quotient. -/
theorem dm_guess {U v : List Int} {i m Q u2 u1 u0 x1 x0 : Nat} (hm : v.length = m + 2) (hU : Nums.rng U = true) (hv : Nums.rng v = true) (hi : i + m + 2 < U.length) (hz : Nums.val U < 4294967296 ^ i * (Nums.val v * 4294967296))
    (hu2 : (U[i + m + 2]'hi) = (u2 : Int)) (hu1 : (U[i + m + 1]'(by omega)) = (u1 : Int)) (hu0 : (U[i + m]'(by omega)) = (u0 : Int)) (hx1 : (v[m + 1]'(by omega)) = (x1 : Int)) (hx0 : (v[m]'(by omega)) = (x0 : Int))
    (hv1 : 0 < x1) (hg : GuessOk ((u2 * 4294967296 + u1) * 4294967296 + u0) (x1 * 4294967296 + x0) Q) :
    Nums.val U / 4294967296 ^ i / Nums.val v ≤ Q ∧ Q ≤ Nums.val U / 4294967296 ^ i / Nums.val v + 1 := by
  obtain ⟨a1, a2⟩ := val_low hU i (by omega)
  have hB0 : 0 < 4294967296 ^ i := Nat.pow_pos (by decide)
  have hW : Nums.val U / 4294967296 ^ i = Nums.val (U.drop i) := by
    rw [a1, Nat.add_mul_div_left _ _ hB0, Nat.div_eq_of_lt a2, Nat.zero_add]
  have hUd := Nums.rng_drop hU i
  have hdl : (U.drop i).length = U.length - i := List.length_drop
  obtain ⟨w1, w2⟩ := val_low hUd m (by omega)
  rw [List.drop_drop] at w1
  obtain ⟨d1, d2⟩ := val_low hv m (by omega)
  have dv0 := val_get (l := v) (i := m) (by omega)
  have dv1 := val_get (l := v) (i := m + 1) (by omega)
  have dv2 : Nums.val (v.drop (m + 1 + 1)) = 0 := by rw [List.drop_eq_nil_of_le (by omega)]; rfl
  rw [dv2] at dv1
  rw [hx1] at dv1
  rw [hx0, dv1] at dv0
  have du0 := val_get (l := U) (i := i + m) (by omega)
  have du1 := val_get (l := U) (i := i + m + 1) (by omega)
  have du2 := val_get (l := U) (i := i + m + 2) hi
  rw [hu2] at du2
  rw [hu1] at du1
  rw [hu0] at du0
  have hV := Nums.val_lt hv
  rw [hm] at hV
  have hzero : Nums.val (U.drop (i + m + 2 + 1)) = 0 := by
    have b1 := Nums.val_take_drop U (i + m + 2 + 1) (by omega)
    apply Decidable.byContradiction
    intro hne
    have b2 : 4294967296 ^ (i + m + 2 + 1) ≤ 4294967296 ^ (i + m + 2 + 1) * Nums.val (U.drop (i + m + 2 + 1)) := Nat.le_mul_of_pos_right _ (by omega)
    have b3 : 4294967296 ^ i * (Nums.val v * 4294967296) < 4294967296 ^ (i + m + 2 + 1) := by
      rw [show i + m + 2 + 1 = i + ((m + 2) + 1) by omega, Nat.pow_add, Nat.pow_succ 4294967296 (m + 2)]
      exact Nat.mul_lt_mul_of_pos_left (Nat.mul_lt_mul_of_pos_right hV (by decide)) hB0
    omega
  rw [hzero] at du2
  rw [show i + m + 1 + 1 = i + m + 2 by omega, du2] at du1
  rw [du1] at du0
  rw [hW]
  have hT : Nums.val (U.drop (i + m)) = (u2 * 4294967296 + u1) * 4294967296 + u0 := by rw [du0]; simp only [Int.toNat_natCast]; omega
  have hV2 : Nums.val (v.drop m) = x1 * 4294967296 + x0 := by rw [dv0]; simp only [Int.toNat_natCast]; omega
  rw [hT] at w1
  rw [hV2] at d1
  have hP : 0 < 4294967296 ^ m := Nat.pow_pos (by decide)
  have hWlt : Nums.val (U.drop i) < Nums.val v * 4294967296 := by
    apply Nat.lt_of_mul_lt_mul_left (a := 4294967296 ^ i)
    omega
  clear du0 du1 du2 dv0 dv1 dv2 hzero hu2 hu1 hu0 hx1 hx0 hT hV2 hz a1 a2 hB0 hW
  obtain ⟨T, hTT⟩ : ∃ T, (u2 * 4294967296 + u1) * 4294967296 + u0 = T := ⟨_, rfl⟩
  obtain ⟨Y, hYY⟩ : ∃ Y, x1 * 4294967296 + x0 = Y := ⟨_, rfl⟩
  have hYB : 4294967296 ≤ Y := by omega
  rw [hTT] at w1 hg
  rw [hYY] at d1 hg
  clear hTT hYY hv1
  refine guess_near hP hg ?_ ?_ ?_ ?_ hWlt ?_
  · rw [w1, Nat.mul_comm]; omega
  · rw [w1, Nat.add_mul, Nat.one_mul, Nat.mul_comm T]; omega
  · rw [d1, Nat.mul_comm]; omega
  · rw [d1, Nat.add_mul, Nat.one_mul, Nat.mul_comm Y]; omega
  · have : 4294967296 * 4294967296 ^ m ≤ Y * 4294967296 ^ m := Nat.mul_le_mul_right _ hYB
    rw [d1, Nat.mul_comm _ Y]
    omega
/-- Where nothing was borrowed. -/
theorem dm_fits {u u1 Pi W V Q lo : Nat} (hu : u = lo + Pi * W) (hlo : lo < Pi) (hV : 0 < V) (h : u1 + Pi * (Q * V) = u) (hQ : W / V ≤ Q) : Q = W / V ∧ u1 = lo + Pi * (W % V) := by
  have h1 : Pi * (Q * V) < Pi * (W + 1) := by rw [Nat.mul_add, Nat.mul_one]; omega
  have h2 : Q * V < W + 1 := Nat.lt_of_mul_lt_mul_left h1
  have h3 : Q ≤ W / V := (Nat.le_div_iff_mul_le hV).2 (by omega)
  have hq : Q = W / V := by omega
  refine ⟨hq, ?_⟩
  have h4 := Nat.div_add_mod W V
  subst hq
  have h5 : Pi * W = Pi * (W / V * V) + Pi * (W % V) := by rw [← Nat.mul_add, Nat.mul_comm (W / V)]; rw [h4]
  omega
/-- Where it was, and V was given back. -/
theorem dm_back {u u1 u2 Pi W V Q lo E z : Nat} (hu : u = lo + Pi * W) (hV : 0 < V) (h : u1 + Pi * (Q * V) = u + E) (hu1 : u1 < E) (hQ : Q ≤ W / V + 1) (hb : u2 + E * z = u1 + Pi * V) (hz : z ≤ 1) (hu2 : u2 < E) : Q = W / V + 1 ∧ u2 = lo + Pi * (W % V) := by
  have h1 : Pi * W < Pi * (Q * V) := by omega
  have h2 : W < Q * V := Nat.lt_of_mul_lt_mul_left h1
  have h3 : W / V < Q := (Nat.div_lt_iff_lt_mul hV).2 h2
  have hq : Q = W / V + 1 := by omega
  refine ⟨hq, ?_⟩
  subst hq
  have h4 := Nat.div_add_mod W V
  have h5 : Pi * W = Pi * (W / V * V) + Pi * (W % V) := by rw [← Nat.mul_add, Nat.mul_comm (W / V)]; rw [h4]
  have h6 : Pi * ((W / V + 1) * V) = Pi * (W / V * V) + Pi * V := by rw [Nat.add_mul, Nat.one_mul, Nat.mul_add]
  rw [h6] at h
  rcases Nat.le_one_iff_eq_zero_or_eq_one.1 hz with rfl | rfl
  · omega
  · omega
theorem bitLen_upper : ∀ (x : Nat), x < 2 ^ 64 → x < 2 ^ Lib.bitLen x := by
  intro x
  induction x using Nat.strongRecOn with
  | ind x ih =>
    intro h
    by_cases h0 : x = 0
    · subst h0; exact Nat.pos_of_ne_zero (by decide)
    · rw [Lib.bitLen_half x h0 h]
      have := ih (x / 2) (by omega) (by omega)
      rw [Nat.pow_add]
      omega
theorem bitLen_lower (x : Nat) (h0 : x ≠ 0) (h : x < 2 ^ 32) : 1 ≤ Lib.bitLen x ∧ Lib.bitLen x ≤ 32 ∧ 2 ^ (Lib.bitLen x - 1) ≤ x := by
  have h1 : Lib.bitLen x ≠ 0 := fun e => by have := bitLen_upper x (by omega); rw [e] at this; omega
  refine ⟨by omega, Lib.bitLen_le x 32 (by omega) h, ?_⟩
  refine Nat.le_of_not_lt fun hlt => ?_
  have := Lib.bitLen_le x (Lib.bitLen x - 1) (by have := Lib.bitLen_le x 32 (by omega) h; omega) hlt
  omega
/-- How far the highest limb is shifted. -/
theorem norm_shift {x : Int} (h0 : 0 < x) (h : x < 4294967296) : ∃ s : Nat, s < 32 ∧ (32 - (Lib.bitLen x.toNat : Int)) = (s : Int) ∧ 2147483648 ≤ x.toNat * 2 ^ s ∧ x.toNat * 2 ^ s < 4294967296 := by
  obtain ⟨a, b, c⟩ := bitLen_lower x.toNat (by omega) (by omega)
  have d := bitLen_upper x.toNat (by omega)
  refine ⟨32 - Lib.bitLen x.toNat, by omega, by omega, ?_, ?_⟩
  · have := Nat.mul_le_mul_right (2 ^ (32 - Lib.bitLen x.toNat)) c
    rw [← Nat.pow_add, show Lib.bitLen x.toNat - 1 + (32 - Lib.bitLen x.toNat) = 31 by omega] at this
    exact this
  · have := Nat.mul_lt_mul_of_pos_right d (show 0 < 2 ^ (32 - Lib.bitLen x.toNat) from Nat.two_pow_pos _)
    rw [← Nat.pow_add, show Lib.bitLen x.toNat + (32 - Lib.bitLen x.toNat) = 32 by omega] at this
    exact this
/-- The divisor, shifted so that its highest limb is full. -/
theorem norm_top {l : List Int} {s n : Nat} {x : Int} (hr : Nums.rng l = true) (hn : n < l.length) (hl : l.length = n + 1) (hx : l[n] = x) (hs : s < 32) (h1 : 2147483648 ≤ x.toNat * 2 ^ s) (h2 : x.toNat * 2 ^ s < 4294967296) :
    (Nums.toL (Nums.val l * 2 ^ s)).length = n + 1 ∧ ∀ h : n < (Nums.toL (Nums.val l * 2 ^ s)).length, 2147483648 ≤ (Nums.toL (Nums.val l * 2 ^ s))[n] := by
  have ht := Nums.val_take_succ l n hn
  rw [List.take_of_length_le (by omega), hx] at ht
  have hlt := Nums.val_lt (Nums.rng_take hr n)
  rw [List.length_take, Nat.min_eq_left (by omega)] at hlt
  have hd : 2 ^ s * 2 ^ (32 - s) = 4294967296 := by rw [← Nat.pow_add, show s + (32 - s) = 32 by omega]
  have h3 : (x.toNat + 1) * 2 ^ s ≤ 4294967296 := by
    rw [← hd, Nat.mul_comm]
    rw [← hd, Nat.mul_comm] at h2
    exact Nat.mul_le_mul_left _ (Nat.lt_of_mul_lt_mul_left h2)
  obtain ⟨S, hS⟩ : ∃ S, 2 ^ s = S := ⟨_, rfl⟩
  obtain ⟨G, hG⟩ : ∃ G, 4294967296 ^ n = G := ⟨_, rfl⟩
  obtain ⟨T, hT⟩ : ∃ T, Nums.val (l.take n) = T := ⟨_, rfl⟩
  rw [hS] at h1 h2 h3 ⊢
  rw [hT, hG] at ht
  rw [hT, hG] at hlt
  have hup : Nums.val l * S < 4294967296 ^ (n + 1) := by
    rw [Nat.pow_succ, hG, ht]
    have e : G * ((x.toNat + 1) * S) = G * S + G * x.toNat * S := by rw [Nat.add_mul, Nat.mul_add, Nat.one_mul, Nat.mul_assoc, Nat.add_comm]
    have e2 := Nat.mul_le_mul_left G h3
    have hS0 : 0 < S := by rw [← hS]; exact Nat.two_pow_pos _
    have e3 := Nat.mul_lt_mul_of_pos_right hlt hS0
    rw [Nat.add_mul]
    omega
  have hlo : G * 2147483648 ≤ Nums.val l * S := by
    rw [ht, Nat.add_mul]
    have e2 := Nat.mul_le_mul_left G h1
    rw [← Nat.mul_assoc] at e2
    omega
  obtain ⟨v, hv⟩ : ∃ v, Nums.toL (Nums.val l * S) = v := ⟨_, rfl⟩
  have hvv : Nums.val v = Nums.val l * S := by rw [← hv, Nums.val_toL]
  have hvr : Nums.rng v = true := by rw [← hv]; exact Nums.rng_toL _
  have l1 : v.length ≤ n + 1 := by rw [← hv]; exact Nums.len_toL_le.2 hup
  have l2 : ¬ v.length ≤ n := fun e => by rw [← hv] at e; have := Nums.len_toL_le.1 e; rw [hG] at this; omega
  rw [hv]
  refine ⟨by omega, fun h => ?_⟩
  have hvt := Nums.val_take_succ v n h
  rw [List.take_of_length_le (by omega), hG, hvv] at hvt
  have hlt2 := Nums.val_lt (Nums.rng_take hvr n)
  rw [List.length_take, Nat.min_eq_left (by omega), hG] at hlt2
  refine Int.not_lt.1 fun hlt3 => ?_
  have hle : v[n].toNat ≤ 2147483647 := by omega
  have := Nat.mul_le_mul_left G hle
  omega
/-- The main loop of DivMod, i rounds ahead: what is in q, what is left in u (D: the dividend, V: the divisor, both shifted). -/
structure MainInv (D V i : Nat) (U Q : List Int) (lu lq : Nat) : Prop where
  lu : U.length = lu
  lq : Q.length = lq
  ru : Nums.rng U = true
  rq : Nums.rng Q = true
  low : ∀ k (h : k < Q.length), k < i → Q[k] = 0
  eq : Nums.val Q * V + Nums.val U = D
  lt : Nums.val U < 4294967296 ^ i * V
theorem MainInv.next {D V i q lo lu lq : Nat} {U Q U' : List Int} (h : MainInv D V (i + 1) U Q lu lq) (hi : i < Q.length) (hV : 0 < V) (hl : U'.length = U.length) (hr : Nums.rng U' = true)
    (hu : Nums.val U = lo + 4294967296 ^ i * (Nums.val U / 4294967296 ^ i)) (hlo : lo < 4294967296 ^ i) (hq : q = Nums.val U / 4294967296 ^ i / V) (hU : Nums.val U' = lo + 4294967296 ^ i * (Nums.val U / 4294967296 ^ i % V)) :
    q < 4294967296 ∧ MainInv D V i U' (Q.set i (q : Int)) lu lq := by
  obtain ⟨W, hW⟩ : ∃ W, Nums.val U / 4294967296 ^ i = W := ⟨_, rfl⟩
  rw [hW] at hu hq hU
  have hB : 0 < 4294967296 ^ i := Nat.pow_pos (by decide)
  obtain ⟨G, hG⟩ : ∃ G, 4294967296 ^ i = G := ⟨_, rfl⟩
  have hlt := h.lt
  rw [Nat.pow_succ] at hlt
  rw [hG] at hu hlo hU hB hlt
  have hWV : W < 4294967296 * V := by
    have : G * W < G * (4294967296 * V) := by rw [← Nat.mul_assoc]; omega
    exact Nat.lt_of_mul_lt_mul_left this
  have hqb : q < 4294967296 := by rw [hq]; exact (Nat.div_lt_iff_lt_mul hV).2 hWV
  refine ⟨hqb, by rw [hl]; exact h.lu, by rw [List.length_set]; exact h.lq, hr, Nums.rng_set h.rq _ (by omega), ?_, ?_, ?_⟩
  · intro k hk hki
    rw [List.length_set] at hk
    rw [List.getElem_set_ne (by omega)]
    exact h.low k hk (by omega)
  · have hs := Nums.val_set Q i (q : Int) hi
    rw [h.low i hi (by omega), hG] at hs
    simp only [Int.toNat_zero, Nat.mul_zero, Nat.add_zero, Int.toNat_natCast] at hs
    have he := h.eq
    have hd := Nat.div_add_mod W V
    rw [← hq] at hd
    rw [hs, Nat.add_mul, hU, ← he, hu]
    have e := congrArg (fun t => G * t) hd.symm
    simp only [Nat.mul_add] at e
    have e3 : G * (V * q) = G * q * V := by rw [Nat.mul_comm V q, Nat.mul_assoc]
    omega
  · rw [hU, hG]
    have h1 : W % V + 1 ≤ V := Nat.mod_lt _ hV
    have h2 := Nat.mul_le_mul_left G h1
    rw [Nat.mul_add, Nat.mul_one] at h2
    omega
theorem MainInv.done {a b S lu lq : Nat} {U Q : List Int} (h : MainInv (a * S) (b * S) 0 U Q lu lq) (hS : 0 < S) (hb : 0 < b) : Nums.val Q = a / b ∧ Nums.val U / S = a % b ∧ Nums.val U < b * S := by
  have h1 := h.lt
  have h2 := h.eq
  rw [Nat.pow_zero, Nat.one_mul] at h1
  have hV : 0 < b * S := Nat.mul_pos hb hS
  have e1 : Nums.val Q = a * S / (b * S) := by
    rw [← h2, Nat.add_comm, Nat.add_mul_div_right _ _ hV, Nat.div_eq_of_lt h1, Nat.zero_add]
  have e2 : Nums.val U = a * S % (b * S) := by
    rw [← h2, Nat.add_comm, Nat.add_mul_mod_self_right, Nat.mod_eq_of_lt h1]
  refine ⟨by rw [e1, Nat.mul_div_mul_right _ _ hS], ?_, h1⟩
  rw [e2, Nat.mul_mod_mul_right, Nat.mul_div_cancel _ hS]
theorem MainInv.start {a S V la n lq : Nat} {U : List Int} (hU : U.length = la + 1) (hr : Nums.rng U = true) (hv : Nums.val U = a * S) (ha : a < 4294967296 ^ la) (hS : S ≤ 2147483648) (hS0 : 0 < S) (hV : 4294967296 ^ (n - 1) * 2147483648 ≤ V) (hn : 1 ≤ n) (hlq : lq + n = la + 1) :
    MainInv (a * S) V lq U (List.replicate lq 0) (la + 1) lq := by
  refine ⟨hU, List.length_replicate, hr, Nums.rng_zeros _, ?_, ?_, ?_⟩
  · intro k h _; rw [List.getElem_replicate]
  · rw [Nums.val_zeros, Nat.zero_mul, Nat.zero_add, hv]
  · rw [hv]
    have h1 : a * S < 4294967296 ^ la * S := Nat.mul_lt_mul_of_pos_right ha hS0
    have h2 : 4294967296 ^ la * S ≤ 4294967296 ^ la * 2147483648 := Nat.mul_le_mul_left _ hS
    have h3 : 4294967296 ^ lq * (4294967296 ^ (n - 1) * 2147483648) ≤ 4294967296 ^ lq * V := Nat.mul_le_mul_left _ hV
    rw [← Nat.mul_assoc, ← Nat.pow_add, show lq + (n - 1) = la by omega] at h3
    omega
/-- u while it is being filled. -/
theorem fill_set {out : List Int} {m : Nat} {y : Int} : (out ++ List.replicate (m + 1) 0).set out.length y = (out ++ [y]) ++ List.replicate m 0 := by
  rw [List.set_append_right _ _ (Nat.le_refl _), Nat.sub_self, List.replicate_succ, List.set_cons_zero, List.append_assoc]; rfl
theorem dm_norm {v : List Int} {n1 : Nat} (hl : v.length = n1 + 1) (hr : Nums.rng v = true) (h : n1 < v.length) (ht : 2147483648 ≤ v[n1]'h) : 4294967296 ^ n1 * 2147483648 ≤ Nums.val v := by
  rw [(val_low hr n1 (by omega)).1]
  have h1 := val_get (l := v) h
  have h2 : 2147483648 ≤ Nums.val (v.drop n1) := by omega
  exact Nat.le_trans (Nat.mul_le_mul_left _ h2) (Nat.le_add_left _ _)
theorem dm_top {U v : List Int} {i n1 : Nat} {u2 x1 : Int} (hl : v.length = n1 + 1) (hU : Nums.rng U = true) (hr : Nums.rng v = true) (hi : i + n1 + 1 < U.length) (hn : n1 < v.length) (hz : Nums.val U < 4294967296 ^ (i + 1) * Nums.val v) (h2 : U[i + n1 + 1]'hi = u2) (hx : v[n1]'hn = x1) : u2 ≤ x1 := by
  have hx0 := Nums.rng_get hr hn
  have hu0 := Nums.rng_get hU hi
  rw [hx] at hx0
  rw [h2] at hu0
  have e1 := (val_low hU (i + n1 + 1) (by omega)).1
  have e2 := val_get (l := U) hi
  rw [h2] at e2
  have e3 := (val_low hr n1 (by omega)).1
  have e4 := val_get (l := v) hn
  rw [hx, List.drop_of_length_le (l := v) (i := n1 + 1) (by omega)] at e4
  have e5 : Nums.val ([] : List Int) = 0 := rfl
  rw [e5, Nat.mul_zero, Nat.add_zero] at e4
  rw [e4] at e3
  have e6 := Nums.val_lt (Nums.rng_take hr n1)
  rw [List.length_take, Nat.min_eq_left (by omega)] at e6
  have e7 : Nums.val v < 4294967296 ^ n1 * (x1.toNat + 1) := by rw [Nat.mul_add, Nat.mul_one]; omega
  have e8 : 4294967296 ^ (i + n1 + 1) * u2.toNat ≤ Nums.val U := by
    rw [e1, e2, Nat.mul_add]; omega
  have e9 : 4294967296 ^ (i + 1) * Nums.val v < 4294967296 ^ (i + 1) * (4294967296 ^ n1 * (x1.toNat + 1)) := Nat.mul_lt_mul_of_pos_left e7 (Nat.pow_pos (by decide))
  rw [← Nat.mul_assoc, ← Nat.pow_add, show i + 1 + n1 = i + n1 + 1 by omega] at e9
  have e10 : 4294967296 ^ (i + n1 + 1) * u2.toNat < 4294967296 ^ (i + n1 + 1) * (x1.toNat + 1) := by omega
  have := Nat.lt_of_mul_lt_mul_left e10
  omega
theorem dm_high {U U1 : List Int} {k : Nat} (hr : Nums.rng U = true) (hr1 : Nums.rng U1 = true) (hl : U1.length = U.length) (hk : k ≤ U.length) (hlt : Nums.val U < 4294967296 ^ k) (hd : U1.drop k = U.drop k) : Nums.val U1 < 4294967296 ^ k := by
  have e1 := (val_low hr k hk).1
  have e2 := (val_low hr1 k (by omega)).1
  have e6 := Nums.val_lt (Nums.rng_take hr1 k)
  rw [List.length_take, Nat.min_eq_left (by omega)] at e6
  have e3 : Nums.val (U.drop k) = 0 := by
    refine Nat.eq_zero_of_not_pos fun hp => ?_
    have := Nat.le_mul_of_pos_right (4294967296 ^ k) hp
    omega
  rw [hd, e3, Nat.mul_zero, Nat.add_zero] at e2
  omega
/-- One round of the main loop where the guess fits. -/
theorem main_fits {D i q n1 lu lq : Nat} {v U Q U1 : List Int} {u2 u1 u0 x1 x0 : Int} (h : MainInv D (Nums.val v) (i + 1) U Q lu lq) (hiq : i < Q.length) (hv : v.length = n1 + 1) (hn : 1 ≤ n1) (hvr : Nums.rng v = true) (hi : i + n1 + 1 < U.length)
    (h2 : U[i + n1 + 1]'hi = u2) (h1 : U[i + n1]'(by omega) = u1) (h0 : U[i + n1 - 1]'(by omega) = u0) (hx1 : v[n1]'(by omega) = x1) (hx0 : v[n1 - 1]'(by omega) = x0) (hxp : 2147483648 ≤ x1) (hg : GuessOk ((u2.toNat * 4294967296 + u1.toNat) * 4294967296 + u0.toNat) (x1.toNat * 4294967296 + x0.toNat) q)
    (hl : U1.length = U.length) (hr : Nums.rng U1 = true) (he : Nums.val U1 + 4294967296 ^ i * (q * Nums.val v) = Nums.val U) : MainInv D (Nums.val v) i U1 (Q.set i (q : Int)) lu lq := by
  have hV : 0 < Nums.val v := Nat.lt_of_lt_of_le (Nat.mul_pos (Nat.pow_pos (by decide)) (by decide)) (dm_norm hv hvr (by omega) (by rw [hx1]; exact hxp))
  have hB : 0 < 4294967296 ^ i := Nat.pow_pos (by decide)
  have hlt := h.lt
  rw [Nat.pow_succ, Nat.mul_assoc, Nat.mul_comm 4294967296 (Nums.val v)] at hlt
  have r2 := Nums.rng_get h.ru hi
  have r1 := Nums.rng_get h.ru (show i + n1 < U.length by omega)
  have r0 := Nums.rng_get h.ru (show i + n1 - 1 < U.length by omega)
  have s1 := Nums.rng_get hvr (show n1 < v.length by omega)
  have s0 := Nums.rng_get hvr (show n1 - 1 < v.length by omega)
  obtain ⟨m, rfl⟩ : ∃ m, n1 = m + 1 := ⟨n1 - 1, by omega⟩
  have hg' := dm_guess (m := m) (Q := q) (u2 := u2.toNat) (u1 := u1.toNat) (u0 := u0.toNat) (x1 := x1.toNat) (x0 := x0.toNat) hv h.ru hvr hi hlt (by rw [← h2]; exact (Int.toNat_of_nonneg r2.1).symm) (by rw [← h1]; exact (Int.toNat_of_nonneg r1.1).symm) (by rw [← h0]; exact (Int.toNat_of_nonneg r0.1).symm) (by rw [← hx1]; exact (Int.toNat_of_nonneg s1.1).symm) (by rw [← hx0]; exact (Int.toNat_of_nonneg s0.1).symm) (by omega) hg
  have hu : Nums.val U = Nums.val U % 4294967296 ^ i + 4294967296 ^ i * (Nums.val U / 4294967296 ^ i) := (Nat.mod_add_div _ _).symm
  have hlo : Nums.val U % 4294967296 ^ i < 4294967296 ^ i := Nat.mod_lt _ hB
  obtain ⟨a, b⟩ := dm_fits hu hlo hV he hg'.1
  exact (h.next hiq hV hl hr hu hlo a b).2
/-- .. and where it was one too much. -/
theorem main_back {D i q z n1 lu lq : Nat} {v U Q U1 U2 : List Int} {u2 u1 u0 x1 x0 : Int} (h : MainInv D (Nums.val v) (i + 1) U Q lu lq) (hiq : i < Q.length) (hv : v.length = n1 + 1) (hn : 1 ≤ n1) (hvr : Nums.rng v = true) (hi : i + n1 + 1 < U.length)
    (h2 : U[i + n1 + 1]'hi = u2) (h1 : U[i + n1]'(by omega) = u1) (h0 : U[i + n1 - 1]'(by omega) = u0) (hx1 : v[n1]'(by omega) = x1) (hx0 : v[n1 - 1]'(by omega) = x0) (hxp : 2147483648 ≤ x1) (hg : GuessOk ((u2.toNat * 4294967296 + u1.toNat) * 4294967296 + u0.toNat) (x1.toNat * 4294967296 + x0.toNat) q)
    (hl : U1.length = U.length) (hr : Nums.rng U1 = true) (hd : U1.drop (i + v.length + 1) = U.drop (i + v.length + 1)) (he : Nums.val U1 + 4294967296 ^ i * (q * Nums.val v) = Nums.val U + 4294967296 ^ (i + v.length + 1) * 1)
    (hl2 : U2.length = U1.length) (hr2 : Nums.rng U2 = true) (hd2 : U2.drop (i + v.length + 1) = U1.drop (i + v.length + 1)) (hz : z ≤ 1) (he2 : Nums.val U2 + 4294967296 ^ (i + v.length + 1) * z = Nums.val U1 + 4294967296 ^ i * Nums.val v) : 1 ≤ q ∧ MainInv D (Nums.val v) i U2 (Q.set i ((q - 1 : Nat) : Int)) lu lq := by
  have hV : 0 < Nums.val v := Nat.lt_of_lt_of_le (Nat.mul_pos (Nat.pow_pos (by decide)) (by decide)) (dm_norm hv hvr (by omega) (by rw [hx1]; exact hxp))
  have hB : 0 < 4294967296 ^ i := Nat.pow_pos (by decide)
  have hlt := h.lt
  have hlt0 := h.lt
  rw [Nat.pow_succ, Nat.mul_assoc, Nat.mul_comm 4294967296 (Nums.val v)] at hlt
  have r2 := Nums.rng_get h.ru hi
  have r1 := Nums.rng_get h.ru (show i + n1 < U.length by omega)
  have r0 := Nums.rng_get h.ru (show i + n1 - 1 < U.length by omega)
  have s1 := Nums.rng_get hvr (show n1 < v.length by omega)
  have s0 := Nums.rng_get hvr (show n1 - 1 < v.length by omega)
  obtain ⟨m, rfl⟩ : ∃ m, n1 = m + 1 := ⟨n1 - 1, by omega⟩
  have hg' := dm_guess (m := m) (Q := q) (u2 := u2.toNat) (u1 := u1.toNat) (u0 := u0.toNat) (x1 := x1.toNat) (x0 := x0.toNat) hv h.ru hvr hi hlt (by rw [← h2]; exact (Int.toNat_of_nonneg r2.1).symm) (by rw [← h1]; exact (Int.toNat_of_nonneg r1.1).symm) (by rw [← h0]; exact (Int.toNat_of_nonneg r0.1).symm) (by rw [← hx1]; exact (Int.toNat_of_nonneg s1.1).symm) (by rw [← hx0]; exact (Int.toNat_of_nonneg s0.1).symm) (by omega) hg
  have hu : Nums.val U = Nums.val U % 4294967296 ^ i + 4294967296 ^ i * (Nums.val U / 4294967296 ^ i) := (Nat.mod_add_div _ _).symm
  have hlo : Nums.val U % 4294967296 ^ i < 4294967296 ^ i := Nat.mod_lt _ hB
  have hle : Nums.val U < 4294967296 ^ (i + v.length + 1) := by
    refine Nat.lt_of_lt_of_le hlt0 ?_
    have := Nat.mul_le_mul_left (4294967296 ^ (i + 1)) (Nat.le_of_lt (Nums.val_lt hvr))
    rw [← Nat.pow_add, show i + 1 + v.length = i + v.length + 1 by omega] at this
    exact this
  have hk : i + v.length + 1 ≤ U.length := by omega
  have hb1 := dm_high h.ru hr hl hk hle hd
  have hb2 := dm_high hr hr2 hl2 (by omega) hb1 hd2
  rw [Nat.mul_one] at he
  obtain ⟨a, b⟩ := dm_back hu hV he hb1 hg'.2 he2 hz hb2
  have a1 : 1 ≤ q := by rw [a]; exact Nat.succ_le_succ (Nat.zero_le _)
  have a2 : q - 1 = Nums.val U / 4294967296 ^ i / Nums.val v := by rw [a]; rfl
  exact ⟨a1, (h.next hiq hV (hl2.trans hl) hr2 hu hlo a2 b).2⟩
set_option maxRecDepth 100000 in
set_option maxHeartbeats 1000000 in
theorem div_cut.reads (A : Option Addr) (n c : Nat) (l : List Int) (w : World) (hr : Kd.C (Kd.int .u32) w A n l) (hc : n ≤ c) (hn : n ≤ 70368744177664) (hrng : Nums.rng l = true) :
    Calls Tryd.prog 50 #[.slice A n c] w fun e w' => e = .returned (.slice A (Nums.toL (Nums.val l)).length c) ∧ w = w' := by
  have hl : l.length = n := hr.1
  have HR := Aside0.mk hr
  have HG := Aside0.mk hrng
  have HL := Aside0.mk hl
  have HV : Aside0 (Nums.val l = Nums.val (l.take n)) := ⟨by rw [List.take_of_length_le (by omega)]⟩
  clear hr hrng hl
  go_enter Tryd.func50, Tryd.ntmps50
  go_wp2
  go_loop [0] (fun v => ∃ m : Nat, m ≤ n ∧ v = .slice A m c ∧ Aside0 (Nums.val l = Nums.val (l.take m))) (fun v => match v with | .slice _ m _ => m | _ => 0)
  case atStart => exact ⟨n, Nat.le_refl _, rfl, HV⟩
  case round =>
    obtain ⟨m, hm, rfl, HT⟩ := hrel
    by_cases h0 : m = 0
    · subst h0
      go_wp2
      go_ret
      refine ⟨?_, rfl⟩
      rw [HT.out, List.take_zero, show Nums.val [] = 0 from rfl, Nums.toL_zero]
      rfl
    · have hp : 0 < m := by omega
      obtain ⟨ad, hA, hcell⟩ := Kd.at_int HR.out ((m : Int) - 1) (by omega) (by omega)
      subst hA
      rw [show ((m : Int) - 1).toNat = m - 1 by omega] at hcell
      have d1 : decide (0 < m) = true := decide_eq_true hp
      clear h0
      by_cases hz : rd l ((m : Int) - 1) = 0
      · rw [hz] at hcell
        have HT2 : Aside0 (Nums.val l = Nums.val (l.take (m - 1))) := ⟨by rw [HT.out]; exact toL_take_zero hp (by have := HL.out; omega) hz⟩
        clear hz HT
        go_wp2
        go_round
        case rel => exact ⟨m - 1, by omega, rfl, HT2⟩
        case measure => simp; omega
      · obtain ⟨x, hx⟩ : ∃ x, rd l ((m : Int) - 1) = x := ⟨_, rfl⟩
        rw [hx] at hcell
        have hx0 : (x == 0) = false := by rw [← hx]; simpa using hz
        have HT2 := Aside0.mk (toL_take_top hp (by have := HL.out; omega) HG.out hz)
        clear hz hx
        go_wp2
        go_ret
        refine ⟨?_, rfl⟩
        rw [HT.out, HT2.out]
        rfl
theorem w64_sub {a b : Nat} (d : Nat) (h : a = b + d) (hd : a ≤ 17592186044416) : wrap64 ((a : Int) - (b : Int)) = (d : Int) := by unfold wrap64; omega
theorem w64_suc (d : Nat) (hd : d ≤ 17592186044416) : wrap64 ((d : Int) + 1) = (d : Int) + 1 := by unfold wrap64; omega
set_option maxRecDepth 100000 in
set_option maxHeartbeats 4000000 in
theorem div_DivMod.long (A0 : Option Addr) (c0 : Nat) (l0 : List Int) (A1 : Option Addr) (c1 : Nat) (l1 : List Int) (c : Int) (n1 : Nat) (w : World) (hr0 : Kd.C (Kd.int .u32) w A0 l0.length l0) (hc0 : l0.length ≤ c0) (hr1 : Kd.C (Kd.int .u32) w A1 l1.length l1) (hc1 : l1.length ≤ c1) (h : Nums.may l0 = true) (h1 : Nums.may l1 = true) (hg0 : Nums.rng l0 = true) (hg1 : Nums.rng l1 = true) (hl : l1.length = n1 + 1) (hn : 1 ≤ n1) (hle : l1.length ≤ l0.length)
    (hm1 : n1 < l1.length) (htop : 0 < l1[n1]'hm1) (hs : nat_Cmp.f l0 l1 = some c) (hc : 0 ≤ c) :
    Calls Tryd.prog 44 #[.slice A0 l0.length c0, .slice A1 l1.length c1] w fun e w' => ∃ v0_ v1_ : Value, e = .returned (.tuple #[v0_, v1_, .int .i64 0]) ∧ Kd.R (Kd.int .u32) 39 w' w.heap.size (fun k_ => some k_ ≠ (v1_ : Value).ownBlock) v0_ (Nums.lim (Nums.val l0 / Nums.val l1)) ∧ Kd.R (Kd.int .u32) 39 w' w.heap.size (fun k_ => some k_ ≠ (v0_ : Value).ownBlock) v1_ (Nums.lim (Nums.val l0 % Nums.val l1)) ∧ Below w.heap.size w w' := by
  have HM0 := Aside0.mk (nat_May.calls A0 c0 l0 _ w hr0 hc0 (nat_May_eq l0))
  have HM1 := Aside0.mk (fun nd => nat_May.calls A1 c1 l1 _ (w.drewN nd) (Kd.C_drewN hr1 nd) hc1 (nat_May_eq l1))
  have HS := Aside0.mk (fun nd => nat_Cmp.calls A0 c0 l0 A1 c1 l1 c (w.drewN nd) (Kd.C_drewN hr0 nd) hc0 (Kd.C_drewN hr1 nd) hc1 hs)
  have HR0 := Aside0.mk hr0
  have HR1 := Aside0.mk hr1
  have hla := (Nums.may_iff.1 h).1
  have HG0 := Aside0.mk hg0
  have HG1 := Aside0.mk hg1
  have HMY := Aside0.mk h1
  rw [h] at HM0
  rw [h1] at HM1
  have d1 : ((l1.length : Int) == 0) = false := beq_eq_false_iff_ne.mpr (by omega)
  have d2 : ((l1.length : Int) == 1) = false := beq_eq_false_iff_ne.mpr (by omega)
  have HC1 := Aside0.mk hc1
  obtain ⟨x, hx⟩ : ∃ x, l1[n1]'hm1 = x := ⟨_, rfl⟩
  have hxr := Nums.rng_get hg1 (i := n1) (by omega)
  rw [hx] at htop hxr
  obtain ⟨s, hs32, hsl, hn1, hn2⟩ := norm_shift htop hxr.2
  have HLZ := Aside0.mk (fun W => bits_LeadingZeros32.laid x W hxr.1 (by omega))
  rw [hsl] at HLZ
  have HNT := Aside0.mk (norm_top hg1 (by omega) hl hx hs32 hn1 hn2)
  have HX := Aside0.mk hx
  have HN1 := Aside0.mk hn1
  have HSH := Aside0.mk (fun W (hW : Below w.heap.size w W) => nat_Shl.short A1 c1 s l1 W (Kd.C_below hr1 hW) hc1 h1 hg1 (by omega) hs32)
  have HL := Aside0.mk hl
  clear hr0 hc0 hr1 hc1 h h1 hs hg0 hg1 hx hn1 hn2 hsl hl
  go_enter Tryd.func44, Tryd.ntmps44
  go_wp2_with fail
  refine HM0.out.mono ?_
  rintro e w' ⟨rfl, ⟨nd, rfl⟩⟩
  go_wp2_with fail
  refine (HM1.out nd).mono ?_
  rintro e w' ⟨rfl, ⟨nd2, rfl⟩⟩
  go_wp2_with fail
  refine (HS.out _).mono ?_
  rintro e w1 ⟨rfl, hB1⟩
  have HB1 := Aside0.mk ((pw_below_drewN (Below.refl w.heap.size w) (nd + nd2)).trans (hB1.mono (by simp)))
  clear hB1
  have hvk := Kd.C_below HR1.out HB1.out
  obtain ⟨ad, hA, hcv2⟩ := Kd.at_int hvk (n1 : Int) (by omega) (by omega)
  subst hA
  have hrd := rd_nat (l := l1) (i := n1) (by omega)
  rw [HX.out] at hrd
  rw [hrd, Int.toNat_natCast] at hcv2
  clear hrd hvk
  have e1 : (l1.length : Int) - 1 = (n1 : Int) := by have := HL.out; omega
  go_wp2_with fail
  refine (HLZ.out w1).mono ?_
  rintro e w' ⟨rfl, hw⟩
  rw [hw]
  clear hw w'
  go_wp2_with fail
  refine (HSH.out w1 HB1.out).mono ?_
  rintro e w2 ⟨vv, rfl, hR2, hB2⟩
  have hlim : Nums.lim (Nums.val l1 * 2 ^ s) = Nums.toL (Nums.val l1 * 2 ^ s) := by
    unfold Nums.lim
    rw [if_pos (by rw [HNT.out.1, ← HL.out]; exact (Nums.may_iff.1 HMY.out).1)]
  rw [hlim] at hR2
  obtain ⟨v, hv⟩ : ∃ v, Nums.toL (Nums.val l1 * 2 ^ s) = v := ⟨_, rfl⟩
  have HVR := Aside0.mk (show Nums.rng v = true from by rw [← hv]; exact Nums.rng_toL _)
  have HVV := Aside0.mk (show Nums.val v = Nums.val l1 * 2 ^ s from by rw [← hv]; exact Nums.val_toL _)
  have HNV := Aside0.mk (show v.length = n1 + 1 ∧ ∀ h : n1 < v.length, 2147483648 ≤ v[n1] from by rw [← hv]; exact HNT.out)
  rw [hv] at hR2
  have hvl : v.length = l1.length := by rw [HNV.out.1, HL.out]
  have hvp : 0 < v.length := by omega
  obtain ⟨gv, cpv, hvo, hgvb, hgvs, hgvc⟩ := Kd.R_form hR2 hvp
  subst hvo
  have HGV := Aside0.mk hgvs
  have HVL := Aside0.mk hvl
  clear hlim hv hgvb hgvs hgvc hvl HNT
  have HR2 := Aside0.mk hR2
  have HB2 := Aside0.mk (HB1.out.trans (hB2.mono (below_size HB1.out)))
  clear hR2 hB2
  go_wp2_with (at_make; refine Kd.R_make (Kd.int .u32) (w0 := w) w.heap.size 39 rfl (N := 71) rfl 22 _ _ rfl ((l0.length : Int) + 1) rfl rfl Tryd.underlying22 (.int .u32 0) 4 info39 rfl (by decide) (by omega) 0 (ok := fun _ => True) (okp := fun _ => True) rfl (fun _ hk => hk) trivial (by omega) (by omega) HB2.out (below_size HB2.out) ?_; intro vo w3 ho hb hg hnew; go_must (rw [show ((l0.length : Int) + 1).toNat = l0.length + 1 by omega] at ho; obtain ⟨g, cap, hvo, hgb, hgs, hcells⟩ := Kd.R_form ho (by rw [List.length_replicate]; omega); rw [List.length_replicate] at hvo; subst hvo); have HO := Aside0.mk ho; have HB3 := Aside0.mk hb; have HGS := Aside0.mk hgs; have HGR := Aside0.mk hg; have HNW := Aside0.mk hnew; clear ho hb hg hnew hgb hgs hcells)
  have HO := Aside0.mk (R_only HO.out)
  go_loopw [13, 74] (fun v13 v74 wr => ∃ (k : Nat) (out : List Int) (r : Int), k ≤ l0.length ∧ v13 = .int .u64 r ∧ v74 = .int .i64 (k : Int) ∧ Aside0 (ShlInv l0 s k out r) ∧ Aside0 (Kd.R (Kd.int .u32) 39 wr w.heap.size (fun k => k = g) (.slice (some ⟨g, 0, none⟩) (l0.length + 1) cap) (out ++ List.replicate (l0.length + 1 - k) 0)) ∧ Aside0 (Below w.heap.size w wr) ∧ Aside0 (Kept w3 wr (fun k => k = g)) ∧ (0 ≤ r ∧ r < 2 ^ 31)) (fun _ v74 _ => l0.length - (match v74 with | .int _ k => k.toNat | _ => 0))
  case atStart => exact ⟨0, [], 0, Nat.zero_le _, rfl, rfl, ⟨ShlInv.start⟩, HO, HB3, ⟨Kept.refl _ _⟩, by decide, by decide⟩
  case round =>
    obtain ⟨k, out, r, hk, rfl, rfl, HT, HU, HBr, HK, hr⟩ := hrel
    by_cases hlt : k < l0.length
    · have hvk := Kd.C_below HR0.out HBr.out
      obtain ⟨ad0, hA, hcv3⟩ := Kd.at_int hvk (k : Int) (by omega) (by omega)
      subst hA
      obtain ⟨y, hy⟩ : ∃ y, l0[k]'hlt = y := ⟨_, rfl⟩
      have hyr := Nums.rng_get HG0.out hlt
      have hrd := rd_nat hlt
      have HN := Aside0.mk (HT.out.step hs32 hlt HG0.out hy)
      rw [hy] at hyr hrd
      rw [hrd, Int.toNat_natCast] at hcv3
      have hsb := shl_bound hs32 hyr
      have f1 : IntKind.u64.wrap (y * 2 ^ s) = y * 2 ^ s := by have := pow_small hs32; rw [powi] at hsb ⊢; exact u64_wraps _ (by omega) (by omega)
      have f2 : bits .or .u64 r (y * 2 ^ s) = r + y * 2 ^ s := bits_join_low .u64 64 (by decide) wraps_u64 s r _ hr.1 HT.out.lt (by have := pow_small hs32; have := HT.out.lt; rw [powi] at this; omega) hsb.1 (Int.mul_emod_left _ _) (by have := pow_small hs32; rw [powi] at hsb; rw [powi]; omega)
      obtain ⟨P, hP⟩ : ∃ P, r + y * 2 ^ s = P := ⟨_, rfl⟩
      have hP2 : 0 ≤ P ∧ P / 4294967296 < 2147483648 := by have := pow_small hs32; rw [powi] at hsb hP; omega
      rw [hP] at f2 HN
      clear hy hrd hvk hsb hP
      have hlU : (out ++ List.replicate (l0.length + 1 - k) 0).length = l0.length + 1 := by rw [List.length_append, List.length_replicate, HT.out.len]; omega
      obtain ⟨hcu, hfu⟩ := Kd.R_celln (0 : Int) HU.out (k : Int) (by omega) (by omega)
      rw [Int.toNat_natCast] at hcu hfu
      go_wp2_with fail
      obtain ⟨hput, hgrow⟩ := Kd.R_putg HU.out (k : Int) (P % 4294967296)
      rw [Int.toNat_natCast] at hput hgrow
      have hset : (out ++ List.replicate (l0.length + 1 - k) 0).set k (P % 4294967296) = (out ++ [P % 4294967296]) ++ List.replicate (l0.length + 1 - (k + 1)) 0 := by
        have := HT.out.len
        rw [show l0.length + 1 - k = (l0.length + 1 - (k + 1)) + 1 by omega, ← this]
        rw [this]
        have f := fill_set (out := out) (m := l0.length + 1 - (k + 1)) (y := P % 4294967296)
        rw [this] at f
        exact f
      rw [hset] at hput
      go_roundw
      case rel => exact ⟨k + 1, out ++ [P % 4294967296], P / 4294967296, by omega, rfl, by go_num, HN, ⟨hput⟩, ⟨HBr.out.grown hgrow (below_size HBr.out) (fun b hb => by cases hb; have := Kd.R_base HU.out g rfl; omega)⟩, ⟨HK.out.of_grown hgrow (fun b hb => by cases hb; exact .inl rfl)⟩, by omega, by omega⟩
      case measure => simp; omega
    · obtain rfl : k = l0.length := by omega
      obtain ⟨n1_, n2_, n3_⟩ := HT.out.done hs32
      have HU1 := Aside0.mk n1_
      have HU2 := Aside0.mk n2_
      have hlU : (out ++ List.replicate (l0.length + 1 - l0.length) 0).length = l0.length + 1 := by rw [List.length_append, List.length_replicate, HT.out.len]; omega
      obtain ⟨hcu, hfu⟩ := Kd.R_celln (0 : Int) HU.out (l0.length : Int) (by omega) (by omega)
      rw [Int.toNat_natCast] at hcu hfu
      have e2 : r % 4294967296 = r := by omega
      clear n1_ n2_ n3_
      obtain ⟨hput, hgrow⟩ := Kd.R_putg HU.out (l0.length : Int) r
      rw [Int.toNat_natCast] at hput hgrow
      have hset : (out ++ List.replicate (l0.length + 1 - l0.length) 0).set l0.length r = out ++ [r] := by
        have hh := HT.out.len
        rw [show l0.length + 1 - l0.length = 0 + 1 by omega]
        have f := fill_set (out := out) (m := 0) (y := r)
        rw [hh] at f
        rw [f]
        exact List.append_nil _
      rw [hset] at hput
      have HP4 := Aside0.mk hput
      have HB4 := Aside0.mk (HBr.out.grown hgrow (below_size HBr.out) (fun b hb => by cases hb; have := Kd.R_base HU.out g rfl; omega))
      have HK4 := Aside0.mk (HK.out.of_grown hgrow (fun b hb => by cases hb; exact .inl rfl))
      clear hput hgrow hset
      have hvl4 : v.length ≤ l0.length := by have := HVL.out; omega
      obtain ⟨d, hd⟩ : ∃ d, l0.length = v.length + d := ⟨l0.length - v.length, by omega⟩
      have HD := Aside0.mk hd
      have hdb : d ≤ 65536 := by omega
      clear hd
      go_wp2_with (at_make; clear hcu hfu e2; refine Kd.R_make (Kd.int .u32) (w0 := w) w.heap.size 39 rfl (N := 106) rfl 22 _ _ rfl ((l0.length : Int) - (v.length : Int) + 1) rfl rfl Tryd.underlying22 (.int .u32 0) 4 info39 rfl (by decide) (by have := HD.out; omega) 0 (ok := fun _ => True) (okp := fun _ => True) rfl (fun _ hk => hk) trivial (by have := HD.out; omega) (by have := HD.out; omega) HB4.out (below_size HB4.out) ?_; intro vo w5 ho hb hg hnew; go_must (rw [show ((l0.length : Int) - (v.length : Int) + 1).toNat = d + 1 by have := HD.out; omega] at ho; obtain ⟨gq, capq, hvo, hgb, hgs, hcells⟩ := Kd.R_form ho (by rw [List.length_replicate]; omega); rw [List.length_replicate] at hvo; subst hvo); have HO5 := Aside0.mk ho; have HB5 := Aside0.mk hb; have HGS5 := Aside0.mk hgs; have HGR5 := Aside0.mk hg; have HNW5 := Aside0.mk hnew; clear ho hb hg hnew hgb hgs hcells)
      have hgvg : gv < g := by obtain ⟨b, hb, hb2⟩ := HNW.out; cases hb; have hb3 : w2.heap.size ≤ g := hb2; have := Kd.R_lt HR2.out gv rfl; omega
      have hggq : g < gq := by obtain ⟨b, hb, hb2⟩ := HNW5.out; cases hb; have hb3 : (wr.setCell ⟨g, l0.length, none⟩ (.int .u32 r)).heap.size ≤ gq := hb2; have := Kd.R_lt HP4.out g rfl; omega
      have HU5 := Aside0.mk (Kd.R_grown HP4.out HGR5.out (fun k hk => by simp))
      have HQ5 := Aside0.mk (R_only HO5.out)
      have HV5 := Aside0.mk (Kd.R_grown (Kd.R_kept (Kd.R_grown (R_only HR2.out) HGR.out (fun k hk => by simp)) HK4.out (fun k hk e => by omega)) HGR5.out (fun k hk => by simp))
      have HVK := Aside0.mk (Kd.C_kept_own (S := fun k => k = g ∨ k = gq) HV5.out (fun k hk e => by omega))
      have HVT := Aside0.mk (HNV.out.2 (by have := HNV.out.1; omega))
      have HVN := Aside0.mk HNV.out.1
      have HMS := Aside0.mk (MainInv.start (a := Nums.val l0) (S := 2 ^ s) (V := Nums.val v) (la := l0.length) (n := v.length) (lq := d + 1) (U := out ++ [r]) (by have := HT.out.len; rw [List.length_append, this]; rfl) HU1.out HU2.out (Nums.val_lt HG0.out) (pow_small hs32).2 (Nat.pow_pos (by decide)) (by rw [HVN.out]; exact dm_norm HVN.out HVR.out _ HVT.out) (by omega) (by have := HD.out; omega))
      have hvb : v.length ≤ 65536 := by omega
      have HW5 := Aside0.mk (Kept.refl w5 (fun k => k = g ∨ k = gq))
      go_loopw [17] (fun v17 wr => ∃ (m : Nat) (j : Int) (U Q : List Int), m ≤ d + 1 ∧ j = (m : Int) - 1 ∧ v17 = .int .i64 j ∧ Aside0 (MainInv (Nums.val l0 * 2 ^ s) (Nums.val v) m U Q (l0.length + 1) (d + 1)) ∧ Aside0 (Kd.R (Kd.int .u32) 39 wr w.heap.size (fun k => k = g) (.slice (some ⟨g, 0, none⟩) (l0.length + 1) cap) U) ∧ Aside0 (Kd.R (Kd.int .u32) 39 wr w.heap.size (fun k => k = gq) (.slice (some ⟨gq, 0, none⟩) (d + 1) capq) Q) ∧ Aside0 (Below w.heap.size w wr) ∧ Aside0 (Kept w5 wr (fun k => k = g ∨ k = gq))) (fun v17 _ => match v17 with | .int _ k => (k + 1).toNat | _ => 0)
      case atStart => exact ⟨d + 1, (d : Int), out ++ [r], List.replicate (d + 1) 0, Nat.le_refl _, by omega, by go_num, HMS, HU5, HQ5, HB5, HW5⟩
      case round =>
        obtain ⟨m, j, U, Q, hm, hj, rfl, HI, HU, HQ, HBm, HK⟩ := hrel
        by_cases hm0 : m = 0
        · subst hm0
          obtain rfl : j = -1 := by omega
          clear hj hm
          have hV0 : 0 < Nums.val v := Nat.lt_of_lt_of_le (Nat.mul_pos (Nat.pow_pos (by decide)) (by decide)) (dm_norm HVN.out HVR.out _ HVT.out)
          have hb0 : 0 < Nums.val l1 := by have h := HVV.out; exact Nat.pos_of_ne_zero (fun e => by rw [e, Nat.zero_mul] at h; omega)
          obtain ⟨m1, m2, m3⟩ := MainInv.done (a := Nums.val l0) (b := Nums.val l1) (S := 2 ^ s) (by have h := HI.out; rw [HVV.out] at h; exact h) (Nat.pow_pos (by decide)) hb0
          rw [← HVV.out] at m3
          have m4 := Nat.lt_trans m3 (Nums.val_lt HVR.out)
          have hvU : v.length ≤ U.length := by have := HI.out.lu; omega
          have m5 := val_take_low HI.out.ru hvU m4
          have hru := Nums.rng_take HI.out.ru v.length
          have hlu : (U.take v.length).length = v.length := by rw [List.length_take]; omega
          have hz1 := toL_len HI.out.rq
          have hz2 := toL_len hru
          have hp1 := toL_prefix HI.out.rq
          have hp2 := toL_prefix hru
          rw [hlu] at hz2
          rw [m5] at hz2 hp2
          rw [HI.out.lq] at hz1
          have hcap := (Kd.R_reads' HU.out).2.1
          have hcapq := (Kd.R_reads' HQ.out).2.1
          have HTU := Aside0.mk (Kd.R_take HU.out (m := v.length) (by have := HI.out.lu; omega))
          have HQC := Aside0.mk (div_cut.reads (some ⟨gq, 0, none⟩) (d + 1) capq Q (wr.drew) (by have h := (Kd.R_reads' (Kd.R_drew HQ.out)).2.2; rw [HI.out.lq] at h; exact h) hcapq (by omega) HI.out.rq)
          have HUC := Aside0.mk (div_cut.reads (some ⟨g, 0, none⟩) v.length v.length (U.take v.length) (wr.drew) (by have h := (Kd.R_reads' (Kd.R_drew HTU.out)).2.2; rw [hlu] at h; exact h) (Nat.le_refl _) (by omega) hru)
          rw [m5] at HUC
          have hRq := Kd.R_take HQ.out (m := (Nums.toL (Nums.val Q)).length) (by rw [HI.out.lq]; exact hz1)
          rw [← hp1, m1] at hRq
          rw [m1] at HQC hz1
          have hRu := Kd.R_take HTU.out (m := (Nums.toL (Nums.val U)).length) (by rw [hlu]; exact hz2)
          rw [← hp2] at hRu
          have hmy : Nums.may (Nums.toL (Nums.val U)) = true := Nums.may_iff.2 ⟨by omega, Nums.top_toL _⟩
          have HSR := Aside0.mk (nat_Shr.few (some ⟨g, 0, none⟩) v.length s (Nums.toL (Nums.val U)) (wr.drew) (Kd.R_reads' (Kd.R_drew hRu)).2.2 hz2 hmy (Nums.rng_toL _) hs32)
          rw [Nums.val_toL, m2] at HSR
          have hlq : Nums.toL (Nums.val l0 / Nums.val l1) = Nums.lim (Nums.val l0 / Nums.val l1) := by unfold Nums.lim; rw [if_pos (by have := HD.out; have := HVN.out; omega)]
          obtain ⟨z1, hz1e⟩ : ∃ z1, (Nums.toL (Nums.val l0 / Nums.val l1)).length = z1 := ⟨_, rfl⟩
          obtain ⟨z2, hz2e⟩ : ∃ z2, (Nums.toL (Nums.val U)).length = z2 := ⟨_, rfl⟩
          rw [hz1e] at HQC hRq
          rw [hz2e] at HUC HSR
          rw [hlq] at hRq
          have HRQ := Aside0.mk hRq
          obtain ⟨i0, hi, hz0, hz1, hz2⟩ := info_parts info39
          have hcut := cut_hm (P := Tryd.prog) 22 39 .i64 .i64 Tryd.underlying22 hi (some ⟨g, 0, none⟩) (l0.length + 1) cap v.length (by omega)
          clear hV0 hb0 m1 m2 m3 m4 m5 hvU hru hlu hz1 hz2 hp1 hp2 hcapq hRq hRu hmy hlq hz1e hz2e hi hz0
          go_wp2_with fail
          go_region_with (first | (go_at_call 50; with_reducible refine (HQC.out).mono ?_; rintro e w' ⟨rfl, rfl⟩) | (go_at_call 50; with_reducible refine (HUC.out).mono ?_; rintro e w' ⟨rfl, rfl⟩) | (go_at_call 72; with_reducible refine (HSR.out).mono ?_; rintro e w' ⟨vs, rfl, hRs, hBs⟩))
          have HRs := Aside0.mk hRs
          have HBs := Aside0.mk hBs
          clear hRs hBs
          go_wp2_with fail
          go_ret3
          have hsz : w.heap.size ≤ wr.drew.heap.size := HBm.out.size
          refine ⟨_, _, rfl, ?_, ?_, ?_⟩
          · exact Kd.R_mono (Kd.R_elder' (Kd.R_drew HRQ.out) (Kd.R_base HRs.out) HBs.out) (fun _ hk => hk.2)
          · exact Kd.R_mono (Kd.R_lower (Kd.R_new' HRs.out (Kd.R_lt (Kd.R_drew HRQ.out))) hsz) (fun _ hk => hk.2)
          · exact (below_drew HBm.out).trans (HBs.out.mono hsz)
        · obtain ⟨i, rfl⟩ : ∃ i, m = i + 1 := ⟨m - 1, by omega⟩
          obtain rfl : j = (i : Int) := by omega
          clear hj hm0
          obtain ⟨t2, ht2⟩ : ∃ t2 : Nat, i + v.length = t2 := ⟨_, rfl⟩
          have hn0 : 1 ≤ n1 := hn
          have hUl := HI.out.lu
          have hQl := HI.out.lq
          have HVW := Aside0.mk (Kd.R_kept HV5.out HK.out (fun k hk e => by omega))
          have b2 : i + n1 + 1 < U.length := by have := HVN.out; have := HD.out; omega
          have ht2b : t2 ≤ l0.length := by have := HD.out; omega
          obtain ⟨y2, hy2⟩ : ∃ y, U[i + n1 + 1]'b2 = y := ⟨_, rfl⟩
          obtain ⟨y1, hy1⟩ : ∃ y, U[i + n1]'(by omega) = y := ⟨_, rfl⟩
          obtain ⟨y0, hy0⟩ : ∃ y, U[i + n1 - 1]'(by omega) = y := ⟨_, rfl⟩
          obtain ⟨x1, hx1⟩ : ∃ y, v[n1]'(by have := HVN.out; omega) = y := ⟨_, rfl⟩
          obtain ⟨x0, hx0⟩ : ∃ y, v[n1 - 1]'(by have := HVN.out; omega) = y := ⟨_, rfl⟩
          have r2 := Nums.rng_get HI.out.ru b2
          have r1 := Nums.rng_get HI.out.ru (show i + n1 < U.length by omega)
          have r0 := Nums.rng_get HI.out.ru (show i + n1 - 1 < U.length by omega)
          have s1 := Nums.rng_get HVR.out (show n1 < v.length by have := HVN.out; omega)
          have s0 := Nums.rng_get HVR.out (show n1 - 1 < v.length by have := HVN.out; omega)
          have s1' := HVT.out
          rw [hy2] at r2; rw [hy1] at r1; rw [hy0] at r0; rw [hx1] at s1 s1'; rw [hx0] at s0
          have htop2 := dm_top HVN.out HI.out.ru HVR.out b2 _ HI.out.lt hy2 hx1
          obtain ⟨Qg, hQg, hguess⟩ := div_guess.one y2 y1 y0 x1 x0 r2 r1 r0 ⟨s1', s1.2⟩ s0 htop2
          have HGC := Aside0.mk hguess
          have HFI := Aside0.mk (fun (U1 : List Int) hl hr he => main_fits (U1 := U1) (q := Qg) HI.out (by omega) HVN.out hn0 HVR.out b2 hy2 hy1 hy0 hx1 hx0 s1' hQg hl hr he)
          have HBI := Aside0.mk (fun (U1 U2 : List Int) (z : Nat) hl hr hd he hl2 hr2 hd2 hz he2 => main_back (U1 := U1) (U2 := U2) (z := z) (q := Qg) HI.out (by omega) HVN.out hn0 HVR.out b2 hy2 hy1 hy0 hx1 hx0 s1' hQg hl hr hd he hl2 hr2 hd2 hz he2)
          have hQb := hQg.lt
          have hcap := (Kd.R_reads' HU.out).2.1
          have c2 := Kd.R_celln (0 : Int) HU.out (t2 : Int) (by omega) (by omega)
          obtain ⟨t1, ht1⟩ : ∃ t1 : Nat, i + n1 = t1 := ⟨_, rfl⟩
          obtain ⟨t0, ht0⟩ : ∃ t0 : Nat, i + n1 - 1 = t0 := ⟨_, rfl⟩
          obtain ⟨n0, hn0e⟩ : ∃ n0 : Nat, n1 - 1 = n0 := ⟨_, rfl⟩
          have hvn := HVN.out
          have c1 := Kd.R_celln (0 : Int) HU.out (t1 : Int) (by omega) (by omega)
          have c0 := Kd.R_celln (0 : Int) HU.out (t0 : Int) (by omega) (by omega)
          have d1 := Kd.R_celln (0 : Int) HVW.out (n1 : Int) (by omega) (by omega)
          have d0 := Kd.R_celln (0 : Int) HVW.out (n0 : Int) (by omega) (by omega)
          have q2 : rdOf 0 U (t2 : Int) = y2 := by have h := rd_nat (l := U) (i := i + n1 + 1) b2; rw [hy2, show i + n1 + 1 = t2 by omega] at h; exact h
          have q1 : rdOf 0 U (t1 : Int) = y1 := by have h := rd_nat (l := U) (i := i + n1) (by omega); rw [hy1, ht1] at h; exact h
          have q0 : rdOf 0 U (t0 : Int) = y0 := by have h := rd_nat (l := U) (i := i + n1 - 1) (by omega); rw [hy0, ht0] at h; exact h
          have p1 : rdOf 0 v (n1 : Int) = x1 := by have h := rd_nat (l := v) (i := n1) (by omega); rw [hx1] at h; exact h
          have p0 : rdOf 0 v (n0 : Int) = x0 := by have h := rd_nat (l := v) (i := n1 - 1) (by omega); rw [hx0, hn0e] at h; exact h
          rw [Int.toNat_natCast, q2] at c2; rw [Int.toNat_natCast, q1] at c1; rw [Int.toNat_natCast, q0] at c0; rw [Int.toNat_natCast, p1] at d1; rw [Int.toNat_natCast, p0] at d0
          obtain ⟨c2a, c2f⟩ := c2
          obtain ⟨c1a, c1f⟩ := c1
          obtain ⟨c0a, c0f⟩ := c0
          obtain ⟨d1a, d1f⟩ := d1
          obtain ⟨d0a, d0f⟩ := d0
          have ea : (i : Int) + (v.length : Int) = (t2 : Int) := by omega
          have ea1 : (t2 : Int) - 1 = (t1 : Int) := by omega
          have ea2 : (t2 : Int) - 2 = (t0 : Int) := by omega
          have eb1 : (v.length : Int) - 1 = (n1 : Int) := by omega
          have eb2 : (v.length : Int) - 2 = (n0 : Int) := by omega
          have bt2 : (t2 : Int) < ((l0.length + 1 : Nat) : Int) := by omega
          have bt1 : (t1 : Int) < ((l0.length + 1 : Nat) : Int) := by omega
          have bt0 : (t0 : Int) < ((l0.length + 1 : Nat) : Int) := by omega
          have bn1 : (n1 : Int) < (v.length : Int) := by omega
          have bn0 : (n0 : Int) < (v.length : Int) := by omega
          have bs2 : (t2 : Int) < (l0.length : Int) + 1 := by omega
          have bs1 : (t1 : Int) < (l0.length : Int) + 1 := by omega
          have bs0 : (t0 : Int) < (l0.length : Int) + 1 := by omega
          have HUL := Aside0.mk hUl
          have HQL := Aside0.mk hQl
          clear q2 q1 q0 p1 p0 hy2 hy1 hy0 hx1 hx0 hguess hQg ht2 ht1 ht0 hn0e hvn hUl hQl htop2 r2 r1 r0 s1 s0 s1' b2
          go_wp2_with fail
          go_quiet ((go_at_call 69; exact Calls.quiet_of (HGC.out _)))
          clear c2a c1a c0a d1a d0a c2f c1f c0f d1f d0f ea1 ea2 eb1 eb2 bt2 bt1 bt0 bn1 bn0 bs2 bs1 bs0
          go_wp2_with fail
          rw [show t2 + 1 - i = v.length + 1 by omega]
          have HUq := Aside0.mk (show Kd.R (Kd.int .u32) 39 (wr.drewN nq) w.heap.size (fun k => k = g) (.slice (some ⟨g, 0, none⟩) U.length cap) U by rw [HUL.out]; exact Kd.R_drewN HU.out nq)
          have HVq := Aside0.mk (Kd.C_kept_own (S := fun k => k = g) (Kd.R_drewN HVW.out nq) (fun k hk e => by omega))
          have HBq := Aside0.mk (pw_below_drewN HBm.out nq)
          have hiU : i + v.length < U.length := by have := HUL.out; omega
          have hcv : v.length ≤ cpv := (Kd.R_reads' HR2.out).2.1
          refine (div_take.win g i cap (v.length + 1) cpv Qg (some ⟨gv, 0, none⟩) U v w (wr.drewN nq) HBq.out HUq.out HVq.out hcv hiU HI.out.ru HVR.out hQb (by have := HUL.out; omega) (Nat.le_refl _)).mono ?_
          rintro e w6 ⟨U1, b, rfl, hb1, ⟨hl1, hr1, hd1, he1⟩, hR1, hB1, hK1⟩
          have HQ6 := Aside0.mk (Kd.R_kept (Kd.R_drewN HQ.out nq) hK1 (fun k hk e => by omega))
          have HR6 := Aside0.mk hR1
          have HB6 := Aside0.mk hB1
          have HKK := Aside0.mk ((HK.out.drewN nq).then_ hK1 (fun k hk => .inl (.inl hk)))
          rcases Nat.le_one_iff_eq_zero_or_eq_one.1 hb1 with rfl | rfl
          · have HN := Aside0.mk (HFI.out U1 hl1 hr1 (by rw [he1, Nat.mul_zero, Nat.add_zero]))
            obtain ⟨hcu, hfu⟩ := Kd.R_celln (0 : Int) HQ6.out (i : Int) (by omega) (by omega)
            rw [Int.toNat_natCast] at hcu hfu
            have e3 : (Qg : Int) % 4294967296 = (Qg : Int) := by omega
            obtain ⟨hput, hgrow⟩ := Kd.R_putg HQ6.out (i : Int) (Qg : Int)
            rw [Int.toNat_natCast] at hput hgrow
            rw [HUL.out] at hR1
            have HR7 := Aside0.mk (Kd.R_grown hR1 hgrow (fun k hk e => by cases e; omega))
            clear hb1 hl1 hr1 hd1 he1 hR1 hB1 hK1
            go_wp2_with fail
            refine ⟨⟨i, (i : Int) - 1, U1, Q.set i (Qg : Int), by omega, rfl, by go_num, HN, HR7, ⟨hput⟩, ⟨HB6.out.grown hgrow (below_size HB6.out) (fun b hb => by cases hb; have := Kd.R_base HQ6.out gq rfl; omega)⟩, ⟨HKK.out.of_grown hgrow (fun b hb => by cases hb; exact .inl (.inr rfl))⟩⟩, ?_⟩
            simp
          · have HV6 := Aside0.mk (Kd.C_kept_step HVq.out hK1)
            have HR6b := Aside0.mk (show Kd.R (Kd.int .u32) 39 w6 w.heap.size (fun k => k = g) (.slice (some ⟨g, 0, none⟩) U1.length cap) U1 by rw [hl1]; exact hR1)
            have HL1 := Aside0.mk hl1
            have HR1b := Aside0.mk hr1
            have HB1b := Aside0.mk (fun U2 z hl2 hr2 hd2 hz he2 => HBI.out U1 U2 z hl1 hr1 hd1 he1 hl2 hr2 hd2 hz he2)
            clear hb1 hl1 hr1 hd1 he1 hR1 hB1 hK1
            go_wp2_with fail
            refine (div_back.win g i cap (v.length + 1) cpv (some ⟨gv, 0, none⟩) U1 v w w6 HB6.out HR6b.out HV6.out hcv (by have := HL1.out; omega) HR1b.out HVR.out (by have := HUL.out; have := HL1.out; omega) (Nat.le_refl _)).mono ?_
            rintro e w7 ⟨U2, z, rfl, hz, ⟨hl2, hr2, hd2, he2⟩, hR2, hB2, hK2⟩
            obtain ⟨hq1, hmi⟩ := HB1b.out U2 z hl2 hr2 hd2 hz he2
            have HN := Aside0.mk hmi
            have HQ7 := Aside0.mk (Kd.R_kept HQ6.out hK2 (fun k hk e => by omega))
            have HB7 := Aside0.mk hB2
            have HK7 := Aside0.mk (HKK.out.then_ hK2 (fun k hk => .inl (.inl hk)))
            obtain ⟨hcu, hfu⟩ := Kd.R_celln (0 : Int) HQ7.out (i : Int) (by omega) (by omega)
            rw [Int.toNat_natCast] at hcu hfu
            have e4 : (Qg : Int) - 1 = ((Qg - 1 : Nat) : Int) := by omega
            obtain ⟨Q1, hQ1⟩ : ∃ Q1, Qg - 1 = Q1 := ⟨_, rfl⟩
            rw [hQ1] at e4 HN
            have hQ1b : Q1 < 4294967296 := by omega
            have e3 : (Q1 : Int) % 4294967296 = (Q1 : Int) := by omega
            obtain ⟨hput, hgrow⟩ := Kd.R_putg HQ7.out (i : Int) (Q1 : Int)
            rw [Int.toNat_natCast] at hput hgrow
            rw [HL1.out, HUL.out] at hR2
            have HR7 := Aside0.mk (Kd.R_grown hR2 hgrow (fun k hk e => by cases e; omega))
            clear hmi hl2 hr2 hd2 he2 hR2 hB2 hK2 hQ1
            go_wp2_with fail
            refine ⟨⟨i, (i : Int) - 1, U2, Q.set i (Q1 : Int), by omega, rfl, by go_num, HN, HR7, ⟨hput⟩, ⟨HB7.out.grown hgrow (below_size HB7.out) (fun b hb => by cases hb; have := Kd.R_base HQ7.out gq rfl; omega)⟩, ⟨HK7.out.of_grown hgrow (fun b hb => by cases hb; exact .inl (.inr rfl))⟩⟩, ?_⟩
            simp
/-- Quotient and remainder. -/
def div_DivMod.f (l0 l1 : List Int) : Option (List Int × List Int × Int) := if (Nums.rng l0 && Nums.rng l1) = true then (if (Nums.may l0 && Nums.may l1) = true then (if l1 = [] then some ([], [], 41) else some (Nums.toL (Nums.val l0 / Nums.val l1), Nums.toL (Nums.val l0 % Nums.val l1), 0)) else some ([], [], 4)) else none
theorem div_DivMod.calls (A0 : Option Addr) (c0 : Nat) (l0 : List Int) (A1 : Option Addr) (c1 : Nat) (l1 : List Int) (r1 : List Int) (r2 : List Int) (r3 : Int) (w : World) (hr0 : Kd.C (Kd.int .u32) w A0 l0.length l0) (hc0 : l0.length ≤ c0) (hr1 : Kd.C (Kd.int .u32) w A1 l1.length l1) (hc1 : l1.length ≤ c1) (h : div_DivMod.f l0 l1 = some (r1, r2, r3)) :
    Calls Tryd.prog 44 #[.slice A0 l0.length c0, .slice A1 l1.length c1] w fun e w' => ∃ v0_ v1_ : Value, e = .returned (.tuple #[v0_, v1_, .int .i64 r3]) ∧ Kd.R (Kd.int .u32) 39 w' w.heap.size (fun k_ => some k_ ≠ (v1_ : Value).ownBlock) v0_ r1 ∧ Kd.R (Kd.int .u32) 39 w' w.heap.size (fun k_ => some k_ ≠ (v0_ : Value).ownBlock) v1_ r2 ∧ Below w.heap.size w w' := by
  unfold div_DivMod.f at h
  split at h
  case isFalse => cases h
  case isTrue hr =>
  obtain ⟨ha, hb⟩ := Bool.and_eq_true_iff.1 hr
  cases hm : Nums.may l0 && Nums.may l1 with
  | false =>
    rw [hm, if_neg (by simp)] at h
    simp only [Option.some.injEq, Prod.mk.injEq] at h
    obtain ⟨rfl, rfl, rfl⟩ := h
    refine (div_DivMod.calls_bad A0 c0 l0 A1 c1 l1 w hr0 hc0 hr1 hc1 hm).mono ?_
    rintro e w' ⟨rfl, hB⟩
    exact ⟨_, _, rfl, Kd.R_nil _ _ _ _ _, Kd.R_nil _ _ _ _ _, hB⟩
  | true =>
    rw [hm, if_pos rfl] at h
    obtain ⟨hm0, hm1⟩ := Bool.and_eq_true_iff.1 hm
    by_cases hn : l1 = []
    · rw [if_pos hn] at h
      simp only [Option.some.injEq, Prod.mk.injEq] at h
      obtain ⟨rfl, rfl, rfl⟩ := h
      subst hn
      refine (div_DivMod.calls_zero A0 c0 l0 A1 c1 w hr0 hc0 hr1 hc1 hm0).mono ?_
      rintro e w' ⟨rfl, hB⟩
      exact ⟨_, _, rfl, Kd.R_nil _ _ _ _ _, Kd.R_nil _ _ _ _ _, hB⟩
    · rw [if_neg hn] at h
      by_cases h1 : l1.length = 1
      · obtain ⟨x, rfl⟩ := List.length_eq_one_iff.1 h1
        simp only [Option.some.injEq, Prod.mk.injEq] at h
        obtain ⟨rfl, rfl, rfl⟩ := h
        have hx := (Nums.rng_cons.1 hb).1
        have hx0 : x ≠ 0 := by simpa [Nums.top] using (Nums.may_iff.1 hm1).2
        have hv : Nums.val [x] = x.toNat := by simp [Nums.val]
        have hlt : Nums.val l0 % x.toNat < x.toNat := Nat.mod_lt _ (by omega)
        obtain ⟨k1, e1⟩ := div_Small_ev l0 x ha hm0 (by omega) hx.2
        obtain ⟨k2, e2⟩ := nat_Of_ev ((Nums.val l0 % x.toNat : Nat) : Int) (by omega) (by omega)
        rw [Int.toNat_natCast] at e2
        rw [hv]
        exact div_DivMod.calls_one A0 c0 l0 A1 c1 x _ _ _ (max k1 k2) w hr0 hc0 hr1 hc1 hm0 hm1 (e1 _ (by omega)) ⟨by omega, by omega⟩ (e2 _ (by omega))
      · by_cases hlt : Nums.val l0 < Nums.val l1
        · simp only [Option.some.injEq, Prod.mk.injEq] at h
          obtain ⟨rfl, rfl, rfl⟩ := h
          have hp := List.length_pos_iff.2 hn
          refine (div_DivMod.calls_less A0 c0 l0 A1 c1 l1 w hr0 hc0 hr1 hc1 hm0 hm1 (by omega) (by unfold nat_Cmp.f; rw [hr, if_pos rfl, hm, if_pos rfl, if_pos hlt])).mono ?_
          rintro e w' ⟨v1, rfl, hR, hB⟩
          refine ⟨_, _, rfl, ?_, ?_, hB⟩
          · rw [Nat.div_eq_of_lt hlt, Nums.toL_zero]
            exact Kd.R_nil _ _ _ _ _
          · rw [Nat.mod_eq_of_lt hlt, (Nums.may_val ha hm0).1]
            exact Kd.R_mono hR (fun _ _ => by simp [Value.ownBlock])
        · simp only [Option.some.injEq, Prod.mk.injEq] at h
          obtain ⟨rfl, rfl, rfl⟩ := h
          have hp := List.length_pos_iff.2 hn
          obtain ⟨n1, hn1⟩ : ∃ n1, l1.length = n1 + 1 := ⟨l1.length - 1, by omega⟩
          obtain ⟨v0, b0⟩ := Nums.may_val ha hm0
          obtain ⟨v1, b1⟩ := Nums.may_val hb hm1
          have hle : Nums.val l1 ≤ Nums.val l0 := Nat.le_of_not_lt hlt
          have hlen : l1.length ≤ l0.length := by
            have h2 := Nums.val_ge hb (Nums.may_iff.1 hm1).2 hn
            have h3 := Nums.val_lt ha
            refine Nat.le_of_not_lt fun h4 => ?_
            have h5 := Nums.pow_le_gen 4294967296 l0.length (l1.length - 1) (by decide) (by omega)
            exact Nat.lt_irrefl _ (Nat.lt_of_lt_of_le (Nat.lt_of_lt_of_le h3 (Nat.le_trans h5 h2)) hle)
          have htop : 0 < l1[n1]'(by omega) := by
            have h2 := Nums.rng_get hb (show n1 < l1.length by omega)
            have h3 := (Nums.may_iff.1 hm1).2
            have h4 : l1[n1]'(by omega) ≠ 0 := fun e => by
              rw [Nums.top, List.getLast?_eq_getElem?, hn1, Nat.add_sub_cancel, List.getElem?_eq_getElem (by omega), e] at h3
              exact absurd h3 (by decide)
            omega
          have hq1 : Nums.lim (Nums.val l0 / Nums.val l1) = Nums.toL (Nums.val l0 / Nums.val l1) := Nums.lim_eq (Nat.lt_of_le_of_lt (Nat.div_le_self _ _) b0)
          have hq2 : Nums.lim (Nums.val l0 % Nums.val l1) = Nums.toL (Nums.val l0 % Nums.val l1) := Nums.lim_eq (Nat.lt_of_le_of_lt (Nat.mod_le _ _) b0)
          have hcm : nat_Cmp.f l0 l1 = some (if Nums.val l0 < Nums.val l1 then -1 else if Nums.val l1 < Nums.val l0 then 1 else 0) := by
            unfold nat_Cmp.f
            rw [hr, if_pos rfl, hm, if_pos rfl]
          rw [if_neg hlt] at hcm
          have h := div_DivMod.long A0 c0 l0 A1 c1 l1 _ n1 w hr0 hc0 hr1 hc1 hm0 hm1 ha hb hn1 (by omega) hlen (by omega) htop hcm (by split <;> omega)
          rw [hq1, hq2] at h
          exact h
theorem div_tells (l : List Int) (T : Nat) (hr : Nums.rng l = true) (hm : Nums.may l = true) (h0 : 0 < T) (h1 : T < 4294967296) : div_DivMod.f l (Nums.toL T) = some (Nums.toL (Nums.val l / T), Nums.toL (Nums.val l % T), 0) := by
  have e : Nums.toL T = [((T % 4294967296 : Nat) : Int)] := by rw [Nums.toL_pos (by omega), show T / 4294967296 = 0 by omega, Nums.toL_zero]
  have hm1 : Nums.may (Nums.toL T) = true := Nums.may_iff.2 ⟨by rw [e]; exact Nat.succ_le_succ (Nat.zero_le _), Nums.top_toL T⟩
  unfold div_DivMod.f
  rw [hr, Nums.rng_toL, if_pos (show (true && true) = true from rfl), hm, hm1, if_pos (show (true && true) = true from rfl), Nums.val_toL, if_neg (by rw [e]; simp)]

end Go.Proofs.YtjgloepeogelnaaDoor.Pr

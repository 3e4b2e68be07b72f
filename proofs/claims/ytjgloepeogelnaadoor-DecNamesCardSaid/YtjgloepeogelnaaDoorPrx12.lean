/- Functions with the same answers as the Go functions of the program, with the proofs that the program comes to just these answers; no condition but those that each theorem names. (Laid by this work's own program mk.py out of the translation.) -/
import Derived.Test.YtjgloepeogelnaaDoorPrx0
import Derived.Test.YtjgloepeogelnaaDoorPrx4
import Derived.Test.YtjgloepeogelnaaDoorPrx5
import Derived.Test.YtjgloepeogelnaaDoorPrx10
namespace Go.Proofs.YtjgloepeogelnaaDoor.Pr
open Go.RowKit Go.Proofs.YtjgloepeogelnaaDoorW.PrintWords Go.Proofs.YtjgloepeogelnaaDoorW.PrintLast Go.Proofs.YtjgloepeogelnaaDoorW.PrintMore
attribute [local go_sem] max2_int min2_int max_two min_two max_three min_three max_four min_four   -- for this text's walks alone
set_option linter.unusedVariables false
set_option linter.unusedSimpArgs false

/-! ### div_guess: function 69 -/
/-- What a guess is good for. -/
structure GuessOk (T V Q : Nat) : Prop where
  lt : Q < 4294967296
  le : Q * V ≤ T
  most : Q = 4294967295 ∨ T < (Q + 1) * V
/-- One step of a long division: the guess by three limbs and two is the quotient, or one more. -/
theorem guess_near {T V Q W D P : Nat} (hP : 0 < P) (hg : GuessOk T V Q) (hW1 : T * P ≤ W) (hW2 : W < (T + 1) * P) (hD1 : V * P ≤ D) (hD2 : D < (V + 1) * P) (hWD : W < D * 4294967296) (hPD : 4294967296 * P ≤ D) :
    W / D ≤ Q ∧ Q ≤ W / D + 1 := by
  have hD0 : 0 < D := Nat.lt_of_lt_of_le (Nat.mul_pos (by decide) hP) hPD
  obtain ⟨q, hq⟩ : ∃ q, W / D = q := ⟨_, rfl⟩
  have hq1 : q * D ≤ W := by rw [← hq]; exact Nat.div_mul_le_self W D
  have hq2 : W < (q + 1) * D := by rw [← hq, Nat.mul_comm]; exact Nat.lt_mul_div_succ W hD0
  rw [hq]
  have hqB : q < 4294967296 := by
    apply Nat.lt_of_mul_lt_mul_right (a := D)
    rw [Nat.mul_comm 4294967296]
    omega
  constructor
  · -- q * V ≤ T
    have h1 : q * V ≤ T := by
      have h2 : q * V * P ≤ q * D := by rw [Nat.mul_assoc]; exact Nat.mul_le_mul_left q hD1
      have h3 : q * V * P < (T + 1) * P := by omega
      have := Nat.lt_of_mul_lt_mul_right h3
      omega
    rcases hg.most with h | h
    · omega
    · apply Nat.le_of_not_lt
      intro hlt
      have h4 : (Q + 1) * V ≤ q * V := Nat.mul_le_mul_right V hlt
      omega
  · have h1 : Q * D ≤ W + Q * P := by
      have h2 : Q * D ≤ Q * ((V + 1) * P) := Nat.mul_le_mul_left Q (by omega)
      have h3 : Q * ((V + 1) * P) = Q * V * P + Q * P := by rw [Nat.add_mul, Nat.one_mul, Nat.mul_add, Nat.mul_assoc]
      have h4 : Q * V * P ≤ T * P := Nat.mul_le_mul_right P hg.le
      omega
    have h5 : Q * P < D := by
      have : Q * P < 4294967296 * P := Nat.mul_lt_mul_of_pos_right hg.lt hP
      omega
    have h6 : Q * D < (q + 1 + 1) * D := by
      rw [Nat.add_mul (q + 1), Nat.one_mul]
      omega
    have := Nat.lt_of_mul_lt_mul_right h6
    omega
theorem guessOk_of {T V q : Int} (hT : 0 ≤ T) (hV : 0 ≤ V) (hq : 0 ≤ q) (h1 : q < 4294967296) (h2 : q * V ≤ T) (h3 : q = 4294967295 ∨ T < (q + 1) * V) : GuessOk T.toNat V.toNat q.toNat := by
  obtain ⟨t, rfl⟩ := Int.eq_ofNat_of_zero_le hT
  obtain ⟨v, rfl⟩ := Int.eq_ofNat_of_zero_le hV
  obtain ⟨k, rfl⟩ := Int.eq_ofNat_of_zero_le hq
  simp only [Int.toNat_natCast]
  refine ⟨by omega, ?_, ?_⟩
  · rw [← Int.natCast_mul] at h2
    exact Int.ofNat_le.1 h2
  · rcases h3 with h3 | h3
    · exact .inl (by omega)
    · right
      rw [show ((k : Int) + 1) = ((k + 1 : Nat) : Int) by omega, ← Int.natCast_mul] at h3
      exact Int.ofNat_lt.1 h3
/-- What holds at the label: q times v1, and r, are the two limbs; q is not too small. -/
structure GInv (T u0 v1 v0 q r : Int) : Prop where
  eq : q * v1 + r = T
  q0 : 0 ≤ q
  q1 : q ≤ 4294967297
  r0 : 0 ≤ r
  r1 : r < 4294967296
  big : 4294967296 ≤ q + 1 ∨ T * 4294967296 + u0 < (q + 1) * (v1 * 4294967296 + v0)
theorem gi_mul (q v1 v0 : Int) : q * (v1 * 4294967296 + v0) = q * v1 * 4294967296 + q * v0 := by rw [Int.mul_add, Int.mul_assoc]
theorem gi_start {T u0 v1 v0 : Int} (hT : 0 ≤ T) (hv1 : 2147483648 ≤ v1 ∧ v1 < 4294967296) (hv0 : 0 ≤ v0) (hu0 : u0 < 4294967296) (hTT : T < v1 * 4294967296 + 4294967296) : GInv T u0 v1 v0 (T / v1) (T % v1) := by
  have h1 := Int.emod_add_mul_ediv T v1
  have h2 := Int.emod_nonneg T (show v1 ≠ 0 by omega)
  have h3 := Int.emod_lt_of_pos T (show 0 < v1 by omega)
  have h4 : 0 ≤ T / v1 := Int.ediv_nonneg hT (by omega)
  obtain ⟨q, hq⟩ : ∃ q, T / v1 = q := ⟨_, rfl⟩
  obtain ⟨r, hr⟩ : ∃ r, T % v1 = r := ⟨_, rfl⟩
  rw [hq] at h1 h4 ⊢
  rw [hr] at h1 h2 h3 ⊢
  rw [Int.mul_comm v1 q] at h1
  refine ⟨by omega, h4, ?_, h2, by omega, .inr ?_⟩
  · apply Int.le_of_not_gt
    intro hgt
    have : 4294967298 * v1 ≤ q * v1 := Int.mul_le_mul_of_nonneg_right (by omega) (by omega)
    omega
  · rw [gi_mul, Int.add_mul, Int.one_mul, Int.add_mul q 1 v0, Int.one_mul]
    have h5 : 0 ≤ q * v0 := Int.mul_nonneg h4 hv0
    generalize q * v1 = x at *
    generalize q * v0 = y at *
    omega
theorem gi_exit1 {T u0 v1 v0 q r : Int} (h : GInv T u0 v1 v0 q r) (hv1 : 0 ≤ v1) (hv0 : 0 ≤ v0) (hu0 : 0 ≤ u0) (hT : 0 ≤ T) (hq : q < 4294967296) (hle : q * v0 ≤ r * 4294967296 + u0) : GuessOk (T * 4294967296 + u0).toNat (v1 * 4294967296 + v0).toNat q.toNat := by
  have h1 := h.eq
  refine guessOk_of (by omega) (by omega) h.q0 hq ?_ ?_
  · rw [gi_mul]
    generalize q * v1 = x at *
    generalize q * v0 = y at *
    omega
  · rcases h.big with h2 | h2
    · exact .inl (by omega)
    · exact .inr h2
theorem gi_past {T u0 v1 v0 q r : Int} (h : GInv T u0 v1 v0 q r) (hc : 4294967296 ≤ q ∨ r * 4294967296 + u0 < q * v0) : 4294967296 ≤ q - 1 + 1 ∨ T * 4294967296 + u0 < (q - 1 + 1) * (v1 * 4294967296 + v0) := by
  have h1 := h.eq
  rw [Int.sub_add_cancel]
  rcases hc with hc | hc
  · exact .inl hc
  · right
    rw [gi_mul]
    generalize q * v1 = x at *
    generalize q * v0 = y at *
    omega
theorem gi_next {T u0 v1 v0 q r : Int} (h : GInv T u0 v1 v0 q r) (hv1 : 0 ≤ v1) (hc : 4294967296 ≤ q ∨ r * 4294967296 + u0 < q * v0) (hq : 1 ≤ q) (hlt : r + v1 < 4294967296) : GInv T u0 v1 v0 (q - 1) (r + v1) := by
  have h1 := h.eq
  have h2 := h.q1
  have h3 := h.r0
  refine ⟨?_, by omega, by omega, by omega, hlt, gi_past h hc⟩
  rw [Int.sub_mul, Int.one_mul]
  omega
theorem gi_exit2 {T u0 v1 v0 q r : Int} (h : GInv T u0 v1 v0 q r) (hv1 : 0 ≤ v1) (hv0 : 0 ≤ v0 ∧ v0 < 4294967296) (hu0 : 0 ≤ u0) (hT : 0 ≤ T) (hTT : T < v1 * 4294967296 + 4294967296) (hc : 4294967296 ≤ q ∨ r * 4294967296 + u0 < q * v0) (hq : 1 ≤ q) (hge : 4294967296 ≤ r + v1) : GuessOk (T * 4294967296 + u0).toNat (v1 * 4294967296 + v0).toNat (q - 1).toNat := by
  have h1 := h.eq
  have h2 := h.q1
  have h3 := h.r0
  have hqB : q ≤ 4294967296 := by
    apply Int.le_of_not_gt
    intro hgt
    obtain rfl : q = 4294967297 := by omega
    omega
  refine guessOk_of (by omega) (by omega) (by omega) (by omega) ?_ ?_
  · have h4 : (q - 1) * v1 + (r + v1) = T := by rw [Int.sub_mul, Int.one_mul]; omega
    have h5 : (q - 1) * v0 ≤ 4294967295 * 4294967295 := Int.le_trans (Int.mul_le_mul_of_nonneg_right (show q - 1 ≤ 4294967295 by omega) hv0.1) (Int.mul_le_mul_of_nonneg_left (by omega) (by decide))
    rw [gi_mul]
    generalize (q - 1) * v1 = x at *
    generalize (q - 1) * v0 = y at *
    omega
  · rcases gi_past h hc with h6 | h6
    · exact .inl (by omega)
    · exact .inr h6
def GuessIs (T u0 v1 v0 : Int) (w : World) (e : Ending) (w' : World) : Prop := (∃ Q : Nat, e = .returned (.int .u64 (Q : Int)) ∧ GuessOk (T * 4294967296 + u0).toNat (v1 * 4294967296 + v0).toNat Q) ∧ ∃ nd, w' = w.drewN nd
theorem mul_bound {q v0 : Int} (h0 : 0 ≤ q) (h1 : q < 4294967296) (hv0 : 0 ≤ v0 ∧ v0 < 4294967296) : 0 ≤ q * v0 ∧ q * v0 ≤ 18446744065119617025 := by
  refine ⟨Int.mul_nonneg h0 hv0.1, ?_⟩
  exact Int.le_trans (Int.mul_le_mul_of_nonneg_right (show q ≤ 4294967295 by omega) hv0.1) (Int.mul_le_mul_of_nonneg_left (show v0 ≤ 4294967295 by omega) (by decide))
set_option maxRecDepth 100000 in
set_option maxHeartbeats 1000000 in
theorem div_guess.calls (u2 u1 u0 v1 v0 : Int) (w : World) (h2 : 0 ≤ u2 ∧ u2 < 4294967296) (h1 : 0 ≤ u1 ∧ u1 < 4294967296) (h0 : 0 ≤ u0 ∧ u0 < 4294967296) (hv1 : 2147483648 ≤ v1 ∧ v1 < 4294967296) (hv0 : 0 ≤ v0 ∧ v0 < 4294967296) (hu : u2 ≤ v1) :
    Calls Tryd.prog 69 #[.int .u32 u2, .int .u32 u1, .int .u32 u0, .int .u32 v1, .int .u32 v0] w (GuessIs (u2 * 4294967296 + u1) u0 v1 v0 w) := by
  obtain ⟨T, hT⟩ : ∃ T, u2 * 4294967296 + u1 = T := ⟨_, rfl⟩
  have hor : Go.bits .or .u64 (u2 * 4294967296) u1 = T := by rw [← hT]; exact u64_join h2.1 h2.2 h1.1 h1.2
  have hT0 : 0 ≤ T := by omega
  have hT1 : T < 18446744073709551616 := by omega
  have hTT : T < v1 * 4294967296 + 4294967296 := by omega
  rw [hT]
  have HS := gi_start hT0 hv1 hv0.1 h0.2 hTT
  have hb1 : T / v1 ≤ 4294967297 := HS.q1
  have hb0 : 0 ≤ T / v1 := HS.q0
  have e1 : T.tdiv v1 = T / v1 := Int.tdiv_eq_ediv_of_nonneg hT0
  have e2 : T.tmod v1 = T % v1 := Int.tmod_eq_emod_of_nonneg hT0
  have z1 : v1 ≠ 0 := by omega
  have z2 : (v1 == 0) = false := by simpa using z1
  have z3 : (v1 != 0) = true := by simpa using z1
  have HG := Aside0.mk HS
  have f0 : IntKind.u64.wrap (T / v1) = T / v1 := u64_wraps _ hb0 (by omega)
  obtain ⟨q, hqq⟩ : ∃ q, T / v1 = q := ⟨_, rfl⟩
  obtain ⟨r, hrr⟩ : ∃ r, T % v1 = r := ⟨_, rfl⟩
  rw [hqq] at e1 f0 HG
  rw [hrr] at e2 HG
  clear hT HS hb1 hb0 hqq hrr
  go_enter Tryd.func69, Tryd.ntmps69
  go_wp2
  refine wp_scope_jumps 0 (fun a' w' => (∃ nd, w' = w.drewN nd) ∧ ∃ (q r : Int) (e14 e15 e16 e17 e18 e19 e20 e21 e22 e23 e24 e25 e26 e27 e28 e29 e30 e31 e32 e33 e34 e35 e36 e37 e38 e39 e40 e41 e42 e43 e44 e45 e46 e47 e48 e49 e50 e51 e52 e53 : Value), a' = { tmps := #[.int .u32 u2, .int .u32 u1, .int .u32 u0, .int .u32 v1, .int .u32 v0, undef, undef, undef, undef, undef, .int .u64 0, .int .u64 T, .int .u64 q, .int .u64 r, e14, e15, e16, e17, e18, e19, e20, e21, e22, e23, e24, e25, e26, e27, e28, e29, e30, e31, e32, e33, e34, e35, e36, e37, e38, e39, e40, e41, e42, e43, e44, e45, e46, e47, e48, e49, e50, e51, e52, e53], defers := [] } ∧ Aside0 (GInv T u0 v1 v0 q r)) (fun a' _ => match a'.tmps.getD 12 undef with | .int _ q => q.toNat | _ => 0) rfl ?_ ?_
  · go_wp2
    go_quiet (fail)
    go_wp2
    go_step3
    have g0 := HG.out.q0
    have g1 := HG.out.q1
    have g2 := HG.out.r0
    have g3 := HG.out.r1
    have f5 : IntKind.u64.wrap (r + v1) = r + v1 := u64_wraps _ (by omega) (by omega)
    by_cases hq : q < 4294967296
    · have f1 : q / 4294967296 = 0 := by omega
      have hP := mul_bound g0 hq hv0
      obtain ⟨P, hPP⟩ : ∃ P, q * v0 = P := ⟨_, rfl⟩
      have f2 : IntKind.u64.wrap (q * v0) = P := by rw [hPP] at hP ⊢; exact u64_wraps _ hP.1 (by omega)
      have f3 : IntKind.u64.wrap (r * 4294967296) = r * 4294967296 := u64_wraps _ (by omega) (by omega)
      obtain ⟨R, hRR⟩ : ∃ R, r * 4294967296 + u0 = R := ⟨_, rfl⟩
      have f4 : Go.bits .or .u64 (r * 4294967296) u0 = R := by rw [← hRR]; exact u64_join g2 g3 h0.1 h0.2
      by_cases hle : P ≤ R
      · have HF := Aside0.mk (gi_exit1 HG.out (by omega) hv0.1 h0.1 hT0 hq (by rw [hPP, hRR]; exact hle))
        clear hPP hRR hP
        go_wp2
        simp only [Exit.jump]
        go_ret
        exact ⟨⟨q.toNat, by rw [Int.toNat_of_nonneg g0]; rfl, HF.out⟩, _, rfl⟩
      · have hq1 : 1 ≤ q := by
          apply Int.le_of_not_gt
          intro hgt
          obtain rfl : q = 0 := by omega
          rw [Int.zero_mul] at hPP
          omega
        have HC : Aside0 (4294967296 ≤ q ∨ r * 4294967296 + u0 < q * v0) := ⟨.inr (by rw [hPP, hRR]; omega)⟩
        have f7 : IntKind.u64.wrap (q - 1) = q - 1 := u64_wraps _ (by omega) (by omega)
        clear hPP hRR hP
        by_cases hlt : r + v1 < 4294967296
        · have f6 : (r + v1) / 4294967296 = 0 := by omega
          go_wp2
          go_step3
          exact ⟨rfl, ⟨_, rfl⟩, q - 1, r + v1, _, _, _, _, _, _, _, _, _, _, _, _, _, _, _, _, _, _, _, _, _, _, _, _, _, _, _, _, _, _, _, _, _, _, _, _, _, _, _, _, rfl, ⟨gi_next HG.out (by omega) HC.out (by omega) (by omega)⟩⟩
        · have f6 : (r + v1) / 4294967296 = 1 := by omega
          go_wp2
          simp only [Exit.jump]
          go_ret
          exact ⟨⟨(q - 1).toNat, by rw [Int.toNat_of_nonneg (by omega)]; rfl, gi_exit2 HG.out (by omega) hv0 h0.1 hT0 hTT HC.out (by omega) (by omega)⟩, _, rfl⟩
    · have f1 : q / 4294967296 = 1 := by omega
      have HC : Aside0 (4294967296 ≤ q ∨ r * 4294967296 + u0 < q * v0) := ⟨.inl (by omega)⟩
      have f7 : IntKind.u64.wrap (q - 1) = q - 1 := u64_wraps _ (by omega) (by omega)
      by_cases hlt : r + v1 < 4294967296
      · have f6 : (r + v1) / 4294967296 = 0 := by omega
        go_wp2
        go_step3
        exact ⟨rfl, ⟨_, rfl⟩, q - 1, r + v1, _, _, _, _, _, _, _, _, _, _, _, _, _, _, _, _, _, _, _, _, _, _, _, _, _, _, _, _, _, _, _, _, _, _, _, _, _, _, _, _, rfl, ⟨gi_next HG.out (by omega) HC.out (by omega) (by omega)⟩⟩
      · have f6 : (r + v1) / 4294967296 = 1 := by omega
        go_wp2
        simp only [Exit.jump]
        go_ret
        exact ⟨⟨(q - 1).toNat, by rw [Int.toNat_of_nonneg (by omega)]; rfl, gi_exit2 HG.out (by omega) hv0 h0.1 hT0 hTT HC.out (by omega) (by omega)⟩, _, rfl⟩
  · clear HG f0 e1 e2 q r
    rintro a' w' ⟨⟨nd, rfl⟩, q, r, e14, e15, e16, e17, e18, e19, e20, e21, e22, e23, e24, e25, e26, e27, e28, e29, e30, e31, e32, e33, e34, e35, e36, e37, e38, e39, e40, e41, e42, e43, e44, e45, e46, e47, e48, e49, e50, e51, e52, e53, rfl, HG⟩
    have g0 := HG.out.q0
    have g1 := HG.out.q1
    have g2 := HG.out.r0
    have g3 := HG.out.r1
    have f5 : IntKind.u64.wrap (r + v1) = r + v1 := u64_wraps _ (by omega) (by omega)
    by_cases hq : q < 4294967296
    · have f1 : q / 4294967296 = 0 := by omega
      have hP := mul_bound g0 hq hv0
      obtain ⟨P, hPP⟩ : ∃ P, q * v0 = P := ⟨_, rfl⟩
      have f2 : IntKind.u64.wrap (q * v0) = P := by rw [hPP] at hP ⊢; exact u64_wraps _ hP.1 (by omega)
      have f3 : IntKind.u64.wrap (r * 4294967296) = r * 4294967296 := u64_wraps _ (by omega) (by omega)
      obtain ⟨R, hRR⟩ : ∃ R, r * 4294967296 + u0 = R := ⟨_, rfl⟩
      have f4 : Go.bits .or .u64 (r * 4294967296) u0 = R := by rw [← hRR]; exact u64_join g2 g3 h0.1 h0.2
      by_cases hle : P ≤ R
      · have HF := Aside0.mk (gi_exit1 HG.out (by omega) hv0.1 h0.1 hT0 hq (by rw [hPP, hRR]; exact hle))
        clear hPP hRR hP
        go_wp2
        simp only [Exit.jump]
        go_ret
        exact ⟨⟨q.toNat, by rw [Int.toNat_of_nonneg g0]; rfl, HF.out⟩, _, rfl⟩
      · have hq1 : 1 ≤ q := by
          apply Int.le_of_not_gt
          intro hgt
          obtain rfl : q = 0 := by omega
          rw [Int.zero_mul] at hPP
          omega
        have HC : Aside0 (4294967296 ≤ q ∨ r * 4294967296 + u0 < q * v0) := ⟨.inr (by rw [hPP, hRR]; omega)⟩
        have f7 : IntKind.u64.wrap (q - 1) = q - 1 := u64_wraps _ (by omega) (by omega)
        clear hPP hRR hP
        by_cases hlt : r + v1 < 4294967296
        · have f6 : (r + v1) / 4294967296 = 0 := by omega
          go_wp2
          go_step3
          refine ⟨rfl, ⟨⟨_, rfl⟩, q - 1, r + v1, _, _, _, _, _, _, _, _, _, _, _, _, _, _, _, _, _, _, _, _, _, _, _, _, _, _, _, _, _, _, _, _, _, _, _, _, _, _, _, _, rfl, ⟨gi_next HG.out (by omega) HC.out (by omega) (by omega)⟩⟩, ?_⟩; simp [f7]; omega
        · have f6 : (r + v1) / 4294967296 = 1 := by omega
          go_wp2
          simp only [Exit.jump]
          go_ret
          exact ⟨⟨(q - 1).toNat, by rw [Int.toNat_of_nonneg (by omega)]; rfl, gi_exit2 HG.out (by omega) hv0 h0.1 hT0 hTT HC.out (by omega) (by omega)⟩, _, rfl⟩
    · have f1 : q / 4294967296 = 1 := by omega
      have HC : Aside0 (4294967296 ≤ q ∨ r * 4294967296 + u0 < q * v0) := ⟨.inl (by omega)⟩
      have f7 : IntKind.u64.wrap (q - 1) = q - 1 := u64_wraps _ (by omega) (by omega)
      by_cases hlt : r + v1 < 4294967296
      · have f6 : (r + v1) / 4294967296 = 0 := by omega
        go_wp2
        go_step3
        refine ⟨rfl, ⟨⟨_, rfl⟩, q - 1, r + v1, _, _, _, _, _, _, _, _, _, _, _, _, _, _, _, _, _, _, _, _, _, _, _, _, _, _, _, _, _, _, _, _, _, _, _, _, _, _, _, _, rfl, ⟨gi_next HG.out (by omega) HC.out (by omega) (by omega)⟩⟩, ?_⟩; simp [f7]; omega
      · have f6 : (r + v1) / 4294967296 = 1 := by omega
        go_wp2
        simp only [Exit.jump]
        go_ret
        exact ⟨⟨(q - 1).toNat, by rw [Int.toNat_of_nonneg (by omega)]; rfl, gi_exit2 HG.out (by omega) hv0 h0.1 hT0 hTT HC.out (by omega) (by omega)⟩, _, rfl⟩
theorem guess_fix {T V Q : Nat} (h : GuessOk T V Q) (hV : 0 < V) : Q = min (T / V) 4294967295 := by
  have h1 : Q ≤ T / V := (Nat.le_div_iff_mul_le hV).2 h.le
  have h0 := h.lt
  rcases h.most with h2 | h2
  · omega
  · have h3 : T / V < Q + 1 := (Nat.div_lt_iff_lt_mul hV).2 h2
    omega
theorem guess_min {T V : Nat} (hV : 0 < V) : GuessOk T V (min (T / V) 4294967295) := by
  refine ⟨by omega, ?_, ?_⟩
  · exact Nat.le_trans (Nat.mul_le_mul_right _ (Nat.min_le_left _ _)) (Nat.div_mul_le_self _ _)
  · by_cases h : T / V ≤ 4294967294
    · right
      rw [Nat.min_eq_left (by omega)]
      exact (Nat.div_lt_iff_lt_mul hV).1 (Nat.lt_succ_self _)
    · left; omega
/-- The guess as one number, whatever the machine draws. -/
theorem div_guess.one (u2 u1 u0 v1 v0 : Int) (h2 : 0 ≤ u2 ∧ u2 < 4294967296) (h1 : 0 ≤ u1 ∧ u1 < 4294967296) (h0 : 0 ≤ u0 ∧ u0 < 4294967296) (hv1 : 2147483648 ≤ v1 ∧ v1 < 4294967296) (hv0 : 0 ≤ v0 ∧ v0 < 4294967296) (hu : u2 ≤ v1) :
    ∃ Q : Nat, GuessOk ((u2.toNat * 4294967296 + u1.toNat) * 4294967296 + u0.toNat) (v1.toNat * 4294967296 + v0.toNat) Q ∧ ∀ W : World, Calls Tryd.prog 69 #[.int .u32 u2, .int .u32 u1, .int .u32 u0, .int .u32 v1, .int .u32 v0] W fun e w' => e = .returned (.int .u64 (Q : Int)) ∧ ∃ m, w' = W.drewN m := by
  have eT : ((u2 * 4294967296 + u1) * 4294967296 + u0).toNat = (u2.toNat * 4294967296 + u1.toNat) * 4294967296 + u0.toNat := by omega
  have eV : (v1 * 4294967296 + v0).toNat = v1.toNat * 4294967296 + v0.toNat := by omega
  have hV : 0 < v1.toNat * 4294967296 + v0.toNat := by omega
  have key : ∀ Q : Nat, GuessOk ((u2 * 4294967296 + u1) * 4294967296 + u0).toNat (v1 * 4294967296 + v0).toNat Q → Q = min (((u2.toNat * 4294967296 + u1.toNat) * 4294967296 + u0.toNat) / (v1.toNat * 4294967296 + v0.toNat)) 4294967295 := by
    intro Q hQ
    rw [eT, eV] at hQ
    exact guess_fix hQ hV
  refine ⟨min (((u2.toNat * 4294967296 + u1.toNat) * 4294967296 + u0.toNat) / (v1.toNat * 4294967296 + v0.toNat)) 4294967295, ?_, fun W => ?_⟩
  · exact guess_min hV
  · refine (div_guess.calls u2 u1 u0 v1 v0 W h2 h1 h0 hv1 hv0 hu).mono ?_
    rintro e w' ⟨⟨Q, rfl, hQ⟩, nd⟩
    exact ⟨by rw [key Q hQ], nd⟩
theorem cut_win {P : Program} (t e : TypeId) (kl kh km : IntKind) {ti : TypeInfo} (ht : P.underlying t = some (.slice e)) (hi : P.info? e = some ti) (hz : ti.size = 1) (g N c i L j : Nat) (hL : 0 < L) (hj : j = i + L) (hc : j ≤ c) :
    ∀ W : World, (Instr.slice t (.slice (some ⟨g, 0, none⟩) N c) (some (.int kl (i : Int))) (some (.int kh (j : Int))) (some (.int km (j : Int)))).run P W = .ok (.slice (some ⟨g, i, none⟩) L L) W := by
  intro W
  have hel : P.elem t = e := by simp [Program.elem, ht]
  have hu : P.underlying t = some (.slice (P.elem t)) := by rw [hel]; exact ht
  subst hj
  rw [run_slice_lhm W t _ N c hu kl kh km (i : Int) ((i + L : Nat) : Int) ((i + L : Nat) : Int) (by omega) (by omega) (by omega) (by omega), hel]
  have hn : L ≠ 0 := by omega
  have e1 : ((i + L : Nat) : Int).toNat = i + L := by omega
  have e2 : i + L - i = L := by omega
  rw [e1, Int.toNat_natCast]
  simp [sizeOf, typeInfo, hi, hz, sliced, Result.andThen, Addr.add, hn, e2]
  exact fun h => h.symm

/-! ### div_take: function 70 -/
/-- What 'take' has left behind k limbs: so many times v is off U from limb i on; c and l are owed still. -/
structure TakeInv (U v : List Int) (i q k : Nat) (c l : Int) (U' : List Int) : Prop where
  len : U'.length = U.length
  rg : Nums.rng U' = true
  rest : U'.drop (i + k) = U.drop (i + k)
  eq : Nums.val U' + 4294967296 ^ i * (q * Nums.val (v.take k)) = Nums.val U + 4294967296 ^ (i + k) * (c.toNat + l.toNat)
  cs : 0 ≤ c ∧ c < 4294967296
  ls : 0 ≤ l ∧ l ≤ 1
theorem TakeInv.start {U v : List Int} {i q : Nat} (hr : Nums.rng U = true) : TakeInv U v i q 0 0 0 U :=
  ⟨rfl, hr, rfl, by simp [Nums.val], by decide, by decide⟩
theorem drop_set_next {l m : List Int} {a : Nat} {x : Int} (h : l.drop a = m.drop a) : (l.set a x).drop (a + 1) = m.drop (a + 1) := by
  rw [List.drop_set_of_lt (by omega), ← List.drop_drop, ← List.drop_drop, h]
theorem sub_owed {o p l : Int} (ho : 0 ≤ o ∧ o < 4294967296) (hp : 0 ≤ p ∧ p < 4294967296) (hl : 0 ≤ l ∧ l ≤ 1) :
    (0 ≤ (o - p - l) % 4294967296 ∧ (o - p - l) % 4294967296 < 4294967296) ∧ (0 ≤ (if o < p + l then (1 : Int) else 0) ∧ (if o < p + l then (1 : Int) else 0) ≤ 1) ∧ ((o - p - l) % 4294967296).toNat + p.toNat + l.toNat = o.toNat + 4294967296 * (if o < p + l then (1 : Int) else 0).toNat := by
  refine ⟨by omega, by split <;> omega, ?_⟩
  split <;> omega
theorem TakeInv.step {U v U' : List Int} {i q k : Nat} {c l x o : Int} (h : TakeInv U v i q k c l U') (hk : k < v.length) (hi : i + k < U.length) (hv : Nums.rng v = true) (hq : q < 4294967296) (hx : v[k] = x) (ho : U'[i + k]'(by rw [h.len]; exact hi) = o) :
    TakeInv U v i q (k + 1) (((q : Int) * x + c) / 4294967296) (if o < ((q : Int) * x + c) % 4294967296 + l then 1 else 0) (U'.set (i + k) ((o - ((q : Int) * x + c) % 4294967296 - l) % 4294967296)) := by
  have hi' : i + k < U'.length := by rw [h.len]; exact hi
  have hxr := Nums.rng_get hv (i := k) hk
  have hor := Nums.rng_get h.rg (i := i + k) hi'
  have hts := Nums.val_take_succ v k hk
  have hset := fun z => Nums.val_set U' (i + k) z hi'
  rw [hx] at hxr hts
  rw [ho] at hor hset
  have hm0 : 0 ≤ (q : Int) * x := Int.mul_nonneg (by omega) hxr.1
  have hm1 : (q : Int) * x ≤ 4294967295 * 4294967295 := Int.le_trans (Int.mul_le_mul_of_nonneg_right (show (q : Int) ≤ 4294967295 by omega) hxr.1) (Int.mul_le_mul_of_nonneg_left (by omega) (by decide))
  have hqx : q * x.toNat = ((q : Int) * x).toNat := by
    have : ((q * x.toNat : Nat) : Int) = (q : Int) * x := by rw [Int.natCast_mul, show ((x.toNat : Nat) : Int) = x by omega]
    omega
  have hcs := h.cs
  have hls := h.ls
  have heq := h.eq
  obtain ⟨p, hp⟩ : ∃ p, (q : Int) * x + c = p := ⟨_, rfl⟩
  have hp0 : 0 ≤ p ∧ p < 18446744073709551616 := by omega
  have hpn : q * x.toNat + c.toNat = (p % 4294967296).toNat + 4294967296 * (p / 4294967296).toNat := by rw [hqx]; omega
  rw [hp]
  obtain ⟨s1, s2, s3⟩ := sub_owed hor (show 0 ≤ p % 4294967296 ∧ p % 4294967296 < 4294967296 by omega) hls
  refine ⟨by rw [List.length_set]; exact h.len, Nums.rng_set h.rg _ s1, ?_, ?_, by omega, s2⟩
  · exact drop_set_next h.rest
  · have h1 := hset ((o - p % 4294967296 - l) % 4294967296)
    obtain ⟨D, hD⟩ : ∃ D, ((o - p % 4294967296 - l) % 4294967296).toNat = D := ⟨_, rfl⟩
    obtain ⟨L, hL⟩ : ∃ L, (if o < p % 4294967296 + l then (1 : Int) else 0).toNat = L := ⟨_, rfl⟩
    rw [hD] at h1 s3
    rw [hL] at s3 ⊢
    obtain ⟨Y, hY⟩ : ∃ Y, (p % 4294967296).toNat = Y := ⟨_, rfl⟩
    obtain ⟨C, hC⟩ : ∃ C, (p / 4294967296).toNat = C := ⟨_, rfl⟩
    rw [hY] at s3
    rw [hY, hC] at hpn
    rw [hC]
    rw [hts, show i + (k + 1) = i + k + 1 by omega, Nat.pow_succ, Nat.mul_add q, Nat.mul_add (4294967296 ^ i), Nat.mul_left_comm q (4294967296 ^ k) x.toNat, ← Nat.mul_assoc (4294967296 ^ i) (4294967296 ^ k), ← Nat.pow_add]
    have e1 := congrArg (4294967296 ^ (i + k) * ·) s3
    have e2 := congrArg (4294967296 ^ (i + k) * ·) hpn
    simp only [Nat.mul_add] at e1 e2 heq
    obtain ⟨P, hP⟩ : ∃ P, 4294967296 ^ (i + k) = P := ⟨_, rfl⟩
    rw [hP] at e1 e2 heq h1 ⊢
    rw [Nat.mul_add (P * 4294967296), Nat.mul_assoc, Nat.mul_assoc]
    omega
/-- At the end of 'take': the last limb pays what is owed. -/
theorem TakeInv.done {U v U' : List Int} {i q : Nat} {c l o : Int} (h : TakeInv U v i q v.length c l U') (hi : i + v.length < U.length) (ho : U'[i + v.length]'(by rw [h.len]; exact hi) = o) :
    (U'.set (i + v.length) ((o - c - l) % 4294967296)).length = U.length ∧ Nums.rng (U'.set (i + v.length) ((o - c - l) % 4294967296)) = true ∧ (U'.set (i + v.length) ((o - c - l) % 4294967296)).drop (i + v.length + 1) = U.drop (i + v.length + 1) ∧
    Nums.val (U'.set (i + v.length) ((o - c - l) % 4294967296)) + 4294967296 ^ i * (q * Nums.val v) = Nums.val U + 4294967296 ^ (i + v.length + 1) * (if o < c + l then (1 : Int) else 0).toNat := by
  have hi' : i + v.length < U'.length := by rw [h.len]; exact hi
  have hor := Nums.rng_get h.rg (i := i + v.length) hi'
  have hset := fun z => Nums.val_set U' (i + v.length) z hi'
  rw [ho] at hor hset
  obtain ⟨s1, s2, s3⟩ := sub_owed hor h.cs h.ls
  have heq := h.eq
  rw [List.take_length] at heq
  refine ⟨by rw [List.length_set]; exact h.len, Nums.rng_set h.rg _ s1, drop_set_next h.rest, ?_⟩
  have h1 := hset ((o - c - l) % 4294967296)
  obtain ⟨D, hD⟩ : ∃ D, ((o - c - l) % 4294967296).toNat = D := ⟨_, rfl⟩
  obtain ⟨L, hL⟩ : ∃ L, (if o < c + l then (1 : Int) else 0).toNat = L := ⟨_, rfl⟩
  rw [hD] at h1 s3
  rw [hL] at s3 ⊢
  have e1 := congrArg (4294967296 ^ (i + v.length) * ·) s3
  simp only [Nat.mul_add] at e1 heq
  rw [Nat.pow_succ, Nat.mul_assoc]
  obtain ⟨P, hP⟩ : ∃ P, 4294967296 ^ (i + v.length) = P := ⟨_, rfl⟩
  rw [hP] at e1 heq h1 ⊢
  omega
/-- What 'back' has given back behind k limbs; c is owed still. -/
structure BackInv (U v : List Int) (i k : Nat) (c : Int) (U' : List Int) : Prop where
  len : U'.length = U.length
  rg : Nums.rng U' = true
  rest : U'.drop (i + k) = U.drop (i + k)
  eq : Nums.val U' + 4294967296 ^ (i + k) * c.toNat = Nums.val U + 4294967296 ^ i * Nums.val (v.take k)
  cs : 0 ≤ c ∧ c ≤ 1
theorem BackInv.start {U v : List Int} {i : Nat} (hr : Nums.rng U = true) : BackInv U v i 0 0 U :=
  ⟨rfl, hr, rfl, by simp [Nums.val], by decide⟩
theorem add_owed {o x c : Int} (ho : 0 ≤ o ∧ o < 4294967296) (hx : 0 ≤ x ∧ x < 4294967296) (hc : 0 ≤ c ∧ c ≤ 1) :
    (0 ≤ (o + x + c) % 4294967296 ∧ (o + x + c) % 4294967296 < 4294967296) ∧ (0 ≤ (o + x + c) / 4294967296 ∧ (o + x + c) / 4294967296 ≤ 1) ∧ ((o + x + c) % 4294967296).toNat + 4294967296 * ((o + x + c) / 4294967296).toNat = o.toNat + x.toNat + c.toNat := by
  refine ⟨by omega, by omega, by omega⟩
theorem BackInv.step {U v U' : List Int} {i k : Nat} {c x o : Int} (h : BackInv U v i k c U') (hk : k < v.length) (hi : i + k < U.length) (hv : Nums.rng v = true) (hx : v[k] = x) (ho : U'[i + k]'(by rw [h.len]; exact hi) = o) :
    BackInv U v i (k + 1) ((o + x + c) / 4294967296) (U'.set (i + k) ((o + x + c) % 4294967296)) := by
  have hi' : i + k < U'.length := by rw [h.len]; exact hi
  have hxr := Nums.rng_get hv (i := k) hk
  have hor := Nums.rng_get h.rg (i := i + k) hi'
  have hts := Nums.val_take_succ v k hk
  have hset := fun z => Nums.val_set U' (i + k) z hi'
  rw [hx] at hxr hts
  rw [ho] at hor hset
  obtain ⟨s1, s2, s3⟩ := add_owed hor hxr h.cs
  have heq := h.eq
  refine ⟨by rw [List.length_set]; exact h.len, Nums.rng_set h.rg _ s1, drop_set_next h.rest, ?_, s2⟩
  have h1 := hset ((o + x + c) % 4294967296)
  obtain ⟨D, hD⟩ : ∃ D, ((o + x + c) % 4294967296).toNat = D := ⟨_, rfl⟩
  obtain ⟨C, hC⟩ : ∃ C, ((o + x + c) / 4294967296).toNat = C := ⟨_, rfl⟩
  rw [hD] at h1 s3
  rw [hC] at s3 ⊢
  rw [hts, show i + (k + 1) = i + k + 1 by omega, Nat.pow_succ, Nat.mul_add (4294967296 ^ i), ← Nat.mul_assoc (4294967296 ^ i) (4294967296 ^ k), ← Nat.pow_add, Nat.mul_assoc]
  have e1 := congrArg (4294967296 ^ (i + k) * ·) s3
  simp only [Nat.mul_add] at e1
  obtain ⟨P, hP⟩ : ∃ P, 4294967296 ^ (i + k) = P := ⟨_, rfl⟩
  rw [hP] at e1 heq h1 ⊢
  omega
/-- At the end of 'back'. -/
theorem BackInv.done {U v U' : List Int} {i : Nat} {c o : Int} (h : BackInv U v i v.length c U') (hi : i + v.length < U.length) (ho : U'[i + v.length]'(by rw [h.len]; exact hi) = o) :
    (U'.set (i + v.length) ((o + c) % 4294967296)).length = U.length ∧ Nums.rng (U'.set (i + v.length) ((o + c) % 4294967296)) = true ∧ (U'.set (i + v.length) ((o + c) % 4294967296)).drop (i + v.length + 1) = U.drop (i + v.length + 1) ∧
    ∃ z, z ≤ 1 ∧ Nums.val (U'.set (i + v.length) ((o + c) % 4294967296)) + 4294967296 ^ (i + v.length + 1) * z = Nums.val U + 4294967296 ^ i * Nums.val v := by
  have hi' : i + v.length < U'.length := by rw [h.len]; exact hi
  have hor := Nums.rng_get h.rg (i := i + v.length) hi'
  have hset := fun z => Nums.val_set U' (i + v.length) z hi'
  rw [ho] at hor hset
  obtain ⟨s1, s2, s3⟩ := add_owed hor (show (0 : Int) ≤ 0 ∧ (0 : Int) < 4294967296 by decide) h.cs
  rw [Int.add_zero] at s1 s2 s3
  have heq := h.eq
  rw [List.take_length] at heq
  refine ⟨by rw [List.length_set]; exact h.len, Nums.rng_set h.rg _ s1, drop_set_next h.rest, ((o + c) / 4294967296).toNat, by omega, ?_⟩
  have h1 := hset ((o + c) % 4294967296)
  obtain ⟨D, hD⟩ : ∃ D, ((o + c) % 4294967296).toNat = D := ⟨_, rfl⟩
  obtain ⟨C, hC⟩ : ∃ C, ((o + c) / 4294967296).toNat = C := ⟨_, rfl⟩
  rw [hD] at h1 s3
  rw [hC] at s3 ⊢
  have e1 := congrArg (4294967296 ^ (i + v.length) * ·) s3
  simp only [Nat.mul_add] at e1
  rw [Nat.pow_succ, Nat.mul_assoc]
  obtain ⟨P, hP⟩ : ∃ P, 4294967296 ^ (i + v.length) = P := ⟨_, rfl⟩
  rw [hP] at e1 heq h1 ⊢
  simp only [Int.toNat_zero, Nat.mul_zero, Nat.add_zero] at e1
  omega
/-- What is left of a window's row, and whether too much was taken (b). -/
def TakePost (g i q cU : Nat) (U v : List Int) (w0 w : World) (e : Ending) (w' : World) : Prop := ∃ (U' : List Int) (b : Nat), e = .returned (.bool (b == 1)) ∧ b ≤ 1 ∧ (U'.length = U.length ∧ Nums.rng U' = true ∧ U'.drop (i + v.length + 1) = U.drop (i + v.length + 1) ∧ Nums.val U' + 4294967296 ^ i * (q * Nums.val v) = Nums.val U + 4294967296 ^ (i + v.length + 1) * b) ∧
  Kd.R (Kd.int .u32) 39 w' w0.heap.size (fun k => k = g) (.slice (some ⟨g, 0, none⟩) U.length cU) U' ∧ Below w0.heap.size w0 w' ∧ Kept w w' (fun k => k = g)
set_option maxRecDepth 100000 in
set_option maxHeartbeats 1000000 in
theorem div_take.win (g i cU cp cv q : Nat) (A1 : Option Addr) (U v : List Int) (w0 w : World) (hB : Below w0.heap.size w0 w) (ho : Kd.R (Kd.int .u32) 39 w w0.heap.size (fun k => k = g) (.slice (some ⟨g, 0, none⟩) U.length cU) U)
    (hv : ∀ W_, Kept w W_ (fun k => k = g) → Kd.C (Kd.int .u32) W_ A1 v.length v) (hcv : v.length ≤ cv) (hi : i + v.length < U.length) (hU : Nums.rng U = true) (hvr : Nums.rng v = true) (hq : q < 4294967296) (hl : U.length ≤ 1099511627776) (hcp : v.length + 1 ≤ cp) :
    Calls Tryd.prog 70 #[.slice (some ⟨g, i, none⟩) (v.length + 1) cp, .slice A1 v.length cv, .int .u64 (q : Int)] w (TakePost g i q cU U v w0 w) := by
  have HB := Aside0.mk hB
  have HO := Aside0.mk ho
  have HV := Aside0.mk hv
  have HU := Aside0.mk hU
  have HVR := Aside0.mk hvr
  clear hB ho hv hU hvr
  go_enter Tryd.func70, Tryd.ntmps70
  go_wp2
  go_loopw [7, 8, 14] (fun v7 v8 v14 wr => ∃ (k : Nat) (U' : List Int) (c l : Int), k ≤ v.length ∧ v7 = .int .u32 c ∧ v8 = .int .u32 l ∧ v14 = .int .i64 (k : Int) ∧ Aside0 (TakeInv U v i q k c l U') ∧ Aside0 (Kd.R (Kd.int .u32) 39 wr w0.heap.size (fun k => k = g) (.slice (some ⟨g, 0, none⟩) U'.length cU) U') ∧ Aside0 (Below w0.heap.size w0 wr) ∧ Aside0 (Kept w wr (fun k => k = g)) ∧ (0 ≤ c ∧ c < 4294967296) ∧ (0 ≤ l ∧ l ≤ 1)) (fun _ _ v14 _ => v.length - (match v14 with | .int _ k => k.toNat | _ => 0))
  case atStart => exact ⟨0, U, 0, 0, Nat.zero_le _, rfl, rfl, rfl, ⟨TakeInv.start HU.out⟩, HO, HB, ⟨Kept.refl _ _⟩, by decide, by decide⟩
  case round =>
    obtain ⟨k, U', c, l, hk, rfl, rfl, rfl, HT, HO, HB, HK, hc, hll⟩ := hrel
    by_cases hlt : k < v.length
    · have hvk := HV.out wr HK.out
      obtain ⟨ad, hA, hcv2⟩ := Kd.at_int hvk (k : Int) (by omega) (by omega)
      subst hA
      obtain ⟨x, hx⟩ : ∃ x, v[k] = x := ⟨_, rfl⟩
      have hxr := Nums.rng_get HVR.out hlt
      have hrd := rd_nat hlt
      rw [hx] at hxr hrd
      rw [hrd, Int.toNat_natCast] at hcv2
      have hik : i + k < U'.length := by rw [HT.out.len]; omega
      obtain ⟨o, hoo⟩ : ∃ o, U'[i + k] = o := ⟨_, rfl⟩
      have hor := Nums.rng_get HT.out.rg hik
      have hrdu := rd_nat hik
      rw [hoo] at hor hrdu
      obtain ⟨hcu, hfu⟩ := Kd.R_celln (0 : Int) HO.out ((i + k : Nat) : Int) (by omega) (by omega)
      rw [show rdOf 0 U' ((i + k : Nat) : Int) = o from hrdu, Int.toNat_natCast] at hcu
      rw [Int.toNat_natCast] at hfu
      have hPb := mul_bound (q := (q : Int)) (by omega) (by omega) hxr
      obtain ⟨P, hPP⟩ : ∃ P, (q : Int) * x = P := ⟨_, rfl⟩
      rw [hPP] at hPb
      have f1 : IntKind.u64.wrap ((q : Int) * x) = P := by rw [hPP]; exact u64_wraps _ (by omega) (by omega)
      have f2 : IntKind.u64.wrap (P + c) = P + c := u64_wraps _ (by omega) (by omega)
      have HS := Aside0.mk (sub32_eq (x := o) (y := (P + c) % 4294967296) (c := l) hor (by omega) hll)
      have HTS := Aside0.mk (HT.out.step hlt (by omega) HVR.out hq hx hoo)
      rw [hPP] at HTS
      clear hx hrd hvk hoo hrdu hPP
      obtain ⟨D, hD⟩ : ∃ D, (o - (P + c) % 4294967296 - l) % 4294967296 = D := ⟨_, rfl⟩
      obtain ⟨L, hLL⟩ : ∃ L : Int, (if o < (P + c) % 4294967296 + l then 1 else 0) = L := ⟨_, rfl⟩
      rw [hD, hLL] at HS
      rw [hD, hLL] at HTS
      have hc2 : 0 ≤ (P + c) / 4294967296 ∧ (P + c) / 4294967296 < 4294967296 := by omega
      have hL2 : 0 ≤ L ∧ L ≤ 1 := HTS.out.ls
      have hD2 := Aside0.mk hD
      clear hD hLL
      go_wp2_with (go_at_call 56; refine (bits_Sub32.calls _ _ _ D L _ HS.out).mono ?_; rintro e w' ⟨rfl, ⟨nd, rfl⟩⟩)
      obtain ⟨hput, hgrow⟩ := Kd.R_putg (Kd.R_drewN HO.out nd) ((i + k : Nat) : Int) D
      rw [Int.toNat_natCast] at hput hgrow
      have hln : (U'.set (i + k) D).length = U'.length := List.length_set
      go_roundw
      case rel => exact ⟨k + 1, U'.set (i + k) D, (P + c) / 4294967296, L, by omega, rfl, rfl, by go_num, HTS, ⟨by rw [hln]; exact hput⟩, ⟨(pw_below_drewN HB.out nd).grown hgrow (by have := HB.out.size; simpa using this) (fun b hb => by cases hb; have := Kd.R_base HO.out g rfl; omega)⟩, ⟨(HK.out.drewN nd).of_grown hgrow (fun b hb => by cases hb; exact .inl rfl)⟩, hc2, hL2⟩
      case measure => simp; omega
    · obtain rfl : k = v.length := by omega
      have hik : i + v.length < U'.length := by rw [HT.out.len]; exact hi
      obtain ⟨o, hoo⟩ : ∃ o, U'[i + v.length] = o := ⟨_, rfl⟩
      have hor := Nums.rng_get HT.out.rg hik
      have hrdu := rd_nat hik
      rw [hoo] at hor hrdu
      obtain ⟨hcu, hfu⟩ := Kd.R_celln (0 : Int) HO.out ((i + v.length : Nat) : Int) (by omega) (by omega)
      rw [show rdOf 0 U' ((i + v.length : Nat) : Int) = o from hrdu, Int.toNat_natCast] at hcu
      rw [Int.toNat_natCast] at hfu
      have HS := Aside0.mk (sub32_eq (x := o) (y := c) (c := l) hor hc hll)
      have HTD := Aside0.mk (HT.out.done hi hoo)
      obtain ⟨D, hD⟩ : ∃ D, (o - c - l) % 4294967296 = D := ⟨_, rfl⟩
      have hUl := Aside0.mk HT.out.len
      rw [hD] at HS HTD
      clear hoo hrdu hD
      by_cases hlo : o < c + l
      · rw [if_pos hlo] at HS HTD
        go_wp2_with (go_at_call 56; refine (bits_Sub32.calls _ _ _ D 1 _ HS.out).mono ?_; rintro e w' ⟨rfl, ⟨nd, rfl⟩⟩)
        obtain ⟨hput, hgrow⟩ := Kd.R_putg (Kd.R_drewN HO.out nd) ((i + v.length : Nat) : Int) D
        rw [Int.toNat_natCast] at hput hgrow
        rw [hUl.out] at hput
        go_ret
        exact ⟨U'.set (i + v.length) D, 1, rfl, Nat.le_refl _, HTD.out, hput, (pw_below_drewN HB.out nd).grown hgrow (by have := HB.out.size; simpa using this) (fun b hb => by cases hb; have := Kd.R_base HO.out g rfl; omega), (HK.out.drewN nd).of_grown hgrow (fun b hb => by cases hb; exact .inl rfl)⟩
      · rw [if_neg hlo] at HS HTD
        go_wp2_with (go_at_call 56; refine (bits_Sub32.calls _ _ _ D 0 _ HS.out).mono ?_; rintro e w' ⟨rfl, ⟨nd, rfl⟩⟩)
        obtain ⟨hput, hgrow⟩ := Kd.R_putg (Kd.R_drewN HO.out nd) ((i + v.length : Nat) : Int) D
        rw [Int.toNat_natCast] at hput hgrow
        rw [hUl.out] at hput
        go_ret
        exact ⟨U'.set (i + v.length) D, 0, rfl, by decide, HTD.out, hput, (pw_below_drewN HB.out nd).grown hgrow (by have := HB.out.size; simpa using this) (fun b hb => by cases hb; have := Kd.R_base HO.out g rfl; omega), (HK.out.drewN nd).of_grown hgrow (fun b hb => by cases hb; exact .inl rfl)⟩

/-! ### div_back: function 71 -/
/-- What is left of a window's row behind 'back'. -/
def BackPost (g i cU : Nat) (U v : List Int) (w0 w : World) (e : Ending) (w' : World) : Prop := ∃ (U' : List Int) (z : Nat), e = .returned (.tuple #[]) ∧ z ≤ 1 ∧ (U'.length = U.length ∧ Nums.rng U' = true ∧ U'.drop (i + v.length + 1) = U.drop (i + v.length + 1) ∧ Nums.val U' + 4294967296 ^ (i + v.length + 1) * z = Nums.val U + 4294967296 ^ i * Nums.val v) ∧
  Kd.R (Kd.int .u32) 39 w' w0.heap.size (fun k => k = g) (.slice (some ⟨g, 0, none⟩) U.length cU) U' ∧ Below w0.heap.size w0 w' ∧ Kept w w' (fun k => k = g)
set_option maxRecDepth 100000 in
set_option maxHeartbeats 1000000 in
theorem div_back.win (g i cU cp cv : Nat) (A1 : Option Addr) (U v : List Int) (w0 w : World) (hB : Below w0.heap.size w0 w) (ho : Kd.R (Kd.int .u32) 39 w w0.heap.size (fun k => k = g) (.slice (some ⟨g, 0, none⟩) U.length cU) U)
    (hv : ∀ W_, Kept w W_ (fun k => k = g) → Kd.C (Kd.int .u32) W_ A1 v.length v) (hcv : v.length ≤ cv) (hi : i + v.length < U.length) (hU : Nums.rng U = true) (hvr : Nums.rng v = true) (hl : U.length ≤ 1099511627776) (hcp : v.length + 1 ≤ cp) :
    Calls Tryd.prog 71 #[.slice (some ⟨g, i, none⟩) (v.length + 1) cp, .slice A1 v.length cv] w (BackPost g i cU U v w0 w) := by
  have HB := Aside0.mk hB
  have HO := Aside0.mk ho
  have HV := Aside0.mk hv
  have HU := Aside0.mk hU
  have HVR := Aside0.mk hvr
  clear hB ho hv hU hvr
  go_enter Tryd.func71, Tryd.ntmps71
  go_wp2
  go_loopw [4, 9] (fun v4 v9 wr => ∃ (k : Nat) (U' : List Int) (c : Int), k ≤ v.length ∧ v4 = .int .u32 c ∧ v9 = .int .i64 (k : Int) ∧ Aside0 (BackInv U v i k c U') ∧ Aside0 (Kd.R (Kd.int .u32) 39 wr w0.heap.size (fun k => k = g) (.slice (some ⟨g, 0, none⟩) U'.length cU) U') ∧ Aside0 (Below w0.heap.size w0 wr) ∧ Aside0 (Kept w wr (fun k => k = g)) ∧ (0 ≤ c ∧ c ≤ 1)) (fun _ v9 _ => v.length - (match v9 with | .int _ k => k.toNat | _ => 0))
  case atStart => exact ⟨0, U, 0, Nat.zero_le _, rfl, rfl, ⟨BackInv.start HU.out⟩, HO, HB, ⟨Kept.refl _ _⟩, by decide⟩
  case round =>
    obtain ⟨k, U', c, hk, rfl, rfl, HT, HO, HB, HK, hc⟩ := hrel
    by_cases hlt : k < v.length
    · have hvk := HV.out wr HK.out
      obtain ⟨ad, hA, hcv2⟩ := Kd.at_int hvk (k : Int) (by omega) (by omega)
      subst hA
      obtain ⟨x, hx⟩ : ∃ x, v[k] = x := ⟨_, rfl⟩
      have hxr := Nums.rng_get HVR.out hlt
      have hrd := rd_nat hlt
      rw [hx] at hxr hrd
      rw [hrd, Int.toNat_natCast] at hcv2
      have hik : i + k < U'.length := by rw [HT.out.len]; omega
      obtain ⟨o, hoo⟩ : ∃ o, U'[i + k] = o := ⟨_, rfl⟩
      have hor := Nums.rng_get HT.out.rg hik
      have hrdu := rd_nat hik
      rw [hoo] at hor hrdu
      obtain ⟨hcu, hfu⟩ := Kd.R_celln (0 : Int) HO.out ((i + k : Nat) : Int) (by omega) (by omega)
      rw [show rdOf 0 U' ((i + k : Nat) : Int) = o from hrdu, Int.toNat_natCast] at hcu
      rw [Int.toNat_natCast] at hfu
      have HS := Aside0.mk (add32_eq (x := o) (y := x) (c := c) hor hxr hc)
      have HTS := Aside0.mk (HT.out.step hlt (by omega) HVR.out hx hoo)
      obtain ⟨D, hD⟩ : ∃ D, (o + x + c) % 4294967296 = D := ⟨_, rfl⟩
      obtain ⟨L, hLL⟩ : ∃ L : Int, (o + x + c) / 4294967296 = L := ⟨_, rfl⟩
      rw [hD, hLL] at HS
      rw [hD, hLL] at HTS
      have hL2 : 0 ≤ L ∧ L ≤ 1 := HTS.out.cs
      clear hx hrd hvk hoo hrdu hD hLL
      go_wp2_with (go_at_call 52; refine (bits_Add32.calls _ _ _ D L _ HS.out).mono ?_; rintro e w' ⟨rfl, ⟨nd, rfl⟩⟩)
      obtain ⟨hput, hgrow⟩ := Kd.R_putg (Kd.R_drewN HO.out nd) ((i + k : Nat) : Int) D
      rw [Int.toNat_natCast] at hput hgrow
      have hln : (U'.set (i + k) D).length = U'.length := List.length_set
      go_roundw
      case rel => exact ⟨k + 1, U'.set (i + k) D, L, by omega, rfl, by go_num, HTS, ⟨by rw [hln]; exact hput⟩, ⟨(pw_below_drewN HB.out nd).grown hgrow (by have := HB.out.size; simpa using this) (fun b hb => by cases hb; have := Kd.R_base HO.out g rfl; omega)⟩, ⟨(HK.out.drewN nd).of_grown hgrow (fun b hb => by cases hb; exact .inl rfl)⟩, hL2⟩
      case measure => simp; omega
    · obtain rfl : k = v.length := by omega
      have hik : i + v.length < U'.length := by rw [HT.out.len]; exact hi
      obtain ⟨o, hoo⟩ : ∃ o, U'[i + v.length] = o := ⟨_, rfl⟩
      have hor := Nums.rng_get HT.out.rg hik
      have hrdu := rd_nat hik
      rw [hoo] at hor hrdu
      obtain ⟨hcu, hfu⟩ := Kd.R_celln (0 : Int) HO.out ((i + v.length : Nat) : Int) (by omega) (by omega)
      rw [show rdOf 0 U' ((i + v.length : Nat) : Int) = o from hrdu, Int.toNat_natCast] at hcu
      rw [Int.toNat_natCast] at hfu
      obtain ⟨h1, h2, h3, z, hz1, hz2⟩ := HT.out.done hi hoo
      have HTD := Aside0.mk (And.intro h1 (And.intro h2 (And.intro h3 hz2)))
      have hUl := Aside0.mk HT.out.len
      clear hoo hrdu h1 h2 h3 hz2
      go_wp2
      obtain ⟨hput, hgrow⟩ := Kd.R_putg HO.out ((i + v.length : Nat) : Int) ((o + c) % 4294967296)
      rw [Int.toNat_natCast] at hput hgrow
      rw [hUl.out] at hput
      go_end0
      exact ⟨U'.set (i + v.length) ((o + c) % 4294967296), z, rfl, hz1, HTD.out, hput, HB.out.grown hgrow (by have := HB.out.size; simpa using this) (fun b hb => by cases hb; have := Kd.R_base HO.out g rfl; omega), HK.out.of_grown hgrow (fun b hb => by cases hb; exact .inl rfl)⟩

end Go.Proofs.YtjgloepeogelnaaDoor.Pr

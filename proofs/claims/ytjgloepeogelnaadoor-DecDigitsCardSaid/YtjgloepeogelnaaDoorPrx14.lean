-- Laid by this session's own program (mk.py) out of the translation.
import Derived.Test.YtjgloepeogelnaaDoorPrx0
import Derived.Test.YtjgloepeogelnaaDoorPrx1
import Derived.Test.YtjgloepeogelnaaDoorPrx6
import Derived.Test.YtjgloepeogelnaaDoorPrx8
import Derived.Test.YtjgloepeogelnaaDoorPrx9
import Derived.Test.YtjgloepeogelnaaDoorPrx10
import Derived.Test.YtjgloepeogelnaaDoorPrx11
import Derived.Test.YtjgloepeogelnaaDoorPrx13
namespace Go.Proofs.YtjgloepeogelnaaDoor.Pr
open Go.RowKit Go.Proofs.YtjgloepeogelnaaDoorW.PrintWords Go.Proofs.YtjgloepeogelnaaDoorW.PrintLast Go.Proofs.YtjgloepeogelnaaDoorW.PrintMore
attribute [local go_sem] max2_int min2_int max_two min_two max_three min_three max_four min_four   -- for this text's walks alone
set_option linter.unusedVariables false
set_option linter.unusedSimpArgs false

/-! ### div_DivMod: function 44 -/
set_option maxRecDepth 100000 in
set_option maxHeartbeats 1000000 in
theorem div_DivMod.calls_bad (A0 : Option Addr) (c0 : Nat) (l0 : List Int) (A1 : Option Addr) (c1 : Nat) (l1 : List Int) (w : World) (hr0 : Kd.C (Kd.int .u32) w A0 l0.length l0) (hc0 : l0.length ≤ c0) (hr1 : Kd.C (Kd.int .u32) w A1 l1.length l1) (hc1 : l1.length ≤ c1) (h : (Nums.may l0 && Nums.may l1) = false) :
    Calls Tryd.prog 44 #[.slice A0 l0.length c0, .slice A1 l1.length c1] w fun e w' => e = .returned (.tuple #[.slice none 0 0, .slice none 0 0, .int .i64 4]) ∧ Below w.heap.size w w' := by
  have HM0 := Aside0.mk (nat_May.calls A0 c0 l0 _ w hr0 hc0 (nat_May_eq l0))
  have HM1 := Aside0.mk (fun nd => nat_May.calls A1 c1 l1 _ (w.drewN nd) (Kd.C_drewN hr1 nd) hc1 (nat_May_eq l1))
  clear hr0 hc0 hr1 hc1
  by_cases h0 : Nums.may l0 = true
  · rw [h0, Bool.true_and] at h
    rw [h0] at HM0
    rw [h] at HM1
    clear h h0
    go_enter Tryd.func44, Tryd.ntmps44
    go_wp2_with fail
    refine HM0.out.mono ?_
    rintro e w' ⟨rfl, ⟨nd, rfl⟩⟩
    go_wp2_with fail
    refine (HM1.out nd).mono ?_
    rintro e w' ⟨rfl, ⟨nd2, rfl⟩⟩
    go_wp2_with fail
    go_ret3
    exact ⟨rfl, pw_below_drewN (Below.refl _ _) _⟩
  · rw [Bool.not_eq_true] at h0
    rw [h0] at HM0
    clear h h0 HM1
    go_enter Tryd.func44, Tryd.ntmps44
    go_wp2_with fail
    refine HM0.out.mono ?_
    rintro e w' ⟨rfl, ⟨nd, rfl⟩⟩
    go_wp2_with fail
    go_ret3
    exact ⟨rfl, pw_below_drewN (Below.refl _ _) _⟩
set_option maxRecDepth 100000 in
set_option maxHeartbeats 1000000 in
theorem div_DivMod.calls_zero (A0 : Option Addr) (c0 : Nat) (l0 : List Int) (A1 : Option Addr) (c1 : Nat) (w : World) (hr0 : Kd.C (Kd.int .u32) w A0 l0.length l0) (hc0 : l0.length ≤ c0) (hr1 : Kd.C (Kd.int .u32) w A1 0 []) (hc1 : 0 ≤ c1) (h : Nums.may l0 = true) :
    Calls Tryd.prog 44 #[.slice A0 l0.length c0, .slice A1 0 c1] w fun e w' => e = .returned (.tuple #[.slice none 0 0, .slice none 0 0, .int .i64 41]) ∧ Below w.heap.size w w' := by
  have HM0 := Aside0.mk (nat_May.calls A0 c0 l0 _ w hr0 hc0 (nat_May_eq l0))
  have HM1 := Aside0.mk (fun nd => nat_May.calls A1 c1 [] _ (w.drewN nd) (Kd.C_drewN hr1 nd) hc1 (nat_May_eq []))
  clear hr0 hc0 hr1 hc1
  rw [h] at HM0
  clear h
  go_enter Tryd.func44, Tryd.ntmps44
  go_wp2_with fail
  refine HM0.out.mono ?_
  rintro e w' ⟨rfl, ⟨nd, rfl⟩⟩
  go_wp2_with fail
  refine (HM1.out nd).mono ?_
  rintro e w' ⟨rfl, ⟨nd2, rfl⟩⟩
  rw [show Nums.may [] = true from rfl]
  go_wp2_with fail
  go_ret3
  exact ⟨rfl, pw_below_drewN (Below.refl _ _) _⟩
set_option maxRecDepth 100000 in
set_option maxHeartbeats 1000000 in
theorem div_DivMod.calls_one (A0 : Option Addr) (c0 : Nat) (l0 : List Int) (A1 : Option Addr) (c1 : Nat) (x : Int) (q : List Int) (r : Int) (R : List Int) (k : Nat) (w : World) (hr0 : Kd.C (Kd.int .u32) w A0 l0.length l0) (hc0 : l0.length ≤ c0) (hr1 : Kd.C (Kd.int .u32) w A1 1 [x]) (hc1 : 1 ≤ c1) (h : Nums.may l0 = true) (h1 : Nums.may [x] = true)
    (hs : div_Small.f k l0 x = some (q, r, 0)) (hr : 0 ≤ r ∧ r < 4294967296) (ho : nat_Of.f k r = some R) :
    Calls Tryd.prog 44 #[.slice A0 l0.length c0, .slice A1 1 c1] w fun e w' => ∃ v0_ v1_ : Value, e = .returned (.tuple #[v0_, v1_, .int .i64 0]) ∧ Kd.R (Kd.int .u32) 39 w' w.heap.size (fun k_ => some k_ ≠ (v1_ : Value).ownBlock) v0_ q ∧ Kd.R (Kd.int .u32) 39 w' w.heap.size (fun k_ => some k_ ≠ (v0_ : Value).ownBlock) v1_ R ∧ Below w.heap.size w w' := by
  have HM0 := Aside0.mk (nat_May.calls A0 c0 l0 _ w hr0 hc0 (nat_May_eq l0))
  have HM1 := Aside0.mk (fun nd => nat_May.calls A1 c1 [x] _ (w.drewN nd) (Kd.C_drewN hr1 nd) hc1 (nat_May_eq [x]))
  have HS := Aside0.mk (fun nd => div_Small.calls k A0 c0 l0 x q r 0 (w.drewN nd) (Kd.C_drewN hr0 nd) hc0 hs)
  have HO := Aside0.mk ho
  obtain ⟨ad, hA, hcell⟩ := Kd.at_int hr1 0 (by decide) (by decide)
  subst hA
  rw [h] at HM0
  rw [h1] at HM1
  have hx : rd [x] 0 = x := rfl
  rw [hx, Int.toNat_zero, show ad.add 0 = ad from rfl] at hcell
  have hra := hr.1
  have hrb := hr.2
  clear hr0 hc0 hr1 hc1 h h1 hs ho hx hr
  go_enter Tryd.func44, Tryd.ntmps44
  go_wp2_with fail
  refine HM0.out.mono ?_
  rintro e w' ⟨rfl, ⟨nd, rfl⟩⟩
  go_wp2_with fail
  refine (HM1.out nd).mono ?_
  rintro e w' ⟨rfl, ⟨nd2, rfl⟩⟩
  go_wp2_with fail
  refine (HS.out _).mono ?_
  rintro e w1 ⟨v0, rfl, hR1, hB1⟩
  have HR1 := Aside0.mk hR1
  have HB1 := Aside0.mk hB1
  clear hR1 hB1
  go_wp2_with fail
  refine (nat_Of.calls k r R w1 HO.out).mono ?_
  rintro e w2 ⟨v1, rfl, hR2, hB2⟩
  have HR2 := Aside0.mk hR2
  have HB2 := Aside0.mk hB2
  clear hR2 hB2
  go_wp2_with fail
  go_ret3
  refine ⟨_, _, rfl, ?_, ?_, ?_⟩
  · exact Kd.R_mono (Kd.R_elder' (Kd.R_lower HR1.out (by simp)) (Kd.R_base HR2.out) HB2.out) (fun _ hk => hk.2)
  · exact Kd.R_mono (Kd.R_lower (Kd.R_new' HR2.out (Kd.R_lt HR1.out)) (Nat.le_trans (by simp) HB1.out.size)) (fun _ hk => hk.2)
  · have h1 := pw_below_drewN (Below.refl w.heap.size w) (nd + nd2)
    exact (h1.trans (HB1.out.mono (by simp))).trans (HB2.out.mono (Nat.le_trans (by simp) HB1.out.size))

set_option maxRecDepth 100000 in
set_option maxHeartbeats 1000000 in
theorem div_DivMod.calls_less (A0 : Option Addr) (c0 : Nat) (l0 : List Int) (A1 : Option Addr) (c1 : Nat) (l1 : List Int) (w : World) (hr0 : Kd.C (Kd.int .u32) w A0 l0.length l0) (hc0 : l0.length ≤ c0) (hr1 : Kd.C (Kd.int .u32) w A1 l1.length l1) (hc1 : l1.length ≤ c1) (h : Nums.may l0 = true) (h1 : Nums.may l1 = true) (hl : 1 < l1.length)
    (hs : nat_Cmp.f l0 l1 = some (-1)) :
    Calls Tryd.prog 44 #[.slice A0 l0.length c0, .slice A1 l1.length c1] w fun e w' => ∃ v1_ : Value, e = .returned (.tuple #[.slice none 0 0, v1_, .int .i64 0]) ∧ Kd.R (Kd.int .u32) 39 w' w.heap.size (fun _ => True) v1_ l0 ∧ Below w.heap.size w w' := by
  have HM0 := Aside0.mk (nat_May.calls A0 c0 l0 _ w hr0 hc0 (nat_May_eq l0))
  have HM1 := Aside0.mk (fun nd => nat_May.calls A1 c1 l1 _ (w.drewN nd) (Kd.C_drewN hr1 nd) hc1 (nat_May_eq l1))
  have HS := Aside0.mk (fun nd => nat_Cmp.calls A0 c0 l0 A1 c1 l1 (-1) (w.drewN nd) (Kd.C_drewN hr0 nd) hc0 (Kd.C_drewN hr1 nd) hc1 hs)
  have HR0 := Aside0.mk hr0
  have hla := (Nums.may_iff.1 h).1
  rw [h] at HM0
  rw [h1] at HM1
  have d1 : ((l1.length : Int) == 0) = false := beq_eq_false_iff_ne.mpr (by omega)
  have d2 : ((l1.length : Int) == 1) = false := beq_eq_false_iff_ne.mpr (by omega)
  clear hr0 hc0 hr1 hc1 h h1 hs
  go_enter Tryd.func44, Tryd.ntmps44
  go_wp2_with fail
  refine HM0.out.mono ?_
  rintro e w' ⟨rfl, ⟨nd, rfl⟩⟩
  go_wp2_with fail
  refine (HM1.out nd).mono ?_
  rintro e w' ⟨rfl, ⟨nd2, rfl⟩⟩
  go_wp2_with fail
  refine (HS.out _).mono ?_
  rintro e w1 ⟨rfl, hB1⟩
  have HB1 := Aside0.mk ((pw_below_drewN (Below.refl w.heap.size w) (nd + nd2)).trans (hB1.mono (by simp)))
  clear hB1
  go_wp2_with ((with_reducible refine gate_builtin (b := .append) (xs := #[.const (.slice none 0 0), .tmp 56]) rfl ?_); at_builtin; refine Kd.R_append_rows (Kd.int .u32) (w0 := w) w.heap.size rfl (.const (.slice none 0 0)) (.tmp 56) 22 39 (.int .u32 0) 4 rfl Tryd.underlying22 info39 rfl (by decide) (by omega) (.slice none 0 0) ([] : List Int) l0 _ _ _ (fun _ => True) (fun _ => False) rfl rfl ?aO ?aR (fun _ _ h => h) (fun _ h => h.elim) ?aF ?aB ?aS ?aL ?_; (case aR => exact Kd.C_below HR0.out HB1.out); (case aB => exact HB1.out); (case aF => exact (fun _ _ => trivial)); (case aO => exact Kd.R_nil _ _ _ _ _); (case aS => exact below_size HB1.out); (case aL => simp; omega); intro v1 w2 ho hb hg hat; have HR := Aside0.mk ho; have HB := Aside0.mk hb; clear ho hb hg hat)
  go_ret3
  exact ⟨_, rfl, HR.out, HB.out⟩
/-- Short: the divisor has one limb, or is greater. -/
def div_DivMod.f (l0 l1 : List Int) : Option (List Int × List Int × Int) := if (Nums.rng l0 && Nums.rng l1) = true then (if (Nums.may l0 && Nums.may l1) = true then (if l1 = [] then some ([], [], 41) else if l1.length = 1 ∨ Nums.val l0 < Nums.val l1 then some (Nums.toL (Nums.val l0 / Nums.val l1), Nums.toL (Nums.val l0 % Nums.val l1), 0) else none) else some ([], [], 4)) else none
theorem div_DivMod.calls (A0 : Option Addr) (c0 : Nat) (l0 : List Int) (A1 : Option Addr) (c1 : Nat) (l1 : List Int) (r1 : List Int) (r2 : List Int) (r3 : Int) (w : World) (hr0 : Kd.C (Kd.int .u32) w A0 l0.length l0) (hc0 : l0.length ≤ c0) (hr1 : Kd.C (Kd.int .u32) w A1 l1.length l1) (hc1 : l1.length ≤ c1) (h : div_DivMod.f l0 l1 = some (r1, r2, r3)) :
    Calls Tryd.prog 44 #[.slice A0 l0.length c0, .slice A1 l1.length c1] w fun e w' => ∃ v0_ v1_ : Value, e = .returned (.tuple #[v0_, v1_, .int .i64 r3]) ∧ Kd.R (Kd.int .u32) 39 w' w.heap.size (fun k_ => some k_ ≠ (v1_ : Value).ownBlock) v0_ r1 ∧ Kd.R (Kd.int .u32) 39 w' w.heap.size (fun k_ => some k_ ≠ (v0_ : Value).ownBlock) v1_ r2 ∧ Below w.heap.size w w' := by
  unfold div_DivMod.f at h
  split at h
  case isFalse => cases h
  case isTrue hr =>
  obtain ⟨ha, hb⟩ := Bool.and_eq_true_iff.1 hr
  cases hm : Nums.may l0 && Nums.may l1 with
  | false =>
    rw [hm, if_neg (by simp)] at h
    simp only [Option.some.injEq, Prod.mk.injEq] at h
    obtain ⟨rfl, rfl, rfl⟩ := h
    refine (div_DivMod.calls_bad A0 c0 l0 A1 c1 l1 w hr0 hc0 hr1 hc1 hm).mono ?_
    rintro e w' ⟨rfl, hB⟩
    exact ⟨_, _, rfl, Kd.R_nil _ _ _ _ _, Kd.R_nil _ _ _ _ _, hB⟩
  | true =>
    rw [hm, if_pos rfl] at h
    obtain ⟨hm0, hm1⟩ := Bool.and_eq_true_iff.1 hm
    by_cases hn : l1 = []
    · rw [if_pos hn] at h
      simp only [Option.some.injEq, Prod.mk.injEq] at h
      obtain ⟨rfl, rfl, rfl⟩ := h
      subst hn
      refine (div_DivMod.calls_zero A0 c0 l0 A1 c1 w hr0 hc0 hr1 hc1 hm0).mono ?_
      rintro e w' ⟨rfl, hB⟩
      exact ⟨_, _, rfl, Kd.R_nil _ _ _ _ _, Kd.R_nil _ _ _ _ _, hB⟩
    · rw [if_neg hn] at h
      by_cases h1 : l1.length = 1
      · obtain ⟨x, rfl⟩ := List.length_eq_one_iff.1 h1
        rw [if_pos (.inl h1)] at h
        simp only [Option.some.injEq, Prod.mk.injEq] at h
        obtain ⟨rfl, rfl, rfl⟩ := h
        have hx := (Nums.rng_cons.1 hb).1
        have hx0 : x ≠ 0 := by simpa [Nums.top] using (Nums.may_iff.1 hm1).2
        have hv : Nums.val [x] = x.toNat := by simp [Nums.val]
        have hlt : Nums.val l0 % x.toNat < x.toNat := Nat.mod_lt _ (by omega)
        obtain ⟨k1, e1⟩ := div_Small_ev l0 x ha hm0 (by omega) hx.2
        obtain ⟨k2, e2⟩ := nat_Of_ev ((Nums.val l0 % x.toNat : Nat) : Int) (by omega) (by omega)
        rw [Int.toNat_natCast] at e2
        rw [hv]
        exact div_DivMod.calls_one A0 c0 l0 A1 c1 x _ _ _ (max k1 k2) w hr0 hc0 hr1 hc1 hm0 hm1 (e1 _ (by omega)) ⟨by omega, by omega⟩ (e2 _ (by omega))
      · by_cases hlt : Nums.val l0 < Nums.val l1
        · rw [if_pos (.inr hlt)] at h
          simp only [Option.some.injEq, Prod.mk.injEq] at h
          obtain ⟨rfl, rfl, rfl⟩ := h
          have hp := List.length_pos_iff.2 hn
          refine (div_DivMod.calls_less A0 c0 l0 A1 c1 l1 w hr0 hc0 hr1 hc1 hm0 hm1 (by omega) (by unfold nat_Cmp.f; rw [hr, if_pos rfl, hm, if_pos rfl, if_pos hlt])).mono ?_
          rintro e w' ⟨v1, rfl, hR, hB⟩
          refine ⟨_, _, rfl, ?_, ?_, hB⟩
          · rw [Nat.div_eq_of_lt hlt, Nums.toL_zero]
            exact Kd.R_nil _ _ _ _ _
          · rw [Nat.mod_eq_of_lt hlt, (Nums.may_val ha hm0).1]
            exact Kd.R_mono hR (fun _ _ => by simp [Value.ownBlock])
        · rw [if_neg (by rintro (h2 | h2); exact h1 h2; exact hlt h2)] at h
          cases h
theorem div_tells (l : List Int) (T : Nat) (hr : Nums.rng l = true) (hm : Nums.may l = true) (h0 : 0 < T) (h1 : T < 4294967296) : div_DivMod.f l (Nums.toL T) = some (Nums.toL (Nums.val l / T), Nums.toL (Nums.val l % T), 0) := by
  have e : Nums.toL T = [((T % 4294967296 : Nat) : Int)] := by rw [Nums.toL_pos (by omega), show T / 4294967296 = 0 by omega, Nums.toL_zero]
  have hm1 : Nums.may (Nums.toL T) = true := Nums.may_iff.2 ⟨by rw [e]; exact Nat.succ_le_succ (Nat.zero_le _), Nums.top_toL T⟩
  unfold div_DivMod.f
  rw [hr, Nums.rng_toL, if_pos (show (true && true) = true from rfl), hm, hm1, if_pos (show (true && true) = true from rfl), Nums.val_toL, if_neg (by rw [e]; simp), if_pos (.inl (by rw [e]; rfl))]

/-! ### dec_Split: function 21 -/
def dec_Split.j0 : Nat → List Int → Int → List Int → Bool → Option (List Int × List Int)
  | 0, _, _, _, _ => none
  | k + 1, x0, x1, x5, x13 => if x13 = true then (some (([] : List Int), ([] : List Int))) else ((dec_Ten.f k x1).bind fun t195 => (if (t195.length : Int) = 0 then (if x5.length + x0.length < 35184372088832 then (some (([] : List Int), (x5 ++ x0))) else (none)) else ((nat_Cmp.f x0 t195).bind fun t201 => (if t201 < 0 then (if x5.length + x0.length < 35184372088832 then (some (([] : List Int), (x5 ++ x0))) else (none)) else ((div_DivMod.f x0 t195).bind fun bt205 => (some (bt205.1, bt205.2.1)))))))
def dec_Split.f (k : Nat) (l0 : List Int) (a1 : Int) : Option (List Int × List Int) := (nat_May.f l0).bind fun t194 => (if t194 = true then (dec_Split.j0 k l0 a1 ([] : List Int) (decide (a1 < 0))) else (dec_Split.j0 k l0 a1 ([] : List Int) true))
theorem dec_Split.mono_l : ∀ k, (∀ y0 y1 y2 y3, LeO (dec_Split.j0 k y0 y1 y2 y3) (dec_Split.j0 (k + 1) y0 y1 y2 y3))
  | 0 => fun _ _ _ _ r h => by simp [dec_Split.j0] at h
  | k + 1 => by
    have ih0 := dec_Split.mono_l k
    · intro y0 y1 y2 y3
      unfold dec_Split.j0
      repeat' first
      | (with_reducible exact ih0 _ _ _ _)
      | (with_reducible exact dec_Ten.mono _ _)
      | (with_reducible exact LeO.refl _)
      | (with_reducible exact LeO.none _)
      | (with_reducible refine LeO.ite ?_ ?_)
      | (with_reducible refine LeO.bind ?_ (fun _ => ?_))
      | exact ih0 _ _ _ _
      | exact dec_Ten.mono _ _
      | exact LeO.none _
      | refine LeO.ite ?_ ?_
      | refine LeO.bind ?_ (fun _ => ?_)
theorem dec_Split.mono : ∀ a0 a1 k, LeO (dec_Split.f k a0 a1) (dec_Split.f (k + 1) a0 a1) := by
  intro a0 a1 k
  have ih0 := dec_Split.mono_l k
  unfold dec_Split.f
  repeat' first
      | (with_reducible exact ih0 _ _ _ _)
      | (with_reducible exact dec_Ten.mono _ _)
      | (with_reducible exact LeO.refl _)
      | (with_reducible exact LeO.none _)
      | (with_reducible refine LeO.ite ?_ ?_)
      | (with_reducible refine LeO.bind ?_ (fun _ => ?_))
      | exact ih0 _ _ _ _
      | exact dec_Ten.mono _ _
      | exact LeO.none _
      | refine LeO.ite ?_ ?_
      | refine LeO.bind ?_ (fun _ => ?_)
set_option maxHeartbeats 8000000 in
set_option maxRecDepth 100000 in
theorem dec_Split.calls (k : Nat) (A0 : Option Addr) (c0 : Nat) (l0 : List Int) (a1 : Int) (r1 : List Int) (r2 : List Int) (w : World) (hr0 : Kd.C (Kd.int .u32) w A0 l0.length l0) (hc0 : l0.length ≤ c0) (h : dec_Split.f k l0 a1 = some (r1, r2)) :
    Calls Tryd.prog 21 #[.slice A0 l0.length c0, .int .i64 a1] w fun e w' => ∃ v0_ v1_ : Value, e = .returned (.tuple #[v0_, v1_]) ∧ Kd.R (Kd.int .u32) 39 w' w.heap.size (fun k_ => some k_ ≠ (v1_ : Value).ownBlock) v0_ r1 ∧ Kd.R (Kd.int .u32) 39 w' w.heap.size (fun k_ => some k_ ≠ (v0_ : Value).ownBlock) v1_ r2 ∧ Below w.heap.size w w' := by
  have HR0 := Aside0.mk hr0
  have HC0 := Aside0.mk hc0
  clear hr0 hc0
  have HB := Aside0.mk (Below.refl w.heap.size w)
  have H : ((nat_May.f l0).bind fun t194 => (if t194 = true then (dec_Split.j0 k l0 a1 ([] : List Int) (decide (a1 < 0))) else (dec_Split.j0 k l0 a1 ([] : List Int) true))) = some (r1, r2) := h
  clear h
  have HC3 := Aside0.mk H
  clear H
  go_enter Tryd.func21, Tryd.ntmps21
  go_upto_region 1 with (fail)
  go_cut [13] (fun v13 wc => ∃ (kq : Nat) (x13_2 : Bool), v13 = .bool x13_2 ∧ Aside0 (dec_Split.j0 kq l0 a1 ([] : List Int) x13_2 = some (r1, r2)) ∧ Aside0 (kq ≤ k) ∧ Aside0 (Kd.R (Kd.int .u32) 39 wc w.heap.size (fun _ => True) (.slice none 0 0) ([] : List Int)) ∧ Aside0 (Below w.heap.size w wc))
  case first =>
    have H := HC3.out
    clear HC3
    replace H := Option.bind_eq_some_iff.mp H
    obtain ⟨t194, A40, H⟩ := H
    replace H : (if t194 = true then (dec_Split.j0 k l0 a1 ([] : List Int) (decide (a1 < 0))) else (dec_Split.j0 k l0 a1 ([] : List Int) true)) = some (r1, r2) := H
    have A4 := Aside0.mk A40
    clear A40
    by_cases c5 : t194 = true
    · subst c5
      have H1 : (dec_Split.j0 k l0 a1 ([] : List Int) (decide (a1 < 0))) = some (r1, r2) := by rw [if_pos rfl] at H; exact H
      clear H
      have H := H1
      clear H1
      have H' := Aside0.mk H
      clear H
      go_wp2_with (first | ((with_reducible refine gate_callee (f := 22) rfl ?_); refine goesL_ (some 8) rfl rfl Tryd.func22 (by kernel_rfl) rfl #[.slice A0 l0.length c0] rfl (by (try simp only [List.map_toArray, List.map_cons, List.map_nil]); first | done | rfl | (simp only [List.length_drop, List.length_take]; rfl)) ?_; (with_reducible refine (nat_May.calls _ _ l0 true _ ?side1 ?side2 A4.out).mono ?_); (case side1 => repeat (first | exact (Kd.C_below HR0.out HB.out) | (with_reducible refine Kd.C_alloc ?_ _) | (with_reducible refine Kd.C_drewN ?_ _) | (with_reducible refine Kd.C_drew ?_))); (case side2 => exact HC0.out); rintro e w' ⟨rfl, ⟨nd, rfl⟩⟩; refine ⟨_, rfl, ?_⟩))
      go_meet
      case rel => exact ⟨_, (decide (a1 < 0)), (by first | rfl | (simp; done) | (simp [*]; done)), H', ⟨by first | omega | exact Nat.le_refl _⟩, ⟨by first | exact Kd.R_nil _ _ _ _ _ | exact Kd.N_nil _ _ _ _ _ | exact Kd.V_nil _ _ _ _ _ | exact Kd.Q_nil _ _ _ _ _ | exact Kd.S_nil _ _ _ _ _⟩, ⟨by repeat (first | (with_reducible first | exact HB.out | apply below_alloc | apply pw_below_drewN | apply below_drew1) | exact HB.out)⟩⟩
    · replace c5 := Bool.eq_false_iff.mpr c5
      subst c5
      have H1 : (dec_Split.j0 k l0 a1 ([] : List Int) true) = some (r1, r2) := by rw [if_neg (show ¬ (false = true) by decide)] at H; exact H
      clear H
      have H := H1
      clear H1
      have H' := Aside0.mk H
      clear H
      go_wp2_with (first | ((with_reducible refine gate_callee (f := 22) rfl ?_); refine goesL_ (some 8) rfl rfl Tryd.func22 (by kernel_rfl) rfl #[.slice A0 l0.length c0] rfl (by (try simp only [List.map_toArray, List.map_cons, List.map_nil]); first | done | rfl | (simp only [List.length_drop, List.length_take]; rfl)) ?_; (with_reducible refine (nat_May.calls _ _ l0 false _ ?side1 ?side2 A4.out).mono ?_); (case side1 => repeat (first | exact (Kd.C_below HR0.out HB.out) | (with_reducible refine Kd.C_alloc ?_ _) | (with_reducible refine Kd.C_drewN ?_ _) | (with_reducible refine Kd.C_drew ?_))); (case side2 => exact HC0.out); rintro e w' ⟨rfl, ⟨nd, rfl⟩⟩; refine ⟨_, rfl, ?_⟩))
      go_meet
      case rel => exact ⟨_, (true), (by first | rfl | (simp; done) | (simp [*]; done)), H', ⟨by first | omega | exact Nat.le_refl _⟩, ⟨by first | exact Kd.R_nil _ _ _ _ _ | exact Kd.N_nil _ _ _ _ _ | exact Kd.V_nil _ _ _ _ _ | exact Kd.Q_nil _ _ _ _ _ | exact Kd.S_nil _ _ _ _ _⟩, ⟨by repeat (first | (with_reducible first | exact HB.out | apply below_alloc | apply pw_below_drewN | apply below_drew1) | exact HB.out)⟩⟩
  case rest =>
    clear HC3
    try clear c2
    try clear p2
    try clear c5
    obtain ⟨kq, x13_2, rfl, HA, HJ2, HO_5, HB⟩ := hcut
    cases kq with
    | zero => exact absurd HA.out (by simp [dec_Split.j0])
    | succ kj2 =>
      have H := HA.out
      clear HA
      simp only [dec_Split.j0] at H
      by_cases c6 : x13_2 = true
      · subst c6
        have H1 : (some (([] : List Int), ([] : List Int))) = some (r1, r2) := by rw [if_pos rfl] at H; exact H
        clear H
        have H := H1
        clear H1
        simp only [Option.some.injEq, Prod.mk.injEq] at H
        obtain ⟨rfl, rfl⟩ := H
        go_wp2
        go_ret2
        exact ⟨_, _, by first | rfl | (simp [errW_none, errW_some] <;> rfl) | (simp [*, errW_none, errW_some] <;> rfl), by first | exact Kd.R_nil _ _ _ _ _ | exact Kd.N_nil _ _ _ _ _ | exact Kd.V_nil _ _ _ _ _ | exact Kd.Q_nil _ _ _ _ _ | exact Kd.S_nil _ _ _ _ _, by first | exact Kd.R_nil _ _ _ _ _ | exact Kd.N_nil _ _ _ _ _ | exact Kd.V_nil _ _ _ _ _ | exact Kd.Q_nil _ _ _ _ _ | exact Kd.S_nil _ _ _ _ _, by repeat (first | (with_reducible first | exact HB.out | apply below_alloc | apply pw_below_drewN | apply below_drew1) | exact HB.out)⟩
      · replace c6 := Bool.eq_false_iff.mpr c6
        subst c6
        have H1 : ((dec_Ten.f kj2 a1).bind fun t195 => (if (t195.length : Int) = 0 then (if ([] : List Int).length + l0.length < 35184372088832 then (some (([] : List Int), (([] : List Int) ++ l0))) else (none)) else ((nat_Cmp.f l0 t195).bind fun t201 => (if t201 < 0 then (if ([] : List Int).length + l0.length < 35184372088832 then (some (([] : List Int), (([] : List Int) ++ l0))) else (none)) else ((div_DivMod.f l0 t195).bind fun bt205 => (some (bt205.1, bt205.2.1))))))) = some (r1, r2) := by rw [if_neg (show ¬ (false = true) by decide)] at H; exact H
        clear H
        have H := H1
        clear H1
        replace H := Option.bind_eq_some_iff.mp H
        obtain ⟨t195, A70, H⟩ := H
        replace H : (if (t195.length : Int) = 0 then (if ([] : List Int).length + l0.length < 35184372088832 then (some (([] : List Int), (([] : List Int) ++ l0))) else (none)) else ((nat_Cmp.f l0 t195).bind fun t201 => (if t201 < 0 then (if ([] : List Int).length + l0.length < 35184372088832 then (some (([] : List Int), (([] : List Int) ++ l0))) else (none)) else ((div_DivMod.f l0 t195).bind fun bt205 => (some (bt205.1, bt205.2.1)))))) = some (r1, r2) := H
        have A7 := Aside0.mk A70
        clear A70
        by_cases c8 : (t195.length : Int) = 0
        · rw [if_pos c8] at H
          have c8b0 : ((t195.length : Int) == 0) = true := beq_iff_eq.mpr c8
          have c8b1 : ((t195.length : Int) != 0) = false := bne_eq_false_iff_eq.mpr c8
          clear c8
          by_cases c9 : ([] : List Int).length + l0.length < 35184372088832
          · rw [if_pos c9] at H
            have LMc9 := Aside0.mk c9
            clear c9
            obtain ⟨y198, hy198⟩ : ∃ y_ : List Int, y_ = (([] : List Int) ++ l0) := ⟨_, rfl⟩
            replace H : (some (([] : List Int), y198)) = some (r1, r2) := by first | (rw [hy198]; with_reducible exact H) | (have H2_ := (Option.bind_some _ _).symm.trans H; rw [hy198]; with_reducible exact H2_) | (have H2_ := (Option.bind_some _ _).symm.trans H; with_reducible exact H2_) | with_reducible exact H | (rw [hy198]; exact H) | exact H
            have Ny198 := Aside0.mk hy198
            clear hy198
            simp only [Option.some.injEq, Prod.mk.injEq] at H
            obtain ⟨rfl, rfl⟩ := H
            go_wp2_with (first | ((with_reducible refine gate_callee (f := 17) rfl ?_); refine goesL_ (some 15) rfl rfl Tryd.func17 (by kernel_rfl) rfl #[.int .i64 a1] rfl (by (try simp only [List.map_toArray, List.map_cons, List.map_nil]); first | done | rfl | (simp only [List.length_drop, List.length_take]; rfl)) ?_; (with_reducible refine (dec_Ten.calls kj2 a1 t195 _ A7.out).mono ?_); rintro e w10 ⟨v196, rfl, ho0, hb⟩; refine ⟨_, rfl, ?_⟩; have n0_ := Aside0.mk (Kd.R_elder' (by (with_reducible repeat (first | apply Kd.R_alloc | apply Kd.R_drewN | apply Kd.R_drew)); exact HO_5.out) (Kd.R_base ho0) hb); have n1_ := Aside0.mk (Kd.R_lower (Kd.R_new' ho0 (Kd.R_lt (by (with_reducible repeat (first | apply Kd.R_alloc | apply Kd.R_drewN | apply Kd.R_drew)); exact HO_5.out))) (below_size (by repeat (first | (with_reducible first | exact HB.out | apply below_alloc | apply pw_below_drewN | apply below_drew1) | exact HB.out)))); have n2_ := Aside0.mk (below_step (by repeat (first | (with_reducible first | exact HB.out | apply below_alloc | apply pw_below_drewN | apply below_drew1) | exact HB.out)) hb); clear HO_5; clear HB; have HO_5 := n0_; have HO197 := n1_; have HB := n2_; clear n0_ n1_ n2_; (try clear hb); (try clear hb2); (try clear hk); (try clear hi); (try clear ho0); obtain ⟨Ao11, co11, eo11⟩ := Kd.R_slice HO197.out; subst eo11) | ((with_reducible refine gate_builtin (b := .append) (xs := #[.tmp 25, .tmp 26]) rfl ?_); at_builtin; refine Kd.R_append_rows (Kd.int .u32) (w0 := w) w.heap.size rfl (.tmp 25) (.tmp 26) 22 39 (.int .u32 0) 4 rfl Tryd.underlying22 info39 rfl (by decide) (by omega) (.slice none 0 0) ([] : List Int) l0 _ _ _ (fun k_ => some k_ ≠ (.slice Ao11 t195.length co11 : Value).ownBlock) (fun _ => False) rfl rfl ?aO ?aR (fun _ _ h => h) (fun _ h => h.elim) ?aF ?aB ?aS ?aL ?_; (case aR => repeat (first | exact (Kd.C_below HR0.out HB.out) | (with_reducible refine Kd.C_alloc ?_ _) | (with_reducible refine Kd.C_drewN ?_ _) | (with_reducible refine Kd.C_drew ?_))); (case aB => exact (by repeat (first | (with_reducible first | exact HB.out | apply below_alloc | apply pw_below_drewN | apply below_drew1) | exact HB.out))); (case aF => exact (fun k_ hk => Kd.fresh' (Kd.R_lt (by (with_reducible repeat (first | apply Kd.R_alloc | apply Kd.R_drewN | apply Kd.R_drew)); exact HO197.out)) k_ hk)); (case aO => exact (by (with_reducible repeat (first | apply Kd.R_alloc | apply Kd.R_drewN | apply Kd.R_drew)); exact Kd.R_mono HO_5.out (fun _ hk => hk.2))); (case aS => exact (below_size (by repeat (first | (with_reducible first | exact HB.out | apply below_alloc | apply pw_below_drewN | apply below_drew1) | exact HB.out)))); (case aL => have := LMc9.out; omega); intro v199 w12 ho hb hg hat; rw [← Ny198.out] at ho; have n0_ := Aside0.mk (Kd.R_after (ok := (fun _ => True)) (by (with_reducible repeat (first | apply Kd.R_alloc | apply Kd.R_drewN | apply Kd.R_drew)); exact HO197.out) hg hat); have n1_ := Aside0.mk (hb); have n2_ := Aside0.mk (ho); clear HO197; clear HB; clear HO_5; have HO197 := n0_; have HB := n1_; have HO200 := n2_; clear n0_ n1_ n2_; clear ho hb hg hat))
            go_ret2
            exact ⟨_, _, by first | rfl | (simp [errW_none, errW_some] <;> rfl) | (simp [*, errW_none, errW_some] <;> rfl), by first | exact Kd.R_nil _ _ _ _ _ | exact Kd.N_nil _ _ _ _ _ | exact Kd.V_nil _ _ _ _ _ | exact Kd.Q_nil _ _ _ _ _ | exact Kd.S_nil _ _ _ _ _, by (with_reducible repeat (first | apply Kd.R_alloc | apply Kd.R_drewN | apply Kd.R_drew)); exact Kd.R_mono HO200.out (fun _ hk => (by simp [Value.ownBlock])), by repeat (first | (with_reducible first | exact HB.out | apply below_alloc | apply pw_below_drewN | apply below_drew1) | exact HB.out)⟩
          · rw [if_neg c9] at H
            exact absurd H (by simp)
        · rw [if_neg c8] at H
          have c8b0 : ((t195.length : Int) == 0) = false := beq_eq_false_iff_ne.mpr c8
          have c8b1 : ((t195.length : Int) != 0) = true := bne_iff_ne.mpr c8
          have c8b2 : ¬ (t195 = []) := fun h_ => c8 (by rw [h_]; rfl)
          replace H := Option.bind_eq_some_iff.mp H
          obtain ⟨t201, A130, H⟩ := H
          replace H : (if t201 < 0 then (if ([] : List Int).length + l0.length < 35184372088832 then (some (([] : List Int), (([] : List Int) ++ l0))) else (none)) else ((div_DivMod.f l0 t195).bind fun bt205 => (some (bt205.1, bt205.2.1)))) = some (r1, r2) := H
          have A13 := Aside0.mk A130
          clear A130
          by_cases c14 : t201 < 0
          · rw [if_pos c14] at H
            have c14b0 : decide (t201 < 0) = true := decide_eq_true c14
            clear c14
            by_cases c15 : ([] : List Int).length + l0.length < 35184372088832
            · rw [if_pos c15] at H
              have LMc15 := Aside0.mk c15
              clear c15
              obtain ⟨y202, hy202⟩ : ∃ y_ : List Int, y_ = (([] : List Int) ++ l0) := ⟨_, rfl⟩
              replace H : (some (([] : List Int), y202)) = some (r1, r2) := by first | (rw [hy202]; with_reducible exact H) | (have H2_ := (Option.bind_some _ _).symm.trans H; rw [hy202]; with_reducible exact H2_) | (have H2_ := (Option.bind_some _ _).symm.trans H; with_reducible exact H2_) | with_reducible exact H | (rw [hy202]; exact H) | exact H
              have Ny202 := Aside0.mk hy202
              clear hy202
              simp only [Option.some.injEq, Prod.mk.injEq] at H
              obtain ⟨rfl, rfl⟩ := H
              go_wp2_with (first | ((with_reducible refine gate_callee (f := 17) rfl ?_); refine goesL_ (some 15) rfl rfl Tryd.func17 (by kernel_rfl) rfl #[.int .i64 a1] rfl (by (try simp only [List.map_toArray, List.map_cons, List.map_nil]); first | done | rfl | (simp only [List.length_drop, List.length_take]; rfl)) ?_; (with_reducible refine (dec_Ten.calls kj2 a1 t195 _ A7.out).mono ?_); rintro e w16 ⟨v196, rfl, ho0, hb⟩; refine ⟨_, rfl, ?_⟩; have n0_ := Aside0.mk (Kd.R_elder' (by (with_reducible repeat (first | apply Kd.R_alloc | apply Kd.R_drewN | apply Kd.R_drew)); exact HO_5.out) (Kd.R_base ho0) hb); have n1_ := Aside0.mk (Kd.R_lower (Kd.R_new' ho0 (Kd.R_lt (by (with_reducible repeat (first | apply Kd.R_alloc | apply Kd.R_drewN | apply Kd.R_drew)); exact HO_5.out))) (below_size (by repeat (first | (with_reducible first | exact HB.out | apply below_alloc | apply pw_below_drewN | apply below_drew1) | exact HB.out)))); have n2_ := Aside0.mk (below_step (by repeat (first | (with_reducible first | exact HB.out | apply below_alloc | apply pw_below_drewN | apply below_drew1) | exact HB.out)) hb); clear HO_5; clear HB; have HO_5 := n0_; have HO197 := n1_; have HB := n2_; clear n0_ n1_ n2_; (try clear hb); (try clear hb2); (try clear hk); (try clear hi); (try clear ho0); obtain ⟨Ao17, co17, eo17⟩ := Kd.R_slice HO197.out; subst eo17) | (go_at_call 23; (with_reducible refine (nat_Cmp.calls _ _ l0 _ _ t195 t201 _ ?side1 ?side2 ?side3 ?side4 A13.out).mono ?_); (case side1 => repeat (first | exact (Kd.C_below HR0.out HB.out) | (with_reducible refine Kd.C_alloc ?_ _) | (with_reducible refine Kd.C_drewN ?_ _) | (with_reducible refine Kd.C_drew ?_))); (case side2 => exact HC0.out); (case side3 => repeat (first | exact (Kd.R_reads' HO197.out).2.2 | (with_reducible refine Kd.C_alloc ?_ _) | (with_reducible refine Kd.C_drewN ?_ _) | (with_reducible refine Kd.C_drew ?_))); (case side4 => exact (Kd.R_reads' HO197.out).2.1); rintro e w18 ⟨rfl, hb⟩; have n0_ := Aside0.mk (Kd.R_below (by (with_reducible repeat (first | apply Kd.R_alloc | apply Kd.R_drewN | apply Kd.R_drew)); exact HO_5.out) hb); have n1_ := Aside0.mk (Kd.R_below (by (with_reducible repeat (first | apply Kd.R_alloc | apply Kd.R_drewN | apply Kd.R_drew)); exact HO197.out) hb); have n2_ := Aside0.mk (below_step (by repeat (first | (with_reducible first | exact HB.out | apply below_alloc | apply pw_below_drewN | apply below_drew1) | exact HB.out)) hb); clear HO_5; clear HO197; clear HB; have HO_5 := n0_; have HO197 := n1_; have HB := n2_; clear n0_ n1_ n2_; (try clear hb); (try clear hb2); (try clear hk); (try clear hi)) | ((with_reducible refine gate_builtin (b := .append) (xs := #[.tmp 25, .tmp 26]) rfl ?_); at_builtin; refine Kd.R_append_rows (Kd.int .u32) (w0 := w) w.heap.size rfl (.tmp 25) (.tmp 26) 22 39 (.int .u32 0) 4 rfl Tryd.underlying22 info39 rfl (by decide) (by omega) (.slice none 0 0) ([] : List Int) l0 _ _ _ (fun k_ => some k_ ≠ (.slice Ao17 t195.length co17 : Value).ownBlock) (fun _ => False) rfl rfl ?aO ?aR (fun _ _ h => h) (fun _ h => h.elim) ?aF ?aB ?aS ?aL ?_; (case aR => repeat (first | exact (Kd.C_below HR0.out HB.out) | (with_reducible refine Kd.C_alloc ?_ _) | (with_reducible refine Kd.C_drewN ?_ _) | (with_reducible refine Kd.C_drew ?_))); (case aB => exact (by repeat (first | (with_reducible first | exact HB.out | apply below_alloc | apply pw_below_drewN | apply below_drew1) | exact HB.out))); (case aF => exact (fun k_ hk => Kd.fresh' (Kd.R_lt (by (with_reducible repeat (first | apply Kd.R_alloc | apply Kd.R_drewN | apply Kd.R_drew)); exact HO197.out)) k_ hk)); (case aO => exact (by (with_reducible repeat (first | apply Kd.R_alloc | apply Kd.R_drewN | apply Kd.R_drew)); exact Kd.R_mono HO_5.out (fun _ hk => hk.2))); (case aS => exact (below_size (by repeat (first | (with_reducible first | exact HB.out | apply below_alloc | apply pw_below_drewN | apply below_drew1) | exact HB.out)))); (case aL => have := LMc15.out; omega); intro v203 w19 ho hb hg hat; rw [← Ny202.out] at ho; have n0_ := Aside0.mk (Kd.R_after (ok := (fun _ => True)) (by (with_reducible repeat (first | apply Kd.R_alloc | apply Kd.R_drewN | apply Kd.R_drew)); exact HO197.out) hg hat); have n1_ := Aside0.mk (hb); have n2_ := Aside0.mk (ho); clear HO197; clear HB; clear HO_5; have HO197 := n0_; have HB := n1_; have HO204 := n2_; clear n0_ n1_ n2_; clear ho hb hg hat))
              go_ret2
              exact ⟨_, _, by first | rfl | (simp [errW_none, errW_some] <;> rfl) | (simp [*, errW_none, errW_some] <;> rfl), by first | exact Kd.R_nil _ _ _ _ _ | exact Kd.N_nil _ _ _ _ _ | exact Kd.V_nil _ _ _ _ _ | exact Kd.Q_nil _ _ _ _ _ | exact Kd.S_nil _ _ _ _ _, by (with_reducible repeat (first | apply Kd.R_alloc | apply Kd.R_drewN | apply Kd.R_drew)); exact Kd.R_mono HO204.out (fun _ hk => (by simp [Value.ownBlock])), by repeat (first | (with_reducible first | exact HB.out | apply below_alloc | apply pw_below_drewN | apply below_drew1) | exact HB.out)⟩
            · rw [if_neg c15] at H
              exact absurd H (by simp)
          · rw [if_neg c14] at H
            have c14b0 : decide (t201 < 0) = false := decide_eq_false c14
            clear c14
            replace H := Option.bind_eq_some_iff.mp H
            obtain ⟨⟨t205, t206, t207⟩, A200, H⟩ := H
            replace H : (some (t205, t206)) = some (r1, r2) := H
            have A20 := Aside0.mk A200
            clear A200
            simp only [Option.some.injEq, Prod.mk.injEq] at H
            obtain ⟨rfl, rfl⟩ := H
            go_wp2_with (first | ((with_reducible refine gate_callee (f := 17) rfl ?_); refine goesL_ (some 15) rfl rfl Tryd.func17 (by kernel_rfl) rfl #[.int .i64 a1] rfl (by (try simp only [List.map_toArray, List.map_cons, List.map_nil]); first | done | rfl | (simp only [List.length_drop, List.length_take]; rfl)) ?_; (with_reducible refine (dec_Ten.calls kj2 a1 t195 _ A7.out).mono ?_); rintro e w21 ⟨v196, rfl, ho0, hb⟩; refine ⟨_, rfl, ?_⟩; have n0_ := Aside0.mk (Kd.R_elder' (by (with_reducible repeat (first | apply Kd.R_alloc | apply Kd.R_drewN | apply Kd.R_drew)); exact HO_5.out) (Kd.R_base ho0) hb); have n1_ := Aside0.mk (Kd.R_lower (Kd.R_new' ho0 (Kd.R_lt (by (with_reducible repeat (first | apply Kd.R_alloc | apply Kd.R_drewN | apply Kd.R_drew)); exact HO_5.out))) (below_size (by repeat (first | (with_reducible first | exact HB.out | apply below_alloc | apply pw_below_drewN | apply below_drew1) | exact HB.out)))); have n2_ := Aside0.mk (below_step (by repeat (first | (with_reducible first | exact HB.out | apply below_alloc | apply pw_below_drewN | apply below_drew1) | exact HB.out)) hb); clear HO_5; clear HB; have HO_5 := n0_; have HO197 := n1_; have HB := n2_; clear n0_ n1_ n2_; (try clear hb); (try clear hb2); (try clear hk); (try clear hi); (try clear ho0); obtain ⟨Ao22, co22, eo22⟩ := Kd.R_slice HO197.out; subst eo22) | (go_at_call 23; (with_reducible refine (nat_Cmp.calls _ _ l0 _ _ t195 t201 _ ?side1 ?side2 ?side3 ?side4 A13.out).mono ?_); (case side1 => repeat (first | exact (Kd.C_below HR0.out HB.out) | (with_reducible refine Kd.C_alloc ?_ _) | (with_reducible refine Kd.C_drewN ?_ _) | (with_reducible refine Kd.C_drew ?_))); (case side2 => exact HC0.out); (case side3 => repeat (first | exact (Kd.R_reads' HO197.out).2.2 | (with_reducible refine Kd.C_alloc ?_ _) | (with_reducible refine Kd.C_drewN ?_ _) | (with_reducible refine Kd.C_drew ?_))); (case side4 => exact (Kd.R_reads' HO197.out).2.1); rintro e w23 ⟨rfl, hb⟩; have n0_ := Aside0.mk (Kd.R_below (by (with_reducible repeat (first | apply Kd.R_alloc | apply Kd.R_drewN | apply Kd.R_drew)); exact HO_5.out) hb); have n1_ := Aside0.mk (Kd.R_below (by (with_reducible repeat (first | apply Kd.R_alloc | apply Kd.R_drewN | apply Kd.R_drew)); exact HO197.out) hb); have n2_ := Aside0.mk (below_step (by repeat (first | (with_reducible first | exact HB.out | apply below_alloc | apply pw_below_drewN | apply below_drew1) | exact HB.out)) hb); clear HO_5; clear HO197; clear HB; have HO_5 := n0_; have HO197 := n1_; have HB := n2_; clear n0_ n1_ n2_; (try clear hb); (try clear hb2); (try clear hk); (try clear hi)) | ((with_reducible refine gate_callee (f := 44) rfl ?_); refine goesL_ (some 31) rfl rfl Tryd.func44 (by kernel_rfl) rfl #[.slice A0 l0.length c0, .slice Ao22 t195.length co22] rfl (by (try simp only [List.map_toArray, List.map_cons, List.map_nil]); first | done | rfl | (simp only [List.length_drop, List.length_take]; rfl)) ?_; (with_reducible refine (div_DivMod.calls _ _ l0 _ _ t195 t205 t206 t207 _ ?side1 ?side2 ?side3 ?side4 A20.out).mono ?_); (case side1 => repeat (first | exact (Kd.C_below HR0.out HB.out) | (with_reducible refine Kd.C_alloc ?_ _) | (with_reducible refine Kd.C_drewN ?_ _) | (with_reducible refine Kd.C_drew ?_))); (case side2 => exact HC0.out); (case side3 => repeat (first | exact (Kd.R_reads' HO197.out).2.2 | (with_reducible refine Kd.C_alloc ?_ _) | (with_reducible refine Kd.C_drewN ?_ _) | (with_reducible refine Kd.C_drew ?_))); (case side4 => exact (Kd.R_reads' HO197.out).2.1); rintro e w24 ⟨v208, v210, rfl, ho0, ho1, hb⟩; refine ⟨_, rfl, ?_⟩; have n0_ := Aside0.mk (Kd.R_mono (Kd.R_told (Kd.R_told (Kd.R_old (by (with_reducible repeat (first | apply Kd.R_alloc | apply Kd.R_drewN | apply Kd.R_drew)); exact HO_5.out) hb) (Kd.R_base ho0)) (Kd.R_base ho1)) (fun _ h_ => h_.1)); have n1_ := Aside0.mk (Kd.R_mono (Kd.R_told (Kd.R_told (Kd.R_old (by (with_reducible repeat (first | apply Kd.R_alloc | apply Kd.R_drewN | apply Kd.R_drew)); exact HO197.out) hb) (Kd.R_base ho0)) (Kd.R_base ho1)) (fun _ h_ => h_.1)); have n2_ := Aside0.mk (Kd.R_lower (Kd.R_new' (Kd.R_new' ho0 (Kd.R_lt (by (with_reducible repeat (first | apply Kd.R_alloc | apply Kd.R_drewN | apply Kd.R_drew)); exact HO_5.out))) (Kd.R_lt (by (with_reducible repeat (first | apply Kd.R_alloc | apply Kd.R_drewN | apply Kd.R_drew)); exact HO197.out))) (below_size (by repeat (first | (with_reducible first | exact HB.out | apply below_alloc | apply pw_below_drewN | apply below_drew1) | exact HB.out)))); have n3_ := Aside0.mk (Kd.R_lower (Kd.R_new' (Kd.R_new' ho1 (Kd.R_lt (by (with_reducible repeat (first | apply Kd.R_alloc | apply Kd.R_drewN | apply Kd.R_drew)); exact HO_5.out))) (Kd.R_lt (by (with_reducible repeat (first | apply Kd.R_alloc | apply Kd.R_drewN | apply Kd.R_drew)); exact HO197.out))) (below_size (by repeat (first | (with_reducible first | exact HB.out | apply below_alloc | apply pw_below_drewN | apply below_drew1) | exact HB.out)))); have n4_ := Aside0.mk (below_step (by repeat (first | (with_reducible first | exact HB.out | apply below_alloc | apply pw_below_drewN | apply below_drew1) | exact HB.out)) hb); clear HO_5; clear HO197; clear HB; have HO_5 := n0_; have HO197 := n1_; have HO209 := n2_; have HO211 := n3_; have HB := n4_; clear n0_ n1_ n2_ n3_ n4_; (try clear hb); (try clear hb2); (try clear hk); (try clear hi); (try clear ho0); (try clear ho1)))
            go_ret2
            exact ⟨_, _, by first | rfl | (simp [errW_none, errW_some] <;> rfl) | (simp [*, errW_none, errW_some] <;> rfl), by (with_reducible repeat (first | apply Kd.R_alloc | apply Kd.R_drewN | apply Kd.R_drew)); exact Kd.R_mono HO209.out (fun _ hk => hk.1.1), by (with_reducible repeat (first | apply Kd.R_alloc | apply Kd.R_drewN | apply Kd.R_drew)); exact Kd.R_mono HO211.out (fun _ hk => hk.1.1), by repeat (first | (with_reducible first | exact HB.out | apply below_alloc | apply pw_below_drewN | apply below_drew1) | exact HB.out)⟩
theorem nat_Cmp_eq {a b : List Int} (ha : Nums.rng a = true) (hb : Nums.rng b = true) (ma : Nums.may a = true) (mb : Nums.may b = true) : nat_Cmp.f a b = some (if Nums.val a < Nums.val b then -1 else if Nums.val b < Nums.val a then 1 else 0) := by
  unfold nat_Cmp.f
  rw [ha, hb, if_pos (show (true && true) = true from rfl), ma, mb, if_pos (show (true && true) = true from rfl)]
theorem dec_Split_ev (c : Nat) (hM : MulTells c) (l : List Int) (n : Nat) (hr : Nums.rng l = true) (hm : Nums.may l = true) (hn : n < 9223372036854775808) (hc : 10 ^ n < 4294967296 ^ c ∨ 65536 ≤ c)
    (hD : 10 ^ n < 4294967296 ^ 65536 → 10 ^ n ≤ Nums.val l → div_DivMod.f l (Nums.toL (10 ^ n)) = some (Nums.toL (Nums.val l / 10 ^ n), Nums.toL (Nums.val l % 10 ^ n), 0)) :
    Nums.Ev (fun k => dec_Split.f k l (n : Int)) (Nums.toL (Nums.val l / 10 ^ n), Nums.toL (Nums.val l % 10 ^ n)) := by
  have h1 := dec_Ten_ev c hM n hn hc
  obtain ⟨v1, v2⟩ := Nums.may_val hr hm
  have hll := (Nums.may_iff.1 hm).1
  have hT0 : 0 < 10 ^ n := Nat.pow_pos (by decide)
  have hlim := fun n => @Nums.lim_eq n
  have hbig := fun n => @Nums.lim_big n
  have hmt := fun n => @Nums.may_toL n
  clear hM hc
  obtain ⟨M, hMM⟩ : ∃ M, 4294967296 ^ 65536 = M := ⟨_, rfl⟩
  rw [hMM] at hlim hbig hmt hD v2
  clear hMM
  obtain ⟨T, hT⟩ : ∃ T, 10 ^ n = T := ⟨_, rfl⟩
  rw [hT] at h1 hT0 hD ⊢
  have hf : ∀ k, dec_Split.f (k + 1) l (n : Int) = (dec_Ten.f k (n : Int)).bind fun t => (if (t.length : Int) = 0 then (if ([] : List Int).length + l.length < 35184372088832 then (some (([] : List Int), (([] : List Int) ++ l))) else (none)) else ((nat_Cmp.f l t).bind fun t1 => (if t1 < 0 then (if ([] : List Int).length + l.length < 35184372088832 then (some (([] : List Int), (([] : List Int) ++ l))) else (none)) else ((div_DivMod.f l t).bind fun bt => (some (bt.1, bt.2.1)))))) := by
    intro k
    unfold dec_Split.f
    rw [nat_May_eq, hm, Option.bind_some, if_pos rfl, decide_eq_false (by omega), dec_Split.j0, if_neg (by decide)]
  refine Nums.Ev.succ ?_ hf
  refine Nums.Ev.bind (f := fun k => dec_Ten.f k (n : Int)) h1 (Nums.Ev.of fun _ => ?_)
  have hless : Nums.val l < T → (Nums.toL (Nums.val l / T), Nums.toL (Nums.val l % T)) = (([] : List Int), (([] : List Int) ++ l)) := by
    intro h
    rw [Nat.div_eq_of_lt h, Nat.mod_eq_of_lt h, Nums.toL_zero, v1]
    rfl
  by_cases hTM : T < M
  · rw [hlim _ hTM, if_neg (toL_len_ne hT0), nat_Cmp_eq hr (Nums.rng_toL _) hm (hmt _ hTM), Nums.val_toL, Option.bind_some]
    by_cases hlt : Nums.val l < T
    · rw [if_pos hlt, if_pos (by decide), if_pos (by simp; omega), hless hlt]
    · rw [if_neg hlt, hD hTM (by omega), Option.bind_some]
      have : ¬ (if T < Nums.val l then (1 : Int) else 0) < 0 := by split <;> decide
      rw [if_neg this]
  · rw [hbig _ hTM, if_pos (show (([] : List Int).length : Int) = 0 from rfl), if_pos (by simp; omega), hless (by omega)]

end Go.Proofs.YtjgloepeogelnaaDoor.Pr

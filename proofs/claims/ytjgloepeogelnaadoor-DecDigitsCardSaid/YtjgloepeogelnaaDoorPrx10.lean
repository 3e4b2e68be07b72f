-- Laid by this session's own program (mk.py) out of the translation.
import Derived.Test.YtjgloepeogelnaaDoorPrx0
import Derived.Test.YtjgloepeogelnaaDoorPrx1
import Derived.Test.YtjgloepeogelnaaDoorPrx6
import Derived.Test.YtjgloepeogelnaaDoorPrx8
import Derived.Test.YtjgloepeogelnaaDoorPrx9
namespace Go.Proofs.YtjgloepeogelnaaDoor.Pr
open Go.RowKit Go.Proofs.YtjgloepeogelnaaDoorW.PrintWords Go.Proofs.YtjgloepeogelnaaDoorW.PrintLast Go.Proofs.YtjgloepeogelnaaDoorW.PrintMore
attribute [local go_sem] max2_int min2_int max_two min_two max_three min_three max_four min_four   -- for this text's walks alone
set_option linter.unusedVariables false
set_option linter.unusedSimpArgs false

/-! ### dec_Ten: function 17 -/
def dec_Ten.f (k : Nat) (a0 : Int) : Option (List Int) := (nat_Of.f k 10).bind fun t169 => ((mul_Pow.f k t169 a0).bind fun t172 => (some t172))
theorem dec_Ten.mono : ∀ a0 k, LeO (dec_Ten.f k a0) (dec_Ten.f (k + 1) a0) := by
  intro a0 k
  unfold dec_Ten.f
  repeat' first
      | (with_reducible exact mul_Pow.mono _ _ _)
      | (with_reducible exact nat_Of.mono _ _)
      | (with_reducible exact LeO.refl _)
      | (with_reducible exact LeO.none _)
      | (with_reducible refine LeO.ite ?_ ?_)
      | (with_reducible refine LeO.bind ?_ (fun _ => ?_))
      | exact mul_Pow.mono _ _ _
      | exact nat_Of.mono _ _
      | exact LeO.none _
      | refine LeO.ite ?_ ?_
      | refine LeO.bind ?_ (fun _ => ?_)
set_option maxHeartbeats 8000000 in
set_option maxRecDepth 100000 in
theorem dec_Ten.calls (k : Nat) (a0 : Int) (r : List Int) (w : World) (h : dec_Ten.f k a0 = some r) :
    Calls Tryd.prog 17 #[.int .i64 a0] w fun e w' => ∃ v0_ : Value, e = .returned (v0_) ∧ Kd.R (Kd.int .u32) 39 w' w.heap.size (fun _ => True) v0_ r ∧ Below w.heap.size w w' := by
  have HB := Aside0.mk (Below.refl w.heap.size w)
  have H : ((nat_Of.f k 10).bind fun t169 => ((mul_Pow.f k t169 a0).bind fun t172 => (some t172))) = some r := h
  clear h
  replace H := Option.bind_eq_some_iff.mp H
  obtain ⟨t169, A20, H⟩ := H
  replace H : ((mul_Pow.f k t169 a0).bind fun t172 => (some t172)) = some r := H
  have A2 := Aside0.mk A20
  clear A20
  replace H := Option.bind_eq_some_iff.mp H
  obtain ⟨t172, A30, H⟩ := H
  replace H : (some t172) = some r := H
  have A3 := Aside0.mk A30
  clear A30
  obtain rfl := Option.some.inj H
  go_enter Tryd.func17, Tryd.ntmps17
  go_wp2_with (first | ((with_reducible refine gate_callee (f := 29) rfl ?_); refine goesL_ (some 3) rfl rfl Tryd.func29 (by kernel_rfl) rfl #[.int .u64 10] rfl (by (try simp only [List.map_toArray, List.map_cons, List.map_nil]); first | done | rfl | (simp only [List.length_drop, List.length_take]; rfl)) ?_; (with_reducible refine (nat_Of.calls k 10 t169 _ A2.out).mono ?_); rintro e w4 ⟨v170, rfl, ho0, hb⟩; refine ⟨_, rfl, ?_⟩; have n0_ := Aside0.mk (Kd.R_lower ho0 (below_size (by repeat (first | (with_reducible first | exact HB.out | apply below_alloc | apply pw_below_drewN | apply below_drew1) | exact HB.out)))); have n1_ := Aside0.mk (below_step (by repeat (first | (with_reducible first | exact HB.out | apply below_alloc | apply pw_below_drewN | apply below_drew1) | exact HB.out)) hb); clear HB; have HO171 := n0_; have HB := n1_; clear n0_ n1_; (try clear hb); (try clear hb2); (try clear hk); (try clear hi); (try clear ho0); obtain ⟨Ao5, co5, eo5⟩ := Kd.R_slice HO171.out; subst eo5) | ((with_reducible refine gate_callee (f := 42) rfl ?_); refine goesL_ (some 5) rfl rfl Tryd.func42 (by kernel_rfl) rfl #[.slice Ao5 t169.length co5, .int .i64 a0] rfl (by (try simp only [List.map_toArray, List.map_cons, List.map_nil]); first | done | rfl | (simp only [List.length_drop, List.length_take]; rfl)) ?_; (with_reducible refine (mul_Pow.calls k (fun k_ => some k_ = (.slice Ao5 t169.length co5 : Value).ownBlock) _ _ t169 a0 t172 _ ?side1 A3.out).mono ?_); (case side1 => exact Kd.R_V (Kd.R_tight rfl (HO171.out))); rintro e w6 ⟨v173, rfl, ho0, hb⟩; refine ⟨_, rfl, ?_⟩; have n0_ := Aside0.mk (Kd.R_elder' (by (with_reducible repeat (first | apply Kd.R_alloc | apply Kd.R_drewN | apply Kd.R_drew)); exact HO171.out) (Kd.R_base ho0) hb); have n1_ := Aside0.mk (Kd.R_lower (Kd.R_new' (Kd.R_mono (ok' := fun k_ => True) ho0 (fun _ hk_ => trivial)) (Kd.R_lt (by (with_reducible repeat (first | apply Kd.R_alloc | apply Kd.R_drewN | apply Kd.R_drew)); exact HO171.out))) (below_size (by repeat (first | (with_reducible first | exact HB.out | apply below_alloc | apply pw_below_drewN | apply below_drew1) | exact HB.out)))); have n2_ := Aside0.mk (below_step (by repeat (first | (with_reducible first | exact HB.out | apply below_alloc | apply pw_below_drewN | apply below_drew1) | exact HB.out)) hb); clear HO171; clear HB; have HO171 := n0_; have HO174 := n1_; have HB := n2_; clear n0_ n1_ n2_; (try clear hb); (try clear hb2); (try clear hk); (try clear hi); (try clear ho0)))
  go_ret
  exact ⟨_, by first | rfl | (simp [errW_none, errW_some] <;> rfl) | (simp [*, errW_none, errW_some] <;> rfl), by (with_reducible repeat (first | apply Kd.R_alloc | apply Kd.R_drewN | apply Kd.R_drew)); exact Kd.R_mono HO174.out (fun _ hk => trivial), by repeat (first | (with_reducible first | exact HB.out | apply below_alloc | apply pw_below_drewN | apply below_drew1) | exact HB.out)⟩
theorem dec_Ten_ev (c : Nat) (hM : MulTells c) (n : Nat) (hn : n < 9223372036854775808) (hc : 10 ^ n < 4294967296 ^ c ∨ 65536 ≤ c) : Nums.Ev (fun k => dec_Ten.f k (n : Int)) (Nums.lim (10 ^ n)) := by
  have h1 := nat_Of_ev 10 (by decide) (by decide)
  have h10 : (10 : Int).toNat = 10 := rfl
  rw [h10] at h1
  have hm : Nums.may (Nums.toL 10) = true := Nums.may_toL (Nat.lt_of_lt_of_le (show 10 < 4294967296 ^ 1 by decide) (Nums.pow_le_gen 4294967296 1 65536 (by decide) (by decide)))
  have h2 := mul_Pow_ev c hM (Nums.toL 10) n (Nums.rng_toL 10) hm hn (fun e => absurd (Nums.toL_eq_nil.1 e) (by decide)) (by rw [Nums.val_toL]; exact hc)
  rw [Nums.val_toL] at h2
  exact Nums.Ev.bind (f := fun k => nat_Of.f k 10) h1 (Nums.Ev.bind (f := fun k => mul_Pow.f k (Nums.toL 10) (n : Int)) h2 (Nums.Ev.some _))

/-! ### nat_may: function 45 -/
set_option maxHeartbeats 1000000 in
theorem nat_may1.calls (A0 : Option Addr) (c0 : Nat) (l0 : List Int) (r : Bool) (w : World) (hr0 : Kd.C (Kd.int .u32) w A0 l0.length l0) (hc0 : l0.length ≤ c0) (h : nat_May.f l0 = some r) :
    Calls Tryd.prog 74 #[.slice A0 l0.length c0] w fun e w' => e = .returned (.bool (!r)) ∧ Drawn0 w w' := by
  have H := Aside0.mk h
  have HR0 := Aside0.mk hr0
  have HC0 := Aside0.mk hc0
  clear h hr0 hc0
  go_enter Tryd.func74, Tryd.ntmps74
  go_wp2_with (go_at_call 22; refine (nat_May.calls _ _ _ _ _ HR0.out HC0.out H.out).mono ?_; rintro e w' ⟨rfl, ⟨nd, rfl⟩⟩)
  go_ret
  exact ⟨rfl, by repeat (first | exact Drawn0.refl _ | apply Drawn0.step)⟩
set_option maxRecDepth 100000 in
set_option maxHeartbeats 4000000 in
/-- slices.IndexFunc of two slices, by may's closure: where the first one stands that may not be. -/
theorem nat_index2.calls (A0 A1 : Option Addr) (c0 c1 : Nat) (a b : List Int) (ra rb : Bool) (g : Nat) (w : World) (hg : w.heap[g]? = some (.cells #[.slice A0 a.length c0, .slice A1 b.length c1] 22 (0, 0)))
    (hra : Kd.C (Kd.int .u32) w A0 a.length a) (hrb : Kd.C (Kd.int .u32) w A1 b.length b) (hca : a.length ≤ c0) (hcb : b.length ≤ c1) (ha : nat_May.f a = some ra) (hb : nat_May.f b = some rb) :
    Calls Tryd.prog 94 #[.slice (some ⟨g, 0, none⟩) 2 2, .func (.func 74) #[] #[]] w fun e w' => e = .returned (.int .i64 (if ra then (if rb then -1 else 1) else 0)) ∧ Drawn0 w w' := by
  have hc0 : w.cell? ⟨g, 0, none⟩ = some (.slice A0 a.length c0) := by simp [World.cell?, hg]
  have hc1 : w.cell? ⟨g, 1, none⟩ = some (.slice A1 b.length c1) := by simp [World.cell?, hg]
  have HA := Aside0.mk ha
  have HB := Aside0.mk hb
  have HRA := Aside0.mk hra
  have HRB := Aside0.mk hrb
  have HCA := Aside0.mk hca
  have HCB := Aside0.mk hcb
  clear ha hb hra hrb hca hcb hg
  cases ra with
  | false =>
    go_enter Tryd.func94, Tryd.ntmps94
    go_wp2
    refine wp_loop_rounds 3 ?_
    rw [rounds_succ]
    go_wp2_with (go_at_call 74; refine (nat_may1.calls _ _ _ _ _ ?sideA HCA.out HA.out).mono ?_; (case sideA => repeat (first | exact HRA.out | (with_reducible refine Kd.C_drewN ?_ _) | (with_reducible refine Kd.C_drew ?_))); rintro e w' ⟨rfl, ⟨ndA, rfl⟩⟩)
    go_ret
    exact ⟨rfl, by repeat (first | exact Drawn0.refl _ | apply Drawn0.step)⟩
  | true =>
    cases rb with
    | false =>
      go_enter Tryd.func94, Tryd.ntmps94
      go_wp2
      refine wp_loop_rounds 3 ?_
      rw [rounds_succ]
      go_wp2_with (go_at_call 74; refine (nat_may1.calls _ _ _ _ _ ?sideA HCA.out HA.out).mono ?_; (case sideA => repeat (first | exact HRA.out | (with_reducible refine Kd.C_drewN ?_ _) | (with_reducible refine Kd.C_drew ?_))); rintro e w' ⟨rfl, ⟨ndA, rfl⟩⟩)
      rw [rounds_succ]
      go_wp2_with (go_at_call 74; refine (nat_may1.calls _ _ _ _ _ ?sideB HCB.out HB.out).mono ?_; (case sideB => repeat (first | exact HRB.out | (with_reducible refine Kd.C_drewN ?_ _) | (with_reducible refine Kd.C_drew ?_))); rintro e w' ⟨rfl, ⟨ndB, rfl⟩⟩)
      go_ret
      exact ⟨rfl, by repeat (first | exact Drawn0.refl _ | apply Drawn0.step)⟩
    | true =>
      go_enter Tryd.func94, Tryd.ntmps94
      go_wp2
      refine wp_loop_rounds 3 ?_
      rw [rounds_succ]
      go_wp2_with (go_at_call 74; refine (nat_may1.calls _ _ _ _ _ ?sideA HCA.out HA.out).mono ?_; (case sideA => repeat (first | exact HRA.out | (with_reducible refine Kd.C_drewN ?_ _) | (with_reducible refine Kd.C_drew ?_))); rintro e w' ⟨rfl, ⟨ndA, rfl⟩⟩)
      rw [rounds_succ]
      go_wp2_with (go_at_call 74; refine (nat_may1.calls _ _ _ _ _ ?sideB HCB.out HB.out).mono ?_; (case sideB => repeat (first | exact HRB.out | (with_reducible refine Kd.C_drewN ?_ _) | (with_reducible refine Kd.C_drew ?_))); rintro e w' ⟨rfl, ⟨ndB, rfl⟩⟩)
      rw [rounds_succ]
      go_wp2
      go_ret
      exact ⟨rfl, by repeat (first | exact Drawn0.refl _ | apply Drawn0.step)⟩
set_option maxHeartbeats 1000000 in
theorem nat_contains2.calls (A0 A1 : Option Addr) (c0 c1 : Nat) (a b : List Int) (ra rb : Bool) (g : Nat) (w : World) (hg : w.heap[g]? = some (.cells #[.slice A0 a.length c0, .slice A1 b.length c1] 22 (0, 0)))
    (hra : Kd.C (Kd.int .u32) w A0 a.length a) (hrb : Kd.C (Kd.int .u32) w A1 b.length b) (hca : a.length ≤ c0) (hcb : b.length ≤ c1) (ha : nat_May.f a = some ra) (hb : nat_May.f b = some rb) :
    Calls Tryd.prog 73 #[.slice (some ⟨g, 0, none⟩) 2 2, .func (.func 74) #[] #[]] w fun e w' => e = .returned (.bool (!(ra && rb))) ∧ Drawn0 w w' := by
  have HI := Aside0.mk (nat_index2.calls A0 A1 c0 c1 a b ra rb g w hg hra hrb hca hcb ha hb)
  clear hg hra hrb hca hcb ha hb
  obtain ⟨j, hj⟩ : ∃ j : Int, (if ra then (if rb then -1 else 1) else 0) = j := ⟨_, rfl⟩
  rw [hj] at HI
  have hj2 : (!(ra && rb)) = decide (0 ≤ j) := by cases ra <;> cases rb <;> simp at hj <;> subst hj <;> rfl
  rw [hj2]
  clear hj hj2
  by_cases h0 : 0 ≤ j
  · have h0' : decide (0 ≤ j) = true := decide_eq_true h0
    go_enter Tryd.func73, Tryd.ntmps73
    go_wp2_with (go_at_call 94; refine HI.out.mono ?_; rintro e w' ⟨rfl, ⟨nd, rfl⟩⟩)
    go_ret
    exact ⟨by rw [h0']; rfl, by repeat (first | exact Drawn0.refl _ | apply Drawn0.step)⟩
  · have h0' : decide (0 ≤ j) = false := decide_eq_false h0
    go_enter Tryd.func73, Tryd.ntmps73
    go_wp2_with (go_at_call 94; refine HI.out.mono ?_; rintro e w' ⟨rfl, ⟨nd, rfl⟩⟩)
    go_ret
    exact ⟨by rw [h0']; rfl, by repeat (first | exact Drawn0.refl _ | apply Drawn0.step)⟩
set_option maxHeartbeats 1000000 in
/-- may of two naturals. -/
theorem nat_may2.calls (A0 A1 : Option Addr) (c0 c1 : Nat) (a b : List Int) (ra rb : Bool) (g : Nat) (w : World) (hg : w.heap[g]? = some (.cells #[.slice A0 a.length c0, .slice A1 b.length c1] 22 (0, 0)))
    (hra : Kd.C (Kd.int .u32) w A0 a.length a) (hrb : Kd.C (Kd.int .u32) w A1 b.length b) (hca : a.length ≤ c0) (hcb : b.length ≤ c1) (ha : nat_May.f a = some ra) (hb : nat_May.f b = some rb) :
    Calls Tryd.prog 45 #[.slice (some ⟨g, 0, none⟩) 2 2] w fun e w' => e = .returned (.bool (ra && rb)) ∧ Drawn0 w w' := by
  have HI := Aside0.mk (nat_contains2.calls A0 A1 c0 c1 a b ra rb g w hg hra hrb hca hcb ha hb)
  clear hg hra hrb hca hcb ha hb
  go_enter Tryd.func45, Tryd.ntmps45
  go_wp2_with (go_at_call 73; refine HI.out.mono ?_; rintro e w' ⟨rfl, ⟨nd, rfl⟩⟩)
  go_ret
  exact ⟨by simp, by repeat (first | exact Drawn0.refl _ | apply Drawn0.step)⟩

/-! ### cmp_isNaN_int: function 75 -/
def cmp_isNaN_int.f (a0 : Int) : Option (Bool) := some (a0 != a0)
set_option maxHeartbeats 8000000 in
set_option maxRecDepth 100000 in
theorem cmp_isNaN_int.calls (a0 : Int) (r : Bool) (w : World) (h : cmp_isNaN_int.f a0 = some r) :
    Calls Tryd.prog 75 #[.int .i64 a0] w fun e w' => e = .returned (.bool r) ∧ Drawn0 w w' := by
  have H : (some (a0 != a0)) = some r := h
  clear h
  obtain rfl := Option.some.inj H
  go_enter Tryd.func75, Tryd.ntmps75
  go_wp2
  go_ret
  exact ⟨by first | rfl | (simp; done) | (simp [*]; done), by repeat (first | exact Drawn0.refl _ | apply Drawn0.step)⟩

/-! ### cmp_Compare_int: function 46 -/
def cmp_Compare_int.f (a0 : Int) (a1 : Int) : Option (Int) := (cmp_isNaN_int.f a0).bind fun t175 => ((cmp_isNaN_int.f a1).bind fun t176 => (if t175 = true then (if t176 = true then (some 0) else (some (-1))) else (if t176 = true then (some 1) else (if a0 < a1 then (some (-1)) else (if a0 > a1 then (some 1) else (some 0))))))
set_option maxHeartbeats 8000000 in
set_option maxRecDepth 100000 in
theorem cmp_Compare_int.calls (a0 : Int) (a1 : Int) (r : Int) (w : World) (h : cmp_Compare_int.f a0 a1 = some r) :
    Calls Tryd.prog 46 #[.int .i64 a0, .int .i64 a1] w fun e w' => e = .returned (.int .i64 r) ∧ Drawn0 w w' := by
  have H : ((cmp_isNaN_int.f a0).bind fun t175 => ((cmp_isNaN_int.f a1).bind fun t176 => (if t175 = true then (if t176 = true then (some 0) else (some (-1))) else (if t176 = true then (some 1) else (if a0 < a1 then (some (-1)) else (if a0 > a1 then (some 1) else (some 0))))))) = some r := h
  clear h
  replace H := Option.bind_eq_some_iff.mp H
  obtain ⟨t175, A30, H⟩ := H
  replace H : ((cmp_isNaN_int.f a1).bind fun t176 => (if t175 = true then (if t176 = true then (some 0) else (some (-1))) else (if t176 = true then (some 1) else (if a0 < a1 then (some (-1)) else (if a0 > a1 then (some 1) else (some 0)))))) = some r := H
  have A3 := Aside0.mk A30
  clear A30
  replace H := Option.bind_eq_some_iff.mp H
  obtain ⟨t176, A40, H⟩ := H
  replace H : (if t175 = true then (if t176 = true then (some 0) else (some (-1))) else (if t176 = true then (some 1) else (if a0 < a1 then (some (-1)) else (if a0 > a1 then (some 1) else (some 0))))) = some r := H
  have A4 := Aside0.mk A40
  clear A40
  by_cases c5 : t175 = true
  · subst c5
    have H1 : (if t176 = true then (some 0) else (some (-1))) = some r := by rw [if_pos rfl] at H; exact H
    clear H
    have H := H1
    clear H1
    by_cases c6 : t176 = true
    · subst c6
      have H1 : (some 0) = some r := by rw [if_pos rfl] at H; exact H
      clear H
      have H := H1
      clear H1
      obtain rfl := Option.some.inj H
      go_enter Tryd.func46, Tryd.ntmps46
      go_wp2_with (first | ((with_reducible refine gate_callee (f := 75) rfl ?_); refine goesL_ (some 8) rfl rfl Tryd.func75 (by kernel_rfl) rfl #[.int .i64 a0] rfl (by (try simp only [List.map_toArray, List.map_cons, List.map_nil]); first | done | rfl | (simp only [List.length_drop, List.length_take]; rfl)) ?_; (with_reducible refine (cmp_isNaN_int.calls a0 true _ A3.out).mono ?_); rintro e w' ⟨rfl, ⟨nd, rfl⟩⟩; refine ⟨_, rfl, ?_⟩) | ((with_reducible refine gate_callee (f := 75) rfl ?_); refine goesL_ (some 10) rfl rfl Tryd.func75 (by kernel_rfl) rfl #[.int .i64 a1] rfl (by (try simp only [List.map_toArray, List.map_cons, List.map_nil]); first | done | rfl | (simp only [List.length_drop, List.length_take]; rfl)) ?_; (with_reducible refine (cmp_isNaN_int.calls a1 true _ A4.out).mono ?_); rintro e w' ⟨rfl, ⟨nd, rfl⟩⟩; refine ⟨_, rfl, ?_⟩))
      go_ret
      exact ⟨by first | rfl | (simp; done) | (simp [*]; done), by repeat (first | exact Drawn0.refl _ | apply Drawn0.step)⟩
    · replace c6 := Bool.eq_false_iff.mpr c6
      subst c6
      have H1 : (some (-1)) = some r := by rw [if_neg (show ¬ (false = true) by decide)] at H; exact H
      clear H
      have H := H1
      clear H1
      obtain rfl := Option.some.inj H
      go_enter Tryd.func46, Tryd.ntmps46
      go_wp2_with (first | ((with_reducible refine gate_callee (f := 75) rfl ?_); refine goesL_ (some 8) rfl rfl Tryd.func75 (by kernel_rfl) rfl #[.int .i64 a0] rfl (by (try simp only [List.map_toArray, List.map_cons, List.map_nil]); first | done | rfl | (simp only [List.length_drop, List.length_take]; rfl)) ?_; (with_reducible refine (cmp_isNaN_int.calls a0 true _ A3.out).mono ?_); rintro e w' ⟨rfl, ⟨nd, rfl⟩⟩; refine ⟨_, rfl, ?_⟩) | ((with_reducible refine gate_callee (f := 75) rfl ?_); refine goesL_ (some 10) rfl rfl Tryd.func75 (by kernel_rfl) rfl #[.int .i64 a1] rfl (by (try simp only [List.map_toArray, List.map_cons, List.map_nil]); first | done | rfl | (simp only [List.length_drop, List.length_take]; rfl)) ?_; (with_reducible refine (cmp_isNaN_int.calls a1 false _ A4.out).mono ?_); rintro e w' ⟨rfl, ⟨nd, rfl⟩⟩; refine ⟨_, rfl, ?_⟩))
      go_ret
      exact ⟨by first | rfl | (simp; done) | (simp [*]; done), by repeat (first | exact Drawn0.refl _ | apply Drawn0.step)⟩
  · replace c5 := Bool.eq_false_iff.mpr c5
    subst c5
    have H1 : (if t176 = true then (some 1) else (if a0 < a1 then (some (-1)) else (if a0 > a1 then (some 1) else (some 0)))) = some r := by rw [if_neg (show ¬ (false = true) by decide)] at H; exact H
    clear H
    have H := H1
    clear H1
    by_cases c7 : t176 = true
    · subst c7
      have H1 : (some 1) = some r := by rw [if_pos rfl] at H; exact H
      clear H
      have H := H1
      clear H1
      obtain rfl := Option.some.inj H
      go_enter Tryd.func46, Tryd.ntmps46
      go_wp2_with (first | ((with_reducible refine gate_callee (f := 75) rfl ?_); refine goesL_ (some 8) rfl rfl Tryd.func75 (by kernel_rfl) rfl #[.int .i64 a0] rfl (by (try simp only [List.map_toArray, List.map_cons, List.map_nil]); first | done | rfl | (simp only [List.length_drop, List.length_take]; rfl)) ?_; (with_reducible refine (cmp_isNaN_int.calls a0 false _ A3.out).mono ?_); rintro e w' ⟨rfl, ⟨nd, rfl⟩⟩; refine ⟨_, rfl, ?_⟩) | ((with_reducible refine gate_callee (f := 75) rfl ?_); refine goesL_ (some 10) rfl rfl Tryd.func75 (by kernel_rfl) rfl #[.int .i64 a1] rfl (by (try simp only [List.map_toArray, List.map_cons, List.map_nil]); first | done | rfl | (simp only [List.length_drop, List.length_take]; rfl)) ?_; (with_reducible refine (cmp_isNaN_int.calls a1 true _ A4.out).mono ?_); rintro e w' ⟨rfl, ⟨nd, rfl⟩⟩; refine ⟨_, rfl, ?_⟩))
      go_ret
      exact ⟨by first | rfl | (simp; done) | (simp [*]; done), by repeat (first | exact Drawn0.refl _ | apply Drawn0.step)⟩
    · replace c7 := Bool.eq_false_iff.mpr c7
      subst c7
      have H1 : (if a0 < a1 then (some (-1)) else (if a0 > a1 then (some 1) else (some 0))) = some r := by rw [if_neg (show ¬ (false = true) by decide)] at H; exact H
      clear H
      have H := H1
      clear H1
      by_cases c8 : a0 < a1
      · rw [if_pos c8] at H
        have c8b0 : decide (a0 < a1) = true := decide_eq_true c8
        clear c8
        obtain rfl := Option.some.inj H
        go_enter Tryd.func46, Tryd.ntmps46
        go_wp2_with (first | ((with_reducible refine gate_callee (f := 75) rfl ?_); refine goesL_ (some 8) rfl rfl Tryd.func75 (by kernel_rfl) rfl #[.int .i64 a0] rfl (by (try simp only [List.map_toArray, List.map_cons, List.map_nil]); first | done | rfl | (simp only [List.length_drop, List.length_take]; rfl)) ?_; (with_reducible refine (cmp_isNaN_int.calls a0 false _ A3.out).mono ?_); rintro e w' ⟨rfl, ⟨nd, rfl⟩⟩; refine ⟨_, rfl, ?_⟩) | ((with_reducible refine gate_callee (f := 75) rfl ?_); refine goesL_ (some 10) rfl rfl Tryd.func75 (by kernel_rfl) rfl #[.int .i64 a1] rfl (by (try simp only [List.map_toArray, List.map_cons, List.map_nil]); first | done | rfl | (simp only [List.length_drop, List.length_take]; rfl)) ?_; (with_reducible refine (cmp_isNaN_int.calls a1 false _ A4.out).mono ?_); rintro e w' ⟨rfl, ⟨nd, rfl⟩⟩; refine ⟨_, rfl, ?_⟩))
        go_ret
        exact ⟨by first | rfl | (simp; done) | (simp [*]; done), by repeat (first | exact Drawn0.refl _ | apply Drawn0.step)⟩
      · rw [if_neg c8] at H
        have c8b0 : decide (a0 < a1) = false := decide_eq_false c8
        clear c8
        by_cases c9 : a0 > a1
        · rw [if_pos c9] at H
          have c9b0 : decide (a1 < a0) = true := decide_eq_true c9
          clear c9
          obtain rfl := Option.some.inj H
          go_enter Tryd.func46, Tryd.ntmps46
          go_wp2_with (first | ((with_reducible refine gate_callee (f := 75) rfl ?_); refine goesL_ (some 8) rfl rfl Tryd.func75 (by kernel_rfl) rfl #[.int .i64 a0] rfl (by (try simp only [List.map_toArray, List.map_cons, List.map_nil]); first | done | rfl | (simp only [List.length_drop, List.length_take]; rfl)) ?_; (with_reducible refine (cmp_isNaN_int.calls a0 false _ A3.out).mono ?_); rintro e w' ⟨rfl, ⟨nd, rfl⟩⟩; refine ⟨_, rfl, ?_⟩) | ((with_reducible refine gate_callee (f := 75) rfl ?_); refine goesL_ (some 10) rfl rfl Tryd.func75 (by kernel_rfl) rfl #[.int .i64 a1] rfl (by (try simp only [List.map_toArray, List.map_cons, List.map_nil]); first | done | rfl | (simp only [List.length_drop, List.length_take]; rfl)) ?_; (with_reducible refine (cmp_isNaN_int.calls a1 false _ A4.out).mono ?_); rintro e w' ⟨rfl, ⟨nd, rfl⟩⟩; refine ⟨_, rfl, ?_⟩))
          go_ret
          exact ⟨by first | rfl | (simp; done) | (simp [*]; done), by repeat (first | exact Drawn0.refl _ | apply Drawn0.step)⟩
        · rw [if_neg c9] at H
          have c9b0 : decide (a1 < a0) = false := decide_eq_false c9
          clear c9
          obtain rfl := Option.some.inj H
          go_enter Tryd.func46, Tryd.ntmps46
          go_wp2_with (first | ((with_reducible refine gate_callee (f := 75) rfl ?_); refine goesL_ (some 8) rfl rfl Tryd.func75 (by kernel_rfl) rfl #[.int .i64 a0] rfl (by (try simp only [List.map_toArray, List.map_cons, List.map_nil]); first | done | rfl | (simp only [List.length_drop, List.length_take]; rfl)) ?_; (with_reducible refine (cmp_isNaN_int.calls a0 false _ A3.out).mono ?_); rintro e w' ⟨rfl, ⟨nd, rfl⟩⟩; refine ⟨_, rfl, ?_⟩) | ((with_reducible refine gate_callee (f := 75) rfl ?_); refine goesL_ (some 10) rfl rfl Tryd.func75 (by kernel_rfl) rfl #[.int .i64 a1] rfl (by (try simp only [List.map_toArray, List.map_cons, List.map_nil]); first | done | rfl | (simp only [List.length_drop, List.length_take]; rfl)) ?_; (with_reducible refine (cmp_isNaN_int.calls a1 false _ A4.out).mono ?_); rintro e w' ⟨rfl, ⟨nd, rfl⟩⟩; refine ⟨_, rfl, ?_⟩))
          go_ret
          exact ⟨by first | rfl | (simp; done) | (simp [*]; done), by repeat (first | exact Drawn0.refl _ | apply Drawn0.step)⟩

/-! ### slices_Backward_uint32_uint32: function 47 -/
/-- The next one from the end on. -/
def back_at (n k : Nat) : List (Fin n) := if h : n - 1 - k < n then [⟨n - 1 - k, h⟩] else []
/-- What has come of a row of n, from its end on, when k rounds are over. -/
def back_upto (n : Nat) : Nat → List (Fin n)
  | 0 => []
  | k + 1 => back_upto n k ++ back_at n k
theorem back_upto_succ (n k : Nat) (h : n - 1 - k < n) : back_upto n (k + 1) = back_upto n k ++ [⟨n - 1 - k, h⟩] := by rw [back_upto, back_at, dif_pos h]
theorem back_upto_length (n k : Nat) (hk : k ≤ n) : (back_upto n k).length = k := by
  induction k with
  | zero => rfl
  | succ k ih => rw [back_upto_succ n k (by omega)]; simp [ih (by omega)]
theorem mem_back_upto {n k : Nat} (hk : k ≤ n) (i : Fin n) : i ∈ back_upto n k ↔ n - k ≤ i.1 := by
  induction k with
  | zero => have := i.2; simp only [back_upto, List.not_mem_nil, false_iff]; omega
  | succ k ih =>
    have := i.2
    rw [back_upto_succ n k (by omega), List.mem_append, ih (by omega), List.mem_singleton, Fin.ext_iff]
    simp only
    omega
/-- The limbs that a round is handed. -/
abbrev back_enc (a : List Int) (x : Fin a.length) : Array Value := #[Value.int .i64 (x.1 : Int), Value.int .u32 (ith a x.1)]
section
attribute [local go_sem] Oper.semAt_some
set_option maxRecDepth 100000 in
set_option maxHeartbeats 4000000 in
/-- slices.Backward's closure, for every loop body that keeps what lay below n₀ and the iterator's box. -/
theorem back1.in_ (F : Fence) (n : Nat) (h76 : F.fn 76) (hro : F.round = none) (hn : 1 ≤ n) (l Ba n₀ : Nat) (A0 : Option Addr) (c0 : Nat) (a : List Int) (J Jx : List (Fin a.length) → World → Prop)
    (hla : a.length ≤ 70368744177664)
    (hY : ∀ pre x W, J pre W → pre.length < a.length → YieldAt F (n - 1) Tryd.prog l (back_enc a x) W fun e W' =>
      (e = .returned (.bool true) ∧ J (pre ++ [x]) W' ∧ nat_Kp n₀ Ba Ba W W') ∨ (e = .returned (.bool false) ∧ Jx (pre ++ [x]) W'))
    (W : World) (hBa : W.cell? ⟨Ba, 0, none⟩ = some (.slice A0 a.length c0))
    (w0 : World) (hra : Kd.C (Kd.int .u32) w0 A0 a.length a) (hw0 : w0.heap.size ≤ n₀) (hbw : Below w0.heap.size w0 W) (h0 : J [] W) :
    CallsIn F n Tryd.prog 76 #[.func (.yield l) #[] #[], .pointer (some ⟨Ba, 0, none⟩)] W fun e W' => (∃ v, e = .returned v) ∧
      ((∃ ys, ys = back_upto a.length a.length ∧ J ys W') ∨ (∃ pre, (∃ k, k ≤ a.length ∧ pre = back_upto a.length k) ∧ Jx pre W')) := by
  refine callsIn_of_wp Tryd.func76 rfl h76 ?_ hro
  simp only [Tryd.ntmps76, List.size_toArray, List.length_cons, List.length_nil, Nat.reduceAdd, Nat.reduceSub, Array.replicate_succ, Array.replicate_zero, List.push_toArray, List.append_toArray, List.nil_append, List.cons_append]
  gi_wp2
  gi_loopw [3] (fun i wr => ∃ k : Nat, k ≤ a.length ∧ i = .int .i64 ((a.length : Int) - 1 - k) ∧ J (back_upto a.length k) wr ∧ nat_Kp n₀ Ba Ba W wr)
    (fun i _ => (intOf i + 1).toNat)
  case atStart => exact ⟨0, Nat.zero_le _, by simp, h0, nat_Kp.refl _ _ _ _⟩
  case round =>
    obtain ⟨k, hk, rfl, hJs, hnx⟩ := hrel
    have hBa2 := hnx.cellA hBa
    by_cases hlt : k < a.length
    · obtain ⟨j, hj⟩ : ∃ j, a.length - 1 - k = j := ⟨_, rfl⟩
      have ej : (a.length : Int) - 1 - k = (j : Int) := by omega
      have hjl : j < a.length := by omega
      have hkj : Aside0 (k + j + 1 = a.length) := ⟨by omega⟩
      obtain ⟨ad, rfl, hc⟩ := Kd.at_int hra (j : Int) (by omega) (by omega)
      have hca := pw_cell_below (hbw.trans (hnx.1.mono hw0)) hc
      have hs : Aside0 (back_upto a.length (k + 1) = back_upto a.length k ++ [⟨j, hjl⟩]) := ⟨by rw [back_upto_succ _ k (by omega)]; simp only [hj]⟩
      obtain ⟨x, hx⟩ : ∃ x, ith a j = x := ⟨_, rfl⟩
      have hrd : rd a (j : Int) = x := (rd_ith _ _).trans hx
      rw [hrd, Int.toNat_natCast] at hca
      rw [ej]
      have hpl := back_upto_length a.length k hk
      obtain ⟨fn, tmps, assign, body, hy, hR⟩ := hY _ ⟨j, hjl⟩ wr hJs (by rw [hpl]; have := hkj.out; omega)
      dsimp only [back_enc] at hy
      rw [hx] at hy
      clear hc hrd hx hj ej hlt hpl
      gi_wp2
      refine hR.mono ?_
      rintro e W3 (⟨rfl, hJ3, hk3⟩ | ⟨rfl, hJx3⟩)
      · gi_wp2
        have hkj' := hkj.out
        go_roundw
        case rel => exact ⟨k + 1, by omega, by first | (congr 1; done) | (congr 1; omega), by rw [hs.out]; exact hJ3, hnx.trans hk3⟩
        case measure => simp [intOf] <;> omega
      · gi_wp2
        refine bodyPost_ret (results_none rfl _ _ _) rfl ?_
        exact ⟨⟨_, rfl⟩, .inr ⟨_, ⟨k + 1, by have := hkj.out; omega, hs.out.symm⟩, hJx3⟩⟩
    · obtain rfl : k = a.length := by omega
      have e1 : (a.length : Int) - 1 - a.length = -1 := by omega
      rw [e1]
      gi_wp2
      go_end0
      exact ⟨⟨_, rfl⟩, .inl ⟨_, rfl, hJs⟩⟩
set_option maxHeartbeats 1000000 in
theorem back.in_ (F : Fence) (n : Nat) (h47 : F.fn 47) (hro : F.round = none) (A0 : Option Addr) (n0 c0 : Nat) (w : World) :
    CallsIn F n Tryd.prog 47 #[.slice A0 n0 c0] w fun e w' => e = .returned (.func (.func 76) #[] #[.pointer (some ⟨w.heap.size, 0, none⟩)]) ∧ w' = w.alloc (.cells #[.slice A0 n0 c0] 22) := by
  refine callsIn_of_wp Tryd.func47 rfl h47 ?_ hro
  simp only [Tryd.ntmps47, List.size_toArray, List.length_cons, List.length_nil, Nat.reduceAdd, Nat.reduceSub, Array.replicate_succ, Array.replicate_zero, List.push_toArray, List.append_toArray, List.nil_append, List.cons_append]
  gi_wp2
  go_ret
  exact ⟨rfl, rfl⟩
theorem back.stops (F : Fence) (n : Nat) (h76 : F.fn 76) (hro : F.round = none) (hn : 1 ≤ n) (Ba n₀ : Nat) (A0 : Option Addr) (c0 : Nat) (a : List Int)
    (hla : a.length ≤ 70368744177664) (w0 w : World) (hBa : Ba < w.heap.size) (hca : w.cell? ⟨Ba, 0, none⟩ = some (.slice A0 a.length c0))
    (hra : Kd.C (Kd.int .u32) w0 A0 a.length a) (hw0 : w0.heap.size ≤ n₀) (hbw : Below w0.heap.size w0 w) :
    SeqStopsK F n Tryd.prog 76 #[.pointer (some ⟨Ba, 0, none⟩)] (back_enc a) (nat_Kp n₀ Ba Ba) (fun ys => ys = back_upto a.length a.length) (fun pre => ∃ k, k ≤ a.length ∧ pre = back_upto a.length k) a.length w := fun l J Jx W hW _ _ hY h0 =>
  back1.in_ F n h76 hro hn l Ba n₀ A0 c0 a J Jx hla hY W ((hW.cell (p := ⟨Ba, 0, none⟩) hBa).trans hca) w0 hra hw0 (hbw.trans (hW.mono hbw.size)) h0
end

/-! ### cmp_isNaN_uint32: function 77 -/
def cmp_isNaN_uint32.f (a0 : Int) : Option (Bool) := some (a0 != a0)
set_option maxHeartbeats 8000000 in
set_option maxRecDepth 100000 in
theorem cmp_isNaN_uint32.calls (a0 : Int) (r : Bool) (w : World) (h : cmp_isNaN_uint32.f a0 = some r) :
    Calls Tryd.prog 77 #[.int .u32 a0] w fun e w' => e = .returned (.bool r) ∧ Drawn0 w w' := by
  have H : (some (a0 != a0)) = some r := h
  clear h
  obtain rfl := Option.some.inj H
  go_enter Tryd.func77, Tryd.ntmps77
  go_wp2
  go_ret
  exact ⟨by first | rfl | (simp; done) | (simp [*]; done), by repeat (first | exact Drawn0.refl _ | apply Drawn0.step)⟩

end Go.Proofs.YtjgloepeogelnaaDoor.Pr

/- Functions with the same answers as the Go functions of the program, with the proofs that the program comes to just these answers; no condition but those that each theorem names. (Laid by this work's own program mk.py out of the translation.) -/
import Derived.Test.YtjgloepeogelnaaDoorPrx0
import Derived.Test.YtjgloepeogelnaaDoorPrx1
import Derived.Test.YtjgloepeogelnaaDoorPrx3
import Derived.Test.YtjgloepeogelnaaDoorPrx7
import Derived.Test.YtjgloepeogelnaaDoorPrx8
namespace Go.Proofs.YtjgloepeogelnaaDoor.Pr
open Go.RowKit Go.Proofs.YtjgloepeogelnaaDoorW.PrintWords Go.Proofs.YtjgloepeogelnaaDoorW.PrintLast Go.Proofs.YtjgloepeogelnaaDoorW.PrintMore
attribute [local go_sem] max2_int min2_int max_two min_two max_three min_three max_four min_four   -- for this text's walks alone
set_option linter.unusedVariables false
set_option linter.unusedSimpArgs false

/-! ### mul_Pow: function 42 -/
mutual
def mul_Pow.j0 : Nat → List Int → Int → Bool → Option (List Int)
  | 0, _, _, _ => none
  | k + 1, x0, x1, x22 => if x22 = true then (some ([] : List Int)) else ((nat_Of.f k 1).bind fun t183 => (mul_Pow.l0 k x1 t183 x0))
def mul_Pow.l0 : Nat → Int → List Int → List Int → Option (List Int)
  | 0, _, _, _ => none
  | k + 1, x1, x5, x6 => if (x6.length : Int) = 0 then (mul_Pow.j2 k x1 x5 x6 (decide (x1 > 0))) else (mul_Pow.j2 k x1 x5 x6 false)
def mul_Pow.j2 : Nat → Int → List Int → List Int → Bool → Option (List Int)
  | 0, _, _, _, _ => none
  | k + 1, x1, x5, x6, x33 => if x33 = true then (some ([] : List Int)) else (if (Int.tmod x1 2) = 1 then ((mul_Mul.f k x5 x6).bind fun t186 => (if (t186.length : Int) = 0 then (some ([] : List Int)) else (if (wrap64 (Int.tdiv x1 2)) = 0 then (some t186) else ((mul_Square.f k x6).bind fun t189 => (mul_Pow.l0 k (wrap64 (Int.tdiv x1 2)) t186 t189))))) else (if (wrap64 (Int.tdiv x1 2)) = 0 then (some x5) else ((mul_Square.f k x6).bind fun t192 => (mul_Pow.l0 k (wrap64 (Int.tdiv x1 2)) x5 t192))))
end
def mul_Pow.f (k : Nat) (l0 : List Int) (a1 : Int) : Option (List Int) := (nat_May.f l0).bind fun t182 => (if t182 = true then (if a1 < 0 then (mul_Pow.j0 k l0 a1 true) else (if a1 > 0 then (mul_Pow.j0 k l0 a1 ((l0.length : Int) == 0)) else (mul_Pow.j0 k l0 a1 false))) else (mul_Pow.j0 k l0 a1 true))
theorem mul_Pow.mono_l : ∀ k, (∀ y0 y1 y2, LeO (mul_Pow.j0 k y0 y1 y2) (mul_Pow.j0 (k + 1) y0 y1 y2)) ∧ (∀ y0 y1 y2, LeO (mul_Pow.l0 k y0 y1 y2) (mul_Pow.l0 (k + 1) y0 y1 y2)) ∧ (∀ y0 y1 y2 y3, LeO (mul_Pow.j2 k y0 y1 y2 y3) (mul_Pow.j2 (k + 1) y0 y1 y2 y3))
  | 0 => ⟨fun _ _ _ r h => by simp [mul_Pow.j0] at h, fun _ _ _ r h => by simp [mul_Pow.l0] at h, fun _ _ _ _ r h => by simp [mul_Pow.j2] at h⟩
  | k + 1 => by
    obtain ⟨ih0, ih1, ih2⟩ := mul_Pow.mono_l k
    refine ⟨?_, ?_, ?_⟩
    · intro y0 y1 y2
      unfold mul_Pow.j0
      repeat' first
      | (with_reducible exact ih0 _ _ _)
      | (with_reducible exact ih1 _ _ _)
      | (with_reducible exact ih2 _ _ _ _)
      | (with_reducible exact mul_Mul.mono _ _ _)
      | (with_reducible exact mul_Square.mono _ _)
      | (with_reducible exact nat_Of.mono _ _)
      | (with_reducible exact LeO.refl _)
      | (with_reducible exact LeO.none _)
      | (with_reducible refine LeO.ite ?_ ?_)
      | (with_reducible refine LeO.bind ?_ (fun _ => ?_))
      | exact ih0 _ _ _
      | exact ih1 _ _ _
      | exact ih2 _ _ _ _
      | exact mul_Mul.mono _ _ _
      | exact mul_Square.mono _ _
      | exact nat_Of.mono _ _
      | exact LeO.none _
      | refine LeO.ite ?_ ?_
      | refine LeO.bind ?_ (fun _ => ?_)
    · intro y0 y1 y2
      unfold mul_Pow.l0
      repeat' first
      | (with_reducible exact ih0 _ _ _)
      | (with_reducible exact ih1 _ _ _)
      | (with_reducible exact ih2 _ _ _ _)
      | (with_reducible exact mul_Mul.mono _ _ _)
      | (with_reducible exact mul_Square.mono _ _)
      | (with_reducible exact nat_Of.mono _ _)
      | (with_reducible exact LeO.refl _)
      | (with_reducible exact LeO.none _)
      | (with_reducible refine LeO.ite ?_ ?_)
      | (with_reducible refine LeO.bind ?_ (fun _ => ?_))
      | exact ih0 _ _ _
      | exact ih1 _ _ _
      | exact ih2 _ _ _ _
      | exact mul_Mul.mono _ _ _
      | exact mul_Square.mono _ _
      | exact nat_Of.mono _ _
      | exact LeO.none _
      | refine LeO.ite ?_ ?_
      | refine LeO.bind ?_ (fun _ => ?_)
    · intro y0 y1 y2 y3
      unfold mul_Pow.j2
      repeat' first
      | (with_reducible exact ih0 _ _ _)
      | (with_reducible exact ih1 _ _ _)
      | (with_reducible exact ih2 _ _ _ _)
      | (with_reducible exact mul_Mul.mono _ _ _)
      | (with_reducible exact mul_Square.mono _ _)
      | (with_reducible exact nat_Of.mono _ _)
      | (with_reducible exact LeO.refl _)
      | (with_reducible exact LeO.none _)
      | (with_reducible refine LeO.ite ?_ ?_)
      | (with_reducible refine LeO.bind ?_ (fun _ => ?_))
      | exact ih0 _ _ _
      | exact ih1 _ _ _
      | exact ih2 _ _ _ _
      | exact mul_Mul.mono _ _ _
      | exact mul_Square.mono _ _
      | exact nat_Of.mono _ _
      | exact LeO.none _
      | refine LeO.ite ?_ ?_
      | refine LeO.bind ?_ (fun _ => ?_)
theorem mul_Pow.mono : ∀ a0 a1 k, LeO (mul_Pow.f k a0 a1) (mul_Pow.f (k + 1) a0 a1) := by
  intro a0 a1 k
  obtain ⟨ih0, ih1, ih2⟩ := mul_Pow.mono_l k
  unfold mul_Pow.f
  repeat' first
      | (with_reducible exact ih0 _ _ _)
      | (with_reducible exact ih1 _ _ _)
      | (with_reducible exact ih2 _ _ _ _)
      | (with_reducible exact mul_Mul.mono _ _ _)
      | (with_reducible exact mul_Square.mono _ _)
      | (with_reducible exact nat_Of.mono _ _)
      | (with_reducible exact LeO.refl _)
      | (with_reducible exact LeO.none _)
      | (with_reducible refine LeO.ite ?_ ?_)
      | (with_reducible refine LeO.bind ?_ (fun _ => ?_))
      | exact ih0 _ _ _
      | exact ih1 _ _ _
      | exact ih2 _ _ _ _
      | exact mul_Mul.mono _ _ _
      | exact mul_Square.mono _ _
      | exact nat_Of.mono _ _
      | exact LeO.none _
      | refine LeO.ite ?_ ?_
      | refine LeO.bind ?_ (fun _ => ?_)
set_option maxHeartbeats 8000000 in
set_option maxRecDepth 100000 in
theorem mul_Pow.calls (k : Nat) (P0_ : Nat → Prop) (A0 : Option Addr) (c0 : Nat) (l0 : List Int) (a1 : Int) (r : List Int) (w : World) (hs0 : Kd.V (Kd.int .u32) 39 w w.heap.size (fun k_ => P0_ k_) (.slice A0 l0.length c0) l0) (h : mul_Pow.f k l0 a1 = some r) :
    Calls Tryd.prog 42 #[.slice A0 l0.length c0, .int .i64 a1] w fun e w' => ∃ v0_ : Value, e = .returned (v0_) ∧ Kd.R (Kd.int .u32) 39 w' w.heap.size (fun k_ => (w.heap.size ≤ k_)) v0_ r ∧ Below w.heap.size w w' := by
  have HO0 := Aside0.mk (show Kd.V (Kd.int .u32) 39 w w.heap.size (fun k_ => (P0_ k_ ∨ w.heap.size ≤ k_)) (.slice A0 l0.length c0) l0 from Kd.V_mono hs0 (fun k_ hk => .inl hk))
  have HB := Aside0.mk (Below.refl w.heap.size w)
  have H : ((nat_May.f l0).bind fun t182 => (if t182 = true then (if a1 < 0 then (mul_Pow.j0 k l0 a1 true) else (if a1 > 0 then (mul_Pow.j0 k l0 a1 ((l0.length : Int) == 0)) else (mul_Pow.j0 k l0 a1 false))) else (mul_Pow.j0 k l0 a1 true))) = some r := h
  clear h
  have HC3 := Aside0.mk H
  clear H
  go_enter Tryd.func42, Tryd.ntmps42
  go_upto_region 1 with (fail)
  go_cut [22] (fun v22 wc => ∃ (kq : Nat) (x22_2 : Bool), v22 = .bool x22_2 ∧ Aside0 (mul_Pow.j0 kq l0 a1 x22_2 = some r) ∧ Aside0 (kq ≤ k) ∧ Aside0 (Kd.V (Kd.int .u32) 39 wc w.heap.size (fun k_ => (P0_ k_ ∨ w.heap.size ≤ k_)) (.slice A0 l0.length c0) l0) ∧ Aside0 (Below w.heap.size w wc))
  case first =>
    have H := HC3.out
    clear HC3
    replace H := Option.bind_eq_some_iff.mp H
    obtain ⟨t182, A40, H⟩ := H
    replace H : (if t182 = true then (if a1 < 0 then (mul_Pow.j0 k l0 a1 true) else (if a1 > 0 then (mul_Pow.j0 k l0 a1 ((l0.length : Int) == 0)) else (mul_Pow.j0 k l0 a1 false))) else (mul_Pow.j0 k l0 a1 true)) = some r := H
    have A4 := Aside0.mk A40
    clear A40
    by_cases c5 : t182 = true
    · subst c5
      have H1 : (if a1 < 0 then (mul_Pow.j0 k l0 a1 true) else (if a1 > 0 then (mul_Pow.j0 k l0 a1 ((l0.length : Int) == 0)) else (mul_Pow.j0 k l0 a1 false))) = some r := by rw [if_pos rfl] at H; exact H
      clear H
      have H := H1
      clear H1
      by_cases c6 : a1 < 0
      · rw [if_pos c6] at H
        have c6b0 : decide (a1 < 0) = true := decide_eq_true c6
        clear c6
        (first | rw [c6b0] | (simp only [i64_w, i32_w]; rw [c6b0]) | rw [c6b1] | skip)
        have H' := Aside0.mk H
        clear H
        go_wp2_with (first | ((with_reducible refine gate_callee (f := 22) rfl ?_); refine goesL_ (some 8) rfl rfl Tryd.func22 (by kernel_rfl) rfl #[.slice A0 l0.length c0] rfl (by (try simp only [List.map_toArray, List.map_cons, List.map_nil]); first | done | rfl | (simp only [List.length_drop, List.length_take]; rfl)) ?_; (with_reducible refine (nat_May.calls _ _ l0 true _ ?side1 ?side2 A4.out).mono ?_); (case side1 => repeat (first | exact (Kd.V_reads' HO0.out).2.2 | (with_reducible refine Kd.C_alloc ?_ _) | (with_reducible refine Kd.C_drewN ?_ _) | (with_reducible refine Kd.C_drew ?_))); (case side2 => exact (Kd.V_reads' HO0.out).2.1); rintro e w' ⟨rfl, ⟨nd, rfl⟩⟩; refine ⟨_, rfl, ?_⟩))
        go_meet
        case rel => exact ⟨_, (true), (by first | rfl | (simp; done) | (simp [*]; done)), H', ⟨by first | omega | exact Nat.le_refl _⟩, ⟨by (with_reducible repeat (first | apply Kd.V_alloc | apply Kd.V_drewN | apply Kd.V_drew)); exact HO0.out⟩, ⟨by repeat (first | (with_reducible first | exact HB.out | apply below_alloc | apply pw_below_drewN | apply below_drew1) | exact HB.out)⟩⟩
      · rw [if_neg c6] at H
        have c6b0 : decide (a1 < 0) = false := decide_eq_false c6
        clear c6
        (first | rw [c6b0] | (simp only [i64_w, i32_w]; rw [c6b0]) | rw [c6b1] | skip)
        by_cases c7 : a1 > 0
        · rw [if_pos c7] at H
          have c7b0 : decide (0 < a1) = true := decide_eq_true c7
          clear c7
          have H' := Aside0.mk H
          clear H
          go_wp2_with (first | ((with_reducible refine gate_callee (f := 22) rfl ?_); refine goesL_ (some 8) rfl rfl Tryd.func22 (by kernel_rfl) rfl #[.slice A0 l0.length c0] rfl (by (try simp only [List.map_toArray, List.map_cons, List.map_nil]); first | done | rfl | (simp only [List.length_drop, List.length_take]; rfl)) ?_; (with_reducible refine (nat_May.calls _ _ l0 true _ ?side1 ?side2 A4.out).mono ?_); (case side1 => repeat (first | exact (Kd.V_reads' HO0.out).2.2 | (with_reducible refine Kd.C_alloc ?_ _) | (with_reducible refine Kd.C_drewN ?_ _) | (with_reducible refine Kd.C_drew ?_))); (case side2 => exact (Kd.V_reads' HO0.out).2.1); rintro e w' ⟨rfl, ⟨nd, rfl⟩⟩; refine ⟨_, rfl, ?_⟩))
          go_meet
          case rel => exact ⟨_, (((l0.length : Int) == 0)), (by first | rfl | (simp; done) | (simp [*]; done)), H', ⟨by first | omega | exact Nat.le_refl _⟩, ⟨by (with_reducible repeat (first | apply Kd.V_alloc | apply Kd.V_drewN | apply Kd.V_drew)); exact HO0.out⟩, ⟨by repeat (first | (with_reducible first | exact HB.out | apply below_alloc | apply pw_below_drewN | apply below_drew1) | exact HB.out)⟩⟩
        · rw [if_neg c7] at H
          have c7b0 : decide (0 < a1) = false := decide_eq_false c7
          clear c7
          have H' := Aside0.mk H
          clear H
          go_wp2_with (first | ((with_reducible refine gate_callee (f := 22) rfl ?_); refine goesL_ (some 8) rfl rfl Tryd.func22 (by kernel_rfl) rfl #[.slice A0 l0.length c0] rfl (by (try simp only [List.map_toArray, List.map_cons, List.map_nil]); first | done | rfl | (simp only [List.length_drop, List.length_take]; rfl)) ?_; (with_reducible refine (nat_May.calls _ _ l0 true _ ?side1 ?side2 A4.out).mono ?_); (case side1 => repeat (first | exact (Kd.V_reads' HO0.out).2.2 | (with_reducible refine Kd.C_alloc ?_ _) | (with_reducible refine Kd.C_drewN ?_ _) | (with_reducible refine Kd.C_drew ?_))); (case side2 => exact (Kd.V_reads' HO0.out).2.1); rintro e w' ⟨rfl, ⟨nd, rfl⟩⟩; refine ⟨_, rfl, ?_⟩))
          go_meet
          case rel => exact ⟨_, (false), (by first | rfl | (simp; done) | (simp [*]; done)), H', ⟨by first | omega | exact Nat.le_refl _⟩, ⟨by (with_reducible repeat (first | apply Kd.V_alloc | apply Kd.V_drewN | apply Kd.V_drew)); exact HO0.out⟩, ⟨by repeat (first | (with_reducible first | exact HB.out | apply below_alloc | apply pw_below_drewN | apply below_drew1) | exact HB.out)⟩⟩
    · replace c5 := Bool.eq_false_iff.mpr c5
      subst c5
      have H1 : (mul_Pow.j0 k l0 a1 true) = some r := by rw [if_neg (show ¬ (false = true) by decide)] at H; exact H
      clear H
      have H := H1
      clear H1
      have H' := Aside0.mk H
      clear H
      go_wp2_with (first | ((with_reducible refine gate_callee (f := 22) rfl ?_); refine goesL_ (some 8) rfl rfl Tryd.func22 (by kernel_rfl) rfl #[.slice A0 l0.length c0] rfl (by (try simp only [List.map_toArray, List.map_cons, List.map_nil]); first | done | rfl | (simp only [List.length_drop, List.length_take]; rfl)) ?_; (with_reducible refine (nat_May.calls _ _ l0 false _ ?side1 ?side2 A4.out).mono ?_); (case side1 => repeat (first | exact (Kd.V_reads' HO0.out).2.2 | (with_reducible refine Kd.C_alloc ?_ _) | (with_reducible refine Kd.C_drewN ?_ _) | (with_reducible refine Kd.C_drew ?_))); (case side2 => exact (Kd.V_reads' HO0.out).2.1); rintro e w' ⟨rfl, ⟨nd, rfl⟩⟩; refine ⟨_, rfl, ?_⟩))
      go_meet
      case rel => exact ⟨_, (true), (by first | rfl | (simp; done) | (simp [*]; done)), H', ⟨by first | omega | exact Nat.le_refl _⟩, ⟨by (with_reducible repeat (first | apply Kd.V_alloc | apply Kd.V_drewN | apply Kd.V_drew)); exact HO0.out⟩, ⟨by repeat (first | (with_reducible first | exact HB.out | apply below_alloc | apply pw_below_drewN | apply below_drew1) | exact HB.out)⟩⟩
  case rest =>
    clear HC3
    try clear c2
    try clear p2
    try clear c4
    try clear c5
    try clear c6
    try clear c6b0
    try clear c7
    try clear c7b0
    obtain ⟨kq, x22_2, rfl, HA, HJ2, HO_0, HB⟩ := hcut
    cases kq with
    | zero => exact absurd HA.out (by simp [mul_Pow.j0])
    | succ kj2 =>
      have H := HA.out
      clear HA
      simp only [mul_Pow.j0] at H
      by_cases c8 : x22_2 = true
      · subst c8
        have H1 : (some ([] : List Int)) = some r := by rw [if_pos rfl] at H; exact H
        clear H
        have H := H1
        clear H1
        obtain rfl := Option.some.inj H
        go_wp2
        go_ret
        exact ⟨_, by first | rfl | (simp [errW_none, errW_some] <;> rfl) | (simp [*, errW_none, errW_some] <;> rfl), by first | exact Kd.R_nil _ _ _ _ _ | exact Kd.N_nil _ _ _ _ _ | exact Kd.V_nil _ _ _ _ _ | exact Kd.Q_nil _ _ _ _ _ | exact Kd.S_nil _ _ _ _ _, by repeat (first | (with_reducible first | exact HB.out | apply below_alloc | apply pw_below_drewN | apply below_drew1) | exact HB.out)⟩
      · replace c8 := Bool.eq_false_iff.mpr c8
        subst c8
        have H1 : ((nat_Of.f kj2 1).bind fun t183 => (mul_Pow.l0 kj2 a1 t183 l0)) = some r := by rw [if_neg (show ¬ (false = true) by decide)] at H; exact H
        clear H
        have H := H1
        clear H1
        replace H := Option.bind_eq_some_iff.mp H
        obtain ⟨t183, A90, H⟩ := H
        replace H : (mul_Pow.l0 kj2 a1 t183 l0) = some r := H
        have A9 := Aside0.mk A90
        clear A90
        have H' := Aside0.mk H
        clear H
        go_wp2_with (first | ((with_reducible refine gate_callee (f := 29) rfl ?_); refine goesL_ (some 23) rfl rfl Tryd.func29 (by kernel_rfl) rfl #[.int .u64 1] rfl (by (try simp only [List.map_toArray, List.map_cons, List.map_nil]); first | done | rfl | (simp only [List.length_drop, List.length_take]; rfl)) ?_; (with_reducible refine (nat_Of.calls kj2 1 t183 _ A9.out).mono ?_); rintro e w10 ⟨v184, rfl, ho0, hb⟩; refine ⟨_, rfl, ?_⟩; have n0_ := Aside0.mk (Kd.V_elder' (by (with_reducible repeat (first | apply Kd.V_alloc | apply Kd.V_drewN | apply Kd.V_drew)); exact HO_0.out) (Kd.R_base ho0) hb); have n1_ := Aside0.mk (Kd.R_lower (Kd.R_newM (M := fun k_ => (w.heap.size ≤ k_)) ho0 (below_size (by repeat (first | (with_reducible first | exact HB.out | apply below_alloc | apply pw_below_drewN | apply below_drew1) | exact HB.out))) (fun k_ h_ => h_)) (below_size (by repeat (first | (with_reducible first | exact HB.out | apply below_alloc | apply pw_below_drewN | apply below_drew1) | exact HB.out)))); have n2_ := Aside0.mk (below_step (by repeat (first | (with_reducible first | exact HB.out | apply below_alloc | apply pw_below_drewN | apply below_drew1) | exact HB.out)) hb); clear HO_0; clear HB; have HO_0 := n0_; have HO185 := n1_; have HB := n2_; clear n0_ n1_ n2_; (try clear hb); (try clear hb2); (try clear hk); (try clear hi); (try clear ho0)))
        go_loopg [1, 5, 6] kj2 (fun kq v1 v5 v6 w' => ∃ (x1_2 : Int) (x5_2 : List Int) (x6_2 : List Int), v1 = .int .i64 x1_2 ∧ Aside0 (mul_Pow.l0 kq x1_2 x5_2 x6_2 = some r) ∧ Aside0 (kq ≤ kj2) ∧ Aside0 (Kd.R (Kd.int .u32) 39 w' w.heap.size (fun k_ => (w.heap.size ≤ k_)) v5 x5_2) ∧ Aside0 (Kd.V (Kd.int .u32) 39 w' w.heap.size (fun k_ => (P0_ k_ ∨ w.heap.size ≤ k_) ∧ some k_ ≠ (v5 : Value).ownBlock) v6 x6_2) ∧ Aside0 (Below w.heap.size w w'))
        case atStart => exact ⟨(a1), (t183), (l0), (by first | rfl | (simp; done) | (simp [*]; done)), H', ⟨Nat.le_refl _⟩, ⟨by (with_reducible repeat (first | apply Kd.R_alloc | apply Kd.R_drewN | apply Kd.R_drew)); exact Kd.R_mono HO185.out (fun _ hk => hk.1)⟩, ⟨by (with_reducible repeat (first | apply Kd.V_alloc | apply Kd.V_drewN | apply Kd.V_drew)); exact HO_0.out⟩, ⟨by repeat (first | (with_reducible first | exact HB.out | apply below_alloc | apply pw_below_drewN | apply below_drew1) | exact HB.out)⟩⟩
        case round =>
          clear H'
          try clear c2
          try clear p2
          try clear c4
          try clear c5
          try clear c6
          try clear c6b0
          try clear c7
          try clear c7b0
          try clear c8
          try clear p2
          obtain ⟨x1_2, x5_2, x6_2, rfl, HA, HK2, HO_5, HO_6, HB⟩ := hrel
          cases gk with
          | zero => exact absurd HA.out (by simp [mul_Pow.l0])
          | succ k2 =>
            have H := HA.out
            clear HA
            simp only [mul_Pow.l0] at H
            have HC11 := Aside0.mk H
            clear H
            go_upto_region 6 with (fail)
            go_cut [33] (fun v33 wc => ∃ (kq : Nat) (x33_10 : Bool), v33 = .bool x33_10 ∧ Aside0 (mul_Pow.j2 kq x1_2 x5_2 x6_2 x33_10 = some r) ∧ Aside0 (kq ≤ k2) ∧ Aside0 (Kd.R (Kd.int .u32) 39 wc w.heap.size (fun k_ => (w.heap.size ≤ k_)) u5 x5_2) ∧ Aside0 (Kd.V (Kd.int .u32) 39 wc w.heap.size (fun k_ => (P0_ k_ ∨ w.heap.size ≤ k_) ∧ some k_ ≠ (u5 : Value).ownBlock) u6 x6_2) ∧ Aside0 (Below w.heap.size w wc))
            case first =>
              have H := HC11.out
              clear HC11
              by_cases c12 : (x6_2.length : Int) = 0
              · rw [if_pos c12] at H
                have c12b0 : ((x6_2.length : Int) == 0) = true := beq_iff_eq.mpr c12
                have c12b1 : ((x6_2.length : Int) != 0) = false := bne_eq_false_iff_eq.mpr c12
                clear c12
                (first | rw [c12b0] | (simp only [i64_w, i32_w]; rw [c12b0]) | rw [c12b1] | skip)
                have H' := Aside0.mk H
                clear H
                obtain ⟨Ao13, co13, eo13⟩ := Kd.V_slice HO_6.out
                subst eo13
                go_wp2
                go_meet
                case rel => exact ⟨_, (decide (x1_2 > 0)), (by first | rfl | (simp; done) | (simp [*]; done)), H', ⟨by have := HJ2.out; have := HK2.out; first | omega | exact Nat.le_refl _⟩, ⟨by (with_reducible repeat (first | apply Kd.R_alloc | apply Kd.R_drewN | apply Kd.R_drew)); exact HO_5.out⟩, ⟨by (with_reducible repeat (first | apply Kd.V_alloc | apply Kd.V_drewN | apply Kd.V_drew)); exact HO_6.out⟩, ⟨by repeat (first | (with_reducible first | exact HB.out | apply below_alloc | apply pw_below_drewN | apply below_drew1) | exact HB.out)⟩⟩
              · rw [if_neg c12] at H
                have c12b0 : ((x6_2.length : Int) == 0) = false := beq_eq_false_iff_ne.mpr c12
                have c12b1 : ((x6_2.length : Int) != 0) = true := bne_iff_ne.mpr c12
                have c12b2 : ¬ (x6_2 = []) := fun h_ => c12 (by rw [h_]; rfl)
                (first | rw [c12b0] | (simp only [i64_w, i32_w]; rw [c12b0]) | rw [c12b1] | skip)
                have H' := Aside0.mk H
                clear H
                obtain ⟨Ao14, co14, eo14⟩ := Kd.V_slice HO_6.out
                subst eo14
                go_wp2
                go_meet
                case rel => exact ⟨_, (false), (by first | rfl | (simp; done) | (simp [*]; done)), H', ⟨by have := HJ2.out; have := HK2.out; first | omega | exact Nat.le_refl _⟩, ⟨by (with_reducible repeat (first | apply Kd.R_alloc | apply Kd.R_drewN | apply Kd.R_drew)); exact HO_5.out⟩, ⟨by (with_reducible repeat (first | apply Kd.V_alloc | apply Kd.V_drewN | apply Kd.V_drew)); exact HO_6.out⟩, ⟨by repeat (first | (with_reducible first | exact HB.out | apply below_alloc | apply pw_below_drewN | apply below_drew1) | exact HB.out)⟩⟩
            case rest =>
              clear HC11
              try clear c1
              try clear c2
              try clear p2
              try clear c4
              try clear c5
              try clear c6
              try clear c6b0
              try clear c7
              try clear c7b0
              try clear c8
              try clear c12
              try clear c12b0
              try clear c12b1
              try clear c12b2
              try clear p2
              obtain ⟨kq, x33_10, rfl, HA, HJ10, HO_5, HO_6, HB⟩ := hcut
              cases kq with
              | zero => exact absurd HA.out (by simp [mul_Pow.j2])
              | succ kj10 =>
                have H := HA.out
                clear HA
                simp only [mul_Pow.j2] at H
                by_cases c15 : x33_10 = true
                · subst c15
                  have H1 : (some ([] : List Int)) = some r := by rw [if_pos rfl] at H; exact H
                  clear H
                  have H := H1
                  clear H1
                  obtain rfl := Option.some.inj H
                  go_wp2
                  go_ret
                  exact ⟨_, by first | rfl | (simp [errW_none, errW_some] <;> rfl) | (simp [*, errW_none, errW_some] <;> rfl), by first | exact Kd.R_nil _ _ _ _ _ | exact Kd.N_nil _ _ _ _ _ | exact Kd.V_nil _ _ _ _ _ | exact Kd.Q_nil _ _ _ _ _ | exact Kd.S_nil _ _ _ _ _, by repeat (first | (with_reducible first | exact HB.out | apply below_alloc | apply pw_below_drewN | apply below_drew1) | exact HB.out)⟩
                · replace c15 := Bool.eq_false_iff.mpr c15
                  subst c15
                  have H1 : (if (Int.tmod x1_2 2) = 1 then ((mul_Mul.f kj10 x5_2 x6_2).bind fun t186 => (if (t186.length : Int) = 0 then (some ([] : List Int)) else (if (wrap64 (Int.tdiv x1_2 2)) = 0 then (some t186) else ((mul_Square.f kj10 x6_2).bind fun t189 => (mul_Pow.l0 kj10 (wrap64 (Int.tdiv x1_2 2)) t186 t189))))) else (if (wrap64 (Int.tdiv x1_2 2)) = 0 then (some x5_2) else ((mul_Square.f kj10 x6_2).bind fun t192 => (mul_Pow.l0 kj10 (wrap64 (Int.tdiv x1_2 2)) x5_2 t192)))) = some r := by rw [if_neg (show ¬ (false = true) by decide)] at H; exact H
                  clear H
                  have H := H1
                  clear H1
                  by_cases c16 : (Int.tmod x1_2 2) = 1
                  · rw [if_pos c16] at H
                    have c16b0 : ((Int.tmod x1_2 2) == 1) = true := beq_iff_eq.mpr c16
                    have c16b1 : ((Int.tmod x1_2 2) != 1) = false := bne_eq_false_iff_eq.mpr c16
                    clear c16
                    replace H := Option.bind_eq_some_iff.mp H
                    obtain ⟨t186, A170, H⟩ := H
                    replace H : (if (t186.length : Int) = 0 then (some ([] : List Int)) else (if (wrap64 (Int.tdiv x1_2 2)) = 0 then (some t186) else ((mul_Square.f kj10 x6_2).bind fun t189 => (mul_Pow.l0 kj10 (wrap64 (Int.tdiv x1_2 2)) t186 t189)))) = some r := H
                    have A17 := Aside0.mk A170
                    clear A170
                    by_cases c18 : (t186.length : Int) = 0
                    · rw [if_pos c18] at H
                      have c18b0 : ((t186.length : Int) == 0) = true := beq_iff_eq.mpr c18
                      have c18b1 : ((t186.length : Int) != 0) = false := bne_eq_false_iff_eq.mpr c18
                      clear c18
                      obtain rfl := Option.some.inj H
                      obtain ⟨Ao19, co19, eo19⟩ := Kd.R_slice HO_5.out
                      subst eo19
                      obtain ⟨Ao20, co20, eo20⟩ := Kd.V_slice HO_6.out
                      subst eo20
                      go_wp2_with (first | ((with_reducible refine gate_callee (f := 26) rfl ?_); refine goesL_ (some 39) rfl rfl Tryd.func26 (by kernel_rfl) rfl #[.slice Ao19 x5_2.length co19, .slice Ao20 x6_2.length co20] rfl (by (try simp only [List.map_toArray, List.map_cons, List.map_nil]); first | done | rfl | (simp only [List.length_drop, List.length_take]; rfl)) ?_; (with_reducible refine (mul_Mul.calls kj10 _ _ x5_2 _ _ x6_2 t186 _ ?side1 ?side2 ?side3 ?side4 A17.out).mono ?_); (case side1 => repeat (first | exact (Kd.R_reads' HO_5.out).2.2 | (with_reducible refine Kd.C_alloc ?_ _) | (with_reducible refine Kd.C_drewN ?_ _) | (with_reducible refine Kd.C_drew ?_))); (case side2 => exact (Kd.R_reads' HO_5.out).2.1); (case side3 => repeat (first | exact (Kd.V_reads' HO_6.out).2.2 | (with_reducible refine Kd.C_alloc ?_ _) | (with_reducible refine Kd.C_drewN ?_ _) | (with_reducible refine Kd.C_drew ?_))); (case side4 => exact (Kd.V_reads' HO_6.out).2.1); rintro e w21 ⟨v187, rfl, ho0, hb⟩; refine ⟨_, rfl, ?_⟩; have n0_ := Aside0.mk (Kd.R_elder' (by (with_reducible repeat (first | apply Kd.R_alloc | apply Kd.R_drewN | apply Kd.R_drew)); exact HO_5.out) (Kd.R_base ho0) hb); have n1_ := Aside0.mk (Kd.V_elder' (by (with_reducible repeat (first | apply Kd.V_alloc | apply Kd.V_drewN | apply Kd.V_drew)); exact HO_6.out) (Kd.R_base ho0) hb); have n2_ := Aside0.mk (Kd.R_lower (Kd.R_new' (Kd.R_newM (M := fun k_ => (w.heap.size ≤ k_)) ho0 (below_size (by repeat (first | (with_reducible first | exact HB.out | apply below_alloc | apply pw_below_drewN | apply below_drew1) | exact HB.out))) (fun k_ h_ => h_)) (Kd.R_lt (by (with_reducible repeat (first | apply Kd.R_alloc | apply Kd.R_drewN | apply Kd.R_drew)); exact HO_5.out))) (below_size (by repeat (first | (with_reducible first | exact HB.out | apply below_alloc | apply pw_below_drewN | apply below_drew1) | exact HB.out)))); have n3_ := Aside0.mk (below_step (by repeat (first | (with_reducible first | exact HB.out | apply below_alloc | apply pw_below_drewN | apply below_drew1) | exact HB.out)) hb); clear HO_5; clear HO_6; clear HB; have HO_5 := n0_; have HO_6 := n1_; have HO188 := n2_; have HB := n3_; clear n0_ n1_ n2_ n3_; (try clear hb); (try clear hb2); (try clear hk); (try clear hi); (try clear ho0); obtain ⟨Ao22, co22, eo22⟩ := Kd.R_slice HO188.out; subst eo22))
                      go_ret
                      exact ⟨_, by first | rfl | (simp [errW_none, errW_some] <;> rfl) | (simp [*, errW_none, errW_some] <;> rfl), by first | exact Kd.R_nil _ _ _ _ _ | exact Kd.N_nil _ _ _ _ _ | exact Kd.V_nil _ _ _ _ _ | exact Kd.Q_nil _ _ _ _ _ | exact Kd.S_nil _ _ _ _ _, by repeat (first | (with_reducible first | exact HB.out | apply below_alloc | apply pw_below_drewN | apply below_drew1) | exact HB.out)⟩
                    · rw [if_neg c18] at H
                      have c18b0 : ((t186.length : Int) == 0) = false := beq_eq_false_iff_ne.mpr c18
                      have c18b1 : ((t186.length : Int) != 0) = true := bne_iff_ne.mpr c18
                      have c18b2 : ¬ (t186 = []) := fun h_ => c18 (by rw [h_]; rfl)
                      by_cases c23 : (wrap64 (Int.tdiv x1_2 2)) = 0
                      · rw [if_pos c23] at H
                        have c23b0 : ((wrap64 (Int.tdiv x1_2 2)) == 0) = true := beq_iff_eq.mpr c23
                        have c23b1 : ((wrap64 (Int.tdiv x1_2 2)) != 0) = false := bne_eq_false_iff_eq.mpr c23
                        clear c23
                        obtain rfl := Option.some.inj H
                        obtain ⟨Ao24, co24, eo24⟩ := Kd.R_slice HO_5.out
                        subst eo24
                        obtain ⟨Ao25, co25, eo25⟩ := Kd.V_slice HO_6.out
                        subst eo25
                        go_wp2_with (first | ((with_reducible refine gate_callee (f := 26) rfl ?_); refine goesL_ (some 39) rfl rfl Tryd.func26 (by kernel_rfl) rfl #[.slice Ao24 x5_2.length co24, .slice Ao25 x6_2.length co25] rfl (by (try simp only [List.map_toArray, List.map_cons, List.map_nil]); first | done | rfl | (simp only [List.length_drop, List.length_take]; rfl)) ?_; (with_reducible refine (mul_Mul.calls kj10 _ _ x5_2 _ _ x6_2 t186 _ ?side1 ?side2 ?side3 ?side4 A17.out).mono ?_); (case side1 => repeat (first | exact (Kd.R_reads' HO_5.out).2.2 | (with_reducible refine Kd.C_alloc ?_ _) | (with_reducible refine Kd.C_drewN ?_ _) | (with_reducible refine Kd.C_drew ?_))); (case side2 => exact (Kd.R_reads' HO_5.out).2.1); (case side3 => repeat (first | exact (Kd.V_reads' HO_6.out).2.2 | (with_reducible refine Kd.C_alloc ?_ _) | (with_reducible refine Kd.C_drewN ?_ _) | (with_reducible refine Kd.C_drew ?_))); (case side4 => exact (Kd.V_reads' HO_6.out).2.1); rintro e w26 ⟨v187, rfl, ho0, hb⟩; refine ⟨_, rfl, ?_⟩; have n0_ := Aside0.mk (Kd.R_elder' (by (with_reducible repeat (first | apply Kd.R_alloc | apply Kd.R_drewN | apply Kd.R_drew)); exact HO_5.out) (Kd.R_base ho0) hb); have n1_ := Aside0.mk (Kd.V_elder' (by (with_reducible repeat (first | apply Kd.V_alloc | apply Kd.V_drewN | apply Kd.V_drew)); exact HO_6.out) (Kd.R_base ho0) hb); have n2_ := Aside0.mk (Kd.R_lower (Kd.R_new' (Kd.R_newM (M := fun k_ => (w.heap.size ≤ k_)) ho0 (below_size (by repeat (first | (with_reducible first | exact HB.out | apply below_alloc | apply pw_below_drewN | apply below_drew1) | exact HB.out))) (fun k_ h_ => h_)) (Kd.R_lt (by (with_reducible repeat (first | apply Kd.R_alloc | apply Kd.R_drewN | apply Kd.R_drew)); exact HO_5.out))) (below_size (by repeat (first | (with_reducible first | exact HB.out | apply below_alloc | apply pw_below_drewN | apply below_drew1) | exact HB.out)))); have n3_ := Aside0.mk (below_step (by repeat (first | (with_reducible first | exact HB.out | apply below_alloc | apply pw_below_drewN | apply below_drew1) | exact HB.out)) hb); clear HO_5; clear HO_6; clear HB; have HO_5 := n0_; have HO_6 := n1_; have HO188 := n2_; have HB := n3_; clear n0_ n1_ n2_ n3_; (try clear hb); (try clear hb2); (try clear hk); (try clear hi); (try clear ho0); obtain ⟨Ao27, co27, eo27⟩ := Kd.R_slice HO188.out; subst eo27))
                        go_ret
                        exact ⟨_, by first | rfl | (simp [errW_none, errW_some] <;> rfl) | (simp [*, errW_none, errW_some] <;> rfl), by (with_reducible repeat (first | apply Kd.R_alloc | apply Kd.R_drewN | apply Kd.R_drew)); exact Kd.R_mono HO188.out (fun _ hk => hk.1.1), by repeat (first | (with_reducible first | exact HB.out | apply below_alloc | apply pw_below_drewN | apply below_drew1) | exact HB.out)⟩
                      · rw [if_neg c23] at H
                        have c23b0 : ((wrap64 (Int.tdiv x1_2 2)) == 0) = false := beq_eq_false_iff_ne.mpr c23
                        have c23b1 : ((wrap64 (Int.tdiv x1_2 2)) != 0) = true := bne_iff_ne.mpr c23
                        replace H := Option.bind_eq_some_iff.mp H
                        obtain ⟨t189, A280, H⟩ := H
                        replace H : (mul_Pow.l0 kj10 (wrap64 (Int.tdiv x1_2 2)) t186 t189) = some r := H
                        have A28 := Aside0.mk A280
                        clear A280
                        have H' := Aside0.mk H
                        clear H
                        obtain ⟨Ao29, co29, eo29⟩ := Kd.R_slice HO_5.out
                        subst eo29
                        obtain ⟨Ao30, co30, eo30⟩ := Kd.V_slice HO_6.out
                        subst eo30
                        go_wp2_with (first | ((with_reducible refine gate_callee (f := 26) rfl ?_); refine goesL_ (some 39) rfl rfl Tryd.func26 (by kernel_rfl) rfl #[.slice Ao29 x5_2.length co29, .slice Ao30 x6_2.length co30] rfl (by (try simp only [List.map_toArray, List.map_cons, List.map_nil]); first | done | rfl | (simp only [List.length_drop, List.length_take]; rfl)) ?_; (with_reducible refine (mul_Mul.calls kj10 _ _ x5_2 _ _ x6_2 t186 _ ?side1 ?side2 ?side3 ?side4 A17.out).mono ?_); (case side1 => repeat (first | exact (Kd.R_reads' HO_5.out).2.2 | (with_reducible refine Kd.C_alloc ?_ _) | (with_reducible refine Kd.C_drewN ?_ _) | (with_reducible refine Kd.C_drew ?_))); (case side2 => exact (Kd.R_reads' HO_5.out).2.1); (case side3 => repeat (first | exact (Kd.V_reads' HO_6.out).2.2 | (with_reducible refine Kd.C_alloc ?_ _) | (with_reducible refine Kd.C_drewN ?_ _) | (with_reducible refine Kd.C_drew ?_))); (case side4 => exact (Kd.V_reads' HO_6.out).2.1); rintro e w31 ⟨v187, rfl, ho0, hb⟩; refine ⟨_, rfl, ?_⟩; have n0_ := Aside0.mk (Kd.R_elder' (by (with_reducible repeat (first | apply Kd.R_alloc | apply Kd.R_drewN | apply Kd.R_drew)); exact HO_5.out) (Kd.R_base ho0) hb); have n1_ := Aside0.mk (Kd.V_elder' (by (with_reducible repeat (first | apply Kd.V_alloc | apply Kd.V_drewN | apply Kd.V_drew)); exact HO_6.out) (Kd.R_base ho0) hb); have n2_ := Aside0.mk (Kd.R_lower (Kd.R_new' (Kd.R_newM (M := fun k_ => (w.heap.size ≤ k_)) ho0 (below_size (by repeat (first | (with_reducible first | exact HB.out | apply below_alloc | apply pw_below_drewN | apply below_drew1) | exact HB.out))) (fun k_ h_ => h_)) (Kd.R_lt (by (with_reducible repeat (first | apply Kd.R_alloc | apply Kd.R_drewN | apply Kd.R_drew)); exact HO_5.out))) (below_size (by repeat (first | (with_reducible first | exact HB.out | apply below_alloc | apply pw_below_drewN | apply below_drew1) | exact HB.out)))); have n3_ := Aside0.mk (below_step (by repeat (first | (with_reducible first | exact HB.out | apply below_alloc | apply pw_below_drewN | apply below_drew1) | exact HB.out)) hb); clear HO_5; clear HO_6; clear HB; have HO_5 := n0_; have HO_6 := n1_; have HO188 := n2_; have HB := n3_; clear n0_ n1_ n2_ n3_; (try clear hb); (try clear hb2); (try clear hk); (try clear hi); (try clear ho0); obtain ⟨Ao32, co32, eo32⟩ := Kd.R_slice HO188.out; subst eo32) | ((with_reducible refine gate_callee (f := 65) rfl ?_); refine goesL_ (some 26) rfl rfl Tryd.func65 (by kernel_rfl) rfl #[.slice Ao30 x6_2.length co30] rfl (by (try simp only [List.map_toArray, List.map_cons, List.map_nil]); first | done | rfl | (simp only [List.length_drop, List.length_take]; rfl)) ?_; (with_reducible refine (mul_Square.calls kj10 _ _ x6_2 t189 _ ?side1 ?side2 A28.out).mono ?_); (case side1 => repeat (first | exact (Kd.V_reads' HO_6.out).2.2 | (with_reducible refine Kd.C_alloc ?_ _) | (with_reducible refine Kd.C_drewN ?_ _) | (with_reducible refine Kd.C_drew ?_))); (case side2 => exact (Kd.V_reads' HO_6.out).2.1); rintro e w33 ⟨v190, rfl, ho0, hb⟩; refine ⟨_, rfl, ?_⟩; have n0_ := Aside0.mk (Kd.R_elder' (by (with_reducible repeat (first | apply Kd.R_alloc | apply Kd.R_drewN | apply Kd.R_drew)); exact HO_5.out) (Kd.R_base ho0) hb); have n1_ := Aside0.mk (Kd.V_elder' (by (with_reducible repeat (first | apply Kd.V_alloc | apply Kd.V_drewN | apply Kd.V_drew)); exact HO_6.out) (Kd.R_base ho0) hb); have n2_ := Aside0.mk (Kd.R_elder' (by (with_reducible repeat (first | apply Kd.R_alloc | apply Kd.R_drewN | apply Kd.R_drew)); exact HO188.out) (Kd.R_base ho0) hb); have n3_ := Aside0.mk (Kd.R_lower (Kd.R_new' (Kd.R_new' (Kd.R_newM (M := fun k_ => (w.heap.size ≤ k_)) ho0 (below_size (by repeat (first | (with_reducible first | exact HB.out | apply below_alloc | apply pw_below_drewN | apply below_drew1) | exact HB.out))) (fun k_ h_ => h_)) (Kd.R_lt (by (with_reducible repeat (first | apply Kd.R_alloc | apply Kd.R_drewN | apply Kd.R_drew)); exact HO_5.out))) (Kd.R_lt (by (with_reducible repeat (first | apply Kd.R_alloc | apply Kd.R_drewN | apply Kd.R_drew)); exact HO188.out))) (below_size (by repeat (first | (with_reducible first | exact HB.out | apply below_alloc | apply pw_below_drewN | apply below_drew1) | exact HB.out)))); have n4_ := Aside0.mk (below_step (by repeat (first | (with_reducible first | exact HB.out | apply below_alloc | apply pw_below_drewN | apply below_drew1) | exact HB.out)) hb); clear HO_5; clear HO_6; clear HO188; clear HB; have HO_5 := n0_; have HO_6 := n1_; have HO188 := n2_; have HO191 := n3_; have HB := n4_; clear n0_ n1_ n2_ n3_ n4_; (try clear hb); (try clear hb2); (try clear hk); (try clear hi); (try clear ho0)))
                        go_roundg kj10
                        case measure => have := HJ2.out; have := HK2.out; have := HJ10.out; omega
                        case rel => exact ⟨(wrap64 (Int.tdiv x1_2 2)), (t186), (t189), (by first | rfl | (simp; done) | (simp [*]; done)), H', ⟨by have := HJ2.out; have := HK2.out; have := HJ10.out; omega⟩, ⟨by (with_reducible repeat (first | apply Kd.R_alloc | apply Kd.R_drewN | apply Kd.R_drew)); exact Kd.R_mono HO188.out (fun _ hk => hk.1.1.1)⟩, ⟨(by first | (apply Kd.V_mono; (· (apply Kd.R_V; apply Kd.R_bound; (with_reducible repeat (first | apply Kd.R_alloc | apply Kd.R_drewN | apply Kd.R_drew)); exact HO191.out)); (· exact fun k_ hk => by first | exact .inr hk.2.1 | exact hk.2.1)) | (apply Kd.V_mono; (· (apply Kd.R_V; apply Kd.R_bound; (with_reducible repeat (first | apply Kd.R_alloc | apply Kd.R_drewN | apply Kd.R_drew)); exact HO191.out)); (· exact fun k_ hk => ⟨.inr hk.2.1,  hk.1.2⟩)) | exact Kd.V_mono (Kd.R_V (by (with_reducible repeat (first | apply Kd.R_alloc | apply Kd.R_drewN | apply Kd.R_drew)); exact Kd.R_mono HO191.out (fun _ hk => ⟨hk.1.1.1, hk.2⟩))) (fun k_ hk => by first | exact ⟨(.inr (hk.1)), hk.2⟩ | exact (.inr (hk))))⟩, ⟨by repeat (first | (with_reducible first | exact HB.out | apply below_alloc | apply pw_below_drewN | apply below_drew1) | exact HB.out)⟩⟩
                  · rw [if_neg c16] at H
                    have c16b0 : ((Int.tmod x1_2 2) == 1) = false := beq_eq_false_iff_ne.mpr c16
                    have c16b1 : ((Int.tmod x1_2 2) != 1) = true := bne_iff_ne.mpr c16
                    by_cases c34 : (wrap64 (Int.tdiv x1_2 2)) = 0
                    · rw [if_pos c34] at H
                      have c34b0 : ((wrap64 (Int.tdiv x1_2 2)) == 0) = true := beq_iff_eq.mpr c34
                      have c34b1 : ((wrap64 (Int.tdiv x1_2 2)) != 0) = false := bne_eq_false_iff_eq.mpr c34
                      clear c34
                      obtain rfl := Option.some.inj H
                      go_wp2
                      go_ret
                      exact ⟨_, by first | rfl | (simp [errW_none, errW_some] <;> rfl) | (simp [*, errW_none, errW_some] <;> rfl), by (with_reducible repeat (first | apply Kd.R_alloc | apply Kd.R_drewN | apply Kd.R_drew)); exact HO_5.out, by repeat (first | (with_reducible first | exact HB.out | apply below_alloc | apply pw_below_drewN | apply below_drew1) | exact HB.out)⟩
                    · rw [if_neg c34] at H
                      have c34b0 : ((wrap64 (Int.tdiv x1_2 2)) == 0) = false := beq_eq_false_iff_ne.mpr c34
                      have c34b1 : ((wrap64 (Int.tdiv x1_2 2)) != 0) = true := bne_iff_ne.mpr c34
                      replace H := Option.bind_eq_some_iff.mp H
                      obtain ⟨t192, A350, H⟩ := H
                      replace H : (mul_Pow.l0 kj10 (wrap64 (Int.tdiv x1_2 2)) x5_2 t192) = some r := H
                      have A35 := Aside0.mk A350
                      clear A350
                      have H' := Aside0.mk H
                      clear H
                      obtain ⟨Ao36, co36, eo36⟩ := Kd.V_slice HO_6.out
                      subst eo36
                      go_wp2_with (first | ((with_reducible refine gate_callee (f := 65) rfl ?_); refine goesL_ (some 26) rfl rfl Tryd.func65 (by kernel_rfl) rfl #[.slice Ao36 x6_2.length co36] rfl (by (try simp only [List.map_toArray, List.map_cons, List.map_nil]); first | done | rfl | (simp only [List.length_drop, List.length_take]; rfl)) ?_; (with_reducible refine (mul_Square.calls kj10 _ _ x6_2 t192 _ ?side1 ?side2 A35.out).mono ?_); (case side1 => repeat (first | exact (Kd.V_reads' HO_6.out).2.2 | (with_reducible refine Kd.C_alloc ?_ _) | (with_reducible refine Kd.C_drewN ?_ _) | (with_reducible refine Kd.C_drew ?_))); (case side2 => exact (Kd.V_reads' HO_6.out).2.1); rintro e w37 ⟨v193, rfl, ho0, hb⟩; refine ⟨_, rfl, ?_⟩; have n0_ := Aside0.mk (Kd.R_elder' (by (with_reducible repeat (first | apply Kd.R_alloc | apply Kd.R_drewN | apply Kd.R_drew)); exact HO_5.out) (Kd.R_base ho0) hb); have n1_ := Aside0.mk (Kd.V_elder' (by (with_reducible repeat (first | apply Kd.V_alloc | apply Kd.V_drewN | apply Kd.V_drew)); exact HO_6.out) (Kd.R_base ho0) hb); have n2_ := Aside0.mk (Kd.R_lower (Kd.R_new' (Kd.R_newM (M := fun k_ => (w.heap.size ≤ k_)) ho0 (below_size (by repeat (first | (with_reducible first | exact HB.out | apply below_alloc | apply pw_below_drewN | apply below_drew1) | exact HB.out))) (fun k_ h_ => h_)) (Kd.R_lt (by (with_reducible repeat (first | apply Kd.R_alloc | apply Kd.R_drewN | apply Kd.R_drew)); exact HO_5.out))) (below_size (by repeat (first | (with_reducible first | exact HB.out | apply below_alloc | apply pw_below_drewN | apply below_drew1) | exact HB.out)))); have n3_ := Aside0.mk (below_step (by repeat (first | (with_reducible first | exact HB.out | apply below_alloc | apply pw_below_drewN | apply below_drew1) | exact HB.out)) hb); clear HO_5; clear HO_6; clear HB; have HO_5 := n0_; have HO_6 := n1_; have HO194 := n2_; have HB := n3_; clear n0_ n1_ n2_ n3_; (try clear hb); (try clear hb2); (try clear hk); (try clear hi); (try clear ho0)))
                      go_roundg kj10
                      case measure => have := HJ2.out; have := HK2.out; have := HJ10.out; omega
                      case rel => exact ⟨(wrap64 (Int.tdiv x1_2 2)), (x5_2), (t192), (by first | rfl | (simp; done) | (simp [*]; done)), H', ⟨by have := HJ2.out; have := HK2.out; have := HJ10.out; omega⟩, ⟨by (with_reducible repeat (first | apply Kd.R_alloc | apply Kd.R_drewN | apply Kd.R_drew)); exact Kd.R_mono HO_5.out (fun _ hk => hk.1)⟩, ⟨(by first | (apply Kd.V_mono; (· (apply Kd.R_V; apply Kd.R_bound; (with_reducible repeat (first | apply Kd.R_alloc | apply Kd.R_drewN | apply Kd.R_drew)); exact HO194.out)); (· exact fun k_ hk => by first | exact .inr hk.2.1 | exact hk.2.1)) | (apply Kd.V_mono; (· (apply Kd.R_V; apply Kd.R_bound; (with_reducible repeat (first | apply Kd.R_alloc | apply Kd.R_drewN | apply Kd.R_drew)); exact HO194.out)); (· exact fun k_ hk => ⟨.inr hk.2.1,  hk.1.2⟩)) | exact Kd.V_mono (Kd.R_V (by (with_reducible repeat (first | apply Kd.R_alloc | apply Kd.R_drewN | apply Kd.R_drew)); exact Kd.R_mono HO194.out (fun _ hk => ⟨hk.1.1, hk.2⟩))) (fun k_ hk => by first | exact ⟨(.inr (hk.1)), hk.2⟩ | exact (.inr (hk))))⟩, ⟨by repeat (first | (with_reducible first | exact HB.out | apply below_alloc | apply pw_below_drewN | apply below_drew1) | exact HB.out)⟩⟩
theorem pow_half {x m : Nat} : (x * x) ^ m = x ^ (m + m) := by rw [Nat.pow_add, Nat.mul_pow]
theorem toL_ne {n : Nat} (h : 0 < n) : (Nums.toL n).length ≠ 0 := fun e => by
  have := Nums.toL_eq_nil.1 (List.eq_nil_of_length_eq_zero e)
  omega
theorem toL_len_ne {n : Nat} (h : 0 < n) : ¬ ((Nums.toL n).length : Int) = 0 := fun e => toL_ne h (by omega)
theorem pow_l0_ev (c : Nat) (hM : MulTells c) : ∀ (n O Bv : Nat), n < 9223372036854775808 → 0 < O → O < 4294967296 ^ 65536 → 0 < Bv → (O * Bv ^ n < 4294967296 ^ c ∨ 65536 ≤ c) →
    Nums.Ev (fun k => mul_Pow.l0 k (n : Int) (Nums.toL O) (Nums.lim Bv)) (Nums.lim (O * Bv ^ n)) := by
  have hmul : ∀ x y : Nat, x < 4294967296 ^ 65536 → y < 4294967296 ^ 65536 → (x < 4294967296 ^ c ∨ 65536 ≤ c) → Nums.Ev (fun k => mul_Mul.f k (Nums.toL x) (Nums.toL y)) (Nums.lim (x * y)) := by
    intro x y hx hy hc
    have h := mul_Mul_ev (Nums.toL x) (Nums.toL y) (Nums.rng_toL x) (Nums.rng_toL y) (Nums.may_toL hx) (Nums.may_toL hy)
    rw [Nums.val_toL, Nums.val_toL] at h
    refine h (fun hl => ?_)
    have := hM (Nums.toL x) (Nums.toL y) (Nums.rng_toL x) (Nums.rng_toL y) (Nums.may_toL hx) (Nums.may_toL hy) (.inl ?_) hl
    · rw [Nums.val_toL, Nums.val_toL] at this
      exact this
    · rcases hc with hc | hc
      · exact Nums.len_toL_le.2 hc
      · exact Nat.le_trans (Nums.len_toL_le.2 hx) hc
  have hsq : ∀ x : Nat, x < 4294967296 ^ 65536 → (x < 4294967296 ^ c ∨ 65536 ≤ c) → Nums.Ev (fun k => mul_Square.f k (Nums.toL x)) (Nums.lim (x * x)) := by
    intro x hx hc
    exact Nums.Ev.bind (f := fun k => mul_Mul.f k (Nums.toL x) (Nums.toL x)) (hmul x x hx hx hc) (Nums.Ev.some _)
  have hlim := fun n => @Nums.lim_eq n
  have hbig := fun n => @Nums.lim_big n
  clear hM
  obtain ⟨M, hMM⟩ : ∃ M, 4294967296 ^ 65536 = M := ⟨_, rfl⟩
  obtain ⟨C, hC⟩ : ∃ C, 4294967296 ^ c = C := ⟨_, rfl⟩
  rw [hMM] at hlim hbig hmul hsq ⊢
  rw [hC] at hmul hsq ⊢
  clear hMM hC
  intro n
  induction n using Nat.strongRecOn with
  | _ n ih =>
  intro O Bv hn hO hOM hB hc
  have hdiv : wrap64 (Int.tdiv (n : Int) 2) = ((n / 2 : Nat) : Int) := by
    rw [Int.tdiv_eq_ediv_of_nonneg (by omega)]
    unfold wrap64
    omega
  have hmod : Int.tmod (n : Int) 2 = ((n % 2 : Nat) : Int) := by
    rw [Int.tmod_eq_emod_of_nonneg (by omega)]
    omega
  by_cases hBM : Bv < M
  · rw [hlim _ hBM]
    have hstep : ∀ k, mul_Pow.l0 (k + 1) (n : Int) (Nums.toL O) (Nums.toL Bv) = mul_Pow.j2 k (n : Int) (Nums.toL O) (Nums.toL Bv) false := by
      intro k
      rw [mul_Pow.l0, if_neg (toL_len_ne hB)]
    refine Nums.Ev.succ (g := fun k => mul_Pow.j2 k (n : Int) (Nums.toL O) (Nums.toL Bv) false) ?_ hstep
    by_cases hodd : n % 2 = 1
    · have e1 : O * Bv ^ n = O * Bv * (Bv * Bv) ^ (n / 2) := by
        rw [pow_half, Nat.mul_assoc, ← Nat.pow_succ', show (n / 2 + n / 2).succ = n by omega]
      have hle1 : O ≤ O * Bv ^ n := Nat.le_mul_of_pos_right _ (Nat.pow_pos hB)
      have hle2 : O * Bv ≤ O * Bv ^ n := by rw [e1]; exact Nat.le_mul_of_pos_right _ (Nat.pow_pos (Nat.mul_pos hB hB))
      have hle3 : Bv ≤ O * Bv ^ n := Nat.le_trans (Nat.le_mul_of_pos_left _ hO) hle2
      have h1 := hmul O Bv hOM hBM (hc.imp (fun h => Nat.lt_of_le_of_lt hle1 h) id)
      have h2 := hsq Bv hBM (hc.imp (fun h => Nat.lt_of_le_of_lt hle3 h) id)
      have hOB : 0 < O * Bv := Nat.mul_pos hO hB
      have hj : ∀ k, mul_Pow.j2 (k + 1) (n : Int) (Nums.toL O) (Nums.toL Bv) false = (mul_Mul.f k (Nums.toL O) (Nums.toL Bv)).bind fun t => if (t.length : Int) = 0 then some [] else (if ((n / 2 : Nat) : Int) = 0 then some t else ((mul_Square.f k (Nums.toL Bv)).bind fun t2 => mul_Pow.l0 k ((n / 2 : Nat) : Int) t t2)) := by
        intro k
        rw [mul_Pow.j2, if_neg (by decide), hmod, hodd, if_pos (by rfl), hdiv]
      refine Nums.Ev.succ ?_ hj
      refine Nums.Ev.bind (f := fun k => mul_Mul.f k (Nums.toL O) (Nums.toL Bv)) h1 ?_
      by_cases hov : O * Bv < M
      · rw [hlim _ hov]
        simp only [if_neg (toL_len_ne hOB)]
        by_cases hz : n / 2 = 0
        · rw [e1, hz, Nat.pow_zero, Nat.mul_one, hlim _ hov]
          simp only [if_pos (show ((0 : Nat) : Int) = 0 from rfl)]
          exact Nums.Ev.some _
        · simp only [if_neg (show ¬ ((n / 2 : Nat) : Int) = 0 by omega)]
          refine Nums.Ev.bind (f := fun k => mul_Square.f k (Nums.toL Bv)) h2 ?_
          rw [e1]
          exact ih (n / 2) (by omega) (O * Bv) (Bv * Bv) (by omega) hOB hov (Nat.mul_pos hB hB) (by rw [← e1]; exact hc)
      · rw [hbig _ hov]
        have : ¬ O * Bv ^ n < M := by omega
        rw [hbig _ this]
        exact Nums.Ev.of fun _ => rfl
    · have e1 : O * Bv ^ n = O * (Bv * Bv) ^ (n / 2) := by
        rw [pow_half, show n / 2 + n / 2 = n by omega]
      have hj : ∀ k, mul_Pow.j2 (k + 1) (n : Int) (Nums.toL O) (Nums.toL Bv) false = if ((n / 2 : Nat) : Int) = 0 then some (Nums.toL O) else ((mul_Square.f k (Nums.toL Bv)).bind fun t2 => mul_Pow.l0 k ((n / 2 : Nat) : Int) (Nums.toL O) t2) := by
        intro k
        rw [mul_Pow.j2, if_neg (by decide), hmod, if_neg (by omega), hdiv]
      refine Nums.Ev.succ ?_ hj
      by_cases hz : n / 2 = 0
      · rw [e1, hz, Nat.pow_zero, Nat.mul_one, hlim _ hOM]
        simp only [if_pos (show ((0 : Nat) : Int) = 0 from rfl)]
        exact Nums.Ev.some _
      · simp only [if_neg (show ¬ ((n / 2 : Nat) : Int) = 0 by omega)]
        have hle3 : Bv ≤ O * Bv ^ n := by
          have h5 : Bv ^ 1 ≤ Bv ^ n := Nat.pow_le_pow_right hB (by omega)
          rw [Nat.pow_one] at h5
          exact Nat.le_trans h5 (Nat.le_mul_of_pos_left _ hO)
        have h2 := hsq Bv hBM (hc.imp (fun h => Nat.lt_of_le_of_lt hle3 h) id)
        refine Nums.Ev.bind (f := fun k => mul_Square.f k (Nums.toL Bv)) h2 ?_
        rw [e1]
        exact ih (n / 2) (by omega) O (Bv * Bv) (by omega) hO hOM (Nat.mul_pos hB hB) (by rw [← e1]; exact hc)
  · rw [hbig _ hBM]
    have hstep : ∀ k, mul_Pow.l0 (k + 1) (n : Int) (Nums.toL O) [] = mul_Pow.j2 k (n : Int) (Nums.toL O) [] (decide (n > 0)) := by
      intro k
      rw [mul_Pow.l0, if_pos (by rfl)]
      congr 1
      exact decide_eq_decide.2 (by omega)
    refine Nums.Ev.succ ?_ hstep
    by_cases hz : n = 0
    · subst hz
      rw [Nat.pow_zero, Nat.mul_one, hlim _ hOM]
      refine Nums.Ev.now fun k => ?_
      rw [decide_eq_false (by omega), mul_Pow.j2, if_neg (by decide), hmod, if_neg (by decide), hdiv]
      rfl
    · have h5 : Bv ^ 1 ≤ Bv ^ n := Nat.pow_le_pow_right hB (by omega)
      rw [Nat.pow_one] at h5
      have h6 : Bv ≤ O * Bv ^ n := Nat.le_trans h5 (Nat.le_mul_of_pos_left _ hO)
      rw [hbig _ (show ¬ O * Bv ^ n < M by omega)]
      refine Nums.Ev.now fun k => ?_
      rw [decide_eq_true (by omega), mul_Pow.j2, if_pos rfl]
theorem mul_Pow_ev (c : Nat) (hM : MulTells c) (a : List Int) (n : Nat) (ha : Nums.rng a = true) (ma : Nums.may a = true) (hn : n < 9223372036854775808) (h0 : a ≠ []) (hc : Nums.val a ^ n < 4294967296 ^ c ∨ 65536 ≤ c) :
    Nums.Ev (fun k => mul_Pow.f k a (n : Int)) (Nums.lim (Nums.val a ^ n)) := by
  obtain ⟨e1, e2⟩ := Nums.may_val ha ma
  have hp := val_pos ha (Nums.may_iff.1 ma).2 h0
  have h := pow_l0_ev c hM n 1 (Nums.val a) hn (by decide) (Nat.lt_of_le_of_lt hp e2) hp (by rw [Nat.one_mul]; exact hc)
  rw [Nat.one_mul, Nums.lim_eq e2, e1] at h
  have h1 := nat_Of_ev 1 (by decide) (by decide)
  have hl : ((a.length : Int) == 0) = false := by
    have := List.length_pos_iff.2 h0
    exact beq_eq_false_iff_ne.mpr (by omega)
  have hf : ∀ k, mul_Pow.f (k + 1) a (n : Int) = (nat_Of.f k 1).bind fun t => mul_Pow.l0 k (n : Int) t a := by
    intro k
    unfold mul_Pow.f
    rw [nat_May_eq, ma, Option.bind_some, if_pos rfl, if_neg (by omega), hl]
    have : ∀ b, (if (n : Int) > 0 then b else b : Option (List Int)) = b := fun b => by split <;> rfl
    rw [this, mul_Pow.j0, if_neg (by decide)]
  exact Nums.Ev.succ (Nums.Ev.bind (f := fun k => nat_Of.f k 1) h1 h) hf

/-! ### dec_Ten: function 17 -/
def dec_Ten.f (k : Nat) (a0 : Int) : Option (List Int) := (nat_Of.f k 10).bind fun t195 => ((mul_Pow.f k t195 a0).bind fun t198 => (some t198))
theorem dec_Ten.mono : ∀ a0 k, LeO (dec_Ten.f k a0) (dec_Ten.f (k + 1) a0) := by
  intro a0 k
  unfold dec_Ten.f
  repeat' first
      | (with_reducible exact mul_Pow.mono _ _ _)
      | (with_reducible exact nat_Of.mono _ _)
      | (with_reducible exact LeO.refl _)
      | (with_reducible exact LeO.none _)
      | (with_reducible refine LeO.ite ?_ ?_)
      | (with_reducible refine LeO.bind ?_ (fun _ => ?_))
      | exact mul_Pow.mono _ _ _
      | exact nat_Of.mono _ _
      | exact LeO.none _
      | refine LeO.ite ?_ ?_
      | refine LeO.bind ?_ (fun _ => ?_)
set_option maxHeartbeats 8000000 in
set_option maxRecDepth 100000 in
theorem dec_Ten.calls (k : Nat) (a0 : Int) (r : List Int) (w : World) (h : dec_Ten.f k a0 = some r) :
    Calls Tryd.prog 17 #[.int .i64 a0] w fun e w' => ∃ v0_ : Value, e = .returned (v0_) ∧ Kd.R (Kd.int .u32) 39 w' w.heap.size (fun _ => True) v0_ r ∧ Below w.heap.size w w' := by
  have HB := Aside0.mk (Below.refl w.heap.size w)
  have H : ((nat_Of.f k 10).bind fun t195 => ((mul_Pow.f k t195 a0).bind fun t198 => (some t198))) = some r := h
  clear h
  replace H := Option.bind_eq_some_iff.mp H
  obtain ⟨t195, A20, H⟩ := H
  replace H : ((mul_Pow.f k t195 a0).bind fun t198 => (some t198)) = some r := H
  have A2 := Aside0.mk A20
  clear A20
  replace H := Option.bind_eq_some_iff.mp H
  obtain ⟨t198, A30, H⟩ := H
  replace H : (some t198) = some r := H
  have A3 := Aside0.mk A30
  clear A30
  obtain rfl := Option.some.inj H
  go_enter Tryd.func17, Tryd.ntmps17
  go_wp2_with (first | ((with_reducible refine gate_callee (f := 29) rfl ?_); refine goesL_ (some 3) rfl rfl Tryd.func29 (by kernel_rfl) rfl #[.int .u64 10] rfl (by (try simp only [List.map_toArray, List.map_cons, List.map_nil]); first | done | rfl | (simp only [List.length_drop, List.length_take]; rfl)) ?_; (with_reducible refine (nat_Of.calls k 10 t195 _ A2.out).mono ?_); rintro e w4 ⟨v196, rfl, ho0, hb⟩; refine ⟨_, rfl, ?_⟩; have n0_ := Aside0.mk (Kd.R_lower ho0 (below_size (by repeat (first | (with_reducible first | exact HB.out | apply below_alloc | apply pw_below_drewN | apply below_drew1) | exact HB.out)))); have n1_ := Aside0.mk (below_step (by repeat (first | (with_reducible first | exact HB.out | apply below_alloc | apply pw_below_drewN | apply below_drew1) | exact HB.out)) hb); clear HB; have HO197 := n0_; have HB := n1_; clear n0_ n1_; (try clear hb); (try clear hb2); (try clear hk); (try clear hi); (try clear ho0); obtain ⟨Ao5, co5, eo5⟩ := Kd.R_slice HO197.out; subst eo5) | ((with_reducible refine gate_callee (f := 42) rfl ?_); refine goesL_ (some 5) rfl rfl Tryd.func42 (by kernel_rfl) rfl #[.slice Ao5 t195.length co5, .int .i64 a0] rfl (by (try simp only [List.map_toArray, List.map_cons, List.map_nil]); first | done | rfl | (simp only [List.length_drop, List.length_take]; rfl)) ?_; (with_reducible refine (mul_Pow.calls k (fun k_ => some k_ = (.slice Ao5 t195.length co5 : Value).ownBlock) _ _ t195 a0 t198 _ ?side1 A3.out).mono ?_); (case side1 => exact Kd.R_V (Kd.R_tight rfl (HO197.out))); rintro e w6 ⟨v199, rfl, ho0, hb⟩; refine ⟨_, rfl, ?_⟩; have n0_ := Aside0.mk (Kd.R_elder' (by (with_reducible repeat (first | apply Kd.R_alloc | apply Kd.R_drewN | apply Kd.R_drew)); exact HO197.out) (Kd.R_base ho0) hb); have n1_ := Aside0.mk (Kd.R_lower (Kd.R_new' (Kd.R_mono (ok' := fun k_ => True) ho0 (fun _ hk_ => trivial)) (Kd.R_lt (by (with_reducible repeat (first | apply Kd.R_alloc | apply Kd.R_drewN | apply Kd.R_drew)); exact HO197.out))) (below_size (by repeat (first | (with_reducible first | exact HB.out | apply below_alloc | apply pw_below_drewN | apply below_drew1) | exact HB.out)))); have n2_ := Aside0.mk (below_step (by repeat (first | (with_reducible first | exact HB.out | apply below_alloc | apply pw_below_drewN | apply below_drew1) | exact HB.out)) hb); clear HO197; clear HB; have HO197 := n0_; have HO200 := n1_; have HB := n2_; clear n0_ n1_ n2_; (try clear hb); (try clear hb2); (try clear hk); (try clear hi); (try clear ho0)))
  go_ret
  exact ⟨_, by first | rfl | (simp [errW_none, errW_some] <;> rfl) | (simp [*, errW_none, errW_some] <;> rfl), by (with_reducible repeat (first | apply Kd.R_alloc | apply Kd.R_drewN | apply Kd.R_drew)); exact Kd.R_mono HO200.out (fun _ hk => trivial), by repeat (first | (with_reducible first | exact HB.out | apply below_alloc | apply pw_below_drewN | apply below_drew1) | exact HB.out)⟩
theorem dec_Ten_ev (c : Nat) (hM : MulTells c) (n : Nat) (hn : n < 9223372036854775808) (hc : 10 ^ n < 4294967296 ^ c ∨ 65536 ≤ c) : Nums.Ev (fun k => dec_Ten.f k (n : Int)) (Nums.lim (10 ^ n)) := by
  have h1 := nat_Of_ev 10 (by decide) (by decide)
  have h10 : (10 : Int).toNat = 10 := rfl
  rw [h10] at h1
  have hm : Nums.may (Nums.toL 10) = true := Nums.may_toL (Nat.lt_of_lt_of_le (show 10 < 4294967296 ^ 1 by decide) (Nums.pow_le_gen 4294967296 1 65536 (by decide) (by decide)))
  have h2 := mul_Pow_ev c hM (Nums.toL 10) n (Nums.rng_toL 10) hm hn (fun e => absurd (Nums.toL_eq_nil.1 e) (by decide)) (by rw [Nums.val_toL]; exact hc)
  rw [Nums.val_toL] at h2
  exact Nums.Ev.bind (f := fun k => nat_Of.f k 10) h1 (Nums.Ev.bind (f := fun k => mul_Pow.f k (Nums.toL 10) (n : Int)) h2 (Nums.Ev.some _))

/-! ### nat_may: function 45 -/
set_option maxHeartbeats 1000000 in
theorem nat_may1.calls (A0 : Option Addr) (c0 : Nat) (l0 : List Int) (r : Bool) (w : World) (hr0 : Kd.C (Kd.int .u32) w A0 l0.length l0) (hc0 : l0.length ≤ c0) (h : nat_May.f l0 = some r) :
    Calls Tryd.prog 74 #[.slice A0 l0.length c0] w fun e w' => e = .returned (.bool (!r)) ∧ Drawn0 w w' := by
  have H := Aside0.mk h
  have HR0 := Aside0.mk hr0
  have HC0 := Aside0.mk hc0
  clear h hr0 hc0
  go_enter Tryd.func74, Tryd.ntmps74
  go_wp2_with (go_at_call 22; refine (nat_May.calls _ _ _ _ _ HR0.out HC0.out H.out).mono ?_; rintro e w' ⟨rfl, ⟨nd, rfl⟩⟩)
  go_ret
  exact ⟨rfl, by repeat (first | exact Drawn0.refl _ | apply Drawn0.step)⟩
set_option maxRecDepth 100000 in
set_option maxHeartbeats 4000000 in
/-- slices.IndexFunc of two slices, by may's closure: where the first one stands that may not be. -/
theorem nat_index2.calls (A0 A1 : Option Addr) (c0 c1 : Nat) (a b : List Int) (ra rb : Bool) (g : Nat) (w : World) (hg : w.heap[g]? = some (.cells #[.slice A0 a.length c0, .slice A1 b.length c1] 22 (0, 0)))
    (hra : Kd.C (Kd.int .u32) w A0 a.length a) (hrb : Kd.C (Kd.int .u32) w A1 b.length b) (hca : a.length ≤ c0) (hcb : b.length ≤ c1) (ha : nat_May.f a = some ra) (hb : nat_May.f b = some rb) :
    Calls Tryd.prog 94 #[.slice (some ⟨g, 0, none⟩) 2 2, .func (.func 74) #[] #[]] w fun e w' => e = .returned (.int .i64 (if ra then (if rb then -1 else 1) else 0)) ∧ Drawn0 w w' := by
  have hc0 : w.cell? ⟨g, 0, none⟩ = some (.slice A0 a.length c0) := by simp [World.cell?, hg]
  have hc1 : w.cell? ⟨g, 1, none⟩ = some (.slice A1 b.length c1) := by simp [World.cell?, hg]
  have HA := Aside0.mk ha
  have HB := Aside0.mk hb
  have HRA := Aside0.mk hra
  have HRB := Aside0.mk hrb
  have HCA := Aside0.mk hca
  have HCB := Aside0.mk hcb
  clear ha hb hra hrb hca hcb hg
  cases ra with
  | false =>
    go_enter Tryd.func94, Tryd.ntmps94
    go_wp2
    refine wp_loop_rounds 3 ?_
    rw [rounds_succ]
    go_wp2_with (go_at_call 74; refine (nat_may1.calls _ _ _ _ _ ?sideA HCA.out HA.out).mono ?_; (case sideA => repeat (first | exact HRA.out | (with_reducible refine Kd.C_drewN ?_ _) | (with_reducible refine Kd.C_drew ?_))); rintro e w' ⟨rfl, ⟨ndA, rfl⟩⟩)
    go_ret
    exact ⟨rfl, by repeat (first | exact Drawn0.refl _ | apply Drawn0.step)⟩
  | true =>
    cases rb with
    | false =>
      go_enter Tryd.func94, Tryd.ntmps94
      go_wp2
      refine wp_loop_rounds 3 ?_
      rw [rounds_succ]
      go_wp2_with (go_at_call 74; refine (nat_may1.calls _ _ _ _ _ ?sideA HCA.out HA.out).mono ?_; (case sideA => repeat (first | exact HRA.out | (with_reducible refine Kd.C_drewN ?_ _) | (with_reducible refine Kd.C_drew ?_))); rintro e w' ⟨rfl, ⟨ndA, rfl⟩⟩)
      rw [rounds_succ]
      go_wp2_with (go_at_call 74; refine (nat_may1.calls _ _ _ _ _ ?sideB HCB.out HB.out).mono ?_; (case sideB => repeat (first | exact HRB.out | (with_reducible refine Kd.C_drewN ?_ _) | (with_reducible refine Kd.C_drew ?_))); rintro e w' ⟨rfl, ⟨ndB, rfl⟩⟩)
      go_ret
      exact ⟨rfl, by repeat (first | exact Drawn0.refl _ | apply Drawn0.step)⟩
    | true =>
      go_enter Tryd.func94, Tryd.ntmps94
      go_wp2
      refine wp_loop_rounds 3 ?_
      rw [rounds_succ]
      go_wp2_with (go_at_call 74; refine (nat_may1.calls _ _ _ _ _ ?sideA HCA.out HA.out).mono ?_; (case sideA => repeat (first | exact HRA.out | (with_reducible refine Kd.C_drewN ?_ _) | (with_reducible refine Kd.C_drew ?_))); rintro e w' ⟨rfl, ⟨ndA, rfl⟩⟩)
      rw [rounds_succ]
      go_wp2_with (go_at_call 74; refine (nat_may1.calls _ _ _ _ _ ?sideB HCB.out HB.out).mono ?_; (case sideB => repeat (first | exact HRB.out | (with_reducible refine Kd.C_drewN ?_ _) | (with_reducible refine Kd.C_drew ?_))); rintro e w' ⟨rfl, ⟨ndB, rfl⟩⟩)
      rw [rounds_succ]
      go_wp2
      go_ret
      exact ⟨rfl, by repeat (first | exact Drawn0.refl _ | apply Drawn0.step)⟩
set_option maxHeartbeats 1000000 in
theorem nat_contains2.calls (A0 A1 : Option Addr) (c0 c1 : Nat) (a b : List Int) (ra rb : Bool) (g : Nat) (w : World) (hg : w.heap[g]? = some (.cells #[.slice A0 a.length c0, .slice A1 b.length c1] 22 (0, 0)))
    (hra : Kd.C (Kd.int .u32) w A0 a.length a) (hrb : Kd.C (Kd.int .u32) w A1 b.length b) (hca : a.length ≤ c0) (hcb : b.length ≤ c1) (ha : nat_May.f a = some ra) (hb : nat_May.f b = some rb) :
    Calls Tryd.prog 73 #[.slice (some ⟨g, 0, none⟩) 2 2, .func (.func 74) #[] #[]] w fun e w' => e = .returned (.bool (!(ra && rb))) ∧ Drawn0 w w' := by
  have HI := Aside0.mk (nat_index2.calls A0 A1 c0 c1 a b ra rb g w hg hra hrb hca hcb ha hb)
  clear hg hra hrb hca hcb ha hb
  obtain ⟨j, hj⟩ : ∃ j : Int, (if ra then (if rb then -1 else 1) else 0) = j := ⟨_, rfl⟩
  rw [hj] at HI
  have hj2 : (!(ra && rb)) = decide (0 ≤ j) := by cases ra <;> cases rb <;> simp at hj <;> subst hj <;> rfl
  rw [hj2]
  clear hj hj2
  by_cases h0 : 0 ≤ j
  · have h0' : decide (0 ≤ j) = true := decide_eq_true h0
    go_enter Tryd.func73, Tryd.ntmps73
    go_wp2_with (go_at_call 94; refine HI.out.mono ?_; rintro e w' ⟨rfl, ⟨nd, rfl⟩⟩)
    go_ret
    exact ⟨by rw [h0']; rfl, by repeat (first | exact Drawn0.refl _ | apply Drawn0.step)⟩
  · have h0' : decide (0 ≤ j) = false := decide_eq_false h0
    go_enter Tryd.func73, Tryd.ntmps73
    go_wp2_with (go_at_call 94; refine HI.out.mono ?_; rintro e w' ⟨rfl, ⟨nd, rfl⟩⟩)
    go_ret
    exact ⟨by rw [h0']; rfl, by repeat (first | exact Drawn0.refl _ | apply Drawn0.step)⟩
set_option maxHeartbeats 1000000 in
/-- may of two naturals. -/
theorem nat_may2.calls (A0 A1 : Option Addr) (c0 c1 : Nat) (a b : List Int) (ra rb : Bool) (g : Nat) (w : World) (hg : w.heap[g]? = some (.cells #[.slice A0 a.length c0, .slice A1 b.length c1] 22 (0, 0)))
    (hra : Kd.C (Kd.int .u32) w A0 a.length a) (hrb : Kd.C (Kd.int .u32) w A1 b.length b) (hca : a.length ≤ c0) (hcb : b.length ≤ c1) (ha : nat_May.f a = some ra) (hb : nat_May.f b = some rb) :
    Calls Tryd.prog 45 #[.slice (some ⟨g, 0, none⟩) 2 2] w fun e w' => e = .returned (.bool (ra && rb)) ∧ Drawn0 w w' := by
  have HI := Aside0.mk (nat_contains2.calls A0 A1 c0 c1 a b ra rb g w hg hra hrb hca hcb ha hb)
  clear hg hra hrb hca hcb ha hb
  go_enter Tryd.func45, Tryd.ntmps45
  go_wp2_with (go_at_call 73; refine HI.out.mono ?_; rintro e w' ⟨rfl, ⟨nd, rfl⟩⟩)
  go_ret
  exact ⟨by simp, by repeat (first | exact Drawn0.refl _ | apply Drawn0.step)⟩

/-! ### cmp_isNaN_int: function 75 -/
def cmp_isNaN_int.f (a0 : Int) : Option (Bool) := some (a0 != a0)
set_option maxHeartbeats 8000000 in
set_option maxRecDepth 100000 in
theorem cmp_isNaN_int.calls (a0 : Int) (r : Bool) (w : World) (h : cmp_isNaN_int.f a0 = some r) :
    Calls Tryd.prog 75 #[.int .i64 a0] w fun e w' => e = .returned (.bool r) ∧ Drawn0 w w' := by
  have H : (some (a0 != a0)) = some r := h
  clear h
  obtain rfl := Option.some.inj H
  go_enter Tryd.func75, Tryd.ntmps75
  go_wp2
  go_ret
  exact ⟨by first | rfl | (simp; done) | (simp [*]; done), by repeat (first | exact Drawn0.refl _ | apply Drawn0.step)⟩

end Go.Proofs.YtjgloepeogelnaaDoor.Pr

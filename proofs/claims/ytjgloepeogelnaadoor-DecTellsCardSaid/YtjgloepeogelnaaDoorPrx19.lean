/- Functions with the same answers as the Go functions of the program, with the proofs that the program comes to just these answers; no condition but those that each theorem names. (Laid by this work's own program mk.py out of the translation.) -/
import Derived.Test.YtjgloepeogelnaaDoorPrx0
import Derived.Test.YtjgloepeogelnaaDoorPrx4
import Derived.Test.YtjgloepeogelnaaDoorPrx9
import Derived.Test.YtjgloepeogelnaaDoorPrx13
import Derived.Test.YtjgloepeogelnaaDoorPrx16
import Derived.Test.YtjgloepeogelnaaDoorPrx18
namespace Go.Proofs.YtjgloepeogelnaaDoor.Pr
open Go.RowKit Go.Proofs.YtjgloepeogelnaaDoorW.PrintWords Go.Proofs.YtjgloepeogelnaaDoorW.PrintLast Go.Proofs.YtjgloepeogelnaaDoorW.PrintMore
attribute [local go_sem] max2_int min2_int max_two min_two max_three min_three max_four min_four   -- for this text's walks alone
set_option linter.unusedVariables false
set_option linter.unusedSimpArgs false

/-! ### alidaderef02_Pow: function 43 -/
mutual
def alidaderef02_Pow.j0 : Nat → List Int → Int → Bool → Option (List Int)
  | 0, _, _, _ => none
  | k + 1, x0, x1, x17 => if x17 = true then (some ([] : List Int)) else (if x1 = 0 then (some (([1] : List Int))) else (if (x0.length : Int) = 0 then (some ([] : List Int)) else (alidaderef02_Pow.l0 k x0 x1 0 x1)))
def alidaderef02_Pow.l0 : Nat → List Int → Int → Int → Int → Option (List Int)
  | 0, _, _, _, _ => none
  | k + 1, x0, x1, x5, x6 => if x6 > 1 then (alidaderef02_Pow.l0 k x0 x1 (wrap64 (x5 + 1)) (wrap64 (Int.tdiv x6 2))) else (alidaderef02_Pow.l1 k x0 x1 x0 (wrap64 (x5 - 1)))
def alidaderef02_Pow.l1 : Nat → List Int → Int → List Int → Int → Option (List Int)
  | 0, _, _, _, _ => none
  | k + 1, x0, x1, x7, x8 => if x8 ≥ 0 then (alidaderef02_Pow.j3 k x0 x1 x7 x8 (decide ((x7.length : Int) > 0))) else (alidaderef02_Pow.j3 k x0 x1 x7 x8 false)
def alidaderef02_Pow.j3 : Nat → List Int → Int → List Int → Int → Bool → Option (List Int)
  | 0, _, _, _, _, _ => none
  | k + 1, x0, x1, x7, x8, x40 => if x40 = true then ((alidaderef02_Mul.f k x7 x7).bind fun t360 => (alidaderef02_Pow.l2 k x0 x1 t360 x8 x1 0)) else ((some (([] : List Int) : List Int)).bind fun y354 => (if y354.length + x7.length < 35184372088832 then (some (y354 ++ x7)) else (none)))
def alidaderef02_Pow.l2 : Nat → List Int → Int → List Int → Int → Int → Int → Option (List Int)
  | 0, _, _, _, _, _, _ => none
  | k + 1, x0, x1, x7, x8, x9, x10 => if x10 < x8 then (alidaderef02_Pow.l2 k x0 x1 x7 x8 (wrap64 (Int.tdiv x9 2)) (wrap64 (x10 + 1))) else (if (Int.tmod x9 2) = 1 then ((alidaderef02_Mul.f k x7 x0).bind fun t363 => (alidaderef02_Pow.l1 k x0 x1 t363 (wrap64 (x8 - 1)))) else (alidaderef02_Pow.l1 k x0 x1 x7 (wrap64 (x8 - 1))))
end
def alidaderef02_Pow.f (k : Nat) (l0 : List Int) (a1 : Int) : Option (List Int) := (alidaderef01_May.f l0).bind fun t350 => (if t350 = true then (alidaderef02_Pow.j0 k l0 a1 (decide (a1 < 0))) else (alidaderef02_Pow.j0 k l0 a1 true))
theorem alidaderef02_Pow.mono_l : ∀ k, (∀ y0 y1 y2, LeO (alidaderef02_Pow.j0 k y0 y1 y2) (alidaderef02_Pow.j0 (k + 1) y0 y1 y2)) ∧ (∀ y0 y1 y2 y3, LeO (alidaderef02_Pow.l0 k y0 y1 y2 y3) (alidaderef02_Pow.l0 (k + 1) y0 y1 y2 y3)) ∧ (∀ y0 y1 y2 y3, LeO (alidaderef02_Pow.l1 k y0 y1 y2 y3) (alidaderef02_Pow.l1 (k + 1) y0 y1 y2 y3)) ∧ (∀ y0 y1 y2 y3 y4, LeO (alidaderef02_Pow.j3 k y0 y1 y2 y3 y4) (alidaderef02_Pow.j3 (k + 1) y0 y1 y2 y3 y4)) ∧ (∀ y0 y1 y2 y3 y4 y5, LeO (alidaderef02_Pow.l2 k y0 y1 y2 y3 y4 y5) (alidaderef02_Pow.l2 (k + 1) y0 y1 y2 y3 y4 y5))
  | 0 => ⟨fun _ _ _ r h => by simp [alidaderef02_Pow.j0] at h, fun _ _ _ _ r h => by simp [alidaderef02_Pow.l0] at h, fun _ _ _ _ r h => by simp [alidaderef02_Pow.l1] at h, fun _ _ _ _ _ r h => by simp [alidaderef02_Pow.j3] at h, fun _ _ _ _ _ _ r h => by simp [alidaderef02_Pow.l2] at h⟩
  | k + 1 => by
    obtain ⟨ih0, ih1, ih2, ih3, ih4⟩ := alidaderef02_Pow.mono_l k
    refine ⟨?_, ?_, ?_, ?_, ?_⟩
    · intro y0 y1 y2
      unfold alidaderef02_Pow.j0
      repeat' first
      | (with_reducible exact ih0 _ _ _)
      | (with_reducible exact ih1 _ _ _ _)
      | (with_reducible exact ih2 _ _ _ _)
      | (with_reducible exact ih3 _ _ _ _ _)
      | (with_reducible exact ih4 _ _ _ _ _ _)
      | (with_reducible exact alidaderef02_Mul.mono _ _ _)
      | (with_reducible exact LeO.refl _)
      | (with_reducible exact LeO.none _)
      | (with_reducible refine LeO.ite ?_ ?_)
      | (with_reducible refine LeO.bind ?_ (fun _ => ?_))
      | exact ih0 _ _ _
      | exact ih1 _ _ _ _
      | exact ih2 _ _ _ _
      | exact ih3 _ _ _ _ _
      | exact ih4 _ _ _ _ _ _
      | exact alidaderef02_Mul.mono _ _ _
      | exact LeO.none _
      | refine LeO.ite ?_ ?_
      | refine LeO.bind ?_ (fun _ => ?_)
    · intro y0 y1 y2 y3
      unfold alidaderef02_Pow.l0
      repeat' first
      | (with_reducible exact ih0 _ _ _)
      | (with_reducible exact ih1 _ _ _ _)
      | (with_reducible exact ih2 _ _ _ _)
      | (with_reducible exact ih3 _ _ _ _ _)
      | (with_reducible exact ih4 _ _ _ _ _ _)
      | (with_reducible exact alidaderef02_Mul.mono _ _ _)
      | (with_reducible exact LeO.refl _)
      | (with_reducible exact LeO.none _)
      | (with_reducible refine LeO.ite ?_ ?_)
      | (with_reducible refine LeO.bind ?_ (fun _ => ?_))
      | exact ih0 _ _ _
      | exact ih1 _ _ _ _
      | exact ih2 _ _ _ _
      | exact ih3 _ _ _ _ _
      | exact ih4 _ _ _ _ _ _
      | exact alidaderef02_Mul.mono _ _ _
      | exact LeO.none _
      | refine LeO.ite ?_ ?_
      | refine LeO.bind ?_ (fun _ => ?_)
    · intro y0 y1 y2 y3
      unfold alidaderef02_Pow.l1
      repeat' first
      | (with_reducible exact ih0 _ _ _)
      | (with_reducible exact ih1 _ _ _ _)
      | (with_reducible exact ih2 _ _ _ _)
      | (with_reducible exact ih3 _ _ _ _ _)
      | (with_reducible exact ih4 _ _ _ _ _ _)
      | (with_reducible exact alidaderef02_Mul.mono _ _ _)
      | (with_reducible exact LeO.refl _)
      | (with_reducible exact LeO.none _)
      | (with_reducible refine LeO.ite ?_ ?_)
      | (with_reducible refine LeO.bind ?_ (fun _ => ?_))
      | exact ih0 _ _ _
      | exact ih1 _ _ _ _
      | exact ih2 _ _ _ _
      | exact ih3 _ _ _ _ _
      | exact ih4 _ _ _ _ _ _
      | exact alidaderef02_Mul.mono _ _ _
      | exact LeO.none _
      | refine LeO.ite ?_ ?_
      | refine LeO.bind ?_ (fun _ => ?_)
    · intro y0 y1 y2 y3 y4
      unfold alidaderef02_Pow.j3
      repeat' first
      | (with_reducible exact ih0 _ _ _)
      | (with_reducible exact ih1 _ _ _ _)
      | (with_reducible exact ih2 _ _ _ _)
      | (with_reducible exact ih3 _ _ _ _ _)
      | (with_reducible exact ih4 _ _ _ _ _ _)
      | (with_reducible exact alidaderef02_Mul.mono _ _ _)
      | (with_reducible exact LeO.refl _)
      | (with_reducible exact LeO.none _)
      | (with_reducible refine LeO.ite ?_ ?_)
      | (with_reducible refine LeO.bind ?_ (fun _ => ?_))
      | exact ih0 _ _ _
      | exact ih1 _ _ _ _
      | exact ih2 _ _ _ _
      | exact ih3 _ _ _ _ _
      | exact ih4 _ _ _ _ _ _
      | exact alidaderef02_Mul.mono _ _ _
      | exact LeO.none _
      | refine LeO.ite ?_ ?_
      | refine LeO.bind ?_ (fun _ => ?_)
    · intro y0 y1 y2 y3 y4 y5
      unfold alidaderef02_Pow.l2
      repeat' first
      | (with_reducible exact ih0 _ _ _)
      | (with_reducible exact ih1 _ _ _ _)
      | (with_reducible exact ih2 _ _ _ _)
      | (with_reducible exact ih3 _ _ _ _ _)
      | (with_reducible exact ih4 _ _ _ _ _ _)
      | (with_reducible exact alidaderef02_Mul.mono _ _ _)
      | (with_reducible exact LeO.refl _)
      | (with_reducible exact LeO.none _)
      | (with_reducible refine LeO.ite ?_ ?_)
      | (with_reducible refine LeO.bind ?_ (fun _ => ?_))
      | exact ih0 _ _ _
      | exact ih1 _ _ _ _
      | exact ih2 _ _ _ _
      | exact ih3 _ _ _ _ _
      | exact ih4 _ _ _ _ _ _
      | exact alidaderef02_Mul.mono _ _ _
      | exact LeO.none _
      | refine LeO.ite ?_ ?_
      | refine LeO.bind ?_ (fun _ => ?_)
theorem alidaderef02_Pow.mono : ∀ a0 a1 k, LeO (alidaderef02_Pow.f k a0 a1) (alidaderef02_Pow.f (k + 1) a0 a1) := by
  intro a0 a1 k
  obtain ⟨ih0, ih1, ih2, ih3, ih4⟩ := alidaderef02_Pow.mono_l k
  unfold alidaderef02_Pow.f
  repeat' first
      | (with_reducible exact ih0 _ _ _)
      | (with_reducible exact ih1 _ _ _ _)
      | (with_reducible exact ih2 _ _ _ _)
      | (with_reducible exact ih3 _ _ _ _ _)
      | (with_reducible exact ih4 _ _ _ _ _ _)
      | (with_reducible exact alidaderef02_Mul.mono _ _ _)
      | (with_reducible exact LeO.refl _)
      | (with_reducible exact LeO.none _)
      | (with_reducible refine LeO.ite ?_ ?_)
      | (with_reducible refine LeO.bind ?_ (fun _ => ?_))
      | exact ih0 _ _ _
      | exact ih1 _ _ _ _
      | exact ih2 _ _ _ _
      | exact ih3 _ _ _ _ _
      | exact ih4 _ _ _ _ _ _
      | exact alidaderef02_Mul.mono _ _ _
      | exact LeO.none _
      | refine LeO.ite ?_ ?_
      | refine LeO.bind ?_ (fun _ => ?_)
set_option maxHeartbeats 8000000 in
set_option maxRecDepth 100000 in
theorem alidaderef02_Pow.calls (k : Nat) (P0_ : Nat → Prop) (A0 : Option Addr) (c0 : Nat) (l0 : List Int) (a1 : Int) (r : List Int) (w : World) (hs0 : Kd.V (Kd.int .u32) 39 w w.heap.size (fun k_ => P0_ k_) (.slice A0 l0.length c0) l0) (h : alidaderef02_Pow.f k l0 a1 = some r) :
    Calls Tryd.prog 43 #[.slice A0 l0.length c0, .int .i64 a1] w fun e w' => ∃ v0_ : Value, e = .returned (v0_) ∧ Kd.R (Kd.int .u32) 39 w' w.heap.size (fun k_ => (w.heap.size ≤ k_)) v0_ r ∧ Below w.heap.size w w' := by
  have HO0 := Aside0.mk (show Kd.V (Kd.int .u32) 39 w w.heap.size (fun k_ => (P0_ k_ ∨ w.heap.size ≤ k_)) (.slice A0 l0.length c0) l0 from Kd.V_mono hs0 (fun k_ hk => .inl hk))
  have HB := Aside0.mk (Below.refl w.heap.size w)
  have H : ((alidaderef01_May.f l0).bind fun t350 => (if t350 = true then (alidaderef02_Pow.j0 k l0 a1 (decide (a1 < 0))) else (alidaderef02_Pow.j0 k l0 a1 true))) = some r := h
  clear h
  have HC3 := Aside0.mk H
  clear H
  go_enter Tryd.func43, Tryd.ntmps43
  go_upto_region 1 with (fail)
  go_cut [17] (fun v17 wc => ∃ (kq : Nat) (x17_2 : Bool), v17 = .bool x17_2 ∧ Aside0 (alidaderef02_Pow.j0 kq l0 a1 x17_2 = some r) ∧ Aside0 (kq ≤ k) ∧ Aside0 (Kd.V (Kd.int .u32) 39 wc w.heap.size (fun k_ => (P0_ k_ ∨ w.heap.size ≤ k_)) (.slice A0 l0.length c0) l0) ∧ Aside0 (Below w.heap.size w wc))
  case first =>
    have H := HC3.out
    clear HC3
    replace H := Option.bind_eq_some_iff.mp H
    obtain ⟨t350, A40, H⟩ := H
    replace H : (if t350 = true then (alidaderef02_Pow.j0 k l0 a1 (decide (a1 < 0))) else (alidaderef02_Pow.j0 k l0 a1 true)) = some r := H
    have A4 := Aside0.mk A40
    clear A40
    by_cases c5 : t350 = true
    · subst c5
      have H1 : (alidaderef02_Pow.j0 k l0 a1 (decide (a1 < 0))) = some r := by rw [if_pos rfl] at H; exact H
      clear H
      have H := H1
      clear H1
      have H' := Aside0.mk H
      clear H
      go_wp2_with (first | ((with_reducible refine gate_callee (f := 31) rfl ?_); refine goesL_ (some 12) rfl rfl Tryd.func31 (by kernel_rfl) rfl #[.slice A0 l0.length c0] rfl (by (try simp only [List.map_toArray, List.map_cons, List.map_nil]); first | done | rfl | (simp only [List.length_drop, List.length_take]; rfl)) ?_; (with_reducible refine (alidaderef01_May.calls _ _ l0 true _ ?side1 ?side2 A4.out).mono ?_); (case side1 => repeat (first | exact (Kd.V_reads' HO0.out).2.2 | (with_reducible refine Kd.C_alloc ?_ _) | (with_reducible refine Kd.C_drewN ?_ _) | (with_reducible refine Kd.C_drew ?_))); (case side2 => exact (Kd.V_reads' HO0.out).2.1); rintro e w' ⟨rfl, ⟨nd, rfl⟩⟩; refine ⟨_, rfl, ?_⟩))
      go_meet
      case rel => exact ⟨_, (decide (a1 < 0)), (by first | rfl | (simp; done) | (simp [*]; done)), H', ⟨by first | omega | exact Nat.le_refl _⟩, ⟨by (with_reducible repeat (first | apply Kd.V_alloc | apply Kd.V_drewN | apply Kd.V_drew)); exact HO0.out⟩, ⟨by repeat (first | (with_reducible first | exact HB.out | apply below_alloc | apply pw_below_drewN | apply below_drew1) | exact HB.out)⟩⟩
    · replace c5 := Bool.eq_false_iff.mpr c5
      subst c5
      have H1 : (alidaderef02_Pow.j0 k l0 a1 true) = some r := by rw [if_neg (show ¬ (false = true) by decide)] at H; exact H
      clear H
      have H := H1
      clear H1
      have H' := Aside0.mk H
      clear H
      go_wp2_with (first | ((with_reducible refine gate_callee (f := 31) rfl ?_); refine goesL_ (some 12) rfl rfl Tryd.func31 (by kernel_rfl) rfl #[.slice A0 l0.length c0] rfl (by (try simp only [List.map_toArray, List.map_cons, List.map_nil]); first | done | rfl | (simp only [List.length_drop, List.length_take]; rfl)) ?_; (with_reducible refine (alidaderef01_May.calls _ _ l0 false _ ?side1 ?side2 A4.out).mono ?_); (case side1 => repeat (first | exact (Kd.V_reads' HO0.out).2.2 | (with_reducible refine Kd.C_alloc ?_ _) | (with_reducible refine Kd.C_drewN ?_ _) | (with_reducible refine Kd.C_drew ?_))); (case side2 => exact (Kd.V_reads' HO0.out).2.1); rintro e w' ⟨rfl, ⟨nd, rfl⟩⟩; refine ⟨_, rfl, ?_⟩))
      go_meet
      case rel => exact ⟨_, (true), (by first | rfl | (simp; done) | (simp [*]; done)), H', ⟨by first | omega | exact Nat.le_refl _⟩, ⟨by (with_reducible repeat (first | apply Kd.V_alloc | apply Kd.V_drewN | apply Kd.V_drew)); exact HO0.out⟩, ⟨by repeat (first | (with_reducible first | exact HB.out | apply below_alloc | apply pw_below_drewN | apply below_drew1) | exact HB.out)⟩⟩
  case rest =>
    clear HC3
    try clear p2
    try clear c3
    try clear c4
    try clear c5
    obtain ⟨kq, x17_2, rfl, HA, HJ2, HO_0, HB⟩ := hcut
    cases kq with
    | zero => exact absurd HA.out (by simp [alidaderef02_Pow.j0])
    | succ kj2 =>
      have H := HA.out
      clear HA
      simp only [alidaderef02_Pow.j0] at H
      by_cases c6 : x17_2 = true
      · subst c6
        have H1 : (some ([] : List Int)) = some r := by rw [if_pos rfl] at H; exact H
        clear H
        have H := H1
        clear H1
        obtain rfl := Option.some.inj H
        go_wp2
        go_ret
        exact ⟨_, by first | rfl | (simp [errW_none, errW_some] <;> rfl) | (simp [*, errW_none, errW_some] <;> rfl), by first | exact Kd.R_nil _ _ _ _ _ | exact Kd.N_nil _ _ _ _ _ | exact Kd.V_nil _ _ _ _ _ | exact Kd.Q_nil _ _ _ _ _ | exact Kd.S_nil _ _ _ _ _, by repeat (first | (with_reducible first | exact HB.out | apply below_alloc | apply pw_below_drewN | apply below_drew1) | exact HB.out)⟩
      · replace c6 := Bool.eq_false_iff.mpr c6
        subst c6
        have H1 : (if a1 = 0 then (some (([1] : List Int))) else (if (l0.length : Int) = 0 then (some ([] : List Int)) else (alidaderef02_Pow.l0 kj2 l0 a1 0 a1))) = some r := by rw [if_neg (show ¬ (false = true) by decide)] at H; exact H
        clear H
        have H := H1
        clear H1
        by_cases c7 : a1 = 0
        · rw [if_pos c7] at H
          have c7b0 : (a1 == 0) = true := beq_iff_eq.mpr c7
          have c7b1 : (a1 != 0) = false := bne_eq_false_iff_eq.mpr c7
          clear c7
          obtain ⟨y351, hy351⟩ : ∃ y_ : List Int, y_ = (([1] : List Int)) := ⟨_, rfl⟩
          replace H : (some y351) = some r := by first | (rw [hy351]; with_reducible exact H) | (have H2_ := (Option.bind_some _ _).symm.trans H; rw [hy351]; with_reducible exact H2_) | (have H2_ := (Option.bind_some _ _).symm.trans H; with_reducible exact H2_) | with_reducible exact H | (rw [hy351]; exact H) | exact H
          have Ny351 := Aside0.mk hy351
          clear hy351
          obtain rfl := Option.some.inj H
          go_wp2_with (first | ((with_reducible refine gate_dst (N := 20) rfl ?_); (try (refine gate_guard (by rfl) ?_; dsimp only)); refine Kd.R_lit (Kd.int .u32) _ 39 ?hg (N := 20) ?hd (xs := ([1] : List Int)) (inner := [.int .u32 1]) (ok := fun _ => True) (okp := fun _ => True) ?hr ?hp (fun _ hk => hk) trivial (Below.refl _ _) (Nat.le_refl _) (by simp) ?_; (case hd => rfl); (case hg => rfl); (case hr => first | (go_simp; done) | (go_simp; rfl)); (case hp => exact (Reps.one (show Kd.M (Kd.int .u32) _ _ _ 1 [.int .u32 1] from rfl) (Reps.none _ _))); intro v352 w8 ho9 hb hg_ hnew_; clear hg_ hnew_; (first | rw [← Ny351.out] at ho9 | (simp only [Int.reduceToNat] at ho9; rw [← Ny351.out] at ho9)); have n0_ := Aside0.mk (Kd.V_elder' (by (with_reducible repeat (first | apply Kd.V_alloc | apply Kd.V_drewN | apply Kd.V_drew)); exact HO_0.out) (Kd.R_base ho9) hb); have n1_ := Aside0.mk (Kd.R_lower (Kd.R_newM (M := fun k_ => (w.heap.size ≤ k_)) ho9 (below_size (by repeat (first | (with_reducible first | exact HB.out | apply below_alloc | apply pw_below_drewN | apply below_drew1) | exact HB.out))) (fun k_ h_ => h_)) (below_size (by repeat (first | (with_reducible first | exact HB.out | apply below_alloc | apply pw_below_drewN | apply below_drew1) | exact HB.out)))); have n2_ := Aside0.mk (below_step (by repeat (first | (with_reducible first | exact HB.out | apply below_alloc | apply pw_below_drewN | apply below_drew1) | exact HB.out)) hb); clear HO_0; clear HB; have HO_0 := n0_; have HO353 := n1_; have HB := n2_; clear n0_ n1_ n2_; clear hb ho9))
          go_ret
          exact ⟨_, by first | rfl | (simp [errW_none, errW_some] <;> rfl) | (simp [*, errW_none, errW_some] <;> rfl), by (with_reducible repeat (first | apply Kd.R_alloc | apply Kd.R_drewN | apply Kd.R_drew)); exact Kd.R_mono HO353.out (fun _ hk => hk.1), by repeat (first | (with_reducible first | exact HB.out | apply below_alloc | apply pw_below_drewN | apply below_drew1) | exact HB.out)⟩
        · rw [if_neg c7] at H
          have c7b0 : (a1 == 0) = false := beq_eq_false_iff_ne.mpr c7
          have c7b1 : (a1 != 0) = true := bne_iff_ne.mpr c7
          by_cases c10 : (l0.length : Int) = 0
          · rw [if_pos c10] at H
            have c10b0 : ((l0.length : Int) == 0) = true := beq_iff_eq.mpr c10
            have c10b1 : ((l0.length : Int) != 0) = false := bne_eq_false_iff_eq.mpr c10
            clear c10
            obtain rfl := Option.some.inj H
            go_wp2
            go_ret
            exact ⟨_, by first | rfl | (simp [errW_none, errW_some] <;> rfl) | (simp [*, errW_none, errW_some] <;> rfl), by first | exact Kd.R_nil _ _ _ _ _ | exact Kd.N_nil _ _ _ _ _ | exact Kd.V_nil _ _ _ _ _ | exact Kd.Q_nil _ _ _ _ _ | exact Kd.S_nil _ _ _ _ _, by repeat (first | (with_reducible first | exact HB.out | apply below_alloc | apply pw_below_drewN | apply below_drew1) | exact HB.out)⟩
          · rw [if_neg c10] at H
            have c10b0 : ((l0.length : Int) == 0) = false := beq_eq_false_iff_ne.mpr c10
            have c10b1 : ((l0.length : Int) != 0) = true := bne_iff_ne.mpr c10
            have c10b2 : ¬ (l0 = []) := fun h_ => c10 (by rw [h_]; rfl)
            have H' := Aside0.mk H
            clear H
            go_wp2
            go_loopg [5, 6] kj2 (fun kq v5 v6 w' => ∃ (x5_2 : Int) (x6_2 : Int), v5 = .int .i64 x5_2 ∧ v6 = .int .i64 x6_2 ∧ Aside0 (alidaderef02_Pow.l0 kq l0 a1 x5_2 x6_2 = some r) ∧ Aside0 (kq ≤ kj2) ∧ Aside0 (Kd.V (Kd.int .u32) 39 w' w.heap.size (fun k_ => (P0_ k_ ∨ w.heap.size ≤ k_)) (.slice A0 l0.length c0) l0) ∧ Aside0 (Below w.heap.size w w'))
            case atStart => exact ⟨(0), (a1), (by first | rfl | (simp; done) | (simp [*]; done)), (by first | rfl | (simp; done) | (simp [*]; done)), H', ⟨Nat.le_refl _⟩, ⟨by (with_reducible repeat (first | apply Kd.V_alloc | apply Kd.V_drewN | apply Kd.V_drew)); exact HO_0.out⟩, ⟨by repeat (first | (with_reducible first | exact HB.out | apply below_alloc | apply pw_below_drewN | apply below_drew1) | exact HB.out)⟩⟩
            case round =>
              clear H'
              try clear c1
              try clear p2
              try clear c3
              try clear c4
              try clear c5
              try clear c6
              try clear c7
              try clear c7b0
              try clear c7b1
              try clear c10
              try clear c10b0
              try clear c10b1
              try clear c10b2
              try clear p2
              obtain ⟨x5_2, x6_2, rfl, rfl, HA, HK2, HO_0, HB⟩ := hrel
              cases gk with
              | zero => exact absurd HA.out (by simp [alidaderef02_Pow.l0])
              | succ k2 =>
                have H := HA.out
                clear HA
                simp only [alidaderef02_Pow.l0] at H
                by_cases c11 : x6_2 > 1
                · rw [if_pos c11] at H
                  have c11b0 : decide (1 < x6_2) = true := decide_eq_true c11
                  clear c11
                  have H' := Aside0.mk H
                  clear H
                  go_wp2
                  go_roundg k2
                  case measure => have := HJ2.out; have := HK2.out; omega
                  case rel => exact ⟨(wrap64 (x5_2 + 1)), (wrap64 (Int.tdiv x6_2 2)), (by first | rfl | (simp; done) | (simp [*]; done)), (by first | rfl | (simp; done) | (simp [*]; done)), H', ⟨by have := HJ2.out; have := HK2.out; omega⟩, ⟨by (with_reducible repeat (first | apply Kd.V_alloc | apply Kd.V_drewN | apply Kd.V_drew)); exact HO_0.out⟩, ⟨by repeat (first | (with_reducible first | exact HB.out | apply below_alloc | apply pw_below_drewN | apply below_drew1) | exact HB.out)⟩⟩
                · rw [if_neg c11] at H
                  have c11b0 : decide (1 < x6_2) = false := decide_eq_false c11
                  clear c11
                  have H' := Aside0.mk H
                  clear H
                  go_wp2
                  go_loopg [7, 8] k2 (fun kq v7 v8 w' => ∃ (x7_3 : List Int) (x8_3 : Int), v8 = .int .i64 x8_3 ∧ Aside0 (alidaderef02_Pow.l1 kq l0 a1 x7_3 x8_3 = some r) ∧ Aside0 (kq ≤ k2) ∧ Aside0 (Kd.V (Kd.int .u32) 39 w' w.heap.size (fun k_ => (P0_ k_ ∨ w.heap.size ≤ k_)) (.slice A0 l0.length c0) l0) ∧ Aside0 (Kd.V (Kd.int .u32) 39 w' w.heap.size (fun k_ => (P0_ k_ ∨ w.heap.size ≤ k_)) v7 x7_3) ∧ Aside0 (Below w.heap.size w w'))
                  case atStart => exact ⟨(l0), (wrap64 (x5_2 - 1)), (by first | rfl | (simp; done) | (simp [*]; done)), H', ⟨Nat.le_refl _⟩, ⟨by (with_reducible repeat (first | apply Kd.V_alloc | apply Kd.V_drewN | apply Kd.V_drew)); exact HO_0.out⟩, ⟨by (with_reducible repeat (first | apply Kd.V_alloc | apply Kd.V_drewN | apply Kd.V_drew)); exact HO_0.out⟩, ⟨by repeat (first | (with_reducible first | exact HB.out | apply below_alloc | apply pw_below_drewN | apply below_drew1) | exact HB.out)⟩⟩
                  case round =>
                    clear H'
                    try clear c1
                    try clear p2
                    try clear c3
                    try clear c4
                    try clear c5
                    try clear c6
                    try clear p6
                    try clear c7
                    try clear c7b0
                    try clear c7b1
                    try clear c10
                    try clear c10b0
                    try clear c10b1
                    try clear c10b2
                    try clear c11
                    try clear c11b0
                    try clear p2
                    obtain ⟨x7_3, x8_3, rfl, HA, HK3, HO_0, HO_7, HB⟩ := hrel
                    cases gk with
                    | zero => exact absurd HA.out (by simp [alidaderef02_Pow.l1])
                    | succ k3 =>
                      have H := HA.out
                      clear HA
                      simp only [alidaderef02_Pow.l1] at H
                      have HC12 := Aside0.mk H
                      clear H
                      go_upto_region 14 with (fail)
                      go_cut [40] (fun v40 wc => ∃ (kq : Nat) (x40_11 : Bool), v40 = .bool x40_11 ∧ Aside0 (alidaderef02_Pow.j3 kq l0 a1 x7_3 x8_3 x40_11 = some r) ∧ Aside0 (kq ≤ k3) ∧ Aside0 (Kd.V (Kd.int .u32) 39 wc w.heap.size (fun k_ => (P0_ k_ ∨ w.heap.size ≤ k_)) (.slice A0 l0.length c0) l0) ∧ Aside0 (Kd.V (Kd.int .u32) 39 wc w.heap.size (fun k_ => (P0_ k_ ∨ w.heap.size ≤ k_)) u7 x7_3) ∧ Aside0 (Below w.heap.size w wc))
                      case first =>
                        have H := HC12.out
                        clear HC12
                        by_cases c13 : x8_3 ≥ 0
                        · rw [if_pos c13] at H
                          have c13b0 : decide (0 ≤ x8_3) = true := decide_eq_true c13
                          clear c13
                          (first | rw [c13b0] | (simp only [i64_w, i32_w]; rw [c13b0]) | skip)
                          have H' := Aside0.mk H
                          clear H
                          obtain ⟨Ao14, co14, eo14⟩ := Kd.V_slice HO_7.out
                          subst eo14
                          go_wp2
                          go_meet
                          case rel => exact ⟨_, (decide ((x7_3.length : Int) > 0)), (by first | rfl | (simp; done) | (simp [*]; done)), H', ⟨by have := HJ2.out; have := HK2.out; have := HK3.out; first | omega | exact Nat.le_refl _⟩, ⟨by (with_reducible repeat (first | apply Kd.V_alloc | apply Kd.V_drewN | apply Kd.V_drew)); exact HO_0.out⟩, ⟨by (with_reducible repeat (first | apply Kd.V_alloc | apply Kd.V_drewN | apply Kd.V_drew)); exact HO_7.out⟩, ⟨by repeat (first | (with_reducible first | exact HB.out | apply below_alloc | apply pw_below_drewN | apply below_drew1) | exact HB.out)⟩⟩
                        · rw [if_neg c13] at H
                          have c13b0 : decide (0 ≤ x8_3) = false := decide_eq_false c13
                          clear c13
                          (first | rw [c13b0] | (simp only [i64_w, i32_w]; rw [c13b0]) | skip)
                          have H' := Aside0.mk H
                          clear H
                          go_wp2
                          go_meet
                          case rel => exact ⟨_, (false), (by first | rfl | (simp; done) | (simp [*]; done)), H', ⟨by have := HJ2.out; have := HK2.out; have := HK3.out; first | omega | exact Nat.le_refl _⟩, ⟨by (with_reducible repeat (first | apply Kd.V_alloc | apply Kd.V_drewN | apply Kd.V_drew)); exact HO_0.out⟩, ⟨by (with_reducible repeat (first | apply Kd.V_alloc | apply Kd.V_drewN | apply Kd.V_drew)); exact HO_7.out⟩, ⟨by repeat (first | (with_reducible first | exact HB.out | apply below_alloc | apply pw_below_drewN | apply below_drew1) | exact HB.out)⟩⟩
                      case rest =>
                        clear HC12
                        try clear c1
                        try clear p2
                        try clear c3
                        try clear c4
                        try clear c5
                        try clear c6
                        try clear p6
                        try clear c7
                        try clear c7b0
                        try clear c7b1
                        try clear c10
                        try clear c10b0
                        try clear c10b1
                        try clear c10b2
                        try clear c11
                        try clear c11b0
                        try clear c13
                        try clear c13b0
                        try clear p2
                        try clear p6
                        obtain ⟨kq, x40_11, rfl, HA, HJ11, HO_0, HO_7, HB⟩ := hcut
                        cases kq with
                        | zero => exact absurd HA.out (by simp [alidaderef02_Pow.j3])
                        | succ kj11 =>
                          have H := HA.out
                          clear HA
                          simp only [alidaderef02_Pow.j3] at H
                          by_cases c15 : x40_11 = true
                          · subst c15
                            have H1 : ((alidaderef02_Mul.f kj11 x7_3 x7_3).bind fun t360 => (alidaderef02_Pow.l2 kj11 l0 a1 t360 x8_3 a1 0)) = some r := by rw [if_pos rfl] at H; exact H
                            clear H
                            have H := H1
                            clear H1
                            replace H := Option.bind_eq_some_iff.mp H
                            obtain ⟨t360, A160, H⟩ := H
                            replace H : (alidaderef02_Pow.l2 kj11 l0 a1 t360 x8_3 a1 0) = some r := H
                            have A16 := Aside0.mk A160
                            clear A160
                            have H' := Aside0.mk H
                            clear H
                            obtain ⟨Ao17, co17, eo17⟩ := Kd.V_slice HO_7.out
                            subst eo17
                            go_wp2_with (first | ((with_reducible refine gate_callee (f := 66) rfl ?_); refine goesL_ (some 45) rfl rfl Tryd.func66 (by kernel_rfl) rfl #[.slice Ao17 x7_3.length co17, .slice Ao17 x7_3.length co17] rfl (by (try simp only [List.map_toArray, List.map_cons, List.map_nil]); first | done | rfl | (simp only [List.length_drop, List.length_take]; rfl)) ?_; (with_reducible refine (alidaderef02_Mul.calls kj11 _ _ x7_3 _ _ x7_3 t360 _ ?side1 ?side2 ?side3 ?side4 A16.out).mono ?_); (case side1 => repeat (first | exact (Kd.V_reads' HO_7.out).2.2 | (with_reducible refine Kd.C_alloc ?_ _) | (with_reducible refine Kd.C_drewN ?_ _) | (with_reducible refine Kd.C_drew ?_))); (case side2 => exact (Kd.V_reads' HO_7.out).2.1); (case side3 => repeat (first | exact (Kd.V_reads' HO_7.out).2.2 | (with_reducible refine Kd.C_alloc ?_ _) | (with_reducible refine Kd.C_drewN ?_ _) | (with_reducible refine Kd.C_drew ?_))); (case side4 => exact (Kd.V_reads' HO_7.out).2.1); rintro e w18 ⟨v361, rfl, ho0, hb⟩; refine ⟨_, rfl, ?_⟩; have n0_ := Aside0.mk (Kd.V_below (by (with_reducible repeat (first | apply Kd.V_alloc | apply Kd.V_drewN | apply Kd.V_drew)); exact HO_0.out) hb); have n1_ := Aside0.mk (Kd.V_below (by (with_reducible repeat (first | apply Kd.V_alloc | apply Kd.V_drewN | apply Kd.V_drew)); exact HO_7.out) hb); have n2_ := Aside0.mk (Kd.V_lower (Kd.V_mono (ok' := fun k_ => (P0_ k_ ∨ w.heap.size ≤ k_)) ho0 (fun k_ hk_ => (.inr (Nat.le_trans (below_size (by repeat (first | (with_reducible first | exact HB.out | apply below_alloc | apply pw_below_drewN | apply below_drew1) | exact HB.out))) hk_)))) (below_size (by repeat (first | (with_reducible first | exact HB.out | apply below_alloc | apply pw_below_drewN | apply below_drew1) | exact HB.out)))); have n3_ := Aside0.mk (below_step (by repeat (first | (with_reducible first | exact HB.out | apply below_alloc | apply pw_below_drewN | apply below_drew1) | exact HB.out)) hb); clear HO_0; clear HO_7; clear HB; have HO_0 := n0_; have HO_7 := n1_; have HO362 := n2_; have HB := n3_; clear n0_ n1_ n2_ n3_; (try clear hb); (try clear hb2); (try clear hk); (try clear hi); (try clear ho0)))
                            go_loopg [9, 10] kj11 (fun kq v9 v10 w' => ∃ (x9_5 : Int) (x10_5 : Int), v9 = .int .i64 x9_5 ∧ v10 = .int .i64 x10_5 ∧ Aside0 (alidaderef02_Pow.l2 kq l0 a1 t360 x8_3 x9_5 x10_5 = some r) ∧ Aside0 (kq ≤ kj11) ∧ Aside0 (Kd.V (Kd.int .u32) 39 w' w.heap.size (fun k_ => (P0_ k_ ∨ w.heap.size ≤ k_)) (.slice A0 l0.length c0) l0) ∧ Aside0 (Kd.V (Kd.int .u32) 39 w' w.heap.size (fun k_ => (P0_ k_ ∨ w.heap.size ≤ k_)) v361 t360) ∧ Aside0 (Below w.heap.size w w'))
                            case atStart => exact ⟨(a1), (0), (by first | rfl | (simp; done) | (simp [*]; done)), (by first | rfl | (simp; done) | (simp [*]; done)), H', ⟨Nat.le_refl _⟩, ⟨by (with_reducible repeat (first | apply Kd.V_alloc | apply Kd.V_drewN | apply Kd.V_drew)); exact HO_0.out⟩, ⟨by (with_reducible repeat (first | apply Kd.V_alloc | apply Kd.V_drewN | apply Kd.V_drew)); exact HO362.out⟩, ⟨by repeat (first | (with_reducible first | exact HB.out | apply below_alloc | apply pw_below_drewN | apply below_drew1) | exact HB.out)⟩⟩
                            case round =>
                              clear H'
                              try clear c1
                              try clear p2
                              try clear c3
                              try clear c4
                              try clear c5
                              try clear c6
                              try clear p6
                              try clear c7
                              try clear c7b0
                              try clear c7b1
                              try clear c10
                              try clear c10b0
                              try clear c10b1
                              try clear c10b2
                              try clear c11
                              try clear c11b0
                              try clear c13
                              try clear c13b0
                              try clear c15
                              try clear p2
                              try clear p6
                              obtain ⟨x9_5, x10_5, rfl, rfl, HA, HK5, HO_0, HO_7, HB⟩ := hrel
                              cases gk with
                              | zero => exact absurd HA.out (by simp [alidaderef02_Pow.l2])
                              | succ k5 =>
                                have H := HA.out
                                clear HA
                                simp only [alidaderef02_Pow.l2] at H
                                by_cases c19 : x10_5 < x8_3
                                · rw [if_pos c19] at H
                                  have c19b0 : decide (x10_5 < x8_3) = true := decide_eq_true c19
                                  clear c19
                                  have H' := Aside0.mk H
                                  clear H
                                  go_wp2
                                  go_roundg k5
                                  case measure => have := HJ2.out; have := HK2.out; have := HK3.out; have := HJ11.out; have := HK5.out; omega
                                  case rel => exact ⟨(wrap64 (Int.tdiv x9_5 2)), (wrap64 (x10_5 + 1)), (by first | rfl | (simp; done) | (simp [*]; done)), (by first | rfl | (simp; done) | (simp [*]; done)), H', ⟨by have := HJ2.out; have := HK2.out; have := HK3.out; have := HJ11.out; have := HK5.out; omega⟩, ⟨by (with_reducible repeat (first | apply Kd.V_alloc | apply Kd.V_drewN | apply Kd.V_drew)); exact HO_0.out⟩, ⟨by (with_reducible repeat (first | apply Kd.V_alloc | apply Kd.V_drewN | apply Kd.V_drew)); exact HO_7.out⟩, ⟨by repeat (first | (with_reducible first | exact HB.out | apply below_alloc | apply pw_below_drewN | apply below_drew1) | exact HB.out)⟩⟩
                                · rw [if_neg c19] at H
                                  have c19b0 : decide (x10_5 < x8_3) = false := decide_eq_false c19
                                  clear c19
                                  by_cases c20 : (Int.tmod x9_5 2) = 1
                                  · rw [if_pos c20] at H
                                    have c20b0 : ((Int.tmod x9_5 2) == 1) = true := beq_iff_eq.mpr c20
                                    have c20b1 : ((Int.tmod x9_5 2) != 1) = false := bne_eq_false_iff_eq.mpr c20
                                    clear c20
                                    replace H := Option.bind_eq_some_iff.mp H
                                    obtain ⟨t363, A210, H⟩ := H
                                    replace H : (alidaderef02_Pow.l1 k5 l0 a1 t363 (wrap64 (x8_3 - 1))) = some r := H
                                    have A21 := Aside0.mk A210
                                    clear A210
                                    have H' := Aside0.mk H
                                    clear H
                                    obtain ⟨Ao22, co22, eo22⟩ := Kd.V_slice HO_7.out
                                    subst eo22
                                    go_wp2_with (first | ((with_reducible refine gate_callee (f := 66) rfl ?_); refine goesL_ (some 59) rfl rfl Tryd.func66 (by kernel_rfl) rfl #[.slice Ao22 t360.length co22, .slice A0 l0.length c0] rfl (by (try simp only [List.map_toArray, List.map_cons, List.map_nil]); first | done | rfl | (simp only [List.length_drop, List.length_take]; rfl)) ?_; (with_reducible refine (alidaderef02_Mul.calls k5 _ _ t360 _ _ l0 t363 _ ?side1 ?side2 ?side3 ?side4 A21.out).mono ?_); (case side1 => repeat (first | exact (Kd.V_reads' HO_7.out).2.2 | (with_reducible refine Kd.C_alloc ?_ _) | (with_reducible refine Kd.C_drewN ?_ _) | (with_reducible refine Kd.C_drew ?_))); (case side2 => exact (Kd.V_reads' HO_7.out).2.1); (case side3 => repeat (first | exact (Kd.V_reads' HO_0.out).2.2 | (with_reducible refine Kd.C_alloc ?_ _) | (with_reducible refine Kd.C_drewN ?_ _) | (with_reducible refine Kd.C_drew ?_))); (case side4 => exact (Kd.V_reads' HO_0.out).2.1); rintro e w23 ⟨v364, rfl, ho0, hb⟩; refine ⟨_, rfl, ?_⟩; have n0_ := Aside0.mk (Kd.V_below (by (with_reducible repeat (first | apply Kd.V_alloc | apply Kd.V_drewN | apply Kd.V_drew)); exact HO_0.out) hb); have n1_ := Aside0.mk (Kd.V_below (by (with_reducible repeat (first | apply Kd.V_alloc | apply Kd.V_drewN | apply Kd.V_drew)); exact HO_7.out) hb); have n2_ := Aside0.mk (Kd.V_lower (Kd.V_mono (ok' := fun k_ => (P0_ k_ ∨ w.heap.size ≤ k_)) ho0 (fun k_ hk_ => (.inr (Nat.le_trans (below_size (by repeat (first | (with_reducible first | exact HB.out | apply below_alloc | apply pw_below_drewN | apply below_drew1) | exact HB.out))) hk_)))) (below_size (by repeat (first | (with_reducible first | exact HB.out | apply below_alloc | apply pw_below_drewN | apply below_drew1) | exact HB.out)))); have n3_ := Aside0.mk (below_step (by repeat (first | (with_reducible first | exact HB.out | apply below_alloc | apply pw_below_drewN | apply below_drew1) | exact HB.out)) hb); clear HO_0; clear HO_7; clear HB; have HO_0 := n0_; have HO_7 := n1_; have HO365 := n2_; have HB := n3_; clear n0_ n1_ n2_ n3_; (try clear hb); (try clear hb2); (try clear hk); (try clear hi); (try clear ho0)))
                                    go_roundg k5
                                    case measure => have := HJ2.out; have := HK2.out; have := HK3.out; have := HJ11.out; have := HK5.out; omega
                                    case rel => exact ⟨(t363), (wrap64 (x8_3 - 1)), (by first | rfl | (simp; done) | (simp [*]; done)), H', ⟨by have := HJ2.out; have := HK2.out; have := HK3.out; have := HJ11.out; have := HK5.out; omega⟩, ⟨by (with_reducible repeat (first | apply Kd.V_alloc | apply Kd.V_drewN | apply Kd.V_drew)); exact HO_0.out⟩, ⟨by (with_reducible repeat (first | apply Kd.V_alloc | apply Kd.V_drewN | apply Kd.V_drew)); exact HO365.out⟩, ⟨by repeat (first | (with_reducible first | exact HB.out | apply below_alloc | apply pw_below_drewN | apply below_drew1) | exact HB.out)⟩⟩
                                  · rw [if_neg c20] at H
                                    have c20b0 : ((Int.tmod x9_5 2) == 1) = false := beq_eq_false_iff_ne.mpr c20
                                    have c20b1 : ((Int.tmod x9_5 2) != 1) = true := bne_iff_ne.mpr c20
                                    have H' := Aside0.mk H
                                    clear H
                                    go_wp2
                                    go_roundg k5
                                    case measure => have := HJ2.out; have := HK2.out; have := HK3.out; have := HJ11.out; have := HK5.out; omega
                                    case rel => exact ⟨(t360), (wrap64 (x8_3 - 1)), (by first | rfl | (simp; done) | (simp [*]; done)), H', ⟨by have := HJ2.out; have := HK2.out; have := HK3.out; have := HJ11.out; have := HK5.out; omega⟩, ⟨by (with_reducible repeat (first | apply Kd.V_alloc | apply Kd.V_drewN | apply Kd.V_drew)); exact HO_0.out⟩, ⟨by (with_reducible repeat (first | apply Kd.V_alloc | apply Kd.V_drewN | apply Kd.V_drew)); exact HO_7.out⟩, ⟨by repeat (first | (with_reducible first | exact HB.out | apply below_alloc | apply pw_below_drewN | apply below_drew1) | exact HB.out)⟩⟩
                          · replace c15 := Bool.eq_false_iff.mpr c15
                            subst c15
                            have H1 : ((some (([] : List Int) : List Int)).bind fun y354 => (if y354.length + x7_3.length < 35184372088832 then (some (y354 ++ x7_3)) else (none))) = some r := by rw [if_neg (show ¬ (false = true) by decide)] at H; exact H
                            clear H
                            have H := H1
                            clear H1
                            obtain ⟨y354, hy354⟩ : ∃ y_ : List Int, y_ = (([] : List Int)) := ⟨_, rfl⟩
                            replace H : (if y354.length + x7_3.length < 35184372088832 then (some (y354 ++ x7_3)) else (none)) = some r := by first | (rw [hy354]; with_reducible exact H) | (have H2_ := (Option.bind_some _ _).symm.trans H; rw [hy354]; with_reducible exact H2_) | (have H2_ := (Option.bind_some _ _).symm.trans H; with_reducible exact H2_) | with_reducible exact H | (rw [hy354]; exact H) | exact H
                            have Ny354 := Aside0.mk hy354
                            clear hy354
                            by_cases c24 : y354.length + x7_3.length < 35184372088832
                            · rw [if_pos c24] at H
                              have LMc24 := Aside0.mk c24
                              clear c24
                              obtain ⟨y357, hy357⟩ : ∃ y_ : List Int, y_ = (y354 ++ x7_3) := ⟨_, rfl⟩
                              replace H : (some y357) = some r := by first | (rw [hy357]; with_reducible exact H) | (have H2_ := (Option.bind_some _ _).symm.trans H; rw [hy357]; with_reducible exact H2_) | (have H2_ := (Option.bind_some _ _).symm.trans H; with_reducible exact H2_) | with_reducible exact H | (rw [hy357]; exact H) | exact H
                              have Ny357 := Aside0.mk hy357
                              clear hy357
                              obtain rfl := Option.some.inj H
                              go_wp2_with (first | ((with_reducible refine gate_dst (N := 60) rfl ?_); (try (refine gate_guard (by rfl) ?_; dsimp only)); refine Kd.R_lit (Kd.int .u32) _ 39 ?hg (N := 60) ?hd (xs := ([] : List Int)) (inner := []) (ok := fun _ => True) (okp := fun _ => True) ?hr ?hp (fun _ hk => hk) trivial (Below.refl _ _) (Nat.le_refl _) (by simp) ?_; (case hd => rfl); (case hg => rfl); (case hr => first | (go_simp; done) | (go_simp; rfl)); (case hp => exact (Reps.none _ _)); intro v355 w25 ho26 hb hg_ hnew_; clear hg_ hnew_; (first | rw [← Ny354.out] at ho26 | (simp only [Int.reduceToNat] at ho26; rw [← Ny354.out] at ho26)); have n0_ := Aside0.mk (Kd.V_elder' (by (with_reducible repeat (first | apply Kd.V_alloc | apply Kd.V_drewN | apply Kd.V_drew)); exact HO_0.out) (Kd.R_base ho26) hb); have n1_ := Aside0.mk (Kd.V_elder' (by (with_reducible repeat (first | apply Kd.V_alloc | apply Kd.V_drewN | apply Kd.V_drew)); exact HO_7.out) (Kd.R_base ho26) hb); have n2_ := Aside0.mk (Kd.R_lower (Kd.R_newM (M := fun k_ => (w.heap.size ≤ k_)) ho26 (below_size (by repeat (first | (with_reducible first | exact HB.out | apply below_alloc | apply pw_below_drewN | apply below_drew1) | exact HB.out))) (fun k_ h_ => h_)) (below_size (by repeat (first | (with_reducible first | exact HB.out | apply below_alloc | apply pw_below_drewN | apply below_drew1) | exact HB.out)))); have n3_ := Aside0.mk (below_step (by repeat (first | (with_reducible first | exact HB.out | apply below_alloc | apply pw_below_drewN | apply below_drew1) | exact HB.out)) hb); clear HO_0; clear HO_7; clear HB; have HO_0 := n0_; have HO_7 := n1_; have HO356 := n2_; have HB := n3_; clear n0_ n1_ n2_ n3_; clear hb ho26; obtain ⟨Ao28, co28, eo28⟩ := Kd.V_slice HO_7.out; subst eo28) | ((with_reducible refine gate_builtin (b := .append) (xs := #[.tmp 60, .tmp 61]) rfl ?_); (try (refine gate_guard (by rfl) ?_; dsimp only)); at_builtin; refine Kd.R_append_rows (Kd.int .u32) (w0 := w) w.heap.size rfl (.tmp 60) (.tmp 61) 22 39 (.int .u32 0) 4 rfl Tryd.underlying22 info39 rfl (by decide) (by omega) v355 y354 x7_3 _ _ _ (fun k_ => (w.heap.size ≤ k_)) (fun _ => False) rfl rfl ?aO ?aR (fun _ _ h => h) (fun _ h => h.elim) ?aF ?aB ?aS ?aL ?_; (case aR => repeat (first | exact (Kd.V_reads' HO_7.out).2.2 | (with_reducible refine Kd.C_alloc ?_ _) | (with_reducible refine Kd.C_drewN ?_ _) | (with_reducible refine Kd.C_drew ?_))); (case aB => exact (by repeat (first | (with_reducible first | exact HB.out | apply below_alloc | apply pw_below_drewN | apply below_drew1) | exact HB.out))); (case aF => exact (fun k_ hk => (Nat.le_trans (below_size (by repeat (first | (with_reducible first | exact HB.out | apply below_alloc | apply pw_below_drewN | apply below_drew1) | exact HB.out))) hk))); (case aO => exact (by (with_reducible repeat (first | apply Kd.R_alloc | apply Kd.R_drewN | apply Kd.R_drew)); exact Kd.R_mono HO356.out (fun _ hk => hk.1))); (case aS => exact (below_size (by repeat (first | (with_reducible first | exact HB.out | apply below_alloc | apply pw_below_drewN | apply below_drew1) | exact HB.out)))); (case aL => have := LMc24.out; omega); intro v358 w27 ho hb hg hat; rw [← Ny357.out] at ho; have n0_ := Aside0.mk (Kd.V_afterv (ok := (fun k_ => (P0_ k_ ∨ w.heap.size ≤ k_))) (by (with_reducible repeat (first | apply Kd.V_alloc | apply Kd.V_drewN | apply Kd.V_drew)); exact HO_0.out) hg hat); have n1_ := Aside0.mk (Kd.V_afterv (ok := (fun k_ => (P0_ k_ ∨ w.heap.size ≤ k_))) (by (with_reducible repeat (first | apply Kd.V_alloc | apply Kd.V_drewN | apply Kd.V_drew)); exact HO_7.out) hg hat); have n2_ := Aside0.mk (hb); have n3_ := Aside0.mk (ho); clear HO_0; clear HO_7; clear HB; clear HO356; have HO_0 := n0_; have HO_7 := n1_; have HB := n2_; have HO359 := n3_; clear n0_ n1_ n2_ n3_; clear ho hb hg hat))
                              go_ret
                              exact ⟨_, by first | rfl | (simp [errW_none, errW_some] <;> rfl) | (simp [*, errW_none, errW_some] <;> rfl), by (with_reducible repeat (first | apply Kd.R_alloc | apply Kd.R_drewN | apply Kd.R_drew)); exact HO359.out, by repeat (first | (with_reducible first | exact HB.out | apply below_alloc | apply pw_below_drewN | apply below_drew1) | exact HB.out)⟩
                            · rw [if_neg c24] at H
                              exact absurd H (by simp)
theorem refpow_l2 (a out : List Int) (K m : Nat) (R : List Int) (hK : K < 9223372036854775808) (hm : m ≤ 62)
    (hnext : (K / 2 ^ m) % 2 = 1 → Nums.Ev (fun k => (alidaderef02_Mul.f k out a).bind fun t => alidaderef02_Pow.l1 k a (K : Int) t ((m : Int) - 1)) R)
    (hnext0 : (K / 2 ^ m) % 2 ≠ 1 → Nums.Ev (fun k => alidaderef02_Pow.l1 k a (K : Int) out ((m : Int) - 1)) R) :
    ∀ (d j : Nat), j + d = m → Nums.Ev (fun k => alidaderef02_Pow.l2 k a (K : Int) out (m : Int) ((K / 2 ^ j : Nat) : Int) (j : Int)) R := by
  intro d
  have hb : ∀ j, K / 2 ^ j < 9223372036854775808 := fun j => Nat.lt_of_le_of_lt (Nat.div_le_self _ _) hK
  induction d with
  | zero =>
    intro j hj
    obtain rfl : j = m := by omega
    have hbj := hb j
    have ew : wrap64 ((j : Int) - 1) = (j : Int) - 1 := by unfold wrap64; omega
    have et : Int.tmod ((K / 2 ^ j : Nat) : Int) 2 = ((K / 2 ^ j % 2 : Nat) : Int) := by rw [tm_pos (Int.natCast_nonneg _)]; omega
    by_cases h1 : (K / 2 ^ j) % 2 = 1
    · refine (hnext h1).succ fun k => ?_
      rw [alidaderef02_Pow.l2, if_neg (Int.lt_irrefl _), et, h1, if_pos (by rfl), ew]
    · refine (hnext0 h1).succ fun k => ?_
      rw [alidaderef02_Pow.l2, if_neg (Int.lt_irrefl _), et, if_neg (by omega), ew]
  | succ d ih =>
    intro j hj
    have hbj := hb (j + 1)
    have ed : wrap64 (Int.tdiv ((K / 2 ^ j : Nat) : Int) 2) = ((K / 2 ^ (j + 1) : Nat) : Int) := by
      have e : K / 2 ^ (j + 1) = K / 2 ^ j / 2 := by rw [Nat.pow_succ, Nat.div_div_eq_div_mul]
      rw [e] at hbj ⊢
      have hb0 := hb j
      obtain ⟨q, hq⟩ : ∃ q, K / 2 ^ j = q := ⟨_, rfl⟩
      rw [hq] at hbj hb0 ⊢
      rw [td_pos (Int.natCast_nonneg _)]
      unfold wrap64
      omega
    have hjm : (j : Int) < (m : Int) := by omega
    refine (ih (j + 1) (by omega)).succ fun k => ?_
    rw [alidaderef02_Pow.l2, if_pos hjm, ed, w64_succ (by omega)]
theorem refpow_l1 (a : List Int) (A K : Nat) (ha : Nums.lim A = a) (hA : 0 < A) (hAM : A < 4294967296 ^ 65536) (hK : K < 9223372036854775808) (hK0 : 0 < K) :
    ∀ m : Nat, m ≤ 62 → 0 < K / 2 ^ m → Nums.Ev (fun k => alidaderef02_Pow.l1 k a (K : Int) (Nums.lim (A ^ (K / 2 ^ m))) ((m : Int) - 1)) (Nums.lim (A ^ K)) := by
  have hva : Nums.val a = A := by rw [← ha, Nums.lim_eq hAM, Nums.val_toL]
  have hmul := ref_Mul_nat
  have hlim := fun n => @Nums.lim_eq n
  have hbig := fun n => @Nums.lim_big n
  have hmay := fun n => (Nums.may_iff.1 (Nums.may_lim n)).1
  obtain ⟨M, hMM⟩ : ∃ M, 4294967296 ^ 65536 = M := ⟨_, rfl⟩
  rw [hMM] at hlim hbig hAM
  clear hMM
  intro m
  have hlen : ∀ n, ([] : List Int).length + (Nums.lim n).length < 35184372088832 := fun n => by have := hmay n; simp; omega
  induction m with
  | zero =>
    intro _ _
    rw [Nat.pow_zero, Nat.div_one]
    refine Nums.Ev.succ (g := fun k => alidaderef02_Pow.j3 k a (K : Int) (Nums.lim (A ^ K)) (((0 : Nat) : Int) - 1) false) (Nums.Ev.now fun k => ?_) fun k => ?_
    · rw [alidaderef02_Pow.j3, if_neg (by decide), Option.bind_some, if_pos (hlen _)]
      rfl
    · rw [alidaderef02_Pow.l1, if_neg (by decide)]
  | succ m ih =>
    intro hm hpos
    have e1 : (((m + 1 : Nat) : Int) - 1) = (m : Int) := by omega
    have hq : K / 2 ^ (m + 1) = K / 2 ^ m / 2 := by rw [Nat.pow_succ, Nat.div_div_eq_div_mul]
    have hqq : K / 2 ^ m = 2 * (K / 2 ^ (m + 1)) + K / 2 ^ m % 2 := by rw [hq]; omega
    obtain ⟨q, hqe⟩ : ∃ q, K / 2 ^ (m + 1) = q := ⟨_, rfl⟩
    rw [hqe] at hpos hqq ⊢
    have hqK : q ≤ K := by rw [← hqe]; exact Nat.div_le_self _ _
    rw [e1]
    by_cases hV : A ^ q < M
    · have hVp : 0 < A ^ q := Nat.pow_pos hA
      have hne : ((Nums.toL (A ^ q)).length : Int) > 0 := by have := toL_ne hVp; omega
      rw [hlim _ hV]
      have hv : Nums.val (Nums.lim (A ^ q)) = A ^ q := by rw [hlim _ hV, Nums.val_toL]
      have hm1 := hmul (A ^ q) (A ^ q)
      rw [hv, ← Nat.pow_add, hlim _ hV] at hm1
      have hd := ih (by omega) (by omega)
      have hl2 := refpow_l2 a (Nums.lim (A ^ (q + q))) K m (Nums.lim (A ^ K)) hK (by omega) (fun hodd => by
        have hm2 := hmul (A ^ (q + q)) A
        rw [ha, hva] at hm2
        refine Nums.Ev.bind (f := fun k => alidaderef02_Mul.f k (Nums.lim (A ^ (q + q))) a) hm2 ?_
        have e3 : Nums.lim (Nums.val (Nums.lim (A ^ (q + q))) * A) = Nums.lim (A ^ (K / 2 ^ m)) := by
          rw [show K / 2 ^ m = q + q + 1 by omega, Nat.pow_succ]
          by_cases h4 : A ^ (q + q) < M
          · rw [hlim _ h4, Nums.val_toL]
          · have h5 : A ^ (q + q) ≤ A ^ (q + q) * A := Nat.le_mul_of_pos_right _ hA
            rw [hbig _ h4, hbig (A ^ (q + q) * A) (by omega), show Nums.val [] = 0 from rfl, Nat.zero_mul, hlim 0 (by omega), Nums.toL_zero]
        rw [e3]
        exact hd) (fun heven => by
        rw [show q + q = K / 2 ^ m by omega]
        exact hd) m 0 (by omega)
      rw [Nat.pow_zero, Nat.div_one] at hl2
      refine Nums.Ev.succ (g := fun k => alidaderef02_Pow.j3 k a (K : Int) (Nums.toL (A ^ q)) (m : Int) true) (Nums.Ev.succ (g := fun k => (alidaderef02_Mul.f k (Nums.toL (A ^ q)) (Nums.toL (A ^ q))).bind fun t => alidaderef02_Pow.l2 k a (K : Int) t (m : Int) (K : Int) 0) (Nums.Ev.bind (f := fun k => alidaderef02_Mul.f k (Nums.toL (A ^ q)) (Nums.toL (A ^ q))) hm1 hl2) fun k => ?_) fun k => ?_
      · rw [alidaderef02_Pow.j3, if_pos rfl]
      · rw [alidaderef02_Pow.l1, if_pos (Int.natCast_nonneg _), decide_eq_true hne]
    · have h5 : A ^ q ≤ A ^ K := Nat.pow_le_pow_right hA hqK
      rw [hbig _ hV, hbig _ (show ¬ A ^ K < M by omega)]
      refine Nums.Ev.succ (g := fun k => alidaderef02_Pow.j3 k a (K : Int) [] (m : Int) false) (Nums.Ev.now fun k => ?_) fun k => ?_
      · rw [alidaderef02_Pow.j3, if_neg (by decide)]
        rfl
      · rw [alidaderef02_Pow.l1, if_pos (Int.natCast_nonneg _)]
        rfl
theorem refpow_l0 (a : List Int) (K : Nat) (R : List Int) (hK : K < 9223372036854775808)
    (hnext : ∀ t : Nat, t ≤ 62 → K / 2 ^ t = 1 → Nums.Ev (fun k => alidaderef02_Pow.l1 k a (K : Int) a ((t : Int) - 1)) R) :
    ∀ (n t : Nat), K / 2 ^ t = n → 0 < n → Nums.Ev (fun k => alidaderef02_Pow.l0 k a (K : Int) (t : Int) (n : Int)) R := by
  intro n
  induction n using Nat.strongRecOn with
  | _ n ih =>
    intro t ht hn
    have ht62 : t ≤ 62 := by
      apply Nat.le_of_not_lt
      intro h
      have h1 : 2 ^ 63 ≤ 2 ^ t := Nat.pow_le_pow_right (by decide) (by omega)
      have h2 : K / 2 ^ t = 0 := Nat.div_eq_of_lt (by omega)
      omega
    have hnK : n ≤ K := by rw [← ht]; exact Nat.div_le_self _ _
    by_cases h1 : n = 1
    · subst h1
      have ew : wrap64 ((t : Int) - 1) = (t : Int) - 1 := by unfold wrap64; omega
      refine (hnext t ht62 ht).succ fun k => ?_
      rw [alidaderef02_Pow.l0, if_neg (by decide), ew]
    · have ed : wrap64 (Int.tdiv (n : Int) 2) = ((n / 2 : Nat) : Int) := by
        rw [td_pos (Int.natCast_nonneg _)]
        unfold wrap64
        omega
      have hn1 : (n : Int) > 1 := by omega
      refine (ih (n / 2) (by omega) (t + 1) (by rw [Nat.pow_succ, ← Nat.div_div_eq_div_mul, ht]) (by omega)).succ fun k => ?_
      rw [alidaderef02_Pow.l0, if_pos hn1, ed, w64_succ (by omega)]
theorem ref_Pow_ev (A K : Nat) (hA : 0 < A) (hAM : A < 4294967296 ^ 65536) (hK : K < 9223372036854775808) : Nums.Ev (fun k => alidaderef02_Pow.f k (Nums.toL A) (K : Int)) (Nums.lim (A ^ K)) := by
  have hf : ∀ k, alidaderef02_Pow.f k (Nums.toL A) (K : Int) = alidaderef02_Pow.j0 k (Nums.toL A) (K : Int) false := by
    intro k
    unfold alidaderef02_Pow.f
    rw [ref_May_eq _ (Nums.rng_toL A), Nums.may_toL hAM, Option.bind_some, if_pos rfl, decide_eq_false (by omega)]
  by_cases h0 : K = 0
  · subst h0
    rw [Nat.pow_zero, Nums.lim_eq (Nat.lt_of_le_of_lt hA hAM)]
    refine Nums.Ev.now fun k => ?_
    rw [hf, alidaderef02_Pow.j0, if_neg (by decide), if_pos (by rfl), Nums.toL_pos (by decide), show 1 / 4294967296 = 0 from rfl, Nums.toL_zero]
    rfl
  · have hl1 := fun (t : Nat) (h1 : t ≤ 62) (h2 : K / 2 ^ t = 1) => refpow_l1 (Nums.toL A) A K (Nums.lim_eq hAM) hA hAM hK (by omega) t h1 (by omega)
    have h := refpow_l0 (Nums.toL A) K (Nums.lim (A ^ K)) hK (fun t h1 h2 => by
      have := hl1 t h1 h2
      rw [h2, Nat.pow_one, Nums.lim_eq hAM] at this
      exact this) K 0 (by rw [Nat.pow_zero, Nat.div_one]) (by omega)
    refine h.succ fun k => ?_
    rw [hf, alidaderef02_Pow.j0, if_neg (by decide), if_neg (by omega), if_neg (toL_len_ne hA)]
    rfl

/-! ### alidaderef04_Ten: function 18 -/
def alidaderef04_Ten.f (k : Nat) (a0 : Int) : Option (List Int) := (alidaderef02_Pow.f k (([10] : List Int)) a0).bind fun t369 => (some t369)
theorem alidaderef04_Ten.mono : ∀ a0 k, LeO (alidaderef04_Ten.f k a0) (alidaderef04_Ten.f (k + 1) a0) := by
  intro a0 k
  unfold alidaderef04_Ten.f
  repeat' first
      | (with_reducible exact alidaderef02_Pow.mono _ _ _)
      | (with_reducible exact LeO.refl _)
      | (with_reducible exact LeO.none _)
      | (with_reducible refine LeO.ite ?_ ?_)
      | (with_reducible refine LeO.bind ?_ (fun _ => ?_))
      | exact alidaderef02_Pow.mono _ _ _
      | exact LeO.none _
      | refine LeO.ite ?_ ?_
      | refine LeO.bind ?_ (fun _ => ?_)
set_option maxHeartbeats 8000000 in
set_option maxRecDepth 100000 in
theorem alidaderef04_Ten.calls (k : Nat) (a0 : Int) (r : List Int) (w : World) (h : alidaderef04_Ten.f k a0 = some r) :
    Calls Tryd.prog 18 #[.int .i64 a0] w fun e w' => ∃ v0_ : Value, e = .returned (v0_) ∧ Kd.R (Kd.int .u32) 39 w' w.heap.size (fun _ => True) v0_ r ∧ Below w.heap.size w w' := by
  have HB := Aside0.mk (Below.refl w.heap.size w)
  have H : ((alidaderef02_Pow.f k (([10] : List Int)) a0).bind fun t369 => (some t369)) = some r := h
  clear h
  obtain ⟨y366, hy366⟩ : ∃ y_ : List Int, y_ = (([10] : List Int)) := ⟨_, rfl⟩
  replace H : ((alidaderef02_Pow.f k y366 a0).bind fun t369 => (some t369)) = some r := by first | (rw [hy366]; with_reducible exact H) | (have H2_ := (Option.bind_some _ _).symm.trans H; rw [hy366]; with_reducible exact H2_) | (have H2_ := (Option.bind_some _ _).symm.trans H; with_reducible exact H2_) | with_reducible exact H | (rw [hy366]; exact H) | exact H
  have Ny366 := Aside0.mk hy366
  clear hy366
  replace H := Option.bind_eq_some_iff.mp H
  obtain ⟨t369, A20, H⟩ := H
  replace H : (some t369) = some r := H
  have A2 := Aside0.mk A20
  clear A20
  obtain rfl := Option.some.inj H
  go_enter Tryd.func18, Tryd.ntmps18
  go_wp2_with (first | ((with_reducible refine gate_dst (N := 3) rfl ?_); refine Kd.R_lit (Kd.int .u32) _ 39 ?hg (N := 3) ?hd (xs := ([10] : List Int)) (inner := [.int .u32 10]) (ok := fun _ => True) (okp := fun _ => True) ?hr ?hp (fun _ hk => hk) trivial (Below.refl _ _) (Nat.le_refl _) (by simp) ?_; (case hd => rfl); (case hg => rfl); (case hr => first | (go_simp; done) | (go_simp; rfl)); (case hp => exact (Reps.one (show Kd.M (Kd.int .u32) _ _ _ 10 [.int .u32 10] from rfl) (Reps.none _ _))); intro v367 w3 ho4 hb hg_ hnew_; clear hg_ hnew_; (first | rw [← Ny366.out] at ho4 | (simp only [Int.reduceToNat] at ho4; rw [← Ny366.out] at ho4)); have n0_ := Aside0.mk (Kd.R_lower ho4 (below_size (by repeat (first | (with_reducible first | exact HB.out | apply below_alloc | apply pw_below_drewN | apply below_drew1) | exact HB.out)))); have n1_ := Aside0.mk (below_step (by repeat (first | (with_reducible first | exact HB.out | apply below_alloc | apply pw_below_drewN | apply below_drew1) | exact HB.out)) hb); clear HB; have HO368 := n0_; have HB := n1_; clear n0_ n1_; clear hb ho4; obtain ⟨Ao5, co5, eo5⟩ := Kd.R_slice HO368.out; subst eo5) | ((with_reducible refine gate_callee (f := 43) rfl ?_); refine goesL_ (some 5) rfl rfl Tryd.func43 (by kernel_rfl) rfl #[.slice Ao5 y366.length co5, .int .i64 a0] rfl (by (try simp only [List.map_toArray, List.map_cons, List.map_nil]); first | done | rfl | (simp only [List.length_drop, List.length_take]; rfl)) ?_; (with_reducible refine (alidaderef02_Pow.calls k (fun k_ => some k_ = (.slice Ao5 y366.length co5 : Value).ownBlock) _ _ y366 a0 t369 _ ?side1 A2.out).mono ?_); (case side1 => exact Kd.R_V (Kd.R_tight rfl (HO368.out))); rintro e w6 ⟨v370, rfl, ho0, hb⟩; refine ⟨_, rfl, ?_⟩; have n0_ := Aside0.mk (Kd.R_elder' (by (with_reducible repeat (first | apply Kd.R_alloc | apply Kd.R_drewN | apply Kd.R_drew)); exact HO368.out) (Kd.R_base ho0) hb); have n1_ := Aside0.mk (Kd.R_lower (Kd.R_new' (Kd.R_mono (ok' := fun k_ => True) ho0 (fun _ hk_ => trivial)) (Kd.R_lt (by (with_reducible repeat (first | apply Kd.R_alloc | apply Kd.R_drewN | apply Kd.R_drew)); exact HO368.out))) (below_size (by repeat (first | (with_reducible first | exact HB.out | apply below_alloc | apply pw_below_drewN | apply below_drew1) | exact HB.out)))); have n2_ := Aside0.mk (below_step (by repeat (first | (with_reducible first | exact HB.out | apply below_alloc | apply pw_below_drewN | apply below_drew1) | exact HB.out)) hb); clear HO368; clear HB; have HO368 := n0_; have HO371 := n1_; have HB := n2_; clear n0_ n1_ n2_; (try clear hb); (try clear hb2); (try clear hk); (try clear hi); (try clear ho0)))
  go_ret
  exact ⟨_, by first | rfl | (simp [errW_none, errW_some] <;> rfl) | (simp [*, errW_none, errW_some] <;> rfl), by (with_reducible repeat (first | apply Kd.R_alloc | apply Kd.R_drewN | apply Kd.R_drew)); exact Kd.R_mono HO371.out (fun _ hk => trivial), by repeat (first | (with_reducible first | exact HB.out | apply below_alloc | apply pw_below_drewN | apply below_drew1) | exact HB.out)⟩
theorem ref_Ten_ev (n : Nat) (hn : n < 9223372036854775808) : Nums.Ev (fun k => alidaderef04_Ten.f k (n : Int)) (Nums.lim (10 ^ n)) := by
  have h := ref_Pow_ev 10 n (by decide) (Nat.lt_of_lt_of_le (show 10 < 4294967296 ^ 1 by decide) (Nums.pow_le_gen 4294967296 1 65536 (by decide) (by decide))) hn
  have e : Nums.toL 10 = [10] := by
    rw [Nums.toL_pos (by decide), show 10 / 4294967296 = 0 from rfl, Nums.toL_zero]
    rfl
  rw [e] at h
  exact Nums.Ev.bind (f := fun k => alidaderef02_Pow.f k [10] (n : Int)) h (Nums.Ev.some _)

end Go.Proofs.YtjgloepeogelnaaDoor.Pr

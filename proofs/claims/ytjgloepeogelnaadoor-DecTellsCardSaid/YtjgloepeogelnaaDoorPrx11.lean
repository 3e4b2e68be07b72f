/- Functions with the same answers as the Go functions of the program, with the proofs that the program comes to just these answers; no condition but those that each theorem names. (Laid by this work's own program mk.py out of the translation.) -/
import Derived.Test.YtjgloepeogelnaaDoorPrx0
import Derived.Test.YtjgloepeogelnaaDoorPrx1
import Derived.Test.YtjgloepeogelnaaDoorPrx3
import Derived.Test.YtjgloepeogelnaaDoorPrx10
namespace Go.Proofs.YtjgloepeogelnaaDoor.Pr
open Go.RowKit Go.Proofs.YtjgloepeogelnaaDoorW.PrintWords Go.Proofs.YtjgloepeogelnaaDoorW.PrintLast Go.Proofs.YtjgloepeogelnaaDoorW.PrintMore
attribute [local go_sem] max2_int min2_int max_two min_two max_three min_three max_four min_four   -- for this text's walks alone
set_option linter.unusedVariables false
set_option linter.unusedSimpArgs false

/-! ### div_cut: function 50 -/
def div_cut.l0 : Nat → List Int → Option (List Int)
  | 0, _ => none
  | k + 1, x0 => if (x0.length : Int) > 0 then (if 0 ≤ (wrap64 ((x0.length : Int) - 1)) then (if (wrap64 ((x0.length : Int) - 1)) < (x0.length : Int) then (if (rd x0 (wrap64 ((x0.length : Int) - 1))) = 0 then (if (wrap64 ((x0.length : Int) - 1)) ≤ (x0.length : Int) then (div_cut.l0 k (x0.take ((wrap64 ((x0.length : Int) - 1)) : Int).toNat)) else (none)) else (some x0)) else (none)) else (none)) else (some x0)
def div_cut.f (k : Nat) (l0 : List Int) : Option (List Int) := div_cut.l0 k l0
theorem div_cut.mono_l : ∀ k, (∀ y0, LeO (div_cut.l0 k y0) (div_cut.l0 (k + 1) y0))
  | 0 => fun _ r h => by simp [div_cut.l0] at h
  | k + 1 => by
    have ih0 := div_cut.mono_l k
    · intro y0
      unfold div_cut.l0
      repeat' first
      | (with_reducible exact ih0 _)
      | (with_reducible exact LeO.refl _)
      | (with_reducible exact LeO.none _)
      | (with_reducible refine LeO.ite ?_ ?_)
      | (with_reducible refine LeO.bind ?_ (fun _ => ?_))
      | exact ih0 _
      | exact LeO.none _
      | refine LeO.ite ?_ ?_
      | refine LeO.bind ?_ (fun _ => ?_)
theorem div_cut.mono : ∀ a0 k, LeO (div_cut.f k a0) (div_cut.f (k + 1) a0) := by
  intro a0 k
  have ih0 := div_cut.mono_l k
  unfold div_cut.f
  repeat' first
      | (with_reducible exact ih0 _)
      | (with_reducible exact LeO.refl _)
      | (with_reducible exact LeO.none _)
      | (with_reducible refine LeO.ite ?_ ?_)
      | (with_reducible refine LeO.bind ?_ (fun _ => ?_))
      | exact ih0 _
      | exact LeO.none _
      | refine LeO.ite ?_ ?_
      | refine LeO.bind ?_ (fun _ => ?_)
set_option maxHeartbeats 8000000 in
set_option maxRecDepth 100000 in
theorem div_cut.calls (k : Nat) (P0_ : Nat → Prop) (u9000_ : Value) (l0 : List Int) (r : List Int) (w0 w : World) (hB : Below w0.heap.size w0 w) (ho0 : Kd.R (Kd.int .u32) 39 w w0.heap.size P0_ u9000_ l0) (h : div_cut.f k l0 = some r) :
    Calls Tryd.prog 50 #[u9000_] w fun e w' => ∃ v0_ : Value, e = .returned (v0_) ∧ Kd.R (Kd.int .u32) 39 w' w0.heap.size (fun k_ => (P0_ k_ ∨ w.heap.size ≤ k_)) v0_ r ∧ Below w0.heap.size w0 w' ∧ Kept w w' (fun k_ => P0_ k_) := by
  have HO0 := Aside0.mk (show Kd.R (Kd.int .u32) 39 w w0.heap.size (fun k_ => (P0_ k_ ∨ w.heap.size ≤ k_)) u9000_ l0 from Kd.R_mono ho0 (fun k_ hk => (.inl hk)))
  have HK := Aside0.mk (Kept.refl w (fun k_ => P0_ k_))
  have HW0 := Aside0.mk hB.size
  have HB := Aside0.mk hB
  clear hB
  have H : (div_cut.l0 k l0) = some r := h
  clear h
  have H' := Aside0.mk H
  clear H
  go_enter Tryd.func50, Tryd.ntmps50
  go_wp2
  go_loopg [0] k (fun kq v0 w' => ∃ (x0_1 : List Int), Aside0 (div_cut.l0 kq x0_1 = some r) ∧ Aside0 (kq ≤ k) ∧ Aside0 (Kd.R (Kd.int .u32) 39 w' w0.heap.size (fun k_ => (P0_ k_ ∨ w.heap.size ≤ k_)) v0 x0_1) ∧ Aside0 (Kept w w' (fun k_ => P0_ k_)) ∧ Aside0 (Below w0.heap.size w0 w'))
  case atStart => exact ⟨(l0), H', ⟨Nat.le_refl _⟩, ⟨by (with_reducible repeat (first | apply Kd.R_alloc | apply Kd.R_drewN | apply Kd.R_drew)); exact HO0.out⟩, ⟨by repeat (first | (with_reducible first | exact HK.out | apply Kept.alloc | apply Kept.drewN | apply Kept.drew) | exact HK.out)⟩, ⟨by repeat (first | (with_reducible first | exact HB.out | apply below_alloc | apply pw_below_drewN | apply below_drew1) | exact HB.out)⟩⟩
  case round =>
    clear H'
    obtain ⟨x0_1, HA, HK1, HO_0, HK, HB⟩ := hrel
    cases gk with
    | zero => exact absurd HA.out (by simp [div_cut.l0])
    | succ k1 =>
      have H := HA.out
      clear HA
      simp only [div_cut.l0] at H
      by_cases c2 : (x0_1.length : Int) > 0
      · rw [if_pos c2] at H
        have c2b0 : decide (0 < (x0_1.length : Int)) = true := decide_eq_true c2
        have c2b1 : decide (0 < x0_1.length) = true := decide_eq_true (by omega)
        clear c2
        obtain ⟨ji3, hji3⟩ : ∃ j_ : Int, (wrap64 ((x0_1.length : Int) - 1)) = j_ := ⟨_, rfl⟩
        replace H : (if 0 ≤ (ji3) then (if (ji3) < (x0_1.length : Int) then (if (rd x0_1 (ji3)) = 0 then (if (ji3) ≤ (x0_1.length : Int) then (div_cut.l0 k1 (x0_1.take ((ji3) : Int).toNat)) else (none)) else (some x0_1)) else (none)) else (none)) = some r := by first | (rw [hji3] at H; exact H) | (simp only [hji3] at H ⊢; exact H)
        have hji3w : (IntKind.i64.wrap ((x0_1.length : Int) - 1)) = ji3 := (i64_w _).trans hji3
        by_cases c4 : 0 ≤ (ji3)
        · rw [if_pos c4] at H
          have c4b0 : decide (0 ≤ (ji3)) = true := decide_eq_true c4
          clear c4
          by_cases c5 : (ji3) < (x0_1.length : Int)
          · rw [if_pos c5] at H
            have c5b0 : decide ((ji3) < (x0_1.length : Int)) = true := decide_eq_true c5
            clear c5
            by_cases c6 : (rd x0_1 (ji3)) = 0
            · rw [if_pos c6] at H
              have c6b0 : ((rd x0_1 (ji3)) == 0) = true := beq_iff_eq.mpr c6
              have c6b1 : ((rd x0_1 (ji3)) != 0) = false := bne_eq_false_iff_eq.mpr c6
              clear c6
              by_cases c7 : (ji3) ≤ (x0_1.length : Int)
              · rw [if_pos c7] at H
                have c7b0 := eq_true c7
                have c7b1 : decide ((ji3) ≤ (x0_1.length : Int)) = true := decide_eq_true c7
                clear c7
                obtain ⟨y206, hy206⟩ : ∃ y_ : List Int, y_ = (x0_1.take ((ji3) : Int).toNat) := ⟨_, rfl⟩
                replace H : (div_cut.l0 k1 y206) = some r := by first | (rw [hy206]; with_reducible exact H) | (have H2_ := (Option.bind_some _ _).symm.trans H; rw [hy206]; with_reducible exact H2_) | (have H2_ := (Option.bind_some _ _).symm.trans H; with_reducible exact H2_) | with_reducible exact H | (rw [hy206]; exact H) | exact H
                have Ny206 := Aside0.mk hy206
                clear hy206
                have H' := Aside0.mk H
                clear H
                obtain ⟨Ao8, co8, eo8⟩ := Kd.R_slice HO_0.out
                subst eo8
                have p205 : 0 ≤ ((ji3) : Int) := of_decide_eq_true (by first | (with_reducible assumption) | assumption)
                have q205 : (ji3) < (x0_1.length : Int) := of_decide_eq_true (by first | (with_reducible assumption) | assumption)
                obtain ⟨ad205, e205, hx205_0⟩ := Kd.at_int (Kd.R_reads' HO_0.out).2.2 (ji3) p205 q205
                cases e205
                replace p205 := eq_true p205
                replace q205 := eq_true q205
                have q9 : ((ji3) : Int) ≤ ((x0_1.length : Int) : Int) := of_decide_eq_true (by first | (with_reducible assumption) | assumption)
                obtain ⟨i09, hi09, _, hsz9, _⟩ := info_parts info39
                have hcut9 := cut_to (P := Tryd.prog) 22 39 .i64 Tryd.underlying22 hi09 (some ad205) x0_1.length co8 (ji3) (of_decide_eq_true (by first | (with_reducible assumption) | assumption)) q9 (Kd.R_reads' HO_0.out).2.1
                have hr9 := Kd.R_take (m := ((ji3) : Int).toNat) HO_0.out (by omega)
                have hy9 : y206.length = ((ji3) : Int).toNat := (by rw [Ny206.out, List.length_take]; omega)
                rw [← Ny206.out] at hr9
                rw [← hy9] at hr9 hcut9
                clear hy9 hi09 hsz9 HO_0
                have HO208 := Aside0.mk hr9
                clear hr9
                replace q9 := eq_true q9
                go_wp2
                go_roundg k1
                case measure => have := HK1.out; omega
                case rel => exact ⟨(y206), H', ⟨by have := HK1.out; omega⟩, ⟨by (with_reducible repeat (first | apply Kd.R_alloc | apply Kd.R_drewN | apply Kd.R_drew)); exact HO208.out⟩, ⟨by repeat (first | (with_reducible first | exact HK.out | apply Kept.alloc | apply Kept.drewN | apply Kept.drew) | exact HK.out)⟩, ⟨by repeat (first | (with_reducible first | exact HB.out | apply below_alloc | apply pw_below_drewN | apply below_drew1) | exact HB.out)⟩⟩
              · rw [if_neg c7] at H
                exact absurd H (by simp)
            · rw [if_neg c6] at H
              have c6b0 : ((rd x0_1 (ji3)) == 0) = false := beq_eq_false_iff_ne.mpr c6
              have c6b1 : ((rd x0_1 (ji3)) != 0) = true := bne_iff_ne.mpr c6
              obtain rfl := Option.some.inj H
              obtain ⟨Ao10, co10, eo10⟩ := Kd.R_slice HO_0.out
              subst eo10
              have p205 : 0 ≤ ((ji3) : Int) := of_decide_eq_true (by first | (with_reducible assumption) | assumption)
              have q205 : (ji3) < (x0_1.length : Int) := of_decide_eq_true (by first | (with_reducible assumption) | assumption)
              obtain ⟨ad205, e205, hx205_0⟩ := Kd.at_int (Kd.R_reads' HO_0.out).2.2 (ji3) p205 q205
              cases e205
              replace p205 := eq_true p205
              replace q205 := eq_true q205
              go_wp2
              go_ret
              exact ⟨_, by first | rfl | (simp [errW_none, errW_some] <;> rfl) | (simp only [← hji3]; first | rfl | (simp [errW_none, errW_some] <;> rfl)) | (simp [*, errW_none, errW_some] <;> rfl), by (with_reducible repeat (first | apply Kd.R_alloc | apply Kd.R_drewN | apply Kd.R_drew)); exact HO_0.out, by repeat (first | (with_reducible first | exact HB.out | apply below_alloc | apply pw_below_drewN | apply below_drew1) | exact HB.out), by repeat (first | (with_reducible first | exact HK.out | apply Kept.alloc | apply Kept.drewN | apply Kept.drew) | exact HK.out)⟩
          · rw [if_neg c5] at H
            exact absurd H (by simp)
        · rw [if_neg c4] at H
          exact absurd H (by simp)
      · rw [if_neg c2] at H
        have c2b0 : decide (0 < (x0_1.length : Int)) = false := decide_eq_false c2
        have c2b1 : decide (0 < x0_1.length) = false := decide_eq_false (by omega)
        clear c2
        obtain rfl := Option.some.inj H
        obtain ⟨Ao11, co11, eo11⟩ := Kd.R_slice HO_0.out
        subst eo11
        go_wp2
        go_ret
        exact ⟨_, by first | rfl | (simp [errW_none, errW_some] <;> rfl) | (simp [*, errW_none, errW_some] <;> rfl), by (with_reducible repeat (first | apply Kd.R_alloc | apply Kd.R_drewN | apply Kd.R_drew)); exact HO_0.out, by repeat (first | (with_reducible first | exact HB.out | apply below_alloc | apply pw_below_drewN | apply below_drew1) | exact HB.out), by repeat (first | (with_reducible first | exact HK.out | apply Kept.alloc | apply Kept.drewN | apply Kept.drew) | exact HK.out)⟩
theorem div_cut_ev (d : Nat) : ∀ (l : List Int), l.length = d → d ≤ 70368744177664 → Nums.rng l = true → Nums.Ev (fun k => div_cut.l0 k l) (Nums.toL (Nums.val l)) := by
  induction d with
  | zero =>
    intro l hl _ _
    obtain rfl : l = [] := List.eq_nil_of_length_eq_zero hl
    refine Nums.Ev.now fun k => ?_
    show div_cut.l0 (k + 1) [] = some (Nums.toL 0)
    rw [Nums.toL_zero]
    rfl
  | succ d ih =>
    intro l hl hd hr
    have hne : l ≠ [] := fun e => by rw [e] at hl; cases hl
    have hp : (l.length : Int) > 0 := by omega
    by_cases h0 : l.getLast hne = 0
    · have e : l = l.take (l.length - 1) ++ [0] := by
        rw [← List.dropLast_eq_take, ← h0]
        exact (List.dropLast_concat_getLast hne).symm
      have hv : Nums.val l = Nums.val (l.take (l.length - 1)) := by
        conv => lhs; rw [e]
        exact Nums.val_snoc_zero _
      have hr' : Nums.rng (l.take (l.length - 1)) = true := by rw [e] at hr; exact (Nums.rng_append.1 hr).1
      rw [hv]
      refine (ih (l.take (l.length - 1)) (by rw [List.length_take]; omega) (by omega) hr').succ fun k => ?_
      simp only [div_cut.l0]
      rw [if_pos hp, wrap64_len _ (by omega), if_pos (by omega), if_pos (by omega), rd_last l hne, if_pos h0, if_pos (by omega), show ((l.length : Int) - 1).toNat = l.length - 1 by omega]
    · have ht : Nums.top l = true := by simp [Nums.top, List.getLast?_eq_some_getLast hne, h0]
      refine Nums.Ev.now fun k => ?_
      simp only [div_cut.l0]
      rw [if_pos hp, wrap64_len _ (by omega), if_pos (by omega), if_pos (by omega), rd_last l hne, if_neg h0, Nums.toL_val hr ht]

/-! ### div_Small: function 24 -/
def div_Small.l0 : Nat → List Int → Int → List Int → Int → Int → Option (List Int × Int × Int)
  | 0, _, _, _, _, _ => none
  | k + 1, x0, x1, x4, x5, x7 => if x7 ≥ 0 then (if 0 ≤ x7 then (if x7 < (x0.length : Int) then ((bits_Div32.f x5 (rd x0 x7) x1).bind fun bt214 => (if x7 < (x4.length : Int) then (div_Small.l0 k x0 x1 (x4.set (x7 : Int).toNat bt214.1) bt214.2 (wrap64 (x7 - 1))) else (none))) else (none)) else (none)) else ((div_cut.f k x4).bind fun t217 => (some (t217, x5, 0)))
def div_Small.f (k : Nat) (l0 : List Int) (a1 : Int) : Option (List Int × Int × Int) := (nat_May.f l0).bind fun t209 => (if t209 = true then (if a1 = 0 then (some (([] : List Int), 0, 41)) else (if 0 ≤ (l0.length : Int) then (if ((l0.length : Int) : Int).toNat ≤ 70368744177664 then (div_Small.l0 k l0 a1 (List.replicate ((l0.length : Int) : Int).toNat 0) 0 (wrap64 ((l0.length : Int) - 1))) else (none)) else (none))) else (some (([] : List Int), 0, 4)))
theorem div_Small.mono_l : ∀ k, (∀ y0 y1 y2 y3 y4, LeO (div_Small.l0 k y0 y1 y2 y3 y4) (div_Small.l0 (k + 1) y0 y1 y2 y3 y4))
  | 0 => fun _ _ _ _ _ r h => by simp [div_Small.l0] at h
  | k + 1 => by
    have ih0 := div_Small.mono_l k
    · intro y0 y1 y2 y3 y4
      unfold div_Small.l0
      repeat' first
      | (with_reducible exact ih0 _ _ _ _ _)
      | (with_reducible exact div_cut.mono _ _)
      | (with_reducible exact LeO.refl _)
      | (with_reducible exact LeO.none _)
      | (with_reducible refine LeO.ite ?_ ?_)
      | (with_reducible refine LeO.bind ?_ (fun _ => ?_))
      | exact ih0 _ _ _ _ _
      | exact div_cut.mono _ _
      | exact LeO.none _
      | refine LeO.ite ?_ ?_
      | refine LeO.bind ?_ (fun _ => ?_)
theorem div_Small.mono : ∀ a0 a1 k, LeO (div_Small.f k a0 a1) (div_Small.f (k + 1) a0 a1) := by
  intro a0 a1 k
  have ih0 := div_Small.mono_l k
  unfold div_Small.f
  repeat' first
      | (with_reducible exact ih0 _ _ _ _ _)
      | (with_reducible exact div_cut.mono _ _)
      | (with_reducible exact LeO.refl _)
      | (with_reducible exact LeO.none _)
      | (with_reducible refine LeO.ite ?_ ?_)
      | (with_reducible refine LeO.bind ?_ (fun _ => ?_))
      | exact ih0 _ _ _ _ _
      | exact div_cut.mono _ _
      | exact LeO.none _
      | refine LeO.ite ?_ ?_
      | refine LeO.bind ?_ (fun _ => ?_)
set_option maxHeartbeats 8000000 in
set_option maxRecDepth 100000 in
theorem div_Small.calls (k : Nat) (A0 : Option Addr) (c0 : Nat) (l0 : List Int) (a1 : Int) (r1 : List Int) (r2 : Int) (r3 : Int) (w : World) (hr0 : Kd.C (Kd.int .u32) w A0 l0.length l0) (hc0 : l0.length ≤ c0) (h : div_Small.f k l0 a1 = some (r1, r2, r3)) :
    Calls Tryd.prog 24 #[.slice A0 l0.length c0, .int .u32 a1] w fun e w' => ∃ v0_ : Value, e = .returned (.tuple #[v0_, .int .u32 r2, .int .i64 r3]) ∧ Kd.R (Kd.int .u32) 39 w' w.heap.size (fun _ => True) v0_ r1 ∧ Below w.heap.size w w' := by
  have HR0 := Aside0.mk hr0
  have HC0 := Aside0.mk hc0
  clear hr0 hc0
  have HB := Aside0.mk (Below.refl w.heap.size w)
  have H : ((nat_May.f l0).bind fun t209 => (if t209 = true then (if a1 = 0 then (some (([] : List Int), 0, 41)) else (if 0 ≤ (l0.length : Int) then (if ((l0.length : Int) : Int).toNat ≤ 70368744177664 then (div_Small.l0 k l0 a1 (List.replicate ((l0.length : Int) : Int).toNat 0) 0 (wrap64 ((l0.length : Int) - 1))) else (none)) else (none))) else (some (([] : List Int), 0, 4)))) = some (r1, r2, r3) := h
  clear h
  replace H := Option.bind_eq_some_iff.mp H
  obtain ⟨t209, A30, H⟩ := H
  replace H : (if t209 = true then (if a1 = 0 then (some (([] : List Int), 0, 41)) else (if 0 ≤ (l0.length : Int) then (if ((l0.length : Int) : Int).toNat ≤ 70368744177664 then (div_Small.l0 k l0 a1 (List.replicate ((l0.length : Int) : Int).toNat 0) 0 (wrap64 ((l0.length : Int) - 1))) else (none)) else (none))) else (some (([] : List Int), 0, 4))) = some (r1, r2, r3) := H
  have A3 := Aside0.mk A30
  clear A30
  by_cases c4 : t209 = true
  · subst c4
    have H1 : (if a1 = 0 then (some (([] : List Int), 0, 41)) else (if 0 ≤ (l0.length : Int) then (if ((l0.length : Int) : Int).toNat ≤ 70368744177664 then (div_Small.l0 k l0 a1 (List.replicate ((l0.length : Int) : Int).toNat 0) 0 (wrap64 ((l0.length : Int) - 1))) else (none)) else (none))) = some (r1, r2, r3) := by rw [if_pos rfl] at H; exact H
    clear H
    have H := H1
    clear H1
    by_cases c5 : a1 = 0
    · rw [if_pos c5] at H
      have c5b0 : (a1 == 0) = true := beq_iff_eq.mpr c5
      have c5b1 : (a1 != 0) = false := bne_eq_false_iff_eq.mpr c5
      clear c5
      simp only [Option.some.injEq, Prod.mk.injEq] at H
      obtain ⟨rfl, rfl, rfl⟩ := H
      go_enter Tryd.func24, Tryd.ntmps24
      go_wp2_with (first | ((with_reducible refine gate_callee (f := 22) rfl ?_); refine goesL_ (some 10) rfl rfl Tryd.func22 (by kernel_rfl) rfl #[.slice A0 l0.length c0] rfl (by (try simp only [List.map_toArray, List.map_cons, List.map_nil]); first | done | rfl | (simp only [List.length_drop, List.length_take]; rfl)) ?_; (with_reducible refine (nat_May.calls _ _ l0 true _ ?side1 ?side2 A3.out).mono ?_); (case side1 => repeat (first | exact HR0.out | (with_reducible refine Kd.C_alloc ?_ _) | (with_reducible refine Kd.C_drewN ?_ _) | (with_reducible refine Kd.C_drew ?_))); (case side2 => exact HC0.out); rintro e w' ⟨rfl, ⟨nd, rfl⟩⟩; refine ⟨_, rfl, ?_⟩))
      go_ret3
      exact ⟨_, by first | rfl | (simp [errW_none, errW_some] <;> rfl) | (simp [*, errW_none, errW_some] <;> rfl), by first | exact Kd.R_nil _ _ _ _ _ | exact Kd.N_nil _ _ _ _ _ | exact Kd.V_nil _ _ _ _ _ | exact Kd.Q_nil _ _ _ _ _ | exact Kd.S_nil _ _ _ _ _, by repeat (first | (with_reducible first | exact HB.out | apply below_alloc | apply pw_below_drewN | apply below_drew1) | exact HB.out)⟩
    · rw [if_neg c5] at H
      have c5b0 : (a1 == 0) = false := beq_eq_false_iff_ne.mpr c5
      have c5b1 : (a1 != 0) = true := bne_iff_ne.mpr c5
      by_cases c6 : 0 ≤ (l0.length : Int)
      · rw [if_pos c6] at H
        have c6b0 := eq_true c6
        have c6b1 : decide (0 ≤ (l0.length : Int)) = true := decide_eq_true c6
        clear c6
        by_cases c7 : ((l0.length : Int) : Int).toNat ≤ 70368744177664
        · rw [if_pos c7] at H
          have c7b0 := eq_true c7
          have c7b1 : decide (((l0.length : Int) : Int).toNat ≤ 70368744177664) = true := decide_eq_true c7
          clear c7
          obtain ⟨y210, hy210⟩ : ∃ y_ : List Int, y_ = (List.replicate ((l0.length : Int) : Int).toNat 0) := ⟨_, rfl⟩
          replace H : (div_Small.l0 k l0 a1 y210 0 (wrap64 ((l0.length : Int) - 1))) = some (r1, r2, r3) := by first | (rw [hy210]; with_reducible exact H) | (have H2_ := (Option.bind_some _ _).symm.trans H; rw [hy210]; with_reducible exact H2_) | (have H2_ := (Option.bind_some _ _).symm.trans H; with_reducible exact H2_) | with_reducible exact H | (rw [hy210]; exact H) | exact H
          have Ny210 := Aside0.mk hy210
          clear hy210
          have H' := Aside0.mk H
          clear H
          go_enter Tryd.func24, Tryd.ntmps24
          go_wp2_with (first | ((with_reducible refine gate_callee (f := 22) rfl ?_); refine goesL_ (some 10) rfl rfl Tryd.func22 (by kernel_rfl) rfl #[.slice A0 l0.length c0] rfl (by (try simp only [List.map_toArray, List.map_cons, List.map_nil]); first | done | rfl | (simp only [List.length_drop, List.length_take]; rfl)) ?_; (with_reducible refine (nat_May.calls _ _ l0 true _ ?side1 ?side2 A3.out).mono ?_); (case side1 => repeat (first | exact HR0.out | (with_reducible refine Kd.C_alloc ?_ _) | (with_reducible refine Kd.C_drewN ?_ _) | (with_reducible refine Kd.C_drew ?_))); (case side2 => exact HC0.out); rintro e w' ⟨rfl, ⟨nd, rfl⟩⟩; refine ⟨_, rfl, ?_⟩) | ((with_reducible refine gate_dst (N := 17) rfl ?_); refine Kd.R_make (Kd.int .u32) _ 39 rfl (N := 17) rfl 22 _ _ rfl (l0.length : Int) rfl rfl Tryd.underlying22 (.int .u32 0) 4 info39 rfl (by decide) (by omega) 0 (ok := fun _ => True) (okp := fun _ => True) rfl (fun _ hk => hk) trivial (of_decide_eq_true (by first | (with_reducible assumption) | assumption)) (Nat.le_trans (Nat.mul_le_mul_right _ (of_decide_eq_true (by first | (with_reducible assumption) | assumption) : (l0.length : Int).toNat ≤ 70368744177664)) (by omega)) (Below.refl _ _) (Nat.le_refl _) ?_; intro v211 w8 ho9 hb hg_ hnew_; clear hg_ hnew_; (first | rw [← Ny210.out] at ho9 | (simp only [Int.reduceToNat] at ho9; rw [← Ny210.out] at ho9)); have n0_ := Aside0.mk (Kd.R_lower ho9 (below_size (by repeat (first | (with_reducible first | exact HB.out | apply below_alloc | apply pw_below_drewN | apply below_drew1) | exact HB.out)))); have n1_ := Aside0.mk (below_step (by repeat (first | (with_reducible first | exact HB.out | apply below_alloc | apply pw_below_drewN | apply below_drew1) | exact HB.out)) hb); clear HB; have HO212 := n0_; have HB := n1_; clear n0_ n1_; clear hb ho9))
          go_loopg [5, 7] k (fun kq v5 v7 w' => ∃ (x4_1 : List Int) (x5_1 : Int) (x7_1 : Int), v5 = .int .u32 x5_1 ∧ v7 = .int .i64 x7_1 ∧ Aside0 (div_Small.l0 kq l0 a1 x4_1 x5_1 x7_1 = some (r1, r2, r3)) ∧ Aside0 (kq ≤ k) ∧ Aside0 (Kd.R (Kd.int .u32) 39 w' w.heap.size (fun _ => True) v211 x4_1) ∧ Aside0 (Below w.heap.size w w'))
          case atStart => exact ⟨(y210), (0), (wrap64 ((l0.length : Int) - 1)), (by first | rfl | (simp; done) | (simp [*]; done)), (by first | rfl | (simp; done) | (simp [*]; done)), H', ⟨Nat.le_refl _⟩, ⟨by (with_reducible repeat (first | apply Kd.R_alloc | apply Kd.R_drewN | apply Kd.R_drew)); exact HO212.out⟩, ⟨by repeat (first | (with_reducible first | exact HB.out | apply below_alloc | apply pw_below_drewN | apply below_drew1) | exact HB.out)⟩⟩
          case round =>
            clear H'
            try clear c2
            try clear p2
            try clear c4
            try clear c5
            try clear c5b0
            try clear c5b1
            try clear c6
            try clear c6b0
            try clear c6b1
            try clear p6
            try clear c7
            try clear c7b0
            try clear c7b1
            obtain ⟨x4_1, x5_1, x7_1, rfl, rfl, HA, HK1, HO_4, HB⟩ := hrel
            cases gk with
            | zero => exact absurd HA.out (by simp [div_Small.l0])
            | succ k1 =>
              have H := HA.out
              clear HA
              simp only [div_Small.l0] at H
              by_cases c10 : x7_1 ≥ 0
              · rw [if_pos c10] at H
                have c10b0 : decide (0 ≤ x7_1) = true := decide_eq_true c10
                clear c10
                by_cases c11 : 0 ≤ x7_1
                · rw [if_pos c11] at H
                  have c11b0 : decide (0 ≤ x7_1) = true := decide_eq_true c11
                  clear c11
                  by_cases c12 : x7_1 < (l0.length : Int)
                  · rw [if_pos c12] at H
                    have c12b0 : decide (x7_1 < (l0.length : Int)) = true := decide_eq_true c12
                    clear c12
                    replace H := Option.bind_eq_some_iff.mp H
                    obtain ⟨⟨t214, t215⟩, A130, H⟩ := H
                    replace H : (if x7_1 < (x4_1.length : Int) then (div_Small.l0 k1 l0 a1 (x4_1.set (x7_1 : Int).toNat t214) t215 (wrap64 (x7_1 - 1))) else (none)) = some (r1, r2, r3) := H
                    have A13 := Aside0.mk A130
                    clear A130
                    by_cases c14 : x7_1 < (x4_1.length : Int)
                    · rw [if_pos c14] at H
                      have c14b0 : decide (x7_1 < (x4_1.length : Int)) = true := decide_eq_true c14
                      clear c14
                      obtain ⟨y216, hy216⟩ : ∃ y_ : List Int, y_ = (x4_1.set (x7_1 : Int).toNat t214) := ⟨_, rfl⟩
                      replace H : (div_Small.l0 k1 l0 a1 y216 t215 (wrap64 (x7_1 - 1))) = some (r1, r2, r3) := by first | (rw [hy216]; with_reducible exact H) | (have H2_ := (Option.bind_some _ _).symm.trans H; rw [hy216]; with_reducible exact H2_) | (have H2_ := (Option.bind_some _ _).symm.trans H; with_reducible exact H2_) | with_reducible exact H | (rw [hy216]; exact H) | exact H
                      have Ny216 := Aside0.mk hy216
                      clear hy216
                      have H' := Aside0.mk H
                      clear H
                      have p213 : 0 ≤ (x7_1 : Int) := of_decide_eq_true (by first | (with_reducible assumption) | assumption)
                      have q213 : x7_1 < (l0.length : Int) := of_decide_eq_true (by first | (with_reducible assumption) | assumption)
                      obtain ⟨ad213, e213, hx213_0⟩ := Kd.at_int HR0.out x7_1 p213 q213
                      cases e213
                      replace hx213_0 := (HB.out.cell (World.block_lt_of_cell? w _ hx213_0)).trans hx213_0
                      replace p213 := eq_true p213
                      replace q213 := eq_true q213
                      go_wp2_with (first | ((with_reducible refine gate_callee (f := 49) rfl ?_); refine goesL_ (some 34) rfl rfl Tryd.func49 (by kernel_rfl) rfl #[.int .u32 x5_1, .int .u32 (rd l0 x7_1), .int .u32 a1] rfl (by (try simp only [List.map_toArray, List.map_cons, List.map_nil]); first | done | rfl | (simp only [List.length_drop, List.length_take]; rfl)) ?_; (with_reducible refine (bits_Div32.calls x5_1 (rd l0 x7_1) a1 t214 t215 _ A13.out).mono ?_); rintro e w' ⟨rfl, ⟨nd, rfl⟩⟩; refine ⟨_, rfl, ?_⟩; (try (rw [drewN_self wr]; generalize hq_ : World.drewN wr _ = wr; have n0_ : Aside0 (Kd.R (Kd.int .u32) 39 wr w.heap.size (fun _ => True) v211 x4_1) := ⟨by rw [← hq_]; exact (by (with_reducible repeat (first | apply Kd.R_alloc | apply Kd.R_drewN | apply Kd.R_drew)); exact HO_4.out)⟩; have n1_ : Aside0 (Below w.heap.size w wr) := ⟨by rw [← hq_]; exact (by repeat (first | (with_reducible first | exact HB.out | apply below_alloc | apply pw_below_drewN | apply below_drew1) | exact HB.out))⟩; clear HO_4 HB hq_; have HO_4 := n0_; have HB := n1_; clear n0_ n1_)); have p15 : 0 ≤ (x7_1 : Int) := of_decide_eq_true (by first | (with_reducible assumption) | assumption); have q15 : (x7_1 : Int) < ((x4_1.length : Int) : Int) := of_decide_eq_true (by first | (with_reducible assumption) | assumption); obtain ⟨go15, co15, eo15, gb15, gl15, cl15, HG15⟩ := Kd.R_form HO_4.out (by omega); (first | cases eo15 | (injection eo15 with ea_ en_ ec_; (first | subst ea_ | (injection ea_ with ea_; subst ea_)); subst ec_; clear en_)); have GB15 := Aside0.mk gb15; have GG15 := Aside0.mk HG15; clear gb15 gl15 HG15; obtain ⟨hx15_0, hf15_0⟩ := Kd.R_celln 0 HO_4.out (x7_1 : Int) p15 q15; replace p15 := eq_true p15; replace q15 := eq_true q15; obtain ⟨hy16_, hz16_⟩ := Kd.R_celln 0 HO_4.out (x7_1 : Int) (of_decide_eq_true (by first | (with_reducible assumption) | assumption)) (of_decide_eq_true (by first | (with_reducible assumption) | assumption)); have HP16 := Kd.R_putg HO_4.out (x7_1 : Int) t214) | ((with_reducible refine gate_store (t := 39) (p := 37) rfl ?_); refine store_event (t := 39) (p := 37) (v := ?vo_w17) (w1 := (wr.setCell ⟨go15, (x7_1 : Int).toNat, none⟩ (.int .u32 t214))) ?hg ?ho ?hn ?hr ?_; (case ho => rfl); (case hg => rfl); (case hn => rfl); (case hr => first | (go_simp; done) | (go_simp; rfl)); intro w17 hw; have hg : wr.grownBy w17 (some go15) := (by rw [hw]; exact HP16.2); have hp_ : Kd.R (Kd.int .u32) 39 w17 w.heap.size (fun _ => True) (.slice (some ⟨go15, 0, none⟩) x4_1.length co15) y216 := (by rw [hw, Ny216.out]; exact HP16.1); clear HP16; have n0_ := Aside0.mk (hp_); have n1_ := Aside0.mk ((by rw [hw]; exact below_set (HB.out) GB15.out : Below w.heap.size w w17)); clear HO_4; clear HB; have HO_4 := n0_; have HB := n1_; clear n0_ n1_; clear hg hw hp_))
                      go_roundg k1
                      case measure => have := HK1.out; omega
                      case rel => exact ⟨(y216), (t215), (wrap64 (x7_1 - 1)), (by first | rfl | (simp; done) | (simp [*]; done)), (by first | rfl | (simp; done) | (simp [*]; done)), H', ⟨by have := HK1.out; omega⟩, ⟨by (with_reducible repeat (first | apply Kd.R_alloc | apply Kd.R_drewN | apply Kd.R_drew)); exact HO_4.out⟩, ⟨by repeat (first | (with_reducible first | exact HB.out | apply below_alloc | apply pw_below_drewN | apply below_drew1) | exact HB.out)⟩⟩
                    · rw [if_neg c14] at H
                      exact absurd H (by simp)
                  · rw [if_neg c12] at H
                    exact absurd H (by simp)
                · rw [if_neg c11] at H
                  exact absurd H (by simp)
              · rw [if_neg c10] at H
                have c10b0 : decide (0 ≤ x7_1) = false := decide_eq_false c10
                clear c10
                replace H := Option.bind_eq_some_iff.mp H
                obtain ⟨t217, A180, H⟩ := H
                replace H : (some (t217, x5_1, 0)) = some (r1, r2, r3) := H
                have A18 := Aside0.mk A180
                clear A180
                simp only [Option.some.injEq, Prod.mk.injEq] at H
                obtain ⟨rfl, rfl, rfl⟩ := H
                obtain ⟨Ao19, co19, eo19⟩ := Kd.R_slice HO_4.out
                subst eo19
                go_wp2_with (first | ((with_reducible refine gate_callee (f := 50) rfl ?_); refine goesL_ (some 39) rfl rfl Tryd.func50 (by kernel_rfl) rfl #[.slice Ao19 x4_1.length co19] rfl (by (try simp only [List.map_toArray, List.map_cons, List.map_nil]); first | done | rfl | (simp only [List.length_drop, List.length_take]; rfl)) ?_; (with_reducible refine (div_cut.calls k1 (fun k_ => some k_ = (.slice Ao19 x4_1.length co19 : Value).ownBlock) (.slice Ao19 x4_1.length co19) x4_1 t217 w _ ?side1 ?side2 A18.out).mono ?_); (case side1 => repeat (first | (with_reducible first | exact HB.out | apply below_alloc | apply pw_below_drewN | apply below_drew1) | exact HB.out)); (case side2 => exact Kd.R_tight rfl HO_4.out); rintro e w20 ⟨v218, rfl, ho0, hb, hkp⟩; refine ⟨_, rfl, ?_⟩; have n0_ := Aside0.mk (Kd.R_mono (ok' := fun k_ => True) ho0 (fun k_ hk_ => trivial)); have n1_ := Aside0.mk (hb); clear HB; clear HO_4; have HO219 := n0_; have HB := n1_; clear n0_ n1_; (try clear hb); (try clear hkp); (try clear ho0)))
                go_ret3
                exact ⟨_, by first | rfl | (simp [errW_none, errW_some] <;> rfl) | (simp [*, errW_none, errW_some] <;> rfl), by (with_reducible repeat (first | apply Kd.R_alloc | apply Kd.R_drewN | apply Kd.R_drew)); exact HO219.out, by repeat (first | (with_reducible first | exact HB.out | apply below_alloc | apply pw_below_drewN | apply below_drew1) | exact HB.out)⟩
        · rw [if_neg c7] at H
          exact absurd H (by simp)
      · rw [if_neg c6] at H
        exact absurd H (by simp)
  · replace c4 := Bool.eq_false_iff.mpr c4
    subst c4
    have H1 : (some (([] : List Int), 0, 4)) = some (r1, r2, r3) := by rw [if_neg (show ¬ (false = true) by decide)] at H; exact H
    clear H
    have H := H1
    clear H1
    simp only [Option.some.injEq, Prod.mk.injEq] at H
    obtain ⟨rfl, rfl, rfl⟩ := H
    go_enter Tryd.func24, Tryd.ntmps24
    go_wp2_with (first | ((with_reducible refine gate_callee (f := 22) rfl ?_); refine goesL_ (some 10) rfl rfl Tryd.func22 (by kernel_rfl) rfl #[.slice A0 l0.length c0] rfl (by (try simp only [List.map_toArray, List.map_cons, List.map_nil]); first | done | rfl | (simp only [List.length_drop, List.length_take]; rfl)) ?_; (with_reducible refine (nat_May.calls _ _ l0 false _ ?side1 ?side2 A3.out).mono ?_); (case side1 => repeat (first | exact HR0.out | (with_reducible refine Kd.C_alloc ?_ _) | (with_reducible refine Kd.C_drewN ?_ _) | (with_reducible refine Kd.C_drew ?_))); (case side2 => exact HC0.out); rintro e w' ⟨rfl, ⟨nd, rfl⟩⟩; refine ⟨_, rfl, ?_⟩))
    go_ret3
    exact ⟨_, by first | rfl | (simp [errW_none, errW_some] <;> rfl) | (simp [*, errW_none, errW_some] <;> rfl), by first | exact Kd.R_nil _ _ _ _ _ | exact Kd.N_nil _ _ _ _ _ | exact Kd.V_nil _ _ _ _ _ | exact Kd.Q_nil _ _ _ _ _ | exact Kd.S_nil _ _ _ _ _, by repeat (first | (with_reducible first | exact HB.out | apply below_alloc | apply pw_below_drewN | apply below_drew1) | exact HB.out)⟩
theorem bits_Div32_eq {r a w : Int} (hr : 0 ≤ r) (ha : 0 ≤ a ∧ a < 4294967296) (hw : r < w) (hw1 : w < 4294967296) : bits_Div32.f r a w = some ((r * 4294967296 + a) / w, (r * 4294967296 + a) % w) := if_pos ⟨hr, ha.1, ha.2, hw, hw1⟩
theorem div_Small_ev_l (a : List Int) (w : Int) (hr : Nums.rng a = true) (hla : a.length ≤ 70368744177664) (hw : 0 < w) (hw1 : w < 4294967296) :
    ∀ (m : Nat) (q : List Int) (r : Int), m ≤ a.length → q.length = a.length → Nums.rng q = true → 0 ≤ r → r < w →
      Nums.Ev (fun k => div_Small.l0 k a w q r ((m : Int) - 1)) (Nums.toL ((Nums.val (a.take m) + 4294967296 ^ m * r.toNat) / w.toNat + 4294967296 ^ m * Nums.val (q.drop m)), (((Nums.val (a.take m) + 4294967296 ^ m * r.toNat) % w.toNat : Nat) : Int), 0) := by
  intro m
  induction m with
  | zero =>
    intro q r _ hq hrq h0 h1
    have e1 : r.toNat / w.toNat = 0 := Nat.div_eq_of_lt (by omega)
    have e2 : r.toNat % w.toNat = r.toNat := Nat.mod_eq_of_lt (by omega)
    simp only [List.take_zero, Nums.val, Nat.pow_zero, List.drop_zero, Nat.zero_add, Nat.one_mul]
    rw [e1, e2, Nat.zero_add]
    refine Nums.Ev.succ (g := fun k => (div_cut.f k q).bind fun t => some (t, r, 0)) (Nums.Ev.bind (f := fun k => div_cut.f k q) (div_cut_ev _ q rfl (by omega) hrq) (Nums.Ev.of fun _ => by rw [Int.toNat_of_nonneg h0])) fun k => ?_
    simp only [div_Small.l0]
    rw [if_neg (by omega)]
  | succ m ih =>
    intro q r hm hq hrq h0 h1
    have ha := Nums.rng_get hr (i := m) (by omega)
    have e3 : rd a (((m + 1 : Nat) : Int) - 1) = a[m] := by
      rw [show (((m + 1 : Nat) : Int) - 1) = (m : Int) by omega]
      simp [rd, List.getD_eq_getElem?_getD, List.getElem?_eq_getElem (show m < a.length by omega)]
    obtain ⟨x, hx⟩ : ∃ x, a[m] = x := ⟨_, rfl⟩
    rw [hx] at ha e3
    obtain ⟨z, hz⟩ : ∃ z, r * 4294967296 + x = z := ⟨_, rfl⟩
    have hz0 : 0 ≤ z := by omega
    have hd0 : 0 ≤ z / w := Int.ediv_nonneg hz0 (by omega)
    have hz1 : z < w * 4294967296 := by
      have k1 : z < (r + 1) * 4294967296 := by omega
      have k2 : (r + 1) * 4294967296 ≤ w * 4294967296 := Int.mul_le_mul_of_nonneg_right (by omega) (by decide)
      omega
    have hd1 : z / w < 4294967296 := Int.ediv_lt_of_lt_mul hw (by rw [Int.mul_comm]; exact hz1)
    have hr0 : 0 ≤ z % w := Int.emod_nonneg _ (by omega)
    have hr1 : z % w < w := Int.emod_lt_of_pos _ hw
    have h2 := ih (q.set m (z / w)) (z % w) (by omega) (by simpa using hq) (Nums.rng_set hrq m ⟨hd0, hd1⟩) hr0 hr1
    rw [Nums.val_drop_set _ _ _ (by omega)] at h2
    have key : Nums.val (a.take (m + 1)) + 4294967296 ^ (m + 1) * r.toNat = (Nums.val (a.take m) + 4294967296 ^ m * (z % w).toNat) + w.toNat * (4294967296 ^ m * (z / w).toNat) := by
      rw [Nums.val_take_succ _ _ (by omega), hx]
      have k0 : x.toNat + 4294967296 * r.toNat = (z % w).toNat + w.toNat * (z / w).toNat := by
        have k1 := Int.emod_add_mul_ediv z w
        have k2 : (w.toNat * (z / w).toNat : Int) = w * (z / w) := by
          rw [show ((w.toNat : Nat) : Int) = w by omega, show (((z / w).toNat : Nat) : Int) = z / w by omega]
        have k3 : ((w.toNat * (z / w).toNat : Nat) : Int) = w * (z / w) := by rw [Int.natCast_mul]; exact k2
        omega
      have k4 := congrArg (4294967296 ^ m * ·) k0
      simp only [Nat.mul_add] at k4
      rw [Nat.pow_succ, Nat.mul_assoc, Nat.mul_left_comm w.toNat]
      omega
    rw [key, Nat.add_mul_div_left _ _ (by omega), Nat.add_mul_mod_self_left]
    have key2 : ∀ A B C D : Nat, A + D * (B + 4294967296 * C) = A + D * B + D * 4294967296 * C := fun A B C D => by rw [Nat.mul_add, Nat.mul_assoc, Nat.add_assoc]
    rw [key2, ← Nat.pow_succ] at h2
    refine h2.succ fun k => ?_
    simp only [div_Small.l0]
    rw [if_pos (by omega), if_pos (by omega), if_pos (by omega), e3, bits_Div32_eq h0 ha h1 hw1, hz, Option.bind_some, if_pos (by omega)]
    rw [show (((m + 1 : Nat) : Int) - 1).toNat = m by omega]
    congr 1
    simp only [wrap64]
    omega
theorem div_Small_ev (a : List Int) (w : Int) (hr : Nums.rng a = true) (hm : Nums.may a = true) (hw : 0 < w) (hw1 : w < 4294967296) :
    Nums.Ev (fun k => div_Small.f k a w) (Nums.toL (Nums.val a / w.toNat), ((Nums.val a % w.toNat : Nat) : Int), 0) := by
  have hl := (Nums.may_iff.1 hm).1
  have h := div_Small_ev_l a w hr (by omega) hw hw1 a.length (List.replicate a.length 0) 0 (Nat.le_refl _) (by simp) (Nums.rng_zeros _) (by omega) hw
  rw [List.take_length, List.drop_eq_nil_of_le (by simp)] at h
  simp only [Int.toNat_zero, Nat.mul_zero, Nat.add_zero, Nums.val] at h
  refine h.congr fun k => ?_
  unfold div_Small.f
  rw [nat_May_eq, hm, Option.bind_some, if_pos rfl, if_neg (by omega), if_pos (by omega), if_pos (by omega), Int.toNat_natCast, wrap64_len _ (by omega)]

/-! ### div_DivMod: function 44 -/
set_option maxRecDepth 100000 in
set_option maxHeartbeats 1000000 in
theorem div_DivMod.calls_bad (A0 : Option Addr) (c0 : Nat) (l0 : List Int) (A1 : Option Addr) (c1 : Nat) (l1 : List Int) (w : World) (hr0 : Kd.C (Kd.int .u32) w A0 l0.length l0) (hc0 : l0.length ≤ c0) (hr1 : Kd.C (Kd.int .u32) w A1 l1.length l1) (hc1 : l1.length ≤ c1) (h : (Nums.may l0 && Nums.may l1) = false) :
    Calls Tryd.prog 44 #[.slice A0 l0.length c0, .slice A1 l1.length c1] w fun e w' => e = .returned (.tuple #[.slice none 0 0, .slice none 0 0, .int .i64 4]) ∧ Below w.heap.size w w' := by
  have HM0 := Aside0.mk (nat_May.calls A0 c0 l0 _ w hr0 hc0 (nat_May_eq l0))
  have HM1 := Aside0.mk (fun nd => nat_May.calls A1 c1 l1 _ (w.drewN nd) (Kd.C_drewN hr1 nd) hc1 (nat_May_eq l1))
  clear hr0 hc0 hr1 hc1
  by_cases h0 : Nums.may l0 = true
  · rw [h0, Bool.true_and] at h
    rw [h0] at HM0
    rw [h] at HM1
    clear h h0
    go_enter Tryd.func44, Tryd.ntmps44
    go_wp2_with fail
    refine HM0.out.mono ?_
    rintro e w' ⟨rfl, ⟨nd, rfl⟩⟩
    go_wp2_with fail
    refine (HM1.out nd).mono ?_
    rintro e w' ⟨rfl, ⟨nd2, rfl⟩⟩
    go_wp2_with fail
    go_ret3
    exact ⟨rfl, pw_below_drewN (Below.refl _ _) _⟩
  · rw [Bool.not_eq_true] at h0
    rw [h0] at HM0
    clear h h0 HM1
    go_enter Tryd.func44, Tryd.ntmps44
    go_wp2_with fail
    refine HM0.out.mono ?_
    rintro e w' ⟨rfl, ⟨nd, rfl⟩⟩
    go_wp2_with fail
    go_ret3
    exact ⟨rfl, pw_below_drewN (Below.refl _ _) _⟩
set_option maxRecDepth 100000 in
set_option maxHeartbeats 1000000 in
theorem div_DivMod.calls_zero (A0 : Option Addr) (c0 : Nat) (l0 : List Int) (A1 : Option Addr) (c1 : Nat) (w : World) (hr0 : Kd.C (Kd.int .u32) w A0 l0.length l0) (hc0 : l0.length ≤ c0) (hr1 : Kd.C (Kd.int .u32) w A1 0 []) (hc1 : 0 ≤ c1) (h : Nums.may l0 = true) :
    Calls Tryd.prog 44 #[.slice A0 l0.length c0, .slice A1 0 c1] w fun e w' => e = .returned (.tuple #[.slice none 0 0, .slice none 0 0, .int .i64 41]) ∧ Below w.heap.size w w' := by
  have HM0 := Aside0.mk (nat_May.calls A0 c0 l0 _ w hr0 hc0 (nat_May_eq l0))
  have HM1 := Aside0.mk (fun nd => nat_May.calls A1 c1 [] _ (w.drewN nd) (Kd.C_drewN hr1 nd) hc1 (nat_May_eq []))
  clear hr0 hc0 hr1 hc1
  rw [h] at HM0
  clear h
  go_enter Tryd.func44, Tryd.ntmps44
  go_wp2_with fail
  refine HM0.out.mono ?_
  rintro e w' ⟨rfl, ⟨nd, rfl⟩⟩
  go_wp2_with fail
  refine (HM1.out nd).mono ?_
  rintro e w' ⟨rfl, ⟨nd2, rfl⟩⟩
  rw [show Nums.may [] = true from rfl]
  go_wp2_with fail
  go_ret3
  exact ⟨rfl, pw_below_drewN (Below.refl _ _) _⟩
set_option maxRecDepth 100000 in
set_option maxHeartbeats 1000000 in
theorem div_DivMod.calls_one (A0 : Option Addr) (c0 : Nat) (l0 : List Int) (A1 : Option Addr) (c1 : Nat) (x : Int) (q : List Int) (r : Int) (R : List Int) (k : Nat) (w : World) (hr0 : Kd.C (Kd.int .u32) w A0 l0.length l0) (hc0 : l0.length ≤ c0) (hr1 : Kd.C (Kd.int .u32) w A1 1 [x]) (hc1 : 1 ≤ c1) (h : Nums.may l0 = true) (h1 : Nums.may [x] = true)
    (hs : div_Small.f k l0 x = some (q, r, 0)) (hr : 0 ≤ r ∧ r < 4294967296) (ho : nat_Of.f k r = some R) :
    Calls Tryd.prog 44 #[.slice A0 l0.length c0, .slice A1 1 c1] w fun e w' => ∃ v0_ v1_ : Value, e = .returned (.tuple #[v0_, v1_, .int .i64 0]) ∧ Kd.R (Kd.int .u32) 39 w' w.heap.size (fun k_ => some k_ ≠ (v1_ : Value).ownBlock) v0_ q ∧ Kd.R (Kd.int .u32) 39 w' w.heap.size (fun k_ => some k_ ≠ (v0_ : Value).ownBlock) v1_ R ∧ Below w.heap.size w w' := by
  have HM0 := Aside0.mk (nat_May.calls A0 c0 l0 _ w hr0 hc0 (nat_May_eq l0))
  have HM1 := Aside0.mk (fun nd => nat_May.calls A1 c1 [x] _ (w.drewN nd) (Kd.C_drewN hr1 nd) hc1 (nat_May_eq [x]))
  have HS := Aside0.mk (fun nd => div_Small.calls k A0 c0 l0 x q r 0 (w.drewN nd) (Kd.C_drewN hr0 nd) hc0 hs)
  have HO := Aside0.mk ho
  obtain ⟨ad, hA, hcell⟩ := Kd.at_int hr1 0 (by decide) (by decide)
  subst hA
  rw [h] at HM0
  rw [h1] at HM1
  have hx : rd [x] 0 = x := rfl
  rw [hx, Int.toNat_zero, show ad.add 0 = ad from rfl] at hcell
  have hra := hr.1
  have hrb := hr.2
  clear hr0 hc0 hr1 hc1 h h1 hs ho hx hr
  go_enter Tryd.func44, Tryd.ntmps44
  go_wp2_with fail
  refine HM0.out.mono ?_
  rintro e w' ⟨rfl, ⟨nd, rfl⟩⟩
  go_wp2_with fail
  refine (HM1.out nd).mono ?_
  rintro e w' ⟨rfl, ⟨nd2, rfl⟩⟩
  go_wp2_with fail
  refine (HS.out _).mono ?_
  rintro e w1 ⟨v0, rfl, hR1, hB1⟩
  have HR1 := Aside0.mk hR1
  have HB1 := Aside0.mk hB1
  clear hR1 hB1
  go_wp2_with fail
  refine (nat_Of.calls k r R w1 HO.out).mono ?_
  rintro e w2 ⟨v1, rfl, hR2, hB2⟩
  have HR2 := Aside0.mk hR2
  have HB2 := Aside0.mk hB2
  clear hR2 hB2
  go_wp2_with fail
  go_ret3
  refine ⟨_, _, rfl, ?_, ?_, ?_⟩
  · exact Kd.R_mono (Kd.R_elder' (Kd.R_lower HR1.out (by simp)) (Kd.R_base HR2.out) HB2.out) (fun _ hk => hk.2)
  · exact Kd.R_mono (Kd.R_lower (Kd.R_new' HR2.out (Kd.R_lt HR1.out)) (Nat.le_trans (by simp) HB1.out.size)) (fun _ hk => hk.2)
  · have h1 := pw_below_drewN (Below.refl w.heap.size w) (nd + nd2)
    exact (h1.trans (HB1.out.mono (by simp))).trans (HB2.out.mono (Nat.le_trans (by simp) HB1.out.size))

set_option maxRecDepth 100000 in
set_option maxHeartbeats 1000000 in
theorem div_DivMod.calls_less (A0 : Option Addr) (c0 : Nat) (l0 : List Int) (A1 : Option Addr) (c1 : Nat) (l1 : List Int) (w : World) (hr0 : Kd.C (Kd.int .u32) w A0 l0.length l0) (hc0 : l0.length ≤ c0) (hr1 : Kd.C (Kd.int .u32) w A1 l1.length l1) (hc1 : l1.length ≤ c1) (h : Nums.may l0 = true) (h1 : Nums.may l1 = true) (hl : 1 < l1.length)
    (hs : nat_Cmp.f l0 l1 = some (-1)) :
    Calls Tryd.prog 44 #[.slice A0 l0.length c0, .slice A1 l1.length c1] w fun e w' => ∃ v1_ : Value, e = .returned (.tuple #[.slice none 0 0, v1_, .int .i64 0]) ∧ Kd.R (Kd.int .u32) 39 w' w.heap.size (fun _ => True) v1_ l0 ∧ Below w.heap.size w w' := by
  have HM0 := Aside0.mk (nat_May.calls A0 c0 l0 _ w hr0 hc0 (nat_May_eq l0))
  have HM1 := Aside0.mk (fun nd => nat_May.calls A1 c1 l1 _ (w.drewN nd) (Kd.C_drewN hr1 nd) hc1 (nat_May_eq l1))
  have HS := Aside0.mk (fun nd => nat_Cmp.calls A0 c0 l0 A1 c1 l1 (-1) (w.drewN nd) (Kd.C_drewN hr0 nd) hc0 (Kd.C_drewN hr1 nd) hc1 hs)
  have HR0 := Aside0.mk hr0
  have hla := (Nums.may_iff.1 h).1
  rw [h] at HM0
  rw [h1] at HM1
  have d1 : ((l1.length : Int) == 0) = false := beq_eq_false_iff_ne.mpr (by omega)
  have d2 : ((l1.length : Int) == 1) = false := beq_eq_false_iff_ne.mpr (by omega)
  clear hr0 hc0 hr1 hc1 h h1 hs
  go_enter Tryd.func44, Tryd.ntmps44
  go_wp2_with fail
  refine HM0.out.mono ?_
  rintro e w' ⟨rfl, ⟨nd, rfl⟩⟩
  go_wp2_with fail
  refine (HM1.out nd).mono ?_
  rintro e w' ⟨rfl, ⟨nd2, rfl⟩⟩
  go_wp2_with fail
  refine (HS.out _).mono ?_
  rintro e w1 ⟨rfl, hB1⟩
  have HB1 := Aside0.mk ((pw_below_drewN (Below.refl w.heap.size w) (nd + nd2)).trans (hB1.mono (by simp)))
  clear hB1
  go_wp2_with ((with_reducible refine gate_builtin (b := .append) (xs := #[.const (.slice none 0 0), .tmp 56]) rfl ?_); at_builtin; refine Kd.R_append_rows (Kd.int .u32) (w0 := w) w.heap.size rfl (.const (.slice none 0 0)) (.tmp 56) 22 39 (.int .u32 0) 4 rfl Tryd.underlying22 info39 rfl (by decide) (by omega) (.slice none 0 0) ([] : List Int) l0 _ _ _ (fun _ => True) (fun _ => False) rfl rfl ?aO ?aR (fun _ _ h => h) (fun _ h => h.elim) ?aF ?aB ?aS ?aL ?_; (case aR => exact Kd.C_below HR0.out HB1.out); (case aB => exact HB1.out); (case aF => exact (fun _ _ => trivial)); (case aO => exact Kd.R_nil _ _ _ _ _); (case aS => exact below_size HB1.out); (case aL => simp; omega); intro v1 w2 ho hb hg hat; have HR := Aside0.mk ho; have HB := Aside0.mk hb; clear ho hb hg hat)
  go_ret3
  exact ⟨_, rfl, HR.out, HB.out⟩
/-- Short: the divisor has one limb, or is greater. -/
def div_DivMod.f (l0 l1 : List Int) : Option (List Int × List Int × Int) := if (Nums.rng l0 && Nums.rng l1) = true then (if (Nums.may l0 && Nums.may l1) = true then (if l1 = [] then some ([], [], 41) else if l1.length = 1 ∨ Nums.val l0 < Nums.val l1 then some (Nums.toL (Nums.val l0 / Nums.val l1), Nums.toL (Nums.val l0 % Nums.val l1), 0) else none) else some ([], [], 4)) else none
theorem div_DivMod.calls (A0 : Option Addr) (c0 : Nat) (l0 : List Int) (A1 : Option Addr) (c1 : Nat) (l1 : List Int) (r1 : List Int) (r2 : List Int) (r3 : Int) (w : World) (hr0 : Kd.C (Kd.int .u32) w A0 l0.length l0) (hc0 : l0.length ≤ c0) (hr1 : Kd.C (Kd.int .u32) w A1 l1.length l1) (hc1 : l1.length ≤ c1) (h : div_DivMod.f l0 l1 = some (r1, r2, r3)) :
    Calls Tryd.prog 44 #[.slice A0 l0.length c0, .slice A1 l1.length c1] w fun e w' => ∃ v0_ v1_ : Value, e = .returned (.tuple #[v0_, v1_, .int .i64 r3]) ∧ Kd.R (Kd.int .u32) 39 w' w.heap.size (fun k_ => some k_ ≠ (v1_ : Value).ownBlock) v0_ r1 ∧ Kd.R (Kd.int .u32) 39 w' w.heap.size (fun k_ => some k_ ≠ (v0_ : Value).ownBlock) v1_ r2 ∧ Below w.heap.size w w' := by
  unfold div_DivMod.f at h
  split at h
  case isFalse => cases h
  case isTrue hr =>
  obtain ⟨ha, hb⟩ := Bool.and_eq_true_iff.1 hr
  cases hm : Nums.may l0 && Nums.may l1 with
  | false =>
    rw [hm, if_neg (by simp)] at h
    simp only [Option.some.injEq, Prod.mk.injEq] at h
    obtain ⟨rfl, rfl, rfl⟩ := h
    refine (div_DivMod.calls_bad A0 c0 l0 A1 c1 l1 w hr0 hc0 hr1 hc1 hm).mono ?_
    rintro e w' ⟨rfl, hB⟩
    exact ⟨_, _, rfl, Kd.R_nil _ _ _ _ _, Kd.R_nil _ _ _ _ _, hB⟩
  | true =>
    rw [hm, if_pos rfl] at h
    obtain ⟨hm0, hm1⟩ := Bool.and_eq_true_iff.1 hm
    by_cases hn : l1 = []
    · rw [if_pos hn] at h
      simp only [Option.some.injEq, Prod.mk.injEq] at h
      obtain ⟨rfl, rfl, rfl⟩ := h
      subst hn
      refine (div_DivMod.calls_zero A0 c0 l0 A1 c1 w hr0 hc0 hr1 hc1 hm0).mono ?_
      rintro e w' ⟨rfl, hB⟩
      exact ⟨_, _, rfl, Kd.R_nil _ _ _ _ _, Kd.R_nil _ _ _ _ _, hB⟩
    · rw [if_neg hn] at h
      by_cases h1 : l1.length = 1
      · obtain ⟨x, rfl⟩ := List.length_eq_one_iff.1 h1
        rw [if_pos (.inl h1)] at h
        simp only [Option.some.injEq, Prod.mk.injEq] at h
        obtain ⟨rfl, rfl, rfl⟩ := h
        have hx := (Nums.rng_cons.1 hb).1
        have hx0 : x ≠ 0 := by simpa [Nums.top] using (Nums.may_iff.1 hm1).2
        have hv : Nums.val [x] = x.toNat := by simp [Nums.val]
        have hlt : Nums.val l0 % x.toNat < x.toNat := Nat.mod_lt _ (by omega)
        obtain ⟨k1, e1⟩ := div_Small_ev l0 x ha hm0 (by omega) hx.2
        obtain ⟨k2, e2⟩ := nat_Of_ev ((Nums.val l0 % x.toNat : Nat) : Int) (by omega) (by omega)
        rw [Int.toNat_natCast] at e2
        rw [hv]
        exact div_DivMod.calls_one A0 c0 l0 A1 c1 x _ _ _ (max k1 k2) w hr0 hc0 hr1 hc1 hm0 hm1 (e1 _ (by omega)) ⟨by omega, by omega⟩ (e2 _ (by omega))
      · by_cases hlt : Nums.val l0 < Nums.val l1
        · rw [if_pos (.inr hlt)] at h
          simp only [Option.some.injEq, Prod.mk.injEq] at h
          obtain ⟨rfl, rfl, rfl⟩ := h
          have hp := List.length_pos_iff.2 hn
          refine (div_DivMod.calls_less A0 c0 l0 A1 c1 l1 w hr0 hc0 hr1 hc1 hm0 hm1 (by omega) (by unfold nat_Cmp.f; rw [hr, if_pos rfl, hm, if_pos rfl, if_pos hlt])).mono ?_
          rintro e w' ⟨v1, rfl, hR, hB⟩
          refine ⟨_, _, rfl, ?_, ?_, hB⟩
          · rw [Nat.div_eq_of_lt hlt, Nums.toL_zero]
            exact Kd.R_nil _ _ _ _ _
          · rw [Nat.mod_eq_of_lt hlt, (Nums.may_val ha hm0).1]
            exact Kd.R_mono hR (fun _ _ => by simp [Value.ownBlock])
        · rw [if_neg (by rintro (h2 | h2); exact h1 h2; exact hlt h2)] at h
          cases h
theorem div_tells (l : List Int) (T : Nat) (hr : Nums.rng l = true) (hm : Nums.may l = true) (h0 : 0 < T) (h1 : T < 4294967296) : div_DivMod.f l (Nums.toL T) = some (Nums.toL (Nums.val l / T), Nums.toL (Nums.val l % T), 0) := by
  have e : Nums.toL T = [((T % 4294967296 : Nat) : Int)] := by rw [Nums.toL_pos (by omega), show T / 4294967296 = 0 by omega, Nums.toL_zero]
  have hm1 : Nums.may (Nums.toL T) = true := Nums.may_iff.2 ⟨by rw [e]; exact Nat.succ_le_succ (Nat.zero_le _), Nums.top_toL T⟩
  unfold div_DivMod.f
  rw [hr, Nums.rng_toL, if_pos (show (true && true) = true from rfl), hm, hm1, if_pos (show (true && true) = true from rfl), Nums.val_toL, if_neg (by rw [e]; simp), if_pos (.inl (by rw [e]; rfl))]

end Go.Proofs.YtjgloepeogelnaaDoor.Pr

/- Functions with the same answers as the Go functions of the program, with the proofs that the program comes to just these answers; no condition but those that each theorem names. (Laid by this work's own program mk.py out of the translation.) -/
import Derived.Test.YtjgloepeogelnaaDoorPrx0
import Derived.Test.YtjgloepeogelnaaDoorPrx1
import Derived.Test.YtjgloepeogelnaaDoorPrx5
import Derived.Test.YtjgloepeogelnaaDoorPrx19
namespace Go.Proofs.YtjgloepeogelnaaDoor.Pr
open Go.RowKit Go.Proofs.YtjgloepeogelnaaDoorW.PrintWords Go.Proofs.YtjgloepeogelnaaDoorW.PrintLast Go.Proofs.YtjgloepeogelnaaDoorW.PrintMore
attribute [local go_sem] max2_int min2_int max_two min_two max_three min_three max_four min_four   -- for this text's walks alone
set_option linter.unusedVariables false
set_option linter.unusedSimpArgs false

/-! ### alidaderef04_ten: function 32 -/
def alidaderef04_ten.l0 : Nat → List Int → List Int → Int → Int → Option (List Int × Int)
  | 0, _, _, _, _ => none
  | k + 1, x0, x4, x5, x6 => if x6 ≥ 0 then (if 0 ≤ x6 then (if x6 < (x0.length : Int) then (if x6 < (x4.length : Int) then (alidaderef04_ten.l0 k x0 (x4.set (x6 : Int).toNat ((IntKind.u64.wrap (Int.tdiv (IntKind.u64.wrap ((IntKind.u64.wrap (x5 * 4294967296)) + (IntKind.u64.wrap (rd x0 x6)))) 10)) % 4294967296)) (Int.tmod (IntKind.u64.wrap ((IntKind.u64.wrap (x5 * 4294967296)) + (IntKind.u64.wrap (rd x0 x6)))) 10) (wrap64 (x6 - 1))) else (none)) else (none)) else (none)) else (if (x4.length : Int) > 0 then (if 0 ≤ (wrap64 ((x4.length : Int) - 1)) then (if (wrap64 ((x4.length : Int) - 1)) < (x4.length : Int) then (if (rd x4 (wrap64 ((x4.length : Int) - 1))) = 0 then (if (wrap64 ((x4.length : Int) - 1)) ≤ (x4.length : Int) then (some ((x4.take ((wrap64 ((x4.length : Int) - 1)) : Int).toNat), (x5) % 4294967296)) else (none)) else (some (x4, (x5) % 4294967296))) else (none)) else (none)) else (some (x4, (x5) % 4294967296)))
def alidaderef04_ten.f (k : Nat) (l0 : List Int) : Option (List Int × Int) := if 0 ≤ (l0.length : Int) then (if ((l0.length : Int) : Int).toNat ≤ 70368744177664 then (alidaderef04_ten.l0 k l0 (List.replicate ((l0.length : Int) : Int).toNat 0) 0 (wrap64 ((l0.length : Int) - 1))) else (none)) else (none)
theorem alidaderef04_ten.mono_l : ∀ k, (∀ y0 y1 y2 y3, LeO (alidaderef04_ten.l0 k y0 y1 y2 y3) (alidaderef04_ten.l0 (k + 1) y0 y1 y2 y3))
  | 0 => fun _ _ _ _ r h => by simp [alidaderef04_ten.l0] at h
  | k + 1 => by
    have ih0 := alidaderef04_ten.mono_l k
    · intro y0 y1 y2 y3
      unfold alidaderef04_ten.l0
      repeat' first
      | (with_reducible exact ih0 _ _ _ _)
      | (with_reducible exact LeO.refl _)
      | (with_reducible exact LeO.none _)
      | (with_reducible refine LeO.ite ?_ ?_)
      | (with_reducible refine LeO.bind ?_ (fun _ => ?_))
      | exact ih0 _ _ _ _
      | exact LeO.none _
      | refine LeO.ite ?_ ?_
      | refine LeO.bind ?_ (fun _ => ?_)
theorem alidaderef04_ten.mono : ∀ a0 k, LeO (alidaderef04_ten.f k a0) (alidaderef04_ten.f (k + 1) a0) := by
  intro a0 k
  have ih0 := alidaderef04_ten.mono_l k
  unfold alidaderef04_ten.f
  repeat' first
      | (with_reducible exact ih0 _ _ _ _)
      | (with_reducible exact LeO.refl _)
      | (with_reducible exact LeO.none _)
      | (with_reducible refine LeO.ite ?_ ?_)
      | (with_reducible refine LeO.bind ?_ (fun _ => ?_))
      | exact ih0 _ _ _ _
      | exact LeO.none _
      | refine LeO.ite ?_ ?_
      | refine LeO.bind ?_ (fun _ => ?_)
set_option maxHeartbeats 8000000 in
set_option maxRecDepth 100000 in
theorem alidaderef04_ten.calls (k : Nat) (A0 : Option Addr) (c0 : Nat) (l0 : List Int) (r1 : List Int) (r2 : Int) (w : World) (hr0 : Kd.C (Kd.int .u32) w A0 l0.length l0) (hc0 : l0.length ≤ c0) (h : alidaderef04_ten.f k l0 = some (r1, r2)) :
    Calls Tryd.prog 32 #[.slice A0 l0.length c0] w fun e w' => ∃ v0_ : Value, e = .returned (.tuple #[v0_, .int .u32 r2]) ∧ Kd.R (Kd.int .u32) 39 w' w.heap.size (fun _ => True) v0_ r1 ∧ Below w.heap.size w w' := by
  have HR0 := Aside0.mk hr0
  have HC0 := Aside0.mk hc0
  clear hr0 hc0
  have HB := Aside0.mk (Below.refl w.heap.size w)
  have H : (if 0 ≤ (l0.length : Int) then (if ((l0.length : Int) : Int).toNat ≤ 70368744177664 then (alidaderef04_ten.l0 k l0 (List.replicate ((l0.length : Int) : Int).toNat 0) 0 (wrap64 ((l0.length : Int) - 1))) else (none)) else (none)) = some (r1, r2) := h
  clear h
  by_cases c2 : 0 ≤ (l0.length : Int)
  · rw [if_pos c2] at H
    have c2b0 := eq_true c2
    have c2b1 : decide (0 ≤ (l0.length : Int)) = true := decide_eq_true c2
    clear c2
    by_cases c3 : ((l0.length : Int) : Int).toNat ≤ 70368744177664
    · rw [if_pos c3] at H
      have c3b0 := eq_true c3
      have c3b1 : decide (((l0.length : Int) : Int).toNat ≤ 70368744177664) = true := decide_eq_true c3
      clear c3
      obtain ⟨y297, hy297⟩ : ∃ y_ : List Int, y_ = (List.replicate ((l0.length : Int) : Int).toNat 0) := ⟨_, rfl⟩
      replace H : (alidaderef04_ten.l0 k l0 y297 0 (wrap64 ((l0.length : Int) - 1))) = some (r1, r2) := by first | (rw [hy297]; with_reducible exact H) | (have H2_ := (Option.bind_some _ _).symm.trans H; rw [hy297]; with_reducible exact H2_) | (have H2_ := (Option.bind_some _ _).symm.trans H; with_reducible exact H2_) | with_reducible exact H | (rw [hy297]; exact H) | exact H
      have Ny297 := Aside0.mk hy297
      clear hy297
      have H' := Aside0.mk H
      clear H
      go_enter Tryd.func32, Tryd.ntmps32
      go_wp2_with (first | ((with_reducible refine gate_dst (N := 10) rfl ?_); (try (refine gate_guard (by rfl) ?_; dsimp only)); refine Kd.R_make (Kd.int .u32) _ 39 rfl (N := 10) rfl 22 _ _ rfl (l0.length : Int) rfl rfl Tryd.underlying22 (.int .u32 0) 4 info39 rfl (by decide) (by omega) 0 (ok := fun _ => True) (okp := fun _ => True) rfl (fun _ hk => hk) trivial (of_decide_eq_true (by first | (with_reducible assumption) | assumption)) (Nat.le_trans (Nat.mul_le_mul_right _ (of_decide_eq_true (by first | (with_reducible assumption) | assumption) : (l0.length : Int).toNat ≤ 70368744177664)) (by omega)) (Below.refl _ _) (Nat.le_refl _) ?_; intro v298 w4 ho5 hb hg_ hnew_; clear hg_ hnew_; (first | rw [← Ny297.out] at ho5 | (simp only [Int.reduceToNat] at ho5; rw [← Ny297.out] at ho5)); have n0_ := Aside0.mk (Kd.R_lower ho5 (below_size (by repeat (first | (with_reducible first | exact HB.out | apply below_alloc | apply pw_below_drewN | apply below_drew1) | exact HB.out)))); have n1_ := Aside0.mk (below_step (by repeat (first | (with_reducible first | exact HB.out | apply below_alloc | apply pw_below_drewN | apply below_drew1) | exact HB.out)) hb); clear HB; have HO299 := n0_; have HB := n1_; clear n0_ n1_; clear hb ho5))
      go_loopg [5, 6] k (fun kq v5 v6 w' => ∃ (x4_1 : List Int) (x5_1 : Int) (x6_1 : Int), v5 = .int .u64 x5_1 ∧ v6 = .int .i64 x6_1 ∧ Aside0 (alidaderef04_ten.l0 kq l0 x4_1 x5_1 x6_1 = some (r1, r2)) ∧ Aside0 (kq ≤ k) ∧ Aside0 (Kd.R (Kd.int .u32) 39 w' w.heap.size (fun _ => True) v298 x4_1) ∧ Aside0 (Below w.heap.size w w'))
      case atStart => exact ⟨(y297), (0), (wrap64 ((l0.length : Int) - 1)), (by first | rfl | (simp; done) | (simp [*]; done)), (by first | rfl | (simp; done) | (simp [*]; done)), H', ⟨Nat.le_refl _⟩, ⟨by (with_reducible repeat (first | apply Kd.R_alloc | apply Kd.R_drewN | apply Kd.R_drew)); exact HO299.out⟩, ⟨by repeat (first | (with_reducible first | exact HB.out | apply below_alloc | apply pw_below_drewN | apply below_drew1) | exact HB.out)⟩⟩
      case round =>
        clear H'
        try clear c2
        try clear c2b0
        try clear c2b1
        try clear p2
        try clear c3
        try clear c3b0
        try clear c3b1
        obtain ⟨x4_1, x5_1, x6_1, rfl, rfl, HA, HK1, HO_4, HB⟩ := hrel
        cases gk with
        | zero => exact absurd HA.out (by simp [alidaderef04_ten.l0])
        | succ k1 =>
          have H := HA.out
          clear HA
          simp only [alidaderef04_ten.l0] at H
          by_cases c6 : x6_1 ≥ 0
          · rw [if_pos c6] at H
            have c6b0 : decide (0 ≤ x6_1) = true := decide_eq_true c6
            clear c6
            by_cases c7 : 0 ≤ x6_1
            · rw [if_pos c7] at H
              have c7b0 : decide (0 ≤ x6_1) = true := decide_eq_true c7
              clear c7
              by_cases c8 : x6_1 < (l0.length : Int)
              · rw [if_pos c8] at H
                have c8b0 : decide (x6_1 < (l0.length : Int)) = true := decide_eq_true c8
                clear c8
                by_cases c9 : x6_1 < (x4_1.length : Int)
                · rw [if_pos c9] at H
                  have c9b0 : decide (x6_1 < (x4_1.length : Int)) = true := decide_eq_true c9
                  clear c9
                  obtain ⟨y301, hy301⟩ : ∃ y_ : List Int, y_ = (x4_1.set (x6_1 : Int).toNat ((IntKind.u64.wrap (Int.tdiv (IntKind.u64.wrap ((IntKind.u64.wrap (x5_1 * 4294967296)) + (IntKind.u64.wrap (rd l0 x6_1)))) 10)) % 4294967296)) := ⟨_, rfl⟩
                  replace H : (alidaderef04_ten.l0 k1 l0 y301 (Int.tmod (IntKind.u64.wrap ((IntKind.u64.wrap (x5_1 * 4294967296)) + (IntKind.u64.wrap (rd l0 x6_1)))) 10) (wrap64 (x6_1 - 1))) = some (r1, r2) := by first | (rw [hy301]; with_reducible exact H) | (have H2_ := (Option.bind_some _ _).symm.trans H; rw [hy301]; with_reducible exact H2_) | (have H2_ := (Option.bind_some _ _).symm.trans H; with_reducible exact H2_) | with_reducible exact H | (rw [hy301]; exact H) | exact H
                  have Ny301 := Aside0.mk hy301
                  clear hy301
                  have H' := Aside0.mk H
                  clear H
                  have p300 : 0 ≤ (x6_1 : Int) := of_decide_eq_true (by first | (with_reducible assumption) | assumption)
                  have q300 : x6_1 < (l0.length : Int) := of_decide_eq_true (by first | (with_reducible assumption) | assumption)
                  obtain ⟨ad300, e300, hx300_0⟩ := Kd.at_int HR0.out x6_1 p300 q300
                  cases e300
                  replace hx300_0 := (HB.out.cell (World.block_lt_of_cell? w _ hx300_0)).trans hx300_0
                  replace p300 := eq_true p300
                  replace q300 := eq_true q300
                  have p10 : 0 ≤ (x6_1 : Int) := of_decide_eq_true (by first | (with_reducible assumption) | assumption)
                  have q10 : (x6_1 : Int) < ((x4_1.length : Int) : Int) := of_decide_eq_true (by first | (with_reducible assumption) | assumption)
                  obtain ⟨go10, co10, eo10, gb10, gl10, cl10, HG10⟩ := Kd.R_form HO_4.out (by omega)
                  (first | cases eo10 | (injection eo10 with ea_ en_ ec_; (first | subst ea_ | (injection ea_ with ea_; subst ea_)); subst ec_; clear en_))
                  have GB10 := Aside0.mk gb10
                  have GG10 := Aside0.mk HG10
                  clear gb10 gl10 HG10
                  obtain ⟨hx10_0, hf10_0⟩ := Kd.R_celln 0 HO_4.out (x6_1 : Int) p10 q10
                  replace p10 := eq_true p10
                  replace q10 := eq_true q10
                  have HP11 := Kd.R_putg HO_4.out (x6_1 : Int) ((IntKind.u64.wrap (Int.tdiv (IntKind.u64.wrap ((IntKind.u64.wrap (x5_1 * 4294967296)) + (IntKind.u64.wrap (rd l0 x6_1)))) 10)) % 4294967296)
                  go_wp2_with (first | ((with_reducible refine gate_store (t := 39) (p := 31) rfl ?_); refine store_event (t := 39) (p := 31) (v := ?vo_w12) (w1 := (wr.setCell ⟨go10, (x6_1 : Int).toNat, none⟩ (.int .u32 ((IntKind.u64.wrap (Int.tdiv (IntKind.u64.wrap ((IntKind.u64.wrap (x5_1 * 4294967296)) + (IntKind.u64.wrap (rd l0 x6_1)))) 10)) % 4294967296)))) ?hg ?ho ?hn ?hr ?_; (case ho => rfl); (case hg => rfl); (case hn => rfl); (case hr => first | (go_simp; done) | (go_simp; rfl)); intro w12 hw; have hg : wr.grownBy w12 (some go10) := (by rw [hw]; exact HP11.2); have hp_ : Kd.R (Kd.int .u32) 39 w12 w.heap.size (fun _ => True) (.slice (some ⟨go10, 0, none⟩) x4_1.length co10) y301 := (by rw [hw, Ny301.out]; exact HP11.1); clear HP11; have n0_ := Aside0.mk (hp_); have n1_ := Aside0.mk ((by rw [hw]; exact below_set (HB.out) GB10.out : Below w.heap.size w w12)); clear HO_4; clear HB; have HO_4 := n0_; have HB := n1_; clear n0_ n1_; clear hg hw hp_))
                  go_roundg k1
                  case measure => have := HK1.out; omega
                  case rel => exact ⟨(y301), (Int.tmod (IntKind.u64.wrap ((IntKind.u64.wrap (x5_1 * 4294967296)) + (IntKind.u64.wrap (rd l0 x6_1)))) 10), (wrap64 (x6_1 - 1)), (by first | rfl | (simp; done) | (simp [*]; done)), (by first | rfl | (simp; done) | (simp [*]; done)), H', ⟨by have := HK1.out; omega⟩, ⟨by (with_reducible repeat (first | apply Kd.R_alloc | apply Kd.R_drewN | apply Kd.R_drew)); exact HO_4.out⟩, ⟨by repeat (first | (with_reducible first | exact HB.out | apply below_alloc | apply pw_below_drewN | apply below_drew1) | exact HB.out)⟩⟩
                · rw [if_neg c9] at H
                  exact absurd H (by simp)
              · rw [if_neg c8] at H
                exact absurd H (by simp)
            · rw [if_neg c7] at H
              exact absurd H (by simp)
          · rw [if_neg c6] at H
            have c6b0 : decide (0 ≤ x6_1) = false := decide_eq_false c6
            clear c6
            by_cases c13 : (x4_1.length : Int) > 0
            · rw [if_pos c13] at H
              have c13b0 : decide (0 < (x4_1.length : Int)) = true := decide_eq_true c13
              have c13b1 : decide (0 < x4_1.length) = true := decide_eq_true (by omega)
              clear c13
              obtain ⟨ji14, hji14⟩ : ∃ j_ : Int, (wrap64 ((x4_1.length : Int) - 1)) = j_ := ⟨_, rfl⟩
              replace H : (if 0 ≤ (ji14) then (if (ji14) < (x4_1.length : Int) then (if (rd x4_1 (ji14)) = 0 then (if (ji14) ≤ (x4_1.length : Int) then (some ((x4_1.take ((ji14) : Int).toNat), (x5_1) % 4294967296)) else (none)) else (some (x4_1, (x5_1) % 4294967296))) else (none)) else (none)) = some (r1, r2) := by first | (rw [hji14] at H; exact H) | (simp only [hji14] at H ⊢; exact H)
              have hji14w : (IntKind.i64.wrap ((x4_1.length : Int) - 1)) = ji14 := (i64_w _).trans hji14
              by_cases c15 : 0 ≤ (ji14)
              · rw [if_pos c15] at H
                have c15b0 : decide (0 ≤ (ji14)) = true := decide_eq_true c15
                clear c15
                by_cases c16 : (ji14) < (x4_1.length : Int)
                · rw [if_pos c16] at H
                  have c16b0 : decide ((ji14) < (x4_1.length : Int)) = true := decide_eq_true c16
                  clear c16
                  by_cases c17 : (rd x4_1 (ji14)) = 0
                  · rw [if_pos c17] at H
                    have c17b0 : ((rd x4_1 (ji14)) == 0) = true := beq_iff_eq.mpr c17
                    have c17b1 : ((rd x4_1 (ji14)) != 0) = false := bne_eq_false_iff_eq.mpr c17
                    clear c17
                    by_cases c18 : (ji14) ≤ (x4_1.length : Int)
                    · rw [if_pos c18] at H
                      have c18b0 := eq_true c18
                      have c18b1 : decide ((ji14) ≤ (x4_1.length : Int)) = true := decide_eq_true c18
                      clear c18
                      obtain ⟨y303, hy303⟩ : ∃ y_ : List Int, y_ = (x4_1.take ((ji14) : Int).toNat) := ⟨_, rfl⟩
                      replace H : (some (y303, (x5_1) % 4294967296)) = some (r1, r2) := by first | (rw [hy303]; with_reducible exact H) | (have H2_ := (Option.bind_some _ _).symm.trans H; rw [hy303]; with_reducible exact H2_) | (have H2_ := (Option.bind_some _ _).symm.trans H; with_reducible exact H2_) | with_reducible exact H | (rw [hy303]; exact H) | exact H
                      have Ny303 := Aside0.mk hy303
                      clear hy303
                      simp only [Option.some.injEq, Prod.mk.injEq] at H
                      obtain ⟨rfl, rfl⟩ := H
                      obtain ⟨Ao19, co19, eo19⟩ := Kd.R_slice HO_4.out
                      subst eo19
                      have p302 : 0 ≤ ((ji14) : Int) := of_decide_eq_true (by first | (with_reducible assumption) | assumption)
                      have q302 : (ji14) < (x4_1.length : Int) := of_decide_eq_true (by first | (with_reducible assumption) | assumption)
                      obtain ⟨ad302, e302, hx302_0⟩ := Kd.at_int (Kd.R_reads' HO_4.out).2.2 (ji14) p302 q302
                      cases e302
                      replace p302 := eq_true p302
                      replace q302 := eq_true q302
                      have q20 : ((ji14) : Int) ≤ ((x4_1.length : Int) : Int) := of_decide_eq_true (by first | (with_reducible assumption) | assumption)
                      obtain ⟨i020, hi020, _, hsz20, _⟩ := info_parts info39
                      have hcut20 := cut_to (P := Tryd.prog) 22 39 .i64 Tryd.underlying22 hi020 (some ad302) x4_1.length co19 (ji14) (of_decide_eq_true (by first | (with_reducible assumption) | assumption)) q20 (Kd.R_reads' HO_4.out).2.1
                      have hr20 := Kd.R_take (m := ((ji14) : Int).toNat) HO_4.out (by omega)
                      have hy20 : y303.length = ((ji14) : Int).toNat := (by rw [Ny303.out, List.length_take]; omega)
                      rw [← Ny303.out] at hr20
                      rw [← hy20] at hr20 hcut20
                      clear hy20 hi020 hsz20 HO_4
                      have HO305 := Aside0.mk hr20
                      clear hr20
                      replace q20 := eq_true q20
                      go_wp2
                      go_ret2
                      exact ⟨_, by first | rfl | (simp [errW_none, errW_some] <;> rfl) | (simp only [← hji14]; first | rfl | (simp [errW_none, errW_some] <;> rfl)) | (simp [*, errW_none, errW_some] <;> rfl), by (with_reducible repeat (first | apply Kd.R_alloc | apply Kd.R_drewN | apply Kd.R_drew)); exact HO305.out, by repeat (first | (with_reducible first | exact HB.out | apply below_alloc | apply pw_below_drewN | apply below_drew1) | exact HB.out)⟩
                    · rw [if_neg c18] at H
                      exact absurd H (by simp)
                  · rw [if_neg c17] at H
                    have c17b0 : ((rd x4_1 (ji14)) == 0) = false := beq_eq_false_iff_ne.mpr c17
                    have c17b1 : ((rd x4_1 (ji14)) != 0) = true := bne_iff_ne.mpr c17
                    simp only [Option.some.injEq, Prod.mk.injEq] at H
                    obtain ⟨rfl, rfl⟩ := H
                    obtain ⟨Ao21, co21, eo21⟩ := Kd.R_slice HO_4.out
                    subst eo21
                    have p302 : 0 ≤ ((ji14) : Int) := of_decide_eq_true (by first | (with_reducible assumption) | assumption)
                    have q302 : (ji14) < (x4_1.length : Int) := of_decide_eq_true (by first | (with_reducible assumption) | assumption)
                    obtain ⟨ad302, e302, hx302_0⟩ := Kd.at_int (Kd.R_reads' HO_4.out).2.2 (ji14) p302 q302
                    cases e302
                    replace p302 := eq_true p302
                    replace q302 := eq_true q302
                    go_wp2
                    go_ret2
                    exact ⟨_, by first | rfl | (simp [errW_none, errW_some] <;> rfl) | (simp only [← hji14]; first | rfl | (simp [errW_none, errW_some] <;> rfl)) | (simp [*, errW_none, errW_some] <;> rfl), by (with_reducible repeat (first | apply Kd.R_alloc | apply Kd.R_drewN | apply Kd.R_drew)); exact HO_4.out, by repeat (first | (with_reducible first | exact HB.out | apply below_alloc | apply pw_below_drewN | apply below_drew1) | exact HB.out)⟩
                · rw [if_neg c16] at H
                  exact absurd H (by simp)
              · rw [if_neg c15] at H
                exact absurd H (by simp)
            · rw [if_neg c13] at H
              have c13b0 : decide (0 < (x4_1.length : Int)) = false := decide_eq_false c13
              have c13b1 : decide (0 < x4_1.length) = false := decide_eq_false (by omega)
              clear c13
              simp only [Option.some.injEq, Prod.mk.injEq] at H
              obtain ⟨rfl, rfl⟩ := H
              obtain ⟨Ao22, co22, eo22⟩ := Kd.R_slice HO_4.out
              subst eo22
              go_wp2
              go_ret2
              exact ⟨_, by first | rfl | (simp [errW_none, errW_some] <;> rfl) | (simp [*, errW_none, errW_some] <;> rfl), by (with_reducible repeat (first | apply Kd.R_alloc | apply Kd.R_drewN | apply Kd.R_drew)); exact HO_4.out, by repeat (first | (with_reducible first | exact HB.out | apply below_alloc | apply pw_below_drewN | apply below_drew1) | exact HB.out)⟩
    · rw [if_neg c3] at H
      exact absurd H (by simp)
  · rw [if_neg c2] at H
    exact absurd H (by simp)
theorem ten_strip (q : List Int) (hr : Nums.rng q = true) (hl : q.length ≤ 65536) (hv : ∀ n, q.length = n + 2 → 4294967296 ^ n ≤ Nums.val q) (left : Int) (h0 : 0 ≤ left) (h1 : left < 10) (l : List Int) :
    ∀ k, alidaderef04_ten.l0 (k + 1) l q left (-1) = some (Nums.toL (Nums.val q), left) := by
  intro k
  have hlm : left % 4294967296 = left := by omega
  rw [alidaderef04_ten.l0, if_neg (by decide), hlm]
  by_cases hq : q = []
  · subst hq
    rw [if_neg (by decide), show Nums.val [] = 0 from rfl, Nums.toL_zero]
  · have hp := List.length_pos_iff.2 hq
    have hi : (0 : Int) ≤ (q.length : Int) - 1 := by omega
    have hi2 : (q.length : Int) - 1 < (q.length : Int) := by omega
    have hi3 : (q.length : Int) - 1 ≤ (q.length : Int) := by omega
    have hpp : (q.length : Int) > 0 := by omega
    rw [if_pos hpp, wrap64_len _ (by omega), if_pos hi, if_pos hi2, rd_last q hq]
    by_cases hz : q.getLast hq = 0
    · rw [if_pos hz, if_pos hi3, show ((q.length : Int) - 1).toNat = q.length - 1 by omega]
      have e : q = q.take (q.length - 1) ++ [0] := by
        rw [← List.dropLast_eq_take, ← hz]
        exact (List.dropLast_concat_getLast hq).symm
      have hval : Nums.val q = Nums.val (q.take (q.length - 1)) := by
        conv => lhs; rw [e]
        exact Nums.val_snoc_zero _
      have hrt := Nums.rng_take hr (q.length - 1)
      have ht : Nums.top (q.take (q.length - 1)) = true := by
        cases htt : Nums.top (q.take (q.length - 1)) with
        | true => rfl
        | false =>
          exfalso
          obtain ⟨xs, hxs⟩ := Nums.dropLast_top htt
          have hxl := congrArg List.length hxs
          rw [List.length_take, List.length_append, List.length_singleton] at hxl
          have hv2 := hv xs.length (by omega)
          have hr2 : Nums.rng xs = true := by rw [hxs] at hrt; exact (Nums.rng_append.1 hrt).1
          have h3 := Nums.val_lt hr2
          rw [hval, hxs, Nums.val_snoc_zero] at hv2
          omega
      rw [hval, Nums.toL_val hrt ht]
    · have ht : Nums.top q = true := by simp [Nums.top, List.getLast?_eq_some_getLast hq, hz]
      rw [if_neg hz, Nums.toL_val hr ht]
theorem ten_k0 {x r z : Int} (hx : 0 ≤ x) (hr : 0 ≤ r) (hz : r * 4294967296 + x = z) : x.toNat + 4294967296 * r.toNat = (z % 10).toNat + 10 * (z / 10).toNat := by
  have k1 := Int.emod_add_mul_ediv z 10
  have k2 : 0 ≤ z % 10 := Int.emod_nonneg _ (by decide)
  have k3 : 0 ≤ z / 10 := Int.ediv_nonneg (by omega) (by decide)
  obtain ⟨a, rfl⟩ := Int.eq_ofNat_of_zero_le hx
  obtain ⟨b, rfl⟩ := Int.eq_ofNat_of_zero_le hr
  obtain ⟨A, hA⟩ := Int.eq_ofNat_of_zero_le k2
  obtain ⟨D, hD⟩ := Int.eq_ofNat_of_zero_le k3
  rw [hA, hD] at k1
  rw [hA, hD, Int.toNat_natCast, Int.toNat_natCast, Int.toNat_natCast, Int.toNat_natCast]
  have e : ((a + 4294967296 * b : Nat) : Int) = ((A + 10 * D : Nat) : Int) := by
    rw [Int.natCast_add, Int.natCast_add, Int.natCast_mul, Int.natCast_mul]
    have e1 : ((4294967296 : Nat) : Int) = 4294967296 := rfl
    have e2 : ((10 : Nat) : Int) = 10 := rfl
    rw [e1, e2, k1, ← hz, Int.mul_comm, Int.add_comm]
  exact Int.ofNat.inj e
theorem ten_l0 (a : List Int) (R : List Int × Int) (hr : Nums.rng a = true) (hla : a.length ≤ 65536) (V : Nat) (L : Int)
    (hend : ∀ q : List Int, q.length = a.length → Nums.rng q = true → Nums.val q = V → Nums.Ev (fun k => alidaderef04_ten.l0 k a q L (-1)) R) :
    ∀ (m : Nat) (q : List Int) (r : Int), m ≤ a.length → q.length = a.length → Nums.rng q = true → 0 ≤ r → r < 10 → (Nums.val (a.take m) + 4294967296 ^ m * r.toNat) / 10 + 4294967296 ^ m * Nums.val (q.drop m) = V → (((Nums.val (a.take m) + 4294967296 ^ m * r.toNat) % 10 : Nat) : Int) = L →
      Nums.Ev (fun k => alidaderef04_ten.l0 k a q r ((m : Int) - 1)) R := by
  intro m
  induction m with
  | zero =>
    intro q r _ hq hrq h0 h1 hV hL
    rw [List.take_zero, show Nums.val [] = 0 from rfl, Nat.pow_zero, List.drop_zero, Nat.zero_add, Nat.one_mul] at hV
    rw [List.take_zero, show Nums.val [] = 0 from rfl, Nat.pow_zero, Nat.zero_add, Nat.one_mul] at hL
    obtain rfl : r = L := by omega
    exact hend q hq hrq (by omega)
  | succ m ih =>
    intro q r hm hq hrq h0 h1 hV hL
    have HV := Aside0.mk hV
    have HL := Aside0.mk hL
    clear hV hL
    have hma : m < a.length := by omega
    have ha := Nums.rng_get hr (i := m) hma
    have hrd := rd_nat hma
    have ets := Aside0.mk (Nums.val_take_succ a m hma)
    obtain ⟨x, hx⟩ : ∃ x, a[m] = x := ⟨_, rfl⟩
    rw [hx] at ha hrd ets
    obtain ⟨z, hz⟩ : ∃ z, r * 4294967296 + x = z := ⟨_, rfl⟩
    have hz0 : 0 ≤ z ∧ z < 42949672960 := by omega
    have hset := Aside0.mk (Nums.val_drop_set q m (z / 10) (by omega))
    have k0 := ten_k0 ha.1 h0 hz
    have hb1 : 0 ≤ z / 10 ∧ z / 10 < 4294967296 := by omega
    have hb2 : 0 ≤ z % 10 ∧ z % 10 < 10 := by omega
    have e1 : (((m + 1 : Nat) : Int) - 1) = (m : Int) := by omega
    have hma' : (m : Int) < (a.length : Int) := by omega
    have hmq : (m : Int) < (q.length : Int) := by omega
    have u1 : r * 4294967296 % 18446744073709551616 = r * 4294967296 := by omega
    have u2 : x % 18446744073709551616 = x := by omega
    have u3 : z % 18446744073709551616 = z := by omega
    have u4 : z / 10 % 18446744073709551616 = z / 10 := by omega
    have u5 : z / 10 % 4294967296 = z / 10 := by omega
    have ew := Aside0.mk (wrap64_len m (by omega))
    have hml : m ≤ a.length := by omega
    have key : Nums.val (a.take (m + 1)) + 4294967296 ^ (m + 1) * r.toNat = (Nums.val (a.take m) + 4294967296 ^ m * (z % 10).toNat) + 10 * (4294967296 ^ m * (z / 10).toNat) := by
      have k4 := congrArg (4294967296 ^ m * ·) k0
      simp only [Nat.mul_add] at k4
      rw [ets.out, Nat.pow_succ, Nat.mul_assoc, Nat.mul_left_comm 10, Nat.add_assoc, k4, Nat.add_assoc]
    have hV := HV.out
    have hL := HL.out
    rw [key, Nat.add_mul_div_left _ _ (by decide), Nat.add_assoc] at hV
    rw [key, Nat.add_mul_mod_self_left] at hL
    have h2 := ih (q.set m (z / 10)) (z % 10) hml (by rw [List.length_set]; exact hq) (Nums.rng_set hrq m hb1) hb2.1 hb2.2 (by
      rw [hset.out, ← hV, Nat.pow_succ, Nat.mul_add, Nat.mul_assoc]) hL
    clear hV hL key
    refine h2.succ fun k => ?_
    rw [e1, alidaderef04_ten.l0, if_pos (Int.natCast_nonneg _), if_pos (Int.natCast_nonneg _), if_pos hma', if_pos hmq, hrd, u64_wrap (r * 4294967296), u64_wrap x, u1, u2, hz, u64_wrap z, u3, tm_pos hz0.1, td_pos hz0.1, u64_wrap (z / 10), u4, u5, Int.toNat_natCast, ew.out]
theorem ref_ten_ev (n : Nat) (hn : 0 < n) (hM : n < 4294967296 ^ 65536) : Nums.Ev (fun k => alidaderef04_ten.f k (Nums.toL n)) (Nums.toL (n / 10), ((n % 10 : Nat) : Int)) := by
  have hl := (Nums.may_iff.1 (Nums.may_toL hM)).1
  have hge := Nums.val_ge (Nums.rng_toL n) (Nums.top_toL n) (fun e => by have := Nums.toL_eq_nil.1 e; omega)
  have hv := Nums.val_toL n
  rw [hv] at hge
  clear hM
  obtain ⟨l, hl'⟩ : ∃ l, Nums.toL n = l := ⟨_, rfl⟩
  have hr : Nums.rng l = true := by rw [← hl']; exact Nums.rng_toL n
  rw [hl'] at hl hv hge ⊢
  have h := ten_l0 l (Nums.toL (n / 10), ((n % 10 : Nat) : Int)) hr hl (n / 10) ((n % 10 : Nat) : Int) (fun q hq hrq hvq => by
    refine Nums.Ev.now fun k => ?_
    have := ten_strip q hrq (by omega) (fun j hj => by
      rw [hvq]
      have e : 4294967296 ^ (l.length - 1) = 4294967296 ^ j * 4294967296 := by rw [← Nat.pow_succ]; congr 1; omega
      rw [e] at hge
      omega) ((n % 10 : Nat) : Int) (by omega) (by omega) l k
    rw [hvq] at this
    exact this) l.length (List.replicate l.length 0) 0 (Nat.le_refl _) (by simp) (Nums.rng_zeros _) (by decide) (by decide) (by
      rw [List.take_length, hv, List.drop_eq_nil_of_le (by simp)]
      simp [Nums.val]) (by
      rw [List.take_length, hv]
      simp)
  refine h.congr fun k => ?_
  have c1 : l.length ≤ 70368744177664 := by omega
  unfold alidaderef04_ten.f
  rw [if_pos (Int.natCast_nonneg _), Int.toNat_natCast, if_pos c1, wrap64_len _ (by omega)]

end Go.Proofs.YtjgloepeogelnaaDoor.Pr

/- Functions with the same answers as the Go functions of the program, with the proofs that the program comes to just these answers; no condition but those that each theorem names. (Laid by this work's own program mk.py out of the translation.) -/
import Derived.Test.YtjgloepeogelnaaDoorPrx0
import Derived.Test.YtjgloepeogelnaaDoorPrx1
namespace Go.Proofs.YtjgloepeogelnaaDoor.Pr
open Go.RowKit Go.Proofs.YtjgloepeogelnaaDoorW.PrintWords Go.Proofs.YtjgloepeogelnaaDoorW.PrintLast Go.Proofs.YtjgloepeogelnaaDoorW.PrintMore
attribute [local go_sem] max2_int min2_int max_two min_two max_three min_three max_four min_four   -- for this text's walks alone
set_option linter.unusedVariables false
set_option linter.unusedSimpArgs false

/-! ### mul_Small: function 39 -/
def mul_Small.l0 : Nat → List Int → Int → List Int → Int → List Int → Int → Int → Option (List Int)
  | 0, _, _, _, _, _, _, _ => none
  | k + 1, x0, x1, x7, x8, x20, x21, x22 => if x22 < x21 then (if 0 ≤ x22 then (if x22 < (x20.length : Int) then (if x22 < (x7.length : Int) then (mul_Small.l0 k x0 x1 (x7.set (x22 : Int).toNat ((IntKind.u64.wrap (x8 + (IntKind.u64.wrap ((IntKind.u64.wrap (rd x20 x22)) * (IntKind.u64.wrap (x1)))))) % 4294967296)) ((IntKind.u64.wrap (x8 + (IntKind.u64.wrap ((IntKind.u64.wrap (rd x20 x22)) * (IntKind.u64.wrap (x1)))))) / 4294967296) x20 x21 (wrap64 (x22 + 1))) else (none)) else (none)) else (none)) else (if 0 ≤ (x0.length : Int) then (if (x0.length : Int) < (x7.length : Int) then ((mul_fits.f k (x7.set ((x0.length : Int) : Int).toNat ((x8) % 4294967296))).bind fun t118 => (some t118)) else (none)) else (none))
def mul_Small.f (k : Nat) (l0 : List Int) (a1 : Int) (a2 : Int) : Option (List Int) := (nat_May.f l0).bind fun t111 => (if t111 = true then (if 0 ≤ (wrap64 ((l0.length : Int) + 1)) then (if (wrap64 ((l0.length : Int) + 1) : Int).toNat ≤ 70368744177664 then (mul_Small.l0 k l0 a1 (List.replicate (wrap64 ((l0.length : Int) + 1) : Int).toNat 0) (IntKind.u64.wrap (a2)) l0 (l0.length : Int) 0) else (none)) else (none)) else (some ([] : List Int)))
theorem mul_Small.mono_l : ∀ k, (∀ y0 y1 y2 y3 y4 y5 y6, LeO (mul_Small.l0 k y0 y1 y2 y3 y4 y5 y6) (mul_Small.l0 (k + 1) y0 y1 y2 y3 y4 y5 y6))
  | 0 => fun _ _ _ _ _ _ _ r h => by simp [mul_Small.l0] at h
  | k + 1 => by
    have ih0 := mul_Small.mono_l k
    · intro y0 y1 y2 y3 y4 y5 y6
      unfold mul_Small.l0
      repeat' first
      | (with_reducible exact ih0 _ _ _ _ _ _ _)
      | (with_reducible exact mul_fits.mono _ _)
      | (with_reducible exact LeO.refl _)
      | (with_reducible exact LeO.none _)
      | (with_reducible refine LeO.ite ?_ ?_)
      | (with_reducible refine LeO.bind ?_ (fun _ => ?_))
      | exact ih0 _ _ _ _ _ _ _
      | exact mul_fits.mono _ _
      | exact LeO.none _
      | refine LeO.ite ?_ ?_
      | refine LeO.bind ?_ (fun _ => ?_)
theorem mul_Small.mono : ∀ a0 a1 a2 k, LeO (mul_Small.f k a0 a1 a2) (mul_Small.f (k + 1) a0 a1 a2) := by
  intro a0 a1 a2 k
  have ih0 := mul_Small.mono_l k
  unfold mul_Small.f
  repeat' first
      | (with_reducible exact ih0 _ _ _ _ _ _ _)
      | (with_reducible exact mul_fits.mono _ _)
      | (with_reducible exact LeO.refl _)
      | (with_reducible exact LeO.none _)
      | (with_reducible refine LeO.ite ?_ ?_)
      | (with_reducible refine LeO.bind ?_ (fun _ => ?_))
      | exact ih0 _ _ _ _ _ _ _
      | exact mul_fits.mono _ _
      | exact LeO.none _
      | refine LeO.ite ?_ ?_
      | refine LeO.bind ?_ (fun _ => ?_)
set_option maxHeartbeats 8000000 in
set_option maxRecDepth 100000 in
theorem mul_Small.calls (k : Nat) (A0 : Option Addr) (c0 : Nat) (l0 : List Int) (a1 : Int) (a2 : Int) (r : List Int) (w : World) (hr0 : Kd.C (Kd.int .u32) w A0 l0.length l0) (hc0 : l0.length ≤ c0) (h : mul_Small.f k l0 a1 a2 = some r) :
    Calls Tryd.prog 39 #[.slice A0 l0.length c0, .int .u32 a1, .int .u32 a2] w fun e w' => ∃ v0_ : Value, e = .returned (v0_) ∧ Kd.R (Kd.int .u32) 39 w' w.heap.size (fun _ => True) v0_ r ∧ Below w.heap.size w w' := by
  have HR0 := Aside0.mk hr0
  have HC0 := Aside0.mk hc0
  clear hr0 hc0
  have HB := Aside0.mk (Below.refl w.heap.size w)
  have H : ((nat_May.f l0).bind fun t111 => (if t111 = true then (if 0 ≤ (wrap64 ((l0.length : Int) + 1)) then (if (wrap64 ((l0.length : Int) + 1) : Int).toNat ≤ 70368744177664 then (mul_Small.l0 k l0 a1 (List.replicate (wrap64 ((l0.length : Int) + 1) : Int).toNat 0) (IntKind.u64.wrap (a2)) l0 (l0.length : Int) 0) else (none)) else (none)) else (some ([] : List Int)))) = some r := h
  clear h
  replace H := Option.bind_eq_some_iff.mp H
  obtain ⟨t111, A40, H⟩ := H
  replace H : (if t111 = true then (if 0 ≤ (wrap64 ((l0.length : Int) + 1)) then (if (wrap64 ((l0.length : Int) + 1) : Int).toNat ≤ 70368744177664 then (mul_Small.l0 k l0 a1 (List.replicate (wrap64 ((l0.length : Int) + 1) : Int).toNat 0) (IntKind.u64.wrap (a2)) l0 (l0.length : Int) 0) else (none)) else (none)) else (some ([] : List Int))) = some r := H
  have A4 := Aside0.mk A40
  clear A40
  by_cases c5 : t111 = true
  · subst c5
    have H1 : (if 0 ≤ (wrap64 ((l0.length : Int) + 1)) then (if (wrap64 ((l0.length : Int) + 1) : Int).toNat ≤ 70368744177664 then (mul_Small.l0 k l0 a1 (List.replicate (wrap64 ((l0.length : Int) + 1) : Int).toNat 0) (IntKind.u64.wrap (a2)) l0 (l0.length : Int) 0) else (none)) else (none)) = some r := by rw [if_pos rfl] at H; exact H
    clear H
    have H := H1
    clear H1
    obtain ⟨ji6, hji6⟩ : ∃ j_ : Int, (wrap64 ((l0.length : Int) + 1)) = j_ := ⟨_, rfl⟩
    replace H : (if 0 ≤ (ji6) then (if (ji6 : Int).toNat ≤ 70368744177664 then (mul_Small.l0 k l0 a1 (List.replicate (ji6 : Int).toNat 0) (IntKind.u64.wrap (a2)) l0 (l0.length : Int) 0) else (none)) else (none)) = some r := by first | (rw [hji6] at H; exact H) | (simp only [hji6] at H ⊢; exact H)
    (try rw [hji6] at A4)
    have hji6w : (IntKind.i64.wrap ((l0.length : Int) + 1)) = ji6 := (i64_w _).trans hji6
    by_cases c7 : 0 ≤ (ji6)
    · rw [if_pos c7] at H
      have c7b0 := eq_true c7
      have c7b1 : decide (0 ≤ (ji6)) = true := decide_eq_true c7
      clear c7
      by_cases c8 : (ji6 : Int).toNat ≤ 70368744177664
      · rw [if_pos c8] at H
        have c8b0 := eq_true c8
        have c8b1 : decide ((ji6 : Int).toNat ≤ 70368744177664) = true := decide_eq_true c8
        clear c8
        obtain ⟨y112, hy112⟩ : ∃ y_ : List Int, y_ = (List.replicate (ji6 : Int).toNat 0) := ⟨_, rfl⟩
        replace H : (mul_Small.l0 k l0 a1 y112 (IntKind.u64.wrap (a2)) l0 (l0.length : Int) 0) = some r := by first | (rw [hy112]; with_reducible exact H) | (have H2_ := (Option.bind_some _ _).symm.trans H; rw [hy112]; with_reducible exact H2_) | (have H2_ := (Option.bind_some _ _).symm.trans H; with_reducible exact H2_) | with_reducible exact H | (rw [hy112]; exact H) | exact H
        have Ny112 := Aside0.mk hy112
        clear hy112
        have H' := Aside0.mk H
        clear H
        go_enter Tryd.func39, Tryd.ntmps39
        go_wp2_with (first | ((with_reducible refine gate_callee (f := 22) rfl ?_); refine goesL_ (some 12) rfl rfl Tryd.func22 (by kernel_rfl) rfl #[.slice A0 l0.length c0] rfl (by (try simp only [List.map_toArray, List.map_cons, List.map_nil]); first | done | rfl | (simp only [List.length_drop, List.length_take]; rfl)) ?_; (with_reducible refine (nat_May.calls _ _ l0 true _ ?side1 ?side2 A4.out).mono ?_); (case side1 => repeat (first | exact HR0.out | (with_reducible refine Kd.C_alloc ?_ _) | (with_reducible refine Kd.C_drewN ?_ _) | (with_reducible refine Kd.C_drew ?_))); (case side2 => exact HC0.out); rintro e w' ⟨rfl, ⟨nd, rfl⟩⟩; refine ⟨_, rfl, ?_⟩) | ((with_reducible refine gate_dst (N := 17) rfl ?_); refine Kd.R_make (Kd.int .u32) _ 39 rfl (N := 17) rfl 22 _ _ rfl ji6 rfl rfl Tryd.underlying22 (.int .u32 0) 4 info39 rfl (by decide) (by omega) 0 (ok := fun _ => True) (okp := fun _ => True) rfl (fun _ hk => hk) trivial (of_decide_eq_true (by first | (with_reducible assumption) | assumption)) (Nat.le_trans (Nat.mul_le_mul_right _ (of_decide_eq_true (by first | (with_reducible assumption) | assumption) : ji6.toNat ≤ 70368744177664)) (by omega)) (Below.refl _ _) (Nat.le_refl _) ?_; intro v113 w9 ho10 hb hg_ hnew_; clear hg_ hnew_; (first | rw [← Ny112.out] at ho10 | (simp only [Int.reduceToNat] at ho10; rw [← Ny112.out] at ho10)); have n0_ := Aside0.mk (Kd.R_lower ho10 (below_size (by repeat (first | (with_reducible first | exact HB.out | apply below_alloc | apply pw_below_drewN | apply below_drew1) | exact HB.out)))); have n1_ := Aside0.mk (below_step (by repeat (first | (with_reducible first | exact HB.out | apply below_alloc | apply pw_below_drewN | apply below_drew1) | exact HB.out)) hb); clear HB; have HO114 := n0_; have HB := n1_; clear n0_ n1_; clear hb ho10))
        go_loopg [8, 22] k (fun kq v8 v22 w' => ∃ (x7_1 : List Int) (x8_1 : Int) (x22_1 : Int), v8 = .int .u64 x8_1 ∧ v22 = .int .i64 x22_1 ∧ Aside0 (mul_Small.l0 kq l0 a1 x7_1 x8_1 l0 (l0.length : Int) x22_1 = some r) ∧ Aside0 (kq ≤ k) ∧ Aside0 (Kd.R (Kd.int .u32) 39 w' w.heap.size (fun _ => True) v113 x7_1) ∧ Aside0 (Below w.heap.size w w'))
        case atStart => exact ⟨(y112), (IntKind.u64.wrap (a2)), (0), (by first | rfl | (simp; done) | (simp [*]; done)), (by first | rfl | (simp; done) | (simp [*]; done)), H', ⟨Nat.le_refl _⟩, ⟨by (with_reducible repeat (first | apply Kd.R_alloc | apply Kd.R_drewN | apply Kd.R_drew)); exact HO114.out⟩, ⟨by repeat (first | (with_reducible first | exact HB.out | apply below_alloc | apply pw_below_drewN | apply below_drew1) | exact HB.out)⟩⟩
        case round =>
          clear H'
          try clear c2
          try clear p2
          try clear c3
          try clear c5
          try clear p6
          try clear c7
          try clear c7b0
          try clear c7b1
          try clear c8
          try clear c8b0
          try clear c8b1
          obtain ⟨x7_1, x8_1, x22_1, rfl, rfl, HA, HK1, HO_7, HB⟩ := hrel
          cases gk with
          | zero => exact absurd HA.out (by simp [mul_Small.l0])
          | succ k1 =>
            have H := HA.out
            clear HA
            simp only [mul_Small.l0] at H
            by_cases c11 : x22_1 < (l0.length : Int)
            · rw [if_pos c11] at H
              have c11b0 : decide (x22_1 < (l0.length : Int)) = true := decide_eq_true c11
              clear c11
              by_cases c12 : 0 ≤ x22_1
              · rw [if_pos c12] at H
                have c12b0 : decide (0 ≤ x22_1) = true := decide_eq_true c12
                clear c12
                by_cases c13 : x22_1 < (l0.length : Int)
                · rw [if_pos c13] at H
                  have c13b0 : decide (x22_1 < (l0.length : Int)) = true := decide_eq_true c13
                  clear c13
                  by_cases c14 : x22_1 < (x7_1.length : Int)
                  · rw [if_pos c14] at H
                    have c14b0 : decide (x22_1 < (x7_1.length : Int)) = true := decide_eq_true c14
                    clear c14
                    obtain ⟨y116, hy116⟩ : ∃ y_ : List Int, y_ = (x7_1.set (x22_1 : Int).toNat ((IntKind.u64.wrap (x8_1 + (IntKind.u64.wrap ((IntKind.u64.wrap (rd l0 x22_1)) * (IntKind.u64.wrap (a1)))))) % 4294967296)) := ⟨_, rfl⟩
                    replace H : (mul_Small.l0 k1 l0 a1 y116 ((IntKind.u64.wrap (x8_1 + (IntKind.u64.wrap ((IntKind.u64.wrap (rd l0 x22_1)) * (IntKind.u64.wrap (a1)))))) / 4294967296) l0 (l0.length : Int) (wrap64 (x22_1 + 1))) = some r := by first | (rw [hy116]; with_reducible exact H) | (have H2_ := (Option.bind_some _ _).symm.trans H; rw [hy116]; with_reducible exact H2_) | (have H2_ := (Option.bind_some _ _).symm.trans H; with_reducible exact H2_) | with_reducible exact H | (rw [hy116]; exact H) | exact H
                    have Ny116 := Aside0.mk hy116
                    clear hy116
                    have H' := Aside0.mk H
                    clear H
                    have p115 : 0 ≤ (x22_1 : Int) := of_decide_eq_true (by first | (with_reducible assumption) | assumption)
                    have q115 : x22_1 < (l0.length : Int) := of_decide_eq_true (by first | (with_reducible assumption) | assumption)
                    obtain ⟨ad115, e115, hx115_0⟩ := Kd.at_int HR0.out x22_1 p115 q115
                    cases e115
                    replace hx115_0 := (HB.out.cell (World.block_lt_of_cell? w _ hx115_0)).trans hx115_0
                    replace p115 := eq_true p115
                    replace q115 := eq_true q115
                    have p15 : 0 ≤ (x22_1 : Int) := of_decide_eq_true (by first | (with_reducible assumption) | assumption)
                    have q15 : (x22_1 : Int) < ((x7_1.length : Int) : Int) := of_decide_eq_true (by first | (with_reducible assumption) | assumption)
                    obtain ⟨go15, co15, eo15, gb15, gl15, cl15, HG15⟩ := Kd.R_form HO_7.out (by omega)
                    (first | cases eo15 | (injection eo15 with ea_ en_ ec_; (first | subst ea_ | (injection ea_ with ea_; subst ea_)); subst ec_; clear en_))
                    have GB15 := Aside0.mk gb15
                    have GG15 := Aside0.mk HG15
                    clear gb15 gl15 HG15
                    obtain ⟨hx15_0, hf15_0⟩ := Kd.R_celln 0 HO_7.out (x22_1 : Int) p15 q15
                    replace p15 := eq_true p15
                    replace q15 := eq_true q15
                    have HP16 := Kd.R_putg HO_7.out (x22_1 : Int) ((IntKind.u64.wrap (x8_1 + (IntKind.u64.wrap ((IntKind.u64.wrap (rd l0 x22_1)) * (IntKind.u64.wrap (a1)))))) % 4294967296)
                    go_wp2_with (first | ((with_reducible refine gate_store (t := 39) (p := 38) rfl ?_); refine store_event (t := 39) (p := 38) (v := ?vo_w17) (w1 := (wr.setCell ⟨go15, (x22_1 : Int).toNat, none⟩ (.int .u32 ((IntKind.u64.wrap (x8_1 + (IntKind.u64.wrap ((IntKind.u64.wrap (rd l0 x22_1)) * (IntKind.u64.wrap (a1)))))) % 4294967296)))) ?hg ?ho ?hn ?hr ?_; (case ho => rfl); (case hg => rfl); (case hn => rfl); (case hr => first | (go_simp; done) | (go_simp; rfl)); intro w17 hw; have hg : wr.grownBy w17 (some go15) := (by rw [hw]; exact HP16.2); have hp_ : Kd.R (Kd.int .u32) 39 w17 w.heap.size (fun _ => True) (.slice (some ⟨go15, 0, none⟩) x7_1.length co15) y116 := (by rw [hw, Ny116.out]; exact HP16.1); clear HP16; have n0_ := Aside0.mk (hp_); have n1_ := Aside0.mk ((by rw [hw]; exact below_set (HB.out) GB15.out : Below w.heap.size w w17)); clear HO_7; clear HB; have HO_7 := n0_; have HB := n1_; clear n0_ n1_; clear hg hw hp_))
                    go_roundg k1
                    case measure => have := HK1.out; omega
                    case rel => exact ⟨(y116), ((IntKind.u64.wrap (x8_1 + (IntKind.u64.wrap ((IntKind.u64.wrap (rd l0 x22_1)) * (IntKind.u64.wrap (a1)))))) / 4294967296), (wrap64 (x22_1 + 1)), (by first | rfl | (simp; done) | (simp [*]; done)), (by first | rfl | (simp; done) | (simp [*]; done)), H', ⟨by have := HK1.out; omega⟩, ⟨by (with_reducible repeat (first | apply Kd.R_alloc | apply Kd.R_drewN | apply Kd.R_drew)); exact HO_7.out⟩, ⟨by repeat (first | (with_reducible first | exact HB.out | apply below_alloc | apply pw_below_drewN | apply below_drew1) | exact HB.out)⟩⟩
                  · rw [if_neg c14] at H
                    exact absurd H (by simp)
                · rw [if_neg c13] at H
                  exact absurd H (by simp)
              · rw [if_neg c12] at H
                exact absurd H (by simp)
            · rw [if_neg c11] at H
              have c11b0 : decide (x22_1 < (l0.length : Int)) = false := decide_eq_false c11
              clear c11
              by_cases c18 : 0 ≤ (l0.length : Int)
              · rw [if_pos c18] at H
                have c18b0 : decide (0 ≤ (l0.length : Int)) = true := decide_eq_true c18
                have c18b1 : decide (0 ≤ l0.length) = true := decide_eq_true (by omega)
                clear c18
                by_cases c19 : (l0.length : Int) < (x7_1.length : Int)
                · rw [if_pos c19] at H
                  have c19b0 : decide ((l0.length : Int) < (x7_1.length : Int)) = true := decide_eq_true c19
                  have c19b1 : decide (l0.length < x7_1.length) = true := decide_eq_true (Int.ofNat_lt.mp c19)
                  clear c19
                  obtain ⟨y117, hy117⟩ : ∃ y_ : List Int, y_ = (x7_1.set ((l0.length : Int) : Int).toNat ((x8_1) % 4294967296)) := ⟨_, rfl⟩
                  replace H : ((mul_fits.f k1 y117).bind fun t118 => (some t118)) = some r := by first | (rw [hy117]; with_reducible exact H) | (have H2_ := (Option.bind_some _ _).symm.trans H; rw [hy117]; with_reducible exact H2_) | (have H2_ := (Option.bind_some _ _).symm.trans H; with_reducible exact H2_) | with_reducible exact H | (rw [hy117]; exact H) | exact H
                  have Ny117 := Aside0.mk hy117
                  clear hy117
                  replace H := Option.bind_eq_some_iff.mp H
                  obtain ⟨t118, A210, H⟩ := H
                  replace H : (some t118) = some r := H
                  have A21 := Aside0.mk A210
                  clear A210
                  obtain rfl := Option.some.inj H
                  have p20 : 0 ≤ ((l0.length : Int) : Int) := of_decide_eq_true (by first | (with_reducible assumption) | assumption)
                  have q20 : ((l0.length : Int) : Int) < ((x7_1.length : Int) : Int) := of_decide_eq_true (by first | (with_reducible assumption) | assumption)
                  obtain ⟨go20, co20, eo20, gb20, gl20, cl20, HG20⟩ := Kd.R_form HO_7.out (by omega)
                  (first | cases eo20 | (injection eo20 with ea_ en_ ec_; (first | subst ea_ | (injection ea_ with ea_; subst ea_)); subst ec_; clear en_))
                  have GB20 := Aside0.mk gb20
                  have GG20 := Aside0.mk HG20
                  clear gb20 gl20 HG20
                  obtain ⟨hx20_0, hf20_0⟩ := Kd.R_celln 0 HO_7.out ((l0.length : Int) : Int) p20 q20
                  (try simp only [Int.toNat_natCast] at hx20_0 hf20_0)
                  replace p20 := eq_true p20
                  replace q20 := eq_true q20
                  have HP22 := Kd.R_putg HO_7.out ((l0.length : Int) : Int) ((x8_1) % 4294967296)
                  go_wp2_with (first | ((with_reducible refine gate_store (t := 39) (p := 47) rfl ?_); refine store_event (t := 39) (p := 47) (v := ?vo_w23) (w1 := (wr.setCell ⟨go20, ((l0.length : Int) : Int).toNat, none⟩ (.int .u32 ((x8_1) % 4294967296)))) ?hg ?ho ?hn ?hr ?_; (case ho => rfl); (case hg => rfl); (case hn => rfl); (case hr => first | (go_simp; done) | (go_simp; rfl)); intro w23 hw; have hg : wr.grownBy w23 (some go20) := (by rw [hw]; exact HP22.2); have hp_ : Kd.R (Kd.int .u32) 39 w23 w.heap.size (fun _ => True) (.slice (some ⟨go20, 0, none⟩) x7_1.length co20) y117 := (by rw [hw, Ny117.out]; exact HP22.1); clear HP22; have n0_ := Aside0.mk (hp_); have n1_ := Aside0.mk ((by rw [hw]; exact below_set (HB.out) GB20.out : Below w.heap.size w w23)); clear HO_7; clear HB; have HO_7 := n0_; have HB := n1_; clear n0_ n1_; clear hg hw hp_) | ((with_reducible refine gate_callee (f := 54) rfl ?_); refine goesL_ (some 49) rfl rfl Tryd.func54 (by kernel_rfl) rfl #[.slice (some ⟨go20, 0, none⟩) x7_1.length co20] rfl (by (try simp only [List.map_toArray, List.map_cons, List.map_nil]); first | done | rfl | (simp only [List.length_drop, List.length_take]; rfl)) ?_; (with_reducible refine (mul_fits.calls k1 (fun k_ => some k_ = (.slice (some ⟨go20, 0, none⟩) x7_1.length co20 : Value).ownBlock) (.slice (some ⟨go20, 0, none⟩) x7_1.length co20) y117 t118 w _ ?side1 ?side2 A21.out).mono ?_); (case side1 => repeat (first | (with_reducible first | exact HB.out | apply below_alloc | apply pw_below_drewN | apply below_drew1) | exact HB.out)); (case side2 => exact Kd.R_tight rfl HO_7.out); rintro e w24 ⟨v119, rfl, ho0, hb, hkp⟩; refine ⟨_, rfl, ?_⟩; have n0_ := Aside0.mk (Kd.R_mono (ok' := fun k_ => True) ho0 (fun k_ hk_ => trivial)); have n1_ := Aside0.mk (hb); clear HB; clear HO_7; have HO120 := n0_; have HB := n1_; clear n0_ n1_; (try clear hb); (try clear hkp); (try clear ho0)))
                  go_ret
                  exact ⟨_, by first | rfl | (simp [errW_none, errW_some] <;> rfl) | (simp only [← hji6]; first | rfl | (simp [errW_none, errW_some] <;> rfl)) | (simp [*, errW_none, errW_some] <;> rfl), by (with_reducible repeat (first | apply Kd.R_alloc | apply Kd.R_drewN | apply Kd.R_drew)); exact HO120.out, by repeat (first | (with_reducible first | exact HB.out | apply below_alloc | apply pw_below_drewN | apply below_drew1) | exact HB.out)⟩
                · rw [if_neg c19] at H
                  exact absurd H (by simp)
              · rw [if_neg c18] at H
                exact absurd H (by simp)
      · rw [if_neg c8] at H
        exact absurd H (by simp)
    · rw [if_neg c7] at H
      exact absurd H (by simp)
  · replace c5 := Bool.eq_false_iff.mpr c5
    subst c5
    have H1 : (some ([] : List Int)) = some r := by rw [if_neg (show ¬ (false = true) by decide)] at H; exact H
    clear H
    have H := H1
    clear H1
    obtain rfl := Option.some.inj H
    go_enter Tryd.func39, Tryd.ntmps39
    go_wp2_with (first | ((with_reducible refine gate_callee (f := 22) rfl ?_); refine goesL_ (some 12) rfl rfl Tryd.func22 (by kernel_rfl) rfl #[.slice A0 l0.length c0] rfl (by (try simp only [List.map_toArray, List.map_cons, List.map_nil]); first | done | rfl | (simp only [List.length_drop, List.length_take]; rfl)) ?_; (with_reducible refine (nat_May.calls _ _ l0 false _ ?side1 ?side2 A4.out).mono ?_); (case side1 => repeat (first | exact HR0.out | (with_reducible refine Kd.C_alloc ?_ _) | (with_reducible refine Kd.C_drewN ?_ _) | (with_reducible refine Kd.C_drew ?_))); (case side2 => exact HC0.out); rintro e w' ⟨rfl, ⟨nd, rfl⟩⟩; refine ⟨_, rfl, ?_⟩))
    go_ret
    exact ⟨_, by first | rfl | (simp [errW_none, errW_some] <;> rfl) | (simp [*, errW_none, errW_some] <;> rfl), by first | exact Kd.R_nil _ _ _ _ _ | exact Kd.N_nil _ _ _ _ _ | exact Kd.V_nil _ _ _ _ _ | exact Kd.Q_nil _ _ _ _ _ | exact Kd.S_nil _ _ _ _ _, by repeat (first | (with_reducible first | exact HB.out | apply below_alloc | apply pw_below_drewN | apply below_drew1) | exact HB.out)⟩
theorem mul_Small_ev_l (a : List Int) (w : Int) (hr : Nums.rng a = true) (hla : a.length ≤ 70368744177663) (hw : 0 ≤ w ∧ w < 4294967296) :
    ∀ (d i : Nat) (out : List Int) (c : Int), i + d = a.length → out.length = a.length + 1 → Nums.rng out = true → 0 ≤ c → c < 4294967296 → Nums.val (out.drop i) = 0 →
      Nums.Ev (fun k => mul_Small.l0 k a w out c a (a.length : Int) (i : Int)) (Nums.lim (Nums.val (out.take i) + 4294967296 ^ i * (Nums.val (a.drop i) * w.toNat + c.toNat))) := by
  intro d
  induction d with
  | zero =>
    intro i out c hi ho hro h0 h1 hz
    obtain rfl : i = a.length := by omega
    rw [List.drop_eq_nil_of_le (Nat.le_refl _)]
    simp only [Nums.val, Nat.zero_mul, Nat.zero_add]
    have hv : Nums.val (out.set a.length (c % 4294967296)) = Nums.val (out.take a.length) + 4294967296 ^ a.length * c.toNat := by
      rw [Nums.val_take_drop _ a.length (by rw [List.length_set]; omega), Nums.val_drop_set _ _ _ (by omega), List.drop_eq_nil_of_le (by omega)]
      simp only [Nums.val, Nat.mul_zero, Nat.add_zero, List.take_set_of_le (Nat.le_refl _)]
      rw [show (c % 4294967296).toNat = c.toNat by omega]
    rw [← hv]
    refine Nums.Ev.succ (g := fun k => (mul_fits.f k (out.set a.length (c % 4294967296))).bind fun t => some t) (Nums.Ev.bind (f := fun k => mul_fits.f k (out.set a.length (c % 4294967296))) (mul_fits_ev (out.set a.length (c % 4294967296)) (by rw [List.length_set]; omega) (Nums.rng_set hro a.length (x := c % 4294967296) (by omega))) (Nums.Ev.some _)) fun k => ?_
    simp only [mul_Small.l0]
    rw [if_neg (by omega), if_pos (by omega), if_pos (by omega), Int.toNat_natCast]
  | succ d ih =>
    intro i out c hi ho hro h0 h1 hz
    have ha := Nums.rng_get hr (i := i) (by omega)
    have e3 : rd a (i : Int) = a[i] := by simp [rd, List.getD_eq_getElem?_getD, List.getElem?_eq_getElem (show i < a.length by omega)]
    obtain ⟨x, hx⟩ : ∃ x, a[i] = x := ⟨_, rfl⟩
    rw [hx] at ha e3
    have hm0 : 0 ≤ x * w := Int.mul_nonneg ha.1 hw.1
    have hm1 : x * w ≤ 4294967295 * 4294967295 := Int.le_trans (Int.mul_le_mul_of_nonneg_right (show x ≤ 4294967295 by omega) hw.1) (Int.mul_le_mul_of_nonneg_left (by omega) (by decide))
    obtain ⟨p, hp⟩ : ∃ p, x * w = p := ⟨_, rfl⟩
    rw [hp] at hm0 hm1
    have ew : IntKind.u64.wrap (c + IntKind.u64.wrap (IntKind.u64.wrap x * IntKind.u64.wrap w)) = c + p := by
      rw [u64_wrap x, u64_wrap w, show x % 18446744073709551616 = x by omega, show w % 18446744073709551616 = w by omega, hp, u64_wrap p, u64_wrap]
      omega
    have hz' : Nums.val (out.drop (i + 1)) = 0 := by
      rw [Nums.val_drop _ _ (by omega)] at hz
      omega
    have h2 := ih (i + 1) (out.set i ((c + p) % 4294967296)) ((c + p) / 4294967296) (by omega) (by simpa using ho) (Nums.rng_set hro _ (by omega)) (by omega) (by omega) (by rw [List.drop_set_of_lt (by omega)]; exact hz')
    have key : Nums.val ((out.set i ((c + p) % 4294967296)).take (i + 1)) + 4294967296 ^ (i + 1) * (Nums.val (a.drop (i + 1)) * w.toNat + ((c + p) / 4294967296).toNat) = Nums.val (out.take i) + 4294967296 ^ i * (Nums.val (a.drop i) * w.toNat + c.toNat) := by
      rw [Nums.val_take_succ _ _ (by simp; omega), List.take_set_of_le (Nat.le_refl _), Nums.val_drop a i (by omega), hx]
      simp only [List.getElem_set_self]
      have k0 : x.toNat * w.toNat = p.toNat := by
        have : ((x.toNat * w.toNat : Nat) : Int) = p := by rw [Int.natCast_mul, show ((x.toNat : Nat) : Int) = x by omega, show ((w.toNat : Nat) : Int) = w by omega, hp]
        omega
      have k1 : ((c + p) % 4294967296).toNat + 4294967296 * ((c + p) / 4294967296).toNat = p.toNat + c.toNat := by omega
      obtain ⟨V, hV⟩ : ∃ V, Nums.val (a.drop (i + 1)) * w.toNat = V := ⟨_, rfl⟩
      rw [Nat.add_mul, Nat.mul_assoc, hV, k0, Nat.pow_succ, Nat.mul_assoc, Nat.add_assoc, ← Nat.mul_add]
      congr 2
      omega
    rw [key] at h2
    refine h2.succ fun k => ?_
    simp only [mul_Small.l0]
    rw [if_pos (by omega), if_pos (by omega), if_pos (by omega), if_pos (by omega), e3, ew, Int.toNat_natCast]
    congr 1
    simp only [wrap64]
    omega
theorem mul_Small_ev (a : List Int) (w c : Int) (hr : Nums.rng a = true) (hm : Nums.may a = true) (hw : 0 ≤ w ∧ w < 4294967296) (hc : 0 ≤ c ∧ c < 4294967296) :
    Nums.Ev (fun k => mul_Small.f k a w c) (Nums.lim (Nums.val a * w.toNat + c.toNat)) := by
  have hl := (Nums.may_iff.1 hm).1
  have h := mul_Small_ev_l a w hr (by omega) hw a.length 0 (List.replicate (a.length + 1) 0) c (by omega) (by simp) (Nums.rng_zeros _) hc.1 hc.2 (Nums.val_zeros _)
  simp only [List.take_zero, Nums.val, Nat.pow_zero, List.drop_zero, Nat.one_mul, Nat.zero_add] at h
  refine h.congr fun k => ?_
  have e1 : wrap64 ((a.length : Int) + 1) = (a.length : Int) + 1 := by unfold wrap64; omega
  unfold mul_Small.f
  rw [nat_May_eq, hm, Option.bind_some, if_pos rfl, e1, if_pos (by omega), if_pos (by omega), show ((a.length : Int) + 1).toNat = a.length + 1 by omega, u64_wrap, show c % 18446744073709551616 = c by omega]
  rfl

/-! ### dec_Parse: function 14 -/
/-- The natural of pieces, on top of one; none: it has too many limbs. -/
def pgo : List (Nat × Nat) → List Int → Option (List Int)
  | [], L => some L
  | (w, t) :: ps, L => if L ≠ [] ∧ Nums.lim (Nums.val L * t + w) = [] then none else pgo ps (Nums.lim (Nums.val L * t + w))
def dec_Parse.f (a0 : ByteArray) : Option (List Int × Int) := if a0.size ≤ 140737488355328 then (dec_form.f a0).bind fun b => if b = true then (if (a0.data.toList.all fun c => decide (48 ≤ c.toNat) && decide (c.toNat ≤ 57)) = true then some (match pgo (Nums.parts a0.data.toList) [] with | some L => (L, 0) | none => ([], 40)) else none) else some ([], 4) else none
section
attribute [local go_sem] Oper.semAt_some
set_option maxRecDepth 100000 in
set_option maxHeartbeats 4000000 in
theorem dec_Parse.calls_no (a0 : ByteArray) (w : World) (h : dec_form.f a0 = some false) :
    Calls Tryd.prog 14 #[.string a0] w fun e w' => e = .returned (.tuple #[.slice none 0 0, .int .i64 4]) ∧ Below w.heap.size w w' := by
  have HF := Aside0.mk h
  clear h
  refine (callsIn_wide (n := 3)).1 ?_
  refine callsIn_of_wp_marks Tryd.func14 rfl trivial ?_
  simp only [Tryd.ntmps14, List.size_toArray, List.length_cons, List.length_nil, Nat.reduceAdd, Nat.reduceSub, Array.replicate_succ, Array.replicate_zero, List.push_toArray, List.append_toArray, List.nil_append, List.cons_append]
  gi_wp2_with (refine ⟨trivial, ?_⟩; gi_at_call 37; refine (callsIn_wide.2 (dec_form.calls _ _ _ HF.out)).mono ?_; rintro e w1 ⟨rfl, hB1⟩; have hB0 := Aside0.mk hB1; go_must (have hN := Boxed.under (Boxed.alloc (Boxed.new w 22 (.slice none 0 0)) (.cells #[.int .i64 0] 26)) hB1; have hE := Boxed.under (Boxed.new (w.alloc (.cells #[.slice none 0 0] 22)) 26 (.int .i64 0)) hB1; rw [World.size_alloc] at hE; have hNc := hN.cell; have hNf := hN.frozen; have hEc := hE.cell; have hEf := hE.frozen); clear hB1)
  have n2 := (Boxed.far (Boxed.set (.slice none 0 0) hN) (c := w.heap.size + 1) (by omega) (.int .i64 4)).cell
  have e2 := (Boxed.set (.int .i64 4) (Boxed.far hE (c := w.heap.size) (by omega) (.slice none 0 0))).cell
  refine ⟨.tuple #[.slice none 0 0, .int .i64 4], by simp [results, Tryd.f14, go_sem, n2, e2], rfl, ?_⟩
  exact ((below_alloc (below_alloc (Below.refl _ _) _) _).trans (hB0.out.mono (by simp; omega)) |>.setCell (p := ⟨w.heap.size, 0, none⟩) (by simp) _).setCell (p := ⟨w.heap.size + 1, 0, none⟩) (by simp) _
theorem pgo_ev (L : List Int) (hr : Nums.rng L = true) (hm : Nums.may L = true) (x : parts_el) : ∃ k, mul_Small.f k L (x.1.2 : Int) (x.1.1 : Int) = some (Nums.lim (Nums.val L * x.1.2 + x.1.1)) := by
  have h := mul_Small_ev L (x.1.2 : Int) (x.1.1 : Int) hr hm ⟨by omega, by have := x.2.2; omega⟩ ⟨by omega, by have := x.2.1; omega⟩
  simpa using h.get
set_option maxRecDepth 100000 in
set_option maxHeartbeats 1000000 in
theorem dec_Parse.calls_yes (a0 : ByteArray) (w : World) (h : dec_form.f a0 = some true) (hs : a0.size ≤ 140737488355328) (hdg : ∀ b ∈ a0.data.toList, 48 ≤ b.toNat ∧ b.toNat ≤ 57) (R : List Int → Int → Prop)
    (h1 : ∀ L, pgo (Nums.parts a0.data.toList) [] = some L → R L 0) (h2 : pgo (Nums.parts a0.data.toList) [] = none → R [] 40) :
    Calls Tryd.prog 14 #[.string a0] w fun e w' => ∃ (v0_ : Value) (r1 : List Int) (r2 : Int), e = .returned (.tuple #[v0_, .int .i64 r2]) ∧ R r1 r2 ∧ Kd.R (Kd.int .u32) 39 w' w.heap.size (fun _ => True) v0_ r1 ∧ Below w.heap.size w w' := by
  have HF := Aside0.mk h
  have H1 := Aside0.mk h1
  have H2 := Aside0.mk h2
  have HDG := Aside0.mk hdg
  clear h h1 h2 hdg
  refine (callsIn_wide (n := 3)).1 ?_
  refine callsIn_of_wp_marks Tryd.func14 rfl trivial ?_
  simp only [Tryd.ntmps14, List.size_toArray, List.length_cons, List.length_nil, Nat.reduceAdd, Nat.reduceSub, Array.replicate_succ, Array.replicate_zero, List.push_toArray, List.append_toArray, List.nil_append, List.cons_append]
  gi_wp2_with (first | (refine ⟨trivial, ?_⟩; gi_at_call 37; refine (callsIn_wide.2 (dec_form.calls _ _ _ HF.out)).mono ?_; rintro e w1 ⟨rfl, hB1⟩; have hB0 := Aside0.mk hB1; go_must (have hN := Boxed.under (Boxed.alloc (Boxed.new w 22 (.slice none 0 0)) (.cells #[.int .i64 0] 26)) hB1; have hE := Boxed.under (Boxed.new (w.alloc (.cells #[.slice none 0 0] 22)) 26 (.int .i64 0)) hB1; rw [World.size_alloc] at hE); clear hB1) | (refine ⟨trivial, ?_⟩; gi_at_call 38; refine (parts.in_ Fence.wide _ trivial rfl _ _).mono ?_; rintro e w' ⟨rfl, rfl⟩))
  have hN0 : w.heap.size + 2 ≤ w1.heap.size := by have := hB0.out.size; simpa using this
  have HB1 : Below w.heap.size w w1 := (below_alloc (below_alloc (Below.refl _ _) _) _).trans (hB0.out.mono (by simp; omega))
  have bN := (hN.alloc (.cells #[.slice none 0 0] 22)).alloc (.cells #[.string a0] 9)
  have bE := (hE.alloc (.cells #[.slice none 0 0] 22)).alloc (.cells #[.string a0] 9)
  have bL := (Boxed.new w1 22 (.slice none 0 0)).alloc (.cells #[.string a0] 9)
  have bS := Boxed.new (w1.alloc (.cells #[.slice none 0 0] 22)) 9 (.string a0)
  have HB2 := below_alloc (below_alloc HB1 (.cells #[.slice none 0 0] 22)) (.cells #[.string a0] 9)
  rw [World.size_alloc] at bS
  obtain ⟨N, hNe⟩ : ∃ N, w.heap.size = N := ⟨_, rfl⟩
  obtain ⟨N1, hN1⟩ : ∃ N1, w1.heap.size = N1 := ⟨_, rfl⟩
  obtain ⟨W0, hW0⟩ : ∃ W0, ((w1.alloc (.cells #[.slice none 0 0] 22)).alloc (.cells #[.string a0] 9)) = W0 := ⟨_, rfl⟩
  have hs0 : W0.heap.size = N1 + 1 + 1 := by rw [← hW0, ← hN1]; simp
  rw [hW0] at bN bE bL bS HB2 ⊢
  rw [hNe] at bN bE hN0 HB2 ⊢
  rw [hN1] at bL bS hN0 ⊢
  clear hW0 hN hE hB0 HB1
  refine rangeFunc_box rfl (by omega) (gf := 63) (lb := #[.pointer (some ⟨N1 + 1, 0, none⟩)]) rfl trivial (enters_of Tryd.func63 (by kernel_rfl) rfl) (Ba := N1 + 1) (by omega)
    (parts.stops Fence.wide 2 trivial rfl (by omega) (N1 + 1) N a0 hs HDG.out W0 bS (by omega))
    nat_Kp.trans (nat_Kp.put (by omega) (by omega) (by omega)) (Below.refl _ _) (fun _ => rfl)
    (fun pre W => (∃ (L : List Int) (v : Value), ((∀ r, pgo (pre.map (·.1) ++ r) [] = pgo r L) ∧ Nums.rng L = true ∧ Nums.may L = true) ∧ Boxed W N 22 (.slice none 0 0) ∧ Boxed W (N + 1) 26 (.int .i64 0) ∧ Boxed W N1 22 v ∧ Kd.R (Kd.int .u32) 39 W (N1 + 1 + 1) (fun _ => True) v L ∧ N1 + 1 + 1 ≤ W.heap.size) ∧ Below N w W)
    (fun c pre W => (c = .ret ∧ (∀ r, pgo (pre.map (·.1) ++ r) [] = none) ∧ Boxed W N 22 (.slice none 0 0) ∧ Boxed W (N + 1) 26 (.int .i64 40)) ∧ Below N w W)
    (OwnFrom.and (Own.from (fun s A B row hs hg hr => by
      obtain ⟨L, v, e1, e2, e3, e4, e5, e6⟩ := hs
      exact ⟨L, v, e1, Boxed.keeps e2 hg hr, Boxed.keeps e3 hg hr, Boxed.keeps e4 hg hr, Kd.R_mono (Kd.R_grown (Kd.R_bound e5) hg (fun k hk e => by
        obtain ⟨_, _, _, q, _, cells, hcell⟩ := hk
        exact ne_row hcell hr e)) (fun _ _ => trivial), Nat.le_trans e6 hg.size⟩) _) (ownFrom_below (by omega) (by omega)))
    (fun c => OwnFrom.and (Own.from (fun s A B row hs hg hr => by obtain ⟨hc, e1, e2, e3⟩ := hs; exact ⟨hc, e1, Boxed.keeps e2 hg hr, Boxed.keeps e3 hg hr⟩) _) (ownFrom_below (by omega) (by omega)))
    (by
      rintro s A v ⟨⟨L, u, e1, e2, e3, e4, e5, e6⟩, hB⟩
      exact ⟨⟨L, u, e1, Boxed.far e2 (by omega) _, Boxed.far e3 (by omega) _, Boxed.far e4 (by omega) _, Kd.R_mono (Kd.R_far (Kd.R_bound e5) (p := ⟨N1 + 1, 0, none⟩) (fun k hk => by have := hk.2.1; simp only; omega) _) (fun _ _ => trivial), by simpa using e6⟩, hB.setCell (p := ⟨N1 + 1, 0, none⟩) (by simp only; omega) _⟩)
    (by
      rintro c s A v ⟨⟨e0, e1, e2, e3⟩, hB⟩
      exact ⟨⟨e0, e1, Boxed.far e2 (by omega) _, Boxed.far e3 (by omega) _⟩, hB.setCell (p := ⟨N1 + 1, 0, none⟩) (by simp only; omega) _⟩)
    ⟨⟨[], .slice none 0 0, ⟨fun r => rfl, rfl, rfl⟩, bN, bE, bL, Kd.R_nil _ _ _ _ _, by omega⟩, HB2⟩
    (fun x => { tmps := #[.string a0, undef, .pointer (some ⟨N, 0, none⟩), .pointer (some ⟨N + 1, 0, none⟩), .pointer (some ⟨N1, 0, none⟩), .int .u32 (x.1.1 : Int), .int .u32 (x.1.2 : Int), undef, .string a0, .bool true, .bool false, .string a0, .func (.func 63) #[] #[.pointer (some ⟨N1 + 1, 0, none⟩)], .int .u32 (x.1.1 : Int), .int .u32 (x.1.2 : Int), undef, undef, undef, undef, undef, undef, undef, undef, undef, undef, undef, undef, undef, undef], defers := [] }) ?assign ?body ?done ?stop
  case assign =>
    intro l x W K hK
    gi_wp2
    exact hK
  case body =>
    rintro l pre x W ⟨⟨L, v, e1, e2, e3, e4, e5, e6⟩, hB⟩ _
    obtain ⟨A, c, rfl, hc, hC⟩ := Kd.R_reads e5
    obtain ⟨ks, hks⟩ := pgo_ev L e1.2.1 e1.2.2 x
    obtain ⟨M, hM⟩ : ∃ M, Nums.lim (Nums.val L * x.1.2 + x.1.1) = M := ⟨_, rfl⟩
    rw [hM] at hks
    have HC := Aside0.mk hC
    have HK := Aside0.mk hks
    have HM := Aside0.mk hM
    have h4c := e4.cell
    clear hC hks hM
    by_cases hL : L = []
    · have HNE := Aside0.mk (show ¬ (L ≠ [] ∧ Nums.lim (Nums.val L * x.1.2 + x.1.1) = []) from fun h => h.1 hL)
      subst hL
      gi_wp2_with (refine ⟨trivial, ?_⟩; gi_at_call 39; refine (CallsIn.inRound l (callsIn_wide.2 (mul_Small.calls ks A c [] _ _ _ W HC.out hc HK.out))).mono ?_; rintro e w2 ⟨v0, rfl, hR2, hB2⟩; obtain ⟨A2, c2, rfl, hc2, _⟩ := Kd.R_reads hR2; go_must (have g2 := Boxed.under e2 hB2; have g3 := Boxed.under e3 hB2; have g4 := Boxed.under e4 hB2; have g4c := g4.cell; have g4f := g4.frozen; have g2f := g2.frozen; have g3f := g3.frozen); have HR2 := Aside0.mk hR2; have HB2 := Aside0.mk hB2; clear hR2 hB2)
      refine ⟨?_, ?_, ⟨M, .slice A2 M.length c2, ⟨?_, HM.out ▸ Nums.rng_lim _, HM.out ▸ Nums.may_lim _⟩, Boxed.far g2 (by omega) _, Boxed.far g3 (by omega) _, Boxed.set _ g4, ?_, ?_⟩, ?_⟩
      · exact ((Tch.setCell (S := fun k => k = N1) (Tch.of_below HB2.out) (p := ⟨N1, 0, none⟩) rfl _).others (by rintro k o rfl ho; rw [show W.heap[k]? = _ from e4] at ho; cases ho; rfl)).from _
      · exact ⟨((HB2.out.mono (by omega)).setCell (p := ⟨N1, 0, none⟩) (by simp only; omega) _), (Below.heap_setCell w2 _ _ _ (by simp only; omega)).trans (HB2.out.block _ (by omega)), (Below.heap_setCell w2 _ _ _ (by simp only; omega)).trans (HB2.out.block _ (by omega))⟩
      · intro r
        rw [List.map_append, List.append_assoc, e1.1]
        show pgo (x.1 :: r) _ = pgo r M
        obtain ⟨⟨xw, xt⟩, hx⟩ := x
        rw [pgo, if_neg HNE.out, HM.out]
      · exact Kd.R_mono (Kd.R_far (Kd.R_bound (Kd.R_lower HR2.out e6)) (p := ⟨N1, 0, none⟩) (fun k hk => by have := hk.2.1; simp only; omega) _) (fun _ _ => trivial)
      · have := HB2.out.size; simp; omega
      · exact (hB.trans (HB2.out.mono (by omega))).setCell (p := ⟨N1, 0, none⟩) (by simp only; omega) _
    · have hL0 : 0 < L.length := List.length_pos_iff.2 hL
      have d1 : decide (0 < (L.length : Int)) = true := decide_eq_true (by omega)
      have d2 : decide (0 < L.length) = true := decide_eq_true hL0
      have q1 : ¬ N = N1 := by omega
      have q2 : ¬ N + 1 = N1 := by omega
      have q3 : ¬ N1 = N := by omega
      have q4 : ¬ N1 = N + 1 := by omega
      by_cases hMn : M = []
      · subst hMn
        gi_wp2_with (refine ⟨trivial, ?_⟩; gi_at_call 39; refine (CallsIn.inRound l (callsIn_wide.2 (mul_Small.calls ks A c L _ _ _ W HC.out hc HK.out))).mono ?_; rintro e w2 ⟨v0, rfl, hR2, hB2⟩; obtain ⟨A2, c2, rfl, hc2, _⟩ := Kd.R_reads hR2; go_must (have g2 := Boxed.under e2 hB2; have g3 := Boxed.under e3 hB2; have g4 := Boxed.under e4 hB2; have g4c := g4.cell; have g4f := g4.frozen; have g2f := g2.frozen; have g3f := g3.frozen; have g2f2 : ∀ u, (w2.setCell ⟨N1, 0, none⟩ u).frozen? ⟨N, 0, none⟩ = false := fun u => (Boxed.far g2 (by omega) u).frozen; have g3f2 : ∀ u v, ((w2.setCell ⟨N1, 0, none⟩ u).setCell ⟨N, 0, none⟩ v).frozen? ⟨N + 1, 0, none⟩ = false := fun u v => (Boxed.far (Boxed.far g3 (by omega) u) (by omega) v).frozen; have g2c2 : ∀ u, (w2.setCell ⟨N1, 0, none⟩ u).cell? ⟨N, 0, none⟩ = some (.slice none 0 0) := fun u => (Boxed.far g2 (by omega) u).cell; have g3c2 : ∀ u v, ((w2.setCell ⟨N1, 0, none⟩ u).setCell ⟨N, 0, none⟩ v).cell? ⟨N + 1, 0, none⟩ = some (.int .i64 0) := fun u v => (Boxed.far (Boxed.far g3 (by omega) u) (by omega) v).cell); have HR2 := Aside0.mk hR2; have HB2 := Aside0.mk hB2; clear hR2 hB2)
        refine ⟨?_, ⟨rfl, ?_, Boxed.far (Boxed.set _ (Boxed.far g2 (by omega) _)) (by omega) _, Boxed.set _ (Boxed.far (Boxed.far g3 (by omega) _) (by omega) _)⟩, ?_⟩
        · exact ((((Tch.setCell (S := fun k => k = N ∨ k = N + 1 ∨ k = N1) (Tch.of_below HB2.out) (p := ⟨N1, 0, none⟩) (.inr (.inr rfl)) _).setCell (p := ⟨N, 0, none⟩) (.inl rfl) _).setCell (p := ⟨N + 1, 0, none⟩) (.inr (.inl rfl)) _).others (by rintro k o (rfl | rfl | rfl) ho; (· rw [show W.heap[k]? = _ from e2] at ho; cases ho; rfl); (· rw [show W.heap[N + 1]? = _ from e3] at ho; cases ho; rfl); (· rw [show W.heap[k]? = _ from e4] at ho; cases ho; rfl))).from _
        · intro r
          rw [List.map_append, List.append_assoc, e1.1]
          show pgo (x.1 :: r) L = none
          obtain ⟨⟨xw, xt⟩, hx⟩ := x
          rw [pgo, if_pos ⟨hL, HM.out⟩]
        · exact (((hB.trans (HB2.out.mono (by omega))).setCell (p := ⟨N1, 0, none⟩) (by simp only; omega) _).setCell (p := ⟨N, 0, none⟩) (by simp) _).setCell (p := ⟨N + 1, 0, none⟩) (by simp) _
      · have hM0 : M.length ≠ 0 := fun h => hMn (List.eq_nil_of_length_eq_zero h)
        have d3 : ((M.length : Int) == 0) = false := by simpa using hMn
        have d4 : (M.length == 0) = false := by simpa using hM0
        have HNE := Aside0.mk (show ¬ (L ≠ [] ∧ Nums.lim (Nums.val L * x.1.2 + x.1.1) = []) from fun h => hMn (HM.out.symm.trans h.2))
        clear hMn
        gi_wp2_with (refine ⟨trivial, ?_⟩; gi_at_call 39; refine (CallsIn.inRound l (callsIn_wide.2 (mul_Small.calls ks A c L _ _ _ W HC.out hc HK.out))).mono ?_; rintro e w2 ⟨v0, rfl, hR2, hB2⟩; obtain ⟨A2, c2, rfl, hc2, _⟩ := Kd.R_reads hR2; go_must (have g2 := Boxed.under e2 hB2; have g3 := Boxed.under e3 hB2; have g4 := Boxed.under e4 hB2; have g4c := g4.cell; have g4f := g4.frozen; have g2f := g2.frozen; have g3f := g3.frozen); have HR2 := Aside0.mk hR2; have HB2 := Aside0.mk hB2; clear hR2 hB2)
        refine ⟨?_, ?_, ⟨M, .slice A2 M.length c2, ⟨?_, HM.out ▸ Nums.rng_lim _, HM.out ▸ Nums.may_lim _⟩, Boxed.far g2 (by omega) _, Boxed.far g3 (by omega) _, Boxed.set _ g4, ?_, ?_⟩, ?_⟩
        · exact ((Tch.setCell (S := fun k => k = N1) (Tch.of_below HB2.out) (p := ⟨N1, 0, none⟩) rfl _).others (by rintro k o rfl ho; rw [show W.heap[k]? = _ from e4] at ho; cases ho; rfl)).from _
        · exact ⟨((HB2.out.mono (by omega)).setCell (p := ⟨N1, 0, none⟩) (by simp only; omega) _), (Below.heap_setCell w2 _ _ _ (by simp only; omega)).trans (HB2.out.block _ (by omega)), (Below.heap_setCell w2 _ _ _ (by simp only; omega)).trans (HB2.out.block _ (by omega))⟩
        · intro r
          rw [List.map_append, List.append_assoc, e1.1]
          show pgo (x.1 :: r) _ = pgo r M
          obtain ⟨⟨xw, xt⟩, hx⟩ := x
          rw [pgo, if_neg HNE.out, HM.out]
        · exact Kd.R_mono (Kd.R_far (Kd.R_bound (Kd.R_lower HR2.out e6)) (p := ⟨N1, 0, none⟩) (fun k hk => by have := hk.2.1; simp only; omega) _) (fun _ _ => trivial)
        · have := HB2.out.size; simp; omega
        · exact (hB.trans (HB2.out.mono (by omega))).setCell (p := ⟨N1, 0, none⟩) (by simp only; omega) _
  case done =>
    rintro D ys W hD hys ⟨⟨L, v, e1, e2, e3, e4, e5, e6⟩, hB⟩ hK
    obtain ⟨A, c, rfl, hc, hC⟩ := Kd.R_reads e5
    have h4c := e4.cell
    have h2f := e2.frozen
    have h2c := e2.cell
    have h3f : ∀ u, (W.setCell ⟨N, 0, none⟩ u).frozen? ⟨N + 1, 0, none⟩ = false := fun u => (Boxed.far e3 (by omega) u).frozen
    have h3c : ∀ u, (W.setCell ⟨N, 0, none⟩ u).cell? ⟨N + 1, 0, none⟩ = some (.int .i64 0) := fun u => (Boxed.far e3 (by omega) u).cell
    have HE5 := Aside0.mk e5
    have HK := Aside0.mk hK
    clear e5 hC hK
    gi_wp2
    have b2 := Boxed.far (Boxed.set (.slice A L.length c) e2) (c := N + 1) (by omega) (.int .i64 0)
    have b3 := Boxed.set (.int .i64 0) (Boxed.far e3 (c := N) (by omega) (.slice A L.length c))
    have T := ((Tch.refl (fun k => k = N ∨ k = N + 1) W).setCell (p := ⟨N, 0, none⟩) (.inl rfl) (.slice A L.length c)).setCell (p := ⟨N + 1, 0, none⟩) (.inr rfl) (.int .i64 0)
    have hDN : ¬ (D = N ∨ D = N + 1) := by omega
    have hK' := (T.block D (Array.getElem?_eq_some_iff.1 HK.out).1 hDN).trans HK.out
    refine ⟨by simp, .inl ⟨_, _, rfl, run_takeDeferred hK', ?_⟩⟩
    have hg := grownBy_putObj' ((W.setCell ⟨N, 0, none⟩ (.slice A L.length c)).setCell ⟨N + 1, 0, none⟩ (.int .i64 0)) D (.deferred none)
    have k2 := (Boxed.kept b2 hg (by simp; omega)).cell
    have k3 := (Boxed.kept b3 hg (by simp; omega)).cell
    have hR := Kd.R_bound HE5.out
    have hR2 := Kd.R_far hR (p := ⟨N, 0, none⟩) (fun k hk => by have := hk.2.1; simp only; omega) (.slice A L.length c)
    have hR3 := Kd.R_far hR2 (p := ⟨N + 1, 0, none⟩) (fun k hk => by have := hk.2.1; simp only; omega) (.int .i64 0)
    have hR4 := Kd.R_grown hR3 hg (fun k hk e => by
      obtain ⟨_, _, _, q, _, cells, hcell⟩ := hk
      cases e
      rw [HK.out] at hcell
      cases hcell)
    refine ⟨.tuple #[.slice A L.length c, .int .i64 0], by simp [results, Tryd.f14, go_sem, k2, k3], .slice A L.length c, L, 0, rfl, H1.out L ?_, Kd.R_lower (Kd.R_mono hR4 (fun _ _ => trivial)) (by omega), ?_⟩
    · rw [← hys]
      have := e1.1 []
      rw [List.append_nil] at this
      exact this
    · rw [hNe]
      exact ((hB.setCell (p := ⟨N, 0, none⟩) (by simp) _).setCell (p := ⟨N + 1, 0, none⟩) (by simp) _).grown hg (by have := hB.size; simp; omega) (fun k e => by cases e; omega)
  case stop =>
    rintro D c pre W hD ⟨r, hr⟩ ⟨⟨rfl, e1, e2, e3⟩, hB⟩ hK
    gi_wp2
    refine ⟨by simp, .inl ⟨_, _, rfl, run_takeDeferred hK, ?_⟩⟩
    have hg := grownBy_putObj' W D (.deferred none)
    have k2 := (Boxed.kept e2 hg (by simp; omega)).cell
    have k3 := (Boxed.kept e3 hg (by simp; omega)).cell
    refine ⟨.tuple #[.slice none 0 0, .int .i64 40], by simp [results, Tryd.f14, go_sem, k2, k3], .slice none 0 0, [], 40, rfl, H2.out (by rw [← hr]; exact e1 r), Kd.R_nil _ _ _ _ _, ?_⟩
    rw [hNe]
    exact hB.grown hg (by have := hB.size; omega) (fun k e => by cases e; omega)
theorem dec_Parse.calls (a0 : ByteArray) (r1 : List Int) (r2 : Int) (w : World) (h : dec_Parse.f a0 = some (r1, r2)) :
    Calls Tryd.prog 14 #[.string a0] w fun e w' => ∃ v0_ : Value, e = .returned (.tuple #[v0_, .int .i64 r2]) ∧ Kd.R (Kd.int .u32) 39 w' w.heap.size (fun _ => True) v0_ r1 ∧ Below w.heap.size w w' := by
  unfold dec_Parse.f at h
  split at h
  case isFalse => cases h
  case isTrue hs =>
  obtain ⟨b, hb, h⟩ := Option.bind_eq_some_iff.1 h
  cases b with
  | false =>
    rw [if_neg (by simp)] at h
    simp only [Option.some.injEq, Prod.mk.injEq] at h
    obtain ⟨rfl, rfl⟩ := h
    refine (dec_Parse.calls_no a0 w hb).mono ?_
    rintro e w' ⟨rfl, hB⟩
    exact ⟨_, rfl, Kd.R_nil _ _ _ _ _, hB⟩
  | true =>
    rw [if_pos rfl] at h
    split at h
    case isFalse => cases h
    case isTrue hd =>
    obtain h := Option.some.inj h
    refine (dec_Parse.calls_yes a0 w hb hs (fun c hc => by simpa using List.all_eq_true.1 hd c hc) (fun a b => a = r1 ∧ b = r2) ?_ ?_).mono ?_
    · intro L hL
      rw [hL] at h
      exact ⟨congrArg Prod.fst h, congrArg Prod.snd h⟩
    · intro hL
      rw [hL] at h
      exact ⟨congrArg Prod.fst h, congrArg Prod.snd h⟩
    · rintro e w' ⟨v0, a, b, rfl, ⟨rfl, rfl⟩, hR, hB⟩
      exact ⟨v0, rfl, hR, hB⟩
end
theorem dw_nil {p : UInt8 → Bool} : ∀ l : List UInt8, l.dropWhile p = [] ↔ ∀ b ∈ l, p b = true
  | [] => by simp
  | x :: xs => by
    cases h : p x with
    | true => rw [List.dropWhile_cons_of_pos h, dw_nil xs]; simp [h]
    | false => rw [List.dropWhile_cons_of_neg (by simp [h])]; simp [h]
theorem dw_head {p : UInt8 → Bool} {x : UInt8} {xs : List UInt8} : ∀ l : List UInt8, l.dropWhile p = x :: xs → p x = false
  | [], h => by simp at h
  | y :: ys, h => by
    cases hy : p y with
    | true => rw [List.dropWhile_cons_of_pos hy] at h; exact dw_head ys h
    | false =>
      rw [List.dropWhile_cons_of_neg (by simp [hy])] at h
      obtain ⟨rfl, rfl⟩ := List.cons.inj h
      exact hy
theorem trimS_nil (l cs : List UInt8) : Lib.trimS l cs = [] ↔ ∀ b ∈ l, cs.contains b = true := by
  unfold Lib.trimS Lib.trimLeftS Lib.trimRightS
  constructor
  · intro h
    rw [dw_nil] at h
    cases hr : l.reverse.dropWhile (cs.contains ·) with
    | nil =>
      intro b hb
      exact (dw_nil _).1 hr b (List.mem_reverse.2 hb)
    | cons x xs =>
      have h1 := dw_head _ hr
      have h2 := h x (by rw [hr]; simp)
      rw [h2] at h1
      cases h1
  · intro h
    rw [(dw_nil l.reverse).2 (fun b hb => h b (List.mem_reverse.1 hb))]
    rfl
theorem digset (b : UInt8) : ([48, 49, 50, 51, 52, 53, 54, 55, 56, 57] : List UInt8).contains b = Nums.isDig b := by
  rw [Bool.eq_iff_iff]
  simp only [List.contains_eq_mem, decide_eq_true_eq, List.mem_cons, List.not_mem_nil, or_false, Nums.isDig, Bool.and_eq_true]
  constructor
  · rintro (rfl | rfl | rfl | rfl | rfl | rfl | rfl | rfl | rfl | rfl) <;> decide
  · rintro ⟨h1, h2⟩
    have h : b.toNat = 48 ∨ b.toNat = 49 ∨ b.toNat = 50 ∨ b.toNat = 51 ∨ b.toNat = 52 ∨ b.toNat = 53 ∨ b.toNat = 54 ∨ b.toNat = 55 ∨ b.toNat = 56 ∨ b.toNat = 57 := by omega
    rcases h with h | h | h | h | h | h | h | h | h | h <;> (have e : b = UInt8.ofNat b.toNat := UInt8.ofNat_toNat.symm; rw [h] at e; subst e; decide)
theorem bt_head (a0 : ByteArray) (h : 0 < a0.size) : (bt a0 0 = 48) ↔ a0.data.toList.head? = some 48 := by
  have e : bt a0 0 = (a0.data.toList[0]'(by rw [Array.length_toList]; exact h)).toNat := by
    unfold bt
    rw [dif_pos (show (0 : Int).toNat < a0.size from h)]
    rfl
  rw [e]
  have e2 : a0.data.toList.head? = some (a0.data.toList[0]'(by rw [Array.length_toList]; exact h)) := by
    rw [List.head?_eq_getElem?, List.getElem?_eq_getElem]
  rw [e2, Option.some.injEq, ← UInt8.toNat_inj]
  show _ ↔ _ = 48
  omega
theorem dec_form_eq (a0 : ByteArray) (hs : a0.size ≤ 140737488355328) : dec_form.f a0 = some (Nums.good a0.data.toList) := by
  have ht : strings_Trim.f a0 (⟨#[48, 49, 50, 51, 52, 53, 54, 55, 56, 57]⟩ : ByteArray) = some ⟨(Lib.trimS a0.data.toList [48, 49, 50, 51, 52, 53, 54, 55, 56, 57]).toArray⟩ := by
    unfold strings_Trim.f
    rw [if_pos ⟨by omega, by decide, by decide⟩]
  have hb : ((⟨(Lib.trimS a0.data.toList [48, 49, 50, 51, 52, 53, 54, 55, 56, 57]).toArray⟩ : ByteArray).toList == ([] : List UInt8)) = Nums.allDig a0.data.toList := by
    rw [Lib.toList_data]
    rw [Bool.eq_iff_iff, beq_iff_eq, trimS_nil, Nums.allDig, List.all_eq_true]
    simp only [digset]
  have hsz := Nums.size_toList a0
  unfold dec_form.f
  rw [Lib.toList_data, ht]
  simp only [Option.bind_some, hb]
  by_cases h0 : a0.data.toList = []
  · rw [if_pos h0, h0]; rfl
  · have hp := List.length_pos_iff.2 h0
    rw [if_neg h0, if_pos (by omega)]
    by_cases h1 : bt a0 0 = 48
    · rw [if_pos h1]
      have h2 := (bt_head a0 (by omega)).1 h1
      by_cases h3 : a0.data.toList.length = 1
      · rw [if_pos (by omega)]
        congr 1
        rw [Bool.eq_iff_iff, Nums.good_iff]
        exact ⟨fun h => ⟨h0, .inr h3, h⟩, fun h => h.2.2⟩
      · rw [if_neg (by omega)]
        congr 1
        rw [Bool.eq_iff_iff, Nums.good_iff]
        exact ⟨fun h => absurd h (by decide), fun h => by rcases h.2.1 with h | h; exact absurd h2 h; exact absurd h h3⟩
    · rw [if_neg h1]
      have h2 := fun h => h1 ((bt_head a0 (by omega)).2 h)
      congr 1
      rw [Bool.eq_iff_iff, Nums.good_iff]
      exact ⟨fun h => ⟨h0, .inl h2, h⟩, fun h => h.2.2⟩
theorem pgo_parts : ∀ (d : Nat) (l : List UInt8) (L : List Int), l.length ≤ d → Nums.allDig l = true → Nums.rng L = true → Nums.may L = true →
    pgo (Nums.parts l) L = if Nums.val L * 10 ^ l.length + Nums.num l < 4294967296 ^ 65536 then some (Nums.toL (Nums.val L * 10 ^ l.length + Nums.num l)) else none := by
  have hB : 1000000000 ≤ 4294967296 ^ 65536 := Nat.le_trans (show 1000000000 ≤ 4294967296 ^ 1 by decide) (Nat.pow_le_pow_right (n := 4294967296) (i := 1) (j := 65536) (Nat.succ_pos _) (Nat.le_of_ble_eq_true rfl))
  have hlim := fun n => @Nums.lim_eq n
  have hbig := fun n => @Nums.lim_big n
  have hmv := fun l => @Nums.may_val l
  have hmt := fun n => @Nums.may_toL n
  obtain ⟨M, hM⟩ : ∃ M, 4294967296 ^ 65536 = M := ⟨_, rfl⟩
  rw [hM] at hB hlim hbig hmv hmt ⊢
  clear hM
  intro d
  induction d with
  | zero =>
    intro l L hl _ hr hm
    obtain rfl : l = [] := List.eq_nil_of_length_eq_zero (by omega)
    obtain ⟨h1, h2⟩ := hmv L hr hm
    rw [Nums.parts_nil, pgo, Nums.num_nil, List.length_nil, Nat.pow_zero, Nat.mul_one, Nat.add_zero, if_pos h2, h1]
  | succ d ih =>
    intro l L hl hd hr hm
    obtain ⟨h1, h2⟩ := hmv L hr hm
    by_cases h0 : l = []
    · subst h0
      rw [Nums.parts_nil, pgo, Nums.num_nil, List.length_nil, Nat.pow_zero, Nat.mul_one, Nat.add_zero, if_pos h2, h1]
    · have hp := List.length_pos_iff.2 h0
      rw [Nums.parts_pos h0]
      obtain ⟨k, hk⟩ : ∃ k, (l.length - 1) % 9 + 1 = k := ⟨_, rfl⟩
      rw [hk]
      have hk1 : k ≤ l.length := by omega
      have hka : (l.take k).length = k := by rw [List.length_take]; omega
      have hkb : (l.drop k).length = l.length - k := List.length_drop
      have hl2 : l = l.take k ++ l.drop k := (List.take_append_drop k l).symm
      obtain ⟨a, ha⟩ : ∃ a, l.take k = a := ⟨_, rfl⟩
      obtain ⟨b, hb⟩ : ∃ b, l.drop k = b := ⟨_, rfl⟩
      rw [ha, hb] at hl2
      rw [ha] at hka
      rw [hb] at hkb
      rw [ha, hb]
      clear ha hb
      subst hl2
      obtain ⟨hda, hdb⟩ := Nums.allDig_append.1 hd
      have hna := Nums.num_lt_dig hda
      have hna9 : 10 ^ a.length ≤ 10 ^ 9 := Nat.pow_le_pow_right (by decide) (by omega)
      have hna8 : Nums.num a < 1000000000 := Nat.lt_of_lt_of_le hna (Nat.le_trans hna9 (by decide))
      have htot : Nums.val L * 10 ^ (a ++ b).length + Nums.num (a ++ b) = (Nums.val L * 10 ^ k + Nums.num a) * 10 ^ b.length + Nums.num b := by
        rw [Nums.num_append, List.length_append, hka, Nat.pow_add, Nat.add_mul, Nat.mul_assoc, Nat.add_assoc]
      rw [htot, pgo]
      have hge : Nums.val L * 10 ^ k + Nums.num a ≤ (Nums.val L * 10 ^ k + Nums.num a) * 10 ^ b.length := Nat.le_mul_of_pos_right _ (Nat.pow_pos (by decide))
      have hz : Nums.val L * 10 ^ k + Nums.num a = 0 → L = [] := by
        intro e
        have : Nums.val L * 10 ^ k = 0 := by omega
        rcases Nat.mul_eq_zero.1 this with e2 | e2
        · rw [e2, Nums.toL_zero] at h1; exact h1.symm
        · exact absurd e2 (Nat.pos_iff_ne_zero.1 (Nat.pow_pos (by decide)))
      have hLn : L = [] → Nums.val L * 10 ^ k + Nums.num a < M := by
        rintro rfl
        show 0 * 10 ^ k + Nums.num a < M
        rw [Nat.zero_mul]
        omega
      obtain ⟨V, hV⟩ : ∃ V, Nums.val L * 10 ^ k + Nums.num a = V := ⟨_, rfl⟩
      rw [hV] at hge hz hLn ⊢
      clear hV htot
      by_cases hVM : V < M
      · rw [hlim _ hVM, if_neg (by rintro ⟨e1, e2⟩; exact e1 (hz (Nums.toL_eq_nil.1 e2)))]
        have := ih b (Nums.toL V) (by rw [List.length_append] at hl; omega) hdb (Nums.rng_toL V) (hmt V hVM)
        rw [Nums.val_toL] at this
        exact this
      · rw [hbig _ hVM, if_pos ⟨fun e => hVM (hLn e), rfl⟩, if_neg (by omega)]
theorem dec_Parse_eq (a0 : ByteArray) (hs : a0.size ≤ 140737488355328) : dec_Parse.f a0 = some (if Nums.good a0.data.toList = true then (if Nums.num a0.data.toList < 4294967296 ^ 65536 then (Nums.toL (Nums.num a0.data.toList), 0) else ([], 40)) else ([], 4)) := by
  unfold dec_Parse.f
  rw [if_pos hs, dec_form_eq a0 hs, Option.bind_some]
  by_cases hg : Nums.good a0.data.toList = true
  · rw [if_pos hg, if_pos hg]
    have hd := (Nums.good_iff.1 hg).2.2
    have h := pgo_parts _ a0.data.toList [] (Nat.le_refl _) hd rfl rfl
    rw [show Nums.val [] = 0 from rfl, Nat.zero_mul, Nat.zero_add] at h
    rw [if_pos (show (a0.data.toList.all fun c => decide (48 ≤ c.toNat) && decide (c.toNat ≤ 57)) = true from hd), h]
    by_cases hv : Nums.num a0.data.toList < 4294967296 ^ 65536
    · rw [if_pos hv, if_pos hv]
    · rw [if_neg hv, if_neg hv]
  · rw [if_neg hg, if_neg hg]

end Go.Proofs.YtjgloepeogelnaaDoor.Pr

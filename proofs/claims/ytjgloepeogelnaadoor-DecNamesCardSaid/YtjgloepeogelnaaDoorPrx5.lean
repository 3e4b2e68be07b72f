/- Functions with the same answers as the Go functions of the program, with the proofs that the program comes to just these answers; no condition but those that each theorem names. (Laid by this work's own program mk.py out of the translation.) -/
import Derived.Test.YtjgloepeogelnaaDoorPrx0
import Derived.Test.YtjgloepeogelnaaDoorPrx1
import Derived.Test.YtjgloepeogelnaaDoorPrx4
namespace Go.Proofs.YtjgloepeogelnaaDoor.Pr
open Go.RowKit Go.Proofs.YtjgloepeogelnaaDoorW.PrintWords Go.Proofs.YtjgloepeogelnaaDoorW.PrintLast Go.Proofs.YtjgloepeogelnaaDoorW.PrintMore
attribute [local go_sem] max2_int min2_int max_two min_two max_three min_three max_four min_four   -- for this text's walks alone
set_option linter.unusedVariables false
set_option linter.unusedSimpArgs false

/-! ### mul_addAt: function 83 -/
mutual
def mul_addAt.l0 : Nat → List Int → List Int → Int → Int → Int → Option (List Int)
  | 0, _, _, _, _, _ => none
  | k + 1, x0, x1, x2, x6, x7 => if x7 < (x1.length : Int) then (mul_addAt.j1 k x0 x1 x2 x6 x7 true) else (mul_addAt.j1 k x0 x1 x2 x6 x7 (decide (x6 > 0)))
def mul_addAt.j1 : Nat → List Int → List Int → Int → Int → Int → Bool → Option (List Int)
  | 0, _, _, _, _, _, _ => none
  | k + 1, x0, x1, x2, x6, x7, x16 => if x16 = true then (if x7 < (x1.length : Int) then (if 0 ≤ x7 then (if 0 ≤ (wrap64 (x2 + x7)) then (if (wrap64 (x2 + x7)) < (x0.length : Int) then ((bits_Add32.f (rd x0 (wrap64 (x2 + x7))) (rd x1 x7) x6).bind fun bt147 => (mul_addAt.l0 k (x0.set ((wrap64 (x2 + x7)) : Int).toNat bt147.1) x1 x2 bt147.2 (wrap64 (x7 + 1)))) else (none)) else (none)) else (none)) else (if 0 ≤ (wrap64 (x2 + x7)) then (if (wrap64 (x2 + x7)) < (x0.length : Int) then ((bits_Add32.f (rd x0 (wrap64 (x2 + x7))) 0 x6).bind fun bt151 => (mul_addAt.l0 k (x0.set ((wrap64 (x2 + x7)) : Int).toNat bt151.1) x1 x2 bt151.2 (wrap64 (x7 + 1)))) else (none)) else (none))) else (some x0)
end
def mul_addAt.f (k : Nat) (l0 : List Int) (l1 : List Int) (a2 : Int) : Option (List Int) := mul_addAt.l0 k l0 l1 a2 0 0
theorem mul_addAt.mono_l : ∀ k, (∀ y0 y1 y2 y3 y4, LeO (mul_addAt.l0 k y0 y1 y2 y3 y4) (mul_addAt.l0 (k + 1) y0 y1 y2 y3 y4)) ∧ (∀ y0 y1 y2 y3 y4 y5, LeO (mul_addAt.j1 k y0 y1 y2 y3 y4 y5) (mul_addAt.j1 (k + 1) y0 y1 y2 y3 y4 y5))
  | 0 => ⟨fun _ _ _ _ _ r h => by simp [mul_addAt.l0] at h, fun _ _ _ _ _ _ r h => by simp [mul_addAt.j1] at h⟩
  | k + 1 => by
    obtain ⟨ih0, ih1⟩ := mul_addAt.mono_l k
    refine ⟨?_, ?_⟩
    · intro y0 y1 y2 y3 y4
      unfold mul_addAt.l0
      repeat' first
      | (with_reducible exact ih0 _ _ _ _ _)
      | (with_reducible exact ih1 _ _ _ _ _ _)
      | (with_reducible exact LeO.refl _)
      | (with_reducible exact LeO.none _)
      | (with_reducible refine LeO.ite ?_ ?_)
      | (with_reducible refine LeO.bind ?_ (fun _ => ?_))
      | exact ih0 _ _ _ _ _
      | exact ih1 _ _ _ _ _ _
      | exact LeO.none _
      | refine LeO.ite ?_ ?_
      | refine LeO.bind ?_ (fun _ => ?_)
    · intro y0 y1 y2 y3 y4 y5
      unfold mul_addAt.j1
      repeat' first
      | (with_reducible exact ih0 _ _ _ _ _)
      | (with_reducible exact ih1 _ _ _ _ _ _)
      | (with_reducible exact LeO.refl _)
      | (with_reducible exact LeO.none _)
      | (with_reducible refine LeO.ite ?_ ?_)
      | (with_reducible refine LeO.bind ?_ (fun _ => ?_))
      | exact ih0 _ _ _ _ _
      | exact ih1 _ _ _ _ _ _
      | exact LeO.none _
      | refine LeO.ite ?_ ?_
      | refine LeO.bind ?_ (fun _ => ?_)
theorem mul_addAt.mono : ∀ a0 a1 a2 k, LeO (mul_addAt.f k a0 a1 a2) (mul_addAt.f (k + 1) a0 a1 a2) := by
  intro a0 a1 a2 k
  obtain ⟨ih0, ih1⟩ := mul_addAt.mono_l k
  unfold mul_addAt.f
  repeat' first
      | (with_reducible exact ih0 _ _ _ _ _)
      | (with_reducible exact ih1 _ _ _ _ _ _)
      | (with_reducible exact LeO.refl _)
      | (with_reducible exact LeO.none _)
      | (with_reducible refine LeO.ite ?_ ?_)
      | (with_reducible refine LeO.bind ?_ (fun _ => ?_))
      | exact ih0 _ _ _ _ _
      | exact ih1 _ _ _ _ _ _
      | exact LeO.none _
      | refine LeO.ite ?_ ?_
      | refine LeO.bind ?_ (fun _ => ?_)
set_option maxHeartbeats 8000000 in
set_option maxRecDepth 100000 in
theorem mul_addAt.calls (k : Nat) (P0_ : Nat → Prop) (u9000_ : Value) (l0 : List Int) (A1 : Option Addr) (c1 : Nat) (l1 : List Int) (a2 : Int) (r : List Int) (w0 w : World) (hB : Below w0.heap.size w0 w) (ho0 : Kd.R (Kd.int .u32) 39 w w0.heap.size P0_ u9000_ l0) (hr1 : ∀ W_, Kept w W_ (fun k_ => P0_ k_) → Kd.C (Kd.int .u32) W_ A1 l1.length l1) (hc1 : l1.length ≤ c1) (h : mul_addAt.f k l0 l1 a2 = some r) :
    Calls Tryd.prog 83 #[u9000_, .slice A1 l1.length c1, .int .i64 a2] w fun e w' => e = .returned (.tuple #[]) ∧ Kd.R (Kd.int .u32) 39 w' w0.heap.size (fun k_ => (P0_ k_ ∨ w.heap.size ≤ k_)) u9000_ r ∧ Below w0.heap.size w0 w' ∧ Kept w w' (fun k_ => P0_ k_) := by
  have HO0 := Aside0.mk (show Kd.R (Kd.int .u32) 39 w w0.heap.size (fun k_ => (P0_ k_ ∨ w.heap.size ≤ k_)) u9000_ l0 from Kd.R_mono ho0 (fun k_ hk => (.inl hk)))
  have HR1 := Aside0.mk hr1
  have HC1 := Aside0.mk hc1
  clear hr1 hc1
  have HK := Aside0.mk (Kept.refl w (fun k_ => P0_ k_))
  have HW0 := Aside0.mk hB.size
  have HB := Aside0.mk hB
  clear hB
  have H : (mul_addAt.l0 k l0 l1 a2 0 0) = some r := h
  clear h
  have H' := Aside0.mk H
  clear H
  go_enter Tryd.func83, Tryd.ntmps83
  go_wp2
  go_loopg [6, 7] k (fun kq v6 v7 w' => ∃ (x0_1 : List Int) (x6_1 : Int) (x7_1 : Int), v6 = .int .u32 x6_1 ∧ v7 = .int .i64 x7_1 ∧ Aside0 (mul_addAt.l0 kq x0_1 l1 a2 x6_1 x7_1 = some r) ∧ Aside0 (kq ≤ k) ∧ Aside0 (Kd.R (Kd.int .u32) 39 w' w0.heap.size (fun k_ => (P0_ k_ ∨ w.heap.size ≤ k_)) u9000_ x0_1) ∧ Aside0 (Kept w w' (fun k_ => P0_ k_)) ∧ Aside0 (Below w0.heap.size w0 w'))
  case atStart => exact ⟨(l0), (0), (0), (by first | rfl | (simp; done) | (simp [*]; done)), (by first | rfl | (simp; done) | (simp [*]; done)), H', ⟨Nat.le_refl _⟩, ⟨by (with_reducible repeat (first | apply Kd.R_alloc | apply Kd.R_drewN | apply Kd.R_drew)); exact HO0.out⟩, ⟨by repeat (first | (with_reducible first | exact HK.out | apply Kept.alloc | apply Kept.drewN | apply Kept.drew) | exact HK.out)⟩, ⟨by repeat (first | (with_reducible first | exact HB.out | apply below_alloc | apply pw_below_drewN | apply below_drew1) | exact HB.out)⟩⟩
  case round =>
    clear H'
    try clear c1
    try clear p2
    obtain ⟨x0_1, x6_1, x7_1, rfl, rfl, HA, HK1, HO_0, HK, HB⟩ := hrel
    cases gk with
    | zero => exact absurd HA.out (by simp [mul_addAt.l0])
    | succ k1 =>
      have H := HA.out
      clear HA
      simp only [mul_addAt.l0] at H
      have HC4 := Aside0.mk H
      clear H
      go_upto_region 2 with (fail)
      go_cut [16] (fun v16 wc => ∃ (kq : Nat) (x16_3 : Bool), v16 = .bool x16_3 ∧ Aside0 (mul_addAt.j1 kq x0_1 l1 a2 x6_1 x7_1 x16_3 = some r) ∧ Aside0 (kq ≤ k1) ∧ Aside0 (Kd.R (Kd.int .u32) 39 wc w0.heap.size (fun k_ => (P0_ k_ ∨ w.heap.size ≤ k_)) u9000_ x0_1) ∧ Aside0 (Kept w wc (fun k_ => P0_ k_)) ∧ Aside0 (Below w0.heap.size w0 wc))
      case first =>
        have H := HC4.out
        clear HC4
        by_cases c5 : x7_1 < (l1.length : Int)
        · rw [if_pos c5] at H
          have c5b0 : decide (x7_1 < (l1.length : Int)) = true := decide_eq_true c5
          clear c5
          (first | rw [c5b0] | (simp only [i64_w, i32_w]; rw [c5b0]) | rw [c5b1] | skip)
          have H' := Aside0.mk H
          clear H
          go_wp2
          go_meet
          case rel => exact ⟨_, (true), (by first | rfl | (simp; done) | (simp [*]; done)), H', ⟨by have := HK1.out; first | omega | exact Nat.le_refl _⟩, ⟨by (with_reducible repeat (first | apply Kd.R_alloc | apply Kd.R_drewN | apply Kd.R_drew)); exact HO_0.out⟩, ⟨by repeat (first | (with_reducible first | exact HK.out | apply Kept.alloc | apply Kept.drewN | apply Kept.drew) | exact HK.out)⟩, ⟨by repeat (first | (with_reducible first | exact HB.out | apply below_alloc | apply pw_below_drewN | apply below_drew1) | exact HB.out)⟩⟩
        · rw [if_neg c5] at H
          have c5b0 : decide (x7_1 < (l1.length : Int)) = false := decide_eq_false c5
          clear c5
          (first | rw [c5b0] | (simp only [i64_w, i32_w]; rw [c5b0]) | rw [c5b1] | skip)
          have H' := Aside0.mk H
          clear H
          go_wp2
          go_meet
          case rel => exact ⟨_, (decide (x6_1 > 0)), (by first | rfl | (simp; done) | (simp [*]; done)), H', ⟨by have := HK1.out; first | omega | exact Nat.le_refl _⟩, ⟨by (with_reducible repeat (first | apply Kd.R_alloc | apply Kd.R_drewN | apply Kd.R_drew)); exact HO_0.out⟩, ⟨by repeat (first | (with_reducible first | exact HK.out | apply Kept.alloc | apply Kept.drewN | apply Kept.drew) | exact HK.out)⟩, ⟨by repeat (first | (with_reducible first | exact HB.out | apply below_alloc | apply pw_below_drewN | apply below_drew1) | exact HB.out)⟩⟩
      case rest =>
        clear HC4
        try clear c1
        try clear p2
        try clear c5
        try clear c5b0
        try clear p2
        obtain ⟨kq, x16_3, rfl, HA, HJ3, HO_0, HK, HB⟩ := hcut
        cases kq with
        | zero => exact absurd HA.out (by simp [mul_addAt.j1])
        | succ kj3 =>
          have H := HA.out
          clear HA
          simp only [mul_addAt.j1] at H
          by_cases c6 : x16_3 = true
          · subst c6
            have H1 : (if x7_1 < (l1.length : Int) then (if 0 ≤ x7_1 then (if 0 ≤ (wrap64 (a2 + x7_1)) then (if (wrap64 (a2 + x7_1)) < (x0_1.length : Int) then ((bits_Add32.f (rd x0_1 (wrap64 (a2 + x7_1))) (rd l1 x7_1) x6_1).bind fun bt147 => (mul_addAt.l0 kj3 (x0_1.set ((wrap64 (a2 + x7_1)) : Int).toNat bt147.1) l1 a2 bt147.2 (wrap64 (x7_1 + 1)))) else (none)) else (none)) else (none)) else (if 0 ≤ (wrap64 (a2 + x7_1)) then (if (wrap64 (a2 + x7_1)) < (x0_1.length : Int) then ((bits_Add32.f (rd x0_1 (wrap64 (a2 + x7_1))) 0 x6_1).bind fun bt151 => (mul_addAt.l0 kj3 (x0_1.set ((wrap64 (a2 + x7_1)) : Int).toNat bt151.1) l1 a2 bt151.2 (wrap64 (x7_1 + 1)))) else (none)) else (none))) = some r := by rw [if_pos rfl] at H; exact H
            clear H
            have H := H1
            clear H1
            by_cases c7 : x7_1 < (l1.length : Int)
            · rw [if_pos c7] at H
              have c7b0 : decide (x7_1 < (l1.length : Int)) = true := decide_eq_true c7
              clear c7
              by_cases c8 : 0 ≤ x7_1
              · rw [if_pos c8] at H
                have c8b0 : decide (0 ≤ x7_1) = true := decide_eq_true c8
                clear c8
                obtain ⟨ji9, hji9⟩ : ∃ j_ : Int, (wrap64 (a2 + x7_1)) = j_ := ⟨_, rfl⟩
                replace H : (if 0 ≤ (ji9) then (if (ji9) < (x0_1.length : Int) then ((bits_Add32.f (rd x0_1 (ji9)) (rd l1 x7_1) x6_1).bind fun bt147 => (mul_addAt.l0 kj3 (x0_1.set ((ji9) : Int).toNat bt147.1) l1 a2 bt147.2 (wrap64 (x7_1 + 1)))) else (none)) else (none)) = some r := by first | (rw [hji9] at H; exact H) | (simp only [hji9] at H ⊢; exact H)
                have hji9w : (IntKind.i64.wrap (a2 + x7_1)) = ji9 := (i64_w _).trans hji9
                by_cases c10 : 0 ≤ (ji9)
                · rw [if_pos c10] at H
                  have c10b0 : decide (0 ≤ (ji9)) = true := decide_eq_true c10
                  clear c10
                  by_cases c11 : (ji9) < (x0_1.length : Int)
                  · rw [if_pos c11] at H
                    have c11b0 : decide ((ji9) < (x0_1.length : Int)) = true := decide_eq_true c11
                    clear c11
                    replace H := Option.bind_eq_some_iff.mp H
                    obtain ⟨⟨t147, t148⟩, A120, H⟩ := H
                    replace H : (mul_addAt.l0 kj3 (x0_1.set ((ji9) : Int).toNat t147) l1 a2 t148 (wrap64 (x7_1 + 1))) = some r := H
                    have A12 := Aside0.mk A120
                    clear A120
                    obtain ⟨y149, hy149⟩ : ∃ y_ : List Int, y_ = (x0_1.set ((ji9) : Int).toNat t147) := ⟨_, rfl⟩
                    replace H : (mul_addAt.l0 kj3 y149 l1 a2 t148 (wrap64 (x7_1 + 1))) = some r := by first | (rw [hy149]; with_reducible exact H) | (have H2_ := (Option.bind_some _ _).symm.trans H; rw [hy149]; with_reducible exact H2_) | (have H2_ := (Option.bind_some _ _).symm.trans H; with_reducible exact H2_) | with_reducible exact H | (rw [hy149]; exact H) | exact H
                    have Ny149 := Aside0.mk hy149
                    clear hy149
                    have H' := Aside0.mk H
                    clear H
                    have p145 : 0 ≤ (x7_1 : Int) := of_decide_eq_true (by first | (with_reducible assumption) | assumption)
                    have q145 : x7_1 < (l1.length : Int) := of_decide_eq_true (by first | (with_reducible assumption) | assumption)
                    obtain ⟨ad145, e145, hx145_0⟩ := Kd.at_int (Kd.C_kept_now HR1.out HK.out) x7_1 p145 q145
                    cases e145
                    replace p145 := eq_true p145
                    replace q145 := eq_true q145
                    obtain ⟨Ao14, co14, eo14⟩ := Kd.R_slice HO_0.out
                    subst eo14
                    have p146 : 0 ≤ ((ji9) : Int) := of_decide_eq_true (by first | (with_reducible assumption) | assumption)
                    have q146 : (ji9) < (x0_1.length : Int) := of_decide_eq_true (by first | (with_reducible assumption) | assumption)
                    obtain ⟨ad146, e146, hx146_0⟩ := Kd.at_int (Kd.R_reads' HO_0.out).2.2 (ji9) p146 q146
                    cases e146
                    replace p146 := eq_true p146
                    replace q146 := eq_true q146
                    go_wp2_with (first | ((with_reducible refine gate_callee (f := 52) rfl ?_); refine goesL_ (some 40) rfl rfl Tryd.func52 (by kernel_rfl) rfl #[.int .u32 (rd x0_1 (ji9)), .int .u32 (rd l1 x7_1), .int .u32 x6_1] rfl (by (try simp only [List.map_toArray, List.map_cons, List.map_nil]); first | done | (simp only [hji9]; rfl) | rfl | (simp only [List.length_drop, List.length_take]; rfl)) ?_; (with_reducible refine (bits_Add32.calls (rd x0_1 (ji9)) (rd l1 x7_1) x6_1 t147 t148 _ A12.out).mono ?_); rintro e w' ⟨rfl, ⟨nd, rfl⟩⟩; refine ⟨_, rfl, ?_⟩; (try (rw [drewN_self wc]; generalize hq_ : World.drewN wc _ = wc; have n0_ : Aside0 (Kd.R (Kd.int .u32) 39 wc w0.heap.size (fun k_ => (P0_ k_ ∨ w.heap.size ≤ k_)) (.slice (some ad146) x0_1.length co14) x0_1) := ⟨by rw [← hq_]; exact (by (with_reducible repeat (first | apply Kd.R_alloc | apply Kd.R_drewN | apply Kd.R_drew)); exact HO_0.out)⟩; have n1_ : Aside0 (Kept w wc (fun k_ => P0_ k_)) := ⟨by rw [← hq_]; exact (by repeat (first | (with_reducible first | exact HK.out | apply Kept.alloc | apply Kept.drewN | apply Kept.drew) | exact HK.out))⟩; have n2_ : Aside0 (Below w0.heap.size w0 wc) := ⟨by rw [← hq_]; exact (by repeat (first | (with_reducible first | exact HB.out | apply below_alloc | apply pw_below_drewN | apply below_drew1) | exact HB.out))⟩; clear HO_0 HK HB hq_; have HO_0 := n0_; have HK := n1_; have HB := n2_; clear n0_ n1_ n2_)); have p13 : 0 ≤ ((ji9) : Int) := of_decide_eq_true (by first | (with_reducible assumption) | assumption); have q13 : ((ji9) : Int) < ((x0_1.length : Int) : Int) := of_decide_eq_true (by first | (with_reducible assumption) | assumption); obtain ⟨go13, co13, eo13, gb13, gl13, cl13, HG13⟩ := Kd.R_form HO_0.out (by omega); (first | cases eo13 | (injection eo13 with ea_ en_ ec_; (first | subst ea_ | (injection ea_ with ea_; subst ea_)); subst ec_; clear en_)); have GB13 := Aside0.mk gb13; have GG13 := Aside0.mk HG13; clear gb13 gl13 HG13; have HMgo13 := Aside0.mk (show (P0_ go13 ∨ w.heap.size ≤ go13) from (HO_0.out.1 _ rfl)); (first | simp only [add_plain] at hx146_0 | skip); obtain ⟨hx13_0, hf13_0⟩ := Kd.R_celln 0 HO_0.out ((ji9) : Int) p13 q13; replace p13 := eq_true p13; replace q13 := eq_true q13; obtain ⟨hy15_, hz15_⟩ := Kd.R_celln 0 HO_0.out ((ji9) : Int) (of_decide_eq_true (by first | (with_reducible assumption) | assumption)) (of_decide_eq_true (by first | (with_reducible assumption) | assumption)); have HP15 := Kd.R_putg HO_0.out ((ji9) : Int) t147) | ((with_reducible refine gate_store (t := 39) (p := 43) rfl ?_); refine store_event (t := 39) (p := 43) (v := ?vo_w16) (w1 := (wc.setCell ⟨go13, ((ji9) : Int).toNat, none⟩ (.int .u32 t147))) ?hg ?ho ?hn ?hr ?_; (case ho => rfl); (case hg => rfl); (case hn => rfl); (case hr => first | (go_simp; done) | (go_simp; rfl)); intro w16 hw; have hg : wc.grownBy w16 (some go13) := (by rw [hw]; exact HP15.2); have hp_ : Kd.R (Kd.int .u32) 39 w16 w0.heap.size (fun k_ => (P0_ k_ ∨ w.heap.size ≤ k_)) (.slice (some ⟨go13, 0, none⟩) x0_1.length co14) y149 := (by rw [hw, Ny149.out]; exact HP15.1); clear HP15; have n0_ := Aside0.mk (hp_); have n1_ := Aside0.mk ((by rw [hw]; exact below_set (HB.out) GB13.out : Below w0.heap.size w0 w16)); have n2_ := Aside0.mk (Kept.of_grown (S := (fun k_ => P0_ k_)) hg (by repeat (first | (with_reducible first | exact HK.out | apply Kept.alloc | apply Kept.drewN | apply Kept.drew) | exact HK.out)) (fun k_ e_ => (HO_0.out.1 k_ e_))); clear HO_0; clear HB; clear HK; have HO_0 := n0_; have HB := n1_; have HK := n2_; clear n0_ n1_ n2_; clear hg hw hp_))
                    go_roundg kj3
                    case measure => have := HK1.out; have := HJ3.out; omega
                    case rel => exact ⟨(y149), (t148), (wrap64 (x7_1 + 1)), (by first | rfl | (simp; done) | (simp [*]; done)), (by first | rfl | (simp; done) | (simp [*]; done)), H', ⟨by have := HK1.out; have := HJ3.out; omega⟩, ⟨by (with_reducible repeat (first | apply Kd.R_alloc | apply Kd.R_drewN | apply Kd.R_drew)); exact HO_0.out⟩, ⟨by repeat (first | (with_reducible first | exact HK.out | apply Kept.alloc | apply Kept.drewN | apply Kept.drew) | exact HK.out)⟩, ⟨by repeat (first | (with_reducible first | exact HB.out | apply below_alloc | apply pw_below_drewN | apply below_drew1) | exact HB.out)⟩⟩
                  · rw [if_neg c11] at H
                    exact absurd H (by simp)
                · rw [if_neg c10] at H
                  exact absurd H (by simp)
              · rw [if_neg c8] at H
                exact absurd H (by simp)
            · rw [if_neg c7] at H
              have c7b0 : decide (x7_1 < (l1.length : Int)) = false := decide_eq_false c7
              clear c7
              obtain ⟨ji17, hji17⟩ : ∃ j_ : Int, (wrap64 (a2 + x7_1)) = j_ := ⟨_, rfl⟩
              replace H : (if 0 ≤ (ji17) then (if (ji17) < (x0_1.length : Int) then ((bits_Add32.f (rd x0_1 (ji17)) 0 x6_1).bind fun bt151 => (mul_addAt.l0 kj3 (x0_1.set ((ji17) : Int).toNat bt151.1) l1 a2 bt151.2 (wrap64 (x7_1 + 1)))) else (none)) else (none)) = some r := by first | (rw [hji17] at H; exact H) | (simp only [hji17] at H ⊢; exact H)
              have hji17w : (IntKind.i64.wrap (a2 + x7_1)) = ji17 := (i64_w _).trans hji17
              by_cases c18 : 0 ≤ (ji17)
              · rw [if_pos c18] at H
                have c18b0 : decide (0 ≤ (ji17)) = true := decide_eq_true c18
                clear c18
                by_cases c19 : (ji17) < (x0_1.length : Int)
                · rw [if_pos c19] at H
                  have c19b0 : decide ((ji17) < (x0_1.length : Int)) = true := decide_eq_true c19
                  clear c19
                  replace H := Option.bind_eq_some_iff.mp H
                  obtain ⟨⟨t151, t152⟩, A200, H⟩ := H
                  replace H : (mul_addAt.l0 kj3 (x0_1.set ((ji17) : Int).toNat t151) l1 a2 t152 (wrap64 (x7_1 + 1))) = some r := H
                  have A20 := Aside0.mk A200
                  clear A200
                  obtain ⟨y153, hy153⟩ : ∃ y_ : List Int, y_ = (x0_1.set ((ji17) : Int).toNat t151) := ⟨_, rfl⟩
                  replace H : (mul_addAt.l0 kj3 y153 l1 a2 t152 (wrap64 (x7_1 + 1))) = some r := by first | (rw [hy153]; with_reducible exact H) | (have H2_ := (Option.bind_some _ _).symm.trans H; rw [hy153]; with_reducible exact H2_) | (have H2_ := (Option.bind_some _ _).symm.trans H; with_reducible exact H2_) | with_reducible exact H | (rw [hy153]; exact H) | exact H
                  have Ny153 := Aside0.mk hy153
                  clear hy153
                  have H' := Aside0.mk H
                  clear H
                  obtain ⟨Ao22, co22, eo22⟩ := Kd.R_slice HO_0.out
                  subst eo22
                  have p150 : 0 ≤ ((ji17) : Int) := of_decide_eq_true (by first | (with_reducible assumption) | assumption)
                  have q150 : (ji17) < (x0_1.length : Int) := of_decide_eq_true (by first | (with_reducible assumption) | assumption)
                  obtain ⟨ad150, e150, hx150_0⟩ := Kd.at_int (Kd.R_reads' HO_0.out).2.2 (ji17) p150 q150
                  cases e150
                  replace p150 := eq_true p150
                  replace q150 := eq_true q150
                  go_wp2_with (first | ((with_reducible refine gate_callee (f := 52) rfl ?_); refine goesL_ (some 40) rfl rfl Tryd.func52 (by kernel_rfl) rfl #[.int .u32 (rd x0_1 (ji17)), .int .u32 0, .int .u32 x6_1] rfl (by (try simp only [List.map_toArray, List.map_cons, List.map_nil]); first | done | (simp only [hji17]; rfl) | rfl | (simp only [List.length_drop, List.length_take]; rfl)) ?_; (with_reducible refine (bits_Add32.calls (rd x0_1 (ji17)) 0 x6_1 t151 t152 _ A20.out).mono ?_); rintro e w' ⟨rfl, ⟨nd, rfl⟩⟩; refine ⟨_, rfl, ?_⟩; (try (rw [drewN_self wc]; generalize hq_ : World.drewN wc _ = wc; have n0_ : Aside0 (Kd.R (Kd.int .u32) 39 wc w0.heap.size (fun k_ => (P0_ k_ ∨ w.heap.size ≤ k_)) (.slice (some ad150) x0_1.length co22) x0_1) := ⟨by rw [← hq_]; exact (by (with_reducible repeat (first | apply Kd.R_alloc | apply Kd.R_drewN | apply Kd.R_drew)); exact HO_0.out)⟩; have n1_ : Aside0 (Kept w wc (fun k_ => P0_ k_)) := ⟨by rw [← hq_]; exact (by repeat (first | (with_reducible first | exact HK.out | apply Kept.alloc | apply Kept.drewN | apply Kept.drew) | exact HK.out))⟩; have n2_ : Aside0 (Below w0.heap.size w0 wc) := ⟨by rw [← hq_]; exact (by repeat (first | (with_reducible first | exact HB.out | apply below_alloc | apply pw_below_drewN | apply below_drew1) | exact HB.out))⟩; clear HO_0 HK HB hq_; have HO_0 := n0_; have HK := n1_; have HB := n2_; clear n0_ n1_ n2_)); have p21 : 0 ≤ ((ji17) : Int) := of_decide_eq_true (by first | (with_reducible assumption) | assumption); have q21 : ((ji17) : Int) < ((x0_1.length : Int) : Int) := of_decide_eq_true (by first | (with_reducible assumption) | assumption); obtain ⟨go21, co21, eo21, gb21, gl21, cl21, HG21⟩ := Kd.R_form HO_0.out (by omega); (first | cases eo21 | (injection eo21 with ea_ en_ ec_; (first | subst ea_ | (injection ea_ with ea_; subst ea_)); subst ec_; clear en_)); have GB21 := Aside0.mk gb21; have GG21 := Aside0.mk HG21; clear gb21 gl21 HG21; have HMgo21 := Aside0.mk (show (P0_ go21 ∨ w.heap.size ≤ go21) from (HO_0.out.1 _ rfl)); (first | simp only [add_plain] at hx150_0 | skip); obtain ⟨hx21_0, hf21_0⟩ := Kd.R_celln 0 HO_0.out ((ji17) : Int) p21 q21; replace p21 := eq_true p21; replace q21 := eq_true q21; obtain ⟨hy23_, hz23_⟩ := Kd.R_celln 0 HO_0.out ((ji17) : Int) (of_decide_eq_true (by first | (with_reducible assumption) | assumption)) (of_decide_eq_true (by first | (with_reducible assumption) | assumption)); have HP23 := Kd.R_putg HO_0.out ((ji17) : Int) t151) | ((with_reducible refine gate_store (t := 39) (p := 43) rfl ?_); refine store_event (t := 39) (p := 43) (v := ?vo_w24) (w1 := (wc.setCell ⟨go21, ((ji17) : Int).toNat, none⟩ (.int .u32 t151))) ?hg ?ho ?hn ?hr ?_; (case ho => rfl); (case hg => rfl); (case hn => rfl); (case hr => first | (go_simp; done) | (go_simp; rfl)); intro w24 hw; have hg : wc.grownBy w24 (some go21) := (by rw [hw]; exact HP23.2); have hp_ : Kd.R (Kd.int .u32) 39 w24 w0.heap.size (fun k_ => (P0_ k_ ∨ w.heap.size ≤ k_)) (.slice (some ⟨go21, 0, none⟩) x0_1.length co22) y153 := (by rw [hw, Ny153.out]; exact HP23.1); clear HP23; have n0_ := Aside0.mk (hp_); have n1_ := Aside0.mk ((by rw [hw]; exact below_set (HB.out) GB21.out : Below w0.heap.size w0 w24)); have n2_ := Aside0.mk (Kept.of_grown (S := (fun k_ => P0_ k_)) hg (by repeat (first | (with_reducible first | exact HK.out | apply Kept.alloc | apply Kept.drewN | apply Kept.drew) | exact HK.out)) (fun k_ e_ => (HO_0.out.1 k_ e_))); clear HO_0; clear HB; clear HK; have HO_0 := n0_; have HB := n1_; have HK := n2_; clear n0_ n1_ n2_; clear hg hw hp_))
                  go_roundg kj3
                  case measure => have := HK1.out; have := HJ3.out; omega
                  case rel => exact ⟨(y153), (t152), (wrap64 (x7_1 + 1)), (by first | rfl | (simp; done) | (simp [*]; done)), (by first | rfl | (simp; done) | (simp [*]; done)), H', ⟨by have := HK1.out; have := HJ3.out; omega⟩, ⟨by (with_reducible repeat (first | apply Kd.R_alloc | apply Kd.R_drewN | apply Kd.R_drew)); exact HO_0.out⟩, ⟨by repeat (first | (with_reducible first | exact HK.out | apply Kept.alloc | apply Kept.drewN | apply Kept.drew) | exact HK.out)⟩, ⟨by repeat (first | (with_reducible first | exact HB.out | apply below_alloc | apply pw_below_drewN | apply below_drew1) | exact HB.out)⟩⟩
                · rw [if_neg c19] at H
                  exact absurd H (by simp)
              · rw [if_neg c18] at H
                exact absurd H (by simp)
          · replace c6 := Bool.eq_false_iff.mpr c6
            subst c6
            have H1 : (some x0_1) = some r := by rw [if_neg (show ¬ (false = true) by decide)] at H; exact H
            clear H
            have H := H1
            clear H1
            obtain rfl := Option.some.inj H
            go_wp2
            first | go_end0 | ((try simp only [Exit.inBlock, Exit.then]); refine bodyPost_ret (results_none rfl _ _ _) rfl ?_)
            exact ⟨by first | rfl | (simp [errW_none, errW_some] <;> rfl) | (simp [*, errW_none, errW_some] <;> rfl), by (with_reducible repeat (first | apply Kd.R_alloc | apply Kd.R_drewN | apply Kd.R_drew)); exact HO_0.out, by repeat (first | (with_reducible first | exact HB.out | apply below_alloc | apply pw_below_drewN | apply below_drew1) | exact HB.out), by repeat (first | (with_reducible first | exact HK.out | apply Kept.alloc | apply Kept.drewN | apply Kept.drew) | exact HK.out)⟩
theorem rd_nat {l : List Int} {i : Nat} (h : i < l.length) : rd l (i : Int) = l[i] := by simp [rd, List.getD_eq_getElem?_getD, List.getElem?_eq_getElem h]
theorem addAt_l0 (n : List Int) (at_ : Nat) (hn : Nums.rng n = true) (hnl : n.length ≤ 70368744177664) : ∀ (d i : Nat) (out : List Int) (c : Int), at_ + i + d = out.length → n.length ≤ i + d → out.length ≤ 70368744177664 → Nums.rng out = true → 0 ≤ c → c ≤ 1 →
    Nums.val out + 4294967296 ^ (at_ + i) * (Nums.val (n.drop i) + c.toNat) < 4294967296 ^ out.length →
    Nums.Ev (fun k => mul_addAt.l0 k out n (at_ : Int) c (i : Int)) (Nums.fixed out.length (Nums.val out + 4294967296 ^ (at_ + i) * (Nums.val (n.drop i) + c.toNat))) := by
  intro d
  induction d with
  | zero =>
    intro i out c hi hl hol hro c0 c1 hv
    have hz : n.drop i = [] := List.drop_eq_nil_of_le (by omega)
    have hc0 : c = 0 := by
      apply Decidable.byContradiction
      intro hne
      have h1 : c.toNat = 1 := by omega
      rw [hz, h1, show Nums.val [] = 0 from rfl, Nat.zero_add, Nat.mul_one, show at_ + i = out.length by omega] at hv
      omega
    subst hc0
    rw [hz, show Nums.val [] + (0 : Int).toNat = 0 from rfl, Nat.mul_zero, Nat.add_zero, ← Nums.eq_fixed out hro]
    have hni : ¬ (i : Int) < (n.length : Int) := by omega
    refine Nums.Ev.succ (g := fun k => mul_addAt.j1 k out n (at_ : Int) 0 (i : Int) false) (Nums.Ev.now fun k => ?_) fun k => ?_
    · rw [mul_addAt.j1, if_neg (by decide)]
    · rw [mul_addAt.l0, if_neg hni]
      rfl
  | succ d ih =>
    intro i out c hi hl hol hro c0 c1 hv
    have hp : at_ + i < out.length := by omega
    have ho := Nums.rng_get hro (i := at_ + i) hp
    have hidx := Aside0.mk (w64_add (a := at_) (b := i) (by omega))
    have hsi := Aside0.mk (w64_succ (a := i) (by omega))
    have hset := fun z => Nums.val_set out (at_ + i) z hp
    have hrd := rd_nat hp
    have hnn : (0 : Int) ≤ ((at_ + i : Nat) : Int) := Int.natCast_nonneg _
    have hpp : ((at_ + i : Nat) : Int) < (out.length : Int) := Int.ofNat_lt.2 hp
    obtain ⟨o, ho'⟩ : ∃ o, out[at_ + i] = o := ⟨_, rfl⟩
    rw [ho'] at ho hset hrd
    -- one step, at a limb y of n (0 behind the last one)
    have step : ∀ (y : Int), 0 ≤ y → y < 4294967296 → Nums.val (n.drop i) = y.toNat + 4294967296 * Nums.val (n.drop (i + 1)) →
        Nums.Ev (fun k => mul_addAt.l0 k (out.set (at_ + i) ((o + y + c) % 4294967296)) n (at_ : Int) ((o + y + c) / 4294967296) ((i + 1 : Nat) : Int)) (Nums.fixed out.length (Nums.val out + 4294967296 ^ (at_ + i) * (Nums.val (n.drop i) + c.toNat))) := by
      intro y y0 y1 hy
      have hk : Nums.val (out.set (at_ + i) ((o + y + c) % 4294967296)) + 4294967296 ^ (at_ + (i + 1)) * (Nums.val (n.drop (i + 1)) + ((o + y + c) / 4294967296).toNat) = Nums.val out + 4294967296 ^ (at_ + i) * (Nums.val (n.drop i) + c.toNat) := by
        have h1 := hset ((o + y + c) % 4294967296)
        have h2 : ((o + y + c) % 4294967296).toNat + 4294967296 * ((o + y + c) / 4294967296).toNat = o.toNat + (y.toNat + c.toNat) := by omega
        have h3 := congrArg (4294967296 ^ (at_ + i) * ·) h2
        simp only [Nat.mul_add] at h3
        rw [hy, show at_ + (i + 1) = at_ + i + 1 by omega, Nat.pow_succ]
        obtain ⟨P, hP⟩ : ∃ P, 4294967296 ^ (at_ + i) = P := ⟨_, rfl⟩
        rw [hP] at h1 h3 ⊢
        obtain ⟨D, hD⟩ : ∃ D, Nums.val (n.drop (i + 1)) = D := ⟨_, rfl⟩
        rw [hD]
        simp only [Nat.mul_add, Nat.mul_assoc]
        omega
      have h4 := ih (i + 1) (out.set (at_ + i) ((o + y + c) % 4294967296)) ((o + y + c) / 4294967296) (by rw [List.length_set]; omega) (by omega) (by rw [List.length_set]; exact hol) (Nums.rng_set hro _ (by omega)) (by omega) (by omega) (by rw [hk, List.length_set]; exact hv)
      rw [hk, List.length_set] at h4
      exact h4
    by_cases hin : i < n.length
    · have hy := Nums.rng_get hn (i := i) hin
      have hrn := rd_nat hin
      have hdr := Nums.val_drop n i hin
      obtain ⟨y, hy'⟩ : ∃ y, n[i] = y := ⟨_, rfl⟩
      rw [hy'] at hy hrn hdr
      have hii : (i : Int) < (n.length : Int) := by omega
      have h0i : (0 : Int) ≤ (i : Int) := Int.natCast_nonneg _
      refine Nums.Ev.succ (g := fun k => mul_addAt.j1 k out n (at_ : Int) c (i : Int) true) (Nums.Ev.succ (step y hy.1 hy.2 hdr) fun k => ?_) fun k => ?_
      · rw [mul_addAt.j1, if_pos rfl, if_pos hii, if_pos h0i, hidx.out, if_pos hnn, if_pos hpp, hrd, hrn, add32_eq ho hy ⟨c0, c1⟩, Option.bind_some, Int.toNat_natCast, hsi.out]
      · rw [mul_addAt.l0, if_pos hii]
    · have hz : n.drop i = [] := List.drop_eq_nil_of_le (by omega)
      have hz2 : n.drop (i + 1) = [] := List.drop_eq_nil_of_le (by omega)
      have hni : ¬ (i : Int) < (n.length : Int) := by omega
      by_cases hc : c > 0
      · refine Nums.Ev.succ (g := fun k => mul_addAt.j1 k out n (at_ : Int) c (i : Int) true) (Nums.Ev.succ (step 0 (by decide) (by decide) (by rw [hz, hz2]; rfl)) fun k => ?_) fun k => ?_
        · rw [mul_addAt.j1, if_pos rfl, if_neg hni, hidx.out, if_pos hnn, if_pos hpp, hrd, add32_eq ho (by decide) ⟨c0, c1⟩, Option.bind_some, Int.toNat_natCast, hsi.out]
        · rw [mul_addAt.l0, if_neg hni, decide_eq_true hc]
      · obtain rfl : c = 0 := by omega
        rw [hz, show Nums.val [] + (0 : Int).toNat = 0 from rfl, Nat.mul_zero, Nat.add_zero, ← Nums.eq_fixed out hro]
        refine Nums.Ev.succ (g := fun k => mul_addAt.j1 k out n (at_ : Int) 0 (i : Int) false) (Nums.Ev.now fun k => ?_) fun k => ?_
        · rw [mul_addAt.j1, if_neg (by decide)]
        · rw [mul_addAt.l0, if_neg hni]
          rfl
theorem addAt_ev (out n : List Int) (at_ : Nat) (hro : Nums.rng out = true) (hn : Nums.rng n = true) (hol : out.length ≤ 70368744177664) (hl : at_ + n.length ≤ out.length)
    (hv : Nums.val out + 4294967296 ^ at_ * Nums.val n < 4294967296 ^ out.length) : Nums.Ev (fun k => mul_addAt.f k out n (at_ : Int)) (Nums.fixed out.length (Nums.val out + 4294967296 ^ at_ * Nums.val n)) := by
  have h := addAt_l0 n at_ hn (by omega) (out.length - at_) 0 out 0 (by omega) (by omega) hol hro (by decide) (by decide)
  simp only [Nat.add_zero, List.drop_zero, Int.toNat_zero] at h
  exact h hv

/-! ### mul_sum: function 84 -/
def mul_sum.f (k : Nat) (l0 : List Int) (l1 : List Int) : Option (List Int) := if 0 ≤ (wrap64 ((mx (l0.length : Int) (l1.length : Int)) + 1)) then (if (wrap64 ((mx (l0.length : Int) (l1.length : Int)) + 1) : Int).toNat ≤ 70368744177664 then ((mul_addAt.f k (List.replicate (wrap64 ((mx (l0.length : Int) (l1.length : Int)) + 1) : Int).toNat 0) l0 0).bind fun t157 => ((mul_addAt.f k t157 l1 0).bind fun t158 => ((mul_trim.f k t158).bind fun t159 => (some t159)))) else (none)) else (none)
theorem mul_sum.mono : ∀ a0 a1 k, LeO (mul_sum.f k a0 a1) (mul_sum.f (k + 1) a0 a1) := by
  intro a0 a1 k
  unfold mul_sum.f
  repeat' first
      | (with_reducible exact mul_addAt.mono _ _ _ _)
      | (with_reducible exact mul_trim.mono _ _)
      | (with_reducible exact LeO.refl _)
      | (with_reducible exact LeO.none _)
      | (with_reducible refine LeO.ite ?_ ?_)
      | (with_reducible refine LeO.bind ?_ (fun _ => ?_))
      | exact mul_addAt.mono _ _ _ _
      | exact mul_trim.mono _ _
      | exact LeO.none _
      | refine LeO.ite ?_ ?_
      | refine LeO.bind ?_ (fun _ => ?_)
set_option maxHeartbeats 8000000 in
set_option maxRecDepth 100000 in
theorem mul_sum.calls (k : Nat) (A0 : Option Addr) (c0 : Nat) (l0 : List Int) (A1 : Option Addr) (c1 : Nat) (l1 : List Int) (r : List Int) (w : World) (hr0 : Kd.C (Kd.int .u32) w A0 l0.length l0) (hc0 : l0.length ≤ c0) (hr1 : Kd.C (Kd.int .u32) w A1 l1.length l1) (hc1 : l1.length ≤ c1) (h : mul_sum.f k l0 l1 = some r) :
    Calls Tryd.prog 84 #[.slice A0 l0.length c0, .slice A1 l1.length c1] w fun e w' => ∃ v0_ : Value, e = .returned (v0_) ∧ Kd.R (Kd.int .u32) 39 w' w.heap.size (fun _ => True) v0_ r ∧ Below w.heap.size w w' := by
  have HR0 := Aside0.mk hr0
  have HC0 := Aside0.mk hc0
  clear hr0 hc0
  have HR1 := Aside0.mk hr1
  have HC1 := Aside0.mk hc1
  clear hr1 hc1
  have HB := Aside0.mk (Below.refl w.heap.size w)
  have H : (if 0 ≤ (wrap64 ((mx (l0.length : Int) (l1.length : Int)) + 1)) then (if (wrap64 ((mx (l0.length : Int) (l1.length : Int)) + 1) : Int).toNat ≤ 70368744177664 then ((mul_addAt.f k (List.replicate (wrap64 ((mx (l0.length : Int) (l1.length : Int)) + 1) : Int).toNat 0) l0 0).bind fun t157 => ((mul_addAt.f k t157 l1 0).bind fun t158 => ((mul_trim.f k t158).bind fun t159 => (some t159)))) else (none)) else (none)) = some r := h
  clear h
  obtain ⟨ji3, hji3⟩ : ∃ j_ : Int, (mx (l0.length : Int) (l1.length : Int)) = j_ := ⟨_, rfl⟩
  replace H : (if 0 ≤ (wrap64 ((ji3) + 1)) then (if (wrap64 ((ji3) + 1) : Int).toNat ≤ 70368744177664 then ((mul_addAt.f k (List.replicate (wrap64 ((ji3) + 1) : Int).toNat 0) l0 0).bind fun t157 => ((mul_addAt.f k t157 l1 0).bind fun t158 => ((mul_trim.f k t158).bind fun t159 => (some t159)))) else (none)) else (none)) = some r := by first | (rw [hji3] at H; exact H) | (simp only [hji3] at H ⊢; exact H)
  (try (have hji3l : 0 ≤ ji3 := by (rw [← hji3]; unfold mx; (repeat' split) <;> omega)))
  (try (have hji3m : 0 ≤ ji3 := by omega))
  have hji3_ : (if (l0.length : Int) < (l1.length : Int) then (l1.length : Int) else (l0.length : Int)) = ji3 := hji3
  have hji3_n : (if l0.length < l1.length then (l1.length : Int) else (l0.length : Int)) = ji3 := by rw [← hji3]; unfold mx; simp only [Int.ofNat_lt]
  obtain ⟨ji4, hji4⟩ : ∃ j_ : Int, (wrap64 ((ji3) + 1)) = j_ := ⟨_, rfl⟩
  replace H : (if 0 ≤ (ji4) then (if (ji4 : Int).toNat ≤ 70368744177664 then ((mul_addAt.f k (List.replicate (ji4 : Int).toNat 0) l0 0).bind fun t157 => ((mul_addAt.f k t157 l1 0).bind fun t158 => ((mul_trim.f k t158).bind fun t159 => (some t159)))) else (none)) else (none)) = some r := by first | (rw [hji4] at H; exact H) | (simp only [hji4] at H ⊢; exact H)
  have hji4w : (IntKind.i64.wrap ((ji3) + 1)) = ji4 := (i64_w _).trans hji4
  by_cases c5 : 0 ≤ (ji4)
  · rw [if_pos c5] at H
    have c5b0 := eq_true c5
    have c5b1 : decide (0 ≤ (ji4)) = true := decide_eq_true c5
    clear c5
    by_cases c6 : (ji4 : Int).toNat ≤ 70368744177664
    · rw [if_pos c6] at H
      have c6b0 := eq_true c6
      have c6b1 : decide ((ji4 : Int).toNat ≤ 70368744177664) = true := decide_eq_true c6
      clear c6
      obtain ⟨y154, hy154⟩ : ∃ y_ : List Int, y_ = (List.replicate (ji4 : Int).toNat 0) := ⟨_, rfl⟩
      replace H : ((mul_addAt.f k y154 l0 0).bind fun t157 => ((mul_addAt.f k t157 l1 0).bind fun t158 => ((mul_trim.f k t158).bind fun t159 => (some t159)))) = some r := by first | (rw [hy154]; with_reducible exact H) | (have H2_ := (Option.bind_some _ _).symm.trans H; rw [hy154]; with_reducible exact H2_) | (have H2_ := (Option.bind_some _ _).symm.trans H; with_reducible exact H2_) | with_reducible exact H | (rw [hy154]; exact H) | exact H
      have Ny154 := Aside0.mk hy154
      clear hy154
      replace H := Option.bind_eq_some_iff.mp H
      obtain ⟨t157, A70, H⟩ := H
      replace H : ((mul_addAt.f k t157 l1 0).bind fun t158 => ((mul_trim.f k t158).bind fun t159 => (some t159))) = some r := H
      have A7 := Aside0.mk A70
      clear A70
      replace H := Option.bind_eq_some_iff.mp H
      obtain ⟨t158, A80, H⟩ := H
      replace H : ((mul_trim.f k t158).bind fun t159 => (some t159)) = some r := H
      have A8 := Aside0.mk A80
      clear A80
      replace H := Option.bind_eq_some_iff.mp H
      obtain ⟨t159, A90, H⟩ := H
      replace H : (some t159) = some r := H
      have A9 := Aside0.mk A90
      clear A90
      obtain rfl := Option.some.inj H
      go_enter Tryd.func84, Tryd.ntmps84
      go_wp2_with (first | ((with_reducible refine gate_dst (N := 12) rfl ?_); refine Kd.R_make (Kd.int .u32) _ 39 rfl (N := 12) rfl 22 _ _ rfl ji4 rfl rfl Tryd.underlying22 (.int .u32 0) 4 info39 rfl (by decide) (by omega) 0 (ok := fun _ => True) (okp := fun _ => True) rfl (fun _ hk => hk) trivial (of_decide_eq_true (by first | (with_reducible assumption) | assumption)) (Nat.le_trans (Nat.mul_le_mul_right _ (of_decide_eq_true (by first | (with_reducible assumption) | assumption) : ji4.toNat ≤ 70368744177664)) (by omega)) (Below.refl _ _) (Nat.le_refl _) ?_; intro v155 w10 ho11 hb hg_ hnew_; clear hg_ hnew_; (first | rw [← Ny154.out] at ho11 | (simp only [Int.reduceToNat] at ho11; rw [← Ny154.out] at ho11)); have n0_ := Aside0.mk (Kd.R_lower ho11 (below_size (by repeat (first | (with_reducible first | exact HB.out | apply below_alloc | apply pw_below_drewN | apply below_drew1) | exact HB.out)))); have n1_ := Aside0.mk (below_step (by repeat (first | (with_reducible first | exact HB.out | apply below_alloc | apply pw_below_drewN | apply below_drew1) | exact HB.out)) hb); clear HB; have HO156 := n0_; have HB := n1_; clear n0_ n1_; clear hb ho11; obtain ⟨Ao12, co12, eo12⟩ := Kd.R_slice HO156.out; subst eo12) | ((with_reducible refine gate_callee (f := 83) rfl ?_); refine goesL_ (some 15) rfl rfl Tryd.func83 (by kernel_rfl) rfl #[.slice Ao12 y154.length co12, .slice A0 l0.length c0, .int .i64 0] rfl (by (try simp only [List.map_toArray, List.map_cons, List.map_nil]); first | done | rfl | (simp only [List.length_drop, List.length_take]; rfl)) ?_; (with_reducible refine (mul_addAt.calls k (fun k_ => some k_ = (.slice Ao12 y154.length co12 : Value).ownBlock) (.slice Ao12 y154.length co12) y154 _ _ l0 0 t157 w _ ?side1 ?side2 ?side3 ?side4 A7.out).mono ?_); (case side1 => repeat (first | (with_reducible first | exact HB.out | apply below_alloc | apply pw_below_drewN | apply below_drew1) | exact HB.out)); (case side2 => exact Kd.R_tight rfl HO156.out); (case side3 => exact Kd.C_kept_came (Kd.heap_int .u32) HR0.out (by repeat (first | (with_reducible first | exact HB.out | apply below_alloc | apply pw_below_drewN | apply below_drew1) | exact HB.out)) (fun k_ hs_ => (fun e_ => Kd.R_base HO156.out k_ e_.symm) hs_)); (case side4 => exact HC0.out); rintro e w13 ⟨rfl, hy0, hb, hkp⟩; refine ⟨_, rfl, ?_⟩; have n0_ := Aside0.mk (Kd.R_reok rfl hy0 (fun k_ e_ => HO156.out.1 k_ e_)); have n1_ := Aside0.mk (hb); clear HO156; clear HB; have HO156 := n0_; have HB := n1_; clear n0_ n1_; (try clear hb); (try clear hkp); (try clear hy0)) | ((with_reducible refine gate_callee (f := 83) rfl ?_); refine goesL_ (some 18) rfl rfl Tryd.func83 (by kernel_rfl) rfl #[.slice Ao12 y154.length co12, .slice A1 l1.length c1, .int .i64 0] rfl (by (try simp only [List.map_toArray, List.map_cons, List.map_nil]); first | done | rfl | (simp only [List.length_drop, List.length_take]; rfl)) ?_; (with_reducible refine (mul_addAt.calls k (fun k_ => some k_ = (.slice Ao12 y154.length co12 : Value).ownBlock) (.slice Ao12 y154.length co12) t157 _ _ l1 0 t158 w _ ?side1 ?side2 ?side3 ?side4 A8.out).mono ?_); (case side1 => repeat (first | (with_reducible first | exact HB.out | apply below_alloc | apply pw_below_drewN | apply below_drew1) | exact HB.out)); (case side2 => exact Kd.R_tight rfl HO156.out); (case side3 => exact Kd.C_kept_came (Kd.heap_int .u32) HR1.out (by repeat (first | (with_reducible first | exact HB.out | apply below_alloc | apply pw_below_drewN | apply below_drew1) | exact HB.out)) (fun k_ hs_ => (fun e_ => Kd.R_base HO156.out k_ e_.symm) hs_)); (case side4 => exact HC1.out); rintro e w14 ⟨rfl, hy0, hb, hkp⟩; refine ⟨_, rfl, ?_⟩; have n0_ := Aside0.mk (Kd.R_reok rfl hy0 (fun k_ e_ => HO156.out.1 k_ e_)); have n1_ := Aside0.mk (hb); clear HO156; clear HB; have HO156 := n0_; have HB := n1_; clear n0_ n1_; (try clear hb); (try clear hkp); (try clear hy0)) | ((with_reducible refine gate_callee (f := 79) rfl ?_); refine goesL_ (some 20) rfl rfl Tryd.func79 (by kernel_rfl) rfl #[.slice Ao12 y154.length co12] rfl (by (try simp only [List.map_toArray, List.map_cons, List.map_nil]); first | done | rfl | (simp only [List.length_drop, List.length_take]; rfl)) ?_; (with_reducible refine (mul_trim.calls k (fun k_ => some k_ = (.slice Ao12 y154.length co12 : Value).ownBlock) (.slice Ao12 y154.length co12) t158 t159 w _ ?side1 ?side2 A9.out).mono ?_); (case side1 => repeat (first | (with_reducible first | exact HB.out | apply below_alloc | apply pw_below_drewN | apply below_drew1) | exact HB.out)); (case side2 => exact Kd.R_tight rfl HO156.out); rintro e w15 ⟨v160, rfl, ho0, hb, hkp⟩; refine ⟨_, rfl, ?_⟩; have n0_ := Aside0.mk (Kd.R_mono (ok' := fun k_ => True) ho0 (fun k_ hk_ => trivial)); have n1_ := Aside0.mk (hb); clear HB; clear HO156; have HO161 := n0_; have HB := n1_; clear n0_ n1_; (try clear hb); (try clear hkp); (try clear ho0)))
      go_ret
      exact ⟨_, by first | rfl | (simp [errW_none, errW_some] <;> rfl) | (simp only [← hji3, ← hji4]; first | rfl | (simp [errW_none, errW_some] <;> rfl)) | (simp [*, errW_none, errW_some] <;> rfl), by (with_reducible repeat (first | apply Kd.R_alloc | apply Kd.R_drewN | apply Kd.R_drew)); exact HO161.out, by repeat (first | (with_reducible first | exact HB.out | apply below_alloc | apply pw_below_drewN | apply below_drew1) | exact HB.out)⟩
    · rw [if_neg c6] at H
      exact absurd H (by simp)
  · rw [if_neg c5] at H
    exact absurd H (by simp)
theorem sum_ev (a b : List Int) (ha : Nums.rng a = true) (hb : Nums.rng b = true) (hla : a.length ≤ 35184372088832) (hlb : b.length ≤ 35184372088832) : Nums.Ev (fun k => mul_sum.f k a b) (Nums.toL (Nums.val a + Nums.val b)) := by
  obtain ⟨m, hm⟩ : ∃ m, max a.length b.length = m := ⟨_, rfl⟩
  have hmx : mx (a.length : Int) (b.length : Int) = (m : Int) := by unfold mx; subst hm; split <;> omega
  have hw : wrap64 ((m : Int) + 1) = ((m + 1 : Nat) : Int) := w64_succ (by omega)
  have va := Nums.val_lt ha
  have vb := Nums.val_lt hb
  have ga : 4294967296 ^ a.length ≤ 4294967296 ^ m := Nums.pow_le_gen 4294967296 _ _ (by decide) (by omega)
  have gb : 4294967296 ^ b.length ≤ 4294967296 ^ m := Nums.pow_le_gen 4294967296 _ _ (by decide) (by omega)
  have gm : 4294967296 ^ (m + 1) = 4294967296 ^ m * 4294967296 := Nat.pow_succ _ _
  have hz : (List.replicate (m + 1) (0 : Int)).length = m + 1 := List.length_replicate
  have h1 := addAt_ev (List.replicate (m + 1) 0) a 0 (Nums.rng_zeros _) ha (by omega) (by omega) (by rw [hz, Nums.val_zeros, Nat.pow_zero]; omega)
  rw [hz, Nums.val_zeros, Nat.pow_zero, Nat.one_mul, Nat.zero_add] at h1
  have h2 := addAt_ev (Nums.fixed (m + 1) (Nums.val a)) b 0 (Nums.rng_fixed _ _) hb (by rw [Nums.fixed_length]; omega) (by rw [Nums.fixed_length]; omega) (by rw [Nums.fixed_length, Nums.val_fixed _ _ (by omega), Nat.pow_zero]; omega)
  rw [Nums.fixed_length, Nums.val_fixed _ _ (by omega), Nat.pow_zero, Nat.one_mul] at h2
  have h3 := mul_trim_ev (m + 1) (Nums.fixed (m + 1) (Nums.val a + Nums.val b)) (Nums.fixed_length _ _) (by omega) (Nums.rng_fixed _ _)
  rw [Nums.val_fixed _ _ (by omega)] at h3
  have hm0 : (0 : Int) ≤ ((m + 1 : Nat) : Int) := Int.natCast_nonneg _
  have hm1 : m + 1 ≤ 70368744177664 := by omega
  refine Nums.Ev.congr (g := fun k => (mul_addAt.f k (List.replicate (m + 1) 0) a 0).bind fun t => (mul_addAt.f k t b 0).bind fun u => (mul_trim.f k u).bind fun v => some v) (Nums.Ev.bind (f := fun k => mul_addAt.f k (List.replicate (m + 1) 0) a 0) h1 (Nums.Ev.bind (f := fun k => mul_addAt.f k (Nums.fixed (m + 1) (Nums.val a)) b 0) h2 (Nums.Ev.bind (f := fun k => mul_trim.f k (Nums.fixed (m + 1) (Nums.val a + Nums.val b))) h3 (Nums.Ev.some _)))) fun k => ?_
  unfold mul_sum.f
  rw [hmx, hw, if_pos hm0, Int.toNat_natCast, if_pos hm1]

/-! ### bits_Sub32: function 56 -/
def bits_Sub32.f (a0 : Int) (a1 : Int) (a2 : Int) : Option (Int × Int) := some ((((a0 - a1) % 4294967296) - a2) % 4294967296, (Go.bits .or .u32 (Go.bits .and .u32 (Go.bits .xor .u32 4294967295 a0) a1) (Go.bits .and .u32 (Go.bits .xor .u32 4294967295 (Go.bits .xor .u32 a0 a1)) ((((a0 - a1) % 4294967296) - a2) % 4294967296))) / 2147483648)
set_option maxHeartbeats 8000000 in
set_option maxRecDepth 100000 in
theorem bits_Sub32.calls (a0 : Int) (a1 : Int) (a2 : Int) (r1 : Int) (r2 : Int) (w : World) (h : bits_Sub32.f a0 a1 a2 = some (r1, r2)) :
    Calls Tryd.prog 56 #[.int .u32 a0, .int .u32 a1, .int .u32 a2] w fun e w' => e = .returned (.tuple #[.int .u32 r1, .int .u32 r2]) ∧ Drawn0 w w' := by
  have H : (some ((((a0 - a1) % 4294967296) - a2) % 4294967296, (Go.bits .or .u32 (Go.bits .and .u32 (Go.bits .xor .u32 4294967295 a0) a1) (Go.bits .and .u32 (Go.bits .xor .u32 4294967295 (Go.bits .xor .u32 a0 a1)) ((((a0 - a1) % 4294967296) - a2) % 4294967296))) / 2147483648)) = some (r1, r2) := h
  clear h
  simp only [Option.some.injEq, Prod.mk.injEq] at H
  obtain ⟨rfl, rfl⟩ := H
  go_enter Tryd.func56, Tryd.ntmps56
  go_wp2
  go_ret2
  exact ⟨by first | rfl | (simp; done) | (simp [*]; done), by repeat (first | exact Drawn0.refl _ | apply Drawn0.step)⟩
theorem bits32_nat (a b : Nat) (ha : a < 4294967296) (hb : b < 4294967296) : Go.bits .and .u32 (a : Int) (b : Int) = ((a &&& b : Nat) : Int) ∧ Go.bits .or .u32 (a : Int) (b : Int) = ((a ||| b : Nat) : Int) ∧ Go.bits .xor .u32 (a : Int) (b : Int) = ((a ^^^ b : Nat) : Int) := by
  have hx : a &&& b < 2 ^ 32 := Nat.and_lt_two_pow _ (by omega)
  have hy : a ||| b < 2 ^ 32 := Nat.or_lt_two_pow (by omega) (by omega)
  have hz : a ^^^ b < 2 ^ 32 := Nat.xor_lt_two_pow (by omega) (by omega)
  have h1 : (BitVec.ofInt 32 (a : Int)).toNat = a := by
    rw [BitVec.ofInt_natCast, BitVec.toNat_ofNat]; exact Nat.mod_eq_of_lt (by omega)
  have h2 : (BitVec.ofInt 32 (b : Int)).toNat = b := by
    rw [BitVec.ofInt_natCast, BitVec.toNat_ofNat]; exact Nat.mod_eq_of_lt (by omega)
  have hw : ∀ n : Nat, n < 2 ^ 32 → IntKind.u32.wrap (n : Int) = n := fun n hn => by
    show (n : Int) % 4294967296 = n
    omega
  refine ⟨?_, ?_, ?_⟩
  · show IntKind.u32.wrap ((BitVec.ofInt 32 (a : Int) &&& BitVec.ofInt 32 (b : Int)).toNat : Int) = _
    rw [BitVec.toNat_and, h1, h2, hw _ hx]
  · show IntKind.u32.wrap ((BitVec.ofInt 32 (a : Int) ||| BitVec.ofInt 32 (b : Int)).toNat : Int) = _
    rw [BitVec.toNat_or, h1, h2, hw _ hy]
  · show IntKind.u32.wrap ((BitVec.ofInt 32 (a : Int) ^^^ BitVec.ofInt 32 (b : Int)).toNat : Int) = _
    rw [BitVec.toNat_xor, h1, h2, hw _ hz]
theorem top_bit (n : Nat) (h : n < 4294967296) : n / 2147483648 = if n.testBit 31 = true then 1 else 0 := by
  rw [Nat.testBit_eq_decide_div_mod_eq]
  by_cases h1 : n / 2 ^ 31 % 2 = 1
  · rw [if_pos (by simpa using h1)]; omega
  · rw [if_neg (by simpa using h1)]; omega
theorem top_is (n : Nat) (h : n < 4294967296) : n.testBit 31 = decide (2147483648 ≤ n) := by
  rw [Nat.testBit_eq_decide_div_mod_eq]
  exact decide_eq_decide.2 (by omega)
theorem sub32_eq {x y c : Int} (hx : 0 ≤ x ∧ x < 4294967296) (hy : 0 ≤ y ∧ y < 4294967296) (hc : 0 ≤ c ∧ c ≤ 1) : bits_Sub32.f x y c = some ((x - y - c) % 4294967296, if x < y + c then 1 else 0) := by
  obtain ⟨a, ha⟩ : ∃ a : Nat, x = a := ⟨x.toNat, by omega⟩
  obtain ⟨b, hb⟩ : ∃ b : Nat, y = b := ⟨y.toNat, by omega⟩
  subst ha hb
  obtain ⟨d, hd⟩ : ∃ d : Nat, (((a : Int) - b) % 4294967296 - c) % 4294967296 = d := ⟨((((a : Int) - b) % 4294967296 - c) % 4294967296).toNat, by omega⟩
  have hd32 : d < 4294967296 := by omega
  have hd2 : ((a : Int) - b - c) % 4294967296 = d := by omega
  unfold bits_Sub32.f
  rw [hd, hd2, show (4294967295 : Int) = ((4294967295 : Nat) : Int) from rfl]
  have x1 := (bits32_nat 4294967295 a (by decide) (by omega)).2.2
  have l1 : 4294967295 ^^^ a < 4294967296 := Nat.xor_lt_two_pow (n := 32) (by decide) (by omega)
  have x2 := (bits32_nat (4294967295 ^^^ a) b l1 (by omega)).1
  have l2 : (4294967295 ^^^ a) &&& b < 4294967296 := Nat.and_lt_two_pow (n := 32) _ (by omega)
  have x3 := (bits32_nat a b (by omega) (by omega)).2.2
  have l3 : a ^^^ b < 4294967296 := Nat.xor_lt_two_pow (n := 32) (by omega) (by omega)
  have x4 := (bits32_nat 4294967295 (a ^^^ b) (by decide) l3).2.2
  have l4 : 4294967295 ^^^ (a ^^^ b) < 4294967296 := Nat.xor_lt_two_pow (n := 32) (by decide) (by omega)
  have x5 := (bits32_nat (4294967295 ^^^ (a ^^^ b)) d l4 hd32).1
  have l5 : (4294967295 ^^^ (a ^^^ b)) &&& d < 4294967296 := Nat.and_lt_two_pow (n := 32) _ (by omega)
  have x6 := (bits32_nat _ _ l2 l5).2.1
  have l6 : (4294967295 ^^^ a) &&& b ||| (4294967295 ^^^ (a ^^^ b)) &&& d < 4294967296 := Nat.or_lt_two_pow (n := 32) (by omega) (by omega)
  rw [x1, x2, x3, x4, x5, x6]
  congr 2
  have t := top_bit _ l6
  rw [Nat.testBit_or, Nat.testBit_and, Nat.testBit_and, Nat.testBit_xor, Nat.testBit_xor, Nat.testBit_xor, show Nat.testBit 4294967295 31 = true from by decide, top_is a (by omega), top_is b (by omega), top_is d hd32] at t
  have e : ∀ n : Nat, ((n : Int) / 2147483648) = ((n / 2147483648 : Nat) : Int) := fun n => by omega
  rw [e, t]
  by_cases ta : 2147483648 ≤ a <;> by_cases tb : 2147483648 ≤ b <;> by_cases td : 2147483648 ≤ d <;> simp only [ta, tb, td, decide_true, decide_false, Bool.xor_true, Bool.xor_false, Bool.true_xor, Bool.false_xor, Bool.not_true, Bool.not_false, Bool.and_true, Bool.and_false, Bool.true_and, Bool.false_and, Bool.or_true, Bool.or_false, Bool.true_or, Bool.false_or, if_true, Bool.false_eq_true, if_false] <;> (split <;> omega)

end Go.Proofs.YtjgloepeogelnaaDoor.Pr

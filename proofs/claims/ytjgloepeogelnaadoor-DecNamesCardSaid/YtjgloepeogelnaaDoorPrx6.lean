/- Functions with the same answers as the Go functions of the program, with the proofs that the program comes to just these answers; no condition but those that each theorem names. (Laid by this work's own program mk.py out of the translation.) -/
import Derived.Test.YtjgloepeogelnaaDoorPrx0
import Derived.Test.YtjgloepeogelnaaDoorPrx4
import Derived.Test.YtjgloepeogelnaaDoorPrx5
namespace Go.Proofs.YtjgloepeogelnaaDoor.Pr
open Go.RowKit Go.Proofs.YtjgloepeogelnaaDoorW.PrintWords Go.Proofs.YtjgloepeogelnaaDoorW.PrintLast Go.Proofs.YtjgloepeogelnaaDoorW.PrintMore
attribute [local go_sem] max2_int min2_int max_two min_two max_three min_three max_four min_four   -- for this text's walks alone
set_option linter.unusedVariables false
set_option linter.unusedSimpArgs false

/-! ### mul_less: function 85 -/
mutual
def mul_less.l0 : Nat → List Int → List Int → Int → Int → Option (List Int)
  | 0, _, _, _, _ => none
  | k + 1, x0, x1, x4, x5 => if x5 < (x1.length : Int) then (mul_less.j1 k x0 x1 x4 x5 true) else (mul_less.j1 k x0 x1 x4 x5 (decide (x4 > 0)))
def mul_less.j1 : Nat → List Int → List Int → Int → Int → Bool → Option (List Int)
  | 0, _, _, _, _, _ => none
  | k + 1, x0, x1, x4, x5, x14 => if x14 = true then (if x5 < (x1.length : Int) then (if 0 ≤ x5 then (if x5 < (x0.length : Int) then ((bits_Sub32.f (rd x0 x5) (rd x1 x5) x4).bind fun bt164 => (mul_less.l0 k (x0.set (x5 : Int).toNat bt164.1) x1 bt164.2 (wrap64 (x5 + 1)))) else (none)) else (none)) else (if 0 ≤ x5 then (if x5 < (x0.length : Int) then ((bits_Sub32.f (rd x0 x5) 0 x4).bind fun bt168 => (mul_less.l0 k (x0.set (x5 : Int).toNat bt168.1) x1 bt168.2 (wrap64 (x5 + 1)))) else (none)) else (none))) else (some x0)
end
def mul_less.f (k : Nat) (l0 : List Int) (l1 : List Int) : Option (List Int) := mul_less.l0 k l0 l1 0 0
theorem mul_less.mono_l : ∀ k, (∀ y0 y1 y2 y3, LeO (mul_less.l0 k y0 y1 y2 y3) (mul_less.l0 (k + 1) y0 y1 y2 y3)) ∧ (∀ y0 y1 y2 y3 y4, LeO (mul_less.j1 k y0 y1 y2 y3 y4) (mul_less.j1 (k + 1) y0 y1 y2 y3 y4))
  | 0 => ⟨fun _ _ _ _ r h => by simp [mul_less.l0] at h, fun _ _ _ _ _ r h => by simp [mul_less.j1] at h⟩
  | k + 1 => by
    obtain ⟨ih0, ih1⟩ := mul_less.mono_l k
    refine ⟨?_, ?_⟩
    · intro y0 y1 y2 y3
      unfold mul_less.l0
      repeat' first
      | (with_reducible exact ih0 _ _ _ _)
      | (with_reducible exact ih1 _ _ _ _ _)
      | (with_reducible exact LeO.refl _)
      | (with_reducible exact LeO.none _)
      | (with_reducible refine LeO.ite ?_ ?_)
      | (with_reducible refine LeO.bind ?_ (fun _ => ?_))
      | exact ih0 _ _ _ _
      | exact ih1 _ _ _ _ _
      | exact LeO.none _
      | refine LeO.ite ?_ ?_
      | refine LeO.bind ?_ (fun _ => ?_)
    · intro y0 y1 y2 y3 y4
      unfold mul_less.j1
      repeat' first
      | (with_reducible exact ih0 _ _ _ _)
      | (with_reducible exact ih1 _ _ _ _ _)
      | (with_reducible exact LeO.refl _)
      | (with_reducible exact LeO.none _)
      | (with_reducible refine LeO.ite ?_ ?_)
      | (with_reducible refine LeO.bind ?_ (fun _ => ?_))
      | exact ih0 _ _ _ _
      | exact ih1 _ _ _ _ _
      | exact LeO.none _
      | refine LeO.ite ?_ ?_
      | refine LeO.bind ?_ (fun _ => ?_)
theorem mul_less.mono : ∀ a0 a1 k, LeO (mul_less.f k a0 a1) (mul_less.f (k + 1) a0 a1) := by
  intro a0 a1 k
  obtain ⟨ih0, ih1⟩ := mul_less.mono_l k
  unfold mul_less.f
  repeat' first
      | (with_reducible exact ih0 _ _ _ _)
      | (with_reducible exact ih1 _ _ _ _ _)
      | (with_reducible exact LeO.refl _)
      | (with_reducible exact LeO.none _)
      | (with_reducible refine LeO.ite ?_ ?_)
      | (with_reducible refine LeO.bind ?_ (fun _ => ?_))
      | exact ih0 _ _ _ _
      | exact ih1 _ _ _ _ _
      | exact LeO.none _
      | refine LeO.ite ?_ ?_
      | refine LeO.bind ?_ (fun _ => ?_)
set_option maxHeartbeats 8000000 in
set_option maxRecDepth 100000 in
theorem mul_less.calls (k : Nat) (P0_ : Nat → Prop) (u9000_ : Value) (l0 : List Int) (A1 : Option Addr) (c1 : Nat) (l1 : List Int) (r : List Int) (w0 w : World) (hB : Below w0.heap.size w0 w) (ho0 : Kd.R (Kd.int .u32) 39 w w0.heap.size P0_ u9000_ l0) (hr1 : ∀ W_, Kept w W_ (fun k_ => P0_ k_) → Kd.C (Kd.int .u32) W_ A1 l1.length l1) (hc1 : l1.length ≤ c1) (h : mul_less.f k l0 l1 = some r) :
    Calls Tryd.prog 85 #[u9000_, .slice A1 l1.length c1] w fun e w' => e = .returned (.tuple #[]) ∧ Kd.R (Kd.int .u32) 39 w' w0.heap.size (fun k_ => (P0_ k_ ∨ w.heap.size ≤ k_)) u9000_ r ∧ Below w0.heap.size w0 w' ∧ Kept w w' (fun k_ => P0_ k_) := by
  have HO0 := Aside0.mk (show Kd.R (Kd.int .u32) 39 w w0.heap.size (fun k_ => (P0_ k_ ∨ w.heap.size ≤ k_)) u9000_ l0 from Kd.R_mono ho0 (fun k_ hk => (.inl hk)))
  have HR1 := Aside0.mk hr1
  have HC1 := Aside0.mk hc1
  clear hr1 hc1
  have HK := Aside0.mk (Kept.refl w (fun k_ => P0_ k_))
  have HW0 := Aside0.mk hB.size
  have HB := Aside0.mk hB
  clear hB
  have H : (mul_less.l0 k l0 l1 0 0) = some r := h
  clear h
  have H' := Aside0.mk H
  clear H
  go_enter Tryd.func85, Tryd.ntmps85
  go_wp2
  go_loopg [4, 5] k (fun kq v4 v5 w' => ∃ (x0_1 : List Int) (x4_1 : Int) (x5_1 : Int), v4 = .int .u32 x4_1 ∧ v5 = .int .i64 x5_1 ∧ Aside0 (mul_less.l0 kq x0_1 l1 x4_1 x5_1 = some r) ∧ Aside0 (kq ≤ k) ∧ Aside0 (Kd.R (Kd.int .u32) 39 w' w0.heap.size (fun k_ => (P0_ k_ ∨ w.heap.size ≤ k_)) u9000_ x0_1) ∧ Aside0 (Kept w w' (fun k_ => P0_ k_)) ∧ Aside0 (Below w0.heap.size w0 w'))
  case atStart => exact ⟨(l0), (0), (0), (by first | rfl | (simp; done) | (simp [*]; done)), (by first | rfl | (simp; done) | (simp [*]; done)), H', ⟨Nat.le_refl _⟩, ⟨by (with_reducible repeat (first | apply Kd.R_alloc | apply Kd.R_drewN | apply Kd.R_drew)); exact HO0.out⟩, ⟨by repeat (first | (with_reducible first | exact HK.out | apply Kept.alloc | apply Kept.drewN | apply Kept.drew) | exact HK.out)⟩, ⟨by repeat (first | (with_reducible first | exact HB.out | apply below_alloc | apply pw_below_drewN | apply below_drew1) | exact HB.out)⟩⟩
  case round =>
    clear H'
    try clear c1
    try clear p2
    obtain ⟨x0_1, x4_1, x5_1, rfl, rfl, HA, HK1, HO_0, HK, HB⟩ := hrel
    cases gk with
    | zero => exact absurd HA.out (by simp [mul_less.l0])
    | succ k1 =>
      have H := HA.out
      clear HA
      simp only [mul_less.l0] at H
      have HC3 := Aside0.mk H
      clear H
      go_upto_region 2 with (fail)
      go_cut [14] (fun v14 wc => ∃ (kq : Nat) (x14_2 : Bool), v14 = .bool x14_2 ∧ Aside0 (mul_less.j1 kq x0_1 l1 x4_1 x5_1 x14_2 = some r) ∧ Aside0 (kq ≤ k1) ∧ Aside0 (Kd.R (Kd.int .u32) 39 wc w0.heap.size (fun k_ => (P0_ k_ ∨ w.heap.size ≤ k_)) u9000_ x0_1) ∧ Aside0 (Kept w wc (fun k_ => P0_ k_)) ∧ Aside0 (Below w0.heap.size w0 wc))
      case first =>
        have H := HC3.out
        clear HC3
        by_cases c4 : x5_1 < (l1.length : Int)
        · rw [if_pos c4] at H
          have c4b0 : decide (x5_1 < (l1.length : Int)) = true := decide_eq_true c4
          clear c4
          (first | rw [c4b0] | (simp only [i64_w, i32_w]; rw [c4b0]) | rw [c4b1] | skip)
          have H' := Aside0.mk H
          clear H
          go_wp2
          go_meet
          case rel => exact ⟨_, (true), (by first | rfl | (simp; done) | (simp [*]; done)), H', ⟨by have := HK1.out; first | omega | exact Nat.le_refl _⟩, ⟨by (with_reducible repeat (first | apply Kd.R_alloc | apply Kd.R_drewN | apply Kd.R_drew)); exact HO_0.out⟩, ⟨by repeat (first | (with_reducible first | exact HK.out | apply Kept.alloc | apply Kept.drewN | apply Kept.drew) | exact HK.out)⟩, ⟨by repeat (first | (with_reducible first | exact HB.out | apply below_alloc | apply pw_below_drewN | apply below_drew1) | exact HB.out)⟩⟩
        · rw [if_neg c4] at H
          have c4b0 : decide (x5_1 < (l1.length : Int)) = false := decide_eq_false c4
          clear c4
          (first | rw [c4b0] | (simp only [i64_w, i32_w]; rw [c4b0]) | rw [c4b1] | skip)
          have H' := Aside0.mk H
          clear H
          go_wp2
          go_meet
          case rel => exact ⟨_, (decide (x4_1 > 0)), (by first | rfl | (simp; done) | (simp [*]; done)), H', ⟨by have := HK1.out; first | omega | exact Nat.le_refl _⟩, ⟨by (with_reducible repeat (first | apply Kd.R_alloc | apply Kd.R_drewN | apply Kd.R_drew)); exact HO_0.out⟩, ⟨by repeat (first | (with_reducible first | exact HK.out | apply Kept.alloc | apply Kept.drewN | apply Kept.drew) | exact HK.out)⟩, ⟨by repeat (first | (with_reducible first | exact HB.out | apply below_alloc | apply pw_below_drewN | apply below_drew1) | exact HB.out)⟩⟩
      case rest =>
        clear HC3
        try clear c1
        try clear p2
        try clear c4
        try clear c4b0
        try clear p2
        obtain ⟨kq, x14_2, rfl, HA, HJ2, HO_0, HK, HB⟩ := hcut
        cases kq with
        | zero => exact absurd HA.out (by simp [mul_less.j1])
        | succ kj2 =>
          have H := HA.out
          clear HA
          simp only [mul_less.j1] at H
          by_cases c5 : x14_2 = true
          · subst c5
            have H1 : (if x5_1 < (l1.length : Int) then (if 0 ≤ x5_1 then (if x5_1 < (x0_1.length : Int) then ((bits_Sub32.f (rd x0_1 x5_1) (rd l1 x5_1) x4_1).bind fun bt164 => (mul_less.l0 kj2 (x0_1.set (x5_1 : Int).toNat bt164.1) l1 bt164.2 (wrap64 (x5_1 + 1)))) else (none)) else (none)) else (if 0 ≤ x5_1 then (if x5_1 < (x0_1.length : Int) then ((bits_Sub32.f (rd x0_1 x5_1) 0 x4_1).bind fun bt168 => (mul_less.l0 kj2 (x0_1.set (x5_1 : Int).toNat bt168.1) l1 bt168.2 (wrap64 (x5_1 + 1)))) else (none)) else (none))) = some r := by rw [if_pos rfl] at H; exact H
            clear H
            have H := H1
            clear H1
            by_cases c6 : x5_1 < (l1.length : Int)
            · rw [if_pos c6] at H
              have c6b0 : decide (x5_1 < (l1.length : Int)) = true := decide_eq_true c6
              clear c6
              by_cases c7 : 0 ≤ x5_1
              · rw [if_pos c7] at H
                have c7b0 : decide (0 ≤ x5_1) = true := decide_eq_true c7
                clear c7
                by_cases c8 : x5_1 < (x0_1.length : Int)
                · rw [if_pos c8] at H
                  have c8b0 : decide (x5_1 < (x0_1.length : Int)) = true := decide_eq_true c8
                  clear c8
                  replace H := Option.bind_eq_some_iff.mp H
                  obtain ⟨⟨t164, t165⟩, A90, H⟩ := H
                  replace H : (mul_less.l0 kj2 (x0_1.set (x5_1 : Int).toNat t164) l1 t165 (wrap64 (x5_1 + 1))) = some r := H
                  have A9 := Aside0.mk A90
                  clear A90
                  obtain ⟨y166, hy166⟩ : ∃ y_ : List Int, y_ = (x0_1.set (x5_1 : Int).toNat t164) := ⟨_, rfl⟩
                  replace H : (mul_less.l0 kj2 y166 l1 t165 (wrap64 (x5_1 + 1))) = some r := by first | (rw [hy166]; with_reducible exact H) | (have H2_ := (Option.bind_some _ _).symm.trans H; rw [hy166]; with_reducible exact H2_) | (have H2_ := (Option.bind_some _ _).symm.trans H; with_reducible exact H2_) | with_reducible exact H | (rw [hy166]; exact H) | exact H
                  have Ny166 := Aside0.mk hy166
                  clear hy166
                  have H' := Aside0.mk H
                  clear H
                  have p162 : 0 ≤ (x5_1 : Int) := of_decide_eq_true (by first | (with_reducible assumption) | assumption)
                  have q162 : x5_1 < (l1.length : Int) := of_decide_eq_true (by first | (with_reducible assumption) | assumption)
                  obtain ⟨ad162, e162, hx162_0⟩ := Kd.at_int (Kd.C_kept_now HR1.out HK.out) x5_1 p162 q162
                  cases e162
                  replace p162 := eq_true p162
                  replace q162 := eq_true q162
                  obtain ⟨Ao11, co11, eo11⟩ := Kd.R_slice HO_0.out
                  subst eo11
                  have p163 : 0 ≤ (x5_1 : Int) := of_decide_eq_true (by first | (with_reducible assumption) | assumption)
                  have q163 : x5_1 < (x0_1.length : Int) := of_decide_eq_true (by first | (with_reducible assumption) | assumption)
                  obtain ⟨ad163, e163, hx163_0⟩ := Kd.at_int (Kd.R_reads' HO_0.out).2.2 x5_1 p163 q163
                  cases e163
                  replace p163 := eq_true p163
                  replace q163 := eq_true q163
                  go_wp2_with (first | ((with_reducible refine gate_callee (f := 56) rfl ?_); refine goesL_ (some 34) rfl rfl Tryd.func56 (by kernel_rfl) rfl #[.int .u32 (rd x0_1 x5_1), .int .u32 (rd l1 x5_1), .int .u32 x4_1] rfl (by (try simp only [List.map_toArray, List.map_cons, List.map_nil]); first | done | rfl | (simp only [List.length_drop, List.length_take]; rfl)) ?_; (with_reducible refine (bits_Sub32.calls (rd x0_1 x5_1) (rd l1 x5_1) x4_1 t164 t165 _ A9.out).mono ?_); rintro e w' ⟨rfl, ⟨nd, rfl⟩⟩; refine ⟨_, rfl, ?_⟩; (try (rw [drewN_self wc]; generalize hq_ : World.drewN wc _ = wc; have n0_ : Aside0 (Kd.R (Kd.int .u32) 39 wc w0.heap.size (fun k_ => (P0_ k_ ∨ w.heap.size ≤ k_)) (.slice (some ad163) x0_1.length co11) x0_1) := ⟨by rw [← hq_]; exact (by (with_reducible repeat (first | apply Kd.R_alloc | apply Kd.R_drewN | apply Kd.R_drew)); exact HO_0.out)⟩; have n1_ : Aside0 (Kept w wc (fun k_ => P0_ k_)) := ⟨by rw [← hq_]; exact (by repeat (first | (with_reducible first | exact HK.out | apply Kept.alloc | apply Kept.drewN | apply Kept.drew) | exact HK.out))⟩; have n2_ : Aside0 (Below w0.heap.size w0 wc) := ⟨by rw [← hq_]; exact (by repeat (first | (with_reducible first | exact HB.out | apply below_alloc | apply pw_below_drewN | apply below_drew1) | exact HB.out))⟩; clear HO_0 HK HB hq_; have HO_0 := n0_; have HK := n1_; have HB := n2_; clear n0_ n1_ n2_)); have p10 : 0 ≤ (x5_1 : Int) := of_decide_eq_true (by first | (with_reducible assumption) | assumption); have q10 : (x5_1 : Int) < ((x0_1.length : Int) : Int) := of_decide_eq_true (by first | (with_reducible assumption) | assumption); obtain ⟨go10, co10, eo10, gb10, gl10, cl10, HG10⟩ := Kd.R_form HO_0.out (by omega); (first | cases eo10 | (injection eo10 with ea_ en_ ec_; (first | subst ea_ | (injection ea_ with ea_; subst ea_)); subst ec_; clear en_)); have GB10 := Aside0.mk gb10; have GG10 := Aside0.mk HG10; clear gb10 gl10 HG10; have HMgo10 := Aside0.mk (show (P0_ go10 ∨ w.heap.size ≤ go10) from (HO_0.out.1 _ rfl)); (first | simp only [add_plain] at hx163_0 | skip); obtain ⟨hx10_0, hf10_0⟩ := Kd.R_celln 0 HO_0.out (x5_1 : Int) p10 q10; replace p10 := eq_true p10; replace q10 := eq_true q10; obtain ⟨hy12_, hz12_⟩ := Kd.R_celln 0 HO_0.out (x5_1 : Int) (of_decide_eq_true (by first | (with_reducible assumption) | assumption)) (of_decide_eq_true (by first | (with_reducible assumption) | assumption)); have HP12 := Kd.R_putg HO_0.out (x5_1 : Int) t164) | ((with_reducible refine gate_store (t := 39) (p := 37) rfl ?_); refine store_event (t := 39) (p := 37) (v := ?vo_w13) (w1 := (wc.setCell ⟨go10, (x5_1 : Int).toNat, none⟩ (.int .u32 t164))) ?hg ?ho ?hn ?hr ?_; (case ho => rfl); (case hg => rfl); (case hn => rfl); (case hr => first | (go_simp; done) | (go_simp; rfl)); intro w13 hw; have hg : wc.grownBy w13 (some go10) := (by rw [hw]; exact HP12.2); have hp_ : Kd.R (Kd.int .u32) 39 w13 w0.heap.size (fun k_ => (P0_ k_ ∨ w.heap.size ≤ k_)) (.slice (some ⟨go10, 0, none⟩) x0_1.length co11) y166 := (by rw [hw, Ny166.out]; exact HP12.1); clear HP12; have n0_ := Aside0.mk (hp_); have n1_ := Aside0.mk ((by rw [hw]; exact below_set (HB.out) GB10.out : Below w0.heap.size w0 w13)); have n2_ := Aside0.mk (Kept.of_grown (S := (fun k_ => P0_ k_)) hg (by repeat (first | (with_reducible first | exact HK.out | apply Kept.alloc | apply Kept.drewN | apply Kept.drew) | exact HK.out)) (fun k_ e_ => (HO_0.out.1 k_ e_))); clear HO_0; clear HB; clear HK; have HO_0 := n0_; have HB := n1_; have HK := n2_; clear n0_ n1_ n2_; clear hg hw hp_))
                  go_roundg kj2
                  case measure => have := HK1.out; have := HJ2.out; omega
                  case rel => exact ⟨(y166), (t165), (wrap64 (x5_1 + 1)), (by first | rfl | (simp; done) | (simp [*]; done)), (by first | rfl | (simp; done) | (simp [*]; done)), H', ⟨by have := HK1.out; have := HJ2.out; omega⟩, ⟨by (with_reducible repeat (first | apply Kd.R_alloc | apply Kd.R_drewN | apply Kd.R_drew)); exact HO_0.out⟩, ⟨by repeat (first | (with_reducible first | exact HK.out | apply Kept.alloc | apply Kept.drewN | apply Kept.drew) | exact HK.out)⟩, ⟨by repeat (first | (with_reducible first | exact HB.out | apply below_alloc | apply pw_below_drewN | apply below_drew1) | exact HB.out)⟩⟩
                · rw [if_neg c8] at H
                  exact absurd H (by simp)
              · rw [if_neg c7] at H
                exact absurd H (by simp)
            · rw [if_neg c6] at H
              have c6b0 : decide (x5_1 < (l1.length : Int)) = false := decide_eq_false c6
              clear c6
              by_cases c14 : 0 ≤ x5_1
              · rw [if_pos c14] at H
                have c14b0 : decide (0 ≤ x5_1) = true := decide_eq_true c14
                clear c14
                by_cases c15 : x5_1 < (x0_1.length : Int)
                · rw [if_pos c15] at H
                  have c15b0 : decide (x5_1 < (x0_1.length : Int)) = true := decide_eq_true c15
                  clear c15
                  replace H := Option.bind_eq_some_iff.mp H
                  obtain ⟨⟨t168, t169⟩, A160, H⟩ := H
                  replace H : (mul_less.l0 kj2 (x0_1.set (x5_1 : Int).toNat t168) l1 t169 (wrap64 (x5_1 + 1))) = some r := H
                  have A16 := Aside0.mk A160
                  clear A160
                  obtain ⟨y170, hy170⟩ : ∃ y_ : List Int, y_ = (x0_1.set (x5_1 : Int).toNat t168) := ⟨_, rfl⟩
                  replace H : (mul_less.l0 kj2 y170 l1 t169 (wrap64 (x5_1 + 1))) = some r := by first | (rw [hy170]; with_reducible exact H) | (have H2_ := (Option.bind_some _ _).symm.trans H; rw [hy170]; with_reducible exact H2_) | (have H2_ := (Option.bind_some _ _).symm.trans H; with_reducible exact H2_) | with_reducible exact H | (rw [hy170]; exact H) | exact H
                  have Ny170 := Aside0.mk hy170
                  clear hy170
                  have H' := Aside0.mk H
                  clear H
                  obtain ⟨Ao18, co18, eo18⟩ := Kd.R_slice HO_0.out
                  subst eo18
                  have p167 : 0 ≤ (x5_1 : Int) := of_decide_eq_true (by first | (with_reducible assumption) | assumption)
                  have q167 : x5_1 < (x0_1.length : Int) := of_decide_eq_true (by first | (with_reducible assumption) | assumption)
                  obtain ⟨ad167, e167, hx167_0⟩ := Kd.at_int (Kd.R_reads' HO_0.out).2.2 x5_1 p167 q167
                  cases e167
                  replace p167 := eq_true p167
                  replace q167 := eq_true q167
                  go_wp2_with (first | ((with_reducible refine gate_callee (f := 56) rfl ?_); refine goesL_ (some 34) rfl rfl Tryd.func56 (by kernel_rfl) rfl #[.int .u32 (rd x0_1 x5_1), .int .u32 0, .int .u32 x4_1] rfl (by (try simp only [List.map_toArray, List.map_cons, List.map_nil]); first | done | rfl | (simp only [List.length_drop, List.length_take]; rfl)) ?_; (with_reducible refine (bits_Sub32.calls (rd x0_1 x5_1) 0 x4_1 t168 t169 _ A16.out).mono ?_); rintro e w' ⟨rfl, ⟨nd, rfl⟩⟩; refine ⟨_, rfl, ?_⟩; (try (rw [drewN_self wc]; generalize hq_ : World.drewN wc _ = wc; have n0_ : Aside0 (Kd.R (Kd.int .u32) 39 wc w0.heap.size (fun k_ => (P0_ k_ ∨ w.heap.size ≤ k_)) (.slice (some ad167) x0_1.length co18) x0_1) := ⟨by rw [← hq_]; exact (by (with_reducible repeat (first | apply Kd.R_alloc | apply Kd.R_drewN | apply Kd.R_drew)); exact HO_0.out)⟩; have n1_ : Aside0 (Kept w wc (fun k_ => P0_ k_)) := ⟨by rw [← hq_]; exact (by repeat (first | (with_reducible first | exact HK.out | apply Kept.alloc | apply Kept.drewN | apply Kept.drew) | exact HK.out))⟩; have n2_ : Aside0 (Below w0.heap.size w0 wc) := ⟨by rw [← hq_]; exact (by repeat (first | (with_reducible first | exact HB.out | apply below_alloc | apply pw_below_drewN | apply below_drew1) | exact HB.out))⟩; clear HO_0 HK HB hq_; have HO_0 := n0_; have HK := n1_; have HB := n2_; clear n0_ n1_ n2_)); have p17 : 0 ≤ (x5_1 : Int) := of_decide_eq_true (by first | (with_reducible assumption) | assumption); have q17 : (x5_1 : Int) < ((x0_1.length : Int) : Int) := of_decide_eq_true (by first | (with_reducible assumption) | assumption); obtain ⟨go17, co17, eo17, gb17, gl17, cl17, HG17⟩ := Kd.R_form HO_0.out (by omega); (first | cases eo17 | (injection eo17 with ea_ en_ ec_; (first | subst ea_ | (injection ea_ with ea_; subst ea_)); subst ec_; clear en_)); have GB17 := Aside0.mk gb17; have GG17 := Aside0.mk HG17; clear gb17 gl17 HG17; have HMgo17 := Aside0.mk (show (P0_ go17 ∨ w.heap.size ≤ go17) from (HO_0.out.1 _ rfl)); (first | simp only [add_plain] at hx167_0 | skip); obtain ⟨hx17_0, hf17_0⟩ := Kd.R_celln 0 HO_0.out (x5_1 : Int) p17 q17; replace p17 := eq_true p17; replace q17 := eq_true q17; obtain ⟨hy19_, hz19_⟩ := Kd.R_celln 0 HO_0.out (x5_1 : Int) (of_decide_eq_true (by first | (with_reducible assumption) | assumption)) (of_decide_eq_true (by first | (with_reducible assumption) | assumption)); have HP19 := Kd.R_putg HO_0.out (x5_1 : Int) t168) | ((with_reducible refine gate_store (t := 39) (p := 37) rfl ?_); refine store_event (t := 39) (p := 37) (v := ?vo_w20) (w1 := (wc.setCell ⟨go17, (x5_1 : Int).toNat, none⟩ (.int .u32 t168))) ?hg ?ho ?hn ?hr ?_; (case ho => rfl); (case hg => rfl); (case hn => rfl); (case hr => first | (go_simp; done) | (go_simp; rfl)); intro w20 hw; have hg : wc.grownBy w20 (some go17) := (by rw [hw]; exact HP19.2); have hp_ : Kd.R (Kd.int .u32) 39 w20 w0.heap.size (fun k_ => (P0_ k_ ∨ w.heap.size ≤ k_)) (.slice (some ⟨go17, 0, none⟩) x0_1.length co18) y170 := (by rw [hw, Ny170.out]; exact HP19.1); clear HP19; have n0_ := Aside0.mk (hp_); have n1_ := Aside0.mk ((by rw [hw]; exact below_set (HB.out) GB17.out : Below w0.heap.size w0 w20)); have n2_ := Aside0.mk (Kept.of_grown (S := (fun k_ => P0_ k_)) hg (by repeat (first | (with_reducible first | exact HK.out | apply Kept.alloc | apply Kept.drewN | apply Kept.drew) | exact HK.out)) (fun k_ e_ => (HO_0.out.1 k_ e_))); clear HO_0; clear HB; clear HK; have HO_0 := n0_; have HB := n1_; have HK := n2_; clear n0_ n1_ n2_; clear hg hw hp_))
                  go_roundg kj2
                  case measure => have := HK1.out; have := HJ2.out; omega
                  case rel => exact ⟨(y170), (t169), (wrap64 (x5_1 + 1)), (by first | rfl | (simp; done) | (simp [*]; done)), (by first | rfl | (simp; done) | (simp [*]; done)), H', ⟨by have := HK1.out; have := HJ2.out; omega⟩, ⟨by (with_reducible repeat (first | apply Kd.R_alloc | apply Kd.R_drewN | apply Kd.R_drew)); exact HO_0.out⟩, ⟨by repeat (first | (with_reducible first | exact HK.out | apply Kept.alloc | apply Kept.drewN | apply Kept.drew) | exact HK.out)⟩, ⟨by repeat (first | (with_reducible first | exact HB.out | apply below_alloc | apply pw_below_drewN | apply below_drew1) | exact HB.out)⟩⟩
                · rw [if_neg c15] at H
                  exact absurd H (by simp)
              · rw [if_neg c14] at H
                exact absurd H (by simp)
          · replace c5 := Bool.eq_false_iff.mpr c5
            subst c5
            have H1 : (some x0_1) = some r := by rw [if_neg (show ¬ (false = true) by decide)] at H; exact H
            clear H
            have H := H1
            clear H1
            obtain rfl := Option.some.inj H
            go_wp2
            first | go_end0 | ((try simp only [Exit.inBlock, Exit.then]); refine bodyPost_ret (results_none rfl _ _ _) rfl ?_)
            exact ⟨by first | rfl | (simp [errW_none, errW_some] <;> rfl) | (simp [*, errW_none, errW_some] <;> rfl), by (with_reducible repeat (first | apply Kd.R_alloc | apply Kd.R_drewN | apply Kd.R_drew)); exact HO_0.out, by repeat (first | (with_reducible first | exact HB.out | apply below_alloc | apply pw_below_drewN | apply below_drew1) | exact HB.out), by repeat (first | (with_reducible first | exact HK.out | apply Kept.alloc | apply Kept.drewN | apply Kept.drew) | exact HK.out)⟩
theorem less_l0 (n : List Int) (hn : Nums.rng n = true) : ∀ (d i : Nat) (out : List Int) (c : Int), i + d = out.length → n.length ≤ i + d → out.length ≤ 70368744177664 → Nums.rng out = true → 0 ≤ c → c ≤ 1 →
    4294967296 ^ i * (Nums.val (n.drop i) + c.toNat) ≤ Nums.val out →
    Nums.Ev (fun k => mul_less.l0 k out n c (i : Int)) (Nums.fixed out.length (Nums.val out - 4294967296 ^ i * (Nums.val (n.drop i) + c.toNat))) := by
  intro d
  induction d with
  | zero =>
    intro i out c hi hl hol hro c0 c1 hv
    have hz : n.drop i = [] := List.drop_eq_nil_of_le (by omega)
    have hlt := Nums.val_lt hro
    have hc0 : c = 0 := by
      apply Decidable.byContradiction
      intro hne
      have h1 : c.toNat = 1 := by omega
      rw [hz, h1, show Nums.val [] = 0 from rfl, Nat.zero_add, Nat.mul_one, show i = out.length by omega] at hv
      omega
    subst hc0
    rw [hz, show Nums.val [] + (0 : Int).toNat = 0 from rfl, Nat.mul_zero, Nat.sub_zero, ← Nums.eq_fixed out hro]
    have hni : ¬ (i : Int) < (n.length : Int) := by omega
    refine Nums.Ev.succ (g := fun k => mul_less.j1 k out n 0 (i : Int) false) (Nums.Ev.now fun k => ?_) fun k => ?_
    · rw [mul_less.j1, if_neg (by decide)]
    · rw [mul_less.l0, if_neg hni]
      rfl
  | succ d ih =>
    intro i out c hi hl hol hro c0 c1 hv
    have hp : i < out.length := by omega
    have ho := Nums.rng_get hro (i := i) hp
    have hsi := Aside0.mk (w64_succ (a := i) (by omega))
    have hset := fun z => Nums.val_set out i z hp
    have hrd := rd_nat hp
    have hnn : (0 : Int) ≤ (i : Int) := Int.natCast_nonneg _
    have hpp : (i : Int) < (out.length : Int) := Int.ofNat_lt.2 hp
    obtain ⟨o, ho'⟩ : ∃ o, out[i] = o := ⟨_, rfl⟩
    rw [ho'] at ho hset hrd
    have step : ∀ (y : Int), 0 ≤ y → y < 4294967296 → Nums.val (n.drop i) = y.toNat + 4294967296 * Nums.val (n.drop (i + 1)) →
        Nums.Ev (fun k => mul_less.l0 k (out.set i ((o - y - c) % 4294967296)) n (if o < y + c then 1 else 0) ((i + 1 : Nat) : Int)) (Nums.fixed out.length (Nums.val out - 4294967296 ^ i * (Nums.val (n.drop i) + c.toNat))) := by
      intro y y0 y1 hy
      obtain ⟨c', hc'⟩ : ∃ c' : Int, (if o < y + c then 1 else 0) = c' := ⟨_, rfl⟩
      obtain ⟨D, hD⟩ : ∃ D : Int, (o - y - c) % 4294967296 = D := ⟨_, rfl⟩
      rw [hc', hD]
      have hD0 : 0 ≤ D ∧ D < 4294967296 := by omega
      have hc01 : 0 ≤ c' ∧ c' ≤ 1 := by rw [← hc']; split <;> omega
      have h2 : D.toNat + (y.toNat + c.toNat) = o.toNat + 4294967296 * c'.toNat := by rw [← hc']; split <;> omega
      have h1 := hset D
      have h3 := congrArg (4294967296 ^ i * ·) h2
      simp only [Nat.mul_add] at h3
      have hk1 : 4294967296 ^ i * (Nums.val (n.drop i) + c.toNat) = 4294967296 ^ i * (y.toNat + c.toNat) + 4294967296 ^ (i + 1) * Nums.val (n.drop (i + 1)) := by
        rw [hy, Nat.pow_succ, Nat.mul_assoc, ← Nat.mul_add]
        congr 1
        omega
      have hk2 : 4294967296 ^ (i + 1) * (Nums.val (n.drop (i + 1)) + c'.toNat) = 4294967296 ^ (i + 1) * Nums.val (n.drop (i + 1)) + 4294967296 ^ i * (4294967296 * c'.toNat) := by
        rw [Nat.mul_add, Nat.pow_succ, Nat.mul_assoc, Nat.mul_assoc]
      rw [hk1] at hv ⊢
      rw [Nat.mul_add] at hv ⊢
      have h4 := ih (i + 1) (out.set i D) c' (by rw [List.length_set]; omega) (by omega) (by rw [List.length_set]; exact hol) (Nums.rng_set hro _ hD0) hc01.1 hc01.2 (by
        rw [hk2]
        obtain ⟨P, hP⟩ : ∃ P, 4294967296 ^ i = P := ⟨_, rfl⟩
        rw [hP] at h1 h3 hv ⊢
        omega)
      rw [hk2, List.length_set] at h4
      have h5 : Nums.val (out.set i D) - (4294967296 ^ (i + 1) * Nums.val (n.drop (i + 1)) + 4294967296 ^ i * (4294967296 * c'.toNat)) = Nums.val out - (4294967296 ^ i * y.toNat + 4294967296 ^ i * c.toNat + 4294967296 ^ (i + 1) * Nums.val (n.drop (i + 1))) := by
        obtain ⟨P, hP⟩ : ∃ P, 4294967296 ^ i = P := ⟨_, rfl⟩
        rw [hP] at h1 h3 hv ⊢
        omega
      rw [h5] at h4
      exact h4
    by_cases hin : i < n.length
    · have hy := Nums.rng_get hn (i := i) hin
      have hrn := rd_nat hin
      have hdr := Nums.val_drop n i hin
      obtain ⟨y, hy'⟩ : ∃ y, n[i] = y := ⟨_, rfl⟩
      rw [hy'] at hy hrn hdr
      have hii : (i : Int) < (n.length : Int) := by omega
      refine Nums.Ev.succ (g := fun k => mul_less.j1 k out n c (i : Int) true) (Nums.Ev.succ (step y hy.1 hy.2 hdr) fun k => ?_) fun k => ?_
      · rw [mul_less.j1, if_pos rfl, if_pos hii, if_pos hnn, if_pos hpp, hrd, hrn, sub32_eq ho hy ⟨c0, c1⟩, Option.bind_some, Int.toNat_natCast, hsi.out]
      · rw [mul_less.l0, if_pos hii]
    · have hz : n.drop i = [] := List.drop_eq_nil_of_le (by omega)
      have hz2 : n.drop (i + 1) = [] := List.drop_eq_nil_of_le (by omega)
      have hni : ¬ (i : Int) < (n.length : Int) := by omega
      by_cases hc : c > 0
      · refine Nums.Ev.succ (g := fun k => mul_less.j1 k out n c (i : Int) true) (Nums.Ev.succ (step 0 (by decide) (by decide) (by rw [hz, hz2]; rfl)) fun k => ?_) fun k => ?_
        · rw [mul_less.j1, if_pos rfl, if_neg hni, if_pos hnn, if_pos hpp, hrd, sub32_eq ho (by decide) ⟨c0, c1⟩, Option.bind_some, Int.toNat_natCast, hsi.out]
        · rw [mul_less.l0, if_neg hni, decide_eq_true hc]
      · obtain rfl : c = 0 := by omega
        rw [hz, show Nums.val [] + (0 : Int).toNat = 0 from rfl, Nat.mul_zero, Nat.sub_zero, ← Nums.eq_fixed out hro]
        refine Nums.Ev.succ (g := fun k => mul_less.j1 k out n 0 (i : Int) false) (Nums.Ev.now fun k => ?_) fun k => ?_
        · rw [mul_less.j1, if_neg (by decide)]
        · rw [mul_less.l0, if_neg hni]
          rfl
theorem less_ev (out n : List Int) (hro : Nums.rng out = true) (hn : Nums.rng n = true) (hol : out.length ≤ 70368744177664) (hl : n.length ≤ out.length)
    (hv : Nums.val n ≤ Nums.val out) : Nums.Ev (fun k => mul_less.f k out n) (Nums.fixed out.length (Nums.val out - Nums.val n)) := by
  have h := less_l0 n hn out.length 0 out 0 (by omega) (by omega) hol hro (by decide) (by decide)
  simp only [Nat.pow_zero, Nat.one_mul, Nat.add_zero, List.drop_zero, Int.toNat_zero] at h
  exact h hv

end Go.Proofs.YtjgloepeogelnaaDoor.Pr

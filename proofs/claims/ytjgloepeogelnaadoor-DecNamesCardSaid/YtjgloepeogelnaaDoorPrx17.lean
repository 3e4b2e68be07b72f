/- Functions with the same answers as the Go functions of the program, with the proofs that the program comes to just these answers; no condition but those that each theorem names. (Laid by this work's own program mk.py out of the translation.) -/
import Derived.Test.YtjgloepeogelnaaDoorPrx0
import Derived.Test.YtjgloepeogelnaaDoorPrx1
import Derived.Test.YtjgloepeogelnaaDoorPrx3
import Derived.Test.YtjgloepeogelnaaDoorPrx5
import Derived.Test.YtjgloepeogelnaaDoorPrx9
import Derived.Test.YtjgloepeogelnaaDoorPrx10
import Derived.Test.YtjgloepeogelnaaDoorPrx13
namespace Go.Proofs.YtjgloepeogelnaaDoor.Pr
open Go.RowKit Go.Proofs.YtjgloepeogelnaaDoorW.PrintWords Go.Proofs.YtjgloepeogelnaaDoorW.PrintLast Go.Proofs.YtjgloepeogelnaaDoorW.PrintMore
attribute [local go_sem] max2_int min2_int max_two min_two max_three min_three max_four min_four   -- for this text's walks alone
set_option linter.unusedVariables false
set_option linter.unusedSimpArgs false

/-! ### nat_Sub: function 30 -/
/-- One limb of a difference. -/
def nat_subStep (s : List Int × Int) (p : Int × Int) : List Int × Int := (s.1 ++ [((bits_Sub32.f p.1 p.2 s.2).getD (0, 0)).1], ((bits_Sub32.f p.1 p.2 s.2).getD (0, 0)).2)
def nat_subAll (P : List (Int × Int)) : List Int × Int := P.foldl nat_subStep ([], 0)
theorem nat_subAll_snoc (P : List (Int × Int)) (p : Int × Int) : nat_subAll (P ++ [p]) = nat_subStep (nat_subAll P) p := by simp [nat_subAll, List.foldl_append]
theorem nat_subAll_length (P : List (Int × Int)) : (nat_subAll P).1.length = P.length := by
  suffices h : ∀ s : List Int × Int, (P.foldl nat_subStep s).1.length = s.1.length + P.length by simpa [nat_subAll] using h ([], 0)
  induction P with
  | nil => simp
  | cons p P ih => intro s; rw [List.foldl_cons, ih]; simp [nat_subStep]; omega
theorem nat_subAll_inv : ∀ P : List (Int × Int), (∀ p ∈ P, (0 ≤ p.1 ∧ p.1 < 4294967296) ∧ (0 ≤ p.2 ∧ p.2 < 4294967296)) → Nums.rng (nat_subAll P).1 = true ∧ (0 ≤ (nat_subAll P).2 ∧ (nat_subAll P).2 ≤ 1) ∧
    Nums.val (nat_subAll P).1 + Nums.val (P.map Prod.snd) = Nums.val (P.map Prod.fst) + 4294967296 ^ P.length * (nat_subAll P).2.toNat := by
  refine Nums.snoc_ind ?_ ?_
  · intro _; exact ⟨rfl, by decide, rfl⟩
  · intro P p ih h
    obtain ⟨h1, h2, h3⟩ := ih (fun q hq => h q (List.mem_append_left _ hq))
    obtain ⟨hx, hy⟩ := h p (List.mem_append_right _ List.mem_cons_self)
    have e := sub32_eq hx hy h2
    have hl := nat_subAll_length P
    cases hs : nat_subAll P with | mk out c =>
    rw [nat_subAll_snoc, hs]
    rw [hs] at h1 h2 h3 e hl
    simp only [nat_subStep, e, Option.getD_some] at h1 h2 h3 hl ⊢
    refine ⟨Nums.rng_append.2 ⟨h1, by simp [Nums.rng]; omega⟩, by split <;> omega, ?_⟩
    rw [Nums.val_append, List.map_append, List.map_append, Nums.val_append, Nums.val_append]
    simp only [List.map_cons, List.map_nil, List.length_map, Nums.val, Nat.mul_zero, Nat.add_zero, List.length_append, List.length_singleton, Nat.pow_succ, hl]
    obtain ⟨x, y⟩ := p
    simp only at hx hy ⊢
    obtain ⟨c', hc'⟩ : ∃ c' : Int, (if x < y + c then (1 : Int) else 0) = c' := ⟨_, rfl⟩
    have k : ((x - y - c) % 4294967296).toNat + y.toNat + c.toNat = x.toNat + 4294967296 * c'.toNat := by rw [← hc']; split <;> omega
    rw [hc']
    generalize 4294967296 ^ P.length = q at *
    have k2 : q * ((x - y - c) % 4294967296).toNat + q * y.toNat + q * c.toNat = q * x.toNat + q * (4294967296 * c'.toNat) := by rw [← Nat.mul_add, ← Nat.mul_add, k, Nat.mul_add]
    rw [← Nat.mul_assoc] at k2
    omega
theorem nat_subAll_val (a b : List Int) (m : Nat) (hm : max a.length b.length = m) (ha : Nums.rng a = true) (hb : Nums.rng b = true) (hle : Nums.val b ≤ Nums.val a) :
    Nums.rng (nat_subAll (nat_upto a b m)).1 = true ∧ Nums.val (nat_subAll (nat_upto a b m)).1 = Nums.val a - Nums.val b := by
  have h := nat_subAll_inv (nat_upto a b m) (by
    intro p hp
    simp only [nat_upto, List.mem_map] at hp
    obtain ⟨i, _, rfl⟩ := hp
    exact ⟨Nums.rng_getD ha i, Nums.rng_getD hb i⟩)
  obtain ⟨h1, h2, h3⟩ := h
  have hl := nat_subAll_length (nat_upto a b m)
  refine ⟨h1, ?_⟩
  have e1 : (nat_upto a b m).map Prod.fst = (List.range m).map (fun i => a[i]?.getD 0) := by simp [nat_upto, Function.comp_def]
  have e2 : (nat_upto a b m).map Prod.snd = (List.range m).map (fun i => b[i]?.getD 0) := by simp [nat_upto, Function.comp_def]
  rw [e1, e2, Nums.val_pad _ _ (by omega), Nums.val_pad _ _ (by omega)] at h3
  have h4 := Nums.val_lt h1
  rw [hl] at h4
  rcases (show (nat_subAll (nat_upto a b m)).2 = 0 ∨ (nat_subAll (nat_upto a b m)).2 = 1 by omega) with hc | hc
  · rw [hc, Int.toNat_zero, Nat.mul_zero] at h3; omega
  · rw [hc, Int.toNat_one, Nat.mul_one] at h3; omega
def nat_Sub.f (l0 l1 : List Int) : Option (List Int × Bool) := if (Nums.rng l0 && Nums.rng l1) = true then some (if (Nums.may l0 && Nums.may l1) = true then (if Nums.val l0 < Nums.val l1 then ([], false) else (Nums.toL (Nums.val l0 - Nums.val l1), true)) else ([], false)) else none
section
attribute [local go_sem] Oper.semAt_some
attribute [local go_sem] max2_int
set_option maxRecDepth 100000 in
set_option maxHeartbeats 4000000 in
theorem nat_Sub.calls_no (A0 : Option Addr) (c0 : Nat) (l0 : List Int) (A1 : Option Addr) (c1 : Nat) (l1 : List Int) (w : World) (hr0 : Kd.C (Kd.int .u32) w A0 l0.length l0) (hc0 : l0.length ≤ c0) (hr1 : Kd.C (Kd.int .u32) w A1 l1.length l1) (hc1 : l1.length ≤ c1) (h : (Nums.may l0 && Nums.may l1) = false) :
    Calls Tryd.prog 30 #[.slice A0 l0.length c0, .slice A1 l1.length c1] w fun e w' => ∃ v0_ : Value, e = .returned (.tuple #[v0_, .bool false]) ∧ Kd.R (Kd.int .u32) 39 w' w.heap.size (fun _ => True) v0_ [] ∧ Below w.heap.size w w' := by
  have HM := Aside0.mk (nat_may2.calls A0 A1 c0 c1 l0 l1 _ _ w.heap.size (w.alloc (.cells #[.slice A0 l0.length c0, .slice A1 l1.length c1] 22)) (World.alloc_heap_new w _) (Kd.C_alloc hr0 _) (Kd.C_alloc hr1 _) hc0 hc1 (nat_May_eq l0) (nat_May_eq l1))
  rw [h] at HM
  clear hr0 hc0 hr1 hc1 h
  refine (callsIn_wide (n := 3)).1 ?_
  refine callsIn_of_wp_marks Tryd.func30 rfl trivial ?_
  simp only [Tryd.ntmps30, List.size_toArray, List.length_cons, List.length_nil, Nat.reduceAdd, Nat.reduceSub, Array.replicate_succ, Array.replicate_zero, List.push_toArray, List.append_toArray, List.nil_append, List.cons_append]
  gi_wp2_with (refine ⟨trivial, ?_⟩; gi_at_call 45; refine (callsIn_wide.2 HM.out).mono ?_; rintro e w' ⟨rfl, ⟨nd, rfl⟩⟩)
  refine ⟨trivial, ?_⟩
  gi_wp2
  exact ⟨_, results_tmp2 rfl _ _ _, _, rfl, Kd.R_nil _ _ _ _ _, pw_below_drewN (below_alloc (Below.refl _ _) _) _⟩
set_option maxRecDepth 100000 in
set_option maxHeartbeats 4000000 in
theorem nat_Sub.calls_less (A0 : Option Addr) (c0 : Nat) (l0 : List Int) (A1 : Option Addr) (c1 : Nat) (l1 : List Int) (w : World) (hr0 : Kd.C (Kd.int .u32) w A0 l0.length l0) (hc0 : l0.length ≤ c0) (hr1 : Kd.C (Kd.int .u32) w A1 l1.length l1) (hc1 : l1.length ≤ c1) (h : (Nums.may l0 && Nums.may l1) = true) (hcmp : nat_Cmp.f l0 l1 = some (-1)) :
    Calls Tryd.prog 30 #[.slice A0 l0.length c0, .slice A1 l1.length c1] w fun e w' => ∃ v0_ : Value, e = .returned (.tuple #[v0_, .bool false]) ∧ Kd.R (Kd.int .u32) 39 w' w.heap.size (fun _ => True) v0_ [] ∧ Below w.heap.size w w' := by
  have HM := Aside0.mk (nat_may2.calls A0 A1 c0 c1 l0 l1 _ _ w.heap.size (w.alloc (.cells #[.slice A0 l0.length c0, .slice A1 l1.length c1] 22)) (World.alloc_heap_new w _) (Kd.C_alloc hr0 _) (Kd.C_alloc hr1 _) hc0 hc1 (nat_May_eq l0) (nat_May_eq l1))
  rw [h] at HM
  have HC := Aside0.mk (fun W (hW : Below w.heap.size w W) => nat_Cmp.calls A0 c0 l0 A1 c1 l1 (-1) W (Kd.C_below hr0 hW) hc0 (Kd.C_below hr1 hW) hc1 hcmp)
  clear hr0 hc0 hr1 hc1 h hcmp
  refine (callsIn_wide (n := 3)).1 ?_
  refine callsIn_of_wp_marks Tryd.func30 rfl trivial ?_
  simp only [Tryd.ntmps30, List.size_toArray, List.length_cons, List.length_nil, Nat.reduceAdd, Nat.reduceSub, Array.replicate_succ, Array.replicate_zero, List.push_toArray, List.append_toArray, List.nil_append, List.cons_append]
  gi_wp2_with (first | (refine ⟨trivial, ?_⟩; gi_at_call 45; refine (callsIn_wide.2 HM.out).mono ?_; rintro e w' ⟨rfl, ⟨nd, rfl⟩⟩) | (refine ⟨trivial, ?_⟩; gi_at_call 23; refine (callsIn_wide.2 (HC.out _ (pw_below_drewN (below_alloc (Below.refl _ _) _) _))).mono ?_; rintro e w' ⟨rfl, hB⟩))
  exact ⟨_, results_tmp2 rfl _ _ _, _, rfl, Kd.R_nil _ _ _ _ _, (pw_below_drewN (below_alloc (Below.refl _ _) _) _).trans (hB.mono (by simp))⟩
set_option maxRecDepth 100000 in
set_option maxHeartbeats 4000000 in
theorem nat_Sub.calls_yes (A0 : Option Addr) (c0 : Nat) (l0 : List Int) (A1 : Option Addr) (c1 : Nat) (l1 : List Int) (r : List Int) (w : World) (hr0 : Kd.C (Kd.int .u32) w A0 l0.length l0) (hc0 : l0.length ≤ c0) (hr1 : Kd.C (Kd.int .u32) w A1 l1.length l1) (hc1 : l1.length ≤ c1) (h : (Nums.may l0 && Nums.may l1) = true)
    (hle : l1.length ≤ l0.length) (cc : Int) (hcmp : nat_Cmp.f l0 l1 = some cc) (hcc : 0 ≤ cc) (kc : Nat) (hcut : nat_cut.f kc (nat_subAll (nat_upto l0 l1 (max l0.length l1.length))).1 = some r) :
    Calls Tryd.prog 30 #[.slice A0 l0.length c0, .slice A1 l1.length c1] w fun e w' => ∃ v0_ : Value, e = .returned (.tuple #[v0_, .bool true]) ∧ Kd.R (Kd.int .u32) 39 w' w.heap.size (fun _ => True) v0_ r ∧ Below w.heap.size w w' := by
  have hl0 : l0.length ≤ 65536 := (Nums.may_iff.1 (by simpa using h : Nums.may l0 = true ∧ Nums.may l1 = true).1).1
  have hl1 : l1.length ≤ 65536 := (Nums.may_iff.1 (by simpa using h : Nums.may l0 = true ∧ Nums.may l1 = true).2).1
  have HM := Aside0.mk (nat_may2.calls A0 A1 c0 c1 l0 l1 _ _ w.heap.size (w.alloc (.cells #[.slice A0 l0.length c0, .slice A1 l1.length c1] 22)) (World.alloc_heap_new w _) (Kd.C_alloc hr0 _) (Kd.C_alloc hr1 _) hc0 hc1 (nat_May_eq l0) (nat_May_eq l1))
  rw [h] at HM
  have HR0 := Aside0.mk hr0
  have HR1 := Aside0.mk hr1
  have HCUT := Aside0.mk hcut
  have HC := Aside0.mk (fun W (hW : Below w.heap.size w W) => nat_Cmp.calls A0 c0 l0 A1 c1 l1 cc W (Kd.C_below hr0 hW) hc0 (Kd.C_below hr1 hW) hc1 hcmp)
  clear hr0 hc0 hr1 hc1 h hcut hcmp
  obtain ⟨m, hm⟩ : ∃ m, max l0.length l1.length = m := ⟨_, rfl⟩
  have hm2 : m ≤ 65536 := by omega
  have hm3 : Aside0 (m = l0.length) := ⟨by omega⟩
  rw [hm] at HCUT
  have HM' := Aside0.mk hm
  clear hm hle
  obtain ⟨i0, hi, hz0, hz1, hz2⟩ := info_parts info39
  refine (callsIn_wide (n := 3)).1 ?_
  refine callsIn_of_wp_marks Tryd.func30 rfl trivial ?_
  simp only [Tryd.ntmps30, List.size_toArray, List.length_cons, List.length_nil, Nat.reduceAdd, Nat.reduceSub, Array.replicate_succ, Array.replicate_zero, List.push_toArray, List.append_toArray, List.nil_append, List.cons_append]
  gi_wp2_with (first | (refine ⟨trivial, ?_⟩; gi_at_call 45; refine (callsIn_wide.2 HM.out).mono ?_; rintro e w' ⟨rfl, ⟨nd, rfl⟩⟩) | (refine ⟨trivial, ?_⟩; gi_at_call 23; refine (callsIn_wide.2 (HC.out _ (pw_below_drewN (below_alloc (Below.refl _ _) _) _))).mono ?_; rintro e wC ⟨rfl, hBC⟩; have hBC := Aside0.mk hBC; have hsC : w.heap.size + 1 ≤ wC.heap.size := by have := hBC.out.size; simpa using this) | (gi_at_make; refine wpListIn_make_own _ rfl _ _ 22 rfl w.heap.size 39 i0 (.int .u32 0) 1 Tryd.underlying22 hi hz0 hz1 .i64 .i64 _ l0.length rfl rfl rfl (by rw [hz2]; omega) (by unfold maxLen; omega) (by omega) ?_; intro w1 hown hgr1) | (refine ⟨trivial, ?_⟩; gi_at_call 51; refine (nat_pairs.in_ Fence.wide _ trivial rfl _ _ _ _ _ _ _).mono ?_; rintro e w' ⟨rfl, rfl⟩))
  have hlt1 : wC.heap.size < w1.heap.size := by have := (hown.lt _ rfl).2; simpa using this
  obtain ⟨N1, hN1⟩ : ∃ N1, w1.heap.size = N1 := ⟨_, rfl⟩
  obtain ⟨g, hg⟩ : ∃ g, wC.heap.size = g := ⟨_, rfl⟩
  have HBC : Below w.heap.size w wC := (pw_below_drewN (below_alloc (Below.refl _ _) _) nd).trans (hBC.out.mono (by simp))
  have HB1 : Below w.heap.size w w1 := pw_below_grown HBC none (by omega) hgr1 (fun _ e => by cases e)
  have bO := Boxed.new w1 22 (.slice (some ⟨wC.heap.size, 0, none⟩) 0 l0.length)
  have bC := Boxed.new (w1.alloc (.cells #[.slice (some ⟨wC.heap.size, 0, none⟩) 0 l0.length] 22)) 39 (.int .u32 0)
  have bA := Boxed.new ((w1.alloc (.cells #[.slice (some ⟨wC.heap.size, 0, none⟩) 0 l0.length] 22)).alloc (.cells #[.int .u32 0] 39)) 22 (.slice A0 l0.length c0)
  have bB := Boxed.new (((w1.alloc (.cells #[.slice (some ⟨wC.heap.size, 0, none⟩) 0 l0.length] 22)).alloc (.cells #[.int .u32 0] 39)).alloc (.cells #[.slice A0 l0.length c0] 22)) 22 (.slice A1 l1.length c1)
  have bO := ((bO.alloc (.cells #[.int .u32 0] 39)).alloc (.cells #[.slice A0 l0.length c0] 22)).alloc (.cells #[.slice A1 l1.length c1] 22)
  have bC := (bC.alloc (.cells #[.slice A0 l0.length c0] 22)).alloc (.cells #[.slice A1 l1.length c1] 22)
  have bA := bA.alloc (.cells #[.slice A1 l1.length c1] 22)
  have hrow0 := (((hown.alloc (.cells #[.slice (some ⟨wC.heap.size, 0, none⟩) 0 l0.length] 22)).alloc (.cells #[.int .u32 0] 39)).alloc (.cells #[.slice A0 l0.length c0] 22)).alloc (.cells #[.slice A1 l1.length c1] 22)
  have HB0 := below_alloc (below_alloc (below_alloc (below_alloc HB1 (.cells #[.slice (some ⟨wC.heap.size, 0, none⟩) 0 l0.length] 22)) (.cells #[.int .u32 0] 39)) (.cells #[.slice A0 l0.length c0] 22)) (.cells #[.slice A1 l1.length c1] 22)
  simp only [World.size_alloc, List.push_toArray, List.nil_append, hN1, hg] at bO bC bA bB hrow0 HB0 hlt1 ⊢
  obtain ⟨W0, hW0⟩ : ∃ W0, ((((w1.alloc (.cells #[.slice (some ⟨g, 0, none⟩) 0 l0.length] 22)).alloc (.cells #[.int .u32 0] 39)).alloc (.cells #[.slice A0 l0.length c0] 22)).alloc (.cells #[.slice A1 l1.length c1] 22)) = W0 := ⟨_, rfl⟩
  have hs0 : W0.heap.size = N1 + 4 := by rw [← hW0, ← hN1]; simp
  rw [hW0] at bO bC bA bB hrow0 HB0 ⊢
  have hgw : Aside0 (w.heap.size < g ∧ g < N1) := ⟨by omega, hlt1⟩
  clear hown hgr1 HB1 hW0 hN1 hg hsC
  refine wpIn_rangeFunc_ownG rfl (by omega) (gf := 78) (lb := #[.pointer (some ⟨N1 + 1 + 1, 0, none⟩), .pointer (some ⟨N1 + 1 + 1 + 1, 0, none⟩)]) rfl trivial (enters_of Tryd.func78 (by kernel_rfl) rfl)
    (nat_pairs.stops Fence.wide 2 trivial rfl (by omega) (N1 + 1 + 1) (N1 + 1 + 1 + 1) w.heap.size A0 A1 c0 c1 l0 l1 (by omega) (by omega) w W0 (by omega) (by omega) bA.cell bB.cell HR0.out HR1.out (Nat.le_refl _) HB0)
    nat_Kp.trans (nat_Kp.put (by have := hgw.out; omega) (by omega) (by omega)) (Below.refl _ _) (fun _ => rfl)
    (fun pre W => (Boxed W N1 22 (.slice (some ⟨g, 0, none⟩) (nat_subAll pre).1.length l0.length) ∧ Boxed W (N1 + 1) 39 (.int .u32 (nat_subAll pre).2) ∧ W.ownsRow w.heap.size 39 1 (.slice (some ⟨g, 0, none⟩) (nat_subAll pre).1.length l0.length) (nat_subAll pre).1.length (nums .u32 (nat_subAll pre).1) ∧ N1 + 4 ≤ W.heap.size) ∧ Below w.heap.size w W)
    (fun _ _ _ => False)
    (OwnFrom.and (Own.from (fun s A B row hs hg hr => ⟨Boxed.keeps hs.1 hg hr, Boxed.keeps hs.2.1 hg hr, own_keeps hs.2.2.1 hg hr, Nat.le_trans hs.2.2.2 hg.size⟩) _) (ownFrom_below (Nat.le_refl _) (by have := hgw.out; omega)))
    (fun _ _ _ _ _ hs _ _ => hs)
    ⟨⟨bO, bC, hrow0, by omega⟩, HB0⟩
    (fun x => { tmps := #[.slice A0 l0.length c0, .slice A1 l1.length c1, undef, undef, .slice none 0 0, .bool false, .pointer (some ⟨N1, 0, none⟩), .pointer (some ⟨N1 + 1, 0, none⟩), .int .u32 x.1, .int .u32 x.2, undef, .slice A0 l0.length c0, .slice A1 l1.length c1, .slice (some ⟨w.heap.size, 0, none⟩) 2 2, .bool true, .bool false, .bool false, .slice A0 l0.length c0, .slice A1 l1.length c1, .int .i64 cc, .bool (decide (cc < 0)), .bool (decide (cc < 0)), .slice A0 l0.length c0, .int .i64 l0.length, .slice (some ⟨g, 0, none⟩) 0 l0.length, .slice A0 l0.length c0, .slice A1 l1.length c1, .func (.func 78) #[] #[.pointer (some ⟨N1 + 1 + 1, 0, none⟩), .pointer (some ⟨N1 + 1 + 1 + 1, 0, none⟩)], .int .u32 x.1, .int .u32 x.2, undef, undef, undef, undef, undef, undef, undef, undef, undef, undef, undef, undef, undef], defers := [] }) ?assign ?body ?done ?stop
  case assign =>
    intro l x W K hK
    gi_wp2
    exact hK
  case body =>
    rintro l pre x W ⟨⟨hO, hC, hrow, hsW⟩, hB⟩ hlt
    obtain ⟨out, hout⟩ : ∃ out, (nat_subAll pre).1 = out := ⟨_, rfl⟩
    obtain ⟨c, hc⟩ : ∃ c, (nat_subAll pre).2 = c := ⟨_, rfl⟩
    have hlen : out.length < l0.length := by rw [← hout, nat_subAll_length]; have := HM'.out; have := hm3.out; omega
    obtain ⟨s, c', hsc⟩ : ∃ s c', bits_Sub32.f x.1 x.2 c = some (s, c') := ⟨_, _, rfl⟩
    have hnext : Aside0 (nat_subAll (pre ++ [x]) = (out ++ [s], c')) := ⟨by rw [nat_subAll_snoc, nat_subStep, hout, hc, hsc]; rfl⟩
    rw [hout] at hO hrow
    rw [hc] at hC
    clear hout hc hlt
    have HSC := Aside0.mk hsc
    clear hsc
    have hOc := hO.cell
    have hCc := hC.cell
    have hCf := hC.frozen
    have hgw' := hgw.out
    obtain ⟨cur, hgc⟩ := own_typed hrow g rfl
    gi_wp2_with (first | (refine ⟨trivial, ?_⟩; gi_at_call 56; refine (CallsIn.inRound l (callsIn_wide.2 (bits_Sub32.calls _ _ _ s c' _ HSC.out))).mono ?_; rintro e w' ⟨rfl, ⟨nd2, rfl⟩⟩) | (gi_at_builtin; go_must (refine wpListIn_append_fits _ rfl _ _ 22 rfl w.heap.size 39 i0 1 Tryd.underlying22 hi hz1 g out.length l0.length (nums .u32 out) rfl ?own ⟨W.heap.size, 0, none⟩ 1 1 [.int .u32 s] rfl rfl ?news (by simp [Value.oneCell']) (by omega) ?_; (case own => exact Tch.own (S := fun k => k = N1 + 1) (by repeat (first | exact Tch.refl _ _ | apply Tch.drewN | apply Tch.drew | apply Tch.alloc | refine Tch.setCell ?_ (by rfl) _)) hrow (by simp [Value.ownBlock]; omega)); (case news => exact news_at _ _ (by simp) _ _); intro w2 hown2 hg2; have hT2 : Tch (fun k => k = N1 + 1 ∨ k = g) W w2 := (Tch.grown (by repeat (first | exact Tch.refl _ _ | apply Tch.drewN | apply Tch.drew | apply Tch.alloc | refine Tch.setCell ?_ (by exact .inl rfl) _)) hg2 (fun k e => by cases e; exact .inl (.inr rfl))); have hC2 : Boxed w2 (N1 + 1) 39 (.int .u32 c') := Boxed.kept (by repeat (first | exact Boxed.set _ hC | apply Boxed.alloc)) hg2 (by simp; omega); clear hg2; have hO2 := hT2.boxed hO (by omega); have hOc2 := hO2.cell; have hOf2 := hO2.frozen)))
    have hT3 := (hT2.mono (S' := fun k => k = N1 ∨ k = N1 + 1 ∨ k = g) (fun k hk => .inr hk)).setCell (p := ⟨N1, 0, none⟩) (.inl rfl) (.slice (some ⟨g, 0, none⟩) (out.length + 1) l0.length)
    have hsz := hT2.size
    have hn := hnext.out
    refine ⟨(hT3.others ?_).from _, ⟨hT3.below hB.size ?_, ?_, ?_⟩, ⟨?_, ?_, ?_, ?_⟩, ?_⟩
    · rintro k o (rfl | rfl | rfl) ho
      · rw [show W.heap[k]? = _ from hO] at ho; cases ho; rfl
      · rw [show W.heap[N1 + 1]? = _ from hC] at ho; cases ho; rfl
      · rw [hgc] at ho; cases ho; rfl
    · rintro k (rfl | rfl | rfl) <;> omega
    · exact hT3.block _ (by omega) (by omega)
    · exact hT3.block _ (by omega) (by omega)
    · rw [hn]; simp only [List.length_append, List.length_singleton]; exact hO2.set _
    · rw [hn]; exact hC2.kept (grownBy_setCell' _ _ _) (by simp)
    · rw [hn, nums_append]; simp only [List.length_append, List.length_singleton]; exact World.ownsRow.kept hown2 (grownBy_setCell' _ _ _) (.inr (by simp [Value.ownBlock]; omega))
    · exact Nat.le_trans hsW hT3.size
    · exact hB.trans (hT3.below hB.size (by rintro k (rfl | rfl | rfl) <;> omega))
  case done =>
    rintro D ys W hD rfl ⟨⟨hO, hC, hrow, hsW⟩, hB⟩ hK
    rw [HM'.out] at hO hC hrow
    obtain ⟨out, hout⟩ : ∃ out, (nat_subAll (nat_upto l0 l1 m)).1 = out := ⟨_, rfl⟩
    have hcut := HCUT.out
    rw [hout] at hcut
    rw [hout] at hO hrow
    have HC2 := Aside0.mk hcut
    clear hout HCUT hcut
    have hOc := hO.cell
    have hgw' := hgw.out
    obtain ⟨cur, hgc⟩ := own_typed hrow g rfl
    have hDg : Aside0 (D ≠ g ∧ D < W.heap.size) := Aside0.mk ⟨fun e => (by subst e; rw [hgc] at hK; cases hK), (Array.getElem?_eq_some_iff.1 hK).1⟩
    have HB := Aside0.mk hB
    have HK := Aside0.mk hK
    have HR := Aside0.mk hrow
    clear hB hK hrow hgc
    gi_wp2_with ((refine ⟨trivial, ?_⟩; gi_at_call 53; refine (callsIn_wide.2 (nat_cut.calls kc (fun k => k = g) (.slice (some ⟨g, 0, none⟩) out.length l0.length) out r w _ ?cB ?cR HC2.out)).mono ?_; (case cB => first | exact HB.out | exact pw_below_drewN HB.out _); (case cR => first | exact R_ints HR.out (by intro k hk; cases hk; rfl) | exact Kd.R_drewN (R_ints HR.out (by intro k hk; cases hk; rfl)) _); rintro e w3 ⟨v0, rfl, hR3, hB3, hK3⟩; have HR3 := Aside0.mk hR3; have HB3 := Aside0.mk hB3; have HK3 := Aside0.mk hK3; clear hR3 hB3 hK3))
    have hd := hDg.out
    have hK3 : w3.heap[D]? = some (.deferred (some [])) := (HK3.out.2 D hd.2 hd.1).trans HK.out
    refine ⟨by simp, .inl ⟨_, _, rfl, run_takeDeferred hK3, ?_⟩⟩
    refine ⟨_, results_tmp2 rfl _ _ _, v0, rfl, ?_, ?_⟩
    · exact Kd.R_mono (Kd.R_grown HR3.out (grownBy_putObj' w3 D _) (fun k hk e => by cases e; rcases hk with hk | hk <;> omega)) (fun _ _ => trivial)
    · exact HB3.out.grown (grownBy_putObj' w3 D _) HB3.out.size (fun k e => by cases e; omega)
  case stop =>
    rintro D c pre W _ _ h _
    exact h.elim

theorem nat_Sub.calls (A0 : Option Addr) (c0 : Nat) (l0 : List Int) (A1 : Option Addr) (c1 : Nat) (l1 : List Int) (r1 : List Int) (r2 : Bool) (w : World) (hr0 : Kd.C (Kd.int .u32) w A0 l0.length l0) (hc0 : l0.length ≤ c0) (hr1 : Kd.C (Kd.int .u32) w A1 l1.length l1) (hc1 : l1.length ≤ c1) (h : nat_Sub.f l0 l1 = some (r1, r2)) :
    Calls Tryd.prog 30 #[.slice A0 l0.length c0, .slice A1 l1.length c1] w fun e w' => ∃ v0_ : Value, e = .returned (.tuple #[v0_, .bool r2]) ∧ Kd.R (Kd.int .u32) 39 w' w.heap.size (fun _ => True) v0_ r1 ∧ Below w.heap.size w w' := by
  unfold nat_Sub.f at h
  split at h
  · rename_i hr
    obtain ⟨ha, hb⟩ := Bool.and_eq_true_iff.1 hr
    cases hm : Nums.may l0 && Nums.may l1 with
    | false =>
      rw [hm, if_neg (by decide)] at h
      simp only [Option.some.injEq, Prod.mk.injEq] at h
      obtain ⟨rfl, rfl⟩ := h
      exact nat_Sub.calls_no A0 c0 l0 A1 c1 l1 w hr0 hc0 hr1 hc1 hm
    | true =>
      rw [hm, if_pos rfl] at h
      obtain ⟨hm0, hm1⟩ := Bool.and_eq_true_iff.1 hm
      have hcm : nat_Cmp.f l0 l1 = some (if Nums.val l0 < Nums.val l1 then -1 else if Nums.val l1 < Nums.val l0 then 1 else 0) := by
        unfold nat_Cmp.f
        rw [hr, if_pos rfl, hm, if_pos rfl]
      by_cases hlt : Nums.val l0 < Nums.val l1
      · rw [if_pos hlt] at h hcm
        simp only [Option.some.injEq, Prod.mk.injEq] at h
        obtain ⟨rfl, rfl⟩ := h
        exact nat_Sub.calls_less A0 c0 l0 A1 c1 l1 w hr0 hc0 hr1 hc1 hm hcm
      · rw [if_neg hlt] at h hcm
        simp only [Option.some.injEq, Prod.mk.injEq] at h
        obtain ⟨rfl, rfl⟩ := h
        have hle : Nums.val l1 ≤ Nums.val l0 := Nat.le_of_not_lt hlt
        have hlen : l1.length ≤ l0.length := by
          by_cases hn : l1 = []
          · rw [hn]; exact Nat.zero_le _
          · have h2 := Nums.val_ge hb (Nums.may_iff.1 hm1).2 hn
            have h3 := Nums.val_lt ha
            refine Nat.le_of_not_lt fun h4 => ?_
            have h5 := Nums.pow_le_gen 4294967296 l0.length (l1.length - 1) (by decide) (by omega)
            exact Nat.lt_irrefl _ (Nat.lt_of_lt_of_le (Nat.lt_of_lt_of_le h3 (Nat.le_trans h5 h2)) hle)
        obtain ⟨e1, e2⟩ := nat_subAll_val l0 l1 _ rfl ha hb hle
        have hl := nat_subAll_length (nat_upto l0 l1 (max l0.length l1.length))
        rw [nat_upto_length] at hl
        have hm0' := (Nums.may_iff.1 hm0).1
        have hm1' := (Nums.may_iff.1 hm1).1
        have hlim : Nums.lim (Nums.val l0 - Nums.val l1) = Nums.toL (Nums.val l0 - Nums.val l1) := Nums.lim_eq (Nat.lt_of_le_of_lt (Nat.sub_le _ _) (Nums.may_val ha hm0).2)
        refine nat_Sub.calls_yes A0 c0 l0 A1 c1 l1 _ w hr0 hc0 hr1 hc1 hm hlen _ hcm (by split <;> decide) (max l0.length l1.length + 1) ?_
        rw [nat_cut_eq _ _ _ rfl (by rw [hl]; omega) (by rw [hl]; omega) e1, e2, hlim]
  · cases h
end

end Go.Proofs.YtjgloepeogelnaaDoor.Pr

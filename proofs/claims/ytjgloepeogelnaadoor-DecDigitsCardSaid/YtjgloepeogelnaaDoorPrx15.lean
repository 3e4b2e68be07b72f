-- Laid by this session's own program (mk.py) out of the translation.
import Derived.Test.YtjgloepeogelnaaDoorPrx0
import Derived.Test.YtjgloepeogelnaaDoorPrx1
import Derived.Test.YtjgloepeogelnaaDoorPrx4
import Derived.Test.YtjgloepeogelnaaDoorPrx5
import Derived.Test.YtjgloepeogelnaaDoorPrx13
namespace Go.Proofs.YtjgloepeogelnaaDoor.Pr
open Go.RowKit Go.Proofs.YtjgloepeogelnaaDoorW.PrintWords Go.Proofs.YtjgloepeogelnaaDoorW.PrintLast Go.Proofs.YtjgloepeogelnaaDoorW.PrintMore
attribute [local go_sem] max2_int min2_int max_two min_two max_three min_three max_four min_four   -- for this text's walks alone
set_option linter.unusedVariables false
set_option linter.unusedSimpArgs false

/-! ### dec_digits: function 33 -/
/-- So many digits of a number, the last one last, as bytes. -/
def dig : Nat → Int → List Int
  | 0, _ => []
  | k + 1, x => dig k (x / 10) ++ [48 + x % 10]
set_option maxRecDepth 100000 in
set_option maxHeartbeats 8000000 in
theorem dec_digits.calls (x : Int) (h0 : 0 ≤ x) (h1 : x < 4294967296) (w : World) :
    Calls Tryd.prog 33 #[.int .u32 x] w fun e w' => e = .returned (.agg ((dig 9 x).map (Value.int .u8)).toArray) ∧ Below w.heap.size w w' := by
  go_enter Tryd.func33, Tryd.ntmps33
  go_wp2
  refine wp_loop_rounds 11 ?_
  rw [rounds_succ]
  go_wp2
  obtain ⟨x1, hx1⟩ : ∃ y, x / 10 = y := ⟨_, rfl⟩
  have hx1a : 0 ≤ x1 := by omega
  have hx1b : x1 < 4294967296 := by omega
  rw [hx1]
  have Hx1 := Aside0.mk hx1
  clear hx1
  rw [rounds_succ]
  go_wp2
  obtain ⟨x2, hx2⟩ : ∃ y, x1 / 10 = y := ⟨_, rfl⟩
  have hx2a : 0 ≤ x2 := by omega
  have hx2b : x2 < 4294967296 := by omega
  rw [hx2]
  have Hx2 := Aside0.mk hx2
  clear hx2
  rw [rounds_succ]
  go_wp2
  obtain ⟨x3, hx3⟩ : ∃ y, x2 / 10 = y := ⟨_, rfl⟩
  have hx3a : 0 ≤ x3 := by omega
  have hx3b : x3 < 4294967296 := by omega
  rw [hx3]
  have Hx3 := Aside0.mk hx3
  clear hx3
  rw [rounds_succ]
  go_wp2
  obtain ⟨x4, hx4⟩ : ∃ y, x3 / 10 = y := ⟨_, rfl⟩
  have hx4a : 0 ≤ x4 := by omega
  have hx4b : x4 < 4294967296 := by omega
  rw [hx4]
  have Hx4 := Aside0.mk hx4
  clear hx4
  rw [rounds_succ]
  go_wp2
  obtain ⟨x5, hx5⟩ : ∃ y, x4 / 10 = y := ⟨_, rfl⟩
  have hx5a : 0 ≤ x5 := by omega
  have hx5b : x5 < 4294967296 := by omega
  rw [hx5]
  have Hx5 := Aside0.mk hx5
  clear hx5
  rw [rounds_succ]
  go_wp2
  obtain ⟨x6, hx6⟩ : ∃ y, x5 / 10 = y := ⟨_, rfl⟩
  have hx6a : 0 ≤ x6 := by omega
  have hx6b : x6 < 4294967296 := by omega
  rw [hx6]
  have Hx6 := Aside0.mk hx6
  clear hx6
  rw [rounds_succ]
  go_wp2
  obtain ⟨x7, hx7⟩ : ∃ y, x6 / 10 = y := ⟨_, rfl⟩
  have hx7a : 0 ≤ x7 := by omega
  have hx7b : x7 < 4294967296 := by omega
  rw [hx7]
  have Hx7 := Aside0.mk hx7
  clear hx7
  rw [rounds_succ]
  go_wp2
  obtain ⟨x8, hx8⟩ : ∃ y, x7 / 10 = y := ⟨_, rfl⟩
  have hx8a : 0 ≤ x8 := by omega
  have hx8b : x8 < 4294967296 := by omega
  rw [hx8]
  have Hx8 := Aside0.mk hx8
  clear hx8
  rw [rounds_succ]
  go_wp2
  rw [rounds_succ]
  go_wp2
  refine bodyPost_ret (v := .agg ((dig 9 x).map (Value.int .u8)).toArray) ?res rfl ⟨rfl, below_alloc (Below.refl _ _) _⟩
  case res =>
    simp only [dig, Hx1.out, Hx2.out, Hx3.out, Hx4.out, Hx5.out, Hx6.out, Hx7.out, Hx8.out, List.nil_append, List.cons_append, List.map_cons, List.map_nil]
    simp [results, Tryd.f33, go_sem]
theorem dig_digs (k : Nat) : ∀ x : Int, 0 ≤ x → (dig k x).map (Value.int .u8) = Lib.byteCells (Nums.digs k x.toNat) := by
  induction k with
  | zero => intro x _; rfl
  | succ k ih =>
    intro x h
    have e : (UInt8.ofNat (48 + x.toNat % 10)).toNat = 48 + x.toNat % 10 := by rw [UInt8.toNat_ofNat']; omega
    have e2 : ((48 + x.toNat % 10 : Nat) : Int) = 48 + x % 10 := by omega
    simp only [dig, Nums.digs, List.map_append, Lib.byteCells, List.map_cons, List.map_nil]
    rw [ih (x / 10) (by omega), e, e2, show (x / 10).toNat = x.toNat / 10 by omega]
    rfl
theorem dec_digits.calls9 (x : Int) (h0 : 0 ≤ x) (h1 : x < 4294967296) (w : World) :
    Calls Tryd.prog 33 #[.int .u32 x] w fun e w' => ∃ d0 d1 d2 d3 d4 d5 d6 d7 d8 : Int, (e = .returned (.agg #[.int .u8 d0, .int .u8 d1, .int .u8 d2, .int .u8 d3, .int .u8 d4, .int .u8 d5, .int .u8 d6, .int .u8 d7, .int .u8 d8]) ∧ [d0, d1, d2, d3, d4, d5, d6, d7, d8].map (Value.int .u8) = Lib.byteCells (Nums.digs 9 x.toNat)) ∧ Below w.heap.size w w' := by
  refine (dec_digits.calls x h0 h1 w).mono ?_
  rintro e w' ⟨rfl, hb⟩
  exact ⟨_, _, _, _, _, _, _, _, _, ⟨rfl, by rw [← dig_digs 9 x h0]; rfl⟩, hb⟩

/-! ### dec_Show: function 12 -/
def dec_Show.f (l0 : List Int) : Option ByteArray := if Nums.rng l0 = true then some (if Nums.may l0 = true then ⟨(Nums.showB (Nums.val l0)).toArray⟩ else ByteArray.empty) else none
set_option maxHeartbeats 1000000 in
theorem dec_Show.calls_no (A0 : Option Addr) (c0 : Nat) (l0 : List Int) (w : World) (hr0 : Kd.C (Kd.int .u32) w A0 l0.length l0) (hc0 : l0.length ≤ c0) (hm : Nums.may l0 = false) :
    Calls Tryd.prog 12 #[.slice A0 l0.length c0] w fun e w' => e = .returned (.string ByteArray.empty) ∧ Below w.heap.size w w' := by
  have HM := Aside0.mk (nat_May.calls A0 c0 l0 _ w hr0 hc0 (nat_May_eq l0))
  rw [hm] at HM
  clear hr0 hc0 hm
  go_enter Tryd.func12, Tryd.ntmps12
  go_wp2_with (go_at_call 22; refine HM.out.mono ?_; rintro e w' ⟨rfl, ⟨nd, rfl⟩⟩)
  go_ret
  exact ⟨rfl, pw_below_drewN (Below.refl _ _) _⟩
set_option maxRecDepth 100000 in
set_option maxHeartbeats 8000000 in
theorem dec_Show.calls_yes (A0 : Option Addr) (c0 : Nat) (l0 : List Int) (w : World) (hr0 : Kd.C (Kd.int .u32) w A0 l0.length l0) (hc0 : l0.length ≤ c0) (hr : Nums.rng l0 = true) (hm : Nums.may l0 = true) :
    Calls Tryd.prog 12 #[.slice A0 l0.length c0] w fun e w' => e = .returned (.string ⟨(Nums.showB (Nums.val l0)).toArray⟩) ∧ Below w.heap.size w w' := by
  have HM := Aside0.mk (nat_May.calls A0 c0 l0 _ w hr0 hc0 (nat_May_eq l0))
  rw [hm] at HM
  have HR0 := Aside0.mk hr0
  have HC0 := Aside0.mk hc0
  obtain ⟨N, hN⟩ : ∃ N, Nums.val l0 = N := ⟨_, rfl⟩
  have hl0 : l0 = Nums.toL N := by rw [← hN]; exact (Nums.may_val hr hm).1.symm
  have HL0 := Aside0.mk hl0
  have HNB := Aside0.mk (show N < 4294967296 ^ 65536 by rw [← hN]; exact (Nums.may_val hr hm).2)
  rw [hN]
  clear hr0 hc0 hm hr hl0 hN
  go_enter Tryd.func12, Tryd.ntmps12
  go_wp2_with (go_at_call 22; refine HM.out.mono ?_; rintro e w' ⟨rfl, ⟨nd, rfl⟩⟩)
  go_loopg [0, 3] N (fun gk v0 v3 wr => ∃ (A : Option Addr) (c n : Nat) (Ap : Option Addr) (cp : Nat) (ps : List (List UInt8)), v0 = .slice A n c ∧ v3 = .slice Ap ps.length cp ∧ Aside0 (n = (Nums.toL gk).length ∧ n ≤ c ∧ Kd.C (Kd.int .u32) wr A (Nums.toL gk).length (Nums.toL gk)) ∧
    Aside0 (wr.ownsRow w.heap.size 54 9 (.slice Ap ps.length cp) ps.length (Lib.byteCells ps.flatten)) ∧ Aside0 (ps ++ Nums.pcs gk = Nums.pcs N ∧ gk ≤ N) ∧ Aside0 (Below w.heap.size w wr))
  case atStart =>
    refine ⟨A0, c0, l0.length, none, 0, [], rfl, rfl, ⟨?_⟩, ⟨?_⟩, ⟨by simp, Nat.le_refl _⟩, ⟨pw_below_drewN (Below.refl _ _) _⟩⟩
    · rw [← HL0.out]; exact ⟨rfl, HC0.out, Kd.C_drewN HR0.out _⟩
    · exact World.ownsRow_nil _ _ _ _
  case round =>
    obtain ⟨A, c, n, Ap, cp, ps, rfl, rfl, H1, H2, H3, H4⟩ := hrel
    cases gk with
    | zero =>
      have hn : n = 0 := by rw [H1.out.1, Nums.toL_zero]; rfl
      subst hn
      have hps : ps.length ≤ 72316 := by
        have h1 := congrArg List.length H3.out.1
        have h2 := Nums.pcs_len_may HNB.out
        simp only [List.length_append] at h1
        omega
      have hw1 : wrap64 ((ps.length : Int) - 1) = (ps.length : Int) - 1 := by unfold wrap64; omega
      go_wp2
      obtain ⟨B, hB⟩ : ∃ B, wr.heap.size = B := ⟨_, rfl⟩
      have hpcs : Aside0 (ps = Nums.pcs N) := ⟨by have := H3.out.1; rw [Nums.pcs_zero, List.append_nil] at this; exact this⟩
      have hgrp := World.alloc_heap_new wr (.cells #[.pointer none, .slice none 0 0] 58)
      rw [hB] at hgrp ⊢
      go_loopw [6] (fun i wq => ∃ k : Nat, k ≤ ps.length ∧ i = .int .i64 ((k : Int) - 1) ∧ Aside0 (Lib.IsBuilder 58 5 B B (Lib.byteCells ((ps.drop k).reverse.flatten)) wq) ∧ Aside0 (Below B wr wq))
        (fun i _ => (intOf i + 1).toNat)
      case atStart => exact ⟨ps.length, Nat.le_refl _, rfl, ⟨by
        rw [List.drop_length]
        exact .inl ⟨Nat.le_refl _, .slice none 0 0, hgrp, World.ownsRow_nil _ _ _ _, by simp [Value.ownBlock]⟩⟩, ⟨by rw [← hB]; exact below_alloc (Below.refl _ _) _⟩⟩
      case round =>
        obtain ⟨k, hk, rfl, hIB, hBq⟩ := hrel
        by_cases hk0 : 0 < k
        · obtain ⟨k, rfl⟩ : ∃ m, k = m + 1 := ⟨k - 1, by omega⟩
          obtain ⟨g, rfl, hgB⟩ : ∃ g, Ap = some ⟨g, 0, none⟩ ∧ g < B := by
            rcases H2.out.2 with ⟨_, h⟩ | ⟨g, cap, cur, e, _⟩
            · omega
            · cases e
              exact ⟨g, rfl, by rw [← hB]; exact own_lt H2.out g rfl⟩
          have h9 : ∀ p ∈ ps, p.length = 9 := by rw [hpcs.out]; exact Nums.pcs_nine N
          have hp9 : ps[k].length = 9 := h9 _ (List.getElem_mem _)
          have hnews : ∀ j u, (Lib.byteCells ps[k])[j]? = some u → wr.cell? ((⟨g, k * 9, none⟩ : Addr).add j) = some u := by
            intro j u hu
            have hj : j < 9 := by have := (List.getElem?_eq_some_iff.1 hu).1; rw [Lib.byteCells_length, hp9] at this; exact this
            rw [hBq.out.cell (by unfold Addr.add; split <;> exact hgB)]
            have h1 := H2.out.cells (g := g) rfl (k * 9 + j) u (by
              rw [Lib.byteCells, List.getElem?_map, Nums.flat_at ps h9 k (by omega) j hj, ← List.getElem?_map]
              exact hu)
            have e : ((⟨g, k * 9, none⟩ : Addr).add j) = ((⟨g, 0, none⟩ : Addr).add (k * 9 + j)) := by
              unfold Addr.add
              by_cases a0 : j = 0 <;> by_cases b0 : k * 9 + j = 0 <;> simp [a0, b0] <;> omega
            rw [e]; exact h1
          have hlen : (Lib.byteCells ((ps.drop (k + 1)).reverse.flatten)).length + 9 ≤ 140737488355328 := by
            rw [Lib.byteCells_length, Nums.flat_len _ (fun p hp => h9 p (List.mem_of_mem_drop (List.mem_reverse.1 hp))), List.length_reverse, List.length_drop]
            omega
          have HW := Aside0.mk (Tryd.Builder_Write B B _ ⟨g, k * 9, none⟩ 9 9 (Lib.byteCells ps[k]) wr hIB.out (by rw [Lib.byteCells_length, hp9]) hnews hgB (fun u hu => by obtain ⟨b, _, rfl⟩ := List.mem_map.1 hu; rfl) hlen (by have := hBq.out.size; omega))
          clear hnews hlen
          go_wp2_with (go_at_call 34; go_must (refine HW.out.mono ?_); rintro e w4 ⟨rfl, hb4, hB4⟩)
          refine ⟨⟨k, by omega, rfl, ⟨.inr ?_⟩, ⟨hBq.out.trans hB4⟩⟩, by simp only [intOf]; omega⟩
          rw [Nums.flat_rev_drop ps k (by omega), Lib.byteCells, List.map_append]
          exact hb4
        · obtain rfl : k = 0 := by omega
          have hpc := hpcs.out
          obtain ⟨tx, htx⟩ : ∃ tx, (Nums.pcs N).reverse.flatten = tx := ⟨_, rfl⟩
          have hib := hIB.out
          rw [List.drop_zero, hpc, htx] at hib
          have HS := Aside0.mk (Tryd.Builder_String_any B B tx wr hib (by have := hBq.out.size; omega))
          have hsb : Nums.showB N = if Lib.trimLeftB tx 48 = [] then [48] else Lib.trimLeftB tx 48 := by rw [Nums.showB, htx]; rfl
          clear htx hpc hib
          have HT := fun w => Aside0.mk (Tryd.strings_TrimLeft_one ⟨tx.toArray⟩ 48 (by decide) w)
          obtain ⟨ty, hty⟩ : ∃ ty, Lib.trimLeftB tx 48 = ty := ⟨_, rfl⟩
          rw [show (⟨tx.toArray⟩ : ByteArray).data.toList = tx from rfl] at HT
          rw [hty] at HT hsb
          have HSB := Aside0.mk hsb
          clear hty hsb
          go_wp2_with (first | (go_at_call 36; refine HS.out.mono ?_; rintro e w5 ⟨rfl, hB5⟩) | (go_at_call 35; refine (HT _).out.mono ?_; rintro e w6 ⟨rfl, rfl⟩))
          · have he : (!ty.isEmpty) = true := by assumption
            go_ret
            refine ⟨?_, H4.out.trans ((hBq.out.trans hB5).mono (by rw [← hB]; exact H4.out.size))⟩
            rw [HSB.out, if_neg (by intro e; rw [e] at he; simp at he)]; rfl
          · have he : (!ty.isEmpty) = false := by assumption
            go_ret
            refine ⟨?_, H4.out.trans ((hBq.out.trans hB5).mono (by rw [← hB]; exact H4.out.size))⟩
            rw [HSB.out, if_pos (by cases ty with | nil => rfl | cons a b => simp at he)]; rfl
    | succ m =>
      have hn : 0 < n := by
        rw [H1.out.1, Nums.toL_pos (by omega)]; simp
      have hps : ps.length ≤ 72316 := by
        have h1 := congrArg List.length H3.out.1
        have h2 := Nums.pcs_len_may HNB.out
        simp only [List.length_append] at h1
        omega
      obtain ⟨M, hM⟩ : ∃ M, m + 1 = M := ⟨_, rfl⟩
      rw [hM] at H1 H3
      obtain ⟨kd, hkd⟩ := (div_Small_ev (Nums.toL M) 1000000000 (Nums.rng_toL _) (Nums.may_toL (Nat.lt_of_le_of_lt H3.out.2 HNB.out)) (by decide) (by decide)).get
      rw [Nums.val_toL, show (1000000000 : Int).toNat = 1000000000 from rfl] at hkd
      obtain ⟨rfl, hc, hC⟩ := H1.out
      have HKD := Aside0.mk hkd
      have HC := Aside0.mk hC
      have HC1 := Aside0.mk hc
      clear H1 hkd hC hc
      have hx1 : ((M % 1000000000 : Nat) : Int) < 4294967296 := by omega
      obtain ⟨x, hx⟩ : ∃ x : Int, ((M % 1000000000 : Nat) : Int) = x := ⟨_, rfl⟩
      have hx0 : 0 ≤ x := by omega
      rw [hx] at hx1 HKD
      have HX := Aside0.mk hx
      clear hx
      obtain ⟨i0, hi, hz0, hz1, hz2⟩ := info_parts (show (Tryd.prog.info? 54).map (fun i => (i.zero, i.size, i.bytes)) = some (some (.agg #[.int .u8 0, .int .u8 0, .int .u8 0, .int .u8 0, .int .u8 0, .int .u8 0, .int .u8 0, .int .u8 0, .int .u8 0]), 9, 9) by kernel_rfl)
      go_wp2_with (first | (go_at_call 24; refine (div_Small.calls kd A c (Nums.toL M) 1000000000 _ _ _ wr HC.out HC1.out HKD.out).mono ?_; rintro e w1 ⟨v0, rfl, hR1, hB1⟩; obtain ⟨A1, c1, rfl, hc1, _⟩ := Kd.R_reads hR1; have HB1 := Aside0.mk hB1; have HCC1 := Aside0.mk (And.intro hc1 hR1); clear hR1 hB1 hc1) | (go_at_call 33; refine (dec_digits.calls9 x hx0 hx1 w1).mono ?_; rintro e w2 ⟨d0, d1, d2, d3, d4, d5, d6, d7, d8, ⟨rfl, hd⟩, hB2⟩; have HD := Aside0.mk hd; have HB2 := Aside0.mk hB2; clear hd hB2) | (at_builtin; go_must (refine wpList_append_own (w2.alloc (.cells #[.int .u8 d0, .int .u8 d1, .int .u8 d2, .int .u8 d3, .int .u8 d4, .int .u8 d5, .int .u8 d6, .int .u8 d7, .int .u8 d8] 54)) rfl (.tmp 20) (.tmp 23) 53 rfl w.heap.size 54 i0 _ 9 9 Tryd.underlying53 hi hz0 hz1 hz2 rfl (by decide) (.slice Ap ps.length cp) ps.length (Lib.byteCells ps.flatten) rfl (Tch.own (S := fun _ => False) (((Tch.of_below HB1.out).belowThen HB2.out).alloc _) H2.out (fun _ _ e => e)) ⟨w2.heap.size, 0, none⟩ 1 1 [.int .u8 d0, .int .u8 d1, .int .u8 d2, .int .u8 d3, .int .u8 d4, .int .u8 d5, .int .u8 d6, .int .u8 d7, .int .u8 d8] rfl rfl (news_row _ _ rfl _ _) (by simp [Value.oneCell']) (by unfold maxLen; omega) (by omega) (by have h1 := H4.out.size; have h2 := HB1.out.size; have h3 := HB2.out.size; simp; omega) ?_); intro v3 w3 hown3 hg3 _; obtain ⟨Ap3, cp3, rfl, _⟩ := own_form hown3; have HO3 := Aside0.mk hown3; have HG3 := Aside0.mk hg3; clear hown3 hg3))
      go_roundg (M / 1000000000)
      case measure => have : M / 1000000000 < M := Nat.div_lt_self (by omega) (by decide); omega
      case rel =>
        refine ⟨A1, c1, _, Ap3, cp3, ps ++ [Nums.digs 9 (M % 1000000000)], rfl, by simp, ⟨rfl, HCC1.out.1, ?_⟩, ⟨?_⟩, ⟨?_, Nat.le_trans (Nat.div_le_self _ _) H3.out.2⟩, ⟨?_⟩⟩
        · have h1 := Kd.R_bound HCC1.out.2
          have h2 := Kd.R_alloc (Kd.R_below h1 HB2.out) (.cells #[.int .u8 d0, .int .u8 d1, .int .u8 d2, .int .u8 d3, .int .u8 d4, .int .u8 d5, .int .u8 d6, .int .u8 d7, .int .u8 d8] 54)
          have h3 := Kd.R_grown h2 HG3.out (fun k hk e => by have := own_lt H2.out k e.symm; have := hk.2.1; omega)
          exact (Kd.R_reads' h3).2.2
        · have h1 : Lib.byteCells (ps ++ [Nums.digs 9 (M % 1000000000)]).flatten = Lib.byteCells ps.flatten ++ [.int .u8 d0, .int .u8 d1, .int .u8 d2, .int .u8 d3, .int .u8 d4, .int .u8 d5, .int .u8 d6, .int .u8 d7, .int .u8 d8] := by
            have h2 := HD.out
            rw [← HX.out, Int.toNat_natCast] at h2
            simp only [List.flatten_append, List.flatten_cons, List.flatten_nil, List.append_nil, Lib.byteCells, List.map_append]
            exact congrArg _ h2.symm
          rw [h1, List.length_append]
          exact HO3.out
        · rw [← H3.out.1, Nums.pcs_pos (show M ≠ 0 by omega)]; simp
        · have h1 := HB1.out.mono H4.out.size
          have h2 := HB2.out.mono (Nat.le_trans H4.out.size HB1.out.size)
          exact ((below_alloc (H4.out.trans (h1.trans h2)) _).grown HG3.out (by have := H4.out.size; have := HB1.out.size; have := HB2.out.size; simp; omega) (fun k e => own_base H2.out k e))
theorem dec_Show.calls (A0 : Option Addr) (c0 : Nat) (l0 : List Int) (r : ByteArray) (w : World) (hr0 : Kd.C (Kd.int .u32) w A0 l0.length l0) (hc0 : l0.length ≤ c0) (h : dec_Show.f l0 = some r) :
    Calls Tryd.prog 12 #[.slice A0 l0.length c0] w fun e w' => e = .returned (.string r) ∧ Below w.heap.size w w' := by
  unfold dec_Show.f at h
  split at h
  case isFalse => cases h
  case isTrue hr =>
  obtain rfl := Option.some.inj h
  cases hm : Nums.may l0 with
  | false => rw [if_neg (by simp)]; exact dec_Show.calls_no A0 c0 l0 w hr0 hc0 hm
  | true => rw [if_pos rfl]; exact dec_Show.calls_yes A0 c0 l0 w hr0 hc0 hr hm
theorem dec_Show_eq (l : List Int) (hr : Nums.rng l = true) (hm : Nums.may l = true) : dec_Show.f l = some ⟨(Nums.deci (Nums.val l)).toArray⟩ := by
  unfold dec_Show.f
  rw [if_pos hr, if_pos hm, Nums.showB_deci]
theorem dec_Show_no (l : List Int) (hr : Nums.rng l = true) (hm : Nums.may l = false) : dec_Show.f l = some ByteArray.empty := by
  unfold dec_Show.f
  rw [if_pos hr, hm, if_neg (by decide)]

/-! ### dec_Digits: function 13 -/
def dec_Digits.f (l0 : List Int) : Option (Int) := (dec_Show.f l0).bind fun t212 => (some (t212.size : Int))
set_option maxHeartbeats 8000000 in
set_option maxRecDepth 100000 in
theorem dec_Digits.calls (A0 : Option Addr) (c0 : Nat) (l0 : List Int) (r : Int) (w : World) (hr0 : Kd.C (Kd.int .u32) w A0 l0.length l0) (hc0 : l0.length ≤ c0) (h : dec_Digits.f l0 = some r) :
    Calls Tryd.prog 13 #[.slice A0 l0.length c0] w fun e w' => e = .returned (.int .i64 r) ∧ Below w.heap.size w w' := by
  have HR0 := Aside0.mk hr0
  have HC0 := Aside0.mk hc0
  clear hr0 hc0
  have HB := Aside0.mk (Below.refl w.heap.size w)
  have H : ((dec_Show.f l0).bind fun t212 => (some (t212.size : Int))) = some r := h
  clear h
  replace H := Option.bind_eq_some_iff.mp H
  obtain ⟨t212, A20, H⟩ := H
  replace H : (some (t212.size : Int)) = some r := H
  have A2 := Aside0.mk A20
  clear A20
  obtain rfl := Option.some.inj H
  go_enter Tryd.func13, Tryd.ntmps13
  go_wp2_with (first | ((with_reducible refine gate_callee (f := 12) rfl ?_); refine goesL_ (some 4) rfl rfl Tryd.func12 (by kernel_rfl) rfl #[.slice A0 l0.length c0] rfl (by (try simp only [List.map_toArray, List.map_cons, List.map_nil]); first | done | rfl | (simp only [List.length_drop, List.length_take]; rfl)) ?_; (with_reducible refine (dec_Show.calls _ _ l0 t212 _ ?side1 ?side2 A2.out).mono ?_); (case side1 => repeat (first | exact HR0.out | (with_reducible refine Kd.C_alloc ?_ _) | (with_reducible refine Kd.C_drewN ?_ _) | (with_reducible refine Kd.C_drew ?_))); (case side2 => exact HC0.out); rintro e w3 ⟨rfl, hb⟩; refine ⟨_, rfl, ?_⟩; have n0_ := Aside0.mk (below_step (by repeat (first | (with_reducible first | exact HB.out | apply below_alloc | apply pw_below_drewN | apply below_drew1) | exact HB.out)) hb); clear HB; have HB := n0_; clear n0_; (try clear hb); (try clear hb2); (try clear hk); (try clear hi)))
  go_ret
  exact ⟨by first | rfl | (simp [errW_none, errW_some] <;> rfl) | (simp [*, errW_none, errW_some] <;> rfl), by repeat (first | (with_reducible first | exact HB.out | apply below_alloc | apply pw_below_drewN | apply below_drew1) | exact HB.out)⟩

/-! ### alidadelaw04_is: function 28 -/
def alidadelaw04_is.f (k : Nat) (l0 : List Int) (a1 : ByteArray) : Option (Bool) := (dec_Parse.f a1).bind fun bt213 => ((dec_Show.f l0).bind fun t217 => (if t217.toList = a1.toList then ((dec_Digits.f l0).bind fun t218 => (if t218 = (a1.size : Int) then (if bt213.2 = 0 then ((alidadelaw04_same.f k bt213.1 l0).bind fun t219 => (some t219)) else (some false)) else (some false))) else (some false)))
theorem alidadelaw04_is.mono : ∀ a0 a1 k, LeO (alidadelaw04_is.f k a0 a1) (alidadelaw04_is.f (k + 1) a0 a1) := by
  intro a0 a1 k
  unfold alidadelaw04_is.f
  repeat' first
      | (with_reducible exact alidadelaw04_same.mono _ _ _)
      | (with_reducible exact LeO.refl _)
      | (with_reducible exact LeO.none _)
      | (with_reducible refine LeO.ite ?_ ?_)
      | (with_reducible refine LeO.bind ?_ (fun _ => ?_))
      | exact alidadelaw04_same.mono _ _ _
      | exact LeO.none _
      | refine LeO.ite ?_ ?_
      | refine LeO.bind ?_ (fun _ => ?_)
set_option maxHeartbeats 8000000 in
set_option maxRecDepth 100000 in
theorem alidadelaw04_is.calls (k : Nat) (A0 : Option Addr) (c0 : Nat) (l0 : List Int) (a1 : ByteArray) (r : Bool) (w : World) (hr0 : Kd.C (Kd.int .u32) w A0 l0.length l0) (hc0 : l0.length ≤ c0) (h : alidadelaw04_is.f k l0 a1 = some r) :
    Calls Tryd.prog 28 #[.slice A0 l0.length c0, .string a1] w fun e w' => e = .returned (.bool r) ∧ Below w.heap.size w w' := by
  have HR0 := Aside0.mk hr0
  have HC0 := Aside0.mk hc0
  clear hr0 hc0
  have HB := Aside0.mk (Below.refl w.heap.size w)
  have H : ((dec_Parse.f a1).bind fun bt213 => ((dec_Show.f l0).bind fun t217 => (if t217.toList = a1.toList then ((dec_Digits.f l0).bind fun t218 => (if t218 = (a1.size : Int) then (if bt213.2 = 0 then ((alidadelaw04_same.f k bt213.1 l0).bind fun t219 => (some t219)) else (some false)) else (some false))) else (some false)))) = some r := h
  clear h
  replace H := Option.bind_eq_some_iff.mp H
  obtain ⟨⟨t213, t214⟩, A30, H⟩ := H
  replace H : ((dec_Show.f l0).bind fun t217 => (if t217.toList = a1.toList then ((dec_Digits.f l0).bind fun t218 => (if t218 = (a1.size : Int) then (if t214 = 0 then ((alidadelaw04_same.f k t213 l0).bind fun t219 => (some t219)) else (some false)) else (some false))) else (some false))) = some r := H
  have A3 := Aside0.mk A30
  clear A30
  replace H := Option.bind_eq_some_iff.mp H
  obtain ⟨t217, A40, H⟩ := H
  replace H : (if t217.toList = a1.toList then ((dec_Digits.f l0).bind fun t218 => (if t218 = (a1.size : Int) then (if t214 = 0 then ((alidadelaw04_same.f k t213 l0).bind fun t219 => (some t219)) else (some false)) else (some false))) else (some false)) = some r := H
  have A4 := Aside0.mk A40
  clear A40
  by_cases c5 : t217.toList = a1.toList
  · rw [if_pos c5] at H
    have c5b0 : (t217.toList == a1.toList) = true := beq_iff_eq.mpr c5
    have c5b1 : (t217.toList != a1.toList) = false := bne_eq_false_iff_eq.mpr c5
    clear c5
    replace H := Option.bind_eq_some_iff.mp H
    obtain ⟨t218, A60, H⟩ := H
    replace H : (if t218 = (a1.size : Int) then (if t214 = 0 then ((alidadelaw04_same.f k t213 l0).bind fun t219 => (some t219)) else (some false)) else (some false)) = some r := H
    have A6 := Aside0.mk A60
    clear A60
    by_cases c7 : t218 = (a1.size : Int)
    · rw [if_pos c7] at H
      have c7b0 : (t218 == (a1.size : Int)) = true := beq_iff_eq.mpr c7
      have c7b1 : (t218 != (a1.size : Int)) = false := bne_eq_false_iff_eq.mpr c7
      clear c7
      by_cases c8 : t214 = 0
      · rw [if_pos c8] at H
        have c8b0 : (t214 == 0) = true := beq_iff_eq.mpr c8
        have c8b1 : (t214 != 0) = false := bne_eq_false_iff_eq.mpr c8
        clear c8
        replace H := Option.bind_eq_some_iff.mp H
        obtain ⟨t219, A90, H⟩ := H
        replace H : (some t219) = some r := H
        have A9 := Aside0.mk A90
        clear A90
        obtain rfl := Option.some.inj H
        go_enter Tryd.func28, Tryd.ntmps28
        go_wp2_with (first | ((with_reducible refine gate_callee (f := 14) rfl ?_); refine goesL_ (some 9) rfl rfl Tryd.func14 (by kernel_rfl) rfl #[.string a1] rfl (by (try simp only [List.map_toArray, List.map_cons, List.map_nil]); first | done | rfl | (simp only [List.length_drop, List.length_take]; rfl)) ?_; (with_reducible refine (dec_Parse.calls a1 t213 t214 _ A3.out).mono ?_); rintro e w10 ⟨v215, rfl, ho0, hb⟩; refine ⟨_, rfl, ?_⟩; have n0_ := Aside0.mk (Kd.R_lower ho0 (below_size (by repeat (first | (with_reducible first | exact HB.out | apply below_alloc | apply pw_below_drewN | apply below_drew1) | exact HB.out)))); have n1_ := Aside0.mk (below_step (by repeat (first | (with_reducible first | exact HB.out | apply below_alloc | apply pw_below_drewN | apply below_drew1) | exact HB.out)) hb); clear HB; have HO216 := n0_; have HB := n1_; clear n0_ n1_; (try clear hb); (try clear hb2); (try clear hk); (try clear hi); (try clear ho0)) | ((with_reducible refine gate_callee (f := 12) rfl ?_); refine goesL_ (some 13) rfl rfl Tryd.func12 (by kernel_rfl) rfl #[.slice A0 l0.length c0] rfl (by (try simp only [List.map_toArray, List.map_cons, List.map_nil]); first | done | rfl | (simp only [List.length_drop, List.length_take]; rfl)) ?_; (with_reducible refine (dec_Show.calls _ _ l0 t217 _ ?side1 ?side2 A4.out).mono ?_); (case side1 => repeat (first | exact (Kd.C_below HR0.out HB.out) | (with_reducible refine Kd.C_alloc ?_ _) | (with_reducible refine Kd.C_drewN ?_ _) | (with_reducible refine Kd.C_drew ?_))); (case side2 => exact HC0.out); rintro e w11 ⟨rfl, hb⟩; refine ⟨_, rfl, ?_⟩; have n0_ := Aside0.mk (Kd.R_below (by (with_reducible repeat (first | apply Kd.R_alloc | apply Kd.R_drewN | apply Kd.R_drew)); exact HO216.out) hb); have n1_ := Aside0.mk (below_step (by repeat (first | (with_reducible first | exact HB.out | apply below_alloc | apply pw_below_drewN | apply below_drew1) | exact HB.out)) hb); clear HO216; clear HB; have HO216 := n0_; have HB := n1_; clear n0_ n1_; (try clear hb); (try clear hb2); (try clear hk); (try clear hi)) | (go_at_call 13; (with_reducible refine (dec_Digits.calls _ _ l0 t218 _ ?side1 ?side2 A6.out).mono ?_); (case side1 => repeat (first | exact (Kd.C_below HR0.out HB.out) | (with_reducible refine Kd.C_alloc ?_ _) | (with_reducible refine Kd.C_drewN ?_ _) | (with_reducible refine Kd.C_drew ?_))); (case side2 => exact HC0.out); rintro e w12 ⟨rfl, hb⟩; have n0_ := Aside0.mk (Kd.R_below (by (with_reducible repeat (first | apply Kd.R_alloc | apply Kd.R_drewN | apply Kd.R_drew)); exact HO216.out) hb); have n1_ := Aside0.mk (below_step (by repeat (first | (with_reducible first | exact HB.out | apply below_alloc | apply pw_below_drewN | apply below_drew1) | exact HB.out)) hb); clear HO216; clear HB; have HO216 := n0_; have HB := n1_; clear n0_ n1_; (try clear hb); (try clear hb2); (try clear hk); (try clear hi); obtain ⟨Ao13, co13, eo13⟩ := Kd.R_slice HO216.out; subst eo13) | (go_at_call 16; (with_reducible refine (alidadelaw04_same.calls k _ _ t213 _ _ l0 t219 _ ?side1 ?side2 ?side3 ?side4 A9.out).mono ?_); (case side1 => repeat (first | exact (Kd.R_reads' HO216.out).2.2 | (with_reducible refine Kd.C_alloc ?_ _) | (with_reducible refine Kd.C_drewN ?_ _) | (with_reducible refine Kd.C_drew ?_))); (case side2 => exact (Kd.R_reads' HO216.out).2.1); (case side3 => repeat (first | exact (Kd.C_below HR0.out HB.out) | (with_reducible refine Kd.C_alloc ?_ _) | (with_reducible refine Kd.C_drewN ?_ _) | (with_reducible refine Kd.C_drew ?_))); (case side4 => exact HC0.out); rintro e w' ⟨rfl, ⟨nd, rfl⟩⟩))
        go_ret
        exact ⟨by first | rfl | (simp [errW_none, errW_some] <;> rfl) | (simp [*, errW_none, errW_some] <;> rfl), by repeat (first | (with_reducible first | exact HB.out | apply below_alloc | apply pw_below_drewN | apply below_drew1) | exact HB.out)⟩
      · rw [if_neg c8] at H
        have c8b0 : (t214 == 0) = false := beq_eq_false_iff_ne.mpr c8
        have c8b1 : (t214 != 0) = true := bne_iff_ne.mpr c8
        obtain rfl := Option.some.inj H
        go_enter Tryd.func28, Tryd.ntmps28
        go_wp2_with (first | ((with_reducible refine gate_callee (f := 14) rfl ?_); refine goesL_ (some 9) rfl rfl Tryd.func14 (by kernel_rfl) rfl #[.string a1] rfl (by (try simp only [List.map_toArray, List.map_cons, List.map_nil]); first | done | rfl | (simp only [List.length_drop, List.length_take]; rfl)) ?_; (with_reducible refine (dec_Parse.calls a1 t213 t214 _ A3.out).mono ?_); rintro e w14 ⟨v215, rfl, ho0, hb⟩; refine ⟨_, rfl, ?_⟩; have n0_ := Aside0.mk (Kd.R_lower ho0 (below_size (by repeat (first | (with_reducible first | exact HB.out | apply below_alloc | apply pw_below_drewN | apply below_drew1) | exact HB.out)))); have n1_ := Aside0.mk (below_step (by repeat (first | (with_reducible first | exact HB.out | apply below_alloc | apply pw_below_drewN | apply below_drew1) | exact HB.out)) hb); clear HB; have HO216 := n0_; have HB := n1_; clear n0_ n1_; (try clear hb); (try clear hb2); (try clear hk); (try clear hi); (try clear ho0)) | ((with_reducible refine gate_callee (f := 12) rfl ?_); refine goesL_ (some 13) rfl rfl Tryd.func12 (by kernel_rfl) rfl #[.slice A0 l0.length c0] rfl (by (try simp only [List.map_toArray, List.map_cons, List.map_nil]); first | done | rfl | (simp only [List.length_drop, List.length_take]; rfl)) ?_; (with_reducible refine (dec_Show.calls _ _ l0 t217 _ ?side1 ?side2 A4.out).mono ?_); (case side1 => repeat (first | exact (Kd.C_below HR0.out HB.out) | (with_reducible refine Kd.C_alloc ?_ _) | (with_reducible refine Kd.C_drewN ?_ _) | (with_reducible refine Kd.C_drew ?_))); (case side2 => exact HC0.out); rintro e w15 ⟨rfl, hb⟩; refine ⟨_, rfl, ?_⟩; have n0_ := Aside0.mk (Kd.R_below (by (with_reducible repeat (first | apply Kd.R_alloc | apply Kd.R_drewN | apply Kd.R_drew)); exact HO216.out) hb); have n1_ := Aside0.mk (below_step (by repeat (first | (with_reducible first | exact HB.out | apply below_alloc | apply pw_below_drewN | apply below_drew1) | exact HB.out)) hb); clear HO216; clear HB; have HO216 := n0_; have HB := n1_; clear n0_ n1_; (try clear hb); (try clear hb2); (try clear hk); (try clear hi)) | (go_at_call 13; (with_reducible refine (dec_Digits.calls _ _ l0 t218 _ ?side1 ?side2 A6.out).mono ?_); (case side1 => repeat (first | exact (Kd.C_below HR0.out HB.out) | (with_reducible refine Kd.C_alloc ?_ _) | (with_reducible refine Kd.C_drewN ?_ _) | (with_reducible refine Kd.C_drew ?_))); (case side2 => exact HC0.out); rintro e w16 ⟨rfl, hb⟩; have n0_ := Aside0.mk (Kd.R_below (by (with_reducible repeat (first | apply Kd.R_alloc | apply Kd.R_drewN | apply Kd.R_drew)); exact HO216.out) hb); have n1_ := Aside0.mk (below_step (by repeat (first | (with_reducible first | exact HB.out | apply below_alloc | apply pw_below_drewN | apply below_drew1) | exact HB.out)) hb); clear HO216; clear HB; have HO216 := n0_; have HB := n1_; clear n0_ n1_; (try clear hb); (try clear hb2); (try clear hk); (try clear hi)))
        go_ret
        exact ⟨by first | rfl | (simp [errW_none, errW_some] <;> rfl) | (simp [*, errW_none, errW_some] <;> rfl), by repeat (first | (with_reducible first | exact HB.out | apply below_alloc | apply pw_below_drewN | apply below_drew1) | exact HB.out)⟩
    · rw [if_neg c7] at H
      have c7b0 : (t218 == (a1.size : Int)) = false := beq_eq_false_iff_ne.mpr c7
      have c7b1 : (t218 != (a1.size : Int)) = true := bne_iff_ne.mpr c7
      obtain rfl := Option.some.inj H
      go_enter Tryd.func28, Tryd.ntmps28
      go_wp2_with (first | ((with_reducible refine gate_callee (f := 14) rfl ?_); refine goesL_ (some 9) rfl rfl Tryd.func14 (by kernel_rfl) rfl #[.string a1] rfl (by (try simp only [List.map_toArray, List.map_cons, List.map_nil]); first | done | rfl | (simp only [List.length_drop, List.length_take]; rfl)) ?_; (with_reducible refine (dec_Parse.calls a1 t213 t214 _ A3.out).mono ?_); rintro e w17 ⟨v215, rfl, ho0, hb⟩; refine ⟨_, rfl, ?_⟩; have n0_ := Aside0.mk (Kd.R_lower ho0 (below_size (by repeat (first | (with_reducible first | exact HB.out | apply below_alloc | apply pw_below_drewN | apply below_drew1) | exact HB.out)))); have n1_ := Aside0.mk (below_step (by repeat (first | (with_reducible first | exact HB.out | apply below_alloc | apply pw_below_drewN | apply below_drew1) | exact HB.out)) hb); clear HB; have HO216 := n0_; have HB := n1_; clear n0_ n1_; (try clear hb); (try clear hb2); (try clear hk); (try clear hi); (try clear ho0)) | ((with_reducible refine gate_callee (f := 12) rfl ?_); refine goesL_ (some 13) rfl rfl Tryd.func12 (by kernel_rfl) rfl #[.slice A0 l0.length c0] rfl (by (try simp only [List.map_toArray, List.map_cons, List.map_nil]); first | done | rfl | (simp only [List.length_drop, List.length_take]; rfl)) ?_; (with_reducible refine (dec_Show.calls _ _ l0 t217 _ ?side1 ?side2 A4.out).mono ?_); (case side1 => repeat (first | exact (Kd.C_below HR0.out HB.out) | (with_reducible refine Kd.C_alloc ?_ _) | (with_reducible refine Kd.C_drewN ?_ _) | (with_reducible refine Kd.C_drew ?_))); (case side2 => exact HC0.out); rintro e w18 ⟨rfl, hb⟩; refine ⟨_, rfl, ?_⟩; have n0_ := Aside0.mk (Kd.R_below (by (with_reducible repeat (first | apply Kd.R_alloc | apply Kd.R_drewN | apply Kd.R_drew)); exact HO216.out) hb); have n1_ := Aside0.mk (below_step (by repeat (first | (with_reducible first | exact HB.out | apply below_alloc | apply pw_below_drewN | apply below_drew1) | exact HB.out)) hb); clear HO216; clear HB; have HO216 := n0_; have HB := n1_; clear n0_ n1_; (try clear hb); (try clear hb2); (try clear hk); (try clear hi)) | (go_at_call 13; (with_reducible refine (dec_Digits.calls _ _ l0 t218 _ ?side1 ?side2 A6.out).mono ?_); (case side1 => repeat (first | exact (Kd.C_below HR0.out HB.out) | (with_reducible refine Kd.C_alloc ?_ _) | (with_reducible refine Kd.C_drewN ?_ _) | (with_reducible refine Kd.C_drew ?_))); (case side2 => exact HC0.out); rintro e w19 ⟨rfl, hb⟩; have n0_ := Aside0.mk (Kd.R_below (by (with_reducible repeat (first | apply Kd.R_alloc | apply Kd.R_drewN | apply Kd.R_drew)); exact HO216.out) hb); have n1_ := Aside0.mk (below_step (by repeat (first | (with_reducible first | exact HB.out | apply below_alloc | apply pw_below_drewN | apply below_drew1) | exact HB.out)) hb); clear HO216; clear HB; have HO216 := n0_; have HB := n1_; clear n0_ n1_; (try clear hb); (try clear hb2); (try clear hk); (try clear hi)))
      go_ret
      exact ⟨by first | rfl | (simp [errW_none, errW_some] <;> rfl) | (simp [*, errW_none, errW_some] <;> rfl), by repeat (first | (with_reducible first | exact HB.out | apply below_alloc | apply pw_below_drewN | apply below_drew1) | exact HB.out)⟩
  · rw [if_neg c5] at H
    have c5b0 : (t217.toList == a1.toList) = false := beq_eq_false_iff_ne.mpr c5
    have c5b1 : (t217.toList != a1.toList) = true := bne_iff_ne.mpr c5
    obtain rfl := Option.some.inj H
    go_enter Tryd.func28, Tryd.ntmps28
    go_wp2_with (first | ((with_reducible refine gate_callee (f := 14) rfl ?_); refine goesL_ (some 9) rfl rfl Tryd.func14 (by kernel_rfl) rfl #[.string a1] rfl (by (try simp only [List.map_toArray, List.map_cons, List.map_nil]); first | done | rfl | (simp only [List.length_drop, List.length_take]; rfl)) ?_; (with_reducible refine (dec_Parse.calls a1 t213 t214 _ A3.out).mono ?_); rintro e w20 ⟨v215, rfl, ho0, hb⟩; refine ⟨_, rfl, ?_⟩; have n0_ := Aside0.mk (Kd.R_lower ho0 (below_size (by repeat (first | (with_reducible first | exact HB.out | apply below_alloc | apply pw_below_drewN | apply below_drew1) | exact HB.out)))); have n1_ := Aside0.mk (below_step (by repeat (first | (with_reducible first | exact HB.out | apply below_alloc | apply pw_below_drewN | apply below_drew1) | exact HB.out)) hb); clear HB; have HO216 := n0_; have HB := n1_; clear n0_ n1_; (try clear hb); (try clear hb2); (try clear hk); (try clear hi); (try clear ho0)) | ((with_reducible refine gate_callee (f := 12) rfl ?_); refine goesL_ (some 13) rfl rfl Tryd.func12 (by kernel_rfl) rfl #[.slice A0 l0.length c0] rfl (by (try simp only [List.map_toArray, List.map_cons, List.map_nil]); first | done | rfl | (simp only [List.length_drop, List.length_take]; rfl)) ?_; (with_reducible refine (dec_Show.calls _ _ l0 t217 _ ?side1 ?side2 A4.out).mono ?_); (case side1 => repeat (first | exact (Kd.C_below HR0.out HB.out) | (with_reducible refine Kd.C_alloc ?_ _) | (with_reducible refine Kd.C_drewN ?_ _) | (with_reducible refine Kd.C_drew ?_))); (case side2 => exact HC0.out); rintro e w21 ⟨rfl, hb⟩; refine ⟨_, rfl, ?_⟩; have n0_ := Aside0.mk (Kd.R_below (by (with_reducible repeat (first | apply Kd.R_alloc | apply Kd.R_drewN | apply Kd.R_drew)); exact HO216.out) hb); have n1_ := Aside0.mk (below_step (by repeat (first | (with_reducible first | exact HB.out | apply below_alloc | apply pw_below_drewN | apply below_drew1) | exact HB.out)) hb); clear HO216; clear HB; have HO216 := n0_; have HB := n1_; clear n0_ n1_; (try clear hb); (try clear hb2); (try clear hk); (try clear hi)))
    go_ret
    exact ⟨by first | rfl | (simp [errW_none, errW_some] <;> rfl) | (simp [*, errW_none, errW_some] <;> rfl), by repeat (first | (with_reducible first | exact HB.out | apply below_alloc | apply pw_below_drewN | apply below_drew1) | exact HB.out)⟩
theorem bytes_size (l : List UInt8) : (⟨l.toArray⟩ : ByteArray).size = l.length := Nums.size_toList ⟨l.toArray⟩
theorem Ev_add {α : Type} {f g : Nat → Option α} {r : α} (m : Nat) (h : Nums.Ev g r) (e : ∀ k, f (k + m) = g k) : Nums.Ev f r := by
  obtain ⟨n, hn⟩ := h
  refine ⟨n + m, fun k hk => ?_⟩
  obtain ⟨j, rfl⟩ : ∃ j, k = j + m := ⟨k - m, by omega⟩
  rw [e, hn j (by omega)]
theorem law_is_ev (l : List Int) (s : ByteArray) (hr : Nums.rng l = true) (hm : Nums.may l = true) (hs : s.size ≤ 140737488355328) (hv : Nums.deci (Nums.val l) = s.data.toList) :
    Nums.Ev (fun k => alidadelaw04_is.f k l s) true := by
  obtain ⟨v1, v2⟩ := Nums.may_val hr hm
  have hn : Nums.num s.data.toList = Nums.val l := by rw [← hv, Nums.num_deci]
  have hg : Nums.good s.data.toList = true := by rw [← hv]; exact Nums.deci_good _
  have hP := dec_Parse_eq s hs
  rw [if_pos hg, hn, if_pos v2, v1] at hP
  have hS := dec_Show_eq l hr hm
  rw [hv] at hS
  have h := (same_ev l l (by have := (Nums.may_iff.1 hm).1; omega)).bind (g := fun _ t => some t) (Nums.Ev.some _)
  rw [decide_eq_true rfl] at h
  refine h.congr fun k => ?_
  unfold alidadelaw04_is.f dec_Digits.f
  rw [hP, hS]
  simp only [Option.bind_some, Lib.toList_data, if_true]

end Go.Proofs.YtjgloepeogelnaaDoor.Pr

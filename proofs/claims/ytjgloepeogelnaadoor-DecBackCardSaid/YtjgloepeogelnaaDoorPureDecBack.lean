/- What is shown is parsed as it was, and what is parsed, shown, is the text: over numbers and lists alone. No condition beyond the statement's own. -/
import Derived.Test.YtjgloepeogelnaaDoorPrx17
import Derived.OpenShut
namespace Go.Proofs.YtjgloepeogelnaaDoor.Pure
open Go.RowKit Go.Proofs.YtjgloepeogelnaaDoor.Pr Go.Proofs.YtjgloepeogelnaaDoorW.PrintWords Go.Proofs.YtjgloepeogelnaaDoorW.PrintLast
theorem rng_of_wf {l : List Int} (h : ∀ x ∈ l, (Lit.int .u32 x).wf = true) : Nums.rng l = true := by
  unfold Nums.rng
  rw [List.all_eq_true]
  intro x hx
  have := bounds_u32 (h x hx)
  simp
  omega
theorem small_ten (n : Nat) (h : n ≤ 3000) : 10 ^ n < 4294967296 ^ 65536 := by
  have h1 : 10 ^ n < 4294967296 ^ (n + 1) := by
    have h2 : 10 ^ n ≤ 4294967296 ^ n := Nat.pow_le_pow_left (by decide) n
    rw [Nat.pow_succ]
    have h3 : 0 < 4294967296 ^ n := Nat.pow_pos (by decide)
    omega
  exact Nat.lt_of_lt_of_le h1 (Nums.pow_le_gen 4294967296 (n + 1) 65536 (by decide) (by omega))
theorem back_j1 (s : ByteArray) (hs : s.size ≤ 3000) : Nums.Ev (fun k => alidadelaw04_DecBack.j1 k s false) true := by
  refine Nums.Ev.now fun k => ?_
  have hz := Nums.size_toList s
  rw [alidadelaw04_DecBack.j1, if_neg (by decide), dec_Parse_eq s (by omega), Option.bind_some]
  by_cases hg : Nums.good s.data.toList = true
  · have hlt : Nums.num s.data.toList < 4294967296 ^ 65536 := Nat.lt_of_lt_of_le (Nums.num_lt_dig (Nums.good_iff.1 hg).2.2) (Nat.le_of_lt (small_ten _ (by omega)))
    have hm := Nums.may_toL hlt
    rw [if_pos hg, if_pos hlt, dec_Show_eq _ (Nums.rng_toL _) hm, Nums.val_toL, Nums.deci_num _ hg]
    simp only [Option.bind_some, if_true, nat_May_eq, hm]
  · rw [if_neg hg]
    rfl
theorem DecBack : alidadelaw04_DecBack.Pure := by
  intro l0 a1 _ _ hw _
  have hr := rng_of_wf hw
  have hW := works_ev
  refine Nums.Ev.get (r := true) ?_
  have hT : Nums.Ev (fun k => alidadelaw04_DecBack.j0 k l0 a1 true) true := by
    refine Nums.Ev.succ (g := fun k => (alidadelaw04_works.f k).bind fun t => some t) (Nums.Ev.bind (f := fun k => alidadelaw04_works.f k) hW (Nums.Ev.some _)) fun k => ?_
    rw [alidadelaw04_DecBack.j0, if_pos rfl]
  refine Nums.Ev.bind (f := fun k => alidadelaw04_works.f k) hW ?_
  simp only [if_true]
  by_cases h1 : (l0.length : Int) > 300
  · simp only [if_pos h1]
    exact hT
  · simp only [if_neg h1]
    by_cases h2 : (a1.size : Int) > 3000
    · simp only [decide_eq_true h2]
      exact hT
    · simp only [decide_eq_false h2]
      have hj := back_j1 a1 (by omega)
      cases hm : Nums.may l0 with
      | true =>
        obtain ⟨v1, v2⟩ := Nums.may_val hr hm
        have hll := (Nums.may_iff.1 hm).1
        have hP : dec_Parse.f ⟨(Nums.deci (Nums.val l0)).toArray⟩ = some (l0, 0) := by
          have hlen : (Nums.deci (Nums.val l0)).length ≤ 3200 := by
            rw [Nums.deci_len_le (by decide)]
            exact Nat.lt_of_lt_of_le (Nums.val_lt hr) (Nat.le_trans (Nums.pow_pow_le 4294967296 10 10 l0.length (by decide)) (Nums.pow_le_gen 10 (10 * l0.length) 3200 (by decide) (by omega)))
          have hsz := bytes_size (Nums.deci (Nums.val l0))
          have h := dec_Parse_eq ⟨(Nums.deci (Nums.val l0)).toArray⟩ (by omega)
          rw [if_pos (Nums.deci_good _), Nums.num_deci, if_pos v2, v1] at h
          exact h
        refine Nums.Ev.succ (g := fun k => (alidadelaw04_same.f k l0 l0).bind fun t => if t = true then alidadelaw04_DecBack.j1 k a1 false else alidadelaw04_DecBack.j1 k a1 true) ?_ fun k => ?_
        · refine Nums.Ev.bind (f := fun k => alidadelaw04_same.f k l0 l0) ((same_ev l0 l0 (by omega)).cast (decide_eq_true rfl)) ?_
          simp only [if_true]
          exact hj
        · rw [alidadelaw04_DecBack.j0, if_neg (by decide), dec_Show_eq l0 hr hm, Option.bind_some, hP, Option.bind_some, nat_May_eq, hm]
          rfl
      | false =>
        have hP : dec_Parse.f ByteArray.empty = some ([], 4) := dec_Parse_eq ByteArray.empty (by decide)
        refine hj.succ fun k => ?_
        rw [alidadelaw04_DecBack.j0, if_neg (by decide), dec_Show_no l0 hr hm, Option.bind_some, hP, Option.bind_some, nat_May_eq, hm]
        simp only [Option.bind_some, Lib.toList_data]
        rfl

end Go.Proofs.YtjgloepeogelnaaDoor.Pure

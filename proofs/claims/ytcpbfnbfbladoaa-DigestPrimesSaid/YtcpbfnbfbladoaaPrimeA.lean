/-
  The walks of both Primes.
-/
import Derived.Test.YtcpbfnbfbladoaaFacts
import Derived.Test.YtcpbfnbfbladoaaPrimeP
namespace Go.Proofs.Ytcpbfnbfbladoaa
open Go Go.RowKit

set_option maxRecDepth 100000 in
theorem primes_walk (n : Nat) (hn : n ≤ 64) (w0 : World) :
    Calls Try.prog 24 #[.int .i64 (n : Int)] w0 fun e w' => ∃ g : Gs, e = .returned (.slice (adr g.ob) ((primesB 312).take n).length g.cap) ∧ Made w0 w' 3 1 (((primesB 312).take n).map BI) g := by
  refine calls_in Try.func24 Try.ntmps24 rfl rfl ?_
  have hp := Hp.start w0
  refine sc_seq ?_
  refine sc_region ?_
  refine st_v (ov_assign rfl) rfl ?_
  refine st_nil ?_
  refine pn_then ?_
  refine sc_seq ?_
  refine sc_region ?_
  refine st_v (ov_assign rfl) rfl ?_
  refine st_nil ?_
  refine pn_then ?_
  refine sc_seq ?_
  refine sc_seq ?_
  refine sc_region ?_
  refine st_v (ov_assign rfl) rfl ?_
  refine st_nil ?_
  refine pn_then ?_
  refine sc_block ?_
  refine sc_loop2 (α := Nat) (β := Gs) 2 gnil (fun c g => [(0, .int .i64 ((n : Nat) : Int)), (3, .slice (adr g.ob) ((primesB c).length) g.cap), (4, .int .i64 ((c : Nat) : Int))]) (fun c g w => Hp w0 [] [(9, ⟨g.ob, (primesB c).map BI ++ g.sp, 3⟩)] [] w ∧ ((primesB c).map BI ++ g.sp).length = g.cap * 1 ∧ 2 ≤ c ∧ c ≤ 312 ∧ (primesB c).length ≤ n) (fun c g => 312 - c) ?_ ?_ ?_
  · rw [primesB_two]; exact (Sub.cons rfl (Sub.cons rfl (Sub.cons rfl (Sub.nil _))))
  · rw [primesB_two]; exact ⟨hp.nil 9 _, by simp, by omega, by omega, by simp⟩
  intro c g w hw
  obtain ⟨hp, hcap, hc2, hc3, hln⟩ := hw
  have hl3 := primesB_len c
  refine sc_seq ?_
  refine sc_seq ?_
  refine sc_region ?_
  refine st_v (ov_move rfl) rfl ?_
  refine st_v (ov_len rfl Try.underlying37 rfl) rfl ?_
  refine st_v (ov_move rfl) rfl ?_
  refine st_v (ov_lss rfl rfl) rfl ?_
  refine st_nil ?_
  refine pn_then ?_
  refine sc_cond rfl (fun hc => ?_) (fun hc => ?_)
  ·
    have hc := of_decide_eq_true hc
    have hc5 := primes_lt (c := c) hn (by omega)
    refine sc_skip ?_
    refine pn_then ?_
    refine sc_seq ?_
    refine sc_block ?_
    refine sc_seq ?_
    refine sc_region ?_
    refine st_v (ov_assign rfl) rfl ?_
    refine st_nil ?_
    refine pn_then ?_
    refine sc_seq ?_
    refine sc_seq ?_
    refine sc_region ?_
    refine st_v (ov_move rfl) rfl ?_
    refine st_v (ov_len rfl Try.underlying37 rfl) rfl ?_
    refine st_v (ov_move rfl) rfl ?_
    refine st_nil ?_
    refine pn_then ?_
    refine sc_block ?_
    refine sc_loop1 (α := Nat) 0 (fun i => [(0, .int .i64 ((n : Nat) : Int)), (3, .slice (adr g.ob) ((primesB c).length) g.cap), (4, .int .i64 ((c : Nat) : Int)), (5, .bool true), (14, .slice (adr g.ob) ((primesB c).length) g.cap), (15, .int .i64 (((primesB c).length : Nat) : Int)), (16, .int .i64 ((i : Nat) : Int))]) (fun i w => Hp w0 [] [(9, ⟨g.ob, (primesB c).map BI ++ g.sp, 3⟩)] [] w ∧ i ≤ (primesB c).length ∧ ∀ j, j < i → j < (primesB c).length → c % (primesB c).getD j 0 ≠ 0) (fun i => (primesB c).length - i) ?_ ?_ ?_
    · exact (Sub.cons rfl (Sub.cons rfl (Sub.cons rfl (Sub.cons rfl (Sub.cons rfl (Sub.cons rfl (Sub.cons rfl (Sub.nil _))))))))
    · exact ⟨hp, by omega, fun j hj => by omega⟩
    intro i w hw
    obtain ⟨hp, hi, hno⟩ := hw
    refine sc_seq ?_
    refine sc_region ?_
    refine st_v (ov_lss rfl rfl) rfl ?_
    refine st_nil ?_
    refine pn_then ?_
    refine sc_seq ?_
    refine sc_cond rfl (fun hc => ?_) (fun hc => ?_)
    ·
      have hc := of_decide_eq_true hc
      refine sc_skip ?_
      refine pn_then ?_
      refine sc_seq ?_
      refine sc_block ?_
      refine sc_seq ?_
      refine sc_region ?_
      have hge := primesB_ge (c := c) (i := i) (by omega)
      obtain ⟨bb1, oo1, hadr1, hcl1⟩ := (Rd.own (hp.own 9 _ rfl)).pos (by simp; omega)
      refine st_v (ov_indexR hadr1 rfl rfl Try.underlying37 sz3 (by omega)) rfl ?_
      refine st_v (ov_load1 rfl Try.underlying3 rfl (Cells.elem' hcl1 (i) (by omega) 0)) rfl ?_
      refine st_v (ov_assign rfl) rfl ?_
      refine st_nil ?_
      refine pn_then ?_
      refine sc_seq ?_
      refine sc_region ?_
      refine st_v (ov_move rfl) rfl ?_
      refine st_v (ov_move rfl) rfl ?_
      refine st_v (ov_rem_i64 rfl rfl (by omega)) rfl ?_
      refine st_v (ov_eql rfl rfl) rfl ?_
      refine st_nil ?_
      refine pn_then ?_
      refine sc_cond rfl (fun hc => ?_) (fun hc => ?_)
      ·
        have hc := of_decide_eq_true hc
        refine sc_seq ?_
        have hisp := sieve_hit hc2 hc5 (i := i) (by omega) (mod_nat hc)
        refine sc_region ?_
        refine st_v (ov_assign rfl) rfl ?_
        refine st_nil ?_
        refine pn_then ?_
        refine sc_exit ?_
        refine pe_miss rfl ?_
        refine pe_then ?_
        refine pe_then ?_
        refine pe_hit ?_
        refine pn_then ?_
        refine sc_seq ?_
        refine sc_region ?_
        refine st_v (ov_move rfl) rfl ?_
        refine st_nil ?_
        refine pn_then ?_
        refine sc_false rfl ?_
        refine sc_skip ?_
        refine pn_block ?_
        refine pn_then ?_
        refine sc_region ?_
        refine st_v (ov_move rfl) rfl ?_
        refine st_v (ov_add_i64 rfl rfl (by omega)) rfl ?_
        refine st_v (ov_assign rfl) rfl ?_
        refine st_nil ?_
        rw [← primesB_no hc2 hisp]
        refine pn_round2 (c + 1) g ?_ ?_ ?_
        · exact (Sub.cons rfl (Sub.cons rfl (Sub.cons rfl (Sub.nil _))))
        · omega
        ·
          rw [primesB_no hc2 hisp]
          exact ⟨hp.sub (lsub_cons rfl (lsub_nil _)), hcap, by omega, by omega, by omega⟩
      ·
        have hc := of_decide_eq_false hc
        refine sc_skip ?_
        refine pn_block ?_
        refine pn_then ?_
        refine sc_region ?_
        refine st_v (ov_add_i64 rfl rfl (by omega)) rfl ?_
        refine st_v (ov_move rfl) rfl ?_
        refine st_nil ?_
        refine pn_round1 (i + 1) ?_ ?_ ?_
        · exact (Sub.cons rfl (Sub.cons rfl (Sub.cons rfl (Sub.cons rfl (Sub.cons rfl (Sub.cons rfl (Sub.cons rfl (Sub.nil _))))))))
        · omega
        ·
          refine ⟨hp, by omega, fun j hj hjl => ?_⟩
          rcases Nat.lt_or_ge j i with h | h
          · exact hno j h hjl
          · obtain rfl : j = i := by omega
            exact fun e => hc (by omega)
    ·
      have hc := of_decide_eq_false hc
      have hisp := sieve_none hc2 hc5 (i := i) (by omega) hno
      refine sc_exit ?_
      refine pe_then ?_
      refine pe_then ?_
      refine pe_hit ?_
      refine pn_then ?_
      refine sc_seq ?_
      refine sc_region ?_
      refine st_v (ov_move rfl) rfl ?_
      refine st_nil ?_
      refine pn_then ?_
      refine sc_true rfl ?_
      refine sc_region ?_
      refine st_v (ov_move rfl) rfl ?_
      refine st_v (ov_move rfl) rfl ?_
      refine st_app1 9 28 g  hp rfl rfl rfl rfl rfl (by simp) rfl rfl Try.underlying37 in3 (by decide) rfl (by simp) hcap rfl rfl (by simp [Value.oneCell']) (by omega) (fun g2 b28 w hp hcap hf9 => ?_)
      refine st_v (ov_assign rfl) rfl ?_
      refine st_nil ?_
      refine pn_block ?_
      refine pn_then ?_
      refine sc_region ?_
      refine st_v (ov_move rfl) rfl ?_
      refine st_v (ov_add_i64 rfl rfl (by omega)) rfl ?_
      refine st_v (ov_assign rfl) rfl ?_
      refine st_nil ?_
      have el : (primesB c).length + 1 = (primesB (c + 1)).length := by rw [primesB_yes hc2 hisp]; simp
      rw [el]
      refine pn_round2 (c + 1) g2 ?_ ?_ ?_
      · exact (Sub.cons rfl (Sub.cons rfl (Sub.cons rfl (Sub.nil _))))
      · omega
      ·
        rw [primesB_yes hc2 hisp, List.map_append]
        exact ⟨hp.sub (lsub_cons rfl (lsub_nil _)), hcap, by omega, by omega, by rw [List.length_append]; simp; omega⟩
  ·
    have hc := of_decide_eq_false hc
    refine sc_exit ?_
    refine pe_then ?_
    refine pe_then ?_
    refine pe_hit ?_
    refine pn_then ?_
    refine sc_seq ?_
    refine sc_region ?_
    refine st_v (ov_move rfl) rfl ?_
    refine st_v (ov_assign rfl) rfl ?_
    refine st_nil ?_
    refine pn_then ?_
    refine sc_ret ?_
    refine pr_one rfl rfl ?_
    have hl : (primesB c).length = n := by omega
    rw [← primes_end hc3 hl]
    exact ⟨g, rfl, hp.made (t := 9) rfl hcap⟩

set_option maxRecDepth 100000 in
theorem prime_walk (n : Nat) (hn : 2 ≤ n ∧ n < 1000) (w0 : World) :
    Calls Try.prog 25 #[.int .i64 (n : Int)] w0 fun e w' => e = .returned (.bool (isP n)) ∧ Chg [] w0 w' := by
  refine calls_in Try.func25 Try.ntmps25 rfl rfl ?_
  have hp := Hp.start w0
  refine sc_seq ?_
  refine sc_region ?_
  refine st_v (ov_assign rfl) rfl ?_
  refine st_nil ?_
  refine pn_then ?_
  refine sc_seq ?_
  refine sc_seq ?_
  refine sc_region ?_
  refine st_v (ov_assign rfl) rfl ?_
  refine st_nil ?_
  refine pn_then ?_
  refine sc_block ?_
  refine sc_loop1 (α := Nat) 2 (fun d => [(0, .int .i64 ((n : Nat) : Int)), (3, .int .i64 ((d : Nat) : Int))]) (fun d w => Hp w0 [] [] [] w ∧ 2 ≤ d ∧ d ≤ n ∧ ∀ k, 2 ≤ k → k < d → n % k ≠ 0) (fun d => n - d) ?_ ?_ ?_
  · exact (Sub.cons rfl (Sub.cons rfl (Sub.nil _)))
  · exact ⟨hp, by omega, by omega, fun k hk => by omega⟩
  intro d w hw
  obtain ⟨hp, hd, hdn, hno⟩ := hw
  refine sc_seq ?_
  refine sc_seq ?_
  refine sc_region ?_
  refine st_v (ov_move rfl) rfl ?_
  refine st_v (ov_move rfl) rfl ?_
  refine st_v (ov_lss rfl rfl) rfl ?_
  refine st_nil ?_
  refine pn_then ?_
  refine sc_cond rfl (fun hc => ?_) (fun hc => ?_)
  ·
    have hc := of_decide_eq_true hc
    refine sc_skip ?_
    refine pn_then ?_
    refine sc_seq ?_
    refine sc_block ?_
    refine sc_seq ?_
    refine sc_region ?_
    refine st_v (ov_move rfl) rfl ?_
    refine st_v (ov_move rfl) rfl ?_
    refine st_v (ov_rem_i64 rfl rfl (by omega)) rfl ?_
    refine st_v (ov_eql rfl rfl) rfl ?_
    refine st_nil ?_
    refine pn_then ?_
    refine sc_cond rfl (fun hc => ?_) (fun hc => ?_)
    ·
      have hc := of_decide_eq_true hc
      refine sc_seq ?_
      refine sc_region ?_
      refine st_v (ov_assign rfl) rfl ?_
      refine st_nil ?_
      refine pn_then ?_
      refine sc_ret ?_
      refine pr_block ?_
      refine pr_then ?_
      refine pr_then ?_
      refine pr_block ?_
      refine pr_then ?_
      refine pr_one rfl rfl ?_
      exact ⟨by rw [isP_hit hd (by omega) (mod_nat hc)], hp.chg⟩
    ·
      have hc := of_decide_eq_false hc
      refine sc_skip ?_
      refine pn_block ?_
      refine pn_then ?_
      refine sc_region ?_
      refine st_v (ov_move rfl) rfl ?_
      refine st_v (ov_add_i64 rfl rfl (by omega)) rfl ?_
      refine st_v (ov_assign rfl) rfl ?_
      refine st_nil ?_
      refine pn_round1 (d + 1) ?_ ?_ ?_
      · exact (Sub.cons rfl (Sub.cons rfl (Sub.nil _)))
      · omega
      ·
        refine ⟨hp, by omega, by omega, fun k hk hkd => ?_⟩
        rcases Nat.lt_or_ge k d with h | h
        · exact hno k hk h
        · obtain rfl : k = d := by omega
          exact fun e => hc (by omega)
  ·
    have hc := of_decide_eq_false hc
    refine sc_exit ?_
    refine pe_then ?_
    refine pe_then ?_
    refine pe_hit ?_
    refine pn_then ?_
    refine sc_seq ?_
    refine sc_region ?_
    refine st_v (ov_assign rfl) rfl ?_
    refine st_nil ?_
    refine pn_then ?_
    refine sc_ret ?_
    refine pr_one rfl rfl ?_
    exact ⟨by rw [isP_none (by omega) hno], hp.chg⟩

set_option maxRecDepth 100000 in
theorem dprimes_walk (n : Int) (w0 : World) :
    Calls Try.prog 15 #[.int .i64 n] w0 fun e w' => ∃ g : Gs, e = .returned (.tuple #[.slice (adr g.ob) (primeL n).length g.cap, .int .i64 (primeE n)]) ∧ Made w0 w' 3 1 ((primeL n).map BI) g := by
  refine calls_in Try.func15 Try.ntmps15 rfl rfl ?_
  have hp := Hp.start w0
  refine sc_seq ?_
  refine sc_region ?_
  refine st_v (ov_assign rfl) rfl ?_
  refine st_v (ov_assign rfl) rfl ?_
  refine st_nil ?_
  refine pn_then ?_
  refine sc_seq ?_
  refine sc_seq ?_
  refine sc_region ?_
  refine st_v (ov_move rfl) rfl ?_
  refine st_v (ov_lss rfl rfl) rfl ?_
  refine st_v (ov_move rfl) rfl ?_
  refine st_split (j := 6) rfl (fun hb => ?_) (fun hb => ?_)
  ·
    have hb := of_decide_eq_true hb
    refine st_off (j := 2) rfl rfl rfl rfl ?_
    refine st_off (j := 2) rfl rfl rfl rfl ?_
    refine st_v (ov_pick_t rfl rfl) rfl ?_
    refine st_nil ?_
    refine pn_then ?_
    refine sc_true rfl ?_
    refine sc_seq ?_
    refine sc_region ?_
    refine st_v (ov_assign rfl) rfl ?_
    refine st_v (ov_assign rfl) rfl ?_
    refine st_nil ?_
    refine pn_then ?_
    refine sc_ret ?_
    refine pr_then ?_
    refine pr_two rfl rfl rfl ?_
    obtain ⟨e1, e2⟩ := bad_p n (by omega)
    rw [e1, e2]
    exact ⟨gnil, rfl, hp.made_nil _ _⟩
  ·
    have hb := of_decide_eq_false hb
    refine st_on (j := 2) rfl rfl ?_
    refine st_v (ov_move rfl) rfl ?_
    refine st_on (j := 2) rfl rfl ?_
    refine st_v (ov_gtr rfl rfl) rfl ?_
    refine st_v (ov_pick_f rfl rfl) rfl ?_
    refine st_nil ?_
    refine pn_then ?_
    refine sc_cond rfl (fun hc => ?_) (fun hc => ?_)
    ·
      have hc := of_decide_eq_true hc
      refine sc_seq ?_
      refine sc_region ?_
      refine st_v (ov_assign rfl) rfl ?_
      refine st_v (ov_assign rfl) rfl ?_
      refine st_nil ?_
      refine pn_then ?_
      refine sc_ret ?_
      refine pr_then ?_
      refine pr_two rfl rfl rfl ?_
      obtain ⟨e1, e2⟩ := bad_p n (by omega)
      rw [e1, e2]
      exact ⟨gnil, rfl, hp.made_nil _ _⟩
    ·
      have hc := of_decide_eq_false hc
      obtain ⟨m, rfl⟩ : ∃ m : Nat, n = (m : Int) := ⟨n.toNat, by omega⟩
      obtain ⟨e1, e2⟩ := good_p m (by omega)
      refine sc_skip ?_
      refine pn_then ?_
      refine sc_seq ?_
      refine sc_region ?_
      refine st_v (ov_move rfl) rfl ?_
      refine st_call pl24 rfl rfl rfl (primes_walk m (by omega) _) ?_
      rintro _ w ⟨g, rfl, hmade⟩
      refine ⟨_, rfl, ?_⟩
      replace hp := hp.call_made 7 hmade
      refine st_v (ov_assign rfl) rfl ?_
      refine st_v (ov_assign rfl) rfl ?_
      refine st_nil ?_
      refine pn_then ?_
      refine sc_ret ?_
      refine pr_two rfl rfl rfl ?_
      rw [e1, e2]
      exact ⟨g, rfl, hp.made (t := 7) rfl hmade.2.2.2⟩

set_option maxRecDepth 100000 in
theorem rprimes_walk (n : Int) (w0 : World) :
    Calls Try.prog 16 #[.int .i64 n] w0 fun e w' => ∃ g : Gs, e = .returned (.tuple #[.slice (adr g.ob) (primeL n).length g.cap, .int .i64 (primeE n)]) ∧ Made w0 w' 3 1 ((primeL n).map BI) g := by
  refine calls_in Try.func16 Try.ntmps16 rfl rfl ?_
  have hp := Hp.start w0
  refine sc_seq ?_
  refine sc_region ?_
  refine st_v (ov_assign rfl) rfl ?_
  refine st_v (ov_assign rfl) rfl ?_
  refine st_nil ?_
  refine pn_then ?_
  refine sc_seq ?_
  refine sc_seq ?_
  refine sc_region ?_
  refine st_v (ov_move rfl) rfl ?_
  refine st_v (ov_lss rfl rfl) rfl ?_
  refine st_v (ov_move rfl) rfl ?_
  refine st_split (j := 9) rfl (fun hb => ?_) (fun hb => ?_)
  ·
    have hb := of_decide_eq_true hb
    refine st_off (j := 2) rfl rfl rfl rfl ?_
    refine st_off (j := 2) rfl rfl rfl rfl ?_
    refine st_v (ov_pick_t rfl rfl) rfl ?_
    refine st_nil ?_
    refine pn_then ?_
    refine sc_true rfl ?_
    refine sc_seq ?_
    refine sc_region ?_
    refine st_v (ov_assign rfl) rfl ?_
    refine st_v (ov_assign rfl) rfl ?_
    refine st_nil ?_
    refine pn_then ?_
    refine sc_ret ?_
    refine pr_then ?_
    refine pr_two rfl rfl rfl ?_
    obtain ⟨e1, e2⟩ := bad_p n (by omega)
    rw [e1, e2]
    exact ⟨gnil, rfl, hp.made_nil _ _⟩
  ·
    have hb := of_decide_eq_false hb
    refine st_on (j := 2) rfl rfl ?_
    refine st_v (ov_move rfl) rfl ?_
    refine st_on (j := 2) rfl rfl ?_
    refine st_v (ov_gtr rfl rfl) rfl ?_
    refine st_v (ov_pick_f rfl rfl) rfl ?_
    refine st_nil ?_
    refine pn_then ?_
    refine sc_cond rfl (fun hc => ?_) (fun hc => ?_)
    ·
      have hc := of_decide_eq_true hc
      refine sc_seq ?_
      refine sc_region ?_
      refine st_v (ov_assign rfl) rfl ?_
      refine st_v (ov_assign rfl) rfl ?_
      refine st_nil ?_
      refine pn_then ?_
      refine sc_ret ?_
      refine pr_then ?_
      refine pr_two rfl rfl rfl ?_
      obtain ⟨e1, e2⟩ := bad_p n (by omega)
      rw [e1, e2]
      exact ⟨gnil, rfl, hp.made_nil _ _⟩
    ·
      have hc := of_decide_eq_false hc
      obtain ⟨m, rfl⟩ : ∃ m : Nat, n = (m : Int) := ⟨n.toNat, by omega⟩
      obtain ⟨e1, e2⟩ := good_p m (by omega)
      have hn : m ≤ 64 := by omega
      refine sc_skip ?_
      refine pn_then ?_
      refine sc_seq ?_
      refine sc_region ?_
      refine st_v (ov_assign rfl) rfl ?_
      refine st_nil ?_
      refine pn_then ?_
      refine sc_seq ?_
      refine sc_seq ?_
      refine sc_region ?_
      refine st_v (ov_assign rfl) rfl ?_
      refine st_nil ?_
      refine pn_then ?_
      refine sc_block ?_
      refine sc_loop2 (α := Nat) (β := Gs) 2 gnil (fun c g => [(0, .int .i64 ((m : Nat) : Int)), (4, .slice (adr g.ob) ((primesB c).length) g.cap), (5, .int .i64 ((c : Nat) : Int))]) (fun c g w => Hp w0 [] [(9, ⟨g.ob, (primesB c).map BI ++ g.sp, 3⟩)] [] w ∧ ((primesB c).map BI ++ g.sp).length = g.cap * 1 ∧ 2 ≤ c ∧ c ≤ 312 ∧ (primesB c).length ≤ m) (fun c g => 312 - c) ?_ ?_ ?_
      · rw [primesB_two]; exact (Sub.cons rfl (Sub.cons rfl (Sub.cons rfl (Sub.nil _))))
      · rw [primesB_two]; exact ⟨hp.nil 9 _, by simp, by omega, by omega, by simp⟩
      intro c g w hw
      obtain ⟨hp, hcap, hc2, hc3, hln⟩ := hw
      have hl3 := primesB_len c
      refine sc_seq ?_
      refine sc_seq ?_
      refine sc_region ?_
      refine st_v (ov_move rfl) rfl ?_
      refine st_v (ov_len rfl Try.underlying37 rfl) rfl ?_
      refine st_v (ov_move rfl) rfl ?_
      refine st_v (ov_lss rfl rfl) rfl ?_
      refine st_nil ?_
      refine pn_then ?_
      refine sc_cond rfl (fun hc => ?_) (fun hc => ?_)
      ·
        have hc := of_decide_eq_true hc
        have hc5 := primes_lt (c := c) hn (by omega)
        refine sc_skip ?_
        refine pn_then ?_
        refine sc_seq ?_
        refine sc_block ?_
        refine sc_seq ?_
        refine sc_region ?_
        refine st_v (ov_move rfl) rfl ?_
        refine st_call pl25 rfl rfl rfl (prime_walk c (by omega) _) ?_
        rintro _ w ⟨rfl, hch⟩
        refine ⟨_, rfl, ?_⟩
        replace hp := hp.call hch
        refine st_v (ov_assign rfl) rfl ?_
        refine st_nil ?_
        refine pn_then ?_
        refine sc_seq ?_
        refine sc_region ?_
        refine st_v (ov_move rfl) rfl ?_
        refine st_nil ?_
        refine pn_then ?_
        refine sc_cond rfl (fun hc => ?_) (fun hc => ?_)
        ·
          have hisp : isP c = true := hc
          refine sc_region ?_
          refine st_v (ov_move rfl) rfl ?_
          refine st_v (ov_move rfl) rfl ?_
          refine st_app1 9 24 g  hp rfl rfl rfl rfl rfl (by simp) rfl rfl Try.underlying37 in3 (by decide) rfl (by simp) hcap rfl rfl (by simp [Value.oneCell']) (by omega) (fun g2 b24 w hp hcap hf9 => ?_)
          refine st_v (ov_assign rfl) rfl ?_
          refine st_nil ?_
          refine pn_block ?_
          refine pn_then ?_
          refine sc_region ?_
          refine st_v (ov_move rfl) rfl ?_
          refine st_v (ov_add_i64 rfl rfl (by omega)) rfl ?_
          refine st_v (ov_assign rfl) rfl ?_
          refine st_nil ?_
          have el : (primesB c).length + 1 = (primesB (c + 1)).length := by rw [primesB_yes hc2 hisp]; simp
          rw [el]
          refine pn_round2 (c + 1) g2 ?_ ?_ ?_
          · exact (Sub.cons rfl (Sub.cons rfl (Sub.cons rfl (Sub.nil _))))
          · omega
          ·
            rw [primesB_yes hc2 hisp, List.map_append]
            exact ⟨hp.sub (lsub_cons rfl (lsub_nil _)), hcap, by omega, by omega, by rw [List.length_append]; simp; omega⟩
        ·
          have hisp : isP c = false := hc
          refine sc_skip ?_
          refine pn_block ?_
          refine pn_then ?_
          refine sc_region ?_
          refine st_v (ov_move rfl) rfl ?_
          refine st_v (ov_add_i64 rfl rfl (by omega)) rfl ?_
          refine st_v (ov_assign rfl) rfl ?_
          refine st_nil ?_
          rw [← primesB_no hc2 hisp]
          refine pn_round2 (c + 1) g ?_ ?_ ?_
          · exact (Sub.cons rfl (Sub.cons rfl (Sub.cons rfl (Sub.nil _))))
          · omega
          ·
            rw [primesB_no hc2 hisp]
            exact ⟨hp.sub (lsub_cons rfl (lsub_nil _)), hcap, by omega, by omega, by omega⟩
      ·
        have hc := of_decide_eq_false hc
        refine sc_exit ?_
        refine pe_then ?_
        refine pe_then ?_
        refine pe_hit ?_
        refine pn_then ?_
        refine sc_seq ?_
        refine sc_region ?_
        refine st_v (ov_move rfl) rfl ?_
        refine st_v (ov_assign rfl) rfl ?_
        refine st_v (ov_assign rfl) rfl ?_
        refine st_nil ?_
        refine pn_then ?_
        refine sc_ret ?_
        refine pr_two rfl rfl rfl ?_
        have hl : (primesB c).length = m := by omega
        rw [e1, e2, ← primes_end hc3 hl]
        exact ⟨g, rfl, hp.made (t := 9) rfl hcap⟩

set_option maxRecDepth 100000 in
theorem law_primes (n : Int) (w0 : World) :
    Calls Try.prog 6 #[.int .i64 n] w0 fun e w' => e = .returned (.bool true) ∧ Chg [] w0 w' := by
  refine calls_in Try.func6 Try.ntmps6 rfl rfl ?_
  have hp := Hp.start w0
  have hlen := primeL_len n
  refine sc_seq ?_
  refine sc_region ?_
  refine st_v (ov_assign rfl) rfl ?_
  refine st_nil ?_
  refine pn_then ?_
  refine sc_seq ?_
  refine sc_region ?_
  refine st_v (ov_move rfl) rfl ?_
  refine st_call pl15 rfl rfl rfl (dprimes_walk n _) ?_
  rintro _ w ⟨g7, rfl, hmade⟩
  refine ⟨_, rfl, ?_⟩
  replace hp := hp.call_made 7 hmade
  clear hmade
  refine st_v (ov_move rfl) rfl ?_
  refine st_v (ov_extract rfl rfl) rfl ?_
  refine st_v (ov_extract rfl rfl) rfl ?_
  refine st_v (ov_assign rfl) rfl ?_
  refine st_v (ov_assign rfl) rfl ?_
  refine st_nil ?_
  refine pn_then ?_
  refine sc_seq ?_
  refine sc_region ?_
  refine st_v (ov_move rfl) rfl ?_
  refine st_call pl16 rfl rfl rfl (rprimes_walk n _) ?_
  rintro _ w ⟨g8, rfl, hmade⟩
  refine ⟨_, rfl, ?_⟩
  replace hp := hp.call_made 8 hmade
  clear hmade
  refine st_v (ov_move rfl) rfl ?_
  refine st_v (ov_extract rfl rfl) rfl ?_
  refine st_v (ov_extract rfl rfl) rfl ?_
  refine st_v (ov_assign rfl) rfl ?_
  refine st_v (ov_assign rfl) rfl ?_
  refine st_nil ?_
  refine pn_then ?_
  refine sc_seq ?_
  refine sc_seq ?_
  refine sc_region ?_
  refine st_v (ov_move rfl) rfl ?_
  refine st_v (ov_move rfl) rfl ?_
  refine st_v (ov_neq rfl rfl) rfl ?_
  refine st_v (ov_move rfl) rfl ?_
  refine st_split (j := 21) rfl (fun hb => ?_) (fun hb => ?_)
  ·
    have hb := of_decide_eq_true hb
    refine st_off (j := 3) rfl rfl rfl rfl ?_
    refine st_off (j := 3) rfl rfl rfl rfl ?_
    refine st_off (j := 3) rfl rfl rfl rfl ?_
    refine st_off (j := 3) rfl rfl rfl rfl ?_
    refine st_off (j := 3) rfl rfl rfl rfl ?_
    refine st_v (ov_pick_t rfl rfl) rfl ?_
    refine st_nil ?_
    refine pn_then ?_
    refine sc_true rfl ?_
    refine sc_seq ?_
    refine sc_region ?_
    refine st_v (ov_assign rfl) rfl ?_
    refine st_nil ?_
    refine pn_then ?_
    refine sc_ret ?_
    refine pr_then ?_
    refine pr_one rfl rfl ?_
    exact absurd rfl hb
  ·
    have hb := of_decide_eq_false hb
    refine st_on (j := 3) rfl rfl ?_
    refine st_v (ov_move rfl) rfl ?_
    refine st_on (j := 3) rfl rfl ?_
    refine st_v (ov_len rfl Try.underlying37 rfl) rfl ?_
    refine st_on (j := 3) rfl rfl ?_
    refine st_v (ov_move rfl) rfl ?_
    refine st_on (j := 3) rfl rfl ?_
    refine st_v (ov_len rfl Try.underlying37 rfl) rfl ?_
    refine st_on (j := 3) rfl rfl ?_
    refine st_v (ov_neq rfl rfl) rfl ?_
    refine st_v (ov_pick_f rfl rfl) rfl ?_
    refine st_nil ?_
    refine pn_then ?_
    refine sc_cond rfl (fun hc => ?_) (fun hc => ?_)
    · exact absurd hc (by simp)
    skip
    refine sc_skip ?_
    refine pn_then ?_
    refine sc_seq ?_
    refine sc_seq ?_
    refine sc_region ?_
    refine st_v (ov_assign rfl) rfl ?_
    refine st_nil ?_
    refine pn_then ?_
    refine sc_block ?_
    refine sc_loop1 (α := Nat) 0 (fun i => [(3, .slice (adr g7.ob) ((primeL n).length) g7.cap), (5, .slice (adr g8.ob) ((primeL n).length) g8.cap), (7, .int .i64 ((i : Nat) : Int))]) (fun i w => Hp w0 [] [(8, ⟨g8.ob, (primeL n).map BI ++ g8.sp, 3⟩), (7, ⟨g7.ob, (primeL n).map BI ++ g7.sp, 3⟩)] [] w ∧ i ≤ (primeL n).length) (fun i => (primeL n).length - i) ?_ ?_ ?_
    · exact (Sub.cons rfl (Sub.cons rfl (Sub.cons rfl (Sub.nil _))))
    · exact ⟨hp, by omega⟩
    intro i w hw
    obtain ⟨hp, hi⟩ := hw
    refine sc_seq ?_
    refine sc_seq ?_
    refine sc_region ?_
    refine st_v (ov_move rfl) rfl ?_
    refine st_v (ov_move rfl) rfl ?_
    refine st_v (ov_len rfl Try.underlying37 rfl) rfl ?_
    refine st_v (ov_lss rfl rfl) rfl ?_
    refine st_nil ?_
    refine pn_then ?_
    refine sc_cond rfl (fun hc => ?_) (fun hc => ?_)
    ·
      have hc := of_decide_eq_true hc
      refine sc_skip ?_
      refine pn_then ?_
      refine sc_seq ?_
      refine sc_block ?_
      refine sc_seq ?_
      refine sc_draws (by kernel_rfl) (by kernel_rfl) ?_
      replace hp := hp.drew
      refine ss_v (ov_move rfl) rfl ?_
      refine ss_v (ov_move rfl) rfl ?_
      obtain ⟨bb1, oo1, hadr1, hcl1⟩ := (Rd.own (hp.own 7 _ rfl)).pos (by simp; omega)
      refine ss_v (ov_indexR hadr1 rfl rfl Try.underlying37 sz3 (by omega)) rfl ?_
      refine ss_v (ov_load1 rfl Try.underlying3 rfl (Cells.elem' hcl1 (i) (by omega) 0)) rfl ?_
      refine ss_v (ov_move rfl) rfl ?_
      refine ss_v (ov_move rfl) rfl ?_
      obtain ⟨bb2, oo2, hadr2, hcl2⟩ := (Rd.own (hp.own 8 _ rfl)).pos (by simp; omega)
      refine ss_v (ov_indexR hadr2 rfl rfl Try.underlying37 sz3 (by omega)) rfl ?_
      refine ss_v (ov_load1 rfl Try.underlying3 rfl (Cells.elem' hcl2 (i) (by omega) 0)) rfl ?_
      refine ss_v (ov_neq rfl rfl) rfl ?_
      refine ss_end ?_
      refine pn_then ?_
      refine sc_cond rfl (fun hc => ?_) (fun hc => ?_)
      ·
        have hc := of_decide_eq_true hc
        refine sc_seq ?_
        refine sc_region ?_
        refine st_v (ov_assign rfl) rfl ?_
        refine st_nil ?_
        refine pn_then ?_
        refine sc_ret ?_
        refine pr_block ?_
        refine pr_then ?_
        refine pr_then ?_
        refine pr_block ?_
        refine pr_then ?_
        refine pr_one rfl rfl ?_
        exact absurd rfl hc
      ·
        have hc := of_decide_eq_false hc
        refine sc_skip ?_
        refine pn_block ?_
        refine pn_then ?_
        refine sc_region ?_
        refine st_v (ov_move rfl) rfl ?_
        refine st_v (ov_add_i64 rfl rfl (by omega)) rfl ?_
        refine st_v (ov_assign rfl) rfl ?_
        refine st_nil ?_
        refine pn_round1 (i + 1) ?_ ?_ ?_
        · exact (Sub.cons rfl (Sub.cons rfl (Sub.cons rfl (Sub.nil _))))
        · omega
        ·
          exact ⟨hp, by omega⟩
    ·
      have hc := of_decide_eq_false hc
      refine sc_exit ?_
      refine pe_then ?_
      refine pe_then ?_
      refine pe_hit ?_
      refine pn_then ?_
      refine sc_seq ?_
      refine sc_region ?_
      refine st_v (ov_assign rfl) rfl ?_
      refine st_nil ?_
      refine pn_then ?_
      refine sc_ret ?_
      refine pr_one rfl rfl ?_
      exact ⟨rfl, hp.chg⟩

end Go.Proofs.Ytcpbfnbfbladoaa

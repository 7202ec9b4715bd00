/-
  The walks of both Pads.
-/
import Derived.Test.YtjdolgfhcjnniaaDoorFacts
import Derived.Test.YtjdolgfhcjnniaaDoorPadP
namespace Go.Proofs.YtjdolgfhcjnniaaDoor
open Go Go.RowKit

set_option maxRecDepth 100000 in
theorem pad_walk (n : Int) (w0 : World) (hlo : -9223372036854775808 ≤ n) :
    Calls Tryd.prog 102 #[.int .i64 n] w0 fun e w' => if n < 0 ∨ 2305843009213693951 < n then e = .returned (.tuple #[.slice none 0 0, .int .i64 11]) ∧ Chg [] w0 w'
      else ∃ g : Gs, e = .returned (.tuple #[.slice (adr g.ob) (padOf n.toNat).length g.cap, .int .i64 0]) ∧ Made w0 w' 5 1 ((padOf n.toNat).map B8) g := by
  refine calls_in Tryd.func102 Tryd.ntmps102 rfl rfl ?_
  have hp := Hp.start w0
  refine sc_seq ?_
  refine sc_region ?_
  refine st_v (ov_assign rfl) rfl ?_
  refine st_v (ov_assign rfl) rfl ?_
  refine st_nil ?_
  refine pn_then ?_
  refine sc_seq ?_
  refine sc_seq ?_
  refine sc_region ?_
  refine st_v (ov_move rfl) rfl ?_
  refine st_v (ov_lss rfl rfl) rfl ?_
  refine st_v (ov_move rfl) rfl ?_
  refine st_split (j := 10) rfl (fun hb => ?_) (fun hb => ?_)
  ·
    have hb := of_decide_eq_true hb
    refine st_off (j := 2) rfl rfl rfl rfl ?_
    refine st_off (j := 2) rfl rfl rfl rfl ?_
    refine st_v (ov_pick_t rfl rfl) rfl ?_
    refine st_nil ?_
    refine pn_then ?_
    refine sc_true rfl ?_
    refine sc_seq ?_
    refine sc_region ?_
    refine st_v (ov_assign rfl) rfl ?_
    refine st_v (ov_assign rfl) rfl ?_
    refine st_nil ?_
    refine pn_then ?_
    refine sc_ret ?_
    refine pr_then ?_
    refine pr_two rfl rfl rfl ?_
    rw [if_pos (by omega)]
    exact ⟨rfl, hp.chg⟩
  ·
    have hb := of_decide_eq_false hb
    refine st_on (j := 2) rfl rfl ?_
    refine st_v (ov_move rfl) rfl ?_
    refine st_on (j := 2) rfl rfl ?_
    refine st_v (ov_gtr rfl rfl) rfl ?_
    refine st_v (ov_pick_f rfl rfl) rfl ?_
    refine st_nil ?_
    refine pn_then ?_
    refine sc_cond rfl (fun hc => ?_) (fun hc => ?_)
    ·
      have hc := of_decide_eq_true hc
      refine sc_seq ?_
      refine sc_region ?_
      refine st_v (ov_assign rfl) rfl ?_
      refine st_v (ov_assign rfl) rfl ?_
      refine st_nil ?_
      refine pn_then ?_
      refine sc_ret ?_
      refine pr_then ?_
      refine pr_two rfl rfl rfl ?_
      rw [if_pos (by omega)]
      exact ⟨rfl, hp.chg⟩
    ·
      have hc := of_decide_eq_false hc
      obtain ⟨m, rfl⟩ : ∃ m : Nat, n = (m : Int) := ⟨n.toNat, by omega⟩
      have hzl := zerosOf_lt m
      have hm : m ≤ 2305843009213693951 := by omega
      refine sc_skip ?_
      refine pn_then ?_
      refine sc_seq ?_
      refine sc_region ?_
      refine st_v (ov_move rfl) rfl ?_
      refine st_v (ov_rem_i64 rfl rfl (by omega)) rfl ?_
      refine st_v (ov_add_i64 rfl rfl (by omega)) rfl ?_
      refine st_v (ov_rem_i64 rfl rfl (by omega)) rfl ?_
      refine st_v (ov_sub_i64 rfl rfl (by omega)) rfl ?_
      refine st_v (ov_rem_i64 rfl rfl (by omega)) rfl ?_
      have ez : (64 - (((m : Nat) : Int) % 64 + 9) % 64) % 64 = ((zerosOf m : Nat) : Int) := by unfold zerosOf; omega
      simp only [ez]
      refine st_v (ov_assign rfl) rfl ?_
      refine st_nil ?_
      refine pn_then ?_
      refine sc_seq ?_
      refine sc_region ?_
      refine st_v (ov_move rfl) rfl ?_
      refine st_v (ov_add_i64 rfl rfl (by omega)) rfl ?_
      refine st_v (ov_add_i64 rfl rfl (by omega)) rfl ?_
      refine st_make1 9 (l := 1 + zerosOf m + 8) (c := 1 + zerosOf m + 8) hp rfl rfl rfl Tryd.underlying24 in5 ⟨by omega, by omega, by omega, by omega, by omega⟩ rfl (fun b9 w hp => ?_)
      refine st_v (ov_assign rfl) rfl ?_
      refine st_nil ?_
      refine pn_then ?_
      refine sc_seq ?_
      refine sc_region ?_
      refine st_v (ov_move rfl) rfl ?_
      refine st_v (ov_indexS (bl := b9) (o := 0) rfl rfl Tryd.underlying24 sz5 (by omega)) rfl ?_
      have e9 : (List.replicate (1 + zerosOf m + 8) (0 : UInt8)).map B8 = List.replicate (1 + zerosOf m + 8) (Value.int .u8 0) := by rw [List.map_replicate]; rfl
      rw [← e9] at hp
      refine st_storeE 9 (u := 128) hp rfl rfl rfl 0 (by simp) rfl sz5 (fun w hp => ?_)
      rw [← padAt_zero] at hp
      refine st_nil ?_
      refine pn_then ?_
      refine sc_seq ?_
      refine sc_region ?_
      refine st_v (ov_move rfl) rfl ?_
      refine st_v (ov_conv_i64_u64 Tryd.underlying3 Tryd.underlying131 rfl (by omega)) rfl ?_
      refine st_v (ov_mul_u64n (c := m * 8) rfl rfl ⟨rfl, by omega⟩) rfl ?_
      refine st_v (ov_assign rfl) rfl ?_
      refine st_nil ?_
      refine pn_then ?_
      refine sc_seq ?_
      refine sc_seq ?_
      refine sc_region ?_
      refine st_v (ov_move rfl) rfl ?_
      refine st_nil ?_
      refine pn_then ?_
      refine sc_block ?_
      refine sc_loop1 (α := Nat) 0 (fun i => [(29, .int .i64 ((i : Nat) : Int)), (5, .slice (adr (some b9)) (1 + zerosOf m + 8) (1 + zerosOf m + 8)), (4, .int .i64 ((zerosOf m : Nat) : Int)), (6, .int .u64 ((m * 8 : Nat) : Int))]) (fun i w => Hp w0 [] [(9, ⟨some b9, (padAt m i).map B8, 5⟩)] [] w ∧ i ≤ 8) (fun i => 8 - i) ?_ ?_ ?_
      · exact (Sub.cons rfl (Sub.cons rfl (Sub.cons rfl (Sub.cons rfl (Sub.nil _)))))
      · exact ⟨hp.sub (lsub_cons rfl (lsub_nil _)), by omega⟩
      intro i w hw
      obtain ⟨hp, hi⟩ := hw
      refine sc_seq ?_
      refine sc_region ?_
      refine st_v (ov_lss rfl rfl) rfl ?_
      refine st_nil ?_
      refine pn_then ?_
      refine sc_seq ?_
      refine sc_cond rfl (fun hc => ?_) (fun hc => ?_)
      ·
        have hc := of_decide_eq_true hc
        refine sc_skip ?_
        refine pn_then ?_
        refine sc_seq ?_
        refine sc_block ?_
        refine sc_seq ?_
        refine sc_region ?_
        refine st_v (ov_move rfl) rfl ?_
        refine st_v (ov_assign rfl) rfl ?_
        refine st_nil ?_
        refine pn_then ?_
        refine sc_region ?_
        refine st_v (ov_move rfl) rfl ?_
        refine st_v (ov_move rfl) rfl ?_
        refine st_v (ov_add_i64 rfl rfl (by omega)) rfl ?_
        refine st_v (ov_move rfl) rfl ?_
        refine st_v (ov_add_i64 rfl rfl (by omega)) rfl ?_
        refine st_v (ov_move rfl) rfl ?_
        refine st_v (ov_move rfl) rfl ?_
        refine st_v (ov_mul_i64 rfl rfl (by omega)) rfl ?_
        refine st_v (ov_sub_i64 rfl rfl (by omega)) rfl ?_
        refine st_v (ov_shr_n (a := m * 8) (s := 56 - 8 * i) rfl rfl ⟨by omega, by show 56 - 8 * i ≤ 64; omega⟩) rfl ?_
        refine st_v (ov_conv_u64_u8 Tryd.underlying131 Tryd.underlying5 rfl) rfl ?_
        refine st_v (ov_indexS (bl := b9) (o := 0) rfl rfl Tryd.underlying24 sz5 (by omega)) rfl ?_
        refine st_storeE 9 hp rfl rfl rfl (1 + zerosOf m + i) (by rw [padAt_len m i (by omega)]; omega) rfl sz5 (fun w hp => ?_)
        refine st_nil ?_
        refine pn_block ?_
        refine pn_then ?_
        refine sc_region ?_
        refine st_v (ov_add_i64 rfl rfl (by omega)) rfl ?_
        refine st_v (ov_move rfl) rfl ?_
        refine st_nil ?_
        refine pn_round1 (i + 1) ?_ ?_ ?_
        · exact (Sub.cons rfl (Sub.cons rfl (Sub.cons rfl (Sub.cons rfl (Sub.nil _)))))
        · omega
        ·
          rw [padAt_succ m i (by omega)] at hp
          exact ⟨hp.sub (lsub_cons rfl (lsub_nil _)), by omega⟩
      ·
        have hc := of_decide_eq_false hc
        obtain rfl : i = 8 := by omega
        rw [padAt_end] at hp
        refine sc_exit ?_
        refine pe_then ?_
        refine pe_then ?_
        refine pe_hit ?_
        refine pn_then ?_
        refine sc_seq ?_
        refine sc_region ?_
        refine st_v (ov_move rfl) rfl ?_
        refine st_v (ov_assign rfl) rfl ?_
        refine st_v (ov_assign rfl) rfl ?_
        refine st_nil ?_
        refine pn_then ?_
        refine sc_ret ?_
        refine pr_two rfl rfl rfl ?_
        rw [if_neg (by omega)]
        refine ⟨⟨some b9, 1 + zerosOf m + 8, []⟩, by rw [Int.toNat_natCast, pad_len], ?_⟩
        rw [Int.toNat_natCast]
        exact (hp.made (t := 9) (g := ⟨some b9, 1 + zerosOf m + 8, []⟩) (by rw [List.append_nil]; rfl) (by simp [pad_len]))

set_option maxRecDepth 100000 in
theorem padr_walk (n : Int) (w0 : World) (hlo : -9223372036854775808 ≤ n) :
    Calls Tryd.prog 107 #[.int .i64 n] w0 fun e w' => if n < 0 ∨ 2305843009213693951 < n then e = .returned (.tuple #[.slice none 0 0, .int .i64 11]) ∧ Chg [] w0 w'
      else ∃ g : Gs, e = .returned (.tuple #[.slice (adr g.ob) (padOf n.toNat).length g.cap, .int .i64 0]) ∧ Made w0 w' 5 1 ((padOf n.toNat).map B8) g := by
  refine calls_in Tryd.func107 Tryd.ntmps107 rfl rfl ?_
  have hp := Hp.start w0
  refine sc_seq ?_
  refine sc_region ?_
  refine st_v (ov_assign rfl) rfl ?_
  refine st_v (ov_assign rfl) rfl ?_
  refine st_nil ?_
  refine pn_then ?_
  refine sc_seq ?_
  refine sc_seq ?_
  refine sc_region ?_
  refine st_v (ov_move rfl) rfl ?_
  refine st_v (ov_lss rfl rfl) rfl ?_
  refine st_v (ov_move rfl) rfl ?_
  refine st_split (j := 9) rfl (fun hb => ?_) (fun hb => ?_)
  ·
    have hb := of_decide_eq_true hb
    refine st_off (j := 2) rfl rfl rfl rfl ?_
    refine st_off (j := 2) rfl rfl rfl rfl ?_
    refine st_v (ov_pick_t rfl rfl) rfl ?_
    refine st_nil ?_
    refine pn_then ?_
    refine sc_true rfl ?_
    refine sc_seq ?_
    refine sc_region ?_
    refine st_v (ov_assign rfl) rfl ?_
    refine st_v (ov_assign rfl) rfl ?_
    refine st_nil ?_
    refine pn_then ?_
    refine sc_ret ?_
    refine pr_then ?_
    refine pr_two rfl rfl rfl ?_
    rw [if_pos (by omega)]
    exact ⟨rfl, hp.chg⟩
  ·
    have hb := of_decide_eq_false hb
    refine st_on (j := 2) rfl rfl ?_
    refine st_v (ov_move rfl) rfl ?_
    refine st_on (j := 2) rfl rfl ?_
    refine st_v (ov_gtr rfl rfl) rfl ?_
    refine st_v (ov_pick_f rfl rfl) rfl ?_
    refine st_nil ?_
    refine pn_then ?_
    refine sc_cond rfl (fun hc => ?_) (fun hc => ?_)
    ·
      have hc := of_decide_eq_true hc
      refine sc_seq ?_
      refine sc_region ?_
      refine st_v (ov_assign rfl) rfl ?_
      refine st_v (ov_assign rfl) rfl ?_
      refine st_nil ?_
      refine pn_then ?_
      refine sc_ret ?_
      refine pr_then ?_
      refine pr_two rfl rfl rfl ?_
      rw [if_pos (by omega)]
      exact ⟨rfl, hp.chg⟩
    ·
      have hc := of_decide_eq_false hc
      obtain ⟨m, rfl⟩ : ∃ m : Nat, n = (m : Int) := ⟨n.toNat, by omega⟩
      have hzl := zerosOf_lt m
      have hm : m ≤ 2305843009213693951 := by omega
      refine sc_skip ?_
      refine pn_then ?_
      refine sc_seq ?_
      refine sc_region ?_
      refine st_build 9 (cells := [B8 128]) hp rfl rfl Tryd.underlying24 (in2_of in5) (by decide) (by kernel_rfl) (fun b9 w hb9 hp => ?_)
      refine st_v (ov_assign rfl) rfl ?_
      refine st_nil ?_
      refine pn_then ?_
      refine sc_seq ?_
      refine sc_block ?_
      refine sc_loop2 (α := Nat) (β := Gs) 0 ⟨some b9, 1, []⟩ (fun j g => [(0, .int .i64 ((m : Nat) : Int)), (4, .slice (adr g.ob) (1 + j) g.cap)]) (fun j g w => Hp w0 [] [(9, ⟨g.ob, (128 :: List.replicate j (0 : UInt8)).map B8 ++ g.sp, 5⟩)] [] w ∧ ((128 :: List.replicate j (0 : UInt8)).map B8 ++ g.sp).length = g.cap * 1 ∧ j ≤ zerosOf m) (fun j g => zerosOf m - j) ?_ ?_ ?_
      · exact (Sub.cons rfl (Sub.cons rfl (Sub.nil _)))
      · exact ⟨hp.sub (lsub_cons rfl (lsub_nil _)), rfl, by omega⟩
      intro j g w hw
      obtain ⟨hp, hcap, hj⟩ := hw
      refine sc_seq ?_
      refine sc_seq ?_
      refine sc_region ?_
      refine st_v (ov_move rfl) rfl ?_
      refine st_v (ov_rem_i64 rfl rfl (by omega)) rfl ?_
      refine st_v (ov_move rfl) rfl ?_
      refine st_v (ov_len rfl Tryd.underlying24 rfl) rfl ?_
      refine st_v (ov_add_i64 rfl rfl (by omega)) rfl ?_
      refine st_v (ov_add_i64 rfl rfl (by omega)) rfl ?_
      refine st_v (ov_rem_i64 rfl rfl (by omega)) rfl ?_
      refine st_v (ov_neq rfl rfl) rfl ?_
      refine st_nil ?_
      refine pn_then ?_
      refine sc_cond rfl (fun hc => ?_) (fun hc => ?_)
      ·
        have hc := of_decide_eq_true hc
        refine sc_skip ?_
        refine pn_then ?_
        refine sc_block ?_
        refine sc_region ?_
        refine st_v (ov_move rfl) rfl ?_
        refine st_app1 9 23 g  hp rfl rfl rfl rfl rfl (by simp) rfl rfl Tryd.underlying24 in5 (by decide) rfl (by simp; omega) hcap rfl rfl (by simp [Value.oneCell']) (by omega) (fun g2 b23 w hp hcap hf9 => ?_)
        refine st_v (ov_assign rfl) rfl ?_
        refine st_nil ?_
        refine pn_block ?_
        refine pn_round2 (j + 1) g2 ?_ ?_ ?_
        · exact (Sub.cons rfl (Sub.cons rfl (Sub.nil _)))
        · have hmore := zeros_more hj (by omega); omega
        ·
          have hmore := zeros_more hj (by omega)
          have e2 : (128 :: List.replicate (j + 1) (0 : UInt8)).map B8 = (128 :: List.replicate j (0 : UInt8)).map B8 ++ [B8 0] := by rw [List.replicate_succ']; simp
          rw [e2]
          exact ⟨hp.sub (lsub_cons rfl (lsub_nil _)), hcap, by omega⟩
      ·
        have hc := of_decide_eq_false hc
        obtain rfl := zeros_end hj (by omega)
        refine sc_exit ?_
        refine pe_then ?_
        refine pe_then ?_
        refine pe_hit ?_
        refine pn_then ?_
        refine sc_seq ?_
        refine sc_region ?_
        refine st_v (ov_move rfl) rfl ?_
        refine st_v (ov_conv_i64_u64 Tryd.underlying3 Tryd.underlying131 rfl (by omega)) rfl ?_
        refine st_v (ov_mul_u64n (c := m * 8) rfl rfl ⟨rfl, by omega⟩) rfl ?_
        refine st_v (ov_assign rfl) rfl ?_
        refine st_nil ?_
        refine pn_then ?_
        refine sc_seq ?_
        refine sc_seq ?_
        refine sc_region ?_
        refine st_v (ov_assign rfl) rfl ?_
        refine st_nil ?_
        refine pn_then ?_
        refine sc_block ?_
        refine sc_loop2 (α := Nat) (β := Gs) 0 g (fun i g => [(5, .int .u64 ((m * 8 : Nat) : Int)), (6, .int .i64 ((i : Nat) : Int)), (4, .slice (adr g.ob) (1 + zerosOf m + i) g.cap)]) (fun i g w => Hp w0 [] [(9, ⟨g.ob, (128 :: (List.replicate (zerosOf m) 0 ++ be8 (m * 8) i)).map B8 ++ g.sp, 5⟩)] [] w ∧ ((128 :: (List.replicate (zerosOf m) 0 ++ be8 (m * 8) i)).map B8 ++ g.sp).length = g.cap * 1 ∧ i ≤ 8) (fun i g => 8 - i) ?_ ?_ ?_
        · exact (Sub.cons rfl (Sub.cons rfl (Sub.cons rfl (Sub.nil _))))
        · have e0 : (128 :: (List.replicate (zerosOf m) 0 ++ be8 (m * 8) 0)) = 128 :: List.replicate (zerosOf m) (0 : UInt8) := (by simp [be8]); rw [e0]; exact ⟨hp, hcap, by omega⟩
        intro i g w hw
        obtain ⟨hp, hcap, hi⟩ := hw
        refine sc_seq ?_
        refine sc_seq ?_
        refine sc_region ?_
        refine st_v (ov_move rfl) rfl ?_
        refine st_v (ov_lss rfl rfl) rfl ?_
        refine st_nil ?_
        refine pn_then ?_
        refine sc_cond rfl (fun hc => ?_) (fun hc => ?_)
        ·
          have hc := of_decide_eq_true hc
          refine sc_skip ?_
          refine pn_then ?_
          refine sc_seq ?_
          refine sc_block ?_
          refine sc_region ?_
          refine st_v (ov_move rfl) rfl ?_
          refine st_v (ov_move rfl) rfl ?_
          refine st_v (ov_move rfl) rfl ?_
          refine st_v (ov_mul_i64 rfl rfl (by omega)) rfl ?_
          refine st_v (ov_sub_i64 rfl rfl (by omega)) rfl ?_
          refine st_v (ov_shr_n (a := m * 8) (s := 56 - 8 * i) rfl rfl ⟨by omega, by show 56 - 8 * i ≤ 64; omega⟩) rfl ?_
          refine st_v (ov_conv_u64_u8 Tryd.underlying131 Tryd.underlying5 rfl) rfl ?_
          refine st_app1 9 39 g  hp rfl rfl rfl rfl rfl (by simp) rfl rfl Tryd.underlying24 in5 (by decide) rfl (by simp [be8_len]; omega) hcap rfl rfl (by simp [Value.oneCell']) (by omega) (fun g3 b39 w hp hcap hf9 => ?_)
          refine st_v (ov_assign rfl) rfl ?_
          refine st_nil ?_
          refine pn_block ?_
          refine pn_then ?_
          refine sc_region ?_
          refine st_v (ov_move rfl) rfl ?_
          refine st_v (ov_add_i64 rfl rfl (by omega)) rfl ?_
          refine st_v (ov_assign rfl) rfl ?_
          refine st_nil ?_
          refine pn_round2 (i + 1) g3 ?_ ?_ ?_
          · exact (Sub.cons rfl (Sub.cons rfl (Sub.cons rfl (Sub.nil _))))
          · omega
          ·
            have e2 : (128 :: (List.replicate (zerosOf m) 0 ++ be8 (m * 8) (i + 1))).map B8 = (128 :: (List.replicate (zerosOf m) 0 ++ be8 (m * 8) i)).map B8 ++ [B8 (UInt8.ofNat ((m * 8) >>> (56 - 8 * i)))] := by rw [be8_succ]; simp
            rw [e2]
            exact ⟨hp.sub (lsub_cons rfl (lsub_nil _)), hcap, by omega⟩
        ·
          have hc := of_decide_eq_false hc
          obtain rfl : i = 8 := by omega
          refine sc_exit ?_
          refine pe_then ?_
          refine pe_then ?_
          refine pe_hit ?_
          refine pn_then ?_
          refine sc_seq ?_
          refine sc_region ?_
          refine st_v (ov_move rfl) rfl ?_
          refine st_v (ov_assign rfl) rfl ?_
          refine st_v (ov_assign rfl) rfl ?_
          refine st_nil ?_
          refine pn_then ?_
          refine sc_ret ?_
          refine pr_two rfl rfl rfl ?_
          rw [if_neg (by omega)]
          refine ⟨g, by rw [Int.toNat_natCast, pad_len], ?_⟩
          rw [Int.toNat_natCast]
          exact hp.made (t := 9) rfl hcap

theorem pad_walk2 (n : Int) (w0 : World) (hlo : -9223372036854775808 ≤ n) :
    Calls Tryd.prog 102 #[.int .i64 n] w0 fun e w' => ∃ g : Gs, e = .returned (.tuple #[.slice (adr g.ob) (padL n).length g.cap, .int .i64 (padE n)]) ∧ Made w0 w' 5 1 ((padL n).map B8) g := by
  refine (pad_walk n w0 hlo).mono fun e w' h => ?_
  unfold padL padE
  by_cases hb : padBad n
  · rw [if_pos (show n < 0 ∨ 2305843009213693951 < n from hb)] at h
    rw [if_pos hb, if_pos hb]
    exact ⟨gnil, h.1, h.2, Blk.nil w' _, (fun b hb => by simp at hb), by simp⟩
  · rw [if_neg (show ¬ (n < 0 ∨ 2305843009213693951 < n) from hb)] at h
    rw [if_neg hb, if_neg hb]
    exact h

theorem padr_walk2 (n : Int) (w0 : World) (hlo : -9223372036854775808 ≤ n) :
    Calls Tryd.prog 107 #[.int .i64 n] w0 fun e w' => ∃ g : Gs, e = .returned (.tuple #[.slice (adr g.ob) (padL n).length g.cap, .int .i64 (padE n)]) ∧ Made w0 w' 5 1 ((padL n).map B8) g := by
  refine (padr_walk n w0 hlo).mono fun e w' h => ?_
  unfold padL padE
  by_cases hb : padBad n
  · rw [if_pos (show n < 0 ∨ 2305843009213693951 < n from hb)] at h
    rw [if_pos hb, if_pos hb]
    exact ⟨gnil, h.1, h.2, Blk.nil w' _, (fun b hb => by simp at hb), by simp⟩
  · rw [if_neg (show ¬ (n < 0 ∨ 2305843009213693951 < n) from hb)] at h
    rw [if_neg hb, if_neg hb]
    exact h

end Go.Proofs.YtjdolgfhcjnniaaDoor

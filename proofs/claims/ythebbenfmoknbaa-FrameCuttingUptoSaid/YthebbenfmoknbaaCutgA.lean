/-
  The walk of the law FrameCutting.
-/
import Derived.Test.YthebbenfmoknbaaPshdA
namespace Go.Proofs.Ythebbenfmoknbaa
open Go Go.RowKit

set_option maxRecDepth 100000 in
theorem law_cutting (hello : Bool) (b : List UInt8) (cuts : List Int) (ao bo : Option Addr) (ca cb : Nat) (w0 : World) (h1 : Rd w0 ao (b.map B8)) (h2 : Rd w0 bo (cuts.map fun x => Value.int .i64 x)) (hca : b.length ≤ ca) (hz : b.length ≤ 1048576) (hzc : cuts.length ≤ 1048576) :
    Calls Try.prog 9 #[.bool hello, .slice ao b.length ca, .slice bo cuts.length cb] w0 fun e w' => e = .returned (.bool true) ∧ Chg [] w0 w' := by
  refine calls_in Try.func9 Try.ntmps9 rfl rfl ?_
  have hp := Hp.start w0
  refine sc_seq ?_
  refine sc_region ?_
  refine st_v (ov_assign rfl) rfl ?_
  refine st_nil ?_
  refine pn_then ?_
  refine sc_seq ?_
  refine sc_region ?_
  refine st_v (ov_move rfl) rfl ?_
  refine st_call pl23 rfl rfl rfl (new_walk hello _) ?_
  rintro _ w ⟨r1, rfl, hL⟩
  refine ⟨_, rfl, ?_⟩
  replace hp := hp.back [] [70, 71] (by simp) rfl hL (by simp) rfl (by simp)
  clear hL
  simp only [tg, rck0, rck, List.cons_append, List.nil_append] at hp
  refine st_v (ov_assign rfl) rfl ?_
  refine st_nil ?_
  refine pn_then ?_
  refine sc_seq ?_
  refine sc_region ?_
  refine st_v (ov_move rfl) rfl ?_
  refine st_call pl23 rfl rfl rfl (new_walk hello _) ?_
  rintro _ w ⟨r2, rfl, hL⟩
  refine ⟨_, rfl, ?_⟩
  replace hp := hp.back [] [80, 81] (by simp) rfl hL (by simp) rfl (by simp)
  clear hL
  simp only [tg, rck0, rck, List.cons_append, List.nil_append] at hp
  refine st_v (ov_assign rfl) rfl ?_
  refine st_nil ?_
  refine pn_then ?_
  refine sc_seq ?_
  refine sc_seq ?_
  refine sc_region ?_
  refine st_v (ov_move rfl) rfl ?_
  refine st_v (v := .bool false) ((ov_eqlP Try.underlying42 rfl rfl).is (by simp)) rfl ?_
  refine st_v (ov_move rfl) rfl ?_
  refine st_on (j := 2) rfl rfl ?_
  refine st_v (ov_move rfl) rfl ?_
  refine st_on (j := 2) rfl rfl ?_
  refine st_v (v := .bool false) ((ov_eqlP Try.underlying42 rfl rfl).is (by simp)) rfl ?_
  refine st_v (ov_pick_f rfl rfl) rfl ?_
  refine st_nil ?_
  refine pn_then ?_
  refine sc_false rfl ?_
  refine sc_skip ?_
  refine pn_then ?_
  refine sc_seq ?_
  refine sc_region ?_
  refine st_v (ov_move rfl) rfl ?_
  refine st_v (ov_move rfl) rfl ?_
  refine st_v (ov_move rfl) rfl ?_
  refine st_call pl32 rfl rfl rfl (pushed_walk r1 hello b cuts _ _ _ _ _ (hp.owns' (ts := [70, 71]) (by simp) rfl) (h1.chg hp.chg) (hp.offs (i := []) h1 (fun b hb => absurd hb (by simp [blks])) (ts := [70, 71]) (by simp) rfl) (h2.chg hp.chg) (hp.offs (i := []) h2 (fun b hb => absurd hb (by simp [blks])) (ts := [70, 71]) (by simp) rfl) rfl hca rfl (by omega) (by omega)) ?_
  rintro _ w ⟨gm1, gb1, g1, mt1, bs1, er1, st1, part1, want1, rfl, hL, hcm1, hcb1, hcg1, hfit1, hT1⟩
  refine ⟨_, rfl, ?_⟩
  replace hp := hp.backX (o1 := rck r1 st1 g1 part1 want1 er1 ++ [⟨gm1.ob, mt1.flatMap hcs ++ gm1.sp, 25⟩, ⟨gb1.ob, bs1.map Bs.v ++ gb1.sp, 26⟩]) [70, 71] [70, 71, 91, 92] (by simp) rfl hL (by simp) rfl (by simp)
  clear hL
  simp only [tg, rck, List.cons_append, List.nil_append] at hp
  have hpl1 := hT1.part_le
  have hle1 := hT1.le
  obtain ⟨k1, hk1, hh1, hkl1⟩ := hT1.read
  refine st_alloc 9 (tld gnil 0 gnil 0 0) hp rfl zl57 rfl (fun b9 w hp => ?_)
  refine st_storeA 9 hp rfl rfl rfl rfl (sz57.trans rfl) (by simp [Value.oneCell']) (fun w hp => ?_)
  refine st_nil ?_
  refine pn_then ?_
  refine sc_seq ?_
  refine sc_region ?_
  refine st_v (ov_move rfl) rfl ?_
  refine st_v (ov_move rfl) rfl ?_
  refine st_call pl32 rfl rfl rfl (pushed_walk r2 hello b [] _ _ _ _ _ (hp.owns' (ts := [80, 81]) (by simp) rfl) (h1.chg hp.chg) (hp.offs (i := []) h1 (fun b hb => absurd hb (by simp [blks])) (ts := [80, 81]) (by simp) rfl) (Rd.nil _ _) (fun b _ a e h => absurd rfl h) rfl hca rfl (by omega) (by simp)) ?_
  rintro _ w ⟨gm2, gb2, g2, mt2, bs2, er2, st2, part2, want2, rfl, hL, hcm2, hcb2, hcg2, hfit2, hT2⟩
  refine ⟨_, rfl, ?_⟩
  replace hp := hp.backX (o1 := rck r2 st2 g2 part2 want2 er2 ++ [⟨gm2.ob, mt2.flatMap hcs ++ gm2.sp, 25⟩, ⟨gb2.ob, bs2.map Bs.v ++ gb2.sp, 26⟩]) [80, 81] [80, 81, 101, 102] (by simp) rfl hL (by simp) rfl (by simp)
  clear hL
  simp only [tg, rck, List.cons_append, List.nil_append] at hp
  have hpl2 := hT2.part_le
  have hle2 := hT2.le
  obtain ⟨k2, hk2, hh2, hkl2⟩ := hT2.read
  refine st_alloc 10 (tld gnil 0 gnil 0 0) hp rfl zl57 rfl (fun b10 w hp => ?_)
  refine st_storeA 10 hp rfl rfl rfl rfl (sz57.trans rfl) (by simp [Value.oneCell']) (fun w hp => ?_)
  refine st_nil ?_
  refine pn_then ?_
  refine sc_seq ?_
  refine sc_seq ?_
  have hE := hk1.symm.trans hk2
  simp only [Prod.mk.injEq] at hE
  obtain ⟨hmm, hbb, hkk, hee⟩ := hE
  subst hmm hkk hee
  have hsz : ∀ s ∈ bs1.map Bs.sl, s.bs.length ≤ 281474976710656 := read_szs hk1 (by omega)
  have hsn : (bs1.map Bs.sl).length ≤ 281474976710656 := by have := hle1.2; simp at this; simp; omega
  refine sc_region ?_
  refine st_v (ov_field (q := 2) rfl Try.underlying57 rfl sz31 rfl) rfl ?_
  refine st_v (ov_load1 rfl Try.underlying31 rfl ((hp.cells' (t := 9) rfl).at 2 (by simp) rfl)) rfl ?_
  refine st_v (ov_field (q := 2) rfl Try.underlying57 rfl sz31 rfl) rfl ?_
  refine st_v (ov_load1 rfl Try.underlying31 rfl ((hp.cells' (t := 10) rfl).at 2 (by simp) rfl)) rfl ?_
  refine st_v (v := .bool false) ((ov_neq rfl rfl).is ((by simp))) rfl ?_
  refine st_v (ov_move rfl) rfl ?_
  refine st_on (j := 5) rfl rfl ?_
  refine st_v (ov_field (q := 0) rfl Try.underlying57 rfl sz48 rfl) rfl ?_
  refine st_on (j := 5) rfl rfl ?_
  refine st_v (ov_load1 rfl Try.underlying48 rfl ((hp.cells' (t := 9) rfl).at 0 (by simp) rfl)) rfl ?_
  refine st_on (j := 5) rfl rfl ?_
  refine st_v (ov_field (q := 0) rfl Try.underlying57 rfl sz48 rfl) rfl ?_
  refine st_on (j := 5) rfl rfl ?_
  refine st_v (ov_load1 rfl Try.underlying48 rfl ((hp.cells' (t := 10) rfl).at 0 (by simp) rfl)) rfl ?_
  refine st_on (j := 5) rfl rfl ?_
  refine st_call pl27 rfl rfl rfl (sameh_walk mt1 _ _ _ _ _ (Rd.own (hp.own 91 _ rfl)) (Rd.own (hp.own 101 _ rfl)) rfl rfl (by omega)) ?_
  rintro _ w ⟨rfl, hch⟩
  refine ⟨_, rfl, ?_⟩
  replace hp := hp.call hch
  clear hch
  refine st_on (j := 5) rfl rfl ?_
  refine st_v (ov_not rfl) rfl ?_
  refine st_v (ov_pick_f rfl rfl) rfl ?_
  refine st_v (ov_move rfl) rfl ?_
  refine st_on (j := 13) rfl rfl ?_
  refine st_v (ov_field (q := 1) rfl Try.underlying57 rfl sz37 rfl) rfl ?_
  refine st_on (j := 13) rfl rfl ?_
  refine st_v (ov_load1 rfl Try.underlying37 rfl ((hp.cells' (t := 9) rfl).at 1 (by simp) rfl)) rfl ?_
  refine st_on (j := 13) rfl rfl ?_
  refine st_v (ov_field (q := 1) rfl Try.underlying57 rfl sz37 rfl) rfl ?_
  refine st_on (j := 13) rfl rfl ?_
  refine st_v (ov_load1 rfl Try.underlying37 rfl ((hp.cells' (t := 10) rfl).at 1 (by simp) rfl)) rfl ?_
  refine st_on (j := 13) rfl rfl ?_
  refine st_call pl22 rfl rfl rfl (sameb_walk (bs1.map Bs.sl) (bs2.map Bs.sl) _ _ _ _ _ (by rw [← map_v]; exact Rd.own (hp.own 92 _ rfl)) (by rw [← map_v]; exact Rd.own (hp.own 102 _ rfl)) (hp.rdAll (fun x hx => by have h9 := List.mem_map_of_mem (f := Bs.ck) hx; simp only [List.mem_append, h9, true_or, or_true]) hfit1) (hp.rdAll (fun x hx => by have h9 := List.mem_map_of_mem (f := Bs.ck) hx; simp only [List.mem_append, h9, true_or, or_true]) hfit2) (by rw [sl_bs, sl_bs]; exact hbb) (by simp) (by simp) hsz hsn) ?_
  rintro _ w ⟨rfl, hch⟩
  refine ⟨_, rfl, ?_⟩
  replace hp := hp.call hch
  clear hch
  refine st_on (j := 13) rfl rfl ?_
  refine st_v (ov_not rfl) rfl ?_
  refine st_v (ov_pick_f rfl rfl) rfl ?_
  refine st_nil ?_
  refine pn_then ?_
  refine sc_false rfl ?_
  refine sc_skip ?_
  refine pn_then ?_
  refine sc_seq ?_
  refine sc_seq ?_
  obtain ⟨Hs, hHs⟩ := (hp.sub (L' := [(10, _), (102, _), (101, _), (81, _), (80, _), (9, _), (92, _), (91, _), (71, _), (70, _)]) (LSub.cons rfl (LSub.cons rfl (LSub.cons rfl (LSub.cons rfl (LSub.cons rfl (LSub.cons rfl (LSub.cons rfl (LSub.cons rfl (LSub.cons rfl (LSub.cons rfl (LSub.nil _)))))))))))).hs
  refine sc_plan Hs [0, 2, 4, 5, 6, 8, 9, 10, 11, 12, 13, 15, 16, 17, 18] [7, 14] (.take 0 (.take 2 (.one 1 (.one 3 (.take 4 (.take 5 (.take 6 (.take 8 (.load 9 (.one 7 (.take 10 (.take 11 (.take 12 (.take 13 (.take 15 (.load 16 (.one 14 (.take 17 (.take 18 .nil))))))))))))))))))) (by kernel_rfl) (by kernel_rfl) (by repeat (first | exact calm_body _ _ _ | refine calm_then ?_ | refine calm_block ?_ | refine calm_jump ?_ | refine calm_ng ?_)) ?_
  replace hp := hp.drew
  refine sp_take rfl (fun w => ov_move rfl) rfl ?_
  refine sp_take rfl (fun w => ov_move rfl) rfl ?_
  refine sp_one rfl ?_
  refine st_call pl28 rfl rfl rfl (held_walk r1 st1 g1 part1.length want1 er1 _ (hp.cells' (t := 70) rfl) (by omega)) ?_
  rintro _ w ⟨rfl, hch⟩
  refine ⟨_, rfl, ?_⟩
  replace hp := hp.call hch
  clear hch
  refine st_nil ?_
  refine sp_next (i := 1) (fun h => absurd h (by decide)) ?_
  rw [hh1]
  refine sp_one rfl ?_
  refine st_call pl28 rfl rfl rfl (held_walk r2 st2 g2 part2.length want2 er1 _ (hp.cells' (t := 80) rfl) (by omega)) ?_
  rintro _ w ⟨rfl, hch⟩
  refine ⟨_, rfl, ?_⟩
  replace hp := hp.call hch
  clear hch
  refine st_nil ?_
  refine sp_next (i := 3) (fun h => absurd h (by decide)) ?_
  rw [hh2]
  refine sp_take rfl (v := .bool false) (fun w => (ov_neq rfl rfl).is ((by simp))) rfl ?_
  refine sp_take rfl (fun w => ov_move rfl) rfl ?_
  refine sp_take_on rfl rfl rfl (fun w => ov_move rfl) rfl ?_
  refine sp_take_on rfl rfl rfl (fun w => ov_field (q := 2) rfl Try.underlying57 rfl sz31 rfl) rfl ?_
  refine sp_load_on rfl rfl rfl ((hHs _).2 (hp.sub (LSub.cons rfl (LSub.cons rfl (LSub.cons rfl (LSub.cons rfl (LSub.cons rfl (LSub.cons rfl (LSub.cons rfl (LSub.cons rfl (LSub.cons rfl (LSub.cons rfl (LSub.nil _))))))))))))) (fun w hs => have hp := (hHs w).1 hs; ov_load1 rfl Try.underlying31 rfl ((hp.cells' (t := 9) rfl).at 2 (by simp) rfl)) rfl ?_
  refine sp_one rfl ?_
  refine st_on (j := 5) rfl rfl ?_
  refine st_call pl30 rfl rfl rfl (fault_walk r1 st1 g1 part1.length want1 er1 _ (hp.cells' (t := 70) rfl)) ?_
  rintro _ w ⟨rfl, hch⟩
  refine ⟨_, rfl, ?_⟩
  replace hp := hp.call hch
  clear hch
  refine st_nil ?_
  refine sp_next (i := 7) (fun _ => ((hHs _).2 (hp.sub (LSub.cons rfl (LSub.cons rfl (LSub.cons rfl (LSub.cons rfl (LSub.cons rfl (LSub.cons rfl (LSub.cons rfl (LSub.cons rfl (LSub.cons rfl (LSub.cons rfl (LSub.nil _)))))))))))))) ?_
  refine sp_take_on rfl rfl rfl (v := .bool false) (fun w => (ov_neq rfl rfl).is ((by simp))) rfl ?_
  refine sp_take rfl (fun w => ov_pick_f rfl rfl) rfl ?_
  refine sp_take rfl (fun w => ov_move rfl) rfl ?_
  refine sp_take_on rfl rfl rfl (fun w => ov_move rfl) rfl ?_
  refine sp_take_on rfl rfl rfl (fun w => ov_field (q := 2) rfl Try.underlying57 rfl sz31 rfl) rfl ?_
  refine sp_load_on rfl rfl rfl ((hHs _).2 (hp.sub (LSub.cons rfl (LSub.cons rfl (LSub.cons rfl (LSub.cons rfl (LSub.cons rfl (LSub.cons rfl (LSub.cons rfl (LSub.cons rfl (LSub.cons rfl (LSub.cons rfl (LSub.nil _))))))))))))) (fun w hs => have hp := (hHs w).1 hs; ov_load1 rfl Try.underlying31 rfl ((hp.cells' (t := 9) rfl).at 2 (by simp) rfl)) rfl ?_
  refine sp_one rfl ?_
  refine st_on (j := 12) rfl rfl ?_
  refine st_call pl30 rfl rfl rfl (fault_walk r2 st2 g2 part2.length want2 er1 _ (hp.cells' (t := 80) rfl)) ?_
  rintro _ w ⟨rfl, hch⟩
  refine ⟨_, rfl, ?_⟩
  replace hp := hp.call hch
  clear hch
  refine st_nil ?_
  refine sp_next (i := 14) (fun _ => ((hHs _).2 (hp.sub (LSub.cons rfl (LSub.cons rfl (LSub.cons rfl (LSub.cons rfl (LSub.cons rfl (LSub.cons rfl (LSub.cons rfl (LSub.cons rfl (LSub.cons rfl (LSub.cons rfl (LSub.nil _)))))))))))))) ?_
  refine sp_take_on rfl rfl rfl (v := .bool false) (fun w => (ov_neq rfl rfl).is ((by simp))) rfl ?_
  refine sp_take rfl (fun w => ov_pick_f rfl rfl) rfl ?_
  refine sp_nil ?_
  refine pn_then ?_
  refine sc_false rfl ?_
  refine sc_skip ?_
  refine pn_then ?_
  refine sc_seq ?_
  refine sc_seq ?_
  have hP := read_parts hk1
  refine sc_region ?_
  refine st_v (ov_move rfl) rfl ?_
  refine st_nil ?_
  refine pn_then ?_
  refine sc_cond rfl (fun hc => ?_) (fun hc => ?_)
  ·
    subst hc
    refine sc_seq ?_
    have hmL := (meetH b).2
    refine sc_region ?_
    refine st_v (ov_move rfl) rfl ?_
    refine st_call pl18 rfl rfl rfl (meet_walk b _ _ _ (h1.chg hp.chg) rfl hca (by omega)) ?_
    rintro _ w ⟨rfl, hch⟩
    refine ⟨_, rfl, ?_⟩
    replace hp := hp.call hch
    clear hch
    refine st_v (ov_move rfl) rfl ?_
    refine st_v (ov_extract rfl rfl) rfl ?_
    refine st_v (ov_extract rfl rfl) rfl ?_
    refine st_alloc 11 ((List.replicate 48 (0 : UInt8)).map B8) hp rfl zl25 rfl (fun b11 w hp => ?_)
    refine st_storeA 11 hp rfl rfl rfl (by first | (simp; done) | (simp [*]; done) | (simp; omega) | (simp [*]; omega)) (sz25.trans (by first | (simp; done) | (simp [*]; done) | (simp; omega))) (one_all _) (fun w hp => ?_)
    refine st_v (ov_assign rfl) rfl ?_
    refine st_nil ?_
    refine pn_then ?_
    refine sc_seq ?_
    refine sc_seq ?_
    refine sc_region ?_
    refine st_v (ov_move rfl) rfl ?_
    refine st_v (ov_neq rfl rfl) rfl ?_
    refine st_nil ?_
    refine pn_then ?_
    refine sc_cond rfl (fun hc => ?_) (fun hc => ?_)
    ·
      have hc := of_decide_eq_true hc
      have hcase : (mt1 = [] ∧ bs1 = []) ∧ ((meetE b = 100 ∧ er1 = 100) ∨ (meetE b = 101 ∧ er1 = 0 ∧ k1 = 0)) := by rcases hP with h | h | h | h; exact absurd h.1 (by decide); exact ⟨⟨h.2.2.1, map_nil_of h.2.2.2.1⟩, .inl ⟨h.2.1, h.2.2.2.2⟩⟩; exact ⟨⟨h.2.2.1, map_nil_of h.2.2.2.1⟩, .inr ⟨h.2.1, h.2.2.2.2.2, h.2.2.2.2.1⟩⟩; exact absurd h.2.1 hc
      obtain ⟨⟨hm0, hb0⟩, hcase⟩ := hcase
      refine sc_seq ?_
      refine sc_region ?_
      refine st_v (ov_field (q := 0) rfl Try.underlying57 rfl sz48 rfl) rfl ?_
      refine st_v (ov_load1 rfl Try.underlying48 rfl ((hp.cells' (t := 9) rfl).at 0 (by simp) rfl)) rfl ?_
      refine st_v (ov_len rfl Try.underlying48 rfl) rfl ?_
      refine st_v (v := .bool true) ((ov_eql rfl rfl).is (by rw [hm0]; rfl)) rfl ?_
      refine st_v (ov_move rfl) rfl ?_
      refine st_on (j := 4) rfl rfl ?_
      refine st_v (ov_field (q := 1) rfl Try.underlying57 rfl sz37 rfl) rfl ?_
      refine st_on (j := 4) rfl rfl ?_
      refine st_v (ov_load1 rfl Try.underlying37 rfl ((hp.cells' (t := 9) rfl).at 1 (by simp) rfl)) rfl ?_
      refine st_on (j := 4) rfl rfl ?_
      refine st_v (ov_len rfl Try.underlying37 rfl) rfl ?_
      refine st_on (j := 4) rfl rfl ?_
      refine st_v (v := .bool true) ((ov_eql rfl rfl).is (by rw [hb0]; rfl)) rfl ?_
      refine st_v (ov_pick_t rfl rfl) rfl ?_
      refine st_v (ov_move rfl) rfl ?_
      refine st_on (j := 10) rfl rfl ?_
      refine st_v (ov_field (q := 2) rfl Try.underlying57 rfl sz31 rfl) rfl ?_
      refine st_on (j := 10) rfl rfl ?_
      refine st_v (ov_load1 rfl Try.underlying31 rfl ((hp.cells' (t := 9) rfl).at 2 (by simp) rfl)) rfl ?_
      refine st_on (j := 10) rfl rfl ?_
      refine st_v (ov_move rfl) rfl ?_
      refine st_on (j := 10) rfl rfl ?_
      refine st_v (ov_eql rfl rfl) rfl ?_
      refine st_on (j := 10) rfl rfl ?_
      refine st_v (ov_move rfl) rfl ?_
      refine st_split (j := 96) rfl (fun hb => ?_) (fun hb => ?_)
      ·
        have hb := of_decide_eq_true hb
        refine st_off (j := 15) rfl rfl rfl rfl ?_
        refine st_off (j := 15) rfl rfl rfl rfl ?_
        refine st_off (j := 15) rfl rfl rfl rfl ?_
        refine st_offU (j := 18) rfl rfl rfl ?_
        refine st_offU (j := 18) rfl rfl rfl ?_
        refine st_offU (j := 18) rfl rfl rfl ?_
        refine st_off (j := 15) rfl rfl rfl rfl ?_
        refine st_off (j := 15) rfl rfl rfl rfl ?_
        refine st_offU (j := 23) rfl rfl rfl ?_
        refine st_offU (j := 23) rfl rfl rfl ?_
        refine st_offU (j := 23) rfl rfl rfl ?_
        refine st_offU (j := 23) rfl rfl rfl ?_
        refine st_offU (j := 23) rfl rfl rfl ?_
        refine st_off (j := 15) rfl rfl rfl rfl ?_
        refine st_on (j := 10) rfl rfl ?_
        refine st_v (ov_pick_t rfl rfl) rfl ?_
        refine st_v (ov_pick_t rfl rfl) rfl ?_
        refine st_v (ov_assign rfl) rfl ?_
        refine st_nil ?_
        refine pn_then ?_
        refine sc_ret ?_
        refine pr_then ?_
        refine pr_then ?_
        refine pr_one rfl rfl ?_
        exact ⟨rfl, hp.chg⟩
      ·
        have hb := of_decide_eq_false hb
        refine st_on (j := 15) rfl rfl ?_
        refine st_v (ov_move rfl) rfl ?_
        refine st_on (j := 15) rfl rfl ?_
        refine st_v (v := .bool true) ((ov_eql rfl rfl).is (congrArg Value.bool (decide_eq_true (by omega)))) rfl ?_
        refine st_on (j := 15) rfl rfl ?_
        refine st_v (ov_move rfl) rfl ?_
        refine st_on (j := 18) rfl rfl ?_
        refine st_v (ov_field (q := 2) rfl Try.underlying57 rfl sz31 rfl) rfl ?_
        refine st_on (j := 18) rfl rfl ?_
        refine st_v (ov_load1 rfl Try.underlying31 rfl ((hp.cells' (t := 9) rfl).at 2 (by simp) rfl)) rfl ?_
        refine st_on (j := 18) rfl rfl ?_
        refine st_v (v := .bool true) ((ov_eql rfl rfl).is (congrArg Value.bool (decide_eq_true (by omega)))) rfl ?_
        refine st_on (j := 15) rfl rfl ?_
        refine st_v (ov_pick_t rfl rfl) rfl ?_
        refine st_on (j := 15) rfl rfl ?_
        refine st_v (ov_move rfl) rfl ?_
        refine st_on (j := 23) rfl rfl ?_
        refine st_v (ov_move rfl) rfl ?_
        refine st_on (j := 23) rfl rfl ?_
        refine st_call pl28 rfl rfl rfl (held_walk r1 st1 g1 part1.length want1 er1 _ (hp.cells' (t := 70) rfl) (by omega)) ?_
        rintro _ w ⟨rfl, hch⟩
        refine ⟨_, rfl, ?_⟩
        replace hp := hp.call hch
        clear hch
        rw [hh1]
        refine st_on (j := 23) rfl rfl ?_
        refine st_v (ov_move rfl) rfl ?_
        refine st_on (j := 23) rfl rfl ?_
        refine st_v (ov_len rfl Try.underlying26 rfl) rfl ?_
        refine st_on (j := 23) rfl rfl ?_
        refine st_v (v := .bool true) ((ov_eql rfl rfl).is (congrArg Value.bool (decide_eq_true (by rw [if_pos (by omega)]; omega)))) rfl ?_
        refine st_on (j := 15) rfl rfl ?_
        refine st_v (ov_pick_t rfl rfl) rfl ?_
        refine st_on (j := 10) rfl rfl ?_
        refine st_v (ov_pick_f rfl rfl) rfl ?_
        refine st_v (ov_pick_t rfl rfl) rfl ?_
        refine st_v (ov_assign rfl) rfl ?_
        refine st_nil ?_
        refine pn_then ?_
        refine sc_ret ?_
        refine pr_then ?_
        refine pr_then ?_
        refine pr_one rfl rfl ?_
        exact ⟨rfl, hp.chg⟩
    ·
      have hc := of_decide_eq_false hc
      have hme : meetE b = 0 := by omega
      have hb68 := (meetE_zero hme).1
      have hyes : mt1 = [meetH b] ∧ (split (b.drop 68)).1 = bs1.map Bs.bs ∧ k1 = 68 + (split (b.drop 68)).2.1 ∧ (split (b.drop 68)).2.2 = er1 := by rcases hP with h | h | h | h; exact absurd h.1 (by decide); exact absurd h.2.1 (by omega); exact absurd h.2.1 (by omega); exact h.2.2
      obtain ⟨hm1, hs1, hs2, hs3⟩ := hyes
      refine sc_skip ?_
      refine pn_then ?_
      refine sc_seq ?_
      refine sc_seq ?_
      refine sc_draws (by kernel_rfl) (by kernel_rfl) ?_
      replace hp := hp.drew
      refine ss_v (ov_field (q := 0) rfl Try.underlying57 rfl sz48 rfl) rfl ?_
      refine ss_v (ov_load1 rfl Try.underlying48 rfl ((hp.cells' (t := 9) rfl).at 0 (by simp) rfl)) rfl ?_
      refine ss_v (ov_len rfl Try.underlying48 rfl) rfl ?_
      refine ss_v (v := .bool false) ((ov_neq rfl rfl).is (by rw [hm1]; rfl)) rfl ?_
      refine ss_v (ov_move rfl) rfl ?_
      refine ss_on (j := 4) rfl rfl ?_
      refine ss_v (ov_field (q := 0) rfl Try.underlying57 rfl sz48 rfl) rfl ?_
      refine ss_on (j := 4) rfl rfl ?_
      refine ss_v (ov_load1 rfl Try.underlying48 rfl ((hp.cells' (t := 9) rfl).at 0 (by simp) rfl)) rfl ?_
      refine ss_on (j := 4) rfl rfl ?_
      obtain ⟨bb1, oo1, hadr1, hcl1⟩ := (Rd.own (hp.own 91 _ rfl)).pos (by rw [flat_len hcs_len, hm1]; simp)
      refine ss_v (ov_indexR hadr1 rfl rfl Try.underlying48 sz25 (by rw [hm1]; simp)) rfl ?_
      refine ss_on (j := 4) rfl rfl ?_
      refine ss_v (ov_loadN rfl Try.underlying25 rfl (sz25.trans (congrArg some (hcs_len _).symm)) (hcl1.elemN hcs_len (0) ⟨by rfl, by rw [hm1]; simp⟩ hz0)) rfl ?_
      refine ss_on (j := 4) rfl rfl ?_
      refine ss_v (ov_loadN rfl Try.underlying25 rfl (sz25.trans (by first | (simp; done) | (simp [*]; done) | (simp; omega))) (hp.cells' (t := 11) rfl)) rfl ?_
      refine ss_on (j := 4) rfl rfl ?_
      refine ss_v (v := .bool false) ((ov_neqF Try.underlying25 rfl fl25 (sz25.trans (congrArg some (hcs_len _).symm)) gd25 rfl rfl (Like.map _ _ ((mt1.getD 0 hz0).2.trans (meetH b).2.symm))).is (by rw [hm1]; simp [hcs, eqv_self])) rfl ?_
      refine ss_v (ov_pick_f rfl rfl) rfl ?_
      refine ss_end ?_
      refine pn_then ?_
      refine sc_false rfl ?_
      refine sc_skip ?_
      refine pn_then ?_
      obtain ⟨x, hx⟩ : ∃ x, x = b.drop 68 := ⟨_, rfl⟩
      have hxr : Rd w0 (sla ao ca 68 1) (x.map B8) := by rw [hx]; exact h1.dropM hca
      have hxl : x.length = b.length - 68 := by rw [hx]; simp
      have hxc : b.length - 68 ≤ ca - 68 := by omega
      rw [← hx] at hs1 hs2 hs3
      refine sc_region ?_
      refine st_v (ov_move rfl) rfl ?_
      refine st_v (ov_slice_lo Try.underlying26 sz5 rfl rfl (by omega)) rfl ?_
      refine st_v (ov_assign rfl) rfl ?_
      refine st_nil ?_
      refine pn_then ?_
      refine sc_seq ?_
      refine sc_region ?_
      refine st_v (ov_move rfl) rfl ?_
      refine st_call pl20 rfl rfl rfl (split_walk x _ _ _ (hxr.chg hp.chg) hxl hxc (by omega)) ?_
      rintro _ w ⟨g200, bs3, rfl, hL200, hc200, hbs200, hfit200⟩
      refine ⟨_, rfl, ?_⟩
      replace hp := hp.backX (o1 := [⟨g200.ob, bs3.map Bs.v ++ g200.sp, 26⟩]) [] [200] (by simp) rfl hL200 (by simp) rfl (by simp)
      clear hL200
      rw [hs3]
      refine st_v (ov_move rfl) rfl ?_
      refine st_v (ov_extract rfl rfl) rfl ?_
      refine st_v (ov_extract rfl rfl) rfl ?_
      refine st_v (ov_extract rfl rfl) rfl ?_
      refine st_v (ov_assign rfl) rfl ?_
      refine st_v (ov_assign rfl) rfl ?_
      refine st_v (ov_assign rfl) rfl ?_
      refine st_nil ?_
      refine pn_then ?_
      refine sc_seq ?_
      refine sc_seq ?_
      refine sc_region ?_
      refine st_v (ov_move rfl) rfl ?_
      refine st_v (ov_field (q := 2) rfl Try.underlying57 rfl sz31 rfl) rfl ?_
      refine st_v (ov_load1 rfl Try.underlying31 rfl ((hp.cells' (t := 9) rfl).at 2 (by simp) rfl)) rfl ?_
      refine st_v (v := .bool false) ((ov_neq rfl rfl).is ((by simp))) rfl ?_
      refine st_v (ov_move rfl) rfl ?_
      refine st_on (j := 4) rfl rfl ?_
      refine st_v (ov_field (q := 1) rfl Try.underlying57 rfl sz37 rfl) rfl ?_
      refine st_on (j := 4) rfl rfl ?_
      refine st_v (ov_load1 rfl Try.underlying37 rfl ((hp.cells' (t := 9) rfl).at 1 (by simp) rfl)) rfl ?_
      refine st_on (j := 4) rfl rfl ?_
      refine st_v (ov_move rfl) rfl ?_
      refine st_on (j := 4) rfl rfl ?_
      refine st_call pl22 rfl rfl rfl (sameb_walk (bs1.map Bs.sl) (bs3.map Bs.sl) _ _ _ _ _ (by rw [← map_v]; exact Rd.own (hp.own 92 _ rfl)) (by rw [← map_v]; exact Rd.own (hp.own 200 _ rfl)) (hp.rdAll (fun x hx => by have h9 := List.mem_map_of_mem (f := Bs.ck) hx; simp only [List.mem_append, h9, true_or, or_true]) hfit1) (hp.rdAll (fun x hx => by have h9 := List.mem_map_of_mem (f := Bs.ck) hx; simp only [List.mem_append, h9, true_or, or_true]) hfit200) (by rw [sl_bs, sl_bs]; exact (by rw [hbs200]; exact hs1.symm)) (by simp) (by simp) hsz hsn) ?_
      rintro _ w ⟨rfl, hch⟩
      refine ⟨_, rfl, ?_⟩
      replace hp := hp.call hch
      clear hch
      refine st_on (j := 4) rfl rfl ?_
      refine st_v (ov_not rfl) rfl ?_
      refine st_v (ov_pick_f rfl rfl) rfl ?_
      refine st_nil ?_
      refine pn_then ?_
      refine sc_false rfl ?_
      refine sc_skip ?_
      refine pn_then ?_
      refine sc_seq ?_
      refine sc_region ?_
      refine st_v (ov_move rfl) rfl ?_
      refine st_v (ov_neq rfl rfl) rfl ?_
      refine st_v (ov_move rfl) rfl ?_
      refine st_split (j := 146) rfl (fun hb => ?_) (fun hb => ?_)
      ·
        have hb := of_decide_eq_true hb
        refine st_off (j := 2) rfl rfl rfl rfl ?_
        refine st_off (j := 2) rfl rfl rfl rfl ?_
        refine st_off (j := 2) rfl rfl rfl rfl ?_
        refine st_off (j := 2) rfl rfl rfl rfl ?_
        refine st_off (j := 2) rfl rfl rfl rfl ?_
        refine st_off (j := 2) rfl rfl rfl rfl ?_
        refine st_off (j := 2) rfl rfl rfl rfl ?_
        refine st_v (ov_pick_t rfl rfl) rfl ?_
        refine st_v (ov_assign rfl) rfl ?_
        refine st_nil ?_
        refine pn_then ?_
        refine sc_ret ?_
        refine pr_one rfl rfl ?_
        exact ⟨rfl, hp.chg⟩
      ·
        have hb := of_decide_eq_false hb
        refine st_on (j := 2) rfl rfl ?_
        refine st_v (ov_move rfl) rfl ?_
        refine st_on (j := 2) rfl rfl ?_
        refine st_call pl28 rfl rfl rfl (held_walk r1 st1 g1 part1.length want1 er1 _ (hp.cells' (t := 70) rfl) (by omega)) ?_
        rintro _ w ⟨rfl, hch⟩
        refine ⟨_, rfl, ?_⟩
        replace hp := hp.call hch
        clear hch
        rw [hh1]
        refine st_on (j := 2) rfl rfl ?_
        refine st_v (ov_move rfl) rfl ?_
        refine st_on (j := 2) rfl rfl ?_
        refine st_v (ov_len rfl Try.underlying26 rfl) rfl ?_
        refine st_on (j := 2) rfl rfl ?_
        refine st_v (ov_move rfl) rfl ?_
        refine st_on (j := 2) rfl rfl ?_
        refine st_v (ov_sub_i64 rfl rfl (by have := hkl1 (by omega); omega)) rfl ?_
        refine st_on (j := 2) rfl rfl ?_
        refine st_v (v := .bool true) ((ov_eql rfl rfl).is (congrArg Value.bool (decide_eq_true (by rw [if_pos (by omega)]; have := hkl1 (by omega); omega)))) rfl ?_
        refine st_v (ov_pick_f rfl rfl) rfl ?_
        refine st_v (ov_assign rfl) rfl ?_
        refine st_nil ?_
        refine pn_then ?_
        refine sc_ret ?_
        refine pr_one rfl rfl ?_
        exact ⟨rfl, hp.chg⟩
  ·
    subst hc
    have hno : mt1 = [] ∧ split b = (bs1.map Bs.bs, k1, er1) := by rcases hP with h | h | h | h; exact h.2; exact absurd h.1 (by decide); exact absurd h.1 (by decide); exact absurd h.1 (by decide)
    obtain ⟨hm1, hsp⟩ := hno
    obtain ⟨x, hx⟩ : ∃ x, x = b := ⟨_, rfl⟩
    have hxr : Rd w0 ao (x.map B8) := by rw [hx]; exact h1
    have hxl : x.length = b.length := by rw [hx]
    have hxc : b.length ≤ ca := hca
    have hs1 : (split x).1 = bs1.map Bs.bs := by rw [hx, hsp]
    have hs2 : k1 = (split x).2.1 := by rw [hx, hsp]
    have hs3 : (split x).2.2 = er1 := by rw [hx, hsp]
    refine sc_skip ?_
    refine pn_then ?_
    refine sc_seq ?_
    refine sc_region ?_
    refine st_v (ov_move rfl) rfl ?_
    refine st_call pl20 rfl rfl rfl (split_walk x _ _ _ (hxr.chg hp.chg) hxl hxc (by omega)) ?_
    rintro _ w ⟨g200, bs3, rfl, hL200, hc200, hbs200, hfit200⟩
    refine ⟨_, rfl, ?_⟩
    replace hp := hp.backX (o1 := [⟨g200.ob, bs3.map Bs.v ++ g200.sp, 26⟩]) [] [200] (by simp) rfl hL200 (by simp) rfl (by simp)
    clear hL200
    rw [hs3]
    refine st_v (ov_move rfl) rfl ?_
    refine st_v (ov_extract rfl rfl) rfl ?_
    refine st_v (ov_extract rfl rfl) rfl ?_
    refine st_v (ov_extract rfl rfl) rfl ?_
    refine st_v (ov_assign rfl) rfl ?_
    refine st_v (ov_assign rfl) rfl ?_
    refine st_v (ov_assign rfl) rfl ?_
    refine st_nil ?_
    refine pn_then ?_
    refine sc_seq ?_
    refine sc_seq ?_
    refine sc_region ?_
    refine st_v (ov_move rfl) rfl ?_
    refine st_v (ov_field (q := 2) rfl Try.underlying57 rfl sz31 rfl) rfl ?_
    refine st_v (ov_load1 rfl Try.underlying31 rfl ((hp.cells' (t := 9) rfl).at 2 (by simp) rfl)) rfl ?_
    refine st_v (v := .bool false) ((ov_neq rfl rfl).is ((by simp))) rfl ?_
    refine st_v (ov_move rfl) rfl ?_
    refine st_on (j := 4) rfl rfl ?_
    refine st_v (ov_field (q := 1) rfl Try.underlying57 rfl sz37 rfl) rfl ?_
    refine st_on (j := 4) rfl rfl ?_
    refine st_v (ov_load1 rfl Try.underlying37 rfl ((hp.cells' (t := 9) rfl).at 1 (by simp) rfl)) rfl ?_
    refine st_on (j := 4) rfl rfl ?_
    refine st_v (ov_move rfl) rfl ?_
    refine st_on (j := 4) rfl rfl ?_
    refine st_call pl22 rfl rfl rfl (sameb_walk (bs1.map Bs.sl) (bs3.map Bs.sl) _ _ _ _ _ (by rw [← map_v]; exact Rd.own (hp.own 92 _ rfl)) (by rw [← map_v]; exact Rd.own (hp.own 200 _ rfl)) (hp.rdAll (fun x hx => by have h9 := List.mem_map_of_mem (f := Bs.ck) hx; simp only [List.mem_append, h9, true_or, or_true]) hfit1) (hp.rdAll (fun x hx => by have h9 := List.mem_map_of_mem (f := Bs.ck) hx; simp only [List.mem_append, h9, true_or, or_true]) hfit200) (by rw [sl_bs, sl_bs]; exact (by rw [hbs200]; exact hs1.symm)) (by simp) (by simp) hsz hsn) ?_
    rintro _ w ⟨rfl, hch⟩
    refine ⟨_, rfl, ?_⟩
    replace hp := hp.call hch
    clear hch
    refine st_on (j := 4) rfl rfl ?_
    refine st_v (ov_not rfl) rfl ?_
    refine st_v (ov_pick_f rfl rfl) rfl ?_
    refine st_nil ?_
    refine pn_then ?_
    refine sc_false rfl ?_
    refine sc_skip ?_
    refine pn_then ?_
    refine sc_seq ?_
    refine sc_region ?_
    refine st_v (ov_move rfl) rfl ?_
    refine st_v (ov_neq rfl rfl) rfl ?_
    refine st_v (ov_move rfl) rfl ?_
    refine st_split (j := 146) rfl (fun hb => ?_) (fun hb => ?_)
    ·
      have hb := of_decide_eq_true hb
      refine st_off (j := 2) rfl rfl rfl rfl ?_
      refine st_off (j := 2) rfl rfl rfl rfl ?_
      refine st_off (j := 2) rfl rfl rfl rfl ?_
      refine st_off (j := 2) rfl rfl rfl rfl ?_
      refine st_off (j := 2) rfl rfl rfl rfl ?_
      refine st_off (j := 2) rfl rfl rfl rfl ?_
      refine st_off (j := 2) rfl rfl rfl rfl ?_
      refine st_v (ov_pick_t rfl rfl) rfl ?_
      refine st_v (ov_assign rfl) rfl ?_
      refine st_nil ?_
      refine pn_then ?_
      refine sc_ret ?_
      refine pr_one rfl rfl ?_
      exact ⟨rfl, hp.chg⟩
    ·
      have hb := of_decide_eq_false hb
      refine st_on (j := 2) rfl rfl ?_
      refine st_v (ov_move rfl) rfl ?_
      refine st_on (j := 2) rfl rfl ?_
      refine st_call pl28 rfl rfl rfl (held_walk r1 st1 g1 part1.length want1 er1 _ (hp.cells' (t := 70) rfl) (by omega)) ?_
      rintro _ w ⟨rfl, hch⟩
      refine ⟨_, rfl, ?_⟩
      replace hp := hp.call hch
      clear hch
      rw [hh1]
      refine st_on (j := 2) rfl rfl ?_
      refine st_v (ov_move rfl) rfl ?_
      refine st_on (j := 2) rfl rfl ?_
      refine st_v (ov_len rfl Try.underlying26 rfl) rfl ?_
      refine st_on (j := 2) rfl rfl ?_
      refine st_v (ov_move rfl) rfl ?_
      refine st_on (j := 2) rfl rfl ?_
      refine st_v (ov_sub_i64 rfl rfl (by have := hkl1 (by omega); omega)) rfl ?_
      refine st_on (j := 2) rfl rfl ?_
      refine st_v (v := .bool true) ((ov_eql rfl rfl).is (congrArg Value.bool (decide_eq_true (by rw [if_pos (by omega)]; have := hkl1 (by omega); omega)))) rfl ?_
      refine st_v (ov_pick_f rfl rfl) rfl ?_
      refine st_v (ov_assign rfl) rfl ?_
      refine st_nil ?_
      refine pn_then ?_
      refine sc_ret ?_
      refine pr_one rfl rfl ?_
      exact ⟨rfl, hp.chg⟩

end Go.Proofs.Ythebbenfmoknbaa

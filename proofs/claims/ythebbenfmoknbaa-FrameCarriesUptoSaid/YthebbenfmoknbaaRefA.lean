/-
  The walks of the plain reader.
-/
import Derived.Test.YthebbenfmoknbaaRdrA
namespace Go.Proofs.Ythebbenfmoknbaa
open Go Go.RowKit

set_option maxRecDepth 100000 in
theorem read_walk (q : Nat) (hello : Bool) (g : Gs) (n : Nat) (why : Int) (b : List UInt8) {nb : Nat} (ao : Option Addr) (ca : Nat) (w0 : World) (hB : Cells w0 q 0 (rdq hello g n why)) (h1 : Rd w0 ao (b.map B8)) (hb : b.length = nb) (hca : nb ≤ ca) (hz : nb ≤ 1099511627776) :
    Calls Try.prog 43 #[.pointer (some ⟨q, 0, none⟩), .slice ao nb ca] w0 fun e w' => ReadQ w0 w' e (readS hello b) := by
  refine calls_in Try.func43 Try.ntmps43 rfl rfl ?_
  have hp := Hp.start w0
  subst hb
  refine sc_seq ?_
  refine sc_region ?_
  refine st_v (ov_assign rfl) rfl ?_
  refine st_v (ov_assign rfl) rfl ?_
  refine st_v (ov_assign rfl) rfl ?_
  refine st_v (ov_assign rfl) rfl ?_
  refine st_nil ?_
  refine pn_then ?_
  refine sc_seq ?_
  refine sc_seq ?_
  refine sc_region ?_
  refine st_v (ov_move rfl) rfl ?_
  refine st_v (ov_nilCheck rfl) rfl ?_
  refine st_v (ov_field (q := _) rfl Try.underlying72 rfl sz4 rfl) rfl ?_
  refine st_v (ov_load1 rfl Try.underlying4 rfl ((hp.old hB (by simp)).at 0 (by first | rfl | omega) rfl)) rfl ?_
  refine st_v (ov_not rfl) rfl ?_
  refine st_nil ?_
  refine pn_then ?_
  refine sc_cond rfl (fun hc => ?_) (fun hc => ?_)
  ·
    obtain rfl : hello = false := by simpa using hc
    refine sc_seq ?_
    refine sc_region ?_
    refine st_v (ov_move rfl) rfl ?_
    refine st_call pl39 rfl rfl rfl (splitr_walk b ao ca 0 _ (h1.chg hp.chg) rfl hca (by omega) hz) ?_
    rintro _ w ⟨gb, bs, rfl, hL, hcb, hbs, hfit⟩
    refine ⟨_, rfl, ?_⟩
    replace hp := hp.backX (o1 := [⟨gb.ob, bs.map Bs.v ++ gb.sp, 26⟩]) [] [8] (by simp) rfl hL (by simp) rfl (by simp)
    clear hL
    replace hp := hp.nil 13 25
    refine st_v (ov_move rfl) rfl ?_
    refine st_v (ov_extract rfl rfl) rfl ?_
    refine st_v (ov_extract rfl rfl) rfl ?_
    refine st_v (ov_extract rfl rfl) rfl ?_
    refine st_v (ov_assign rfl) rfl ?_
    refine st_v (ov_assign rfl) rfl ?_
    refine st_v (ov_assign rfl) rfl ?_
    refine st_nil ?_
    refine pn_then ?_
    refine sc_seq ?_
    refine sc_region ?_
    refine st_v (ov_move rfl) rfl ?_
    refine st_v (ov_move rfl) rfl ?_
    refine st_v (ov_move rfl) rfl ?_
    refine st_v (ov_assign rfl) rfl ?_
    refine st_v (ov_assign rfl) rfl ?_
    refine st_v (ov_assign rfl) rfl ?_
    refine st_v (ov_assign rfl) rfl ?_
    refine st_nil ?_
    refine pn_then ?_
    refine sc_ret ?_
    refine pr_then ?_
    refine pr_four rfl rfl rfl rfl rfl ?_
    rw [read_no]
    exact ⟨gnil, gb, [], bs, rfl, hp.left (i := []) [13, 8] (by simp) rfl, rfl, hcb, hfit, rfl, hbs⟩
  ·
    obtain rfl : hello = true := by simpa using hc
    refine sc_skip ?_
    refine pn_then ?_
    refine sc_seq ?_
    have hmL := (meetH b).2
    refine sc_region ?_
    refine st_v (ov_move rfl) rfl ?_
    refine st_call pl19 rfl rfl rfl (meetr_walk b _ _ _ (h1.chg hp.chg) rfl hca (by omega)) ?_
    rintro _ w ⟨rfl, hch⟩
    refine ⟨_, rfl, ?_⟩
    replace hp := hp.call hch
    clear hch
    refine st_v (ov_move rfl) rfl ?_
    refine st_v (ov_extract rfl rfl) rfl ?_
    refine st_v (ov_extract rfl rfl) rfl ?_
    refine st_alloc 11 ((List.replicate 48 (0 : UInt8)).map B8) hp rfl zl25 rfl (fun b11 w hp => ?_)
    refine st_storeA 11 hp rfl rfl rfl (by first | (simp; done) | (simp [*]; done) | (simp; omega) | (simp [*]; omega)) (sz25.trans (by first | (simp; done) | (simp [*]; done) | (simp; omega))) (one_all _) (fun w hp => ?_)
    refine st_v (ov_assign rfl) rfl ?_
    refine st_nil ?_
    refine pn_then ?_
    refine sc_seq ?_
    refine sc_seq ?_
    refine sc_region ?_
    refine st_v (ov_move rfl) rfl ?_
    refine st_v (ov_eql rfl rfl) rfl ?_
    refine st_nil ?_
    refine pn_then ?_
    refine sc_cond rfl (fun hc => ?_) (fun hc => ?_)
    ·
      have hc := of_decide_eq_true hc
      refine sc_seq ?_
      refine sc_region ?_
      refine st_v (ov_assign rfl) rfl ?_
      refine st_v (ov_assign rfl) rfl ?_
      refine st_v (ov_assign rfl) rfl ?_
      refine st_v (ov_assign rfl) rfl ?_
      refine st_nil ?_
      refine pn_then ?_
      refine sc_ret ?_
      refine pr_then ?_
      refine pr_four rfl rfl rfl rfl rfl ?_
      rw [read_bad hc]
      replace hp := (hp.nil 13 25).nil 8 26
      exact ⟨gnil, gnil, [], [], rfl, hp.left (i := []) [13, 8] (by simp) rfl, rfl, rfl, (fun x h => by cases h), rfl, rfl⟩
    ·
      have hc := of_decide_eq_false hc
      refine sc_skip ?_
      refine pn_then ?_
      refine sc_seq ?_
      refine sc_seq ?_
      refine sc_region ?_
      refine st_v (ov_move rfl) rfl ?_
      refine st_v (ov_neq rfl rfl) rfl ?_
      refine st_nil ?_
      refine pn_then ?_
      refine sc_cond rfl (fun hc => ?_) (fun hc => ?_)
      ·
        have hc := of_decide_eq_true hc
        refine sc_seq ?_
        refine sc_region ?_
        refine st_v (ov_assign rfl) rfl ?_
        refine st_v (ov_assign rfl) rfl ?_
        refine st_v (ov_assign rfl) rfl ?_
        refine st_v (ov_assign rfl) rfl ?_
        refine st_nil ?_
        refine pn_then ?_
        refine sc_ret ?_
        refine pr_then ?_
        refine pr_four rfl rfl rfl rfl rfl ?_
        rw [read_wait ‹_› hc]
        replace hp := (hp.nil 13 25).nil 8 26
        exact ⟨gnil, gnil, [], [], rfl, hp.left (i := []) [13, 8] (by simp) rfl, rfl, rfl, (fun x h => by cases h), rfl, rfl⟩
      ·
        have hc := of_decide_eq_false hc
        have hme : meetE b = 0 := by omega
        have hb68 := (meetE_zero hme).1
        refine sc_skip ?_
        refine pn_then ?_
        refine sc_seq ?_
        refine sc_region ?_
        refine st_v (ov_loadN rfl Try.underlying25 rfl (sz25.trans (by first | (simp; done) | (simp [*]; done) | (simp; omega))) (hp.cells' (t := 11) rfl)) rfl ?_
        refine st_build 41 (cells := hcs (meetH b)) hp rfl rfl Try.underlying48 (in2_of in25) (by decide) (fill_one (hcs_len _) rfl) (fun b41 w hb41 hp => ?_)
        refine st_v (ov_assign rfl) rfl ?_
        refine st_nil ?_
        refine pn_then ?_
        refine sc_seq ?_
        refine sc_region ?_
        refine st_v (ov_move rfl) rfl ?_
        refine st_call pl39 rfl rfl rfl (splitr_walk b ao ca 68 _ (h1.chg hp.chg) rfl hca hb68 hz) ?_
        rintro _ w ⟨gb, bs, rfl, hL, hcb, hbs, hfit⟩
        refine ⟨_, rfl, ?_⟩
        replace hp := hp.backX (o1 := [⟨gb.ob, bs.map Bs.v ++ gb.sp, 26⟩]) [] [8] (by simp) rfl hL (by simp) rfl (by simp)
        clear hL
        refine st_v (ov_move rfl) rfl ?_
        refine st_v (ov_extract rfl rfl) rfl ?_
        refine st_v (ov_extract rfl rfl) rfl ?_
        refine st_v (ov_extract rfl rfl) rfl ?_
        refine st_v (ov_assign rfl) rfl ?_
        refine st_v (ov_assign rfl) rfl ?_
        refine st_v (ov_assign rfl) rfl ?_
        refine st_nil ?_
        refine pn_then ?_
        refine sc_seq ?_
        refine sc_region ?_
        refine st_v (ov_move rfl) rfl ?_
        refine st_v (ov_move rfl) rfl ?_
        refine st_v (ov_move rfl) rfl ?_
        refine st_v (ov_move rfl) rfl ?_
        refine st_v (ov_assign rfl) rfl ?_
        refine st_v (ov_assign rfl) rfl ?_
        refine st_v (ov_assign rfl) rfl ?_
        refine st_v (ov_assign rfl) rfl ?_
        refine st_nil ?_
        refine pn_then ?_
        refine sc_ret ?_
        refine pr_four rfl rfl rfl rfl rfl ?_
        rw [read_yes hme]
        rw [show hcs (meetH b) = [meetH b].flatMap hcs ++ ([] : List Value) by simp] at hp
        exact ⟨⟨some b41, 1, []⟩, gb, [meetH b], bs, rfl, hp.left (i := []) [41, 8] (by simp) rfl, by simp [hcs_len], hcb, hfit, rfl, hbs⟩

set_option maxRecDepth 100000 in
theorem pushq_walk (q : Nat) (hello : Bool) (g : Gs) (all b : List UInt8) {nb : Nat} (ao : Option Addr) (ca : Nat) (w0 : World) (hO : Owns w0 (qck q hello g all 0)) (hcg : (all.map B8 ++ g.sp).length = g.cap * 1)
    (h1 : Rd w0 ao (b.map B8)) (hoff : Offs (qck q hello g all 0) ao (b.map B8)) (hb : b.length = nb) (hz : (all ++ b).length ≤ 1099511627776) :
    Calls Try.prog 26 #[.pointer (some ⟨q, 0, none⟩), .slice ao nb ca] w0 fun e w' => ∃ (g' : Gs) (mt : List Hl) (l : List Sl) (ao1 ao2 : Option Addr) (c1 c2 : Nat) (err : Int), e = .returned (.tuple #[.slice ao1 mt.length c1, .slice ao2 l.length c2, .int .i64 err]) ∧
      Left w0 w' (qck q hello g all 0) (qck q hello g' (all ++ b) err) ∧ ((all ++ b).map B8 ++ g'.sp).length = g'.cap * 1 ∧ Rd w' ao1 (mt.flatMap hcs) ∧ Rd w' ao2 (l.map Sl.v) ∧ RdAll w' l ∧
      mt = (readS hello (all ++ b)).1.drop (readS hello all).1.length ∧ l.map Sl.bs = (readS hello (all ++ b)).2.1.drop (readS hello all).2.1.length ∧ err = (readS hello (all ++ b)).2.2.2 := by
  refine calls_in Try.func26 Try.ntmps26 rfl rfl ?_
  have hp : Hp w0 (blks (qck q hello g all 0)) [(0, ⟨some q, rdq hello g all.length 0, 72⟩), (100, ⟨g.ob, all.map B8 ++ g.sp, 5⟩)] [] w0 := Hp.begin [0, 100] hO
  subst hb
  have hz2 : all.length + b.length ≤ 1099511627776 := by rw [← List.length_append]; exact hz
  refine sc_seq ?_
  refine sc_region ?_
  refine st_v (ov_assign rfl) rfl ?_
  refine st_v (ov_assign rfl) rfl ?_
  refine st_v (ov_assign rfl) rfl ?_
  refine st_nil ?_
  refine pn_then ?_
  refine sc_seq ?_
  refine sc_seq ?_
  refine sc_region ?_
  refine st_v (ov_move rfl) rfl ?_
  refine st_v (ov_eqlP Try.underlying43 rfl rfl) rfl ?_
  refine st_nil ?_
  refine pn_then ?_
  refine sc_cond rfl (fun hc => ?_) (fun hc => ?_)
  · exact absurd hc (by simp)
  skip
  refine sc_skip ?_
  refine pn_then ?_
  refine sc_seq ?_
  refine sc_seq ?_
  refine sc_region ?_
  refine st_v (ov_move rfl) rfl ?_
  refine st_v (ov_nilCheck rfl) rfl ?_
  refine st_v (ov_field (q := 2) rfl Try.underlying72 rfl sz31 rfl) rfl ?_
  refine st_v (ov_load1 rfl Try.underlying31 rfl ((hp.cells' (t := 0) rfl).at 2 (by simp) rfl)) rfl ?_
  refine st_v (ov_neq rfl rfl) rfl ?_
  refine st_nil ?_
  refine pn_then ?_
  refine sc_cond rfl (fun hc => ?_) (fun hc => ?_)
  · exact absurd hc (by simp)
  skip
  refine sc_skip ?_
  refine pn_then ?_
  refine sc_seq ?_
  refine sc_region ?_
  refine st_v (ov_move rfl) rfl ?_
  refine st_v (ov_move rfl) rfl ?_
  refine st_v (ov_nilCheck rfl) rfl ?_
  refine st_v (ov_field (q := 1) rfl Try.underlying72 rfl sz26 rfl) rfl ?_
  refine st_v (ov_load1 rfl Try.underlying26 rfl ((hp.cells' (t := 0) rfl).at 1 (by simp) rfl)) rfl ?_
  refine st_call pl43 rfl rfl rfl (read_walk q hello g all.length 0 all _ _ _ (hp.cells' (t := 0) rfl) (Rd.own (hp.own 100 _ rfl)) rfl (gcap1 hcg) (by omega)) ?_
  rintro _ w ⟨gm1, gb1, mt1, bs1, rfl, hL, hcm1, hcb1, hfit1, hmt1, hbs1⟩
  refine ⟨_, rfl, ?_⟩
  replace hp := (hp.backX (o1 := [⟨gm1.ob, mt1.flatMap hcs ++ gm1.sp, 25⟩, ⟨gb1.ob, bs1.map Bs.v ++ gb1.sp, 26⟩]) [] [7, 8] (by simp) rfl hL (by simp) rfl (by simp)).forget
  clear hL
  simp only [tg, List.cons_append, List.nil_append] at hp
  refine st_v (ov_move rfl) rfl ?_
  refine st_v (ov_extract rfl rfl) rfl ?_
  refine st_v (ov_extract rfl rfl) rfl ?_
  refine st_v (ov_extract rfl rfl) rfl ?_
  refine st_v (ov_extract rfl rfl) rfl ?_
  refine st_v (ov_assign rfl) rfl ?_
  refine st_v (ov_assign rfl) rfl ?_
  refine st_v (ov_assign rfl) rfl ?_
  refine st_v (ov_assign rfl) rfl ?_
  refine st_nil ?_
  refine pn_then ?_
  refine sc_seq ?_
  refine sc_region ?_
  refine st_v (ov_move rfl) rfl ?_
  refine st_v (ov_move rfl) rfl ?_
  refine st_v (ov_nilCheck rfl) rfl ?_
  refine st_v (ov_field (q := 1) rfl Try.underlying72 rfl sz26 rfl) rfl ?_
  refine st_v (ov_load1 rfl Try.underlying26 rfl ((hp.cells' (t := 0) rfl).at 1 (by simp) rfl)) rfl ?_
  refine st_v (ov_move rfl) rfl ?_
  refine st_append 100 g (xs := all.map B8) (news := b.map B8) (m := b.length) hp rfl rfl rfl rfl rfl Try.underlying26 in5 (by decide) rfl (by simp) hcg (h1.chgL hp.chg hoff) (by simp) (one_all _) (by omega) (fun g2 w hp hcap hf100 => ?_)
  rw [← List.map_append] at hp hcap
  rw [← List.length_append]
  refine st_v (ov_nilCheck rfl) rfl ?_
  refine st_v (ov_field (q := 1) rfl Try.underlying72 rfl sz26 rfl) rfl ?_
  refine st_store1 0 hp rfl rfl rfl rfl sz26 (by simp) (fun w hp => ?_)
  simp only [List.set_cons_zero, List.set_cons_succ] at hp
  refine st_nil ?_
  refine pn_then ?_
  refine sc_seq ?_
  replace hz2 := gcap1 hcap
  refine sc_region ?_
  refine st_v (ov_move rfl) rfl ?_
  refine st_v (ov_move rfl) rfl ?_
  refine st_v (ov_nilCheck rfl) rfl ?_
  refine st_v (ov_field (q := 1) rfl Try.underlying72 rfl sz26 rfl) rfl ?_
  refine st_v (ov_load1 rfl Try.underlying26 rfl ((hp.cells' (t := 0) rfl).at 1 (by simp) rfl)) rfl ?_
  refine st_call pl43 rfl rfl rfl (read_walk q hello g2 (all ++ b).length 0 (all ++ b) _ _ _ (hp.cells' (t := 0) rfl) (Rd.own (hp.own 100 _ rfl)) rfl (gcap1 hcap) hz) ?_
  rintro _ w ⟨gm2, gb2, mt2, bs2, rfl, hL, hcm2, hcb2, hfit2, hmt2, hbs2⟩
  refine ⟨_, rfl, ?_⟩
  replace hp := (hp.backX (o1 := [⟨gm2.ob, mt2.flatMap hcs ++ gm2.sp, 25⟩, ⟨gb2.ob, bs2.map Bs.v ++ gb2.sp, 26⟩]) [] [11, 12] (by simp) rfl hL (by simp) rfl (by simp))
  clear hL
  simp only [tg, List.cons_append, List.nil_append] at hp
  refine st_v (ov_move rfl) rfl ?_
  refine st_v (ov_extract rfl rfl) rfl ?_
  refine st_v (ov_extract rfl rfl) rfl ?_
  refine st_v (ov_extract rfl rfl) rfl ?_
  refine st_v (ov_extract rfl rfl) rfl ?_
  refine st_v (ov_assign rfl) rfl ?_
  refine st_v (ov_assign rfl) rfl ?_
  refine st_v (ov_assign rfl) rfl ?_
  refine st_v (ov_assign rfl) rfl ?_
  refine st_nil ?_
  refine pn_then ?_
  refine sc_seq ?_
  refine sc_region ?_
  refine st_v (ov_move rfl) rfl ?_
  refine st_v (ov_move rfl) rfl ?_
  refine st_v (ov_nilCheck rfl) rfl ?_
  refine st_v (ov_field (q := 2) rfl Try.underlying72 rfl sz31 rfl) rfl ?_
  refine st_store1 0 hp rfl rfl rfl rfl sz31 (by simp) (fun w hp => ?_)
  simp only [List.set_cons_zero, List.set_cons_succ] at hp
  refine st_nil ?_
  refine pn_then ?_
  refine sc_seq ?_
  have hlm : mt1.length ≤ mt2.length := by rw [hmt1, hmt2]; exact (read_mono hello all b).1
  have hlb : bs1.length ≤ bs2.length := by have e1 := congrArg List.length hbs1; have e2 := congrArg List.length hbs2; rw [List.length_map] at e1 e2; rw [e1, e2]; exact (read_mono hello all b).2
  refine sc_draws (by kernel_rfl) (by kernel_rfl) ?_
  replace hp := hp.drew
  refine ss_v (ov_move rfl) rfl ?_
  refine ss_v (ov_move rfl) rfl ?_
  refine ss_v (ov_len rfl Try.underlying48 rfl) rfl ?_
  refine ss_v (ov_slice_lo Try.underlying48 sz25 rfl rfl (by omega)) rfl ?_
  rw [Int.toNat_natCast]
  refine ss_v (ov_move rfl) rfl ?_
  refine ss_v (ov_move rfl) rfl ?_
  refine ss_v (ov_len rfl Try.underlying37 rfl) rfl ?_
  refine ss_v (ov_slice_lo Try.underlying37 sz26 rfl rfl (by omega)) rfl ?_
  rw [Int.toNat_natCast]
  refine ss_v (ov_move rfl) rfl ?_
  refine ss_v (ov_assign rfl) rfl ?_
  refine ss_v (ov_assign rfl) rfl ?_
  refine ss_v (ov_assign rfl) rfl ?_
  refine ss_end ?_
  refine pn_then ?_
  refine sc_ret ?_
  refine pr_three rfl rfl rfl rfl ?_
  have hcm : mt2.length ≤ gm2.cap := by have h9 := hcm2; rw [List.length_append, flat_len hcs_len] at h9; omega
  have hcb : bs2.length ≤ gb2.cap := gcap1 hcb2
  refine ⟨g2, mt2.drop mt1.length, (bs2.map Bs.sl).drop bs1.length, sla (adr gm2.ob) gm2.cap mt1.length 48, sla (adr gb2.ob) gb2.cap bs1.length 1, gm2.cap - mt1.length, gb2.cap - bs1.length, (readS hello (all ++ b)).2.2.2, by rw [List.length_drop, List.length_drop, List.length_map]; rfl, hp.forget.left' (i := qck q hello g all 0) [0, 100] (by simp) rfl, hcap, Rd.dropF hcs_len (Rd.own (hp.own 11 _ rfl)) hcm, ?_, ?_, by rw [hmt1, hmt2], ?_, rfl⟩
  · have h8 : Rd w (adr gb2.ob) ((bs2.map Bs.sl).map Sl.v) := by rw [← map_v]; exact Rd.own (hp.own 12 _ rfl)
    exact h8.dropM (by simpa using hcb)
  · exact fun s hs => hp.rdAll (fun x hx => by have h9 := List.mem_map_of_mem (f := Bs.ck) hx; simp only [List.mem_append, h9, true_or, or_true]) hfit2 s (List.mem_of_mem_drop hs)
  · rw [List.map_drop, sl_bs, hbs2, ← hbs1, List.length_map]

set_option maxRecDepth 100000 in
theorem newq_walk (hello : Bool) (w0 : World) :
    Calls Try.prog 24 #[.bool hello] w0 fun e w' => ∃ q, e = .returned (.pointer (some ⟨q, 0, none⟩)) ∧ Left w0 w' [] (qck q hello gnil [] 0) := by
  refine calls_in Try.func24 Try.ntmps24 rfl rfl ?_
  have hp := Hp.start w0
  refine sc_seq ?_
  refine sc_region ?_
  refine st_v (ov_assign rfl) rfl ?_
  refine st_nil ?_
  refine pn_then ?_
  refine sc_seq ?_
  refine sc_region ?_
  refine st_v (ov_move rfl) rfl ?_
  refine st_v (ov_buildS (pl := #[(0, 1), (1, 1), (2, 1)]) (cells := rdq hello gnil 0 0) rfl Try.underlying72 zl72 (by intro w; kernel_rfl) (by kernel_rfl)) rfl ?_
  refine st_box 5 hp rfl rfl rfl (fun b5 w hp => ?_)
  refine st_v (ov_assign rfl) rfl ?_
  refine st_nil ?_
  refine pn_then ?_
  refine sc_ret ?_
  refine pr_one rfl rfl ?_
  replace hp := hp.nil 100 5
  exact ⟨_, rfl, hp.left' (i := []) [5, 100] (by simp) rfl⟩

end Go.Proofs.Ythebbenfmoknbaa

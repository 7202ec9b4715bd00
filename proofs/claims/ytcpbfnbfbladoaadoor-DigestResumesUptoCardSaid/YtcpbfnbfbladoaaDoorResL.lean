/-
  The walk of the law DigestResumes.
-/
import Derived.Test.YtcpbfnbfbladoaaDoorMidA
namespace Go.Proofs.YtcpbfnbfbladoaaDoor
open Go Go.RowKit

set_option maxRecDepth 100000 in
theorem law_resumes_bad (mst : List UInt32) (hst : mst.length = 8) (md : Int) (mt : List UInt8) (mao : Option Addr) (mca : Nat) (b : List UInt8) (ao : Option Addr) (ca : Nat) (w0 : World) (hm : Rd w0 mao (mt.map B8)) (hmz : mt.length ≤ 1048576) (h1 : Rd w0 ao (b.map B8)) (hz : b.length ≤ 1048576) (hk : Cells w0 0 0 (kL.map B32)) (hf : Cells w0 1 0 (fL.map B32)) (hb : midBad mst md mt) :
    Calls Tryd.prog 7 #[.agg (midc mst md mao mt.length mca).toArray, .slice ao b.length ca] w0 fun e w' => e = .returned (.bool true) ∧ Chg [] w0 w' := by
  refine calls_in Tryd.func7 Tryd.ntmps7 rfl rfl ?_
  have hp := Hp.start w0
  refine sc_seq ?_
  refine sc_region ?_
  refine st_box 2 hp rfl rfl rfl (fun b2 w hp => ?_)
  refine st_v (ov_assign rfl) rfl ?_
  refine st_nil ?_
  refine pn_then ?_
  refine sc_seq ?_
  refine sc_region ?_
  refine st_v (ov_loadN rfl Tryd.underlying51 rfl (sz51.trans (by rw [midc_len hst])) (hp.cells' (t := 2) rfl)) rfl ?_
  refine st_alloc 5 (midc (List.replicate 8 0) 0 none 0 0) hp rfl zl51 rfl (fun b5 w hp => ?_)
  refine st_storeA 5 hp rfl rfl rfl (by simp [hst]) (sz51.trans (by rw [midc_len hst])) midc_one (fun w hp => ?_)
  refine st_nil ?_
  refine pn_then ?_
  refine sc_seq ?_
  refine sc_region ?_
  refine st_v (ov_field (q := 9) rfl Tryd.underlying51 rfl sz33 rfl) rfl ?_
  refine st_v (ov_load1 rfl Tryd.underlying33 rfl (midc_tail (hp.cells' (t := 2) rfl) hst)) rfl ?_
  refine st_call pl18 rfl rfl rfl (copied2_walk mt _ _ _ ((hm.chg hp.chg)) (by first | rfl | omega | (simp; done) | (simp; omega) | (simp [*]; omega)) (by omega)) ?_
  rintro _ w ⟨g15, rfl, hm15⟩
  refine ⟨_, rfl, ?_⟩
  replace hp := hp.got 15 hm15
  have hc15 := hm15.2
  clear hm15
  refine st_v (ov_field (q := 9) rfl Tryd.underlying51 rfl sz33 rfl) rfl ?_
  refine st_store1 5 hp rfl rfl rfl rfl sz33 (by simp [hst]) (fun w hp => ?_)
  rw [midc_set9 hst] at hp
  refine st_nil ?_
  refine pn_then ?_
  refine sc_seq ?_
  refine sc_region ?_
  refine st_v (ov_loadN rfl Tryd.underlying51 rfl (sz51.trans (by rw [midc_len hst])) (hp.cells' (t := 5) rfl)) rfl ?_
  refine st_call pl26 rfl rfl rfl (resume_bad mst hst md mt _ _ _ (Rd.own (hp.own 15 _ rfl)) (by omega) (hp.old hk (by simp)) (hp.old hf (by simp)) hb) ?_
  rintro _ w ⟨rfl, hch⟩
  refine ⟨_, rfl, ?_⟩
  replace hp := hp.call hch
  clear hch
  refine st_v (ov_move rfl) rfl ?_
  refine st_v (ov_extract rfl rfl) rfl ?_
  refine st_v (ov_extract rfl rfl) rfl ?_
  refine st_v (ov_assign rfl) rfl ?_
  refine st_v (ov_assign rfl) rfl ?_
  refine st_nil ?_
  refine pn_then ?_
  refine sc_seq ?_
  refine sc_region ?_
  refine st_v (ov_loadN rfl Tryd.underlying51 rfl (sz51.trans (by rw [midc_len hst])) (hp.cells' (t := 2) rfl)) rfl ?_
  refine st_call pl27 rfl rfl rfl (resumer_bad mst hst md mt _ _ _ (hm.chg hp.chg) (by omega) hb) ?_
  rintro _ w ⟨rfl, hch⟩
  refine ⟨_, rfl, ?_⟩
  replace hp := hp.call hch
  clear hch
  refine st_v (ov_move rfl) rfl ?_
  refine st_v (ov_extract rfl rfl) rfl ?_
  refine st_v (ov_extract rfl rfl) rfl ?_
  refine st_v (ov_assign rfl) rfl ?_
  refine st_v (ov_assign rfl) rfl ?_
  refine st_nil ?_
  refine pn_then ?_
  refine sc_seq ?_
  refine sc_seq ?_
  refine sc_region ?_
  refine st_v (ov_move rfl) rfl ?_
  refine st_v (ov_move rfl) rfl ?_
  refine st_v (v := .bool false) ((ov_neq rfl rfl).is ((by simp))) rfl ?_
  refine st_v (ov_move rfl) rfl ?_
  refine st_on (j := 3) rfl rfl ?_
  refine st_v (ov_move rfl) rfl ?_
  refine st_on (j := 3) rfl rfl ?_
  refine st_v (v := .bool true) ((ov_eqlP Tryd.underlying52 rfl rfl).is (rfl)) rfl ?_
  refine st_on (j := 3) rfl rfl ?_
  refine st_v (ov_move rfl) rfl ?_
  refine st_on (j := 3) rfl rfl ?_
  refine st_v (v := .bool true) ((ov_eqlP Tryd.underlying55 rfl rfl).is (rfl)) rfl ?_
  refine st_on (j := 3) rfl rfl ?_
  refine st_v (v := .bool false) ((ov_neqB Tryd.underlying4 rfl rfl).is ((by simp))) rfl ?_
  refine st_v (ov_pick_f rfl rfl) rfl ?_
  refine st_v (ov_move rfl) rfl ?_
  refine st_on (j := 10) rfl rfl ?_
  refine st_v (ov_field (q := 9) rfl Tryd.underlying51 rfl sz33 rfl) rfl ?_
  refine st_on (j := 10) rfl rfl ?_
  refine st_v (ov_load1 rfl Tryd.underlying33 rfl (midc_tail (hp.cells' (t := 5) rfl) hst)) rfl ?_
  refine st_on (j := 10) rfl rfl ?_
  refine st_v (ov_field (q := 9) rfl Tryd.underlying51 rfl sz33 rfl) rfl ?_
  refine st_on (j := 10) rfl rfl ?_
  refine st_v (ov_load1 rfl Tryd.underlying33 rfl (midc_tail (hp.cells' (t := 2) rfl) hst)) rfl ?_
  refine st_on (j := 10) rfl rfl ?_
  refine st_call pl25 rfl rfl rfl (same2_walk_eq mt _ _ _ _ _ (Rd.own (hp.own 15 _ rfl)) ((hm.chg hp.chg)) (by first | rfl | omega | (simp; done) | (simp; omega) | (simp [*]; omega)) (by first | rfl | omega | (simp; done) | (simp; omega) | (simp [*]; omega)) (by first | omega | (simp; omega))) ?_
  rintro _ w ⟨rfl, hch⟩
  refine ⟨_, rfl, ?_⟩
  replace hp := hp.call hch
  clear hch
  refine st_on (j := 10) rfl rfl ?_
  refine st_v (ov_not rfl) rfl ?_
  refine st_v (ov_pick_f rfl rfl) rfl ?_
  refine st_nil ?_
  refine pn_then ?_
  refine sc_false rfl ?_
  refine sc_skip ?_
  refine pn_then ?_
  refine sc_seq ?_
  refine sc_seq ?_
  refine sc_region ?_
  refine st_v (ov_move rfl) rfl ?_
  refine st_v (v := .bool true) ((ov_eqlP Tryd.underlying52 rfl rfl).is (rfl)) rfl ?_
  refine st_nil ?_
  refine pn_then ?_
  refine sc_true rfl ?_
  refine sc_seq ?_
  refine sc_region ?_
  refine st_v (ov_assign rfl) rfl ?_
  refine st_nil ?_
  refine pn_then ?_
  refine sc_ret ?_
  refine pr_then ?_
  refine pr_one rfl rfl ?_
  exact ⟨rfl, hp.chg⟩

set_option maxRecDepth 100000 in
theorem law_resumes_good (mst : List UInt32) (hst : mst.length = 8) (md : Int) (mt : List UInt8) (mao : Option Addr) (mca : Nat) (b : List UInt8) (ao : Option Addr) (ca : Nat) (w0 : World) (hm : Rd w0 mao (mt.map B8)) (hmz : mt.length ≤ 1048576) (h1 : Rd w0 ao (b.map B8)) (hz : b.length ≤ 1048576) (hk : Cells w0 0 0 (kL.map B32)) (hf : Cells w0 1 0 (fL.map B32)) (hng : ¬ midBad mst md mt) :
    Calls Tryd.prog 7 #[.agg (midc mst md mao mt.length mca).toArray, .slice ao b.length ca] w0 fun e w' => e = .returned (.bool true) ∧ Chg [] w0 w' := by
  refine calls_in Tryd.func7 Tryd.ntmps7 rfl rfl ?_
  have hp := Hp.start w0
  have hsz0 : 0 < w0.heap.size := hk.lt (by simp [kL])
  obtain ⟨bf, rfl, hbf, htl, hle, _⟩ := mid_good hng
  refine sc_seq ?_
  refine sc_region ?_
  refine st_box 2 hp rfl rfl rfl (fun b2 w hp => ?_)
  refine st_v (ov_assign rfl) rfl ?_
  refine st_nil ?_
  refine pn_then ?_
  refine sc_seq ?_
  refine sc_region ?_
  refine st_v (ov_loadN rfl Tryd.underlying51 rfl (sz51.trans (by rw [midc_len hst])) (hp.cells' (t := 2) rfl)) rfl ?_
  refine st_alloc 5 (midc (List.replicate 8 0) 0 none 0 0) hp rfl zl51 rfl (fun b5 w hp => ?_)
  refine st_storeA 5 hp rfl rfl rfl (by simp [hst]) (sz51.trans (by rw [midc_len hst])) midc_one (fun w hp => ?_)
  refine st_nil ?_
  refine pn_then ?_
  refine sc_seq ?_
  refine sc_region ?_
  refine st_v (ov_field (q := 9) rfl Tryd.underlying51 rfl sz33 rfl) rfl ?_
  refine st_v (ov_load1 rfl Tryd.underlying33 rfl (midc_tail (hp.cells' (t := 2) rfl) hst)) rfl ?_
  refine st_call pl18 rfl rfl rfl (copied2_walk mt _ _ _ ((hm.chg hp.chg)) (by first | rfl | omega | (simp; done) | (simp; omega) | (simp [*]; omega)) (by omega)) ?_
  rintro _ w ⟨g15, rfl, hm15⟩
  refine ⟨_, rfl, ?_⟩
  replace hp := hp.got 15 hm15
  have hc15 := hm15.2
  clear hm15
  refine st_v (ov_field (q := 9) rfl Tryd.underlying51 rfl sz33 rfl) rfl ?_
  refine st_store1 5 hp rfl rfl rfl rfl sz33 (by simp [hst]) (fun w hp => ?_)
  rw [midc_set9 hst] at hp
  refine st_nil ?_
  refine pn_then ?_
  refine sc_seq ?_
  refine sc_region ?_
  refine st_v (ov_loadN rfl Tryd.underlying51 rfl (sz51.trans (by rw [midc_len hst])) (hp.cells' (t := 5) rfl)) rfl ?_
  refine st_call pl26 rfl rfl rfl (resume_good mst hst bf mt _ _ _ (Rd.own (hp.own 15 _ rfl)) (by omega) (hp.old hk (by simp)) (hp.old hf (by simp)) hng) ?_
  rintro _ w ⟨b19, tl19, rfl, hl19, hS⟩
  refine ⟨_, rfl, ?_⟩
  replace hp := hp.back [] [19] (by simp) rfl hl19 (by simp) rfl (by simp)
  simp only [tg, rsk, List.cons_append, List.nil_append] at hp
  refine st_v (ov_move rfl) rfl ?_
  refine st_v (ov_extract rfl rfl) rfl ?_
  refine st_v (ov_extract rfl rfl) rfl ?_
  refine st_v (ov_assign rfl) rfl ?_
  refine st_v (ov_assign rfl) rfl ?_
  refine st_nil ?_
  refine pn_then ?_
  refine sc_seq ?_
  refine sc_region ?_
  refine st_v (ov_loadN rfl Tryd.underlying51 rfl (sz51.trans (by rw [midc_len hst])) (hp.cells' (t := 2) rfl)) rfl ?_
  refine st_call pl27 rfl rfl rfl (resumer_good mst hst bf mt _ _ _ (hm.chg hp.chg) (by omega) hng) ?_
  rintro _ w ⟨b24, g24, rfl, hl24, hcg⟩
  refine ⟨_, rfl, ?_⟩
  replace hp := hp.back [] [24, 25] (by simp) rfl hl24 (by simp) rfl (by simp)
  simp only [tg, rsk, List.cons_append, List.nil_append] at hp
  refine st_v (ov_move rfl) rfl ?_
  refine st_v (ov_extract rfl rfl) rfl ?_
  refine st_v (ov_extract rfl rfl) rfl ?_
  refine st_v (ov_assign rfl) rfl ?_
  refine st_v (ov_assign rfl) rfl ?_
  refine st_nil ?_
  refine pn_then ?_
  refine sc_seq ?_
  refine sc_seq ?_
  refine sc_region ?_
  refine st_v (ov_move rfl) rfl ?_
  refine st_v (ov_move rfl) rfl ?_
  refine st_v (v := .bool false) ((ov_neq rfl rfl).is ((by simp))) rfl ?_
  refine st_v (ov_move rfl) rfl ?_
  refine st_on (j := 3) rfl rfl ?_
  refine st_v (ov_move rfl) rfl ?_
  refine st_on (j := 3) rfl rfl ?_
  refine st_v (v := .bool false) ((ov_eqlP Tryd.underlying52 rfl rfl).is (rfl)) rfl ?_
  refine st_on (j := 3) rfl rfl ?_
  refine st_v (ov_move rfl) rfl ?_
  refine st_on (j := 3) rfl rfl ?_
  refine st_v (v := .bool false) ((ov_eqlP Tryd.underlying55 rfl rfl).is (rfl)) rfl ?_
  refine st_on (j := 3) rfl rfl ?_
  refine st_v (v := .bool false) ((ov_neqB Tryd.underlying4 rfl rfl).is ((by simp))) rfl ?_
  refine st_v (ov_pick_f rfl rfl) rfl ?_
  refine st_v (ov_move rfl) rfl ?_
  refine st_on (j := 10) rfl rfl ?_
  refine st_v (ov_field (q := 9) rfl Tryd.underlying51 rfl sz33 rfl) rfl ?_
  refine st_on (j := 10) rfl rfl ?_
  refine st_v (ov_load1 rfl Tryd.underlying33 rfl (midc_tail (hp.cells' (t := 5) rfl) hst)) rfl ?_
  refine st_on (j := 10) rfl rfl ?_
  refine st_v (ov_field (q := 9) rfl Tryd.underlying51 rfl sz33 rfl) rfl ?_
  refine st_on (j := 10) rfl rfl ?_
  refine st_v (ov_load1 rfl Tryd.underlying33 rfl (midc_tail (hp.cells' (t := 2) rfl) hst)) rfl ?_
  refine st_on (j := 10) rfl rfl ?_
  refine st_call pl25 rfl rfl rfl (same2_walk_eq mt _ _ _ _ _ (Rd.own (hp.own 15 _ rfl)) ((hm.chg hp.chg)) (by first | rfl | omega | (simp; done) | (simp; omega) | (simp [*]; omega)) (by first | rfl | omega | (simp; done) | (simp; omega) | (simp [*]; omega)) (by first | omega | (simp; omega))) ?_
  rintro _ w ⟨rfl, hch⟩
  refine ⟨_, rfl, ?_⟩
  replace hp := hp.call hch
  clear hch
  refine st_on (j := 10) rfl rfl ?_
  refine st_v (ov_not rfl) rfl ?_
  refine st_v (ov_pick_f rfl rfl) rfl ?_
  refine st_nil ?_
  refine pn_then ?_
  refine sc_false rfl ?_
  refine sc_skip ?_
  refine pn_then ?_
  refine sc_seq ?_
  refine sc_seq ?_
  refine sc_region ?_
  refine st_v (ov_move rfl) rfl ?_
  refine st_v (v := .bool false) ((ov_eqlP Tryd.underlying52 rfl rfl).is (rfl)) rfl ?_
  refine st_nil ?_
  refine pn_then ?_
  refine sc_false rfl ?_
  refine sc_skip ?_
  refine pn_then ?_
  refine sc_seq ?_
  refine sc_seq ?_
  refine sc_region ?_
  refine st_v (ov_assign rfl) rfl ?_
  refine st_nil ?_
  refine pn_then ?_
  refine sc_block ?_
  refine sc_loopH5 (α := Nat) (β := List UInt8) (γ := List UInt32) (δ := List UInt8) (ε := Gs) (kv := [(1, _), (6, _), (8, _)]) (kl := []) (fun k text st tl g kv => (10, .int .i64 ((k : Nat) : Int)) :: kv) (fun k text st tl g kl => (19, ⟨some b19, strm st (bf + text.length) tl, 91⟩) :: (24, ⟨some b24, midc mst (bf : Int) (adr g.ob) text.length g.cap, 97⟩) :: (25, ⟨g.ob, text.map B8 ++ g.sp, 5⟩) :: kl) (fun k text st tl g => (k ≤ 2) ∧ (Stands mst text st tl) ∧ (bf + text.length ≤ 2305843009213693951) ∧ ((text.map B8 ++ g.sp).length = g.cap * 1) ∧ (text.length ≤ 64 + k * b.length)) (fun k text st tl g => 2 - k) 0 mt mst tl19 g24 hp (Sub.cons rfl (Sub.cons rfl (Sub.cons rfl (Sub.cons rfl (Sub.nil _))))) (LSub.cons rfl (LSub.cons rfl (LSub.cons rfl (LSub.nil _)))) ?_ ?_
  · exact ⟨(by first | omega | (simp; done) | (simp; omega) | (simp [*]; omega)), hS, hle, hcg, (by first | omega | (simp; done) | (simp; omega) | (simp [*]; omega))⟩
  intro k text st tl g w hp hx
  obtain ⟨hk2, hS, hle, hcg, hlen⟩ := hx
  have hstl : st.length = 8 := by rw [hS.state]; exact foldB_len _ _ hst _
  have hlen2 : text.length ≤ 64 + 2 * 1048576 := Nat.le_trans hlen (by have : k * b.length ≤ 2 * 1048576 := Nat.mul_le_mul hk2 hz; omega)
  refine sc_seq ?_
  refine sc_seq ?_
  refine sc_region ?_
  refine st_v (ov_move rfl) rfl ?_
  refine st_v (ov_lss rfl rfl) rfl ?_
  refine st_nil ?_
  refine pn_then ?_
  refine sc_cond rfl (fun hc => ?_) (fun hc => ?_)
  ·
    have hc := of_decide_eq_true hc
    refine sc_skip ?_
    refine pn_then ?_
    refine sc_seq ?_
    refine sc_block ?_
    refine sc_seq ?_
    refine sc_seq ?_
    refine sc_region ?_
    refine st_v (ov_move rfl) rfl ?_
    refine st_call pl28 rfl rfl rfl (len_walk b19 bf st text tl _ hstl (hp.own 19 _ rfl)) ?_
    rintro _ w ⟨rfl, hch⟩
    refine ⟨_, rfl, ?_⟩
    replace hp := hp.call hch
    clear hch
    refine st_v (ov_move rfl) rfl ?_
    refine st_call pl29 rfl rfl rfl (lenr_walk b24 bf mst text g _ hst (hp.own 24 _ rfl) hle) ?_
    rintro _ w ⟨rfl, hch⟩
    refine ⟨_, rfl, ?_⟩
    replace hp := hp.call hch
    clear hch
    refine st_v (v := .bool false) ((ov_neq rfl rfl).is ((by simp))) rfl ?_
    refine st_v (ov_move rfl) rfl ?_
    refine st_on (j := 5) rfl rfl ?_
    refine st_v (ov_move rfl) rfl ?_
    refine st_on (j := 5) rfl rfl ?_
    refine st_call pl31 rfl rfl rfl (mid_walk b19 bf mst st text tl _ hst hS hbf (hp.own 19 _ rfl) hle) ?_
    rintro _ w ⟨g58, rfl, hm58⟩
    refine ⟨_, rfl, ?_⟩
    replace hp := hp.got 58 hm58
    have hc58 := hm58.2
    clear hm58
    refine st_on (j := 5) rfl rfl ?_
    refine st_v (ov_move rfl) rfl ?_
    refine st_on (j := 5) rfl rfl ?_
    refine st_call pl32 rfl rfl rfl (midr_walk b24 bf mst text g _ hst (hp.own 24 _ rfl) (hp.own 25 _ rfl) hle (by omega)) ?_
    rintro _ w ⟨g59, rfl, hm59⟩
    refine ⟨_, rfl, ?_⟩
    replace hp := hp.got 59 hm59
    have hc59 := hm59.2
    clear hm59
    refine st_on (j := 5) rfl rfl ?_
    refine st_call pl30 rfl rfl rfl (samemid_walk (foldT mst text) _ (tailOf text) _ _ _ _ _ (foldB_len _ _ hst _) (Rd.own (hp.own 58 _ rfl)) (Rd.own (hp.own 59 _ rfl)) (tailOf_len text) (by rw [tailOf_len]; omega)) ?_
    rintro _ w ⟨rfl, hch⟩
    refine ⟨_, rfl, ?_⟩
    replace hp := hp.call hch
    clear hch
    refine st_on (j := 5) rfl rfl ?_
    refine st_v (ov_not rfl) rfl ?_
    refine st_v (ov_pick_f rfl rfl) rfl ?_
    refine st_v (ov_move rfl) rfl ?_
    refine st_on (j := 13) rfl rfl ?_
    refine st_v (ov_move rfl) rfl ?_
    refine st_on (j := 13) rfl rfl ?_
    refine st_call pl33 rfl rfl rfl (sums_walk b19 bf mst st tl text _ hst hS hbf (hp.own 19 _ rfl) hle (hp.old hk (by simp))) ?_
    rintro _ w ⟨rfl, hch⟩
    refine ⟨_, rfl, ?_⟩
    replace hp := hp.call hch
    clear hch
    refine st_on (j := 13) rfl rfl ?_
    refine st_v (ov_move rfl) rfl ?_
    refine st_on (j := 13) rfl rfl ?_
    refine st_call pl34 rfl rfl rfl (sumq_walk b24 bf mst text g _ hst (hp.own 24 _ rfl) (hp.own 25 _ rfl) hle (by omega)) ?_
    rintro _ w ⟨rfl, hch⟩
    refine ⟨_, rfl, ?_⟩
    replace hp := hp.call hch
    clear hch
    refine st_on (j := 13) rfl rfl ?_
    refine st_v (v := .bool false) ((ov_neqA (k := .u8) (g := fun x : UInt8 => (x.toNat : Int))  inj8 Tryd.underlying39 Tryd.underlying5 sz5 gd39 rfl rfl ⟨endOf_len _ _ _, endOf_len _ _ _⟩).is ((by simp))) rfl ?_
    refine st_v (ov_pick_f rfl rfl) rfl ?_
    refine st_nil ?_
    refine pn_then ?_
    refine sc_false rfl ?_
    refine sc_skip ?_
    refine pn_then ?_
    refine sc_seq ?_
    refine sc_region ?_
    refine st_v (ov_move rfl) rfl ?_
    refine st_call pl18 rfl rfl rfl (copied2_walk b _ _ _ ((h1.chg hp.chg)) (by first | rfl | omega | (simp; done) | (simp; omega) | (simp [*]; omega)) (by omega)) ?_
    rintro _ w ⟨g72, rfl, hm72⟩
    refine ⟨_, rfl, ?_⟩
    replace hp := hp.got 72 hm72
    have hc72 := hm72.2
    clear hm72
    refine st_v (ov_assign rfl) rfl ?_
    refine st_nil ?_
    refine pn_then ?_
    refine sc_seq ?_
    refine sc_region ?_
    refine st_v (ov_move rfl) rfl ?_
    refine st_v (ov_move rfl) rfl ?_
    refine st_call pl35 rfl rfl rfl (write_walk b19 bf mst st text tl b _ _ _ hst hS hbf (hp.own 19 _ rfl) (Rd.own (hp.own 72 _ rfl)) rfl (gcap1 hc72) (hp.off (t := 19) (t' := 72) rfl rfl (by decide)) hle (by omega) (hp.old hk (by simp)) (fun e => by rcases hp.mine 19 _ b19 rfl rfl with h | h; omega; simp at h)) ?_
    rintro _ w ⟨rfl, hch, st2, tl2, hB2, hS2⟩
    refine ⟨_, rfl, ?_⟩
    replace hp := hp.upd (t := 19) rfl hch hB2
    clear hch hB2
    refine st_v (ov_assign rfl) rfl ?_
    refine st_nil ?_
    refine pn_then ?_
    refine sc_seq ?_
    refine sc_region ?_
    refine st_v (ov_move rfl) rfl ?_
    refine st_v (ov_move rfl) rfl ?_
    refine st_call pl36 rfl rfl rfl (writer_walk b24 bf mst text g b _ _ _ hst (hp.owns' (ts := [24, 25]) (by simp) rfl) hcg (h1.chg hp.chg) (hp.offs0 h1 (ts := [24, 25]) (by simp) rfl) rfl hle (by omega)) ?_
    rintro _ w ⟨rfl, g2, hL2, hcg2⟩
    refine ⟨_, rfl, ?_⟩
    replace hp := hp.back [24, 25] [24, 25] (by simp) rfl hL2 (by simp) rfl (by simp)
    simp only [tg, rsk, List.cons_append, List.nil_append] at hp
    refine st_v (ov_assign rfl) rfl ?_
    refine st_nil ?_
    refine pn_then ?_
    refine sc_seq ?_
    refine sc_region ?_
    refine st_v (ov_move rfl) rfl ?_
    refine st_v (ov_move rfl) rfl ?_
    refine st_v (v := .bool false) ((ov_neq rfl rfl).is ((by simp))) rfl ?_
    refine st_v (ov_move rfl) rfl ?_
    refine st_on (j := 3) rfl rfl ?_
    refine st_v (ov_move rfl) rfl ?_
    refine st_on (j := 3) rfl rfl ?_
    refine st_v (ov_move rfl) rfl ?_
    refine st_on (j := 3) rfl rfl ?_
    refine st_call pl25 rfl rfl rfl (same2_walk_eq b _ _ _ _ _ (Rd.own (hp.own 72 _ rfl)) ((h1.chg hp.chg)) (by first | rfl | omega | (simp; done) | (simp; omega) | (simp [*]; omega)) (by first | rfl | omega | (simp; done) | (simp; omega) | (simp [*]; omega)) (by first | omega | (simp; omega))) ?_
    rintro _ w ⟨rfl, hch⟩
    refine ⟨_, rfl, ?_⟩
    replace hp := hp.call hch
    clear hch
    refine st_on (j := 3) rfl rfl ?_
    refine st_v (ov_not rfl) rfl ?_
    refine st_v (ov_pick_f rfl rfl) rfl ?_
    refine st_nil ?_
    refine pn_then ?_
    refine sc_false rfl ?_
    refine sc_skip ?_
    refine pn_block ?_
    refine pn_then ?_
    refine sc_region ?_
    refine st_v (ov_move rfl) rfl ?_
    refine st_v (ov_add_n (a := k) (b := 1) rfl rfl (by omega)) rfl ?_
    refine st_v (ov_assign rfl) rfl ?_
    refine st_nil ?_
    refine pn_roundH5 (k + 1) (wrote bf text b) st2 tl2 g2 hp (Sub.cons rfl (Sub.cons rfl (Sub.cons rfl (Sub.cons rfl (Sub.nil _))))) ?_ (LSub.cons rfl (LSub.cons rfl (LSub.cons rfl (LSub.nil _)))) ?_
    · omega
    exact ⟨(by first | omega | (simp; done) | (simp; omega) | (simp [*]; omega)), hS2, wrote_le hle, hcg2, (by have := wrote_len (bf := bf) (text := text) (b := b); rw [Nat.succ_mul]; omega)⟩
  ·
    have hc := of_decide_eq_false hc
    refine sc_exit ?_
    refine pe_then ?_
    refine pe_then ?_
    refine pe_hit ?_
    refine pn_then ?_
    refine sc_seq ?_
    refine sc_region ?_
    refine st_v (ov_move rfl) rfl ?_
    refine st_call pl28 rfl rfl rfl (len_walk b19 bf st text tl _ hstl (hp.own 19 _ rfl)) ?_
    rintro _ w ⟨rfl, hch⟩
    refine ⟨_, rfl, ?_⟩
    replace hp := hp.call hch
    clear hch
    refine st_v (ov_move rfl) rfl ?_
    refine st_call pl29 rfl rfl rfl (lenr_walk b24 bf mst text g _ hst (hp.own 24 _ rfl) hle) ?_
    rintro _ w ⟨rfl, hch⟩
    refine ⟨_, rfl, ?_⟩
    replace hp := hp.call hch
    clear hch
    refine st_v (v := .bool true) ((ov_eql rfl rfl).is ((by simp))) rfl ?_
    refine st_v (ov_move rfl) rfl ?_
    refine st_on (j := 5) rfl rfl ?_
    refine st_v (ov_move rfl) rfl ?_
    refine st_on (j := 5) rfl rfl ?_
    refine st_call pl31 rfl rfl rfl (mid_walk b19 bf mst st text tl _ hst hS hbf (hp.own 19 _ rfl) hle) ?_
    rintro _ w ⟨g95, rfl, hm95⟩
    refine ⟨_, rfl, ?_⟩
    replace hp := hp.got 95 hm95
    have hc95 := hm95.2
    clear hm95
    refine st_on (j := 5) rfl rfl ?_
    refine st_v (ov_move rfl) rfl ?_
    refine st_on (j := 5) rfl rfl ?_
    refine st_call pl32 rfl rfl rfl (midr_walk b24 bf mst text g _ hst (hp.own 24 _ rfl) (hp.own 25 _ rfl) hle (by omega)) ?_
    rintro _ w ⟨g96, rfl, hm96⟩
    refine ⟨_, rfl, ?_⟩
    replace hp := hp.got 96 hm96
    have hc96 := hm96.2
    clear hm96
    refine st_on (j := 5) rfl rfl ?_
    refine st_call pl30 rfl rfl rfl (samemid_walk (foldT mst text) _ (tailOf text) _ _ _ _ _ (foldB_len _ _ hst _) (Rd.own (hp.own 95 _ rfl)) (Rd.own (hp.own 96 _ rfl)) (tailOf_len text) (by rw [tailOf_len]; omega)) ?_
    rintro _ w ⟨rfl, hch⟩
    refine ⟨_, rfl, ?_⟩
    replace hp := hp.call hch
    clear hch
    refine st_v (ov_pick_t rfl rfl) rfl ?_
    refine st_v (ov_move rfl) rfl ?_
    refine st_on (j := 12) rfl rfl ?_
    refine st_v (ov_move rfl) rfl ?_
    refine st_on (j := 12) rfl rfl ?_
    refine st_call pl33 rfl rfl rfl (sums_walk b19 bf mst st tl text _ hst hS hbf (hp.own 19 _ rfl) hle (hp.old hk (by simp))) ?_
    rintro _ w ⟨rfl, hch⟩
    refine ⟨_, rfl, ?_⟩
    replace hp := hp.call hch
    clear hch
    refine st_on (j := 12) rfl rfl ?_
    refine st_v (ov_move rfl) rfl ?_
    refine st_on (j := 12) rfl rfl ?_
    refine st_call pl34 rfl rfl rfl (sumq_walk b24 bf mst text g _ hst (hp.own 24 _ rfl) (hp.own 25 _ rfl) hle (by omega)) ?_
    rintro _ w ⟨rfl, hch⟩
    refine ⟨_, rfl, ?_⟩
    replace hp := hp.call hch
    clear hch
    refine st_on (j := 12) rfl rfl ?_
    refine st_v (v := .bool true) ((ov_eqlA (k := .u8) (g := fun x : UInt8 => (x.toNat : Int))  inj8 Tryd.underlying39 Tryd.underlying5 sz5 gd39 rfl rfl ⟨endOf_len _ _ _, endOf_len _ _ _⟩).is ((by simp))) rfl ?_
    refine st_v (ov_pick_t rfl rfl) rfl ?_
    refine st_v (ov_assign rfl) rfl ?_
    refine st_nil ?_
    refine pn_then ?_
    refine sc_ret ?_
    refine pr_one rfl rfl ?_
    exact ⟨rfl, hp.chg⟩

theorem law_resumes (mst : List UInt32) (hst : mst.length = 8) (md : Int) (mt : List UInt8) (mao : Option Addr) (mca : Nat) (b : List UInt8) (ao : Option Addr) (ca : Nat) (w0 : World) (hm : Rd w0 mao (mt.map B8)) (hmz : mt.length ≤ 1048576) (h1 : Rd w0 ao (b.map B8)) (hz : b.length ≤ 1048576) (hk : Cells w0 0 0 (kL.map B32)) (hf : Cells w0 1 0 (fL.map B32)) :
    Calls Tryd.prog 7 #[.agg (midc mst md mao mt.length mca).toArray, .slice ao b.length ca] w0 fun e w' => e = .returned (.bool true) ∧ Chg [] w0 w' := by
  by_cases hb : midBad mst md mt
  · exact law_resumes_bad mst hst md mt mao mca b ao ca w0 hm hmz h1 hz hk hf hb
  · exact law_resumes_good mst hst md mt mao mca b ao ca w0 hm hmz h1 hz hk hf hb

end Go.Proofs.YtcpbfnbfbladoaaDoor

/-
  The walk of the law FrameCarries.
-/
import Derived.Test.YthebbenfmoknbaaPshdA
import Derived.Test.YthebbenfmoknbaaWrapA
import Derived.Test.YthebbenfmoknbaaCarP
namespace Go.Proofs.Ythebbenfmoknbaa
open Go Go.RowKit

set_option maxRecDepth 100000 in
theorem law_carries (h : Hl) (l : List Sl) (cuts : List Int) (ao bo : Option Addr) (ca cb : Nat) (w0 : World) (h1 : Rd w0 ao (l.map Sl.v)) (a1 : RdAll w0 l) (hsl : l.length ≤ 1048576) (hsum : (l.map fun s => s.bs.length).sum ≤ 1048576) (hez : ∀ s ∈ l, s.bs.length ≤ 1048576) (h2 : Rd w0 bo (cuts.map fun x => Value.int .i64 x)) (hzc : cuts.length ≤ 1048576) :
    Calls Try.prog 8 #[.agg (h.1.map B8).toArray, .slice ao l.length ca, .slice bo cuts.length cb] w0 fun e w' => e = .returned (.bool true) ∧ Chg [] w0 w' := by
  refine calls_in Try.func8 Try.ntmps8 rfl rfl ?_
  have hp := Hp.start w0
  have hgl := greet_len h
  have hl48 := hl_len h
  refine sc_seq ?_
  refine sc_region ?_
  refine st_box 3 hp rfl rfl rfl (fun b3 w hp => ?_)
  refine st_v (ov_assign rfl) rfl ?_
  refine st_nil ?_
  refine pn_then ?_
  refine sc_seq ?_
  refine sc_region ?_
  refine st_v (ov_loadN rfl Try.underlying25 rfl (sz25.trans (by simp [h.2])) (hp.cells' (t := 3) rfl)) rfl ?_
  refine st_call pl13 rfl rfl rfl (greet_walk h _) ?_
  rintro _ w ⟨g21, rfl, hm21⟩
  refine ⟨_, rfl, ?_⟩
  replace hp := hp.got 21 hm21
  have hc21 := hm21.2
  clear hm21
  refine st_v (ov_assign rfl) rfl ?_
  refine st_nil ?_
  refine pn_then ?_
  refine sc_seq ?_
  refine sc_seq ?_
  refine sc_region ?_
  refine st_v (ov_move rfl) rfl ?_
  refine st_v (ov_len rfl Try.underlying26 rfl) rfl ?_
  refine st_v (v := .bool false) ((ov_neq rfl rfl).is ((by simp))) rfl ?_
  refine st_nil ?_
  refine pn_then ?_
  refine sc_false rfl ?_
  refine sc_skip ?_
  refine pn_then ?_
  refine sc_seq ?_
  refine sc_region ?_
  refine st_v (ov_move rfl) rfl ?_
  refine st_call pl15 rfl rfl rfl (copied_walk ((greetL h)) _ _ _ (Rd.own (hp.own 21 _ rfl)) (by first | rfl | omega | (simp; done) | (simp; omega) | (simp [*]; omega)) (by omega)) ?_
  rintro _ w ⟨g7, rfl, hm7⟩
  refine ⟨_, rfl, ?_⟩
  replace hp := hp.got 7 hm7
  have hc7 := hm7.2
  clear hm7
  rw [show greetL h = greetL h ++ catL l 0 from (List.append_nil _).symm] at hp hc7
  refine st_v (ov_assign rfl) rfl ?_
  refine st_nil ?_
  refine pn_then ?_
  refine sc_seq ?_
  refine sc_region ?_
  refine st_v (ov_assign rfl) rfl ?_
  replace hp := hp.nil 8 26
  refine st_nil ?_
  refine pn_then ?_
  refine sc_seq ?_
  refine sc_seq ?_
  refine sc_region ?_
  refine st_v (ov_assign rfl) rfl ?_
  refine st_nil ?_
  refine pn_then ?_
  refine sc_block ?_
  refine sc_loopH3 (α := Nat) (β := Gs) (γ := Gs) (kv := [(1, _), (2, _), (3, _)]) (kl := [(3, _)]) (fun i gb gs kv => (9, .int .i64 ((i : Nat) : Int)) :: (7, .slice (adr gb.ob) (68 + (catL l i).length) gb.cap) :: (8, .slice (adr gs.ob) ((sentL l i).length) gs.cap) :: kv) (fun i gb gs kl => (7, ⟨gb.ob, (greetL h ++ catL l i).map B8 ++ gb.sp, 5⟩) :: (8, ⟨gs.ob, (sentL l i).map Sl.v ++ gs.sp, 26⟩) :: kl) (fun i gb gs => (i ≤ l.length) ∧ (((greetL h ++ catL l i).map B8 ++ gb.sp).length = gb.cap * 1) ∧ (((sentL l i).map Sl.v ++ gs.sp).length = gs.cap * 1)) (fun i gb gs => l.length - i) 0 g7 gnil hp (Sub.cons rfl (Sub.cons rfl (Sub.cons rfl (Sub.cons rfl (Sub.cons rfl (Sub.cons rfl (Sub.nil _))))))) (LSub.cons rfl (LSub.cons rfl (LSub.cons rfl (LSub.nil _)))) ?_ ?_
  · exact ⟨(by first | omega | (simp; done) | (simp; omega) | (simp [*]; omega)), hc7, rfl⟩
  intro i gb gs w hp hx
  obtain ⟨hi, hcb, hct⟩ := hx
  refine sc_seq ?_
  refine sc_seq ?_
  refine sc_region ?_
  refine st_v (ov_move rfl) rfl ?_
  refine st_v (ov_move rfl) rfl ?_
  refine st_v (ov_len rfl Try.underlying37 rfl) rfl ?_
  refine st_v (ov_lss rfl rfl) rfl ?_
  refine st_nil ?_
  refine pn_then ?_
  refine sc_cond rfl (fun hc => ?_) (fun hc => ?_)
  ·
    have hc := of_decide_eq_true hc
    refine sc_skip ?_
    refine pn_then ?_
    refine sc_seq ?_
    refine sc_block ?_
    refine sc_seq ?_
    refine sc_region ?_
    refine st_v (ov_move rfl) rfl ?_
    refine st_v (ov_move rfl) rfl ?_
    obtain ⟨bb1, oo1, hadr1, hcl1⟩ := (h1.chg hp.chg).pos (by simp; omega)
    refine st_v (ov_indexR hadr1 rfl rfl Try.underlying37 sz26 (by omega)) rfl ?_
    refine st_v (ov_load1 rfl Try.underlying26 rfl (Cells.elem' hcl1 (i) (by first | omega | (simp; omega) | (simp [*]; omega)) (⟨none, [], 0⟩ : Sl))) rfl ?_
    refine st_call pl16 rfl rfl rfl (wrap_walk (l.getD i (⟨none, [], 0⟩ : Sl)).bs _ _ _ ((a1.chg hp.chg).at (by omega) (⟨none, [], 0⟩ : Sl)) rfl (by have := hez _ (getD_mem (i := i) (by omega) (⟨none, [], 0⟩ : Sl)); omega)) ?_
    rintro _ w ⟨g36, rfl, hm36⟩
    refine ⟨_, rfl, ?_⟩
    replace hp := hp.got 36 hm36
    have hc36 := hm36.2
    clear hm36
    refine st_v (ov_move rfl) rfl ?_
    refine st_v (ov_extract rfl rfl) rfl ?_
    refine st_v (ov_extract rfl rfl) rfl ?_
    refine st_v (ov_assign rfl) rfl ?_
    refine st_v (ov_assign rfl) rfl ?_
    refine st_nil ?_
    refine pn_then ?_
    refine sc_seq ?_
    refine sc_seq ?_
    refine sc_region ?_
    refine st_v (ov_move rfl) rfl ?_
    refine st_v (ov_move rfl) rfl ?_
    obtain ⟨bb2, oo2, hadr2, hcl2⟩ := (h1.chg hp.chg).pos (by simp; omega)
    refine st_v (ov_indexR hadr2 rfl rfl Try.underlying37 sz26 (by omega)) rfl ?_
    refine st_v (ov_load1 rfl Try.underlying26 rfl (Cells.elem' hcl2 (i) (by first | omega | (simp; omega) | (simp [*]; omega)) (⟨none, [], 0⟩ : Sl))) rfl ?_
    refine st_v (ov_len rfl Try.underlying26 rfl) rfl ?_
    refine st_v (ov_gtr rfl rfl) rfl ?_
    refine st_nil ?_
    refine pn_then ?_
    refine sc_cond rfl (fun hc => ?_) (fun hc => ?_)
    ·
      have hc := of_decide_eq_true hc
      have hbig : 32768 < (l.getD i (⟨none, [], 0⟩ : Sl)).bs.length := by omega
      refine sc_seq ?_
      refine sc_seq ?_
      refine sc_region ?_
      refine st_v (ov_move rfl) rfl ?_
      refine st_v (v := .bool false) ((ov_neq rfl rfl).is (by rw [(wrap_big hbig).2]; rfl)) rfl ?_
      refine st_v (ov_move rfl) rfl ?_
      refine st_on (j := 2) rfl rfl ?_
      refine st_v (ov_move rfl) rfl ?_
      refine st_on (j := 2) rfl rfl ?_
      refine st_v (ov_len rfl Try.underlying26 rfl) rfl ?_
      refine st_on (j := 2) rfl rfl ?_
      refine st_v (v := .bool false) ((ov_neq rfl rfl).is (by rw [(wrap_big hbig).1]; rfl)) rfl ?_
      refine st_v (ov_pick_f rfl rfl) rfl ?_
      refine st_nil ?_
      refine pn_then ?_
      refine sc_false rfl ?_
      refine sc_skip ?_
      refine pn_then ?_
      refine sc_exit ?_
      refine pe_then ?_
      refine pe_hit ?_
      refine pn_then ?_
      refine sc_region ?_
      refine st_v (ov_move rfl) rfl ?_
      refine st_v (ov_add_n (a := i) (b := 1) rfl rfl (by omega)) rfl ?_
      refine st_v (ov_assign rfl) rfl ?_
      refine st_nil ?_
      rw [← cat_no (by omega) hbig, ← sent_no (by omega) hbig] at hp
      rw [← cat_no (by omega) hbig] at hcb
      rw [← sent_no (by omega) hbig] at hct
      rw [← cat_no (by omega) hbig, ← sent_no (by omega) hbig]
      refine pn_roundH3 (i + 1) gb gs hp (Sub.cons rfl (Sub.cons rfl (Sub.cons rfl (Sub.cons rfl (Sub.cons rfl (Sub.cons rfl (Sub.nil _))))))) ?_ (LSub.cons rfl (LSub.cons rfl (LSub.cons rfl (LSub.nil _)))) ?_
      · omega
      exact ⟨(by first | omega | (simp; done) | (simp; omega) | (simp [*]; omega)), hcb, hct⟩
    ·
      have hc := of_decide_eq_false hc
      have hsm : (l.getD i (⟨none, [], 0⟩ : Sl)).bs.length ≤ 32768 := by omega
      have hse := sent_ok (l := l) (i := i) (by omega) hsm
      refine sc_skip ?_
      refine pn_then ?_
      refine sc_seq ?_
      refine sc_seq ?_
      refine sc_region ?_
      refine st_v (ov_move rfl) rfl ?_
      refine st_v (v := .bool false) ((ov_neq rfl rfl).is (by rw [(wrap_ok hsm).2]; rfl)) rfl ?_
      refine st_v (ov_move rfl) rfl ?_
      refine st_on (j := 2) rfl rfl ?_
      refine st_v (ov_move rfl) rfl ?_
      refine st_on (j := 2) rfl rfl ?_
      refine st_v (ov_len rfl Try.underlying26 rfl) rfl ?_
      refine st_on (j := 2) rfl rfl ?_
      refine st_v (ov_move rfl) rfl ?_
      refine st_on (j := 2) rfl rfl ?_
      refine st_v (ov_move rfl) rfl ?_
      refine st_on (j := 2) rfl rfl ?_
      obtain ⟨bb3, oo3, hadr3, hcl3⟩ := (h1.chg hp.chg).pos (by simp; omega)
      refine st_v (ov_indexR hadr3 rfl rfl Try.underlying37 sz26 (by omega)) rfl ?_
      refine st_on (j := 2) rfl rfl ?_
      refine st_v (ov_load1 rfl Try.underlying26 rfl (Cells.elem' hcl3 (i) (by first | omega | (simp; omega) | (simp [*]; omega)) (⟨none, [], 0⟩ : Sl))) rfl ?_
      refine st_on (j := 2) rfl rfl ?_
      refine st_v (ov_len rfl Try.underlying26 rfl) rfl ?_
      refine st_on (j := 2) rfl rfl ?_
      refine st_v (ov_add_n (a := (l.getD (i) (⟨none, [], 0⟩ : Sl)).bs.length) (b := 4) rfl rfl (by omega)) rfl ?_
      refine st_on (j := 2) rfl rfl ?_
      refine st_v (v := .bool false) ((ov_neq rfl rfl).is (congrArg Value.bool (decide_eq_false (by rw [wrap_len hsm]; omega)))) rfl ?_
      refine st_v (ov_pick_f rfl rfl) rfl ?_
      refine st_nil ?_
      refine pn_then ?_
      refine sc_false rfl ?_
      refine sc_skip ?_
      refine pn_then ?_
      refine sc_seq ?_
      refine sc_region ?_
      refine st_v (ov_move rfl) rfl ?_
      refine st_v (ov_move rfl) rfl ?_
      refine st_v (ov_move rfl) rfl ?_
      obtain ⟨bb4, oo4, hadr4, hcl4⟩ := (h1.chg hp.chg).pos (by simp; omega)
      refine st_v (ov_indexR hadr4 rfl rfl Try.underlying37 sz26 (by omega)) rfl ?_
      refine st_v (ov_load1 rfl Try.underlying26 rfl (Cells.elem' hcl4 (i) (by first | omega | (simp; omega) | (simp [*]; omega)) (⟨none, [], 0⟩ : Sl))) rfl ?_
      refine st_app1 8 72 gs (xs := (sentL l i).map Sl.v) (new := [Sl.v (l.getD i (⟨none, [], 0⟩ : Sl))]) hp rfl rfl rfl rfl rfl (by simp) rfl rfl Try.underlying37 in26 (by decide) rfl (by simp) hct rfl rfl (by simp [Value.oneCell', Sl.v]) (by have := sent_len l i; omega) (fun gs2 b72 w hp hct2 hf8 => ?_)
      rw [show (sentL l i).map Sl.v ++ [Sl.v (l.getD i (⟨none, [], 0⟩ : Sl))] = (sentL l (i + 1)).map Sl.v by rw [hse]; simp] at hp hct2
      rw [show (sentL l i).length + 1 = (sentL l (i + 1)).length by rw [hse]; simp]
      refine st_v (ov_assign rfl) rfl ?_
      refine st_nil ?_
      refine pn_then ?_
      refine sc_region ?_
      refine st_v (ov_move rfl) rfl ?_
      refine st_v (ov_move rfl) rfl ?_
      refine st_append 7 gb (xs := (greetL h ++ catL l i).map B8) (news := (wrapL (l.getD i (⟨none, [], 0⟩ : Sl)).bs).map B8) (m := (wrapL (l.getD i (⟨none, [], 0⟩ : Sl)).bs).length) hp rfl rfl rfl rfl rfl Try.underlying26 in5 (by decide) rfl (by simp [hgl]) hcb (Rd.own (hp.own 36 _ rfl)) (by simp) (one_all _) (by have := cat_len l i; have := wrap_le (l.getD i (⟨none, [], 0⟩ : Sl)).bs; omega) (fun gb2 w hp hcb2 hf7 => ?_)
      rw [← List.map_append, List.append_assoc, ← cat_succ (by omega)] at hp hcb2
      rw [Nat.add_assoc, ← List.length_append, ← cat_succ (by omega)]
      refine st_v (ov_assign rfl) rfl ?_
      refine st_nil ?_
      refine pn_block ?_
      refine pn_then ?_
      refine sc_region ?_
      refine st_v (ov_move rfl) rfl ?_
      refine st_v (ov_add_n (a := i) (b := 1) rfl rfl (by omega)) rfl ?_
      refine st_v (ov_assign rfl) rfl ?_
      refine st_nil ?_
      refine pn_roundH3 (i + 1) gb2 gs2 hp (Sub.cons rfl (Sub.cons rfl (Sub.cons rfl (Sub.cons rfl (Sub.cons rfl (Sub.cons rfl (Sub.nil _))))))) ?_ (LSub.cons rfl (LSub.cons rfl (LSub.cons rfl (LSub.nil _)))) ?_
      · omega
      exact ⟨(by first | omega | (simp; done) | (simp; omega) | (simp [*]; omega)), hcb2, hct2⟩
  ·
    have hc := of_decide_eq_false hc
    refine sc_exit ?_
    refine pe_then ?_
    refine pe_then ?_
    refine pe_hit ?_
    refine pn_then ?_
    refine sc_seq ?_
    obtain rfl : i = l.length := by omega
    have hcl := cat_len l l.length
    obtain ⟨A, hA⟩ : ∃ A, A = greetL h ++ catL l l.length := ⟨_, rfl⟩
    have hAl : 68 + (catL l l.length).length = A.length := by rw [hA, List.length_append, hgl]
    have hall := read_all h l
    have hnone := less_none h (l := l)
    have hsome := less_some h (l := l)
    have hlerr := less_err h l
    have hSl := sent_len l l.length
    have hSA : RdAll w0 (sentL l l.length) := rdAll_sent a1
    unfold carL at hall hnone hsome hlerr
    obtain ⟨S, hS⟩ : ∃ S, S = sentL l l.length := ⟨_, rfl⟩
    rw [← hA] at hp hcb hall hnone hsome hlerr
    rw [← hS] at hp hct hall hnone hSl hSA
    replace hsome := hsome S hS.symm
    rw [hAl, ← hS]
    have hAb : A.length ≤ 8388608 := by omega
    have hA68 : 68 ≤ A.length := by omega
    clear hA hS hAl hcl
    have hgc := gcap1 hcb
    have hgs := gcap1 hct
    refine sc_region ?_
    refine st_call pl23 rfl rfl rfl (new_walk true _) ?_
    rintro _ w ⟨r1, rfl, hL⟩
    refine ⟨_, rfl, ?_⟩
    replace hp := hp.back [] [70, 71] (by simp) rfl hL (by simp) rfl (by simp)
    clear hL
    simp only [tg, rck0, rck, List.cons_append, List.nil_append] at hp
    refine st_v (ov_assign rfl) rfl ?_
    refine st_nil ?_
    refine pn_then ?_
    refine sc_seq ?_
    refine sc_region ?_
    refine st_call pl23 rfl rfl rfl (new_walk true _) ?_
    rintro _ w ⟨r2, rfl, hL⟩
    refine ⟨_, rfl, ?_⟩
    replace hp := hp.back [] [80, 81] (by simp) rfl hL (by simp) rfl (by simp)
    clear hL
    simp only [tg, rck0, rck, List.cons_append, List.nil_append] at hp
    refine st_v (ov_assign rfl) rfl ?_
    refine st_nil ?_
    refine pn_then ?_
    refine sc_seq ?_
    refine sc_seq ?_
    refine sc_region ?_
    refine st_v (ov_move rfl) rfl ?_
    refine st_v (v := .bool false) ((ov_eqlP Try.underlying42 rfl rfl).is (by simp)) rfl ?_
    refine st_v (ov_move rfl) rfl ?_
    refine st_on (j := 2) rfl rfl ?_
    refine st_v (ov_move rfl) rfl ?_
    refine st_on (j := 2) rfl rfl ?_
    refine st_v (v := .bool false) ((ov_eqlP Try.underlying42 rfl rfl).is (by simp)) rfl ?_
    refine st_v (ov_pick_f rfl rfl) rfl ?_
    refine st_nil ?_
    refine pn_then ?_
    refine sc_false rfl ?_
    refine sc_skip ?_
    refine pn_then ?_
    refine sc_seq ?_
    refine sc_region ?_
    refine st_v (ov_move rfl) rfl ?_
    refine st_v (ov_move rfl) rfl ?_
    refine st_v (ov_move rfl) rfl ?_
    refine st_call pl32 rfl rfl rfl (pushed_walk r1 true A cuts _ _ _ _ _ (hp.owns' (ts := [70, 71]) (by simp) rfl) (Rd.own (hp.own 7 _ rfl)) (hp.offT (t := 7) (ts := [70, 71]) rfl (by simp) rfl (by simp)) (h2.chg hp.chg) (hp.offs (i := []) h2 (fun b hb => absurd hb (by simp [blks])) (ts := [70, 71]) (by simp) rfl) rfl (gcap1 hcb) rfl (by omega) (by omega)) ?_
    rintro _ w ⟨gm1, gb1, g1, mt1, bs1, er1, st1, part1, want1, rfl, hL, hcm1, hcb1, hcg1, hfit1, hT1⟩
    refine ⟨_, rfl, ?_⟩
    replace hp := hp.backX (o1 := rck r1 st1 g1 part1 want1 er1 ++ [⟨gm1.ob, mt1.flatMap hcs ++ gm1.sp, 25⟩, ⟨gb1.ob, bs1.map Bs.v ++ gb1.sp, 26⟩]) [70, 71] [70, 71, 91, 92] (by simp) rfl hL (by simp) rfl (by simp)
    clear hL
    simp only [tg, rck, List.cons_append, List.nil_append] at hp
    have hpl1 := hT1.part_le
    have hle1 := hT1.le
    obtain ⟨k1, hk1, hh1, hkl1⟩ := hT1.read
    refine st_alloc 14 (tld gnil 0 gnil 0 0) hp rfl zl57 rfl (fun b14 w hp => ?_)
    refine st_storeA 14 hp rfl rfl rfl rfl (sz57.trans rfl) (by simp [Value.oneCell']) (fun w hp => ?_)
    refine st_nil ?_
    refine pn_then ?_
    refine sc_seq ?_
    refine sc_seq ?_
    have hE := hk1.symm.trans hall
    simp only [Prod.mk.injEq] at hE
    obtain ⟨rfl, hbs1, rfl, rfl⟩ := hE
    have hsz : ∀ s ∈ bs1.map Bs.sl, s.bs.length ≤ 281474976710656 := read_szs hk1 (by omega)
    have hsn : (bs1.map Bs.sl).length ≤ 281474976710656 := by have h9 := hle1.2; rw [List.length_map] at h9; rw [List.length_map]; omega
    refine sc_draws_tail 21 (by kernel_rfl) (by kernel_rfl) ?_
    replace hp := hp.drew
    simp only [List.take_succ_cons, List.take_zero, List.drop_succ_cons, List.drop_zero]
    refine ss_v (ov_field (q := 2) rfl Try.underlying57 rfl sz31 rfl) rfl ?_
    refine ss_v (ov_load1 rfl Try.underlying31 rfl ((hp.cells' (t := 14) rfl).at 2 (by simp) rfl)) rfl ?_
    refine ss_v (v := .bool false) ((ov_neq rfl rfl).is ((by simp))) rfl ?_
    refine ss_v (ov_move rfl) rfl ?_
    refine ss_on (j := 3) rfl rfl ?_
    refine ss_v (ov_field (q := 0) rfl Try.underlying57 rfl sz48 rfl) rfl ?_
    refine ss_on (j := 3) rfl rfl ?_
    refine ss_v (ov_load1 rfl Try.underlying48 rfl ((hp.cells' (t := 14) rfl).at 0 (by simp) rfl)) rfl ?_
    refine ss_on (j := 3) rfl rfl ?_
    refine ss_v (ov_len rfl Try.underlying48 rfl) rfl ?_
    refine ss_on (j := 3) rfl rfl ?_
    refine ss_v (v := .bool false) ((ov_neq rfl rfl).is (by rfl)) rfl ?_
    refine ss_v (ov_pick_f rfl rfl) rfl ?_
    refine ss_v (ov_move rfl) rfl ?_
    refine ss_on (j := 9) rfl rfl ?_
    refine ss_v (ov_field (q := 0) rfl Try.underlying57 rfl sz48 rfl) rfl ?_
    refine ss_on (j := 9) rfl rfl ?_
    refine ss_v (ov_load1 rfl Try.underlying48 rfl ((hp.cells' (t := 14) rfl).at 0 (by simp) rfl)) rfl ?_
    refine ss_on (j := 9) rfl rfl ?_
    obtain ⟨bb5, oo5, hadr5, hcl5⟩ := (Rd.own (hp.own 91 _ rfl)).pos (by rw [flat_len hcs_len]; simp)
    refine ss_v (ov_indexR hadr5 rfl rfl Try.underlying48 sz25 (by simp)) rfl ?_
    refine ss_on (j := 9) rfl rfl ?_
    refine ss_v (ov_loadN rfl Try.underlying25 rfl (sz25.trans (congrArg some (hcs_len _).symm)) (hcl5.elemN hcs_len (0) ⟨by rfl, by simp⟩ hz0)) rfl ?_
    refine ss_on (j := 9) rfl rfl ?_
    refine ss_v (ov_loadN rfl Try.underlying25 rfl (sz25.trans (by simp [h.2])) (hp.cells' (t := 3) rfl)) rfl ?_
    refine ss_on (j := 9) rfl rfl ?_
    refine ss_v (v := .bool false) ((ov_neqF Try.underlying25 rfl fl25 (sz25.trans (congrArg some (hcs_len _).symm)) gd25 rfl rfl (Like.map _ _ ((([h] : List Hl).getD 0 hz0).2.trans h.2.symm))).is (by simp [hcs, eqv_self])) rfl ?_
    refine ss_v (ov_pick_f rfl rfl) rfl ?_
    refine ss_v (ov_move rfl) rfl ?_
    refine ss_on (j := 17) rfl rfl ?_
    refine ss_v (ov_field (q := 1) rfl Try.underlying57 rfl sz37 rfl) rfl ?_
    refine ss_on (j := 17) rfl rfl ?_
    refine ss_v (ov_load1 rfl Try.underlying37 rfl ((hp.cells' (t := 14) rfl).at 1 (by simp) rfl)) rfl ?_
    refine ss_on (j := 17) rfl rfl ?_
    refine ss_v (ov_move rfl) rfl ?_
    refine ss_tail ?_
    refine st_on (j := 17) rfl rfl ?_
    refine st_call pl22 rfl rfl rfl (sameb_walk (bs1.map Bs.sl) S _ _ _ _ _ (by rw [← map_v]; exact Rd.own (hp.own 92 _ rfl)) (Rd.own (hp.own 8 _ rfl)) (hp.rdAll (fun x hx => by have h9 := List.mem_map_of_mem (f := Bs.ck) hx; simp only [List.mem_append, h9, true_or, or_true]) hfit1) (hSA.chg hp.chg) (by rw [sl_bs]; exact hbs1) (by simp) rfl hsz hsn) ?_
    rintro _ w ⟨rfl, hch⟩
    refine ⟨_, rfl, ?_⟩
    replace hp := hp.call hch
    clear hch
    refine st_on (j := 17) rfl rfl ?_
    refine st_v (ov_not rfl) rfl ?_
    refine st_v (ov_pick_f rfl rfl) rfl ?_
    refine st_v (ov_move rfl) rfl ?_
    refine st_on (j := 24) rfl rfl ?_
    refine st_v (ov_move rfl) rfl ?_
    refine st_on (j := 24) rfl rfl ?_
    refine st_call pl28 rfl rfl rfl (held_walk r1 st1 g1 part1.length want1 0 _ (hp.cells' (t := 70) rfl) (by omega)) ?_
    rintro _ w ⟨rfl, hch⟩
    refine ⟨_, rfl, ?_⟩
    replace hp := hp.call hch
    clear hch
    rw [hh1]
    refine st_on (j := 24) rfl rfl ?_
    refine st_v (v := .bool false) ((ov_neq rfl rfl).is (by simp)) rfl ?_
    refine st_v (ov_pick_f rfl rfl) rfl ?_
    refine st_v (ov_move rfl) rfl ?_
    refine st_on (j := 29) rfl rfl ?_
    refine st_v (ov_move rfl) rfl ?_
    refine st_on (j := 29) rfl rfl ?_
    refine st_call pl30 rfl rfl rfl (fault_walk r1 st1 g1 part1.length want1 0 _ (hp.cells' (t := 70) rfl)) ?_
    rintro _ w ⟨rfl, hch⟩
    refine ⟨_, rfl, ?_⟩
    replace hp := hp.call hch
    clear hch
    refine st_on (j := 29) rfl rfl ?_
    refine st_v (v := .bool false) ((ov_neq rfl rfl).is (by simp)) rfl ?_
    refine st_v (ov_pick_f rfl rfl) rfl ?_
    refine st_nil ?_
    refine pn_then ?_
    refine sc_false rfl ?_
    refine sc_skip ?_
    refine pn_then ?_
    refine sc_seq ?_
    refine sc_region ?_
    refine st_v (ov_move rfl) rfl ?_
    refine st_v (ov_move rfl) rfl ?_
    refine st_v (ov_move rfl) rfl ?_
    refine st_v (ov_len rfl Try.underlying26 rfl) rfl ?_
    refine st_v (ov_sub_n (a := A.length) (b := 1) rfl rfl (by omega)) rfl ?_
    refine st_v (ov_slice_hi Try.underlying26 sz5 rfl rfl (by omega)) rfl ?_
    rw [Int.toNat_natCast]
    refine st_v (ov_move rfl) rfl ?_
    refine st_call pl32 rfl rfl rfl (pushed_walk r2 true (A.take (A.length - 1)) cuts _ _ _ _ _ (hp.owns' (ts := [80, 81]) (by simp) rfl) ((Rd.own (hp.own 7 _ rfl)).takeM (A.length - 1)) (hp.offT (t := 7) (ts := [80, 81]) rfl (by simp) rfl (by simp)) (h2.chg hp.chg) (hp.offs (i := []) h2 (fun b hb => absurd hb (by simp [blks])) (ts := [80, 81]) (by simp) rfl) (by simp) (by have := gcap1 hcb; omega) rfl (by simp; omega) (by omega)) ?_
    rintro _ w ⟨gm2, gb2, g2, mt2, bs2, er2, st2, part2, want2, rfl, hL, hcm2, hcb2, hcg2, hfit2, hT2⟩
    refine ⟨_, rfl, ?_⟩
    replace hp := hp.backX (o1 := rck r2 st2 g2 part2 want2 er2 ++ [⟨gm2.ob, mt2.flatMap hcs ++ gm2.sp, 25⟩, ⟨gb2.ob, bs2.map Bs.v ++ gb2.sp, 26⟩]) [80, 81] [80, 81, 101, 102] (by simp) rfl hL (by simp) rfl (by simp)
    clear hL
    simp only [tg, rck, List.cons_append, List.nil_append] at hp
    have hpl2 := hT2.part_le
    have hle2 := hT2.le
    obtain ⟨k2, hk2, hh2, hkl2⟩ := hT2.read
    refine st_alloc 15 (tld gnil 0 gnil 0 0) hp rfl zl57 rfl (fun b15 w hp => ?_)
    refine st_storeA 15 hp rfl rfl rfl rfl (sz57.trans rfl) (by simp [Value.oneCell']) (fun w hp => ?_)
    refine st_nil ?_
    refine pn_then ?_
    refine sc_seq ?_
    refine sc_seq ?_
    obtain rfl : er2 = 0 := by rw [hk2] at hlerr; exact hlerr
    have hT2' := hT2
    obtain ⟨_, hS2, hw2⟩ | ⟨h9, _⟩ := hT2
    rotate_left
    · exact absurd rfl h9
    have hkl2' := hkl2 rfl
    have htl : (A.take (A.length - 1)).length = A.length - 1 := by simp
    rw [htl] at hkl2' hh2
    have hsz2 : ∀ s ∈ bs2.map Bs.sl, s.bs.length ≤ 281474976710656 := read_szs hk2 (by omega)
    have hsn2 : (bs2.map Bs.sl).length ≤ 281474976710656 := by have h9 := hle2.2; rw [List.length_map] at h9; rw [List.length_map]; omega
    refine sc_region ?_
    refine st_v (ov_field (q := 2) rfl Try.underlying57 rfl sz31 rfl) rfl ?_
    refine st_v (ov_load1 rfl Try.underlying31 rfl ((hp.cells' (t := 15) rfl).at 2 (by simp) rfl)) rfl ?_
    refine st_v (v := .bool false) ((ov_neq rfl rfl).is ((by simp))) rfl ?_
    refine st_v (ov_move rfl) rfl ?_
    refine st_on (j := 3) rfl rfl ?_
    refine st_v (ov_move rfl) rfl ?_
    refine st_on (j := 3) rfl rfl ?_
    refine st_call pl30 rfl rfl rfl (fault_walk r2 st2 g2 part2.length want2 0 _ (hp.cells' (t := 80) rfl)) ?_
    rintro _ w ⟨rfl, hch⟩
    refine ⟨_, rfl, ?_⟩
    replace hp := hp.call hch
    clear hch
    refine st_on (j := 3) rfl rfl ?_
    refine st_v (v := .bool false) ((ov_neq rfl rfl).is (by simp)) rfl ?_
    refine st_v (ov_pick_f rfl rfl) rfl ?_
    refine st_nil ?_
    refine pn_then ?_
    refine sc_false rfl ?_
    refine sc_skip ?_
    refine pn_then ?_
    refine sc_seq ?_
    refine sc_seq ?_
    refine sc_region ?_
    refine st_v (ov_move rfl) rfl ?_
    refine st_v (ov_len rfl Try.underlying37 rfl) rfl ?_
    refine st_v (ov_eql rfl rfl) rfl ?_
    refine st_nil ?_
    refine pn_then ?_
    refine sc_cond rfl (fun hc => ?_) (fun hc => ?_)
    ·
      have hc := of_decide_eq_true hc
      obtain ⟨hn1, hn2⟩ := hnone (List.length_eq_zero_iff.1 (by omega))
      have hE := hk2.symm.trans hn1
      simp only [Prod.mk.injEq] at hE
      obtain ⟨rfl, hbs2, rfl, _⟩ := hE
      rw [hn2] at hh2
      refine sc_seq ?_
      refine sc_region ?_
      refine st_v (ov_field (q := 0) rfl Try.underlying57 rfl sz48 rfl) rfl ?_
      refine st_v (ov_load1 rfl Try.underlying48 rfl ((hp.cells' (t := 15) rfl).at 0 (by simp) rfl)) rfl ?_
      refine st_v (ov_len rfl Try.underlying48 rfl) rfl ?_
      refine st_v (v := .bool true) ((ov_eql rfl rfl).is (by rfl)) rfl ?_
      refine st_v (ov_move rfl) rfl ?_
      refine st_on (j := 4) rfl rfl ?_
      refine st_v (ov_move rfl) rfl ?_
      refine st_on (j := 4) rfl rfl ?_
      refine st_call pl28 rfl rfl rfl (held_walk r2 st2 g2 part2.length want2 0 _ (hp.cells' (t := 80) rfl) (by omega)) ?_
      rintro _ w ⟨rfl, hch⟩
      refine ⟨_, rfl, ?_⟩
      replace hp := hp.call hch
      clear hch
      rw [hh2]
      refine st_on (j := 4) rfl rfl ?_
      refine st_v (v := .bool true) ((ov_eql rfl rfl).is (by simp)) rfl ?_
      refine st_v (ov_pick_t rfl rfl) rfl ?_
      refine st_v (ov_assign rfl) rfl ?_
      refine st_nil ?_
      refine pn_then ?_
      refine sc_ret ?_
      refine pr_then ?_
      refine pr_one rfl rfl ?_
      exact ⟨rfl, hp.chg⟩
    ·
      have hc := of_decide_eq_false hc
      have hSn : S.length ≠ 0 := by omega
      obtain ⟨c, hc1, hc2, hc3⟩ := hsome hSn
      have hE := hk2.symm.trans hc1
      simp only [Prod.mk.injEq] at hE
      obtain ⟨rfl, hbs2, rfl, _⟩ := hE
      obtain ⟨y, hy⟩ : ∃ y, y = S.getD (S.length - 1) (⟨none, [], 0⟩ : Sl) := ⟨_, rfl⟩
      rw [← hy] at hc2
      refine sc_skip ?_
      refine pn_then ?_
      refine sc_seq ?_
      refine sc_region ?_
      refine st_v (ov_move rfl) rfl ?_
      refine st_v (ov_len rfl Try.underlying37 rfl) rfl ?_
      refine st_v (ov_sub_n (a := S.length) (b := 1) rfl rfl (by omega)) rfl ?_
      refine st_v (ov_assign rfl) rfl ?_
      refine st_nil ?_
      refine pn_then ?_
      refine sc_seq ?_
      refine sc_seq ?_
      obtain ⟨Hs, hHs⟩ := (hp.sub (L' := [(15, _), (102, _), (101, _), (81, _), (80, _), (14, _), (92, _), (91, _), (71, _), (70, _), (7, _), (8, _), (3, _)]) (LSub.cons rfl (LSub.cons rfl (LSub.cons rfl (LSub.cons rfl (LSub.cons rfl (LSub.cons rfl (LSub.cons rfl (LSub.cons rfl (LSub.cons rfl (LSub.cons rfl (LSub.cons rfl (LSub.cons rfl (LSub.cons rfl (LSub.nil _))))))))))))))).hs
      refine sc_plan Hs [0, 1, 2, 3, 4, 5, 6, 7, 8, 9, 11, 12, 13, 14, 16, 17, 18, 19, 20, 21, 22, 23] [10, 15] (.take 0 (.load 1 (.take 2 (.take 3 (.take 4 (.take 5 (.load 6 (.take 7 (.take 8 (.take 9 (.one 10 (.take 11 (.take 12 (.take 13 (.take 14 (.take 16 (.take 17 (.take 18 (.load 19 (.take 20 (.take 21 (.one 15 (.take 22 (.take 23 .nil)))))))))))))))))))))))) (by kernel_rfl) (by kernel_rfl) (by repeat (first | exact calm_body _ _ _ | refine calm_then ?_ | refine calm_block ?_ | refine calm_jump ?_ | refine calm_ng ?_)) ?_
      replace hp := hp.drew
      refine sp_take rfl (fun w => ov_field (q := 0) rfl Try.underlying57 rfl sz48 rfl) rfl ?_
      refine sp_load rfl ((hHs _).2 (hp.sub (LSub.cons rfl (LSub.cons rfl (LSub.cons rfl (LSub.cons rfl (LSub.cons rfl (LSub.cons rfl (LSub.cons rfl (LSub.cons rfl (LSub.cons rfl (LSub.cons rfl (LSub.cons rfl (LSub.cons rfl (LSub.cons rfl (LSub.nil _)))))))))))))))) (fun w hs => have hp := (hHs w).1 hs; ov_load1 rfl Try.underlying48 rfl ((hp.cells' (t := 15) rfl).at 0 (by simp) rfl)) rfl ?_
      refine sp_take rfl (fun w => ov_len rfl Try.underlying48 rfl) rfl ?_
      refine sp_take rfl (v := .bool false) (fun w => (ov_neq rfl rfl).is (by rfl)) rfl ?_
      refine sp_take rfl (fun w => ov_move rfl) rfl ?_
      refine sp_take_on rfl rfl rfl (fun w => ov_field (q := 1) rfl Try.underlying57 rfl sz37 rfl) rfl ?_
      refine sp_load_on rfl rfl rfl ((hHs _).2 (hp.sub (LSub.cons rfl (LSub.cons rfl (LSub.cons rfl (LSub.cons rfl (LSub.cons rfl (LSub.cons rfl (LSub.cons rfl (LSub.cons rfl (LSub.cons rfl (LSub.cons rfl (LSub.cons rfl (LSub.cons rfl (LSub.cons rfl (LSub.nil _)))))))))))))))) (fun w hs => have hp := (hHs w).1 hs; ov_load1 rfl Try.underlying37 rfl ((hp.cells' (t := 15) rfl).at 1 (by simp) rfl)) rfl ?_
      refine sp_take_on rfl rfl rfl (fun w => ov_move rfl) rfl ?_
      refine sp_take_on rfl rfl rfl (fun w => ov_move rfl) rfl ?_
      refine sp_take_on rfl rfl rfl (fun w => ov_slice_hi Try.underlying37 sz26 rfl rfl (by omega)) rfl ?_
      refine sp_one rfl ?_
      refine st_on (j := 4) rfl rfl ?_
      refine st_call pl22 rfl rfl rfl (sameb_walk (bs2.map Bs.sl) (S.take (S.length - 1)) _ _ _ _ _ (by rw [← map_v]; exact Rd.own (hp.own 102 _ rfl)) ((Rd.own (hp.own 8 _ rfl)).takeM (S.length - 1)) (hp.rdAll (fun x hx => by have h9 := List.mem_map_of_mem (f := Bs.ck) hx; simp only [List.mem_append, h9, true_or, or_true]) hfit2) (fun s hs => (hSA.chg hp.chg) s (List.mem_of_mem_take hs)) (by rw [sl_bs]; exact hbs2) (by simp) (by simp) hsz2 hsn2) ?_
      rintro _ w ⟨rfl, hch⟩
      refine ⟨_, rfl, ?_⟩
      replace hp := hp.call hch
      clear hch
      refine st_nil ?_
      refine sp_next (i := 10) (fun _ => ((hHs _).2 (hp.sub (LSub.cons rfl (LSub.cons rfl (LSub.cons rfl (LSub.cons rfl (LSub.cons rfl (LSub.cons rfl (LSub.cons rfl (LSub.cons rfl (LSub.cons rfl (LSub.cons rfl (LSub.cons rfl (LSub.cons rfl (LSub.cons rfl (LSub.nil _))))))))))))))))) ?_
      refine sp_take_on rfl rfl rfl (fun w => ov_not rfl) rfl ?_
      refine sp_take rfl (fun w => ov_pick_f rfl rfl) rfl ?_
      refine sp_take rfl (fun w => ov_move rfl) rfl ?_
      refine sp_take_on rfl rfl rfl (fun w => ov_move rfl) rfl ?_
      refine sp_take_on rfl rfl rfl (fun w => ov_move rfl) rfl ?_
      refine sp_take_on rfl rfl rfl (fun w => ov_move rfl) rfl ?_
      obtain ⟨bb6, oo6, hadr6, hcl6⟩ := (Rd.own (hp.own 8 _ rfl)).pos (by simp; omega)
      refine sp_take_on rfl rfl rfl (fun w => ov_indexR hadr6 rfl rfl Try.underlying37 sz26 (by omega)) rfl ?_
      refine sp_load_on rfl rfl rfl ((hHs _).2 (hp.sub (LSub.cons rfl (LSub.cons rfl (LSub.cons rfl (LSub.cons rfl (LSub.cons rfl (LSub.cons rfl (LSub.cons rfl (LSub.cons rfl (LSub.cons rfl (LSub.cons rfl (LSub.cons rfl (LSub.cons rfl (LSub.cons rfl (LSub.nil _)))))))))))))))) (fun w hs => have hp := (hHs w).1 hs; ov_load1 rfl Try.underlying26 rfl (Cells.elem' ((Rd.own (hp.own 8 _ rfl)).at_adr hadr6 (by simp; omega)) (S.length - 1) (by first | omega | (simp; omega) | (simp [*]; omega)) (⟨none, [], 0⟩ : Sl))) rfl ?_
      refine sp_take_on rfl rfl rfl (fun w => ov_len rfl Try.underlying26 rfl) rfl ?_
      refine sp_take_on rfl rfl rfl (fun w => ov_add_n (a := (S.getD (S.length - 1) (⟨none, [], 0⟩ : Sl)).bs.length) (b := 3) rfl rfl (by omega)) rfl ?_
      refine sp_one rfl ?_
      refine st_on (j := 13) rfl rfl ?_
      refine st_call pl28 rfl rfl rfl (held_walk r2 st2 g2 part2.length want2 0 _ (hp.cells' (t := 80) rfl) (by omega)) ?_
      rintro _ w ⟨rfl, hch⟩
      refine ⟨_, rfl, ?_⟩
      replace hp := hp.call hch
      clear hch
      refine st_nil ?_
      refine sp_next (i := 15) (fun _ => ((hHs _).2 (hp.sub (LSub.cons rfl (LSub.cons rfl (LSub.cons rfl (LSub.cons rfl (LSub.cons rfl (LSub.cons rfl (LSub.cons rfl (LSub.cons rfl (LSub.cons rfl (LSub.cons rfl (LSub.cons rfl (LSub.cons rfl (LSub.cons rfl (LSub.nil _))))))))))))))))) ?_
      rw [hh2]
      refine sp_take_on rfl rfl rfl (v := .bool false) (fun w => (ov_neq rfl rfl).is (congrArg Value.bool (decide_eq_false (by rw [if_pos rfl, hc2, hy]; omega)))) rfl ?_
      refine sp_take rfl (fun w => ov_pick_f rfl rfl) rfl ?_
      refine sp_nil ?_
      refine pn_then ?_
      refine sc_false rfl ?_
      refine sc_skip ?_
      refine pn_then ?_
      refine sc_seq ?_
      refine sc_region ?_
      refine st_v (ov_move rfl) rfl ?_
      refine st_v (ov_move rfl) rfl ?_
      refine st_v (ov_move rfl) rfl ?_
      refine st_v (ov_len rfl Try.underlying26 rfl) rfl ?_
      refine st_v (ov_sub_n (a := A.length) (b := 1) rfl rfl (by omega)) rfl ?_
      refine st_v (ov_slice_lo Try.underlying26 sz5 rfl rfl (by omega)) rfl ?_
      rw [Int.toNat_natCast]
      refine st_call pl25 rfl rfl rfl (push_walk r2 st2 g2 part2 want2 true (A.take (A.length - 1)) [h] (bs2.map Bs.bs) (A.drop (A.length - 1)) _ _ _ (hp.owns' (ts := [80, 81]) (by simp) rfl) hcg2 hS2 ((Rd.own (hp.own 7 _ rfl)).dropM (by have := gcap1 hcb; omega)) (Offs.drop (ao := adr gb.ob) (cs := A) (l := rck r2 st2 g2 part2 want2 0) (hp.offT (t := 7) (ts := [80, 81]) rfl (by simp) rfl (by simp)) _) (by simp) (by have := gcap1 hcb; omega) (by simp; omega)) ?_
      rintro _ w ⟨gm3, gb3, g3, mt3, bs3, er3, st3, part3, want3, rfl, hL, hcm3, hcb3, hcg3, hfit3, hR⟩
      refine ⟨_, rfl, ?_⟩
      replace hp := hp.backX (o1 := rck r2 st3 g3 part3 want3 er3 ++ [⟨gm3.ob, mt3.flatMap hcs ++ gm3.sp, 25⟩, ⟨gb3.ob, bs3.map Bs.v ++ gb3.sp, 26⟩]) [80, 81] [80, 81, 111, 112] (by simp) rfl hL (by simp) rfl (by simp)
      clear hL
      simp only [tg, rck, List.cons_append, List.nil_append] at hp
      have hT3 := hR.told
      rw [List.take_append_drop] at hT3
      have hpl3 := hT3.part_le
      obtain ⟨k3, hk3, hh3, _⟩ := hT3.read
      have hE := hk3.symm.trans hall
      simp only [Prod.mk.injEq] at hE
      obtain ⟨hm3, hb3, rfl, rfl⟩ := hE
      obtain rfl : mt3 = [] := by simpa using hm3
      rw [hbs2] at hb3
      have hlast : bs3.map Bs.bs = [y.bs] := last_of (by omega) hy hb3
      obtain ⟨x, rfl, hx⟩ := one_of hlast
      refine st_v (ov_move rfl) rfl ?_
      refine st_v (ov_extract rfl rfl) rfl ?_
      refine st_v (ov_extract rfl rfl) rfl ?_
      refine st_v (ov_extract rfl rfl) rfl ?_
      refine st_v (ov_assign rfl) rfl ?_
      refine st_v (ov_assign rfl) rfl ?_
      refine st_v (ov_assign rfl) rfl ?_
      refine st_nil ?_
      refine pn_then ?_
      refine sc_seq ?_
      refine sc_draws_tail 20 (by kernel_rfl) (by kernel_rfl) ?_
      replace hp := hp.drew
      simp only [List.take_succ_cons, List.take_zero, List.drop_succ_cons, List.drop_zero]
      refine ss_v (ov_move rfl) rfl ?_
      refine ss_v (v := .bool true) ((ov_eql rfl rfl).is ((by simp))) rfl ?_
      refine ss_v (ov_move rfl) rfl ?_
      refine ss_on (j := 2) rfl rfl ?_
      refine ss_v (ov_move rfl) rfl ?_
      refine ss_on (j := 2) rfl rfl ?_
      refine ss_v (ov_len rfl Try.underlying48 rfl) rfl ?_
      refine ss_on (j := 2) rfl rfl ?_
      refine ss_v (v := .bool true) ((ov_eql rfl rfl).is (by rfl)) rfl ?_
      refine ss_v (ov_pick_t rfl rfl) rfl ?_
      refine ss_v (ov_move rfl) rfl ?_
      refine ss_on (j := 7) rfl rfl ?_
      refine ss_v (ov_move rfl) rfl ?_
      refine ss_on (j := 7) rfl rfl ?_
      refine ss_v (ov_len rfl Try.underlying37 rfl) rfl ?_
      refine ss_on (j := 7) rfl rfl ?_
      refine ss_v (v := .bool true) ((ov_eql rfl rfl).is (by rfl)) rfl ?_
      refine ss_v (ov_pick_t rfl rfl) rfl ?_
      refine ss_v (ov_move rfl) rfl ?_
      refine ss_on (j := 12) rfl rfl ?_
      refine ss_v (ov_move rfl) rfl ?_
      refine ss_on (j := 12) rfl rfl ?_
      obtain ⟨bb7, oo7, hadr7, hcl7⟩ := ((show Rd _ _ (([x].map Bs.sl).map Sl.v) from Rd.own (hp.own 112 _ rfl))).pos (by simp)
      refine ss_v (ov_indexR hadr7 rfl rfl Try.underlying37 sz26 (by simp)) rfl ?_
      refine ss_on (j := 12) rfl rfl ?_
      refine ss_v (ov_load1 rfl Try.underlying26 rfl (Cells.elem' hcl7 (0) (by simp) (⟨none, [], 0⟩ : Sl))) rfl ?_
      refine ss_on (j := 12) rfl rfl ?_
      refine ss_v (ov_move rfl) rfl ?_
      refine ss_on (j := 12) rfl rfl ?_
      refine ss_v (ov_move rfl) rfl ?_
      refine ss_on (j := 12) rfl rfl ?_
      obtain ⟨bb8, oo8, hadr8, hcl8⟩ := (Rd.own (hp.own 8 _ rfl)).pos (by simp; omega)
      refine ss_v (ov_indexR hadr8 rfl rfl Try.underlying37 sz26 (by omega)) rfl ?_
      refine ss_on (j := 12) rfl rfl ?_
      refine ss_v (ov_load1 rfl Try.underlying26 rfl (Cells.elem' hcl8 (S.length - 1) (by first | omega | (simp; omega) | (simp [*]; omega)) (⟨none, [], 0⟩ : Sl))) rfl ?_
      refine ss_tail ?_
      refine st_on (j := 12) rfl rfl ?_
      refine st_call pl14 rfl rfl rfl (same_walk_eq y.bs _ _ _ _ _ (by rw [← hx]; exact ((hp.rdAll (fun x hx => by have h9 := List.mem_map_of_mem (f := Bs.ck) hx; simp only [List.mem_append, h9, true_or, or_true]) hfit3) x.sl (by simp)).1) (by rw [hy]; exact (hSA.chg hp.chg).at (by omega) (⟨none, [], 0⟩ : Sl)) (by rw [← hx]; rfl) (by rw [hy]) (by omega)) ?_
      rintro _ w ⟨rfl, hch⟩
      refine ⟨_, rfl, ?_⟩
      replace hp := hp.call hch
      clear hch
      refine st_v (ov_pick_t rfl rfl) rfl ?_
      refine st_v (ov_move rfl) rfl ?_
      refine st_on (j := 22) rfl rfl ?_
      refine st_v (ov_move rfl) rfl ?_
      refine st_on (j := 22) rfl rfl ?_
      refine st_call pl28 rfl rfl rfl (held_walk r2 st3 g3 part3.length want3 0 _ (hp.cells' (t := 80) rfl) (by omega)) ?_
      rintro _ w ⟨rfl, hch⟩
      refine ⟨_, rfl, ?_⟩
      replace hp := hp.call hch
      clear hch
      rw [hh3]
      refine st_on (j := 22) rfl rfl ?_
      refine st_v (v := .bool true) ((ov_eql rfl rfl).is (by simp)) rfl ?_
      refine st_v (ov_pick_t rfl rfl) rfl ?_
      refine st_v (ov_assign rfl) rfl ?_
      refine st_nil ?_
      refine pn_then ?_
      refine sc_ret ?_
      refine pr_one rfl rfl ?_
      exact ⟨rfl, hp.chg⟩

end Go.Proofs.Ythebbenfmoknbaa

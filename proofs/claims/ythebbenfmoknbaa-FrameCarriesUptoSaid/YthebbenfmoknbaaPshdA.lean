/-
  The walk of pushed.
-/
import Derived.Test.YthebbenfmoknbaaHeldA
namespace Go.Proofs.Ythebbenfmoknbaa
open Go Go.RowKit

set_option maxRecDepth 100000 in
theorem pushed_walk (r : Nat) (hello : Bool) (b : List UInt8) (cuts : List Int) {nb nc : Nat} (ao bo : Option Addr) (ca cb : Nat) (w0 : World) (hO : Owns w0 (rck0 r hello))
    (h1 : Rd w0 ao (b.map B8)) (hoff : Offs (rck0 r hello) ao (b.map B8)) (h2 : Rd w0 bo (cuts.map fun x => Value.int .i64 x)) (hoff2 : Offs (rck0 r hello) bo (cuts.map fun x => Value.int .i64 x)) (hb : b.length = nb) (hca : nb ≤ ca) (hcl : cuts.length = nc) (hz : b.length ≤ 1099511627776) (hzc : cuts.length ≤ 1099511627776) :
    Calls Try.prog 32 #[.pointer (some ⟨r, 0, none⟩), .slice ao nb ca, .slice bo nc cb] w0 fun e w' => ToldL w0 w' (rck0 r hello) e r (fun mt bods err st part want => ToldR hello b mt bods err st part want) := by
  refine calls_in Try.func32 Try.ntmps32 rfl rfl ?_
  have hp : Hp w0 (blks (rck0 r hello)) [(0, ⟨some r, rdr (if hello = true then 0 else 1) gnil 0 (if hello = true then 68 else 4) 0, 70⟩), (100, ⟨none, [], 5⟩)] [] w0 := Hp.begin [0, 100] hO
  subst hb hcl
  obtain ⟨hS0, hlt0⟩ := rst_new hello
  refine sc_seq ?_
  refine sc_region ?_
  refine st_alloc 6 (tld gnil 0 gnil 0 0) hp rfl zl57 rfl (fun b6 w hp => ?_)
  refine st_nil ?_
  refine pn_then ?_
  refine sc_seq ?_
  refine sc_region ?_
  refine st_alloc 7 (tld gnil 0 gnil 0 0) hp rfl zl57 rfl (fun b7 w hp => ?_)
  refine st_nil ?_
  refine pn_then ?_
  refine sc_seq ?_
  replace hp := (hp.nil 200 25).nil 201 26
  refine sc_region ?_
  refine st_v (ov_assign rfl) rfl ?_
  refine st_nil ?_
  refine pn_then ?_
  refine sc_seq ?_
  refine sc_seq ?_
  refine sc_region ?_
  refine st_v (ov_assign rfl) rfl ?_
  refine st_nil ?_
  refine pn_then ?_
  refine sc_block ?_
  refine sc_loopX1 (α := PD) (kv := [(0, _), (1, _), (2, _), (6, _), (7, _)]) (kl := [(6, _)]) (fun x kv => (8, .int .i64 ((x.k : Nat) : Int)) :: (9, .int .i64 ((x.i : Nat) : Int)) :: kv) (fun x kl => (0, ⟨some r, rdr x.st x.g x.part.length x.want 0, 70⟩) :: (100, ⟨x.g.ob, x.part.map B8 ++ x.g.sp, 5⟩) :: (200, ⟨x.gm.ob, x.mt.flatMap hcs ++ x.gm.sp, 25⟩) :: (201, ⟨x.gb.ob, x.bs.map Bs.v ++ x.gb.sp, 26⟩) :: (7, ⟨some b7, tld x.gm x.mt.length x.gb x.bs.length 0, 57⟩) :: kl) (fun x => x.bs.map Bs.ck) (fun x => (RSt hello (b.take x.k) x.st x.part x.want x.mt (x.bs.map Bs.bs)) ∧ (x.part.length < x.want) ∧ (x.k ≤ b.length) ∧ (x.i ≤ cuts.length + 1) ∧ (x.i = cuts.length + 1 → x.k = b.length) ∧ ((x.mt.flatMap hcs ++ x.gm.sp).length = x.gm.cap * 48) ∧ ((x.bs.map Bs.v ++ x.gb.sp).length = x.gb.cap * 1) ∧ ((x.part.map B8 ++ x.g.sp).length = x.g.cap * 1) ∧ (∀ y ∈ x.bs, y.fit)) (fun x => cuts.length + 1 - x.i) (⟨0, 0, if hello = true then 0 else 1, gnil, [], if hello = true then 68 else 4, gnil, [], gnil, []⟩ : PD) hp (Sub.cons rfl (Sub.cons rfl (Sub.cons rfl (Sub.cons rfl (Sub.cons rfl (Sub.cons rfl (Sub.cons rfl (Sub.nil _)))))))) (LSub.cons rfl (LSub.cons rfl (LSub.cons rfl (LSub.cons rfl (LSub.cons rfl (LSub.cons rfl (LSub.nil _))))))) rfl ?_ ?_
  · exact ⟨(by simpa using hS0), hlt0, (Nat.zero_le _), (by first | omega | (simp; done) | (simp; omega) | (simp [*]; omega)), (fun h => by cases h), rfl, rfl, rfl, (fun x h => by cases h)⟩
  intro x w hp hx
  obtain ⟨hS, hlt, hk, hi, hend, hcm, hcb, hcg, hfit⟩ := hx
  obtain ⟨k, i, st, g, part, want, gm, mt, gb, bs⟩ := x
  dsimp only at *
  refine sc_seq ?_
  refine sc_seq ?_
  refine sc_region ?_
  refine st_v (ov_move rfl) rfl ?_
  refine st_v (ov_move rfl) rfl ?_
  refine st_v (ov_len rfl Try.underlying55 rfl) rfl ?_
  refine st_v (ov_leq rfl rfl) rfl ?_
  refine st_nil ?_
  refine pn_then ?_
  refine sc_cond rfl (fun hc => ?_) (fun hc => ?_)
  ·
    have hc := of_decide_eq_true hc
    refine sc_skip ?_
    refine pn_then ?_
    refine sc_seq ?_
    refine sc_block ?_
    refine sc_seq ?_
    refine sc_region ?_
    refine st_v (ov_move rfl) rfl ?_
    refine st_v (ov_len rfl Try.underlying26 rfl) rfl ?_
    refine st_v (ov_assign rfl) rfl ?_
    refine st_nil ?_
    refine pn_then ?_
    refine sc_seq ?_
    refine sc_seq ?_
    refine sc_region ?_
    refine st_v (ov_move rfl) rfl ?_
    refine st_v (ov_move rfl) rfl ?_
    refine st_v (ov_len rfl Try.underlying55 rfl) rfl ?_
    refine st_v (ov_lss rfl rfl) rfl ?_
    refine st_v (ov_move rfl) rfl ?_
    refine st_split (j := 26) rfl (fun hb => ?_) (fun hb => ?_)
    ·
      have hb := of_decide_eq_true hb
      refine st_on (j := 4) rfl rfl ?_
      refine st_v (ov_move rfl) rfl ?_
      refine st_on (j := 4) rfl rfl ?_
      refine st_v (ov_move rfl) rfl ?_
      refine st_on (j := 4) rfl rfl ?_
      obtain ⟨bb1, oo1, hadr1, hcl1⟩ := (h2.chgL hp.chg hoff2).pos (by simp; omega)
      refine st_v (ov_indexR hadr1 rfl rfl Try.underlying55 sz3 (by omega)) rfl ?_
      refine st_on (j := 4) rfl rfl ?_
      refine st_v (ov_load1 rfl Try.underlying3 rfl (Cells.elem' hcl1 (i) (by omega) 0)) rfl ?_
      refine st_on (j := 4) rfl rfl ?_
      refine st_v (ov_move rfl) rfl ?_
      refine st_on (j := 4) rfl rfl ?_
      refine st_v (ov_len rfl Try.underlying26 rfl) rfl ?_
      refine st_on (j := 4) rfl rfl ?_
      refine st_v (ov_move rfl) rfl ?_
      refine st_on (j := 4) rfl rfl ?_
      refine st_v (ov_sub_n (a := b.length) (b := k) rfl rfl (by omega)) rfl ?_
      refine st_on (j := 4) rfl rfl ?_
      refine st_v (ov_lss rfl rfl) rfl ?_
      refine st_v (ov_pick_t rfl rfl) rfl ?_
      refine st_nil ?_
      refine pn_then ?_
      refine sc_cutH1 (α := Nat) (kv := [(0, _), (1, _), (2, _), (6, _), (7, _), (8, _), (9, _)]) (kl := [(0, _), (100, _), (200, _), (201, _), (7, _), (6, _)]) (fun to kv => (10, .int .i64 ((to : Nat) : Int)) :: kv) (fun to kl => kl) (fun to => (k ≤ to ∧ to ≤ b.length) ∧ (i = cuts.length → to = b.length)) hp (Sub.cons rfl (Sub.cons rfl (Sub.cons rfl (Sub.cons rfl (Sub.cons rfl (Sub.cons rfl (Sub.cons rfl (Sub.nil _)))))))) (LSub.cons rfl (LSub.cons rfl (LSub.cons rfl (LSub.cons rfl (LSub.cons rfl (LSub.cons rfl (LSub.nil _))))))) ?_ ?_
      ·
        refine sc_cond rfl (fun hc => ?_) (fun hc => ?_)
        ·
          have hc := of_decide_eq_true hc
          refine sc_seq ?_
          refine sc_region ?_
          refine st_v (ov_move rfl) rfl ?_
          refine st_v (ov_assign rfl) rfl ?_
          refine st_nil ?_
          refine pn_then ?_
          refine sc_seq ?_
          refine sc_region ?_
          refine st_v (ov_move rfl) rfl ?_
          refine st_v (ov_move rfl) rfl ?_
          obtain ⟨bb2, oo2, hadr2, hcl2⟩ := (h2.chgL hp.chg hoff2).pos (by simp; omega)
          refine st_v (ov_indexR hadr2 rfl rfl Try.underlying55 sz3 (by omega)) rfl ?_
          refine st_v (ov_load1 rfl Try.underlying3 rfl (Cells.elem' hcl2 (i) (by omega) 0)) rfl ?_
          refine st_v (ov_gtr rfl rfl) rfl ?_
          refine st_nil ?_
          refine pn_then ?_
          refine sc_cond rfl (fun hc => ?_) (fun hc => ?_)
          ·
            have hc := of_decide_eq_true hc
            refine sc_region ?_
            refine st_v (ov_move rfl) rfl ?_
            refine st_v (ov_move rfl) rfl ?_
            refine st_v (ov_move rfl) rfl ?_
            obtain ⟨bb3, oo3, hadr3, hcl3⟩ := (h2.chgL hp.chg hoff2).pos (by simp; omega)
            refine st_v (ov_indexR hadr3 rfl rfl Try.underlying55 sz3 (by omega)) rfl ?_
            refine st_v (ov_load1 rfl Try.underlying3 rfl (Cells.elem' hcl3 (i) (by omega) 0)) rfl ?_
            have hcv : 0 ≤ (cuts.getD i 0) := by omega
            have e48 : ((k : Nat) : Int) + cuts.getD i 0 = ((k + (cuts.getD i 0).toNat : Nat) : Int) := by omega
            refine st_v ((ov_add_i64 rfl rfl (by omega)).is (congrArg (Value.int .i64) e48)) rfl ?_
            refine st_v (ov_assign rfl) rfl ?_
            refine st_nil ?_
            refine pn_cutH1 _ hp (Sub.cons rfl (Sub.cons rfl (Sub.cons rfl (Sub.cons rfl (Sub.cons rfl (Sub.cons rfl (Sub.cons rfl (Sub.cons rfl (Sub.nil _))))))))) (LSub.cons rfl (LSub.cons rfl (LSub.cons rfl (LSub.cons rfl (LSub.cons rfl (LSub.cons rfl (LSub.nil _))))))) ?_
            exact ⟨(by constructor <;> omega), (fun h => by omega)⟩
          ·
            have hc := of_decide_eq_false hc
            refine sc_skip ?_
            refine pn_cutH1 _ hp (Sub.cons rfl (Sub.cons rfl (Sub.cons rfl (Sub.cons rfl (Sub.cons rfl (Sub.cons rfl (Sub.cons rfl (Sub.cons rfl (Sub.nil _))))))))) (LSub.cons rfl (LSub.cons rfl (LSub.cons rfl (LSub.cons rfl (LSub.cons rfl (LSub.cons rfl (LSub.nil _))))))) ?_
            exact ⟨(by constructor <;> omega), (fun h => by omega)⟩
        ·
          have hc := of_decide_eq_false hc
          refine sc_skip ?_
          refine pn_cutH1 _ hp (Sub.cons rfl (Sub.cons rfl (Sub.cons rfl (Sub.cons rfl (Sub.cons rfl (Sub.cons rfl (Sub.cons rfl (Sub.cons rfl (Sub.nil _))))))))) (LSub.cons rfl (LSub.cons rfl (LSub.cons rfl (LSub.cons rfl (LSub.cons rfl (LSub.cons rfl (LSub.nil _))))))) ?_
          exact ⟨(by constructor <;> omega), (fun h => by omega)⟩
      ·
        intro to w hp hx
        obtain ⟨ht, hte⟩ := hx
        refine pn_then ?_
        refine sc_seq ?_
        refine sc_region ?_
        refine st_v (ov_move rfl) rfl ?_
        refine st_v (ov_move rfl) rfl ?_
        refine st_v (ov_move rfl) rfl ?_
        refine st_v (ov_move rfl) rfl ?_
        refine st_v (ov_slice_lh Try.underlying26 sz5 rfl rfl rfl (by omega)) rfl ?_
        simp only [Int.toNat_natCast]
        refine st_call pl15 rfl rfl rfl (copied_walk (((b.drop k).take (to - k))) _ _ _ (Rd.takeM ((Rd.dropM (l := k) (h1.chgL hp.chg hoff) (by first | omega | (simp; done) | (simp; omega) | (simp [*]; omega)))) (to - k)) (by first | rfl | omega | (simp; done) | (simp; omega) | (simp [*]; omega)) (by simp; omega)) ?_
        rintro _ w ⟨g55, rfl, hm55⟩
        refine ⟨_, rfl, ?_⟩
        replace hp := hp.got 55 hm55
        have hc55 := hm55.2
        clear hm55
        refine st_call pl25 rfl rfl rfl (push_walk r st g part want hello (b.take k) mt (bs.map Bs.bs) ((b.drop k).take (to - k)) _ _ _ (hp.owns' (ts := [0, 100]) (by simp) rfl) hcg hS (Rd.own (hp.own 55 _ rfl)) (hp.offT (t := 55) (ts := [0, 100]) rfl (by simp) rfl (by simp)) (by simp; omega) (by have h9 := gcap1 hc55; simp at h9; omega) (by simp; omega)) ?_
        rintro _ w ⟨gm2, gb2, g2, mt2, bs2, err, st2, part2, want2, rfl, hL, hcm2, hcb2, hcg2, hfit2, hR⟩
        refine ⟨_, rfl, ?_⟩
        replace hp := hp.backX (o1 := rck r st2 g2 part2 want2 err ++ [⟨gm2.ob, mt2.flatMap hcs ++ gm2.sp, 25⟩, ⟨gb2.ob, bs2.map Bs.v ++ gb2.sp, 26⟩]) [0, 100] [0, 100, 57, 58] (by simp) rfl hL (by simp) rfl (by simp)
        clear hL
        simp only [tg, rck, List.cons_append, List.nil_append] at hp
        rw [← List.map_append] at hp
        have hle := hR.told.le
        rw [take_mid b (by omega), ← List.map_append, List.length_append, List.length_map, List.length_append] at hle
        have hbt : (b.take to).length ≤ b.length := by simp; omega
        have hfit3 : ∀ x ∈ bs ++ bs2, x.fit := fun x hx => (List.mem_append.1 hx).elim (hfit x) (hfit2 x)
        refine st_v (ov_move rfl) rfl ?_
        refine st_v (ov_extract rfl rfl) rfl ?_
        refine st_v (ov_extract rfl rfl) rfl ?_
        refine st_v (ov_extract rfl rfl) rfl ?_
        refine st_v (ov_assign rfl) rfl ?_
        refine st_v (ov_assign rfl) rfl ?_
        refine st_v (ov_assign rfl) rfl ?_
        refine st_nil ?_
        refine pn_then ?_
        refine sc_seq ?_
        refine sc_region ?_
        refine st_v (ov_field (q := 0) rfl Try.underlying57 rfl sz48 rfl) rfl ?_
        refine st_v (ov_load1 rfl Try.underlying48 rfl ((hp.cells' (t := 7) rfl).at 0 (by simp) rfl)) rfl ?_
        refine st_v (ov_move rfl) rfl ?_
        refine st_append 200 gm (xs := mt.flatMap hcs) (news := mt2.flatMap hcs) (m := mt2.length) hp rfl rfl rfl rfl rfl Try.underlying48 in25 (by decide) rfl (flat_len hcs_len mt) hcm (Rd.own (hp.own 57 _ rfl)) (flat_len hcs_len mt2) (hcss_one _) (by omega) (fun gm3 w hp hcm3 hf200 => ?_)
        rw [← List.flatMap_append] at hp hcm3
        rw [← List.length_append]
        refine st_v (ov_field (q := 0) rfl Try.underlying57 rfl sz48 rfl) rfl ?_
        refine st_store1 7 hp rfl rfl rfl rfl sz48 (by simp) (fun w hp => ?_)
        simp only [List.set_cons_zero, List.set_cons_succ] at hp
        refine st_nil ?_
        refine pn_then ?_
        refine sc_seq ?_
        refine sc_region ?_
        refine st_v (ov_field (q := 1) rfl Try.underlying57 rfl sz37 rfl) rfl ?_
        refine st_v (ov_load1 rfl Try.underlying37 rfl ((hp.cells' (t := 7) rfl).at 1 (by simp) rfl)) rfl ?_
        refine st_v (ov_move rfl) rfl ?_
        refine st_append 201 gb (xs := bs.map Bs.v) (news := bs2.map Bs.v) (m := bs2.length) hp rfl rfl rfl rfl rfl Try.underlying37 in26 (by decide) rfl (by simp) hcb (Rd.own (hp.own 58 _ rfl)) (by simp) (vs_one _) (by omega) (fun gb3 w hp hcb3 hf201 => ?_)
        rw [← List.map_append] at hp hcb3
        rw [← List.length_append]
        refine st_v (ov_field (q := 1) rfl Try.underlying57 rfl sz37 rfl) rfl ?_
        refine st_store1 7 hp rfl rfl rfl rfl sz37 (by simp) (fun w hp => ?_)
        simp only [List.set_cons_zero, List.set_cons_succ] at hp
        refine st_nil ?_
        refine pn_then ?_
        refine sc_seq ?_
        refine sc_seq ?_
        refine sc_region ?_
        refine st_v (ov_move rfl) rfl ?_
        refine st_v (ov_neq rfl rfl) rfl ?_
        refine st_nil ?_
        refine pn_then ?_
        refine sc_cond rfl (fun hc => ?_) (fun hc => ?_)
        ·
          have hc := of_decide_eq_true hc
          refine sc_seq ?_
          refine sc_region ?_
          refine st_v (ov_move rfl) rfl ?_
          refine st_v (ov_field (q := 2) rfl Try.underlying57 rfl sz31 rfl) rfl ?_
          refine st_store1 7 hp rfl rfl rfl rfl sz31 (by simp) (fun w hp => ?_)
          simp only [List.set_cons_zero, List.set_cons_succ] at hp
          refine st_nil ?_
          refine pn_then ?_
          refine sc_seq ?_
          refine sc_region ?_
          refine st_v (ov_loadN rfl Try.underlying57 rfl (sz57.trans rfl) (hp.cells' (t := 7) rfl)) rfl ?_
          refine st_storeA 6 hp rfl rfl rfl rfl (sz57.trans rfl) (by simp [Value.oneCell']) (fun w hp => ?_)
          refine st_nil ?_
          refine pn_then ?_
          refine sc_ret ?_
          refine pr_then ?_
          refine pr_block ?_
          refine pr_then ?_
          refine pr_then ?_
          refine pr_block ?_
          refine pr_then ?_
          refine pr_rv1 rfl (rv_cells rfl Try.underlying57 rfl (sz57.trans rfl) (hp.cells' (t := 6) rfl)) ?_
          have hT := hR.told
          rw [take_mid b (by omega), ← List.map_append] at hT
          have hT2 := hT.more (b.drop to) hc
          rw [List.take_append_drop] at hT2
          exact ⟨gm3, gb3, g2, mt ++ mt2, bs ++ bs2, err, st2, part2, want2, rfl, hp.left (i := rck0 r hello) [0, 100, 200, 201] (by simp) rfl, hcm3, hcb3, hcg2, hfit3, hT2⟩
        ·
          have hc := of_decide_eq_false hc
          refine sc_skip ?_
          refine pn_then ?_
          refine sc_region ?_
          refine st_v (ov_move rfl) rfl ?_
          refine st_v (ov_assign rfl) rfl ?_
          refine st_nil ?_
          refine pn_block ?_
          refine pn_then ?_
          refine sc_region ?_
          refine st_v (ov_move rfl) rfl ?_
          refine st_v (ov_add_n (a := i) (b := 1) rfl rfl (by omega)) rfl ?_
          refine st_v (ov_assign rfl) rfl ?_
          refine st_nil ?_
          rcases hR with ⟨rfl, hS2, hlt2⟩ | ⟨he, _⟩
          rotate_left
          · exact absurd hc (by simpa using he)
          rw [take_mid b (by omega), ← List.map_append] at hS2
          refine pn_roundX1 (⟨to, i + 1, st2, g2, part2, want2, gm3, mt ++ mt2, gb3, bs ++ bs2⟩ : PD) hp (Sub.cons rfl (Sub.cons rfl (Sub.cons rfl (Sub.cons rfl (Sub.cons rfl (Sub.cons rfl (Sub.cons rfl (Sub.nil _)))))))) ?_ (LSub.cons rfl (LSub.cons rfl (LSub.cons rfl (LSub.cons rfl (LSub.cons rfl (LSub.cons rfl (LSub.nil _))))))) rfl ?_
          · show cuts.length + 1 - (i + 1) < cuts.length + 1 - i; omega
          exact ⟨hS2, hlt2, ht.2, (by show i + 1 ≤ cuts.length + 1; omega), (fun h => hte (by have h9 : i + 1 = cuts.length + 1 := h; omega)), hcm3, hcb3, hcg2, hfit3⟩
    ·
      have hb := of_decide_eq_false hb
      refine st_off (j := 4) rfl rfl rfl rfl ?_
      refine st_off (j := 4) rfl rfl rfl rfl ?_
      refine st_off (j := 4) rfl rfl rfl rfl ?_
      refine st_off (j := 4) rfl rfl rfl rfl ?_
      refine st_off (j := 4) rfl rfl rfl rfl ?_
      refine st_off (j := 4) rfl rfl rfl rfl ?_
      refine st_off (j := 4) rfl rfl rfl rfl ?_
      refine st_off (j := 4) rfl rfl rfl rfl ?_
      refine st_off (j := 4) rfl rfl rfl rfl ?_
      refine st_v (ov_pick_f rfl rfl) rfl ?_
      refine st_nil ?_
      refine pn_then ?_
      refine sc_cutH1 (α := Nat) (kv := [(0, _), (1, _), (2, _), (6, _), (7, _), (8, _), (9, _)]) (kl := [(0, _), (100, _), (200, _), (201, _), (7, _), (6, _)]) (fun to kv => (10, .int .i64 ((to : Nat) : Int)) :: kv) (fun to kl => kl) (fun to => (k ≤ to ∧ to ≤ b.length) ∧ (i = cuts.length → to = b.length)) hp (Sub.cons rfl (Sub.cons rfl (Sub.cons rfl (Sub.cons rfl (Sub.cons rfl (Sub.cons rfl (Sub.cons rfl (Sub.nil _)))))))) (LSub.cons rfl (LSub.cons rfl (LSub.cons rfl (LSub.cons rfl (LSub.cons rfl (LSub.cons rfl (LSub.nil _))))))) ?_ ?_
      ·
        refine sc_false rfl ?_
        refine sc_skip ?_
        refine pn_cutH1 _ hp (Sub.cons rfl (Sub.cons rfl (Sub.cons rfl (Sub.cons rfl (Sub.cons rfl (Sub.cons rfl (Sub.cons rfl (Sub.cons rfl (Sub.nil _))))))))) (LSub.cons rfl (LSub.cons rfl (LSub.cons rfl (LSub.cons rfl (LSub.cons rfl (LSub.cons rfl (LSub.nil _))))))) ?_
        exact ⟨(by constructor <;> omega), (fun h => by omega)⟩
      ·
        intro to w hp hx
        obtain ⟨ht, hte⟩ := hx
        refine pn_then ?_
        refine sc_seq ?_
        refine sc_region ?_
        refine st_v (ov_move rfl) rfl ?_
        refine st_v (ov_move rfl) rfl ?_
        refine st_v (ov_move rfl) rfl ?_
        refine st_v (ov_move rfl) rfl ?_
        refine st_v (ov_slice_lh Try.underlying26 sz5 rfl rfl rfl (by omega)) rfl ?_
        simp only [Int.toNat_natCast]
        refine st_call pl15 rfl rfl rfl (copied_walk (((b.drop k).take (to - k))) _ _ _ (Rd.takeM ((Rd.dropM (l := k) (h1.chgL hp.chg hoff) (by first | omega | (simp; done) | (simp; omega) | (simp [*]; omega)))) (to - k)) (by first | rfl | omega | (simp; done) | (simp; omega) | (simp [*]; omega)) (by simp; omega)) ?_
        rintro _ w ⟨g55, rfl, hm55⟩
        refine ⟨_, rfl, ?_⟩
        replace hp := hp.got 55 hm55
        have hc55 := hm55.2
        clear hm55
        refine st_call pl25 rfl rfl rfl (push_walk r st g part want hello (b.take k) mt (bs.map Bs.bs) ((b.drop k).take (to - k)) _ _ _ (hp.owns' (ts := [0, 100]) (by simp) rfl) hcg hS (Rd.own (hp.own 55 _ rfl)) (hp.offT (t := 55) (ts := [0, 100]) rfl (by simp) rfl (by simp)) (by simp; omega) (by have h9 := gcap1 hc55; simp at h9; omega) (by simp; omega)) ?_
        rintro _ w ⟨gm2, gb2, g2, mt2, bs2, err, st2, part2, want2, rfl, hL, hcm2, hcb2, hcg2, hfit2, hR⟩
        refine ⟨_, rfl, ?_⟩
        replace hp := hp.backX (o1 := rck r st2 g2 part2 want2 err ++ [⟨gm2.ob, mt2.flatMap hcs ++ gm2.sp, 25⟩, ⟨gb2.ob, bs2.map Bs.v ++ gb2.sp, 26⟩]) [0, 100] [0, 100, 57, 58] (by simp) rfl hL (by simp) rfl (by simp)
        clear hL
        simp only [tg, rck, List.cons_append, List.nil_append] at hp
        rw [← List.map_append] at hp
        have hle := hR.told.le
        rw [take_mid b (by omega), ← List.map_append, List.length_append, List.length_map, List.length_append] at hle
        have hbt : (b.take to).length ≤ b.length := by simp; omega
        have hfit3 : ∀ x ∈ bs ++ bs2, x.fit := fun x hx => (List.mem_append.1 hx).elim (hfit x) (hfit2 x)
        refine st_v (ov_move rfl) rfl ?_
        refine st_v (ov_extract rfl rfl) rfl ?_
        refine st_v (ov_extract rfl rfl) rfl ?_
        refine st_v (ov_extract rfl rfl) rfl ?_
        refine st_v (ov_assign rfl) rfl ?_
        refine st_v (ov_assign rfl) rfl ?_
        refine st_v (ov_assign rfl) rfl ?_
        refine st_nil ?_
        refine pn_then ?_
        refine sc_seq ?_
        refine sc_region ?_
        refine st_v (ov_field (q := 0) rfl Try.underlying57 rfl sz48 rfl) rfl ?_
        refine st_v (ov_load1 rfl Try.underlying48 rfl ((hp.cells' (t := 7) rfl).at 0 (by simp) rfl)) rfl ?_
        refine st_v (ov_move rfl) rfl ?_
        refine st_append 200 gm (xs := mt.flatMap hcs) (news := mt2.flatMap hcs) (m := mt2.length) hp rfl rfl rfl rfl rfl Try.underlying48 in25 (by decide) rfl (flat_len hcs_len mt) hcm (Rd.own (hp.own 57 _ rfl)) (flat_len hcs_len mt2) (hcss_one _) (by omega) (fun gm3 w hp hcm3 hf200 => ?_)
        rw [← List.flatMap_append] at hp hcm3
        rw [← List.length_append]
        refine st_v (ov_field (q := 0) rfl Try.underlying57 rfl sz48 rfl) rfl ?_
        refine st_store1 7 hp rfl rfl rfl rfl sz48 (by simp) (fun w hp => ?_)
        simp only [List.set_cons_zero, List.set_cons_succ] at hp
        refine st_nil ?_
        refine pn_then ?_
        refine sc_seq ?_
        refine sc_region ?_
        refine st_v (ov_field (q := 1) rfl Try.underlying57 rfl sz37 rfl) rfl ?_
        refine st_v (ov_load1 rfl Try.underlying37 rfl ((hp.cells' (t := 7) rfl).at 1 (by simp) rfl)) rfl ?_
        refine st_v (ov_move rfl) rfl ?_
        refine st_append 201 gb (xs := bs.map Bs.v) (news := bs2.map Bs.v) (m := bs2.length) hp rfl rfl rfl rfl rfl Try.underlying37 in26 (by decide) rfl (by simp) hcb (Rd.own (hp.own 58 _ rfl)) (by simp) (vs_one _) (by omega) (fun gb3 w hp hcb3 hf201 => ?_)
        rw [← List.map_append] at hp hcb3
        rw [← List.length_append]
        refine st_v (ov_field (q := 1) rfl Try.underlying57 rfl sz37 rfl) rfl ?_
        refine st_store1 7 hp rfl rfl rfl rfl sz37 (by simp) (fun w hp => ?_)
        simp only [List.set_cons_zero, List.set_cons_succ] at hp
        refine st_nil ?_
        refine pn_then ?_
        refine sc_seq ?_
        refine sc_seq ?_
        refine sc_region ?_
        refine st_v (ov_move rfl) rfl ?_
        refine st_v (ov_neq rfl rfl) rfl ?_
        refine st_nil ?_
        refine pn_then ?_
        refine sc_cond rfl (fun hc => ?_) (fun hc => ?_)
        ·
          have hc := of_decide_eq_true hc
          refine sc_seq ?_
          refine sc_region ?_
          refine st_v (ov_move rfl) rfl ?_
          refine st_v (ov_field (q := 2) rfl Try.underlying57 rfl sz31 rfl) rfl ?_
          refine st_store1 7 hp rfl rfl rfl rfl sz31 (by simp) (fun w hp => ?_)
          simp only [List.set_cons_zero, List.set_cons_succ] at hp
          refine st_nil ?_
          refine pn_then ?_
          refine sc_seq ?_
          refine sc_region ?_
          refine st_v (ov_loadN rfl Try.underlying57 rfl (sz57.trans rfl) (hp.cells' (t := 7) rfl)) rfl ?_
          refine st_storeA 6 hp rfl rfl rfl rfl (sz57.trans rfl) (by simp [Value.oneCell']) (fun w hp => ?_)
          refine st_nil ?_
          refine pn_then ?_
          refine sc_ret ?_
          refine pr_then ?_
          refine pr_block ?_
          refine pr_then ?_
          refine pr_then ?_
          refine pr_block ?_
          refine pr_then ?_
          refine pr_rv1 rfl (rv_cells rfl Try.underlying57 rfl (sz57.trans rfl) (hp.cells' (t := 6) rfl)) ?_
          have hT := hR.told
          rw [take_mid b (by omega), ← List.map_append] at hT
          have hT2 := hT.more (b.drop to) hc
          rw [List.take_append_drop] at hT2
          exact ⟨gm3, gb3, g2, mt ++ mt2, bs ++ bs2, err, st2, part2, want2, rfl, hp.left (i := rck0 r hello) [0, 100, 200, 201] (by simp) rfl, hcm3, hcb3, hcg2, hfit3, hT2⟩
        ·
          have hc := of_decide_eq_false hc
          refine sc_skip ?_
          refine pn_then ?_
          refine sc_region ?_
          refine st_v (ov_move rfl) rfl ?_
          refine st_v (ov_assign rfl) rfl ?_
          refine st_nil ?_
          refine pn_block ?_
          refine pn_then ?_
          refine sc_region ?_
          refine st_v (ov_move rfl) rfl ?_
          refine st_v (ov_add_n (a := i) (b := 1) rfl rfl (by omega)) rfl ?_
          refine st_v (ov_assign rfl) rfl ?_
          refine st_nil ?_
          rcases hR with ⟨rfl, hS2, hlt2⟩ | ⟨he, _⟩
          rotate_left
          · exact absurd hc (by simpa using he)
          rw [take_mid b (by omega), ← List.map_append] at hS2
          refine pn_roundX1 (⟨to, i + 1, st2, g2, part2, want2, gm3, mt ++ mt2, gb3, bs ++ bs2⟩ : PD) hp (Sub.cons rfl (Sub.cons rfl (Sub.cons rfl (Sub.cons rfl (Sub.cons rfl (Sub.cons rfl (Sub.cons rfl (Sub.nil _)))))))) ?_ (LSub.cons rfl (LSub.cons rfl (LSub.cons rfl (LSub.cons rfl (LSub.cons rfl (LSub.cons rfl (LSub.nil _))))))) rfl ?_
          · show cuts.length + 1 - (i + 1) < cuts.length + 1 - i; omega
          exact ⟨hS2, hlt2, ht.2, (by show i + 1 ≤ cuts.length + 1; omega), (fun h => hte (by have h9 : i + 1 = cuts.length + 1 := h; omega)), hcm3, hcb3, hcg2, hfit3⟩
  ·
    have hc := of_decide_eq_false hc
    refine sc_exit ?_
    refine pe_then ?_
    refine pe_then ?_
    refine pe_hit ?_
    refine pn_then ?_
    refine sc_seq ?_
    refine sc_region ?_
    refine st_v (ov_loadN rfl Try.underlying57 rfl (sz57.trans rfl) (hp.cells' (t := 7) rfl)) rfl ?_
    refine st_storeA 6 hp rfl rfl rfl rfl (sz57.trans rfl) (by simp [Value.oneCell']) (fun w hp => ?_)
    refine st_nil ?_
    refine pn_then ?_
    refine sc_ret ?_
    refine pr_rv1 rfl (rv_cells rfl Try.underlying57 rfl (sz57.trans rfl) (hp.cells' (t := 6) rfl)) ?_
    have hkb := hend (by omega)
    rw [hkb, List.take_length] at hS
    exact ⟨gm, gb, g, mt, bs, 0, st, part, want, rfl, hp.left (i := rck0 r hello) [0, 100, 200, 201] (by simp) rfl, hcm, hcb, hcg, hfit, .inl ⟨rfl, hS, hlt⟩⟩

end Go.Proofs.Ythebbenfmoknbaa

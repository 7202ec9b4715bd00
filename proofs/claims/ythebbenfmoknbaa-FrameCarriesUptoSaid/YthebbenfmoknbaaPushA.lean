/-
  The walk of Push.
-/
import Derived.Test.YthebbenfmoknbaaRdrA
namespace Go.Proofs.Ythebbenfmoknbaa
open Go Go.RowKit

set_option maxRecDepth 100000 in
theorem push_walk (r stage : Nat) (g : Gs) (part : List UInt8) (want : Nat) (hello : Bool) (c : List UInt8) (met0 : List Hl) (bods0 : List (List UInt8)) (b : List UInt8) {nb : Nat} (ao : Option Addr) (ca : Nat) (w0 : World)
    (hO : Owns w0 (rck r stage g part want 0)) (hcg : (part.map B8 ++ g.sp).length = g.cap * 1) (hS : RSt hello c stage part want met0 bods0)
    (h1 : Rd w0 ao (b.map B8)) (hoff : Offs (rck r stage g part want 0) ao (b.map B8)) (hb : b.length = nb) (hca : nb ≤ ca) (hz : b.length ≤ 1099511627776) :
    Calls Try.prog 25 #[.pointer (some ⟨r, 0, none⟩), .slice ao nb ca] w0 fun e w' => PushL w0 w' (rck r stage g part want 0) e r (fun mt bods err st part want => PushR hello c b met0 mt bods0 bods err st part want) := by
  refine calls_in Try.func25 Try.ntmps25 rfl rfl ?_
  have hp : Hp w0 (blks (rck r stage g part want 0)) [(0, ⟨some r, rdr stage g part.length want 0, 70⟩), (100, ⟨g.ob, part.map B8 ++ g.sp, 5⟩)] [] w0 := Hp.begin [0, 100] hO
  subst hb
  refine sc_seq ?_
  refine sc_region ?_
  refine st_v (ov_assign rfl) rfl ?_
  refine st_v (ov_assign rfl) rfl ?_
  refine st_v (ov_assign rfl) rfl ?_
  refine st_nil ?_
  refine pn_then ?_
  refine sc_jumps (ι := PG) (kv := [(0, .pointer (some ⟨r, 0, none⟩))]) (kl := []) hp 0 rfl (fun x kv => (1, .slice x.ao (b.length - x.k) x.ca) :: (7, .slice (adr x.gm.ob) x.mt.length x.gm.cap) :: (8, .slice (adr x.gb.ob) x.bs.length x.gb.cap) :: kv) (fun x kl => (0, ⟨some r, rdr x.st x.g x.part.length x.want 0, 70⟩) :: (100, ⟨x.g.ob, x.part.map B8 ++ x.g.sp, 5⟩) :: (7, ⟨x.gm.ob, x.mt.flatMap hcs ++ x.gm.sp, 25⟩) :: (8, ⟨x.gb.ob, x.bs.map Bs.v ++ x.gb.sp, 26⟩) :: kl) (fun x => x.bs.map Bs.ck) (fun x => (x.k ≤ b.length) ∧ (Rd w0 x.ao ((b.drop x.k).map B8)) ∧ (Offs (rck r stage g part want 0) x.ao ((b.drop x.k).map B8)) ∧ (b.length - x.k ≤ x.ca) ∧ ((x.mt.flatMap hcs ++ x.gm.sp).length = x.gm.cap * 48) ∧ ((x.bs.map Bs.v ++ x.gb.sp).length = x.gb.cap * 1) ∧ ((x.part.map B8 ++ x.g.sp).length = x.g.cap * 1) ∧ (∀ y ∈ x.bs, y.fit) ∧ (RSt hello (c ++ b.take x.k) x.st x.part x.want (met0 ++ x.mt) (bods0 ++ x.bs.map Bs.bs)) ∧ ((x.st = 0 → x.mt.length = 0) ∧ (x.st = 2 → x.bs.length ≤ x.k) ∧ x.bs.length ≤ x.k + 1)) (fun x => 4 * (b.length - x.k) + x.st) ?_ ?_
  ·
    intro hgo
    refine sc_seq ?_
    refine sc_region ?_
    refine st_v (ov_assign rfl) rfl ?_
    replace hp := hp.nil 7 25
    refine st_nil ?_
    refine pn_then ?_
    refine sc_seq ?_
    refine sc_region ?_
    refine st_v (ov_assign rfl) rfl ?_
    replace hp := hp.nil 8 26
    refine st_nil ?_
    refine pn_then ?_
    refine sc_seq ?_
    refine sc_seq ?_
    refine sc_region ?_
    refine st_v (ov_move rfl) rfl ?_
    refine st_v (ov_eqlP Try.underlying42 rfl rfl) rfl ?_
    refine st_nil ?_
    refine pn_then ?_
    refine sc_cond rfl (fun hc => ?_) (fun hc => ?_)
    · exact absurd hc (by simp)
    skip
    refine sc_skip ?_
    refine pn_then ?_
    refine sc_seq ?_
    refine sc_seq ?_
    refine sc_region ?_
    refine st_v (ov_move rfl) rfl ?_
    refine st_v (ov_nilCheck rfl) rfl ?_
    refine st_v (ov_field (q := 3) rfl Try.underlying70 rfl sz31 rfl) rfl ?_
    refine st_v (ov_load1 rfl Try.underlying31 rfl ((hp.cells' (t := 0) rfl).at 3 (by simp) rfl)) rfl ?_
    refine st_v (ov_neq rfl rfl) rfl ?_
    refine st_nil ?_
    refine pn_then ?_
    refine sc_cond rfl (fun hc => ?_) (fun hc => ?_)
    · exact absurd hc (by simp)
    skip
    refine sc_skip ?_
    refine pn_then ?_
    refine sc_seq ?_
    refine sc_label ?_
    refine pn_then ?_
    exact hgo (⟨0, ao, ca, stage, g, part, want, gnil, [], gnil, []⟩ : PG) _ _ (Sub.cons rfl (Sub.cons rfl (Sub.cons rfl (Sub.cons rfl (Sub.nil _))))) (hp.sub (LSub.cons rfl (LSub.cons rfl (LSub.cons rfl (LSub.cons rfl (LSub.nil _)))))) ⟨(Nat.zero_le _), (by simpa using h1), (by simpa using hoff), (by simpa using hca), rfl, rfl, hcg, (fun y h => by cases h), (by simpa using hS), (by simp)⟩
  ·
    intro x w hp hx
    obtain ⟨hk, hR, hOf, hca, hcm, hcb, hcg, hfit, hS, hbl⟩ := hx
    obtain ⟨k, ao', ca', st', g', part', want', gm, mt, gb, bs⟩ := x
    dsimp only at *
    obtain ⟨hst', hwt', hpl'⟩ := hS.bnds
    obtain ⟨n, hn⟩ : ∃ n, n = min (want' - part'.length) (b.length - k) := ⟨_, rfl⟩
    obtain ⟨hb0, hb2, hb3⟩ := hbl
    refine sc_seq ?_
    refine sc_region ?_
    refine st_v (ov_move rfl) rfl ?_
    refine st_v (ov_move rfl) rfl ?_
    refine st_call pl40 rfl rfl rfl (fill_walk r st' g' part' want' 0 (b.drop k) ao' ca' _ (hp.owns' (ts := [0, 100]) (by simp) rfl) hcg (hR.chgL hp.chg hOf) (hp.offs hR hOf (ts := [0, 100]) (by simp) rfl) (by simp) hca hpl' (by omega) (by simp; omega) n (by rw [hn]; simp)) ?_
    rintro _ w ⟨rfl, g2, hL, hcg2⟩
    refine ⟨_, rfl, ?_⟩
    replace hp := hp.back [0, 100] [0, 100] (by simp) rfl hL (by simp) rfl (by simp)
    clear hL
    simp only [tg, rck, List.cons_append, List.nil_append] at hp
    have hF := hS.fills ((b.drop k).take n)
    rw [List.append_assoc, ← List.take_add] at hF
    obtain ⟨part2, hp2⟩ : ∃ p, p = part' ++ (b.drop k).take n := ⟨_, rfl⟩
    rw [← hp2] at hp hcg2 hF
    have hl2 : part2.length = part'.length + n := by rw [hp2]; simp; omega
    have hR2 : Rd w0 (sla ao' ca' n 1) ((b.drop (k + n)).map B8) := by rw [← List.drop_drop]; exact hR.dropM (by simp; omega)
    have hO2 : Offs (rck r stage g part want 0) (sla ao' ca' n 1) ((b.drop (k + n)).map B8) := by rw [← List.drop_drop]; exact hOf.drop n
    rw [show b.length - k - n = b.length - (k + n) by omega]
    refine st_v (ov_assign rfl) rfl ?_
    refine st_nil ?_
    refine pn_then ?_
    refine sc_seq ?_
    refine sc_seq ?_
    refine sc_region ?_
    refine st_v (ov_move rfl) rfl ?_
    refine st_v (ov_nilCheck rfl) rfl ?_
    refine st_v (ov_field (q := 0) rfl Try.underlying70 rfl sz3 rfl) rfl ?_
    refine st_v (ov_load1 rfl Try.underlying3 rfl ((hp.cells' (t := 0) rfl).at 0 (by simp) rfl)) rfl ?_
    refine st_v (ov_eql rfl rfl) rfl ?_
    refine st_nil ?_
    refine pn_then ?_
    refine sc_cond rfl (fun hc => ?_) (fun hc => ?_)
    ·
      have hc := of_decide_eq_true hc
      obtain rfl : st' = 0 := by omega
      refine sc_seq ?_
      have hmL := (meetH part2).2
      refine sc_region ?_
      refine st_v (ov_move rfl) rfl ?_
      refine st_v (ov_nilCheck rfl) rfl ?_
      refine st_v (ov_field (q := 1) rfl Try.underlying70 rfl sz26 rfl) rfl ?_
      refine st_v (ov_load1 rfl Try.underlying26 rfl ((hp.cells' (t := 0) rfl).at 1 (by simp) rfl)) rfl ?_
      refine st_call pl18 rfl rfl rfl (meet_walk part2 _ _ _ (Rd.own (hp.own 100 _ rfl)) rfl (gcap1 hcg2) (by omega)) ?_
      rintro _ w ⟨rfl, hch⟩
      refine ⟨_, rfl, ?_⟩
      replace hp := hp.call hch
      clear hch
      refine st_v (ov_move rfl) rfl ?_
      refine st_v (ov_extract rfl rfl) rfl ?_
      refine st_v (ov_extract rfl rfl) rfl ?_
      refine st_alloc 9 ((List.replicate 48 (0 : UInt8)).map B8) hp rfl zl25 rfl (fun b9 w hp => ?_)
      refine st_storeA 9 hp rfl rfl rfl (by first | (simp; done) | (simp [*]; done) | (simp; omega) | (simp [*]; omega)) (sz25.trans (by first | (simp; done) | (simp [*]; done) | (simp; omega))) (one_all _) (fun w hp => ?_)
      refine st_v (ov_assign rfl) rfl ?_
      refine st_nil ?_
      refine pn_then ?_
      refine sc_seq ?_
      refine sc_seq ?_
      refine sc_region ?_
      refine st_v (ov_move rfl) rfl ?_
      refine st_v (ov_eql rfl rfl) rfl ?_
      refine st_nil ?_
      refine pn_then ?_
      refine sc_cond rfl (fun hc => ?_) (fun hc => ?_)
      ·
        have hc := of_decide_eq_true hc
        refine sc_seq ?_
        refine sc_region ?_
        refine st_v (ov_move rfl) rfl ?_
        refine st_v (ov_move rfl) rfl ?_
        refine st_call pl41 rfl rfl rfl (breaks_walk r 0 g2 part2.length want' 0 (meetE part2) _ (hp.owns' (ts := [0]) (by simp) rfl)) ?_
        rintro _ w ⟨rfl, hL⟩
        refine ⟨_, rfl, ?_⟩
        replace hp := hp.back [0] [0] (by simp) rfl hL (by simp) rfl (by simp)
        clear hL
        replace hp := hp.nil 100 5
        simp only [tg, rck, List.cons_append, List.nil_append] at hp
        refine st_nil ?_
        refine pn_then ?_
        refine sc_seq ?_
        refine sc_region ?_
        refine st_v (ov_move rfl) rfl ?_
        refine st_v (ov_move rfl) rfl ?_
        refine st_v (ov_move rfl) rfl ?_
        refine st_v (ov_assign rfl) rfl ?_
        refine st_v (ov_assign rfl) rfl ?_
        refine st_v (ov_assign rfl) rfl ?_
        refine st_nil ?_
        refine pn_then ?_
        refine sc_ret ?_
        refine pr_then ?_
        refine pr_then ?_
        refine pr_jump ?_
        refine pr_three rfl rfl rfl rfl ?_
        have hb := hF.bad0 hc (b.drop (k + n))
        rw [List.append_assoc, List.take_append_drop] at hb
        refine ⟨gm, gb, gnil, mt, bs, meetE part2, 0, [], 0, rfl, hp.left (i := (rck r stage g part want 0)) [0, 100, 7, 8] (by simp) rfl, hcm, hcb, rfl, hfit, .inr ⟨by rw [hc]; decide, rfl, 0, by rw [hc]; exact hb⟩⟩
      ·
        have hc := of_decide_eq_false hc
        refine sc_skip ?_
        refine pn_then ?_
        refine sc_seq ?_
        refine sc_seq ?_
        refine sc_region ?_
        refine st_v (ov_move rfl) rfl ?_
        refine st_v (ov_eql rfl rfl) rfl ?_
        refine st_nil ?_
        refine pn_then ?_
        refine sc_cond rfl (fun hc => ?_) (fun hc => ?_)
        ·
          have hc := of_decide_eq_true hc
          refine sc_seq ?_
          refine sc_region ?_
          refine st_v (ov_move rfl) rfl ?_
          refine st_v (ov_loadN rfl Try.underlying25 rfl (sz25.trans (by first | (simp; done) | (simp [*]; done) | (simp; omega))) (hp.cells' (t := 9) rfl)) rfl ?_
          refine st_app1 7 47 gm (xs := mt.flatMap hcs) (new := hcs (meetH part2)) hp rfl rfl rfl rfl rfl (by simp) rfl rfl Try.underlying48 in25 (by decide) rfl (flat_len hcs_len mt) hcm rfl (hcs_len _) (hcs_one _) (by have := hb0 rfl; omega) (fun gm2 b47 w hp hcm2 hf7 => ?_)
          rw [show mt.flatMap hcs ++ hcs (meetH part2) = (mt ++ [meetH part2]).flatMap hcs by simp] at hp hcm2
          rw [show mt.length + 1 = (mt ++ [meetH part2]).length by simp]
          refine st_v (ov_assign rfl) rfl ?_
          refine st_nil ?_
          refine pn_then ?_
          refine sc_seq ?_
          refine sc_region ?_
          refine st_v (ov_move rfl) rfl ?_
          refine st_call pl42 rfl rfl rfl (turn_walk r 0 g2 part2.length want' 1 4 0 _ (hp.owns' (ts := [0]) (by simp) rfl)) ?_
          rintro _ w ⟨rfl, hL⟩
          refine ⟨_, rfl, ?_⟩
          replace hp := hp.back [0] [0] (by simp) rfl hL (by simp) rfl (by simp)
          clear hL
          replace hp := hp.nil 100 5
          simp only [tg, rck, List.cons_append, List.nil_append] at hp
          refine st_nil ?_
          refine pn_then ?_
          refine sc_goto ?_
          refine pg_then ?_
          refine pg_then ?_
          have hn1 : 0 < n := Nat.pos_of_ne_zero (fun h0 => absurd hS.e0 (by rw [show part' = part2 by rw [hp2, h0]; simp, hc]; decide))
          refine pg_here ⟨k + n, sla ao' ca' n 1, ca' - n, 1, gnil, [], 4, gm2, mt ++ [meetH part2], gb, bs⟩ hp (Sub.cons rfl (Sub.cons rfl (Sub.cons rfl (Sub.cons rfl (Sub.nil _))))) ?_ (LSub.cons rfl (LSub.cons rfl (LSub.cons rfl (LSub.cons rfl (LSub.nil _))))) rfl ?_
          · intro kk hkk; cases hkk; show 4 * (b.length - (k + n)) + 1 < 4 * (b.length - k) + 0; omega
          exact ⟨(by show k + n ≤ b.length; omega), hR2, hO2, (by show b.length - (k + n) ≤ ca' - n; omega), hcm2, hcb, rfl, hfit, (by show RSt _ _ _ _ _ (met0 ++ (mt ++ [meetH part2])) _; rw [← List.append_assoc]; exact hF.met0 (by omega) hc), (by show ((1:Nat) = 0 → _) ∧ ((1:Nat) = 2 → _) ∧ bs.length ≤ k + n + 1; exact ⟨fun h => by omega, fun h => by omega, by omega⟩)⟩
        ·
          have hc := of_decide_eq_false hc
          refine sc_skip ?_
          refine pn_then ?_
          refine sc_seq ?_
          refine sc_region ?_
          refine st_v (ov_move rfl) rfl ?_
          refine st_v (ov_move rfl) rfl ?_
          refine st_v (ov_assign rfl) rfl ?_
          refine st_v (ov_assign rfl) rfl ?_
          refine st_v (ov_assign rfl) rfl ?_
          refine st_nil ?_
          refine pn_then ?_
          refine sc_ret ?_
          refine pr_then ?_
          refine pr_jump ?_
          refine pr_three rfl rfl rfl rfl ?_
          have he : meetE part2 = 101 := by rcases meetE_or part2 with h | h | h; exact absurd h ‹_›; exact absurd h ‹_›; exact h
          obtain ⟨hw1, hw2⟩ := hF.wait0 he
          rw [show k + n = b.length by omega, List.take_length] at hw1
          exact ⟨gm, gb, g2, mt, bs, 0, 0, part2, want', rfl, hp.left (i := (rck r stage g part want 0)) [0, 100, 7, 8] (by simp) rfl, hcm, hcb, hcg2, hfit, .inl ⟨rfl, hw1, hw2⟩⟩
    ·
      have hc := of_decide_eq_false hc
      refine sc_skip ?_
      refine pn_then ?_
      refine sc_seq ?_
      refine sc_seq ?_
      refine sc_draws (by kernel_rfl) (by kernel_rfl) ?_
      replace hp := hp.drew
      refine ss_v (ov_move rfl) rfl ?_
      refine ss_v (ov_nilCheck rfl) rfl ?_
      refine ss_v (ov_field (q := 1) rfl Try.underlying70 rfl sz26 rfl) rfl ?_
      refine ss_v (ov_load1 rfl Try.underlying26 rfl ((hp.cells' (t := 0) rfl).at 1 (by simp) rfl)) rfl ?_
      refine ss_v (ov_len rfl Try.underlying26 rfl) rfl ?_
      refine ss_v (ov_move rfl) rfl ?_
      refine ss_v (ov_nilCheck rfl) rfl ?_
      refine ss_v (ov_field (q := 2) rfl Try.underlying70 rfl sz3 rfl) rfl ?_
      refine ss_v (ov_load1 rfl Try.underlying3 rfl ((hp.cells' (t := 0) rfl).at 2 (by simp) rfl)) rfl ?_
      refine ss_v (ov_lss rfl rfl) rfl ?_
      refine ss_end ?_
      refine pn_then ?_
      refine sc_cond rfl (fun hc => ?_) (fun hc => ?_)
      ·
        have hc := of_decide_eq_true hc
        refine sc_seq ?_
        refine sc_region ?_
        refine st_v (ov_move rfl) rfl ?_
        refine st_v (ov_move rfl) rfl ?_
        refine st_v (ov_assign rfl) rfl ?_
        refine st_v (ov_assign rfl) rfl ?_
        refine st_v (ov_assign rfl) rfl ?_
        refine st_nil ?_
        refine pn_then ?_
        refine sc_ret ?_
        refine pr_then ?_
        refine pr_jump ?_
        refine pr_three rfl rfl rfl rfl ?_
        have hw1 := hF.wait (by omega) (by omega)
        rw [show k + n = b.length by omega, List.take_length] at hw1
        exact ⟨gm, gb, g2, mt, bs, 0, st', part2, want', rfl, hp.left (i := (rck r stage g part want 0)) [0, 100, 7, 8] (by simp) rfl, hcm, hcb, hcg2, hfit, .inl ⟨rfl, hw1, by omega⟩⟩
      ·
        have hc := of_decide_eq_false hc
        refine sc_skip ?_
        refine pn_then ?_
        refine sc_seq ?_
        refine sc_seq ?_
        refine sc_region ?_
        refine st_v (ov_move rfl) rfl ?_
        refine st_v (ov_nilCheck rfl) rfl ?_
        refine st_v (ov_field (q := 0) rfl Try.underlying70 rfl sz3 rfl) rfl ?_
        refine st_v (ov_load1 rfl Try.underlying3 rfl ((hp.cells' (t := 0) rfl).at 0 (by simp) rfl)) rfl ?_
        refine st_v (ov_eql rfl rfl) rfl ?_
        refine st_nil ?_
        refine pn_then ?_
        refine sc_cond rfl (fun hc => ?_) (fun hc => ?_)
        ·
          have hc := of_decide_eq_true hc
          obtain rfl : st' = 2 := by omega
          refine sc_seq ?_
          refine sc_region ?_
          refine st_v (ov_move rfl) rfl ?_
          refine st_v (ov_move rfl) rfl ?_
          refine st_v (ov_nilCheck rfl) rfl ?_
          refine st_v (ov_field (q := 1) rfl Try.underlying70 rfl sz26 rfl) rfl ?_
          refine st_v (ov_load1 rfl Try.underlying26 rfl ((hp.cells' (t := 0) rfl).at 1 (by simp) rfl)) rfl ?_
          refine st_app1 8 75 gb (xs := bs.map Bs.v) (new := [Bs.v (⟨g2.ob, part2, g2.sp, g2.cap⟩ : Bs)]) hp rfl rfl rfl rfl rfl (by simp) (show _ = some (Bs.v (⟨g2.ob, part2, g2.sp, g2.cap⟩ : Bs)) from rfl) rfl Try.underlying37 in26 (by decide) rfl (by first | omega | (simp; done) | (simp; omega) | (simp [*]; omega)) hcb rfl rfl (by simp [Value.oneCell', Bs.v, Sl.v]) (by omega) (fun gb2 b75 w hp hcb2 hf8 => ?_)
          rw [show bs.map Bs.v ++ [Bs.v (⟨g2.ob, part2, g2.sp, g2.cap⟩ : Bs)] = (bs ++ [(⟨g2.ob, part2, g2.sp, g2.cap⟩ : Bs)]).map Bs.v by simp] at hp hcb2
          rw [show bs.length + 1 = (bs ++ [(⟨g2.ob, part2, g2.sp, g2.cap⟩ : Bs)]).length by simp]
          refine st_v (ov_assign rfl) rfl ?_
          refine st_nil ?_
          refine pn_then ?_
          refine sc_seq ?_
          refine sc_region ?_
          refine st_v (ov_move rfl) rfl ?_
          refine st_call pl42 rfl rfl rfl (turn_walk r 2 g2 part2.length want' 1 4 0 _ (hp.owns' (ts := [0]) (by simp) rfl)) ?_
          rintro _ w ⟨rfl, hL⟩
          refine ⟨_, rfl, ?_⟩
          replace hp := hp.back [0] [0] (by simp) rfl hL (by simp) rfl (by simp)
          clear hL
          simp only [tg, rck, List.cons_append, List.nil_append] at hp
          replace hp := hp.toX (L' := [(8, _), (75, _), (0, _), (7, _)]) 100 rfl (XSub.cons rfl rfl (XSub.cons rfl rfl (XSub.cons rfl rfl (XSub.cons rfl rfl (XSub.nil _ _)))))
          replace hp := hp.nil 100 5
          rw [show bs.map Bs.ck ++ [(⟨g2.ob, part2.map B8 ++ g2.sp, 5⟩ : Ck)] = (bs ++ [(⟨g2.ob, part2, g2.sp, g2.cap⟩ : Bs)]).map Bs.ck by simp [Bs.ck]] at hp
          refine st_nil ?_
          refine pn_then ?_
          refine sc_goto ?_
          refine pg_then ?_
          refine pg_here ⟨k + n, sla ao' ca' n 1, ca' - n, 1, gnil, [], 4, gm, mt, gb2, bs ++ [(⟨g2.ob, part2, g2.sp, g2.cap⟩ : Bs)]⟩ hp (Sub.cons rfl (Sub.cons rfl (Sub.cons rfl (Sub.cons rfl (Sub.nil _))))) ?_ (LSub.cons rfl (LSub.cons rfl (LSub.cons rfl (LSub.cons rfl (LSub.nil _))))) rfl ?_
          · intro kk hkk; cases hkk; show 4 * (b.length - (k + n)) + 1 < 4 * (b.length - k) + 2; omega
          exact ⟨(by show k + n ≤ b.length; omega), hR2, hO2, (by show b.length - (k + n) ≤ ca' - n; omega), hcm, hcb2, rfl, (fun y hy => by rcases List.mem_append.1 hy with h | h; exact hfit y h; obtain rfl := List.mem_singleton.1 h; show _ = _; rw [Nat.mul_one] at hcg2; exact hcg2), (by show RSt _ _ _ _ _ _ (bods0 ++ (bs ++ [(⟨g2.ob, part2, g2.sp, g2.cap⟩ : Bs)]).map Bs.bs); rw [List.map_append, ← List.append_assoc]; exact hF.body (by omega)), (by show ((1:Nat) = 0 → _) ∧ ((1:Nat) = 2 → _) ∧ (bs ++ [(⟨g2.ob, part2, g2.sp, g2.cap⟩ : Bs)]).length ≤ k + n + 1; exact ⟨fun h => by omega, fun h => by omega, by have := hb2 rfl; simp; omega⟩)⟩
        ·
          have hc := of_decide_eq_false hc
          obtain ⟨hw4, hs1⟩ := hF.four (by omega)
          have hn4 := num4_lt part2
          refine sc_skip ?_
          refine pn_then ?_
          refine sc_seq ?_
          refine sc_region ?_
          refine st_v (ov_move rfl) rfl ?_
          refine st_v (ov_nilCheck rfl) rfl ?_
          refine st_v (ov_field (q := 1) rfl Try.underlying70 rfl sz26 rfl) rfl ?_
          refine st_v (ov_load1 rfl Try.underlying26 rfl ((hp.cells' (t := 0) rfl).at 1 (by simp) rfl)) rfl ?_
          refine st_call pl38 rfl rfl rfl (number_walk part2 _ _ _ (Rd.own (hp.own 100 _ rfl)) rfl (by omega)) ?_
          rintro _ w ⟨rfl, hch⟩
          refine ⟨_, rfl, ?_⟩
          replace hp := hp.call hch
          clear hch
          refine st_v (ov_assign rfl) rfl ?_
          refine st_nil ?_
          refine pn_then ?_
          refine sc_seq ?_
          refine sc_seq ?_
          refine sc_region ?_
          refine st_v (ov_move rfl) rfl ?_
          refine st_v (ov_gtr rfl rfl) rfl ?_
          refine st_nil ?_
          refine pn_then ?_
          refine sc_cond rfl (fun hc => ?_) (fun hc => ?_)
          ·
            have hc := of_decide_eq_true hc
            refine sc_seq ?_
            refine sc_region ?_
            refine st_v (ov_move rfl) rfl ?_
            refine st_call pl41 rfl rfl rfl (breaks_walk r st' g2 part2.length want' 0 102 _ (hp.owns' (ts := [0]) (by simp) rfl)) ?_
            rintro _ w ⟨rfl, hL⟩
            refine ⟨_, rfl, ?_⟩
            replace hp := hp.back [0] [0] (by simp) rfl hL (by simp) rfl (by simp)
            clear hL
            replace hp := hp.nil 100 5
            simp only [tg, rck, List.cons_append, List.nil_append] at hp
            refine st_nil ?_
            refine pn_then ?_
            refine sc_seq ?_
            refine sc_region ?_
            refine st_v (ov_move rfl) rfl ?_
            refine st_v (ov_move rfl) rfl ?_
            refine st_v (ov_assign rfl) rfl ?_
            refine st_v (ov_assign rfl) rfl ?_
            refine st_v (ov_assign rfl) rfl ?_
            refine st_nil ?_
            refine pn_then ?_
            refine sc_ret ?_
            refine pr_then ?_
            refine pr_jump ?_
            refine pr_three rfl rfl rfl rfl ?_
            obtain ⟨k1, hk1⟩ := hF.big (by omega) (by omega) (by omega) (b.drop (k + n))
            rw [List.append_assoc, List.take_append_drop] at hk1
            exact ⟨gm, gb, gnil, mt, bs, 102, st', [], 0, rfl, hp.left (i := (rck r stage g part want 0)) [0, 100, 7, 8] (by simp) rfl, hcm, hcb, rfl, hfit, .inr ⟨by decide, rfl, k1, hk1⟩⟩
          ·
            have hc := of_decide_eq_false hc
            refine sc_skip ?_
            refine pn_then ?_
            refine sc_seq ?_
            refine sc_region ?_
            refine st_v (ov_move rfl) rfl ?_
            refine st_v (ov_move rfl) rfl ?_
            refine st_call pl42 rfl rfl rfl (turn_walk r st' g2 part2.length want' 2 (num4 part2) 0 _ (hp.owns' (ts := [0]) (by simp) rfl)) ?_
            rintro _ w ⟨rfl, hL⟩
            refine ⟨_, rfl, ?_⟩
            replace hp := hp.back [0] [0] (by simp) rfl hL (by simp) rfl (by simp)
            clear hL
            replace hp := hp.nil 100 5
            simp only [tg, rck, List.cons_append, List.nil_append] at hp
            refine st_nil ?_
            refine pn_then ?_
            refine sc_goto ?_
            refine pg_here ⟨k + n, sla ao' ca' n 1, ca' - n, 2, gnil, [], num4 part2, gm, mt, gb, bs⟩ hp (Sub.cons rfl (Sub.cons rfl (Sub.cons rfl (Sub.cons rfl (Sub.nil _))))) ?_ (LSub.cons rfl (LSub.cons rfl (LSub.cons rfl (LSub.cons rfl (LSub.nil _))))) rfl ?_
            · intro kk hkk; cases hkk; have := hS.lt01 (by omega); show 4 * (b.length - (k + n)) + 2 < 4 * (b.length - k) + st'; omega
            exact ⟨(by show k + n ≤ b.length; omega), hR2, hO2, (by show b.length - (k + n) ≤ ca' - n; omega), hcm, hcb, rfl, hfit, (hF.next (by omega) (by omega) (by omega)), (by show ((2:Nat) = 0 → _) ∧ ((2:Nat) = 2 → _) ∧ bs.length ≤ k + n + 1; have := hS.lt01 (by omega); exact ⟨fun h => by omega, fun _ => by show bs.length ≤ k + n; omega, by omega⟩)⟩

end Go.Proofs.Ythebbenfmoknbaa

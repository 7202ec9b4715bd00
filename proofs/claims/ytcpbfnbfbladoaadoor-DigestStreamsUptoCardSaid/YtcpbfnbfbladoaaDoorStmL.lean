/-
  The walk of the law DigestStreams.
-/
import Derived.Test.YtcpbfnbfbladoaaDoorStmB
namespace Go.Proofs.YtcpbfnbfbladoaaDoor
open Go Go.RowKit

set_option maxRecDepth 100000 in
theorem law_streams (l : List So) (ao : Option Addr) (ca : Nat) (w0 : World) (h1 : Rd w0 ao (l.flatMap socs)) (a1 : RdSo w0 l) (hsum : (l.map dlen).sum ≤ 1048576) (hmt : ∀ o ∈ l, o.m.bs.length ≤ 1048576) (hz : l.length ≤ 1048576) (hk : Cells w0 0 0 (kL.map B32)) (hf : Cells w0 1 0 (fL.map B32)) :
    Calls Tryd.prog 9 #[.slice ao l.length ca] w0 fun e w' => e = .returned (.bool true) ∧ Chg [] w0 w' := by
  refine calls_in Tryd.func9 Tryd.ntmps9 rfl rfl ?_
  have hp := Hp.start w0
  refine sc_seq ?_
  refine sc_region ?_
  refine st_v (ov_assign rfl) rfl ?_
  refine st_nil ?_
  refine pn_then ?_
  refine sc_seq ?_
  refine sc_region ?_
  refine st_alloc 3 (([none, none, none, none] : List (Option Ps)).map ptA) hp rfl zl67 rfl (fun b3 w hp => ?_)
  refine st_nil ?_
  refine pn_then ?_
  refine sc_seq ?_
  refine sc_region ?_
  refine st_alloc 4 (([none, none, none, none] : List (Option Ps)).map ptB) hp rfl zl68 rfl (fun b4 w hp => ?_)
  refine st_nil ?_
  refine pn_then ?_
  refine sc_seq ?_
  refine sc_seq ?_
  refine sc_region ?_
  refine st_v (ov_assign rfl) rfl ?_
  refine st_nil ?_
  refine pn_then ?_
  refine sc_block ?_
  refine sc_loopX2 (α := Nat) (β := List (Option Ps)) (kv := [(0, _), (3, _), (4, _)]) (kl := []) (fun i ps kv => (5, .int .i64 ((i : Nat) : Int)) :: kv) (fun i ps kl => (3, ⟨some b3, ps.map ptA, 67⟩) :: (4, ⟨some b4, ps.map ptB, 68⟩) :: kl) (fun i ps => (ps.flatMap pks)) (fun i ps => (i ≤ l.length) ∧ (ps.length = 4) ∧ (∀ p ∈ ps, OkO p) ∧ (∀ p ∈ ps, ∀ q, p = some q → q.text.length ≤ 64 + ((l.map dlen).take i).sum)) (fun i ps => l.length - i) 0 [none, none, none, none] hp (Sub.cons rfl (Sub.cons rfl (Sub.cons rfl (Sub.cons rfl (Sub.nil _))))) (LSub.cons rfl (LSub.cons rfl (LSub.nil _))) rfl ?_ ?_
  · exact ⟨(by first | omega | (simp; done) | (simp; omega) | (simp [*]; omega)), rfl, (fun p hp q hq => by simp at hp; subst hp; cases hq), (fun p hp q hq => by simp at hp; subst hp; cases hq)⟩
  intro i ps w hp hx
  obtain ⟨hi, hpl, hok, hln⟩ := hx
  refine sc_seq ?_
  refine sc_seq ?_
  refine sc_region ?_
  refine st_v (ov_move rfl) rfl ?_
  refine st_v (ov_move rfl) rfl ?_
  refine st_v (ov_len rfl Tryd.underlying66 rfl) rfl ?_
  refine st_v (ov_lss rfl rfl) rfl ?_
  refine st_nil ?_
  refine pn_then ?_
  refine sc_cond rfl (fun hc => ?_) (fun hc => ?_)
  ·
    have hc := of_decide_eq_true hc
    obtain ⟨o, ho⟩ : ∃ o, l.getD i soz = o := ⟨_, rfl⟩
    have hom : o ∈ l := by rw [← ho]; exact getD_mem (by omega) _
    obtain ⟨⟨hd, hdc⟩, hmm, hmc⟩ := a1 o hom
    have hml := hmt o hom
    obtain ⟨T, hT⟩ : ∃ T, T = ((l.map dlen).take i).sum := ⟨_, rfl⟩
    have hTs : ((l.map dlen).take (i + 1)).sum = T + o.d.bs.length := by rw [take_sum_succ (by omega), ho, hT]; rfl
    have hTb : T + o.d.bs.length ≤ 1048576 := by rw [← hTs]; exact Nat.le_trans (sum_take_le _ _) hsum
    obtain ⟨a, ha⟩ : ∃ a, plc o.at_ = a := ⟨_, rfl⟩
    have ha4 : a < 4 := by rw [← ha]; exact plc_lt _
    obtain ⟨t, ht⟩ : ∃ a, plc o.to_ = a := ⟨_, rfl⟩
    have ht4 : t < 4 := by rw [← ht]; exact plc_lt _
    obtain ⟨p, hpe⟩ : ∃ p, ps.getD a none = p := ⟨_, rfl⟩
    have hpm : p ∈ ps := by rw [← hpe]; exact getD_mem (by omega) _
    have hpo := hok p hpm
    have hpn : ∀ q, p = some q → q.text.length ≤ 64 + T := by rw [hT]; exact hln p hpm
    have hlnS : ∀ p ∈ ps, ∀ q, p = some q → q.text.length ≤ 64 + ((l.map dlen).take (i + 1)).sum := fun p hp q hq => by have := hln p hp q hq; rw [← hT] at this; rw [hTs]; omega
    refine sc_skip ?_
    refine pn_then ?_
    refine sc_seq ?_
    refine sc_block ?_
    refine sc_seq ?_
    refine sc_region ?_
    refine st_v (ov_move rfl) rfl ?_
    refine st_v (ov_move rfl) rfl ?_
    obtain ⟨bb1, oo1, hadr1, hcl1⟩ := ((h1.chg hp.chg)).pos (by rw [flat_len socs_len]; omega)
    refine st_v (ov_indexR hadr1 rfl rfl Tryd.underlying66 sz70 (by omega)) rfl ?_
    refine st_v (ov_loadN rfl Tryd.underlying70 rfl (sz70.trans (by rw [socs_len])) (hcl1.elemN socs_len (i) ⟨by rfl, by omega⟩ soz)) rfl ?_
    rw [ho]
    refine st_alloc 6 (socs soz) hp rfl zl70 rfl (fun b6 w hp => ?_)
    refine st_storeA 6 hp rfl rfl rfl (by rw [socs_len, socs_len]) (sz70.trans (by rw [socs_len])) (socs_one _) (fun w hp => ?_)
    refine st_nil ?_
    refine pn_then ?_
    refine sc_seq ?_
    refine sc_region ?_
    refine st_v (ov_field (q := 1) rfl Tryd.underlying70 rfl sz3 rfl) rfl ?_
    refine st_v (ov_load1 rfl Tryd.underlying3 rfl (so_1 (hp.cells' (t := 6) rfl))) rfl ?_
    refine st_call pl40 rfl rfl rfl (place_walk o.at_ _) ?_
    rintro _ w ⟨rfl, hch⟩
    refine ⟨_, rfl, ?_⟩
    replace hp := hp.call hch
    clear hch
    rw [ha]
    refine st_v (ov_assign rfl) rfl ?_
    refine st_nil ?_
    refine pn_then ?_
    refine sc_seq ?_
    refine sc_region ?_
    refine st_v (ov_field (q := 2) rfl Tryd.underlying70 rfl sz3 rfl) rfl ?_
    refine st_v (ov_load1 rfl Tryd.underlying3 rfl (so_2 (hp.cells' (t := 6) rfl))) rfl ?_
    refine st_call pl40 rfl rfl rfl (place_walk o.to_ _) ?_
    rintro _ w ⟨rfl, hch⟩
    refine ⟨_, rfl, ?_⟩
    replace hp := hp.call hch
    clear hch
    rw [ht]
    refine st_v (ov_assign rfl) rfl ?_
    refine st_nil ?_
    refine pn_then ?_
    refine sc_seq ?_
    refine sc_region ?_
    refine st_v (ov_move rfl) rfl ?_
    refine st_v (ov_indexA rfl rfl Tryd.underlying67 sz52 (by omega)) rfl ?_
    refine st_v (ov_load1 rfl Tryd.underlying52 rfl (Cells.elem' (hp.cells' (t := 3) rfl) (a) (by first | omega | (simp; omega) | (simp [*]; omega)) (none : Option Ps))) rfl ?_
    rw [hpe]
    refine st_v (ov_assign rfl) rfl ?_
    refine st_nil ?_
    refine pn_then ?_
    refine sc_seq ?_
    refine sc_region ?_
    refine st_v (ov_move rfl) rfl ?_
    refine st_v (ov_indexA rfl rfl Tryd.underlying68 sz55 (by omega)) rfl ?_
    refine st_v (ov_load1 rfl Tryd.underlying55 rfl (Cells.elem' (hp.cells' (t := 4) rfl) (a) (by first | omega | (simp; omega) | (simp [*]; omega)) (none : Option Ps))) rfl ?_
    rw [hpe]
    refine st_v (ov_assign rfl) rfl ?_
    refine st_nil ?_
    refine pn_then ?_
    refine sc_seq ?_
    refine sc_region ?_
    refine st_v (ov_field (q := 0) rfl Tryd.underlying70 rfl sz3 rfl) rfl ?_
    refine st_v (ov_load1 rfl Tryd.underlying3 rfl (so_0 (hp.cells' (t := 6) rfl))) rfl ?_
    refine st_nil ?_
    refine pn_then ?_
    refine sc_block ?_
    refine sc_seq ?_
    refine sc_region ?_
    refine st_v (ov_eql rfl rfl) rfl ?_
    refine st_v (ov_assign rfl) rfl ?_
    refine st_nil ?_
    refine pn_then ?_
    refine sc_cond rfl (fun hc => ?_) (fun hc => ?_)
    ·
      have hc := of_decide_eq_true hc
      refine sc_seq ?_
      refine sc_region ?_
      refine st_v (ov_move rfl) rfl ?_
      refine st_call pl41 rfl rfl rfl (news_walk _ (hp.old hf (by simp))) ?_
      rintro _ w ⟨bn, rfl, hLn⟩
      refine ⟨_, rfl, ?_⟩
      replace hp := hp.backX (i := []) (o1 := []) (Z := pA (some (⟨bn, 0, 0, fL, fL, [], List.replicate 64 0, gnil⟩ : Ps))) [] [] (by simp) rfl hLn (by simp) rfl (by simp)
      simp only [tg, List.nil_append] at hp
      refine st_v (ov_indexA rfl rfl Tryd.underlying67 sz52 (by omega)) rfl ?_
      refine st_storeE 3 (u := (some (⟨bn, 0, 0, fL, fL, [], List.replicate 64 0, gnil⟩ : Ps))) hp rfl rfl rfl (a) (by first | omega | (simp; omega)) rfl sz52 (fun w hp => ?_)
      refine st_nil ?_
      refine pn_then ?_
      refine sc_seq ?_
      refine sc_region ?_
      refine st_v (ov_move rfl) rfl ?_
      refine st_call pl42 rfl rfl rfl (newq_walk _) ?_
      rintro _ w ⟨bq, rfl, hLq⟩
      refine ⟨_, rfl, ?_⟩
      replace hp := hp.backX (i := []) (o1 := []) (Z := pB (some (⟨0, bq, 0, fL, fL, [], List.replicate 64 0, gnil⟩ : Ps))) [] [] (by simp) rfl hLq (by simp) rfl (by simp)
      simp only [tg, List.nil_append] at hp
      refine st_v (ov_indexA rfl rfl Tryd.underlying68 sz55 (by omega)) rfl ?_
      refine st_storeE 4 (u := (some (⟨0, bq, 0, fL, fL, [], List.replicate 64 0, gnil⟩ : Ps))) hp rfl rfl rfl (a) (by first | omega | (simp; omega)) rfl sz55 (fun w hp => ?_)
      refine st_nil ?_
      refine pn_then ?_
      refine sc_seq ?_
      refine sc_region ?_
      refine st_v (ov_move rfl) rfl ?_
      refine st_v (ov_indexA rfl rfl Tryd.underlying67 sz52 (by omega)) rfl ?_
      refine st_v (ov_load1 rfl Tryd.underlying52 rfl (Cells.elem' (hp.cells' (t := 3) rfl) (a) (by first | omega | (simp; omega) | (simp [*]; omega)) (none : Option Ps))) rfl ?_
      rw [getD_set (by omega)]
      refine st_v (v := .bool false) ((ov_eqlP Tryd.underlying52 rfl rfl).is (rfl)) rfl ?_
      refine st_nil ?_
      refine pn_then ?_
      refine sc_false rfl ?_
      refine sc_skip ?_
      refine pn_block ?_
      refine pn_block ?_
      refine pn_then ?_
      refine sc_region ?_
      refine st_v (ov_move rfl) rfl ?_
      refine st_v (ov_add_n (a := i) (b := 1) rfl rfl (by omega)) rfl ?_
      refine st_v (ov_assign rfl) rfl ?_
      refine st_nil ?_
      rw [List.append_assoc] at hp
      replace hp := hp.setX a (by omega) (some (⟨bn, bq, 0, fL, fL, [], List.replicate 64 0, gnil⟩ : Ps)) rfl
      replace hp := hp.as (t := 3) rfl ((ps.set a (some (⟨bn, bq, 0, fL, fL, [], List.replicate 64 0, gnil⟩ : Ps))).map ptA) (map_set_eq rfl)
      replace hp := hp.as (t := 4) rfl ((ps.set a (some (⟨bn, bq, 0, fL, fL, [], List.replicate 64 0, gnil⟩ : Ps))).map ptB) (map_set_eq rfl)
      refine pn_roundX2 (i + 1) (ps.set a (some (⟨bn, bq, 0, fL, fL, [], List.replicate 64 0, gnil⟩ : Ps))) hp (Sub.cons rfl (Sub.cons rfl (Sub.cons rfl (Sub.cons rfl (Sub.nil _))))) ?_ (LSub.cons rfl (LSub.cons rfl (LSub.nil _))) rfl ?_
      · omega
      exact ⟨(by first | omega | (simp; done) | (simp; omega) | (simp [*]; omega)), (by simpa using hpl), (all_set hok (ok_new _ _) _), (all_set (R := fun p => ∀ q, p = some q → q.text.length ≤ 64 + ((l.map dlen).take (i + 1)).sum) hlnS (fun q hq => by obtain rfl := Option.some.inj hq; simp) _)⟩
    ·
      have hc := of_decide_eq_false hc
      refine sc_seq ?_
      refine sc_region ?_
      refine st_v (ov_eql rfl rfl) rfl ?_
      refine st_v (ov_assign rfl) rfl ?_
      refine st_nil ?_
      refine pn_then ?_
      refine sc_cond rfl (fun hc => ?_) (fun hc => ?_)
      ·
        have hc := of_decide_eq_true hc
        refine sc_seq ?_
        refine sc_region ?_
        refine st_v (ov_field (q := 3) rfl Tryd.underlying70 rfl sz33 rfl) rfl ?_
        refine st_v (ov_load1 rfl Tryd.underlying33 rfl (so_3 (hp.cells' (t := 6) rfl))) rfl ?_
        refine st_call pl18 rfl rfl rfl (copied2_walk o.d.bs _ _ _ ((hd.chg hp.chg)) (by first | rfl | omega | (simp; done) | (simp; omega) | (simp [*]; omega)) (by omega)) ?_
        rintro _ w ⟨g64, rfl, hm64⟩
        refine ⟨_, rfl, ?_⟩
        replace hp := hp.got 64 hm64
        have hc64 := hm64.2
        clear hm64
        refine st_v (ov_assign rfl) rfl ?_
        refine st_nil ?_
        refine pn_then ?_
        refine sc_seq ?_
        replace hp := hp.openX a (by omega) hpe
        refine sc_region ?_
        refine st_v (ov_move rfl) rfl ?_
        refine st_v (ov_move rfl) rfl ?_
        refine st_call pl35 rfl rfl rfl (write_opt p o.d.bs _ _ _ hpo hp.ownsY (Rd.own (hp.own 64 _ rfl)) rfl (gcap1 hc64) (hp.offYt (t := 64) rfl) (by omega) (hp.old hk (by simp)) (hp.notinY hk (by simp [kL]))) ?_
        rintro _ w ⟨rfl, st2, tl2, hLA, hSt⟩
        refine ⟨_, rfl, ?_⟩
        replace hp := Hp.back_ (i1 := []) (o1 := []) (Z := pA (p.map (wA o.d.bs st2 tl2))) hp rfl [] [] (by simp) rfl hLA (by simp) rfl (by simp)
        simp only [tg, List.nil_append] at hp
        replace hp := hp.swapX
        refine st_v (ov_assign rfl) rfl ?_
        refine st_nil ?_
        refine pn_then ?_
        refine sc_seq ?_
        refine sc_region ?_
        refine st_v (ov_move rfl) rfl ?_
        refine st_v (ov_field (q := 3) rfl Tryd.underlying70 rfl sz33 rfl) rfl ?_
        refine st_v (ov_load1 rfl Tryd.underlying33 rfl (so_3 (hp.cells' (t := 6) rfl))) rfl ?_
        refine st_call pl36 rfl rfl rfl (writer_opt p o.d.bs _ _ _ hpo hp.ownsY (hd.chg hp.chg) rfl (hp.offsY hd) (fun q hq => by have := hpn q hq; omega)) ?_
        rintro _ w ⟨rfl, g2, hLB, hcg2⟩
        refine ⟨_, rfl, ?_⟩
        replace hp := Hp.back_ (i1 := []) (o1 := []) (Z := pB (p.map (wB o.d.bs g2))) hp rfl [] [] (by simp) rfl hLB (by simp) rfl (by simp)
        simp only [tg, List.nil_append] at hp
        rw [wA_eq p o.d.bs st2 tl2 g2, wB_eq p o.d.bs st2 tl2 g2] at hp
        replace hp := hp.closeX (by omega)
        refine st_v (ov_assign rfl) rfl ?_
        refine st_nil ?_
        refine pn_then ?_
        refine sc_seq ?_
        refine sc_seq ?_
        refine sc_region ?_
        refine st_v (ov_move rfl) rfl ?_
        refine st_v (ov_move rfl) rfl ?_
        refine st_v (v := .bool false) ((ov_neq rfl rfl).is ((by simp))) rfl ?_
        refine st_v (ov_move rfl) rfl ?_
        refine st_on (j := 3) rfl rfl ?_
        refine st_v (ov_move rfl) rfl ?_
        refine st_on (j := 3) rfl rfl ?_
        refine st_v (ov_field (q := 3) rfl Tryd.underlying70 rfl sz33 rfl) rfl ?_
        refine st_on (j := 3) rfl rfl ?_
        refine st_v (ov_load1 rfl Tryd.underlying33 rfl (so_3 (hp.cells' (t := 6) rfl))) rfl ?_
        refine st_on (j := 3) rfl rfl ?_
        refine st_call pl25 rfl rfl rfl (same2_walk_eq o.d.bs _ _ _ _ _ (Rd.own (hp.own 64 _ rfl)) ((hd.chg hp.chg)) (by first | rfl | omega | (simp; done) | (simp; omega) | (simp [*]; omega)) (by first | rfl | omega | (simp; done) | (simp; omega) | (simp [*]; omega)) (by first | omega | (simp; omega))) ?_
        rintro _ w ⟨rfl, hch⟩
        refine ⟨_, rfl, ?_⟩
        replace hp := hp.call hch
        clear hch
        refine st_on (j := 3) rfl rfl ?_
        refine st_v (ov_not rfl) rfl ?_
        refine st_v (ov_pick_f rfl rfl) rfl ?_
        refine st_nil ?_
        refine pn_then ?_
        refine sc_false rfl ?_
        refine sc_skip ?_
        refine pn_then ?_
        refine sc_seq ?_
        refine sc_region ?_
        refine st_v (ov_assign rfl) rfl ?_
        refine st_nil ?_
        refine pn_then ?_
        refine sc_block ?_
        refine sc_loopH2 (α := Nat) (β := List UInt8) (kv := [(0, _), (3, _), (4, _), (5, _), (11, _)]) (kl := [(6, _), (3, _), (4, _)]) (fun k c kv => (14, .int .i64 ((k : Nat) : Int)) :: kv) (fun k c kl => (64, ⟨g64.ob, c.map B8 ++ g64.sp, 5⟩) :: kl) (fun k c => (k ≤ o.d.bs.length) ∧ (c.length = o.d.bs.length)) (fun k c => o.d.bs.length - k) 0 o.d.bs hp (Sub.cons rfl (Sub.cons rfl (Sub.cons rfl (Sub.cons rfl (Sub.cons rfl (Sub.cons rfl (Sub.nil _))))))) (LSub.cons rfl (LSub.cons rfl (LSub.cons rfl (LSub.cons rfl (LSub.nil _))))) ?_ ?_
        · exact ⟨(by first | omega | (simp; done) | (simp; omega) | (simp [*]; omega)), rfl⟩
        intro k c w hp hx
        obtain ⟨hkc, hcl⟩ := hx
        refine sc_seq ?_
        refine sc_seq ?_
        refine sc_region ?_
        refine st_v (ov_move rfl) rfl ?_
        refine st_v (ov_move rfl) rfl ?_
        refine st_v (ov_len rfl Tryd.underlying33 rfl) rfl ?_
        refine st_v (ov_lss rfl rfl) rfl ?_
        refine st_nil ?_
        refine pn_then ?_
        refine sc_cond rfl (fun hc => ?_) (fun hc => ?_)
        ·
          have hc := of_decide_eq_true hc
          refine sc_skip ?_
          refine pn_then ?_
          refine sc_seq ?_
          refine sc_block ?_
          refine sc_region ?_
          refine st_v (ov_move rfl) rfl ?_
          refine st_v (ov_move rfl) rfl ?_
          refine st_v (ov_move rfl) rfl ?_
          refine st_v (ov_mul_n (a := 7) (b := i) rfl rfl (by omega)) rfl ?_
          refine st_v (ov_move rfl) rfl ?_
          refine st_v (ov_add_n (a := 7 * i) (b := k) rfl rfl (by omega)) rfl ?_
          refine st_v (ov_add_n (a := (7 * i) + k) (b := 1) rfl rfl (by omega)) rfl ?_
          refine st_v (ov_conv_n_8 (a := ((7 * i) + k) + 1) Tryd.underlying3 Tryd.underlying5 rfl) rfl ?_
          obtain ⟨bb2, oo2, hadr2, hcl2⟩ := (Rd.own (hp.own 64 _ rfl)).pos (by simp; omega)
          refine st_v (ov_indexR hadr2 rfl rfl Tryd.underlying33 sz5 (by omega)) rfl ?_
          refine st_storeG 64 g64 hadr2 hp rfl rfl rfl (k) ⟨by omega, by first | omega | (simp; omega)⟩ rfl sz5 (fun w hp => ?_)
          refine st_nil ?_
          refine pn_block ?_
          refine pn_then ?_
          refine sc_region ?_
          refine st_v (ov_move rfl) rfl ?_
          refine st_v (ov_add_n (a := k) (b := 1) rfl rfl (by omega)) rfl ?_
          refine st_v (ov_assign rfl) rfl ?_
          refine st_nil ?_
          refine pn_roundH2 (k + 1) (c.set k (UInt8.ofNat (7 * i + k + 1))) hp (Sub.cons rfl (Sub.cons rfl (Sub.cons rfl (Sub.cons rfl (Sub.cons rfl (Sub.cons rfl (Sub.nil _))))))) ?_ (LSub.cons rfl (LSub.cons rfl (LSub.cons rfl (LSub.cons rfl (LSub.nil _))))) ?_
          · omega
          exact ⟨(by first | omega | (simp; done) | (simp; omega) | (simp [*]; omega)), (by simpa using hcl)⟩
        ·
          have hc := of_decide_eq_false hc
          refine sc_exit ?_
          refine pe_then ?_
          refine pe_then ?_
          refine pe_hit ?_
          refine pn_block ?_
          refine pn_block ?_
          refine pn_then ?_
          refine sc_region ?_
          refine st_v (ov_move rfl) rfl ?_
          refine st_v (ov_add_n (a := i) (b := 1) rfl rfl (by omega)) rfl ?_
          refine st_v (ov_assign rfl) rfl ?_
          refine st_nil ?_
          replace hp := hp.as (t := 3) rfl ((ps.set a (p.map (wAB o.d.bs st2 tl2 g2))).map ptA) (by rw [List.map_set, w_ptA, ← hpe]; exact (set_same _ (by omega) _).symm)
          replace hp := hp.as (t := 4) rfl ((ps.set a (p.map (wAB o.d.bs st2 tl2 g2))).map ptB) (by rw [List.map_set, w_ptB, ← hpe]; exact (set_same _ (by omega) _).symm)
          refine pn_roundX2 (i + 1) (ps.set a (p.map (wAB o.d.bs st2 tl2 g2))) hp (Sub.cons rfl (Sub.cons rfl (Sub.cons rfl (Sub.cons rfl (Sub.nil _))))) ?_ (LSub.cons rfl (LSub.cons rfl (LSub.nil _))) rfl ?_
          · omega
          exact ⟨(by first | omega | (simp; done) | (simp; omega) | (simp [*]; omega)), (by simpa using hpl), (all_set hok (ok_write hpo hSt hcg2) _), (all_set (R := fun p => ∀ q, p = some q → q.text.length ≤ 64 + ((l.map dlen).take (i + 1)).sum) hlnS (fun q hq => by cases p with | none => cases hq | some q0 => obtain rfl := Option.some.inj hq; have h8 := hpn q0 rfl; have h9 := wrote_len (bf := q0.bf) (text := q0.text) (b := o.d.bs); rw [hTs]; exact Nat.le_trans h9 (by show _ ≤ 64 + (T + o.d.bs.length); omega)) _)⟩
      ·
        have hc := of_decide_eq_false hc
        refine sc_seq ?_
        refine sc_region ?_
        refine st_v (ov_eql rfl rfl) rfl ?_
        refine st_v (ov_assign rfl) rfl ?_
        refine st_nil ?_
        refine pn_then ?_
        refine sc_cond rfl (fun hc => ?_) (fun hc => ?_)
        ·
          have hc := of_decide_eq_true hc
          refine sc_seq ?_
          refine sc_region ?_
          refine st_v (ov_move rfl) rfl ?_
          refine st_call pl33 rfl rfl rfl (sum_opt p _ hpo (fun c hc => hp.ownX c (mem_pA (by omega) hpe hc)) (hp.old hk (by simp))) ?_
          rintro _ w ⟨rfl, hch⟩
          refine ⟨_, rfl, ?_⟩
          replace hp := hp.call hch
          clear hch
          refine st_v (ov_move rfl) rfl ?_
          refine st_call pl34 rfl rfl rfl (sumq_opt p _ hpo (fun c hc => hp.ownX c (mem_pB (by omega) hpe hc)) (fun q hq => by have := hpn q hq; omega)) ?_
          rintro _ w ⟨rfl, hch⟩
          refine ⟨_, rfl, ?_⟩
          replace hp := hp.call hch
          clear hch
          refine st_v (v := .bool false) ((ov_neqA (k := .u8) (g := fun x : UInt8 => (x.toNat : Int))  inj8 Tryd.underlying39 Tryd.underlying5 sz5 gd39 rfl rfl ⟨sumO_len p, sumO_len p⟩).is ((by simp))) rfl ?_
          refine st_nil ?_
          refine pn_then ?_
          refine sc_false rfl ?_
          refine sc_skip ?_
          refine pn_block ?_
          refine pn_block ?_
          refine pn_then ?_
          refine sc_region ?_
          refine st_v (ov_move rfl) rfl ?_
          refine st_v (ov_add_n (a := i) (b := 1) rfl rfl (by omega)) rfl ?_
          refine st_v (ov_assign rfl) rfl ?_
          refine st_nil ?_
          refine pn_roundX2 (i + 1) ps hp (Sub.cons rfl (Sub.cons rfl (Sub.cons rfl (Sub.cons rfl (Sub.nil _))))) ?_ (LSub.cons rfl (LSub.cons rfl (LSub.nil _))) rfl ?_
          · omega
          exact ⟨(by first | omega | (simp; done) | (simp; omega) | (simp [*]; omega)), hpl, hok, hlnS⟩
        ·
          have hc := of_decide_eq_false hc
          refine sc_seq ?_
          refine sc_region ?_
          refine st_v (ov_eql rfl rfl) rfl ?_
          refine st_v (ov_assign rfl) rfl ?_
          refine st_nil ?_
          refine pn_then ?_
          refine sc_cond rfl (fun hc => ?_) (fun hc => ?_)
          ·
            have hc := of_decide_eq_true hc
            refine sc_seq ?_
            refine sc_region ?_
            refine st_v (ov_move rfl) rfl ?_
            refine st_call pl28 rfl rfl rfl (len_opt p _ hpo (fun c hc => hp.ownX c (mem_pA (by omega) hpe hc))) ?_
            rintro _ w ⟨rfl, hch⟩
            refine ⟨_, rfl, ?_⟩
            replace hp := hp.call hch
            clear hch
            refine st_v (ov_move rfl) rfl ?_
            refine st_call pl29 rfl rfl rfl (lenr_opt p _ hpo (fun c hc => hp.ownX c (mem_pB (by omega) hpe hc))) ?_
            rintro _ w ⟨rfl, hch⟩
            refine ⟨_, rfl, ?_⟩
            replace hp := hp.call hch
            clear hch
            refine st_v (v := .bool false) ((ov_neq rfl rfl).is ((by simp))) rfl ?_
            refine st_nil ?_
            refine pn_then ?_
            refine sc_false rfl ?_
            refine sc_skip ?_
            refine pn_block ?_
            refine pn_block ?_
            refine pn_then ?_
            refine sc_region ?_
            refine st_v (ov_move rfl) rfl ?_
            refine st_v (ov_add_n (a := i) (b := 1) rfl rfl (by omega)) rfl ?_
            refine st_v (ov_assign rfl) rfl ?_
            refine st_nil ?_
            refine pn_roundX2 (i + 1) ps hp (Sub.cons rfl (Sub.cons rfl (Sub.cons rfl (Sub.cons rfl (Sub.nil _))))) ?_ (LSub.cons rfl (LSub.cons rfl (LSub.nil _))) rfl ?_
            · omega
            exact ⟨(by first | omega | (simp; done) | (simp; omega) | (simp [*]; omega)), hpl, hok, hlnS⟩
          ·
            have hc := of_decide_eq_false hc
            refine sc_seq ?_
            refine sc_region ?_
            refine st_v (ov_eql rfl rfl) rfl ?_
            refine st_v (ov_assign rfl) rfl ?_
            refine st_nil ?_
            refine pn_then ?_
            refine sc_cond rfl (fun hc => ?_) (fun hc => ?_)
            ·
              have hc := of_decide_eq_true hc
              refine sc_seq ?_
              refine sc_region ?_
              refine st_v (ov_move rfl) rfl ?_
              refine st_call pl31 rfl rfl rfl (mid_opt p _ hpo (fun c hc => hp.ownX c (mem_pA (by omega) hpe hc))) ?_
              rintro _ w ⟨g114, rfl, hm114⟩
              refine ⟨_, rfl, ?_⟩
              replace hp := hp.got 114 hm114
              have hc114 := hm114.2
              clear hm114
              refine st_alloc 15 (midc (List.replicate 8 0) 0 none 0 0) hp rfl zl51 rfl (fun b15 w hp => ?_)
              refine st_storeA 15 hp rfl rfl rfl (by simp [mS_len hpo]) (sz51.trans (by rw [midc_len (mS_len hpo)])) midc_one (fun w hp => ?_)
              refine st_nil ?_
              refine pn_then ?_
              refine sc_seq ?_
              refine sc_seq ?_
              obtain ⟨Hs, hHs⟩ := (hp.sub (L' := [(15, _), (114, _), (6, _), (3, _), (4, _)]) (LSub.cons rfl (LSub.cons rfl (LSub.cons rfl (LSub.cons rfl (LSub.cons rfl (LSub.nil _))))))).hs
              refine sc_plan Hs [0, 1, 4] [2] (.load 0 (.take 1 (.one 2 (.one 3 (.take 4 .nil))))) (by kernel_rfl) (by kernel_rfl) (by repeat (first | exact calm_body _ _ _ | refine calm_then ?_ | refine calm_block ?_ | refine calm_jump ?_ | refine calm_ng ?_)) ?_
              replace hp := hp.drew
              refine sp_load rfl ((hHs _).2 (hp.sub (LSub.cons rfl (LSub.cons rfl (LSub.cons rfl (LSub.cons rfl (LSub.cons rfl (LSub.nil _)))))))) (fun w hs => have hp := (hHs w).1 hs; ov_loadN rfl Tryd.underlying51 rfl (sz51.trans (by rw [midc_len (mS_len hpo)])) (hp.cells' (t := 15) rfl)) rfl ?_
              refine sp_take rfl (fun w => ov_move rfl) rfl ?_
              refine sp_one rfl ?_
              refine st_call pl32 rfl rfl rfl (midr_opt p _ hpo (fun c hc => hp.ownX c (mem_pB (by omega) hpe hc)) (fun q hq => by have := hpn q hq; omega)) ?_
              rintro _ w ⟨g117, rfl, hm117⟩
              refine ⟨_, rfl, ?_⟩
              replace hp := hp.got 117 hm117
              have hc117 := hm117.2
              clear hm117
              refine st_nil ?_
              refine sp_next (i := 2) (fun _ => ((hHs _).2 (hp.sub (LSub.cons rfl (LSub.cons rfl (LSub.cons rfl (LSub.cons rfl (LSub.cons rfl (LSub.nil _))))))))) ?_
              refine sp_one rfl ?_
              refine st_call pl30 rfl rfl rfl (samemid_walk (mS p) (lenO p) (mT p) _ _ _ _ _ (mS_len hpo) (Rd.own (hp.own 114 _ rfl)) (Rd.own (hp.own 117 _ rfl)) rfl (by have := mT_len p; omega)) ?_
              rintro _ w ⟨rfl, hch⟩
              refine ⟨_, rfl, ?_⟩
              replace hp := hp.call hch
              clear hch
              refine st_nil ?_
              refine sp_next (i := 3) (fun h => absurd h (by decide)) ?_
              refine sp_take rfl (fun w => ov_not rfl) rfl ?_
              refine sp_nil ?_
              refine pn_then ?_
              refine sc_false rfl ?_
              refine sc_skip ?_
              refine pn_then ?_
              refine sc_seq ?_
              have hmtl := mT_len p
              refine sc_region ?_
              refine st_v (ov_assign rfl) rfl ?_
              refine st_nil ?_
              refine pn_then ?_
              refine sc_block ?_
              refine sc_loopH2 (α := Nat) (β := List UInt8) (kv := [(0, _), (3, _), (4, _), (5, _), (15, _)]) (kl := [(117, _), (15, _), (6, _), (3, _), (4, _)]) (fun k c kv => (16, .int .i64 ((k : Nat) : Int)) :: kv) (fun k c kl => (114, ⟨g114.ob, c.map B8 ++ g114.sp, 5⟩) :: kl) (fun k c => (k ≤ (mT p).length) ∧ (c.length = (mT p).length)) (fun k c => (mT p).length - k) 0 (mT p) hp (Sub.cons rfl (Sub.cons rfl (Sub.cons rfl (Sub.cons rfl (Sub.cons rfl (Sub.cons rfl (Sub.nil _))))))) (LSub.cons rfl (LSub.cons rfl (LSub.cons rfl (LSub.cons rfl (LSub.cons rfl (LSub.cons rfl (LSub.nil _))))))) ?_ ?_
              · exact ⟨(by first | omega | (simp; done) | (simp; omega) | (simp [*]; omega)), rfl⟩
              intro k c w hp hx
              obtain ⟨hkc, hcl⟩ := hx
              refine sc_seq ?_
              refine sc_seq ?_
              refine sc_region ?_
              refine st_v (ov_move rfl) rfl ?_
              refine st_v (ov_field (q := 9) rfl Tryd.underlying51 rfl sz33 rfl) rfl ?_
              refine st_v (ov_load1 rfl Tryd.underlying33 rfl (midc_tail (hp.cells' (t := 15) rfl) (mS_len hpo))) rfl ?_
              refine st_v (ov_len rfl Tryd.underlying33 rfl) rfl ?_
              refine st_v (ov_lss rfl rfl) rfl ?_
              refine st_nil ?_
              refine pn_then ?_
              refine sc_cond rfl (fun hc => ?_) (fun hc => ?_)
              ·
                have hc := of_decide_eq_true hc
                refine sc_skip ?_
                refine pn_then ?_
                refine sc_seq ?_
                refine sc_block ?_
                refine sc_region ?_
                refine st_v (ov_field (q := 9) rfl Tryd.underlying51 rfl sz33 rfl) rfl ?_
                refine st_v (ov_load1 rfl Tryd.underlying33 rfl (midc_tail (hp.cells' (t := 15) rfl) (mS_len hpo))) rfl ?_
                refine st_v (ov_move rfl) rfl ?_
                refine st_v (ov_move rfl) rfl ?_
                refine st_v (ov_mul_n (a := 5) (b := i) rfl rfl (by omega)) rfl ?_
                refine st_v (ov_move rfl) rfl ?_
                refine st_v (ov_add_n (a := 5 * i) (b := k) rfl rfl (by omega)) rfl ?_
                refine st_v (ov_add_n (a := (5 * i) + k) (b := 1) rfl rfl (by omega)) rfl ?_
                refine st_v (ov_conv_n_8 (a := ((5 * i) + k) + 1) Tryd.underlying3 Tryd.underlying5 rfl) rfl ?_
                obtain ⟨bb3, oo3, hadr3, hcl3⟩ := (Rd.own (hp.own 114 _ rfl)).pos (by simp; omega)
                refine st_v (ov_indexR hadr3 rfl rfl Tryd.underlying33 sz5 (by omega)) rfl ?_
                refine st_storeG 114 g114 hadr3 hp rfl rfl rfl (k) ⟨by omega, by first | omega | (simp; omega)⟩ rfl sz5 (fun w hp => ?_)
                refine st_nil ?_
                refine pn_block ?_
                refine pn_then ?_
                refine sc_region ?_
                refine st_v (ov_move rfl) rfl ?_
                refine st_v (ov_add_n (a := k) (b := 1) rfl rfl (by omega)) rfl ?_
                refine st_v (ov_assign rfl) rfl ?_
                refine st_nil ?_
                refine pn_roundH2 (k + 1) (c.set k (UInt8.ofNat (5 * i + k + 1))) hp (Sub.cons rfl (Sub.cons rfl (Sub.cons rfl (Sub.cons rfl (Sub.cons rfl (Sub.cons rfl (Sub.nil _))))))) ?_ (LSub.cons rfl (LSub.cons rfl (LSub.cons rfl (LSub.cons rfl (LSub.cons rfl (LSub.cons rfl (LSub.nil _))))))) ?_
                · omega
                exact ⟨(by first | omega | (simp; done) | (simp; omega) | (simp [*]; omega)), (by simpa using hcl)⟩
              ·
                have hc := of_decide_eq_false hc
                refine sc_exit ?_
                refine pe_then ?_
                refine pe_then ?_
                refine pe_hit ?_
                refine pn_block ?_
                refine pn_block ?_
                refine pn_then ?_
                refine sc_region ?_
                refine st_v (ov_move rfl) rfl ?_
                refine st_v (ov_add_n (a := i) (b := 1) rfl rfl (by omega)) rfl ?_
                refine st_v (ov_assign rfl) rfl ?_
                refine st_nil ?_
                refine pn_roundX2 (i + 1) ps hp (Sub.cons rfl (Sub.cons rfl (Sub.cons rfl (Sub.cons rfl (Sub.nil _))))) ?_ (LSub.cons rfl (LSub.cons rfl (LSub.nil _))) rfl ?_
                · omega
                exact ⟨(by first | omega | (simp; done) | (simp; omega) | (simp [*]; omega)), hpl, hok, hlnS⟩
            ·
              have hc := of_decide_eq_false hc
              refine sc_seq ?_
              refine sc_region ?_
              refine st_v (ov_eql rfl rfl) rfl ?_
              refine st_v (ov_assign rfl) rfl ?_
              refine st_nil ?_
              refine pn_then ?_
              refine sc_cond rfl (fun hc => ?_) (fun hc => ?_)
              ·
                have hc := of_decide_eq_true hc
                refine sc_seq ?_
                refine sc_region ?_
                refine st_v (ov_move rfl) rfl ?_
                refine st_v (ov_move rfl) rfl ?_
                refine st_call pl43 rfl rfl rfl (fork_opt p _ hpo (fun c hc => hp.ownX c (mem_pA (by omega) hpe hc))) ?_
                rintro _ w ⟨bn, rfl, hLn⟩
                refine ⟨_, rfl, ?_⟩
                replace hp := hp.backX (i := []) (o1 := []) (Z := pA (p.map fun q => { q with bs := bn })) [] [] (by simp) rfl hLn (by simp) rfl (by simp)
                simp only [tg, List.nil_append] at hp
                refine st_v (ov_indexA rfl rfl Tryd.underlying67 sz52 (by omega)) rfl ?_
                refine st_storeE 3 (u := p.map fun q => { q with bs := bn }) hp rfl rfl rfl (t) (by first | omega | (simp; omega)) rfl sz52 (fun w hp => ?_)
                refine st_nil ?_
                refine pn_then ?_
                refine sc_seq ?_
                refine sc_region ?_
                refine st_v (ov_move rfl) rfl ?_
                refine st_v (ov_move rfl) rfl ?_
                refine st_call pl44 rfl rfl rfl (forkr_opt p _ hpo (fun c hc => hp.ownX c (List.mem_append_left _ (mem_pB (by omega) hpe hc))) (fun q hq => by have := hpn q hq; omega)) ?_
                rintro _ w ⟨bq, gq, rfl, hLq, hcq⟩
                refine ⟨_, rfl, ?_⟩
                replace hp := hp.backX (i := []) (o1 := []) (Z := pB (p.map fun q => { q with br := bq, g := gq })) [] [] (by simp) rfl hLq (by simp) rfl (by simp)
                simp only [tg, List.nil_append] at hp
                refine st_v (ov_indexA rfl rfl Tryd.underlying68 sz55 (by omega)) rfl ?_
                refine st_storeE 4 (u := p.map fun q => { q with br := bq, g := gq }) hp rfl rfl rfl (t) (by first | omega | (simp; omega)) rfl sz55 (fun w hp => ?_)
                refine st_nil ?_
                refine pn_then ?_
                refine sc_seq ?_
                refine sc_draws (by kernel_rfl) (by kernel_rfl) ?_
                replace hp := hp.drew
                refine ss_v (ov_move rfl) rfl ?_
                refine ss_v (ov_indexA rfl rfl Tryd.underlying67 sz52 (by omega)) rfl ?_
                refine ss_v (ov_load1 rfl Tryd.underlying52 rfl (Cells.elem' (hp.cells' (t := 3) rfl) (t) (by first | omega | (simp; omega) | (simp [*]; omega)) (none : Option Ps))) rfl ?_
                rw [getD_set (by omega)]
                refine ss_v (ov_eqlP Tryd.underlying52 rfl rfl) rfl ?_
                refine ss_v (ov_move rfl) rfl ?_
                refine ss_v (ov_indexA rfl rfl Tryd.underlying68 sz55 (by omega)) rfl ?_
                refine ss_v (ov_load1 rfl Tryd.underlying55 rfl (Cells.elem' (hp.cells' (t := 4) rfl) (t) (by first | omega | (simp; omega) | (simp [*]; omega)) (none : Option Ps))) rfl ?_
                rw [getD_set (by omega)]
                refine ss_v (ov_eqlP Tryd.underlying55 rfl rfl) rfl ?_
                refine ss_v (v := .bool false) ((ov_neqB Tryd.underlying4 rfl rfl).is ((by simp))) rfl ?_
                refine ss_end ?_
                refine pn_then ?_
                refine sc_false rfl ?_
                refine sc_skip ?_
                refine pn_block ?_
                refine pn_block ?_
                refine pn_then ?_
                refine sc_region ?_
                refine st_v (ov_move rfl) rfl ?_
                refine st_v (ov_add_n (a := i) (b := 1) rfl rfl (by omega)) rfl ?_
                refine st_v (ov_assign rfl) rfl ?_
                refine st_nil ?_
                rw [List.append_assoc] at hp
                replace hp := hp.setX t (by omega) (p.map fun q => { q with bs := bn, br := bq, g := gq }) (by cases p <;> rfl)
                replace hp := hp.as (t := 3) rfl ((ps.set t (p.map fun q => { q with bs := bn, br := bq, g := gq })).map ptA) (map_set_eq (by cases p <;> rfl))
                replace hp := hp.as (t := 4) rfl ((ps.set t (p.map fun q => { q with bs := bn, br := bq, g := gq })).map ptB) (map_set_eq (by cases p <;> rfl))
                refine pn_roundX2 (i + 1) (ps.set t (p.map fun q => { q with bs := bn, br := bq, g := gq })) hp (Sub.cons rfl (Sub.cons rfl (Sub.cons rfl (Sub.cons rfl (Sub.nil _))))) ?_ (LSub.cons rfl (LSub.cons rfl (LSub.nil _))) rfl ?_
                · omega
                exact ⟨(by first | omega | (simp; done) | (simp; omega) | (simp [*]; omega)), (by simpa using hpl), (all_set hok (ok_fork hpo hcq) _), (all_set (R := fun p => ∀ q, p = some q → q.text.length ≤ 64 + ((l.map dlen).take (i + 1)).sum) hlnS (fun q hq => by cases p with | none => cases hq | some q0 => obtain rfl := Option.some.inj hq; have h8 := hpn q0 rfl; rw [hTs]; exact Nat.le_trans h8 (by omega)) _)⟩
              ·
                have hc := of_decide_eq_false hc
                refine sc_seq ?_
                refine sc_seq ?_
                refine sc_region ?_
                refine st_v (ov_eql rfl rfl) rfl ?_
                refine st_v (ov_assign rfl) rfl ?_
                refine st_nil ?_
                refine pn_then ?_
                refine sc_cond rfl (fun hc => ?_) (fun hc => ?_)
                ·
                  have hc := of_decide_eq_true hc
                  refine sc_skip ?_
                  refine pn_then ?_
                  refine sc_cond rfl (fun hc => ?_) (fun hc => ?_)
                  ·
                    have hc := of_decide_eq_true hc
                    refine sc_seq ?_
                    refine sc_region ?_
                    refine st_v (ov_field (q := 4) rfl Tryd.underlying70 rfl sz51 rfl) rfl ?_
                    refine st_v (ov_loadN rfl Tryd.underlying51 rfl (sz51.trans (by rw [midc_len o.hm])) (so_4 (hp.cells' (t := 6) rfl))) rfl ?_
                    refine st_alloc 17 (midc (List.replicate 8 0) 0 none 0 0) hp rfl zl51 rfl (fun b17 w hp => ?_)
                    refine st_storeA 17 hp rfl rfl rfl (by simp [o.hm]) (sz51.trans (by rw [midc_len o.hm])) midc_one (fun w hp => ?_)
                    refine st_nil ?_
                    refine pn_then ?_
                    refine sc_seq ?_
                    refine sc_seq ?_
                    refine sc_region ?_
                    refine st_v (ov_field (q := 0) rfl Tryd.underlying70 rfl sz3 rfl) rfl ?_
                    refine st_v (ov_load1 rfl Tryd.underlying3 rfl (so_0 (hp.cells' (t := 6) rfl))) rfl ?_
                    refine st_v (ov_eql rfl rfl) rfl ?_
                    refine st_nil ?_
                    refine pn_then ?_
                    refine sc_cond rfl (fun hc => ?_) (fun hc => ?_)
                    ·
                      have hc := of_decide_eq_true hc
                      refine sc_region ?_
                      refine st_v (ov_move rfl) rfl ?_
                      refine st_call pl32 rfl rfl rfl (midr_opt p _ hpo (fun c hc => hp.ownX c (mem_pB (by omega) hpe hc)) (fun q hq => by have := hpn q hq; omega)) ?_
                      rintro _ w ⟨g165, rfl, hm165⟩
                      refine ⟨_, rfl, ?_⟩
                      replace hp := hp.got 165 hm165
                      have hc165 := hm165.2
                      clear hm165
                      refine st_storeA 17 hp rfl rfl rfl (by simp [o.hm, mS_len hpo]) (sz51.trans (by rw [midc_len (mS_len hpo)])) midc_one (fun w hp => ?_)
                      obtain ⟨ms, hmse⟩ : ∃ x, mS p = x := ⟨_, rfl⟩
                      obtain ⟨md, hmde⟩ : ∃ x, lenO p = x := ⟨_, rfl⟩
                      obtain ⟨mt, hmte⟩ : ∃ x, mT p = x := ⟨_, rfl⟩
                      have hms8 : ms.length = 8 := by rw [← hmse]; exact mS_len hpo
                      have hmtl : mt.length ≤ 1048576 := by rw [← hmte]; have := mT_len p; omega
                      rw [hmse, hmde] at hp
                      rw [hmte] at hp hc165
                      refine st_nil ?_
                      refine pn_then ?_
                      refine sc_seq ?_
                      refine sc_region ?_
                      refine st_v (ov_loadN rfl Tryd.underlying51 rfl (sz51.trans (by rw [midc_len hms8])) (hp.cells' (t := 17) rfl)) rfl ?_
                      refine st_alloc 18 (midc (List.replicate 8 0) 0 none 0 0) hp rfl zl51 rfl (fun b18 w hp => ?_)
                      refine st_storeA 18 hp rfl rfl rfl (by simp [hms8]) (sz51.trans (by rw [midc_len hms8])) midc_one (fun w hp => ?_)
                      refine st_nil ?_
                      refine pn_then ?_
                      refine sc_seq ?_
                      refine sc_region ?_
                      refine st_v (ov_field (q := 9) rfl Tryd.underlying51 rfl sz33 rfl) rfl ?_
                      refine st_v (ov_load1 rfl Tryd.underlying33 rfl (midc_tail (hp.cells' (t := 17) rfl) hms8)) rfl ?_
                      refine st_call pl18 rfl rfl rfl (copied2_walk mt _ _ _ ((by first | exact (Rd.own (hp.own 165 _ rfl)) | exact (hmm.chg hp.chg))) (by first | rfl | omega | (simp; done) | (simp; omega) | (simp [*]; omega)) (by omega)) ?_
                      rintro _ w ⟨g169, rfl, hm169⟩
                      refine ⟨_, rfl, ?_⟩
                      replace hp := hp.got 169 hm169
                      have hc169 := hm169.2
                      clear hm169
                      refine st_v (ov_field (q := 9) rfl Tryd.underlying51 rfl sz33 rfl) rfl ?_
                      refine st_store1 18 hp rfl rfl rfl rfl sz33 (by simp [hms8]) (fun w hp => ?_)
                      rw [midc_set9 hms8] at hp
                      refine st_nil ?_
                      refine pn_then ?_
                      refine sc_seq ?_
                      refine sc_region ?_
                      refine st_v (ov_loadN rfl Tryd.underlying51 rfl (sz51.trans (by rw [midc_len hms8])) (hp.cells' (t := 18) rfl)) rfl ?_
                      refine st_call pl26 rfl rfl rfl (resume_opt ms hms8 md mt _ _ _ (Rd.own (hp.own 169 _ rfl)) rfl (by omega) (hp.old hk (by simp)) (hp.old hf (by simp))) ?_
                      rintro _ w ⟨bn, tln, rfl, hLn, hSn⟩
                      refine ⟨_, rfl, ?_⟩
                      replace hp := hp.backX (i := []) (o1 := []) (Z := pA (rO bn 0 ms md mt tln gnil)) [] [] (by simp) rfl hLn (by simp) rfl (by simp)
                      simp only [tg, List.nil_append] at hp
                      refine st_v (ov_move rfl) rfl ?_
                      refine st_v (ov_extract rfl rfl) rfl ?_
                      refine st_v (ov_extract rfl rfl) rfl ?_
                      refine st_v (ov_assign rfl) rfl ?_
                      refine st_v (ov_assign rfl) rfl ?_
                      refine st_nil ?_
                      refine pn_then ?_
                      refine sc_seq ?_
                      refine sc_region ?_
                      refine st_v (ov_loadN rfl Tryd.underlying51 rfl (sz51.trans (by rw [midc_len hms8])) (hp.cells' (t := 17) rfl)) rfl ?_
                      refine st_call pl27 rfl rfl rfl (resumer_opt ms hms8 md mt _ _ _ (by first | exact (Rd.own (hp.own 165 _ rfl)) | exact (hmm.chg hp.chg)) rfl (by omega)) ?_
                      rintro _ w ⟨bq, gq, rfl, hLq, hcq⟩
                      refine ⟨_, rfl, ?_⟩
                      replace hp := hp.backX (i := []) (o1 := []) (Z := pB (rO 0 bq ms md mt [] gq)) [] [] (by simp) rfl hLq (by simp) rfl (by simp)
                      simp only [tg, List.nil_append] at hp
                      refine st_v (ov_move rfl) rfl ?_
                      refine st_v (ov_extract rfl rfl) rfl ?_
                      refine st_v (ov_extract rfl rfl) rfl ?_
                      refine st_v (ov_assign rfl) rfl ?_
                      refine st_v (ov_assign rfl) rfl ?_
                      refine st_nil ?_
                      refine pn_then ?_
                      refine sc_seq ?_
                      refine sc_seq ?_
                      refine sc_region ?_
                      refine st_v (ov_move rfl) rfl ?_
                      refine st_v (ov_move rfl) rfl ?_
                      refine st_v (v := .bool false) ((ov_neq rfl rfl).is ((by simp))) rfl ?_
                      refine st_v (ov_move rfl) rfl ?_
                      refine st_on (j := 3) rfl rfl ?_
                      refine st_v (ov_move rfl) rfl ?_
                      refine st_on (j := 3) rfl rfl ?_
                      refine st_v (ov_eqlP Tryd.underlying52 rfl rfl) rfl ?_
                      refine st_on (j := 3) rfl rfl ?_
                      refine st_v (ov_move rfl) rfl ?_
                      refine st_on (j := 3) rfl rfl ?_
                      refine st_v (ov_eqlP Tryd.underlying55 rfl rfl) rfl ?_
                      refine st_on (j := 3) rfl rfl ?_
                      refine st_v (v := .bool false) ((ov_neqB Tryd.underlying4 rfl rfl).is (by simp only [Option.isNone_map]; rw [rO_none bn 0 0 bq ms md mt tln [] gnil gq]; simp)) rfl ?_
                      refine st_v (ov_pick_f rfl rfl) rfl ?_
                      refine st_v (ov_move rfl) rfl ?_
                      refine st_on (j := 10) rfl rfl ?_
                      refine st_v (ov_field (q := 9) rfl Tryd.underlying51 rfl sz33 rfl) rfl ?_
                      refine st_on (j := 10) rfl rfl ?_
                      refine st_v (ov_load1 rfl Tryd.underlying33 rfl (midc_tail (hp.cells' (t := 18) rfl) hms8)) rfl ?_
                      refine st_on (j := 10) rfl rfl ?_
                      refine st_v (ov_field (q := 9) rfl Tryd.underlying51 rfl sz33 rfl) rfl ?_
                      refine st_on (j := 10) rfl rfl ?_
                      refine st_v (ov_load1 rfl Tryd.underlying33 rfl (midc_tail (hp.cells' (t := 17) rfl) hms8)) rfl ?_
                      refine st_on (j := 10) rfl rfl ?_
                      refine st_call pl25 rfl rfl rfl (same2_walk_eq mt _ _ _ _ _ (Rd.own (hp.own 169 _ rfl)) ((by first | exact (Rd.own (hp.own 165 _ rfl)) | exact (hmm.chg hp.chg))) (by first | rfl | omega | (simp; done) | (simp; omega) | (simp [*]; omega)) (by first | rfl | omega | (simp; done) | (simp; omega) | (simp [*]; omega)) (by first | omega | (simp; omega))) ?_
                      rintro _ w ⟨rfl, hch⟩
                      refine ⟨_, rfl, ?_⟩
                      replace hp := hp.call hch
                      clear hch
                      refine st_on (j := 10) rfl rfl ?_
                      refine st_v (ov_not rfl) rfl ?_
                      refine st_v (ov_pick_f rfl rfl) rfl ?_
                      refine st_nil ?_
                      refine pn_then ?_
                      refine sc_false rfl ?_
                      refine sc_skip ?_
                      refine pn_then ?_
                      refine sc_seq ?_
                      refine sc_seq ?_
                      refine sc_region ?_
                      refine st_v (ov_assign rfl) rfl ?_
                      refine st_nil ?_
                      refine pn_then ?_
                      refine sc_block ?_
                      refine sc_loopH2 (α := Nat) (β := List UInt8) (kv := [(0, _), (3, _), (4, _), (5, _), (8, _), (18, _), (19, _), (21, _)]) (kl := [(18, _), (165, _), (17, _), (6, _), (3, _), (4, _)]) (fun k c kv => (23, .int .i64 ((k : Nat) : Int)) :: kv) (fun k c kl => (169, ⟨g169.ob, c.map B8 ++ g169.sp, 5⟩) :: kl) (fun k c => (k ≤ mt.length) ∧ (c.length = mt.length)) (fun k c => mt.length - k) 0 mt hp (Sub.cons rfl (Sub.cons rfl (Sub.cons rfl (Sub.cons rfl (Sub.cons rfl (Sub.cons rfl (Sub.cons rfl (Sub.cons rfl (Sub.cons rfl (Sub.nil _)))))))))) (LSub.cons rfl (LSub.cons rfl (LSub.cons rfl (LSub.cons rfl (LSub.cons rfl (LSub.cons rfl (LSub.cons rfl (LSub.nil _)))))))) ?_ ?_
                      · exact ⟨(by first | omega | (simp; done) | (simp; omega) | (simp [*]; omega)), rfl⟩
                      intro k c w hp hx
                      obtain ⟨hkc, hcl⟩ := hx
                      refine sc_seq ?_
                      refine sc_seq ?_
                      refine sc_region ?_
                      refine st_v (ov_move rfl) rfl ?_
                      refine st_v (ov_field (q := 9) rfl Tryd.underlying51 rfl sz33 rfl) rfl ?_
                      refine st_v (ov_load1 rfl Tryd.underlying33 rfl (midc_tail (hp.cells' (t := 18) rfl) hms8)) rfl ?_
                      refine st_v (ov_len rfl Tryd.underlying33 rfl) rfl ?_
                      refine st_v (ov_lss rfl rfl) rfl ?_
                      refine st_nil ?_
                      refine pn_then ?_
                      refine sc_cond rfl (fun hc => ?_) (fun hc => ?_)
                      ·
                        have hc := of_decide_eq_true hc
                        refine sc_skip ?_
                        refine pn_then ?_
                        refine sc_seq ?_
                        refine sc_block ?_
                        refine sc_region ?_
                        refine st_v (ov_field (q := 9) rfl Tryd.underlying51 rfl sz33 rfl) rfl ?_
                        refine st_v (ov_load1 rfl Tryd.underlying33 rfl (midc_tail (hp.cells' (t := 18) rfl) hms8)) rfl ?_
                        refine st_v (ov_move rfl) rfl ?_
                        refine st_v (ov_move rfl) rfl ?_
                        refine st_v (ov_mul_n (a := 3) (b := i) rfl rfl (by omega)) rfl ?_
                        refine st_v (ov_move rfl) rfl ?_
                        refine st_v (ov_add_n (a := 3 * i) (b := k) rfl rfl (by omega)) rfl ?_
                        refine st_v (ov_add_n (a := (3 * i) + k) (b := 1) rfl rfl (by omega)) rfl ?_
                        refine st_v (ov_conv_n_8 (a := ((3 * i) + k) + 1) Tryd.underlying3 Tryd.underlying5 rfl) rfl ?_
                        obtain ⟨bb4, oo4, hadr4, hcl4⟩ := (Rd.own (hp.own 169 _ rfl)).pos (by simp; omega)
                        refine st_v (ov_indexR hadr4 rfl rfl Tryd.underlying33 sz5 (by omega)) rfl ?_
                        refine st_storeG 169 g169 hadr4 hp rfl rfl rfl (k) ⟨by omega, by first | omega | (simp; omega)⟩ rfl sz5 (fun w hp => ?_)
                        refine st_nil ?_
                        refine pn_block ?_
                        refine pn_then ?_
                        refine sc_region ?_
                        refine st_v (ov_move rfl) rfl ?_
                        refine st_v (ov_add_n (a := k) (b := 1) rfl rfl (by omega)) rfl ?_
                        refine st_v (ov_assign rfl) rfl ?_
                        refine st_nil ?_
                        refine pn_roundH2 (k + 1) (c.set k (UInt8.ofNat (3 * i + k + 1))) hp (Sub.cons rfl (Sub.cons rfl (Sub.cons rfl (Sub.cons rfl (Sub.cons rfl (Sub.cons rfl (Sub.cons rfl (Sub.cons rfl (Sub.cons rfl (Sub.nil _)))))))))) ?_ (LSub.cons rfl (LSub.cons rfl (LSub.cons rfl (LSub.cons rfl (LSub.cons rfl (LSub.cons rfl (LSub.cons rfl (LSub.nil _)))))))) ?_
                        · omega
                        exact ⟨(by first | omega | (simp; done) | (simp; omega) | (simp [*]; omega)), (by simpa using hcl)⟩
                      ·
                        have hc := of_decide_eq_false hc
                        refine sc_exit ?_
                        refine pe_then ?_
                        refine pe_then ?_
                        refine pe_hit ?_
                        refine pn_then ?_
                        refine sc_seq ?_
                        refine sc_region ?_
                        refine st_v (ov_move rfl) rfl ?_
                        refine st_v (ov_move rfl) rfl ?_
                        refine st_v (ov_indexA rfl rfl Tryd.underlying67 sz52 (by omega)) rfl ?_
                        refine st_storeE 3 (u := rO bn 0 ms md mt tln gnil) hp rfl rfl rfl (t) (by first | omega | (simp; omega)) rfl sz52 (fun w hp => ?_)
                        refine st_nil ?_
                        refine pn_then ?_
                        refine sc_region ?_
                        refine st_v (ov_move rfl) rfl ?_
                        refine st_v (ov_move rfl) rfl ?_
                        refine st_v (ov_indexA rfl rfl Tryd.underlying68 sz55 (by omega)) rfl ?_
                        refine st_storeE 4 (u := rO 0 bq ms md mt [] gq) hp rfl rfl rfl (t) (by first | omega | (simp; omega)) rfl sz55 (fun w hp => ?_)
                        refine st_nil ?_
                        refine pn_block ?_
                        refine pn_block ?_
                        refine pn_then ?_
                        refine sc_region ?_
                        refine st_v (ov_move rfl) rfl ?_
                        refine st_v (ov_add_n (a := i) (b := 1) rfl rfl (by omega)) rfl ?_
                        refine st_v (ov_assign rfl) rfl ?_
                        refine st_nil ?_
                        rw [List.append_assoc] at hp
                        replace hp := hp.setX t (by omega) (rO bn bq ms md mt tln gq) (by unfold pks; rw [(rO_A bn bq 0 ms md mt tln gq gnil).1, (rO_B bn 0 bq ms md mt tln [] gq).1])
                        replace hp := hp.as (t := 3) rfl ((ps.set t (rO bn bq ms md mt tln gq)).map ptA) (map_set_eq (rO_A bn bq 0 ms md mt tln gq gnil).2.symm)
                        replace hp := hp.as (t := 4) rfl ((ps.set t (rO bn bq ms md mt tln gq)).map ptB) (map_set_eq (rO_B bn 0 bq ms md mt tln [] gq).2.symm)
                        obtain ⟨hok9, hln9⟩ := ok_resume (b := bn) (br := bq) hms8 hSn hcq
                        refine pn_roundX2 (i + 1) (ps.set t (rO bn bq ms md mt tln gq)) hp (Sub.cons rfl (Sub.cons rfl (Sub.cons rfl (Sub.cons rfl (Sub.nil _))))) ?_ (LSub.cons rfl (LSub.cons rfl (LSub.nil _))) rfl ?_
                        · omega
                        exact ⟨(by first | omega | (simp; done) | (simp; omega) | (simp [*]; omega)), (by simpa using hpl), (all_set hok hok9 _), (all_set (R := fun p => ∀ q, p = some q → q.text.length ≤ 64 + ((l.map dlen).take (i + 1)).sum) hlnS (fun q hq => Nat.le_trans (hln9 q hq) (by omega)) _)⟩
                    ·
                      have hc := of_decide_eq_false hc
                      obtain ⟨ms, hmse⟩ : ∃ x, o.mst = x := ⟨_, rfl⟩
                      obtain ⟨md, hmde⟩ : ∃ x, o.md = x := ⟨_, rfl⟩
                      obtain ⟨mt, hmte⟩ : ∃ x, o.m.bs = x := ⟨_, rfl⟩
                      have hms8 : ms.length = 8 := by rw [← hmse]; exact o.hm
                      have hmtl : mt.length ≤ 1048576 := by rw [← hmte]; exact hml
                      rw [hmse, hmde, hmte] at hp
                      rw [hmte] at hmm
                      refine sc_skip ?_
                      refine pn_then ?_
                      refine sc_seq ?_
                      refine sc_region ?_
                      refine st_v (ov_loadN rfl Tryd.underlying51 rfl (sz51.trans (by rw [midc_len hms8])) (hp.cells' (t := 17) rfl)) rfl ?_
                      refine st_alloc 18 (midc (List.replicate 8 0) 0 none 0 0) hp rfl zl51 rfl (fun b18 w hp => ?_)
                      refine st_storeA 18 hp rfl rfl rfl (by simp [hms8]) (sz51.trans (by rw [midc_len hms8])) midc_one (fun w hp => ?_)
                      refine st_nil ?_
                      refine pn_then ?_
                      refine sc_seq ?_
                      refine sc_region ?_
                      refine st_v (ov_field (q := 9) rfl Tryd.underlying51 rfl sz33 rfl) rfl ?_
                      refine st_v (ov_load1 rfl Tryd.underlying33 rfl (midc_tail (hp.cells' (t := 17) rfl) hms8)) rfl ?_
                      refine st_call pl18 rfl rfl rfl (copied2_walk mt _ _ _ ((by first | exact (Rd.own (hp.own 165 _ rfl)) | exact (hmm.chg hp.chg))) (by first | rfl | omega | (simp; done) | (simp; omega) | (simp [*]; omega)) (by omega)) ?_
                      rintro _ w ⟨g169, rfl, hm169⟩
                      refine ⟨_, rfl, ?_⟩
                      replace hp := hp.got 169 hm169
                      have hc169 := hm169.2
                      clear hm169
                      refine st_v (ov_field (q := 9) rfl Tryd.underlying51 rfl sz33 rfl) rfl ?_
                      refine st_store1 18 hp rfl rfl rfl rfl sz33 (by simp [hms8]) (fun w hp => ?_)
                      rw [midc_set9 hms8] at hp
                      refine st_nil ?_
                      refine pn_then ?_
                      refine sc_seq ?_
                      refine sc_region ?_
                      refine st_v (ov_loadN rfl Tryd.underlying51 rfl (sz51.trans (by rw [midc_len hms8])) (hp.cells' (t := 18) rfl)) rfl ?_
                      refine st_call pl26 rfl rfl rfl (resume_opt ms hms8 md mt _ _ _ (Rd.own (hp.own 169 _ rfl)) rfl (by omega) (hp.old hk (by simp)) (hp.old hf (by simp))) ?_
                      rintro _ w ⟨bn, tln, rfl, hLn, hSn⟩
                      refine ⟨_, rfl, ?_⟩
                      replace hp := hp.backX (i := []) (o1 := []) (Z := pA (rO bn 0 ms md mt tln gnil)) [] [] (by simp) rfl hLn (by simp) rfl (by simp)
                      simp only [tg, List.nil_append] at hp
                      refine st_v (ov_move rfl) rfl ?_
                      refine st_v (ov_extract rfl rfl) rfl ?_
                      refine st_v (ov_extract rfl rfl) rfl ?_
                      refine st_v (ov_assign rfl) rfl ?_
                      refine st_v (ov_assign rfl) rfl ?_
                      refine st_nil ?_
                      refine pn_then ?_
                      refine sc_seq ?_
                      refine sc_region ?_
                      refine st_v (ov_loadN rfl Tryd.underlying51 rfl (sz51.trans (by rw [midc_len hms8])) (hp.cells' (t := 17) rfl)) rfl ?_
                      refine st_call pl27 rfl rfl rfl (resumer_opt ms hms8 md mt _ _ _ (by first | exact (Rd.own (hp.own 165 _ rfl)) | exact (hmm.chg hp.chg)) rfl (by omega)) ?_
                      rintro _ w ⟨bq, gq, rfl, hLq, hcq⟩
                      refine ⟨_, rfl, ?_⟩
                      replace hp := hp.backX (i := []) (o1 := []) (Z := pB (rO 0 bq ms md mt [] gq)) [] [] (by simp) rfl hLq (by simp) rfl (by simp)
                      simp only [tg, List.nil_append] at hp
                      refine st_v (ov_move rfl) rfl ?_
                      refine st_v (ov_extract rfl rfl) rfl ?_
                      refine st_v (ov_extract rfl rfl) rfl ?_
                      refine st_v (ov_assign rfl) rfl ?_
                      refine st_v (ov_assign rfl) rfl ?_
                      refine st_nil ?_
                      refine pn_then ?_
                      refine sc_seq ?_
                      refine sc_seq ?_
                      refine sc_region ?_
                      refine st_v (ov_move rfl) rfl ?_
                      refine st_v (ov_move rfl) rfl ?_
                      refine st_v (v := .bool false) ((ov_neq rfl rfl).is ((by simp))) rfl ?_
                      refine st_v (ov_move rfl) rfl ?_
                      refine st_on (j := 3) rfl rfl ?_
                      refine st_v (ov_move rfl) rfl ?_
                      refine st_on (j := 3) rfl rfl ?_
                      refine st_v (ov_eqlP Tryd.underlying52 rfl rfl) rfl ?_
                      refine st_on (j := 3) rfl rfl ?_
                      refine st_v (ov_move rfl) rfl ?_
                      refine st_on (j := 3) rfl rfl ?_
                      refine st_v (ov_eqlP Tryd.underlying55 rfl rfl) rfl ?_
                      refine st_on (j := 3) rfl rfl ?_
                      refine st_v (v := .bool false) ((ov_neqB Tryd.underlying4 rfl rfl).is (by simp only [Option.isNone_map]; rw [rO_none bn 0 0 bq ms md mt tln [] gnil gq]; simp)) rfl ?_
                      refine st_v (ov_pick_f rfl rfl) rfl ?_
                      refine st_v (ov_move rfl) rfl ?_
                      refine st_on (j := 10) rfl rfl ?_
                      refine st_v (ov_field (q := 9) rfl Tryd.underlying51 rfl sz33 rfl) rfl ?_
                      refine st_on (j := 10) rfl rfl ?_
                      refine st_v (ov_load1 rfl Tryd.underlying33 rfl (midc_tail (hp.cells' (t := 18) rfl) hms8)) rfl ?_
                      refine st_on (j := 10) rfl rfl ?_
                      refine st_v (ov_field (q := 9) rfl Tryd.underlying51 rfl sz33 rfl) rfl ?_
                      refine st_on (j := 10) rfl rfl ?_
                      refine st_v (ov_load1 rfl Tryd.underlying33 rfl (midc_tail (hp.cells' (t := 17) rfl) hms8)) rfl ?_
                      refine st_on (j := 10) rfl rfl ?_
                      refine st_call pl25 rfl rfl rfl (same2_walk_eq mt _ _ _ _ _ (Rd.own (hp.own 169 _ rfl)) ((by first | exact (Rd.own (hp.own 165 _ rfl)) | exact (hmm.chg hp.chg))) (by first | rfl | omega | (simp; done) | (simp; omega) | (simp [*]; omega)) (by first | rfl | omega | (simp; done) | (simp; omega) | (simp [*]; omega)) (by first | omega | (simp; omega))) ?_
                      rintro _ w ⟨rfl, hch⟩
                      refine ⟨_, rfl, ?_⟩
                      replace hp := hp.call hch
                      clear hch
                      refine st_on (j := 10) rfl rfl ?_
                      refine st_v (ov_not rfl) rfl ?_
                      refine st_v (ov_pick_f rfl rfl) rfl ?_
                      refine st_nil ?_
                      refine pn_then ?_
                      refine sc_false rfl ?_
                      refine sc_skip ?_
                      refine pn_then ?_
                      refine sc_seq ?_
                      refine sc_seq ?_
                      refine sc_region ?_
                      refine st_v (ov_assign rfl) rfl ?_
                      refine st_nil ?_
                      refine pn_then ?_
                      refine sc_block ?_
                      refine sc_loopH2 (α := Nat) (β := List UInt8) (kv := [(0, _), (3, _), (4, _), (5, _), (8, _), (18, _), (19, _), (21, _)]) (kl := [(18, _), (17, _), (6, _), (3, _), (4, _)]) (fun k c kv => (23, .int .i64 ((k : Nat) : Int)) :: kv) (fun k c kl => (169, ⟨g169.ob, c.map B8 ++ g169.sp, 5⟩) :: kl) (fun k c => (k ≤ mt.length) ∧ (c.length = mt.length)) (fun k c => mt.length - k) 0 mt hp (Sub.cons rfl (Sub.cons rfl (Sub.cons rfl (Sub.cons rfl (Sub.cons rfl (Sub.cons rfl (Sub.cons rfl (Sub.cons rfl (Sub.cons rfl (Sub.nil _)))))))))) (LSub.cons rfl (LSub.cons rfl (LSub.cons rfl (LSub.cons rfl (LSub.cons rfl (LSub.cons rfl (LSub.nil _))))))) ?_ ?_
                      · exact ⟨(by first | omega | (simp; done) | (simp; omega) | (simp [*]; omega)), rfl⟩
                      intro k c w hp hx
                      obtain ⟨hkc, hcl⟩ := hx
                      refine sc_seq ?_
                      refine sc_seq ?_
                      refine sc_region ?_
                      refine st_v (ov_move rfl) rfl ?_
                      refine st_v (ov_field (q := 9) rfl Tryd.underlying51 rfl sz33 rfl) rfl ?_
                      refine st_v (ov_load1 rfl Tryd.underlying33 rfl (midc_tail (hp.cells' (t := 18) rfl) hms8)) rfl ?_
                      refine st_v (ov_len rfl Tryd.underlying33 rfl) rfl ?_
                      refine st_v (ov_lss rfl rfl) rfl ?_
                      refine st_nil ?_
                      refine pn_then ?_
                      refine sc_cond rfl (fun hc => ?_) (fun hc => ?_)
                      ·
                        have hc := of_decide_eq_true hc
                        refine sc_skip ?_
                        refine pn_then ?_
                        refine sc_seq ?_
                        refine sc_block ?_
                        refine sc_region ?_
                        refine st_v (ov_field (q := 9) rfl Tryd.underlying51 rfl sz33 rfl) rfl ?_
                        refine st_v (ov_load1 rfl Tryd.underlying33 rfl (midc_tail (hp.cells' (t := 18) rfl) hms8)) rfl ?_
                        refine st_v (ov_move rfl) rfl ?_
                        refine st_v (ov_move rfl) rfl ?_
                        refine st_v (ov_mul_n (a := 3) (b := i) rfl rfl (by omega)) rfl ?_
                        refine st_v (ov_move rfl) rfl ?_
                        refine st_v (ov_add_n (a := 3 * i) (b := k) rfl rfl (by omega)) rfl ?_
                        refine st_v (ov_add_n (a := (3 * i) + k) (b := 1) rfl rfl (by omega)) rfl ?_
                        refine st_v (ov_conv_n_8 (a := ((3 * i) + k) + 1) Tryd.underlying3 Tryd.underlying5 rfl) rfl ?_
                        obtain ⟨bb5, oo5, hadr5, hcl5⟩ := (Rd.own (hp.own 169 _ rfl)).pos (by simp; omega)
                        refine st_v (ov_indexR hadr5 rfl rfl Tryd.underlying33 sz5 (by omega)) rfl ?_
                        refine st_storeG 169 g169 hadr5 hp rfl rfl rfl (k) ⟨by omega, by first | omega | (simp; omega)⟩ rfl sz5 (fun w hp => ?_)
                        refine st_nil ?_
                        refine pn_block ?_
                        refine pn_then ?_
                        refine sc_region ?_
                        refine st_v (ov_move rfl) rfl ?_
                        refine st_v (ov_add_n (a := k) (b := 1) rfl rfl (by omega)) rfl ?_
                        refine st_v (ov_assign rfl) rfl ?_
                        refine st_nil ?_
                        refine pn_roundH2 (k + 1) (c.set k (UInt8.ofNat (3 * i + k + 1))) hp (Sub.cons rfl (Sub.cons rfl (Sub.cons rfl (Sub.cons rfl (Sub.cons rfl (Sub.cons rfl (Sub.cons rfl (Sub.cons rfl (Sub.cons rfl (Sub.nil _)))))))))) ?_ (LSub.cons rfl (LSub.cons rfl (LSub.cons rfl (LSub.cons rfl (LSub.cons rfl (LSub.cons rfl (LSub.nil _))))))) ?_
                        · omega
                        exact ⟨(by first | omega | (simp; done) | (simp; omega) | (simp [*]; omega)), (by simpa using hcl)⟩
                      ·
                        have hc := of_decide_eq_false hc
                        refine sc_exit ?_
                        refine pe_then ?_
                        refine pe_then ?_
                        refine pe_hit ?_
                        refine pn_then ?_
                        refine sc_seq ?_
                        refine sc_region ?_
                        refine st_v (ov_move rfl) rfl ?_
                        refine st_v (ov_move rfl) rfl ?_
                        refine st_v (ov_indexA rfl rfl Tryd.underlying67 sz52 (by omega)) rfl ?_
                        refine st_storeE 3 (u := rO bn 0 ms md mt tln gnil) hp rfl rfl rfl (t) (by first | omega | (simp; omega)) rfl sz52 (fun w hp => ?_)
                        refine st_nil ?_
                        refine pn_then ?_
                        refine sc_region ?_
                        refine st_v (ov_move rfl) rfl ?_
                        refine st_v (ov_move rfl) rfl ?_
                        refine st_v (ov_indexA rfl rfl Tryd.underlying68 sz55 (by omega)) rfl ?_
                        refine st_storeE 4 (u := rO 0 bq ms md mt [] gq) hp rfl rfl rfl (t) (by first | omega | (simp; omega)) rfl sz55 (fun w hp => ?_)
                        refine st_nil ?_
                        refine pn_block ?_
                        refine pn_block ?_
                        refine pn_then ?_
                        refine sc_region ?_
                        refine st_v (ov_move rfl) rfl ?_
                        refine st_v (ov_add_n (a := i) (b := 1) rfl rfl (by omega)) rfl ?_
                        refine st_v (ov_assign rfl) rfl ?_
                        refine st_nil ?_
                        rw [List.append_assoc] at hp
                        replace hp := hp.setX t (by omega) (rO bn bq ms md mt tln gq) (by unfold pks; rw [(rO_A bn bq 0 ms md mt tln gq gnil).1, (rO_B bn 0 bq ms md mt tln [] gq).1])
                        replace hp := hp.as (t := 3) rfl ((ps.set t (rO bn bq ms md mt tln gq)).map ptA) (map_set_eq (rO_A bn bq 0 ms md mt tln gq gnil).2.symm)
                        replace hp := hp.as (t := 4) rfl ((ps.set t (rO bn bq ms md mt tln gq)).map ptB) (map_set_eq (rO_B bn 0 bq ms md mt tln [] gq).2.symm)
                        obtain ⟨hok9, hln9⟩ := ok_resume (b := bn) (br := bq) hms8 hSn hcq
                        refine pn_roundX2 (i + 1) (ps.set t (rO bn bq ms md mt tln gq)) hp (Sub.cons rfl (Sub.cons rfl (Sub.cons rfl (Sub.cons rfl (Sub.nil _))))) ?_ (LSub.cons rfl (LSub.cons rfl (LSub.nil _))) rfl ?_
                        · omega
                        exact ⟨(by first | omega | (simp; done) | (simp; omega) | (simp [*]; omega)), (by simpa using hpl), (all_set hok hok9 _), (all_set (R := fun p => ∀ q, p = some q → q.text.length ≤ 64 + ((l.map dlen).take (i + 1)).sum) hlnS (fun q hq => Nat.le_trans (hln9 q hq) (by omega)) _)⟩
                  ·
                    have hc := of_decide_eq_false hc
                    refine sc_skip ?_
                    refine pn_block ?_
                    refine pn_block ?_
                    refine pn_then ?_
                    refine sc_region ?_
                    refine st_v (ov_move rfl) rfl ?_
                    refine st_v (ov_add_n (a := i) (b := 1) rfl rfl (by omega)) rfl ?_
                    refine st_v (ov_assign rfl) rfl ?_
                    refine st_nil ?_
                    refine pn_roundX2 (i + 1) ps hp (Sub.cons rfl (Sub.cons rfl (Sub.cons rfl (Sub.cons rfl (Sub.nil _))))) ?_ (LSub.cons rfl (LSub.cons rfl (LSub.nil _))) rfl ?_
                    · omega
                    exact ⟨(by first | omega | (simp; done) | (simp; omega) | (simp [*]; omega)), hpl, hok, hlnS⟩
                ·
                  have hc := of_decide_eq_false hc
                  refine sc_region ?_
                  refine st_v (ov_eql rfl rfl) rfl ?_
                  refine st_v (ov_assign rfl) rfl ?_
                  refine st_nil ?_
                  refine pn_then ?_
                  refine sc_cond rfl (fun hc => ?_) (fun hc => ?_)
                  ·
                    have hc := of_decide_eq_true hc
                    refine sc_seq ?_
                    refine sc_region ?_
                    refine st_v (ov_field (q := 4) rfl Tryd.underlying70 rfl sz51 rfl) rfl ?_
                    refine st_v (ov_loadN rfl Tryd.underlying51 rfl (sz51.trans (by rw [midc_len o.hm])) (so_4 (hp.cells' (t := 6) rfl))) rfl ?_
                    refine st_alloc 17 (midc (List.replicate 8 0) 0 none 0 0) hp rfl zl51 rfl (fun b17 w hp => ?_)
                    refine st_storeA 17 hp rfl rfl rfl (by simp [o.hm]) (sz51.trans (by rw [midc_len o.hm])) midc_one (fun w hp => ?_)
                    refine st_nil ?_
                    refine pn_then ?_
                    refine sc_seq ?_
                    refine sc_seq ?_
                    refine sc_region ?_
                    refine st_v (ov_field (q := 0) rfl Tryd.underlying70 rfl sz3 rfl) rfl ?_
                    refine st_v (ov_load1 rfl Tryd.underlying3 rfl (so_0 (hp.cells' (t := 6) rfl))) rfl ?_
                    refine st_v (ov_eql rfl rfl) rfl ?_
                    refine st_nil ?_
                    refine pn_then ?_
                    refine sc_cond rfl (fun hc => ?_) (fun hc => ?_)
                    ·
                      have hc := of_decide_eq_true hc
                      refine sc_region ?_
                      refine st_v (ov_move rfl) rfl ?_
                      refine st_call pl32 rfl rfl rfl (midr_opt p _ hpo (fun c hc => hp.ownX c (mem_pB (by omega) hpe hc)) (fun q hq => by have := hpn q hq; omega)) ?_
                      rintro _ w ⟨g165, rfl, hm165⟩
                      refine ⟨_, rfl, ?_⟩
                      replace hp := hp.got 165 hm165
                      have hc165 := hm165.2
                      clear hm165
                      refine st_storeA 17 hp rfl rfl rfl (by simp [o.hm, mS_len hpo]) (sz51.trans (by rw [midc_len (mS_len hpo)])) midc_one (fun w hp => ?_)
                      obtain ⟨ms, hmse⟩ : ∃ x, mS p = x := ⟨_, rfl⟩
                      obtain ⟨md, hmde⟩ : ∃ x, lenO p = x := ⟨_, rfl⟩
                      obtain ⟨mt, hmte⟩ : ∃ x, mT p = x := ⟨_, rfl⟩
                      have hms8 : ms.length = 8 := by rw [← hmse]; exact mS_len hpo
                      have hmtl : mt.length ≤ 1048576 := by rw [← hmte]; have := mT_len p; omega
                      rw [hmse, hmde] at hp
                      rw [hmte] at hp hc165
                      refine st_nil ?_
                      refine pn_then ?_
                      refine sc_seq ?_
                      refine sc_region ?_
                      refine st_v (ov_loadN rfl Tryd.underlying51 rfl (sz51.trans (by rw [midc_len hms8])) (hp.cells' (t := 17) rfl)) rfl ?_
                      refine st_alloc 18 (midc (List.replicate 8 0) 0 none 0 0) hp rfl zl51 rfl (fun b18 w hp => ?_)
                      refine st_storeA 18 hp rfl rfl rfl (by simp [hms8]) (sz51.trans (by rw [midc_len hms8])) midc_one (fun w hp => ?_)
                      refine st_nil ?_
                      refine pn_then ?_
                      refine sc_seq ?_
                      refine sc_region ?_
                      refine st_v (ov_field (q := 9) rfl Tryd.underlying51 rfl sz33 rfl) rfl ?_
                      refine st_v (ov_load1 rfl Tryd.underlying33 rfl (midc_tail (hp.cells' (t := 17) rfl) hms8)) rfl ?_
                      refine st_call pl18 rfl rfl rfl (copied2_walk mt _ _ _ ((by first | exact (Rd.own (hp.own 165 _ rfl)) | exact (hmm.chg hp.chg))) (by first | rfl | omega | (simp; done) | (simp; omega) | (simp [*]; omega)) (by omega)) ?_
                      rintro _ w ⟨g169, rfl, hm169⟩
                      refine ⟨_, rfl, ?_⟩
                      replace hp := hp.got 169 hm169
                      have hc169 := hm169.2
                      clear hm169
                      refine st_v (ov_field (q := 9) rfl Tryd.underlying51 rfl sz33 rfl) rfl ?_
                      refine st_store1 18 hp rfl rfl rfl rfl sz33 (by simp [hms8]) (fun w hp => ?_)
                      rw [midc_set9 hms8] at hp
                      refine st_nil ?_
                      refine pn_then ?_
                      refine sc_seq ?_
                      refine sc_region ?_
                      refine st_v (ov_loadN rfl Tryd.underlying51 rfl (sz51.trans (by rw [midc_len hms8])) (hp.cells' (t := 18) rfl)) rfl ?_
                      refine st_call pl26 rfl rfl rfl (resume_opt ms hms8 md mt _ _ _ (Rd.own (hp.own 169 _ rfl)) rfl (by omega) (hp.old hk (by simp)) (hp.old hf (by simp))) ?_
                      rintro _ w ⟨bn, tln, rfl, hLn, hSn⟩
                      refine ⟨_, rfl, ?_⟩
                      replace hp := hp.backX (i := []) (o1 := []) (Z := pA (rO bn 0 ms md mt tln gnil)) [] [] (by simp) rfl hLn (by simp) rfl (by simp)
                      simp only [tg, List.nil_append] at hp
                      refine st_v (ov_move rfl) rfl ?_
                      refine st_v (ov_extract rfl rfl) rfl ?_
                      refine st_v (ov_extract rfl rfl) rfl ?_
                      refine st_v (ov_assign rfl) rfl ?_
                      refine st_v (ov_assign rfl) rfl ?_
                      refine st_nil ?_
                      refine pn_then ?_
                      refine sc_seq ?_
                      refine sc_region ?_
                      refine st_v (ov_loadN rfl Tryd.underlying51 rfl (sz51.trans (by rw [midc_len hms8])) (hp.cells' (t := 17) rfl)) rfl ?_
                      refine st_call pl27 rfl rfl rfl (resumer_opt ms hms8 md mt _ _ _ (by first | exact (Rd.own (hp.own 165 _ rfl)) | exact (hmm.chg hp.chg)) rfl (by omega)) ?_
                      rintro _ w ⟨bq, gq, rfl, hLq, hcq⟩
                      refine ⟨_, rfl, ?_⟩
                      replace hp := hp.backX (i := []) (o1 := []) (Z := pB (rO 0 bq ms md mt [] gq)) [] [] (by simp) rfl hLq (by simp) rfl (by simp)
                      simp only [tg, List.nil_append] at hp
                      refine st_v (ov_move rfl) rfl ?_
                      refine st_v (ov_extract rfl rfl) rfl ?_
                      refine st_v (ov_extract rfl rfl) rfl ?_
                      refine st_v (ov_assign rfl) rfl ?_
                      refine st_v (ov_assign rfl) rfl ?_
                      refine st_nil ?_
                      refine pn_then ?_
                      refine sc_seq ?_
                      refine sc_seq ?_
                      refine sc_region ?_
                      refine st_v (ov_move rfl) rfl ?_
                      refine st_v (ov_move rfl) rfl ?_
                      refine st_v (v := .bool false) ((ov_neq rfl rfl).is ((by simp))) rfl ?_
                      refine st_v (ov_move rfl) rfl ?_
                      refine st_on (j := 3) rfl rfl ?_
                      refine st_v (ov_move rfl) rfl ?_
                      refine st_on (j := 3) rfl rfl ?_
                      refine st_v (ov_eqlP Tryd.underlying52 rfl rfl) rfl ?_
                      refine st_on (j := 3) rfl rfl ?_
                      refine st_v (ov_move rfl) rfl ?_
                      refine st_on (j := 3) rfl rfl ?_
                      refine st_v (ov_eqlP Tryd.underlying55 rfl rfl) rfl ?_
                      refine st_on (j := 3) rfl rfl ?_
                      refine st_v (v := .bool false) ((ov_neqB Tryd.underlying4 rfl rfl).is (by simp only [Option.isNone_map]; rw [rO_none bn 0 0 bq ms md mt tln [] gnil gq]; simp)) rfl ?_
                      refine st_v (ov_pick_f rfl rfl) rfl ?_
                      refine st_v (ov_move rfl) rfl ?_
                      refine st_on (j := 10) rfl rfl ?_
                      refine st_v (ov_field (q := 9) rfl Tryd.underlying51 rfl sz33 rfl) rfl ?_
                      refine st_on (j := 10) rfl rfl ?_
                      refine st_v (ov_load1 rfl Tryd.underlying33 rfl (midc_tail (hp.cells' (t := 18) rfl) hms8)) rfl ?_
                      refine st_on (j := 10) rfl rfl ?_
                      refine st_v (ov_field (q := 9) rfl Tryd.underlying51 rfl sz33 rfl) rfl ?_
                      refine st_on (j := 10) rfl rfl ?_
                      refine st_v (ov_load1 rfl Tryd.underlying33 rfl (midc_tail (hp.cells' (t := 17) rfl) hms8)) rfl ?_
                      refine st_on (j := 10) rfl rfl ?_
                      refine st_call pl25 rfl rfl rfl (same2_walk_eq mt _ _ _ _ _ (Rd.own (hp.own 169 _ rfl)) ((by first | exact (Rd.own (hp.own 165 _ rfl)) | exact (hmm.chg hp.chg))) (by first | rfl | omega | (simp; done) | (simp; omega) | (simp [*]; omega)) (by first | rfl | omega | (simp; done) | (simp; omega) | (simp [*]; omega)) (by first | omega | (simp; omega))) ?_
                      rintro _ w ⟨rfl, hch⟩
                      refine ⟨_, rfl, ?_⟩
                      replace hp := hp.call hch
                      clear hch
                      refine st_on (j := 10) rfl rfl ?_
                      refine st_v (ov_not rfl) rfl ?_
                      refine st_v (ov_pick_f rfl rfl) rfl ?_
                      refine st_nil ?_
                      refine pn_then ?_
                      refine sc_false rfl ?_
                      refine sc_skip ?_
                      refine pn_then ?_
                      refine sc_seq ?_
                      refine sc_seq ?_
                      refine sc_region ?_
                      refine st_v (ov_assign rfl) rfl ?_
                      refine st_nil ?_
                      refine pn_then ?_
                      refine sc_block ?_
                      refine sc_loopH2 (α := Nat) (β := List UInt8) (kv := [(0, _), (3, _), (4, _), (5, _), (8, _), (18, _), (19, _), (21, _)]) (kl := [(18, _), (165, _), (17, _), (6, _), (3, _), (4, _)]) (fun k c kv => (23, .int .i64 ((k : Nat) : Int)) :: kv) (fun k c kl => (169, ⟨g169.ob, c.map B8 ++ g169.sp, 5⟩) :: kl) (fun k c => (k ≤ mt.length) ∧ (c.length = mt.length)) (fun k c => mt.length - k) 0 mt hp (Sub.cons rfl (Sub.cons rfl (Sub.cons rfl (Sub.cons rfl (Sub.cons rfl (Sub.cons rfl (Sub.cons rfl (Sub.cons rfl (Sub.cons rfl (Sub.nil _)))))))))) (LSub.cons rfl (LSub.cons rfl (LSub.cons rfl (LSub.cons rfl (LSub.cons rfl (LSub.cons rfl (LSub.cons rfl (LSub.nil _)))))))) ?_ ?_
                      · exact ⟨(by first | omega | (simp; done) | (simp; omega) | (simp [*]; omega)), rfl⟩
                      intro k c w hp hx
                      obtain ⟨hkc, hcl⟩ := hx
                      refine sc_seq ?_
                      refine sc_seq ?_
                      refine sc_region ?_
                      refine st_v (ov_move rfl) rfl ?_
                      refine st_v (ov_field (q := 9) rfl Tryd.underlying51 rfl sz33 rfl) rfl ?_
                      refine st_v (ov_load1 rfl Tryd.underlying33 rfl (midc_tail (hp.cells' (t := 18) rfl) hms8)) rfl ?_
                      refine st_v (ov_len rfl Tryd.underlying33 rfl) rfl ?_
                      refine st_v (ov_lss rfl rfl) rfl ?_
                      refine st_nil ?_
                      refine pn_then ?_
                      refine sc_cond rfl (fun hc => ?_) (fun hc => ?_)
                      ·
                        have hc := of_decide_eq_true hc
                        refine sc_skip ?_
                        refine pn_then ?_
                        refine sc_seq ?_
                        refine sc_block ?_
                        refine sc_region ?_
                        refine st_v (ov_field (q := 9) rfl Tryd.underlying51 rfl sz33 rfl) rfl ?_
                        refine st_v (ov_load1 rfl Tryd.underlying33 rfl (midc_tail (hp.cells' (t := 18) rfl) hms8)) rfl ?_
                        refine st_v (ov_move rfl) rfl ?_
                        refine st_v (ov_move rfl) rfl ?_
                        refine st_v (ov_mul_n (a := 3) (b := i) rfl rfl (by omega)) rfl ?_
                        refine st_v (ov_move rfl) rfl ?_
                        refine st_v (ov_add_n (a := 3 * i) (b := k) rfl rfl (by omega)) rfl ?_
                        refine st_v (ov_add_n (a := (3 * i) + k) (b := 1) rfl rfl (by omega)) rfl ?_
                        refine st_v (ov_conv_n_8 (a := ((3 * i) + k) + 1) Tryd.underlying3 Tryd.underlying5 rfl) rfl ?_
                        obtain ⟨bb6, oo6, hadr6, hcl6⟩ := (Rd.own (hp.own 169 _ rfl)).pos (by simp; omega)
                        refine st_v (ov_indexR hadr6 rfl rfl Tryd.underlying33 sz5 (by omega)) rfl ?_
                        refine st_storeG 169 g169 hadr6 hp rfl rfl rfl (k) ⟨by omega, by first | omega | (simp; omega)⟩ rfl sz5 (fun w hp => ?_)
                        refine st_nil ?_
                        refine pn_block ?_
                        refine pn_then ?_
                        refine sc_region ?_
                        refine st_v (ov_move rfl) rfl ?_
                        refine st_v (ov_add_n (a := k) (b := 1) rfl rfl (by omega)) rfl ?_
                        refine st_v (ov_assign rfl) rfl ?_
                        refine st_nil ?_
                        refine pn_roundH2 (k + 1) (c.set k (UInt8.ofNat (3 * i + k + 1))) hp (Sub.cons rfl (Sub.cons rfl (Sub.cons rfl (Sub.cons rfl (Sub.cons rfl (Sub.cons rfl (Sub.cons rfl (Sub.cons rfl (Sub.cons rfl (Sub.nil _)))))))))) ?_ (LSub.cons rfl (LSub.cons rfl (LSub.cons rfl (LSub.cons rfl (LSub.cons rfl (LSub.cons rfl (LSub.cons rfl (LSub.nil _)))))))) ?_
                        · omega
                        exact ⟨(by first | omega | (simp; done) | (simp; omega) | (simp [*]; omega)), (by simpa using hcl)⟩
                      ·
                        have hc := of_decide_eq_false hc
                        refine sc_exit ?_
                        refine pe_then ?_
                        refine pe_then ?_
                        refine pe_hit ?_
                        refine pn_then ?_
                        refine sc_seq ?_
                        refine sc_region ?_
                        refine st_v (ov_move rfl) rfl ?_
                        refine st_v (ov_move rfl) rfl ?_
                        refine st_v (ov_indexA rfl rfl Tryd.underlying67 sz52 (by omega)) rfl ?_
                        refine st_storeE 3 (u := rO bn 0 ms md mt tln gnil) hp rfl rfl rfl (t) (by first | omega | (simp; omega)) rfl sz52 (fun w hp => ?_)
                        refine st_nil ?_
                        refine pn_then ?_
                        refine sc_region ?_
                        refine st_v (ov_move rfl) rfl ?_
                        refine st_v (ov_move rfl) rfl ?_
                        refine st_v (ov_indexA rfl rfl Tryd.underlying68 sz55 (by omega)) rfl ?_
                        refine st_storeE 4 (u := rO 0 bq ms md mt [] gq) hp rfl rfl rfl (t) (by first | omega | (simp; omega)) rfl sz55 (fun w hp => ?_)
                        refine st_nil ?_
                        refine pn_block ?_
                        refine pn_block ?_
                        refine pn_then ?_
                        refine sc_region ?_
                        refine st_v (ov_move rfl) rfl ?_
                        refine st_v (ov_add_n (a := i) (b := 1) rfl rfl (by omega)) rfl ?_
                        refine st_v (ov_assign rfl) rfl ?_
                        refine st_nil ?_
                        rw [List.append_assoc] at hp
                        replace hp := hp.setX t (by omega) (rO bn bq ms md mt tln gq) (by unfold pks; rw [(rO_A bn bq 0 ms md mt tln gq gnil).1, (rO_B bn 0 bq ms md mt tln [] gq).1])
                        replace hp := hp.as (t := 3) rfl ((ps.set t (rO bn bq ms md mt tln gq)).map ptA) (map_set_eq (rO_A bn bq 0 ms md mt tln gq gnil).2.symm)
                        replace hp := hp.as (t := 4) rfl ((ps.set t (rO bn bq ms md mt tln gq)).map ptB) (map_set_eq (rO_B bn 0 bq ms md mt tln [] gq).2.symm)
                        obtain ⟨hok9, hln9⟩ := ok_resume (b := bn) (br := bq) hms8 hSn hcq
                        refine pn_roundX2 (i + 1) (ps.set t (rO bn bq ms md mt tln gq)) hp (Sub.cons rfl (Sub.cons rfl (Sub.cons rfl (Sub.cons rfl (Sub.nil _))))) ?_ (LSub.cons rfl (LSub.cons rfl (LSub.nil _))) rfl ?_
                        · omega
                        exact ⟨(by first | omega | (simp; done) | (simp; omega) | (simp [*]; omega)), (by simpa using hpl), (all_set hok hok9 _), (all_set (R := fun p => ∀ q, p = some q → q.text.length ≤ 64 + ((l.map dlen).take (i + 1)).sum) hlnS (fun q hq => Nat.le_trans (hln9 q hq) (by omega)) _)⟩
                    ·
                      have hc := of_decide_eq_false hc
                      obtain ⟨ms, hmse⟩ : ∃ x, o.mst = x := ⟨_, rfl⟩
                      obtain ⟨md, hmde⟩ : ∃ x, o.md = x := ⟨_, rfl⟩
                      obtain ⟨mt, hmte⟩ : ∃ x, o.m.bs = x := ⟨_, rfl⟩
                      have hms8 : ms.length = 8 := by rw [← hmse]; exact o.hm
                      have hmtl : mt.length ≤ 1048576 := by rw [← hmte]; exact hml
                      rw [hmse, hmde, hmte] at hp
                      rw [hmte] at hmm
                      refine sc_skip ?_
                      refine pn_then ?_
                      refine sc_seq ?_
                      refine sc_region ?_
                      refine st_v (ov_loadN rfl Tryd.underlying51 rfl (sz51.trans (by rw [midc_len hms8])) (hp.cells' (t := 17) rfl)) rfl ?_
                      refine st_alloc 18 (midc (List.replicate 8 0) 0 none 0 0) hp rfl zl51 rfl (fun b18 w hp => ?_)
                      refine st_storeA 18 hp rfl rfl rfl (by simp [hms8]) (sz51.trans (by rw [midc_len hms8])) midc_one (fun w hp => ?_)
                      refine st_nil ?_
                      refine pn_then ?_
                      refine sc_seq ?_
                      refine sc_region ?_
                      refine st_v (ov_field (q := 9) rfl Tryd.underlying51 rfl sz33 rfl) rfl ?_
                      refine st_v (ov_load1 rfl Tryd.underlying33 rfl (midc_tail (hp.cells' (t := 17) rfl) hms8)) rfl ?_
                      refine st_call pl18 rfl rfl rfl (copied2_walk mt _ _ _ ((by first | exact (Rd.own (hp.own 165 _ rfl)) | exact (hmm.chg hp.chg))) (by first | rfl | omega | (simp; done) | (simp; omega) | (simp [*]; omega)) (by omega)) ?_
                      rintro _ w ⟨g169, rfl, hm169⟩
                      refine ⟨_, rfl, ?_⟩
                      replace hp := hp.got 169 hm169
                      have hc169 := hm169.2
                      clear hm169
                      refine st_v (ov_field (q := 9) rfl Tryd.underlying51 rfl sz33 rfl) rfl ?_
                      refine st_store1 18 hp rfl rfl rfl rfl sz33 (by simp [hms8]) (fun w hp => ?_)
                      rw [midc_set9 hms8] at hp
                      refine st_nil ?_
                      refine pn_then ?_
                      refine sc_seq ?_
                      refine sc_region ?_
                      refine st_v (ov_loadN rfl Tryd.underlying51 rfl (sz51.trans (by rw [midc_len hms8])) (hp.cells' (t := 18) rfl)) rfl ?_
                      refine st_call pl26 rfl rfl rfl (resume_opt ms hms8 md mt _ _ _ (Rd.own (hp.own 169 _ rfl)) rfl (by omega) (hp.old hk (by simp)) (hp.old hf (by simp))) ?_
                      rintro _ w ⟨bn, tln, rfl, hLn, hSn⟩
                      refine ⟨_, rfl, ?_⟩
                      replace hp := hp.backX (i := []) (o1 := []) (Z := pA (rO bn 0 ms md mt tln gnil)) [] [] (by simp) rfl hLn (by simp) rfl (by simp)
                      simp only [tg, List.nil_append] at hp
                      refine st_v (ov_move rfl) rfl ?_
                      refine st_v (ov_extract rfl rfl) rfl ?_
                      refine st_v (ov_extract rfl rfl) rfl ?_
                      refine st_v (ov_assign rfl) rfl ?_
                      refine st_v (ov_assign rfl) rfl ?_
                      refine st_nil ?_
                      refine pn_then ?_
                      refine sc_seq ?_
                      refine sc_region ?_
                      refine st_v (ov_loadN rfl Tryd.underlying51 rfl (sz51.trans (by rw [midc_len hms8])) (hp.cells' (t := 17) rfl)) rfl ?_
                      refine st_call pl27 rfl rfl rfl (resumer_opt ms hms8 md mt _ _ _ (by first | exact (Rd.own (hp.own 165 _ rfl)) | exact (hmm.chg hp.chg)) rfl (by omega)) ?_
                      rintro _ w ⟨bq, gq, rfl, hLq, hcq⟩
                      refine ⟨_, rfl, ?_⟩
                      replace hp := hp.backX (i := []) (o1 := []) (Z := pB (rO 0 bq ms md mt [] gq)) [] [] (by simp) rfl hLq (by simp) rfl (by simp)
                      simp only [tg, List.nil_append] at hp
                      refine st_v (ov_move rfl) rfl ?_
                      refine st_v (ov_extract rfl rfl) rfl ?_
                      refine st_v (ov_extract rfl rfl) rfl ?_
                      refine st_v (ov_assign rfl) rfl ?_
                      refine st_v (ov_assign rfl) rfl ?_
                      refine st_nil ?_
                      refine pn_then ?_
                      refine sc_seq ?_
                      refine sc_seq ?_
                      refine sc_region ?_
                      refine st_v (ov_move rfl) rfl ?_
                      refine st_v (ov_move rfl) rfl ?_
                      refine st_v (v := .bool false) ((ov_neq rfl rfl).is ((by simp))) rfl ?_
                      refine st_v (ov_move rfl) rfl ?_
                      refine st_on (j := 3) rfl rfl ?_
                      refine st_v (ov_move rfl) rfl ?_
                      refine st_on (j := 3) rfl rfl ?_
                      refine st_v (ov_eqlP Tryd.underlying52 rfl rfl) rfl ?_
                      refine st_on (j := 3) rfl rfl ?_
                      refine st_v (ov_move rfl) rfl ?_
                      refine st_on (j := 3) rfl rfl ?_
                      refine st_v (ov_eqlP Tryd.underlying55 rfl rfl) rfl ?_
                      refine st_on (j := 3) rfl rfl ?_
                      refine st_v (v := .bool false) ((ov_neqB Tryd.underlying4 rfl rfl).is (by simp only [Option.isNone_map]; rw [rO_none bn 0 0 bq ms md mt tln [] gnil gq]; simp)) rfl ?_
                      refine st_v (ov_pick_f rfl rfl) rfl ?_
                      refine st_v (ov_move rfl) rfl ?_
                      refine st_on (j := 10) rfl rfl ?_
                      refine st_v (ov_field (q := 9) rfl Tryd.underlying51 rfl sz33 rfl) rfl ?_
                      refine st_on (j := 10) rfl rfl ?_
                      refine st_v (ov_load1 rfl Tryd.underlying33 rfl (midc_tail (hp.cells' (t := 18) rfl) hms8)) rfl ?_
                      refine st_on (j := 10) rfl rfl ?_
                      refine st_v (ov_field (q := 9) rfl Tryd.underlying51 rfl sz33 rfl) rfl ?_
                      refine st_on (j := 10) rfl rfl ?_
                      refine st_v (ov_load1 rfl Tryd.underlying33 rfl (midc_tail (hp.cells' (t := 17) rfl) hms8)) rfl ?_
                      refine st_on (j := 10) rfl rfl ?_
                      refine st_call pl25 rfl rfl rfl (same2_walk_eq mt _ _ _ _ _ (Rd.own (hp.own 169 _ rfl)) ((by first | exact (Rd.own (hp.own 165 _ rfl)) | exact (hmm.chg hp.chg))) (by first | rfl | omega | (simp; done) | (simp; omega) | (simp [*]; omega)) (by first | rfl | omega | (simp; done) | (simp; omega) | (simp [*]; omega)) (by first | omega | (simp; omega))) ?_
                      rintro _ w ⟨rfl, hch⟩
                      refine ⟨_, rfl, ?_⟩
                      replace hp := hp.call hch
                      clear hch
                      refine st_on (j := 10) rfl rfl ?_
                      refine st_v (ov_not rfl) rfl ?_
                      refine st_v (ov_pick_f rfl rfl) rfl ?_
                      refine st_nil ?_
                      refine pn_then ?_
                      refine sc_false rfl ?_
                      refine sc_skip ?_
                      refine pn_then ?_
                      refine sc_seq ?_
                      refine sc_seq ?_
                      refine sc_region ?_
                      refine st_v (ov_assign rfl) rfl ?_
                      refine st_nil ?_
                      refine pn_then ?_
                      refine sc_block ?_
                      refine sc_loopH2 (α := Nat) (β := List UInt8) (kv := [(0, _), (3, _), (4, _), (5, _), (8, _), (18, _), (19, _), (21, _)]) (kl := [(18, _), (17, _), (6, _), (3, _), (4, _)]) (fun k c kv => (23, .int .i64 ((k : Nat) : Int)) :: kv) (fun k c kl => (169, ⟨g169.ob, c.map B8 ++ g169.sp, 5⟩) :: kl) (fun k c => (k ≤ mt.length) ∧ (c.length = mt.length)) (fun k c => mt.length - k) 0 mt hp (Sub.cons rfl (Sub.cons rfl (Sub.cons rfl (Sub.cons rfl (Sub.cons rfl (Sub.cons rfl (Sub.cons rfl (Sub.cons rfl (Sub.cons rfl (Sub.nil _)))))))))) (LSub.cons rfl (LSub.cons rfl (LSub.cons rfl (LSub.cons rfl (LSub.cons rfl (LSub.cons rfl (LSub.nil _))))))) ?_ ?_
                      · exact ⟨(by first | omega | (simp; done) | (simp; omega) | (simp [*]; omega)), rfl⟩
                      intro k c w hp hx
                      obtain ⟨hkc, hcl⟩ := hx
                      refine sc_seq ?_
                      refine sc_seq ?_
                      refine sc_region ?_
                      refine st_v (ov_move rfl) rfl ?_
                      refine st_v (ov_field (q := 9) rfl Tryd.underlying51 rfl sz33 rfl) rfl ?_
                      refine st_v (ov_load1 rfl Tryd.underlying33 rfl (midc_tail (hp.cells' (t := 18) rfl) hms8)) rfl ?_
                      refine st_v (ov_len rfl Tryd.underlying33 rfl) rfl ?_
                      refine st_v (ov_lss rfl rfl) rfl ?_
                      refine st_nil ?_
                      refine pn_then ?_
                      refine sc_cond rfl (fun hc => ?_) (fun hc => ?_)
                      ·
                        have hc := of_decide_eq_true hc
                        refine sc_skip ?_
                        refine pn_then ?_
                        refine sc_seq ?_
                        refine sc_block ?_
                        refine sc_region ?_
                        refine st_v (ov_field (q := 9) rfl Tryd.underlying51 rfl sz33 rfl) rfl ?_
                        refine st_v (ov_load1 rfl Tryd.underlying33 rfl (midc_tail (hp.cells' (t := 18) rfl) hms8)) rfl ?_
                        refine st_v (ov_move rfl) rfl ?_
                        refine st_v (ov_move rfl) rfl ?_
                        refine st_v (ov_mul_n (a := 3) (b := i) rfl rfl (by omega)) rfl ?_
                        refine st_v (ov_move rfl) rfl ?_
                        refine st_v (ov_add_n (a := 3 * i) (b := k) rfl rfl (by omega)) rfl ?_
                        refine st_v (ov_add_n (a := (3 * i) + k) (b := 1) rfl rfl (by omega)) rfl ?_
                        refine st_v (ov_conv_n_8 (a := ((3 * i) + k) + 1) Tryd.underlying3 Tryd.underlying5 rfl) rfl ?_
                        obtain ⟨bb7, oo7, hadr7, hcl7⟩ := (Rd.own (hp.own 169 _ rfl)).pos (by simp; omega)
                        refine st_v (ov_indexR hadr7 rfl rfl Tryd.underlying33 sz5 (by omega)) rfl ?_
                        refine st_storeG 169 g169 hadr7 hp rfl rfl rfl (k) ⟨by omega, by first | omega | (simp; omega)⟩ rfl sz5 (fun w hp => ?_)
                        refine st_nil ?_
                        refine pn_block ?_
                        refine pn_then ?_
                        refine sc_region ?_
                        refine st_v (ov_move rfl) rfl ?_
                        refine st_v (ov_add_n (a := k) (b := 1) rfl rfl (by omega)) rfl ?_
                        refine st_v (ov_assign rfl) rfl ?_
                        refine st_nil ?_
                        refine pn_roundH2 (k + 1) (c.set k (UInt8.ofNat (3 * i + k + 1))) hp (Sub.cons rfl (Sub.cons rfl (Sub.cons rfl (Sub.cons rfl (Sub.cons rfl (Sub.cons rfl (Sub.cons rfl (Sub.cons rfl (Sub.cons rfl (Sub.nil _)))))))))) ?_ (LSub.cons rfl (LSub.cons rfl (LSub.cons rfl (LSub.cons rfl (LSub.cons rfl (LSub.cons rfl (LSub.nil _))))))) ?_
                        · omega
                        exact ⟨(by first | omega | (simp; done) | (simp; omega) | (simp [*]; omega)), (by simpa using hcl)⟩
                      ·
                        have hc := of_decide_eq_false hc
                        refine sc_exit ?_
                        refine pe_then ?_
                        refine pe_then ?_
                        refine pe_hit ?_
                        refine pn_then ?_
                        refine sc_seq ?_
                        refine sc_region ?_
                        refine st_v (ov_move rfl) rfl ?_
                        refine st_v (ov_move rfl) rfl ?_
                        refine st_v (ov_indexA rfl rfl Tryd.underlying67 sz52 (by omega)) rfl ?_
                        refine st_storeE 3 (u := rO bn 0 ms md mt tln gnil) hp rfl rfl rfl (t) (by first | omega | (simp; omega)) rfl sz52 (fun w hp => ?_)
                        refine st_nil ?_
                        refine pn_then ?_
                        refine sc_region ?_
                        refine st_v (ov_move rfl) rfl ?_
                        refine st_v (ov_move rfl) rfl ?_
                        refine st_v (ov_indexA rfl rfl Tryd.underlying68 sz55 (by omega)) rfl ?_
                        refine st_storeE 4 (u := rO 0 bq ms md mt [] gq) hp rfl rfl rfl (t) (by first | omega | (simp; omega)) rfl sz55 (fun w hp => ?_)
                        refine st_nil ?_
                        refine pn_block ?_
                        refine pn_block ?_
                        refine pn_then ?_
                        refine sc_region ?_
                        refine st_v (ov_move rfl) rfl ?_
                        refine st_v (ov_add_n (a := i) (b := 1) rfl rfl (by omega)) rfl ?_
                        refine st_v (ov_assign rfl) rfl ?_
                        refine st_nil ?_
                        rw [List.append_assoc] at hp
                        replace hp := hp.setX t (by omega) (rO bn bq ms md mt tln gq) (by unfold pks; rw [(rO_A bn bq 0 ms md mt tln gq gnil).1, (rO_B bn 0 bq ms md mt tln [] gq).1])
                        replace hp := hp.as (t := 3) rfl ((ps.set t (rO bn bq ms md mt tln gq)).map ptA) (map_set_eq (rO_A bn bq 0 ms md mt tln gq gnil).2.symm)
                        replace hp := hp.as (t := 4) rfl ((ps.set t (rO bn bq ms md mt tln gq)).map ptB) (map_set_eq (rO_B bn 0 bq ms md mt tln [] gq).2.symm)
                        obtain ⟨hok9, hln9⟩ := ok_resume (b := bn) (br := bq) hms8 hSn hcq
                        refine pn_roundX2 (i + 1) (ps.set t (rO bn bq ms md mt tln gq)) hp (Sub.cons rfl (Sub.cons rfl (Sub.cons rfl (Sub.cons rfl (Sub.nil _))))) ?_ (LSub.cons rfl (LSub.cons rfl (LSub.nil _))) rfl ?_
                        · omega
                        exact ⟨(by first | omega | (simp; done) | (simp; omega) | (simp [*]; omega)), (by simpa using hpl), (all_set hok hok9 _), (all_set (R := fun p => ∀ q, p = some q → q.text.length ≤ 64 + ((l.map dlen).take (i + 1)).sum) hlnS (fun q hq => Nat.le_trans (hln9 q hq) (by omega)) _)⟩
                  ·
                    have hc := of_decide_eq_false hc
                    refine sc_skip ?_
                    refine pn_block ?_
                    refine pn_block ?_
                    refine pn_then ?_
                    refine sc_region ?_
                    refine st_v (ov_move rfl) rfl ?_
                    refine st_v (ov_add_n (a := i) (b := 1) rfl rfl (by omega)) rfl ?_
                    refine st_v (ov_assign rfl) rfl ?_
                    refine st_nil ?_
                    refine pn_roundX2 (i + 1) ps hp (Sub.cons rfl (Sub.cons rfl (Sub.cons rfl (Sub.cons rfl (Sub.nil _))))) ?_ (LSub.cons rfl (LSub.cons rfl (LSub.nil _))) rfl ?_
                    · omega
                    exact ⟨(by first | omega | (simp; done) | (simp; omega) | (simp [*]; omega)), hpl, hok, hlnS⟩
  ·
    have hc := of_decide_eq_false hc
    refine sc_exit ?_
    refine pe_then ?_
    refine pe_then ?_
    refine pe_hit ?_
    refine pn_then ?_
    refine sc_seq ?_
    refine sc_region ?_
    refine st_v (ov_assign rfl) rfl ?_
    refine st_nil ?_
    refine pn_then ?_
    refine sc_ret ?_
    refine pr_one rfl rfl ?_
    exact ⟨rfl, hp.chg⟩

end Go.Proofs.YtcpbfnbfbladoaaDoor

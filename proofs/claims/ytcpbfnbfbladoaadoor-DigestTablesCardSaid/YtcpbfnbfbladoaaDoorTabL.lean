/-
  The walk of the law DigestTables.
-/
import Derived.Test.YtcpbfnbfbladoaaDoorTabC
import Derived.Test.YtcpbfnbfbladoaaDoorTabK
namespace Go.Proofs.YtcpbfnbfbladoaaDoor
open Go Go.RowKit

set_option maxRecDepth 100000 in
theorem law_tables (w0 : World) (hk : Cells w0 0 0 (kL.map B32)) (hf : Cells w0 1 0 (fL.map B32)) :
    Calls Tryd.prog 3 #[] w0 fun e w' => e = .returned (.bool true) ∧ Chg [] w0 w' := by
  refine calls_in Tryd.func3 Tryd.ntmps3 rfl rfl ?_
  have hp := Hp.start w0
  refine sc_seq ?_
  refine sc_region ?_
  refine st_v (ov_assign rfl) rfl ?_
  refine st_nil ?_
  refine pn_then ?_
  refine sc_seq ?_
  refine sc_region ?_
  refine st_call pl12 rfl rfl rfl (table_walk _ (hp.old hk (by simp)) (hp.old hf (by simp))) ?_
  rintro _ w ⟨rfl, hch⟩
  refine ⟨_, rfl, ?_⟩
  replace hp := hp.call hch
  clear hch
  refine st_v (ov_move rfl) rfl ?_
  refine st_v (ov_extract rfl rfl) rfl ?_
  refine st_v (ov_extract rfl rfl) rfl ?_
  refine st_alloc 1 ((List.replicate 64 (0 : UInt32)).map B32) hp rfl zl23 rfl (fun b1 w hp => ?_)
  refine st_alloc 2 ((List.replicate 8 (0 : UInt32)).map B32) hp rfl zl24 rfl (fun b2 w hp => ?_)
  refine st_storeA 1 hp rfl rfl rfl rfl (sz23.trans (by simp [kL_len])) (one_all _) (fun w hp => ?_)
  refine st_storeA 2 hp rfl rfl rfl rfl (sz24.trans (by simp; rfl)) (one_all _) (fun w hp => ?_)
  refine st_nil ?_
  refine pn_then ?_
  refine sc_seq ?_
  refine sc_region ?_
  refine st_v (ov_assign rfl) rfl ?_
  refine st_nil ?_
  refine pn_then ?_
  refine sc_seq ?_
  refine sc_seq ?_
  refine sc_region ?_
  refine st_v (ov_assign rfl) rfl ?_
  refine st_nil ?_
  refine pn_then ?_
  refine sc_block ?_
  refine sc_loopH2 (α := Nat) (β := Nat) (kv := []) (kl := [(2, _), (1, _)]) (fun i p kv => (4, .int .i64 ((i : Nat) : Int)) :: (3, .int .i64 ((p : Nat) : Int)) :: (1, .pointer (some ⟨b1, 0, none⟩)) :: (2, .pointer (some ⟨b2, 0, none⟩)) :: kv) (fun i p kl => kl) (fun i p => (i ≤ 64) ∧ (p = (if i = 0 then 1 else primeL.getD (i - 1) 0))) (fun i p => 64 - i) 0 1 hp (Sub.cons rfl (Sub.cons rfl (Sub.cons rfl (Sub.cons rfl (Sub.nil _))))) (LSub.cons rfl (LSub.cons rfl (LSub.nil _))) ?_ ?_
  · exact ⟨(by first | omega | (simp; done) | (simp; omega) | (simp [*]; omega)), rfl⟩
  intro i p w hp hx
  obtain ⟨hi, hP⟩ := hx
  refine sc_seq ?_
  refine sc_seq ?_
  refine sc_region ?_
  refine st_v (ov_move rfl) rfl ?_
  refine st_v (ov_lss rfl rfl) rfl ?_
  refine st_nil ?_
  refine pn_then ?_
  refine sc_cond rfl (fun hc => ?_) (fun hc => ?_)
  ·
    have hc := of_decide_eq_true hc
    obtain ⟨t1, t2⟩ := tables_next ⟨i, by omega⟩
    have t2 : primeL.getD i 0 < 1000 := t2
    have hkl := kL_len
    have hfl := fl_len
    have h1p : 1 ≤ p := by rw [hP]; exact tables_pos i (by omega)
    refine sc_skip ?_
    refine pn_then ?_
    refine sc_seq ?_
    refine sc_block ?_
    refine sc_seq ?_
    refine sc_region ?_
    refine st_v (ov_move rfl) rfl ?_
    refine st_call pl13 rfl rfl rfl (next_walk p (primeL.getD i 0) h1p t2 (by rw [hP]; exact t1) _) ?_
    rintro _ w ⟨rfl, hch⟩
    refine ⟨_, rfl, ?_⟩
    replace hp := hp.call hch
    clear hch
    refine st_v (ov_assign rfl) rfl ?_
    refine st_nil ?_
    refine pn_then ?_
    refine sc_seq ?_
    refine sc_seq ?_
    refine sc_region ?_
    refine st_v (ov_move rfl) rfl ?_
    refine st_v (ov_indexA rfl rfl Tryd.underlying23 sz22 (by omega)) rfl ?_
    refine st_v (ov_load1 rfl Tryd.underlying22 rfl (Cells.elem' (hp.cells' (t := 1) rfl) (i) (by first | omega | (simp; omega) | (simp [*]; omega)) 0)) rfl ?_
    refine st_v (ov_move rfl) rfl ?_
    refine st_call pl14 rfl rfl rfl (root_walk (kL.getD i 0) 3 (primeL.getD i 0) (by omega) (by omega) (tables_cube ⟨i, by omega⟩) _) ?_
    rintro _ w ⟨rfl, hch⟩
    refine ⟨_, rfl, ?_⟩
    replace hp := hp.call hch
    clear hch
    refine st_v (ov_not rfl) rfl ?_
    refine st_nil ?_
    refine pn_then ?_
    refine sc_false rfl ?_
    refine sc_skip ?_
    refine pn_then ?_
    refine sc_seq ?_
    refine sc_region ?_
    refine st_v (ov_move rfl) rfl ?_
    refine st_v (ov_lss rfl rfl) rfl ?_
    refine st_v (ov_move rfl) rfl ?_
    refine st_split (j := 23) rfl (fun hb => ?_) (fun hb => ?_)
    ·
      have hb := of_decide_eq_true hb
      refine st_on (j := 2) rfl rfl ?_
      refine st_v (ov_move rfl) rfl ?_
      refine st_on (j := 2) rfl rfl ?_
      refine st_v (ov_indexA rfl rfl Tryd.underlying24 sz22 (by omega)) rfl ?_
      refine st_on (j := 2) rfl rfl ?_
      refine st_v (ov_load1 rfl Tryd.underlying22 rfl (Cells.elem' (hp.cells' (t := 2) rfl) (i) (by first | omega | (simp; omega) | (simp [*]; omega)) 0)) rfl ?_
      refine st_on (j := 2) rfl rfl ?_
      refine st_v (ov_move rfl) rfl ?_
      refine st_on (j := 2) rfl rfl ?_
      refine st_call pl14 rfl rfl rfl (root_walk (fL.getD i 0) 2 (primeL.getD i 0) (by omega) (by omega) (tables_square ⟨i, by omega⟩) _) ?_
      rintro _ w ⟨rfl, hch⟩
      refine ⟨_, rfl, ?_⟩
      replace hp := hp.call hch
      clear hch
      refine st_on (j := 2) rfl rfl ?_
      refine st_v (ov_not rfl) rfl ?_
      refine st_v (ov_pick_t rfl rfl) rfl ?_
      refine st_nil ?_
      refine pn_then ?_
      refine sc_false rfl ?_
      refine sc_skip ?_
      refine pn_block ?_
      refine pn_then ?_
      refine sc_region ?_
      refine st_v (ov_move rfl) rfl ?_
      refine st_v (ov_add_n (a := i) (b := 1) rfl rfl (by omega)) rfl ?_
      refine st_v (ov_assign rfl) rfl ?_
      refine st_nil ?_
      refine pn_roundH2 (i + 1) (primeL.getD i 0) hp (Sub.cons rfl (Sub.cons rfl (Sub.cons rfl (Sub.cons rfl (Sub.nil _))))) ?_ (LSub.cons rfl (LSub.cons rfl (LSub.nil _))) ?_
      · omega
      exact ⟨(by first | omega | (simp; done) | (simp; omega) | (simp [*]; omega)), (by rw [if_neg (by omega)]; rfl)⟩
    ·
      have hb := of_decide_eq_false hb
      refine st_off (j := 2) rfl rfl rfl rfl ?_
      refine st_off (j := 2) rfl rfl rfl rfl ?_
      refine st_off (j := 2) rfl rfl rfl rfl ?_
      refine st_off (j := 2) rfl rfl rfl rfl ?_
      refine st_off (j := 2) rfl rfl rfl rfl ?_
      refine st_off (j := 2) rfl rfl rfl rfl ?_
      refine st_v (ov_pick_f rfl rfl) rfl ?_
      refine st_nil ?_
      refine pn_then ?_
      refine sc_false rfl ?_
      refine sc_skip ?_
      refine pn_block ?_
      refine pn_then ?_
      refine sc_region ?_
      refine st_v (ov_move rfl) rfl ?_
      refine st_v (ov_add_n (a := i) (b := 1) rfl rfl (by omega)) rfl ?_
      refine st_v (ov_assign rfl) rfl ?_
      refine st_nil ?_
      refine pn_roundH2 (i + 1) (primeL.getD i 0) hp (Sub.cons rfl (Sub.cons rfl (Sub.cons rfl (Sub.cons rfl (Sub.nil _))))) ?_ (LSub.cons rfl (LSub.cons rfl (LSub.nil _))) ?_
      · omega
      exact ⟨(by first | omega | (simp; done) | (simp; omega) | (simp [*]; omega)), (by rw [if_neg (by omega)]; rfl)⟩
  ·
    have hc := of_decide_eq_false hc
    refine sc_exit ?_
    refine pe_then ?_
    refine pe_then ?_
    refine pe_hit ?_
    refine pn_then ?_
    refine sc_seq ?_
    refine sc_region ?_
    refine st_v (ov_assign rfl) rfl ?_
    refine st_nil ?_
    refine pn_then ?_
    refine sc_ret ?_
    refine pr_one rfl rfl ?_
    exact ⟨rfl, hp.chg⟩

end Go.Proofs.YtcpbfnbfbladoaaDoor

/-
  The walk of take.
-/
import Derived.Test.YtjdolgfhcjnniaaDoorFoldA
namespace Go.Proofs.YtjdolgfhcjnniaaDoor
open Go Go.RowKit

set_option maxRecDepth 100000 in
theorem take_walk (bs done : Nat) (st0 st : List UInt32) (tl text : List UInt8) (b : List UInt8) (ao : Option Addr) (ca : Nat) (w0 : World) (hst0 : st0.length = 8) (hS : Stands st0 text st tl) (hdone : done % 64 = text.length % 64) (hB : Blk w0 ⟨some bs, strm st done tl, 124⟩)
    (h1 : Rd w0 ao (b.map B8)) (hca : b.length ≤ ca) (hne : Off bs ao (b.map B8)) (hz : done + b.length ≤ 4611686018427387904) (hk : Cells w0 1 0 (kL.map B32)) (hk0 : bs ≠ 1) :
    Calls Tryd.prog 92 #[.pointer (some ⟨bs, 0, none⟩), .slice ao b.length ca] w0 fun e w' => e = .returned (.tuple #[]) ∧ Chg [bs] w0 w' ∧ ∃ st' tl', Blk w' ⟨some bs, strm st' (done + b.length) tl', 124⟩ ∧ Stands st0 (text ++ b) st' tl' := by
  refine calls_in Tryd.func92 Tryd.ntmps92 rfl rfl ?_
  have hp : Hp w0 [bs] [(0, ⟨some bs, strm st done tl, 124⟩)] [] w0 := Hp.start1 hB
  have hstl : st.length = 8 := by rw [hS.state]; exact foldB_len _ _ hst0 _
  refine sc_seq ?_
  refine sc_region ?_
  refine st_v (ov_move rfl) rfl ?_
  refine st_v (ov_nilCheck rfl) rfl ?_
  refine st_v (ov_field (q := 8) rfl Tryd.underlying124 rfl sz3 rfl) rfl ?_
  refine st_v (ov_load1 rfl Tryd.underlying3 rfl (strm_done (hp.cells' (t := 0) rfl) hstl)) rfl ?_
  refine st_v (ov_rem_i64 rfl rfl (by omega)) rfl ?_
  have hat : ((done : Nat) : Int) % 64 = (((text.length + 0) % 64 : Nat) : Int) := by omega
  rw [hat]
  refine st_v (ov_assign rfl) rfl ?_
  refine st_nil ?_
  refine pn_then ?_
  refine sc_seq ?_
  refine sc_region ?_
  refine st_v (ov_move rfl) rfl ?_
  refine st_v (ov_nilCheck rfl) rfl ?_
  refine st_v (ov_field (q := 8) rfl Tryd.underlying124 rfl sz3 rfl) rfl ?_
  refine st_v (ov_load1 rfl Tryd.underlying3 rfl (strm_done (hp.cells' (t := 0) rfl) hstl)) rfl ?_
  refine st_v (ov_move rfl) rfl ?_
  refine st_v (ov_len rfl Tryd.underlying24 rfl) rfl ?_
  refine st_v (ov_add_i64 rfl rfl (by omega)) rfl ?_
  refine st_v (ov_nilCheck rfl) rfl ?_
  refine st_v (ov_field (q := 8) rfl Tryd.underlying124 rfl sz3 rfl) rfl ?_
  refine st_storeM 0 (st.map B32) [Value.int .i64 ((done : Nat) : Int)] (tl.map B8) (new := [Value.int .i64 (((done : Nat) : Int) + ((b.length : Nat) : Int))]) hp rfl rfl rfl rfl (by simp [hstl]) rfl sz3 (by simp [Value.oneCell']) (fun w hp => ?_)
  rw [show ((done : Nat) : Int) + ((b.length : Nat) : Int) = ((done + b.length : Nat) : Int) by omega] at hp
  refine st_nil ?_
  refine pn_then ?_
  refine sc_block ?_
  refine sc_loop5 (α := Nat) (β := Option Addr) (γ := Nat) (δ := List UInt32) (ε := List UInt8) 0 ao ca st tl (fun i ao' ca' st' tl' => [(0, .pointer (some ⟨bs, 0, none⟩)), (1, .slice ao' (b.length - i) ca'), (4, .int .i64 (((text.length + i) % 64 : Nat) : Int))]) (fun i ao' ca' st' tl' w => Hp w0 [bs] [(0, ⟨some bs, strm st' (done + b.length) tl', 124⟩)] [] w ∧ i ≤ b.length ∧ Rd w0 ao' ((b.drop i).map B8) ∧ b.length - i ≤ ca' ∧ Off bs ao' ((b.drop i).map B8) ∧ Stands st0 (text ++ b.take i) st' tl') (fun i ao' ca' st' tl' => b.length - i) ?_ ?_ ?_
  · exact (Sub.cons rfl (Sub.cons rfl (Sub.cons rfl (Sub.nil _))))
  · exact ⟨hp.sub (lsub_cons rfl (lsub_nil _)), by omega, by simpa using h1, by omega, by simpa using hne, by simpa using hS⟩
  intro i ao' ca' st' tl' w hw
  obtain ⟨hp, hi, hR, hca', hne', hS'⟩ := hw
  have hstl' : st'.length = 8 := by rw [hS'.state]; exact foldB_len _ _ hst0 _
  have htl' := hS'.len
  obtain ⟨q, hq⟩ : ∃ q, (text.length + i) % 64 = q := ⟨_, rfl⟩
  have hq64 : q < 64 := by omega
  rw [hq]
  have hlen' : (text ++ b.take i).length % 64 = q := by rw [List.length_append, List.length_take, Nat.min_eq_left hi]; exact hq
  refine sc_seq ?_
  refine sc_seq ?_
  refine sc_region ?_
  refine st_v (ov_move rfl) rfl ?_
  refine st_v (ov_len rfl Tryd.underlying24 rfl) rfl ?_
  refine st_v (ov_gtr rfl rfl) rfl ?_
  refine st_nil ?_
  refine pn_then ?_
  refine sc_cond rfl (fun hc => ?_) (fun hc => ?_)
  ·
    have hc := of_decide_eq_true hc
    obtain ⟨n, hn⟩ : ∃ n, n = min (b.length - i) (64 - q) := ⟨_, rfl⟩
    have hR2 : Rd w0 (sla ao' ca' n 1) ((b.drop (i + n)).map B8) := by
      have := hR.drop (cap := ca') (l := n) (s := 1) (len := b.length - i) (by simp) (by omega)
      rwa [Nat.mul_one, ← List.map_drop, List.drop_drop] at this
    have hO2 : Off bs (sla ao' ca' n 1) ((b.drop (i + n)).map B8) := by
      have := hne'.sla (cap := ca') (l := n) (s := 1) n
      rwa [← List.map_drop, List.drop_drop] at this
    have hnl : ((b.drop i).take n).length = n := by simp; omega
    refine sc_skip ?_
    refine pn_then ?_
    refine sc_block ?_
    refine sc_seq ?_
    refine sc_region ?_
    refine st_v (ov_move rfl) rfl ?_
    refine st_v (ov_nilCheck rfl) rfl ?_
    refine st_v (ov_field (q := 9) rfl Tryd.underlying124 rfl sz118 rfl) rfl ?_
    refine st_v (ov_move rfl) rfl ?_
    refine st_v (ov_sliceA_lo Tryd.underlying118 sz5 rfl rfl (by omega)) rfl ?_
    rw [Int.toNat_natCast]
    refine st_v (ov_move rfl) rfl ?_
    refine st_copy 0 (cs' := strm st' (done + b.length) (put tl' ((b.drop i).take n) q)) (news := ((b.drop i).take n).map B8) (m := n) (off := 9 + q) (n' := ((n : Nat) : Int)) hp rfl rfl rfl rfl rfl Tryd.underlying24 sz5 hn (fun _ => by unfold sla; rw [if_neg (by omega)]; simp [add_at]) (by rw [List.map_take]; exact (hR.chgS hp.chg hne').take n) (by simp; omega) (one_all _) (by simp [hstl', htl']; omega) (by have h9 := strm_put (d := done + b.length) (tl := tl') (news := (b.drop i).take n) (q := q) hstl' (by omega); rw [hnl] at h9; exact h9) rfl (fun w hp => ?_)
    refine st_v (ov_assign rfl) rfl ?_
    refine st_nil ?_
    refine pn_then ?_
    refine sc_seq ?_
    refine sc_region ?_
    refine st_v (ov_move rfl) rfl ?_
    refine st_v (ov_move rfl) rfl ?_
    refine st_v (ov_slice_lo Tryd.underlying24 sz5 rfl rfl (by omega)) rfl ?_
    rw [Int.toNat_natCast]
    refine st_v (ov_assign rfl) rfl ?_
    refine st_nil ?_
    refine pn_then ?_
    refine sc_seq ?_
    refine sc_region ?_
    refine st_v (ov_move rfl) rfl ?_
    refine st_v (ov_move rfl) rfl ?_
    refine st_v (ov_add_i64 rfl rfl (by omega)) rfl ?_
    refine st_v (ov_assign rfl) rfl ?_
    refine st_nil ?_
    refine pn_then ?_
    refine sc_seq ?_
    refine sc_region ?_
    refine st_v (ov_move rfl) rfl ?_
    refine st_v (ov_eql rfl rfl) rfl ?_
    refine st_nil ?_
    refine pn_then ?_
    refine sc_cond rfl (fun hc => ?_) (fun hc => ?_)
    ·
      have hc := of_decide_eq_true hc
      refine sc_seq ?_
      have hpl := put_len (tail := tl') (news := (b.drop i).take n) (at_ := q) (by omega)
      refine sc_plan (fun w => Hp w0 [bs] [(0, ⟨some bs, strm st' (done + b.length) (put tl' ((b.drop i).take n) q), 124⟩)] [] w) [0, 1, 2, 3, 4, 5, 6, 7, 8, 10, 11] [] (.take 0 (.take 1 (.take 2 (.take 3 (.load 4 (.take 5 (.take 6 (.take 7 (.load 8 (.one 9 (.take 10 (.take 11 (.one 12 .nil))))))))))))) (by kernel_rfl) (by kernel_rfl) (by repeat (first | exact calm_body _ _ _ | refine calm_then ?_ | refine calm_block ?_)) ?_
      replace hp := hp.drew
      refine sp_take rfl (fun w => ov_move rfl) rfl ?_
      refine sp_take rfl (fun w => ov_move rfl) rfl ?_
      refine sp_take rfl (fun w => ov_nilCheck rfl) rfl ?_
      refine sp_take rfl (fun w => ov_field (q := 0) rfl Tryd.underlying124 rfl sz122 rfl) rfl ?_
      refine sp_load rfl (hp.sub (lsub_cons rfl (lsub_nil _))) (fun w hp => ov_loadN rfl Tryd.underlying122 rfl (sz122.trans (by simp [hstl'])) (hp.cells' (t := 0) rfl).left) rfl ?_
      refine sp_take rfl (fun w => ov_move rfl) rfl ?_
      refine sp_take rfl (fun w => ov_nilCheck rfl) rfl ?_
      refine sp_take rfl (fun w => ov_field (q := 9) rfl Tryd.underlying124 rfl sz118 rfl) rfl ?_
      refine sp_load rfl (hp.sub (lsub_cons rfl (lsub_nil _))) (fun w hp => ov_loadN rfl Tryd.underlying118 rfl (sz118.trans (by simp [hpl, htl'])) (strm_tail (hp.cells' (t := 0) rfl) hstl')) rfl ?_
      refine sp_one rfl ?_
      refine st_call pl101 rfl rfl rfl (comp_walk _ _ hstl' (hpl.trans htl') _ (hp.old hk (by simpa using Ne.symm hk0))) ?_
      rintro _ w ⟨rfl, hch⟩
      refine ⟨_, rfl, ?_⟩
      replace hp := hp.call hch
      clear hch
      refine st_nil ?_
      refine sp_next (i := 9) (fun h => absurd h (by decide)) ?_
      refine sp_take rfl (fun w => ov_nilCheck rfl) rfl ?_
      refine sp_take rfl (fun w => ov_field (q := 0) rfl Tryd.underlying124 rfl sz122 rfl) rfl ?_
      refine sp_one rfl ?_
      refine st_storeM 0 [] (st'.map B32) (Value.int .i64 ((done + b.length : Nat) : Int) :: (put tl' ((b.drop i).take n) q).map B8) (new := (compress st' (put tl' ((b.drop i).take n) q)).map B32) hp rfl rfl rfl rfl rfl (by simp [hstl', compress_len]) (sz122.trans (by simp [compress_len])) (one_all _) (fun w hp => ?_)
      refine st_nil ?_
      refine sp_next (i := 12) (fun h => absurd h (by decide)) ?_
      refine sp_nil ?_
      refine pn_then ?_
      refine sc_region ?_
      refine st_v (ov_assign rfl) rfl ?_
      refine st_nil ?_
      refine pn_block ?_
      have hq2 : (0 : Int) = (((text.length + (i + n)) % 64 : Nat) : Int) := by omega
      rw [hq2, show b.length - i - n = b.length - (i + n) by omega]
      refine pn_round5 (i + n) (sla ao' ca' n 1) (ca' - n) (compress st' (put tl' ((b.drop i).take n) q)) (put tl' ((b.drop i).take n) q) ?_ ?_ ?_
      · exact (Sub.cons rfl (Sub.cons rfl (Sub.cons rfl (Sub.nil _))))
      · omega
      ·
        have hS2 := stands_full (news := (b.drop i).take n) hS' (by rw [hlen']; simp; omega)
        rw [hlen', List.append_assoc, ← take_more b i n] at hS2
        exact ⟨hp.sub (lsub_cons rfl (lsub_nil _)), by omega, hR2, by omega, hO2, hS2⟩
    ·
      have hc := of_decide_eq_false hc
      refine sc_skip ?_
      refine pn_block ?_
      have hq2 : ((q : Nat) : Int) + ((n : Nat) : Int) = (((text.length + (i + n)) % 64 : Nat) : Int) := by omega
      rw [hq2, show b.length - i - n = b.length - (i + n) by omega]
      refine pn_round5 (i + n) (sla ao' ca' n 1) (ca' - n) st' (put tl' ((b.drop i).take n) q) ?_ ?_ ?_
      · exact (Sub.cons rfl (Sub.cons rfl (Sub.cons rfl (Sub.nil _))))
      · omega
      ·
        have hS2 := stands_less (news := (b.drop i).take n) hS' (by rw [hlen']; simp; omega)
        rw [hlen', List.append_assoc, ← take_more b i n] at hS2
        exact ⟨hp.sub (lsub_cons rfl (lsub_nil _)), by omega, hR2, by omega, hO2, hS2⟩
  ·
    have hc := of_decide_eq_false hc
    refine sc_exit ?_
    refine pe_then ?_
    refine pe_then ?_
    refine pe_hit ?_
    refine pn_end ?_
    refine pr_none rfl ?_
    have hib : i = b.length := by omega
    subst hib
    rw [List.take_length] at hS'
    exact ⟨rfl, hp.chg, st', tl', hp.own 0 _ rfl, hS'⟩

end Go.Proofs.YtjdolgfhcjnniaaDoor

/-
  The walks of power, node, layer.
-/
import Derived.Test.YtjdolgfhcjnniaaDoorLeaA
import Derived.Test.YtjdolgfhcjnniaaDoorLayP
import Derived.Test.YtjdolgfhcjnniaaDoorHgtA
namespace Go.Proofs.YtjdolgfhcjnniaaDoor
open Go Go.RowKit

set_option maxRecDepth 100000 in
theorem power_walk (n : Nat) (hn : n ≤ 62) (w0 : World) :
    Calls Tryd.prog 90 #[.int .i64 (n : Int)] w0 fun e w' => e = .returned (.int .i64 ((2 ^ n : Nat) : Int)) ∧ Chg [] w0 w' := by
  refine calls_in Tryd.func90 Tryd.ntmps90 rfl rfl ?_
  have hp := Hp.start w0
  refine sc_seq ?_
  refine sc_region ?_
  refine st_v (ov_assign rfl) rfl ?_
  refine st_nil ?_
  refine pn_then ?_
  refine sc_seq ?_
  refine sc_region ?_
  refine st_v (ov_assign rfl) rfl ?_
  refine st_nil ?_
  refine pn_then ?_
  refine sc_seq ?_
  refine sc_seq ?_
  refine sc_region ?_
  refine st_v (ov_assign rfl) rfl ?_
  refine st_nil ?_
  refine pn_then ?_
  refine sc_block ?_
  refine sc_loopH1 (α := Nat) (kv := [(0, _)]) (kl := []) (fun i kv => (4, .int .i64 ((i : Nat) : Int)) :: (3, .int .i64 ((2 ^ i : Nat) : Int)) :: kv) (fun i kl => kl) (fun i => (i ≤ n)) (fun i => n - i) 0 hp (Sub.cons rfl (Sub.cons rfl (Sub.cons rfl (Sub.nil _)))) (LSub.nil _) ?_ ?_
  · exact (by first | omega | (simp; done) | (simp; omega) | (simp [*]; omega))
  intro i w hp hx
  have hi : i ≤ n := hx
  refine sc_seq ?_
  refine sc_seq ?_
  refine sc_region ?_
  refine st_v (ov_move rfl) rfl ?_
  refine st_v (ov_move rfl) rfl ?_
  refine st_v (ov_lss rfl rfl) rfl ?_
  refine st_nil ?_
  refine pn_then ?_
  refine sc_cond rfl (fun hc => ?_) (fun hc => ?_)
  ·
    have hc := of_decide_eq_true hc
    have hpw : 2 ^ i ≤ 4611686018427387903 := Nat.le_trans (Nat.pow_le_pow_right (by omega) (by omega : i ≤ 61)) (by decide)
    refine sc_skip ?_
    refine pn_then ?_
    refine sc_seq ?_
    refine sc_block ?_
    refine sc_region ?_
    refine st_v (ov_move rfl) rfl ?_
    refine st_v (ov_mul_n (a := 2) (b := 2 ^ i) rfl rfl (by omega)) rfl ?_
    rw [show 2 * 2 ^ i = 2 ^ (i + 1) by rw [Nat.pow_succ, Nat.mul_comm]]
    refine st_v (ov_assign rfl) rfl ?_
    refine st_nil ?_
    refine pn_block ?_
    refine pn_then ?_
    refine sc_region ?_
    refine st_v (ov_move rfl) rfl ?_
    refine st_v (ov_add_n (a := i) (b := 1) rfl rfl (by omega)) rfl ?_
    refine st_v (ov_assign rfl) rfl ?_
    refine st_nil ?_
    refine pn_roundH1 (i + 1) hp (Sub.cons rfl (Sub.cons rfl (Sub.cons rfl (Sub.nil _)))) ?_ (LSub.nil _) ?_
    · omega
    exact (by first | omega | (simp; done) | (simp; omega) | (simp [*]; omega))
  ·
    have hc := of_decide_eq_false hc
    obtain rfl : i = n := by omega
    refine sc_exit ?_
    refine pe_then ?_
    refine pe_then ?_
    refine pe_hit ?_
    refine pn_then ?_
    refine sc_seq ?_
    refine sc_region ?_
    refine st_v (ov_move rfl) rfl ?_
    refine st_v (ov_assign rfl) rfl ?_
    refine st_nil ?_
    refine pn_then ?_
    refine sc_ret ?_
    refine pr_one rfl rfl ?_
    exact ⟨rfl, hp.chg⟩

set_option maxRecDepth 100000 in
theorem node_step (B W : Int) (row : List Hs) {nr : Nat} (ao : Option Addr) (ca f k i : Nat) (w0 : World) (h1 : Rd w0 ao (row.flatMap hcs)) (hr : row.length = nr) (hz : row.length ≤ 1099511627776) (hk : k ≤ 48) (hf : f + k ≤ 1048576) (hi : (i + 1) * 2 ^ k ≤ 4398046511104)
    (ih : ∀ j i w, j < k → Rd w ao (row.flatMap hcs) → (i + 1) * 2 ^ j ≤ 4398046511104 → Calls Tryd.prog 72 #[sca B W, .slice ao nr ca, .int .i64 ((f : Nat) : Int), .int .i64 ((f + j : Nat) : Int), .int .i64 ((i : Nat) : Int)] w fun e w' => e = .returned (.agg (hcs (nodeL B W f row j i)).toArray) ∧ Chg [] w w') :
    Calls Tryd.prog 72 #[sca B W, .slice ao nr ca, .int .i64 ((f : Nat) : Int), .int .i64 ((f + k : Nat) : Int), .int .i64 ((i : Nat) : Int)] w0 fun e w' => e = .returned (.agg (hcs (nodeL B W f row k i)).toArray) ∧ Chg [] w0 w' := by
  refine calls_in Tryd.func72 Tryd.ntmps72 rfl rfl ?_
  have hp := Hp.start w0
  subst hr
  obtain ⟨P, hP⟩ : ∃ P, P = 2 ^ k := ⟨_, rfl⟩
  have hP0 : 1 ≤ P := by rw [hP]; exact Nat.two_pow_pos _
  have hi2 : i * P + P ≤ 4398046511104 := by rw [hP, ← Nat.succ_mul]; exact hi
  have hib : i ≤ i * P := Nat.le_mul_of_pos_right i hP0
  refine sc_seq ?_
  refine sc_region ?_
  refine st_box 5 hp rfl rfl rfl (fun b5 w hp => ?_)
  refine st_alloc 10 (hcs hz0) hp rfl zl34 rfl (fun b10 w hp => ?_)
  refine st_nil ?_
  refine pn_then ?_
  refine sc_seq ?_
  refine sc_seq ?_
  refine sc_region ?_
  refine st_v (ov_move rfl) rfl ?_
  refine st_v (ov_move rfl) rfl ?_
  refine st_v (ov_move rfl) rfl ?_
  refine st_v (ov_sub_n (a := f + k) (b := f) rfl rfl (by omega)) rfl ?_
  rw [Nat.add_sub_cancel_left]
  refine st_call pl90 rfl rfl rfl (power_walk k (by omega) _) ?_
  rintro _ w ⟨rfl, hch⟩
  refine ⟨_, rfl, ?_⟩
  replace hp := hp.call hch
  clear hch
  rw [← hP]
  refine st_v (ov_mul_n (a := i) (b := P) rfl rfl (by omega)) rfl ?_
  refine st_v (ov_move rfl) rfl ?_
  refine st_v (ov_len rfl Tryd.underlying26 rfl) rfl ?_
  refine st_v (ov_geq rfl rfl) rfl ?_
  refine st_nil ?_
  refine pn_then ?_
  refine sc_cond rfl (fun hc => ?_) (fun hc => ?_)
  ·
    have hc := of_decide_eq_true hc
    refine sc_seq ?_
    refine sc_region ?_
    refine st_v (ov_loadN rfl Tryd.underlying23 rfl (sz23.trans rfl) (hp.cells' (t := 5) rfl)) rfl ?_
    refine st_v (ov_move rfl) rfl ?_
    refine st_call pl62 rfl rfl rfl (zero_walk B W (f + k) (by omega) _) ?_
    rintro _ w ⟨rfl, hch⟩
    refine ⟨_, rfl, ?_⟩
    replace hp := hp.call hch
    clear hch
    refine st_storeA 10 hp rfl rfl rfl (by simp [hcs_len]) (sz34.trans (by simp [hcs_len])) (hcs_one _) (fun w hp => ?_)
    refine st_nil ?_
    refine pn_then ?_
    refine sc_ret ?_
    refine pr_then ?_
    refine pr_rv1 rfl (rv_cells rfl Tryd.underlying34 rfl (sz34.trans (by simp [hcs_len])) (hp.cells' (t := 10) rfl)) ?_
    exact ⟨by rw [node_out (by rw [← hP]; omega)], hp.chg⟩
  ·
    have hc := of_decide_eq_false hc
    refine sc_skip ?_
    refine pn_then ?_
    refine sc_seq ?_
    refine sc_seq ?_
    refine sc_region ?_
    refine st_v (ov_move rfl) rfl ?_
    refine st_v (ov_move rfl) rfl ?_
    refine st_v (ov_eql rfl rfl) rfl ?_
    refine st_nil ?_
    refine pn_then ?_
    refine sc_cond rfl (fun hc => ?_) (fun hc => ?_)
    ·
      have hc := of_decide_eq_true hc
      obtain rfl : k = 0 := by omega
      obtain rfl : P = 1 := by simpa using hP
      have hil : i < row.length := by omega
      refine sc_seq ?_
      refine sc_region ?_
      refine st_v (ov_move rfl) rfl ?_
      refine st_v (ov_move rfl) rfl ?_
      obtain ⟨bb1, oo1, hadr1, hcl1⟩ := ((h1.chg hp.chg)).pos (by rw [flat_len hcs_len]; omega)
      refine st_v (ov_indexR hadr1 rfl rfl Tryd.underlying26 sz34 (by omega)) rfl ?_
      refine st_v (ov_loadN rfl Tryd.underlying34 rfl (sz34.trans (by simp [hcs_len])) (hcl1.elemN hcs_len (i) ⟨by rfl, by omega⟩ hz0)) rfl ?_
      refine st_storeA 10 hp rfl rfl rfl (by simp [hcs_len]) (sz34.trans (by simp [hcs_len])) (hcs_one _) (fun w hp => ?_)
      refine st_nil ?_
      refine pn_then ?_
      refine sc_ret ?_
      refine pr_then ?_
      refine pr_rv1 rfl (rv_cells rfl Tryd.underlying34 rfl (sz34.trans (by simp [hcs_len])) (hp.cells' (t := 10) rfl)) ?_
      exact ⟨by simp only [nodeL]; rw [List.getD, List.getD, List.getElem?_eq_getElem hil]; rfl, hp.chg⟩
    ·
      have hc := of_decide_eq_false hc
      obtain ⟨j, rfl⟩ : ∃ j, k = j + 1 := ⟨k - 1, by omega⟩
      have hb2 : (2 * i + 1 + 1) * 2 ^ j ≤ 4398046511104 := by rw [show 2 * i + 1 + 1 = 2 * (i + 1) by omega, two_mul_pow]; exact hi
      have hb1 : (2 * i + 1) * 2 ^ j ≤ 4398046511104 := Nat.le_trans (Nat.mul_le_mul_right _ (by omega)) hb2
      refine sc_skip ?_
      refine pn_then ?_
      refine sc_seq ?_
      refine sc_region ?_
      refine st_v (ov_loadN rfl Tryd.underlying23 rfl (sz23.trans rfl) (hp.cells' (t := 5) rfl)) rfl ?_
      refine st_v (ov_move rfl) rfl ?_
      refine st_v (ov_move rfl) rfl ?_
      refine st_v (ov_move rfl) rfl ?_
      refine st_v (v := .int .i64 ((f + j : Nat) : Int)) ((ov_sub_i64 rfl rfl (by omega)).is (congrArg (Value.int .i64) (by omega))) rfl ?_
      refine st_v (ov_move rfl) rfl ?_
      refine st_v (ov_mul_n (a := 2) (b := i) rfl rfl (by omega)) rfl ?_
      refine st_call pl72 rfl rfl rfl (ih j (2 * i) _ (by omega) (h1.chg hp.chg) hb1) ?_
      rintro _ w ⟨rfl, hch⟩
      refine ⟨_, rfl, ?_⟩
      replace hp := hp.call hch
      clear hch
      refine st_alloc 11 (hcs hz0) hp rfl zl34 rfl (fun b11 w hp => ?_)
      refine st_storeA 11 hp rfl rfl rfl (by simp [hcs_len]) (sz34.trans (by simp [hcs_len])) (hcs_one _) (fun w hp => ?_)
      refine st_nil ?_
      refine pn_then ?_
      refine sc_seq ?_
      refine sc_region ?_
      refine st_v (ov_loadN rfl Tryd.underlying23 rfl (sz23.trans rfl) (hp.cells' (t := 5) rfl)) rfl ?_
      refine st_v (ov_move rfl) rfl ?_
      refine st_v (ov_move rfl) rfl ?_
      refine st_v (ov_move rfl) rfl ?_
      refine st_v (v := .int .i64 ((f + j : Nat) : Int)) ((ov_sub_i64 rfl rfl (by omega)).is (congrArg (Value.int .i64) (by omega))) rfl ?_
      refine st_v (ov_move rfl) rfl ?_
      refine st_v (ov_mul_n (a := 2) (b := i) rfl rfl (by omega)) rfl ?_
      refine st_v (ov_add_n (a := 2 * i) (b := 1) rfl rfl (by omega)) rfl ?_
      refine st_call pl72 rfl rfl rfl (ih j (2 * i + 1) _ (by omega) (h1.chg hp.chg) hb2) ?_
      rintro _ w ⟨rfl, hch⟩
      refine ⟨_, rfl, ?_⟩
      replace hp := hp.call hch
      clear hch
      refine st_alloc 12 (hcs hz0) hp rfl zl34 rfl (fun b12 w hp => ?_)
      refine st_storeA 12 hp rfl rfl rfl (by simp [hcs_len]) (sz34.trans (by simp [hcs_len])) (hcs_one _) (fun w hp => ?_)
      refine st_nil ?_
      refine pn_then ?_
      refine sc_seq ?_
      refine sc_region ?_
      refine st_v (ov_loadN rfl Tryd.underlying23 rfl (sz23.trans rfl) (hp.cells' (t := 5) rfl)) rfl ?_
      refine st_v (ov_loadN rfl Tryd.underlying34 rfl (sz34.trans (by simp [hcs_len])) (hp.cells' (t := 11) rfl)) rfl ?_
      refine st_v (ov_loadN rfl Tryd.underlying34 rfl (sz34.trans (by simp [hcs_len])) (hp.cells' (t := 12) rfl)) rfl ?_
      refine st_call pl65 rfl rfl rfl (pair_walk B W _ _ _) ?_
      rintro _ w ⟨rfl, hch⟩
      refine ⟨_, rfl, ?_⟩
      replace hp := hp.call hch
      clear hch
      refine st_storeA 10 hp rfl rfl rfl (by simp [hcs_len]) (sz34.trans (by simp [hcs_len])) (hcs_one _) (fun w hp => ?_)
      refine st_nil ?_
      refine pn_then ?_
      refine sc_ret ?_
      refine pr_rv1 rfl (rv_cells rfl Tryd.underlying34 rfl (sz34.trans (by simp [hcs_len])) (hp.cells' (t := 10) rfl)) ?_
      exact ⟨by rw [node_in (by rw [← hP]; omega)], hp.chg⟩

theorem node_walk (B W : Int) (row : List Hs) {nr : Nat} (ao : Option Addr) (ca f : Nat) (hr : row.length = nr) (hz : row.length ≤ 1099511627776) : ∀ (k i : Nat) (w0 : World) (h1 : Rd w0 ao (row.flatMap hcs)) (hk : k ≤ 48) (hf : f + k ≤ 1048576) (hi : (i + 1) * 2 ^ k ≤ 4398046511104),
    Calls Tryd.prog 72 #[sca B W, .slice ao nr ca, .int .i64 ((f : Nat) : Int), .int .i64 ((f + k : Nat) : Int), .int .i64 ((i : Nat) : Int)] w0 fun e w' => e = .returned (.agg (hcs (nodeL B W f row k i)).toArray) ∧ Chg [] w0 w'  := by
  intro k
  induction k using Nat.strongRecOn with
  | _ k ih => intro i w0 h1 hk hf hi; exact node_step B W row ao ca f k i w0 h1 hr hz hk hf hi fun j i w hj h1 hb => ih j hj i w h1 (by omega) (by omega) hb

set_option maxRecDepth 100000 in
theorem layerq_walk (B W : Int) (row : List Hs) {nr : Nat} (ao : Option Addr) (ca f k : Nat) (w0 : World) (h1 : Rd w0 ao (row.flatMap hcs)) (hr : row.length = nr) (hz : row.length ≤ 1048576) (hk : k ≤ 40) (hf : f + k ≤ 1048576) :
    Calls Tryd.prog 68 #[sca B W, .slice ao nr ca, .int .i64 ((f : Nat) : Int), .int .i64 ((f + k : Nat) : Int)] w0 fun e w' => ∃ g : Gs, e = .returned (.slice (adr g.ob) (layL B W f row k).length g.cap) ∧ Mk w0 w' 34 32 ((layL B W f row k).flatMap hcs) g := by
  refine calls_in Tryd.func68 Tryd.ntmps68 rfl rfl ?_
  have hp := Hp.start w0
  subst hr
  obtain ⟨P, hP⟩ : ∃ P, P = 2 ^ k := ⟨_, rfl⟩
  have hpk : P ≤ 1099511627776 := by rw [hP]; exact Nat.le_trans (Nat.pow_le_pow_right (by omega) hk) (by decide)
  have hll := lay_le B W f row k
  refine sc_seq ?_
  refine sc_region ?_
  refine st_box 4 hp rfl rfl rfl (fun b4 w hp => ?_)
  refine st_v (ov_assign rfl) rfl ?_
  refine st_nil ?_
  refine pn_then ?_
  refine sc_seq ?_
  refine sc_region ?_
  refine st_v (ov_assign rfl) rfl ?_
  replace hp := hp.nil 9 34
  refine st_nil ?_
  refine pn_then ?_
  refine sc_seq ?_
  refine sc_region ?_
  refine st_v (ov_move rfl) rfl ?_
  refine st_v (ov_move rfl) rfl ?_
  refine st_v (ov_sub_n (a := f + k) (b := f) rfl rfl (by omega)) rfl ?_
  rw [Nat.add_sub_cancel_left]
  refine st_call pl90 rfl rfl rfl (power_walk k (by omega) _) ?_
  rintro _ w ⟨rfl, hch⟩
  refine ⟨_, rfl, ?_⟩
  replace hp := hp.call hch
  clear hch
  rw [← hP]
  refine st_v (ov_assign rfl) rfl ?_
  refine st_nil ?_
  refine pn_then ?_
  refine sc_seq ?_
  refine sc_seq ?_
  refine sc_region ?_
  refine st_v (ov_assign rfl) rfl ?_
  refine st_nil ?_
  refine pn_then ?_
  refine sc_block ?_
  refine sc_loopH2 (α := Nat) (β := Gs) (kv := [(1, _), (2, _), (3, _), (4, _), (10, _)]) (kl := [(4, _)]) (fun i h kv => (11, .int .i64 ((i : Nat) : Int)) :: (9, .slice (adr h.ob) (i) h.cap) :: kv) (fun i h kl => (9, ⟨h.ob, ((layL B W f row k).take i).flatMap hcs ++ h.sp, 34⟩) :: kl) (fun i h => (i ≤ (layL B W f row k).length) ∧ ((((layL B W f row k).take i).flatMap hcs ++ h.sp).length = h.cap * 32)) (fun i h => (layL B W f row k).length - i) 0 gnil hp (Sub.cons rfl (Sub.cons rfl (Sub.cons rfl (Sub.cons rfl (Sub.cons rfl (Sub.cons rfl (Sub.cons rfl (Sub.nil _)))))))) (LSub.cons rfl (LSub.cons rfl (LSub.nil _))) ?_ ?_
  · exact ⟨(by first | omega | (simp; done) | (simp; omega) | (simp [*]; omega)), rfl⟩
  intro i h w hp hx
  obtain ⟨hi, hch⟩ := hx
  have him := lay_mul B W f row k i hi
  rw [← hP] at him
  refine sc_seq ?_
  refine sc_seq ?_
  refine sc_region ?_
  refine st_v (ov_move rfl) rfl ?_
  refine st_v (ov_move rfl) rfl ?_
  refine st_v (ov_mul_n (a := i) (b := P) rfl rfl (by omega)) rfl ?_
  refine st_v (ov_move rfl) rfl ?_
  refine st_v (ov_len rfl Tryd.underlying26 rfl) rfl ?_
  refine st_v (ov_lss rfl rfl) rfl ?_
  refine st_nil ?_
  refine pn_then ?_
  refine sc_cond rfl (fun hc => ?_) (fun hc => ?_)
  ·
    have hc := of_decide_eq_true hc
    have hil := (lay_lt B W f row k i).2 (by rw [← hP]; omega)
    have hnl : nodeL B W f row k i = (layL B W f row k).getD i hz0 := by rw [node_lay, List.getD, List.getD, List.getElem?_eq_getElem hil]; rfl
    refine sc_skip ?_
    refine pn_then ?_
    refine sc_seq ?_
    refine sc_block ?_
    refine sc_seq ?_
    refine sc_region ?_
    refine st_v (ov_loadN rfl Tryd.underlying23 rfl (sz23.trans rfl) (hp.cells' (t := 4) rfl)) rfl ?_
    refine st_v (ov_move rfl) rfl ?_
    refine st_v (ov_move rfl) rfl ?_
    refine st_v (ov_move rfl) rfl ?_
    refine st_v (ov_move rfl) rfl ?_
    refine st_call pl72 rfl rfl rfl (node_walk B W row _ _ f rfl (by omega) k i _ (h1.chg hp.chg) (by omega) hf (by rw [← hP, Nat.succ_mul]; omega)) ?_
    rintro _ w ⟨rfl, hch⟩
    refine ⟨_, rfl, ?_⟩
    replace hp := hp.call hch
    clear hch
    rw [hnl]
    refine st_alloc 12 (hcs hz0) hp rfl zl34 rfl (fun b12 w hp => ?_)
    refine st_storeA 12 hp rfl rfl rfl (by simp [hcs_len]) (sz34.trans (by simp [hcs_len])) (hcs_one _) (fun w hp => ?_)
    refine st_nil ?_
    refine pn_then ?_
    refine sc_region ?_
    refine st_v (ov_move rfl) rfl ?_
    refine st_v (ov_loadN rfl Tryd.underlying34 rfl (sz34.trans (by simp [hcs_len])) (hp.cells' (t := 12) rfl)) rfl ?_
    refine st_app1 9 33 h (xs := ((layL B W f row k).take i).flatMap hcs) (new := hcs ((layL B W f row k).getD i hz0)) hp rfl rfl rfl rfl rfl (by simp) rfl rfl Tryd.underlying26 in34 (by decide) rfl ((flat_len hcs_len _).trans (by rw [List.length_take, Nat.min_eq_left (by omega)])) hch rfl (hcs_len _) (hcs_one _) (by omega) (fun h2 b33 w hp hch2 hf9 => ?_)
    rw [flat_snoc, ← take_snoc8 hil] at hp hch2
    refine st_v (ov_assign rfl) rfl ?_
    refine st_nil ?_
    refine pn_block ?_
    refine pn_then ?_
    refine sc_region ?_
    refine st_v (ov_move rfl) rfl ?_
    refine st_v (ov_add_n (a := i) (b := 1) rfl rfl (by omega)) rfl ?_
    refine st_v (ov_assign rfl) rfl ?_
    refine st_nil ?_
    refine pn_roundH2 (i + 1) h2 hp (Sub.cons rfl (Sub.cons rfl (Sub.cons rfl (Sub.cons rfl (Sub.cons rfl (Sub.cons rfl (Sub.cons rfl (Sub.nil _)))))))) ?_ (LSub.cons rfl (LSub.cons rfl (LSub.nil _))) ?_
    · have h9 := (lay_lt B W f row k i).2 (by rw [← hP]; omega); omega
    exact ⟨((lay_lt B W f row k i).2 (by rw [← hP]; omega)), hch2⟩
  ·
    have hc := of_decide_eq_false hc
    have hni : ¬ i < (layL B W f row k).length := fun h9 => (by have := (lay_lt B W f row k i).1 h9; rw [← hP] at this; omega)
    have hie : i = (layL B W f row k).length := (by omega)
    subst hie
    rw [List.take_length] at hp hch
    refine sc_exit ?_
    refine pe_then ?_
    refine pe_then ?_
    refine pe_hit ?_
    refine pn_then ?_
    refine sc_seq ?_
    refine sc_region ?_
    refine st_v (ov_move rfl) rfl ?_
    refine st_v (ov_assign rfl) rfl ?_
    refine st_nil ?_
    refine pn_then ?_
    refine sc_ret ?_
    refine pr_one rfl rfl ?_
    exact ⟨h, rfl, hp.gives 9 rfl hch⟩

end Go.Proofs.YtjdolgfhcjnniaaDoor

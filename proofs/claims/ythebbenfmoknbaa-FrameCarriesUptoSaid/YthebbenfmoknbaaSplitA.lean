/-
  The walks of both Splits.
-/
import Derived.Test.YthebbenfmoknbaaFacts
import Derived.Test.YthebbenfmoknbaaFrmP
import Derived.Test.YthebbenfmoknbaaListA
namespace Go.Proofs.Ythebbenfmoknbaa
open Go Go.RowKit

set_option maxRecDepth 100000 in
theorem number_walk (b : List UInt8) {nb : Nat} (ao : Option Addr) (ca : Nat) (w0 : World) (h1 : Rd w0 ao (b.map B8)) (hb : b.length = nb) (h4 : 4 ≤ nb) :
    Calls Try.prog 38 #[.slice ao nb ca] w0 fun e w' => e = .returned (.int .i64 ((num4 b : Nat) : Int)) ∧ Chg [] w0 w' := by
  refine calls_in Try.func38 Try.ntmps38 rfl rfl ?_
  have hp := Hp.start w0
  subst hb
  have u0 := (b.getD 0 0).toNat_lt
  have u1 := (b.getD 1 0).toNat_lt
  have u2 := (b.getD 2 0).toNat_lt
  have u3 := (b.getD 3 0).toNat_lt
  refine sc_seq ?_
  refine sc_region ?_
  refine st_v (ov_assign rfl) rfl ?_
  refine st_nil ?_
  refine pn_then ?_
  refine sc_seq ?_
  refine sc_draws (by kernel_rfl) (by kernel_rfl) ?_
  replace hp := hp.drew
  refine ss_v (ov_move rfl) rfl ?_
  obtain ⟨bb1, oo1, hadr1, hcl1⟩ := (h1.chg hp.chg).pos (by simp; omega)
  refine ss_v (ov_indexR hadr1 rfl rfl Try.underlying26 sz5 (by omega)) rfl ?_
  refine ss_v (ov_load1 rfl Try.underlying5 rfl (Cells.elem' hcl1 (0) (by first | omega | (simp; omega) | (simp [*]; omega)) 0)) rfl ?_
  refine ss_v (ov_conv_8_64 (c := (b).getD (0) 0) Try.underlying5 Try.underlying3 rfl) rfl ?_
  refine ss_v (ov_shl_n (a := ((b).getD (0) 0).toNat) (b := 24) rfl rfl (by omega)) rfl ?_
  refine ss_v (ov_move rfl) rfl ?_
  obtain ⟨bb2, oo2, hadr2, hcl2⟩ := (h1.chg hp.chg).pos (by simp; omega)
  refine ss_v (ov_indexR hadr2 rfl rfl Try.underlying26 sz5 (by omega)) rfl ?_
  refine ss_v (ov_load1 rfl Try.underlying5 rfl (Cells.elem' hcl2 (1) (by first | omega | (simp; omega) | (simp [*]; omega)) 0)) rfl ?_
  refine ss_v (ov_conv_8_64 (c := (b).getD (1) 0) Try.underlying5 Try.underlying3 rfl) rfl ?_
  refine ss_v (ov_shl_n (a := ((b).getD (1) 0).toNat) (b := 16) rfl rfl (by omega)) rfl ?_
  refine ss_v (v := .int .i64 ((((b).getD (0) 0).toNat * 16777216 + ((b).getD (1) 0).toNat * 65536 : Nat) : Int)) ((ov_or_n (a := ((b).getD (0) 0).toNat <<< 24) (b := ((b).getD (1) 0).toNat <<< 16) rfl rfl (by omega)).is (by rw [or24 u1])) rfl ?_
  refine ss_v (ov_move rfl) rfl ?_
  obtain ⟨bb3, oo3, hadr3, hcl3⟩ := (h1.chg hp.chg).pos (by simp; omega)
  refine ss_v (ov_indexR hadr3 rfl rfl Try.underlying26 sz5 (by omega)) rfl ?_
  refine ss_v (ov_load1 rfl Try.underlying5 rfl (Cells.elem' hcl3 (2) (by first | omega | (simp; omega) | (simp [*]; omega)) 0)) rfl ?_
  refine ss_v (ov_conv_8_64 (c := (b).getD (2) 0) Try.underlying5 Try.underlying3 rfl) rfl ?_
  refine ss_v (ov_shl_n (a := ((b).getD (2) 0).toNat) (b := 8) rfl rfl (by omega)) rfl ?_
  refine ss_v (v := .int .i64 ((((b).getD (0) 0).toNat * 16777216 + ((b).getD (1) 0).toNat * 65536 + ((b).getD (2) 0).toNat * 256 : Nat) : Int)) ((ov_or_n (a := ((b).getD (0) 0).toNat * 16777216 + ((b).getD (1) 0).toNat * 65536) (b := ((b).getD (2) 0).toNat <<< 8) rfl rfl (by omega)).is (by rw [or16 u2])) rfl ?_
  refine ss_v (ov_move rfl) rfl ?_
  obtain ⟨bb4, oo4, hadr4, hcl4⟩ := (h1.chg hp.chg).pos (by simp; omega)
  refine ss_v (ov_indexR hadr4 rfl rfl Try.underlying26 sz5 (by omega)) rfl ?_
  refine ss_v (ov_load1 rfl Try.underlying5 rfl (Cells.elem' hcl4 (3) (by first | omega | (simp; omega) | (simp [*]; omega)) 0)) rfl ?_
  refine ss_v (ov_conv_8_64 (c := (b).getD (3) 0) Try.underlying5 Try.underlying3 rfl) rfl ?_
  refine ss_v (v := .int .i64 ((num4 b : Nat) : Int)) ((ov_or_n (a := ((b).getD (0) 0).toNat * 16777216 + ((b).getD (1) 0).toNat * 65536 + ((b).getD (2) 0).toNat * 256) (b := ((b).getD (3) 0).toNat) rfl rfl (by omega)).is (by rw [or8 u3]; rfl)) rfl ?_
  refine ss_v (ov_assign rfl) rfl ?_
  refine ss_end ?_
  refine pn_then ?_
  refine sc_ret ?_
  refine pr_one rfl rfl ?_
  exact ⟨rfl, hp.chg⟩

set_option maxRecDepth 100000 in
theorem split_walk (b : List UInt8) {nb : Nat} (ao : Option Addr) (ca : Nat) (w0 : World) (h1 : Rd w0 ao (b.map B8)) (hb : b.length = nb) (hca : nb ≤ ca) (hz : b.length ≤ 1099511627776) :
    Calls Try.prog 20 #[.slice ao nb ca] w0 fun e w' => SplitR w0 w' e (split b) := by
  refine calls_in Try.func20 Try.ntmps20 rfl rfl ?_
  have hp := Hp.start w0
  subst hb
  refine sc_seq ?_
  refine sc_region ?_
  refine st_v (ov_assign rfl) rfl ?_
  refine st_v (ov_assign rfl) rfl ?_
  refine st_v (ov_assign rfl) rfl ?_
  refine st_nil ?_
  refine pn_then ?_
  refine sc_seq ?_
  refine sc_region ?_
  refine st_v (ov_assign rfl) rfl ?_
  replace hp := hp.nil 5 26
  refine st_nil ?_
  refine pn_then ?_
  refine sc_seq ?_
  refine sc_region ?_
  refine st_v (ov_assign rfl) rfl ?_
  refine st_nil ?_
  refine pn_then ?_
  refine sc_seq ?_
  refine sc_block ?_
  refine sc_loopX3 (α := Nat) (β := Gs) (γ := List Bs) (kv := [(0, _)]) (kl := []) (fun k g bs kv => (6, .int .i64 ((k : Nat) : Int)) :: (5, .slice (adr g.ob) (bs.length) g.cap) :: kv) (fun k g bs kl => (5, ⟨g.ob, bs.map Bs.v ++ g.sp, 26⟩) :: kl) (fun k g bs => bs.map Bs.ck) (fun k g bs => ((bs.map Bs.v ++ g.sp).length = g.cap * 1) ∧ (k ≤ b.length) ∧ (split b = joinS (bs.map Bs.bs) k (split (b.drop k))) ∧ (∀ x ∈ bs, x.fit) ∧ (bs.length ≤ k)) (fun k g bs => b.length - k) 0 gnil [] hp (Sub.cons rfl (Sub.cons rfl (Sub.cons rfl (Sub.nil _)))) (LSub.cons rfl (LSub.nil _)) rfl ?_ ?_
  · exact ⟨rfl, (by first | omega | (simp; done) | (simp; omega) | (simp [*]; omega)), (joinS_nil _).symm, (fun x h => by cases h), (by first | omega | (simp; done) | (simp; omega) | (simp [*]; omega))⟩
  intro k g bs w hp hx
  obtain ⟨hcap, hk, hsp, hfit, hbl⟩ := hx
  refine sc_seq ?_
  refine sc_seq ?_
  refine sc_region ?_
  refine st_v (ov_move rfl) rfl ?_
  refine st_v (ov_len rfl Try.underlying26 rfl) rfl ?_
  refine st_v (ov_move rfl) rfl ?_
  refine st_v (ov_sub_n (a := b.length) (b := k) rfl rfl (by omega)) rfl ?_
  refine st_v (ov_geq rfl rfl) rfl ?_
  refine st_nil ?_
  refine pn_then ?_
  refine sc_cond rfl (fun hc => ?_) (fun hc => ?_)
  ·
    have hc := of_decide_eq_true hc
    refine sc_skip ?_
    refine pn_then ?_
    refine sc_block ?_
    refine sc_seq ?_
    refine sc_region ?_
    refine st_v (ov_move rfl) rfl ?_
    refine st_v (ov_move rfl) rfl ?_
    refine st_v (ov_slice_lo Try.underlying26 sz5 rfl rfl (by omega)) rfl ?_
    rw [Int.toNat_natCast]
    refine st_call pl38 rfl rfl rfl (number_walk (b.drop k) _ _ _ ((h1.chg hp.chg).dropM (l := k) hca) (by simp) (by omega)) ?_
    rintro _ w ⟨rfl, hch⟩
    refine ⟨_, rfl, ?_⟩
    replace hp := hp.call hch
    clear hch
    have hm4 := num4_lt (b.drop k)
    obtain ⟨m, hm⟩ : ∃ m, m = num4 (b.drop k) := ⟨_, rfl⟩
    rw [← hm] at hm4 ⊢
    refine st_v (ov_assign rfl) rfl ?_
    refine st_nil ?_
    refine pn_then ?_
    refine sc_seq ?_
    refine sc_seq ?_
    refine sc_region ?_
    refine st_v (ov_move rfl) rfl ?_
    refine st_v (ov_gtr rfl rfl) rfl ?_
    refine st_nil ?_
    refine pn_then ?_
    refine sc_cond rfl (fun hc => ?_) (fun hc => ?_)
    ·
      have hc := of_decide_eq_true hc
      refine sc_seq ?_
      refine sc_region ?_
      refine st_v (ov_move rfl) rfl ?_
      refine st_v (ov_move rfl) rfl ?_
      refine st_v (ov_assign rfl) rfl ?_
      refine st_v (ov_assign rfl) rfl ?_
      refine st_v (ov_assign rfl) rfl ?_
      refine st_nil ?_
      refine pn_then ?_
      refine sc_ret ?_
      refine pr_then ?_
      refine pr_block ?_
      refine pr_then ?_
      refine pr_block ?_
      refine pr_then ?_
      refine pr_three rfl rfl rfl rfl ?_
      have hsr := split_big (l := b.drop k) (by simp; omega) (by rw [← hm]; omega)
      rw [hsr] at hsp
      refine ⟨g, bs, ?_, hp.left (i := []) [5] (by simp) rfl, hcap, ?_, hfit⟩
      · rw [hsp]; simp [joinS]
      · rw [hsp]; simp [joinS]
    ·
      have hc := of_decide_eq_false hc
      refine sc_skip ?_
      refine pn_then ?_
      refine sc_seq ?_
      refine sc_seq ?_
      refine sc_region ?_
      refine st_v (ov_move rfl) rfl ?_
      refine st_v (ov_len rfl Try.underlying26 rfl) rfl ?_
      refine st_v (ov_move rfl) rfl ?_
      refine st_v (ov_sub_n (a := b.length) (b := k) rfl rfl (by omega)) rfl ?_
      refine st_v (ov_sub_n (a := b.length - k) (b := 4) rfl rfl (by omega)) rfl ?_
      refine st_v (ov_move rfl) rfl ?_
      refine st_v (ov_lss rfl rfl) rfl ?_
      refine st_nil ?_
      refine pn_then ?_
      refine sc_cond rfl (fun hc => ?_) (fun hc => ?_)
      ·
        have hc := of_decide_eq_true hc
        refine sc_exit ?_
        refine pe_then ?_
        refine pe_miss rfl ?_
        refine pe_then ?_
        refine pe_hit ?_
        refine pn_then ?_
        refine sc_seq ?_
        refine sc_region ?_
        refine st_v (ov_move rfl) rfl ?_
        refine st_v (ov_move rfl) rfl ?_
        refine st_v (ov_assign rfl) rfl ?_
        refine st_v (ov_assign rfl) rfl ?_
        refine st_v (ov_assign rfl) rfl ?_
        refine st_nil ?_
        refine pn_then ?_
        refine sc_ret ?_
        refine pr_three rfl rfl rfl rfl ?_
        have hsr := split_end (l := b.drop k) (by first | (left; simp; omega) | (right; exact ⟨by simp; omega, by rw [← hm]; omega, by rw [← hm]; simp; omega⟩))
        rw [hsr] at hsp
        refine ⟨g, bs, ?_, hp.left (i := []) [5] (by simp) rfl, hcap, ?_, hfit⟩
        · rw [hsp]; simp [joinS]
        · rw [hsp]; simp [joinS]
      ·
        have hc := of_decide_eq_false hc
        refine sc_skip ?_
        refine pn_then ?_
        refine sc_seq ?_
        refine sc_region ?_
        refine st_v (ov_move rfl) rfl ?_
        refine st_make1 30 (l := m) (c := m) hp rfl rfl rfl Try.underlying26 in5 ⟨by omega, by omega, by omega, by omega, by omega⟩ rfl (fun b30 w hp => ?_)
        refine st_v (ov_assign rfl) rfl ?_
        refine st_nil ?_
        refine pn_then ?_
        refine sc_seq ?_
        refine sc_region ?_
        refine st_v (ov_move rfl) rfl ?_
        refine st_v (ov_move rfl) rfl ?_
        refine st_v (ov_move rfl) rfl ?_
        refine st_v (ov_add_n (a := k) (b := 4) rfl rfl (by omega)) rfl ?_
        refine st_v (ov_slice_lo Try.underlying26 sz5 rfl rfl (by omega)) rfl ?_
        rw [Int.toNat_natCast]
        refine st_copy 30 (cs' := ((b.drop (k + 4)).take m).map B8) (news := ((b.drop (k + 4)).take m).map B8) (m := m) (off := 0) (n' := ((m : Nat) : Int)) hp rfl rfl rfl rfl rfl Try.underlying26 sz5 (by omega) (fun _ => rfl) (((h1.chg hp.chg).dropM (l := k + 4) hca).takeM m) (by first | omega | (simp; done) | (simp; omega) | (simp [*]; omega)) (one_all _) (by first | omega | (simp; done) | (simp; omega) | (simp [*]; omega)) (by simp) rfl (fun w hp => ?_)
        refine st_nil ?_
        refine pn_then ?_
        refine sc_seq ?_
        refine sc_region ?_
        refine st_v (ov_move rfl) rfl ?_
        refine st_v (ov_move rfl) rfl ?_
        refine st_app1 5 39 g (xs := bs.map Bs.v) (new := [Bs.v (⟨some b30, (b.drop (k + 4)).take m, [], m⟩ : Bs)]) hp rfl rfl rfl rfl rfl (by simp) (congrArg (fun q => some (Value.slice (adr (some b30)) q m)) (show m = ((b.drop (k + 4)).take m).length by simp; omega)) rfl Try.underlying37 in26 (by decide) rfl (by first | omega | (simp; done) | (simp; omega) | (simp [*]; omega)) hcap rfl rfl (by simp [Value.oneCell', Bs.v, Sl.v]) (by omega) (fun g2 b39 w hp hcap hf5 => ?_)
        rw [show bs.map Bs.v ++ [Bs.v (⟨some b30, (b.drop (k + 4)).take m, [], m⟩ : Bs)] = (bs ++ [(⟨some b30, (b.drop (k + 4)).take m, [], m⟩ : Bs)]).map Bs.v by simp] at hp hcap
        rw [show bs.length + 1 = (bs ++ [(⟨some b30, (b.drop (k + 4)).take m, [], m⟩ : Bs)]).length by simp]
        replace hp := hp.toX (L' := [(5, _), (39, _)]) 30 rfl (XSub.cons rfl rfl (XSub.cons rfl rfl (XSub.nil _ _)))
        rw [show bs.map Bs.ck ++ [(⟨some b30, ((b.drop (k + 4)).take m).map B8, 5⟩ : Ck)] = (bs ++ [(⟨some b30, (b.drop (k + 4)).take m, [], m⟩ : Bs)]).map Bs.ck by simp [Bs.ck]] at hp
        refine st_v (ov_assign rfl) rfl ?_
        refine st_nil ?_
        refine pn_then ?_
        refine sc_region ?_
        refine st_v (ov_move rfl) rfl ?_
        refine st_v (ov_move rfl) rfl ?_
        refine st_v (ov_add_n (a := 4) (b := m) rfl rfl (by omega)) rfl ?_
        refine st_v (ov_add_n (a := k) (b := 4 + m) rfl rfl (by omega)) rfl ?_
        refine st_v (ov_assign rfl) rfl ?_
        refine st_nil ?_
        refine pn_block ?_
        have hmore := split_more (l := b.drop k) (by simp; omega) (by rw [← hm]; omega) (by rw [← hm]; simp; omega)
        rw [← hm, List.drop_drop, List.drop_drop] at hmore
        refine pn_roundX3 (k + (4 + m)) g2 (bs ++ [(⟨some b30, (b.drop (k + 4)).take m, [], m⟩ : Bs)]) hp (Sub.cons rfl (Sub.cons rfl (Sub.cons rfl (Sub.nil _)))) ?_ (LSub.cons rfl (LSub.nil _)) rfl ?_
        · omega
        exact ⟨hcap, (by first | omega | (simp; done) | (simp; omega) | (simp [*]; omega)), by rw [hsp, hmore, joinS_join, List.map_append]; rfl, (fun x hx => by rcases List.mem_append.1 hx with h | h; exact hfit x h; obtain rfl := List.mem_singleton.1 h; simp [Bs.fit]; omega), by simp; omega⟩
  ·
    have hc := of_decide_eq_false hc
    refine sc_exit ?_
    refine pe_then ?_
    refine pe_then ?_
    refine pe_hit ?_
    refine pn_then ?_
    refine sc_seq ?_
    refine sc_region ?_
    refine st_v (ov_move rfl) rfl ?_
    refine st_v (ov_move rfl) rfl ?_
    refine st_v (ov_assign rfl) rfl ?_
    refine st_v (ov_assign rfl) rfl ?_
    refine st_v (ov_assign rfl) rfl ?_
    refine st_nil ?_
    refine pn_then ?_
    refine sc_ret ?_
    refine pr_three rfl rfl rfl rfl ?_
    have hsr := split_end (l := b.drop k) (by first | (left; simp; omega) | (right; exact ⟨by simp; omega, by rw [← hm]; omega, by rw [← hm]; simp; omega⟩))
    rw [hsr] at hsp
    refine ⟨g, bs, ?_, hp.left (i := []) [5] (by simp) rfl, hcap, ?_, hfit⟩
    · rw [hsp]; simp [joinS]
    · rw [hsp]; simp [joinS]

set_option maxRecDepth 100000 in
theorem part_walk (b : List UInt8) {nb : Nat} (ao : Option Addr) (ca p q : Nat) (w0 : World) (h1 : Rd w0 ao (b.map B8)) (hb : b.length = nb) (hca : nb ≤ ca) (hpq : p ≤ q ∧ q ≤ nb) (hz : nb ≤ 1099511627776) :
    Calls Try.prog 44 #[.slice ao nb ca, .int .i64 (p : Int), .int .i64 (q : Int)] w0 fun e w' => ∃ g : Gs, e = .returned (.slice (adr g.ob) (q - p) g.cap) ∧ Mk w0 w' 5 1 (((b.drop p).take (q - p)).map B8) g := by
  refine calls_in Try.func44 Try.ntmps44 rfl rfl ?_
  have hp := Hp.start w0
  subst hb
  refine sc_seq ?_
  refine sc_region ?_
  refine st_v (ov_assign rfl) rfl ?_
  refine st_nil ?_
  refine pn_then ?_
  refine sc_seq ?_
  refine sc_region ?_
  refine st_v (ov_assign rfl) rfl ?_
  replace hp := hp.nil 7 5
  refine st_nil ?_
  refine pn_then ?_
  refine sc_seq ?_
  refine sc_region ?_
  refine st_v (ov_move rfl) rfl ?_
  refine st_v (ov_move rfl) rfl ?_
  refine st_v (ov_move rfl) rfl ?_
  refine st_v (ov_move rfl) rfl ?_
  refine st_v (ov_slice_lh Try.underlying26 sz5 rfl rfl rfl (by omega)) rfl ?_
  rw [Int.toNat_natCast, Int.toNat_natCast]
  refine st_append 7 gnil (xs := []) (news := ((b.drop p).take (q - p)).map B8) hp rfl rfl rfl rfl rfl Try.underlying26 in5 (by decide) rfl rfl (by simp) (((h1.chg hp.chg).dropM (l := p) hca).takeM (q - p)) (by simp; omega) (one_all _) (by omega) (fun g2 w hp hcap hf7 => ?_)
  simp only [List.nil_append] at hp hcap
  rw [Nat.zero_add]
  refine st_v (ov_assign rfl) rfl ?_
  refine st_nil ?_
  refine pn_then ?_
  refine sc_seq ?_
  refine sc_region ?_
  refine st_v (ov_move rfl) rfl ?_
  refine st_v (ov_assign rfl) rfl ?_
  refine st_nil ?_
  refine pn_then ?_
  refine sc_ret ?_
  refine pr_one rfl rfl ?_
  exact ⟨g2, rfl, hp.gives 7 rfl hcap⟩

set_option maxRecDepth 100000 in
theorem splitr_walk (b : List UInt8) {nb : Nat} (ao : Option Addr) (ca k0 : Nat) (w0 : World) (h1 : Rd w0 ao (b.map B8)) (hb : b.length = nb) (hca : nb ≤ ca) (hk0 : k0 ≤ nb) (hz : nb ≤ 1099511627776) :
    Calls Try.prog 39 #[.slice ao nb ca, .int .i64 (k0 : Int)] w0 fun e w' => SplitR w0 w' e (joinS [] k0 (split (b.drop k0))) := by
  refine calls_in Try.func39 Try.ntmps39 rfl rfl ?_
  have hp := Hp.start w0
  subst hb
  refine sc_seq ?_
  refine sc_region ?_
  refine st_v (ov_assign rfl) rfl ?_
  refine st_v (ov_assign rfl) rfl ?_
  refine st_v (ov_assign rfl) rfl ?_
  refine st_nil ?_
  refine pn_then ?_
  refine sc_seq ?_
  refine sc_region ?_
  refine st_v (ov_assign rfl) rfl ?_
  replace hp := hp.nil 7 26
  refine st_nil ?_
  refine pn_then ?_
  refine sc_seq ?_
  refine sc_region ?_
  refine st_v (ov_move rfl) rfl ?_
  refine st_v (ov_assign rfl) rfl ?_
  refine st_nil ?_
  refine pn_then ?_
  refine sc_seq ?_
  refine sc_block ?_
  refine sc_loopX3 (α := Nat) (β := Gs) (γ := List Bs) (kv := [(0, _)]) (kl := []) (fun k g bs kv => (8, .int .i64 ((k : Nat) : Int)) :: (7, .slice (adr g.ob) (bs.length) g.cap) :: kv) (fun k g bs kl => (7, ⟨g.ob, bs.map Bs.v ++ g.sp, 26⟩) :: kl) (fun k g bs => bs.map Bs.ck) (fun k g bs => ((bs.map Bs.v ++ g.sp).length = g.cap * 1) ∧ (k0 ≤ k ∧ k ≤ b.length) ∧ (joinS [] k0 (split (b.drop k0)) = joinS (bs.map Bs.bs) k (split (b.drop k))) ∧ (∀ x ∈ bs, x.fit) ∧ (bs.length ≤ k)) (fun k g bs => b.length - k) k0 gnil [] hp (Sub.cons rfl (Sub.cons rfl (Sub.cons rfl (Sub.nil _)))) (LSub.cons rfl (LSub.nil _)) rfl ?_ ?_
  · exact ⟨rfl, (by first | omega | (simp; done) | (simp; omega) | (simp [*]; omega)), rfl, (fun x h => by cases h), (by first | omega | (simp; done) | (simp; omega) | (simp [*]; omega))⟩
  intro k g bs w hp hx
  obtain ⟨hcap, hk, hsp, hfit, hbl⟩ := hx
  refine sc_seq ?_
  refine sc_seq ?_
  refine sc_region ?_
  refine st_v (ov_move rfl) rfl ?_
  refine st_v (ov_add_n (a := k) (b := 4) rfl rfl (by omega)) rfl ?_
  refine st_v (ov_move rfl) rfl ?_
  refine st_v (ov_len rfl Try.underlying26 rfl) rfl ?_
  refine st_v (ov_leq rfl rfl) rfl ?_
  refine st_nil ?_
  refine pn_then ?_
  refine sc_cond rfl (fun hc => ?_) (fun hc => ?_)
  ·
    have hc := of_decide_eq_true hc
    refine sc_skip ?_
    refine pn_then ?_
    refine sc_block ?_
    refine sc_seq ?_
    have u0 := (b.getD k 0).toNat_lt
    have u1 := (b.getD (k + 1) 0).toNat_lt
    have u2 := (b.getD (k + 2) 0).toNat_lt
    have u3 := (b.getD (k + 3) 0).toNat_lt
    have hm4 := num4_lt (b.drop k)
    have hnk := num4_at (b := b) k
    refine sc_draws (by kernel_rfl) (by kernel_rfl) ?_
    replace hp := hp.drew
    refine ss_v (ov_move rfl) rfl ?_
    refine ss_v (ov_move rfl) rfl ?_
    obtain ⟨bb1, oo1, hadr1, hcl1⟩ := (h1.chg hp.chg).pos (by simp; omega)
    refine ss_v (ov_indexR hadr1 rfl rfl Try.underlying26 sz5 (by omega)) rfl ?_
    refine ss_v (ov_load1 rfl Try.underlying5 rfl (Cells.elem' hcl1 (k) (by first | omega | (simp; omega) | (simp [*]; omega)) 0)) rfl ?_
    refine ss_v (ov_conv_8_64 (c := (b).getD (k) 0) Try.underlying5 Try.underlying3 rfl) rfl ?_
    refine ss_v (ov_mul_n (a := ((b).getD (k) 0).toNat) (b := 256) rfl rfl (by omega)) rfl ?_
    refine ss_v (ov_move rfl) rfl ?_
    refine ss_v (ov_move rfl) rfl ?_
    refine ss_v (ov_add_n (a := k) (b := 1) rfl rfl (by omega)) rfl ?_
    obtain ⟨bb2, oo2, hadr2, hcl2⟩ := (h1.chg hp.chg).pos (by simp; omega)
    refine ss_v (ov_indexR hadr2 rfl rfl Try.underlying26 sz5 (by omega)) rfl ?_
    refine ss_v (ov_load1 rfl Try.underlying5 rfl (Cells.elem' hcl2 (k + 1) (by first | omega | (simp; omega) | (simp [*]; omega)) 0)) rfl ?_
    refine ss_v (ov_conv_8_64 (c := (b).getD (k + 1) 0) Try.underlying5 Try.underlying3 rfl) rfl ?_
    refine ss_v (ov_add_n (a := (((b).getD (k) 0).toNat) * 256) (b := ((b).getD (k + 1) 0).toNat) rfl rfl (by omega)) rfl ?_
    refine ss_v (ov_mul_n (a := ((((b).getD (k) 0).toNat) * 256) + (((b).getD (k + 1) 0).toNat)) (b := 256) rfl rfl (by omega)) rfl ?_
    refine ss_v (ov_move rfl) rfl ?_
    refine ss_v (ov_move rfl) rfl ?_
    refine ss_v (ov_add_n (a := k) (b := 2) rfl rfl (by omega)) rfl ?_
    obtain ⟨bb3, oo3, hadr3, hcl3⟩ := (h1.chg hp.chg).pos (by simp; omega)
    refine ss_v (ov_indexR hadr3 rfl rfl Try.underlying26 sz5 (by omega)) rfl ?_
    refine ss_v (ov_load1 rfl Try.underlying5 rfl (Cells.elem' hcl3 (k + 2) (by first | omega | (simp; omega) | (simp [*]; omega)) 0)) rfl ?_
    refine ss_v (ov_conv_8_64 (c := (b).getD (k + 2) 0) Try.underlying5 Try.underlying3 rfl) rfl ?_
    refine ss_v (ov_add_n (a := (((((b).getD (k) 0).toNat) * 256) + (((b).getD (k + 1) 0).toNat)) * 256) (b := ((b).getD (k + 2) 0).toNat) rfl rfl (by omega)) rfl ?_
    refine ss_v (ov_mul_n (a := ((((((b).getD (k) 0).toNat) * 256) + (((b).getD (k + 1) 0).toNat)) * 256) + (((b).getD (k + 2) 0).toNat)) (b := 256) rfl rfl (by omega)) rfl ?_
    refine ss_v (ov_move rfl) rfl ?_
    refine ss_v (ov_move rfl) rfl ?_
    refine ss_v (ov_add_n (a := k) (b := 3) rfl rfl (by omega)) rfl ?_
    obtain ⟨bb4, oo4, hadr4, hcl4⟩ := (h1.chg hp.chg).pos (by simp; omega)
    refine ss_v (ov_indexR hadr4 rfl rfl Try.underlying26 sz5 (by omega)) rfl ?_
    refine ss_v (ov_load1 rfl Try.underlying5 rfl (Cells.elem' hcl4 (k + 3) (by first | omega | (simp; omega) | (simp [*]; omega)) 0)) rfl ?_
    refine ss_v (ov_conv_8_64 (c := (b).getD (k + 3) 0) Try.underlying5 Try.underlying3 rfl) rfl ?_
    refine ss_v (ov_add_n (a := (((((((b).getD (k) 0).toNat) * 256) + (((b).getD (k + 1) 0).toNat)) * 256) + (((b).getD (k + 2) 0).toNat)) * 256) (b := ((b).getD (k + 3) 0).toNat) rfl rfl (by omega)) rfl ?_
    refine ss_v (ov_assign rfl) rfl ?_
    obtain ⟨m, hm⟩ : ∃ m, m = num4 (b.drop k) := ⟨_, rfl⟩
    rw [← hm] at hm4
    rw [show (((((b).getD (k) 0).toNat * 256 + ((b).getD (k + 1) 0).toNat) * 256 + ((b).getD (k + 2) 0).toNat) * 256 + ((b).getD (k + 3) 0).toNat) = m by rw [hm, hnk]]
    refine ss_end ?_
    refine pn_then ?_
    refine sc_seq ?_
    refine sc_seq ?_
    refine sc_region ?_
    refine st_v (ov_move rfl) rfl ?_
    refine st_v (ov_gtr rfl rfl) rfl ?_
    refine st_nil ?_
    refine pn_then ?_
    refine sc_cond rfl (fun hc => ?_) (fun hc => ?_)
    ·
      have hc := of_decide_eq_true hc
      refine sc_seq ?_
      refine sc_region ?_
      refine st_v (ov_move rfl) rfl ?_
      refine st_v (ov_move rfl) rfl ?_
      refine st_v (ov_assign rfl) rfl ?_
      refine st_v (ov_assign rfl) rfl ?_
      refine st_v (ov_assign rfl) rfl ?_
      refine st_nil ?_
      refine pn_then ?_
      refine sc_ret ?_
      refine pr_then ?_
      refine pr_block ?_
      refine pr_then ?_
      refine pr_block ?_
      refine pr_then ?_
      refine pr_three rfl rfl rfl rfl ?_
      have hsr := split_big (l := b.drop k) (by simp; omega) (by rw [← hm]; omega)
      rw [hsr] at hsp
      refine ⟨g, bs, ?_, hp.left (i := []) [7] (by simp) rfl, hcap, ?_, hfit⟩
      · rw [hsp]; simp [joinS]
      · rw [hsp]; simp [joinS]
    ·
      have hc := of_decide_eq_false hc
      refine sc_skip ?_
      refine pn_then ?_
      refine sc_seq ?_
      refine sc_seq ?_
      refine sc_region ?_
      refine st_v (ov_move rfl) rfl ?_
      refine st_v (ov_add_n (a := k) (b := 4) rfl rfl (by omega)) rfl ?_
      refine st_v (ov_move rfl) rfl ?_
      refine st_v (ov_add_n (a := k + 4) (b := m) rfl rfl (by omega)) rfl ?_
      refine st_v (ov_move rfl) rfl ?_
      refine st_v (ov_len rfl Try.underlying26 rfl) rfl ?_
      refine st_v (ov_gtr rfl rfl) rfl ?_
      refine st_nil ?_
      refine pn_then ?_
      refine sc_cond rfl (fun hc => ?_) (fun hc => ?_)
      ·
        have hc := of_decide_eq_true hc
        refine sc_seq ?_
        refine sc_region ?_
        refine st_v (ov_move rfl) rfl ?_
        refine st_v (ov_move rfl) rfl ?_
        refine st_v (ov_assign rfl) rfl ?_
        refine st_v (ov_assign rfl) rfl ?_
        refine st_v (ov_assign rfl) rfl ?_
        refine st_nil ?_
        refine pn_then ?_
        refine sc_ret ?_
        refine pr_then ?_
        refine pr_block ?_
        refine pr_then ?_
        refine pr_block ?_
        refine pr_then ?_
        refine pr_three rfl rfl rfl rfl ?_
        have hsr := split_part (l := b.drop k) (by simp; omega) (by rw [← hm]; omega) (by rw [← hm]; simp; omega)
        rw [hsr] at hsp
        refine ⟨g, bs, ?_, hp.left (i := []) [7] (by simp) rfl, hcap, ?_, hfit⟩
        · rw [hsp]; simp [joinS]
        · rw [hsp]; simp [joinS]
      ·
        have hc := of_decide_eq_false hc
        refine sc_skip ?_
        refine pn_then ?_
        refine sc_seq ?_
        refine sc_region ?_
        refine st_v (ov_move rfl) rfl ?_
        refine st_v (ov_move rfl) rfl ?_
        refine st_v (ov_add_n (a := k) (b := 4) rfl rfl (by omega)) rfl ?_
        refine st_v (ov_move rfl) rfl ?_
        refine st_v (ov_add_n (a := k) (b := 4) rfl rfl (by omega)) rfl ?_
        refine st_v (ov_move rfl) rfl ?_
        refine st_v (ov_add_n (a := k + 4) (b := m) rfl rfl (by omega)) rfl ?_
        refine st_call pl44 rfl rfl rfl (part_walk b _ _ (k + 4) (k + 4 + m) _ (h1.chg hp.chg) rfl hca (by omega) hz) ?_
        rintro _ w ⟨g66, rfl, hm66⟩
        refine ⟨_, rfl, ?_⟩
        replace hp := hp.got 66 hm66
        have hc66 := hm66.2
        clear hm66
        rw [show k + 4 + m - (k + 4) = m by omega] at *
        refine st_v (ov_assign rfl) rfl ?_
        refine st_nil ?_
        refine pn_then ?_
        refine sc_seq ?_
        refine sc_region ?_
        refine st_v (ov_move rfl) rfl ?_
        refine st_v (ov_move rfl) rfl ?_
        refine st_app1 7 69 g (xs := bs.map Bs.v) (new := [Bs.v (⟨g66.ob, (b.drop (k + 4)).take m, g66.sp, g66.cap⟩ : Bs)]) hp rfl rfl rfl rfl rfl (by simp) (congrArg (fun q => some (Value.slice (adr g66.ob) q g66.cap)) (show m = ((b.drop (k + 4)).take m).length by simp; omega)) rfl Try.underlying37 in26 (by decide) rfl (by first | omega | (simp; done) | (simp; omega) | (simp [*]; omega)) hcap rfl rfl (by simp [Value.oneCell', Bs.v, Sl.v]) (by omega) (fun g2 b69 w hp hcap hf7 => ?_)
        rw [show bs.map Bs.v ++ [Bs.v (⟨g66.ob, (b.drop (k + 4)).take m, g66.sp, g66.cap⟩ : Bs)] = (bs ++ [(⟨g66.ob, (b.drop (k + 4)).take m, g66.sp, g66.cap⟩ : Bs)]).map Bs.v by simp] at hp hcap
        rw [show bs.length + 1 = (bs ++ [(⟨g66.ob, (b.drop (k + 4)).take m, g66.sp, g66.cap⟩ : Bs)]).length by simp]
        replace hp := hp.toX (L' := [(7, _), (69, _)]) 66 rfl (XSub.cons rfl rfl (XSub.cons rfl rfl (XSub.nil _ _)))
        rw [show bs.map Bs.ck ++ [(⟨g66.ob, ((b.drop (k + 4)).take m).map B8 ++ g66.sp, 5⟩ : Ck)] = (bs ++ [(⟨g66.ob, (b.drop (k + 4)).take m, g66.sp, g66.cap⟩ : Bs)]).map Bs.ck by simp [Bs.ck]] at hp
        refine st_v (ov_assign rfl) rfl ?_
        refine st_nil ?_
        refine pn_then ?_
        refine sc_region ?_
        refine st_v (ov_move rfl) rfl ?_
        refine st_v (ov_add_n (a := k) (b := 4) rfl rfl (by omega)) rfl ?_
        refine st_v (ov_move rfl) rfl ?_
        refine st_v (ov_add_n (a := k + 4) (b := m) rfl rfl (by omega)) rfl ?_
        refine st_v (ov_assign rfl) rfl ?_
        refine st_nil ?_
        refine pn_block ?_
        have hmore := split_more (l := b.drop k) (by simp; omega) (by rw [← hm]; omega) (by rw [← hm]; simp; omega)
        rw [← hm, List.drop_drop, List.drop_drop, ← Nat.add_assoc] at hmore
        refine pn_roundX3 (k + 4 + m) g2 (bs ++ [(⟨g66.ob, (b.drop (k + 4)).take m, g66.sp, g66.cap⟩ : Bs)]) hp (Sub.cons rfl (Sub.cons rfl (Sub.cons rfl (Sub.nil _)))) ?_ (LSub.cons rfl (LSub.nil _)) rfl ?_
        · omega
        exact ⟨hcap, (by first | omega | (simp; done) | (simp; omega) | (simp [*]; omega)), by rw [hsp, hmore, joinS_join, List.map_append, Nat.add_assoc]; rfl, (fun x hx => by rcases List.mem_append.1 hx with h | h; exact hfit x h; obtain rfl := List.mem_singleton.1 h; rw [Nat.mul_one] at hc66; exact hc66), by simp; omega⟩
  ·
    have hc := of_decide_eq_false hc
    refine sc_exit ?_
    refine pe_then ?_
    refine pe_then ?_
    refine pe_hit ?_
    refine pn_then ?_
    refine sc_seq ?_
    refine sc_region ?_
    refine st_v (ov_move rfl) rfl ?_
    refine st_v (ov_move rfl) rfl ?_
    refine st_v (ov_assign rfl) rfl ?_
    refine st_v (ov_assign rfl) rfl ?_
    refine st_v (ov_assign rfl) rfl ?_
    refine st_nil ?_
    refine pn_then ?_
    refine sc_ret ?_
    refine pr_three rfl rfl rfl rfl ?_
    have hsr := split_short (l := b.drop k) (by simp; omega)
    rw [hsr] at hsp
    refine ⟨g, bs, ?_, hp.left (i := []) [7] (by simp) rfl, hcap, ?_, hfit⟩
    · rw [hsp]; simp [joinS]
    · rw [hsp]; simp [joinS]

set_option maxRecDepth 100000 in
theorem splitr0_walk (b : List UInt8) {nb : Nat} (ao : Option Addr) (ca : Nat) (w0 : World) (h1 : Rd w0 ao (b.map B8)) (hb : b.length = nb) (hca : nb ≤ ca) (hz : b.length ≤ 1099511627776) :
    Calls Try.prog 21 #[.slice ao nb ca] w0 fun e w' => SplitR w0 w' e (split b) := by
  refine calls_in Try.func21 Try.ntmps21 rfl rfl ?_
  have hp := Hp.start w0
  subst hb
  refine sc_seq ?_
  refine sc_region ?_
  refine st_v (ov_assign rfl) rfl ?_
  refine st_v (ov_assign rfl) rfl ?_
  refine st_v (ov_assign rfl) rfl ?_
  refine st_nil ?_
  refine pn_then ?_
  refine sc_seq ?_
  refine sc_region ?_
  refine st_v (ov_move rfl) rfl ?_
  refine st_call pl39 rfl rfl rfl (splitr_walk b ao ca 0 _ (h1.chg hp.chg) rfl hca (by omega) hz) ?_
  rintro _ w ⟨g, bs, rfl, hL, hcap, hbs, hfit⟩
  refine ⟨_, rfl, ?_⟩
  rw [List.drop_zero, joinS_nil] at *
  replace hp := hp.backX (o1 := [⟨g.ob, bs.map Bs.v ++ g.sp, 26⟩]) [] [5] (by simp) rfl hL (by simp) rfl (by simp)
  refine st_v (ov_extract rfl rfl) rfl ?_
  refine st_v (ov_extract rfl rfl) rfl ?_
  refine st_v (ov_extract rfl rfl) rfl ?_
  refine st_v (ov_assign rfl) rfl ?_
  refine st_v (ov_assign rfl) rfl ?_
  refine st_v (ov_assign rfl) rfl ?_
  refine st_nil ?_
  refine pn_then ?_
  refine sc_ret ?_
  refine pr_three rfl rfl rfl rfl ?_
  exact ⟨g, bs, rfl, hp.left (i := []) [5] (by simp) rfl, hcap, hbs, hfit⟩

set_option maxRecDepth 100000 in
theorem law_splits (b : List UInt8) (ao : Option Addr) (ca : Nat) (w0 : World) (h1 : Rd w0 ao (b.map B8)) (hca : b.length ≤ ca) (hz : b.length ≤ 1048576) :
    Calls Try.prog 6 #[.slice ao b.length ca] w0 fun e w' => e = .returned (.bool true) ∧ Chg [] w0 w' := by
  refine calls_in Try.func6 Try.ntmps6 rfl rfl ?_
  have hp := Hp.start w0
  refine sc_seq ?_
  refine sc_region ?_
  refine st_v (ov_assign rfl) rfl ?_
  refine st_nil ?_
  refine pn_then ?_
  refine sc_seq ?_
  refine sc_region ?_
  refine st_v (ov_move rfl) rfl ?_
  refine st_call pl15 rfl rfl rfl (copied_walk b _ _ _ (h1.chg hp.chg) (by first | rfl | omega | (simp; done) | (simp; omega) | (simp [*]; omega)) (by omega)) ?_
  rintro _ w ⟨g11, rfl, hm11⟩
  refine ⟨_, rfl, ?_⟩
  replace hp := hp.got 11 hm11
  have hc11 := hm11.2
  clear hm11
  refine st_v (ov_assign rfl) rfl ?_
  refine st_nil ?_
  refine pn_then ?_
  refine sc_seq ?_
  refine sc_region ?_
  refine st_v (ov_move rfl) rfl ?_
  refine st_call pl20 rfl rfl rfl (split_walk b _ _ _ (Rd.own (hp.own 11 _ rfl)) rfl (gcap1 hc11) (by omega)) ?_
  rintro _ w ⟨g14, bs, rfl, hL14, hc14, hbs14, hfit14⟩
  refine ⟨_, rfl, ?_⟩
  replace hp := hp.backX (o1 := [⟨g14.ob, bs.map Bs.v ++ g14.sp, 26⟩]) [] [14] (by simp) rfl hL14 (by simp) rfl (by simp)
  clear hL14
  refine st_v (ov_move rfl) rfl ?_
  refine st_v (ov_extract rfl rfl) rfl ?_
  refine st_v (ov_extract rfl rfl) rfl ?_
  refine st_v (ov_extract rfl rfl) rfl ?_
  refine st_v (ov_assign rfl) rfl ?_
  refine st_v (ov_assign rfl) rfl ?_
  refine st_v (ov_assign rfl) rfl ?_
  refine st_nil ?_
  refine pn_then ?_
  refine sc_seq ?_
  refine sc_region ?_
  refine st_v (ov_move rfl) rfl ?_
  refine st_call pl21 rfl rfl rfl (splitr0_walk b _ _ _ (h1.chg hp.chg) rfl hca (by omega)) ?_
  rintro _ w ⟨g20, cs, rfl, hL20, hc20, hbs20, hfit20⟩
  refine ⟨_, rfl, ?_⟩
  replace hp := hp.backX (o1 := [⟨g20.ob, cs.map Bs.v ++ g20.sp, 26⟩]) [] [20] (by simp) rfl hL20 (by simp) rfl (by simp)
  clear hL20
  refine st_v (ov_move rfl) rfl ?_
  refine st_v (ov_extract rfl rfl) rfl ?_
  refine st_v (ov_extract rfl rfl) rfl ?_
  refine st_v (ov_extract rfl rfl) rfl ?_
  refine st_v (ov_assign rfl) rfl ?_
  refine st_v (ov_assign rfl) rfl ?_
  refine st_v (ov_assign rfl) rfl ?_
  refine st_nil ?_
  refine pn_then ?_
  refine sc_seq ?_
  have hle : ∀ s ∈ bs.map Bs.sl, s.bs.length ≤ 281474976710656 := split_le hbs14 (by omega)
  have hne : (bs.map Bs.sl).length ≤ 281474976710656 := split_le2 hbs14 (by omega)
  refine sc_region ?_
  refine st_v (ov_move rfl) rfl ?_
  refine st_v (ov_move rfl) rfl ?_
  refine st_v (v := .bool true) ((ov_eql rfl rfl).is ((by simp))) rfl ?_
  refine st_v (ov_move rfl) rfl ?_
  refine st_on (j := 3) rfl rfl ?_
  refine st_v (ov_move rfl) rfl ?_
  refine st_on (j := 3) rfl rfl ?_
  refine st_v (ov_move rfl) rfl ?_
  refine st_on (j := 3) rfl rfl ?_
  refine st_v (v := .bool true) ((ov_eql rfl rfl).is ((by simp))) rfl ?_
  refine st_v (ov_pick_t rfl rfl) rfl ?_
  refine st_v (ov_move rfl) rfl ?_
  refine st_on (j := 8) rfl rfl ?_
  refine st_v (ov_move rfl) rfl ?_
  refine st_on (j := 8) rfl rfl ?_
  refine st_v (ov_move rfl) rfl ?_
  refine st_on (j := 8) rfl rfl ?_
  refine st_call pl22 rfl rfl rfl (sameb_walk (bs.map Bs.sl) (cs.map Bs.sl) _ _ _ _ _ (by rw [← map_v]; exact Rd.own (hp.own 14 _ rfl)) (by rw [← map_v]; exact Rd.own (hp.own 20 _ rfl)) (hp.rdAll (fun x hx => by have h9 := List.mem_map_of_mem (f := Bs.ck) hx; simp only [List.mem_append, h9, true_or, or_true]) hfit14) (hp.rdAll (fun x hx => by have h9 := List.mem_map_of_mem (f := Bs.ck) hx; simp only [List.mem_append, h9, true_or, or_true]) hfit20) (by rw [sl_bs, sl_bs, hbs14, hbs20]) (by simp) (by simp) hle hne) ?_
  rintro _ w ⟨rfl, hch⟩
  refine ⟨_, rfl, ?_⟩
  replace hp := hp.call hch
  clear hch
  refine st_v (ov_pick_t rfl rfl) rfl ?_
  refine st_v (ov_move rfl) rfl ?_
  refine st_on (j := 13) rfl rfl ?_
  refine st_v (ov_move rfl) rfl ?_
  refine st_on (j := 13) rfl rfl ?_
  refine st_v (ov_move rfl) rfl ?_
  refine st_on (j := 13) rfl rfl ?_
  refine st_call pl14 rfl rfl rfl (same_walk_eq b _ _ _ _ _ (Rd.own (hp.own 11 _ rfl)) (h1.chg hp.chg) (by first | rfl | omega | (simp; done) | (simp; omega) | (simp [*]; omega)) (by first | rfl | omega | (simp; done) | (simp; omega) | (simp [*]; omega)) (by first | omega | (simp; omega))) ?_
  rintro _ w ⟨rfl, hch⟩
  refine ⟨_, rfl, ?_⟩
  replace hp := hp.call hch
  clear hch
  refine st_v (ov_pick_t rfl rfl) rfl ?_
  refine st_v (ov_assign rfl) rfl ?_
  refine st_nil ?_
  refine pn_then ?_
  refine sc_ret ?_
  refine pr_one rfl rfl ?_
  exact ⟨rfl, hp.chg⟩

end Go.Proofs.Ythebbenfmoknbaa

/-
  The walk of the law FrameBreaks.
-/
import Derived.Test.YthebbenfmoknbaaPshdA
import Derived.Test.YthebbenfmoknbaaWrapA
import Derived.Test.YthebbenfmoknbaaCarP
namespace Go.Proofs.Ythebbenfmoknbaa
open Go Go.RowKit

set_option maxRecDepth 100000 in
theorem law_breaks (l : List Sl) (n : Int) (cuts : List Int) (more : List UInt8) (ao bo co : Option Addr) (ca cb cc : Nat) (w0 : World) (h1 : Rd w0 ao (l.map Sl.v)) (a1 : RdAll w0 l) (hsl : l.length ≤ 1048576) (hsum : (l.map fun s => s.bs.length).sum ≤ 1048576) (hez : ∀ s ∈ l, s.bs.length ≤ 1048576) (h2 : Rd w0 bo (cuts.map fun x => Value.int .i64 x)) (h3 : Rd w0 co (more.map B8)) (hzc : cuts.length ≤ 1048576) (hzm : more.length ≤ 1048576) :
    Calls Try.prog 10 #[.slice ao l.length ca, .int .i64 n, .slice bo cuts.length cb, .slice co more.length cc] w0 fun e w' => e = .returned (.bool true) ∧ Chg [] w0 w' := by
  refine calls_in Try.func10 Try.ntmps10 rfl rfl ?_
  have hp := Hp.start w0
  refine sc_seq ?_
  refine sc_region ?_
  refine st_v (ov_assign rfl) rfl ?_
  refine st_nil ?_
  refine pn_then ?_
  refine sc_seq ?_
  refine sc_seq ?_
  refine sc_cutH1 (α := Bool) (kv := [(0, _), (1, _), (2, _), (3, _)]) (kl := []) (fun bb kv => (29, .bool bb) :: kv) (fun bb kl => kl) (fun bb => (bb = true ↔ (n ≤ 32768 ∨ 4294967295 < n))) hp (Sub.cons rfl (Sub.cons rfl (Sub.cons rfl (Sub.cons rfl (Sub.nil _))))) (LSub.nil _) ?_ ?_
  ·
    refine sc_region ?_
    refine st_v (ov_move rfl) rfl ?_
    refine st_v (ov_leq rfl rfl) rfl ?_
    refine st_v (ov_move rfl) rfl ?_
    refine st_split (j := 26) rfl (fun hb => ?_) (fun hb => ?_)
    ·
      have hb := of_decide_eq_true hb
      refine st_off (j := 2) rfl rfl rfl rfl ?_
      refine st_off (j := 2) rfl rfl rfl rfl ?_
      refine st_v (ov_pick_t rfl rfl) rfl ?_
      refine st_nil ?_
      refine pn_cutH1 true hp (Sub.cons rfl (Sub.cons rfl (Sub.cons rfl (Sub.cons rfl (Sub.cons rfl (Sub.nil _)))))) (LSub.nil _) ?_
      exact (by simp; omega)
    ·
      have hb := of_decide_eq_false hb
      refine st_on (j := 2) rfl rfl ?_
      refine st_v (ov_move rfl) rfl ?_
      refine st_on (j := 2) rfl rfl ?_
      refine st_v (ov_gtr rfl rfl) rfl ?_
      refine st_v (ov_pick_f rfl rfl) rfl ?_
      refine st_nil ?_
      refine pn_cutH1 (decide (n > 4294967295)) hp (Sub.cons rfl (Sub.cons rfl (Sub.cons rfl (Sub.cons rfl (Sub.cons rfl (Sub.nil _)))))) (LSub.nil _) ?_
      exact (by simp; omega)
  ·
    intro bb w hp hx
    have hbb : bb = true ↔ (n ≤ 32768 ∨ 4294967295 < n) := hx
    refine pn_then ?_
    refine sc_cutH1 (α := Nat) (kv := [(0, _), (2, _), (3, _)]) (kl := []) (fun m kv => (1, .int .i64 ((m : Nat) : Int)) :: kv) (fun m kl => kl) (fun m => (32768 < m ∧ m < 4294967296)) hp (Sub.cons rfl (Sub.cons rfl (Sub.cons rfl (Sub.nil _)))) (LSub.nil _) ?_ ?_
    ·
      refine sc_cond rfl (fun hc => ?_) (fun hc => ?_)
      ·
        refine sc_region ?_
        refine st_v (ov_assign rfl) rfl ?_
        refine st_nil ?_
        refine pn_cutH1 32769 hp (Sub.cons rfl (Sub.cons rfl (Sub.cons rfl (Sub.cons rfl (Sub.nil _))))) (LSub.nil _) ?_
        exact (by omega)
      ·
        refine sc_skip ?_
        have hnn : ¬ (n ≤ 32768 ∨ 4294967295 < n) := fun h => by simp [hbb.2 h] at hc
        obtain ⟨m, rfl⟩ : ∃ m : Nat, n = (m : Int) := ⟨n.toNat, by omega⟩
        refine pn_cutH1 m hp (Sub.cons rfl (Sub.cons rfl (Sub.cons rfl (Sub.cons rfl (Sub.nil _))))) (LSub.nil _) ?_
        exact (by omega)
    ·
      intro m w hp hx
      have hm : 32768 < m ∧ m < 4294967296 := hx
      refine pn_then ?_
      refine sc_seq ?_
      refine sc_region ?_
      refine st_v (ov_assign rfl) rfl ?_
      replace hp := hp.nil 9 5
      refine st_nil ?_
      refine pn_then ?_
      refine sc_seq ?_
      refine sc_region ?_
      refine st_v (ov_assign rfl) rfl ?_
      replace hp := hp.nil 10 26
      refine st_nil ?_
      refine pn_then ?_
      refine sc_seq ?_
      refine sc_seq ?_
      refine sc_region ?_
      refine st_v (ov_assign rfl) rfl ?_
      refine st_nil ?_
      refine pn_then ?_
      refine sc_block ?_
      refine sc_loopH3 (α := Nat) (β := Gs) (γ := Gs) (kv := [(0, _), (1, _), (2, _), (3, _)]) (kl := []) (fun i gb gs kv => (11, .int .i64 ((i : Nat) : Int)) :: (9, .slice (adr gb.ob) ((catL l i).length) gb.cap) :: (10, .slice (adr gs.ob) ((sentL l i).length) gs.cap) :: kv) (fun i gb gs kl => (9, ⟨gb.ob, (catL l i).map B8 ++ gb.sp, 5⟩) :: (10, ⟨gs.ob, (sentL l i).map Sl.v ++ gs.sp, 26⟩) :: kl) (fun i gb gs => (i ≤ l.length) ∧ (((catL l i).map B8 ++ gb.sp).length = gb.cap * 1) ∧ (((sentL l i).map Sl.v ++ gs.sp).length = gs.cap * 1)) (fun i gb gs => l.length - i) 0 gnil gnil hp (Sub.cons rfl (Sub.cons rfl (Sub.cons rfl (Sub.cons rfl (Sub.cons rfl (Sub.cons rfl (Sub.cons rfl (Sub.nil _)))))))) (LSub.cons rfl (LSub.cons rfl (LSub.nil _))) ?_ ?_
      · exact ⟨(by first | omega | (simp; done) | (simp; omega) | (simp [*]; omega)), rfl, rfl⟩
      intro i gb gs w hp hx
      obtain ⟨hi, hcb, hct⟩ := hx
      refine sc_seq ?_
      refine sc_seq ?_
      refine sc_region ?_
      refine st_v (ov_move rfl) rfl ?_
      refine st_v (ov_move rfl) rfl ?_
      refine st_v (ov_len rfl Try.underlying37 rfl) rfl ?_
      refine st_v (ov_lss rfl rfl) rfl ?_
      refine st_nil ?_
      refine pn_then ?_
      refine sc_cond rfl (fun hc => ?_) (fun hc => ?_)
      ·
        have hc := of_decide_eq_true hc
        refine sc_skip ?_
        refine pn_then ?_
        refine sc_seq ?_
        refine sc_block ?_
        refine sc_seq ?_
        refine sc_region ?_
        refine st_v (ov_move rfl) rfl ?_
        refine st_v (ov_move rfl) rfl ?_
        obtain ⟨bb1, oo1, hadr1, hcl1⟩ := (h1.chg hp.chg).pos (by simp; omega)
        refine st_v (ov_indexR hadr1 rfl rfl Try.underlying37 sz26 (by omega)) rfl ?_
        refine st_v (ov_load1 rfl Try.underlying26 rfl (Cells.elem' hcl1 (i) (by first | omega | (simp; omega) | (simp [*]; omega)) (⟨none, [], 0⟩ : Sl))) rfl ?_
        refine st_call pl16 rfl rfl rfl (wrap_walk (l.getD i (⟨none, [], 0⟩ : Sl)).bs _ _ _ ((a1.chg hp.chg).at (by omega) (⟨none, [], 0⟩ : Sl)) rfl (by have := hez _ (getD_mem (i := i) (by omega) (⟨none, [], 0⟩ : Sl)); omega)) ?_
        rintro _ w ⟨g36, rfl, hm36⟩
        refine ⟨_, rfl, ?_⟩
        replace hp := hp.got 36 hm36
        have hc36 := hm36.2
        clear hm36
        refine st_v (ov_move rfl) rfl ?_
        refine st_v (ov_extract rfl rfl) rfl ?_
        refine st_v (ov_extract rfl rfl) rfl ?_
        refine st_v (ov_assign rfl) rfl ?_
        refine st_v (ov_assign rfl) rfl ?_
        refine st_nil ?_
        refine pn_then ?_
        refine sc_seq ?_
        refine sc_region ?_
        refine st_v (ov_move rfl) rfl ?_
        refine st_v (ov_eql rfl rfl) rfl ?_
        refine st_nil ?_
        refine pn_then ?_
        refine sc_cond rfl (fun hc => ?_) (fun hc => ?_)
        ·
          have hc := of_decide_eq_true hc
          have hsm : (l.getD i (⟨none, [], 0⟩ : Sl)).bs.length ≤ 32768 := by rcases Nat.lt_or_ge 32768 (l.getD i (⟨none, [], 0⟩ : Sl)).bs.length with h | h; exact absurd ((wrap_big h).2.symm.trans hc) (by decide); exact h
          have hse := sent_ok (l := l) (i := i) (by omega) hsm
          refine sc_seq ?_
          refine sc_region ?_
          refine st_v (ov_move rfl) rfl ?_
          refine st_v (ov_move rfl) rfl ?_
          refine st_v (ov_move rfl) rfl ?_
          obtain ⟨bb2, oo2, hadr2, hcl2⟩ := (h1.chg hp.chg).pos (by simp; omega)
          refine st_v (ov_indexR hadr2 rfl rfl Try.underlying37 sz26 (by omega)) rfl ?_
          refine st_v (ov_load1 rfl Try.underlying26 rfl (Cells.elem' hcl2 (i) (by first | omega | (simp; omega) | (simp [*]; omega)) (⟨none, [], 0⟩ : Sl))) rfl ?_
          refine st_app1 10 51 gs (xs := (sentL l i).map Sl.v) (new := [Sl.v (l.getD i (⟨none, [], 0⟩ : Sl))]) hp rfl rfl rfl rfl rfl (by simp) rfl rfl Try.underlying37 in26 (by decide) rfl (by simp) hct rfl rfl (by simp [Value.oneCell', Sl.v]) (by have := sent_len l i; omega) (fun gs2 b51 w hp hct2 hf10 => ?_)
          rw [show (sentL l i).map Sl.v ++ [Sl.v (l.getD i (⟨none, [], 0⟩ : Sl))] = (sentL l (i + 1)).map Sl.v by rw [hse]; simp] at hp hct2
          rw [show (sentL l i).length + 1 = (sentL l (i + 1)).length by rw [hse]; simp]
          refine st_v (ov_assign rfl) rfl ?_
          refine st_nil ?_
          refine pn_then ?_
          refine sc_region ?_
          refine st_v (ov_move rfl) rfl ?_
          refine st_v (ov_move rfl) rfl ?_
          refine st_append 9 gb (xs := (catL l i).map B8) (news := (wrapL (l.getD i (⟨none, [], 0⟩ : Sl)).bs).map B8) (m := (wrapL (l.getD i (⟨none, [], 0⟩ : Sl)).bs).length) hp rfl rfl rfl rfl rfl Try.underlying26 in5 (by decide) rfl (by simp) hcb (Rd.own (hp.own 36 _ rfl)) (by simp) (one_all _) (by have := cat_len l i; have := wrap_le (l.getD i (⟨none, [], 0⟩ : Sl)).bs; simp only [List.length_append] at *; omega) (fun gb2 w hp hcb2 hf9 => ?_)
          rw [← List.map_append, ← cat_succ (by omega)] at hp hcb2
          rw [← List.length_append, ← cat_succ (by omega)]
          refine st_v (ov_assign rfl) rfl ?_
          refine st_nil ?_
          refine pn_block ?_
          refine pn_then ?_
          refine sc_region ?_
          refine st_v (ov_move rfl) rfl ?_
          refine st_v (ov_add_n (a := i) (b := 1) rfl rfl (by omega)) rfl ?_
          refine st_v (ov_assign rfl) rfl ?_
          refine st_nil ?_
          refine pn_roundH3 (i + 1) gb2 gs2 hp (Sub.cons rfl (Sub.cons rfl (Sub.cons rfl (Sub.cons rfl (Sub.cons rfl (Sub.cons rfl (Sub.cons rfl (Sub.nil _)))))))) ?_ (LSub.cons rfl (LSub.cons rfl (LSub.nil _))) ?_
          · omega
          exact ⟨(by first | omega | (simp; done) | (simp; omega) | (simp [*]; omega)), hcb2, hct2⟩
        ·
          have hc := of_decide_eq_false hc
          have hbig : 32768 < (l.getD i (⟨none, [], 0⟩ : Sl)).bs.length := by rcases Nat.lt_or_ge 32768 (l.getD i (⟨none, [], 0⟩ : Sl)).bs.length with h | h; exact h; exact absurd (wrap_ok h).2 hc
          refine sc_seq ?_
          refine sc_region ?_
          refine st_v (ov_move rfl) rfl ?_
          refine st_v (ov_move rfl) rfl ?_
          obtain ⟨bb3, oo3, hadr3, hcl3⟩ := (h1.chg hp.chg).pos (by simp; omega)
          refine st_v (ov_indexR hadr3 rfl rfl Try.underlying37 sz26 (by omega)) rfl ?_
          refine st_v (ov_load1 rfl Try.underlying26 rfl (Cells.elem' hcl3 (i) (by first | omega | (simp; omega) | (simp [*]; omega)) (⟨none, [], 0⟩ : Sl))) rfl ?_
          refine st_v (ov_len rfl Try.underlying26 rfl) rfl ?_
          refine st_v (ov_leq rfl rfl) rfl ?_
          refine st_nil ?_
          refine pn_then ?_
          refine sc_cond rfl (fun hc => ?_) (fun hc => ?_)
          · exact absurd hc (by simp only [decide_eq_true_eq]; omega)
          skip
          refine sc_skip ?_
          refine pn_block ?_
          refine pn_then ?_
          refine sc_region ?_
          refine st_v (ov_move rfl) rfl ?_
          refine st_v (ov_add_n (a := i) (b := 1) rfl rfl (by omega)) rfl ?_
          refine st_v (ov_assign rfl) rfl ?_
          refine st_nil ?_
          rw [← cat_no (by omega) hbig, ← sent_no (by omega) hbig] at hp
          rw [← cat_no (by omega) hbig] at hcb
          rw [← sent_no (by omega) hbig] at hct
          rw [← cat_no (by omega) hbig, ← sent_no (by omega) hbig]
          refine pn_roundH3 (i + 1) gb gs hp (Sub.cons rfl (Sub.cons rfl (Sub.cons rfl (Sub.cons rfl (Sub.cons rfl (Sub.cons rfl (Sub.cons rfl (Sub.nil _)))))))) ?_ (LSub.cons rfl (LSub.cons rfl (LSub.nil _))) ?_
          · omega
          exact ⟨(by first | omega | (simp; done) | (simp; omega) | (simp [*]; omega)), hcb, hct⟩
      ·
        have hc := of_decide_eq_false hc
        refine sc_exit ?_
        refine pe_then ?_
        refine pe_then ?_
        refine pe_hit ?_
        refine pn_then ?_
        refine sc_seq ?_
        obtain rfl : i = l.length := by omega
        have hcl := cat_len l l.length
        have hsp := split_stop (l := l) (i := l.length) hm more
        refine sc_region ?_
        refine st_v (ov_move rfl) rfl ?_
        refine st_v (ov_len rfl Try.underlying26 rfl) rfl ?_
        refine st_v (ov_assign rfl) rfl ?_
        refine st_nil ?_
        refine pn_then ?_
        refine sc_seq ?_
        refine sc_region ?_
        refine st_v (ov_move rfl) rfl ?_
        refine st_v (ov_move rfl) rfl ?_
        refine st_v (ov_shr_n (a := m) (s := 24) rfl rfl ⟨by omega, by show 24 ≤ 64; omega⟩) rfl ?_
        refine st_v (ov_conv_n_8 (a := m >>> 24) Try.underlying3 Try.underlying5 rfl) rfl ?_
        refine st_v (ov_move rfl) rfl ?_
        refine st_v (ov_shr_n (a := m) (s := 16) rfl rfl ⟨by omega, by show 16 ≤ 64; omega⟩) rfl ?_
        refine st_v (ov_conv_n_8 (a := m >>> 16) Try.underlying3 Try.underlying5 rfl) rfl ?_
        refine st_v (ov_move rfl) rfl ?_
        refine st_v (ov_shr_n (a := m) (s := 8) rfl rfl ⟨by omega, by show 8 ≤ 64; omega⟩) rfl ?_
        refine st_v (ov_conv_n_8 (a := m >>> 8) Try.underlying3 Try.underlying5 rfl) rfl ?_
        refine st_v (ov_move rfl) rfl ?_
        refine st_v (ov_conv_n_8 (a := m) Try.underlying3 Try.underlying5 rfl) rfl ?_
        refine st_build 76 (cells := [B8 (UInt8.ofNat (m >>> 24)), B8 (UInt8.ofNat (m >>> 16)), B8 (UInt8.ofNat (m >>> 8)), B8 (UInt8.ofNat m)]) hp rfl rfl Try.underlying26 (in2_of in5) (by decide) (by kernel_rfl) (fun b76 w hb76 hp => ?_)
        rw [four_shr] at hp
        refine st_append 9 gb (xs := (catL l l.length).map B8) (news := (four m).map B8) hp rfl rfl rfl rfl rfl Try.underlying26 in5 (by decide) rfl (by simp) hcb ((Rd.of (hp.cells' (t := 76) rfl))) rfl (one_all _) (by omega) (fun gb2 w hp hcb2 hf9 => ?_)
        rw [← List.map_append] at hp hcb2
        rw [show (catL l l.length).length + 4 = (catL l l.length ++ four m).length by rw [List.length_append, four_len]]
        refine st_v (ov_assign rfl) rfl ?_
        refine st_nil ?_
        refine pn_then ?_
        refine sc_seq ?_
        refine sc_region ?_
        refine st_v (ov_move rfl) rfl ?_
        refine st_v (ov_move rfl) rfl ?_
        refine st_append 9 gb2 (xs := (catL l l.length ++ four m).map B8) (news := more.map B8) (m := more.length) hp rfl rfl rfl rfl rfl Try.underlying26 in5 (by decide) rfl (by simp) hcb2 (h3.chg hp.chg) (by simp) (one_all _) (by rw [List.length_append, four_len]; omega) (fun gb3 w hp hcb3 hf9 => ?_)
        rw [← List.map_append] at hp hcb3
        rw [← List.length_append]
        have hbl : (catL l l.length ++ four m ++ more).length ≤ 8388608 := by simp only [List.length_append, four_len]; omega
        refine st_v (ov_assign rfl) rfl ?_
        refine st_nil ?_
        refine pn_then ?_
        refine sc_seq ?_
        refine sc_region ?_
        refine st_call pl23 rfl rfl rfl (new_walk false _) ?_
        rintro _ w ⟨r1, rfl, hL⟩
        refine ⟨_, rfl, ?_⟩
        replace hp := hp.back [] [70, 71] (by simp) rfl hL (by simp) rfl (by simp)
        clear hL
        simp only [tg, rck0, rck, List.cons_append, List.nil_append] at hp
        refine st_v (ov_assign rfl) rfl ?_
        refine st_nil ?_
        refine pn_then ?_
        refine sc_seq ?_
        refine sc_seq ?_
        refine sc_region ?_
        refine st_v (ov_move rfl) rfl ?_
        refine st_v (v := .bool false) ((ov_eqlP Try.underlying42 rfl rfl).is (by simp)) rfl ?_
        refine st_nil ?_
        refine pn_then ?_
        refine sc_false rfl ?_
        refine sc_skip ?_
        refine pn_then ?_
        refine sc_seq ?_
        refine sc_region ?_
        refine st_v (ov_move rfl) rfl ?_
        refine st_v (ov_move rfl) rfl ?_
        refine st_v (ov_move rfl) rfl ?_
        refine st_call pl32 rfl rfl rfl (pushed_walk r1 false (catL l l.length ++ four m ++ more) cuts _ _ _ _ _ (hp.owns' (ts := [70, 71]) (by simp) rfl) (Rd.own (hp.own 9 _ rfl)) (hp.offT (t := 9) (ts := [70, 71]) rfl (by simp) rfl (by simp)) (h2.chg hp.chg) (hp.offs (i := []) h2 (fun b hb => absurd hb (by simp [blks])) (ts := [70, 71]) (by simp) rfl) rfl (gcap1 hcb3) rfl (by omega) (by omega)) ?_
        rintro _ w ⟨gm1, gb1, g1, mt1, bs1, er1, st1, part1, want1, rfl, hL, hcm1, hcb1, hcg1, hfit1, hT1⟩
        refine ⟨_, rfl, ?_⟩
        replace hp := hp.backX (o1 := rck r1 st1 g1 part1 want1 er1 ++ [⟨gm1.ob, mt1.flatMap hcs ++ gm1.sp, 25⟩, ⟨gb1.ob, bs1.map Bs.v ++ gb1.sp, 26⟩]) [70, 71] [70, 71, 91, 92] (by simp) rfl hL (by simp) rfl (by simp)
        clear hL
        simp only [tg, rck, List.cons_append, List.nil_append] at hp
        have hpl1 := hT1.part_le
        have hle1 := hT1.le
        obtain ⟨k1, hk1, hh1, hkl1⟩ := hT1.read
        refine st_alloc 16 (tld gnil 0 gnil 0 0) hp rfl zl57 rfl (fun b16 w hp => ?_)
        refine st_storeA 16 hp rfl rfl rfl rfl (sz57.trans rfl) (by simp [Value.oneCell']) (fun w hp => ?_)
        refine st_nil ?_
        refine pn_then ?_
        refine sc_seq ?_
        refine sc_seq ?_
        have hE : mt1 = [] ∧ bs1.map Bs.bs = (sentL l l.length).map Sl.bs ∧ k1 = (catL l l.length).length ∧ er1 = 102 := by rcases read_parts hk1 with h | h | h | h; rw [hsp] at h; simp only [Prod.mk.injEq] at h; exact ⟨h.2.1, h.2.2.1.symm, h.2.2.2.1.symm, h.2.2.2.2.symm⟩; exact absurd h.1 (by decide); exact absurd h.1 (by decide); exact absurd h.1 (by decide)
        obtain ⟨rfl, hbs, hk, rfl⟩ := hE
        have hp1 : part1 = [] := by rcases hT1 with h | h; exact absurd h.1 (by decide); exact h.2.1
        subst hp1
        have hsz : ∀ s ∈ bs1.map Bs.sl, s.bs.length ≤ 281474976710656 := read_szs hk1 (by omega)
        have hsn : (bs1.map Bs.sl).length ≤ 281474976710656 := by have h9 := hle1.2; rw [List.length_map] at h9; rw [List.length_map]; omega
        refine sc_region ?_
        refine st_v (ov_field (q := 2) rfl Try.underlying57 rfl sz31 rfl) rfl ?_
        refine st_v (ov_load1 rfl Try.underlying31 rfl ((hp.cells' (t := 16) rfl).at 2 (by simp) rfl)) rfl ?_
        refine st_v (v := .bool false) ((ov_neq rfl rfl).is ((by simp))) rfl ?_
        refine st_v (ov_move rfl) rfl ?_
        refine st_on (j := 3) rfl rfl ?_
        refine st_v (ov_field (q := 0) rfl Try.underlying57 rfl sz48 rfl) rfl ?_
        refine st_on (j := 3) rfl rfl ?_
        refine st_v (ov_load1 rfl Try.underlying48 rfl ((hp.cells' (t := 16) rfl).at 0 (by simp) rfl)) rfl ?_
        refine st_on (j := 3) rfl rfl ?_
        refine st_v (ov_len rfl Try.underlying48 rfl) rfl ?_
        refine st_on (j := 3) rfl rfl ?_
        refine st_v (v := .bool false) ((ov_neq rfl rfl).is ((by simp))) rfl ?_
        refine st_v (ov_pick_f rfl rfl) rfl ?_
        refine st_v (ov_move rfl) rfl ?_
        refine st_on (j := 9) rfl rfl ?_
        refine st_v (ov_field (q := 1) rfl Try.underlying57 rfl sz37 rfl) rfl ?_
        refine st_on (j := 9) rfl rfl ?_
        refine st_v (ov_load1 rfl Try.underlying37 rfl ((hp.cells' (t := 16) rfl).at 1 (by simp) rfl)) rfl ?_
        refine st_on (j := 9) rfl rfl ?_
        refine st_v (ov_move rfl) rfl ?_
        refine st_on (j := 9) rfl rfl ?_
        refine st_call pl22 rfl rfl rfl (sameb_walk (bs1.map Bs.sl) (sentL l l.length) _ _ _ _ _ (by rw [← map_v]; exact Rd.own (hp.own 92 _ rfl)) (Rd.own (hp.own 10 _ rfl)) (hp.rdAll (fun x hx => by have h9 := List.mem_map_of_mem (f := Bs.ck) hx; simp only [List.mem_append, h9, true_or, or_true]) hfit1) (rdAll_sent (a1.chg hp.chg)) (by rw [sl_bs]; exact hbs) (by simp) rfl hsz hsn) ?_
        rintro _ w ⟨rfl, hch⟩
        refine ⟨_, rfl, ?_⟩
        replace hp := hp.call hch
        clear hch
        refine st_on (j := 9) rfl rfl ?_
        refine st_v (ov_not rfl) rfl ?_
        refine st_v (ov_pick_f rfl rfl) rfl ?_
        refine st_nil ?_
        refine pn_then ?_
        refine sc_false rfl ?_
        refine sc_skip ?_
        refine pn_then ?_
        refine sc_seq ?_
        refine sc_region ?_
        refine st_v (ov_move rfl) rfl ?_
        refine st_call pl20 rfl rfl rfl (split_walk (catL l l.length ++ four m ++ more) _ _ _ (Rd.own (hp.own 9 _ rfl)) rfl (gcap1 hcb3) (by omega)) ?_
        rintro _ w ⟨g200, bs3, rfl, hL200, hc200, hbs200, hfit200⟩
        refine ⟨_, rfl, ?_⟩
        replace hp := hp.backX (o1 := [⟨g200.ob, bs3.map Bs.v ++ g200.sp, 26⟩]) [] [200] (by simp) rfl hL200 (by simp) rfl (by simp)
        clear hL200
        rw [hsp]
        rw [hsp] at hbs200
        refine st_v (ov_move rfl) rfl ?_
        refine st_v (ov_extract rfl rfl) rfl ?_
        refine st_v (ov_extract rfl rfl) rfl ?_
        refine st_v (ov_extract rfl rfl) rfl ?_
        refine st_v (ov_assign rfl) rfl ?_
        refine st_v (ov_assign rfl) rfl ?_
        refine st_v (ov_assign rfl) rfl ?_
        refine st_nil ?_
        refine pn_then ?_
        refine sc_seq ?_
        refine sc_seq ?_
        have hsz2 : ∀ s ∈ bs3.map Bs.sl, s.bs.length ≤ 281474976710656 := split_le (l := (catL l l.length ++ four m ++ more)) (by rw [hsp]; exact hbs200) (by omega)
        have hsn2 : (bs3.map Bs.sl).length ≤ 281474976710656 := split_le2 (l := (catL l l.length ++ four m ++ more)) (by rw [hsp]; exact hbs200) (by omega)
        refine sc_region ?_
        refine st_v (ov_move rfl) rfl ?_
        refine st_v (v := .bool false) ((ov_neq rfl rfl).is ((by simp))) rfl ?_
        refine st_v (ov_move rfl) rfl ?_
        refine st_on (j := 2) rfl rfl ?_
        refine st_v (ov_move rfl) rfl ?_
        refine st_on (j := 2) rfl rfl ?_
        refine st_v (ov_move rfl) rfl ?_
        refine st_on (j := 2) rfl rfl ?_
        refine st_v (v := .bool false) ((ov_neq rfl rfl).is ((by simp))) rfl ?_
        refine st_v (ov_pick_f rfl rfl) rfl ?_
        refine st_v (ov_move rfl) rfl ?_
        refine st_on (j := 7) rfl rfl ?_
        refine st_v (ov_move rfl) rfl ?_
        refine st_on (j := 7) rfl rfl ?_
        refine st_v (ov_move rfl) rfl ?_
        refine st_on (j := 7) rfl rfl ?_
        refine st_call pl22 rfl rfl rfl (sameb_walk (bs3.map Bs.sl) (sentL l l.length) _ _ _ _ _ (by rw [← map_v]; exact Rd.own (hp.own 200 _ rfl)) (Rd.own (hp.own 10 _ rfl)) (hp.rdAll (fun x hx => by have h9 := List.mem_map_of_mem (f := Bs.ck) hx; simp only [List.mem_append, h9, true_or, or_true]) hfit200) (rdAll_sent (a1.chg hp.chg)) (by rw [sl_bs]; exact hbs200) (by simp) rfl (fun s hs => hsz2 s hs) hsn2) ?_
        rintro _ w ⟨rfl, hch⟩
        refine ⟨_, rfl, ?_⟩
        replace hp := hp.call hch
        clear hch
        refine st_on (j := 7) rfl rfl ?_
        refine st_v (ov_not rfl) rfl ?_
        refine st_v (ov_pick_f rfl rfl) rfl ?_
        refine st_nil ?_
        refine pn_then ?_
        refine sc_false rfl ?_
        refine sc_skip ?_
        refine pn_then ?_
        refine sc_seq ?_
        refine sc_seq ?_
        refine sc_region ?_
        refine st_v (ov_assign rfl) rfl ?_
        refine st_nil ?_
        refine pn_then ?_
        refine sc_block ?_
        refine sc_loopH1 (α := Nat) (kv := [(3, _), (15, _)]) (kl := [(200, _), (16, _), (92, _), (91, _), (71, _), (70, _), (9, _), (76, _), (10, _)]) (fun k kv => (20, .int .i64 ((k : Nat) : Int)) :: kv) (fun k kl => kl) (fun k => (k ≤ 2)) (fun k => 2 - k) 0 hp (Sub.cons rfl (Sub.cons rfl (Sub.cons rfl (Sub.nil _)))) (LSub.cons rfl (LSub.cons rfl (LSub.cons rfl (LSub.cons rfl (LSub.cons rfl (LSub.cons rfl (LSub.cons rfl (LSub.cons rfl (LSub.cons rfl (LSub.nil _)))))))))) ?_ ?_
        · exact (by first | omega | (simp; done) | (simp; omega) | (simp [*]; omega))
        intro k w hp hx
        have hkk : k ≤ 2 := hx
        refine sc_seq ?_
        refine sc_seq ?_
        refine sc_region ?_
        refine st_v (ov_move rfl) rfl ?_
        refine st_v (ov_lss rfl rfl) rfl ?_
        refine st_nil ?_
        refine pn_then ?_
        refine sc_cond rfl (fun hc => ?_) (fun hc => ?_)
        ·
          have hc := of_decide_eq_true hc
          refine sc_skip ?_
          refine pn_then ?_
          refine sc_seq ?_
          refine sc_block ?_
          refine sc_seq ?_
          refine sc_seq ?_
          refine sc_region ?_
          refine st_v (ov_move rfl) rfl ?_
          refine st_call pl30 rfl rfl rfl (fault_walk r1 st1 g1 ([] : List UInt8).length want1 102 _ (hp.cells' (t := 70) rfl)) ?_
          rintro _ w ⟨rfl, hch⟩
          refine ⟨_, rfl, ?_⟩
          replace hp := hp.call hch
          clear hch
          refine st_v (v := .bool false) ((ov_neq rfl rfl).is ((by simp))) rfl ?_
          refine st_v (ov_move rfl) rfl ?_
          refine st_on (j := 3) rfl rfl ?_
          refine st_v (ov_move rfl) rfl ?_
          refine st_on (j := 3) rfl rfl ?_
          refine st_call pl28 rfl rfl rfl (held_walk r1 st1 g1 ([] : List UInt8).length want1 102 _ (hp.cells' (t := 70) rfl) (by simp)) ?_
          rintro _ w ⟨rfl, hch⟩
          refine ⟨_, rfl, ?_⟩
          replace hp := hp.call hch
          clear hch
          rw [if_neg (by omega)]
          refine st_on (j := 3) rfl rfl ?_
          refine st_v (v := .bool false) ((ov_neq rfl rfl).is ((by simp))) rfl ?_
          refine st_v (ov_pick_f rfl rfl) rfl ?_
          refine st_nil ?_
          refine pn_then ?_
          refine sc_false rfl ?_
          refine sc_skip ?_
          refine pn_then ?_
          refine sc_seq ?_
          refine sc_region ?_
          refine st_v (ov_move rfl) rfl ?_
          refine st_v (ov_move rfl) rfl ?_
          refine st_call pl25 rfl rfl rfl (push_broken r1 st1 g1 ([] : List UInt8).length want1 102 (by decide) _ _ (hp.cells' (t := 70) rfl)) ?_
          rintro _ w ⟨rfl, hch⟩
          refine ⟨_, rfl, ?_⟩
          replace hp := hp.call hch
          clear hch
          refine st_v (ov_move rfl) rfl ?_
          refine st_v (ov_extract rfl rfl) rfl ?_
          refine st_v (ov_extract rfl rfl) rfl ?_
          refine st_v (ov_extract rfl rfl) rfl ?_
          refine st_v (ov_assign rfl) rfl ?_
          refine st_v (ov_assign rfl) rfl ?_
          refine st_v (ov_assign rfl) rfl ?_
          refine st_nil ?_
          refine pn_then ?_
          refine sc_seq ?_
          refine sc_region ?_
          refine st_v (ov_move rfl) rfl ?_
          refine st_v (v := .bool false) ((ov_neq rfl rfl).is ((by simp))) rfl ?_
          refine st_v (ov_move rfl) rfl ?_
          refine st_on (j := 2) rfl rfl ?_
          refine st_v (ov_move rfl) rfl ?_
          refine st_on (j := 2) rfl rfl ?_
          refine st_v (ov_len rfl Try.underlying48 rfl) rfl ?_
          refine st_on (j := 2) rfl rfl ?_
          refine st_v (v := .bool false) ((ov_neq rfl rfl).is ((by simp))) rfl ?_
          refine st_v (ov_pick_f rfl rfl) rfl ?_
          refine st_v (ov_move rfl) rfl ?_
          refine st_on (j := 7) rfl rfl ?_
          refine st_v (ov_move rfl) rfl ?_
          refine st_on (j := 7) rfl rfl ?_
          refine st_v (ov_len rfl Try.underlying37 rfl) rfl ?_
          refine st_on (j := 7) rfl rfl ?_
          refine st_v (v := .bool false) ((ov_neq rfl rfl).is ((by simp))) rfl ?_
          refine st_v (ov_pick_f rfl rfl) rfl ?_
          refine st_nil ?_
          refine pn_then ?_
          refine sc_false rfl ?_
          refine sc_skip ?_
          refine pn_block ?_
          refine pn_then ?_
          refine sc_region ?_
          refine st_v (ov_move rfl) rfl ?_
          refine st_v (ov_add_n (a := k) (b := 1) rfl rfl (by omega)) rfl ?_
          refine st_v (ov_assign rfl) rfl ?_
          refine st_nil ?_
          refine pn_roundH1 (k + 1) hp (Sub.cons rfl (Sub.cons rfl (Sub.cons rfl (Sub.nil _)))) ?_ (LSub.cons rfl (LSub.cons rfl (LSub.cons rfl (LSub.cons rfl (LSub.cons rfl (LSub.cons rfl (LSub.cons rfl (LSub.cons rfl (LSub.cons rfl (LSub.nil _)))))))))) ?_
          · omega
          exact (by first | omega | (simp; done) | (simp; omega) | (simp [*]; omega))
        ·
          have hc := of_decide_eq_false hc
          refine sc_exit ?_
          refine pe_then ?_
          refine pe_then ?_
          refine pe_hit ?_
          refine pn_then ?_
          refine sc_seq ?_
          refine sc_region ?_
          refine st_v (ov_assign rfl) rfl ?_
          refine st_nil ?_
          refine pn_then ?_
          refine sc_ret ?_
          refine pr_one rfl rfl ?_
          exact ⟨rfl, hp.chg⟩

end Go.Proofs.Ythebbenfmoknbaa

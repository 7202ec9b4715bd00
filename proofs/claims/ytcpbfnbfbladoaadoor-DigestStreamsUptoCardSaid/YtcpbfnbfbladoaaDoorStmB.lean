/-
  Streams that may be none.
-/
import Derived.Test.YtcpbfnbfbladoaaDoorStmA
namespace Go.Proofs.YtcpbfnbfbladoaaDoor
open Go Go.RowKit

theorem len_opt (p : Option Ps) (w0 : World) (ho : OkO p) (hA : ∀ c ∈ pA p, Blk w0 c) : Calls Tryd.prog 28 #[ptA p] w0 fun e w' => e = .returned (.int .i64 (lenO p)) ∧ Chg [] w0 w' := by
  cases p with
  | none => exact len_nil w0
  | some q =>
    obtain ⟨h0, hS, hbf, hle, hcg⟩ := ho q rfl
    exact len_walk q.bs q.bf q.st q.text q.tl w0 (by rw [hS.state]; exact foldB_len _ _ h0 _) (hA _ (List.mem_singleton.2 rfl))
theorem lenr_opt (p : Option Ps) (w0 : World) (ho : OkO p) (hB : ∀ c ∈ pB p, Blk w0 c) : Calls Tryd.prog 29 #[ptB p] w0 fun e w' => e = .returned (.int .i64 (lenO p)) ∧ Chg [] w0 w' := by
  cases p with
  | none => exact lenr_nil w0
  | some q =>
    obtain ⟨h0, hS, hbf, hle, hcg⟩ := ho q rfl
    exact lenr_walk q.br q.bf q.st0 q.text q.g w0 h0 (hB _ (by simp [pB, rsk])) hle
theorem sum_opt (p : Option Ps) (w0 : World) (ho : OkO p) (hA : ∀ c ∈ pA p, Blk w0 c) (hk : Cells w0 0 0 (kL.map B32)) : Calls Tryd.prog 33 #[ptA p] w0 fun e w' => e = .returned (.agg ((sumO p).map B8).toArray) ∧ Chg [] w0 w' := by
  cases p with
  | none => exact sums_nil w0
  | some q =>
    obtain ⟨h0, hS, hbf, hle, hcg⟩ := ho q rfl
    exact sums_walk q.bs q.bf q.st0 q.st q.tl q.text w0 h0 hS hbf (hA _ (List.mem_singleton.2 rfl)) hle hk
theorem sumq_opt (p : Option Ps) (w0 : World) (ho : OkO p) (hB : ∀ c ∈ pB p, Blk w0 c) (hz : ∀ q, p = some q → q.text.length ≤ 140737488351232) : Calls Tryd.prog 34 #[ptB p] w0 fun e w' => e = .returned (.agg ((sumO p).map B8).toArray) ∧ Chg [] w0 w' := by
  cases p with
  | none => exact sumq_nil w0
  | some q =>
    obtain ⟨h0, hS, hbf, hle, hcg⟩ := ho q rfl
    exact sumq_walk q.br q.bf q.st0 q.text q.g w0 h0 (hB _ (by simp [pB, rsk])) (hB _ (by simp [pB, rsk])) hle (hz q rfl)
theorem mid_opt (p : Option Ps) (w0 : World) (ho : OkO p) (hA : ∀ c ∈ pA p, Blk w0 c) : Calls Tryd.prog 31 #[ptA p] w0 fun e w' => ∃ g : Gs, e = .returned (.agg (midc (mS p) (lenO p) (adr g.ob) (mT p).length g.cap).toArray) ∧ Mk w0 w' 5 1 ((mT p).map B8) g := by
  cases p with
  | none => exact (mid_nil w0).mono fun e w' h => ⟨gnil, h.1, Mk.of_made ⟨h.2, Blk.nil w' _, (fun b hb => by simp [gnil] at hb), by simp [mT]⟩⟩
  | some q =>
    obtain ⟨h0, hS, hbf, hle, hcg⟩ := ho q rfl
    refine (mid_walk q.bs q.bf q.st0 q.st q.text q.tl w0 h0 hS hbf (hA _ (List.mem_singleton.2 rfl)) hle).mono fun e w' ⟨g, h1, h2⟩ => ⟨g, ?_, h2⟩
    rw [h1, ← tailOf_len]; rfl
theorem midr_opt (p : Option Ps) (w0 : World) (ho : OkO p) (hB : ∀ c ∈ pB p, Blk w0 c) (hz : ∀ q, p = some q → q.text.length ≤ 140737488351232) : Calls Tryd.prog 32 #[ptB p] w0 fun e w' => ∃ g : Gs, e = .returned (.agg (midc (mS p) (lenO p) (adr g.ob) (mT p).length g.cap).toArray) ∧ Mk w0 w' 5 1 ((mT p).map B8) g := by
  cases p with
  | none => exact (midr_nil w0).mono fun e w' h => ⟨gnil, h.1, Mk.of_made ⟨h.2, Blk.nil w' _, (fun b hb => by simp [gnil] at hb), by simp [mT]⟩⟩
  | some q =>
    obtain ⟨h0, hS, hbf, hle, hcg⟩ := ho q rfl
    refine (midr_walk q.br q.bf q.st0 q.text q.g w0 h0 (hB _ (by simp [pB, rsk])) (hB _ (by simp [pB, rsk])) hle (hz q rfl)).mono fun e w' ⟨g, h1, h2⟩ => ⟨g, ?_, h2⟩
    rw [h1, ← tailOf_len]; rfl
theorem fork_opt (p : Option Ps) (w0 : World) (ho : OkO p) (hA : ∀ c ∈ pA p, Blk w0 c) : Calls Tryd.prog 43 #[ptA p] w0 fun e w' => ∃ b, e = .returned (ptA (p.map fun q => { q with bs := b })) ∧ Left w0 w' [] (pA (p.map fun q => { q with bs := b })) := by
  cases p with
  | none => exact (fork_nil w0).mono fun e w' h => ⟨0, h.1, Left.of_chg h.2⟩
  | some q =>
    obtain ⟨h0, hS, hbf, hle, hcg⟩ := ho q rfl
    exact fork_walk q.bs (q.bf + q.text.length) q.st q.tl w0 (by rw [hS.state]; exact foldB_len _ _ h0 _) hS.len (hA _ (List.mem_singleton.2 rfl))
theorem forkr_opt (p : Option Ps) (w0 : World) (ho : OkO p) (hB : ∀ c ∈ pB p, Blk w0 c) (hz : ∀ q, p = some q → q.text.length ≤ 140737488351232) : Calls Tryd.prog 44 #[ptB p] w0 fun e w' => ∃ b g', e = .returned (ptB (p.map fun q => { q with br := b, g := g' })) ∧ Left w0 w' [] (pB (p.map fun q => { q with br := b, g := g' })) ∧ ∀ q, p = some q → (q.text.map B8 ++ g'.sp).length = g'.cap * 1 := by
  cases p with
  | none => exact (forkr_nil w0).mono fun e w' h => ⟨0, gnil, h.1, Left.of_chg h.2, fun q h => by cases h⟩
  | some q =>
    obtain ⟨h0, hS, hbf, hle, hcg⟩ := ho q rfl
    refine (forkr_walk q.br q.bf q.st0 q.text q.g w0 h0 (hB _ (by simp [pB, rsk])) (hB _ (by simp [pB, rsk])) (hz q rfl)).mono fun e w' ⟨b, g', h1, h2, h3⟩ => ⟨b, g', h1, h2, fun q' hq => ?_⟩
    obtain rfl := Option.some.inj hq
    exact h3
theorem write_opt (p : Option Ps) (b : List UInt8) {nb : Nat} (ao : Option Addr) (ca : Nat) (w0 : World) (ho : OkO p) (hO : Owns w0 (pA p)) (h1 : Rd w0 ao (b.map B8)) (hb : b.length = nb) (hca : b.length ≤ ca) (hoff : Offs (pA p) ao (b.map B8)) (hzb : b.length ≤ 140737488351232) (hk : Cells w0 0 0 (kL.map B32)) (hkb : 0 ∉ blks (pA p)) :
    Calls Tryd.prog 35 #[ptA p, .slice ao nb ca] w0 fun e w' => e = .returned (.int .i64 (wE p b)) ∧ ∃ st tl, Left w0 w' (pA p) (pA (p.map (wA b st tl))) ∧ ∀ q, p = some q → Stands q.st0 (wrote q.bf q.text b) st tl := by
  cases p with
  | none => exact (write_nil ao nb ca w0).mono fun e w' h => ⟨h.1, [], [], Left.of_chg h.2, fun q h => by cases h⟩
  | some q =>
    obtain ⟨h0, hS, hbf, hle, hcg⟩ := ho q rfl
    refine (write_walk q.bs q.bf q.st0 q.st q.text q.tl b ao ca w0 h0 hS hbf (hO.blk _ (List.mem_singleton.2 rfl)) h1 hb hca (fun a e hn => hoff q.bs (by simp [pA, blks]) a e hn) hle hzb hk (fun e => hkb (by rw [← e]; simp [pA, blks]))).mono fun e w' ⟨he, hc, st, tl, hB, hS'⟩ => ⟨he, st, tl, ⟨?_, ?_, ?_⟩, fun q' hq => ?_⟩
    · exact hc
    · exact Owns.one hB
    · intro x hx; right; exact hx
    · obtain rfl := Option.some.inj hq; exact hS'
theorem writer_opt (p : Option Ps) (b : List UInt8) {nb : Nat} (ao : Option Addr) (ca : Nat) (w0 : World) (ho : OkO p) (hO : Owns w0 (pB p)) (h1 : Rd w0 ao (b.map B8)) (hb : b.length = nb) (hoff : Offs (pB p) ao (b.map B8)) (hz : ∀ q, p = some q → q.text.length + b.length ≤ 70368744177664) :
    Calls Tryd.prog 36 #[ptB p, .slice ao nb ca] w0 fun e w' => e = .returned (.int .i64 (wE p b)) ∧ ∃ g', Left w0 w' (pB p) (pB (p.map (wB b g'))) ∧ ∀ q, p = some q → ((wrote q.bf q.text b).map B8 ++ g'.sp).length = g'.cap * 1 := by
  cases p with
  | none => exact (writer_nil ao nb ca w0).mono fun e w' h => ⟨h.1, gnil, Left.of_chg h.2, fun q h => by cases h⟩
  | some q =>
    obtain ⟨h0, hS, hbf, hle, hcg⟩ := ho q rfl
    refine (writer_walk q.br q.bf q.st0 q.text q.g b ao ca w0 h0 hO hcg h1 hoff hb hle (hz q rfl)).mono fun e w' ⟨he, g', hL, hcg'⟩ => ⟨he, g', hL, fun q' hq => ?_⟩
    obtain rfl := Option.some.inj hq
    exact hcg'
theorem resume_opt (mst : List UInt32) (hst : mst.length = 8) (md : Int) (mt : List UInt8) {n : Nat} (mao : Option Addr) (mca : Nat) (w0 : World) (hm : Rd w0 mao (mt.map B8)) (hn : mt.length = n) (hmz : mt.length ≤ 140737488351232) (hk : Cells w0 0 0 (kL.map B32)) (hf : Cells w0 1 0 (fL.map B32)) :
    Calls Tryd.prog 26 #[.agg (midc mst md mao n mca).toArray] w0 fun e w' => ∃ b tl, e = .returned (.tuple #[ptA (rO b 0 mst md mt tl gnil), .int .i64 (rE mst md mt)]) ∧ Left w0 w' [] (pA (rO b 0 mst md mt tl gnil)) ∧ (¬ midBad mst md mt → Stands mst mt mst tl) := by
  subst hn
  refine (resume_walk mst hst md mt mao mca w0 hm hmz hk hf).mono fun e w' h => ?_
  rcases h with ⟨hb, h1, h2⟩ | ⟨hb, b, tl, h1, h2, h3⟩
  · refine ⟨0, [], ?_, ?_, fun h => absurd hb h⟩
    · rw [h1]; unfold rO rE; rw [if_pos hb, if_pos hb]; rfl
    · unfold rO; rw [if_pos hb]; exact Left.of_chg h2
  · obtain ⟨bf, hmd, _⟩ := mid_good hb
    refine ⟨b, tl, ?_, ?_, fun _ => h3⟩
    · rw [h1]; unfold rO rE; rw [if_neg hb, if_neg hb]; rfl
    · unfold rO; rw [if_neg hb]
      show Left w0 w' [] [⟨some b, strm mst (md.toNat - mt.length + mt.length) tl, _⟩]
      rw [show md.toNat - mt.length + mt.length = md.toNat by omega]
      exact h2
theorem resumer_opt (mst : List UInt32) (hst : mst.length = 8) (md : Int) (mt : List UInt8) {n : Nat} (mao : Option Addr) (mca : Nat) (w0 : World) (hm : Rd w0 mao (mt.map B8)) (hn : mt.length = n) (hmz : mt.length ≤ 140737488351232) :
    Calls Tryd.prog 27 #[.agg (midc mst md mao n mca).toArray] w0 fun e w' => ∃ b g, e = .returned (.tuple #[ptB (rO 0 b mst md mt [] g), .int .i64 (rE mst md mt)]) ∧ Left w0 w' [] (pB (rO 0 b mst md mt [] g)) ∧ (¬ midBad mst md mt → (mt.map B8 ++ g.sp).length = g.cap * 1) := by
  subst hn
  refine (resumer_walk mst hst md mt mao mca w0 hm hmz).mono fun e w' h => ?_
  rcases h with ⟨hb, h1, h2⟩ | ⟨hb, b, g, h1, h2, h3⟩
  · refine ⟨0, gnil, ?_, ?_, fun h => absurd hb h⟩
    · rw [h1]; unfold rO rE; rw [if_pos hb, if_pos hb]; rfl
    · unfold rO; rw [if_pos hb]; exact Left.of_chg h2
  · refine ⟨b, g, ?_, ?_, fun _ => h3⟩
    · rw [h1]; unfold rO rE; rw [if_neg hb, if_neg hb]; rfl
    · unfold rO; rw [if_neg hb]; exact h2

end Go.Proofs.YtcpbfnbfbladoaaDoor

/-
  Pairs of streams, in plain terms.
-/
import Derived.Test.YtcpbfnbfbladoaaDoorResP
namespace Go.Proofs.YtcpbfnbfbladoaaDoor
open Go Go.RowKit

/-- Two streams of one text: the program's, the plain one. -/
structure Ps where
  bs : Nat
  br : Nat
  bf : Nat
  st0 : List UInt32
  st : List UInt32
  text : List UInt8
  tl : List UInt8
  g : Gs
def Ps.ok (q : Ps) : Prop := q.st0.length = 8 ∧ Stands q.st0 q.text q.st q.tl ∧ q.bf % 64 = 0 ∧ q.bf + q.text.length ≤ 2305843009213693951 ∧ (q.text.map B8 ++ q.g.sp).length = q.g.cap * 1
def OkO (p : Option Ps) : Prop := ∀ q, p = some q → q.ok
def pA (p : Option Ps) : List Ck := match p with
  | none => []
  | some q => [⟨some q.bs, strm q.st (q.bf + q.text.length) q.tl, 91⟩]
def pB (p : Option Ps) : List Ck := match p with
  | none => []
  | some q => rsk q.br q.bf q.st0 q.text q.g
def pks (p : Option Ps) : List Ck := pA p ++ pB p
def ptA (p : Option Ps) : Value := .pointer (p.map fun q => ⟨q.bs, 0, none⟩)
def ptB (p : Option Ps) : Value := .pointer (p.map fun q => ⟨q.br, 0, none⟩)
def lenO (p : Option Ps) : Int := match p with
  | none => 0
  | some q => ((q.bf + q.text.length : Nat) : Int)
def sumO (p : Option Ps) : List UInt8 := match p with
  | none => List.replicate 32 0
  | some q => endOf q.st0 q.bf q.text
theorem sumO_len (p : Option Ps) : (sumO p).length = 32 := by cases p <;> simp [sumO, endOf_len]
def mS (p : Option Ps) : List UInt32 := match p with
  | none => List.replicate 8 0
  | some q => foldT q.st0 q.text
def mT (p : Option Ps) : List UInt8 := match p with
  | none => []
  | some q => tailOf q.text
theorem mS_len {p : Option Ps} (h : OkO p) : (mS p).length = 8 := by
  cases p with
  | none => simp [mS]
  | some q => exact foldB_len _ _ (h q rfl).1 _
theorem mT_len (p : Option Ps) : (mT p).length < 64 := by
  cases p with
  | none => simp [mT]
  | some q => simp only [mT]; rw [tailOf_len]; omega
def wE (p : Option Ps) (b : List UInt8) : Int := match p with
  | none => 1
  | some q => wroteE q.bf q.text b
def wA (b : List UInt8) (st : List UInt32) (tl : List UInt8) (q : Ps) : Ps := { q with st := st, tl := tl, text := wrote q.bf q.text b }
def wB (b : List UInt8) (g : Gs) (q : Ps) : Ps := { q with text := wrote q.bf q.text b, g := g }
def wAB (b : List UInt8) (st : List UInt32) (tl : List UInt8) (g : Gs) (q : Ps) : Ps := { q with st := st, tl := tl, text := wrote q.bf q.text b, g := g }
theorem wA_eq (p : Option Ps) (b : List UInt8) (st : List UInt32) (tl : List UInt8) (g : Gs) : pA (p.map (wA b st tl)) = pA (p.map (wAB b st tl g)) := by cases p <;> rfl
theorem wB_eq (p : Option Ps) (b : List UInt8) (st : List UInt32) (tl : List UInt8) (g : Gs) : pB (p.map (wB b g)) = pB (p.map (wAB b st tl g)) := by cases p <;> rfl
theorem w_ptA (p : Option Ps) (b : List UInt8) (st : List UInt32) (tl : List UInt8) (g : Gs) : ptA (p.map (wAB b st tl g)) = ptA p := by cases p <;> rfl
theorem w_ptB (p : Option Ps) (b : List UInt8) (st : List UInt32) (tl : List UInt8) (g : Gs) : ptB (p.map (wAB b st tl g)) = ptB p := by cases p <;> rfl
/-- What Resume makes. -/
def rS (b br : Nat) (mst : List UInt32) (md : Int) (mt tl : List UInt8) (g : Gs) : Ps := ⟨b, br, md.toNat - mt.length, mst, mst, mt, tl, g⟩
open Classical in
noncomputable def rO (b br : Nat) (mst : List UInt32) (md : Int) (mt tl : List UInt8) (g : Gs) : Option Ps := if midBad mst md mt then none else some (rS b br mst md mt tl g)
open Classical in
noncomputable def rE (mst : List UInt32) (md : Int) (mt : List UInt8) : Int := if midBad mst md mt then 12 else 0
theorem rO_A (b br br' : Nat) (mst : List UInt32) (md : Int) (mt tl : List UInt8) (g g' : Gs) : pA (rO b br mst md mt tl g) = pA (rO b br' mst md mt tl g') ∧ ptA (rO b br mst md mt tl g) = ptA (rO b br' mst md mt tl g') := by
  unfold rO; split <;> exact ⟨rfl, rfl⟩
theorem rO_B (b b' br : Nat) (mst : List UInt32) (md : Int) (mt tl tl' : List UInt8) (g : Gs) : pB (rO b br mst md mt tl g) = pB (rO b' br mst md mt tl' g) ∧ ptB (rO b br mst md mt tl g) = ptB (rO b' br mst md mt tl' g) := by
  unfold rO; split <;> exact ⟨rfl, rfl⟩
/-! Lists of streams. -/
theorem flat_set_perm {α : Type} (f : α → List Ck) : ∀ (l : List α) (i : Nat) (q z : α), i < l.length → (l.flatMap f ++ f q).Perm ((l.set i q).flatMap f ++ f (l.getD i z))
  | [], _, _, _, h => by simp at h
  | x :: l, 0, q, z, _ => by
    simp only [List.set_cons_zero, List.flatMap_cons, List.getD_cons_zero]
    have h1 : (f x ++ l.flatMap f ++ f q).Perm (l.flatMap f ++ f q ++ f x) := by rw [List.append_assoc]; exact List.perm_append_comm
    have h2 : (l.flatMap f ++ f q ++ f x).Perm (f q ++ l.flatMap f ++ f x) := List.perm_append_comm.append_right _
    exact h1.trans h2
  | x :: l, i + 1, q, z, h => by
    simp only [List.set_cons_succ, List.flatMap_cons, List.getD_cons_succ, List.append_assoc]
    exact (flat_set_perm f l i q z (by simpa using h)).append_left _
theorem flat_open_perm {α : Type} (f : α → List Ck) : ∀ (l : List α) (i : Nat) (z : α), i < l.length → (l.flatMap f).Perm ((l.eraseIdx i).flatMap f ++ f (l.getD i z))
  | [], _, _, h => by simp at h
  | x :: l, 0, z, _ => by
    simp only [List.eraseIdx_cons_zero, List.flatMap_cons, List.getD_cons_zero]
    exact List.perm_append_comm
  | x :: l, i + 1, z, h => by
    simp only [List.eraseIdx_cons_succ, List.flatMap_cons, List.getD_cons_succ, List.append_assoc]
    exact (flat_open_perm f l i z (by simpa using h)).append_left _
theorem erase_set {α : Type} : ∀ (l : List α) (i : Nat) (q : α), (l.set i q).eraseIdx i = l.eraseIdx i
  | [], _, _ => by simp
  | x :: l, 0, q => by simp
  | x :: l, i + 1, q => by simp only [List.set_cons_succ, List.eraseIdx_cons_succ]; rw [erase_set l i q]
theorem getD_set {α : Type} {l : List α} {i : Nat} {q z : α} (h : i < l.length) : (l.set i q).getD i z = q := by
  rw [List.getD, List.getElem?_set_self h]; rfl
section
variable {w0 w w' : World} {S : List Nat} {L : Lk} {X X' Y Y' : List Ck}
theorem Hp.permX (h : Hp w0 S L X w) (hp : X.Perm X') : Hp w0 S L X' w :=
  ⟨h.chg, h.own, h.mine, h.apart, fun c hc => h.ownX c (hp.mem_iff.2 hc), fun c hc => h.mineX c (hp.mem_iff.2 hc), ((hp.filterMap Ck.b).nodup_iff).1 h.apartX, fun t c b ht hb hm => h.apartLX t c b ht hb ((hp.filterMap Ck.b).mem_iff.2 hm)⟩
theorem Hp.dropX (h : Hp w0 S L (X ++ Y) w) : Hp w0 S L X w := by
  refine ⟨h.chg, h.own, h.mine, h.apart, fun c hc => h.ownX c (List.mem_append_left _ hc), fun c hc => h.mineX c (List.mem_append_left _ hc), ?_, fun t c b ht hb hm => h.apartLX t c b ht hb ?_⟩
  · have := h.apartX
    rw [show List.filterMap Ck.b (X ++ Y) = blks X ++ blks Y from blks_app _ _, List.nodup_append] at this
    exact this.1
  · rw [show List.filterMap Ck.b (X ++ Y) = blks X ++ blks Y from blks_app _ _]
    exact List.mem_append_left _ hm
theorem Hp.ownsY (h : Hp w0 S L (Y' ++ Y) w) : Owns w Y := by
  refine ⟨fun c hc => h.ownX c (List.mem_append_right _ hc), ?_⟩
  have := h.apartX
  rw [show List.filterMap Ck.b (Y' ++ Y) = blks Y' ++ blks Y from blks_app _ _, List.nodup_append] at this
  exact this.2.1
theorem Hp.offsY {ao : Option Addr} {cs : List Value} (h : Hp w0 [] L (Y' ++ Y) w) (hr : Rd w0 ao cs) : Offs Y ao cs := by
  refine Offs.of_new hr fun b hb => ?_
  obtain ⟨k, c, hk, hc⟩ := mem_blks' hb
  rcases h.mineX c (List.mem_append_right _ (List.mem_of_getElem? hk)) b hc with h9 | h9
  · exact h9
  · simp at h9
theorem Hp.offYt {t : Nat} {ob : Option Nat} {cs ds : List Value} {E : TypeId} (h : Hp w0 S L (Y' ++ Y) w) (hL : lc L t = some ⟨ob, cs, E⟩) : Offs Y (adr ob) ds := fun b hb a e _ => by
  cases ob with
  | none => cases e
  | some o =>
    obtain rfl := Option.some.inj e
    intro hob
    refine h.apartLX t _ o hL rfl ?_
    rw [show List.filterMap Ck.b (Y' ++ Y) = blks Y' ++ blks Y from blks_app _ _]
    exact List.mem_append_right _ (by rw [show o = b from hob]; exact hb)
theorem Hp.notinY {b off : Nat} {cs : List Value} (h : Hp w0 [] L (Y' ++ Y) w) (hk : Cells w0 b off cs) (hne : cs ≠ []) : b ∉ blks Y := fun hm => by
  obtain ⟨k, c, hk2, hc⟩ := mem_blks' hm
  have := hk.lt hne
  rcases h.mineX c (List.mem_append_right _ (List.mem_of_getElem? hk2)) b hc with h9 | h9
  · omega
  · simp at h9
/-- A place gets other streams, that are new. -/
theorem Hp.setX {ps : List (Option Ps)} {N : List Ck} (h : Hp w0 S L (ps.flatMap pks ++ N) w) (i : Nat) (hi : i < ps.length) (q : Option Ps) (hN : pks q = N) : Hp w0 S L ((ps.set i q).flatMap pks) w := by
  subst hN
  exact (h.permX (flat_set_perm pks ps i q none hi)).dropX
theorem Hp.openX {ps : List (Option Ps)} (h : Hp w0 S L (ps.flatMap pks) w) (i : Nat) (hi : i < ps.length) {p : Option Ps} (hp : ps.getD i none = p) : Hp w0 S L (((ps.eraseIdx i).flatMap pks ++ pB p) ++ pA p) w := by
  subst hp
  refine h.permX ((flat_open_perm pks ps i none hi).trans ?_)
  unfold pks
  rw [List.append_assoc]
  exact (List.perm_append_comm).append_left _
theorem Hp.swapX {A B C : List Ck} (h : Hp w0 S L ((A ++ B) ++ C) w) : Hp w0 S L ((A ++ C) ++ B) w := by
  refine h.permX ?_
  rw [List.append_assoc, List.append_assoc]
  exact (List.perm_append_comm).append_left _
theorem Hp.closeX {ps : List (Option Ps)} {i : Nat} {p : Option Ps} (h : Hp w0 S L (((ps.eraseIdx i).flatMap pks ++ pA p) ++ pB p) w) (hi : i < ps.length) : Hp w0 S L ((ps.set i p).flatMap pks) w := by
  have h1 := flat_open_perm pks (ps.set i p) i none (by simpa using hi)
  rw [erase_set, getD_set hi] at h1
  refine h.permX (List.Perm.trans ?_ h1.symm)
  unfold pks
  rw [List.append_assoc]
end
theorem mem_pA {ps : List (Option Ps)} {i : Nat} (hi : i < ps.length) {p : Option Ps} (hp : ps.getD i none = p) {c : Ck} (hc : c ∈ pA p) : c ∈ ps.flatMap pks := by
  subst hp
  exact List.mem_flatMap.2 ⟨_, getD_mem hi _, List.mem_append_left _ hc⟩
theorem mem_pB {ps : List (Option Ps)} {i : Nat} (hi : i < ps.length) {p : Option Ps} (hp : ps.getD i none = p) {c : Ck} (hc : c ∈ pB p) : c ∈ ps.flatMap pks := by
  subst hp
  exact List.mem_flatMap.2 ⟨_, getD_mem hi _, List.mem_append_right _ hc⟩
/-- A step of a script. -/
structure So where
  kind : Int
  at_ : Int
  to_ : Int
  d : Sl
  mst : List UInt32
  hm : mst.length = 8
  md : Int
  m : Sl
def socs (o : So) : List Value := [Value.int .i64 o.kind, .int .i64 o.at_, .int .i64 o.to_, o.d.v] ++ midc o.mst o.md o.m.ao o.m.bs.length o.m.cap
theorem socs_len (o : So) : (socs o).length = 14 := by unfold socs; rw [List.length_append, midc_len o.hm]; rfl
theorem socs_one (o : So) : ∀ u ∈ socs o, u.oneCell' = true := fun u hu => by
  rcases List.mem_append.1 hu with h | h
  · simp at h; rcases h with rfl | rfl | rfl | rfl <;> rfl
  · exact midc_one u h
abbrev soz : So := ⟨0, 0, 0, ⟨none, [], 0⟩, List.replicate 8 0, List.length_replicate, 0, ⟨none, [], 0⟩⟩
def RdSo (w : World) (l : List So) : Prop := ∀ o ∈ l, (Rd w o.d.ao (o.d.bs.map B8) ∧ o.d.bs.length ≤ o.d.cap) ∧ (Rd w o.m.ao (o.m.bs.map B8) ∧ o.m.bs.length ≤ o.m.cap)
def dlen (o : So) : Nat := o.d.bs.length
theorem sum_take_le (l : List Nat) (i : Nat) : (l.take i).sum ≤ l.sum := by
  have : l.sum = (l.take i).sum + (l.drop i).sum := by rw [← List.sum_append, List.take_append_drop]
  omega
theorem so_0 {w : World} {b : Nat} {o : So} (h : Cells w b 0 (socs o)) : w.cell? ⟨b, 0, none⟩ = some (.int .i64 o.kind) := h 0 _ rfl
theorem so_1 {w : World} {b : Nat} {o : So} (h : Cells w b 0 (socs o)) : w.cell? ⟨b, 1, none⟩ = some (.int .i64 o.at_) := h 1 _ rfl
theorem so_2 {w : World} {b : Nat} {o : So} (h : Cells w b 0 (socs o)) : w.cell? ⟨b, 2, none⟩ = some (.int .i64 o.to_) := h 2 _ rfl
theorem so_3 {w : World} {b : Nat} {o : So} (h : Cells w b 0 (socs o)) : w.cell? ⟨b, 3, none⟩ = some (.slice o.d.ao o.d.bs.length o.d.cap) := h 3 _ rfl
theorem so_4 {w : World} {b : Nat} {o : So} (h : Cells w b 0 (socs o)) : Cells w b 4 (midc o.mst o.md o.m.ao o.m.bs.length o.m.cap) := Cells.right (cs := [Value.int .i64 o.kind, .int .i64 o.at_, .int .i64 o.to_, o.d.v]) h
theorem dlen_le {o : So} : ∀ {l : List So}, o ∈ l → dlen o ≤ (l.map dlen).sum
  | [], h => by cases h
  | x :: l, h => by
    rw [List.map_cons, List.sum_cons]
    rcases List.mem_cons.1 h with rfl | h
    · omega
    · have := dlen_le h; omega
theorem take_sum_succ {l : List So} {i : Nat} (h : i < l.length) : ((l.map dlen).take (i + 1)).sum = ((l.map dlen).take i).sum + dlen (l.getD i soz) := by
  rw [List.take_add_one, List.sum_append, List.getElem?_map, List.getElem?_eq_getElem h, List.getD, List.getElem?_eq_getElem h]
  simp
theorem all_set {ps : List (Option Ps)} {R : Option Ps → Prop} (h : ∀ p ∈ ps, R p) {q : Option Ps} (hq : R q) (a : Nat) : ∀ p ∈ ps.set a q, R p := fun p hp => by
  rcases List.mem_or_eq_of_mem_set hp with h1 | h1
  · exact h p h1
  · rw [h1]; exact hq
theorem map_set_eq {ps : List (Option Ps)} {f : Option Ps → Value} {a : Nat} {u v : Option Ps} (h : f u = f v) : (ps.set a u).map f = (ps.set a v).map f := by rw [List.map_set, List.map_set, h]
theorem ok_new (b br : Nat) : OkO (some ⟨b, br, 0, fL, fL, [], List.replicate 64 0, gnil⟩) := fun q hq => by
  obtain rfl := Option.some.inj hq
  exact ⟨rfl, stands_nil _ _ (by simp), rfl, by simp, rfl⟩
theorem ok_write {p : Option Ps} (h : OkO p) {b : List UInt8} {st : List UInt32} {tl : List UInt8} {g : Gs} (h1 : ∀ q, p = some q → Stands q.st0 (wrote q.bf q.text b) st tl) (h2 : ∀ q, p = some q → ((wrote q.bf q.text b).map B8 ++ g.sp).length = g.cap * 1) : OkO (p.map (wAB b st tl g)) := fun q hq => by
  cases p with
  | none => cases hq
  | some q0 =>
    obtain rfl := Option.some.inj hq
    obtain ⟨h0, hS, hbf, hle, hcg⟩ := h q0 rfl
    exact ⟨h0, h1 q0 rfl, hbf, wrote_le hle, h2 q0 rfl⟩
theorem ok_fork {p : Option Ps} (h : OkO p) {b br : Nat} {g : Gs} (h2 : ∀ q, p = some q → (q.text.map B8 ++ g.sp).length = g.cap * 1) : OkO (p.map fun q => { q with bs := b, br := br, g := g }) := fun q hq => by
  cases p with
  | none => cases hq
  | some q0 =>
    obtain rfl := Option.some.inj hq
    obtain ⟨h0, hS, hbf, hle, hcg⟩ := h q0 rfl
    exact ⟨h0, hS, hbf, hle, h2 q0 rfl⟩
theorem rO_none (b br b' br' : Nat) (mst : List UInt32) (md : Int) (mt tl tl' : List UInt8) (g g' : Gs) : (rO b br mst md mt tl g).isNone = (rO b' br' mst md mt tl' g').isNone := by
  unfold rO; split <;> rfl
theorem rO_some {b br : Nat} {mst : List UInt32} {md : Int} {mt tl : List UInt8} {g : Gs} {q : Ps} (h : rO b br mst md mt tl g = some q) : ¬ midBad mst md mt ∧ q = rS b br mst md mt tl g := by
  unfold rO at h
  split at h
  · cases h
  · rename_i h1; exact ⟨h1, (Option.some.inj h).symm⟩
theorem ok_resume {b br : Nat} {mst : List UInt32} {md : Int} {mt tl : List UInt8} {g : Gs} (h8 : mst.length = 8) (hS : ¬ midBad mst md mt → Stands mst mt mst tl) (hc : ¬ midBad mst md mt → (mt.map B8 ++ g.sp).length = g.cap * 1) : OkO (rO b br mst md mt tl g) ∧ ∀ q, rO b br mst md mt tl g = some q → q.text.length ≤ 64 := by
  refine ⟨fun q hq => ?_, fun q hq => ?_⟩
  · obtain ⟨h1, rfl⟩ := rO_some hq
    obtain ⟨bf, hmd, hbf, htl, hle, _⟩ := mid_good h1
    refine ⟨h8, hS h1, ?_, ?_, hc h1⟩
    · show (md.toNat - mt.length) % 64 = 0
      rw [hmd, Int.toNat_natCast, Nat.add_sub_cancel]; exact hbf
    · show md.toNat - mt.length + mt.length ≤ _
      omega
  · obtain ⟨h1, rfl⟩ := rO_some hq
    obtain ⟨bf, hmd, hbf, htl, hle, _⟩ := mid_good h1
    show mt.length ≤ 64
    omega
def plc (n : Int) : Nat := (n % 4).toNat
theorem plc_lt (n : Int) : plc n < 4 := by unfold plc; omega
theorem tmod4 (n : Int) : (if n.tmod 4 < 0 then n.tmod 4 + 4 else n.tmod 4) = ((plc n : Nat) : Int) := by
  unfold plc
  rcases (by omega : n < 0 ∨ 0 ≤ n) with h | h
  · obtain ⟨k, rfl⟩ : ∃ k : Nat, n = -(k : Int) := ⟨n.natAbs, by omega⟩
    rw [Int.neg_tmod, Int.tmod_eq_emod_of_nonneg (by omega)]
    split <;> omega
  · rw [Int.tmod_eq_emod_of_nonneg h]
    split <;> omega

theorem set_same {f : Option Ps → Value} : ∀ (ps : List (Option Ps)) {i : Nat} (_ : i < ps.length) (z : Option Ps), (ps.map f).set i (f (ps.getD i z)) = ps.map f
  | [], _, h, _ => by simp at h
  | x :: ps, 0, _, z => by simp
  | x :: ps, i + 1, h, z => by
    simp only [List.map_cons, List.set_cons_succ, List.getD_cons_succ]
    rw [set_same ps (by simpa using h) z]

def slen (o : So) : Nat := o.d.bs.length + o.m.bs.length
theorem slen_sum : ∀ l : List So, (l.map dlen).sum ≤ (l.map slen).sum
  | [] => Nat.le_refl _
  | x :: l => by
    have := slen_sum l
    simp only [List.map_cons, List.sum_cons]
    unfold dlen slen at *
    omega
theorem slen_le {o : So} : ∀ {l : List So}, o ∈ l → o.m.bs.length ≤ (l.map slen).sum
  | [], h => by cases h
  | x :: l, h => by
    rw [List.map_cons, List.sum_cons]
    rcases List.mem_cons.1 h with rfl | h
    · unfold slen; omega
    · have := slen_le h; omega

end Go.Proofs.YtcpbfnbfbladoaaDoor

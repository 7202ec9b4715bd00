/-
  Lists in memory, in plain terms.
-/
import Derived.Test.YtjdolgfhcjnniaaDoorEq
import Derived.Test.YtjdolgfhcjnniaaDoorBytesP
namespace Go.Proofs.YtjdolgfhcjnniaaDoor
open Go Go.RowKit

/-- What a call hands back that has made a slice. -/
def Mk (w0 w' : World) (E : TypeId) (s : Nat) (cs : List Value) (g : Gs) : Prop := Left w0 w' [] [⟨g.ob, cs ++ g.sp, E⟩] ∧ (cs ++ g.sp).length = g.cap * s
theorem Mk.of_made {w0 w' : World} {E : TypeId} {s : Nat} {cs : List Value} {g : Gs} (h : Made w0 w' E s cs g) : Mk w0 w' E s cs g :=
  ⟨⟨h.1, Owns.one h.2.1, fun b hb => .inl (h.2.2.1 b (by cases hg : g.ob <;> simp_all [blks]))⟩, h.2.2.2⟩
theorem Hp.got {w0 w w' : World} {S : List Nat} {L : Lk} {X : List Ck} {E : TypeId} {s : Nat} {cs : List Value} {g : Gs} (h : Hp w0 S L X w) (t : Nat) (hm : Mk w w' E s cs g) : Hp w0 S ((t, ⟨g.ob, cs ++ g.sp, E⟩) :: L) X w' :=
  h.back [] [t] (by simp) rfl hm.1 (by simp) rfl (by simp)
theorem Hp.gives {w0 w : World} {L : Lk} {E : TypeId} {s : Nat} {cs : List Value} {g : Gs} (h : Hp w0 [] L [] w) (t : Nat) (hc : lc L t = some ⟨g.ob, cs ++ g.sp, E⟩) (hl : (cs ++ g.sp).length = g.cap * s) : Mk w0 w E s cs g :=
  ⟨Hp.left' (i := []) h [t] (by simp) (by simp [gt, hc]), hl⟩
theorem Hp.gives0 {w0 w : World} {L : Lk} (h : Hp w0 [] L [] w) (E : TypeId) (s : Nat) : Mk w0 w E s [] gnil := Mk.of_made (h.made_nil E s)
theorem Mk.cap1 {w0 w : World} {E : TypeId} {a : List UInt8} {g : Gs} (h : Mk w0 w E 1 (a.map B8) g) : a.length ≤ g.cap := by
  have h9 := h.2
  rw [List.length_append, List.length_map] at h9
  omega
theorem gcap1 {α : Type} {f : α → Value} {a : List α} {g : Gs} (h : (a.map f ++ g.sp).length = g.cap * 1) : a.length ≤ g.cap := by
  rw [List.length_append, List.length_map] at h
  omega
/-- A list of slices of bytes: how each lies. -/
structure Sl where
  ao : Option Addr
  bs : List UInt8
  cap : Nat
def Sl.v (s : Sl) : Value := .slice s.ao s.bs.length s.cap
def RdAll (w : World) (l : List Sl) : Prop := ∀ s ∈ l, Rd w s.ao (s.bs.map B8) ∧ s.bs.length ≤ s.cap
/-- .. of our own. -/
structure Bs where
  ob : Option Nat
  bs : List UInt8
  sp : List Value
  cap : Nat
def Bs.sl (x : Bs) : Sl := ⟨adr x.ob, x.bs, x.cap⟩
def Bs.v (x : Bs) : Value := x.sl.v
def Bs.ck (x : Bs) : Ck := ⟨x.ob, x.bs.map B8 ++ x.sp, 5⟩
def Bs.fit (x : Bs) : Prop := (x.bs.map B8 ++ x.sp).length = x.cap
theorem RdAll.nil (w : World) : RdAll w [] := fun _ h => by cases h
theorem RdAll.chg {w w' : World} {l : List Sl} (h : RdAll w l) (hc : Chg [] w w') : RdAll w' l := fun s hs => ⟨(h s hs).1.chg hc, (h s hs).2⟩
theorem rdAll_of {w : World} {bs : List Bs} (h : ∀ x ∈ bs, Blk w x.ck) (hf : ∀ x ∈ bs, x.fit) : RdAll w (bs.map Bs.sl) := fun s hs => by
  obtain ⟨x, hx, rfl⟩ := List.mem_map.1 hs
  have h2 := hf x hx
  unfold Bs.fit at h2
  rw [List.length_append, List.length_map] at h2
  exact ⟨Rd.own (h x hx), by show x.bs.length ≤ x.cap; omega⟩
theorem Hp.rdAll {w0 w : World} {S : List Nat} {L : Lk} {X : List Ck} {bs : List Bs} (h : Hp w0 S L X w) (hX : ∀ x ∈ bs, x.ck ∈ X) (hf : ∀ x ∈ bs, x.fit) : RdAll w (bs.map Bs.sl) := rdAll_of (fun x hx => h.ownX _ (hX x hx)) hf
theorem map_v (bs : List Bs) : bs.map Bs.v = (bs.map Bs.sl).map Sl.v := by rw [List.map_map]; rfl
theorem v_one (x : Bs) : (Bs.v x).oneCell' = true := rfl
theorem vs_one (l : List Bs) : ∀ u ∈ l.map Bs.v, u.oneCell' = true := fun u hu => by obtain ⟨_, _, rfl⟩ := List.mem_map.1 hu; rfl
theorem slvs_one (l : List Sl) : ∀ u ∈ l.map Sl.v, u.oneCell' = true := fun u hu => by obtain ⟨_, _, rfl⟩ := List.mem_map.1 hu; rfl
theorem take_snoc8 {α : Type} {a : List α} {i : Nat} (h : i < a.length) (z : α) : a.take (i + 1) = a.take i ++ [a.getD i z] := by
  rw [List.take_add_one, List.getD, List.getElem?_eq_getElem h]; rfl
theorem getD_take {α : Type} {a : List α} {i k : Nat} (h : i < k) (z : α) : (a.take k).getD i z = a.getD i z := by
  rw [List.getD, List.getD, List.getElem?_take_of_lt h]
theorem getD_drop {α : Type} (a : List α) (i k : Nat) (z : α) : (a.drop k).getD i z = a.getD (k + i) z := by
  rw [List.getD, List.getD, List.getElem?_drop]
theorem getD_append_left' {α : Type} {a b : List α} {i : Nat} (h : i < a.length) (z : α) : (a ++ b).getD i z = a.getD i z := by
  rw [List.getD, List.getD, List.getElem?_append_left h]
theorem getD_append_right' {α : Type} {a b : List α} {i : Nat} (h : a.length ≤ i) (z : α) : (a ++ b).getD i z = b.getD (i - a.length) z := by
  rw [List.getD, List.getD, List.getElem?_append_right h]

theorem RdAll.at {w : World} {l : List Sl} (h : RdAll w l) {i : Nat} (hi : i < l.length) (z : Sl) : Rd w (l.getD i z).ao ((l.getD i z).bs.map B8) := by
  have : l.getD i z ∈ l := by rw [List.getD, List.getElem?_eq_getElem hi]; exact List.getElem_mem hi
  exact (h _ this).1
theorem RdAll.le {w : World} {l : List Sl} (h : RdAll w l) {i : Nat} (hi : i < l.length) (z : Sl) : (l.getD i z).bs.length ≤ (l.getD i z).cap := by
  have : l.getD i z ∈ l := by rw [List.getD, List.getElem?_eq_getElem hi]; exact List.getElem_mem hi
  exact (h _ this).2
theorem getD_mem {α : Type} {l : List α} {i : Nat} (hi : i < l.length) (z : α) : l.getD i z ∈ l := by rw [List.getD, List.getElem?_eq_getElem hi]; exact List.getElem_mem hi
theorem map_getD {α β : Type} {l m : List α} {f : α → β} (h : l.map f = m.map f) (i : Nat) (z : α) : f (l.getD i z) = f (m.getD i z) := by
  have : (l.map f)[i]? = (m.map f)[i]? := by rw [h]
  rw [List.getElem?_map, List.getElem?_map] at this
  rw [List.getD, List.getD]
  cases h1 : l[i]? with
  | none => cases h2 : m[i]? with
    | none => rfl
    | some y => simp [h1, h2] at this
  | some x => cases h2 : m[i]? with
    | none => simp [h1, h2] at this
    | some y => simp [h1, h2] at this; exact this

def Offs (l : List Ck) (ao : Option Addr) (cs : List Value) : Prop := ∀ b ∈ blks l, ∀ a : Addr, ao = some a → cs ≠ [] → a.block ≠ b
theorem Offs.drop {l : List Ck} {ao : Option Addr} {cs : List UInt8} (h : Offs l ao (cs.map B8)) {cap : Nat} (k : Nat) : Offs l (sla ao cap k 1) ((cs.drop k).map B8) := fun b hb a e hd => by
  have hcs : cs.map B8 ≠ [] := fun e => hd (by rw [List.map_eq_nil_iff] at e; rw [e]; simp)
  unfold sla at e
  split at e
  · exact h b hb a e hcs
  · cases ao with
    | none => cases e
    | some ad =>
      simp only [Option.map_some, Option.some.injEq] at e
      rw [← e, Go.ChangeShapes.block_add]
      exact h b hb ad rfl hcs
theorem Offs.of_new {w : World} {l : List Ck} {ao : Option Addr} {cs : List Value} (h : Rd w ao cs) (hl : ∀ b ∈ blks l, w.heap.size ≤ b) : Offs l ao cs := fun b hb a e hcs => by
  rcases h with h | ⟨c, off, e2, hcl⟩
  · exact absurd h hcs
  · rw [e] at e2
    obtain rfl := Option.some.inj e2
    have := hcl.lt hcs
    have := hl b hb
    show c ≠ b
    omega
theorem Hp.offs0 {w0 w : World} {L : Lk} {X l : List Ck} {ts : List Nat} {ao : Option Addr} {cs : List Value} (h : Hp w0 [] L X w) (hr : Rd w0 ao cs) (hn : ts.Nodup) (hg : gt L ts = some l) : Offs l ao cs :=
  Hp.offs (i := []) h hr (fun b hb => by simp [blks] at hb) hn hg

theorem Hp.notin {w0 w : World} {L : Lk} {X l : List Ck} {ts : List Nat} {b off : Nat} {cs : List Value} (h : Hp w0 [] L X w) (hk : Cells w0 b off cs) (hne : cs ≠ []) (hn : ts.Nodup) (hg : gt L ts = some l) : b ∉ blks l := fun hm => by
  obtain ⟨t, c, _, hc, hb⟩ := (h.some_own hn hg).2.2.2 b hm
  have := hk.lt hne
  rcases h.mine t c b hc hb with h9 | h9
  · omega
  · simp at h9

theorem Hp.nots {w0 w : World} {L : Lk} {X l j : List Ck} {ts : List Nat} {b off : Nat} {cs : List Value} (h : Hp w0 (blks j) L X w) (hk : Cells w0 b off cs) (hne : cs ≠ []) (hb : b ∉ blks j) (hn : ts.Nodup) (hg : gt L ts = some l) : b ∉ blks l := fun hm => by
  obtain ⟨t, c, _, hc, hcb⟩ := (h.some_own hn hg).2.2.2 b hm
  have := hk.lt hne
  rcases h.mine t c b hc hcb with h9 | h9
  · omega
  · exact hb h9

theorem Hp.as {w0 w : World} {S : List Nat} {L : Lk} {X : List Ck} {t : Nat} {b : Option Nat} {cs : List Value} {E : TypeId} (h : Hp w0 S L X w) (ht : lc L t = some ⟨b, cs, E⟩) (cs' : List Value) (e : cs = cs') : Hp w0 S ((t, ⟨b, cs', E⟩) :: L) X w := by
  subst e
  refine h.sub fun i c hi => ?_
  rw [lc_cons] at hi
  split at hi
  · rename_i e1; subst e1; rw [← hi]; exact ht
  · exact hi

end Go.Proofs.YtjdolgfhcjnniaaDoor

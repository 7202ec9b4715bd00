/-
  Lists of bytes, in plain terms.
-/
import Derived.Test.YtjdolgfhcjnniaaDoorStr
namespace Go.Proofs.YtjdolgfhcjnniaaDoor
open Go Go.RowKit

theorem same_step {a b : List UInt8} {i : Nat} (h : a.take i = b.take i) (ha : i < a.length) (hl : a.length = b.length) (he : ((a.getD i 0).toNat : Int) = ((b.getD i 0).toNat : Int)) : a.take (i + 1) = b.take (i + 1) := by
  rw [List.take_add_one, List.take_add_one, h]
  have e : a.getD i 0 = b.getD i 0 := by
    apply UInt8.toNat_inj.1
    omega
  rw [List.getD, List.getD] at e
  rw [List.getElem?_eq_getElem ha, List.getElem?_eq_getElem (by omega : i < b.length)] at e ⊢
  simp only [Option.getD_some] at e
  rw [e]
theorem same_done {a b : List UInt8} {i : Nat} (h : a.take i = b.take i) (hi : ¬ i < a.length) (hl : a.length = b.length) : a = b := by
  rwa [List.take_of_length_le (by omega), List.take_of_length_le (by omega)] at h
theorem same_ne {a b : List UInt8} {i : Nat} (h : ((a.getD i 0).toNat : Int) ≠ ((b.getD i 0).toNat : Int)) : a ≠ b := fun e => by subst e; exact h rfl
theorem Rd.nil_of {w : World} {cs : List Value} (h : Rd w none cs) : cs = [] := by
  rcases h with h | ⟨_, _, h, _⟩
  · exact h
  · cases h
theorem Hp.fresh {w0 w : World} {L : Lk} {X : List Ck} (h : Hp w0 [] L X w) {t : Nat} {c : Ck} (hc : lc L t = some c) : Fresh w0 c := fun b hb => by
  rcases h.mine t c b hc hb with h | h
  · exact h
  · simp at h
/-- What a function hands back that has made a slice: n elements, the cells cs. -/
def Made (w0 w' : World) (E : TypeId) (s : Nat) (cs : List Value) (g : Gs) : Prop := Chg [] w0 w' ∧ Blk w' ⟨g.ob, cs ++ g.sp, E⟩ ∧ Fresh w0 ⟨g.ob, cs ++ g.sp, E⟩ ∧ (cs ++ g.sp).length = g.cap * s
theorem Hp.made {w0 w : World} {L : Lk} {X : List Ck} (h : Hp w0 [] L X w) {t : Nat} {E : TypeId} {s : Nat} {cs : List Value} {g : Gs} (hc : lc L t = some ⟨g.ob, cs ++ g.sp, E⟩) (hl : (cs ++ g.sp).length = g.cap * s) : Made w0 w E s cs g :=
  ⟨h.chg, h.own t _ hc, h.fresh hc, hl⟩
theorem Hp.made_nil {w0 w : World} {L : Lk} {X : List Ck} (h : Hp w0 [] L X w) (E : TypeId) (s : Nat) : Made w0 w E s [] gnil :=
  ⟨h.chg, Blk.nil w E, (fun b hb => by simp [gnil] at hb), by simp⟩
theorem Hp.call_made {w0 w w' : World} {L : Lk} {S : List Nat} {X : List Ck} (h : Hp w0 S L X w) {E : TypeId} {s : Nat} {cs : List Value} {g : Gs} (t : Nat) (hm : Made w w' E s cs g) : Hp w0 S ((t, ⟨g.ob, cs ++ g.sp, E⟩) :: L) X w' :=
  h.call_new hm.1 t hm.2.2.1 hm.2.1
theorem Made.cap {w0 w : World} {E : TypeId} {a : List UInt8} {g : Gs} (h : Made w0 w E 1 (a.map B8) g) : a.length ≤ g.cap := by
  have h9 := h.2.2.2
  rw [List.length_append, List.length_map] at h9
  omega
theorem Made.rd {w0 w : World} {E : TypeId} {s : Nat} {cs : List Value} {g : Gs} (h : Made w0 w E s cs g) : Rd w (adr g.ob) cs := Rd.own h.2.1

end Go.Proofs.YtjdolgfhcjnniaaDoor

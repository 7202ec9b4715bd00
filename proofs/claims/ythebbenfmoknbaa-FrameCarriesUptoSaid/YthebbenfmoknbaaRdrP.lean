/-
  Readers, in plain terms.
-/
import Derived.Test.YthebbenfmoknbaaFrmP
namespace Go.Proofs.Ythebbenfmoknbaa
open Go Go.RowKit

/-- What a whole stream says: its handshake, its bodies, how many of its bytes they take, its fault. -/
def readS (hello : Bool) (all : List UInt8) : List Hl × (List (List UInt8) × Nat × Int) :=
  if hello = true then (if meetE all = 100 then ([], [], 0, 100) else if meetE all = 0 then ([meetH all], joinS [] 68 (split (all.drop 68))) else ([], [], 0, 0)) else ([], split all)
/-- Of a stream that begins with pre: pre says met and bods, wholly. -/
def Parsed (hello : Bool) (pre : List UInt8) (met : List Hl) (bods : List (List UInt8)) : Prop := ∀ t, readS hello (pre ++ t) = (met, joinS bods pre.length (split t))
/-- What a reader holds behind the stream c, that has said met and bods. -/
def RSt (hello : Bool) (c : List UInt8) (stage : Nat) (part : List UInt8) (want : Nat) (met : List Hl) (bods : List (List UInt8)) : Prop :=
  (hello = true ∧ stage = 0 ∧ part = c ∧ want = 68 ∧ met = [] ∧ bods = [] ∧ meetE c = 101) ∨
  (∃ pre, c = pre ++ part ∧ Parsed hello pre met bods ∧ stage = 1 ∧ want = 4 ∧ part.length < 4) ∨
  (∃ pre hdr, c = pre ++ (hdr ++ part) ∧ Parsed hello pre met bods ∧ stage = 2 ∧ hdr.length = 4 ∧ want = num4 hdr ∧ num4 hdr ≤ 32768 ∧ part.length ≤ num4 hdr)
theorem meetE_101 {c : List UInt8} (h : meetE c = 101) : c.length < 68 := by
  unfold meetE at h; split at h
  · split at h
    · assumption
    · simp at h
  · simp at h
theorem meetE_nil : meetE [] = 101 := by unfold meetE; rw [if_pos (by simp), if_pos (by simp)]
theorem meetE_bad {p : List UInt8} (t : List UInt8) (h : meetE p = 100) : meetE (p ++ t) = 100 := by
  unfold meetE at h ⊢
  split at h
  · split at h <;> simp at h
  · rename_i hne
    rw [if_neg]
    intro e
    apply hne
    have h1 : ((p ++ t).take 20).take p.length = (signL.take (p ++ t).length).take p.length := by rw [e]
    rw [List.take_take, List.take_take, List.length_append, Nat.min_eq_left (show p.length ≤ p.length + t.length by omega)] at h1
    rw [← h1]
    rcases Nat.lt_or_ge p.length 20 with h2 | h2
    · rw [Nat.min_eq_left (by omega), List.take_of_length_le (by omega), List.take_left]
    · rw [Nat.min_eq_right h2, List.take_append_of_le_length h2]
theorem meetE_zero {p : List UInt8} (h : meetE p = 0) : 68 ≤ p.length ∧ p.take 20 = signL := by
  unfold meetE at h
  split at h
  · rename_i e
    split at h
    · simp at h
    · exact ⟨by omega, by rw [e, List.take_of_length_le]; rw [sign_len]; omega⟩
  · simp at h
theorem meetE_more {p : List UInt8} (t : List UInt8) (h : meetE p = 0) : meetE (p ++ t) = 0 := by
  obtain ⟨h1, h2⟩ := meetE_zero h
  exact meet_ok (by simp; omega) (by rw [List.take_append_of_le_length (by omega), h2]; rfl)
theorem meetH_more {p : List UInt8} (t : List UInt8) (h : meetE p = 0) : meetH (p ++ t) = meetH p := by
  obtain ⟨h1, _⟩ := meetE_zero h
  apply Subtype.ext
  rw [meetH_ok (by simp; omega) (meetE_more t h), meetH_ok h1 h, List.drop_append_of_le_length (by omega), List.take_append_of_le_length (by simp; omega)]
theorem parsed_hello {p : List UInt8} (h : meetE p = 0) (hl : p.length = 68) : Parsed true p [meetH p] [] := fun t => by
  unfold readS
  rw [if_pos rfl, if_neg (by rw [meetE_more t h]; decide), if_pos (meetE_more t h), meetH_more t h, List.drop_left' hl, hl]
theorem parsed_nil : Parsed false [] [] [] := fun t => by unfold readS; rw [if_neg (by decide), List.nil_append]; simp [joinS]
theorem num4_app {h : List UInt8} (t : List UInt8) (hl : h.length = 4) : num4 (h ++ t) = num4 h := by
  unfold num4
  rw [getD_append_left' (by omega), getD_append_left' (by omega), getD_append_left' (by omega), getD_append_left' (by omega)]
theorem parsed_body {hello : Bool} {pre hdr part : List UInt8} {met : List Hl} {bods : List (List UInt8)} (h : Parsed hello pre met bods) (hl : hdr.length = 4) (hn : num4 hdr ≤ 32768) (hp : part.length = num4 hdr) : Parsed hello (pre ++ (hdr ++ part)) met (bods ++ [part]) := fun t => by
  rw [List.append_assoc, h, List.append_assoc, split_more (by simp; omega) (by rw [num4_app _ hl]; exact hn) (by rw [num4_app _ hl]; simp; omega), num4_app _ hl, joinS_join]
  have e1 : (hdr ++ (part ++ t)).drop (4 + num4 hdr) = t := by rw [← List.append_assoc]; exact List.drop_left' (by simp; omega)
  have e2 : ((hdr ++ (part ++ t)).drop 4).take (num4 hdr) = part := by rw [List.drop_left' hl, List.take_left' hp]
  rw [e1, e2]
  simp only [List.length_append]
  rw [show pre.length + (4 + num4 hdr) = pre.length + (hdr.length + part.length) by omega]
theorem read_big {hello : Bool} {pre hdr : List UInt8} {met : List Hl} {bods : List (List UInt8)} (t : List UInt8) (h : Parsed hello pre met bods) (hl : hdr.length = 4) (hn : 32768 < num4 hdr) : readS hello (pre ++ hdr ++ t) = (met, bods, pre.length, 102) := by
  rw [List.append_assoc, h, split_big (by simp; omega) (by rw [num4_app _ hl]; exact hn)]
  simp [joinS]
/-- What a reader that is not broken has said, and what it holds. -/
theorem RSt.read {hello : Bool} {c : List UInt8} {stage : Nat} {part : List UInt8} {want : Nat} {met : List Hl} {bods : List (List UInt8)} (h : RSt hello c stage part want met bods) (hw : part.length < want) :
    ∃ k, readS hello c = (met, bods, k, 0) ∧ (k : Int) + (if stage = 2 then 4 else 0) + part.length = c.length := by
  rcases h with ⟨rfl, rfl, rfl, rfl, rfl, rfl, he⟩ | ⟨pre, rfl, hP, rfl, rfl, hl⟩ | ⟨pre, hdr, rfl, hP, rfl, hl, rfl, hn, hle⟩
  · refine ⟨0, ?_, by simp⟩
    unfold readS
    rw [if_pos rfl, he, if_neg (by decide), if_neg (by decide)]
  · refine ⟨pre.length, ?_, by simp⟩
    rw [hP, split_short hl]
    simp [joinS]
  · refine ⟨pre.length, ?_, by simp; omega⟩
    rw [hP, split_part (by simp; omega) (by rw [num4_app _ hl]; exact hn) (by rw [num4_app _ hl]; simp; omega)]
    simp [joinS]
/-- A reader's block. -/
abbrev rdr (stage : Nat) (g : Gs) (n want : Nat) (fault : Int) : List Value := [.int .i64 (stage : Int), .slice (adr g.ob) n g.cap, .int .i64 (want : Int), .int .i64 fault]
/-- Both blocks of a reader. -/
def rck (r stage : Nat) (g : Gs) (part : List UInt8) (want : Nat) (fault : Int) : List Ck := [⟨some r, rdr stage g part.length want fault, 70⟩, ⟨g.ob, part.map B8 ++ g.sp, 5⟩]
def rck0 (r : Nat) (hello : Bool) : List Ck := rck r (if hello = true then 0 else 1) gnil [] (if hello = true then 68 else 4) 0
def Offs (l : List Ck) (ao : Option Addr) (cs : List Value) : Prop := ∀ b ∈ blks l, ∀ a : Addr, ao = some a → cs ≠ [] → a.block ≠ b
theorem Offs.drop {l : List Ck} {ao : Option Addr} {cs : List UInt8} (h : Offs l ao (cs.map B8)) {cap : Nat} (k : Nat) : Offs l (sla ao cap k 1) ((cs.drop k).map B8) := fun b hb a e hd => by
  have hcs : cs.map B8 ≠ [] := fun e => hd (by rw [List.map_eq_nil_iff] at e; rw [e]; simp)
  unfold sla at e
  split at e
  · exact h b hb a e hcs
  · cases ao with
    | none => cases e
    | some ad =>
      simp only [Option.map_some, Option.some.injEq] at e
      rw [← e, Go.ChangeShapes.block_add]
      exact h b hb ad rfl hcs
theorem Offs.of_new {w : World} {l : List Ck} {ao : Option Addr} {cs : List Value} (h : Rd w ao cs) (hl : ∀ b ∈ blks l, w.heap.size ≤ b) : Offs l ao cs := fun b hb a e hcs => by
  rcases h with h | ⟨c, off, e2, hcl⟩
  · exact absurd h hcs
  · rw [e] at e2
    obtain rfl := Option.some.inj e2
    have := hcl.lt hcs
    have := hl b hb
    show c ≠ b
    omega

def hcs (h : Hl) : List Value := h.1.map B8
theorem hcs_len (h : Hl) : (hcs h).length = 48 := by simp [hcs, h.2]
theorem hcs_like (h : Hl) : Like (hcs h) (hcs h) := Like.map _ _ rfl
theorem hcs_one (h : Hl) : ∀ u ∈ hcs h, u.oneCell' = true := one_all _
abbrev hz0 : Hl := ⟨List.replicate 48 0, by simp⟩
/-- A reader that has filled its part. -/
def Fld (hello : Bool) (c : List UInt8) (stage : Nat) (part : List UInt8) (want : Nat) (met : List Hl) (bods : List (List UInt8)) : Prop :=
  (hello = true ∧ stage = 0 ∧ part = c ∧ want = 68 ∧ met = [] ∧ bods = []) ∨
  (∃ pre, c = pre ++ part ∧ Parsed hello pre met bods ∧ stage = 1 ∧ want = 4) ∨
  (∃ pre hdr, c = pre ++ (hdr ++ part) ∧ Parsed hello pre met bods ∧ stage = 2 ∧ hdr.length = 4 ∧ want = num4 hdr ∧ num4 hdr ≤ 32768)
section
variable {hello : Bool} {c part x : List UInt8} {stage want : Nat} {met : List Hl} {bods : List (List UInt8)}
theorem RSt.fills (h : RSt hello c stage part want met bods) (x : List UInt8) : Fld hello (c ++ x) stage (part ++ x) want met bods := by
  rcases h with ⟨rfl, rfl, rfl, rfl, rfl, rfl, he⟩ | ⟨pre, rfl, hP, rfl, rfl, hl⟩ | ⟨pre, hdr, rfl, hP, rfl, hl, rfl, hn, hle⟩
  · exact .inl ⟨rfl, rfl, rfl, rfl, rfl, rfl⟩
  · exact .inr (.inl ⟨pre, by rw [List.append_assoc], hP, rfl, rfl⟩)
  · exact .inr (.inr ⟨pre, hdr, by rw [List.append_assoc, List.append_assoc], hP, rfl, hl, rfl, hn⟩)
theorem RSt.bnds (h : RSt hello c stage part want met bods) : stage ≤ 2 ∧ want ≤ 32768 ∧ part.length ≤ want := by
  rcases h with ⟨rfl, rfl, rfl, rfl, rfl, rfl, he⟩ | ⟨pre, rfl, hP, rfl, rfl, hl⟩ | ⟨pre, hdr, rfl, hP, rfl, hl, rfl, hn, hle⟩
  · have := meetE_101 he; exact ⟨by omega, by omega, by omega⟩
  · exact ⟨by omega, by omega, by omega⟩
  · exact ⟨by omega, hn, hle⟩
theorem RSt.lt01 (h : RSt hello c stage part want met bods) (hs : stage ≠ 2) : part.length < want := by
  rcases h with ⟨rfl, rfl, rfl, rfl, rfl, rfl, he⟩ | ⟨pre, rfl, hP, rfl, rfl, hl⟩ | ⟨pre, hdr, rfl, hP, rfl, hl, rfl, hn, hle⟩
  · exact meetE_101 he
  · omega
  · omega
theorem RSt.e0 (h : RSt hello c 0 part want met bods) : meetE part = 101 := by
  rcases h with ⟨rfl, _, rfl, rfl, rfl, rfl, he⟩ | ⟨pre, rfl, hP, h, rfl, hl⟩ | ⟨pre, hdr, rfl, hP, h, hl, rfl, hn, hle⟩
  · exact he
  · cases h
  · cases h
theorem Fld.bad0 (h : Fld hello c 0 part want met bods) (he : meetE part = 100) (t : List UInt8) : readS hello (c ++ t) = (met, bods, 0, 100) := by
  rcases h with ⟨rfl, _, rfl, rfl, rfl, rfl⟩ | ⟨_, _, _, h, _⟩ | ⟨_, _, _, _, h, _⟩
  · unfold readS; rw [if_pos rfl, if_pos (meetE_bad t he)]
  · cases h
  · cases h
theorem Fld.met0 (h : Fld hello c 0 part want met bods) (hl : part.length ≤ want) (he : meetE part = 0) : RSt hello c 1 [] 4 (met ++ [meetH part]) bods := by
  rcases h with ⟨rfl, _, rfl, rfl, rfl, rfl⟩ | ⟨_, _, _, h, _⟩ | ⟨_, _, _, _, h, _⟩
  · have := (meetE_zero he).1
    exact .inr (.inl ⟨part, by simp, parsed_hello he (by omega), rfl, rfl, by simp⟩)
  · cases h
  · cases h
theorem Fld.wait0 (h : Fld hello c 0 part want met bods) (he : meetE part = 101) : RSt hello c 0 part want met bods ∧ part.length < want := by
  rcases h with ⟨rfl, _, rfl, rfl, rfl, rfl⟩ | ⟨_, _, _, h, _⟩ | ⟨_, _, _, _, h, _⟩
  · exact ⟨.inl ⟨rfl, rfl, rfl, rfl, rfl, rfl, he⟩, meetE_101 he⟩
  · cases h
  · cases h
theorem Fld.wait (h : Fld hello c stage part want met bods) (hs : stage ≠ 0) (hl : part.length < want) : RSt hello c stage part want met bods := by
  rcases h with ⟨_, rfl, _⟩ | ⟨pre, rfl, hP, rfl, rfl⟩ | ⟨pre, hdr, rfl, hP, rfl, h4, rfl, hn⟩
  · omega
  · exact .inr (.inl ⟨pre, rfl, hP, rfl, rfl, hl⟩)
  · exact .inr (.inr ⟨pre, hdr, rfl, hP, rfl, h4, rfl, hn, by omega⟩)
theorem Fld.body (h : Fld hello c 2 part want met bods) (hl : part.length = want) : RSt hello c 1 [] 4 met (bods ++ [part]) := by
  rcases h with ⟨_, h, _⟩ | ⟨pre, rfl, hP, h, rfl⟩ | ⟨pre, hdr, rfl, hP, _, h4, rfl, hn⟩
  · cases h
  · cases h
  · exact .inr (.inl ⟨_, by simp, parsed_body hP h4 hn hl, rfl, rfl, by simp⟩)
theorem Fld.big (h : Fld hello c stage part want met bods) (hs : stage ≠ 0 ∧ stage ≠ 2) (hl : part.length = want) (hn : 32768 < num4 part) (t : List UInt8) : ∃ k, readS hello (c ++ t) = (met, bods, k, 102) := by
  rcases h with ⟨_, rfl, _⟩ | ⟨pre, rfl, hP, rfl, rfl⟩ | ⟨pre, hdr, rfl, hP, rfl, h4, rfl, hn⟩
  · omega
  · exact ⟨_, read_big t hP hl hn⟩
  · omega
theorem Fld.next (h : Fld hello c stage part want met bods) (hs : stage ≠ 0 ∧ stage ≠ 2) (hl : part.length = want) (hn : num4 part ≤ 32768) : RSt hello c 2 [] (num4 part) met bods := by
  rcases h with ⟨_, rfl, _⟩ | ⟨pre, rfl, hP, rfl, rfl⟩ | ⟨pre, hdr, rfl, hP, rfl, h4, rfl, hn⟩
  · omega
  · exact .inr (.inr ⟨pre, part, by simp, hP, rfl, hl, rfl, hn, by simp⟩)
  · omega
theorem Fld.four (h : Fld hello c stage part want met bods) (hs : stage ≠ 0 ∧ stage ≠ 2) : want = 4 ∧ stage = 1 := by
  rcases h with ⟨_, rfl, _⟩ | ⟨pre, rfl, hP, rfl, rfl⟩ | ⟨pre, hdr, rfl, hP, rfl, h4, rfl, hn⟩
  · omega
  · exact ⟨rfl, rfl⟩
  · omega
end
/-- What one Push comes to. -/
def PushR (hello : Bool) (c b : List UInt8) (met0 mt : List Hl) (bods0 bods : List (List UInt8)) (err : Int) (stage : Nat) (part : List UInt8) (want : Nat) : Prop :=
  (err = 0 ∧ RSt hello (c ++ b) stage part want (met0 ++ mt) (bods0 ++ bods) ∧ part.length < want) ∨
  (err ≠ 0 ∧ part = [] ∧ ∃ k, readS hello (c ++ b) = (met0 ++ mt, bods0 ++ bods, k, err))
/-- What is handed back by one. -/
def PushL (w0 w' : World) (i : List Ck) (e : Ending) (r : Nat) (R : List Hl → List (List UInt8) → Int → Nat → List UInt8 → Nat → Prop) : Prop :=
  ∃ (gm gb g : Gs) (mt : List Hl) (bs : List Bs) (err : Int) (stage : Nat) (part : List UInt8) (want : Nat),
    e = .returned (.tuple #[.slice (adr gm.ob) mt.length gm.cap, .slice (adr gb.ob) bs.length gb.cap, .int .i64 err]) ∧
    Left w0 w' i (rck r stage g part want err ++ [⟨gm.ob, mt.flatMap hcs ++ gm.sp, 25⟩, ⟨gb.ob, bs.map Bs.v ++ gb.sp, 26⟩] ++ bs.map Bs.ck) ∧
    (mt.flatMap hcs ++ gm.sp).length = gm.cap * 48 ∧ (bs.map Bs.v ++ gb.sp).length = gb.cap * 1 ∧ (part.map B8 ++ g.sp).length = g.cap * 1 ∧ (∀ x ∈ bs, x.fit) ∧ R mt (bs.map Bs.bs) err stage part want
structure PG where
  k : Nat
  ao : Option Addr
  ca : Nat
  st : Nat
  g : Gs
  part : List UInt8
  want : Nat
  gm : Gs
  mt : List Hl
  gb : Gs
  bs : List Bs

abbrev rdq (hello : Bool) (g : Gs) (n : Nat) (why : Int) : List Value := [.bool hello, .slice (adr g.ob) n g.cap, .int .i64 why]
def qck (q : Nat) (hello : Bool) (g : Gs) (all : List UInt8) (why : Int) : List Ck := [⟨some q, rdq hello g all.length why, 72⟩, ⟨g.ob, all.map B8 ++ g.sp, 5⟩]
def ReadQ (w0 w' : World) (e : Ending) (r : List Hl × (List (List UInt8) × Nat × Int)) : Prop :=
  ∃ (gm gb : Gs) (mt : List Hl) (bs : List Bs), e = .returned (.tuple #[.slice (adr gm.ob) mt.length gm.cap, .slice (adr gb.ob) bs.length gb.cap, .int .i64 (r.2.2.1 : Int), .int .i64 r.2.2.2]) ∧
    Left w0 w' [] (⟨gm.ob, mt.flatMap hcs ++ gm.sp, 25⟩ :: ⟨gb.ob, bs.map Bs.v ++ gb.sp, 26⟩ :: bs.map Bs.ck) ∧
    (mt.flatMap hcs ++ gm.sp).length = gm.cap * 48 ∧ (bs.map Bs.v ++ gb.sp).length = gb.cap * 1 ∧ (∀ x ∈ bs, x.fit) ∧ mt = r.1 ∧ bs.map Bs.bs = r.2.1
theorem read_no {b : List UInt8} : readS false b = ([], joinS [] 0 (split (b.drop 0))) := by unfold readS; rw [if_neg (by decide), List.drop_zero, joinS_nil]
theorem read_bad {b : List UInt8} (h : meetE b = 100) : readS true b = ([], [], 0, 100) := by unfold readS; rw [if_pos rfl, if_pos h]
theorem read_wait {b : List UInt8} (h : meetE b ≠ 100) (h0 : meetE b ≠ 0) : readS true b = ([], [], 0, 0) := by unfold readS; rw [if_pos rfl, if_neg h, if_neg h0]
theorem read_yes {b : List UInt8} (h : meetE b = 0) : readS true b = ([meetH b], joinS [] 68 (split (b.drop 68))) := by unfold readS; rw [if_pos rfl, if_neg (by rw [h]; decide), if_pos h]

theorem split_mono : ∀ (n : Nat) (l t : List UInt8), l.length ≤ n → (split l).1.length ≤ (split (l ++ t)).1.length
  | n, l, t, h => by
    by_cases h4 : l.length < 4
    · rw [split_short h4]; simp
    · by_cases hb : 32768 < num4 l
      · rw [split_big (by omega) hb]; simp
      · by_cases hp : l.length - 4 < num4 l
        · rw [split_part (by omega) (by omega) hp]; simp
        · have e : num4 (l ++ t) = num4 l := by
            unfold num4
            rw [getD_append_left' (by omega), getD_append_left' (by omega), getD_append_left' (by omega), getD_append_left' (by omega)]
          cases n with
          | zero => omega
          | succ n =>
            have ih := split_mono n (l.drop (4 + num4 l)) t (by simp; omega)
            rw [split_more (l := l) (by omega) (by omega) (by omega), split_more (l := l ++ t) (by simp; omega) (by rw [e]; omega) (by rw [e]; simp; omega), e, show (l ++ t).drop (4 + num4 l) = l.drop (4 + num4 l) ++ t from List.drop_append_of_le_length (by omega)]
            simp only [joinS, List.length_append, List.length_singleton]
            omega
theorem read_mono (hello : Bool) (a t : List UInt8) : (readS hello a).1.length ≤ (readS hello (a ++ t)).1.length ∧ (readS hello a).2.1.length ≤ (readS hello (a ++ t)).2.1.length := by
  cases hello with
  | false => rw [read_no, read_no]; simp only [joinS, List.drop_zero, List.nil_append]; exact ⟨Nat.le_refl _, split_mono _ a t (Nat.le_refl _)⟩
  | true =>
    rcases meetE_or a with h | h | h
    · obtain ⟨hl, _⟩ := meetE_zero h
      rw [read_yes h, read_yes (meetE_more t h), List.drop_append_of_le_length hl]
      simp only [joinS, List.nil_append]
      exact ⟨Nat.le_refl _, split_mono _ _ t (Nat.le_refl _)⟩
    · rw [read_bad h, read_bad (meetE_bad t h)]; exact ⟨Nat.le_refl _, Nat.le_refl _⟩
    · rw [read_wait (by rw [h]; decide) (by rw [h]; decide)]; simp

theorem joinS_err (A : List (List UInt8)) (k : Nat) (r : List (List UInt8) × Nat × Int) : (joinS A k r).2.2 = r.2.2 := rfl
theorem split_broken (n : Nat) : ∀ (l t : List UInt8), l.length ≤ n → (split l).2.2 ≠ 0 → split (l ++ t) = split l := by
  induction n with
  | zero =>
    intro l t h hne
    rw [split_short (by omega)] at hne
    exact absurd rfl hne
  | succ n ih =>
    intro l t h hne
    by_cases h4 : l.length < 4
    · rw [split_short h4] at hne; exact absurd rfl hne
    have e : num4 (l ++ t) = num4 l := by
      unfold num4
      rw [getD_append_left' (by omega), getD_append_left' (by omega), getD_append_left' (by omega), getD_append_left' (by omega)]
    by_cases hb : 32768 < num4 l
    · rw [split_big (by omega) hb, split_big (by simp; omega) (by rw [e]; exact hb)]
    by_cases hp : l.length - 4 < num4 l
    · rw [split_part (by omega) (by omega) hp] at hne; exact absurd rfl hne
    have hm := split_more (l := l) (by omega) (by omega) (by omega)
    rw [hm, joinS_err] at hne
    rw [hm]
    have hrec := ih (l.drop (4 + num4 l)) t (by simp; omega) hne
    have hm2 := split_more (l := l ++ t) (by simp; omega) (by rw [e]; omega) (by rw [e]; simp; omega)
    rw [e, show (l ++ t).drop (4 + num4 l) = l.drop (4 + num4 l) ++ t from List.drop_append_of_le_length (by omega), hrec, show ((l ++ t).drop 4).take (num4 l) = (l.drop 4).take (num4 l) by rw [List.drop_append_of_le_length (by omega), List.take_append_of_le_length (by simp; omega)]] at hm2
    exact hm2
theorem read_broken (hello : Bool) (a t : List UInt8) (h : (readS hello a).2.2.2 ≠ 0) : readS hello (a ++ t) = readS hello a := by
  cases hello with
  | false =>
    rw [read_no, List.drop_zero, joinS_nil] at h ⊢
    rw [read_no, List.drop_zero, joinS_nil]
    have h' : (split a).2.2 ≠ 0 := h
    rw [split_broken a.length a t (Nat.le_refl _) h']
  | true =>
    rcases meetE_or a with he | he | he
    · obtain ⟨hl, _⟩ := meetE_zero he
      rw [read_yes he] at h ⊢
      have h' : (joinS [] 68 (split (a.drop 68))).2.2 ≠ 0 := h
      rw [joinS_err] at h'
      rw [read_yes (meetE_more t he), List.drop_append_of_le_length hl, meetH_more t he, split_broken (a.drop 68).length _ t (Nat.le_refl _) h']
    · rw [read_bad he, read_bad (meetE_bad t he)]
    · rw [read_wait (by rw [he]; decide) (by rw [he]; decide)] at h; exact absurd rfl h
/-- What a reader tells of a whole stream, in the end. -/
def ToldR (hello : Bool) (b : List UInt8) (met : List Hl) (bods : List (List UInt8)) (err : Int) (stage : Nat) (part : List UInt8) (want : Nat) : Prop :=
  (err = 0 ∧ RSt hello b stage part want met bods ∧ part.length < want) ∨ (err ≠ 0 ∧ part = [] ∧ ∃ k, readS hello b = (met, bods, k, err))
theorem PushR.told {hello : Bool} {c b : List UInt8} {met0 mt : List Hl} {bods0 bods : List (List UInt8)} {err : Int} {stage : Nat} {part : List UInt8} {want : Nat} (h : PushR hello c b met0 mt bods0 bods err stage part want) : ToldR hello (c ++ b) (met0 ++ mt) (bods0 ++ bods) err stage part want := h
theorem ToldR.more {hello : Bool} {b : List UInt8} {met : List Hl} {bods : List (List UInt8)} {err : Int} {stage : Nat} {part : List UInt8} {want : Nat} (t : List UInt8) (h : ToldR hello b met bods err stage part want) (he : err ≠ 0) : ToldR hello (b ++ t) met bods err stage part want := by
  rcases h with ⟨h, _⟩ | ⟨_, hp, k, hk⟩
  · exact absurd h he
  · exact .inr ⟨he, hp, k, by rw [read_broken hello b t (by rw [hk]; exact he)]; exact hk⟩
/-- .. and how many bytes wait. -/
theorem ToldR.read {hello : Bool} {b : List UInt8} {met : List Hl} {bods : List (List UInt8)} {err : Int} {stage : Nat} {part : List UInt8} {want : Nat} (h : ToldR hello b met bods err stage part want) :
    ∃ k, readS hello b = (met, bods, k, err) ∧ (if stage = 2 ∧ err = 0 then 4 + part.length else part.length) = (if err = 0 then b.length - k else 0) ∧ (err = 0 → k ≤ b.length) := by
  rcases h with ⟨rfl, hS, hw⟩ | ⟨he, rfl, k, hk⟩
  · obtain ⟨k, hk, hl⟩ := hS.read hw
    refine ⟨k, hk, ?_, ?_⟩
    · by_cases h2 : stage = 2
      · rw [if_pos ⟨h2, rfl⟩, if_pos rfl]; rw [if_pos h2] at hl; omega
      · rw [if_neg (fun h => h2 h.1), if_pos rfl]; rw [if_neg h2] at hl; omega
    · intro _
      split at hl <;> omega
  · exact ⟨k, hk, by rw [if_neg (fun h => he h.2), if_neg he]; rfl, fun h => absurd h he⟩
/-- What is told, in memory. -/
abbrev tld (gm : Gs) (m : Nat) (gb : Gs) (n : Nat) (err : Int) : List Value := [.slice (adr gm.ob) m gm.cap, .slice (adr gb.ob) n gb.cap, .int .i64 err]
def ToldL (w0 w' : World) (i : List Ck) (e : Ending) (r : Nat) (R : List Hl → List (List UInt8) → Int → Nat → List UInt8 → Nat → Prop) : Prop :=
  ∃ (gm gb g : Gs) (mt : List Hl) (bs : List Bs) (err : Int) (stage : Nat) (part : List UInt8) (want : Nat),
    e = .returned (.agg (tld gm mt.length gb bs.length err).toArray) ∧
    Left w0 w' i (rck r stage g part want err ++ [⟨gm.ob, mt.flatMap hcs ++ gm.sp, 25⟩, ⟨gb.ob, bs.map Bs.v ++ gb.sp, 26⟩] ++ bs.map Bs.ck) ∧
    (mt.flatMap hcs ++ gm.sp).length = gm.cap * 48 ∧ (bs.map Bs.v ++ gb.sp).length = gb.cap * 1 ∧ (part.map B8 ++ g.sp).length = g.cap * 1 ∧ (∀ x ∈ bs, x.fit) ∧ R mt (bs.map Bs.bs) err stage part want
/-- Few bodies come of few bytes. -/
theorem joinS_le {A : List (List UInt8)} {k : Nat} {r : List (List UInt8) × Nat × Int} : (joinS A k r).1.length = A.length + r.1.length := by simp [joinS]
theorem read_le (hello : Bool) (b : List UInt8) : (readS hello b).1.length ≤ 1 ∧ (readS hello b).2.1.length ≤ b.length := by
  cases hello with
  | false => rw [read_no, joinS_nil, List.drop_zero]; exact ⟨Nat.zero_le _, (splitN_le _ _).2⟩
  | true =>
    rcases meetE_or b with h | h | h
    · rw [read_yes h]
      have := (splitN_le (b.drop 68).length (b.drop 68)).2
      simp only [joinS, List.nil_append]
      exact ⟨Nat.le_refl _, Nat.le_trans this (by simp)⟩
    · rw [read_bad h]; simp
    · rw [read_wait (by rw [h]; decide) (by rw [h]; decide)]; simp
theorem ToldR.le {hello : Bool} {b : List UInt8} {met : List Hl} {bods : List (List UInt8)} {err : Int} {stage : Nat} {part : List UInt8} {want : Nat} (h : ToldR hello b met bods err stage part want) : met.length ≤ 1 ∧ bods.length ≤ b.length := by
  obtain ⟨k, hk, _⟩ := h.read
  have := read_le hello b
  rw [hk] at this
  exact this

structure PD where
  k : Nat
  i : Nat
  st : Nat
  g : Gs
  part : List UInt8
  want : Nat
  gm : Gs
  mt : List Hl
  gb : Gs
  bs : List Bs
theorem rst_new (hello : Bool) : RSt hello [] (if hello = true then 0 else 1) [] (if hello = true then 68 else 4) [] [] ∧ ([] : List UInt8).length < (if hello = true then 68 else 4) := by
  cases hello with
  | false => exact ⟨.inr (.inl ⟨[], by simp, parsed_nil, by simp, by simp, by simp⟩), by simp⟩
  | true => exact ⟨.inl ⟨rfl, by simp, rfl, by simp, rfl, rfl, meetE_nil⟩, by simp⟩
theorem hcss_one (l : List Hl) : ∀ u ∈ l.flatMap hcs, u.oneCell' = true := fun u hu => by
  obtain ⟨h, _, hu⟩ := List.mem_flatMap.1 hu
  exact hcs_one h u hu
theorem take_mid (b : List UInt8) {k to : Nat} (h : k ≤ to) : b.take k ++ (b.drop k).take (to - k) = b.take to := by
  rw [← List.take_add, show k + (to - k) = to by omega]

theorem ToldR.part_le {hello : Bool} {b : List UInt8} {met : List Hl} {bods : List (List UInt8)} {err : Int} {stage : Nat} {part : List UInt8} {want : Nat} (h : ToldR hello b met bods err stage part want) : part.length ≤ 32768 := by
  rcases h with ⟨_, hS, hw⟩ | ⟨_, rfl, _⟩
  · have := hS.bnds; omega
  · simp
theorem read_parts {hello : Bool} {b : List UInt8} {met : List Hl} {bods : List (List UInt8)} {k : Nat} {err : Int} (h : readS hello b = (met, bods, k, err)) :
    (hello = false ∧ met = [] ∧ split b = (bods, k, err)) ∨ (hello = true ∧ meetE b = 100 ∧ met = [] ∧ bods = [] ∧ err = 100) ∨ (hello = true ∧ meetE b = 101 ∧ met = [] ∧ bods = [] ∧ k = 0 ∧ err = 0) ∨
    (hello = true ∧ meetE b = 0 ∧ met = [meetH b] ∧ (split (b.drop 68)).1 = bods ∧ k = 68 + (split (b.drop 68)).2.1 ∧ (split (b.drop 68)).2.2 = err) := by
  cases hello with
  | false =>
    rw [read_no, List.drop_zero, joinS_nil, Prod.mk.injEq] at h
    exact .inl ⟨rfl, h.1.symm, h.2⟩
  | true =>
    rcases meetE_or b with he | he | he
    · rw [read_yes he, Prod.mk.injEq] at h
      obtain ⟨h1, h2⟩ := h
      simp only [joinS, List.nil_append, Prod.mk.injEq] at h2
      exact .inr (.inr (.inr ⟨rfl, he, h1.symm, h2.1, h2.2.1.symm, h2.2.2⟩))
    · rw [read_bad he] at h
      simp only [Prod.mk.injEq] at h
      exact .inr (.inl ⟨rfl, he, h.1.symm, h.2.1.symm, h.2.2.2.symm⟩)
    · rw [read_wait (by rw [he]; decide) (by rw [he]; decide)] at h
      simp only [Prod.mk.injEq] at h
      exact .inr (.inr (.inl ⟨rfl, he, h.1.symm, h.2.1.symm, h.2.2.1.symm, h.2.2.2.symm⟩))
theorem map_nil_of {bs : List Bs} (h : bs.map Bs.bs = []) : bs = [] := by simpa using h

theorem read_szs {hello : Bool} {b : List UInt8} {met : List Hl} {bs : List Bs} {k : Nat} {err : Int} {n : Nat} (h : readS hello b = (met, bs.map Bs.bs, k, err)) (hn : b.length ≤ n) : ∀ s ∈ bs.map Bs.sl, s.bs.length ≤ n := by
  rcases read_parts h with ⟨_, _, h⟩ | ⟨_, _, _, h, _⟩ | ⟨_, _, _, h, _⟩ | ⟨_, _, _, h, _⟩
  · exact split_le (l := b) (by rw [h]) hn
  · rw [map_nil_of h]; simp
  · rw [map_nil_of h]; simp
  · exact split_le (l := b.drop 68) h.symm (by simp; omega)

end Go.Proofs.Ythebbenfmoknbaa

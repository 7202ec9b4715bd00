/-
  Streams, in plain terms.
-/
import Derived.Test.YtjdolgfhcjnniaaDoorCompP
import Derived.Test.YtjdolgfhcjnniaaDoorPadP
import Derived.ChangeSlices
namespace Go.Proofs.YtjdolgfhcjnniaaDoor
open Go Go.RowKit

/-- The state behind the first k whole blocks. -/
def foldB (st : List UInt32) (text : List UInt8) : Nat → List UInt32
  | 0 => st
  | k + 1 => compress (foldB st text k) ((text.drop (64 * k)).take 64)
def foldT (st : List UInt32) (text : List UInt8) : List UInt32 := foldB st text (text.length / 64)
theorem foldB_len (st : List UInt32) (text : List UInt8) (h : st.length = 8) : ∀ k, (foldB st text k).length = 8
  | 0 => h
  | _ + 1 => compress_len _ _
theorem foldB_app (st : List UInt32) (a b : List UInt8) : ∀ k, 64 * k ≤ a.length → foldB st (a ++ b) k = foldB st a k
  | 0, _ => rfl
  | k + 1, h => by
    simp only [foldB]
    rw [foldB_app st a b k (by omega), List.drop_append_of_le_length (by omega), List.take_append_of_le_length (by rw [List.length_drop]; omega)]
/-- The bytes of a state. -/
def bytesOf (st : List UInt32) : List UInt8 := (List.range 32).map fun i => UInt8.ofNat ((st.getD (i / 4) 0).toNat >>> (24 - 8 * (i % 4)))
theorem bytesOf_len (st : List UInt32) : (bytesOf st).length = 32 := by simp [bytesOf]
/-- The digest of a text of which 'before' bytes are in the state already. -/
def endOf (st : List UInt32) (before : Nat) (text : List UInt8) : List UInt8 := bytesOf (foldT st (text ++ padOf (before + text.length)))
def sumOf (text : List UInt8) : List UInt8 := endOf fL 0 text
theorem endOf_len (st : List UInt32) (n : Nat) (t : List UInt8) : (endOf st n t).length = 32 := bytesOf_len _
theorem sumOf_len (t : List UInt8) : (sumOf t).length = 32 := bytesOf_len _
/-- A stream stands for a text: its state, its row of which the first bytes count. -/
structure Stands (st0 : List UInt32) (text : List UInt8) (st : List UInt32) (tail : List UInt8) : Prop where
  state : st = foldB st0 text (text.length / 64)
  len : tail.length = 64
  tail : tail.take (text.length % 64) = text.drop (64 * (text.length / 64))
/-- Laid into a row from place 'at' on. -/
def put (tail news : List UInt8) (at_ : Nat) : List UInt8 := tail.take at_ ++ news ++ tail.drop (at_ + news.length)
theorem put_len {tail news : List UInt8} {at_ : Nat} (h : at_ + news.length ≤ tail.length) : (put tail news at_).length = tail.length := by
  unfold put; simp only [List.length_append, List.length_take, List.length_drop]; omega
theorem stands_less {st0 : List UInt32} {text news : List UInt8} {st : List UInt32} {tail : List UInt8} (h : Stands st0 text st tail) (hn : text.length % 64 + news.length < 64) : Stands st0 (text ++ news) st (put tail news (text.length % 64)) := by
  have hl := h.len
  have e1 : (text ++ news).length / 64 = text.length / 64 := by rw [List.length_append]; omega
  have e2 : (text ++ news).length % 64 = text.length % 64 + news.length := by rw [List.length_append]; omega
  refine ⟨?_, by rw [put_len (by omega)]; exact hl, ?_⟩
  · rw [e1, foldB_app _ _ _ _ (by omega)]; exact h.state
  · rw [e1, e2, List.drop_append_of_le_length (by omega), ← h.tail]
    unfold put
    rw [List.take_append_of_le_length (by simp; omega), List.take_of_length_le (by simp; omega)]
theorem stands_full {st0 : List UInt32} {text news : List UInt8} {st : List UInt32} {tail : List UInt8} (h : Stands st0 text st tail) (hn : text.length % 64 + news.length = 64) : Stands st0 (text ++ news) (compress st (put tail news (text.length % 64))) (put tail news (text.length % 64)) := by
  have hl := h.len
  have e1 : (text ++ news).length / 64 = text.length / 64 + 1 := by rw [List.length_append]; omega
  have e2 : (text ++ news).length % 64 = 0 := by rw [List.length_append]; omega
  have e3 : put tail news (text.length % 64) = ((text ++ news).drop (64 * (text.length / 64))).take 64 := by
    rw [List.drop_append_of_le_length (by omega), ← h.tail]
    unfold put
    rw [List.drop_of_length_le (by omega), List.append_nil]
    exact (List.take_of_length_le (by rw [List.length_append, List.length_take]; omega)).symm
  refine ⟨?_, by rw [put_len (by omega)]; exact hl, ?_⟩
  · rw [e1]
    simp only [foldB]
    rw [foldB_app _ _ _ _ (by omega), ← h.state, e3]
  · rw [e1, e2, List.take_zero, List.drop_of_length_le (by rw [List.length_append]; omega)]
theorem stands_nil (st0 : List UInt32) (tail : List UInt8) (h : tail.length = 64) : Stands st0 [] st0 tail := ⟨rfl, h, by simp⟩
theorem stands_whole {st0 : List UInt32} {text : List UInt8} {st : List UInt32} {tail : List UInt8} (h : Stands st0 text st tail) : st = foldT st0 text := h.state
abbrev strm (st : List UInt32) (done : Nat) (tail : List UInt8) : List Value := st.map B32 ++ (Value.int .i64 ((done : Nat) : Int) :: tail.map B8)

/-- A block while it is read off a text. -/
def blkN (a : List UInt8) (k : Nat) : Nat → List UInt8
  | 0 => List.replicate 64 0
  | i + 1 => (blkN a k i).set i (a.getD (64 * k + i) 0)
theorem blkN_len (a : List UInt8) (k : Nat) : ∀ i, (blkN a k i).length = 64
  | 0 => by simp [blkN]
  | i + 1 => by simp [blkN, blkN_len a k i]
theorem blkN_get (a : List UInt8) (k : Nat) : ∀ i j, j < i → i ≤ 64 → (blkN a k i)[j]? = some (a.getD (64 * k + j) 0)
  | 0, _, h, _ => by omega
  | i + 1, j, h, hi => by
    simp only [blkN]
    rw [List.getElem?_set]
    by_cases e : i = j
    · subst e; rw [if_pos rfl, if_pos (by rw [blkN_len]; omega)]
    · rw [if_neg e]; exact blkN_get a k i j (by omega) (by omega)
theorem blkN_end (a : List UInt8) (k : Nat) (h : 64 * k + 64 ≤ a.length) : blkN a k 64 = (a.drop (64 * k)).take 64 := by
  apply List.ext_getElem?
  intro j
  rcases Nat.lt_or_ge j 64 with hj | hj
  · rw [blkN_get a k 64 j hj (by omega), List.getElem?_take_of_lt hj, List.getElem?_drop, List.getElem?_eq_getElem (by omega), List.getD, List.getElem?_eq_getElem (by omega)]
    rfl
  · rw [List.getElem?_eq_none (by rw [blkN_len]; omega), List.getElem?_eq_none (by simp; omega)]
/-- The digest's bytes while they are laid. -/
def hashN (st : List UInt32) : Nat → List UInt8
  | 0 => List.replicate 32 0
  | i + 1 => (hashN st i).set i (UInt8.ofNat ((st.getD (i / 4) 0).toNat >>> (24 - 8 * (i % 4))))
theorem hashN_len (st : List UInt32) : ∀ i, (hashN st i).length = 32
  | 0 => by simp [hashN]
  | i + 1 => by simp [hashN, hashN_len st i]
theorem hashN_get (st : List UInt32) : ∀ i j, j < i → i ≤ 32 → (hashN st i)[j]? = some (UInt8.ofNat ((st.getD (j / 4) 0).toNat >>> (24 - 8 * (j % 4))))
  | 0, _, h, _ => by omega
  | i + 1, j, h, hi => by
    simp only [hashN]
    rw [List.getElem?_set]
    by_cases e : i = j
    · subst e; rw [if_pos rfl, if_pos (by rw [hashN_len]; omega)]
    · rw [if_neg e]; exact hashN_get st i j (by omega) (by omega)
theorem hashN_end (st : List UInt32) : hashN st 32 = bytesOf st := by
  apply List.ext_getElem?
  intro j
  rcases Nat.lt_or_ge j 32 with hj | hj
  · rw [hashN_get st 32 j hj (by omega)]
    simp [bytesOf, List.getElem?_map, List.getElem?_range hj]
  · rw [List.getElem?_eq_none (by rw [hashN_len]; omega), List.getElem?_eq_none (by rw [bytesOf_len]; omega)]

theorem padL_good (n : Nat) (h : n ≤ 2305843009213693951) : padL (n : Int) = padOf n ∧ padE (n : Int) = 0 := by
  have hb : ¬ padBad (n : Int) := fun h' => by unfold padBad at h'; omega
  unfold padL padE
  rw [if_neg hb, if_neg hb]; simp

theorem strm_done {w : World} {b d : Nat} {st : List UInt32} {tl : List UInt8} (h : Cells w b 0 (strm st d tl)) (hst : st.length = 8) : w.cell? ⟨b, 8, none⟩ = some (.int .i64 ((d : Nat) : Int)) := by
  have := h.right.head
  simpa [hst] using this
theorem strm_tail {w : World} {b d : Nat} {st : List UInt32} {tl : List UInt8} (h : Cells w b 0 (strm st d tl)) (hst : st.length = 8) : Cells w b 9 (tl.map B8) := by
  have := (h.right.drop 1)
  simpa [hst] using this
theorem strm_put {st : List UInt32} {d : Nat} {tl news : List UInt8} {q : Nat} (hst : st.length = 8) (hq : q + news.length ≤ tl.length) : strm st d (put tl news q) = (strm st d tl).take (9 + q) ++ news.map B8 ++ (strm st d tl).drop (9 + q + news.length) := by
  have e1 : (strm st d tl) = (st.map B32 ++ [Value.int .i64 ((d : Nat) : Int)]) ++ tl.map B8 := by simp [strm]
  have e2 : (st.map B32 ++ [Value.int .i64 ((d : Nat) : Int)]).length = 9 := by simp [hst]
  rw [e1, List.take_append, List.take_of_length_le (by omega), List.drop_append, List.drop_of_length_le (by omega), e2, show 9 + q - 9 = q by omega, show 9 + q + news.length - 9 = q + news.length by omega]
  unfold put strm
  simp [List.map_take, List.map_drop]
/-- The slice does not lie in block bs. -/
def Off (bs : Nat) (ao : Option Addr) (cs : List Value) : Prop := ∀ a : Addr, ao = some a → cs ≠ [] → a.block ≠ bs
theorem Rd.chgS {w w' : World} {ao : Option Addr} {cs : List Value} {bs : Nat} (h : Rd w ao cs) (hc : Chg [bs] w w') (hne : Off bs ao cs) : Rd w' ao cs := by
  rcases h with h | ⟨b, off, e, hcl⟩
  · exact .inl h
  · by_cases hnil : cs = []
    · exact .inl hnil
    · exact .inr ⟨b, off, e, hc.cells hcl (by simpa using hne _ e hnil)⟩
theorem Off.sla {ao : Option Addr} {bs cap l s : Nat} {cs : List Value} (hne : Off bs ao cs) (k : Nat) : Off bs (sla ao cap l s) (cs.drop k) := fun a e hd => by
  have hcs : cs ≠ [] := fun e => hd (by rw [e]; simp)
  unfold Go.Proofs.YtjdolgfhcjnniaaDoor.sla at e
  split at e
  · exact hne a e hcs
  · cases ao with
    | none => cases e
    | some ad =>
      simp only [Option.map_some, Option.some.injEq] at e
      rw [← e, Go.ChangeShapes.block_add]
      exact hne ad rfl hcs
theorem Rd.off_new {w : World} {ao : Option Addr} {cs : List Value} {bs : Nat} (h : Rd w ao cs) (hb : w.heap.size ≤ bs) : Off bs ao cs := fun a e hcs => by
  rcases h with h | ⟨b, off, e2, hcl⟩
  · exact absurd h hcs
  · rw [e] at e2
    obtain rfl := Option.some.inj e2
    have := hcl.lt hcs
    show b ≠ bs
    omega

theorem take_more (b : List UInt8) (i n : Nat) : b.take (i + n) = b.take i ++ (b.drop i).take n := List.take_add

theorem hashN_4 (S : List UInt32) (i : Nat) : hashN S (4 * (i + 1)) = ((((hashN S (4 * i)).set (4 * i) (UInt8.ofNat ((S.getD i 0).toNat >>> 24))).set (4 * i + 1) (UInt8.ofNat ((S.getD i 0).toNat >>> 16))).set (4 * i + 2) (UInt8.ofNat ((S.getD i 0).toNat >>> 8))).set (4 * i + 3) (UInt8.ofNat (S.getD i 0).toNat) := by
  rw [show 4 * (i + 1) = 4 * i + 3 + 1 by omega]
  simp only [hashN]
  rw [show (4 * i + 3) / 4 = i by omega, show (4 * i + 2) / 4 = i by omega, show (4 * i + 1) / 4 = i by omega, show (4 * i) / 4 = i by omega, show (4 * i + 3) % 4 = 3 by omega, show (4 * i + 2) % 4 = 2 by omega, show (4 * i + 1) % 4 = 1 by omega, show (4 * i) % 4 = 0 by omega]
  simp
theorem Hp.off {w0 w : World} {S : List Nat} {L : Lk} {X : List Ck} (h : Hp w0 S L X w) {t t' bs : Nat} {ob : Option Nat} {cs cs' ds : List Value} {E E' : TypeId} (h1 : lc L t = some ⟨some bs, cs, E⟩) (h2 : lc L t' = some ⟨ob, cs', E'⟩) (hne : t ≠ t') : Off bs (adr ob) ds := fun a e _ => by
  cases ob with
  | none => cases e
  | some b =>
    obtain rfl := Option.some.inj e
    intro hb
    have hb' : b = bs := hb
    subst hb'
    exact h.apart t t' _ _ b h1 h2 hne rfl rfl
theorem Hp.upd {w0 w w' : World} {S : List Nat} {L : Lk} {X : List Ck} (h : Hp w0 S L X w) {t bs : Nat} {cs cs' : List Value} {E : TypeId} (ht : lc L t = some ⟨some bs, cs, E⟩) (hc : Chg [bs] w w') (hB : Blk w' ⟨some bs, cs', E⟩) : Hp w0 S ((t, ⟨some bs, cs', E⟩) :: L) X w' :=
  h.call_upd ht hc hB fun b hb => .inr hb
theorem strm_len {st : List UInt32} {d : Nat} {tl : List UInt8} (h1 : st.length = 8) (h2 : tl.length = 64) : (strm st d tl).length = 73 := by simp [h1, h2]
theorem strm_one (st : List UInt32) (d : Nat) (tl : List UInt8) : ∀ u ∈ strm st d tl, u.oneCell' = true := fun u hu => by
  rcases List.mem_append.1 hu with h | h
  · exact one_all st u h
  · rcases List.mem_cons.1 h with rfl | h
    · rfl
    · exact one_all tl u h
theorem end_whole {st0 st' : List UInt32} {text tl' : List UInt8} {bf : Nat} (h : Stands st0 (text ++ padOf (bf + text.length)) st' tl') : bytesOf st' = endOf st0 bf text := by
  unfold endOf; rw [stands_whole h]

end Go.Proofs.YtjdolgfhcjnniaaDoor

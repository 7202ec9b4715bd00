/-
  Compress, in plain terms.
-/
import Derived.Test.YtjdolgfhcjnniaaDoorExpP
namespace Go.Proofs.YtjdolgfhcjnniaaDoor
open Go Go.RowKit

/-- Of the cube roots of the first 64 primes the 32 bits behind the point; of the square roots of the first 8. -/
def kL : List UInt32 := [1116352408, 1899447441, 3049323471, 3921009573, 961987163, 1508970993, 2453635748, 2870763221, 3624381080, 310598401, 607225278, 1426881987, 1925078388, 2162078206, 2614888103, 3248222580, 3835390401, 4022224774, 264347078, 604807628, 770255983, 1249150122, 1555081692, 1996064986, 2554220882, 2821834349, 2952996808, 3210313671, 3336571891, 3584528711, 113926993, 338241895, 666307205, 773529912, 1294757372, 1396182291, 1695183700, 1986661051, 2177026350, 2456956037, 2730485921, 2820302411, 3259730800, 3345764771, 3516065817, 3600352804, 4094571909, 275423344, 430227734, 506948616, 659060556, 883997877, 958139571, 1322822218, 1537002063, 1747873779, 1955562222, 2024104815, 2227730452, 2361852424, 2428436474, 2756734187, 3204031479, 3329325298]
def fL : List UInt32 := [1779033703, 3144134277, 1013904242, 2773480762, 1359893119, 2600822924, 528734635, 1541459225]
structure S8 where
  a : UInt32
  b : UInt32
  c : UInt32
  d : UInt32
  e : UInt32
  f : UInt32
  g : UInt32
  h : UInt32
def bg0 (x : UInt32) : UInt32 := rotl x 30 ^^^ rotl x 19 ^^^ rotl x 10
def bg1 (x : UInt32) : UInt32 := rotl x 26 ^^^ rotl x 21 ^^^ rotl x 7
def chs (x y z : UInt32) : UInt32 := x &&& y ^^^ ~~~x &&& z
def mst (x y z : UInt32) : UInt32 := x &&& y ^^^ x &&& z ^^^ y &&& z
def rnd (k w : UInt32) (s : S8) : S8 := ⟨(s.h + bg1 s.e + chs s.e s.f s.g + k + w) + (bg0 s.a + mst s.a s.b s.c), s.a, s.b, s.c, s.d + (s.h + bg1 s.e + chs s.e s.f s.g + k + w), s.e, s.f, s.g⟩
def s8 (st : List UInt32) : S8 := ⟨st.getD 0 0, st.getD 1 0, st.getD 2 0, st.getD 3 0, st.getD 4 0, st.getD 5 0, st.getD 6 0, st.getD 7 0⟩
def runs (st : List UInt32) (w : List UInt32) : Nat → S8
  | 0 => s8 st
  | t + 1 => rnd (kL.getD t 0) (w.getD t 0) (runs st w t)
/-- One block into the state. -/
def compress (st : List UInt32) (blk : List UInt8) : List UInt32 :=
  let r := runs st (expand blk) 64
  [st.getD 0 0 + r.a, st.getD 1 0 + r.b, st.getD 2 0 + r.c, st.getD 3 0 + r.d, st.getD 4 0 + r.e, st.getD 5 0 + r.f, st.getD 6 0 + r.g, st.getD 7 0 + r.h]
theorem compress_len (st : List UInt32) (blk : List UInt8) : (compress st blk).length = 8 := rfl
theorem kL_len : kL.length = 64 := rfl
theorem fL_len : fL.length = 8 := rfl
def accN (st last : List UInt32) : Nat → List UInt32
  | 0 => st
  | i + 1 => (accN st last i).set i ((accN st last i).getD i 0 + last.getD i 0)
theorem accN_len (st last : List UInt32) : ∀ i, (accN st last i).length = st.length
  | 0 => rfl
  | i + 1 => by simp only [accN, List.length_set]; exact accN_len st last i
theorem acc_end (st : List UInt32) (h : st.length = 8) (r : S8) : accN st [r.a, r.b, r.c, r.d, r.e, r.f, r.g, r.h] 8 = [st.getD 0 0 + r.a, st.getD 1 0 + r.b, st.getD 2 0 + r.c, st.getD 3 0 + r.d, st.getD 4 0 + r.e, st.getD 5 0 + r.f, st.getD 6 0 + r.g, st.getD 7 0 + r.h] := by
  match st, h with
  | [_, _, _, _, _, _, _, _], _ => rfl
/-! The rows of the plain way. -/
def va (st w : List UInt32) (j : Nat) : UInt32 := if j < 4 then st.getD (3 - j) 0 else (runs st w (j - 3)).a
def ve (st w : List UInt32) (j : Nat) : UInt32 := if j < 4 then st.getD (7 - j) 0 else (runs st w (j - 3)).e
theorem rows_eq (st w : List UInt32) : ∀ t, runs st w t = ⟨va st w (t + 3), va st w (t + 2), va st w (t + 1), va st w t, ve st w (t + 3), ve st w (t + 2), ve st w (t + 1), ve st w t⟩
  | 0 => by simp [runs, s8, va, ve]
  | t + 1 => by
    have ih := rows_eq st w t
    have ha : (runs st w (t + 1)).a = va st w (t + 1 + 3) := by unfold va; rw [if_neg (by omega)]; rfl
    have he : (runs st w (t + 1)).e = ve st w (t + 1 + 3) := by unfold ve; rw [if_neg (by omega)]; rfl
    have key : runs st w (t + 1) = ⟨(runs st w (t + 1)).a, (runs st w t).a, (runs st w t).b, (runs st w t).c, (runs st w (t + 1)).e, (runs st w t).e, (runs st w t).f, (runs st w t).g⟩ := rfl
    rw [key, ha, he, ih]
theorem va_next (st w : List UInt32) (t : Nat) : va st w (t + 4) = ve st w t + bg1 (ve st w (t + 3)) + chs (ve st w (t + 3)) (ve st w (t + 2)) (ve st w (t + 1)) + kL.getD t 0 + w.getD t 0 + bg0 (va st w (t + 3)) + mst (va st w (t + 3)) (va st w (t + 2)) (va st w (t + 1)) := by
  have : va st w (t + 4) = (runs st w (t + 1)).a := by unfold va; rw [if_neg (by omega)]; rfl
  rw [this]
  simp only [runs, rnd]
  rw [rows_eq st w t, UInt32.add_assoc _ (bg0 _)]
theorem ve_next (st w : List UInt32) (t : Nat) : ve st w (t + 4) = va st w t + (ve st w t + bg1 (ve st w (t + 3)) + chs (ve st w (t + 3)) (ve st w (t + 2)) (ve st w (t + 1)) + kL.getD t 0 + w.getD t 0) := by
  have : ve st w (t + 4) = (runs st w (t + 1)).e := by unfold ve; rw [if_neg (by omega)]; rfl
  rw [this]
  simp only [runs, rnd]
  rw [rows_eq st w t]
def asN (v : Nat → UInt32) (m : Nat) : List UInt32 := (List.range 68).map fun j => if j < m then v j else 0
theorem asN_len (v : Nat → UInt32) (m : Nat) : (asN v m).length = 68 := by simp [asN]
theorem asN_zero (v : Nat → UInt32) : asN v 0 = List.replicate 68 0 := by
  unfold asN
  apply List.ext_getElem
  · rw [List.length_map, List.length_range, List.length_replicate]
  · intro i h1 h2
    rw [List.getElem_map, List.getElem_replicate, if_neg (by omega)]
theorem asN_get (v : Nat → UInt32) {m j : Nat} (h : j < m) (hj : j < 68) : (asN v m).getD j 0 = v j := by
  simp [asN, List.getD, List.getElem?_map, List.getElem?_range hj, h]
theorem asN_set (v : Nat → UInt32) {m : Nat} : (asN v m).set m (v m) = asN v (m + 1) := by
  apply List.ext_getElem
  · simp [asN]
  · intro j h1 h2
    rw [List.getElem_set]
    simp only [asN, List.getElem_map, List.getElem_range]
    split
    · rename_i e; subst e; rw [if_pos (by omega)]
    · rename_i e
      by_cases h : j < m
      · rw [if_pos h, if_pos (by omega)]
      · rw [if_neg h, if_neg (by omega)]
def outN (st w : List UInt32) : Nat → List UInt32
  | 0 => List.replicate 8 0
  | i + 1 => ((outN st w i).set i (st.getD i 0 + va st w (67 - i))).set (4 + i) (st.getD (4 + i) 0 + ve st w (67 - i))
theorem outN_len (st w : List UInt32) : ∀ i, (outN st w i).length = 8
  | 0 => by simp [outN]
  | i + 1 => by simp [outN, outN_len st w i]
theorem out_end (st : List UInt32) (blk : List UInt8) : outN st (expand blk) 4 = compress st blk := by
  have h := rows_eq st (expand blk) 64
  unfold compress
  simp only [h]
  simp [outN, List.replicate]
theorem Hp.eqc {w0 w : World} {S : List Nat} {L : Lk} {X : List Ck} {t : Nat} {b : Option Nat} {cs cs' : List Value} {E : TypeId} (h : Hp w0 S ((t, ⟨b, cs, E⟩) :: L) X w) (e : cs = cs') : Hp w0 S ((t, ⟨b, cs', E⟩) :: L) X w := e ▸ h
attribute [irreducible] compress

end Go.Proofs.YtjdolgfhcjnniaaDoor

/-
  Frames, in plain terms.
-/
import Derived.Test.YthebbenfmoknbaaListP
namespace Go.Proofs.Ythebbenfmoknbaa
open Go Go.RowKit

def signL : List UInt8 := [19, 66, 105, 116, 84, 111, 114, 114, 101, 110, 116, 32, 112, 114, 111, 116, 111, 99, 111, 108]
theorem sign_len : signL.length = 20 := rfl
/-- A handshake's 48 bytes behind the sign. -/
abbrev Hl := { l : List UInt8 // l.length = 48 }
def greetL (h : Hl) : List UInt8 := signL ++ h.1
theorem greet_len (h : Hl) : (greetL h).length = 68 := by simp [greetL, sign_len, h.2]
theorem greet_sign (h : Hl) {i : Nat} (hi : i < 20) : (greetL h).getD i 0 = signL.getD i 0 := getD_append_left' (by rw [sign_len]; exact hi) 0
theorem greet_rest (h : Hl) {i : Nat} (hi : 20 ≤ i) : (greetL h).getD i 0 = h.1.getD (i - 20) 0 := by
  unfold greetL; rw [getD_append_right' (by rw [sign_len]; exact hi), sign_len]
theorem greet_snoc (h : Hl) {i : Nat} (hi : i < 68) {c : UInt8} (hc : c = (greetL h).getD i 0) : ((greetL h).take (i + 1)).map B8 = ((greetL h).take i).map B8 ++ [B8 c] := by
  rw [take_snoc8 (by rw [greet_len]; exact hi) 0, List.map_append, hc]; rfl
theorem sign_tail : ∀ i, i < 19 → ([66, 105, 116, 84, 111, 114, 114, 101, 110, 116, 32, 112, 114, 111, 116, 111, 99, 111, 108] : List UInt8).getD i 0 = signL.getD (i + 1) 0 := by
  intro i _; rfl

/-- What Meet tells. -/
def meetE (b : List UInt8) : Int := if b.take 20 = signL.take b.length then (if b.length < 68 then 101 else 0) else 100
def meetH (b : List UInt8) : Hl := if h : 68 ≤ b.length ∧ meetE b = 0 then ⟨(b.drop 20).take 48, by simp; omega⟩ else ⟨List.replicate 48 0, by simp⟩
theorem meet_bad {b : List UInt8} {i : Nat} (h1 : i < b.length) (h2 : i < 20) (h : b.getD i 0 ≠ signL.getD i 0) : meetE b = 100 := by
  unfold meetE
  rw [if_neg]
  intro e
  apply h
  rw [← getD_take h2 0, e, getD_take h1]
theorem meet_short {b : List UInt8} (h : b.length < 68) (h2 : b.take (min b.length 20) = signL.take (min b.length 20)) : meetE b = 101 := by
  unfold meetE
  rw [if_pos, if_pos h]
  rcases Nat.lt_or_ge b.length 20 with h3 | h3
  · rw [Nat.min_eq_left (by omega)] at h2
    rw [← h2, List.take_of_length_le (by omega), List.take_of_length_le (by omega)]
  · rw [Nat.min_eq_right h3] at h2
    rw [h2, List.take_of_length_le (by rw [sign_len]; omega), List.take_of_length_le (by rw [sign_len]; omega)]
theorem meet_ok {b : List UInt8} (h : 68 ≤ b.length) (h2 : b.take 20 = signL.take 20) : meetE b = 0 := by
  unfold meetE
  rw [if_pos, if_neg (by omega)]
  rw [h2, List.take_of_length_le (by rw [sign_len]; omega), List.take_of_length_le (by rw [sign_len]; omega)]
theorem meetE_or (b : List UInt8) : meetE b = 0 ∨ meetE b = 100 ∨ meetE b = 101 := by
  unfold meetE; split <;> (try split) <;> simp
theorem meetH_bad {b : List UInt8} (h : meetE b ≠ 0) : (meetH b).1 = List.replicate 48 0 := by unfold meetH; rw [dif_neg (by omega)]
theorem meetH_ok {b : List UInt8} (h : 68 ≤ b.length) (h2 : meetE b = 0) : (meetH b).1 = (b.drop 20).take 48 := by unfold meetH; rw [dif_pos ⟨h, h2⟩]
theorem sign_step {b : List UInt8} {i : Nat} (h1 : i < b.length) (h2 : i < 20) (h : b.take i = signL.take i) (he : b.getD i 0 = signL.getD i 0) : b.take (i + 1) = signL.take (i + 1) := by
  rw [take_snoc8 h1 0, take_snoc8 (by rw [sign_len]; exact h2) 0, h, he]
theorem b8_inj {a b : UInt8} (h : ((a.toNat : Nat) : Int) = b.toNat) : a = b := inj8 a b h
theorem hl_len (h : Hl) : (h.1.map B8).length = 48 := by simp [h.2]

theorem greet_parts (h : Hl) : greetL h = ((signL ++ (h.1.drop 0).take 8) ++ (h.1.drop 8).take 20) ++ (h.1.drop 28).take 20 := by
  unfold greetL
  rw [List.append_assoc, List.append_assoc]
  congr 1
  have e1 : (h.1.drop 28).take 20 = h.1.drop 28 := List.take_of_length_le (by simp [h.2])
  rw [e1, List.drop_zero]
  have e2 : (h.1.drop 8).take 20 ++ h.1.drop 28 = h.1.drop 8 := by
    rw [show h.1.drop 28 = (h.1.drop 8).drop 20 by rw [List.drop_drop], List.take_append_drop]
  rw [e2, List.take_append_drop]

def four (n : Nat) : List UInt8 := [UInt8.ofNat (n / 16777216), UInt8.ofNat (n / 65536), UInt8.ofNat (n / 256), UInt8.ofNat n]
theorem four_len (n : Nat) : (four n).length = 4 := rfl
theorem ofNat_mod (a : Nat) : UInt8.ofNat (a % 256) = UInt8.ofNat a := by
  apply UInt8.toNat_inj.1
  rw [UInt8.toNat_ofNat', UInt8.toNat_ofNat']; omega
theorem four_shr (n : Nat) : [B8 (UInt8.ofNat (n >>> 24)), B8 (UInt8.ofNat (n >>> 16)), B8 (UInt8.ofNat (n >>> 8)), B8 (UInt8.ofNat n)] = (four n).map B8 := by
  simp only [four, List.map_cons, List.map_nil, Nat.shiftRight_eq_div_pow]
theorem four_mod (n : Nat) : [B8 (UInt8.ofNat (n / 16777216 % 256)), B8 (UInt8.ofNat (n / 65536 % 256)), B8 (UInt8.ofNat (n / 256 % 256)), B8 (UInt8.ofNat (n % 256))] = (four n).map B8 := by
  simp only [four, List.map_cons, List.map_nil, ofNat_mod]
def wrapL (b : List UInt8) : List UInt8 := if 32768 < b.length then [] else four b.length ++ b
def wrapE (b : List UInt8) : Int := if 32768 < b.length then 102 else 0
theorem wrap_big {b : List UInt8} (h : 32768 < b.length) : wrapL b = [] ∧ wrapE b = 102 := by unfold wrapL wrapE; rw [if_pos h, if_pos h]; exact ⟨rfl, rfl⟩
theorem wrap_ok {b : List UInt8} (h : b.length ≤ 32768) : wrapL b = four b.length ++ b ∧ wrapE b = 0 := by unfold wrapL wrapE; rw [if_neg (by omega), if_neg (by omega)]; exact ⟨rfl, rfl⟩
theorem wrap_len {b : List UInt8} (h : b.length ≤ 32768) : (wrapL b).length = 4 + b.length := by rw [(wrap_ok h).1, List.length_append, four_len]
theorem wrap_le (b : List UInt8) : (wrapL b).length ≤ 32772 := by
  unfold wrapL; split
  · simp
  · rw [List.length_append, four_len]; omega

/-- The 48 bytes while they are laid: the first i of them. -/
def mt (b : List UInt8) (i : Nat) : List UInt8 := (b.drop 20).take i ++ List.replicate (48 - i) 0
theorem mt_len {b : List UInt8} (h : 68 ≤ b.length) {i : Nat} (hi : i ≤ 48) : (mt b i).length = 48 := by simp [mt]; omega
theorem mt_zero (b : List UInt8) : mt b 0 = List.replicate 48 0 := by simp [mt]
theorem mt_all {b : List UInt8} : mt b 48 = (b.drop 20).take 48 := by simp [mt]
theorem mt_put {b : List UInt8} (h : 68 ≤ b.length) (i n : Nat) (hi : i + n ≤ 48) : (mt b (i + n)).map B8 = ((mt b i).map B8).take i ++ ((b.drop (20 + i)).take n).map B8 ++ ((mt b i).map B8).drop (i + n) := by
  rw [← List.map_take, ← List.map_drop, ← List.map_append, ← List.map_append]
  congr 1
  unfold mt
  have hl : ((b.drop 20).take i).length = i := by simp; omega
  have e1 : (b.drop 20).take (i + n) = (b.drop 20).take i ++ (b.drop (20 + i)).take n := by rw [List.take_add, List.drop_drop]
  have e2 : ((b.drop 20).take i ++ List.replicate (48 - i) (0 : UInt8)).drop (i + n) = List.replicate (48 - (i + n)) 0 := by
    rw [← List.drop_drop, List.drop_left' hl, List.drop_replicate]
    congr 1; omega
  rw [e2, List.take_left' hl, e1]
theorem mt_set {b : List UInt8} (h : 68 ≤ b.length) (i : Nat) (hi : i < 48) : (mt b i).set i (b.getD (20 + i) 0) = mt b (i + 1) := by
  unfold mt
  have hl : ((b.drop 20).take i).length = i := by simp; omega
  rw [List.set_append_right _ _ (by omega), hl, Nat.sub_self, show 48 - i = (48 - (i + 1)) + 1 by omega, List.replicate_succ, List.set_cons_zero, take_snoc8 (by simp; omega) 0, getD_drop, List.append_assoc]
  rfl
/-- Info and Peer while they are laid side by side. -/
def mt2 (b : List UInt8) (i : Nat) : List UInt8 := (b.drop 20).take (8 + i) ++ List.replicate (20 - i) 0 ++ (b.drop 48).take i ++ List.replicate (20 - i) 0
theorem mt2_zero (b : List UInt8) : mt b 8 = mt2 b 0 := by
  unfold mt mt2
  simp only [Nat.add_zero, Nat.sub_zero, List.take_zero, List.append_nil, List.append_assoc, List.replicate_append_replicate]
theorem mt2_len {b : List UInt8} (h : 68 ≤ b.length) {i : Nat} (hi : i ≤ 20) : (mt2 b i).length = 48 := by simp [mt2]; omega
theorem mt2_all {b : List UInt8} (h : 68 ≤ b.length) : mt2 b 20 = (b.drop 20).take 48 := by
  unfold mt2
  simp only [Nat.sub_self, List.replicate_zero, List.append_nil]
  have e : (b.drop 20).take (28 + 20) = (b.drop 20).take 28 ++ (b.drop 48).take 20 := by rw [List.take_add, List.drop_drop]
  exact e.symm
theorem mt2_set {b : List UInt8} (h : 68 ≤ b.length) (i : Nat) (hi : i < 20) : ((mt2 b i).set (8 + i) (b.getD (28 + i) 0)).set (28 + i) (b.getD (48 + i) 0) = mt2 b (i + 1) := by
  unfold mt2
  have hl : ((b.drop 20).take (8 + i)).length = 8 + i := by simp; omega
  have hl2 : ((b.drop 48).take i).length = i := by simp; omega
  have e1 : 20 - i = (20 - (i + 1)) + 1 := by omega
  have e2 : (b.drop 20).take (8 + (i + 1)) = (b.drop 20).take (8 + i) ++ [b.getD (28 + i) 0] := by
    rw [show 8 + (i + 1) = 8 + i + 1 by omega, take_snoc8 (by simp; omega) 0, getD_drop, show 20 + (8 + i) = 28 + i by omega]
  have e3 : (b.drop 48).take (i + 1) = (b.drop 48).take i ++ [b.getD (48 + i) 0] := by rw [take_snoc8 (by simp; omega) 0, getD_drop]
  rw [e2, e3, e1, List.replicate_succ]
  generalize (b.drop 20).take (8 + i) = A at *
  generalize (b.drop 48).take i = B at *
  generalize b.getD (28 + i) 0 = x
  generalize b.getD (48 + i) 0 = y
  have hR : (List.replicate (20 - (i + 1)) (0 : UInt8)).length = 20 - (i + 1) := by simp
  generalize List.replicate (20 - (i + 1)) (0 : UInt8) = R at *
  have s1 : (A ++ 0 :: R ++ B ++ 0 :: R).set (8 + i) x = A ++ x :: R ++ B ++ 0 :: R := by
    simp only [List.append_assoc, List.cons_append]
    rw [List.set_append_right _ _ (by omega), hl, Nat.sub_self, List.set_cons_zero]
  rw [s1]
  have s2 : (A ++ x :: R ++ B ++ 0 :: R).set (28 + i) y = A ++ x :: R ++ B ++ y :: R := by
    rw [List.set_append_right _ _ (by simp; omega)]
    have : 28 + i - (A ++ x :: R ++ B).length = 0 := by simp; omega
    rw [this, List.set_cons_zero]
  rw [s2]
  simp

def num4 (b : List UInt8) : Nat := (b.getD 0 0).toNat * 16777216 + (b.getD 1 0).toNat * 65536 + (b.getD 2 0).toNat * 256 + (b.getD 3 0).toNat
theorem num4_lt (b : List UInt8) : num4 b < 4294967296 := by
  unfold num4
  have u0 := (b.getD 0 0).toNat_lt; have u1 := (b.getD 1 0).toNat_lt; have u2 := (b.getD 2 0).toNat_lt; have u3 := (b.getD 3 0).toNat_lt
  omega
theorem or24 {a b : Nat} (h : b < 256) : a <<< 24 ||| b <<< 16 = a * 16777216 + b * 65536 := by
  rw [← Nat.shiftLeft_add_eq_or_of_lt (by rw [Nat.shiftLeft_eq]; omega), Nat.shiftLeft_eq, Nat.shiftLeft_eq]
theorem or16 {a b c : Nat} (h : c < 256) : (a * 16777216 + b * 65536) ||| c <<< 8 = a * 16777216 + b * 65536 + c * 256 := by
  rw [show a * 16777216 + b * 65536 = (a * 256 + b) <<< 16 by rw [Nat.shiftLeft_eq]; omega, ← Nat.shiftLeft_add_eq_or_of_lt (by rw [Nat.shiftLeft_eq]; omega), Nat.shiftLeft_eq, Nat.shiftLeft_eq]
theorem or8 {a b c d : Nat} (h : d < 256) : (a * 16777216 + b * 65536 + c * 256) ||| d = a * 16777216 + b * 65536 + c * 256 + d := by
  rw [show a * 16777216 + b * 65536 + c * 256 = (a * 65536 + b * 256 + c) <<< 8 by rw [Nat.shiftLeft_eq]; omega, ← Nat.shiftLeft_add_eq_or_of_lt (by omega), Nat.shiftLeft_eq]
/-- Behind bodies A that took k bytes. -/
def joinS (A : List (List UInt8)) (k : Nat) (r : List (List UInt8) × Nat × Int) : List (List UInt8) × Nat × Int := (A ++ r.1, k + r.2.1, r.2.2)
/-- What Split tells. -/
def splitN : Nat → List UInt8 → List (List UInt8) × Nat × Int
  | 0, _ => ([], 0, 0)
  | n + 1, l => if l.length < 4 then ([], 0, 0) else if 32768 < num4 l then ([], 0, 102) else if l.length - 4 < num4 l then ([], 0, 0)
    else joinS [(l.drop 4).take (num4 l)] (4 + num4 l) (splitN n (l.drop (4 + num4 l)))
def split (l : List UInt8) : List (List UInt8) × Nat × Int := splitN l.length l
theorem splitN_fuel : ∀ (n m : Nat) (l : List UInt8), l.length ≤ n → l.length ≤ m → splitN n l = splitN m l
  | 0, 0, _, _, _ => rfl
  | 0, m + 1, l, h, _ => by simp only [splitN]; rw [if_pos (by omega)]
  | n + 1, 0, l, _, h => by simp only [splitN]; rw [if_pos (by omega)]
  | n + 1, m + 1, l, h1, h2 => by
    simp only [splitN]
    split
    · rfl
    · rw [splitN_fuel n m (l.drop (4 + num4 l)) (by simp; omega) (by simp; omega)]
theorem split_eq (l : List UInt8) : split l = if l.length < 4 then ([], 0, 0) else if 32768 < num4 l then ([], 0, 102) else if l.length - 4 < num4 l then ([], 0, 0)
    else joinS [(l.drop 4).take (num4 l)] (4 + num4 l) (split (l.drop (4 + num4 l))) := by
  unfold split
  cases hl : l.length with
  | zero => rfl
  | succ n =>
    simp only [splitN, hl]
    rw [splitN_fuel n (l.drop (4 + num4 l)).length (l.drop (4 + num4 l)) (by simp; omega) (Nat.le_refl _)]
theorem split_short {l : List UInt8} (h : l.length < 4) : split l = ([], 0, 0) := by rw [split_eq, if_pos h]
theorem split_big {l : List UInt8} (h : 4 ≤ l.length) (h2 : 32768 < num4 l) : split l = ([], 0, 102) := by rw [split_eq, if_neg (by omega), if_pos h2]
theorem split_part {l : List UInt8} (h : 4 ≤ l.length) (h2 : num4 l ≤ 32768) (h3 : l.length - 4 < num4 l) : split l = ([], 0, 0) := by rw [split_eq, if_neg (by omega), if_neg (by omega), if_pos h3]
theorem split_more {l : List UInt8} (h : 4 ≤ l.length) (h2 : num4 l ≤ 32768) (h3 : num4 l ≤ l.length - 4) : split l = joinS [(l.drop 4).take (num4 l)] (4 + num4 l) (split (l.drop (4 + num4 l))) := by rw [split_eq, if_neg (by omega), if_neg (by omega), if_neg (by omega)]
theorem joinS_join (A B : List (List UInt8)) (k m : Nat) (r : List (List UInt8) × Nat × Int) : joinS A k (joinS B m r) = joinS (A ++ B) (k + m) r := by simp [joinS, Nat.add_assoc]
theorem joinS_nil (r : List (List UInt8) × Nat × Int) : joinS [] 0 r = r := by simp [joinS]
/-- What a Split hands back. -/
def SplitR (w0 w' : World) (e : Ending) (r : List (List UInt8) × Nat × Int) : Prop :=
  ∃ (g : Gs) (bs : List Bs), e = .returned (.tuple #[.slice (adr g.ob) bs.length g.cap, .int .i64 (r.2.1 : Int), .int .i64 r.2.2]) ∧ Left w0 w' [] (⟨g.ob, bs.map Bs.v ++ g.sp, 26⟩ :: bs.map Bs.ck) ∧ (bs.map Bs.v ++ g.sp).length = g.cap * 1 ∧ bs.map Bs.bs = r.1 ∧ ∀ x ∈ bs, x.fit

theorem split_end {l : List UInt8} (h : l.length < 4 ∨ (4 ≤ l.length ∧ num4 l ≤ 32768 ∧ l.length - 4 < num4 l)) : split l = ([], 0, 0) := by
  rcases h with h | ⟨h1, h2, h3⟩
  · exact split_short h
  · exact split_part h1 h2 h3

theorem num4_at {b : List UInt8} (k : Nat) : num4 (b.drop k) = (((b.getD k 0).toNat * 256 + (b.getD (k + 1) 0).toNat) * 256 + (b.getD (k + 2) 0).toNat) * 256 + (b.getD (k + 3) 0).toNat := by
  unfold num4
  rw [getD_drop, getD_drop, getD_drop, getD_drop, Nat.add_zero]
  omega

theorem sl_bs (bs : List Bs) : (bs.map Bs.sl).map Sl.bs = bs.map Bs.bs := by rw [List.map_map]; rfl
theorem splitN_le : ∀ (n : Nat) (l : List UInt8), (∀ x ∈ (splitN n l).1, x.length ≤ l.length) ∧ (splitN n l).1.length ≤ l.length
  | 0, l => by simp [splitN]
  | n + 1, l => by
    simp only [splitN]
    split
    · simp
    · split
      · simp
      · split
        · simp
        · obtain ⟨h1, h2⟩ := splitN_le n (l.drop (4 + num4 l))
          simp only [joinS, List.mem_append, List.mem_singleton, List.length_append, List.length_singleton]
          refine ⟨fun x hx => ?_, ?_⟩
          · rcases hx with rfl | hx
            · simp; omega
            · have := h1 x hx; simp at this; omega
          · simp at h2; omega
theorem split_le {bs : List Bs} {l : List UInt8} {n : Nat} (h : bs.map Bs.bs = (split l).1) (hl : l.length ≤ n) : ∀ s ∈ bs.map Bs.sl, s.bs.length ≤ n := fun s hs => by
  obtain ⟨x, hx, rfl⟩ := List.mem_map.1 hs
  have : x.bs ∈ (split l).1 := by rw [← h]; exact List.mem_map_of_mem hx
  exact Nat.le_trans ((splitN_le _ _).1 _ this) hl
theorem split_le2 {bs : List Bs} {l : List UInt8} {n : Nat} (h : bs.map Bs.bs = (split l).1) (hl : l.length ≤ n) : (bs.map Bs.sl).length ≤ n := by
  have := congrArg List.length h
  rw [List.length_map] at this ⊢
  rw [this]
  exact Nat.le_trans (splitN_le _ _).2 hl

end Go.Proofs.Ythebbenfmoknbaa

/-
  What the kernel counts of awake; a constant text.
-/
import Derived.Test.YtjdolgfhcjnniaaDoorLayP
import Derived.ProofKit
namespace Go.Proofs.YtjdolgfhcjnniaaDoor
open Go Go.RowKit

set_option maxRecDepth 100000
abbrev zb129 : List UInt8 := List.replicate 129 0
theorem awk_g : goodNo 64 32 = 0 := by decide +kernel
theorem awk_E : frE 64 32 3 = 0 := by decide +kernel
theorem awk_V : frV 64 32 [97, 98, 99] = hashL 64 32 [97, 98, 99] := by kernel_rfl
theorem awk_186 : (hashL 64 32 [97, 98, 99]).1.getD 0 0 = 186 := by decide +kernel
theorem awk_120 : (hashL 64 32 [97, 98, 99]).1.getD 1 0 = 120 := by decide +kernel
theorem awk_PE : plE 64 32 64 129 = 0 := by decide +kernel
theorem awk_PV : plV 64 32 64 zb129 = [hashL 64 32 (List.replicate 64 0), hashL 64 32 (List.replicate 64 0), hashL 64 32 [0]] := by kernel_rfl
theorem awk_ne : (hashL 64 32 (List.replicate 64 0)).1 ≠ (hashL 64 32 [0]).1 := fun h => by
  have h1 : (hashL 64 32 (List.replicate 64 0)).1.getD 0 0 = (hashL 64 32 [0]).1.getD 0 0 := by rw [h]
  have h2 : (hashL 64 32 (List.replicate 64 0)).1.getD 0 0 = 245 := by decide +kernel
  have h3 : (hashL 64 32 [0]).1.getD 0 0 = 110 := by decide +kernel
  rw [h2, h3] at h1
  exact absurd h1 (by decide)
theorem awk_LE : lrE 64 32 64 129 3 = 0 := by decide +kernel
theorem awk_FE : frE 64 32 129 = 0 := by decide +kernel
theorem awk_LV (a b c : Hs) : lrV 64 32 64 129 [a, b, c] = rootV 64 32 [a, b, c] 0 := by unfold lrV; rw [if_pos (show lrE 64 32 64 129 [a, b, c].length = 0 from awk_LE)]; rfl
theorem awk_FV : frV 64 32 zb129 = rootV 64 32 (plV 64 32 64 zb129) 0 := by
  have h1 : leavesV 64 32 zb129 = plV 64 32 64 zb129 := by
    unfold plV
    rw [if_pos ⟨awk_PE, by decide⟩, show bitLen ((64 / 64 : Int).toNat - 1) = 0 by decide]
    rfl
  unfold frV
  rw [if_pos (show frE 64 32 zb129.length = 0 from awk_FE), h1]
section
variable {P : Program} {Q : Exit → Act → World → Prop} {n : Nat} {F : Fr} {w w0 : World} {ops : Array Oper} {rest : List Oper} {ty : TypeId} {pos : String} {af : Array Edge} {d : Tmp} {S : List Nat} {L L' : Lk} {X : List Ck}
theorem freeze_at {b m : Nat} {cs : Array Value} {E : TypeId} (h : w.heap[b]? = some (.cells cs E (0, 0))) : (w.freeze ⟨b, m, none⟩ 1).heap[b]? = some (.cells cs E (m, m + 1)) := by
  obtain ⟨hlt, hb⟩ := Array.getElem?_eq_some_iff.1 h
  unfold World.freeze
  rw [if_neg (by decide)]
  show (w.heap.modify b _)[b]? = _
  rw [Array.getElem?_modify, if_pos rfl, h]
  rfl
theorem freeze_off {b m k : Nat} (h : k ≠ b) : (w.freeze ⟨b, m, none⟩ 1).heap[k]? = w.heap[k]? := by
  unfold World.freeze
  rw [if_neg (by decide)]
  show (w.heap.modify b _)[k]? = _
  rw [Array.getElem?_modify, if_neg (Ne.symm h)]
/-- '[]byte("..")' of a constant: the row is marked, and ours no more. -/
theorem st_mark (t : Nat) {T e : TypeId} {x : Operand} {b l c : Nat} {cs : List Value} {E : TypeId} (hp : Hp w0 S L X w) (hL : lc L t = some ⟨some b, cs, E⟩) (hd : Nat.blt d n = true) (hx : evF F x = some (.slice (some ⟨b, 0, none⟩) l c)) (hu : P.underlying T = some (.slice e)) (he : P.underlying e = some (.int .u8)) (hs : XSub t L' L)
    (K : ∀ w', Hp w0 S L' X w' → Cells w' b 0 cs → St P Q n ops rest ((d, .slice (some ⟨b, 0, none⟩) l c) :: F) w') : St P Q n ops (⟨some d, .convert T T x, ty, pos, af, none⟩ :: rest) F w := by
  have hb := (hp.own t _ hL).heap rfl
  have hsh : w.shape? b = some (E, cs.length) := by unfold World.shape?; rw [hb]; simp
  have hc : Chg [b] w (w.freeze ⟨b, cs.length, none⟩ 1) := ⟨by unfold World.freeze; rw [if_neg (by decide)], by unfold World.freeze; rw [if_neg (by decide)], by unfold World.freeze; rw [if_neg (by decide)], by unfold World.freeze; rw [if_neg (by decide)]; simp, fun k _ hk => freeze_off (by simpa using hk)⟩
  refine st_run (v := .slice (some ⟨b, 0, none⟩) l c) (w' := w.freeze ⟨b, cs.length, none⟩ 1) ?_ hd (K _ ?_ ?_)
  · intro n a ha o ho _
    simp [execOp, ho, ha.eval hx, convert, run_underlying hu, run_underlying he, markStringish, hsh]
  · have hoff : ∀ t' c', lc L' t' = some c' → Blk (w.freeze ⟨b, cs.length, none⟩ 1) c' := fun t' c' h' => by
      obtain ⟨h1, hne⟩ := hs t' c' h'
      exact (hp.own t' c' h1).moved fun b' hb' => freeze_off fun e => hp.apart t' t c' _ b' h1 hL hne hb' (by rw [e])
    refine ⟨hp.chg.trans hc fun b' hb' => ?_, hoff, fun t' c' b' h' => hp.mine t' c' b' (hs t' c' h').1, fun t' t2 c' c2 b' h' h2 => hp.apart t' t2 c' c2 b' (hs t' c' h').1 (hs t2 c2 h2).1, fun c' h' => (hp.ownX c' h').moved fun b' hb' => freeze_off fun e => hp.apartLX t _ b hL rfl (e ▸ mem_blks h' hb'), hp.mineX, hp.apartX, fun t' c' b' h' => hp.apartLX t' c' b' (hs t' c' h').1⟩
    obtain rfl : b' = b := by simpa using hb'
    exact hp.mine t _ b' hL rfl
  · intro j v hj
    have h9 := freeze_at (m := cs.length) hb
    unfold World.cell?
    rw [h9]
    simpa using hj
end

end Go.Proofs.YtjdolgfhcjnniaaDoor

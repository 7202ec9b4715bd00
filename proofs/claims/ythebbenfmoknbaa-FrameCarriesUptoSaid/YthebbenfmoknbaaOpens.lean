/-
  The types of this seat that come in, opened.
-/
import Derived.Test.YthebbenfmoknbaaRow
import Derived.Test.YthebbenfmoknbaaFacts
import Derived.Test.YthebbenfmoknbaaFrmP
namespace Go.Proofs.Ythebbenfmoknbaa
open Go Go.RowKit Go.ChangeShapes Go.WideShapes
set_option maxRecDepth 100000
theorem op5 (W : World) : Opens Try.prog W 5 (fun cs _ => ∃ x : UInt8, cs = [B8 x]) := Opens.u8 Try.underlying5
theorem op22 (W : World) : Opens Try.prog W 22 (fun cs _ => ∃ b : List UInt8, b.length = 8 ∧ cs = b.map B8) := Opens.arrayOf Try.underlying22 (by kernel_rfl) (op5 W)
theorem op23 (W : World) : Opens Try.prog W 23 (fun cs _ => ∃ b : List UInt8, b.length = 20 ∧ cs = b.map B8) := Opens.arrayOf Try.underlying23 (by kernel_rfl) (op5 W)
theorem op25 (W : World) : Opens Try.prog W 25 (fun cs _ => ∃ h : Hl, cs = h.1.map B8) :=
  (Opens.struct (rs := [(8, _), (20, _), (20, _)]) Try.underlying25 (by kernel_rfl) ⟨rfl, by kernel_rfl, op22 W, rfl, by kernel_rfl, op23 W, rfl, by kernel_rfl, op23 W, trivial⟩).mono fun cs n ⟨k, _, a, b, _, _, e, _, _, ⟨x, hx, ex⟩, c, d, _, _, e', _, _, ⟨y, hy, ey⟩, c2, d2, _, _, e2, _, _, ⟨z, hz, ez⟩, e3⟩ =>
    ⟨⟨x ++ (y ++ z), by simp [hx, hy, hz]⟩, by rw [e, ex, e', ey, e2, ez, e3]; simp⟩
theorem op26 (W : World) : Opens Try.prog W 26 (fun cs n => ∃ ao cap, ∃ b : List UInt8, cs = [.slice ao b.length cap] ∧ b.length ≤ cap ∧ cap * Try.prog.bytesOf 5 ≤ reachBytes ∧ cap ≤ n ∧ Rd W ao (b.map B8) ∧ (ao = none → cap = 0)) := Opens.sliceOf Try.underlying26 (op5 W)
theorem op3 (W : World) : Opens Try.prog W 3 (fun cs _ => ∃ n, cs = [.int .i64 n] ∧ -9223372036854775808 ≤ n ∧ n ≤ 9223372036854775807) := Opens.i64 Try.underlying3
theorem op4 (W : World) : Opens Try.prog W 4 (fun cs _ => ∃ b, cs = [.bool b]) := Opens.bool Try.underlying4
theorem op55 (W : World) : Opens Try.prog W 55 (fun cs n => ∃ ao cap, ∃ b : List Int, cs = [.slice ao b.length cap] ∧ b.length ≤ cap ∧ cap * Try.prog.bytesOf 3 ≤ reachBytes ∧ cap ≤ n ∧ Rd W ao (b.map fun x => Value.int .i64 x) ∧ (ao = none → cap = 0)) := Opens.sliceOf Try.underlying55 ((op3 W).mono fun _ _ ⟨n, h, _⟩ => ⟨n, h⟩)
theorem op37 (W : World) : Opens Try.prog W 37 (fun cs n => ∃ ao cap, ∃ b : List Sl, cs = [.slice ao b.length cap] ∧ b.length ≤ cap ∧ cap * Try.prog.bytesOf 26 ≤ reachBytes ∧ cap ≤ n ∧ Rd W ao (b.map Sl.v) ∧ RdAll W b ∧ (b.map fun s => s.bs.length).sum ≤ n ∧ (∀ s ∈ b, s.ao = none → s.cap = 0) ∧ (ao = none → cap = 0)) :=
  (Opens.slicesOf (f := fun s : Sl => [Sl.v s]) (Q := fun s => (Rd W s.ao (s.bs.map B8) ∧ s.bs.length ≤ s.cap) ∧ (s.ao = none → s.cap = 0)) (sz := fun s => s.bs.length) Try.underlying37 ((op26 W).mono fun cs n ⟨ao, cap, b, h1, h2, _, h4, h5, h6⟩ => ⟨⟨ao, b, cap⟩, h1, ⟨⟨h5, h2⟩, h6⟩, Nat.le_trans h2 h4⟩)).mono fun cs n ⟨ao, cap, b, h1, h2, h3, h4, h5, h6, h7, h8⟩ =>
    ⟨ao, cap, b, h1, h2, h3, h4, by rw [List.map_eq_flatMap]; exact h5, fun s hs => (h6 s hs).1, h7, fun s hs => (h6 s hs).2, h8⟩
end Go.Proofs.Ythebbenfmoknbaa

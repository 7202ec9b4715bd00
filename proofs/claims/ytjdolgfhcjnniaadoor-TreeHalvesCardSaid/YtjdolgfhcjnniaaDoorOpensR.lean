/-
  The types of this seat that come in, opened.
-/
import Derived.Test.YtjdolgfhcjnniaaDoorRow
import Derived.Test.YtjdolgfhcjnniaaDoorFacts
import Derived.Test.YtjdolgfhcjnniaaDoorOpens
namespace Go.Proofs.YtjdolgfhcjnniaaDoor
open Go Go.RowKit Go.ChangeShapes Go.WideShapes
set_option maxRecDepth 100000
theorem op26 (W : World) : Opens Tryd.prog W 26 (fun cs n => ∃ ao cap, ∃ b : List Hs, cs = [.slice ao b.length cap] ∧ b.length ≤ cap ∧ cap * Tryd.prog.bytesOf 34 ≤ reachBytes ∧ cap ≤ n ∧ Rd W ao (b.flatMap hcs) ∧ (ao = none → cap = 0)) :=
  (Opens.slicesOf (f := hcs) (Q := fun _ => True) (sz := fun _ => 0) Tryd.underlying26 ((op34 W).mono fun cs n ⟨b, h1, h2⟩ => ⟨⟨b, h1⟩, h2, trivial, Nat.zero_le _⟩)).mono fun cs n ⟨ao, cap, b, h1, h2, h3, h4, h5, h6, h7, h8⟩ =>
    ⟨ao, cap, b, h1, h2, h3, h4, h5, h8⟩
end Go.Proofs.YtjdolgfhcjnniaaDoor

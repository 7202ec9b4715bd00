/-
  The row of this seat's laws: what a reading of an argument gives of its cells ('Opens'), and a row's end: the law has answered true and nothing that was there has turned ('keeps').
-/
import Derived.Test.YtjdolgfhcjnniaaDoorStr
import Derived.Test.YtjdolgfhcjnniaaDoorRows
import Derived.OpenShut
import Derived.Carry
import Derived.Deep.DeepHandedRow
import Derived.SizedLaws
namespace Go.Proofs.YtjdolgfhcjnniaaDoor
open Go Go.RowKit Go.ChangeShapes Go.WideShapes

/-! ### 1. A reading opened: by the type's shape -/
/-- Whatever reads as a datum of type t: its cells are so, and so its bulk. -/
def Opens (P : Program) (W : World) (t : TypeId) (R : List Value → Nat → Prop) : Prop :=
  ∀ (H : Type) (enc : TypeId × Value → H) (fuel : Nat) (cs : List Value) (x : DataW H × List MemPlace), DataW.trod enc P W 0 (fun _ => true) true fuel t cs = some x → (∀ n ∈ x.1.weights P t, n ≤ reachBytes) → R cs (Rows.uptoBulk x.1)

theorem bulk_pos {H : Type} : ∀ d : DataW H, 1 ≤ Rows.uptoBulk d
  | .lit l => by cases l <;> simp [Rows.uptoBulk]
  | .nil | .ptr _ | .slice _ _ | .agg _ | .iface _ _ | .map _ | .held _ => by simp [Rows.uptoBulk]
theorem bulk_len {H : Type} : ∀ ds : List (DataW H), ds.length ≤ Rows.uptoBulkAll ds
  | [] => by simp [Rows.uptoBulkAll]
  | d :: ds => by
    have h1 := bulk_pos d
    have h2 := bulk_len ds
    simp only [Rows.uptoBulkAll, List.length_cons]; omega

section
variable {P : Program} {W : World} {t e : TypeId} {R : List Value → Nat → Prop}
theorem Opens.mono {R' : List Value → Nat → Prop} (h : Opens P W t R) (hr : ∀ cs n, R cs n → R' cs n) : Opens P W t R' := fun H enc n cs x hx hz => hr cs _ (h H enc n cs x hx hz)
theorem Opens.bool (ht : P.underlying t = some .bool) : Opens P W t fun cs _ => ∃ b, cs = [.bool b] := fun _ _ _ _ _ h _ =>
  let ⟨b, e, _⟩ := DataW.trod_bool ht h
  ⟨b, e⟩
theorem Opens.int {k : IntKind} (ht : P.underlying t = some (.int k)) : Opens P W t fun cs _ => ∃ n, cs = [.int k n] ∧ (Lit.int k n).wf = true := fun _ _ _ _ _ h _ =>
  let ⟨n, e, _, hw⟩ := DataW.trod_int ht h
  ⟨n, e, hw⟩
theorem Opens.i64 (ht : P.underlying t = some (.int .i64)) : Opens P W t fun cs _ => ∃ n, cs = [.int .i64 n] ∧ -9223372036854775808 ≤ n ∧ n ≤ 9223372036854775807 :=
  (Opens.int ht).mono fun _ _ ⟨n, e, hw⟩ => ⟨n, e, bounds_i64 hw⟩
theorem Opens.u8 (ht : P.underlying t = some (.int .u8)) : Opens P W t fun cs _ => ∃ x : UInt8, cs = [B8 x] :=
  (Opens.int ht).mono fun _ _ ⟨n, e, hw⟩ => ⟨UInt8.ofNat n.toNat, by
    obtain ⟨h1, h2⟩ := bounds_u8 hw
    rw [e]
    have : (UInt8.ofNat n.toNat).toNat = n.toNat := by simp; omega
    show [Value.int .u8 n] = [Value.int .u8 ((UInt8.ofNat n.toNat).toNat : Int)]
    rw [this, show ((n.toNat : Nat) : Int) = n by omega]⟩
theorem Opens.u32 (ht : P.underlying t = some (.int .u32)) : Opens P W t fun cs _ => ∃ x : UInt32, cs = [B32 x] :=
  (Opens.int ht).mono fun _ _ ⟨n, e, hw⟩ => ⟨UInt32.ofNat n.toNat, by
    obtain ⟨h1, h2⟩ := bounds_u32 hw
    rw [e]
    have : (UInt32.ofNat n.toNat).toNat = n.toNat := by simp; omega
    show [Value.int .u32 n] = [Value.int .u32 ((UInt32.ofNat n.toNat).toNat : Int)]
    rw [this, show ((n.toNat : Nat) : Int) = n by omega]⟩
theorem Opens.string (ht : P.underlying t = some .string) : Opens P W t fun cs n => ∃ s : ByteArray, cs = [.string s] ∧ s.size ≤ reachBytes ∧ s.size ≤ n := fun _ _ _ _ _ h hz =>
  let ⟨s, e, hx, _⟩ := DataW.trod_string ht h
  ⟨s, e, by
    rw [hx] at hz
    have := hz s.data.toList.length (by simp [DataW.weights])
    rwa [Array.length_toList] at this, by
    rw [hx]
    simp only [Rows.uptoBulk, Array.length_toList]
    exact Nat.le_succ _⟩

/-- Rows laid end to end. -/
theorem rows_of {c : Nat} {R : List Value → Prop} : ∀ (n : Nat) (cs : List Value), cs.length = n * c → (∀ i, i < n → R ((cs.drop (i * c)).take c)) → ∃ ls : List (List Value), ls.length = n ∧ cs = ls.flatten ∧ ∀ l ∈ ls, R l ∧ l.length = c
  | 0, cs, h, _ => ⟨[], rfl, by cases cs <;> simp_all, by simp⟩
  | n + 1, cs, h, hr => by
    obtain ⟨ls, h1, h2, h3⟩ := rows_of (c := c) (R := R) n (cs.drop c) (by rw [List.length_drop, h, Nat.succ_mul]; omega) (fun i hi => by
      have := hr (i + 1) (by omega)
      rwa [Nat.succ_mul, Nat.add_comm, ← List.drop_drop] at this)
    refine ⟨cs.take c :: ls, by simp [h1], by rw [List.flatten_cons, ← h2, List.take_append_drop], ?_⟩
    intro l hl
    rcases List.mem_cons.1 hl with rfl | hl
    · refine ⟨by simpa using hr 0 (by omega), ?_⟩
      rw [List.length_take, h, Nat.succ_mul]; omega
    · exact h3 l hl

theorem mem_weightsAll {H : Type} {d : DataW H} {k : Nat} : ∀ {ds : List (DataW H)}, d ∈ ds → k ∈ d.weights P e → k ∈ DataW.weightsAll P e ds
  | d0 :: ds, hd, hk => by
    simp only [DataW.weightsAll, List.mem_append]
    rcases List.mem_cons.1 hd with rfl | hd
    · exact Or.inl hk
    · exact Or.inr (mem_weightsAll hd hk)
  | [], hd, _ => by simp at hd
theorem Opens.array {n : Nat} (ht : P.underlying t = some (.array n e)) (hc : P.cellsOf t = n * P.cellsOf e) (he : Opens P W e R) :
    Opens P W t fun cs _ => ∃ ls : List (List Value), ls.length = n ∧ cs = ls.flatten ∧ ∀ l ∈ ls, (∃ k, R l k) ∧ l.length = P.cellsOf e := fun H enc fuel cs x h hz => by
  obtain ⟨xs, m, _, hx, hl, hxs, hf⟩ := DataW.trod_array ht h
  refine rows_of n cs (hl.trans hc) fun i hi => ?_
  have := hf i hi
  rw [List.getElem?_eq_getElem (by omega)] at this
  refine ⟨_, he H enc m _ _ this fun k hk => hz k ?_⟩
  rw [hx]
  simp only [DataW.weights, ht]
  exact mem_weightsAll (List.mem_map_of_mem (List.getElem_mem _)) hk

/-- Elements of one cell. -/
theorem map_of {α : Type} {f : α → Value} : ∀ (ls : List (List Value)), (∀ l ∈ ls, (∃ x, l = [f x])) → ∃ b : List α, b.length = ls.length ∧ ls.flatten = b.map f
  | [], _ => ⟨[], rfl, rfl⟩
  | l :: ls, h => by
    obtain ⟨x, hx⟩ := h l (by simp)
    obtain ⟨b, h1, h2⟩ := map_of ls (fun l hl => h l (by simp [hl]))
    exact ⟨x :: b, by simp [h1], by simp [hx, h2]⟩
/-- Elements of many cells, with their sizes. -/
theorem bind_of {α : Type} {f : α → List Value} {Q : α → Prop} {sz : α → Nat} : ∀ (ls : List (List Value × Nat)), (∀ l ∈ ls, (∃ x, l.1 = f x ∧ Q x ∧ sz x ≤ l.2)) →
    ∃ b : List α, b.length = ls.length ∧ (ls.map (·.1)).flatten = b.flatMap f ∧ (∀ x ∈ b, Q x) ∧ (b.map sz).sum ≤ (ls.map (·.2)).sum
  | [], _ => ⟨[], rfl, rfl, by simp, by simp⟩
  | l :: ls, h => by
    obtain ⟨x, hx, hq, hs⟩ := h l (by simp)
    obtain ⟨b, h1, h2, h3, h4⟩ := bind_of ls (fun l hl => h l (by simp [hl]))
    exact ⟨x :: b, by simp [h1], by simp [hx, h2], by simpa using ⟨hq, h3⟩, by simp only [List.map_cons, List.sum_cons]; omega⟩
theorem Opens.arrayOf {n : Nat} {α : Type} {f : α → Value} (ht : P.underlying t = some (.array n e)) (hc : P.cellsOf t = n * P.cellsOf e) (he : Opens P W e fun cs _ => ∃ x, cs = [f x]) :
    Opens P W t fun cs _ => ∃ b : List α, b.length = n ∧ cs = b.map f :=
  (Opens.array ht hc he).mono fun _ _ ⟨ls, h1, h2, h3⟩ =>
    let ⟨b, h4, h5⟩ := map_of ls fun l hl => let ⟨_, h⟩ := (h3 l hl).1; h
    ⟨b, h4.trans h1, h2.trans h5⟩

/-- A struct's fields one behind another. -/
def Parts : List (Nat × (List Value → Nat → Prop)) → List Value → Nat → Prop
  | [], cs, _ => cs = []
  | (n, R) :: rest, cs, k => ∃ a b i j, cs = a ++ b ∧ i + j ≤ k ∧ a.length = n ∧ R a i ∧ Parts rest b j
def Fits (P : Program) (W : World) : Nat → List Field → List (Nat × (List Value → Nat → Prop)) → Prop
  | _, [], [] => True
  | o, f :: fs, (n, R) :: rest => f.offset = o ∧ P.cellsOf f.type = n ∧ Opens P W f.type R ∧ Fits P W (o + n) fs rest
  | _, _, _ => False
def width : List (Nat × (List Value → Nat → Prop)) → Nat
  | [] => 0
  | (n, _) :: rest => n + width rest
theorem parts_of {H : Type} {enc : TypeId × Value → H} {m : Nat} : ∀ (o : Nat) (fs : List Field) (rs : List (Nat × (List Value → Nat → Prop))) (cs : List Value) (xs : List (DataW H × List MemPlace)), Fits P W o fs rs → cs.length = o + width rs → xs.length = fs.length →
    (∀ (i : Nat) (f : Field) (y : DataW H × List MemPlace), fs[i]? = some f → xs[i]? = some y → DataW.trod enc P W 0 (fun _ => true) true m f.type ((cs.drop f.offset).take (P.cellsOf f.type)) = some y ∧ ∀ n ∈ y.1.weights P f.type, n ≤ reachBytes) →
    Parts rs (cs.drop o) (Rows.uptoBulkAll (xs.map (·.1)))
  | o, [], [], cs, _, _, hl, _, _ => by
    show cs.drop o = []
    exact List.drop_eq_nil_of_le (by simp only [width] at hl; omega)
  | o, f :: fs, (n, R) :: rest, cs, x :: xs, ⟨h1, h2, h3, h4⟩, hl, hx, hf => by
    obtain ⟨hy, hz⟩ := hf 0 f x rfl rfl
    rw [h1, h2] at hy
    simp only [width] at hl
    refine ⟨(cs.drop o).take n, (cs.drop o).drop n, Rows.uptoBulk x.1, Rows.uptoBulkAll (xs.map (·.1)), (List.take_append_drop _ _).symm, ?_, by rw [List.length_take, List.length_drop]; omega, h3 H enc m _ _ hy hz, ?_⟩
    · simp only [List.map_cons, Rows.uptoBulkAll]; exact Nat.le_refl _
    · rw [List.drop_drop]
      exact parts_of (o + n) fs rest cs xs h4 (by omega) (by simpa using hx) fun i g y hg hy => hf (i + 1) g y (by simpa using hg) (by simpa using hy)
  | _, _ :: _, (_, _) :: _, _, [], _, _, hx, _ => by simp at hx
  | _, [], (_, _) :: _, _, _, h, _, _, _ => h.elim
  | _, _ :: _, [], _, _, h, _, _, _ => h.elim
theorem Opens.struct {fs : Array Field} {rs : List (Nat × (List Value → Nat → Prop))} (ht : P.underlying t = some (.struct fs)) (hc : P.cellsOf t = width rs) (hf : Fits P W 0 fs.toList rs) : Opens P W t fun cs n => ∃ k, k ≤ n ∧ Parts rs cs k := fun H enc fuel cs x h hz => by
  obtain ⟨xs, m, _, hx, hl, hxs, hg⟩ := DataW.trod_struct ht h
  refine ⟨Rows.uptoBulkAll (xs.map (·.1)), by rw [hx]; simp [Rows.uptoBulk], ?_⟩
  have := parts_of (enc := enc) (m := m) 0 fs.toList rs cs xs hf (by omega) (by simpa using hxs) fun i f y hfi hy => by
    have hi : fs[i]? = some f := by simpa using hfi
    have h1 := hg i f hi
    rw [hy] at h1
    refine ⟨h1, fun k hk => hz k ?_⟩
    rw [hx]
    simp only [DataW.weights, ht]
    exact DataW.weights_mem_each (j := i) (t := f.type) (by rw [List.getElem?_map, hfi]; rfl) (by rw [List.getElem?_map, hy]; rfl) k hk
  simpa using this

/-- Cells at an address: plain where there is one at all. -/
theorem plain_of_cell {a : Addr} {v : Value} (h : W.cell? a = some v) : a = ⟨a.block, a.off, none⟩ := by
  obtain ⟨b, off, spot⟩ := a
  have hspot : spot = none := World.cell?_spot h
  subst hspot
  rfl
theorem rd_of {a : Addr} {cs : List Value} (h : ∀ i, i < cs.length → W.cell? (a.add i) = cs[i]?) : Rd W (some a) cs := by
  cases cs with
  | nil => exact .inl rfl
  | cons v t =>
    right
    have h0 := h 0 (by simp)
    have h0' : W.cell? a = some v := by simpa [Addr.add] using h0
    rw [plain_of_cell h0'] at h ⊢
    refine ⟨_, _, rfl, fun j x hj => ?_⟩
    have := h j (List.getElem?_eq_some_iff.1 hj).1
    rw [add_plain] at this
    rw [this, hj]
theorem take_sum (k : Nat) {H : Type} (ds : List (DataW H)) : ((ds.take k).map Rows.uptoBulk).sum ≤ Rows.uptoBulkAll ds := by
  induction ds generalizing k with
  | nil => simp
  | cons d ds ih =>
    cases k with
    | zero => simp
    | succ k =>
      have := ih k
      simp only [List.take_succ_cons, List.map_cons, List.sum_cons, Rows.uptoBulkAll]; omega

theorem Opens.slice (ht : P.underlying t = some (.slice e)) (he : Opens P W e R) :
    Opens P W t fun cs n => ∃ ao len cap, ∃ ls : List (List Value × Nat), cs = [.slice ao len cap] ∧ len ≤ cap ∧ cap * P.bytesOf e ≤ reachBytes ∧ cap ≤ n ∧ ls.length = len ∧ (∀ l ∈ ls, R l.1 l.2 ∧ l.1.length = P.cellsOf e) ∧ (ls.map (·.2)).sum ≤ n ∧ Rd W ao (ls.map (·.1)).flatten ∧ (ao = none → cap = 0) := fun H enc fuel cs x h hz => by
  rcases DataW.trod_slice ht h with ⟨h0, _⟩ | ⟨a, len, cap, elems, rest, n, _, hcs, hx, _, hl, hm, hlen, hel, hsp, _⟩
  · exact ⟨none, 0, 0, [], h0, Nat.le_refl _, by simp, by omega, rfl, by simp, by simp, .inl rfl, fun _ => rfl⟩
  · have each : ∀ i (hi : i < elems.length), ∃ l, W.cells? 0 (a.add (i * P.cellsOf e)) (P.cellsOf e) = some l ∧ R l (Rows.uptoBulk elems[i].1) := fun i hi => by
      have := hel i (by omega)
      rw [List.getElem?_eq_getElem hi, Option.bind_eq_some_iff] at this
      obtain ⟨l, h1, h2⟩ := this
      refine ⟨l, h1, he H enc n _ _ h2 fun k hk => hz k ?_⟩
      rw [hx]
      simp only [DataW.weights, ht]
      exact List.mem_cons_of_mem _ (List.mem_append_left _ (mem_weightsAll (List.mem_map_of_mem (List.getElem_mem _)) hk))
    have hr := (hsp rfl).1
    have hcap : cap * P.bytesOf e ≤ reachBytes := by
      have := hz ((elems.length + rest.length) * P.bytesOf e) (by
        rw [hx]
        simp only [DataW.weights, ht, List.length_map]
        exact List.mem_cons_self)
      rwa [hlen, hr, show len + (cap - len) = cap by omega] at this
    have build : ∀ k, k ≤ elems.length → ∃ ls : List (List Value × Nat), ls.length = k ∧ (∀ l ∈ ls, R l.1 l.2 ∧ l.1.length = P.cellsOf e) ∧ ls.map (·.2) = ((elems.map (·.1)).take k).map Rows.uptoBulk ∧ (ls.map (·.1)).flatten.length = k * P.cellsOf e ∧
        ∀ i, i < k * P.cellsOf e → W.cell? (a.add i) = (ls.map (·.1)).flatten[i]? := by
      intro k
      induction k with
      | zero => exact fun _ => ⟨[], rfl, by simp, by simp, by simp, by simp⟩
      | succ k ih =>
        intro hk
        obtain ⟨ls, h1, h2, hb, h3, h4⟩ := ih (by omega)
        obtain ⟨l, h5, h6⟩ := each k (by omega)
        obtain ⟨_, h7, h8⟩ := World.cells?_some h5
        refine ⟨ls ++ [(l, Rows.uptoBulk elems[k].1)], by simp [h1], ?_, ?_, by simp only [List.map_append, List.flatten_append, List.length_append, h3]; simp [h7, Nat.succ_mul], ?_⟩
        · intro y hy
          rcases List.mem_append.1 hy with hy | hy
          · exact h2 y hy
          · obtain rfl : y = (l, Rows.uptoBulk elems[k].1) := by simpa using hy
            exact ⟨h6, h7⟩
        · rw [List.map_append, hb, List.take_add_one, List.map_append, List.getElem?_map, List.getElem?_eq_getElem (by omega)]
          rfl
        · intro i hi
          rw [List.map_append, List.flatten_append]
          rw [Nat.succ_mul] at hi
          by_cases hi2 : i < k * P.cellsOf e
          · rw [List.getElem?_append_left (by omega), h4 i hi2]
          · rw [List.getElem?_append_right (by omega), h3]
            have h9 := h8 (i - k * P.cellsOf e) (by omega)
            have e1 : (a.add (k * P.cellsOf e)).add (i - k * P.cellsOf e) = a.add i := by
              rcases Nat.eq_zero_or_pos i with h0 | h0
              · subst h0
                simp [Addr.add, show k * P.cellsOf e = 0 by omega]
              · by_cases hq : k * P.cellsOf e = 0
                · rw [hq]; simp [Addr.add]
                · by_cases hr : i - k * P.cellsOf e = 0
                  · rw [hr, show i = k * P.cellsOf e by omega]; simp [Addr.add]
                  · simp only [Addr.add]
                    rw [if_neg hq, if_neg hr, if_neg (by omega)]
                    simp only [Addr.mk.injEq, and_true, true_and]
                    omega
            rw [e1] at h9
            simpa using h9
    obtain ⟨ls, h1, h2, hb, h3, h4⟩ := build elems.length (Nat.le_refl _)
    have hbulk : Rows.uptoBulk x.1 = Rows.uptoBulkAll (elems.map (·.1)) + Rows.uptoBulkAll (rest.map (·.1)) + 1 := by rw [hx]; simp [Rows.uptoBulk]
    have b1 := bulk_len (elems.map (·.1))
    have b2 := bulk_len (rest.map (·.1))
    simp only [List.length_map] at b1 b2
    have b3 := take_sum elems.length (elems.map (·.1))
    exact ⟨some a, len, cap, ls, hcs, hl, hcap, by omega, by omega, h2, by rw [hb]; omega, rd_of fun i hi => h4 i (by omega), fun h => by cases h⟩
/-- A slice of elements of one cell. -/
theorem Opens.sliceOf {α : Type} {f : α → Value} (ht : P.underlying t = some (.slice e)) (he : Opens P W e fun cs _ => ∃ x, cs = [f x]) :
    Opens P W t fun cs n => ∃ ao cap, ∃ b : List α, cs = [.slice ao b.length cap] ∧ b.length ≤ cap ∧ cap * P.bytesOf e ≤ reachBytes ∧ cap ≤ n ∧ Rd W ao (b.map f) ∧ (ao = none → cap = 0) :=
  (Opens.slice ht he).mono fun cs n ⟨ao, len, cap, ls, h1, h2, h3, h3', h4, h5, _, h6, h7⟩ => by
    obtain ⟨b, h8, h9⟩ := map_of (f := f) (ls.map (·.1)) fun l hl => by
      obtain ⟨p, hp, rfl⟩ := List.mem_map.1 hl
      exact (h5 p hp).1
    rw [List.length_map] at h8
    refine ⟨ao, cap, b, ?_, by omega, h3, h3', h9 ▸ h6, h7⟩
    rw [h8, h4]; exact h1
/-- A slice of elements of many cells. -/
theorem Opens.slicesOf {α : Type} {f : α → List Value} {Q : α → Prop} {sz : α → Nat} (ht : P.underlying t = some (.slice e)) (he : Opens P W e fun cs n => ∃ x, cs = f x ∧ Q x ∧ sz x ≤ n) :
    Opens P W t fun cs n => ∃ ao cap, ∃ b : List α, cs = [.slice ao b.length cap] ∧ b.length ≤ cap ∧ cap * P.bytesOf e ≤ reachBytes ∧ cap ≤ n ∧ Rd W ao (b.flatMap f) ∧ (∀ x ∈ b, Q x) ∧ (b.map sz).sum ≤ n ∧ (ao = none → cap = 0) :=
  (Opens.slice ht he).mono fun cs n ⟨ao, len, cap, ls, h1, h2, h3, h3', h4, h5, hs, h6, h7⟩ => by
    obtain ⟨b, h8, h9, h10, h11⟩ := bind_of (f := f) (Q := Q) (sz := sz) ls fun l hl => (h5 l hl).1
    refine ⟨ao, cap, b, ?_, by omega, h3, h3', h9 ▸ h6, h10, by omega, h7⟩
    rw [h8, h4]; exact h1

/-- A value of a type of one cell; of a type of many. -/
theorem one_bool {w : World} {r : Reach} {b : Nat} {v : Value} (ht : P.underlying t = some .bool) (h : Value.okWide P w r b t v) : ∀ cs, v ≠ .agg cs := fun cs hv => by
  subst hv; simp [Value.okWide, Cell.okWide, Cell.ok, ht] at h
theorem one_int {w : World} {r : Reach} {b : Nat} {v : Value} {k : IntKind} (ht : P.underlying t = some (.int k)) (h : Value.okWide P w r b t v) : ∀ cs, v ≠ .agg cs := fun cs hv => by
  subst hv; simp [Value.okWide, Cell.okWide, Cell.ok, ht] at h
theorem one_string {w : World} {r : Reach} {b : Nat} {v : Value} (ht : P.underlying t = some .string) (h : Value.okWide P w r b t v) : ∀ cs, v ≠ .agg cs := fun cs hv => by
  subst hv; simp [Value.okWide, Cell.okWide, Cell.ok, ht] at h
theorem one_slice {w : World} {r : Reach} {b : Nat} {v : Value} (ht : P.underlying t = some (.slice e)) (h : Value.okWide P w r b t v) : ∀ cs, v ≠ .agg cs := fun cs hv => by
  subst hv; simp [Value.okWide, Cell.okWide, Cell.ok, ht] at h
theorem many_array {w : World} {r : Reach} {b n : Nat} {v : Value} (ht : P.underlying t = some (.array n e)) (h : Value.okWide P w r b t v) : ∃ cs, v = .agg cs := by
  simp only [Value.okWide, ht] at h
  exact ⟨h.choose, h.choose_spec.1⟩
theorem many_struct {w : World} {r : Reach} {b : Nat} {v : Value} {fs : Array Field} (ht : P.underlying t = some (.struct fs)) (h : Value.okWide P w r b t v) : ∃ cs, v = .agg cs := by
  simp only [Value.okWide, ht] at h
  exact ⟨h.choose, h.choose_spec.1⟩
section
variable {H : Type} {enc : TypeId × Value → H} {v : Value} {d : DataW H} {ps : List MemPlace}
theorem each_of {ts : List TypeId} {ds : List (DataW H)} {j : Nat} (hz : (DataW.weightsEach P ts ds).all (· ≤ reachBytes) = true) (ht : ts[j]? = some t) (hd : ds[j]? = some d) : ∀ n ∈ d.weights P t, n ≤ reachBytes := fun n hn => by
  simpa using List.all_eq_true.1 hz _ (DataW.weights_mem_each ht hd n hn)
theorem bulk_each : ∀ {ds : List (DataW H)} {j : Nat} {d : DataW H}, ds[j]? = some d → Rows.uptoBulk d ≤ Rows.uptoBulkAll ds
  | d0 :: ds, 0, d, h => by
    simp only [List.getElem?_cons_zero, Option.some.injEq] at h
    subst h; simp [Rows.uptoBulkAll]
  | d0 :: ds, j + 1, d, h => by
    have := bulk_each (ds := ds) (j := j) (d := d) (by simpa using h)
    simp only [Rows.uptoBulkAll]; omega
  | [], _, _, h => by simp at h
theorem arg_one (hv : ∀ cs, v ≠ .agg cs) (ho : Opens P W t R) (h : DataW.Trod enc P W 0 (fun _ => true) true t v d ps) (hz : ∀ n ∈ d.weights P t, n ≤ reachBytes) : ∃ cs, v.cells.toList = cs ∧ cs = [v] ∧ R cs (Rows.uptoBulk d) := by
  obtain ⟨n, hn⟩ := h
  have := ho H enc n _ _ hn hz
  cases v <;> first | exact ⟨_, rfl, rfl, this⟩ | exact absurd rfl (hv _)
theorem arg_many (hv : ∃ cs, v = .agg cs) (ho : Opens P W t R) (h : DataW.Trod enc P W 0 (fun _ => true) true t v d ps) (hz : ∀ n ∈ d.weights P t, n ≤ reachBytes) : ∃ cs, v = .agg cs.toArray ∧ R cs (Rows.uptoBulk d) := by
  obtain ⟨n, hn⟩ := h
  obtain ⟨cs, rfl⟩ := hv
  exact ⟨cs.toList, by simp, ho H enc n _ _ hn hz⟩
end
end

/-! ### 2. The law's end -/
section
variable {H : Type} {enc : TypeId × Value → H} {P : Program}
theorem keeps_args {W W' : World} (hlo : laidOutB P = true) (hb : Below W.heap.size W W') : ∀ {ts : List TypeId} {vs : List Value} {ds : List (DataW H)} {ps : List MemPlace}, (∀ t ∈ ts, P.readableRec t = true ∧ t < P.types.size) →
    DataW.TrodAll enc P W 0 (fun _ => true) true ts vs ds ps → (∀ x ∈ ps, x.block < W.heap.size) → DataW.TrodAll enc P W' 0 (fun b => decide (b < W.heap.size)) true ts vs ds ps
  | [], _, _, _, _, h, _ => by
    obtain ⟨rfl, rfl, rfl⟩ := trodAll_nil h
    rfl
  | t :: ts, _, _, _, hr, h, hlt => by
    obtain ⟨v, vs, d, ds, p, q, rfl, rfl, rfl, h1, h2⟩ := trodAll_cons h
    obtain ⟨r1, r2⟩ := hr t (by simp)
    exact ⟨p, q, Below.trod hlo r1 r2 h1 hb (fun x hx => hlt x (by simp [hx])), keeps_args hlo hb (fun t ht => hr t (by simp [ht])) h2 (fun x hx => hlt x (by simp [hx])), rfl⟩

theorem keeps {f : Func} {s : ChangeSpec} {apart fresh handsOn : Bool} {rt : TypeId} {W W' : World} {args : Array Value} {ds gs : List (DataW H)} {before : List MemPlace}
    (hlo : laidOutB P = true) (hread : f.params.toList.all (fun t => P.readableRec t && decide (t < P.types.size)) = true) (hvars : s.vars = []) (hres : f.resultTypes = #[rt]) (hrt : P.underlying rt = some .bool)
    (hW : DataW.Whole enc P f.params.toList s.vars apart W args.toList ds gs before) (hfn : s.fn H ds = { results := [.lit (.bool true)], args := ds }) (hch : Chg [] W W') :
    s.post enc P f apart fresh handsOn false W args (.bool true) W' := by
  have hW' := hW
  obtain ⟨p, q, hA, hV, hpq, hfz, hnd⟩ := hW
  have hgs : gs = [] ∧ q = [] := by
    rw [hvars] at hV
    exact trodVars_none hV
  obtain ⟨rfl, rfl⟩ := hgs
  rw [List.append_nil] at hpq
  subst hpq
  have hread' : ∀ t ∈ f.params.toList, P.readableRec t = true ∧ t < P.types.size := fun t ht => by
    have := List.all_eq_true.1 hread t ht
    simpa using this
  have hlt : ∀ x ∈ before, x.block < W.heap.size := hW'.lt
  have hfn' : s.fn H (ds ++ []) = { results := [.lit (.bool true)], args := ds } := by rw [List.append_nil]; exact hfn
  refine ⟨ds, [], before, [], before, [], hW', ?_, ?_, ?_, ?_, fun h => by cases h⟩
  · rw [hfn', hres]
    exact trodAll_mk1 (shut_bool hrt true)
  · rw [hfn']
    exact keeps_args hlo hch.below' hread' hA hlt
  · rw [hfn', hvars]
    rfl
  · exact hch.below'.frame _
end
end Go.Proofs.YtjdolgfhcjnniaaDoor

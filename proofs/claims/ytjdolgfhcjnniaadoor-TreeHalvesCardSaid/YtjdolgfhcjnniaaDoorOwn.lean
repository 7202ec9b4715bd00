/-
  Blocks handed over and back by calls; rows of elements of many cells; loops and joints that keep what they do not turn.
-/
import Derived.Test.YtjdolgfhcjnniaaDoorMore
namespace Go.Proofs.YtjdolgfhcjnniaaDoor
open Go Go.RowKit

/-! ### 1. Handed over, handed back -/
def blks (l : List Ck) : List Nat := l.filterMap Ck.b
/-- The blocks of l are there, each for itself. -/
structure Owns (w : World) (l : List Ck) : Prop where
  blk : ∀ c ∈ l, Blk w c
  apart : (blks l).Nodup
/-- What a call has left: of the old blocks those of 'i' alone have turned; the blocks of 'o' are new or were among those of 'i'. -/
structure Left (w w' : World) (i o : List Ck) : Prop where
  chg : Chg (blks i) w w'
  owns : Owns w' o
  from_ : ∀ b ∈ blks o, w.heap.size ≤ b ∨ b ∈ blks i
def tg : List Nat → List Ck → Lk
  | t :: ts, c :: l => (t, c) :: tg ts l
  | _, _ => []
def gt (L : Lk) : List Nat → Option (List Ck)
  | [] => some []
  | t :: ts => match lc L t, gt L ts with | some c, some l => some (c :: l) | _, _ => none
theorem mem_blks {l : List Ck} {c : Ck} {b : Nat} (hc : c ∈ l) (hb : c.b = some b) : b ∈ blks l := List.mem_filterMap.2 ⟨c, hc, hb⟩
theorem mem_blks' {l : List Ck} {b : Nat} (h : b ∈ blks l) : ∃ (k : Nat) (c : Ck), l[k]? = some c ∧ c.b = some b := by
  obtain ⟨c, hc, hb⟩ := List.mem_filterMap.1 h
  obtain ⟨k, hk⟩ := List.mem_iff_getElem?.1 hc
  exact ⟨k, c, hk, hb⟩
theorem blks_app (l m : List Ck) : blks (l ++ m) = blks l ++ blks m := List.filterMap_append
theorem blks_cons (c : Ck) (l : List Ck) : blks (c :: l) = c.b.toList ++ blks l := by cases hb : c.b <;> simp [blks, hb]
theorem nodup_cons' {c : Ck} {l : List Ck} : (blks (c :: l)).Nodup ↔ (∀ b, c.b = some b → b ∉ blks l) ∧ (blks l).Nodup := by
  cases hb : c.b with
  | none => simp [blks, hb]
  | some b => simp [blks, hb]
theorem nodup_at : ∀ {l : List Ck} {i j : Nat} {c d : Ck} {b : Nat}, (blks l).Nodup → l[i]? = some c → l[j]? = some d → i ≠ j → c.b = some b → d.b ≠ some b
  | [], _, _, _, _, _, _, h, _, _, _ => by simp at h
  | e :: l, i, j, c, d, b, hn, hi, hj, hne, hb => by
    intro hd
    obtain ⟨h1, h2⟩ := nodup_cons'.1 hn
    cases i with
    | zero =>
      cases j with
      | zero => omega
      | succ j =>
        obtain rfl : e = c := by simpa using hi
        exact h1 b hb (mem_blks (List.mem_of_getElem? (by simpa using hj)) hd)
    | succ i =>
      cases j with
      | zero =>
        obtain rfl : e = d := by simpa using hj
        exact h1 b hd (mem_blks (List.mem_of_getElem? (by simpa using hi)) hb)
      | succ j => exact nodup_at h2 (by simpa using hi) (by simpa using hj) (by omega) hb hd
theorem lc_tg : ∀ {ts : List Nat} {l : List Ck} {t : Nat} {c : Ck}, lc (tg ts l) t = some c → ∃ i : Nat, ts[i]? = some t ∧ l[i]? = some c
  | [], _, _, _, h => by simp [tg, lc] at h
  | _ :: _, [], _, _, h => by simp [tg, lc] at h
  | s :: ts, d :: l, t, c, h => by
    simp only [tg] at h
    rw [lc_cons] at h
    split at h
    · rename_i e; subst e; exact ⟨0, by simp, by simpa using h⟩
    · obtain ⟨i, h1, h2⟩ := lc_tg h
      exact ⟨i + 1, by simpa using h1, by simpa using h2⟩
theorem lc_app : ∀ {A B : Lk} {t : Nat} {c : Ck}, lc (A ++ B) t = some c → lc A t = some c ∨ (lc A t = none ∧ lc B t = some c)
  | [], _, _, _, h => .inr ⟨rfl, h⟩
  | (s, d) :: A, B, t, c, h => by
    rw [List.cons_append, lc_cons] at h
    split at h
    · rename_i e; left; rw [lc_cons, if_pos e]; exact h
    · rename_i e
      rcases lc_app h with h1 | ⟨h1, h2⟩
      · left; rw [lc_cons, if_neg e]; exact h1
      · right; exact ⟨by rw [lc_cons, if_neg e]; exact h1, h2⟩
theorem lc_tg_none : ∀ {ts : List Nat} {l : List Ck} {t : Nat}, ts.length = l.length → lc (tg ts l) t = none → t ∉ ts
  | [], _, _, _, _ => by simp
  | _ :: _, [], _, h, _ => by simp at h
  | s :: ts, d :: l, t, hl, h => by
    simp only [tg] at h
    rw [lc_cons] at h
    split at h
    · cases h
    · rename_i e
      simp only [List.mem_cons, not_or]
      exact ⟨fun x => e x.symm, lc_tg_none (by simpa using hl) h⟩
theorem gt_mem' {L : Lk} : ∀ {ts : List Nat} {l : List Ck}, gt L ts = some l → ∀ {i : Nat} {c : Ck}, l[i]? = some c → ∃ t, ts[i]? = some t ∧ lc L t = some c
  | [], l, h, i, c, ht => by simp [gt] at h; subst h; simp at ht
  | s :: ts, l, h, i, c, ht => by
    simp only [gt] at h
    cases h1 : lc L s with
    | none => simp [h1] at h
    | some d =>
      cases h2 : gt L ts with
      | none => simp [h1, h2] at h
      | some l' =>
        simp [h1, h2] at h
        subst h
        cases i with
        | zero => obtain rfl : d = c := by simpa using ht
                  exact ⟨s, by simp, h1⟩
        | succ i => obtain ⟨t, h3, h4⟩ := gt_mem' h2 (i := i) (c := c) (by simpa using ht)
                    exact ⟨t, by simpa using h3, h4⟩
theorem Owns.nil (w : World) : Owns w [] := ⟨fun _ h => (by cases h), List.nodup_nil⟩
theorem Owns.one {w : World} {c : Ck} (h : Blk w c) : Owns w [c] := ⟨fun d hd => (by obtain rfl := List.mem_singleton.1 hd; exact h), (by cases hb : c.b <;> simp [blks, hb])⟩
theorem Hp.begin {w : World} {l : List Ck} (ts : List Nat) (h : Owns w l) : Hp w (blks l) (tg ts l) [] w := by
  refine ⟨Chg.refl _ _, fun t c hc => ?_, fun t c b hc hb => ?_, fun t t' c c' b hc hc' hne hb => ?_, fun _ h => (by cases h), fun _ h => (by cases h), List.nodup_nil, fun _ _ _ _ _ h => by simp at h⟩
  · obtain ⟨i, _, h2⟩ := lc_tg hc; exact h.blk c (List.mem_of_getElem? h2)
  · obtain ⟨i, _, h2⟩ := lc_tg hc; exact .inr (mem_blks (List.mem_of_getElem? h2) hb)
  · obtain ⟨i, h1, h2⟩ := lc_tg hc
    obtain ⟨j, h3, h4⟩ := lc_tg hc'
    exact nodup_at h.apart h2 h4 (fun e => hne (by subst e; rw [h1] at h3; exact Option.some.inj h3)) hb
def XSub (t : Nat) (L' L : Lk) : Prop := ∀ s d, lc L' s = some d → lc L s = some d ∧ s ≠ t
theorem XSub.nil (t : Nat) (L : Lk) : XSub t [] L := fun s d h => by cases h
theorem XSub.cons {t : Nat} {L' L : Lk} {j : Nat} {v : Ck} (h : lc L j = some v) (hne : Nat.beq j t = false) (hs : XSub t L' L) : XSub t ((j, v) :: L') L := by
  intro i u hi
  rw [lc_cons] at hi
  split at hi
  · rename_i e; subst e; obtain rfl := Option.some.inj hi
    exact ⟨h, fun e => by subst e; rw [Nat.beq_refl] at hne; cases hne⟩
  · exact hs i u hi
section
variable {w0 w w' : World} {S : List Nat} {L L' : Lk} {X : List Ck} {i o : List Ck}
/-- Some of our blocks. -/
theorem Hp.some_own (h : Hp w0 S L X w) : ∀ {ts : List Nat} {o : List Ck}, ts.Nodup → gt L ts = some o → (∀ c ∈ o, Blk w c) ∧ (blks o).Nodup ∧ (∀ b ∈ blks o, b ∉ blks X) ∧ (∀ b ∈ blks o, ∃ t c, t ∈ ts ∧ lc L t = some c ∧ c.b = some b)
  | [], o, _, hg => by
    simp [gt] at hg; subst hg
    exact ⟨fun _ h => by simp at h, List.nodup_nil, fun _ h => by simp [blks] at h, fun _ h => by simp [blks] at h⟩
  | t :: ts, o, hn, hg => by
    simp only [gt] at hg
    cases h1 : lc L t with
    | none => simp [h1] at hg
    | some c =>
      cases h2 : gt L ts with
      | none => simp [h1, h2] at hg
      | some l =>
        simp [h1, h2] at hg
        subst hg
        obtain ⟨hn1, hn2⟩ := List.nodup_cons.1 hn
        obtain ⟨k1, k2, k3, k4⟩ := h.some_own hn2 h2
        refine ⟨fun d hd => ?_, nodup_cons'.2 ⟨fun b hb hm => ?_, k2⟩, fun b hb => ?_, fun b hb => ?_⟩
        · rcases List.mem_cons.1 hd with rfl | hd
          · exact h.own t d h1
          · exact k1 d hd
        · obtain ⟨t', c', ht', hc', hb'⟩ := k4 b hm
          exact h.apart t t' c c' b h1 hc' (fun e => hn1 (e ▸ ht')) hb hb'
        · rw [blks_cons, List.mem_append] at hb
          rcases hb with hb | hb
          · exact h.apartLX t c b h1 (by simpa using hb)
          · exact k3 b hb
        · rw [blks_cons, List.mem_append] at hb
          rcases hb with hb | hb
          · exact ⟨t, c, by simp, h1, by simpa using hb⟩
          · obtain ⟨t', c', ht', hc', hb'⟩ := k4 b hb
            exact ⟨t', c', by simp [ht'], hc', hb'⟩
theorem Hp.owns (h : Hp w0 S L X w) {ts : List Nat} (hn : ts.Nodup) (hg : gt L ts = some o) : Owns w (o ++ X) := by
  obtain ⟨k1, k2, k3, _⟩ := h.some_own hn hg
  refine ⟨fun c hc => (List.mem_append.1 hc).elim (k1 c) (h.ownX c), ?_⟩
  rw [blks_app, List.nodup_append]
  exact ⟨k2, h.apartX, fun a ha b hb e => k3 a ha (e ▸ hb)⟩
theorem Hp.owns' (h : Hp w0 S L X w) {ts : List Nat} (hn : ts.Nodup) (hg : gt L ts = some o) : Owns w o :=
  ⟨(h.some_own hn hg).1, (h.some_own hn hg).2.1⟩
/-- A function's end: what it leaves. -/
theorem Hp.left (h : Hp w0 (blks i) L X w) (ts : List Nat) (hn : ts.Nodup) (hg : gt L ts = some o) : Left w0 w i (o ++ X) := by
  refine ⟨h.chg, h.owns hn hg, fun b hb => ?_⟩
  rw [blks_app, List.mem_append] at hb
  rcases hb with hb | hb
  · obtain ⟨t, c, _, hc, hcb⟩ := (h.some_own hn hg).2.2.2 b hb
    exact h.mine t c b hc hcb
  · obtain ⟨k, c, hk, hc⟩ := mem_blks' hb
    exact h.mineX c (List.mem_of_getElem? hk) b hc
theorem Hp.left' (h : Hp w0 (blks i) L [] w) (ts : List Nat) (hn : ts.Nodup) (hg : gt L ts = some o) : Left w0 w i o := by
  have := h.left ts hn hg
  rwa [List.append_nil] at this
/-- Behind a call that was handed blocks of ours (tags ti, and Y of the others), and hands back others (tags to_, and Z). -/
theorem Hp.back_ {Y Y' Z o1 i1 : List Ck} (h : Hp w0 S L X w) (hX : X = Y' ++ Y) (ti to_ : List Nat) (hti : ti.Nodup) (hin : gt L ti = some i1) (hl : Left w w' (i1 ++ Y) (o1 ++ Z)) (hto : to_.Nodup) (hlen : to_.length = o1.length) (hsub : ∀ t ∈ ti, t ∈ to_) :
    Hp w0 S (tg to_ o1 ++ L) (Y' ++ Z) w' := by
  subst hX
  obtain ⟨_, _, kX, kT⟩ := h.some_own hti hin
  have hYn : (blks Y').Nodup ∧ (blks Y).Nodup ∧ ∀ b ∈ blks Y', b ∉ blks Y := by
    have := h.apartX
    rw [show List.filterMap Ck.b (Y' ++ Y) = blks Y' ++ blks Y from blks_app _ _, List.nodup_append] at this
    exact ⟨this.1, this.2.1, fun b hb hb' => this.2.2 b hb b hb' rfl⟩
  have hTm : ∀ b ∈ blks (i1 ++ Y), (∃ t c, t ∈ ti ∧ lc L t = some c ∧ c.b = some b) ∨ b ∈ blks Y := fun b hb => by
    rw [blks_app, List.mem_append] at hb
    exact hb.imp (kT b) id
  have hTmine : ∀ b ∈ blks (i1 ++ Y), w0.heap.size ≤ b ∨ b ∈ S := fun b hb => by
    rcases hTm b hb with ⟨t, c, _, hc, hb⟩ | hb
    · exact h.mine t c b hc hb
    · obtain ⟨k, c, hk, hc⟩ := mem_blks' hb
      exact h.mineX c (List.mem_append_right _ (List.mem_of_getElem? hk)) b hc
  have hLT : ∀ t c b, lc L t = some c → t ∉ to_ → c.b = some b → b ∉ blks (i1 ++ Y) := fun t c b hc ht hb hm => by
    rcases hTm b hm with ⟨t', c', ht', hc', hb'⟩ | hm
    · exact h.apart t t' c c' b hc hc' (fun e => ht (e ▸ hsub t' ht')) hb hb'
    · refine h.apartLX t c b hc hb ?_
      rw [show List.filterMap Ck.b (Y' ++ Y) = blks Y' ++ blks Y from blks_app _ _]
      exact List.mem_append_right _ hm
  have hYT : ∀ b ∈ blks Y', b ∉ blks (i1 ++ Y) := fun b hb hm => by
    rcases hTm b hm with ⟨t', c', ht', hc', hb'⟩ | hm
    · refine h.apartLX t' c' b hc' hb' ?_
      rw [show List.filterMap Ck.b (Y' ++ Y) = blks Y' ++ blks Y from blks_app _ _]
      exact List.mem_append_left _ hb
    · exact hYn.2.2 b hb hm
  have hYlt : ∀ b ∈ blks Y', b < w.heap.size := fun b hb => by
    obtain ⟨k, c, hk, hc⟩ := mem_blks' hb
    exact (h.ownX c (List.mem_append_left _ (List.mem_of_getElem? hk))).lt hc
  have hon : (blks o1).Nodup ∧ (blks Z).Nodup ∧ ∀ b ∈ blks o1, b ∉ blks Z := by
    have := hl.owns.apart
    rw [blks_app, List.nodup_append] at this
    exact ⟨this.1, this.2.1, fun b hb hb' => this.2.2 b hb b hb' rfl⟩
  have hnew : ∀ b ∈ blks (o1 ++ Z), (∀ t c, lc L t = some c → t ∉ to_ → c.b ≠ some b) ∧ b ∉ blks Y' ∧ (w0.heap.size ≤ b ∨ b ∈ S) := fun b hb => by
    rcases hl.from_ b hb with hge | hT
    · exact ⟨fun t c hc _ hcb => by have := (h.own t c hc).lt hcb; omega, fun hm => by have := hYlt b hm; omega, .inl (Nat.le_trans h.chg.size hge)⟩
    · exact ⟨fun t c hc ht hcb => hLT t c b hc ht hcb hT, fun hm => hYT b hm hT, hTmine b hT⟩
  have hcase : ∀ t c, lc (tg to_ o1 ++ L) t = some c → (∃ k, to_[k]? = some t ∧ o1[k]? = some c) ∨ (t ∉ to_ ∧ lc L t = some c) := fun t c hc => by
    rcases lc_app hc with h1 | ⟨h1, h2⟩
    · exact .inl (lc_tg h1)
    · exact .inr ⟨lc_tg_none hlen h1, h2⟩
  have hkeep : ∀ {c : Ck}, Blk w c → (∀ b, c.b = some b → b ∉ blks (i1 ++ Y)) → Blk w' c := fun hB hb => hB.moved fun b e => hl.chg.block b (hB.lt e) (hb b e)
  refine ⟨h.chg.trans hl.chg hTmine, fun t c hc => ?_, fun t c b hc hb => ?_, fun t t' c c' b hc hc' hne hb => ?_, fun c hc => ?_, fun c hc b hb => ?_, ?_, fun t c b hc hb => ?_⟩
  · rcases hcase t c hc with ⟨k, _, hk⟩ | ⟨ht, hc⟩
    · exact hl.owns.blk c (List.mem_append_left _ (List.mem_of_getElem? hk))
    · exact hkeep (h.own t c hc) fun b hb => hLT t c b hc ht hb
  · rcases hcase t c hc with ⟨k, _, hk⟩ | ⟨ht, hc⟩
    · exact (hnew b (by rw [blks_app]; exact List.mem_append_left _ (mem_blks (List.mem_of_getElem? hk) hb))).2.2
    · exact h.mine t c b hc hb
  · rcases hcase t c hc with ⟨k, hk1, hk⟩ | ⟨ht, hc⟩ <;> rcases hcase t' c' hc' with ⟨k', hk1', hk'⟩ | ⟨ht', hc'⟩
    · exact nodup_at hon.1 hk hk' (fun e => hne (by subst e; rw [hk1] at hk1'; exact Option.some.inj hk1')) hb
    · exact (hnew b (by rw [blks_app]; exact List.mem_append_left _ (mem_blks (List.mem_of_getElem? hk) hb))).1 t' c' hc' ht'
    · exact fun e => (hnew b (by rw [blks_app]; exact List.mem_append_left _ (mem_blks (List.mem_of_getElem? hk') e))).1 t c hc ht hb
    · exact h.apart t t' c c' b hc hc' hne hb
  · rcases List.mem_append.1 hc with hc | hc
    · exact hkeep (h.ownX c (List.mem_append_left _ hc)) fun b hb => hYT b (mem_blks hc hb)
    · exact hl.owns.blk c (List.mem_append_right _ hc)
  · rcases List.mem_append.1 hc with hc | hc
    · exact h.mineX c (List.mem_append_left _ hc) b hb
    · exact (hnew b (by rw [blks_app]; exact List.mem_append_right _ (mem_blks hc hb))).2.2
  · rw [show List.filterMap Ck.b (Y' ++ Z) = blks Y' ++ blks Z from blks_app _ _, List.nodup_append]
    exact ⟨hYn.1, hon.2.1, fun a ha b hb e => (hnew b (by rw [blks_app]; exact List.mem_append_right _ hb)).2.1 (e ▸ ha)⟩
  · rw [show List.filterMap Ck.b (Y' ++ Z) = blks Y' ++ blks Z from blks_app _ _, List.mem_append]
    rcases hcase t c hc with ⟨k, _, hk⟩ | ⟨ht, hc⟩
    · have hm := mem_blks (List.mem_of_getElem? hk) hb
      rintro (h1 | h1)
      · exact (hnew b (by rw [blks_app]; exact List.mem_append_left _ hm)).2.1 h1
      · exact hon.2.2 b hm h1
    · rintro (h1 | h1)
      · refine h.apartLX t c b hc hb ?_
        rw [show List.filterMap Ck.b (Y' ++ Y) = blks Y' ++ blks Y from blks_app _ _]
        exact List.mem_append_left _ h1
      · exact (hnew b (by rw [blks_app]; exact List.mem_append_right _ h1)).1 t c hc ht hb
/-- .. that was handed tagged blocks alone, and hands back such alone. -/
theorem Hp.back (h : Hp w0 S L X w) (ti to_ : List Nat) (hti : ti.Nodup) (hin : gt L ti = some i) (hl : Left w w' i o) (hto : to_.Nodup) (hlen : to_.length = o.length) (hsub : ∀ t ∈ ti, t ∈ to_) : Hp w0 S (tg to_ o ++ L) X w' := by
  have := Hp.back_ (Y := []) (Y' := X) (Z := []) (o1 := o) (i1 := i) h (by simp) ti to_ hti hin (by simpa using hl) hto hlen hsub
  rwa [List.append_nil] at this
/-- .. and hands back others besides. -/
theorem Hp.backX {Z o1 : List Ck} (h : Hp w0 S L X w) (ti to_ : List Nat) (hti : ti.Nodup) (hin : gt L ti = some i) (hl : Left w w' i (o1 ++ Z)) (hto : to_.Nodup) (hlen : to_.length = o1.length) (hsub : ∀ t ∈ ti, t ∈ to_) : Hp w0 S (tg to_ o1 ++ L) (X ++ Z) w' :=
  Hp.back_ (Y := []) (Y' := X) (Z := Z) (o1 := o1) (i1 := i) h (by simp) ti to_ hti hin (by simpa using hl) hto hlen hsub
/-- A block of ours laid to the others. -/
theorem Hp.toX (h : Hp w0 S L X w) (t : Nat) {c : Ck} (hc : lc L t = some c) (hL : XSub t L' L) : Hp w0 S L' (X ++ [c]) w := by
  refine ⟨h.chg, fun s d hd => h.own s d (hL s d hd).1, fun s d b hd => h.mine s d b (hL s d hd).1, fun s s' d d' b hd hd' => h.apart s s' d d' b (hL s d hd).1 (hL s' d' hd').1, fun d hd => ?_, fun d hd b hb => ?_, ?_, fun s d b hd hb => ?_⟩
  · rcases List.mem_append.1 hd with hd | hd
    · exact h.ownX d hd
    · obtain rfl := List.mem_singleton.1 hd; exact h.own t d hc
  · rcases List.mem_append.1 hd with hd | hd
    · exact h.mineX d hd b hb
    · obtain rfl := List.mem_singleton.1 hd; exact h.mine t d b hc hb
  · rw [show List.filterMap Ck.b (X ++ [c]) = blks X ++ blks [c] from blks_app _ _, List.nodup_append]
    refine ⟨h.apartX, by cases hb : c.b <;> simp [blks, hb], fun a ha b hb e => ?_⟩
    subst e
    obtain ⟨k, d, hk, hd⟩ := mem_blks' hb
    obtain rfl : d = c := by simpa using List.mem_of_getElem? hk
    exact h.apartLX t d a hc hd ha
  · rw [show List.filterMap Ck.b (X ++ [c]) = blks X ++ blks [c] from blks_app _ _, List.mem_append]
    rintro (h1 | h1)
    · exact h.apartLX s d b (hL s d hd).1 hb h1
    · obtain ⟨k, e, hk, he⟩ := mem_blks' h1
      obtain rfl : e = c := by simpa using List.mem_of_getElem? hk
      exact h.apart s t d e b (hL s d hd).1 hc (hL s d hd).2 hb he
/-- One of the others is written. -/
theorem Hp.writeX (h : Hp w0 S L X w) {k b : Nat} {cs : List Value} {E : TypeId} (hk : X[k]? = some ⟨some b, cs, E⟩) (cs' : List Value) : Hp w0 S L (X.set k ⟨some b, cs', E⟩) (w.setRow b cs'.toArray) := by
  have hm := List.mem_of_getElem? hk
  have hB := h.ownX _ hm
  have hb := hB.heap rfl
  have hlt := (List.getElem?_eq_some_iff.1 hk).1
  have hbl : blks (X.set k ⟨some b, cs', E⟩) = blks X := by
    have e : X = X.set k ⟨some b, cs, E⟩ := by
      apply List.ext_getElem?
      intro j
      rw [List.getElem?_set]
      split
      · rename_i e; subst e; simp [hk]
      · rfl
    have hs : ∀ (l : List Ck) (j : Nat) (c d : Ck), l[j]? = some c → c.b = d.b → blks (l.set j d) = blks l := by
      intro l
      induction l with
      | nil => intro j c d hj; simp at hj
      | cons a l ih =>
        intro j c d hj hcd
        cases j with
        | zero => obtain rfl : a = c := by simpa using hj
                  rw [List.set_cons_zero, blks_cons, blks_cons, hcd]
        | succ j => rw [List.set_cons_succ, blks_cons, blks_cons, ih j c d (by simpa using hj) hcd]
    exact hs X k _ _ hk rfl
  have hc : Chg [b] w (w.setRow b cs'.toArray) := ⟨rfl, rfl, rfl, by simp, fun j _ hj => setRow_other w b j _ (by simpa using hj)⟩
  refine ⟨h.chg.trans hc fun x hx => ?_, fun t c ht => (h.own t c ht).moved fun x hx => hc.block x ((h.own t c ht).lt hx) fun e => ?_, h.mine, h.apart, fun c hcX => ?_, fun c hcX x hx => ?_, ?_, fun t c x ht hx => ?_⟩
  · obtain rfl : x = b := by simpa using hx
    exact h.mineX _ hm x rfl
  · obtain rfl : x = b := by simpa using e
    exact h.apartLX t c x ht hx (mem_blks hm rfl)
  · obtain ⟨j, hj⟩ := List.mem_iff_getElem?.1 hcX
    rw [List.getElem?_set] at hj
    split at hj
    · obtain rfl := Option.some.inj hj
      exact setRow_heap w b _ _ E _ hb
    · rename_i hne
      have hBj := h.ownX c (List.mem_of_getElem? hj)
      refine hBj.moved fun x hx => hc.block x (hBj.lt hx) fun e => ?_
      obtain rfl : x = b := by simpa using e
      exact nodup_at h.apartX hk hj (fun e => hne e) rfl hx
  · obtain ⟨j, hj⟩ := List.mem_iff_getElem?.1 hcX
    rw [List.getElem?_set] at hj
    split at hj
    · obtain rfl := Option.some.inj hj
      obtain rfl := Option.some.inj hx
      exact h.mineX _ hm b rfl
    · exact h.mineX c (List.mem_of_getElem? hj) x hx
  · show (blks _).Nodup
    rw [hbl]; exact h.apartX
  · show x ∉ blks _
    rw [hbl]; exact h.apartLX t c x ht hx
end
theorem Left.chg0 {w w' : World} {o : List Ck} (h : Left w w' [] o) : Chg [] w w' := h.chg
theorem Left.of_chg {w w' : World} (h : Chg [] w w') : Left w w' [] [] := ⟨h, Owns.nil _, fun _ h => by simp [blks] at h⟩

/-! ### 2. Rows of elements of many cells -/
theorem flat_len {α : Type} {f : α → List Value} {s : Nat} (hf : ∀ x, (f x).length = s) : ∀ xs : List α, (xs.flatMap f).length = xs.length * s
  | [] => by simp
  | x :: xs => by rw [List.flatMap_cons, List.length_append, hf, flat_len hf xs, List.length_cons, Nat.succ_mul]; omega
theorem flat_drop {α : Type} {f : α → List Value} {s : Nat} (hf : ∀ x, (f x).length = s) : ∀ (k : Nat) (xs : List α), (xs.flatMap f).drop (k * s) = (xs.drop k).flatMap f
  | 0, xs => by simp
  | k + 1, [] => by simp
  | k + 1, x :: xs => by
    rw [List.flatMap_cons, Nat.succ_mul, Nat.add_comm, ← List.drop_drop, List.drop_left' (hf x), flat_drop hf k xs]
    simp
theorem flat_take {α : Type} {f : α → List Value} {s : Nat} (hf : ∀ x, (f x).length = s) : ∀ (k : Nat) (xs : List α), (xs.flatMap f).take (k * s) = (xs.take k).flatMap f
  | 0, xs => by simp
  | k + 1, [] => by simp
  | k + 1, x :: xs => by
    rw [List.flatMap_cons, Nat.succ_mul, Nat.add_comm, List.take_add, List.take_left' (hf x), List.drop_left' (hf x), flat_take hf k xs]
    simp
theorem Cells.elemN {α : Type} {f : α → List Value} {s : Nat} {w : World} {b off : Nat} {xs : List α} (h : Cells w b off (xs.flatMap f)) (hf : ∀ x, (f x).length = s) {o : Nat} (j : Nat) (ho : o = off + j * s ∧ j < xs.length) (z : α) : Cells w b o (f (xs.getD j z)) := by
  obtain ⟨rfl, hj⟩ := ho
  have h1 := h.drop (j * s)
  rw [flat_drop hf, List.drop_eq_getElem_cons hj, List.flatMap_cons] at h1
  have e : xs.getD j z = xs[j] := by rw [List.getD, List.getElem?_eq_getElem hj]; rfl
  rw [e]
  exact h1.left
theorem flat_set {α : Type} {f : α → List Value} {s : Nat} (hf : ∀ x, (f x).length = s) : ∀ (j : Nat) (xs : List α) (x : α), j < xs.length → ((xs.set j x).flatMap f) = (xs.flatMap f).take (j * s) ++ f x ++ (xs.flatMap f).drop (j * s + s)
  | _, [], _, h => by simp at h
  | 0, y :: xs, x, _ => by simp [List.drop_left' (hf y)]
  | j + 1, y :: xs, x, h => by
    have e1 : (j + 1) * s = s + j * s := by rw [Nat.succ_mul]; omega
    have e2 : (f y ++ xs.flatMap f).take (s + j * s) = f y ++ (xs.flatMap f).take (j * s) := by rw [List.take_add, List.take_left' (hf y), List.drop_left' (hf y)]
    have e3 : (f y ++ xs.flatMap f).drop (s + j * s + s) = (xs.flatMap f).drop (j * s + s) := by rw [show s + j * s + s = s + (j * s + s) by omega, ← List.drop_drop, List.drop_left' (hf y)]
    rw [List.set_cons_succ, List.flatMap_cons, List.flatMap_cons, flat_set hf j xs x (by simpa using h), e1, e2, e3]
    simp


/-! ### 4. Loops and joints that keep what they do not turn -/
def LSub (L' L : Lk) : Prop := ∀ t c, lc L' t = some c → lc L t = some c
theorem LSub.nil (L : Lk) : LSub [] L := lsub_nil L
theorem LSub.cons {L L' : Lk} {j : Nat} {v : Ck} (h : lc L j = some v) (hs : LSub L' L) : LSub ((j, v) :: L') L := lsub_cons h hs
section
variable {P : Program} {Q : Exit → Act → World → Prop} {n : Nat} {F : Fr} {w0 w : World} {S : List Nat} {L : Lk} {X : List Ck}

def AgainH1 {α : Type} (n : Nat) (w0 : World) (S : List Nat) (kv : Fr) (kl : Lk) (Fv : α → Fr → Fr) (Lv : α → Lk → Lk) (X : List Ck) (Ex : α → Prop) (μ : α → Nat) (m : Nat) : Act → World → Prop := Again1 n (fun x0 => Fv x0 kv) (fun x0 w => Hp w0 S (Lv x0 kl) X w ∧ Ex x0) μ m
def CutH1 {α : Type} (n : Nat) (w0 : World) (S : List Nat) (kv : Fr) (kl : Lk) (Fv : α → Fr → Fr) (Lv : α → Lk → Lk) (X : List Ck) (Ex : α → Prop) : Act → World → Prop := Cut1 n (fun x0 => Fv x0 kv) (fun x0 w => Hp w0 S (Lv x0 kl) X w ∧ Ex x0)
theorem sc_loopH1 {c : Code} {α : Type} {kv : Fr} {kl : Lk} (Fv : α → Fr → Fr) (Lv : α → Lk → Lk) (Ex : α → Prop) (μ : α → Nat) (a0 : α)
    (hp : Hp w0 S L X w) (hF : Sub (Fv a0 kv) F) (hL : LSub (Lv a0 kl) L) (h0 : Ex a0)
    (round : ∀ x0 w, Hp w0 S (Lv x0 kl) X w → Ex x0 → Sc P (Exit.then (AgainH1 n w0 S kv kl Fv Lv X Ex μ (μ x0)) Q) n c (Fv x0 kv) w) : Sc P Q n (.loop c) F w :=
  sc_loop1 a0 (fun x0 => Fv x0 kv) (fun x0 w => Hp w0 S (Lv x0 kl) X w ∧ Ex x0) μ hF ⟨hp.sub hL, h0⟩ fun x0 w hw => round x0 w hw.1 hw.2
theorem pn_roundH1 {α : Type} {kv : Fr} {kl : Lk} {Fv : α → Fr → Fr} {Lv : α → Lk → Lk} {Ex : α → Prop} {μ : α → Nat} {m : Nat} (a0 : α)
    (hp : Hp w0 S L X w) (hF : Sub (Fv a0 kv) F) (hlt : μ a0 < m) (hL : LSub (Lv a0 kl) L) (h0 : Ex a0) :
    Pn (Exit.then (AgainH1 n w0 S kv kl Fv Lv X Ex μ m) Q) n F w :=
  pn_round1 a0 hF hlt ⟨hp.sub hL, h0⟩
theorem sc_cutH1 {c : Code} {α : Type} {kv : Fr} {kl : Lk} (Fv : α → Fr → Fr) (Lv : α → Lk → Lk) (Ex : α → Prop) (hp : Hp w0 S L X w) (hF : Sub kv F) (hL : LSub kl L) (h1 : Sc P (Exit.then (CutH1 n w0 S kv kl Fv Lv X Ex) Q) n c F w)
    (h2 : ∀ x0 w, Hp w0 S (Lv x0 kl) X w → Ex x0 → Pn Q n (Fv x0 kv) w) : Sc P Q n c F w := sc_cut1 (fun x0 => Fv x0 kv) _ h1 fun x0 w hw => h2 x0 w hw.1 hw.2
theorem pn_cutH1 {α : Type} {kv : Fr} {kl : Lk} {Fv : α → Fr → Fr} {Lv : α → Lk → Lk} {Ex : α → Prop} (a0 : α)
    (hp : Hp w0 S L X w) (hF : Sub (Fv a0 kv) F) (hL : LSub (Lv a0 kl) L) (h0 : Ex a0) : Pn (Exit.then (CutH1 n w0 S kv kl Fv Lv X Ex) Q) n F w :=
  pn_cut1 a0 hF ⟨hp.sub hL, h0⟩
def AgainX1 {α : Type} (n : Nat) (w0 : World) (S : List Nat) (kv : Fr) (kl : Lk) (Fv : α → Fr → Fr) (Lv : α → Lk → Lk) (Xv : α → List Ck) (Ex : α → Prop) (μ : α → Nat) (m : Nat) : Act → World → Prop := Again1 n (fun x0 => Fv x0 kv) (fun x0 w => Hp w0 S (Lv x0 kl) (Xv x0) w ∧ Ex x0) μ m
def CutX1 {α : Type} (n : Nat) (w0 : World) (S : List Nat) (kv : Fr) (kl : Lk) (Fv : α → Fr → Fr) (Lv : α → Lk → Lk) (Xv : α → List Ck) (Ex : α → Prop) : Act → World → Prop := Cut1 n (fun x0 => Fv x0 kv) (fun x0 w => Hp w0 S (Lv x0 kl) (Xv x0) w ∧ Ex x0)
theorem sc_loopX1 {c : Code} {α : Type} {kv : Fr} {kl : Lk} (Fv : α → Fr → Fr) (Lv : α → Lk → Lk) (Xv : α → List Ck) (Ex : α → Prop) (μ : α → Nat) (a0 : α)
    (hp : Hp w0 S L X w) (hF : Sub (Fv a0 kv) F) (hL : LSub (Lv a0 kl) L) (hX : Xv a0 = X) (h0 : Ex a0)
    (round : ∀ x0 w, Hp w0 S (Lv x0 kl) (Xv x0) w → Ex x0 → Sc P (Exit.then (AgainX1 n w0 S kv kl Fv Lv Xv Ex μ (μ x0)) Q) n c (Fv x0 kv) w) : Sc P Q n (.loop c) F w :=
  sc_loop1 a0 (fun x0 => Fv x0 kv) (fun x0 w => Hp w0 S (Lv x0 kl) (Xv x0) w ∧ Ex x0) μ hF ⟨hX ▸ hp.sub hL, h0⟩ fun x0 w hw => round x0 w hw.1 hw.2
theorem pn_roundX1 {α : Type} {kv : Fr} {kl : Lk} {Fv : α → Fr → Fr} {Lv : α → Lk → Lk} {Xv : α → List Ck} {Ex : α → Prop} {μ : α → Nat} {m : Nat} (a0 : α)
    (hp : Hp w0 S L X w) (hF : Sub (Fv a0 kv) F) (hlt : μ a0 < m) (hL : LSub (Lv a0 kl) L) (hX : Xv a0 = X) (h0 : Ex a0) :
    Pn (Exit.then (AgainX1 n w0 S kv kl Fv Lv Xv Ex μ m) Q) n F w :=
  pn_round1 a0 hF hlt ⟨hX ▸ hp.sub hL, h0⟩
theorem sc_cutX1 {c : Code} {X0 : List Ck} {α : Type} {kv : Fr} {kl : Lk} (Fv : α → Fr → Fr) (Lv : α → Lk → Lk) (Xv : α → List Ck) (Ex : α → Prop) (hp : Hp w0 S L X0 w) (hF : Sub kv F) (hL : LSub kl L) (h1 : Sc P (Exit.then (CutX1 n w0 S kv kl Fv Lv Xv Ex) Q) n c F w)
    (h2 : ∀ x0 w, Hp w0 S (Lv x0 kl) (Xv x0) w → Ex x0 → Pn Q n (Fv x0 kv) w) : Sc P Q n c F w := sc_cut1 (fun x0 => Fv x0 kv) _ h1 fun x0 w hw => h2 x0 w hw.1 hw.2
theorem pn_cutX1 {α : Type} {kv : Fr} {kl : Lk} {Fv : α → Fr → Fr} {Lv : α → Lk → Lk} {Xv : α → List Ck} {Ex : α → Prop} (a0 : α)
    (hp : Hp w0 S L X w) (hF : Sub (Fv a0 kv) F) (hL : LSub (Lv a0 kl) L) (hX : Xv a0 = X) (h0 : Ex a0) : Pn (Exit.then (CutX1 n w0 S kv kl Fv Lv Xv Ex) Q) n F w :=
  pn_cut1 a0 hF ⟨hX ▸ hp.sub hL, h0⟩
def AgainH2 {α β : Type} (n : Nat) (w0 : World) (S : List Nat) (kv : Fr) (kl : Lk) (Fv : α → β → Fr → Fr) (Lv : α → β → Lk → Lk) (X : List Ck) (Ex : α → β → Prop) (μ : α → β → Nat) (m : Nat) : Act → World → Prop := Again2 n (fun x0 x1 => Fv x0 x1 kv) (fun x0 x1 w => Hp w0 S (Lv x0 x1 kl) X w ∧ Ex x0 x1) μ m
def CutH2 {α β : Type} (n : Nat) (w0 : World) (S : List Nat) (kv : Fr) (kl : Lk) (Fv : α → β → Fr → Fr) (Lv : α → β → Lk → Lk) (X : List Ck) (Ex : α → β → Prop) : Act → World → Prop := Cut2 n (fun x0 x1 => Fv x0 x1 kv) (fun x0 x1 w => Hp w0 S (Lv x0 x1 kl) X w ∧ Ex x0 x1)
theorem sc_loopH2 {c : Code} {α β : Type} {kv : Fr} {kl : Lk} (Fv : α → β → Fr → Fr) (Lv : α → β → Lk → Lk) (Ex : α → β → Prop) (μ : α → β → Nat) (a0 : α) (a1 : β)
    (hp : Hp w0 S L X w) (hF : Sub (Fv a0 a1 kv) F) (hL : LSub (Lv a0 a1 kl) L) (h0 : Ex a0 a1)
    (round : ∀ x0 x1 w, Hp w0 S (Lv x0 x1 kl) X w → Ex x0 x1 → Sc P (Exit.then (AgainH2 n w0 S kv kl Fv Lv X Ex μ (μ x0 x1)) Q) n c (Fv x0 x1 kv) w) : Sc P Q n (.loop c) F w :=
  sc_loop2 a0 a1 (fun x0 x1 => Fv x0 x1 kv) (fun x0 x1 w => Hp w0 S (Lv x0 x1 kl) X w ∧ Ex x0 x1) μ hF ⟨hp.sub hL, h0⟩ fun x0 x1 w hw => round x0 x1 w hw.1 hw.2
theorem pn_roundH2 {α β : Type} {kv : Fr} {kl : Lk} {Fv : α → β → Fr → Fr} {Lv : α → β → Lk → Lk} {Ex : α → β → Prop} {μ : α → β → Nat} {m : Nat} (a0 : α) (a1 : β)
    (hp : Hp w0 S L X w) (hF : Sub (Fv a0 a1 kv) F) (hlt : μ a0 a1 < m) (hL : LSub (Lv a0 a1 kl) L) (h0 : Ex a0 a1) :
    Pn (Exit.then (AgainH2 n w0 S kv kl Fv Lv X Ex μ m) Q) n F w :=
  pn_round2 a0 a1 hF hlt ⟨hp.sub hL, h0⟩
theorem sc_cutH2 {c : Code} {α β : Type} {kv : Fr} {kl : Lk} (Fv : α → β → Fr → Fr) (Lv : α → β → Lk → Lk) (Ex : α → β → Prop) (hp : Hp w0 S L X w) (hF : Sub kv F) (hL : LSub kl L) (h1 : Sc P (Exit.then (CutH2 n w0 S kv kl Fv Lv X Ex) Q) n c F w)
    (h2 : ∀ x0 x1 w, Hp w0 S (Lv x0 x1 kl) X w → Ex x0 x1 → Pn Q n (Fv x0 x1 kv) w) : Sc P Q n c F w := sc_cut2 (fun x0 x1 => Fv x0 x1 kv) _ h1 fun x0 x1 w hw => h2 x0 x1 w hw.1 hw.2
theorem pn_cutH2 {α β : Type} {kv : Fr} {kl : Lk} {Fv : α → β → Fr → Fr} {Lv : α → β → Lk → Lk} {Ex : α → β → Prop} (a0 : α) (a1 : β)
    (hp : Hp w0 S L X w) (hF : Sub (Fv a0 a1 kv) F) (hL : LSub (Lv a0 a1 kl) L) (h0 : Ex a0 a1) : Pn (Exit.then (CutH2 n w0 S kv kl Fv Lv X Ex) Q) n F w :=
  pn_cut2 a0 a1 hF ⟨hp.sub hL, h0⟩
def AgainX2 {α β : Type} (n : Nat) (w0 : World) (S : List Nat) (kv : Fr) (kl : Lk) (Fv : α → β → Fr → Fr) (Lv : α → β → Lk → Lk) (Xv : α → β → List Ck) (Ex : α → β → Prop) (μ : α → β → Nat) (m : Nat) : Act → World → Prop := Again2 n (fun x0 x1 => Fv x0 x1 kv) (fun x0 x1 w => Hp w0 S (Lv x0 x1 kl) (Xv x0 x1) w ∧ Ex x0 x1) μ m
def CutX2 {α β : Type} (n : Nat) (w0 : World) (S : List Nat) (kv : Fr) (kl : Lk) (Fv : α → β → Fr → Fr) (Lv : α → β → Lk → Lk) (Xv : α → β → List Ck) (Ex : α → β → Prop) : Act → World → Prop := Cut2 n (fun x0 x1 => Fv x0 x1 kv) (fun x0 x1 w => Hp w0 S (Lv x0 x1 kl) (Xv x0 x1) w ∧ Ex x0 x1)
theorem sc_loopX2 {c : Code} {α β : Type} {kv : Fr} {kl : Lk} (Fv : α → β → Fr → Fr) (Lv : α → β → Lk → Lk) (Xv : α → β → List Ck) (Ex : α → β → Prop) (μ : α → β → Nat) (a0 : α) (a1 : β)
    (hp : Hp w0 S L X w) (hF : Sub (Fv a0 a1 kv) F) (hL : LSub (Lv a0 a1 kl) L) (hX : Xv a0 a1 = X) (h0 : Ex a0 a1)
    (round : ∀ x0 x1 w, Hp w0 S (Lv x0 x1 kl) (Xv x0 x1) w → Ex x0 x1 → Sc P (Exit.then (AgainX2 n w0 S kv kl Fv Lv Xv Ex μ (μ x0 x1)) Q) n c (Fv x0 x1 kv) w) : Sc P Q n (.loop c) F w :=
  sc_loop2 a0 a1 (fun x0 x1 => Fv x0 x1 kv) (fun x0 x1 w => Hp w0 S (Lv x0 x1 kl) (Xv x0 x1) w ∧ Ex x0 x1) μ hF ⟨hX ▸ hp.sub hL, h0⟩ fun x0 x1 w hw => round x0 x1 w hw.1 hw.2
theorem pn_roundX2 {α β : Type} {kv : Fr} {kl : Lk} {Fv : α → β → Fr → Fr} {Lv : α → β → Lk → Lk} {Xv : α → β → List Ck} {Ex : α → β → Prop} {μ : α → β → Nat} {m : Nat} (a0 : α) (a1 : β)
    (hp : Hp w0 S L X w) (hF : Sub (Fv a0 a1 kv) F) (hlt : μ a0 a1 < m) (hL : LSub (Lv a0 a1 kl) L) (hX : Xv a0 a1 = X) (h0 : Ex a0 a1) :
    Pn (Exit.then (AgainX2 n w0 S kv kl Fv Lv Xv Ex μ m) Q) n F w :=
  pn_round2 a0 a1 hF hlt ⟨hX ▸ hp.sub hL, h0⟩
theorem sc_cutX2 {c : Code} {X0 : List Ck} {α β : Type} {kv : Fr} {kl : Lk} (Fv : α → β → Fr → Fr) (Lv : α → β → Lk → Lk) (Xv : α → β → List Ck) (Ex : α → β → Prop) (hp : Hp w0 S L X0 w) (hF : Sub kv F) (hL : LSub kl L) (h1 : Sc P (Exit.then (CutX2 n w0 S kv kl Fv Lv Xv Ex) Q) n c F w)
    (h2 : ∀ x0 x1 w, Hp w0 S (Lv x0 x1 kl) (Xv x0 x1) w → Ex x0 x1 → Pn Q n (Fv x0 x1 kv) w) : Sc P Q n c F w := sc_cut2 (fun x0 x1 => Fv x0 x1 kv) _ h1 fun x0 x1 w hw => h2 x0 x1 w hw.1 hw.2
theorem pn_cutX2 {α β : Type} {kv : Fr} {kl : Lk} {Fv : α → β → Fr → Fr} {Lv : α → β → Lk → Lk} {Xv : α → β → List Ck} {Ex : α → β → Prop} (a0 : α) (a1 : β)
    (hp : Hp w0 S L X w) (hF : Sub (Fv a0 a1 kv) F) (hL : LSub (Lv a0 a1 kl) L) (hX : Xv a0 a1 = X) (h0 : Ex a0 a1) : Pn (Exit.then (CutX2 n w0 S kv kl Fv Lv Xv Ex) Q) n F w :=
  pn_cut2 a0 a1 hF ⟨hX ▸ hp.sub hL, h0⟩
def AgainH3 {α β γ : Type} (n : Nat) (w0 : World) (S : List Nat) (kv : Fr) (kl : Lk) (Fv : α → β → γ → Fr → Fr) (Lv : α → β → γ → Lk → Lk) (X : List Ck) (Ex : α → β → γ → Prop) (μ : α → β → γ → Nat) (m : Nat) : Act → World → Prop := Again3 n (fun x0 x1 x2 => Fv x0 x1 x2 kv) (fun x0 x1 x2 w => Hp w0 S (Lv x0 x1 x2 kl) X w ∧ Ex x0 x1 x2) μ m
def CutH3 {α β γ : Type} (n : Nat) (w0 : World) (S : List Nat) (kv : Fr) (kl : Lk) (Fv : α → β → γ → Fr → Fr) (Lv : α → β → γ → Lk → Lk) (X : List Ck) (Ex : α → β → γ → Prop) : Act → World → Prop := Cut3 n (fun x0 x1 x2 => Fv x0 x1 x2 kv) (fun x0 x1 x2 w => Hp w0 S (Lv x0 x1 x2 kl) X w ∧ Ex x0 x1 x2)
theorem sc_loopH3 {c : Code} {α β γ : Type} {kv : Fr} {kl : Lk} (Fv : α → β → γ → Fr → Fr) (Lv : α → β → γ → Lk → Lk) (Ex : α → β → γ → Prop) (μ : α → β → γ → Nat) (a0 : α) (a1 : β) (a2 : γ)
    (hp : Hp w0 S L X w) (hF : Sub (Fv a0 a1 a2 kv) F) (hL : LSub (Lv a0 a1 a2 kl) L) (h0 : Ex a0 a1 a2)
    (round : ∀ x0 x1 x2 w, Hp w0 S (Lv x0 x1 x2 kl) X w → Ex x0 x1 x2 → Sc P (Exit.then (AgainH3 n w0 S kv kl Fv Lv X Ex μ (μ x0 x1 x2)) Q) n c (Fv x0 x1 x2 kv) w) : Sc P Q n (.loop c) F w :=
  sc_loop3 a0 a1 a2 (fun x0 x1 x2 => Fv x0 x1 x2 kv) (fun x0 x1 x2 w => Hp w0 S (Lv x0 x1 x2 kl) X w ∧ Ex x0 x1 x2) μ hF ⟨hp.sub hL, h0⟩ fun x0 x1 x2 w hw => round x0 x1 x2 w hw.1 hw.2
theorem pn_roundH3 {α β γ : Type} {kv : Fr} {kl : Lk} {Fv : α → β → γ → Fr → Fr} {Lv : α → β → γ → Lk → Lk} {Ex : α → β → γ → Prop} {μ : α → β → γ → Nat} {m : Nat} (a0 : α) (a1 : β) (a2 : γ)
    (hp : Hp w0 S L X w) (hF : Sub (Fv a0 a1 a2 kv) F) (hlt : μ a0 a1 a2 < m) (hL : LSub (Lv a0 a1 a2 kl) L) (h0 : Ex a0 a1 a2) :
    Pn (Exit.then (AgainH3 n w0 S kv kl Fv Lv X Ex μ m) Q) n F w :=
  pn_round3 a0 a1 a2 hF hlt ⟨hp.sub hL, h0⟩
theorem sc_cutH3 {c : Code} {α β γ : Type} {kv : Fr} {kl : Lk} (Fv : α → β → γ → Fr → Fr) (Lv : α → β → γ → Lk → Lk) (Ex : α → β → γ → Prop) (hp : Hp w0 S L X w) (hF : Sub kv F) (hL : LSub kl L) (h1 : Sc P (Exit.then (CutH3 n w0 S kv kl Fv Lv X Ex) Q) n c F w)
    (h2 : ∀ x0 x1 x2 w, Hp w0 S (Lv x0 x1 x2 kl) X w → Ex x0 x1 x2 → Pn Q n (Fv x0 x1 x2 kv) w) : Sc P Q n c F w := sc_cut3 (fun x0 x1 x2 => Fv x0 x1 x2 kv) _ h1 fun x0 x1 x2 w hw => h2 x0 x1 x2 w hw.1 hw.2
theorem pn_cutH3 {α β γ : Type} {kv : Fr} {kl : Lk} {Fv : α → β → γ → Fr → Fr} {Lv : α → β → γ → Lk → Lk} {Ex : α → β → γ → Prop} (a0 : α) (a1 : β) (a2 : γ)
    (hp : Hp w0 S L X w) (hF : Sub (Fv a0 a1 a2 kv) F) (hL : LSub (Lv a0 a1 a2 kl) L) (h0 : Ex a0 a1 a2) : Pn (Exit.then (CutH3 n w0 S kv kl Fv Lv X Ex) Q) n F w :=
  pn_cut3 a0 a1 a2 hF ⟨hp.sub hL, h0⟩
def AgainX3 {α β γ : Type} (n : Nat) (w0 : World) (S : List Nat) (kv : Fr) (kl : Lk) (Fv : α → β → γ → Fr → Fr) (Lv : α → β → γ → Lk → Lk) (Xv : α → β → γ → List Ck) (Ex : α → β → γ → Prop) (μ : α → β → γ → Nat) (m : Nat) : Act → World → Prop := Again3 n (fun x0 x1 x2 => Fv x0 x1 x2 kv) (fun x0 x1 x2 w => Hp w0 S (Lv x0 x1 x2 kl) (Xv x0 x1 x2) w ∧ Ex x0 x1 x2) μ m
def CutX3 {α β γ : Type} (n : Nat) (w0 : World) (S : List Nat) (kv : Fr) (kl : Lk) (Fv : α → β → γ → Fr → Fr) (Lv : α → β → γ → Lk → Lk) (Xv : α → β → γ → List Ck) (Ex : α → β → γ → Prop) : Act → World → Prop := Cut3 n (fun x0 x1 x2 => Fv x0 x1 x2 kv) (fun x0 x1 x2 w => Hp w0 S (Lv x0 x1 x2 kl) (Xv x0 x1 x2) w ∧ Ex x0 x1 x2)
theorem sc_loopX3 {c : Code} {α β γ : Type} {kv : Fr} {kl : Lk} (Fv : α → β → γ → Fr → Fr) (Lv : α → β → γ → Lk → Lk) (Xv : α → β → γ → List Ck) (Ex : α → β → γ → Prop) (μ : α → β → γ → Nat) (a0 : α) (a1 : β) (a2 : γ)
    (hp : Hp w0 S L X w) (hF : Sub (Fv a0 a1 a2 kv) F) (hL : LSub (Lv a0 a1 a2 kl) L) (hX : Xv a0 a1 a2 = X) (h0 : Ex a0 a1 a2)
    (round : ∀ x0 x1 x2 w, Hp w0 S (Lv x0 x1 x2 kl) (Xv x0 x1 x2) w → Ex x0 x1 x2 → Sc P (Exit.then (AgainX3 n w0 S kv kl Fv Lv Xv Ex μ (μ x0 x1 x2)) Q) n c (Fv x0 x1 x2 kv) w) : Sc P Q n (.loop c) F w :=
  sc_loop3 a0 a1 a2 (fun x0 x1 x2 => Fv x0 x1 x2 kv) (fun x0 x1 x2 w => Hp w0 S (Lv x0 x1 x2 kl) (Xv x0 x1 x2) w ∧ Ex x0 x1 x2) μ hF ⟨hX ▸ hp.sub hL, h0⟩ fun x0 x1 x2 w hw => round x0 x1 x2 w hw.1 hw.2
theorem pn_roundX3 {α β γ : Type} {kv : Fr} {kl : Lk} {Fv : α → β → γ → Fr → Fr} {Lv : α → β → γ → Lk → Lk} {Xv : α → β → γ → List Ck} {Ex : α → β → γ → Prop} {μ : α → β → γ → Nat} {m : Nat} (a0 : α) (a1 : β) (a2 : γ)
    (hp : Hp w0 S L X w) (hF : Sub (Fv a0 a1 a2 kv) F) (hlt : μ a0 a1 a2 < m) (hL : LSub (Lv a0 a1 a2 kl) L) (hX : Xv a0 a1 a2 = X) (h0 : Ex a0 a1 a2) :
    Pn (Exit.then (AgainX3 n w0 S kv kl Fv Lv Xv Ex μ m) Q) n F w :=
  pn_round3 a0 a1 a2 hF hlt ⟨hX ▸ hp.sub hL, h0⟩
theorem sc_cutX3 {c : Code} {X0 : List Ck} {α β γ : Type} {kv : Fr} {kl : Lk} (Fv : α → β → γ → Fr → Fr) (Lv : α → β → γ → Lk → Lk) (Xv : α → β → γ → List Ck) (Ex : α → β → γ → Prop) (hp : Hp w0 S L X0 w) (hF : Sub kv F) (hL : LSub kl L) (h1 : Sc P (Exit.then (CutX3 n w0 S kv kl Fv Lv Xv Ex) Q) n c F w)
    (h2 : ∀ x0 x1 x2 w, Hp w0 S (Lv x0 x1 x2 kl) (Xv x0 x1 x2) w → Ex x0 x1 x2 → Pn Q n (Fv x0 x1 x2 kv) w) : Sc P Q n c F w := sc_cut3 (fun x0 x1 x2 => Fv x0 x1 x2 kv) _ h1 fun x0 x1 x2 w hw => h2 x0 x1 x2 w hw.1 hw.2
theorem pn_cutX3 {α β γ : Type} {kv : Fr} {kl : Lk} {Fv : α → β → γ → Fr → Fr} {Lv : α → β → γ → Lk → Lk} {Xv : α → β → γ → List Ck} {Ex : α → β → γ → Prop} (a0 : α) (a1 : β) (a2 : γ)
    (hp : Hp w0 S L X w) (hF : Sub (Fv a0 a1 a2 kv) F) (hL : LSub (Lv a0 a1 a2 kl) L) (hX : Xv a0 a1 a2 = X) (h0 : Ex a0 a1 a2) : Pn (Exit.then (CutX3 n w0 S kv kl Fv Lv Xv Ex) Q) n F w :=
  pn_cut3 a0 a1 a2 hF ⟨hX ▸ hp.sub hL, h0⟩
def AgainH4 {α β γ δ : Type} (n : Nat) (w0 : World) (S : List Nat) (kv : Fr) (kl : Lk) (Fv : α → β → γ → δ → Fr → Fr) (Lv : α → β → γ → δ → Lk → Lk) (X : List Ck) (Ex : α → β → γ → δ → Prop) (μ : α → β → γ → δ → Nat) (m : Nat) : Act → World → Prop := Again4 n (fun x0 x1 x2 x3 => Fv x0 x1 x2 x3 kv) (fun x0 x1 x2 x3 w => Hp w0 S (Lv x0 x1 x2 x3 kl) X w ∧ Ex x0 x1 x2 x3) μ m
def CutH4 {α β γ δ : Type} (n : Nat) (w0 : World) (S : List Nat) (kv : Fr) (kl : Lk) (Fv : α → β → γ → δ → Fr → Fr) (Lv : α → β → γ → δ → Lk → Lk) (X : List Ck) (Ex : α → β → γ → δ → Prop) : Act → World → Prop := Cut4 n (fun x0 x1 x2 x3 => Fv x0 x1 x2 x3 kv) (fun x0 x1 x2 x3 w => Hp w0 S (Lv x0 x1 x2 x3 kl) X w ∧ Ex x0 x1 x2 x3)
theorem sc_loopH4 {c : Code} {α β γ δ : Type} {kv : Fr} {kl : Lk} (Fv : α → β → γ → δ → Fr → Fr) (Lv : α → β → γ → δ → Lk → Lk) (Ex : α → β → γ → δ → Prop) (μ : α → β → γ → δ → Nat) (a0 : α) (a1 : β) (a2 : γ) (a3 : δ)
    (hp : Hp w0 S L X w) (hF : Sub (Fv a0 a1 a2 a3 kv) F) (hL : LSub (Lv a0 a1 a2 a3 kl) L) (h0 : Ex a0 a1 a2 a3)
    (round : ∀ x0 x1 x2 x3 w, Hp w0 S (Lv x0 x1 x2 x3 kl) X w → Ex x0 x1 x2 x3 → Sc P (Exit.then (AgainH4 n w0 S kv kl Fv Lv X Ex μ (μ x0 x1 x2 x3)) Q) n c (Fv x0 x1 x2 x3 kv) w) : Sc P Q n (.loop c) F w :=
  sc_loop4 a0 a1 a2 a3 (fun x0 x1 x2 x3 => Fv x0 x1 x2 x3 kv) (fun x0 x1 x2 x3 w => Hp w0 S (Lv x0 x1 x2 x3 kl) X w ∧ Ex x0 x1 x2 x3) μ hF ⟨hp.sub hL, h0⟩ fun x0 x1 x2 x3 w hw => round x0 x1 x2 x3 w hw.1 hw.2
theorem pn_roundH4 {α β γ δ : Type} {kv : Fr} {kl : Lk} {Fv : α → β → γ → δ → Fr → Fr} {Lv : α → β → γ → δ → Lk → Lk} {Ex : α → β → γ → δ → Prop} {μ : α → β → γ → δ → Nat} {m : Nat} (a0 : α) (a1 : β) (a2 : γ) (a3 : δ)
    (hp : Hp w0 S L X w) (hF : Sub (Fv a0 a1 a2 a3 kv) F) (hlt : μ a0 a1 a2 a3 < m) (hL : LSub (Lv a0 a1 a2 a3 kl) L) (h0 : Ex a0 a1 a2 a3) :
    Pn (Exit.then (AgainH4 n w0 S kv kl Fv Lv X Ex μ m) Q) n F w :=
  pn_round4 a0 a1 a2 a3 hF hlt ⟨hp.sub hL, h0⟩
theorem sc_cutH4 {c : Code} {α β γ δ : Type} {kv : Fr} {kl : Lk} (Fv : α → β → γ → δ → Fr → Fr) (Lv : α → β → γ → δ → Lk → Lk) (Ex : α → β → γ → δ → Prop) (hp : Hp w0 S L X w) (hF : Sub kv F) (hL : LSub kl L) (h1 : Sc P (Exit.then (CutH4 n w0 S kv kl Fv Lv X Ex) Q) n c F w)
    (h2 : ∀ x0 x1 x2 x3 w, Hp w0 S (Lv x0 x1 x2 x3 kl) X w → Ex x0 x1 x2 x3 → Pn Q n (Fv x0 x1 x2 x3 kv) w) : Sc P Q n c F w := sc_cut4 (fun x0 x1 x2 x3 => Fv x0 x1 x2 x3 kv) _ h1 fun x0 x1 x2 x3 w hw => h2 x0 x1 x2 x3 w hw.1 hw.2
theorem pn_cutH4 {α β γ δ : Type} {kv : Fr} {kl : Lk} {Fv : α → β → γ → δ → Fr → Fr} {Lv : α → β → γ → δ → Lk → Lk} {Ex : α → β → γ → δ → Prop} (a0 : α) (a1 : β) (a2 : γ) (a3 : δ)
    (hp : Hp w0 S L X w) (hF : Sub (Fv a0 a1 a2 a3 kv) F) (hL : LSub (Lv a0 a1 a2 a3 kl) L) (h0 : Ex a0 a1 a2 a3) : Pn (Exit.then (CutH4 n w0 S kv kl Fv Lv X Ex) Q) n F w :=
  pn_cut4 a0 a1 a2 a3 hF ⟨hp.sub hL, h0⟩
def AgainX4 {α β γ δ : Type} (n : Nat) (w0 : World) (S : List Nat) (kv : Fr) (kl : Lk) (Fv : α → β → γ → δ → Fr → Fr) (Lv : α → β → γ → δ → Lk → Lk) (Xv : α → β → γ → δ → List Ck) (Ex : α → β → γ → δ → Prop) (μ : α → β → γ → δ → Nat) (m : Nat) : Act → World → Prop := Again4 n (fun x0 x1 x2 x3 => Fv x0 x1 x2 x3 kv) (fun x0 x1 x2 x3 w => Hp w0 S (Lv x0 x1 x2 x3 kl) (Xv x0 x1 x2 x3) w ∧ Ex x0 x1 x2 x3) μ m
def CutX4 {α β γ δ : Type} (n : Nat) (w0 : World) (S : List Nat) (kv : Fr) (kl : Lk) (Fv : α → β → γ → δ → Fr → Fr) (Lv : α → β → γ → δ → Lk → Lk) (Xv : α → β → γ → δ → List Ck) (Ex : α → β → γ → δ → Prop) : Act → World → Prop := Cut4 n (fun x0 x1 x2 x3 => Fv x0 x1 x2 x3 kv) (fun x0 x1 x2 x3 w => Hp w0 S (Lv x0 x1 x2 x3 kl) (Xv x0 x1 x2 x3) w ∧ Ex x0 x1 x2 x3)
theorem sc_loopX4 {c : Code} {α β γ δ : Type} {kv : Fr} {kl : Lk} (Fv : α → β → γ → δ → Fr → Fr) (Lv : α → β → γ → δ → Lk → Lk) (Xv : α → β → γ → δ → List Ck) (Ex : α → β → γ → δ → Prop) (μ : α → β → γ → δ → Nat) (a0 : α) (a1 : β) (a2 : γ) (a3 : δ)
    (hp : Hp w0 S L X w) (hF : Sub (Fv a0 a1 a2 a3 kv) F) (hL : LSub (Lv a0 a1 a2 a3 kl) L) (hX : Xv a0 a1 a2 a3 = X) (h0 : Ex a0 a1 a2 a3)
    (round : ∀ x0 x1 x2 x3 w, Hp w0 S (Lv x0 x1 x2 x3 kl) (Xv x0 x1 x2 x3) w → Ex x0 x1 x2 x3 → Sc P (Exit.then (AgainX4 n w0 S kv kl Fv Lv Xv Ex μ (μ x0 x1 x2 x3)) Q) n c (Fv x0 x1 x2 x3 kv) w) : Sc P Q n (.loop c) F w :=
  sc_loop4 a0 a1 a2 a3 (fun x0 x1 x2 x3 => Fv x0 x1 x2 x3 kv) (fun x0 x1 x2 x3 w => Hp w0 S (Lv x0 x1 x2 x3 kl) (Xv x0 x1 x2 x3) w ∧ Ex x0 x1 x2 x3) μ hF ⟨hX ▸ hp.sub hL, h0⟩ fun x0 x1 x2 x3 w hw => round x0 x1 x2 x3 w hw.1 hw.2
theorem pn_roundX4 {α β γ δ : Type} {kv : Fr} {kl : Lk} {Fv : α → β → γ → δ → Fr → Fr} {Lv : α → β → γ → δ → Lk → Lk} {Xv : α → β → γ → δ → List Ck} {Ex : α → β → γ → δ → Prop} {μ : α → β → γ → δ → Nat} {m : Nat} (a0 : α) (a1 : β) (a2 : γ) (a3 : δ)
    (hp : Hp w0 S L X w) (hF : Sub (Fv a0 a1 a2 a3 kv) F) (hlt : μ a0 a1 a2 a3 < m) (hL : LSub (Lv a0 a1 a2 a3 kl) L) (hX : Xv a0 a1 a2 a3 = X) (h0 : Ex a0 a1 a2 a3) :
    Pn (Exit.then (AgainX4 n w0 S kv kl Fv Lv Xv Ex μ m) Q) n F w :=
  pn_round4 a0 a1 a2 a3 hF hlt ⟨hX ▸ hp.sub hL, h0⟩
theorem sc_cutX4 {c : Code} {X0 : List Ck} {α β γ δ : Type} {kv : Fr} {kl : Lk} (Fv : α → β → γ → δ → Fr → Fr) (Lv : α → β → γ → δ → Lk → Lk) (Xv : α → β → γ → δ → List Ck) (Ex : α → β → γ → δ → Prop) (hp : Hp w0 S L X0 w) (hF : Sub kv F) (hL : LSub kl L) (h1 : Sc P (Exit.then (CutX4 n w0 S kv kl Fv Lv Xv Ex) Q) n c F w)
    (h2 : ∀ x0 x1 x2 x3 w, Hp w0 S (Lv x0 x1 x2 x3 kl) (Xv x0 x1 x2 x3) w → Ex x0 x1 x2 x3 → Pn Q n (Fv x0 x1 x2 x3 kv) w) : Sc P Q n c F w := sc_cut4 (fun x0 x1 x2 x3 => Fv x0 x1 x2 x3 kv) _ h1 fun x0 x1 x2 x3 w hw => h2 x0 x1 x2 x3 w hw.1 hw.2
theorem pn_cutX4 {α β γ δ : Type} {kv : Fr} {kl : Lk} {Fv : α → β → γ → δ → Fr → Fr} {Lv : α → β → γ → δ → Lk → Lk} {Xv : α → β → γ → δ → List Ck} {Ex : α → β → γ → δ → Prop} (a0 : α) (a1 : β) (a2 : γ) (a3 : δ)
    (hp : Hp w0 S L X w) (hF : Sub (Fv a0 a1 a2 a3 kv) F) (hL : LSub (Lv a0 a1 a2 a3 kl) L) (hX : Xv a0 a1 a2 a3 = X) (h0 : Ex a0 a1 a2 a3) : Pn (Exit.then (CutX4 n w0 S kv kl Fv Lv Xv Ex) Q) n F w :=
  pn_cut4 a0 a1 a2 a3 hF ⟨hX ▸ hp.sub hL, h0⟩
def AgainH5 {α β γ δ ε : Type} (n : Nat) (w0 : World) (S : List Nat) (kv : Fr) (kl : Lk) (Fv : α → β → γ → δ → ε → Fr → Fr) (Lv : α → β → γ → δ → ε → Lk → Lk) (X : List Ck) (Ex : α → β → γ → δ → ε → Prop) (μ : α → β → γ → δ → ε → Nat) (m : Nat) : Act → World → Prop := Again5 n (fun x0 x1 x2 x3 x4 => Fv x0 x1 x2 x3 x4 kv) (fun x0 x1 x2 x3 x4 w => Hp w0 S (Lv x0 x1 x2 x3 x4 kl) X w ∧ Ex x0 x1 x2 x3 x4) μ m
def CutH5 {α β γ δ ε : Type} (n : Nat) (w0 : World) (S : List Nat) (kv : Fr) (kl : Lk) (Fv : α → β → γ → δ → ε → Fr → Fr) (Lv : α → β → γ → δ → ε → Lk → Lk) (X : List Ck) (Ex : α → β → γ → δ → ε → Prop) : Act → World → Prop := Cut5 n (fun x0 x1 x2 x3 x4 => Fv x0 x1 x2 x3 x4 kv) (fun x0 x1 x2 x3 x4 w => Hp w0 S (Lv x0 x1 x2 x3 x4 kl) X w ∧ Ex x0 x1 x2 x3 x4)
theorem sc_loopH5 {c : Code} {α β γ δ ε : Type} {kv : Fr} {kl : Lk} (Fv : α → β → γ → δ → ε → Fr → Fr) (Lv : α → β → γ → δ → ε → Lk → Lk) (Ex : α → β → γ → δ → ε → Prop) (μ : α → β → γ → δ → ε → Nat) (a0 : α) (a1 : β) (a2 : γ) (a3 : δ) (a4 : ε)
    (hp : Hp w0 S L X w) (hF : Sub (Fv a0 a1 a2 a3 a4 kv) F) (hL : LSub (Lv a0 a1 a2 a3 a4 kl) L) (h0 : Ex a0 a1 a2 a3 a4)
    (round : ∀ x0 x1 x2 x3 x4 w, Hp w0 S (Lv x0 x1 x2 x3 x4 kl) X w → Ex x0 x1 x2 x3 x4 → Sc P (Exit.then (AgainH5 n w0 S kv kl Fv Lv X Ex μ (μ x0 x1 x2 x3 x4)) Q) n c (Fv x0 x1 x2 x3 x4 kv) w) : Sc P Q n (.loop c) F w :=
  sc_loop5 a0 a1 a2 a3 a4 (fun x0 x1 x2 x3 x4 => Fv x0 x1 x2 x3 x4 kv) (fun x0 x1 x2 x3 x4 w => Hp w0 S (Lv x0 x1 x2 x3 x4 kl) X w ∧ Ex x0 x1 x2 x3 x4) μ hF ⟨hp.sub hL, h0⟩ fun x0 x1 x2 x3 x4 w hw => round x0 x1 x2 x3 x4 w hw.1 hw.2
theorem pn_roundH5 {α β γ δ ε : Type} {kv : Fr} {kl : Lk} {Fv : α → β → γ → δ → ε → Fr → Fr} {Lv : α → β → γ → δ → ε → Lk → Lk} {Ex : α → β → γ → δ → ε → Prop} {μ : α → β → γ → δ → ε → Nat} {m : Nat} (a0 : α) (a1 : β) (a2 : γ) (a3 : δ) (a4 : ε)
    (hp : Hp w0 S L X w) (hF : Sub (Fv a0 a1 a2 a3 a4 kv) F) (hlt : μ a0 a1 a2 a3 a4 < m) (hL : LSub (Lv a0 a1 a2 a3 a4 kl) L) (h0 : Ex a0 a1 a2 a3 a4) :
    Pn (Exit.then (AgainH5 n w0 S kv kl Fv Lv X Ex μ m) Q) n F w :=
  pn_round5 a0 a1 a2 a3 a4 hF hlt ⟨hp.sub hL, h0⟩
theorem sc_cutH5 {c : Code} {α β γ δ ε : Type} {kv : Fr} {kl : Lk} (Fv : α → β → γ → δ → ε → Fr → Fr) (Lv : α → β → γ → δ → ε → Lk → Lk) (Ex : α → β → γ → δ → ε → Prop) (hp : Hp w0 S L X w) (hF : Sub kv F) (hL : LSub kl L) (h1 : Sc P (Exit.then (CutH5 n w0 S kv kl Fv Lv X Ex) Q) n c F w)
    (h2 : ∀ x0 x1 x2 x3 x4 w, Hp w0 S (Lv x0 x1 x2 x3 x4 kl) X w → Ex x0 x1 x2 x3 x4 → Pn Q n (Fv x0 x1 x2 x3 x4 kv) w) : Sc P Q n c F w := sc_cut5 (fun x0 x1 x2 x3 x4 => Fv x0 x1 x2 x3 x4 kv) _ h1 fun x0 x1 x2 x3 x4 w hw => h2 x0 x1 x2 x3 x4 w hw.1 hw.2
theorem pn_cutH5 {α β γ δ ε : Type} {kv : Fr} {kl : Lk} {Fv : α → β → γ → δ → ε → Fr → Fr} {Lv : α → β → γ → δ → ε → Lk → Lk} {Ex : α → β → γ → δ → ε → Prop} (a0 : α) (a1 : β) (a2 : γ) (a3 : δ) (a4 : ε)
    (hp : Hp w0 S L X w) (hF : Sub (Fv a0 a1 a2 a3 a4 kv) F) (hL : LSub (Lv a0 a1 a2 a3 a4 kl) L) (h0 : Ex a0 a1 a2 a3 a4) : Pn (Exit.then (CutH5 n w0 S kv kl Fv Lv X Ex) Q) n F w :=
  pn_cut5 a0 a1 a2 a3 a4 hF ⟨hp.sub hL, h0⟩
def AgainX5 {α β γ δ ε : Type} (n : Nat) (w0 : World) (S : List Nat) (kv : Fr) (kl : Lk) (Fv : α → β → γ → δ → ε → Fr → Fr) (Lv : α → β → γ → δ → ε → Lk → Lk) (Xv : α → β → γ → δ → ε → List Ck) (Ex : α → β → γ → δ → ε → Prop) (μ : α → β → γ → δ → ε → Nat) (m : Nat) : Act → World → Prop := Again5 n (fun x0 x1 x2 x3 x4 => Fv x0 x1 x2 x3 x4 kv) (fun x0 x1 x2 x3 x4 w => Hp w0 S (Lv x0 x1 x2 x3 x4 kl) (Xv x0 x1 x2 x3 x4) w ∧ Ex x0 x1 x2 x3 x4) μ m
def CutX5 {α β γ δ ε : Type} (n : Nat) (w0 : World) (S : List Nat) (kv : Fr) (kl : Lk) (Fv : α → β → γ → δ → ε → Fr → Fr) (Lv : α → β → γ → δ → ε → Lk → Lk) (Xv : α → β → γ → δ → ε → List Ck) (Ex : α → β → γ → δ → ε → Prop) : Act → World → Prop := Cut5 n (fun x0 x1 x2 x3 x4 => Fv x0 x1 x2 x3 x4 kv) (fun x0 x1 x2 x3 x4 w => Hp w0 S (Lv x0 x1 x2 x3 x4 kl) (Xv x0 x1 x2 x3 x4) w ∧ Ex x0 x1 x2 x3 x4)
theorem sc_loopX5 {c : Code} {α β γ δ ε : Type} {kv : Fr} {kl : Lk} (Fv : α → β → γ → δ → ε → Fr → Fr) (Lv : α → β → γ → δ → ε → Lk → Lk) (Xv : α → β → γ → δ → ε → List Ck) (Ex : α → β → γ → δ → ε → Prop) (μ : α → β → γ → δ → ε → Nat) (a0 : α) (a1 : β) (a2 : γ) (a3 : δ) (a4 : ε)
    (hp : Hp w0 S L X w) (hF : Sub (Fv a0 a1 a2 a3 a4 kv) F) (hL : LSub (Lv a0 a1 a2 a3 a4 kl) L) (hX : Xv a0 a1 a2 a3 a4 = X) (h0 : Ex a0 a1 a2 a3 a4)
    (round : ∀ x0 x1 x2 x3 x4 w, Hp w0 S (Lv x0 x1 x2 x3 x4 kl) (Xv x0 x1 x2 x3 x4) w → Ex x0 x1 x2 x3 x4 → Sc P (Exit.then (AgainX5 n w0 S kv kl Fv Lv Xv Ex μ (μ x0 x1 x2 x3 x4)) Q) n c (Fv x0 x1 x2 x3 x4 kv) w) : Sc P Q n (.loop c) F w :=
  sc_loop5 a0 a1 a2 a3 a4 (fun x0 x1 x2 x3 x4 => Fv x0 x1 x2 x3 x4 kv) (fun x0 x1 x2 x3 x4 w => Hp w0 S (Lv x0 x1 x2 x3 x4 kl) (Xv x0 x1 x2 x3 x4) w ∧ Ex x0 x1 x2 x3 x4) μ hF ⟨hX ▸ hp.sub hL, h0⟩ fun x0 x1 x2 x3 x4 w hw => round x0 x1 x2 x3 x4 w hw.1 hw.2
theorem pn_roundX5 {α β γ δ ε : Type} {kv : Fr} {kl : Lk} {Fv : α → β → γ → δ → ε → Fr → Fr} {Lv : α → β → γ → δ → ε → Lk → Lk} {Xv : α → β → γ → δ → ε → List Ck} {Ex : α → β → γ → δ → ε → Prop} {μ : α → β → γ → δ → ε → Nat} {m : Nat} (a0 : α) (a1 : β) (a2 : γ) (a3 : δ) (a4 : ε)
    (hp : Hp w0 S L X w) (hF : Sub (Fv a0 a1 a2 a3 a4 kv) F) (hlt : μ a0 a1 a2 a3 a4 < m) (hL : LSub (Lv a0 a1 a2 a3 a4 kl) L) (hX : Xv a0 a1 a2 a3 a4 = X) (h0 : Ex a0 a1 a2 a3 a4) :
    Pn (Exit.then (AgainX5 n w0 S kv kl Fv Lv Xv Ex μ m) Q) n F w :=
  pn_round5 a0 a1 a2 a3 a4 hF hlt ⟨hX ▸ hp.sub hL, h0⟩
theorem sc_cutX5 {c : Code} {X0 : List Ck} {α β γ δ ε : Type} {kv : Fr} {kl : Lk} (Fv : α → β → γ → δ → ε → Fr → Fr) (Lv : α → β → γ → δ → ε → Lk → Lk) (Xv : α → β → γ → δ → ε → List Ck) (Ex : α → β → γ → δ → ε → Prop) (hp : Hp w0 S L X0 w) (hF : Sub kv F) (hL : LSub kl L) (h1 : Sc P (Exit.then (CutX5 n w0 S kv kl Fv Lv Xv Ex) Q) n c F w)
    (h2 : ∀ x0 x1 x2 x3 x4 w, Hp w0 S (Lv x0 x1 x2 x3 x4 kl) (Xv x0 x1 x2 x3 x4) w → Ex x0 x1 x2 x3 x4 → Pn Q n (Fv x0 x1 x2 x3 x4 kv) w) : Sc P Q n c F w := sc_cut5 (fun x0 x1 x2 x3 x4 => Fv x0 x1 x2 x3 x4 kv) _ h1 fun x0 x1 x2 x3 x4 w hw => h2 x0 x1 x2 x3 x4 w hw.1 hw.2
theorem pn_cutX5 {α β γ δ ε : Type} {kv : Fr} {kl : Lk} {Fv : α → β → γ → δ → ε → Fr → Fr} {Lv : α → β → γ → δ → ε → Lk → Lk} {Xv : α → β → γ → δ → ε → List Ck} {Ex : α → β → γ → δ → ε → Prop} (a0 : α) (a1 : β) (a2 : γ) (a3 : δ) (a4 : ε)
    (hp : Hp w0 S L X w) (hF : Sub (Fv a0 a1 a2 a3 a4 kv) F) (hL : LSub (Lv a0 a1 a2 a3 a4 kl) L) (hX : Xv a0 a1 a2 a3 a4 = X) (h0 : Ex a0 a1 a2 a3 a4) : Pn (Exit.then (CutX5 n w0 S kv kl Fv Lv Xv Ex) Q) n F w :=
  pn_cut5 a0 a1 a2 a3 a4 hF ⟨hX ▸ hp.sub hL, h0⟩
def AgainH6 {α β γ δ ε ζ : Type} (n : Nat) (w0 : World) (S : List Nat) (kv : Fr) (kl : Lk) (Fv : α → β → γ → δ → ε → ζ → Fr → Fr) (Lv : α → β → γ → δ → ε → ζ → Lk → Lk) (X : List Ck) (Ex : α → β → γ → δ → ε → ζ → Prop) (μ : α → β → γ → δ → ε → ζ → Nat) (m : Nat) : Act → World → Prop := Again6 n (fun x0 x1 x2 x3 x4 x5 => Fv x0 x1 x2 x3 x4 x5 kv) (fun x0 x1 x2 x3 x4 x5 w => Hp w0 S (Lv x0 x1 x2 x3 x4 x5 kl) X w ∧ Ex x0 x1 x2 x3 x4 x5) μ m
def CutH6 {α β γ δ ε ζ : Type} (n : Nat) (w0 : World) (S : List Nat) (kv : Fr) (kl : Lk) (Fv : α → β → γ → δ → ε → ζ → Fr → Fr) (Lv : α → β → γ → δ → ε → ζ → Lk → Lk) (X : List Ck) (Ex : α → β → γ → δ → ε → ζ → Prop) : Act → World → Prop := Cut6 n (fun x0 x1 x2 x3 x4 x5 => Fv x0 x1 x2 x3 x4 x5 kv) (fun x0 x1 x2 x3 x4 x5 w => Hp w0 S (Lv x0 x1 x2 x3 x4 x5 kl) X w ∧ Ex x0 x1 x2 x3 x4 x5)
theorem sc_loopH6 {c : Code} {α β γ δ ε ζ : Type} {kv : Fr} {kl : Lk} (Fv : α → β → γ → δ → ε → ζ → Fr → Fr) (Lv : α → β → γ → δ → ε → ζ → Lk → Lk) (Ex : α → β → γ → δ → ε → ζ → Prop) (μ : α → β → γ → δ → ε → ζ → Nat) (a0 : α) (a1 : β) (a2 : γ) (a3 : δ) (a4 : ε) (a5 : ζ)
    (hp : Hp w0 S L X w) (hF : Sub (Fv a0 a1 a2 a3 a4 a5 kv) F) (hL : LSub (Lv a0 a1 a2 a3 a4 a5 kl) L) (h0 : Ex a0 a1 a2 a3 a4 a5)
    (round : ∀ x0 x1 x2 x3 x4 x5 w, Hp w0 S (Lv x0 x1 x2 x3 x4 x5 kl) X w → Ex x0 x1 x2 x3 x4 x5 → Sc P (Exit.then (AgainH6 n w0 S kv kl Fv Lv X Ex μ (μ x0 x1 x2 x3 x4 x5)) Q) n c (Fv x0 x1 x2 x3 x4 x5 kv) w) : Sc P Q n (.loop c) F w :=
  sc_loop6 a0 a1 a2 a3 a4 a5 (fun x0 x1 x2 x3 x4 x5 => Fv x0 x1 x2 x3 x4 x5 kv) (fun x0 x1 x2 x3 x4 x5 w => Hp w0 S (Lv x0 x1 x2 x3 x4 x5 kl) X w ∧ Ex x0 x1 x2 x3 x4 x5) μ hF ⟨hp.sub hL, h0⟩ fun x0 x1 x2 x3 x4 x5 w hw => round x0 x1 x2 x3 x4 x5 w hw.1 hw.2
theorem pn_roundH6 {α β γ δ ε ζ : Type} {kv : Fr} {kl : Lk} {Fv : α → β → γ → δ → ε → ζ → Fr → Fr} {Lv : α → β → γ → δ → ε → ζ → Lk → Lk} {Ex : α → β → γ → δ → ε → ζ → Prop} {μ : α → β → γ → δ → ε → ζ → Nat} {m : Nat} (a0 : α) (a1 : β) (a2 : γ) (a3 : δ) (a4 : ε) (a5 : ζ)
    (hp : Hp w0 S L X w) (hF : Sub (Fv a0 a1 a2 a3 a4 a5 kv) F) (hlt : μ a0 a1 a2 a3 a4 a5 < m) (hL : LSub (Lv a0 a1 a2 a3 a4 a5 kl) L) (h0 : Ex a0 a1 a2 a3 a4 a5) :
    Pn (Exit.then (AgainH6 n w0 S kv kl Fv Lv X Ex μ m) Q) n F w :=
  pn_round6 a0 a1 a2 a3 a4 a5 hF hlt ⟨hp.sub hL, h0⟩
theorem sc_cutH6 {c : Code} {α β γ δ ε ζ : Type} {kv : Fr} {kl : Lk} (Fv : α → β → γ → δ → ε → ζ → Fr → Fr) (Lv : α → β → γ → δ → ε → ζ → Lk → Lk) (Ex : α → β → γ → δ → ε → ζ → Prop) (hp : Hp w0 S L X w) (hF : Sub kv F) (hL : LSub kl L) (h1 : Sc P (Exit.then (CutH6 n w0 S kv kl Fv Lv X Ex) Q) n c F w)
    (h2 : ∀ x0 x1 x2 x3 x4 x5 w, Hp w0 S (Lv x0 x1 x2 x3 x4 x5 kl) X w → Ex x0 x1 x2 x3 x4 x5 → Pn Q n (Fv x0 x1 x2 x3 x4 x5 kv) w) : Sc P Q n c F w := sc_cut6 (fun x0 x1 x2 x3 x4 x5 => Fv x0 x1 x2 x3 x4 x5 kv) _ h1 fun x0 x1 x2 x3 x4 x5 w hw => h2 x0 x1 x2 x3 x4 x5 w hw.1 hw.2
theorem pn_cutH6 {α β γ δ ε ζ : Type} {kv : Fr} {kl : Lk} {Fv : α → β → γ → δ → ε → ζ → Fr → Fr} {Lv : α → β → γ → δ → ε → ζ → Lk → Lk} {Ex : α → β → γ → δ → ε → ζ → Prop} (a0 : α) (a1 : β) (a2 : γ) (a3 : δ) (a4 : ε) (a5 : ζ)
    (hp : Hp w0 S L X w) (hF : Sub (Fv a0 a1 a2 a3 a4 a5 kv) F) (hL : LSub (Lv a0 a1 a2 a3 a4 a5 kl) L) (h0 : Ex a0 a1 a2 a3 a4 a5) : Pn (Exit.then (CutH6 n w0 S kv kl Fv Lv X Ex) Q) n F w :=
  pn_cut6 a0 a1 a2 a3 a4 a5 hF ⟨hp.sub hL, h0⟩
def AgainX6 {α β γ δ ε ζ : Type} (n : Nat) (w0 : World) (S : List Nat) (kv : Fr) (kl : Lk) (Fv : α → β → γ → δ → ε → ζ → Fr → Fr) (Lv : α → β → γ → δ → ε → ζ → Lk → Lk) (Xv : α → β → γ → δ → ε → ζ → List Ck) (Ex : α → β → γ → δ → ε → ζ → Prop) (μ : α → β → γ → δ → ε → ζ → Nat) (m : Nat) : Act → World → Prop := Again6 n (fun x0 x1 x2 x3 x4 x5 => Fv x0 x1 x2 x3 x4 x5 kv) (fun x0 x1 x2 x3 x4 x5 w => Hp w0 S (Lv x0 x1 x2 x3 x4 x5 kl) (Xv x0 x1 x2 x3 x4 x5) w ∧ Ex x0 x1 x2 x3 x4 x5) μ m
def CutX6 {α β γ δ ε ζ : Type} (n : Nat) (w0 : World) (S : List Nat) (kv : Fr) (kl : Lk) (Fv : α → β → γ → δ → ε → ζ → Fr → Fr) (Lv : α → β → γ → δ → ε → ζ → Lk → Lk) (Xv : α → β → γ → δ → ε → ζ → List Ck) (Ex : α → β → γ → δ → ε → ζ → Prop) : Act → World → Prop := Cut6 n (fun x0 x1 x2 x3 x4 x5 => Fv x0 x1 x2 x3 x4 x5 kv) (fun x0 x1 x2 x3 x4 x5 w => Hp w0 S (Lv x0 x1 x2 x3 x4 x5 kl) (Xv x0 x1 x2 x3 x4 x5) w ∧ Ex x0 x1 x2 x3 x4 x5)
theorem sc_loopX6 {c : Code} {α β γ δ ε ζ : Type} {kv : Fr} {kl : Lk} (Fv : α → β → γ → δ → ε → ζ → Fr → Fr) (Lv : α → β → γ → δ → ε → ζ → Lk → Lk) (Xv : α → β → γ → δ → ε → ζ → List Ck) (Ex : α → β → γ → δ → ε → ζ → Prop) (μ : α → β → γ → δ → ε → ζ → Nat) (a0 : α) (a1 : β) (a2 : γ) (a3 : δ) (a4 : ε) (a5 : ζ)
    (hp : Hp w0 S L X w) (hF : Sub (Fv a0 a1 a2 a3 a4 a5 kv) F) (hL : LSub (Lv a0 a1 a2 a3 a4 a5 kl) L) (hX : Xv a0 a1 a2 a3 a4 a5 = X) (h0 : Ex a0 a1 a2 a3 a4 a5)
    (round : ∀ x0 x1 x2 x3 x4 x5 w, Hp w0 S (Lv x0 x1 x2 x3 x4 x5 kl) (Xv x0 x1 x2 x3 x4 x5) w → Ex x0 x1 x2 x3 x4 x5 → Sc P (Exit.then (AgainX6 n w0 S kv kl Fv Lv Xv Ex μ (μ x0 x1 x2 x3 x4 x5)) Q) n c (Fv x0 x1 x2 x3 x4 x5 kv) w) : Sc P Q n (.loop c) F w :=
  sc_loop6 a0 a1 a2 a3 a4 a5 (fun x0 x1 x2 x3 x4 x5 => Fv x0 x1 x2 x3 x4 x5 kv) (fun x0 x1 x2 x3 x4 x5 w => Hp w0 S (Lv x0 x1 x2 x3 x4 x5 kl) (Xv x0 x1 x2 x3 x4 x5) w ∧ Ex x0 x1 x2 x3 x4 x5) μ hF ⟨hX ▸ hp.sub hL, h0⟩ fun x0 x1 x2 x3 x4 x5 w hw => round x0 x1 x2 x3 x4 x5 w hw.1 hw.2
theorem pn_roundX6 {α β γ δ ε ζ : Type} {kv : Fr} {kl : Lk} {Fv : α → β → γ → δ → ε → ζ → Fr → Fr} {Lv : α → β → γ → δ → ε → ζ → Lk → Lk} {Xv : α → β → γ → δ → ε → ζ → List Ck} {Ex : α → β → γ → δ → ε → ζ → Prop} {μ : α → β → γ → δ → ε → ζ → Nat} {m : Nat} (a0 : α) (a1 : β) (a2 : γ) (a3 : δ) (a4 : ε) (a5 : ζ)
    (hp : Hp w0 S L X w) (hF : Sub (Fv a0 a1 a2 a3 a4 a5 kv) F) (hlt : μ a0 a1 a2 a3 a4 a5 < m) (hL : LSub (Lv a0 a1 a2 a3 a4 a5 kl) L) (hX : Xv a0 a1 a2 a3 a4 a5 = X) (h0 : Ex a0 a1 a2 a3 a4 a5) :
    Pn (Exit.then (AgainX6 n w0 S kv kl Fv Lv Xv Ex μ m) Q) n F w :=
  pn_round6 a0 a1 a2 a3 a4 a5 hF hlt ⟨hX ▸ hp.sub hL, h0⟩
theorem sc_cutX6 {c : Code} {X0 : List Ck} {α β γ δ ε ζ : Type} {kv : Fr} {kl : Lk} (Fv : α → β → γ → δ → ε → ζ → Fr → Fr) (Lv : α → β → γ → δ → ε → ζ → Lk → Lk) (Xv : α → β → γ → δ → ε → ζ → List Ck) (Ex : α → β → γ → δ → ε → ζ → Prop) (hp : Hp w0 S L X0 w) (hF : Sub kv F) (hL : LSub kl L) (h1 : Sc P (Exit.then (CutX6 n w0 S kv kl Fv Lv Xv Ex) Q) n c F w)
    (h2 : ∀ x0 x1 x2 x3 x4 x5 w, Hp w0 S (Lv x0 x1 x2 x3 x4 x5 kl) (Xv x0 x1 x2 x3 x4 x5) w → Ex x0 x1 x2 x3 x4 x5 → Pn Q n (Fv x0 x1 x2 x3 x4 x5 kv) w) : Sc P Q n c F w := sc_cut6 (fun x0 x1 x2 x3 x4 x5 => Fv x0 x1 x2 x3 x4 x5 kv) _ h1 fun x0 x1 x2 x3 x4 x5 w hw => h2 x0 x1 x2 x3 x4 x5 w hw.1 hw.2
theorem pn_cutX6 {α β γ δ ε ζ : Type} {kv : Fr} {kl : Lk} {Fv : α → β → γ → δ → ε → ζ → Fr → Fr} {Lv : α → β → γ → δ → ε → ζ → Lk → Lk} {Xv : α → β → γ → δ → ε → ζ → List Ck} {Ex : α → β → γ → δ → ε → ζ → Prop} (a0 : α) (a1 : β) (a2 : γ) (a3 : δ) (a4 : ε) (a5 : ζ)
    (hp : Hp w0 S L X w) (hF : Sub (Fv a0 a1 a2 a3 a4 a5 kv) F) (hL : LSub (Lv a0 a1 a2 a3 a4 a5 kl) L) (hX : Xv a0 a1 a2 a3 a4 a5 = X) (h0 : Ex a0 a1 a2 a3 a4 a5) : Pn (Exit.then (CutX6 n w0 S kv kl Fv Lv Xv Ex) Q) n F w :=
  pn_cut6 a0 a1 a2 a3 a4 a5 hF ⟨hX ▸ hp.sub hL, h0⟩
end
end Go.Proofs.YtjdolgfhcjnniaaDoor

/- Lists that lie apart, marked and grown: the plain law, and the memory behind it. Nothing here names the program. -/
import Derived.Test.YteablbficakfcaaApp2
set_option linter.unusedVariables false
set_option linter.unusedSimpArgs false
set_option linter.unusedSectionVars false
namespace Go.Pb
open Go.RowKit

section
variable {α : Type}
/-- A row's first n marks. -/
def marks (mk : Int → Int → α) (r : Int) (n : Nat) : List α := (List.range n).map (fun (j : Nat) => mk r (j : Int))
theorem marks_length (mk : Int → Int → α) (r : Int) (n : Nat) : (marks mk r n).length = n := by simp [marks]
theorem marks_succ (mk : Int → Int → α) (r : Int) (n : Nat) : marks mk r (n + 1) = marks mk r n ++ [mk r (n : Int)] := by simp [marks, List.range_succ]
theorem marks_get (mk : Int → Int → α) (r : Int) (n j : Nat) (h : j < (marks mk r n).length) : (marks mk r n)[j] = mk r (j : Int) := by simp [marks]
theorem marks_take (mk : Int → Int → α) (r : Int) (n m : Nat) (h : m ≤ n) : (marks mk r n).take m = marks mk r m := by
  apply List.ext_getElem
  · simp [marks_length]; omega
  · intro i h1 h2
    rw [List.getElem_take, marks_get, marks_get]
theorem marks_zero (mk : Int → Int → α) (r : Int) : marks mk r 0 = [] := rfl
/-- The rows ahead of the k-th are marked, of the k-th the first n. -/
def Upto (N : Nat) (ns : Nat → Nat) (mk : Int → Int → α) (L : Nat → List α) (k n : Nat) : Prop := ∀ i, i < N → (L i).length = ns i ∧ (i < k → L i = marks mk (i : Int) (ns i)) ∧ (i = k → (L i).take n = marks mk (i : Int) n)
theorem Upto.start {N : Nat} {ns : Nat → Nat} (mk : Int → Int → α) {L : Nat → List α} (h : ∀ i, i < N → (L i).length = ns i) : Upto N ns mk L 0 0 :=
  fun i hi => ⟨h i hi, fun hk => by omega, fun _ => by simp [marks_zero]⟩
theorem Upto.set {N : Nat} {ns : Nat → Nat} {mk : Int → Int → α} {L : Nat → List α} {k n : Nat} (h : Upto N ns mk L k n) (hk : k < N) (hn : n < ns k) : Upto N ns mk (upd L k ((L k).set n (mk (k : Int) (n : Int)))) k (n + 1) := by
  intro i hi
  by_cases he : i = k
  · subst he
    rw [upd_at]
    obtain ⟨h1, _, h3⟩ := h i hi
    refine ⟨by simpa using h1, fun hlt => by omega, fun _ => ?_⟩
    have hlen : n < (L i).length := by omega
    have hl2 : n < ((L i).set n (mk (i : Int) (n : Int))).length := by simpa using hlen
    rw [List.take_succ_eq_append_getElem hl2, marks_succ, ← h3 rfl, List.take_set_of_le (Nat.le_refl n), List.getElem_set_self]
  · rw [upd_ne _ _ he]
    obtain ⟨h1, h2, _⟩ := h i hi
    exact ⟨h1, h2, fun e => absurd e he⟩
theorem Upto.next {N : Nat} {ns : Nat → Nat} {mk : Int → Int → α} {L : Nat → List α} {k : Nat} (h : Upto N ns mk L k (ns k)) : Upto N ns mk L (k + 1) 0 := by
  intro i hi
  obtain ⟨h1, h2, h3⟩ := h i hi
  refine ⟨h1, fun hlt => ?_, fun _ => by simp [marks_zero]⟩
  by_cases he : i = k
  · subst he
    have := h3 rfl
    rwa [List.take_of_length_le (by omega)] at this
  · exact h2 (by omega)
theorem Upto.all {N : Nat} {ns : Nat → Nat} {mk : Int → Int → α} {L : Nat → List α} (h : Upto N ns mk L N 0) : ∀ i, i < N → L i = marks mk (i : Int) (ns i) := fun i hi => (h i hi).2.1 hi
end

theorem Keep.far {X : Nat → Prop} {w0 w w' : World} {row : Option Nat} (hk : Keep X w0 w) (hg : w.grownBy w' row) (h : ∀ g, row = some g → X g ∨ w0.heap.size ≤ g) : Keep X w0 w' :=
  ⟨hg.os.trans hk.os, hg.tape.trans hk.tape, hg.output.trans hk.output, Nat.le_trans hk.size hg.size, fun b hb hx => by
    rw [hg.block b (Nat.lt_of_lt_of_le hb hk.size) (fun e => by
      rcases h b e.symm with h1 | h1
      · exact hx h1
      · omega)]
    exact hk.block b hb hx⟩

theorem app_keep {w w' : World} {v v' : Value} (h : Appd w w' v v') (gb : Nat) : Keep (fun b => b = gb ∨ v.ownBlock = some b) w w' := by
  have hg := h.grown
  exact ⟨hg.os, hg.tape, hg.output, hg.size, fun i hi hn => hg.block i hi (fun e => hn (.inr e.symm))⟩
theorem app_heap {w w' : World} {v v' : Value} (h : Appd w w' v v') {g : Nat} {o : Obj} (hne : v.ownBlock ≠ some g) (hg : w.heap[g]? = some o) : w'.heap[g]? = some o := by
  rw [h.grown.block g (Array.getElem?_eq_some_iff.1 hg).1 (fun e => hne e.symm)]
  exact hg
theorem sl_of {α : Type} [Enc α] {w : World} {base : Nat} {e : TypeId} {v : Value} {l : List α} (H : Owns w base e v l) : ∃ s : Sl, v = s.val := by
  obtain ⟨A, c', hv, _, _⟩ := H.shape
  exact ⟨⟨A, _, c'⟩, hv⟩
/-- The rows' blocks. -/
def InV (N : Nat) (V : Nat → Sl) (b : Nat) : Prop := ∃ i, i < N ∧ (V i).own = some b
structure FlatI {α : Type} [Enc α] (w0 w : World) (base : Nat) (e e2 : TypeId) (N : Nat) (V : Nat → Sl) (L : Nat → List α) (k : Nat) (G : Nat → Sl) (M : Nat → List α) (bl : Nat) (vls : Value) (lsl : List Sl) (vgs : Value) (gsl : List Sl) : Prop where
  two : Two w base e w0.heap.size N V L k G M
  ls : Owns w bl e2 vls lsl
  gs : Owns w w0.heap.size e2 vgs gsl
  keep : Keep (InV N V) w0 w
  lslt : ∀ g, vls.ownBlock = some g → g < w0.heap.size
section
variable {α : Type} [Enc α] {w0 w w' : World} {base : Nat} {e e2 : TypeId} {N : Nat} {V : Nat → Sl} {L : Nat → List α} {k : Nat} {G : Nat → Sl} {M : Nat → List α} {bl : Nat} {vls vgs : Value} {lsl gsl : List Sl}
theorem FlatI.size (h : FlatI w0 w base e e2 N V L k G M bl vls lsl vgs gsl) : w0.heap.size ≤ w.heap.size := h.keep.size
theorem FlatI.fresh (h : FlatI w0 w base e e2 N V L k G M bl vls lsl vgs gsl) (hb : Below w.heap.size w w') : FlatI w0 w' base e e2 N V L k G M bl vls lsl vgs gsl :=
  ⟨h.two.fresh hb, h.ls.fresh hb, h.gs.fresh hb, h.keep.far (grown_of_fresh hb none) (fun g hg => by cases hg), h.lslt⟩
theorem FlatI.set (h : FlatI w0 w base e e2 N V L 0 G M bl vls lsl vgs gsl) (he : e ≠ e2) (i : Nat) (hi : i < N) {b : Nat} {z : α} {j : Nat} (hO : Owns w' base e (V i).val ((L i).set j z)) (hb : (V i).own = some b) (hg : w.grownBy w' (some b)) :
    FlatI w0 w' base e e2 N V (upd L i ((L i).set j z)) 0 G M bl vls lsl vgs gsl := by
  have hf := (h.two.own i hi).far h.ls he b hb
  have hf2 := (h.two.own i hi).far h.gs he b hb
  exact ⟨h.two.set i hi hO hb hg, h.ls.keep (Keep.grown hg) (fun g h1 e => by subst e; exact hf h1), h.gs.keep (Keep.grown hg) (fun g h1 e => by subst e; exact hf2 h1), h.keep.far hg (fun g hg => by injection hg with hg; subst hg; exact .inl ⟨i, hi, hb⟩), h.lslt⟩
theorem FlatI.redo (h : FlatI w0 w base e e2 N V L k G M bl vls lsl vgs gsl) (i : Nat) (hi : i < N) (hk : i ≤ k) (K : Nat) (hK : K = max k (i + 1)) : FlatI w0 w base e e2 N V L K (upd G i (V i)) (upd M i (L i)) bl vls lsl vgs gsl :=
  ⟨h.two.redo i hi hk K hK, h.ls, h.gs, h.keep, h.lslt⟩
theorem FlatI.app (h : FlatI w0 w base e e2 N V L k G M bl vls lsl vgs gsl) (he : e ≠ e2) (i : Nat) (hi : i < k) (hN : k ≤ N) {s' : Sl} {news : List α} (hO : Owns w' base e s'.val (M i ++ news)) (hA : Appd w w' (G i).val s'.val)
    (hpre : i < N → L i = (M i).take (L i).length) : FlatI w0 w' base e e2 N V L k (upd G i s') (upd M i (M i ++ news)) bl vls lsl vgs gsl := by
  have hf := (h.two.grown i hi).far h.ls he
  have hf2 := (h.two.grown i hi).far h.gs he
  have hkp : ∀ {v : Value} {b0 : Nat} {l : List Sl}, Owns w b0 e2 v l → (∀ g, (G i).val.ownBlock = some g → v.ownBlock ≠ some g) → Owns w' b0 e2 v l := fun H hfar => by
    rcases hA with ⟨hg, g, n, n', cap, h1, h2⟩ | ⟨hg, _⟩
    · rw [h1] at hg hfar
      exact H.keep (Keep.grown (b := g) hg) (fun g' h3 e => by subst e; exact hfar _ rfl h3)
    · exact H.fresh (fresh_of_grown hg)
  refine ⟨h.two.app i hi hO hA h.size hpre, hkp h.ls hf, hkp h.gs hf2, h.keep.far hA.grown (fun g hg => ?_), h.lslt⟩
  rcases h.two.new i g hi hg with h1 | h1
  · exact .inl ⟨i, by omega, h1⟩
  · exact .inr h1
/-- The row of the grown rows is made, or written. -/
theorem FlatI.gsset (h : FlatI w0 w base e e2 N V L k G M bl vls lsl vgs gsl) (he : e ≠ e2) {g : Nat} {gsl' : List Sl} (hO : Owns w' w0.heap.size e2 vgs gsl') (hg : vgs.ownBlock = some g) (hgr : w.grownBy w' (some g)) : FlatI w0 w' base e e2 N V L k G M bl vls lsl vgs gsl' := by
  have hge := (h.gs.block g hg).1
  refine ⟨h.two.other (Keep.grown hgr) (fun i g' hi h1 e => ?_) (fun i g' hi h1 e => ?_), h.ls.keep (Keep.grown hgr) (fun g' h1 e => ?_), hO, h.keep.far hgr (fun g' h1 => ?_), h.lslt⟩
  · subst e; exact (h.two.own i hi).far h.gs he _ h1 hg
  · subst e; exact (h.two.grown i hi).far h.gs he _ h1 hg
  · subst e; have := h.lslt _ h1; omega
  · injection h1 with h1; subst h1; exact .inr hge
theorem FlatI.newgs (h : FlatI w0 w base e e2 N V L k G M bl vls lsl vgs gsl) {vgs' : Value} {gsl' : List Sl} (hO : Owns w w0.heap.size e2 vgs' gsl') : FlatI w0 w base e e2 N V L k G M bl vls lsl vgs' gsl' :=
  ⟨h.two, h.ls, hO, h.keep, h.lslt⟩
theorem FlatI.alloc (h : FlatI w0 w base e e2 N V L k G M bl vls lsl vgs gsl) (o : Obj) : FlatI w0 (w.alloc o) base e e2 N V L k G M bl vls lsl vgs gsl := h.fresh (fresh_alloc (fresh_refl w) o)
theorem FlatI.drewN (h : FlatI w0 w base e e2 N V L k G M bl vls lsl vgs gsl) (n : Nat) : FlatI w0 (w.drewN n) base e e2 N V L k G M bl vls lsl vgs gsl := h.fresh (fresh_drewN (fresh_refl w) n)
end
theorem upd_upd {β : Type} (f : Nat → β) (k : Nat) (x y : β) : upd (upd f k x) k y = upd f k y := by
  funext i
  by_cases h : i = k
  · subst h; rw [upd_at, upd_at]
  · rw [upd_ne _ _ h, upd_ne _ _ h, upd_ne _ _ h]
/-- Row i grows anew, out of what was handed out. -/
theorem FlatI.regrow {α : Type} [Enc α] {w0 w w' : World} {base : Nat} {e e2 : TypeId} {N : Nat} {V : Nat → Sl} {L : Nat → List α} {G : Nat → Sl} {M : Nat → List α} {bl : Nat} {vls vgs : Value} {lsl gsl : List Sl}
    (h : FlatI w0 w base e e2 N V L N G M bl vls lsl vgs gsl) (he : e ≠ e2) (i : Nat) (hi : i < N) {s' : Sl} {news : List α} (hO : Owns w' base e s'.val (L i ++ news)) (hA : Appd w w' (V i).val s'.val) :
    FlatI w0 w' base e e2 N V L N (upd G i s') (upd M i (L i ++ news)) bl vls lsl vgs gsl := by
  have h1 := (h.redo i hi (by omega) N (by omega)).app he i hi (Nat.le_refl N) (s' := s') (news := news) (by rw [upd_at]; exact hO) (by rw [upd_at]; exact hA) (fun _ => by rw [upd_at, List.take_length])
  rwa [upd_upd, upd_upd, upd_at] at h1
theorem upd_set {β : Type} {l : List β} {k N : Nat} {G : Nat → β} {s : β} (h : ∀ j, j < N → l[j]? = some (G j)) (hk : k < l.length) : ∀ j, j < N → (l.set k s)[j]? = some (upd G k s j) := fun j hj => by
  by_cases he : j = k
  · subst he; rw [upd_at]; simp [hk]
  · rw [upd_ne _ _ he, List.getElem?_set_ne (fun e => he e.symm)]; exact h j hj
/-- What has grown by many begins as it did. -/
def Again {α : Type} (ns : Nat → Nat) (mk : Int → Int → α) (M : Nat → List α) (k : Nat) : Prop := ∀ j, j < k → ∀ i, i < ns j → (M j)[i]? = some (mk (j : Int) (i : Int))
theorem marks_at {α : Type} (mk : Int → Int → α) (r : Int) {n i : Nat} (h : i < n) : (marks mk r n)[i]? = some (mk r (i : Int)) := by
  rw [List.getElem?_eq_getElem (by rw [marks_length]; exact h), marks_get]
theorem Again.step {α : Type} {ns : Nat → Nat} {mk : Int → Int → α} {M : Nat → List α} {k : Nat} (h : Again ns mk M k) {l news : List α} (hl : l = marks mk (k : Int) (ns k)) : Again ns mk (upd M k (l ++ news)) (k + 1) := fun j hj i hi => by
  by_cases he : j = k
  · subst he
    rw [upd_at, hl, List.getElem?_append_left (by rw [marks_length]; exact hi)]
    exact marks_at mk _ hi
  · rw [upd_ne _ _ he]; exact h j (by omega) i hi
/-- What has grown out of the first k rows: s more marks each; of the k-th n. -/
def Gro {α : Type} (ns : Nat → Nat) (mk : Int → Int → α) (M : Nat → List α) (k n : Nat) : Prop := (∀ i, i < k → M i = marks mk (i : Int) (ns i + 64)) ∧ M k = marks mk (k : Int) (ns k + n)
theorem Gro.app {α : Type} {ns : Nat → Nat} {mk : Int → Int → α} {M : Nat → List α} {k n : Nat} (h : Gro ns mk M k n) : Gro ns mk (upd M k (M k ++ [mk (k : Int) ((ns k : Int) + (n : Int))])) k (n + 1) := by
  refine ⟨fun i hi => by rw [upd_ne _ _ (by omega)]; exact h.1 i hi, ?_⟩
  rw [upd_at, h.2, ← Nat.add_assoc, marks_succ]
  simp
theorem Gro.start {α : Type} {ns : Nat → Nat} {mk : Int → Int → α} {M : Nat → List α} {k : Nat} {l : List α} (h : ∀ i, i < k → M i = marks mk (i : Int) (ns i + 64)) (hl : l = marks mk (k : Int) (ns k)) : Gro ns mk (upd M k l) k 0 :=
  ⟨fun i hi => by rw [upd_ne _ _ (by omega)]; exact h i hi, by rw [upd_at, hl]; rfl⟩
theorem Gro.done {α : Type} {ns : Nat → Nat} {mk : Int → Int → α} {M : Nat → List α} {k : Nat} (h : Gro ns mk M k 64) : ∀ i, i < k + 1 → M i = marks mk (i : Int) (ns i + 64) := fun i hi => by
  by_cases he : i = k
  · subst he; exact h.2
  · exact h.1 i (by omega)
theorem eq_of_index {α : Type} {L : List α} {l2 : List α} {n : Nat} (h : L = l2) (h1 : n < L.length) (h2 : n < l2.length) : L[n] = l2[n] := by subst h; rfl
end Go.Pb

/- The counts of keys: their comparison, their sort, the row of sums that are not 0. -/
import Derived.Test.YteablbficakfcaaShelf
import Derived.Test.YteablbficakfcaaRow
import Derived.Test.YteablbficakfcaaSortItems
import Derived.Test.YteablbficakfcaaIndexB
import Derived.Test.YteablbficakfcaaItemCmp
import Derived.Test.YteablbficakfcaaSortW
import Derived.Test.YteablbficakfcaaFill
set_option linter.unusedVariables false
set_option linter.unusedSimpArgs false
set_option linter.unusedSectionVars false
namespace Go.Pb
open Go.RowKit Go.Proofs Go.BigFrame Go.Sort Go.Shelf

theorem count_keyAt {w : World} {b o : Nat} {i : Count} (h : w.rangeAt b o (Enc.enc i)) : w.rangeAt b o (Enc.enc i.key) := by
  have hl : (encKey i.key).length = 32 := encKey_len _
  have := range_sub h 0 32
  have e : ((Enc.enc i).drop 0).take 32 = Enc.enc i.key := by
    show ((encCount i).drop 0).take 32 = encKey i.key
    simp [encCount, hl]
  rwa [e] at this
theorem count_refsAt {w : World} {b o : Nat} {i : Count} (h : w.rangeAt b o (Enc.enc i)) : w.cell? ⟨b, o + 32, none⟩ = some (.int .i64 i.refs) := by
  refine h 32 _ ?_
  show (encCount i)[32]? = _
  simp [encCount, encKey_len, List.getElem?_append, intV]
theorem countCmp_ok (a b : Count) (w : World) : Calls Try.prog 59 #[agg a, agg b] w fun e w' => e = .returned (.int .i64 (kcmp a.key b.key)) ∧ ∃ q os', w' = Go.Sort.grow (w.drewN q) os' := by
  generalize hW : (w.alloc (.cells (Enc.enc a).toArray 45)).alloc (.cells (Enc.enc b).toArray 45) = W
  have h1 : W.rangeAt w.heap.size 0 (Enc.enc a.key) := by
    subst hW
    have := count_keyAt (range_block (heap_alloc_new w (.cells (Enc.enc a).toArray 45)))
    exact range_fresh this (fresh_alloc (fresh_refl _) _)
  have h2 : W.rangeAt (w.heap.size + 1) 0 (Enc.enc b.key) := by
    subst hW
    exact count_keyAt (range_block (heap_alloc2_new w _ (.cells (Enc.enc b).toArray 45)))
  have HW := Lib.hid hW
  clear hW
  go_enter Try.func59, Try.ntmps59
  go_wp2_with (first
    | (refine st_val rfl (run_box 45 _ a rfl rfl) ?_)
    | (refine st_val rfl (run_box 45 _ b rfl rfl) ?_; rw [HW.out]))
  refine wp_region_quiet_lit (by kernel_rfl) (by kernel_rfl) ?_
  first | go_big_quiet_step (fail) | (refine sq_val (v := ?_) (by rfl) ?_ ?_; rotate_left; (focus (rintro w' ⟨x, rfl⟩; go_simp; try with_reducible rfl)); simp only [Act.put, List.setIfInBounds_toArray, List.set_cons_succ, List.set_cons_zero])
  first | go_big_quiet_step (fail) | (refine sq_val (v := ?_) (by rfl) ?_ ?_; rotate_left; (focus (rintro w' ⟨x, rfl⟩; go_simp; try with_reducible rfl)); simp only [Act.put, List.setIfInBounds_toArray, List.set_cons_succ, List.set_cons_zero])
  first | go_big_quiet_step (fail) | (refine sq_val (v := ?_) (by rfl) ?_ ?_; rotate_left; (focus (rintro w' ⟨x, rfl⟩; go_simp; try with_reducible rfl)); simp only [Act.put, List.setIfInBounds_toArray, List.set_cons_succ, List.set_cons_zero])
  first | go_big_quiet_step (fail) | (refine sq_val (v := ?_) (by rfl) ?_ ?_; rotate_left; (focus (rintro w' ⟨x, rfl⟩; go_simp; try with_reducible rfl)); simp only [Act.put, List.setIfInBounds_toArray, List.set_cons_succ, List.set_cons_zero])
  refine sq_call (by rfl) 49 [.tmp 6, .tmp 8] _ rfl [.slice (some ⟨w.heap.size, 0, none⟩) 32 32, .slice (some ⟨w.heap.size + 1, 0, none⟩) 32 32] rfl enter_compare (fun w' hw' => (bytesCompare_ok a.key b.key _ _ _ _ _ _ w' (by obtain ⟨n, rfl⟩ := hw'; exact h1) (by obtain ⟨n, rfl⟩ := hw'; exact h2)).mono (fun _ _ h => ⟨h.1, by rw [← h.2]; exact hw'⟩)) ?_
  simp only [Act.put, List.setIfInBounds_toArray, List.set_cons_succ, List.set_cons_zero]
  first | go_big_quiet_step (fail) | (refine sq_val (v := ?_) (by rfl) ?_ ?_; rotate_left; (focus (rintro w' ⟨x, rfl⟩; go_simp; try with_reducible rfl)); simp only [Act.put, List.setIfInBounds_toArray, List.set_cons_succ, List.set_cons_zero])
  refine wpQuiet_nil ?_
  intro _ hw'
  obtain ⟨nq, hw''⟩ := hw'
  subst hw''
  go_wp2
  go_ret
  refine ⟨rfl, nq, #[.cells (Enc.enc a).toArray 45] ++ #[.cells (Enc.enc b).toArray 45], ?_⟩
  rw [← HW.out, Go.Sort.alloc_eq_grow, Go.Sort.alloc_eq_grow, Go.Sort.grow_grow]
  rfl
theorem enter_countCmp (args : Array Value) (w : World) : (callFunc 59 args).run Try.prog w = .ok (.enter 59 args) w := run_enter Try.func59 (by kernel_rfl) rfl args w
theorem agg_count (w : World) : (isAgg 45).run Try.prog w = .ok true w := by
  unfold isAgg
  rw [Sem.run_bind, run_underlying Try.underlying45 w]
  simp
theorem size_count (w : World) : (Go.sizeOf 45).run Try.prog w = .ok 33 w := by
  obtain ⟨i, hi, hs⟩ := Option.map_eq_some_iff.1 s45
  simp [Go.sizeOf, typeInfo, hi, hs]
theorem sortCounts_ok (w : World) (base : Nat) (v : Value) (l : List Count) (hO : Owns w base 45 v l) (hl : l.length ≤ 1000000000) :
    Calls Try.prog 58 #[v, .func (.func 59) #[] #[]] w fun e w' => e = .returned (.tuple #[]) ∧ ∃ l', l'.Perm l ∧ l'.Pairwise (fun a b => klt b.key a.key = false) ∧ Owns w' base 45 v l' ∧ Keep (fun k => some k = v.ownBlock) w w' := by
  rcases hO.2 with ⟨rfl, hn⟩ | ⟨g, cap, cur, rfl, hb, hg, hcap, hmax, hcs, htk⟩
  · have hnil : l = [] := List.eq_nil_of_length_eq_zero hn
    subst hnil
    have hcon := AnyF.slices_SortFunc_none Try.sortCount none 0 (.func (.func 59) #[] #[]) w
    refine Calls.mono hcon ?_
    rintro e w' ⟨rfl, rfl⟩
    exact ⟨rfl, [], List.Perm.refl _, List.Pairwise.nil, hO, Keep.refl _⟩
  · have hr : w.rangeAt g 0 (flat l) := by
      have h1 := range_sub (range_block hg) 0 (l.length * Enc.sz Count)
      rw [List.drop_zero, htk] at h1
      exact h1
    have hH := holdsK_of hr (frozen_of_block hg)
    have hcmp : CmpLays Try.prog 59 #[] (Enc.enc (α := Count)) 33 (fun a b : Count => kcmp a.key b.key) g 0 l.toArray.size w := fun m os dk hdk x y => countCmp_ok x y _
    have hcon := AnyQ.slices_SortFunc Try.sortCount 33 agg_count size_count (Enc.enc (α := Count)) Enc.len Enc.one (fun a b : Count => kcmp a.key b.key) (keySWO (fun i : Count => i.key)) 59 #[] g 0 cap l.toArray w enter_countCmp hcmp hH (Array.getElem?_eq_some_iff.1 hg).1 (by simp; omega)
    rw [List.size_toArray] at hcon
    refine Calls.mono hcon ?_
    rintro e w' ⟨rfl, d', n, os, hp, hs, rfl⟩
    obtain ⟨h1, h2⟩ := sorted_list (l := l) (by simpa using hp) (by simpa using hs)
    refine ⟨rfl, d'.toList, h1, h2, ?_, ?_⟩
    · have := sortW_owns hO (l' := d'.toList) h1.length_eq n os
      rw [h1.length_eq] at this
      exact this
    · exact (sortW_keep w g 0 n d' os).mono (fun k _ hk => by rw [hk]; rfl)

def countOf (p : Key × Int) : Count := ⟨p.1, p.2⟩
def nzB (p : Key × Int) : Bool := !decide (p.2 = 0)
theorem build_count {o : Oper} {ρ : Operand → Value} {w : World} {x y : Operand} (k : Key) (n : Int) (ho : o.op = .build 45 #[(0, x), (1, y)]) (hx : ρ x = agg k) (hy : ρ y = .int .i64 n) :
    (execOp ρ o).run Try.prog w = .ok (.value (agg (countOf (k, n)))) w :=
  run_build _ _ ho _ Try.underlying45 Count.zero _ zero45 _ (places45 _ Try.underlying45) (by
    rw [show ((#[(0, x), (1, y)].map fun (p : Nat × Operand) => (p.1, ρ p.2)).toList) = [(0, agg k), (1, .int .i64 n)] by simp [hx, hy]]
    rw [fill_enc _ Count.zero _ 0 0 32 _ (Enc.enc k) _ rfl rfl (Enc.len k) (by decide) (set_count_key _ _), fill_enc _ _ _ 1 32 1 _ [intV n] _ rfl rfl rfl (by decide) (set_count_refs _ _), fill_nil]
    rfl)
/-- The counts so far and those to come are all. -/
def RowSo (m left : List (Key × Int)) (l : List Count) : Prop := (l ++ (left.filter nzB).map countOf).Perm ((m.filter nzB).map countOf) ∧ Apart left ∧ l.length + left.length ≤ m.length
theorem RowSo.start {m : List (Key × Int)} (h : Apart m) : RowSo m m [] := ⟨List.Perm.refl _, h, by simp⟩
theorem RowSo.step {m left : List (Key × Int)} {l : List Count} (h : RowSo m left l) {x : Key} {n : Int} (hm : (x, n) ∈ left) (hn : n ≠ 0) : RowSo m (del left x) (l ++ [countOf (x, n)]) := by
  have hp := perm_del h.2.1 hm
  refine ⟨?_, del_apart h.2.1 x, ?_⟩
  · refine List.Perm.trans ?_ h.1
    rw [List.append_assoc]
    refine List.Perm.append_left l ?_
    have h1 := (hp.filter nzB).map countOf
    rw [List.filter_cons, if_pos (by simp [nzB, hn])] at h1
    exact h1.symm
  · have h1 := hp.length_eq
    have h2 := h.2.2
    simp only [List.length_cons, List.length_append, List.length_nil] at h1 ⊢
    omega
theorem RowSo.skip {m left : List (Key × Int)} {l : List Count} (h : RowSo m left l) {x : Key} {n : Int} (hm : (x, n) ∈ left) (hn : n = 0) : RowSo m (del left x) l := by
  have hp := perm_del h.2.1 hm
  refine ⟨?_, del_apart h.2.1 x, ?_⟩
  · refine List.Perm.trans ?_ h.1
    refine List.Perm.append_left l ?_
    have h1 := (hp.filter nzB).map countOf
    rw [List.filter_cons, if_neg (by simp [nzB, hn])] at h1
    exact h1.symm
  · have h1 := hp.length_eq
    have h2 := h.2.2
    simp only [List.length_cons] at h1 ⊢
    omega
end Go.Pb

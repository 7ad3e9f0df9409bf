/- What is handed in: a list with marks behind its end; is all still as it was? -/
import Derived.Test.YteablbficakfcaaFlatT
import Derived.Test.YteablbficakfcaaFlatL
import Derived.Test.YteablbficakfcaaOps
import Derived.Test.YteablbficakfcaaSame
set_option linter.unusedVariables false
set_option linter.unusedSimpArgs false
set_option linter.unusedSectionVars false
namespace Go.Pb
open Go.RowKit Go.Proofs Go.BigFrame

section
variable {P : Program} {ops : Array Oper} {rest : List Oper} {o : Oper} {a : Act} {w : World} {Q : Exit → Act → World → Prop} {α : Type} [Enc α]
/-- append within the capacity: the value is known; elements of one cell too. -/
theorem st_appfit (base : Nat) (hw : Region.wanted o (yielded ops a.tmps) = true) (s x : Operand) (t e : TypeId) (ho : o.op = .call { callee := .builtin .append, args := #[s, x], argTypes := #[t, t] })
    (ht : P.underlying t = some (.slice e)) (hinfo : (P.info? e).map (·.size) = some (Enc.sz α))
    {g n cap : Nat} (l news : List α) {A : Option Addr} {c : Nat} (hs : a.eval s = .slice (some ⟨g, 0, none⟩) n cap) (hn : n = l.length) (hx : a.eval x = .slice A news.length c) (H : Owns w base e (.slice (some ⟨g, 0, none⟩) n cap) l) (HN : Reads w A news)
    (hfit : n + news.length ≤ cap)
    (h : ∀ w', Owns w' base e (.slice (some ⟨g, 0, none⟩) (n + news.length) cap) (l ++ news) → w.grownBy w' (some g) → wpList P ops Q rest (a.put o.dst (.slice (some ⟨g, 0, none⟩) (n + news.length) cap)) w') : wpList P ops Q (o :: rest) a w := by
  subst hn
  obtain ⟨i0, hi, hz1⟩ := Option.map_eq_some_iff.1 hinfo
  have hrun : ∃ w', (Builtin.append_ #[t, t] o.type #[.slice (some ⟨g, 0, none⟩) l.length cap, .slice A news.length c]).run P w = .ok (.slice (some ⟨g, 0, none⟩) (l.length + news.length) cap) w' ∧ Owns w' base e (.slice (some ⟨g, 0, none⟩) (l.length + news.length) cap) (l ++ news) ∧ w.grownBy w' (some g) := by
    by_cases hne : news = []
    · subst hne
      rcases A with _ | ad
      · refine ⟨w, ?_, by simpa using H, World.grownBy.refl w _⟩
        simp [Builtin.append_, run_underlying ht, sizeOf, typeInfo, hi, Builtin.lenOf, Builtin.firstCells, storeCells]
        intro hc
        simp at hfit
        omega
      · obtain ⟨w', hr, h2, h3⟩ := run_append_fits (P := P) w base t o.type e i0 (Enc.sz α) ht hi hz1 g l.length cap (flat l) H ad 0 c [] (by simp) (by simp) (by simp) (by simpa using hfit)
        exact ⟨w', hr, by simpa [Owns] using h2, h3⟩
    · obtain ⟨b, f, rfl, hr0⟩ := HN hne
      obtain ⟨w', hr, h2, h3⟩ := run_append_fits (P := P) w base t o.type e i0 (Enc.sz α) ht hi hz1 g l.length cap (flat l) H ⟨b, f, none⟩ news.length c (flat news) (flat_length news) (range_add hr0) (flat_one news) hfit
      exact ⟨w', hr, by simpa [Owns, flat_append] using h2, h3⟩
  obtain ⟨w', hr, hown, hg⟩ := hrun
  refine BigFrame.wpList_want hw fun K hK => ?_
  unfold Oper.wp execOp
  simp only [ho, resolve, invoke, builtin, Sem.run_bind, Sem.run_pure, Result.andThen_ok, List.map_toArray, List.map_cons, List.map_nil, hs, hx, hr]
  exact hK _ _ (h w' hown hg)
end
theorem int_cast_add (a b : Nat) : Value.int .i64 ((a : Int) + (b : Int)) = Value.int .i64 ((a + b : Nat) : Int) := by rw [Int.natCast_add]
theorem lent_get1 {α : Type} {l : List α} {mk : Int → Int → α} {n : Nat} (h : n < l.length) : (l ++ marks mk 1 12)[n]? = some l[n] := by
  rw [List.getElem?_append_left h, List.getElem?_eq_getElem h]
theorem lent_get2 {α : Type} {l : List α} {mk : Int → Int → α} {n m : Nat} (h : ¬ n < l.length) (hm : m = l.length + 12) (hn : n < m) : (l ++ marks mk 1 12)[n]? = some (mk 1 ((n : Int) - (l.length : Int))) := by
  rw [List.getElem?_append_right (by omega), marks_at mk 1 (by omega)]
  congr 2
  omega
/-- What is handed in, and the marks behind it. -/
def Lent {α : Type} [Enc α] (mk : Int → Int → α) (w : World) (base : Nat) (e : TypeId) (g : Nat) (l : List α) : Prop := Owns w base e (.slice (some ⟨g, 0, none⟩) (l.length + 12) (l.length + 12)) (l ++ marks mk 1 12)
theorem Lent.fresh {α : Type} [Enc α] {mk : Int → Int → α} {w w' : World} {base : Nat} {e : TypeId} {g : Nat} {l : List α} (h : Lent mk w base e g l) (hb : Below w.heap.size w w') : Lent mk w' base e g l := Owns.fresh h hb
theorem Lent.reads {α : Type} [Enc α] {mk : Int → Int → α} {w : World} {base : Nat} {e : TypeId} {g : Nat} {l : List α} (h : Lent mk w base e g l) : Reads w (some ⟨g, 0, none⟩) l := by
  obtain ⟨A, c, hv, hR, _⟩ := Owns.shape h
  simp only [Value.slice.injEq] at hv
  obtain ⟨rfl, _, _⟩ := hv
  have := hR.take l.length
  rwa [List.take_left] at this

theorem sz_count : (Try.prog.info? 45).map (·.size) = some (Enc.sz Count) := by kernel_rfl
set_option maxHeartbeats 1000000 in
theorem lentCounts_ok (A : Option Addr) (c : Nat) (l : List Count) (w : World) (hA : Reads w A l) (hlen : l.length ≤ 100000) : Calls Try.prog 18 #[.slice A l.length c] w fun e w' =>
    ∃ g, e = .returned (.slice (some ⟨g, 0, none⟩) l.length (l.length + 12)) ∧ Lent markC w' w.heap.size 45 g l ∧ Below w.heap.size w w' := by
  obtain ⟨m, hm⟩ : ∃ m, m = l.length + 12 := ⟨_, rfl⟩
  obtain ⟨r, hr⟩ : ∃ r, r = (flat (List.replicate m (Count.zero : Count))).toArray := ⟨_, rfl⟩
  have hO0 := Owns.made w w.heap.size 45 (Count.zero : Count) 0 m (Nat.le_refl _) (by unfold maxLen; omega) (by omega)
  rw [← hr, List.replicate_zero] at hO0
  have hb0 : Below w.heap.size w (w.alloc (.cells r 45)) := fresh_alloc (fresh_refl w) _
  have hA0 := hA.fresh hb0
  have hm2 : Value.int .i64 ((l.length : Int) + 12) = Value.int .i64 (m : Int) := by rw [hm]; exact int_cast_add l.length 12
  have hmle : m ≤ 100012 := by omega
  have hlm : l.length + 12 = m := hm.symm
  have hfit0 : 0 + l.length ≤ m := by omega
  have HR := Lib.hid hr
  clear hr
  have HM := Lib.hid hm
  clear hm
  have HM2 := Lib.hid hm2
  clear hm2
  have HLM := Lib.hid hlm
  clear hlm
  go_enter Try.func18, Try.ntmps18
  go_wp2_with (first
    | (refine st_val rfl (make2_count rfl 0 m rfl HM2.out (by omega) (by omega) r HR.out) ?_)
    | (at_builtin; refine st_appfit w.heap.size rfl _ _ 25 45 rfl Try.underlying25 sz_count [] l rfl rfl rfl hO0 hA0 hfit0 (fun w1 hO1 hg1 => ?_)))
  rw [Nat.zero_add, List.nil_append] at hO1
  have hb1 := fresh_grown hb0 hg1 (fun k hk => by injection hk with hk; omega)
  clear hO0 hb0 hA0 hg1
  obtain ⟨g, hg⟩ : ∃ g, g = w.heap.size := ⟨_, rfl⟩
  rw [← hg] at hO1 ⊢
  have hgw : w.heap.size ≤ g := by omega
  have hO2 : Owns w1 g 45 (.slice (some ⟨g, 0, none⟩) (l.length + 0) m) (l ++ marks markC 1 0) := by rw [marks_zero, List.append_nil]; exact hO1
  clear hg hO1
  go_loopw [3, 4] (fun v i wr => ∃ (n : Nat), n ≤ 12 ∧ i = .int .i64 n ∧ v = .slice (some ⟨g, 0, none⟩) (l.length + n) m ∧ Owns wr g 45 (.slice (some ⟨g, 0, none⟩) (l.length + n) m) (l ++ marks markC 1 n) ∧ Below w.heap.size w wr) (fun _ i _ => 12 - (RowKit.intOf i).toNat)
  case atStart => exact ⟨0, by omega, rfl, rfl, hO2, hb1⟩
  case round =>
    clear hO2 hb1
    obtain ⟨n, hn, rfl, rfl, hO, hb⟩ := hrel
    by_cases hlt : n < 12
    · have hll : (l ++ marks markC 1 n).length = l.length + n := by rw [List.length_append, marks_length]
      have hfit : l.length + n + 1 ≤ m := by have := HLM.out; omega
      have HLL := Lib.hid hll
      clear hll
      go_wp2_with (fail)
      refine (markcount_ok 1 (n : Int) _ (by omega) (by omega) (by omega) (by omega)).mono ?_
      rintro e u ⟨rfl, hbu⟩
      have hbu2 := fresh_trans hb hbu
      have hOu := (hO.fresh hbu).alloc (.cells (Enc.enc (markC 1 (n : Int))).toArray 45)
      have hRu : Reads (u.alloc (.cells (Enc.enc (markC 1 (n : Int))).toArray 45)) (some ⟨u.heap.size, 0, none⟩) [markC 1 (n : Int)] := fun _ => ⟨_, _, rfl, by
        have := range_block (heap_alloc_new u (.cells (Enc.enc (markC 1 (n : Int))).toArray 45))
        simpa [flat_single] using this⟩
      have hb3 := fresh_alloc hbu2 (.cells (Enc.enc (markC 1 (n : Int))).toArray 45)
      clear hO hb hbu hbu2
      go_wp2_with (first
        | (refine st_val rfl (row1_count rfl (markC 1 (n : Int)) rfl) ?_)
        | (at_builtin; refine st_appfit g rfl _ _ 25 45 rfl Try.underlying25 sz_count (l ++ marks markC 1 n) [markC 1 (n : Int)] (c := 1) rfl HLL.out.symm rfl hOu hRu hfit (fun w2 hO2 hg2 => ?_)))
      have hb4 := fresh_grown hb3 hg2 (fun k hk => by injection hk with hk; omega)
      have hO3 : Owns w2 g 45 (.slice (some ⟨g, 0, none⟩) (l.length + (n + 1)) m) (l ++ marks markC 1 (n + 1)) := by rw [marks_succ, ← List.append_assoc]; exact hO2
      clear hOu hRu hb3 hO2 hg2
      go_roundw
      case rel => exact ⟨n + 1, by omega, by go_num, rfl, hO3, hb4⟩
      case measure => simp [RowKit.intOf]; omega
    · have hn12 : n = 12 := by omega
      rw [hn12] at hO
      have hlm2 : l.length ≤ m := by have := HLM.out; omega
      have hO4 : Lent markC wr w.heap.size 45 g l := by unfold Lent; rw [HLM.out] at hO ⊢; exact hO.lower hgw
      have HN12 := Lib.hid hn12
      clear hn12
      clear hO
      go_wp2_with (refine st_val rfl (op_slice_to 25 45 _ _ rfl Try.underlying25 (Enc.sz Count) sz_count rfl l.length rfl hlm2 (fun a ha => by injection ha with ha; subst ha; rfl)) ?_)
      go_ret
      exact ⟨g, by rw [HLM.out]; rfl, hO4, hb⟩
theorem sz_item : (Try.prog.info? 42).map (·.size) = some (Enc.sz Item) := by kernel_rfl
set_option maxHeartbeats 1000000 in
theorem lentItems_ok (A : Option Addr) (c : Nat) (l : List Item) (w : World) (hA : Reads w A l) (hlen : l.length ≤ 100000) : Calls Try.prog 12 #[.slice A l.length c] w fun e w' =>
    ∃ g, e = .returned (.slice (some ⟨g, 0, none⟩) l.length (l.length + 12)) ∧ Lent markIt w' w.heap.size 42 g l ∧ Below w.heap.size w w' := by
  obtain ⟨m, hm⟩ : ∃ m, m = l.length + 12 := ⟨_, rfl⟩
  obtain ⟨r, hr⟩ : ∃ r, r = (flat (List.replicate m (Item.zero : Item))).toArray := ⟨_, rfl⟩
  have hO0 := Owns.made w w.heap.size 42 (Item.zero : Item) 0 m (Nat.le_refl _) (by unfold maxLen; omega) (by omega)
  rw [← hr, List.replicate_zero] at hO0
  have hb0 : Below w.heap.size w (w.alloc (.cells r 42)) := fresh_alloc (fresh_refl w) _
  have hA0 := hA.fresh hb0
  have hm2 : Value.int .i64 ((l.length : Int) + 12) = Value.int .i64 (m : Int) := by rw [hm]; exact int_cast_add l.length 12
  have hmle : m ≤ 100012 := by omega
  have hlm : l.length + 12 = m := hm.symm
  have hfit0 : 0 + l.length ≤ m := by omega
  have HR := Lib.hid hr
  clear hr
  have HM := Lib.hid hm
  clear hm
  have HM2 := Lib.hid hm2
  clear hm2
  have HLM := Lib.hid hlm
  clear hlm
  go_enter Try.func12, Try.ntmps12
  go_wp2_with (first
    | (refine st_val rfl (make2_item rfl 0 m rfl HM2.out (by omega) (by omega) r HR.out) ?_)
    | (at_builtin; refine st_appfit w.heap.size rfl _ _ 22 42 rfl Try.underlying22 sz_item [] l rfl rfl rfl hO0 hA0 hfit0 (fun w1 hO1 hg1 => ?_)))
  rw [Nat.zero_add, List.nil_append] at hO1
  have hb1 := fresh_grown hb0 hg1 (fun k hk => by injection hk with hk; omega)
  clear hO0 hb0 hA0 hg1
  obtain ⟨g, hg⟩ : ∃ g, g = w.heap.size := ⟨_, rfl⟩
  rw [← hg] at hO1 ⊢
  have hgw : w.heap.size ≤ g := by omega
  have hO2 : Owns w1 g 42 (.slice (some ⟨g, 0, none⟩) (l.length + 0) m) (l ++ marks markIt 1 0) := by rw [marks_zero, List.append_nil]; exact hO1
  clear hg hO1
  go_loopw [3, 4] (fun v i wr => ∃ (n : Nat), n ≤ 12 ∧ i = .int .i64 n ∧ v = .slice (some ⟨g, 0, none⟩) (l.length + n) m ∧ Owns wr g 42 (.slice (some ⟨g, 0, none⟩) (l.length + n) m) (l ++ marks markIt 1 n) ∧ Below w.heap.size w wr) (fun _ i _ => 12 - (RowKit.intOf i).toNat)
  case atStart => exact ⟨0, by omega, rfl, rfl, hO2, hb1⟩
  case round =>
    clear hO2 hb1
    obtain ⟨n, hn, rfl, rfl, hO, hb⟩ := hrel
    by_cases hlt : n < 12
    · have hll : (l ++ marks markIt 1 n).length = l.length + n := by rw [List.length_append, marks_length]
      have hfit : l.length + n + 1 ≤ m := by have := HLM.out; omega
      have HLL := Lib.hid hll
      clear hll
      go_wp2_with (fail)
      refine (markitem_ok 1 (n : Int) _ (by omega) (by omega) (by omega) (by omega)).mono ?_
      rintro e u ⟨rfl, hbu⟩
      have hbu2 := fresh_trans hb hbu
      have hOu := (hO.fresh hbu).alloc (.cells (Enc.enc (markIt 1 (n : Int))).toArray 42)
      have hRu : Reads (u.alloc (.cells (Enc.enc (markIt 1 (n : Int))).toArray 42)) (some ⟨u.heap.size, 0, none⟩) [markIt 1 (n : Int)] := fun _ => ⟨_, _, rfl, by
        have := range_block (heap_alloc_new u (.cells (Enc.enc (markIt 1 (n : Int))).toArray 42))
        simpa [flat_single] using this⟩
      have hb3 := fresh_alloc hbu2 (.cells (Enc.enc (markIt 1 (n : Int))).toArray 42)
      clear hO hb hbu hbu2
      go_wp2_with (first
        | (refine st_val rfl (row1_item rfl (markIt 1 (n : Int)) rfl) ?_)
        | (at_builtin; refine st_appfit g rfl _ _ 22 42 rfl Try.underlying22 sz_item (l ++ marks markIt 1 n) [markIt 1 (n : Int)] (c := 1) rfl HLL.out.symm rfl hOu hRu hfit (fun w2 hO2 hg2 => ?_)))
      have hb4 := fresh_grown hb3 hg2 (fun k hk => by injection hk with hk; omega)
      have hO3 : Owns w2 g 42 (.slice (some ⟨g, 0, none⟩) (l.length + (n + 1)) m) (l ++ marks markIt 1 (n + 1)) := by rw [marks_succ, ← List.append_assoc]; exact hO2
      clear hOu hRu hb3 hO2 hg2
      go_roundw
      case rel => exact ⟨n + 1, by omega, by go_num, rfl, hO3, hb4⟩
      case measure => simp [RowKit.intOf]; omega
    · have hn12 : n = 12 := by omega
      rw [hn12] at hO
      have hlm2 : l.length ≤ m := by have := HLM.out; omega
      have hO4 : Lent markIt wr w.heap.size 42 g l := by unfold Lent; rw [HLM.out] at hO ⊢; exact hO.lower hgw
      have HN12 := Lib.hid hn12
      clear hn12
      clear hO
      go_wp2_with (refine st_val rfl (op_slice_to 22 42 _ _ rfl Try.underlying22 (Enc.sz Item) sz_item rfl l.length rfl hlm2 (fun a ha => by injection ha with ha; subst ha; rfl)) ?_)
      go_ret
      exact ⟨g, by rw [HLM.out]; rfl, hO4, hb⟩
end Go.Pb
set_option linter.unusedVariables false
set_option linter.unusedSimpArgs false
set_option linter.unusedSectionVars false
namespace Go.Pb
open Go.RowKit Go.Proofs Go.BigFrame

set_option maxRecDepth 100000 in
set_option maxHeartbeats 1000000 in
theorem keptCounts_ok (g : Nat) (A : Option Addr) (c base : Nat) (l : List Count) (w : World) (hO : Lent markC w base 45 g l) (hA : Reads w A l) (hlen : l.length ≤ 100000) : Calls Try.prog 21 #[.slice (some ⟨g, 0, none⟩) l.length (l.length + 12), .slice A l.length c] w fun e w' => e = .returned (.bool true) ∧ Below w.heap.size w w' := by
  obtain ⟨m, hm⟩ : ∃ m, m = l.length + 12 := ⟨_, rfl⟩
  have hm2 : Value.int .i64 ((l.length : Int) + 12) = Value.int .i64 (m : Int) := by rw [hm]; exact int_cast_add l.length 12
  have hmle : m ≤ 100012 := by omega
  have hl0 := int_bne_f (rfl : l.length = l.length)
  unfold Lent at hO
  rw [← hm] at hO ⊢
  have hlm : l.length ≤ m := by omega
  have HM := Lib.hid hm
  clear hm
  have HM2 := Lib.hid hm2
  clear hm2
  go_enter Try.func21, Try.ntmps21
  go_wp2_with (refine st_val rfl (op_slice_to 25 45 (.tmp 12) (.tmp 15) rfl Try.underlying25 (Enc.sz Count) sz_count rfl m HM2.out (Nat.le_refl m) (fun a ha => by injection ha with ha; subst ha; rfl)) ?_)
  go_loopw [6] (fun i wr => ∃ (n : Nat), n ≤ m ∧ i = .int .i64 n ∧ Below w.heap.size w wr) (fun i _ => m - (RowKit.intOf i).toNat)
  case atStart => exact ⟨0, by omega, rfl, fresh_refl w⟩
  case round =>
    obtain ⟨n, hn, rfl, hb⟩ := hrel
    by_cases hlt : n < m
    · by_cases hin : n < l.length
      · have hrO := read_count (k := n) hO (lent_get1 hin)
        obtain ⟨b1, o1, rfl, hr1⟩ := hA.at_n hin 33 rfl
        have hcF : ∀ w', (∃ x : Fr wr, w' = x.1) → w'.rangeAt g (n * 33) (Enc.enc (l[n]'hin)) := by
          rintro _ ⟨x, rfl⟩
          exact range_fresh hrO (fresh_trans hb x.2)
        have hlF : ∀ w', (∃ x : Fr wr, w' = x.1) → w'.rangeAt b1 (o1 + n * 33) (Enc.enc (l[n]'hin)) := by
          rintro _ ⟨x, rfl⟩
          exact range_fresh hr1 (fresh_trans hb x.2)
        clear hrO hr1
        have HCF := Lib.hid hcF
        clear hcF
        have HLF := Lib.hid hlF
        clear hlF
        go_wp2
        refine wp_region_fresh_lit (by kernel_rfl) (by kernel_rfl) ?_
        refine sq_val (by rfl) (fun w' _ => op_move _ (.int .i64 (n : Int)) rfl rfl) ?_
        simp only [Act.put, List.setIfInBounds_toArray, List.set_cons_succ, List.set_cons_zero]
        refine sq_val (by rfl) (fun w' _ => op_move _ (.slice (some ⟨b1, o1, none⟩) l.length c) rfl rfl) ?_
        simp only [Act.put, List.setIfInBounds_toArray, List.set_cons_succ, List.set_cons_zero]
        refine sq_val (by rfl) (fun w' _ => op_lenS _ 25 _ _ (l.length) _ rfl Try.underlying25 rfl) ?_
        simp only [Act.put, List.setIfInBounds_toArray, List.set_cons_succ, List.set_cons_zero]
        refine sq_val (by rfl) (fun w' _ => op_lss64 _ _ _ _ _ _ true rfl rfl rfl (decide_eq_true (by omega))) ?_
        simp only [Act.put, List.setIfInBounds_toArray, List.set_cons_succ, List.set_cons_zero]
        refine sq_val (by rfl) (fun w' _ => op_move _ (.bool true) rfl rfl) ?_
        simp only [Act.put, List.setIfInBounds_toArray, List.set_cons_succ, List.set_cons_zero]
        refine sq_val (by rfl) (fun w' _ => op_move _ (.slice (some ⟨g, 0, none⟩) m m) rfl rfl) ?_
        simp only [Act.put, List.setIfInBounds_toArray, List.set_cons_succ, List.set_cons_zero]
        refine sq_val (by rfl) (fun w' _ => op_move _ (.int .i64 (n : Int)) rfl rfl) ?_
        simp only [Act.put, List.setIfInBounds_toArray, List.set_cons_succ, List.set_cons_zero]
        refine sq_val (by rfl) (fun w' hw' => elem0_count rfl rfl rfl hlt) ?_
        simp only [Act.put, List.setIfInBounds_toArray, List.set_cons_succ, List.set_cons_zero]
        refine sq_val (by rfl) (fun w' hw' => load_count rfl rfl (l[n]'hin) (HCF.out w' hw')) ?_
        simp only [Act.put, List.setIfInBounds_toArray, List.set_cons_succ, List.set_cons_zero]
        refine sq_val (by rfl) (fun w' _ => op_move _ (.slice (some ⟨b1, o1, none⟩) l.length c) rfl rfl) ?_
        simp only [Act.put, List.setIfInBounds_toArray, List.set_cons_succ, List.set_cons_zero]
        refine sq_val (by rfl) (fun w' _ => op_move _ (.int .i64 (n : Int)) rfl rfl) ?_
        simp only [Act.put, List.setIfInBounds_toArray, List.set_cons_succ, List.set_cons_zero]
        refine sq_val (by rfl) (fun w' hw' => elem_count rfl rfl rfl hin) ?_
        simp only [Act.put, List.setIfInBounds_toArray, List.set_cons_succ, List.set_cons_zero]
        refine sq_val (by rfl) (fun w' hw' => load_count rfl rfl (l[n]'hin) (HLF.out w' hw')) ?_
        simp only [Act.put, List.setIfInBounds_toArray, List.set_cons_succ, List.set_cons_zero]
        refine sq_val (by rfl) (fun w' hw' => eql_count_t rfl rfl rfl rfl) ?_
        simp only [Act.put, List.setIfInBounds_toArray, List.set_cons_succ, List.set_cons_zero]
        refine sq_val (by rfl) (fun w' _ => op_not _ _ true false rfl rfl rfl) ?_
        simp only [Act.put, List.setIfInBounds_toArray, List.set_cons_succ, List.set_cons_zero]
        refine sq_val (by rfl) (fun w' _ => op_pick_t _ _ _ (.bool false) rfl rfl rfl) ?_
        simp only [Act.put, List.setIfInBounds_toArray, List.set_cons_succ, List.set_cons_zero]
        refine sq_val (by rfl) (fun w' _ => op_move _ (.bool false) rfl rfl) ?_
        simp only [Act.put, List.setIfInBounds_toArray, List.set_cons_succ, List.set_cons_zero]
        refine sq_val (by rfl) (fun w' _ => op_move _ (.int .i64 (n : Int)) rfl rfl) ?_
        simp only [Act.put, List.setIfInBounds_toArray, List.set_cons_succ, List.set_cons_zero]
        refine sq_val (by rfl) (fun w' _ => op_move _ (.slice (some ⟨b1, o1, none⟩) l.length c) rfl rfl) ?_
        simp only [Act.put, List.setIfInBounds_toArray, List.set_cons_succ, List.set_cons_zero]
        refine sq_val (by rfl) (fun w' _ => op_lenS _ 25 _ _ (l.length) _ rfl Try.underlying25 rfl) ?_
        simp only [Act.put, List.setIfInBounds_toArray, List.set_cons_succ, List.set_cons_zero]
        refine sq_val (by rfl) (fun w' _ => op_geq64 _ _ _ _ _ _ false rfl rfl rfl (decide_eq_false (by omega))) ?_
        simp only [Act.put, List.setIfInBounds_toArray, List.set_cons_succ, List.set_cons_zero]
        refine sq_val (by rfl) (fun w' _ => op_move _ (.bool false) rfl rfl) ?_
        simp only [Act.put, List.setIfInBounds_toArray, List.set_cons_succ, List.set_cons_zero]
        go_big_quiet_skip
        go_big_quiet_skip
        go_big_quiet_skip
        go_big_quiet_skip
        go_big_quiet_skip
        go_big_quiet_skip
        go_big_quiet_skip
        go_big_quiet_skip
        go_big_quiet_skip
        go_big_quiet_skip
        go_big_quiet_skip
        refine sq_val (by rfl) (fun w' _ => op_pick_f _ _ _ (.bool false) rfl rfl rfl) ?_
        simp only [Act.put, List.setIfInBounds_toArray, List.set_cons_succ, List.set_cons_zero]
        refine sq_val (by rfl) (fun w' _ => op_pick_f _ _ _ (.bool false) rfl rfl rfl) ?_
        simp only [Act.put, List.setIfInBounds_toArray, List.set_cons_succ, List.set_cons_zero]
        refine wpQuiet_nil ?_
        rintro _ ⟨x1, rfl⟩
        have hb2 := fresh_trans hb x1.2
        clear hb
        go_wp2
        go_roundw
        case rel => exact ⟨n + 1, by omega, by go_num, hb2⟩
        case measure => simp [RowKit.intOf]; omega
      · have hrO := read_count (k := n) hO (lent_get2 hin HM.out hlt)
        obtain ⟨d, hd⟩ : ∃ d : Int, d = (n : Int) - (l.length : Int) := ⟨_, rfl⟩
        have hd0 : 0 ≤ d := by omega
        have hd1 : d ≤ 12 := by have := HM.out; omega
        rw [← hd] at hrO
        have hcF : ∀ w', (∃ x : Fr wr, w' = x.1) → w'.rangeAt g (n * 33) (Enc.enc (markC 1 d)) := by
          rintro _ ⟨x, rfl⟩
          exact range_fresh hrO (fresh_trans hb x.2)
        have hsub : IntKind.i64.wrap ((n : Int) - (l.length : Int)) = d := by rw [← hd]; exact wrap_in (by omega) (by omega)
        have HD := Lib.hid hd
        clear hd
        clear hrO
        have HCF := Lib.hid hcF
        clear hcF
        have HSUB := Lib.hid hsub
        clear hsub
        go_wp2
        refine wp_region_fresh_lit (by kernel_rfl) (by kernel_rfl) ?_
        refine sq_val (by rfl) (fun w' _ => op_move _ (.int .i64 (n : Int)) rfl rfl) ?_
        simp only [Act.put, List.setIfInBounds_toArray, List.set_cons_succ, List.set_cons_zero]
        refine sq_val (by rfl) (fun w' _ => op_move _ (.slice A l.length c) rfl rfl) ?_
        simp only [Act.put, List.setIfInBounds_toArray, List.set_cons_succ, List.set_cons_zero]
        refine sq_val (by rfl) (fun w' _ => op_lenS _ 25 _ _ (l.length) _ rfl Try.underlying25 rfl) ?_
        simp only [Act.put, List.setIfInBounds_toArray, List.set_cons_succ, List.set_cons_zero]
        refine sq_val (by rfl) (fun w' _ => op_lss64 _ _ _ _ _ _ false rfl rfl rfl (decide_eq_false (by omega))) ?_
        simp only [Act.put, List.setIfInBounds_toArray, List.set_cons_succ, List.set_cons_zero]
        refine sq_val (by rfl) (fun w' _ => op_move _ (.bool false) rfl rfl) ?_
        simp only [Act.put, List.setIfInBounds_toArray, List.set_cons_succ, List.set_cons_zero]
        go_big_quiet_skip
        go_big_quiet_skip
        go_big_quiet_skip
        go_big_quiet_skip
        go_big_quiet_skip
        go_big_quiet_skip
        go_big_quiet_skip
        go_big_quiet_skip
        go_big_quiet_skip
        go_big_quiet_skip
        refine sq_val (by rfl) (fun w' _ => op_pick_f _ _ _ (.bool false) rfl rfl rfl) ?_
        simp only [Act.put, List.setIfInBounds_toArray, List.set_cons_succ, List.set_cons_zero]
        refine sq_val (by rfl) (fun w' _ => op_move _ (.bool false) rfl rfl) ?_
        simp only [Act.put, List.setIfInBounds_toArray, List.set_cons_succ, List.set_cons_zero]
        refine sq_val (by rfl) (fun w' _ => op_move _ (.int .i64 (n : Int)) rfl rfl) ?_
        simp only [Act.put, List.setIfInBounds_toArray, List.set_cons_succ, List.set_cons_zero]
        refine sq_val (by rfl) (fun w' _ => op_move _ (.slice A l.length c) rfl rfl) ?_
        simp only [Act.put, List.setIfInBounds_toArray, List.set_cons_succ, List.set_cons_zero]
        refine sq_val (by rfl) (fun w' _ => op_lenS _ 25 _ _ (l.length) _ rfl Try.underlying25 rfl) ?_
        simp only [Act.put, List.setIfInBounds_toArray, List.set_cons_succ, List.set_cons_zero]
        refine sq_val (by rfl) (fun w' _ => op_geq64 _ _ _ _ _ _ true rfl rfl rfl (decide_eq_true (by omega))) ?_
        simp only [Act.put, List.setIfInBounds_toArray, List.set_cons_succ, List.set_cons_zero]
        refine sq_val (by rfl) (fun w' _ => op_move _ (.bool true) rfl rfl) ?_
        simp only [Act.put, List.setIfInBounds_toArray, List.set_cons_succ, List.set_cons_zero]
        refine sq_val (by rfl) (fun w' _ => op_move _ (.slice (some ⟨g, 0, none⟩) m m) rfl rfl) ?_
        simp only [Act.put, List.setIfInBounds_toArray, List.set_cons_succ, List.set_cons_zero]
        refine sq_val (by rfl) (fun w' _ => op_move _ (.int .i64 (n : Int)) rfl rfl) ?_
        simp only [Act.put, List.setIfInBounds_toArray, List.set_cons_succ, List.set_cons_zero]
        refine sq_val (by rfl) (fun w' hw' => elem0_count rfl rfl rfl hlt) ?_
        simp only [Act.put, List.setIfInBounds_toArray, List.set_cons_succ, List.set_cons_zero]
        refine sq_val (by rfl) (fun w' hw' => load_count rfl rfl (markC 1 d) (HCF.out w' hw')) ?_
        simp only [Act.put, List.setIfInBounds_toArray, List.set_cons_succ, List.set_cons_zero]
        refine sq_val (by rfl) (fun w' _ => op_move _ (.int .i64 (n : Int)) rfl rfl) ?_
        simp only [Act.put, List.setIfInBounds_toArray, List.set_cons_succ, List.set_cons_zero]
        refine sq_val (by rfl) (fun w' _ => op_move _ (.slice A l.length c) rfl rfl) ?_
        simp only [Act.put, List.setIfInBounds_toArray, List.set_cons_succ, List.set_cons_zero]
        refine sq_val (by rfl) (fun w' _ => op_lenS _ 25 _ _ (l.length) _ rfl Try.underlying25 rfl) ?_
        simp only [Act.put, List.setIfInBounds_toArray, List.set_cons_succ, List.set_cons_zero]
        refine sq_val (by rfl) (fun w' hw' => op_sub64 _ _ _ _ (n : Int) (l.length : Int) d rfl rfl rfl HSUB.out) ?_
        simp only [Act.put, List.setIfInBounds_toArray, List.set_cons_succ, List.set_cons_zero]
        refine sq_call (by rfl) 44 [.const (.int .i64 1), .tmp 52] _ rfl [.int .i64 1, .int .i64 d] rfl enter_markcount (fr_call (fun w' hw' => markcount_ok 1 d _ (by omega) (by omega) (by omega) (by omega))) ?_
        simp only [Act.put, List.setIfInBounds_toArray, List.set_cons_succ, List.set_cons_zero]
        refine sq_val (by rfl) (fun w' hw' => eql_count_t rfl rfl rfl rfl) ?_
        simp only [Act.put, List.setIfInBounds_toArray, List.set_cons_succ, List.set_cons_zero]
        refine sq_val (by rfl) (fun w' _ => op_not _ _ true false rfl rfl rfl) ?_
        simp only [Act.put, List.setIfInBounds_toArray, List.set_cons_succ, List.set_cons_zero]
        refine sq_val (by rfl) (fun w' _ => op_pick_t _ _ _ (.bool false) rfl rfl rfl) ?_
        simp only [Act.put, List.setIfInBounds_toArray, List.set_cons_succ, List.set_cons_zero]
        refine sq_val (by rfl) (fun w' _ => op_pick_f _ _ _ (.bool false) rfl rfl rfl) ?_
        simp only [Act.put, List.setIfInBounds_toArray, List.set_cons_succ, List.set_cons_zero]
        refine wpQuiet_nil ?_
        rintro _ ⟨x1, rfl⟩
        have hb2 := fresh_trans hb x1.2
        clear hb
        go_wp2
        go_roundw
        case rel => exact ⟨n + 1, by omega, by go_num, hb2⟩
        case measure => simp [RowKit.intOf]; omega
    · go_wp2
      go_ret
      exact ⟨rfl, hb⟩
set_option maxRecDepth 100000 in
set_option maxHeartbeats 1000000 in
theorem keptItems_ok (g : Nat) (A : Option Addr) (c base : Nat) (l : List Item) (w : World) (hO : Lent markIt w base 42 g l) (hA : Reads w A l) (hlen : l.length ≤ 100000) : Calls Try.prog 16 #[.slice (some ⟨g, 0, none⟩) l.length (l.length + 12), .slice A l.length c] w fun e w' => e = .returned (.bool true) ∧ Below w.heap.size w w' := by
  obtain ⟨m, hm⟩ : ∃ m, m = l.length + 12 := ⟨_, rfl⟩
  have hm2 : Value.int .i64 ((l.length : Int) + 12) = Value.int .i64 (m : Int) := by rw [hm]; exact int_cast_add l.length 12
  have hmle : m ≤ 100012 := by omega
  have hl0 := int_bne_f (rfl : l.length = l.length)
  unfold Lent at hO
  rw [← hm] at hO ⊢
  have hlm : l.length ≤ m := by omega
  have HM := Lib.hid hm
  clear hm
  have HM2 := Lib.hid hm2
  clear hm2
  go_enter Try.func16, Try.ntmps16
  go_wp2_with (refine st_val rfl (op_slice_to 22 42 (.tmp 12) (.tmp 15) rfl Try.underlying22 (Enc.sz Item) sz_item rfl m HM2.out (Nat.le_refl m) (fun a ha => by injection ha with ha; subst ha; rfl)) ?_)
  go_loopw [6] (fun i wr => ∃ (n : Nat), n ≤ m ∧ i = .int .i64 n ∧ Below w.heap.size w wr) (fun i _ => m - (RowKit.intOf i).toNat)
  case atStart => exact ⟨0, by omega, rfl, fresh_refl w⟩
  case round =>
    obtain ⟨n, hn, rfl, hb⟩ := hrel
    by_cases hlt : n < m
    · by_cases hin : n < l.length
      · have hrO := read_item (k := n) hO (lent_get1 hin)
        obtain ⟨b1, o1, rfl, hr1⟩ := hA.at_n hin 73 rfl
        have hcF : ∀ w', (∃ x : Fr wr, w' = x.1) → w'.rangeAt g (n * 73) (Enc.enc (l[n]'hin)) := by
          rintro _ ⟨x, rfl⟩
          exact range_fresh hrO (fresh_trans hb x.2)
        have hlF : ∀ w', (∃ x : Fr wr, w' = x.1) → w'.rangeAt b1 (o1 + n * 73) (Enc.enc (l[n]'hin)) := by
          rintro _ ⟨x, rfl⟩
          exact range_fresh hr1 (fresh_trans hb x.2)
        clear hrO hr1
        have HCF := Lib.hid hcF
        clear hcF
        have HLF := Lib.hid hlF
        clear hlF
        go_wp2
        refine wp_region_fresh_lit (by kernel_rfl) (by kernel_rfl) ?_
        refine sq_val (by rfl) (fun w' _ => op_move _ (.int .i64 (n : Int)) rfl rfl) ?_
        simp only [Act.put, List.setIfInBounds_toArray, List.set_cons_succ, List.set_cons_zero]
        refine sq_val (by rfl) (fun w' _ => op_move _ (.slice (some ⟨b1, o1, none⟩) l.length c) rfl rfl) ?_
        simp only [Act.put, List.setIfInBounds_toArray, List.set_cons_succ, List.set_cons_zero]
        refine sq_val (by rfl) (fun w' _ => op_lenS _ 22 _ _ (l.length) _ rfl Try.underlying22 rfl) ?_
        simp only [Act.put, List.setIfInBounds_toArray, List.set_cons_succ, List.set_cons_zero]
        refine sq_val (by rfl) (fun w' _ => op_lss64 _ _ _ _ _ _ true rfl rfl rfl (decide_eq_true (by omega))) ?_
        simp only [Act.put, List.setIfInBounds_toArray, List.set_cons_succ, List.set_cons_zero]
        refine sq_val (by rfl) (fun w' _ => op_move _ (.bool true) rfl rfl) ?_
        simp only [Act.put, List.setIfInBounds_toArray, List.set_cons_succ, List.set_cons_zero]
        refine sq_val (by rfl) (fun w' _ => op_move _ (.slice (some ⟨g, 0, none⟩) m m) rfl rfl) ?_
        simp only [Act.put, List.setIfInBounds_toArray, List.set_cons_succ, List.set_cons_zero]
        refine sq_val (by rfl) (fun w' _ => op_move _ (.int .i64 (n : Int)) rfl rfl) ?_
        simp only [Act.put, List.setIfInBounds_toArray, List.set_cons_succ, List.set_cons_zero]
        refine sq_val (by rfl) (fun w' hw' => elem0_item rfl rfl rfl hlt) ?_
        simp only [Act.put, List.setIfInBounds_toArray, List.set_cons_succ, List.set_cons_zero]
        refine sq_val (by rfl) (fun w' hw' => load_item rfl rfl (l[n]'hin) (HCF.out w' hw')) ?_
        simp only [Act.put, List.setIfInBounds_toArray, List.set_cons_succ, List.set_cons_zero]
        refine sq_val (by rfl) (fun w' _ => op_move _ (.slice (some ⟨b1, o1, none⟩) l.length c) rfl rfl) ?_
        simp only [Act.put, List.setIfInBounds_toArray, List.set_cons_succ, List.set_cons_zero]
        refine sq_val (by rfl) (fun w' _ => op_move _ (.int .i64 (n : Int)) rfl rfl) ?_
        simp only [Act.put, List.setIfInBounds_toArray, List.set_cons_succ, List.set_cons_zero]
        refine sq_val (by rfl) (fun w' hw' => elem_item rfl rfl rfl hin) ?_
        simp only [Act.put, List.setIfInBounds_toArray, List.set_cons_succ, List.set_cons_zero]
        refine sq_val (by rfl) (fun w' hw' => load_item rfl rfl (l[n]'hin) (HLF.out w' hw')) ?_
        simp only [Act.put, List.setIfInBounds_toArray, List.set_cons_succ, List.set_cons_zero]
        refine sq_val (by rfl) (fun w' hw' => eql_item_t rfl rfl rfl rfl) ?_
        simp only [Act.put, List.setIfInBounds_toArray, List.set_cons_succ, List.set_cons_zero]
        refine sq_val (by rfl) (fun w' _ => op_not _ _ true false rfl rfl rfl) ?_
        simp only [Act.put, List.setIfInBounds_toArray, List.set_cons_succ, List.set_cons_zero]
        refine sq_val (by rfl) (fun w' _ => op_pick_t _ _ _ (.bool false) rfl rfl rfl) ?_
        simp only [Act.put, List.setIfInBounds_toArray, List.set_cons_succ, List.set_cons_zero]
        refine sq_val (by rfl) (fun w' _ => op_move _ (.bool false) rfl rfl) ?_
        simp only [Act.put, List.setIfInBounds_toArray, List.set_cons_succ, List.set_cons_zero]
        refine sq_val (by rfl) (fun w' _ => op_move _ (.int .i64 (n : Int)) rfl rfl) ?_
        simp only [Act.put, List.setIfInBounds_toArray, List.set_cons_succ, List.set_cons_zero]
        refine sq_val (by rfl) (fun w' _ => op_move _ (.slice (some ⟨b1, o1, none⟩) l.length c) rfl rfl) ?_
        simp only [Act.put, List.setIfInBounds_toArray, List.set_cons_succ, List.set_cons_zero]
        refine sq_val (by rfl) (fun w' _ => op_lenS _ 22 _ _ (l.length) _ rfl Try.underlying22 rfl) ?_
        simp only [Act.put, List.setIfInBounds_toArray, List.set_cons_succ, List.set_cons_zero]
        refine sq_val (by rfl) (fun w' _ => op_geq64 _ _ _ _ _ _ false rfl rfl rfl (decide_eq_false (by omega))) ?_
        simp only [Act.put, List.setIfInBounds_toArray, List.set_cons_succ, List.set_cons_zero]
        refine sq_val (by rfl) (fun w' _ => op_move _ (.bool false) rfl rfl) ?_
        simp only [Act.put, List.setIfInBounds_toArray, List.set_cons_succ, List.set_cons_zero]
        go_big_quiet_skip
        go_big_quiet_skip
        go_big_quiet_skip
        go_big_quiet_skip
        go_big_quiet_skip
        go_big_quiet_skip
        go_big_quiet_skip
        go_big_quiet_skip
        go_big_quiet_skip
        go_big_quiet_skip
        go_big_quiet_skip
        refine sq_val (by rfl) (fun w' _ => op_pick_f _ _ _ (.bool false) rfl rfl rfl) ?_
        simp only [Act.put, List.setIfInBounds_toArray, List.set_cons_succ, List.set_cons_zero]
        refine sq_val (by rfl) (fun w' _ => op_pick_f _ _ _ (.bool false) rfl rfl rfl) ?_
        simp only [Act.put, List.setIfInBounds_toArray, List.set_cons_succ, List.set_cons_zero]
        refine wpQuiet_nil ?_
        rintro _ ⟨x1, rfl⟩
        have hb2 := fresh_trans hb x1.2
        clear hb
        go_wp2
        go_roundw
        case rel => exact ⟨n + 1, by omega, by go_num, hb2⟩
        case measure => simp [RowKit.intOf]; omega
      · have hrO := read_item (k := n) hO (lent_get2 hin HM.out hlt)
        obtain ⟨d, hd⟩ : ∃ d : Int, d = (n : Int) - (l.length : Int) := ⟨_, rfl⟩
        have hd0 : 0 ≤ d := by omega
        have hd1 : d ≤ 12 := by have := HM.out; omega
        rw [← hd] at hrO
        have hcF : ∀ w', (∃ x : Fr wr, w' = x.1) → w'.rangeAt g (n * 73) (Enc.enc (markIt 1 d)) := by
          rintro _ ⟨x, rfl⟩
          exact range_fresh hrO (fresh_trans hb x.2)
        have hsub : IntKind.i64.wrap ((n : Int) - (l.length : Int)) = d := by rw [← hd]; exact wrap_in (by omega) (by omega)
        have HD := Lib.hid hd
        clear hd
        clear hrO
        have HCF := Lib.hid hcF
        clear hcF
        have HSUB := Lib.hid hsub
        clear hsub
        go_wp2
        refine wp_region_fresh_lit (by kernel_rfl) (by kernel_rfl) ?_
        refine sq_val (by rfl) (fun w' _ => op_move _ (.int .i64 (n : Int)) rfl rfl) ?_
        simp only [Act.put, List.setIfInBounds_toArray, List.set_cons_succ, List.set_cons_zero]
        refine sq_val (by rfl) (fun w' _ => op_move _ (.slice A l.length c) rfl rfl) ?_
        simp only [Act.put, List.setIfInBounds_toArray, List.set_cons_succ, List.set_cons_zero]
        refine sq_val (by rfl) (fun w' _ => op_lenS _ 22 _ _ (l.length) _ rfl Try.underlying22 rfl) ?_
        simp only [Act.put, List.setIfInBounds_toArray, List.set_cons_succ, List.set_cons_zero]
        refine sq_val (by rfl) (fun w' _ => op_lss64 _ _ _ _ _ _ false rfl rfl rfl (decide_eq_false (by omega))) ?_
        simp only [Act.put, List.setIfInBounds_toArray, List.set_cons_succ, List.set_cons_zero]
        refine sq_val (by rfl) (fun w' _ => op_move _ (.bool false) rfl rfl) ?_
        simp only [Act.put, List.setIfInBounds_toArray, List.set_cons_succ, List.set_cons_zero]
        go_big_quiet_skip
        go_big_quiet_skip
        go_big_quiet_skip
        go_big_quiet_skip
        go_big_quiet_skip
        go_big_quiet_skip
        go_big_quiet_skip
        go_big_quiet_skip
        go_big_quiet_skip
        go_big_quiet_skip
        refine sq_val (by rfl) (fun w' _ => op_pick_f _ _ _ (.bool false) rfl rfl rfl) ?_
        simp only [Act.put, List.setIfInBounds_toArray, List.set_cons_succ, List.set_cons_zero]
        refine sq_val (by rfl) (fun w' _ => op_move _ (.bool false) rfl rfl) ?_
        simp only [Act.put, List.setIfInBounds_toArray, List.set_cons_succ, List.set_cons_zero]
        refine sq_val (by rfl) (fun w' _ => op_move _ (.int .i64 (n : Int)) rfl rfl) ?_
        simp only [Act.put, List.setIfInBounds_toArray, List.set_cons_succ, List.set_cons_zero]
        refine sq_val (by rfl) (fun w' _ => op_move _ (.slice A l.length c) rfl rfl) ?_
        simp only [Act.put, List.setIfInBounds_toArray, List.set_cons_succ, List.set_cons_zero]
        refine sq_val (by rfl) (fun w' _ => op_lenS _ 22 _ _ (l.length) _ rfl Try.underlying22 rfl) ?_
        simp only [Act.put, List.setIfInBounds_toArray, List.set_cons_succ, List.set_cons_zero]
        refine sq_val (by rfl) (fun w' _ => op_geq64 _ _ _ _ _ _ true rfl rfl rfl (decide_eq_true (by omega))) ?_
        simp only [Act.put, List.setIfInBounds_toArray, List.set_cons_succ, List.set_cons_zero]
        refine sq_val (by rfl) (fun w' _ => op_move _ (.bool true) rfl rfl) ?_
        simp only [Act.put, List.setIfInBounds_toArray, List.set_cons_succ, List.set_cons_zero]
        refine sq_val (by rfl) (fun w' _ => op_move _ (.slice (some ⟨g, 0, none⟩) m m) rfl rfl) ?_
        simp only [Act.put, List.setIfInBounds_toArray, List.set_cons_succ, List.set_cons_zero]
        refine sq_val (by rfl) (fun w' _ => op_move _ (.int .i64 (n : Int)) rfl rfl) ?_
        simp only [Act.put, List.setIfInBounds_toArray, List.set_cons_succ, List.set_cons_zero]
        refine sq_val (by rfl) (fun w' hw' => elem0_item rfl rfl rfl hlt) ?_
        simp only [Act.put, List.setIfInBounds_toArray, List.set_cons_succ, List.set_cons_zero]
        refine sq_val (by rfl) (fun w' hw' => load_item rfl rfl (markIt 1 d) (HCF.out w' hw')) ?_
        simp only [Act.put, List.setIfInBounds_toArray, List.set_cons_succ, List.set_cons_zero]
        refine sq_val (by rfl) (fun w' _ => op_move _ (.int .i64 (n : Int)) rfl rfl) ?_
        simp only [Act.put, List.setIfInBounds_toArray, List.set_cons_succ, List.set_cons_zero]
        refine sq_val (by rfl) (fun w' _ => op_move _ (.slice A l.length c) rfl rfl) ?_
        simp only [Act.put, List.setIfInBounds_toArray, List.set_cons_succ, List.set_cons_zero]
        refine sq_val (by rfl) (fun w' _ => op_lenS _ 22 _ _ (l.length) _ rfl Try.underlying22 rfl) ?_
        simp only [Act.put, List.setIfInBounds_toArray, List.set_cons_succ, List.set_cons_zero]
        refine sq_val (by rfl) (fun w' hw' => op_sub64 _ _ _ _ (n : Int) (l.length : Int) d rfl rfl rfl HSUB.out) ?_
        simp only [Act.put, List.setIfInBounds_toArray, List.set_cons_succ, List.set_cons_zero]
        refine sq_call (by rfl) 39 [.const (.int .i64 1), .tmp 52] _ rfl [.int .i64 1, .int .i64 d] rfl enter_markitem (fr_call (fun w' hw' => markitem_ok 1 d _ (by omega) (by omega) (by omega) (by omega))) ?_
        simp only [Act.put, List.setIfInBounds_toArray, List.set_cons_succ, List.set_cons_zero]
        refine sq_val (by rfl) (fun w' hw' => eql_item_t rfl rfl rfl rfl) ?_
        simp only [Act.put, List.setIfInBounds_toArray, List.set_cons_succ, List.set_cons_zero]
        refine sq_val (by rfl) (fun w' _ => op_not _ _ true false rfl rfl rfl) ?_
        simp only [Act.put, List.setIfInBounds_toArray, List.set_cons_succ, List.set_cons_zero]
        refine sq_val (by rfl) (fun w' _ => op_pick_t _ _ _ (.bool false) rfl rfl rfl) ?_
        simp only [Act.put, List.setIfInBounds_toArray, List.set_cons_succ, List.set_cons_zero]
        refine sq_val (by rfl) (fun w' _ => op_pick_f _ _ _ (.bool false) rfl rfl rfl) ?_
        simp only [Act.put, List.setIfInBounds_toArray, List.set_cons_succ, List.set_cons_zero]
        refine wpQuiet_nil ?_
        rintro _ ⟨x1, rfl⟩
        have hb2 := fresh_trans hb x1.2
        clear hb
        go_wp2
        go_roundw
        case rel => exact ⟨n + 1, by omega, by go_num, hb2⟩
        case measure => simp [RowKit.intOf]; omega
    · go_wp2
      go_ret
      exact ⟨rfl, hb⟩
end Go.Pb

/- Two keys compared byte by byte. -/
import Derived.Test.YteablbficakfcaaRefsLaw
import Derived.Test.YteablbficakfcaaSame
set_option linter.unusedVariables false
set_option linter.unusedSimpArgs false
set_option linter.unusedSectionVars false
namespace Go.Pb
open Go.RowKit Go.Proofs Go.BigFrame

theorem lex_first : ∀ (p : List UInt8) (u v : UInt8) (x y : List UInt8), u ≠ v → (p ++ u :: x < p ++ v :: y ↔ u < v)
  | [], u, v, x, y, h => by
    rw [List.nil_append, List.nil_append, List.cons_lt_cons_iff]
    constructor
    · rintro (h1 | ⟨h1, _⟩)
      · exact h1
      · exact absurd h1 h
    · exact .inl
  | c :: p, u, v, x, y, h => by
    rw [List.cons_append, List.cons_append, List.cons_lt_cons_iff]
    have ih := lex_first p u v x y h
    constructor
    · rintro (h1 | ⟨_, h1⟩)
      · exact absurd h1 (UInt8.lt_irrefl _)
      · exact ih.1 h1
    · intro h1
      exact .inr ⟨rfl, ih.2 h1⟩
theorem klt_first {a b : Key} {i : Nat} (ha : i < a.1.length) (hb : i < b.1.length) (heq : a.1.take i = b.1.take i) (hne : a.1[i] ≠ b.1[i]) : klt a b = decide (a.1[i] < b.1[i]) := by
  have h1 : a.1 = a.1.take i ++ a.1[i] :: a.1.drop (i + 1) := by rw [← List.drop_eq_getElem_cons ha, List.take_append_drop]
  have h2 : b.1 = a.1.take i ++ b.1[i] :: b.1.drop (i + 1) := by rw [heq, ← List.drop_eq_getElem_cons hb, List.take_append_drop]
  have h3 := lex_first (a.1.take i) a.1[i] b.1[i] (a.1.drop (i + 1)) (b.1.drop (i + 1)) hne
  rw [← h1, ← h2] at h3
  rw [Bool.eq_iff_iff, klt_iff, h3]
  simp
theorem key_byte {w : World} {g : Nat} {k : Key} (h : w.rangeAt g 0 (Enc.enc k)) {i : Nat} (hi : i < k.1.length) : w.cell? ⟨g, 0 + i, none⟩ = some (.int .u8 (k.1[i].toNat : Int)) := by
  refine h i _ ?_
  show (encKey k)[i]? = _
  rw [encKey, List.getElem?_map, List.getElem?_eq_getElem hi]
  rfl

theorem run_elemA {P : Program} {o : Oper} {ρ : Operand → Value} {w : World} (t e : TypeId) (n : Nat) (x i : Operand) (ho : o.op = .indexAddr t x i) (ht : P.underlying t = some (.array n e)) (k : Nat) (hi : (P.info? e).map (·.size) = some k)
    {b f : Nat} (hx : ρ x = .pointer (some ⟨b, f, none⟩)) {ki : IntKind} (j : Nat) (hj : ρ i = .int ki (j : Int)) (hlt : j < n) :
    (execOp ρ o).run P w = .ok (.value (.pointer (some ⟨b, f + j * k, none⟩))) w := by
  obtain ⟨ie, hie, hsz⟩ := Option.map_eq_some_iff.1 hi
  have hlt' : (0 : Int) ≤ (j : Int) ∧ (j : Int) < (n : Int) := ⟨by omega, by omega⟩
  unfold execOp
  simp only [ho, hx, hj, Instr.indexAt, asIntOf, Sem.run_bind, Sem.run_pure, Result.andThen, run_underlying ht w]
  simp [hlt', sizeOf, typeInfo, hie, hsz, Addr.add_mid, hlt, Instr.sureAddr, run_underlying ht w, Result.andThen]
theorem su8 : (Try.prog.info? 5).map (·.size) = some 1 := by kernel_rfl
theorem op_neq_u8 {P : Program} {o : Oper} {ρ : Operand → Value} {w : World} (t ty : TypeId) (x y : Operand) (a b : Int) (ho : o.op = .binOp .neq t x y ty) (ht : P.underlying t = some (.int .u8)) (hx : ρ x = .int .u8 a) (hy : ρ y = .int .u8 b) (c : Bool) (hc : decide (a = b) = !c) : (execOp ρ o).run P w = .ok (.value (.bool c)) w := by
  unfold execOp
  simp [ho, hx, hy, go_sem, ht]
  cases c <;> simp_all
set_option maxHeartbeats 2000000 in
theorem rises_ok (a b : Key) (w : World) : Calls Try.prog 24 #[agg a, agg b] w fun e w' => e = .returned (.bool (klt a b)) ∧ Below w.heap.size w w' := by
  generalize hW : (w.alloc (.cells (Enc.enc a).toArray 35)).alloc (.cells (Enc.enc b).toArray 35) = W
  have hb0 : Below w.heap.size w W := by subst hW; exact fresh_alloc (fresh_alloc (fresh_refl w) _) _
  have h1 : W.rangeAt w.heap.size 0 (Enc.enc a) := by subst hW; exact range_fresh (range_block (heap_alloc_new w _)) (fresh_alloc (fresh_refl _) _)
  have h2 : W.rangeAt (w.heap.size + 1) 0 (Enc.enc b) := by subst hW; exact range_block (heap_alloc2_new w _ _)
  have la := a.2
  have lb := b.2
  have HW := Lib.hid hW
  clear hW
  have LA := Lib.hid la
  clear la
  have LB := Lib.hid lb
  clear lb
  go_enter Try.func24, Try.ntmps24
  go_wp2_with (first
    | (refine st_val rfl (run_box 35 _ a rfl rfl) ?_)
    | (refine st_val rfl (run_box 35 _ b rfl rfl) ?_; rw [HW.out]))
  go_loopw [5] (fun i wr => ∃ k : Nat, k ≤ 32 ∧ i = .int .i64 k ∧ a.1.take k = b.1.take k ∧ ∃ n, wr = W.drewN n) (fun i _ => 32 - (RowKit.intOf i).toNat)
  case atStart => exact ⟨0, by omega, rfl, rfl, 0, rfl⟩
  case round =>
    obtain ⟨k, hk, rfl, heq, n, rfl⟩ := hrel
    have HEQ := Lib.hid heq
    clear heq
    by_cases hlt : k < 32
    · have hka : k < a.1.length := by rw [LA.out]; exact hlt
      have hkb : k < b.1.length := by rw [LB.out]; exact hlt
      have c1 := key_byte h1 hka
      have c2 := key_byte h2 hkb
      by_cases he : (a.1[k]'hka) = (b.1[k]'hkb)
      · have heb : decide (((a.1[k]'hka).toNat : Int) = ((b.1[k]'hkb).toNat : Int)) = !false := by rw [he]; simp
        have HEB := Lib.hid heb
        clear heb
        have HE := Lib.hid he
        clear he
        go_wp2
        refine wp_region_quiet_lit (by kernel_rfl) (by kernel_rfl) ?_
        first | go_big_quiet_step (fail) | (refine sq_val (v := ?_) (by rfl) ?_ ?_; rotate_left; (focus (rintro w' ⟨x, rfl⟩; go_simp; try with_reducible rfl)); simp only [Act.put, List.setIfInBounds_toArray, List.set_cons_succ, List.set_cons_zero])
        refine sq_val (by rfl) (fun w' hw' => run_elemA 35 5 32 _ _ rfl Try.underlying35 1 su8 rfl k rfl hlt) ?_
        simp only [Act.put, List.setIfInBounds_toArray, List.set_cons_succ, List.set_cons_zero]
        refine sq_val (by rfl) (fun w' hw' => run_load1 5 _ rfl rfl (by obtain ⟨m, rfl⟩ := hw'; rw [Nat.mul_one]; exact c1) _ Try.underlying5 rfl) ?_
        simp only [Act.put, List.setIfInBounds_toArray, List.set_cons_succ, List.set_cons_zero]
        first | go_big_quiet_step (fail) | (refine sq_val (v := ?_) (by rfl) ?_ ?_; rotate_left; (focus (rintro w' ⟨x, rfl⟩; go_simp; try with_reducible rfl)); simp only [Act.put, List.setIfInBounds_toArray, List.set_cons_succ, List.set_cons_zero])
        refine sq_val (by rfl) (fun w' hw' => run_elemA 35 5 32 _ _ rfl Try.underlying35 1 su8 rfl k rfl hlt) ?_
        simp only [Act.put, List.setIfInBounds_toArray, List.set_cons_succ, List.set_cons_zero]
        refine sq_val (by rfl) (fun w' hw' => run_load1 5 _ rfl rfl (by obtain ⟨m, rfl⟩ := hw'; rw [Nat.mul_one]; exact c2) _ Try.underlying5 rfl) ?_
        simp only [Act.put, List.setIfInBounds_toArray, List.set_cons_succ, List.set_cons_zero]
        refine sq_val (by rfl) (fun w' hw' => op_neq_u8 5 _ _ _ _ _ rfl Try.underlying5 rfl rfl false HEB.out) ?_
        simp only [Act.put, List.setIfInBounds_toArray, List.set_cons_succ, List.set_cons_zero]
        refine wpQuiet_nil ?_
        intro _ hw'
        obtain ⟨nq, hw''⟩ := hw'
        subst hw''
        go_wp2
        go_roundw
        case rel => exact ⟨k + 1, by omega, by go_num, take_succ_eq hka hkb HEQ.out HE.out, n + nq, by simp⟩
        case measure => simp [RowKit.intOf]; omega
      · have heb : decide (((a.1[k]'hka).toNat : Int) = ((b.1[k]'hkb).toNat : Int)) = !true := by
          rw [Bool.not_true, decide_eq_false_iff_not]
          intro e
          exact he (UInt8.toNat_inj.1 (by omega))
        have hkl := klt_first hka hkb HEQ.out he
        have hlt8 : decide ((a.1[k]'hka) < (b.1[k]'hkb)) = decide ((a.1[k]'hka).toNat < (b.1[k]'hkb).toNat) := by
          rw [decide_eq_decide, UInt8.lt_iff_toNat_lt]
        have HEB := Lib.hid heb
        clear heb
        have HKL := Lib.hid hkl
        clear hkl
        have HLT8 := Lib.hid hlt8
        clear hlt8
        go_wp2
        refine wp_region_quiet_lit (by kernel_rfl) (by kernel_rfl) ?_
        first | go_big_quiet_step (fail) | (refine sq_val (v := ?_) (by rfl) ?_ ?_; rotate_left; (focus (rintro w' ⟨x, rfl⟩; go_simp; try with_reducible rfl)); simp only [Act.put, List.setIfInBounds_toArray, List.set_cons_succ, List.set_cons_zero])
        refine sq_val (by rfl) (fun w' hw' => run_elemA 35 5 32 _ _ rfl Try.underlying35 1 su8 rfl k rfl hlt) ?_
        simp only [Act.put, List.setIfInBounds_toArray, List.set_cons_succ, List.set_cons_zero]
        refine sq_val (by rfl) (fun w' hw' => run_load1 5 _ rfl rfl (by obtain ⟨m, rfl⟩ := hw'; rw [Nat.mul_one]; exact c1) _ Try.underlying5 rfl) ?_
        simp only [Act.put, List.setIfInBounds_toArray, List.set_cons_succ, List.set_cons_zero]
        first | go_big_quiet_step (fail) | (refine sq_val (v := ?_) (by rfl) ?_ ?_; rotate_left; (focus (rintro w' ⟨x, rfl⟩; go_simp; try with_reducible rfl)); simp only [Act.put, List.setIfInBounds_toArray, List.set_cons_succ, List.set_cons_zero])
        refine sq_val (by rfl) (fun w' hw' => run_elemA 35 5 32 _ _ rfl Try.underlying35 1 su8 rfl k rfl hlt) ?_
        simp only [Act.put, List.setIfInBounds_toArray, List.set_cons_succ, List.set_cons_zero]
        refine sq_val (by rfl) (fun w' hw' => run_load1 5 _ rfl rfl (by obtain ⟨m, rfl⟩ := hw'; rw [Nat.mul_one]; exact c2) _ Try.underlying5 rfl) ?_
        simp only [Act.put, List.setIfInBounds_toArray, List.set_cons_succ, List.set_cons_zero]
        refine sq_val (by rfl) (fun w' hw' => op_neq_u8 5 _ _ _ _ _ rfl Try.underlying5 rfl rfl true HEB.out) ?_
        simp only [Act.put, List.setIfInBounds_toArray, List.set_cons_succ, List.set_cons_zero]
        refine wpQuiet_nil ?_
        intro _ hw'
        obtain ⟨nq, hw''⟩ := hw'
        subst hw''
        go_wp2
        refine wp_region_quiet_lit (by kernel_rfl) (by kernel_rfl) ?_
        first | go_big_quiet_step (fail) | (refine sq_val (v := ?_) (by rfl) ?_ ?_; rotate_left; (focus (rintro w' ⟨x, rfl⟩; go_simp; try with_reducible rfl)); simp only [Act.put, List.setIfInBounds_toArray, List.set_cons_succ, List.set_cons_zero])
        refine sq_val (by rfl) (fun w' hw' => run_elemA 35 5 32 _ _ rfl Try.underlying35 1 su8 rfl k rfl hlt) ?_
        simp only [Act.put, List.setIfInBounds_toArray, List.set_cons_succ, List.set_cons_zero]
        refine sq_val (by rfl) (fun w' hw' => run_load1 5 _ rfl rfl (by obtain ⟨m, rfl⟩ := hw'; rw [Nat.mul_one]; exact c1) _ Try.underlying5 rfl) ?_
        simp only [Act.put, List.setIfInBounds_toArray, List.set_cons_succ, List.set_cons_zero]
        first | go_big_quiet_step (fail) | (refine sq_val (v := ?_) (by rfl) ?_ ?_; rotate_left; (focus (rintro w' ⟨x, rfl⟩; go_simp; try with_reducible rfl)); simp only [Act.put, List.setIfInBounds_toArray, List.set_cons_succ, List.set_cons_zero])
        refine sq_val (by rfl) (fun w' hw' => run_elemA 35 5 32 _ _ rfl Try.underlying35 1 su8 rfl k rfl hlt) ?_
        simp only [Act.put, List.setIfInBounds_toArray, List.set_cons_succ, List.set_cons_zero]
        refine sq_val (by rfl) (fun w' hw' => run_load1 5 _ rfl rfl (by obtain ⟨m, rfl⟩ := hw'; rw [Nat.mul_one]; exact c2) _ Try.underlying5 rfl) ?_
        simp only [Act.put, List.setIfInBounds_toArray, List.set_cons_succ, List.set_cons_zero]
        first | go_big_quiet_step (fail) | (refine sq_val (v := ?_) (by rfl) ?_ ?_; rotate_left; (focus (rintro w' ⟨x, rfl⟩; go_simp; try with_reducible rfl)); simp only [Act.put, List.setIfInBounds_toArray, List.set_cons_succ, List.set_cons_zero])
        first | go_big_quiet_step (fail) | (refine sq_val (v := ?_) (by rfl) ?_ ?_; rotate_left; (focus (rintro w' ⟨x, rfl⟩; go_simp; try with_reducible rfl)); simp only [Act.put, List.setIfInBounds_toArray, List.set_cons_succ, List.set_cons_zero])
        refine wpQuiet_nil ?_
        intro _ hw'
        obtain ⟨nr, hw''⟩ := hw'
        subst hw''
        go_wp2
        go_ret
        exact ⟨by rw [HKL.out, HLT8.out]; rfl, fresh_trans hb0 (fresh_trans (fresh_drewN (fresh_refl W) n) (fresh_trans (fresh_drewN (fresh_refl _) nq) (fresh_drewN (fresh_refl _) nr)))⟩
    · have h32 : k = 32 := by omega
      subst h32
      clear hlt hk
      go_wp2
      go_ret
      refine ⟨?_, fresh_drewN hb0 n⟩
      have hab : a = b := by
        apply Subtype.ext
        have := HEQ.out
        rwa [List.take_of_length_le (by rw [LA.out]; omega), List.take_of_length_le (by rw [LB.out]; omega)] at this
      subst hab
      rw [klt_irrefl]
      rfl
end Go.Pb

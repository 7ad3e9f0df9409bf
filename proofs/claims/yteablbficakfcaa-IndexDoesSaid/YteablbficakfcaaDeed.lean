/- What is done to an index, as data. -/
import Derived.Test.YteablbficakfcaaOpen
import Derived.OpenShut
set_option linter.unusedVariables false
set_option linter.unusedSimpArgs false
set_option linter.unusedSectionVars false
namespace Go.Pb
open Go.RowKit Go.Proofs Go.WideShapes Go.ChangeShapes

structure Deed where
  kind : Int
  key : Key
  place : Place
  n : Int
def encDeed (d : Deed) : List Value := [intV d.kind] ++ (encKey d.key ++ (encPlace d.place ++ [intV d.n]))
instance : Enc Deed := ⟨encDeed, 38, fun d => by simp [encDeed, encKey_len, encPlace], fun d v hv => by
  simp only [encDeed, List.mem_append, List.mem_cons, List.not_mem_nil, or_false] at hv
  rcases hv with rfl | h | h | rfl
  · rfl
  · exact encKey_one _ v h
  · exact encPlace_one _ v h
  · rfl, by decide⟩
theorem deed_parts {w : World} {b o : Nat} {d : Deed} (h : w.rangeAt b o (Enc.enc d)) :
    w.cell? ⟨b, o, none⟩ = some (intV d.kind) ∧ w.rangeAt b (o + 1) (Enc.enc d.key) ∧ w.rangeAt b (o + 33) (Enc.enc d.place) ∧ w.cell? ⟨b, o + 37, none⟩ = some (intV d.n) := by
  have hl : (encKey d.key).length = 32 := encKey_len _
  refine ⟨h 0 _ rfl, ?_, ?_, ?_⟩
  · have := range_sub h 1 32
    have e : ((Enc.enc d).drop 1).take 32 = Enc.enc d.key := by
      show ((encDeed d).drop 1).take 32 = encKey d.key
      simp [encDeed, hl]
    rwa [e] at this
  · have := range_sub h 33 4
    have e : ((Enc.enc d).drop 33).take 4 = Enc.enc d.place := by
      show ((encDeed d).drop 33).take 4 = encPlace d.place
      simp [encDeed, hl, encPlace, List.drop_append]
    rwa [e] at this
  · refine h 37 _ ?_
    show (encDeed d)[37]? = _
    simp [encDeed, hl, encPlace, List.getElem?_append]

theorem sint : (Try.prog.info? 3).map (·.size) = some 1 := by kernel_rfl
instance : Fit Deed := ⟨fun d => okInt d.kind ∧ Fit.fit d.place ∧ okInt d.n⟩
theorem cells53 : Try.prog.cellsOf 53 = 38 := by kernel_rfl
theorem dec_deed : Dec Try.prog 53 Deed := by
  intro H enc w base spare held fuel cs x h
  obtain ⟨xs, m, _, _, hlen, hxl, hf⟩ := DataW.trod_struct Try.underlying53 h
  rw [cells53] at hlen
  have hx : xs.length = 4 := hxl
  have h0 : DataW.trod enc Try.prog w base spare held m 3 ((cs.drop 0).take (Try.prog.cellsOf 3)) = xs[0]? := hf 0 _ rfl
  have h1 : DataW.trod enc Try.prog w base spare held m 35 ((cs.drop 1).take (Try.prog.cellsOf 35)) = xs[1]? := hf 1 _ rfl
  have h2 : DataW.trod enc Try.prog w base spare held m 38 ((cs.drop 33).take (Try.prog.cellsOf 38)) = xs[2]? := hf 2 _ rfl
  have h3 : DataW.trod enc Try.prog w base spare held m 3 ((cs.drop 37).take (Try.prog.cellsOf 3)) = xs[3]? := hf 3 _ rfl
  rw [cells3] at h0 h3
  rw [cells35] at h1
  rw [cells38] at h2
  obtain ⟨z0, e0, f0⟩ := dec_field dec_int h0 (by omega)
  obtain ⟨z1, e1, f1⟩ := dec_field dec_key h1 (by omega)
  obtain ⟨z2, e2, f2⟩ := dec_field dec_place h2 (by omega)
  obtain ⟨z3, e3, f3⟩ := dec_field dec_int h3 (by omega)
  refine ⟨⟨z0, z1, z2, z3⟩, ?_, f0, f2, f3⟩
  rw [← List.drop_zero (l := cs), cut_at 0 1, cut_at (0 + 1) 32, cut_at (0 + 1 + 32) 4, ← cut_last (0 + 1 + 32 + 4) 1 (by omega), e0, e1, e2, e3]
  rfl
end Go.Pb

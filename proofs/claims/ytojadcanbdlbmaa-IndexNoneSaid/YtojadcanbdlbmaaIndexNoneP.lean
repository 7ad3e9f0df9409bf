/- IndexNone: what came in is opened, the walk is lifted to the row's form. -/
import Derived.Test.YtojadcanbdlbmaaRows
import Derived.Test.YtojadcanbdlbmaaOpen
import Derived.WalkKit
import Derived.ProofKit
import Derived.OpenShut
import Derived.ShutString
import Derived.ChangeOld
import Derived.Below
import Derived.Test.YtojadcanbdlbmaaIndexN
set_option linter.unusedVariables false
set_option linter.unusedSimpArgs false
namespace Go.Pb
open Go.RowKit Go.Proofs Go.WideShapes Go.ChangeShapes
instance : Fit Deed := ⟨fun d => okInt d.kind ∧ Fit.fit d.place ∧ okInt d.n⟩
theorem cells53 : Try.prog.cellsOf 53 = 38 := by kernel_rfl
theorem dec_deed : Dec Try.prog 53 Deed := by
  intro H enc w base spare held fuel cs x h
  obtain ⟨xs, m, _, _, hlen, hxl, hf⟩ := DataW.trod_struct Try.underlying53 h
  rw [cells53] at hlen
  have hx : xs.length = 4 := hxl
  have h0 : DataW.trod enc Try.prog w base spare held m 3 ((cs.drop 0).take (Try.prog.cellsOf 3)) = xs[0]? := hf 0 _ rfl
  have h1 : DataW.trod enc Try.prog w base spare held m 35 ((cs.drop 1).take (Try.prog.cellsOf 35)) = xs[1]? := hf 1 _ rfl
  have h2 : DataW.trod enc Try.prog w base spare held m 38 ((cs.drop 33).take (Try.prog.cellsOf 38)) = xs[2]? := hf 2 _ rfl
  have h3 : DataW.trod enc Try.prog w base spare held m 3 ((cs.drop 37).take (Try.prog.cellsOf 3)) = xs[3]? := hf 3 _ rfl
  rw [cells3] at h0 h3
  rw [cells35] at h1
  rw [cells38] at h2
  obtain ⟨z0, e0, f0⟩ := dec_field dec_int h0 (by omega)
  obtain ⟨z1, e1, f1⟩ := dec_field dec_key h1 (by omega)
  obtain ⟨z2, e2, f2⟩ := dec_field dec_place h2 (by omega)
  obtain ⟨z3, e3, f3⟩ := dec_field dec_int h3 (by omega)
  refine ⟨⟨z0, z1, z2, z3⟩, ?_, f0, f2, f3⟩
  rw [← List.drop_zero (l := cs), cut_at 0 1, cut_at (0 + 1) 32, cut_at (0 + 1 + 32) 4, ← cut_last (0 + 1 + 32 + 4) 1 (by omega), e0, e1, e2, e3]
  rfl
end Go.Pb
namespace Go.Proofs.Ytojadcanbdlbmaa.indexNone
open Go.ChangeShapes Go.WideShapes Go.ChangeAt Go.RowKit Go.Pb
theorem own : ownKnob Try.prog.godebug = none := by kernel_rfl
theorem laidOut : laidOutB Try.prog = true := by kernel_rfl
set_option maxRecDepth 100000 in
theorem lifted (os : Os) (started : os.Started) (H : Type) (enc : TypeId × Value → H) :
    ReturnsInHanded {} Try.checked os 10 .any (Rows.indexNoneSpec.pre6 enc Try.prog Try.f10 Rows.indexNoneRow.domain false) (Rows.indexNoneSpec.post enc Try.prog Try.f10 false true false false) := by
  refine returnsInHanded_of_change (C := Try.checked) own started (by kernel_rfl) Try.func10
    (ChangeSpec.witness6 (enc := enc) (C := Try.checked) false ⟨#[], #[agg (Deed.mk 0 Key.zero Place.zero 0)], []⟩ 8 (by kernel_rfl) (by kernel_rfl) (by kernel_rfl) (by kernel_rfl)) ?_
  intro W base args ds gs before hval0 hW hcnd _
  have hval : ∀ (j : Nat) t v, Try.f10.params[j]? = some t → args[j]? = some v → Value.okWide Try.prog W .any base t v := hval0
  have hW' := hW
  obtain ⟨p, q, hA0, hV, rfl, hfz, hnd⟩ := hW
  have hA : DataW.TrodAll enc Try.prog W 0 (fun _ => true) true Try.f10.params.toList args.toList ds p := hA0
  rw [Try.params10] at hA hval
  obtain ⟨v0, vs0, d0, ds0, p0, q0, hargs, rfl, rfl, h0, r0⟩ := trodAll_cons hA
  obtain ⟨rfl, rfl, rfl⟩ := trodAll_nil r0
  obtain rfl : args = #[v0] := by cases args; simp_all
  obtain ⟨rfl, rfl⟩ := trodVars_none hV
  have k0 := h0
  have lt0 : ∀ x ∈ p0, x.block < W.heap.size := by obtain ⟨m, hm⟩ := k0; exact DataW.trod_lt m _ _ _ hm
  obtain ⟨d, rfl, _⟩ := open_agg dec_deed Try.underlying53 (hval 0 53 v0 rfl rfl) h0
  clear hA0 hval0
  refine (indexNone_ok d W).mono fun e W' ⟨he, bel⟩ => ?_
  subst he
  exact ⟨_, rfl, _, _, _, [], _, [], hW', trodAll_mk1 (shut_bool Try.underlying4 _), (trodAll_cons_mk (Below.trod laidOut (by kernel_rfl) (of_decide_eq_true (by kernel_rfl)) k0 bel lt0) trodAll_mk0), rfl, bel.frame _, fun h => by cases h⟩
end Go.Proofs.Ytojadcanbdlbmaa.indexNone

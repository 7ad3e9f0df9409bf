/- bytes.Compare of two keys that lie in memory. -/
import Derived.Test.YteablbficakfcaaHeld
import Derived.Test.YteablbficakfcaaTypes
import Derived.Lib.BytesEntry
import Derived.Lib.Bytealg
import Derived.Laws.Externs
set_option linter.unusedVariables false
set_option linter.unusedSimpArgs false
set_option linter.unusedSectionVars false
namespace Go.Pb
open Go.RowKit Go.Proofs Go.BigFrame

theorem bytesOf_key (k : Key) : (Lib.bytesOf (k.1.map (fun b => (b.toNat : Int)))) = k.1 := by
  unfold Lib.bytesOf
  rw [List.map_map]
  conv => rhs; rw [← List.map_id k.1]
  refine List.map_congr_left (fun b _ => ?_)
  simp
theorem run_keyBytes {P : Program} (w : World) (b o : Nat) (k : Key) (h : w.rangeAt b o (Enc.enc k)) : (Extern.Bytes.loadBytes ⟨b, o, none⟩ 32 .empty).run P w = .ok ⟨k.1.toArray⟩ w := by
  have h1 := Lib.run_loadBytesX (P := P) w (k.1.map (fun b => (b.toNat : Int))) ⟨b, o, none⟩ .empty (fun j x hx => by
    rw [Addr.add_mid]
    refine h j _ ?_
    rw [List.getElem?_map] at hx
    obtain ⟨y, hy, rfl⟩ := Option.map_eq_some_iff.1 hx
    show (encKey k)[j]? = _
    rw [encKey, List.getElem?_map, hy]
    rfl)
  rw [bytesOf_key] at h1
  have hl : (k.1.map (fun b => (b.toNat : Int))).length = 32 := by rw [List.length_map]; exact k.2
  rw [hl] at h1
  rw [h1]
  congr 2
  simp
theorem run_compareKeys {P : Program} (w : World) (a b : Key) (b1 o1 c1 b2 o2 c2 : Nat) (h1 : w.rangeAt b1 o1 (Enc.enc a)) (h2 : w.rangeAt b2 o2 (Enc.enc b)) :
    (Extern.BytealgCompare.compare #[.slice (some ⟨b1, o1, none⟩) 32 c1, .slice (some ⟨b2, o2, none⟩) 32 c2]).run P w = .ok (.int .i64 (kcmp a b)) w := by
  have e1 := run_keyBytes (P := P) w b1 o1 a h1
  have e2 := run_keyBytes (P := P) w b2 o2 b h2
  change Sem.run P (do pure (goInt (Extern.BytealgCompare.cmp (← Extern.Bytes.bytesOf (.slice (some ⟨b1, o1, none⟩) 32 c1)) (← Extern.Bytes.bytesOf (.slice (some ⟨b2, o2, none⟩) 32 c2))))) w = _
  simp only [Extern.Bytes.bytesOf, Sem.run_bind, e1, e2, Result.andThen_ok, Sem.run_pure, Lib.cmp_eq, kcmp]
  rfl
theorem bytesCompare_ok (a b : Key) (b1 o1 c1 b2 o2 c2 : Nat) (w : World) (h1 : w.rangeAt b1 o1 (Enc.enc a)) (h2 : w.rangeAt b2 o2 (Enc.enc b)) :
    Calls Try.prog 49 #[.slice (some ⟨b1, o1, none⟩) 32 c1, .slice (some ⟨b2, o2, none⟩) 32 c2] w fun e w' => e = .returned (.int .i64 (kcmp a b)) ∧ w = w' := by
  have hx : ∀ (a' : Act) (o : Oper), True := fun _ _ => trivial
  have hrun := run_compareKeys (P := Try.prog) w a b b1 o1 c1 b2 o2 c2 h1 h2
  have hcall : (callFunc 84 #[.slice (some ⟨b1, o1, none⟩) 32 c1, .slice (some ⟨b2, o2, none⟩) 32 c2]).run Try.prog w = .ok (.value (.int .i64 (kcmp a b))) w := by
    rw [run_callFunc_extern Try.func84 (by kernel_rfl) (by kernel_rfl) (by kernel_rfl) (e := Extern.BytealgCompare.compare) (by kernel_rfl), hrun]
    rfl
  have HC := Lib.hid hcall
  clear hcall
  clear hrun hx h1 h2
  go_enter Try.func49, Try.ntmps49
  go_wp2_with (refine st_val rfl (op_callf 84 [.tmp 5, .tmp 6] _ rfl [.slice (some ⟨b1, o1, none⟩) 32 c1, .slice (some ⟨b2, o2, none⟩) 32 c2] rfl HC.out) ?_)
  go_ret
  exact ⟨rfl, rfl⟩
end Go.Pb

/- Small words for the walks by hand: what a row's writing leaves. -/
import Derived.Test.YtadjhnlbpgknfaaWWords
import Derived.Test.YtadjhnlbpgknfaaWMore
import Derived.Lib.SliceRun
namespace Go.Proofs.Ytadjhnlbpgknfaa.P
open Go.RowKit Go.Proofs.YtadjhnlbpgknfaaW.PrintWords Go.Proofs.YtadjhnlbpgknfaaW.PrintLast Go.Proofs.YtadjhnlbpgknfaaW.PrintMore

theorem grown_trans {w w1 w2 : World} {row : Option Nat} (h : w.grownBy w1 row) (k : w1.grownBy w2 row) : w.grownBy w2 row :=
  ⟨k.os.trans h.os, k.tape.trans h.tape, k.output.trans h.output, Nat.le_trans h.size k.size, fun i hi hr => (k.block i (Nat.lt_of_lt_of_le hi h.size) hr).trans (h.block i hi hr)⟩
theorem grown_drewN (w : World) (n : Nat) (row : Option Nat) : w.grownBy (w.drewN n) row := ⟨rfl, rfl, rfl, Nat.le_refl _, fun _ _ _ => rfl⟩
theorem grown_refl (w : World) (row : Option Nat) : w.grownBy w row := ⟨rfl, rfl, rfl, Nat.le_refl _, fun _ _ _ => rfl⟩

theorem clear_ints {e g cap base : Nat} {ok : Nat → Prop} : ∀ (m i n : Nat) (W : World) (ys : List Int), Kd.R (Kd.int .i64) e W base ok (.slice (some ⟨g, 0, none⟩) n cap) ys → i + m = ys.length →
    Kd.R (Kd.int .i64) e (W.setCells g i (List.replicate m (.int .i64 0))) base ok (.slice (some ⟨g, 0, none⟩) n cap) (ys.take i ++ List.replicate m 0) ∧ W.grownBy (W.setCells g i (List.replicate m (.int .i64 0))) (some g)
  | 0, i, n, W, ys, h, hm => by
    have e1 : ys.take i ++ List.replicate 0 0 = ys := by simp [List.take_of_length_le (show ys.length ≤ i by omega)]
    rw [e1]
    exact ⟨h, grown_refl _ _⟩
  | m + 1, i, n, W, ys, h, hm => by
    have h1 := Kd.R_putg h (i : Int) (0 : Int)
    rw [Int.toNat_natCast] at h1
    have h2 := clear_ints m (i + 1) n _ _ h1.1 (by rw [List.length_set]; omega)
    have e1 : (ys.set i 0).take (i + 1) ++ List.replicate m 0 = ys.take i ++ List.replicate (m + 1) (0 : Int) := by
      rw [List.take_succ_eq_append_getElem (by rw [List.length_set]; omega), List.getElem_set_self, List.take_set_of_le (Nat.le_refl i), List.append_assoc]
      rfl
    rw [e1] at h2
    exact ⟨h2.1, grown_trans h1.2 h2.2⟩


end Go.Proofs.Ytadjhnlbpgknfaa.P

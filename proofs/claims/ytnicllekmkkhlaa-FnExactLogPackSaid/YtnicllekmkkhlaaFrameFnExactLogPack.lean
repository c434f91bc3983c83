/- A frame of the log: the reference's bytes and the program's are the same, and so many. No condition but that the numbers are not below 0 and the body is short. -/
import Derived.Test.YtnicllekmkkhlaaCrcFnExactLogPack
import Derived.Test.YtnicllekmkkhlaaUtil
namespace Go.Proofs.Ytnicllekmkkhlaa.QFnExactLogPackF
set_option linter.unusedVariables false
set_option linter.unusedSimpArgs false
open Go.RowKit Go.Proofs.Ytnicllekmkkhlaa.QFnExactLogPack Go.Proofs.YtnicllekmkkhlaaW.PrintWords Go.Proofs.YtnicllekmkkhlaaU
theorem bytes_from (d : Nat) : ∀ (a : Int) (xs : List Int), 0 ≤ a → a ≤ 9223372036854775807 → xs.length = 4 → d ≤ 4 → ∃ r : ByteArray, r.size = 4 ∧ Ev (fun k => spec_l01Bytes.l0 k a xs ((d : Int) - 1)) r ∧ Ev (fun k => impl_bytesOf.l0 k a xs ((d : Int) - 1)) r := by
  induction d with
  | zero =>
    intro a xs h0 h1 hx hd
    refine ⟨strOfNums xs, by rw [strOfNums_size, hx], Ev.succ ?_, Ev.succ ?_⟩
    · simp only [spec_l01Bytes.l0]; exact Ev.neg (by omega) (Ev.some' rfl)
    · simp only [impl_bytesOf.l0]; exact Ev.neg (by omega) (Ev.some' rfl)
  | succ d ih =>
    intro a xs h0 h1 hx hd
    obtain ⟨r, hr, r1, r2⟩ := ih (a / 256) (xs.set (((d + 1 : Nat) : Int) - 1).toNat (a % 256)) (by omega) (by omega) (by rw [List.length_set]; exact hx) (by omega)
    have e := wrap_in (((d + 1 : Nat) : Int) - 1 - 1) (by omega) (by omega)
    have e2 : ((d + 1 : Nat) : Int) - 1 - 1 = (d : Int) - 1 := by omega
    refine ⟨r, hr, Ev.succ ?_, Ev.succ ?_⟩
    · simp only [spec_l01Bytes.l0]
      refine Ev.pos (by omega) (Ev.pos (by omega) (Ev.pos (by omega) ?_))
      rw [e, e2, tmod_nn a 256 h0, Int.tdiv_eq_ediv_of_nonneg h0, wrap_in (a / 256) (by omega) (by omega), show a % 256 % 256 = a % 256 by omega]
      exact r1
    · simp only [impl_bytesOf.l0]
      refine Ev.pos (by omega) (Ev.pos (by omega) (Ev.pos (by omega) ?_))
      rw [e, e2]
      exact r2
theorem bytes_alike (a : Int) (h0 : 0 ≤ a) (h1 : a ≤ 9223372036854775807) : ∃ r : ByteArray, r.size = 4 ∧ Ev (fun k => spec_l01Bytes.f k a 4) r ∧ Ev (fun k => impl_bytesOf.f k a 4) r := by
  obtain ⟨r, hr, r1, r2⟩ := bytes_from 4 a (List.replicate (4 : Int).toNat 0) h0 h1 (by simp) (by omega)
  refine ⟨r, hr, ?_, ?_⟩
  · simp only [spec_l01Bytes.f]; exact Ev.pos (by omega) (Ev.pos (by omega) (by rw [wrap_in (4 - 1) (by omega) (by omega)]; exact r1))
  · simp only [impl_bytesOf.f]; exact Ev.pos (by omega) (Ev.pos (by omega) (by rw [wrap_in (4 - 1) (by omega) (by omega)]; exact r2))
theorem frame_alike (n K : Int) (s : ByteArray) (h0 : 0 ≤ n) (h1 : n ≤ 9223372036854775807) (hs : s.size ≤ 1000000) : ∃ r : ByteArray, r.size = 13 + s.size ∧ Ev (fun k => spec_l04Frame.f k n K s) r ∧ Ev (fun k => impl_frame.f k n K s) r := by
  obtain ⟨a, ha, a1, a2⟩ := bytes_alike n h0 h1
  obtain ⟨b, hb, b1, b2⟩ := bytes_alike (s.size : Int) (by omega) (by omega)
  have hk : (strOfNums [K % 256]).size = 1 := by rw [strOfNums_size]; rfl
  have hz : (((a ++ b) ++ strOfNums [K % 256]) ++ s).size = 9 + s.size := by simp only [ByteArray.size_append]; omega
  have hz2 : (a ++ b).size = 8 := by simp only [ByteArray.size_append]; omega
  have hz3 : ((a ++ b) ++ strOfNums [K % 256]).size = 9 := by simp only [ByteArray.size_append]; omega
  obtain ⟨v, hv, c1, c2⟩ := Go.Proofs.Ytnicllekmkkhlaa.QFnExactLogPackC.crc_alike (((a ++ b) ++ strOfNums [K % 256]) ++ s) (by omega)
  obtain ⟨d, hd, d1, d2⟩ := bytes_alike (v : Int) (by omega) (by omega)
  refine ⟨((((a ++ b) ++ strOfNums [K % 256]) ++ s) ++ d), by rw [ByteArray.size_append]; omega, ?_, ?_⟩
  · simp only [spec_l04Frame.f]
    exact Ev.bind a1 (Ev.bind b1 (Ev.pos (by omega) (Ev.bndc rfl (Ev.pos (by omega) (Ev.pos (by omega) (Ev.bind c1 (Ev.bind d1 (Ev.pos (by omega) (Ev.some' rfl)))))))))
  · simp only [impl_frame.f]
    exact Ev.bind a2 (Ev.bind b2 (Ev.pos (by omega) (Ev.bndc rfl (Ev.pos (by omega) (Ev.pos (by omega) (Ev.bind c2 (Ev.bind d2 (Ev.pos (by omega) (Ev.some' rfl)))))))))
end Go.Proofs.Ytnicllekmkkhlaa.QFnExactLogPackF

/- The program's Crc and the reference's answer alike at every text. No condition. -/
import Derived.Test.YthakgepdabdoeaaCrcPure
namespace Go.Proofs.Ythakgepdabdoeaa.Pure
set_option linter.unusedVariables false
open Go.RowKit Go.Proofs.Ythakgepdabdoeaa.QFnExactCrc Go.Proofs.YthakgepdabdoeaaW.PrintWords
theorem FnExactCrc (s : ByteArray) (hs : s.size ≤ 140737488351232) : ∃ k, laws_FnExactCrc.f k s = some true := by
  obtain ⟨v, _, h1, h2⟩ := QFnExactCrcC.crc_alike s (by omega)
  by_cases c : (s.size : Int) > 1048576
  · exact ⟨0, by simp only [laws_FnExactCrc.f]; rw [if_pos c]⟩
  · refine Ev.rounds (Ev.congr (f := fun k => (spec_Crc.f k s).bind fun a => (impl_Crc.f k s).bind fun b => if b = a then some true else some false) (fun k => by simp only [laws_FnExactCrc.f]; rw [if_neg c]) ?_)
    exact Ev.bind h1 (Ev.bind h2 (by simp only [if_true]; exact Ev.now _))
end Go.Proofs.Ythakgepdabdoeaa.Pure

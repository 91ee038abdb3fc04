/- The law of texts, with no program: a number is written, and a text is read, as the reference does it. -/
import Derived.Test.YtceglknbonfdeaaN14
import Derived.Test.YtceglknbonfdeaaDNatTexts
namespace Go.Proofs.Ytceglknbonfdeaa.Pure
open Go.RowKit Go.Proofs.YtceglknbonfdeaaW.PrintWords Go.Proofs.YtceglknbonfdeaaW.PrintLast Go.Proofs.YtceglknbonfdeaaW.PrintMore PNat
set_option linter.unusedVariables false
theorem NatTexts : fluxionlaw01_NatTexts.Pure := by
  intro l0 a1 _ _ w0 _
  have dx := dig_take (dig_wf w0) 516
  have sx := take_le l0 516
  have tx := cut_eq l0 516 (by omega)
  generalize l0.take 516 = x at *
  refine ev_out (r := true) ?_
  unfold fluxionlaw01_NatTexts.f
  refine ev_val tx ?_
  have hb := valid_eq x (by omega)
  have hj : Ev (fun k => fluxionlaw01_NatTexts.j0 k a1) true := by
    have m0 : 0 ≤ mn (a1.size : Int) 5000 := by unfold mn; split <;> omega
    have m1 : mn (a1.size : Int) 5000 ≤ (a1.size : Int) := by unfold mn; split <;> omega
    have m2 : mn (a1.size : Int) 5000 ≤ 5000 := by unfold mn; split <;> omega
    have hs : (a1.extract 0 (mn (a1.size : Int) 5000).toNat).size ≤ 1000000 := by
      rw [ByteArray.size_extract]
      omega
    obtain ⟨⟨r1, r2⟩, p1, p2, p3⟩ := parse_both _ hs
    refine ev_succ ?_
    simp only [fluxionlaw01_NatTexts.j0]
    refine ev_if m0 (ev_if m1 (Ev.bind p1 (Ev.bind p2 ?_)))
    have hi : Ev (fun k => fluxionlaw01_is.f k r1 r2 r1 r2) true := by
      rcases p3 with ⟨e1, e2⟩ | ⟨e1, e2⟩
      · have e1' : r2 = 0 := e1
        have e2' : r1.length ≤ 4900 := e2
        rw [e1']
        exact is_ok rfl (by omega)
      · have e2' : r1 = [] := e2
        rw [e2']
        exact is_bad e1 _
    exact Ev.bind hi (ev_if rfl (ev_val alive_true (ev_some _)))
  by_cases h : fE x = 0
  · obtain ⟨sx', cx⟩ := (fE_zero dx).1 h
    exact Ev.bind (Text_ok cx sx') (ev_val hb (ev_if h (Ev.bind (rtext_f cx sx') (ev_if rfl (ev_if rfl hj)))))
  · exact Ev.bind (Text_bad (by omega) h) (ev_val hb (ev_else h (ev_if (by rw [ByteArray.toList_eq]) (ev_if rfl hj))))
end Go.Proofs.Ytceglknbonfdeaa.Pure

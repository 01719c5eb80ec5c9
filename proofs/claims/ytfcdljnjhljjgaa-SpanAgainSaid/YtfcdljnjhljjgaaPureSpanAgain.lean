import Derived.Test.YtfcdljnjhljjgaaSaySpanAgain
import Derived.Test.YtfcdljnjhljjgaaPureSB
namespace Go.Proofs.Ytfcdljnjhljjgaa.PureF
set_option linter.unusedVariables false
set_option linter.unusedSimpArgs false
open Go.RowKit Go.Proofs.YtfcdljnjhljjgaaW.PrintWords Go.Proofs.YtfcdljnjhljjgaaW.PrintLast Go.Proofs.YtfcdljnjhljjgaaW.PrintMore Go.Proofs.Ytfcdljnjhljjgaa.Hand Go.Proofs.Ytfcdljnjhljjgaa.HSpan
theorem again_ev (a0 a1 : Int) (l : List S35) : Ev (fun k => stickfullaw20_SpanAgain.f k a0 a1 l) true := by
  unfold stickfullaw20_SpanAgain.f
  by_cases hlen : (l.length : Int) > 60
  · exact Ev.congr (fun k => if_pos hlen) head_ev2
  refine Ev.congr (fun k => if_neg hlen) ?_
  rcases line_or a0 a1 l (by omega) with e | ⟨hF, e⟩
  · refine Ev.congr (fun k => ?_) head_ev2
    rw [e, Option.bind_some, if_neg (by decide)]
  · rcases line_or (lineS a0 a1 l).1 (lineS a0 a1 l).2 l (by omega) with e2 | ⟨hF2, e2⟩
    · refine Ev.congr (fun k => ?_) head_ev2
      rw [e, Option.bind_some, if_pos rfl, e2, Option.bind_some, if_neg (by decide)]
    · rw [again hF hF2] at e2
      refine Ev.congr (f := fun k => (stickfulref20_Same.f k (l.map (outP (lineS a0 a1 l))) (l.map (outP (lineS a0 a1 l)))).bind fun t427 => (if t427 = true then ((stickfullaw20_head.f k).bind fun t428 => (some t428)) else (some false))) (fun k => ?_) (Ev.bind (same_ev _ (by rw [List.length_map]; omega)) (Ev.congr (fun k => if_pos rfl) head_ev2))
      rw [e, Option.bind_some, if_pos rfl, e2, Option.bind_some, if_pos rfl, if_pos (by simp)]
end Go.Proofs.Ytfcdljnjhljjgaa.PureF
namespace Go.Proofs.Ytfcdljnjhljjgaa.Pure
open Go.RowKit Go.Proofs.YtfcdljnjhljjgaaW.PrintWords Go.Proofs.YtfcdljnjhljjgaaW.PrintLast Go.Proofs.YtfcdljnjhljjgaaW.PrintMore Go.Proofs.Ytfcdljnjhljjgaa.Hand Go.Proofs.Ytfcdljnjhljjgaa.HSpan
theorem SpanAgain : stickfullaw20_SpanAgain.Pure := fun x0 l _ _ => (PureF.again_ev x0.f0 x0.f1 l).rounds
end Go.Proofs.Ytfcdljnjhljjgaa.Pure

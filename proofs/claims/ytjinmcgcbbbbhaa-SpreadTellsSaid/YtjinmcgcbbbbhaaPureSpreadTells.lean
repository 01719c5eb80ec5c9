/- SpreadTells: at most 200 pieces of any numbers, in any width: where they stand is the document's, or refused; for every slice within the reading's reach. -/
import Derived.Test.YtjinmcgcbbbbhaaHSpreadx4
import Derived.Test.YtjinmcgcbbbbhaaPureSp
namespace Go.Proofs.Ytjinmcgcbbbbhaa.Pure
open Go.RowKit Go.Proofs.Ytjinmcgcbbbbhaa.HSpread Go.Proofs.YtjinmcgcbbbbhaaW.PrintWords Go.Proofs.YtjinmcgcbbbbhaaW.PrintLast

theorem SpreadTells : stickfullaw17_SpreadTells.Pure := by
  intro l a _ _ _ _
  refine Ev.rounds (r := true) ?_
  by_cases hl : (l.length : Int) > 200
  · refine Ev.congr (fun k => ?_) head_ev2
    unfold stickfullaw17_SpreadTells.f
    rw [if_pos hl]
  · have e : ∀ k, stickfullaw17_SpreadTells.f k l a = (stickfulref17_Around.f k l a).bind fun b => (stickfulref17_Same.f k (ans l a).1 b.1).bind fun t => if t = true then (if (ans l a).2 = b.2 then (stickfullaw17_head.f k).bind fun t => some t else some false) else some false := fun k => by
      unfold stickfullaw17_SpreadTells.f
      rw [if_neg hl, around_ans (by omega)]
      rfl
    refine Ev.congr e (Ev.bind (ref_around (by omega) a) (Ev.bind (same_ev _ (by have := ans_length l a; omega)) (Ev.congr (fun k => ?_) head_ev2)))
    rw [if_pos rfl, if_pos rfl]
end Go.Proofs.Ytjinmcgcbbbbhaa.Pure

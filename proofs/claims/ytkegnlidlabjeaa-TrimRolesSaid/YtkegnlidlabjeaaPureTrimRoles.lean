/- Roles of cells, and how far lines go, are what the document says: the plain law. No condition of its own. -/
import Derived.Test.YtkegnlidlabjeaaPureRf
import Derived.Test.YtkegnlidlabjeaaSayTrimRoles
namespace Go.Proofs.Ytkegnlidlabjeaa.Pure
open Go.RowKit Go.Proofs.YtkegnlidlabjeaaW.PrintWords Go.Proofs.YtkegnlidlabjeaaW.PrintLast Go.Proofs.YtkegnlidlabjeaaW.PrintMore Go.Proofs.Ytkegnlidlabjeaa.Hand Go.Proofs.Ytkegnlidlabjeaa.HTrim
theorem TrimRoles : stickfullaw13_TrimRoles.Pure := by
  intro l x hl hx
  refine Ev.rounds (r := true) ?_
  show Ev (fun k => stickfullaw13_TrimRoles.f k l x) true
  have hok : ∀ d ∈ l, okC d := fun d hd => okC_of (hl.2.2 d hd)
  have hx1 := i64_of hx
  unfold stickfullaw13_TrimRoles.f
  by_cases h1 : (l.length : Int) > 150
  · exact Ev.congr (fun k => if_pos h1) head_ev2
  · refine Ev.congr (fun k => if_neg h1) ?_
    have hlen : l.length ≤ 100000 := by omega
    rw [fits_eq hlen hok hx1, goes_eq hlen hok hx1, roles_ev hlen]
    refine Ev.bind (a := endR ((rolesZ true l).map unH) l x) (Ev.now _) ?_
    refine Ev.bind (rfits_ev hlen hok) ?_
    refine Ev.bind (a := endR (rolesZ true l) l x) (Ev.now _) ?_
    refine Ev.bind (rgoes_ev hlen hok) ?_
    refine Ev.bind (a := rolesZ true l) (Ev.now _) ?_
    refine Ev.bind (rroles_ev l hlen) ?_
    refine Ev.bind (same_ev (rolesZ true l) (by rw [rolesZ_len]; exact hlen)) ?_
    refine Ev.congr (fun k => if_pos rfl) ?_
    refine Ev.bind (tblank_ev l hlen) ?_
    refine Ev.bind (rblank_ev l hlen) ?_
    refine Ev.congr (fun k => (if_pos (by simp)).trans ((if_pos rfl).trans ((if_pos rfl).trans ((if_pos rfl).trans (if_pos rfl))))) ?_
    exact head_ev2
end Go.Proofs.Ytkegnlidlabjeaa.Pure

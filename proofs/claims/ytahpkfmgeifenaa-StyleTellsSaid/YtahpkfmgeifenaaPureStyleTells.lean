import Derived.Test.YtahpkfmgeifenaaPureSt2
import Derived.Test.YtahpkfmgeifenaaSayStyleTells
namespace Go.Proofs.Ytahpkfmgeifenaa.Pure
open Go.RowKit Go.Proofs.YtahpkfmgeifenaaW.PrintWords Go.Proofs.YtahpkfmgeifenaaW.PrintLast Go.Proofs.YtahpkfmgeifenaaW.PrintMore Go.Proofs.Ytahpkfmgeifenaa.Hand Go.Proofs.Ytahpkfmgeifenaa.HStyle
theorem u16_of {n : Int} (h : (Lit.int .u16 n).wf = true) : 0 ≤ n ∧ n < 65536 := by
  have h2 : IntKind.u16.min ≤ n ∧ n ≤ IntKind.u16.max := by simpa [Lit.wf] using h
  have e1 : IntKind.u16.min = 0 := rfl
  have e2 : IntKind.u16.max = 65535 := rfl
  omega
theorem StyleTells : stickfullaw06_StyleTells.Pure := by
  intro s x y hs hx hy
  obtain ⟨da, a⟩ := x
  obtain ⟨db, b⟩ := y
  have ha : 0 ≤ da ∧ da < 65536 := u16_of hx.1
  have hb : 0 ≤ db ∧ db < 65536 := u16_of hy.1
  refine Ev.rounds (r := true) ?_
  show Ev (fun k => stickfullaw06_StyleTells.f k s.f0 s.f1 s.f2 s.f3 s.f4 s.f5 s.f6 s.f7 s.f8 da a.f0 a.f1 a.f2 a.f3 a.f4 a.f5 a.f6 a.f7 a.f8 db b.f0 b.f1 b.f2 b.f3 b.f4 b.f5 b.f6 b.f7 b.f8) true
  unfold stickfullaw06_StyleTells.f
  rw [resolve_eq, merge_eq, refCheck, decl_eq]
  refine Ev.congr (fun k => rfl) (Ev.bind (Ev.now _) (Ev.bind (refResolve s ha.1 ha.2 a) (Ev.bind (Ev.now _) (Ev.bind (refMerge ha.1 ha.2 a hb.1 hb.2 b) (Ev.bind (Ev.now (if mayAll s = true then (0 : Int) else 60)) (Ev.bind (Ev.now (if mayAll s = true then (0 : Int) else 60)) ?_))))))
  refine Ev.congr (fun k => if_pos rfl) (Ev.bind (Ev.now _) (Ev.bind (refDecl ha.1 ha.2 a) ?_))
  refine Ev.congr (fun k => ?_) head_ev2
  rw [if_pos rfl]
  simp [style_First.f, stickfulref06_First.f]
end Go.Proofs.Ytahpkfmgeifenaa.Pure

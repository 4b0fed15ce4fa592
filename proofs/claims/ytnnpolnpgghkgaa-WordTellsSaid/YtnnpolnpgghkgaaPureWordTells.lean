import Derived.Test.YtnnpolnpgghkgaaPx6
import Derived.Test.YtnnpolnpgghkgaaPHeads02
import Derived.Test.YtnnpolnpgghkgaaPRefUnq
namespace Go.Proofs.Ytnnpolnpgghkgaa.Pure
open Go.RowKit Go.Proofs.Ytnnpolnpgghkgaa.P Go.Proofs.YtnnpolnpgghkgaaW.PrintWords Go.Proofs.YtnnpolnpgghkgaaW.PrintLast
theorem WordTells : horariumlaw02_WordTells.Pure := by
  intro a0 a1 h0 h1
  apply Ev.rounds
  unfold horariumlaw02_WordTells.f
  by_cases c0 : (a0.size : Int) > 2000
  · refine Ev.ifp c0 (Ev.step (fun k => horariumlaw02_WordTells.j0.eq_2 ..) ?_)
    exact Ev.ifp rfl heads_ev
  · refine Ev.ifn c0 (Ev.step (fun k => horariumlaw02_WordTells.j0.eq_2 ..) ?_)
    by_cases c1 : (a1.size : Int) > 2000
    · exact Ev.ifp (decide_eq_true c1) heads_ev
    · refine Ev.ifn (by simpa using c1) ?_
      refine Ev.call (unquote_ev a1 h1) (Ev.call (refunq_ev a1 h1) (Ev.call (quote_ev a0 (by omega)) (Ev.call (Ev.const (refQuote_eq a0 h0)) ?_)))
      exact Ev.ifp rfl (Ev.ifp rfl (Ev.ifp rfl heads_ev))
end Go.Proofs.Ytnnpolnpgghkgaa.Pure

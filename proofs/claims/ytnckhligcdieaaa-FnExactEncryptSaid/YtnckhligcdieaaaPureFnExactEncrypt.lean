/- The law on Encrypt: the program's cipher is the reference's. -/
import Derived.Test.YtnckhligcdieaaaPx0
import Derived.Test.YtnckhligcdieaaaV0
import Derived.Test.YtnckhligcdieaaaHB2
import Derived.Test.YtnckhligcdieaaaHB3
import Derived.Laws.BitsAllLaws
import Derived.Laws.BitsLemmas
import Derived.Test.YtnckhligcdieaaaHB4
import Derived.Test.YtnckhligcdieaaaHB5
import Derived.Test.YtnckhligcdieaaaHB6
import Derived.Test.YtnckhligcdieaaaPx5
import Derived.Test.YtnckhligcdieaaaPx6
import Derived.Test.YtnckhligcdieaaaPx7
import Derived.Test.YtnckhligcdieaaaPx8
import Derived.Test.YtnckhligcdieaaaPx9
import Derived.Test.YtnckhligcdieaaaPx15
import Derived.Test.YtnckhligcdieaaaPx16
import Derived.Test.YtnckhligcdieaaaPx17
import Derived.Test.YtnckhligcdieaaaPx18
import Derived.Test.YtnckhligcdieaaaHB2
import Derived.Test.YtnckhligcdieaaaHB3
import Derived.Test.YtnckhligcdieaaaHB1
import Derived.Test.YtnckhligcdieaaaHB5
import Derived.Test.YtnckhligcdieaaaHB4
import Derived.Test.YtnckhligcdieaaaHB6
import Derived.Test.YtnckhligcdieaaaKFnExactEncrypt
namespace Go.Proofs.Ytnckhligcdieaaa.Pure
open Go.RowKit Go.Proofs.YtnckhligcdieaaaW.PrintWords Go.Proofs.YtnckhligcdieaaaW.PrintLast Go.Proofs.YtnckhligcdieaaaW.PrintMore Go.Proofs.Ytnckhligcdieaaa.P

theorem FnExactEncrypt : laws_FnExactEncrypt.Pure := by
  intro s m c _ _ _
  refine Ev.rounds ?_
  unfold laws_FnExactEncrypt.f
  by_cases h : (s.size : Int) > 1048576
  · exact Ev.pos h (Ev.now _)
  by_cases h2 : (m.size : Int) > 1048576
  · exact Ev.neg h (Ev.pos h2 (Ev.now _))
  by_cases h3 : (c.size : Int) > 1048576
  · exact Ev.neg h (Ev.neg h2 (Ev.pos h3 (Ev.now _)))
  obtain ⟨r, e1, e2⟩ := encrypt_any s m c
  exact Ev.neg h (Ev.neg h2 (Ev.neg h3 (Ev.bind e1 (Ev.bind e2 (Ev.pos rfl (Ev.neg (by simp) (Ev.now _)))))))
end Go.Proofs.Ytnckhligcdieaaa.Pure

/- Plain laws of boards: the specification's earliest start is the program's own;the search for the first task of an order from behind. -/
import Derived.Test.YtjpgnfekbojcaaaGreatWJLaw1
import Derived.Test.YtjpgnfekbojcaaaGreatWSer
namespace W8
open W7
theorem readyGo_iff {j:JobP} {b:Bd}:∀ {l:List Int} {at' t:Int},readyGo j b l at'<=t↔at'<=t/\∀k∈l,endV j b k.toNat<=t
 | [],at',t=>by simp[readyGo]
 | k::l,at',t=>by
  simp only[readyGo];rw[readyGo_iff];simp only[List.mem_cons,forall_eq_or_imp]
  constructor
  ·rintro⟨h1,h2⟩;exact⟨by omega,by omega,h2⟩
  ·rintro⟨h1,h2,h3⟩;exact⟨by omega,h3⟩
theorem may_parts {j:JobP} {pl:List Bool} {n:Nat}:mayB j pl n=true↔pl.getD n false=false/\standB pl (j.tasks.getD n default).needs=true:=by
 unfold mayB;rw[Bool.and_eq_true,Bool.not_eq_true']
end W8

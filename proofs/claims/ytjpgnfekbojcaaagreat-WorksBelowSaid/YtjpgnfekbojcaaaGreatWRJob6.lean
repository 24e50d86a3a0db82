/- The specification's load of a resource in a minute. -/
import Derived.Test.YtjpgnfekbojcaaaGreatWHeavy
namespace Go.Proofs.YtjpgnfekbojcaaaGreat
open Go.RowKit W7 W8
attribute [local go_sem] Oper.semAt_some
structure RBd (X:World) (SA:Option Addr) (pb n:Nat) (b:Bd):Prop where
 st:Sl X X.heap.size 1 encInt1 SA b.st
 pl:X.heap[pb]? =some (.cells (b.pl.map Value.bool).toArray 4 (0,0))
 ns:b.st.length=n
 np:b.pl.length=n
theorem RBd.below {X Y:World} {SA:Option Addr} {pb n:Nat} {b:Bd} (h:RBd X SA pb n b) (hb:Bl X Y):RBd Y SA pb n b:=
 ⟨(h.st.below hb).mono hb.size,(hb.block _ (blk_lt h.pl)).trans h.pl,h.ns,h.np⟩
end Go.Proofs.YtjpgnfekbojcaaaGreat

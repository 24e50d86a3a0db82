/- Works: the closed examples of the law (digs): the way of a train. -/
import Derived.Test.YtjpgnfekbojcaaaGreatWDigV
import Derived.Test.YtjpgnfekbojcaaaGreatWIns
namespace Go.Proofs.YtjpgnfekbojcaaaGreat
open Go.RowKit W7 W8
theorem dIns:DInsAll:=fun w g1 g2 b1 b2 h1 h2 h3 h4=>by
 show Calls Tryz.prog 32 _ w _
 have hl:LnIn w w.heap.size (lineX (some ⟨g1,0,none⟩) 1 (some ⟨g2,0,none⟩) 2):=⟨sl_blk (enc:=encInt1) (fun _=>rfl) h1 rfl (blk_lt h1),sl_blk (enc:=encInt1) (fun _=>rfl) h2 rfl (blk_lt h2),Nat.le_of_ble_eq_true rfl,Nat.le_of_ble_eq_true rfl,Nat.le_of_ble_eq_true rfl,Nat.le_of_ble_eq_true rfl⟩
 have ht:TabIn w w.heap.size (some ⟨b2,0,none⟩) 1 1 [⟨some ⟨b1,0,none⟩,2,[⟨0,0,0⟩,⟨1,3,5⟩]⟩]:=⟨rfl,Nat.le_refl _,by decide,sl_blk (enc:=encWay) (fun _=>rfl) h4 rfl (blk_lt h4),fun x hx=>by
  rw[List.mem_singleton.1 hx];exact⟨sl_blk (enc:=encCall) (fun _=>rfl) h3 rfl (blk_lt h3),Nat.le_of_ble_eq_true rfl,Nat.le_of_ble_eq_true rfl⟩⟩
 refine(Insert_any _ _ (some ⟨b2,0,none⟩) 1 1 w.heap.size ⟨1,0,0⟩ w hl ht (Nat.le_refl _)).mono ?_;rintro e w' ⟨⟨v,rfl,ho⟩,hbel⟩;have hV:insV (lineX (some ⟨g1,0,none⟩) 1 (some ⟨g2,0,none⟩) 2) (tabP [⟨some ⟨b1,0,none⟩,2,[⟨0,0,0⟩,⟨1,3,5⟩]⟩]) ⟨1,0,0⟩=[⟨1,6,6⟩,⟨0,9,9⟩]:=dig_insV _ _ _ _;have hE:insErr (lineX (some ⟨g1,0,none⟩) 1 (some ⟨g2,0,none⟩) 2) (tabP [⟨some ⟨b1,0,none⟩,2,[⟨0,0,0⟩,⟨1,3,5⟩]⟩]) ⟨1,0,0⟩=0:=dig_ins _ _ _ _;rw[hV] at ho;rw[hE];obtain⟨g,c,rfl,_⟩:=own_form ho (by show 0<2;decide);obtain⟨c1,c2⟩:=own_cap2 ho;exact⟨g,c,rfl,c1,c2,⟨ho.cellAt 0 (by show 0<2*3;decide),ho.cellAt 1 (by show 1<2*3;decide),ho.cellAt 2 (by show 2<2*3;decide)⟩,⟨ho.cellAt 3 (by show 3<2*3;decide),ho.cellAt 4 (by show 4<2*3;decide),ho.cellAt 5 (by show 5<2*3;decide)⟩,hbel⟩
theorem digs_any (w:World):Calls Tryz.prog 16 #[] w fun e w'=>e= .returned (.bool true)/\Bl w w':=digs1_any dIns w
end Go.Proofs.YtjpgnfekbojcaaaGreat

/- Over any program: rows of the call's own: their cells,their blocks,what a growth leaves. -/
import Derived.Test.YtjpgnfekbojcaaaGreatWLeaf
import Derived.Deep.DeepCutAuto
import Derived.Test.YtjpgnfekbojcaaaGreatRows
import Derived.JoinedOf
import Derived.ProofKit
set_option maxHeartbeats 2000000
set_option maxRecDepth 100000
namespace Go.Proofs.YtjpgnfekbojcaaaGreat
open Go.RowKit W7
theorem own_mono {w:World} {base base' e size n:Nat} {v:Value} {xs:List Value} (h:w.ownsRow base e size v n xs) (hb:base'<=base):w.ownsRow base' e size v n xs:=
 ⟨h.1,h.2.imp id fun⟨g,cap,cur,h1,h2,h3⟩=>⟨g,cap,cur,h1,Nat.le_trans hb h2,h3⟩⟩
theorem getD_lt {α:Type} [Inhabited α] {l:List α} {i:Nat} (h:i<l.length):l.getD i default=l[i]:=by
 rw[zA,zB h,Option.getD_some]
theorem owns_block {w:World} {base e size n:Nat} {v:Value} {xs:List Value} (h:w.ownsRow base e size v n xs):∀k,v.ownBlock=some k->∃cs,w.heap[k]? =some (.cells cs e (0,0)):=by
 intro k hk;rcases h.2 with⟨rfl,_⟩ | ⟨g,cap,cur,rfl,_,hc,_⟩
 ·simp[Value.ownBlock] at hk
 ·simp[Value.ownBlock] at hk;exact⟨cur,hk▸hc⟩
theorem owns_cells {w:World} {base e n:Nat} {v:Value} {xs:List Value} (h:w.ownsRow base e 1 v n xs) (hn:0<n) :
  ∃g cap,v= .slice (some ⟨g,0,none⟩) n cap/\base<=g/\g<w.heap.size/\n<=cap/\cap<=9223372036854775807/\∀(j:Nat) (u:Value),xs[j]? =some u->w.cell? ⟨g,0+j,none⟩=some u:=by
 rcases h.2 with⟨_,h0⟩ | ⟨g,cap,cur,rfl,hb,hg,h1,h2,h3,h4⟩
 ·omega
 ·refine⟨g,cap,rfl,hb,(zT.1 hg).1,h1,by unfold maxLen at h2;omega,fun j u hu=> ?_⟩;rw[<- h4] at hu
  have hj:j<n:=by
   have:=(List.getElem?_eq_some_iff.1 hu).1;rw[List.length_take] at this;omega
  rw[List.getElem?_take,if_pos (by omega)] at hu;simp only[World.cell?,hg,Nat.zero_add]
  simpa using hu
theorem grown_trans {a b c:World} {row:Option Nat} (h:a.grownBy b row) (k:b.grownBy c row):a.grownBy c row:=
 ⟨k.os.trans h.os,k.tape.trans h.tape,k.output.trans h.output,Nat.le_trans h.size k.size,fun i hi hn=>(k.block i (Nat.lt_of_lt_of_le hi h.size) hn).trans (h.block i hi hn)⟩
def GLater (w:World) (row:Option Nat):Type:={ W:World // w.grownBy W row }
def GLater.w {w:World} {row:Option Nat} (e:GLater w row):World:=e.1
theorem GLater.g {w:World} {row:Option Nat} (e:GLater w row):w.grownBy e.w row:=e.2
theorem glater_cell {w:World} {row:Option Nat} {b o:Nat} {v:Value} (h:w.cell? ⟨b,o,none⟩=some v) (hb:b<w.heap.size) (hr:some b≠row):∀e:GLater w row,e.w.cell? ⟨b,o,none⟩=some v:=fun e=>by
 rw[<- h];exact World.cell?_of_block (a:=⟨b,o,none⟩) (e.g.block b hb hr)
def NewBlk (w X:World) (g:Nat) (cs:Array Value) (e:TypeId):Prop:=w.heap.size<=g/\X.heap[g]? =some (.cells cs e (0,0))
theorem NewBlk.lt {w X:World} {g:Nat} {cs:Array Value} {e:TypeId} (h:NewBlk w X g cs e):g<X.heap.size:=(zT.1 h.2).1
theorem NewBlk.below {w X Y:World} {g:Nat} {cs:Array Value} {e:TypeId} (h:NewBlk w X g cs e) (hb:Bl X Y):NewBlk w Y g cs e:=⟨h.1,(hb.block g h.lt).trans h.2⟩
theorem NewBlk.new {w X:World} {cs:Array Value} {e:TypeId} (h:w.heap.size<=X.heap.size):NewBlk w (X.alloc (.cells cs e)) X.heap.size cs e:=⟨h,zW X _⟩
theorem own_kind {w w':World} {base base' e e' size size' n m:Nat} {v u:Value} {xs ys:List Value} (h:w.ownsRow base e size v n xs) (hr:w.ownsRow base' e' size' u m ys) (hg:w.grownBy w' u.ownBlock) (hne:e≠e'):w'.ownsRow base e size v n xs:=
 h.kept hg (by
  cases hv:v.ownBlock with
  | none=>exact .inl rfl
  | some k=>
   refine .inr fun hk=> ?_
   obtain⟨cs,hc⟩:=owns_block h k hv;obtain⟨cs',hc'⟩:=owns_block hr k hk.symm;rw[hc] at hc';simp only[Option.some.injEq,Obj.cells.injEq] at hc';exact hne hc'.2.1)
theorem row_ne {w:World} {base e size n k:Nat} {v:Value} {xs:List Value} {o:Obj} (h:w.ownsRow base e size v n xs) (hk:w.heap[k]? =some o) (ho:∀cs,o≠ .cells cs e (0,0)):some k≠v.ownBlock:=fun hv=>by
 obtain⟨cs,hc⟩:=owns_block h k hv.symm;rw[hk] at hc;exact ho cs (zJ hc)
theorem own_cap' {w:World} {base e size n:Nat} {v:Value} {xs:List Value} (h:w.ownsRow base e size v n xs):∃A c,v= .slice A n c/\n<=c/\c<=9223372036854775807:=by
 rcases h.2 with⟨rfl,rfl⟩ | ⟨g,cap,cur,rfl,_,_,h1,h2,_⟩
 ·exact⟨_,_,rfl,zm _,by decide⟩
 ·exact⟨_,_,rfl,h1,by unfold maxLen at h2;omega⟩
theorem own_setK {w:World} {base e e' size n lb j:Nat} {v:Value} {xs:List Value} {cs:Array Value} {fz:Nat×Nat} (h:w.ownsRow base e size v n xs) (hL:w.heap[lb]? =some (.cells cs e' fz)) (hne:e'≠e) (u:Value):(w.setCell ⟨lb,j,none⟩ u).ownsRow base e size v n xs:=by
 refine h.kept (row:=some lb) ⟨rfl,rfl,rfl,by simp[World.setCell],fun k _ hk=>Below.heap_setCell _ _ _ _ (fun e=>hk (by simp[e]))⟩ ?_;cases hv:v.ownBlock with
 | none=>exact .inl rfl
 | some k=>
  refine .inr fun hk=> ?_
  obtain rfl:=zJ hk;obtain⟨cs',hc⟩:=owns_block h k hv;rw[hL] at hc;simp only[Option.some.injEq,Obj.cells.injEq] at hc;exact hne hc.2.1
theorem owns_cellsN {w:World} {base e size n:Nat} {v:Value} {xs:List Value} (h:w.ownsRow base e size v n xs) (hn:0<n) :
  ∃g cap,v= .slice (some ⟨g,0,none⟩) n cap/\base<=g/\g<w.heap.size/\n<=cap/\cap<=9223372036854775807/\∀(j:Nat) (u:Value),xs[j]? =some u->w.cell? ⟨g,j,none⟩=some u:=by
 rcases h.2 with⟨_,h0⟩ | ⟨g,cap,cur,rfl,hb,hg,h1,h2,h3,h4⟩
 ·omega
 ·refine⟨g,cap,rfl,hb,(zT.1 hg).1,h1,by unfold maxLen at h2;omega,fun j u hu=> ?_⟩;rw[<- h4] at hu
  have hj:j<n*size:=by
   have:=(List.getElem?_eq_some_iff.1 hu).1;rw[List.length_take] at this;omega
  rw[List.getElem?_take,if_pos hj] at hu;simp only[World.cell?,hg]
  simpa using hu
theorem flat_get {α:Type} {enc:α->List Value} {k:Nat} (hk:∀x,(enc x).length=k):∀(xs:List α) (i j:Nat) (hi:i<xs.length),j<k->(xs.flatMap enc)[i*k+j]? =(enc xs[i])[j]?
 | x::r,0,j,_,hj=>by
  show(enc x++r.flatMap enc)[0*k+j]? =_
  rw[Nat.zero_mul,Nat.zero_add,List.getElem?_append_left (by rw[hk];exact hj)]
  rfl
 | x::r,i+1,j,hi,hj=>by
  show(enc x++r.flatMap enc)[(i+1)*k+j]? =_
  rw[List.getElem?_append_right (by rw[hk,Nat.add_mul];omega),hk,show(i+1)*k+j-k=i*k+j by rw[Nat.add_mul];omega,flat_get hk r i j (by simpa using hi) hj]
  rfl
theorem sl_own2 {α:Type} {enc:α->List Value} {k:Nat} (hk:∀x,(enc x).length=k) {w:World} {base e:Nat} {A:Option Addr} {c:Nat} {xs:List α} (h:w.ownsRow base e k (.slice A xs.length c) xs.length (xs.flatMap enc)):Sl w w.heap.size k enc A xs:=fun h0=>by
 obtain⟨g,cap,e1,_,hgw,_,_,hc⟩:=owns_cellsN h h0;cases e1;refine⟨g,0,rfl,hgw,fun i hi j v hv=> ?_⟩
 have hj:j<k:=by
  rcases Nat.lt_or_ge j k with h1 | h1
  ·exact h1
  ·rw[List.getElem?_eq_none (by rw[hk];exact h1)] at hv;cases hv
 have:=hc (i*k+j) v ((flat_get hk xs i j hi hj).trans hv)
 simpa using this
end Go.Proofs.YtjpgnfekbojcaaaGreat
namespace W7
open Go Go.RowKit
theorem bc {X:World} {g j:Nat} {cs:Array Value} {T:TypeId} {fz:Nat×Nat} {v:Value} (h:X.heap[g]? =some (.cells cs T fz)) (hj:cs[j]? =some v):X.cell? ⟨g,j,none⟩=some v:=by
 simp only[World.cell?,h];exact hj
theorem bf {X:World} {g j:Nat} {cs:Array Value} {T:TypeId} (h:X.heap[g]? =some (.cells cs T (0,0))):X.frozen? ⟨g,j,none⟩=false:=by
 simp[World.frozen?,h]
theorem kC (j:Nat) {X:World} {g:Nat} {cs:Array Value} {T:TypeId} {fz:Nat×Nat} {v:Value} (h:X.heap[g]? =some (.cells cs T fz)) (hj:cs[j]? =some v):X.cell? ⟨g,j,none⟩=some v:=bc h hj
theorem kF (j:Nat) {X:World} {g:Nat} {cs:Array Value} {T:TypeId} (h:X.heap[g]? =some (.cells cs T (0,0))):X.frozen? ⟨g,j,none⟩=false:=bf h
theorem blk_lt {X:World} {g:Nat} {o:Obj} (h:X.heap[g]? =some o):g<X.heap.size:=(zT.1 h).1
theorem blk_set {X:World} {g j:Nat} {cs:Array Value} {T:TypeId} {fz:Nat×Nat} (h:X.heap[g]? =some (.cells cs T fz)) (v:Value):(X.setCell ⟨g,j,none⟩ v).heap[g]? =some (.cells (cs.setIfInBounds j v) T fz):=by
 simp[World.setCell,Array.getElem?_modify,h]
theorem blk_set_ne {X:World} {g b j:Nat} (hne:b≠g) (v:Value):(X.setCell ⟨b,j,none⟩ v).heap[g]? =X.heap[g]? :=Below.heap_setCell _ _ _ _ (Ne.symm hne)
theorem add_off (g q:Nat):(⟨g,0,none⟩:Addr).add q=⟨g,q,none⟩:=by unfold Addr.add;split<;>simp_all
theorem BlkAt.src {W X:World} {g size:Nat} {cs:Array Value} (h:BlkAt W X g cs.toList) (hs:cs.size=size):Src X size (some ⟨g,0,none⟩) 1 cs.toList:=
 .inr ⟨_,rfl,by simp[hs],fun q u hu=>by rw[add_off];exact h.cell q u hu⟩
theorem boxes1 (w:World) (o:Obj):∃W:World,Hid (W=w.alloc o)/\W.heap.size=w.heap.size+1/\Hid (Bl w W)/\Hid (∀X:World,Bl W X->X.heap[w.heap.size]? =some o)/\Hid (∀X:World,Bl W X->Bl w X):=by
 have hs:(w.alloc o).heap.size=w.heap.size+1:=by simp
 have hb:Below w.heap.size w (w.alloc o):=(zX _ _).alloc (zm _) _;exact⟨_,hI rfl,hs,hI hb,hI (fun X hX=>(hX.block _ (by omega)).trans (zW w o)),hI (fun X hX=>hb.trans (hX.mono (by omega)))⟩
theorem boxes2 (w:World) (o o':Obj):∃W:World,Hid (W=(w.alloc o).alloc o')/\W.heap.size=w.heap.size+2/\Hid (Bl w W)/\Hid (∀X:World,Bl W X->X.heap[w.heap.size]? =some o)/\Hid (∀X:World,Bl W X->X.heap[w.heap.size+1]? =some o')/\Hid (∀X:World,Bl W X->Bl w X):=by
 have hs:(w.alloc o).heap.size=w.heap.size+1:=by simp
 have hs2:((w.alloc o).alloc o').heap.size=w.heap.size+2:=by simp
 have hb:Below w.heap.size w ((w.alloc o).alloc o'):=((zX _ _).alloc (zm _) _).alloc (by omega) _;exact⟨_,hI rfl,hs2,hI hb,hI (fun X hX=>(hX.block _ (by omega)).trans ((zP _ _ _ (by omega)).trans (zW w o))),hI (fun X hX=>(hX.block _ (by omega)).trans (by have h:=zW (w.alloc o) o';rwa [hs] at h)),hI (fun X hX=>hb.trans (hX.mono (by omega)))⟩
end W7
namespace W8
open Go Go.RowKit W7
def encTask (t:Task):List Value:=[.string t.p.name,.int .i64 t.p.takes,.slice t.NA t.p.needs.length t.nc,.slice t.UA t.p.uses.length t.uc]
def encRes (r:Res):List Value:=[.string r.p.name,.int .i64 r.p.many,.slice r.OA r.p.off.length r.oc]
def encUse (u:JUse):List Value:=[.int .i64 u.res,.int .i64 u.many]
def encJSpan (s:JSpan):List Value:=[.int .i64 s.lo,.int .i64 s.hi]
structure TkIn (w:World) (B:Nat) (t:Task):Prop where
 nm:t.p.name.size<=maxLen
 ns:Sl w B 1 encInt1 t.NA t.p.needs
 us:Sl w B 2 encUse t.UA t.p.uses
 nl:t.p.needs.length<=t.nc
 nc:t.nc<=9223372036854775807
 ul:t.p.uses.length<=t.uc
 uc:t.uc<=9223372036854775807
structure RsIn (w:World) (B:Nat) (r:Res):Prop where
 nm:r.p.name.size<=maxLen
 os:Sl w B 2 encJSpan r.OA r.p.off
 ol:r.p.off.length<=r.oc
 oc:r.oc<=9223372036854775807
structure JIn (w:World) (B:Nat) (j:Job):Prop where
 tk:Sl w B 4 encTask j.TA j.tasks
 rs:Sl w B 3 encRes j.RA j.res
 tl:j.tasks.length<=j.tc
 tc:j.tc<=9223372036854775807
 rl:j.res.length<=j.rc
 rc:j.rc<=9223372036854775807
 tks:∀t∈j.tasks,TkIn w B t
 rss:∀r∈j.res,RsIn w B r
theorem TkIn.below {w w':World} {B:Nat} {t:Task} (h:TkIn w B t) (hb:Below B w w'):TkIn w' B t:=⟨h.nm,h.ns.below hb,h.us.below hb,h.nl,h.nc,h.ul,h.uc⟩
theorem RsIn.below {w w':World} {B:Nat} {t:Res} (h:RsIn w B t) (hb:Below B w w'):RsIn w' B t:=⟨h.nm,h.os.below hb,h.ol,h.oc⟩
theorem JIn.below {w w':World} {B:Nat} {j:Job} (h:JIn w B j) (hb:Below B w w'):JIn w' B j:=
 ⟨h.tk.below hb,h.rs.below hb,h.tl,h.tc,h.rl,h.rc,fun t ht=>(h.tks t ht).below hb,fun r hr=>(h.rss r hr).below hb⟩
theorem TkIn.mono {w:World} {B B':Nat} {t:Task} (h:TkIn w B t) (hb:B<=B'):TkIn w B' t:=⟨h.nm,h.ns.mono hb,h.us.mono hb,h.nl,h.nc,h.ul,h.uc⟩
theorem RsIn.mono {w:World} {B B':Nat} {t:Res} (h:RsIn w B t) (hb:B<=B'):RsIn w B' t:=⟨h.nm,h.os.mono hb,h.ol,h.oc⟩
theorem JIn.mono {w:World} {B B':Nat} {j:Job} (h:JIn w B j) (hb:B<=B'):JIn w B' j:=
 ⟨h.tk.mono hb,h.rs.mono hb,h.tl,h.tc,h.rl,h.rc,fun t ht=>(h.tks t ht).mono hb,fun r hr=>(h.rss r hr).mono hb⟩
def Job.T (j:Job) (n:Nat):Task:=j.tasks.getD n default
def Job.R (j:Job) (n:Nat):Res:=j.res.getD n default
theorem Job.pT (j:Job) (n:Nat):j.p.tasks.getD n default=(j.T n).p:=by
 unfold Job.p Job.T;simp only[zA,List.getElem?_map];cases j.tasks[n]? <;>rfl
theorem Job.pR (j:Job) (n:Nat):j.p.res.getD n default=(j.R n).p:=by
 unfold Job.p Job.R;simp only[zA,List.getElem?_map];cases j.res[n]? <;>rfl
theorem Job.T_mem (j:Job) {n:Nat} (h:n<j.tasks.length):j.T n∈j.tasks:=by
 unfold Job.T;rw[getD_of h];exact zC h
theorem Job.R_mem (j:Job) {n:Nat} (h:n<j.res.length):j.R n∈j.res:=by
 unfold Job.R;rw[getD_of h];exact zC h
theorem Job.Tp_mem (j:Job) {n:Nat} (h:n<j.tasks.length):(j.T n).p∈j.p.tasks:=List.mem_map.2 ⟨_,j.T_mem h,rfl⟩
theorem Job.Rp_mem (j:Job) {n:Nat} (h:n<j.res.length):(j.R n).p∈j.p.res:=List.mem_map.2 ⟨_,j.R_mem h,rfl⟩
section
variable {w:World} {B tb off n:Nat} {j:Job}
theorem JIn.ta (h:JIn w B j) (h0:0<j.tasks.length):∃tb off,j.TA=some ⟨tb,off,none⟩/\tb<B:=by
 obtain⟨b,off,e,hB,_⟩:=h.tk h0;exact⟨b,off,e,hB⟩
theorem JIn.ra (h:JIn w B j) (h0:0<j.res.length):∃tb off,j.RA=some ⟨tb,off,none⟩/\tb<B:=by
 obtain⟨b,off,e,hB,_⟩:=h.rs h0;exact⟨b,off,e,hB⟩
theorem JIn.tcell (h:JIn w B j) (hA:j.TA=some ⟨tb,off,none⟩) (hn:n<j.tasks.length) (i:Nat) (v:Value) (hv:(encTask (j.T n))[i]? =some v):w.cell? ⟨tb,off+n*4+i,none⟩=some v:=by
 obtain⟨b,off',e,hB,hc⟩:=h.tk (by omega);rw[hA] at e;cases e;refine hc n hn i v ?_;unfold Job.T at hv
 rwa [getD_of hn] at hv
theorem JIn.rcell (h:JIn w B j) (hA:j.RA=some ⟨tb,off,none⟩) (hn:n<j.res.length) (i:Nat) (v:Value) (hv:(encRes (j.R n))[i]? =some v):w.cell? ⟨tb,off+n*3+i,none⟩=some v:=by
 obtain⟨b,off',e,hB,hc⟩:=h.rs (by omega);rw[hA] at e;cases e;refine hc n hn i v ?_;unfold Job.R at hv
 rwa [getD_of hn] at hv
end
theorem JIn.tcells {w:World} {B tb off n:Nat} {j:Job} (h:JIn w B j) (hA:j.TA=some ⟨tb,off,none⟩) (hn:n<j.tasks.length) :
  w.cell? ⟨tb,off+n*4,none⟩=some (.string (j.T n).p.name)/\w.cell? ⟨tb,off+n*4+1,none⟩=some (.int .i64 (j.T n).p.takes)/\w.cell? ⟨tb,off+n*4+2,none⟩=some (.slice (j.T n).NA (j.T n).p.needs.length (j.T n).nc)/\w.cell? ⟨tb,off+n*4+3,none⟩=some (.slice (j.T n).UA (j.T n).p.uses.length (j.T n).uc):=
 ⟨h.tcell hA hn 0 _ rfl,h.tcell hA hn 1 _ rfl,h.tcell hA hn 2 _ rfl,h.tcell hA hn 3 _ rfl⟩
theorem JIn.rcells {w:World} {B tb off n:Nat} {j:Job} (h:JIn w B j) (hA:j.RA=some ⟨tb,off,none⟩) (hn:n<j.res.length) :
  w.cell? ⟨tb,off+n*3,none⟩=some (.string (j.R n).p.name)/\w.cell? ⟨tb,off+n*3+1,none⟩=some (.int .i64 (j.R n).p.many)/\w.cell? ⟨tb,off+n*3+2,none⟩=some (.slice (j.R n).OA (j.R n).p.off.length (j.R n).oc):=
 ⟨h.rcell hA hn 0 _ rfl,h.rcell hA hn 1 _ rfl,h.rcell hA hn 2 _ rfl⟩
theorem map_getD {α:Type} {f:α->Value} {d:α}:∀ {l:List α} {n:Nat},n<l.length->(l.map f).toArray[n]? =some (f (l.getD n d)):=fun{l n} h=>by
 simp[zA,h]
end W8
namespace Go.Proofs.YtjpgnfekbojcaaaGreat
open Go.RowKit W7 W8
attribute [local go_sem] Oper.semAt_some
def jobV (j:Job):Value:= .agg #[.slice j.TA j.tasks.length j.tc,.slice j.RA j.res.length j.rc]
structure BdIn (X:World) (g sb pb:Nat) (j:Job) (b:Bd) (fr:Int):Prop where
 hg:X.heap[g]? =some (.cells #[.slice j.TA j.tasks.length j.tc,.slice j.RA j.res.length j.rc,.slice (some ⟨sb,0,none⟩) j.tasks.length j.tasks.length,.slice (some ⟨pb,0,none⟩) j.tasks.length j.tasks.length,.int .i64 fr] 115 (0,0))
 hs:X.heap[sb]? =some (.cells (b.st.map (Value.int .i64)).toArray 3 (0,0))
 hp:X.heap[pb]? =some (.cells (b.pl.map Value.bool).toArray 4 (0,0))
 ns:b.st.length=j.tasks.length
 np:b.pl.length=j.tasks.length
theorem BdIn.below {X Y:World} {g sb pb:Nat} {j:Job} {b:Bd} {fr:Int} (h:BdIn X g sb pb j b fr) (hb:Bl X Y):BdIn Y g sb pb j b fr:=
 ⟨(hb.block _ (blk_lt h.hg)).trans h.hg,(hb.block _ (blk_lt h.hs)).trans h.hs,(hb.block _ (blk_lt h.hp)).trans h.hp,h.ns,h.np⟩
section
variable {X:World} {g sb pb n:Nat} {j:Job} {b:Bd} {fr:Int}
theorem BdIn.st (h:BdIn X g sb pb j b fr) (hn:n<j.tasks.length):X.cell? ⟨sb,n,none⟩=some (.int .i64 (b.st.getD n 0)):=bc h.hs (map_getD (by rw[h.ns];exact hn))
theorem BdIn.pl (h:BdIn X g sb pb j b fr) (hn:n<j.tasks.length):X.cell? ⟨pb,n,none⟩=some (.bool (b.pl.getD n false)):=bc h.hp (map_getD (by rw[h.np];exact hn))
end
def BOk (b:Bd):Prop:=∀i,0<=b.st.getD i 0/\b.st.getD i 0<=100000
theorem end_any (j:Job) (b:Bd) (fr:Int) (g sb pb B n:Nat) (w:World) (hb:BdIn w g sb pb j b fr) (hj:JIn w B j) (hG:JGood j.p) (hn:n<j.tasks.length) (hs:0<=b.st.getD n 0/\b.st.getD n 0<=100000) :
  Calls Tryz.prog 138 #[.pointer (some ⟨g,0,none⟩),.int .i64 (n:Int)] w fun e w'=>e= .returned (.int .i64 (endV j.p b n))/\∃k,w'=w.drewN k:=by
 obtain⟨tb,off,hTA,htb⟩:=hj.ta (by omega);have q0:=kC 0 hb.hg rfl;have q2:=kC 2 hb.hg rfl;rw[hTA] at q0;have c1:=hj.tcell hTA hn 1 _ rfl;have c2:=hb.st hn;have htk:=hG.takes _ (j.Tp_mem hn);have HE:=hI (show endV j.p b n=b.st.getD n 0+(j.T n).p.takes by unfold endV;rw[j.pT]);generalize b.st.getD n 0=s at c2 hs HE;generalize (j.T n).p.takes=tk at c1 htk HE;have hlc:=hj.tl;have hc2:=hj.tc;have h64:j.tasks.length<=64:=by have:=hG.nt;rw[j.nt] at this;exact this
 obtain⟨m,hm⟩:=eX j.tasks.length;rw[hm] at q0 q2 hlc h64 hn;clear hb hj hG hTA hm;go_enter Tryz.func138,Tryz.ntmps138;go_wp2
 go_quiet (fail)
 go_wp2;go_ret;exact⟨ret_int HE.o.symm,_,rfl⟩
theorem out_pos {t:Table} {p m:Int} {r:AirRow} (h:tblErr t=0) (hr:cntRow t p m=some r):0<=r.out/\r.out<=100000:=by
 have h1:okRow r=true:=by
  unfold tblErr at h
  split at h
  ·cases h
  ·split at h
   ·rename_i h2
    simp only[zY] at h2;exact List.all_eq_true.1 h2.1.1 r (List.mem_of_find?_eq_some hr)
   ·cases h
 unfold okRow at h1;simp only[zY] at h1;exact isTm_true.1 h1.2
end Go.Proofs.YtjpgnfekbojcaaaGreat
namespace Go.Proofs.YtjpgnfekbojcaaaGreat
open Go.ChangeShapes Go.WideShapes Go.ChangeAt Go.RowKit
theorem k_laid:laidOutB Tryz.pinned.checked.prog=true:=by kernel_rfl
theorem k_maps:mapsRowed Tryz.pinned.checked.prog=true:=by kernel_rfl
theorem k_stops:(Tryz.pinned.checked.prog.stops==[])=true:=by kernel_rfl
theorem k_knobs:(Tryz.pinned.checked.prog.stopKnobs==[])=true:=by kernel_rfl
theorem k_plain:Tryz.pinned.checked.prog.plainKeys=false:=by kernel_rfl
theorem k_heard:Tryz.pinned.checked.prog.stopsHeard=true:=by kernel_rfl
theorem k_enter:Tryz.pinned.checked.prog.mayEnter=true:=by kernel_rfl
theorem k_lift:(false==Tryz.pinned.checked.prog.liftsFinal)=true:=by kernel_rfl
theorem k_make:(Tryz.pinned.checked.prog.make==some Rows.worksAirRow.make)=true:=by kernel_rfl
end Go.Proofs.YtjpgnfekbojcaaaGreat

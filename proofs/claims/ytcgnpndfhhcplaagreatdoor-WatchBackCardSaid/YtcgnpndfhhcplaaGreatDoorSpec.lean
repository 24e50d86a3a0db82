/-
  Plain data and plain functions of the watch layer: quantities, gauges, readings, names, checks. No program.
-/
import Derived.Test.YtcgnpndfhhcplaaGreatDoorBase
namespace W7
structure Span where
  lo : Int
  hi : Int
deriving Inhabited, DecidableEq
structure Gauge where
  name : ByteArray
  acc : Int
  drift : Int
  since : Int
deriving Inhabited
structure Quantity where
  name : ByteArray
  lo : Int
  hi : Int
  rise : Int
  fall : Int
  bad : Int
  gA : Option Go.Addr
  gc : Nat
  gs : List Gauge
deriving Inhabited
structure Reading where
  g : Int
  t : Int
  v : Int
deriving Inhabited
def withinB (n lo hi : Int) : Bool := decide (lo ≤ n) && decide (n ≤ hi)
theorem withinB_true {n lo hi : Int} : withinB n lo hi = true ↔ lo ≤ n ∧ n ≤ hi := by simp [withinB]
theorem withinB_false {n lo hi : Int} : withinB n lo hi = false ↔ ¬ (lo ≤ n ∧ n ≤ hi) := by rw [← withinB_true]; simp
def isVal (n : Int) : Bool := withinB n (-1000000000) 1000000000
def isTm (n : Int) : Bool := withinB n 0 100000
theorem isVal_true {n : Int} : isVal n = true ↔ -1000000000 ≤ n ∧ n ≤ 1000000000 := withinB_true
theorem isTm_true {n : Int} : isTm n = true ↔ 0 ≤ n ∧ n ≤ 100000 := withinB_true
/-- the error of a gauge at a time -/
def devi (g : Gauge) (t : Int) : Int := if t ≤ g.since then g.acc else g.acc + (t - g.since + 999) / 1000 * g.drift
/-- a byte that a name may hold -/
def okc (c : UInt8) : Bool := (decide ((97 : Int) ≤ (c.toNat : Int)) && decide ((c.toNat : Int) ≤ 122)) || (decide ((48 : Int) ≤ (c.toNat : Int)) && decide ((c.toNat : Int) ≤ 57)) || ((c.toNat : Int) == 45)
def okFirst (c : UInt8) : Bool := decide ((97 : Int) ≤ (c.toNat : Int)) && decide ((c.toNat : Int) ≤ 122)
def nameB (s : ByteArray) : Bool := decide (1 ≤ s.size) && decide (s.size ≤ 16) && okFirst (s.data.toList.headD 0) && s.data.toList.all okc
def gaugeB (g : Gauge) : Bool := withinB g.acc 0 1000000000 && withinB g.drift 0 1000000000 && isTm g.since
def gErrAt (l : List Gauge) (i : Nat) : Int :=
  if nameB (l.getD i default).name then (if (l.take i).any (fun x => strEq x.name (l.getD i default).name) then 6 else if gaugeB (l.getD i default) then 0 else 1) else 5
def gErr (l : List Gauge) : Int := firstErr (gErrAt l) l.length
/-- the error of a quantity, but for its name -/
def checkQB (q : Quantity) : Int :=
  if isVal q.lo && isVal q.hi && decide (q.lo ≤ q.hi) then
    if withinB q.rise 0 10000 && withinB q.fall 0 10000 then
      if q.gs.length ≤ 8 then (if withinB q.bad 0 q.gs.length then gErr q.gs else 1) else 3
    else 1
  else 1
def encInt1 (i : Int) : List Go.Value := [.int .i64 i]
def encSp (s : Span) : List Go.Value := [.int .i64 s.lo, .int .i64 s.hi]
def encG (g : Gauge) : List Go.Value := [.string g.name, .int .i64 g.acc, .int .i64 g.drift, .int .i64 g.since]
def encQ (q : Quantity) : List Go.Value := [.string q.name, .int .i64 q.lo, .int .i64 q.hi, .int .i64 q.rise, .int .i64 q.fall, .int .i64 q.bad, .slice q.gA q.gs.length q.gc]
def encR (r : Reading) : List Go.Value := [.int .i64 r.g, .int .i64 r.t, .int .i64 r.v]

/-- how a quantity lies in memory -/
structure QIn (w : Go.World) (B : Nat) (q : Quantity) : Prop where
  nm : q.name.size ≤ 9223372036854775807
  len : q.gs.length ≤ 9223372036854775807
  cap : q.gs.length ≤ q.gc
  cap2 : q.gc ≤ 9223372036854775807
  sl : Sl w B 4 encG q.gA q.gs
  gnm : ∀ g ∈ q.gs, g.name.size ≤ 9223372036854775807
theorem QIn.below {w w' : Go.World} {B : Nat} {q : Quantity} (h : QIn w B q) (hb : Go.RowKit.Below B w w') : QIn w' B q := ⟨h.nm, h.len, h.cap, h.cap2, h.sl.below hb, h.gnm⟩
theorem QIn.mono {w : Go.World} {B B' : Nat} {q : Quantity} (h : QIn w B q) (hb : B ≤ B') : QIn w B' q := ⟨h.nm, h.len, h.cap, h.cap2, h.sl.mono hb, h.gnm⟩
def qErrAt (l : List Quantity) (i : Nat) : Int :=
  if nameB (l.getD i default).name then (if (l.take i).any (fun x => strEq x.name (l.getD i default).name) then 6 else checkQB (l.getD i default)) else 5
/-- the first error of quantities -/
def qsErr (l : List Quantity) : Int := if l.length ≤ 16 then firstErr (qErrAt l) l.length else 3
theorem qErrAt_name {l : List Quantity} {k : Nat} (hk : k < l.length) (h : nameB l[k].name = false) : qErrAt l k = 5 := by
  simp [qErrAt, List.getD_eq_getElem?_getD, List.getElem?_eq_getElem hk, h]
theorem qErrAt_twice {l : List Quantity} {k : Nat} (hk : k < l.length) (h : nameB l[k].name = true) (h2 : (l.take k).any (fun x => strEq x.name l[k].name) = true) : qErrAt l k = 6 := by
  simp only [qErrAt, List.getD_eq_getElem?_getD, List.getElem?_eq_getElem hk, h, h2, Option.getD_some, if_true]
theorem qErrAt_rest {l : List Quantity} {k : Nat} (hk : k < l.length) (h : nameB l[k].name = true) (h2 : (l.take k).any (fun x => strEq x.name l[k].name) = false) : qErrAt l k = checkQB l[k] := by
  simp only [qErrAt, List.getD_eq_getElem?_getD, List.getElem?_eq_getElem hk, h, h2, Option.getD_some, if_true, if_false, Bool.false_eq_true]
/-- the error of a reading -/
def rErr (q : Quantity) (r : Reading) : Int := if withinB r.g 0 ((q.gs.length : Int) - 1) then (if isTm r.t && isVal r.v then 0 else 1) else 7
def rErrAt (q : Quantity) (l : List Reading) (i : Nat) : Int := rErr q (l.getD i default)
/-- the error of a quantity and its readings -/
def checkedE (q : Quantity) (l : List Reading) : Int :=
  if qsErr [q] = 0 then (if l.length ≤ 64 then firstErr (rErrAt q l) l.length else 3) else qsErr [q]
end W7

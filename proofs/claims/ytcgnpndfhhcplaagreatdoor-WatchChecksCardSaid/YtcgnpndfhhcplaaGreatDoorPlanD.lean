/-
  Plain data of plans: measures, alarms, their errors. No program.
-/
import Derived.Test.YtcgnpndfhhcplaaGreatDoorQs
namespace W7
structure Measure where
  name : ByteArray
  crew : ByteArray
  rank : Int
  lag : Int
  takes : Int
deriving Inhabited
structure Alarm where
  q : Int
  level : Int
  limit : Int
  m : Int
deriving Inhabited
structure Plan where
  qA : Option Go.Addr
  qc : Nat
  qs : List Quantity
  mA : Option Go.Addr
  mc : Nat
  ms : List Measure
  aA : Option Go.Addr
  ac : Nat
  al : List Alarm
deriving Inhabited
def encM (m : Measure) : List Go.Value := [.string m.name, .string m.crew, .int .i64 m.rank, .int .i64 m.lag, .int .i64 m.takes]
def encA (a : Alarm) : List Go.Value := [.int .i64 a.q, .int .i64 a.level, .int .i64 a.limit, .int .i64 a.m]
/-- how a plan lies in memory -/
structure PIn (w : Go.World) (B : Nat) (p : Plan) : Prop where
  qsl : Sl w B 7 encQ p.qA p.qs
  qin : ∀ q ∈ p.qs, QIn w B q
  qlc : p.qs.length ≤ p.qc
  qc2 : p.qc ≤ 9223372036854775807
  msl : Sl w B 5 encM p.mA p.ms
  mnm : ∀ m ∈ p.ms, m.name.size ≤ 9223372036854775807 ∧ m.crew.size ≤ 9223372036854775807
  mlc : p.ms.length ≤ p.mc
  mc2 : p.mc ≤ 9223372036854775807
  asl : Sl w B 4 encA p.aA p.al
  alc : p.al.length ≤ p.ac
  ac2 : p.ac ≤ 9223372036854775807
theorem PIn.below {w w' : Go.World} {B : Nat} {p : Plan} (h : PIn w B p) (hb : Go.RowKit.Below B w w') : PIn w' B p := ⟨h.qsl.below hb, fun q hq => (h.qin q hq).below hb, h.qlc, h.qc2, h.msl.below hb, h.mnm, h.mlc, h.mc2, h.asl.below hb, h.alc, h.ac2⟩
theorem PIn.mono {w : Go.World} {B B' : Nat} {p : Plan} (h : PIn w B p) (hb : B ≤ B') : PIn w B' p := ⟨h.qsl.mono hb, fun q hq => (h.qin q hq).mono hb, h.qlc, h.qc2, h.msl.mono hb, h.mnm, h.mlc, h.mc2, h.asl.mono hb, h.alc, h.ac2⟩
/-- is a measure's name, crew; its times -/
def mNameB (m : Measure) : Bool := nameB m.name && nameB m.crew
def mTimeB (m : Measure) : Bool := isTm m.rank && isTm m.lag && isTm m.takes
def mErrAt (l : List Measure) (i : Nat) : Int :=
  if mNameB (l.getD i default) then
    if (l.take i).any (fun x => strEq x.name (l.getD i default).name) then 6 else
      if mTimeB (l.getD i default) then
        if (l.take i).any (fun x => strEq x.crew (l.getD i default).crew && (x.rank == (l.getD i default).rank)) then 10 else 0
      else 1
  else 5
/-- the first error of measures -/
def msErr (l : List Measure) : Int := if l.length ≤ 16 then firstErr (mErrAt l) l.length else 3
def aErrAt (p : Plan) (i : Nat) : Int :=
  if withinB (p.al.getD i default).q 0 ((p.qs.length : Int) - 1) && withinB (p.al.getD i default).m 0 ((p.ms.length : Int) - 1) then
    if isVal (p.al.getD i default).level && isVal (p.al.getD i default).limit then
      if (p.al.take i).any (fun x => x.m == (p.al.getD i default).m) then 6 else 0
    else 1
  else 7
/-- the first error of a plan -/
def planErr (p : Plan) : Int :=
  if qsErr p.qs = 0 then
    if msErr p.ms = 0 then
      if p.al.length ≤ 16 then firstErr (aErrAt p) p.al.length else 3
    else msErr p.ms
  else qsErr p.qs
theorem getD_lt {α : Type} [Inhabited α] {l : List α} {i : Nat} (h : i < l.length) : l.getD i default = l[i] := by
  rw [List.getD_eq_getElem?_getD, List.getElem?_eq_getElem h, Option.getD_some]
theorem mErr_v1 {l : List Measure} {k : Nat} (hk : k < l.length) (h : mNameB l[k] = false) : mErrAt l k = 5 := by
  unfold mErrAt; rw [getD_lt hk, h]; rfl
theorem mErr_v2 {l : List Measure} {k : Nat} (hk : k < l.length) (h : mNameB l[k] = true) (h2 : (l.take k).any (fun x => strEq x.name l[k].name) = true) : mErrAt l k = 6 := by
  unfold mErrAt; rw [getD_lt hk, h, if_pos rfl, h2]; rfl
theorem mErr_v3 {l : List Measure} {k : Nat} (hk : k < l.length) (h : mNameB l[k] = true) (h2 : (l.take k).any (fun x => strEq x.name l[k].name) = false) (h3 : mTimeB l[k] = false) : mErrAt l k = 1 := by
  unfold mErrAt; rw [getD_lt hk, h, if_pos rfl, h2, h3]; rfl
theorem mErr_v4 {l : List Measure} {k : Nat} (hk : k < l.length) (h : mNameB l[k] = true) (h2 : (l.take k).any (fun x => strEq x.name l[k].name) = false) (h3 : mTimeB l[k] = true) (h4 : (l.take k).any (fun x => strEq x.crew l[k].crew && (x.rank == l[k].rank)) = true) : mErrAt l k = 10 := by
  unfold mErrAt; rw [getD_lt hk, h, if_pos rfl, h2, h3, if_neg (by decide), if_pos rfl, h4]; rfl
theorem mErr_v5 {l : List Measure} {k : Nat} (hk : k < l.length) (h : mNameB l[k] = true) (h2 : (l.take k).any (fun x => strEq x.name l[k].name) = false) (h3 : mTimeB l[k] = true) (h4 : (l.take k).any (fun x => strEq x.crew l[k].crew && (x.rank == l[k].rank)) = false) : mErrAt l k = 0 := by
  unfold mErrAt; rw [getD_lt hk, h, if_pos rfl, h2, h3, if_neg (by decide), if_pos rfl, h4]; rfl
theorem aErr_v1 {p : Plan} {k : Nat} (hk : k < p.al.length) (h : (withinB p.al[k].q 0 ((p.qs.length : Int) - 1) && withinB p.al[k].m 0 ((p.ms.length : Int) - 1)) = false) : aErrAt p k = 7 := by
  unfold aErrAt; rw [getD_lt hk, h]; rfl
theorem aErr_v2 {p : Plan} {k : Nat} (hk : k < p.al.length) (h : (withinB p.al[k].q 0 ((p.qs.length : Int) - 1) && withinB p.al[k].m 0 ((p.ms.length : Int) - 1)) = true) (h2 : (isVal p.al[k].level && isVal p.al[k].limit) = false) : aErrAt p k = 1 := by
  unfold aErrAt; rw [getD_lt hk, h, if_pos rfl, h2]; rfl
theorem aErr_v3 {p : Plan} {k : Nat} (hk : k < p.al.length) (h : (withinB p.al[k].q 0 ((p.qs.length : Int) - 1) && withinB p.al[k].m 0 ((p.ms.length : Int) - 1)) = true) (h2 : (isVal p.al[k].level && isVal p.al[k].limit) = true) (h3 : (p.al.take k).any (fun x => x.m == p.al[k].m) = true) : aErrAt p k = 6 := by
  unfold aErrAt; rw [getD_lt hk, h, if_pos rfl, h2, if_pos rfl, h3]; rfl
theorem aErr_v4 {p : Plan} {k : Nat} (hk : k < p.al.length) (h : (withinB p.al[k].q 0 ((p.qs.length : Int) - 1) && withinB p.al[k].m 0 ((p.ms.length : Int) - 1)) = true) (h2 : (isVal p.al[k].level && isVal p.al[k].limit) = true) (h3 : (p.al.take k).any (fun x => x.m == p.al[k].m) = false) : aErrAt p k = 0 := by
  unfold aErrAt; rw [getD_lt hk, h, if_pos rfl, h2, if_pos rfl, h3]; rfl
end W7

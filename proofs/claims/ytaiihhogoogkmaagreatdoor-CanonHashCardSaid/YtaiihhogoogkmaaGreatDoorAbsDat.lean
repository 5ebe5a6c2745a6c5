/-
  The data of programs as Lean types, and as the small language's data. Written by a program (wip/abs/dct.py).
-/
import Derived.Test.YtaiihhogoogkmaaGreatDoorAbsRun
import Derived.Test.YtaiihhogoogkmaaGreatDoorAbsInst
import Derived.Test.YtaiihhogoogkmaaGreatDoorProg
namespace Go.Proofs.YtaiihhogoogkmaaGreatDoor
open Go.RowKit
set_option linter.unusedVariables false
def dStr (x : ByteArray) : List D := [.v (.string x)]
def dStrs (l : List ByteArray) : List (List D) := l.map dStr
theorem dStrs_eq (l : List ByteArray) : dStrs l = l.map dStr := rfl
theorem dStr_len (x : ByteArray) : (dStr x).length = 1 := rfl
theorem dStrs_len {l : List ByteArray} : (dStrs l).length = l.length := by rw [dStrs_eq, List.length_map]
theorem dStrs_get {l : List ByteArray} {k : Nat} {x : ByteArray} (h : l[k]? = some x) : (dStrs l)[k]? = some (dStr x) := by rw [dStrs_eq, List.getElem?_map, h]; rfl
theorem dStrs_app {a b : List ByteArray} : dStrs a ++ dStrs b = dStrs (a ++ b) := by rw [dStrs_eq, dStrs_eq, dStrs_eq, List.map_append]
theorem dStrs_one {a : List ByteArray} {x : ByteArray} : dStrs a ++ [dStr x] = dStrs (a ++ [x]) := by rw [dStrs_eq, dStrs_eq, List.map_append]; rfl
theorem dStrs_all {l : List ByteArray} : ∀ c ∈ dStrs l, c.length = 1 := by
  intro c hc; rw [dStrs_eq] at hc; obtain ⟨x, _, rfl⟩ := List.mem_map.1 hc; rfl
theorem dStrs_drop {l : List ByteArray} {k : Nat} : (dStrs l).drop k = dStrs (l.drop k) := by rw [dStrs_eq, dStrs_eq, List.map_drop]
theorem dStrs_td {l : List ByteArray} {k n : Nat} : ((dStrs l).take n).drop k = dStrs ((l.take n).drop k) := by rw [dStrs_eq, dStrs_eq, List.map_drop, List.map_take]
def dU8 (x : Int) : List D := [.v (.int .u8 x)]
def dU8s (l : List Int) : List (List D) := l.map dU8
theorem dU8s_eq (l : List Int) : dU8s l = l.map dU8 := rfl
theorem dU8_len (x : Int) : (dU8 x).length = 1 := rfl
theorem dU8s_len {l : List Int} : (dU8s l).length = l.length := by rw [dU8s_eq, List.length_map]
theorem dU8s_get {l : List Int} {k : Nat} {x : Int} (h : l[k]? = some x) : (dU8s l)[k]? = some (dU8 x) := by rw [dU8s_eq, List.getElem?_map, h]; rfl
theorem dU8s_app {a b : List Int} : dU8s a ++ dU8s b = dU8s (a ++ b) := by rw [dU8s_eq, dU8s_eq, dU8s_eq, List.map_append]
theorem dU8s_one {a : List Int} {x : Int} : dU8s a ++ [dU8 x] = dU8s (a ++ [x]) := by rw [dU8s_eq, dU8s_eq, List.map_append]; rfl
theorem dU8s_all {l : List Int} : ∀ c ∈ dU8s l, c.length = 1 := by
  intro c hc; rw [dU8s_eq] at hc; obtain ⟨x, _, rfl⟩ := List.mem_map.1 hc; rfl
theorem dU8s_drop {l : List Int} {k : Nat} : (dU8s l).drop k = dU8s (l.drop k) := by rw [dU8s_eq, dU8s_eq, List.map_drop]
theorem dU8s_td {l : List Int} {k n : Nat} : ((dU8s l).take n).drop k = dU8s ((l.take n).drop k) := by rw [dU8s_eq, dU8s_eq, List.map_drop, List.map_take]
def dInt (x : Int) : List D := [.v (.int .i64 x)]
def dInts (l : List Int) : List (List D) := l.map dInt
theorem dInts_eq (l : List Int) : dInts l = l.map dInt := rfl
theorem dInt_len (x : Int) : (dInt x).length = 1 := rfl
theorem dInts_len {l : List Int} : (dInts l).length = l.length := by rw [dInts_eq, List.length_map]
theorem dInts_get {l : List Int} {k : Nat} {x : Int} (h : l[k]? = some x) : (dInts l)[k]? = some (dInt x) := by rw [dInts_eq, List.getElem?_map, h]; rfl
theorem dInts_app {a b : List Int} : dInts a ++ dInts b = dInts (a ++ b) := by rw [dInts_eq, dInts_eq, dInts_eq, List.map_append]
theorem dInts_one {a : List Int} {x : Int} : dInts a ++ [dInt x] = dInts (a ++ [x]) := by rw [dInts_eq, dInts_eq, List.map_append]; rfl
theorem dInts_all {l : List Int} : ∀ c ∈ dInts l, c.length = 1 := by
  intro c hc; rw [dInts_eq] at hc; obtain ⟨x, _, rfl⟩ := List.mem_map.1 hc; rfl
theorem dInts_drop {l : List Int} {k : Nat} : (dInts l).drop k = dInts (l.drop k) := by rw [dInts_eq, dInts_eq, List.map_drop]
theorem dInts_td {l : List Int} {k n : Nat} : ((dInts l).take n).drop k = dInts ((l.take n).drop k) := by rw [dInts_eq, dInts_eq, List.map_drop, List.map_take]
structure runtime_boundsErrorD where
  yX : Int64
  yY : Int
  ySigned : Bool
  yCode : Int
def druntime_boundsError (x : runtime_boundsErrorD) : List D := [.v (.int .i64 x.yX.toInt), .v (.int .i64 x.yY), .v (.bool x.ySigned), .v (.int .u8 x.yCode)]
def aruntime_boundsError (x : runtime_boundsErrorD) : AV := .agg [.d (.v (.int .i64 x.yX.toInt)), .d (.v (.int .i64 x.yY)), .d (.v (.bool x.ySigned)), .d (.v (.int .u8 x.yCode))]
structure runtime_errorAddressStringD where
  yMsg : ByteArray
  yAddr : Int
def druntime_errorAddressString (x : runtime_errorAddressStringD) : List D := [.v (.string x.yMsg), .v (.int .u64 x.yAddr)]
def aruntime_errorAddressString (x : runtime_errorAddressStringD) : AV := .agg [.d (.v (.string x.yMsg)), .d (.v (.int .u64 x.yAddr))]
structure MonoD where
  xName : ByteArray
  xBy : Int64
def dMono (x : MonoD) : List D := [.v (.string x.xName), .v (.int .i64 x.xBy.toInt)]
def aMono (x : MonoD) : AV := .agg [.d (.v (.string x.xName)), .d (.v (.int .i64 x.xBy.toInt))]
structure TypeD where
  xKind : Int
  xBits : Int
  xFrac : Int
  xRound : Int
  xOver : Int
def dType (x : TypeD) : List D := [.v (.int .i64 x.xKind), .v (.int .i64 x.xBits), .v (.int .i64 x.xFrac), .v (.int .i64 x.xRound), .v (.int .i64 x.xOver)]
def aType (x : TypeD) : AV := .agg [.d (.v (.int .i64 x.xKind)), .d (.v (.int .i64 x.xBits)), .d (.v (.int .i64 x.xFrac)), .d (.v (.int .i64 x.xRound)), .d (.v (.int .i64 x.xOver))]
structure ValD where
  xN : Int64
  xD : Int64
def dVal (x : ValD) : List D := [.v (.int .i64 x.xN.toInt), .v (.int .i64 x.xD.toInt)]
def aVal (x : ValD) : AV := .agg [.d (.v (.int .i64 x.xN.toInt)), .d (.v (.int .i64 x.xD.toInt))]
structure BindingD where
  xName : ByteArray
  xVal : Int64
def dBinding (x : BindingD) : List D := [.v (.string x.xName), .v (.int .i64 x.xVal.toInt)]
def aBinding (x : BindingD) : AV := .agg [.d (.v (.string x.xName)), .d (.v (.int .i64 x.xVal.toInt))]
structure brocaderef55_SchemeD where
  xSizes : ByteArray
  xParams : ByteArray
  xDefs : ByteArray
  xIndex : ByteArray
def dbrocaderef55_Scheme (x : brocaderef55_SchemeD) : List D := [.v (.string x.xSizes), .v (.string x.xParams), .v (.string x.xDefs), .v (.string x.xIndex)]
def abrocaderef55_Scheme (x : brocaderef55_SchemeD) : AV := .agg [.d (.v (.string x.xSizes)), .d (.v (.string x.xParams)), .d (.v (.string x.xDefs)), .d (.v (.string x.xIndex))]
structure brocaderef55_NamesD where
  xFrom : List ByteArray
  xTo : List ByteArray
def dbrocaderef55_Names (x : brocaderef55_NamesD) : List D := [.sl (dStrs x.xFrom), .sl (dStrs x.xTo)]
def abrocaderef55_Names (x : brocaderef55_NamesD) : AV := .agg [.d (.sl (dStrs x.xFrom)), .d (.sl (dStrs x.xTo))]
structure strings_spanD where
  yStart : Int
  yEnd : Int
def dstrings_span (x : strings_spanD) : List D := [.v (.int .i64 x.yStart), .v (.int .i64 x.yEnd)]
def astrings_span (x : strings_spanD) : AV := .agg [.d (.v (.int .i64 x.yStart)), .d (.v (.int .i64 x.yEnd))]
structure unicode_Range16D where
  xLo : Int
  xHi : Int
  xStride : Int
def dunicode_Range16 (x : unicode_Range16D) : List D := [.v (.int .u16 x.xLo), .v (.int .u16 x.xHi), .v (.int .u16 x.xStride)]
def aunicode_Range16 (x : unicode_Range16D) : AV := .agg [.d (.v (.int .u16 x.xLo)), .d (.v (.int .u16 x.xHi)), .d (.v (.int .u16 x.xStride))]
structure unicode_Range32D where
  xLo : Int
  xHi : Int
  xStride : Int
def dunicode_Range32 (x : unicode_Range32D) : List D := [.v (.int .u32 x.xLo), .v (.int .u32 x.xHi), .v (.int .u32 x.xStride)]
def aunicode_Range32 (x : unicode_Range32D) : AV := .agg [.d (.v (.int .u32 x.xLo)), .d (.v (.int .u32 x.xHi)), .d (.v (.int .u32 x.xStride))]
def dMonos (l : List MonoD) : List (List D) := l.map dMono
theorem dMonos_eq (l : List MonoD) : dMonos l = l.map dMono := rfl
theorem dMono_len (x : MonoD) : (dMono x).length = 2 := rfl
theorem dMonos_len {l : List MonoD} : (dMonos l).length = l.length := by rw [dMonos_eq, List.length_map]
theorem dMonos_get {l : List MonoD} {k : Nat} {x : MonoD} (h : l[k]? = some x) : (dMonos l)[k]? = some (dMono x) := by rw [dMonos_eq, List.getElem?_map, h]; rfl
theorem dMonos_app {a b : List MonoD} : dMonos a ++ dMonos b = dMonos (a ++ b) := by rw [dMonos_eq, dMonos_eq, dMonos_eq, List.map_append]
theorem dMonos_one {a : List MonoD} {x : MonoD} : dMonos a ++ [dMono x] = dMonos (a ++ [x]) := by rw [dMonos_eq, dMonos_eq, List.map_append]; rfl
theorem dMonos_all {l : List MonoD} : ∀ c ∈ dMonos l, c.length = 2 := by
  intro c hc; rw [dMonos_eq] at hc; obtain ⟨x, _, rfl⟩ := List.mem_map.1 hc; rfl
theorem dMonos_drop {l : List MonoD} {k : Nat} : (dMonos l).drop k = dMonos (l.drop k) := by rw [dMonos_eq, dMonos_eq, List.map_drop]
theorem dMonos_td {l : List MonoD} {k n : Nat} : ((dMonos l).take n).drop k = dMonos ((l.take n).drop k) := by rw [dMonos_eq, dMonos_eq, List.map_drop, List.map_take]
def dBindings (l : List BindingD) : List (List D) := l.map dBinding
theorem dBindings_eq (l : List BindingD) : dBindings l = l.map dBinding := rfl
theorem dBinding_len (x : BindingD) : (dBinding x).length = 2 := rfl
theorem dBindings_len {l : List BindingD} : (dBindings l).length = l.length := by rw [dBindings_eq, List.length_map]
theorem dBindings_get {l : List BindingD} {k : Nat} {x : BindingD} (h : l[k]? = some x) : (dBindings l)[k]? = some (dBinding x) := by rw [dBindings_eq, List.getElem?_map, h]; rfl
theorem dBindings_app {a b : List BindingD} : dBindings a ++ dBindings b = dBindings (a ++ b) := by rw [dBindings_eq, dBindings_eq, dBindings_eq, List.map_append]
theorem dBindings_one {a : List BindingD} {x : BindingD} : dBindings a ++ [dBinding x] = dBindings (a ++ [x]) := by rw [dBindings_eq, dBindings_eq, List.map_append]; rfl
theorem dBindings_all {l : List BindingD} : ∀ c ∈ dBindings l, c.length = 2 := by
  intro c hc; rw [dBindings_eq] at hc; obtain ⟨x, _, rfl⟩ := List.mem_map.1 hc; rfl
theorem dBindings_drop {l : List BindingD} {k : Nat} : (dBindings l).drop k = dBindings (l.drop k) := by rw [dBindings_eq, dBindings_eq, List.map_drop]
theorem dBindings_td {l : List BindingD} {k n : Nat} : ((dBindings l).take n).drop k = dBindings ((l.take n).drop k) := by rw [dBindings_eq, dBindings_eq, List.map_drop, List.map_take]
def dbrocaderef55_Schemes (l : List brocaderef55_SchemeD) : List (List D) := l.map dbrocaderef55_Scheme
theorem dbrocaderef55_Schemes_eq (l : List brocaderef55_SchemeD) : dbrocaderef55_Schemes l = l.map dbrocaderef55_Scheme := rfl
theorem dbrocaderef55_Scheme_len (x : brocaderef55_SchemeD) : (dbrocaderef55_Scheme x).length = 4 := rfl
theorem dbrocaderef55_Schemes_len {l : List brocaderef55_SchemeD} : (dbrocaderef55_Schemes l).length = l.length := by rw [dbrocaderef55_Schemes_eq, List.length_map]
theorem dbrocaderef55_Schemes_get {l : List brocaderef55_SchemeD} {k : Nat} {x : brocaderef55_SchemeD} (h : l[k]? = some x) : (dbrocaderef55_Schemes l)[k]? = some (dbrocaderef55_Scheme x) := by rw [dbrocaderef55_Schemes_eq, List.getElem?_map, h]; rfl
theorem dbrocaderef55_Schemes_app {a b : List brocaderef55_SchemeD} : dbrocaderef55_Schemes a ++ dbrocaderef55_Schemes b = dbrocaderef55_Schemes (a ++ b) := by rw [dbrocaderef55_Schemes_eq, dbrocaderef55_Schemes_eq, dbrocaderef55_Schemes_eq, List.map_append]
theorem dbrocaderef55_Schemes_one {a : List brocaderef55_SchemeD} {x : brocaderef55_SchemeD} : dbrocaderef55_Schemes a ++ [dbrocaderef55_Scheme x] = dbrocaderef55_Schemes (a ++ [x]) := by rw [dbrocaderef55_Schemes_eq, dbrocaderef55_Schemes_eq, List.map_append]; rfl
theorem dbrocaderef55_Schemes_all {l : List brocaderef55_SchemeD} : ∀ c ∈ dbrocaderef55_Schemes l, c.length = 4 := by
  intro c hc; rw [dbrocaderef55_Schemes_eq] at hc; obtain ⟨x, _, rfl⟩ := List.mem_map.1 hc; rfl
theorem dbrocaderef55_Schemes_drop {l : List brocaderef55_SchemeD} {k : Nat} : (dbrocaderef55_Schemes l).drop k = dbrocaderef55_Schemes (l.drop k) := by rw [dbrocaderef55_Schemes_eq, dbrocaderef55_Schemes_eq, List.map_drop]
theorem dbrocaderef55_Schemes_td {l : List brocaderef55_SchemeD} {k n : Nat} : ((dbrocaderef55_Schemes l).take n).drop k = dbrocaderef55_Schemes ((l.take n).drop k) := by rw [dbrocaderef55_Schemes_eq, dbrocaderef55_Schemes_eq, List.map_drop, List.map_take]
def dTypes (l : List TypeD) : List (List D) := l.map dType
theorem dTypes_eq (l : List TypeD) : dTypes l = l.map dType := rfl
theorem dType_len (x : TypeD) : (dType x).length = 5 := rfl
theorem dTypes_len {l : List TypeD} : (dTypes l).length = l.length := by rw [dTypes_eq, List.length_map]
theorem dTypes_get {l : List TypeD} {k : Nat} {x : TypeD} (h : l[k]? = some x) : (dTypes l)[k]? = some (dType x) := by rw [dTypes_eq, List.getElem?_map, h]; rfl
theorem dTypes_app {a b : List TypeD} : dTypes a ++ dTypes b = dTypes (a ++ b) := by rw [dTypes_eq, dTypes_eq, dTypes_eq, List.map_append]
theorem dTypes_one {a : List TypeD} {x : TypeD} : dTypes a ++ [dType x] = dTypes (a ++ [x]) := by rw [dTypes_eq, dTypes_eq, List.map_append]; rfl
theorem dTypes_all {l : List TypeD} : ∀ c ∈ dTypes l, c.length = 5 := by
  intro c hc; rw [dTypes_eq] at hc; obtain ⟨x, _, rfl⟩ := List.mem_map.1 hc; rfl
theorem dTypes_drop {l : List TypeD} {k : Nat} : (dTypes l).drop k = dTypes (l.drop k) := by rw [dTypes_eq, dTypes_eq, List.map_drop]
theorem dTypes_td {l : List TypeD} {k n : Nat} : ((dTypes l).take n).drop k = dTypes ((l.take n).drop k) := by rw [dTypes_eq, dTypes_eq, List.map_drop, List.map_take]
def dstrings_spans (l : List strings_spanD) : List (List D) := l.map dstrings_span
theorem dstrings_spans_eq (l : List strings_spanD) : dstrings_spans l = l.map dstrings_span := rfl
theorem dstrings_span_len (x : strings_spanD) : (dstrings_span x).length = 2 := rfl
theorem dstrings_spans_len {l : List strings_spanD} : (dstrings_spans l).length = l.length := by rw [dstrings_spans_eq, List.length_map]
theorem dstrings_spans_get {l : List strings_spanD} {k : Nat} {x : strings_spanD} (h : l[k]? = some x) : (dstrings_spans l)[k]? = some (dstrings_span x) := by rw [dstrings_spans_eq, List.getElem?_map, h]; rfl
theorem dstrings_spans_app {a b : List strings_spanD} : dstrings_spans a ++ dstrings_spans b = dstrings_spans (a ++ b) := by rw [dstrings_spans_eq, dstrings_spans_eq, dstrings_spans_eq, List.map_append]
theorem dstrings_spans_one {a : List strings_spanD} {x : strings_spanD} : dstrings_spans a ++ [dstrings_span x] = dstrings_spans (a ++ [x]) := by rw [dstrings_spans_eq, dstrings_spans_eq, List.map_append]; rfl
theorem dstrings_spans_all {l : List strings_spanD} : ∀ c ∈ dstrings_spans l, c.length = 2 := by
  intro c hc; rw [dstrings_spans_eq] at hc; obtain ⟨x, _, rfl⟩ := List.mem_map.1 hc; rfl
theorem dstrings_spans_drop {l : List strings_spanD} {k : Nat} : (dstrings_spans l).drop k = dstrings_spans (l.drop k) := by rw [dstrings_spans_eq, dstrings_spans_eq, List.map_drop]
theorem dstrings_spans_td {l : List strings_spanD} {k n : Nat} : ((dstrings_spans l).take n).drop k = dstrings_spans ((l.take n).drop k) := by rw [dstrings_spans_eq, dstrings_spans_eq, List.map_drop, List.map_take]
def dunicode_Range16s (l : List unicode_Range16D) : List (List D) := l.map dunicode_Range16
theorem dunicode_Range16s_eq (l : List unicode_Range16D) : dunicode_Range16s l = l.map dunicode_Range16 := rfl
theorem dunicode_Range16_len (x : unicode_Range16D) : (dunicode_Range16 x).length = 3 := rfl
theorem dunicode_Range16s_len {l : List unicode_Range16D} : (dunicode_Range16s l).length = l.length := by rw [dunicode_Range16s_eq, List.length_map]
theorem dunicode_Range16s_get {l : List unicode_Range16D} {k : Nat} {x : unicode_Range16D} (h : l[k]? = some x) : (dunicode_Range16s l)[k]? = some (dunicode_Range16 x) := by rw [dunicode_Range16s_eq, List.getElem?_map, h]; rfl
theorem dunicode_Range16s_app {a b : List unicode_Range16D} : dunicode_Range16s a ++ dunicode_Range16s b = dunicode_Range16s (a ++ b) := by rw [dunicode_Range16s_eq, dunicode_Range16s_eq, dunicode_Range16s_eq, List.map_append]
theorem dunicode_Range16s_one {a : List unicode_Range16D} {x : unicode_Range16D} : dunicode_Range16s a ++ [dunicode_Range16 x] = dunicode_Range16s (a ++ [x]) := by rw [dunicode_Range16s_eq, dunicode_Range16s_eq, List.map_append]; rfl
theorem dunicode_Range16s_all {l : List unicode_Range16D} : ∀ c ∈ dunicode_Range16s l, c.length = 3 := by
  intro c hc; rw [dunicode_Range16s_eq] at hc; obtain ⟨x, _, rfl⟩ := List.mem_map.1 hc; rfl
theorem dunicode_Range16s_drop {l : List unicode_Range16D} {k : Nat} : (dunicode_Range16s l).drop k = dunicode_Range16s (l.drop k) := by rw [dunicode_Range16s_eq, dunicode_Range16s_eq, List.map_drop]
theorem dunicode_Range16s_td {l : List unicode_Range16D} {k n : Nat} : ((dunicode_Range16s l).take n).drop k = dunicode_Range16s ((l.take n).drop k) := by rw [dunicode_Range16s_eq, dunicode_Range16s_eq, List.map_drop, List.map_take]
def dunicode_Range32s (l : List unicode_Range32D) : List (List D) := l.map dunicode_Range32
theorem dunicode_Range32s_eq (l : List unicode_Range32D) : dunicode_Range32s l = l.map dunicode_Range32 := rfl
theorem dunicode_Range32_len (x : unicode_Range32D) : (dunicode_Range32 x).length = 3 := rfl
theorem dunicode_Range32s_len {l : List unicode_Range32D} : (dunicode_Range32s l).length = l.length := by rw [dunicode_Range32s_eq, List.length_map]
theorem dunicode_Range32s_get {l : List unicode_Range32D} {k : Nat} {x : unicode_Range32D} (h : l[k]? = some x) : (dunicode_Range32s l)[k]? = some (dunicode_Range32 x) := by rw [dunicode_Range32s_eq, List.getElem?_map, h]; rfl
theorem dunicode_Range32s_app {a b : List unicode_Range32D} : dunicode_Range32s a ++ dunicode_Range32s b = dunicode_Range32s (a ++ b) := by rw [dunicode_Range32s_eq, dunicode_Range32s_eq, dunicode_Range32s_eq, List.map_append]
theorem dunicode_Range32s_one {a : List unicode_Range32D} {x : unicode_Range32D} : dunicode_Range32s a ++ [dunicode_Range32 x] = dunicode_Range32s (a ++ [x]) := by rw [dunicode_Range32s_eq, dunicode_Range32s_eq, List.map_append]; rfl
theorem dunicode_Range32s_all {l : List unicode_Range32D} : ∀ c ∈ dunicode_Range32s l, c.length = 3 := by
  intro c hc; rw [dunicode_Range32s_eq] at hc; obtain ⟨x, _, rfl⟩ := List.mem_map.1 hc; rfl
theorem dunicode_Range32s_drop {l : List unicode_Range32D} {k : Nat} : (dunicode_Range32s l).drop k = dunicode_Range32s (l.drop k) := by rw [dunicode_Range32s_eq, dunicode_Range32s_eq, List.map_drop]
theorem dunicode_Range32s_td {l : List unicode_Range32D} {k n : Nat} : ((dunicode_Range32s l).take n).drop k = dunicode_Range32s ((l.take n).drop k) := by rw [dunicode_Range32s_eq, dunicode_Range32s_eq, List.map_drop, List.map_take]
def dVals (l : List ValD) : List (List D) := l.map dVal
theorem dVals_eq (l : List ValD) : dVals l = l.map dVal := rfl
theorem dVal_len (x : ValD) : (dVal x).length = 2 := rfl
theorem dVals_len {l : List ValD} : (dVals l).length = l.length := by rw [dVals_eq, List.length_map]
theorem dVals_get {l : List ValD} {k : Nat} {x : ValD} (h : l[k]? = some x) : (dVals l)[k]? = some (dVal x) := by rw [dVals_eq, List.getElem?_map, h]; rfl
theorem dVals_app {a b : List ValD} : dVals a ++ dVals b = dVals (a ++ b) := by rw [dVals_eq, dVals_eq, dVals_eq, List.map_append]
theorem dVals_one {a : List ValD} {x : ValD} : dVals a ++ [dVal x] = dVals (a ++ [x]) := by rw [dVals_eq, dVals_eq, List.map_append]; rfl
theorem dVals_all {l : List ValD} : ∀ c ∈ dVals l, c.length = 2 := by
  intro c hc; rw [dVals_eq] at hc; obtain ⟨x, _, rfl⟩ := List.mem_map.1 hc; rfl
theorem dVals_drop {l : List ValD} {k : Nat} : (dVals l).drop k = dVals (l.drop k) := by rw [dVals_eq, dVals_eq, List.map_drop]
theorem dVals_td {l : List ValD} {k n : Nat} : ((dVals l).take n).drop k = dVals ((l.take n).drop k) := by rw [dVals_eq, dVals_eq, List.map_drop, List.map_take]
structure LinD where
  xK : Int64
  xL : List MonoD
def dLin (x : LinD) : List D := [.v (.int .i64 x.xK.toInt), .sl (dMonos x.xL)]
def aLin (x : LinD) : AV := .agg [.d (.v (.int .i64 x.xK.toInt)), .d (.sl (dMonos x.xL))]
structure ConstraintD where
  xLin : LinD
  xEq : Bool
def dConstraint (x : ConstraintD) : List D := [.v (.int .i64 x.xLin.xK.toInt), .sl (dMonos x.xLin.xL), .v (.bool x.xEq)]
def aConstraint (x : ConstraintD) : AV := .agg [.d (.v (.int .i64 x.xLin.xK.toInt)), .d (.sl (dMonos x.xLin.xL)), .d (.v (.bool x.xEq))]
structure AxisD where
  xName : ByteArray
  xSize : LinD
def dAxis (x : AxisD) : List D := [.v (.string x.xName), .v (.int .i64 x.xSize.xK.toInt), .sl (dMonos x.xSize.xL)]
def aAxis (x : AxisD) : AV := .agg [.d (.v (.string x.xName)), .d (.v (.int .i64 x.xSize.xK.toInt)), .d (.sl (dMonos x.xSize.xL))]
structure unicode_RangeTableD where
  xR16 : List unicode_Range16D
  xR32 : List unicode_Range32D
  xLatinOffset : Int
def dunicode_RangeTable (x : unicode_RangeTableD) : List D := [.sl (dunicode_Range16s x.xR16), .sl (dunicode_Range32s x.xR32), .v (.int .i64 x.xLatinOffset)]
def aunicode_RangeTable (x : unicode_RangeTableD) : AV := .agg [.d (.sl (dunicode_Range16s x.xR16)), .d (.sl (dunicode_Range32s x.xR32)), .d (.v (.int .i64 x.xLatinOffset))]
def dConstraints (l : List ConstraintD) : List (List D) := l.map dConstraint
theorem dConstraints_eq (l : List ConstraintD) : dConstraints l = l.map dConstraint := rfl
theorem dConstraint_len (x : ConstraintD) : (dConstraint x).length = 3 := rfl
theorem dConstraints_len {l : List ConstraintD} : (dConstraints l).length = l.length := by rw [dConstraints_eq, List.length_map]
theorem dConstraints_get {l : List ConstraintD} {k : Nat} {x : ConstraintD} (h : l[k]? = some x) : (dConstraints l)[k]? = some (dConstraint x) := by rw [dConstraints_eq, List.getElem?_map, h]; rfl
theorem dConstraints_app {a b : List ConstraintD} : dConstraints a ++ dConstraints b = dConstraints (a ++ b) := by rw [dConstraints_eq, dConstraints_eq, dConstraints_eq, List.map_append]
theorem dConstraints_one {a : List ConstraintD} {x : ConstraintD} : dConstraints a ++ [dConstraint x] = dConstraints (a ++ [x]) := by rw [dConstraints_eq, dConstraints_eq, List.map_append]; rfl
theorem dConstraints_all {l : List ConstraintD} : ∀ c ∈ dConstraints l, c.length = 3 := by
  intro c hc; rw [dConstraints_eq] at hc; obtain ⟨x, _, rfl⟩ := List.mem_map.1 hc; rfl
theorem dConstraints_drop {l : List ConstraintD} {k : Nat} : (dConstraints l).drop k = dConstraints (l.drop k) := by rw [dConstraints_eq, dConstraints_eq, List.map_drop]
theorem dConstraints_td {l : List ConstraintD} {k n : Nat} : ((dConstraints l).take n).drop k = dConstraints ((l.take n).drop k) := by rw [dConstraints_eq, dConstraints_eq, List.map_drop, List.map_take]
def dLins (l : List LinD) : List (List D) := l.map dLin
theorem dLins_eq (l : List LinD) : dLins l = l.map dLin := rfl
theorem dLin_len (x : LinD) : (dLin x).length = 2 := rfl
theorem dLins_len {l : List LinD} : (dLins l).length = l.length := by rw [dLins_eq, List.length_map]
theorem dLins_get {l : List LinD} {k : Nat} {x : LinD} (h : l[k]? = some x) : (dLins l)[k]? = some (dLin x) := by rw [dLins_eq, List.getElem?_map, h]; rfl
theorem dLins_app {a b : List LinD} : dLins a ++ dLins b = dLins (a ++ b) := by rw [dLins_eq, dLins_eq, dLins_eq, List.map_append]
theorem dLins_one {a : List LinD} {x : LinD} : dLins a ++ [dLin x] = dLins (a ++ [x]) := by rw [dLins_eq, dLins_eq, List.map_append]; rfl
theorem dLins_all {l : List LinD} : ∀ c ∈ dLins l, c.length = 2 := by
  intro c hc; rw [dLins_eq] at hc; obtain ⟨x, _, rfl⟩ := List.mem_map.1 hc; rfl
theorem dLins_drop {l : List LinD} {k : Nat} : (dLins l).drop k = dLins (l.drop k) := by rw [dLins_eq, dLins_eq, List.map_drop]
theorem dLins_td {l : List LinD} {k n : Nat} : ((dLins l).take n).drop k = dLins ((l.take n).drop k) := by rw [dLins_eq, dLins_eq, List.map_drop, List.map_take]
def dAxiss (l : List AxisD) : List (List D) := l.map dAxis
theorem dAxiss_eq (l : List AxisD) : dAxiss l = l.map dAxis := rfl
theorem dAxis_len (x : AxisD) : (dAxis x).length = 3 := rfl
theorem dAxiss_len {l : List AxisD} : (dAxiss l).length = l.length := by rw [dAxiss_eq, List.length_map]
theorem dAxiss_get {l : List AxisD} {k : Nat} {x : AxisD} (h : l[k]? = some x) : (dAxiss l)[k]? = some (dAxis x) := by rw [dAxiss_eq, List.getElem?_map, h]; rfl
theorem dAxiss_app {a b : List AxisD} : dAxiss a ++ dAxiss b = dAxiss (a ++ b) := by rw [dAxiss_eq, dAxiss_eq, dAxiss_eq, List.map_append]
theorem dAxiss_one {a : List AxisD} {x : AxisD} : dAxiss a ++ [dAxis x] = dAxiss (a ++ [x]) := by rw [dAxiss_eq, dAxiss_eq, List.map_append]; rfl
theorem dAxiss_all {l : List AxisD} : ∀ c ∈ dAxiss l, c.length = 3 := by
  intro c hc; rw [dAxiss_eq] at hc; obtain ⟨x, _, rfl⟩ := List.mem_map.1 hc; rfl
theorem dAxiss_drop {l : List AxisD} {k : Nat} : (dAxiss l).drop k = dAxiss (l.drop k) := by rw [dAxiss_eq, dAxiss_eq, List.map_drop]
theorem dAxiss_td {l : List AxisD} {k n : Nat} : ((dAxiss l).take n).drop k = dAxiss ((l.take n).drop k) := by rw [dAxiss_eq, dAxiss_eq, List.map_drop, List.map_take]
def dLAxis (x : List AxisD) : List D := [.sl (dAxiss x)]
def dLAxiss (l : List (List AxisD)) : List (List D) := l.map dLAxis
theorem dLAxiss_eq (l : List (List AxisD)) : dLAxiss l = l.map dLAxis := rfl
theorem dLAxis_len (x : (List AxisD)) : (dLAxis x).length = 1 := rfl
theorem dLAxiss_len {l : List (List AxisD)} : (dLAxiss l).length = l.length := by rw [dLAxiss_eq, List.length_map]
theorem dLAxiss_get {l : List (List AxisD)} {k : Nat} {x : (List AxisD)} (h : l[k]? = some x) : (dLAxiss l)[k]? = some (dLAxis x) := by rw [dLAxiss_eq, List.getElem?_map, h]; rfl
theorem dLAxiss_app {a b : List (List AxisD)} : dLAxiss a ++ dLAxiss b = dLAxiss (a ++ b) := by rw [dLAxiss_eq, dLAxiss_eq, dLAxiss_eq, List.map_append]
theorem dLAxiss_one {a : List (List AxisD)} {x : (List AxisD)} : dLAxiss a ++ [dLAxis x] = dLAxiss (a ++ [x]) := by rw [dLAxiss_eq, dLAxiss_eq, List.map_append]; rfl
theorem dLAxiss_all {l : List (List AxisD)} : ∀ c ∈ dLAxiss l, c.length = 1 := by
  intro c hc; rw [dLAxiss_eq] at hc; obtain ⟨x, _, rfl⟩ := List.mem_map.1 hc; rfl
theorem dLAxiss_drop {l : List (List AxisD)} {k : Nat} : (dLAxiss l).drop k = dLAxiss (l.drop k) := by rw [dLAxiss_eq, dLAxiss_eq, List.map_drop]
theorem dLAxiss_td {l : List (List AxisD)} {k n : Nat} : ((dLAxiss l).take n).drop k = dLAxiss ((l.take n).drop k) := by rw [dLAxiss_eq, dLAxiss_eq, List.map_drop, List.map_take]
structure ParamD where
  xName : ByteArray
  xType : TypeD
  xDims : List LinD
def dParam (x : ParamD) : List D := [.v (.string x.xName), .v (.int .i64 x.xType.xKind), .v (.int .i64 x.xType.xBits), .v (.int .i64 x.xType.xFrac), .v (.int .i64 x.xType.xRound), .v (.int .i64 x.xType.xOver), .sl (dLins x.xDims)]
def aParam (x : ParamD) : AV := .agg [.d (.v (.string x.xName)), .d (.v (.int .i64 x.xType.xKind)), .d (.v (.int .i64 x.xType.xBits)), .d (.v (.int .i64 x.xType.xFrac)), .d (.v (.int .i64 x.xType.xRound)), .d (.v (.int .i64 x.xType.xOver)), .d (.sl (dLins x.xDims))]
structure IndexD where
  xLin : LinD
  xFrom : ByteArray
  xAt : List LinD
def dIndex (x : IndexD) : List D := [.v (.int .i64 x.xLin.xK.toInt), .sl (dMonos x.xLin.xL), .v (.string x.xFrom), .sl (dLins x.xAt)]
def aIndex (x : IndexD) : AV := .agg [.d (.v (.int .i64 x.xLin.xK.toInt)), .d (.sl (dMonos x.xLin.xL)), .d (.v (.string x.xFrom)), .d (.sl (dLins x.xAt))]
def dParams (l : List ParamD) : List (List D) := l.map dParam
theorem dParams_eq (l : List ParamD) : dParams l = l.map dParam := rfl
theorem dParam_len (x : ParamD) : (dParam x).length = 7 := rfl
theorem dParams_len {l : List ParamD} : (dParams l).length = l.length := by rw [dParams_eq, List.length_map]
theorem dParams_get {l : List ParamD} {k : Nat} {x : ParamD} (h : l[k]? = some x) : (dParams l)[k]? = some (dParam x) := by rw [dParams_eq, List.getElem?_map, h]; rfl
theorem dParams_app {a b : List ParamD} : dParams a ++ dParams b = dParams (a ++ b) := by rw [dParams_eq, dParams_eq, dParams_eq, List.map_append]
theorem dParams_one {a : List ParamD} {x : ParamD} : dParams a ++ [dParam x] = dParams (a ++ [x]) := by rw [dParams_eq, dParams_eq, List.map_append]; rfl
theorem dParams_all {l : List ParamD} : ∀ c ∈ dParams l, c.length = 7 := by
  intro c hc; rw [dParams_eq] at hc; obtain ⟨x, _, rfl⟩ := List.mem_map.1 hc; rfl
theorem dParams_drop {l : List ParamD} {k : Nat} : (dParams l).drop k = dParams (l.drop k) := by rw [dParams_eq, dParams_eq, List.map_drop]
theorem dParams_td {l : List ParamD} {k n : Nat} : ((dParams l).take n).drop k = dParams ((l.take n).drop k) := by rw [dParams_eq, dParams_eq, List.map_drop, List.map_take]
def dIndexs (l : List IndexD) : List (List D) := l.map dIndex
theorem dIndexs_eq (l : List IndexD) : dIndexs l = l.map dIndex := rfl
theorem dIndex_len (x : IndexD) : (dIndex x).length = 4 := rfl
theorem dIndexs_len {l : List IndexD} : (dIndexs l).length = l.length := by rw [dIndexs_eq, List.length_map]
theorem dIndexs_get {l : List IndexD} {k : Nat} {x : IndexD} (h : l[k]? = some x) : (dIndexs l)[k]? = some (dIndex x) := by rw [dIndexs_eq, List.getElem?_map, h]; rfl
theorem dIndexs_app {a b : List IndexD} : dIndexs a ++ dIndexs b = dIndexs (a ++ b) := by rw [dIndexs_eq, dIndexs_eq, dIndexs_eq, List.map_append]
theorem dIndexs_one {a : List IndexD} {x : IndexD} : dIndexs a ++ [dIndex x] = dIndexs (a ++ [x]) := by rw [dIndexs_eq, dIndexs_eq, List.map_append]; rfl
theorem dIndexs_all {l : List IndexD} : ∀ c ∈ dIndexs l, c.length = 4 := by
  intro c hc; rw [dIndexs_eq] at hc; obtain ⟨x, _, rfl⟩ := List.mem_map.1 hc; rfl
theorem dIndexs_drop {l : List IndexD} {k : Nat} : (dIndexs l).drop k = dIndexs (l.drop k) := by rw [dIndexs_eq, dIndexs_eq, List.map_drop]
theorem dIndexs_td {l : List IndexD} {k n : Nat} : ((dIndexs l).take n).drop k = dIndexs ((l.take n).drop k) := by rw [dIndexs_eq, dIndexs_eq, List.map_drop, List.map_take]
structure ExprD where
  xOp : Int
  xName : ByteArray
  xVal : ValD
  xType : TypeD
  xLin : LinD
  xIdx : List IndexD
  xArgs : List ExprD
mutual
def dExprR : ExprD → List D
  | ⟨xOp, xName, xVal, xType, xLin, xIdx, xArgs⟩ => [.v (.int .i64 xOp), .v (.string xName), .v (.int .i64 xVal.xN.toInt), .v (.int .i64 xVal.xD.toInt), .v (.int .i64 xType.xKind), .v (.int .i64 xType.xBits), .v (.int .i64 xType.xFrac), .v (.int .i64 xType.xRound), .v (.int .i64 xType.xOver), .v (.int .i64 xLin.xK.toInt), .sl (dMonos xLin.xL), .sl (dIndexs xIdx), .sl (dExprs xArgs)]
def dExprs : List ExprD → List (List D)
  | [] => []
  | x :: l => dExprR x :: dExprs l
end
def dExpr (x : ExprD) : List D := [.v (.int .i64 x.xOp), .v (.string x.xName), .v (.int .i64 x.xVal.xN.toInt), .v (.int .i64 x.xVal.xD.toInt), .v (.int .i64 x.xType.xKind), .v (.int .i64 x.xType.xBits), .v (.int .i64 x.xType.xFrac), .v (.int .i64 x.xType.xRound), .v (.int .i64 x.xType.xOver), .v (.int .i64 x.xLin.xK.toInt), .sl (dMonos x.xLin.xL), .sl (dIndexs x.xIdx), .sl (dExprs x.xArgs)]
theorem dExprR_eq (x : ExprD) : dExprR x = dExpr x := by cases x; simp only [dExprR]; rfl
theorem dExprs_eq : ∀ l : List ExprD, dExprs l = l.map dExpr
  | [] => by simp [dExprs]
  | x :: l => by simp [dExprs, dExprR_eq, dExprs_eq l]
theorem dExpr_len (x : ExprD) : (dExpr x).length = 13 := rfl
theorem dExprs_len {l : List ExprD} : (dExprs l).length = l.length := by rw [dExprs_eq, List.length_map]
theorem dExprs_get {l : List ExprD} {k : Nat} {x : ExprD} (h : l[k]? = some x) : (dExprs l)[k]? = some (dExpr x) := by rw [dExprs_eq, List.getElem?_map, h]; rfl
theorem dExprs_app {a b : List ExprD} : dExprs a ++ dExprs b = dExprs (a ++ b) := by rw [dExprs_eq, dExprs_eq, dExprs_eq, List.map_append]
theorem dExprs_one {a : List ExprD} {x : ExprD} : dExprs a ++ [dExpr x] = dExprs (a ++ [x]) := by rw [dExprs_eq, dExprs_eq, List.map_append]; rfl
theorem dExprs_all {l : List ExprD} : ∀ c ∈ dExprs l, c.length = 13 := by
  intro c hc; rw [dExprs_eq] at hc; obtain ⟨x, _, rfl⟩ := List.mem_map.1 hc; rfl
theorem dExprs_drop {l : List ExprD} {k : Nat} : (dExprs l).drop k = dExprs (l.drop k) := by rw [dExprs_eq, dExprs_eq, List.map_drop]
theorem dExprs_td {l : List ExprD} {k n : Nat} : ((dExprs l).take n).drop k = dExprs ((l.take n).drop k) := by rw [dExprs_eq, dExprs_eq, List.map_drop, List.map_take]
def aExpr (x : ExprD) : AV := .agg [.d (.v (.int .i64 x.xOp)), .d (.v (.string x.xName)), .d (.v (.int .i64 x.xVal.xN.toInt)), .d (.v (.int .i64 x.xVal.xD.toInt)), .d (.v (.int .i64 x.xType.xKind)), .d (.v (.int .i64 x.xType.xBits)), .d (.v (.int .i64 x.xType.xFrac)), .d (.v (.int .i64 x.xType.xRound)), .d (.v (.int .i64 x.xType.xOver)), .d (.v (.int .i64 x.xLin.xK.toInt)), .d (.sl (dMonos x.xLin.xL)), .d (.sl (dIndexs x.xIdx)), .d (.sl (dExprs x.xArgs))]
structure DefD where
  xName : ByteArray
  xType : TypeD
  xDims : List AxisD
  xRed : List AxisD
  xFold : Int
  xBody : ExprD
def dDef (x : DefD) : List D := [.v (.string x.xName), .v (.int .i64 x.xType.xKind), .v (.int .i64 x.xType.xBits), .v (.int .i64 x.xType.xFrac), .v (.int .i64 x.xType.xRound), .v (.int .i64 x.xType.xOver), .sl (dAxiss x.xDims), .sl (dAxiss x.xRed), .v (.int .i64 x.xFold), .v (.int .i64 x.xBody.xOp), .v (.string x.xBody.xName), .v (.int .i64 x.xBody.xVal.xN.toInt), .v (.int .i64 x.xBody.xVal.xD.toInt), .v (.int .i64 x.xBody.xType.xKind), .v (.int .i64 x.xBody.xType.xBits), .v (.int .i64 x.xBody.xType.xFrac), .v (.int .i64 x.xBody.xType.xRound), .v (.int .i64 x.xBody.xType.xOver), .v (.int .i64 x.xBody.xLin.xK.toInt), .sl (dMonos x.xBody.xLin.xL), .sl (dIndexs x.xBody.xIdx), .sl (dExprs x.xBody.xArgs)]
def aDef (x : DefD) : AV := .agg [.d (.v (.string x.xName)), .d (.v (.int .i64 x.xType.xKind)), .d (.v (.int .i64 x.xType.xBits)), .d (.v (.int .i64 x.xType.xFrac)), .d (.v (.int .i64 x.xType.xRound)), .d (.v (.int .i64 x.xType.xOver)), .d (.sl (dAxiss x.xDims)), .d (.sl (dAxiss x.xRed)), .d (.v (.int .i64 x.xFold)), .d (.v (.int .i64 x.xBody.xOp)), .d (.v (.string x.xBody.xName)), .d (.v (.int .i64 x.xBody.xVal.xN.toInt)), .d (.v (.int .i64 x.xBody.xVal.xD.toInt)), .d (.v (.int .i64 x.xBody.xType.xKind)), .d (.v (.int .i64 x.xBody.xType.xBits)), .d (.v (.int .i64 x.xBody.xType.xFrac)), .d (.v (.int .i64 x.xBody.xType.xRound)), .d (.v (.int .i64 x.xBody.xType.xOver)), .d (.v (.int .i64 x.xBody.xLin.xK.toInt)), .d (.sl (dMonos x.xBody.xLin.xL)), .d (.sl (dIndexs x.xBody.xIdx)), .d (.sl (dExprs x.xBody.xArgs))]
def dDefs (l : List DefD) : List (List D) := l.map dDef
theorem dDefs_eq (l : List DefD) : dDefs l = l.map dDef := rfl
theorem dDef_len (x : DefD) : (dDef x).length = 22 := rfl
theorem dDefs_len {l : List DefD} : (dDefs l).length = l.length := by rw [dDefs_eq, List.length_map]
theorem dDefs_get {l : List DefD} {k : Nat} {x : DefD} (h : l[k]? = some x) : (dDefs l)[k]? = some (dDef x) := by rw [dDefs_eq, List.getElem?_map, h]; rfl
theorem dDefs_app {a b : List DefD} : dDefs a ++ dDefs b = dDefs (a ++ b) := by rw [dDefs_eq, dDefs_eq, dDefs_eq, List.map_append]
theorem dDefs_one {a : List DefD} {x : DefD} : dDefs a ++ [dDef x] = dDefs (a ++ [x]) := by rw [dDefs_eq, dDefs_eq, List.map_append]; rfl
theorem dDefs_all {l : List DefD} : ∀ c ∈ dDefs l, c.length = 22 := by
  intro c hc; rw [dDefs_eq] at hc; obtain ⟨x, _, rfl⟩ := List.mem_map.1 hc; rfl
theorem dDefs_drop {l : List DefD} {k : Nat} : (dDefs l).drop k = dDefs (l.drop k) := by rw [dDefs_eq, dDefs_eq, List.map_drop]
theorem dDefs_td {l : List DefD} {k n : Nat} : ((dDefs l).take n).drop k = dDefs ((l.take n).drop k) := by rw [dDefs_eq, dDefs_eq, List.map_drop, List.map_take]
structure ProgD where
  xSizes : List ByteArray
  xWhere : List ConstraintD
  xParams : List ParamD
  xDefs : List DefD
  xOuts : List ByteArray
def dProg (x : ProgD) : List D := [.sl (dStrs x.xSizes), .sl (dConstraints x.xWhere), .sl (dParams x.xParams), .sl (dDefs x.xDefs), .sl (dStrs x.xOuts)]
def aProg (x : ProgD) : AV := .agg [.d (.sl (dStrs x.xSizes)), .d (.sl (dConstraints x.xWhere)), .d (.sl (dParams x.xParams)), .d (.sl (dDefs x.xDefs)), .d (.sl (dStrs x.xOuts))]
def aStr (s : ByteArray) : AV := .d (.v (.string s))
def aInt (n : Int) : AV := .d (.v (.int .i64 n))
def aI64 (n : Int64) : AV := .d (.v (.int .i64 n.toInt))
def aBool (b : Bool) : AV := .d (.v (.bool b))
abbrev w64 (n : Int) : Int := IntKind.i64.wrap n
theorem w64_eq (a : Int) : IntKind.i64.wrap a = a.bmod (2 ^ 64) := by
  rw [IntKind.wrap_i64, Int.bmod_def]; omega
theorem i64_of (a : Int) : aInt (w64 a) = aI64 (Int64.ofInt a) := by
  unfold aInt aI64 w64; rw [w64_eq, Int64.toInt_ofInt]
theorem i64_add (a b : Int64) : aInt (w64 (a.toInt + b.toInt)) = aI64 (a + b) := by
  unfold aInt aI64 w64; rw [w64_eq, Int64.toInt_add]
theorem i64_sub (a b : Int64) : aInt (w64 (a.toInt - b.toInt)) = aI64 (a - b) := by
  unfold aInt aI64 w64; rw [w64_eq, Int64.toInt_sub]
theorem i64_mul (a b : Int64) : aInt (w64 (a.toInt * b.toInt)) = aI64 (a * b) := by
  unfold aInt aI64 w64; rw [w64_eq, Int64.toInt_mul]
theorem i64_neg (a : Int64) : aInt (w64 (0 - a.toInt)) = aI64 (-a) := by
  unfold aInt aI64 w64; rw [w64_eq, Int64.toInt_neg, Int.zero_sub]
theorem i64_fix (a : Int64) : w64 a.toInt = a.toInt := by
  unfold w64; rw [IntKind.wrap_i64]
  have h1 := a.le_toInt
  have h2 := a.toInt_lt
  omega
theorem i64_fit {a : Int} (h : w64 a = a) : aInt a = aI64 (Int64.ofInt a) := by
  rw [← i64_of, h]
theorem i64_rem (a : Int64) (b : Int) : aInt (a.toInt.tmod b) = aI64 (Int64.ofInt (a.toInt.tmod b)) := by
  refine i64_fit ?_
  unfold w64; rw [IntKind.wrap_i64]
  have h1 := a.le_toInt
  have h2 := a.toInt_lt
  have h3 := Int.natAbs_tmod a.toInt b
  have h4 : (a.toInt.tmod b).natAbs ≤ a.toInt.natAbs := by rw [h3]; exact Nat.mod_le _ _
  have h7 : -9223372036854775808 ≤ a.toInt ∧ a.toInt ≤ 9223372036854775807 := by omega
  clear h1 h2 h3
  by_cases h5 : 0 ≤ a.toInt
  · have := Int.tmod_nonneg b h5
    generalize a.toInt.tmod b = x at *
    omega
  · have h6 := Int.tmod_nonneg b (show 0 ≤ -a.toInt by omega)
    rw [Int.neg_tmod] at h6
    generalize a.toInt.tmod b = x at *
    omega
theorem wrap_nx {α : Type} {l : List α} {k : Nat} {x : α} {xs : List α} {n : Nat} (hd : l.drop k = x :: xs) (hn : l.length = n) (hl : n ≤ maxLen) : aInt (w64 ((k : Int) + 1)) = aInt ((k + 1 : Nat) : Int) := by
  have : (l.drop k).length = (x :: xs).length := by rw [hd]
  rw [List.length_drop, List.length_cons] at this
  have h1 : k < maxLen := by omega
  unfold maxLen at h1
  have e : IntKind.i64.wrap ((k : Int) + 1) = ((k + 1 : Nat) : Int) := by rw [IntKind.wrap_i64]; omega
  unfold aInt w64; rw [e]
theorem drop_get {α : Type} {l : List α} {k : Nat} {x : α} {xs : List α} (hd : l.drop k = x :: xs) : l[k]? = some x := by
  have : (l.drop k)[0]? = some x := by rw [hd]; rfl
  rwa [List.getElem?_drop] at this
theorem drop_nx {α : Type} {l : List α} {k : Nat} {x : α} {xs : List α} (hd : l.drop k = x :: xs) : l.drop (k + 1) = xs := by
  rw [← List.drop_drop, hd]; rfl
theorem lt_t {α : Type} {l : List α} {k : Nat} {x : α} {xs : List α} (hd : l.drop k = x :: xs) : decide ((k : Int) < (l.length : Int)) = true := by
  have : (l.drop k).length = (x :: xs).length := by rw [hd]
  rw [List.length_drop, List.length_cons] at this
  exact decide_eq_true (by omega)
theorem lt_f {α : Type} {l : List α} {k : Nat} (hd : l.drop k = []) : decide ((k : Int) < (l.length : Int)) = false := by
  have := List.drop_eq_nil_iff.1 hd
  exact decide_eq_false (by omega)
theorem small_app {n by_ : Nat} (h : Nat.ble (n * by_) 140737488355328 = true) (hb : 1 ≤ by_) : n ≤ maxLen ∧ n * by_ ≤ 140737488355328 := by
  have h := Nat.le_of_ble_eq_true h
  refine ⟨?_, h⟩
  unfold maxLen
  have := Nat.le_mul_of_pos_right n hb
  omega
theorem mixed : Tryz.prog.follows .mixedOrders = true := by kernel_rfl
end Go.Proofs.YtaiihhogoogkmaaGreatDoor

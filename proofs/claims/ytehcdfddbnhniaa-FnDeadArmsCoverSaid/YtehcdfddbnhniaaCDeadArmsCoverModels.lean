/- What is said here: nothing is proved. A model of each function, printed by a program out of the translated code. -/
import Derived.Test.YtehcdfddbnhniaaCDeadArmsCoverEng25
set_option linter.unusedVariables false
set_option linter.unusedSimpArgs false
namespace Go.Eng
open Go

def enc_b (x : Bool) : List Value := [.bool x]

def enc_i (x : Int) : List Value := [.int .i64 x]

def enc_ii (x : Int × Int) : List Value := [.int .i64 x.1, .int .i64 x.2]

def enc_s (x : ByteArray) : List Value := [.string x]

def enc_si (x : ByteArray × Int) : List Value := [.string x.1, .int .i64 x.2]

def enc_y (x : Int) : List Value := [.int .u8 x]

def FU : Nat := 4611686018427387904

def bstr (ns : List Int) : ByteArray := ns.foldl (fun r n => r.push (UInt8.ofNat n.toNat)) ByteArray.empty

/-- loop.example/namedflags/spec.newReader -/
def m_spec_newReader (p1 : List (Int)) : Option (List (Int)) :=
  bif decide (2000 < (p1.length : Int)) then
    gd (0 ≤ (0 : Int) ∧ (0 : Int) ≤ (2000 : Int) ∧ (2000 : Int) ≤ (p1.length : Int) ∧ (p1.length : Int) ≤ (p1.length : Int)) <|
    some (sub p1 (0 : Int) (2000 : Int))
  else
    some p1

/-- (*loop.example/namedflags/spec.reader).pick -/
def m_spec_reader_pick (p1 : Int) (p2 : List (Int)) (p3 : Int) : Option (Int) :=
  bif decide (p1 < 1) then
    some 0
  else
    bif decide ((p2.length : Int) = 0) then
      some 0
    else
      nm (decide ((IntKind.wrap .i64 ((IntKind.wrap .i64 (p3 + 1)) - 1)) < (p2.length : Int))) fun v4 =>
      bif v4 then
        gd (0 ≤ (IntKind.wrap .i64 ((IntKind.wrap .i64 (p3 + 1)) - 1)) ∧ (IntKind.wrap .i64 ((IntKind.wrap .i64 (p3 + 1)) - 1)) < (p2.length : Int)) <|
        nm ((gt p2 (IntKind.wrap .i64 ((IntKind.wrap .i64 (p3 + 1)) - 1)))) fun v5 =>
        gd (p1 ≠ 0) <|
        some (Int.tmod (IntKind.wrap .i64 (v5)) p1)
      else
        gd ((p2.length : Int) ≠ 0) <|
        nm (Int.tmod (IntKind.wrap .i64 ((IntKind.wrap .i64 (p3 + 1)) - 1)) (p2.length : Int)) fun v6 =>
        gd (0 ≤ v6 ∧ v6 < (p2.length : Int)) <|
        nm (IntKind.wrap .i64 ((IntKind.wrap .i64 ((IntKind.wrap .i64 (p3 + 1)) - 1)) * 7)) fun v7 =>
        gd (0 ≤ (Int.tmod (IntKind.wrap .i64 (v7 + 3)) (p2.length : Int)) ∧ (Int.tmod (IntKind.wrap .i64 (v7 + 3)) (p2.length : Int)) < (p2.length : Int)) <|
        nm ((gt p2 (Int.tmod (IntKind.wrap .i64 (v7 + 3)) (p2.length : Int)))) fun v8 =>
        nm (IntKind.wrap .i64 ((IntKind.wrap .i64 ((IntKind.wrap .i64 ((gt p2 v6))) * 131)) + (IntKind.wrap .i64 ((IntKind.wrap .i64 (v8)) * 1117)))) fun v9 =>
        nm (IntKind.wrap .i64 ((IntKind.wrap .i64 ((IntKind.wrap .i64 (p3 + 1)) - 1)) * 29)) fun v10 =>
        gd ((p2.length : Int) ≠ 0 ∧ IntKind.wrap .i64 (Int.tdiv (IntKind.wrap .i64 ((IntKind.wrap .i64 (p3 + 1)) - 1)) (p2.length : Int)) = Int.tdiv (IntKind.wrap .i64 ((IntKind.wrap .i64 (p3 + 1)) - 1)) (p2.length : Int)) <|
        nm (Int.tdiv (IntKind.wrap .i64 ((IntKind.wrap .i64 (p3 + 1)) - 1)) (p2.length : Int)) fun v11 =>
        nm (IntKind.wrap .i64 ((IntKind.wrap .i64 (v9 + v10)) + (IntKind.wrap .i64 (v11 * 53)))) fun v12 =>
        gd ((64 : Int) ≠ 0 ∧ IntKind.wrap .i64 (Int.tdiv v12 64) = Int.tdiv v12 64) <|
        gd (p1 ≠ 0) <|
        some (Int.tmod (Go.bits .xor .i64 v12 (Int.tdiv v12 64)) p1)

/-- (*loop.example/namedflags/spec.reader).one -/
def m_spec_reader_one (p1 : List (Int)) (p2 : List (Int)) (p3 : Int) : Option (Int) :=
  bd (m_spec_reader_pick (p1.length : Int) p2 p3) fun x4 =>
  gd (0 ≤ x4 ∧ x4 < (p1.length : Int)) <|
  some (gt p1 x4)

/-- (*loop.example/namedflags/spec.reader).of -/
def m_spec_reader_of (p1 : List (ByteArray)) (p2 : List (Int)) (p3 : Int) : Option (ByteArray) :=
  bd (m_spec_reader_pick (p1.length : Int) p2 p3) fun x4 =>
  gd (0 ≤ x4 ∧ x4 < (p1.length : Int)) <|
  some (gt p1 x4)

/-- loop.example/namedflags/spec.aName -/
def m_spec_aName (p1 : List (Int)) (p2 : Int) : Option (ByteArray) :=
  bd (m_spec_reader_of ([(ByteArray.mk #[97]), (ByteArray.mk #[98]), (ByteArray.mk #[99]), (ByteArray.mk #[100]), (ByteArray.mk #[101]), (ByteArray.mk #[97, 98]), (ByteArray.mk #[114, 101, 100]), (ByteArray.mk #[98, 108, 117, 101]), (ByteArray.mk #[111, 110]), (ByteArray.mk #[111, 102, 102]), (ByteArray.mk #[97, 108, 108]), (ByteArray.mk #[102])] : List (ByteArray)) p1 p2) fun x3 =>
  some x3

def m_spec_indexOf_L1 (p1 : List (ByteArray × Int)) (p2 : ByteArray) : Nat → Int → Option (Int ⊕ Unit)
  | 0, _ => none
  | fu + 1, v3 =>
    bif decide (v3 < (p1.length : Int)) then
      gd (0 ≤ v3 ∧ v3 < (p1.length : Int)) <|
      bif decide (((gt p1 v3).1) = p2) then
        some (Sum.inl v3)
      else
        m_spec_indexOf_L1 p1 p2 fu (IntKind.wrap .i64 (v3 + 1))
    else
      some (Sum.inr ())

/-- loop.example/namedflags/spec.indexOf -/
def m_spec_indexOf (p1 : List (ByteArray × Int)) (p2 : ByteArray) : Option (Int) :=
  bd (m_spec_indexOf_L1 p1 p2 FU 0) fun x4 =>
  sm x4 (fun x5 =>
    some x5) (fun x6 =>
    some (-1))

def m_spec_goodDefs_L1 (p1 : Int) (p2 : List (Int)) : Nat → (List (ByteArray × Int)) → Int → Int → Option ((List (ByteArray × Int)) × Int)
  | 0, _, _, _ => none
  | fu + 1, v5, v6, v7 =>
    bif decide (0 < v6) then
      bd (m_spec_aName p2 v7) fun x8 =>
      bd (m_spec_reader_pick 12 p2 (IntKind.wrap .i64 (v7 + 1))) fun x9 =>
      bd (m_spec_reader_one ([1, 2, 3, 4, 5, 0, 8, x9, (-1), 7, 1000, 16] : List (Int)) p2 (IntKind.wrap .i64 ((IntKind.wrap .i64 (v7 + 1)) + 1))) fun x10 =>
      bif decide (p1 = 4095) then
        bd (m_spec_reader_pick 64 p2 (IntKind.wrap .i64 ((IntKind.wrap .i64 ((IntKind.wrap .i64 (v7 + 1)) + 1)) + 1))) fun x11 =>
        bd (m_spec_reader_one ([1, 2, 4, 8, 3, 16, 0, 6, 7, x11, 2048, 5, 1, 2, 4] : List (Int)) p2 (IntKind.wrap .i64 ((IntKind.wrap .i64 ((IntKind.wrap .i64 ((IntKind.wrap .i64 (v7 + 1)) + 1)) + 1)) + 1))) fun x12 =>
        bd (m_spec_indexOf v5 x8) fun x13 =>
        bif decide (x13 < 0) then
          bif decide (0 ≤ x12) then
            gd (v5.length + ([(x8, x12)] : List (ByteArray × Int)).length ≤ 1099511627776) <|
            m_spec_goodDefs_L1 p1 p2 fu (v5 ++ ([(x8, x12)] : List (ByteArray × Int))) (IntKind.wrap .i64 (v6 - 1)) (IntKind.wrap .i64 ((IntKind.wrap .i64 ((IntKind.wrap .i64 ((IntKind.wrap .i64 ((IntKind.wrap .i64 (v7 + 1)) + 1)) + 1)) + 1)) + 1))
          else
            bif (!decide (p1 = 4095)) then
              gd (v5.length + ([(x8, x12)] : List (ByteArray × Int)).length ≤ 1099511627776) <|
              m_spec_goodDefs_L1 p1 p2 fu (v5 ++ ([(x8, x12)] : List (ByteArray × Int))) (IntKind.wrap .i64 (v6 - 1)) (IntKind.wrap .i64 ((IntKind.wrap .i64 ((IntKind.wrap .i64 ((IntKind.wrap .i64 ((IntKind.wrap .i64 (v7 + 1)) + 1)) + 1)) + 1)) + 1))
            else
              m_spec_goodDefs_L1 p1 p2 fu v5 (IntKind.wrap .i64 (v6 - 1)) (IntKind.wrap .i64 ((IntKind.wrap .i64 ((IntKind.wrap .i64 ((IntKind.wrap .i64 ((IntKind.wrap .i64 (v7 + 1)) + 1)) + 1)) + 1)) + 1))
        else
          m_spec_goodDefs_L1 p1 p2 fu v5 (IntKind.wrap .i64 (v6 - 1)) (IntKind.wrap .i64 ((IntKind.wrap .i64 ((IntKind.wrap .i64 ((IntKind.wrap .i64 ((IntKind.wrap .i64 (v7 + 1)) + 1)) + 1)) + 1)) + 1))
      else
        bd (m_spec_indexOf v5 x8) fun x14 =>
        bif decide (x14 < 0) then
          bif decide (0 ≤ x10) then
            gd (v5.length + ([(x8, x10)] : List (ByteArray × Int)).length ≤ 1099511627776) <|
            m_spec_goodDefs_L1 p1 p2 fu (v5 ++ ([(x8, x10)] : List (ByteArray × Int))) (IntKind.wrap .i64 (v6 - 1)) (IntKind.wrap .i64 ((IntKind.wrap .i64 ((IntKind.wrap .i64 (v7 + 1)) + 1)) + 1))
          else
            bif (!decide (p1 = 4095)) then
              gd (v5.length + ([(x8, x10)] : List (ByteArray × Int)).length ≤ 1099511627776) <|
              m_spec_goodDefs_L1 p1 p2 fu (v5 ++ ([(x8, x10)] : List (ByteArray × Int))) (IntKind.wrap .i64 (v6 - 1)) (IntKind.wrap .i64 ((IntKind.wrap .i64 ((IntKind.wrap .i64 (v7 + 1)) + 1)) + 1))
            else
              m_spec_goodDefs_L1 p1 p2 fu v5 (IntKind.wrap .i64 (v6 - 1)) (IntKind.wrap .i64 ((IntKind.wrap .i64 ((IntKind.wrap .i64 (v7 + 1)) + 1)) + 1))
        else
          m_spec_goodDefs_L1 p1 p2 fu v5 (IntKind.wrap .i64 (v6 - 1)) (IntKind.wrap .i64 ((IntKind.wrap .i64 ((IntKind.wrap .i64 (v7 + 1)) + 1)) + 1))
    else
      some (v5, v7)

/-- loop.example/namedflags/spec.goodDefs -/
def m_spec_goodDefs (p1 : Int) (p2 : List (Int)) (p3 : Int) : Option ((List (ByteArray × Int)) × Int) :=
  bd (m_spec_reader_one ([4, 3, 5, 2, 6, 1, 0, 12] : List (Int)) p2 p3) fun x4 =>
  bd (m_spec_goodDefs_L1 p1 p2 FU ([] : List (ByteArray × Int)) x4 (IntKind.wrap .i64 (p3 + 1))) fun x15 =>
  some (x15.1, x15.2)

/-- loop.example/namedflags/spec.goodFlag -/
def m_spec_goodFlag (p1 : List (Int)) (p2 : Int) : Option ((List (ByteArray × Int)) × Int × Int) :=
  bd (m_spec_goodDefs 4095 p1 p2) fun x3 =>
  bd (m_spec_reader_pick 4 p1 x3.2) fun x4 =>
  some (x3.1, x4, IntKind.wrap .i64 (x3.2 + 1))

/-- loop.example/namedflags/spec.anyName -/
def m_spec_anyName (p1 : List (Int)) (p2 : Int) : Option (ByteArray) :=
  bd (m_spec_reader_pick 16 p1 p2) fun x3 =>
  bif decide (x3 = 0) then
    bd (m_spec_reader_of ([ByteArray.empty, (ByteArray.mk #[65]), (ByteArray.mk #[116, 111, 111, 108, 111, 110, 103]), (ByteArray.mk #[97, 49]), (ByteArray.mk #[97, 32, 98]), (ByteArray.mk #[97, 98, 99, 100, 101, 102])] : List (ByteArray)) p1 (IntKind.wrap .i64 (p2 + 1))) fun x4 =>
    some x4
  else
    bd (m_spec_aName p1 (IntKind.wrap .i64 (p2 + 1))) fun x5 =>
    some x5

/-- loop.example/namedflags/spec.someFlag -/
def m_spec_someFlag (p1 : List (Int)) (p2 : Int) : Option ((List (ByteArray × Int)) × Int × Int) :=
  bd (m_spec_goodFlag p1 p2) fun x3 =>
  bd (m_spec_reader_pick 24 p1 x3.2.2) fun x4 =>
  bif decide (x4 = 0) then
    bd (m_spec_reader_one ([(-1), 4] : List (Int)) p1 (IntKind.wrap .i64 (x3.2.2 + 1))) fun x5 =>
    some (x3.1, x5, IntKind.wrap .i64 ((IntKind.wrap .i64 (x3.2.2 + 1)) + 1))
  else
    bif decide (x4 = 1) then
      bd (m_spec_anyName p1 (IntKind.wrap .i64 (x3.2.2 + 1))) fun x6 =>
      bd (m_spec_reader_one ([(-1), 4096, 1] : List (Int)) p1 (IntKind.wrap .i64 ((IntKind.wrap .i64 ((IntKind.wrap .i64 (x3.2.2 + 1)) + 1)) + 1))) fun x7 =>
      gd (x3.1.length + ([(x6, x7)] : List (ByteArray × Int)).length ≤ 1099511627776) <|
      some (x3.1 ++ ([(x6, x7)] : List (ByteArray × Int)), x3.2.1, IntKind.wrap .i64 ((IntKind.wrap .i64 ((IntKind.wrap .i64 ((IntKind.wrap .i64 (x3.2.2 + 1)) + 1)) + 1)) + 1))
    else
      some (x3.1, x3.2.1, IntKind.wrap .i64 (x3.2.2 + 1))

def m_spec_valueAt_L1 (p1 : List (ByteArray × Int)) (p2 : Int) : Nat → Int → Option (Int ⊕ Unit)
  | 0, _ => none
  | fu + 1, v3 =>
    bif decide (v3 < (p1.length : Int)) then
      gd (0 ≤ v3 ∧ v3 < (p1.length : Int)) <|
      bif decide (((gt p1 v3).2) = p2) then
        some (Sum.inl v3)
      else
        m_spec_valueAt_L1 p1 p2 fu (IntKind.wrap .i64 (v3 + 1))
    else
      some (Sum.inr ())

/-- loop.example/namedflags/spec.valueAt -/
def m_spec_valueAt (p1 : List (ByteArray × Int)) (p2 : Int) : Option (Int) :=
  bd (m_spec_valueAt_L1 p1 p2 FU 0) fun x4 =>
  sm x4 (fun x5 =>
    some x5) (fun x6 =>
    some (-1))

def m_spec_singles_L1 (p1 : List (ByteArray × Int)) : Nat → (List (ByteArray × Int)) → Int → Option (List (ByteArray × Int))
  | 0, _, _ => none
  | fu + 1, v2, v3 =>
    bif decide (v3 ≤ 4095) then
      bd (m_spec_valueAt p1 v3) fun x4 =>
      bif decide (0 ≤ x4) then
        gd (0 ≤ x4 ∧ x4 < (p1.length : Int)) <|
        gd (v2.length + ([((gt p1 x4).1, (gt p1 x4).2)] : List (ByteArray × Int)).length ≤ 1099511627776) <|
        m_spec_singles_L1 p1 fu (v2 ++ ([((gt p1 x4).1, (gt p1 x4).2)] : List (ByteArray × Int))) (IntKind.wrap .i64 (v3 * 2))
      else
        m_spec_singles_L1 p1 fu v2 (IntKind.wrap .i64 (v3 * 2))
    else
      some v2

/-- loop.example/namedflags/spec.singles -/
def m_spec_singles (p1 : List (ByteArray × Int)) : Option (List (ByteArray × Int)) :=
  bd (m_spec_singles_L1 p1 FU ([] : List (ByteArray × Int)) 1) fun x5 =>
  some x5

def m_spec_anArm_L1 (p3 : List (Int)) (x5 : List (ByteArray × Int)) : Nat → Int → Int → Int → Int → Option (Int × Int × Int)
  | 0, _, _, _, _ => none
  | fu + 1, v6, v7, v8, v9 =>
    bif decide (v8 < (x5.length : Int)) then
      bd (m_spec_reader_pick 4 p3 v9) fun x10 =>
      bif decide (x10 = 0) then
        gd (0 ≤ v8 ∧ v8 < (x5.length : Int)) <|
        m_spec_anArm_L1 p3 x5 fu (IntKind.wrap .i64 (v6 + ((gt x5 v8).2))) v7 (IntKind.wrap .i64 (v8 + 1)) (IntKind.wrap .i64 (v9 + 1))
      else
        bif decide (x10 = 1) then
          gd (0 ≤ v8 ∧ v8 < (x5.length : Int)) <|
          m_spec_anArm_L1 p3 x5 fu v6 (IntKind.wrap .i64 (v7 + ((gt x5 v8).2))) (IntKind.wrap .i64 (v8 + 1)) (IntKind.wrap .i64 (v9 + 1))
        else
          m_spec_anArm_L1 p3 x5 fu v6 v7 (IntKind.wrap .i64 (v8 + 1)) (IntKind.wrap .i64 (v9 + 1))
    else
      some (v6, v7, v9)

/-- loop.example/namedflags/spec.anArm -/
def m_spec_anArm (p1 : List (ByteArray × Int)) (p2 : Int) (p3 : List (Int)) (p4 : Int) : Option (Int × Int × Int) :=
  bd (m_spec_singles p1) fun x5 =>
  bd (m_spec_anArm_L1 p3 x5 FU 0 0 0 p4) fun x11 =>
  some (x11.1, x11.2.1, x11.2.2)

/-- loop.example/namedflags/spec.someArm -/
def m_spec_someArm (p1 : List (ByteArray × Int)) (p2 : Int) (p3 : List (Int)) (p4 : Int) : Option (Int × Int × Int) :=
  bd (m_spec_anArm p1 p2 p3 p4) fun x5 =>
  bd (m_spec_reader_pick 16 p3 x5.2.2) fun x6 =>
  bif decide (x6 = 0) then
    bd (m_spec_reader_one ([(-1), 4096, 32, 1] : List (Int)) p3 (IntKind.wrap .i64 (x5.2.2 + 1))) fun x7 =>
    some (x7, x5.2.1, IntKind.wrap .i64 ((IntKind.wrap .i64 (x5.2.2 + 1)) + 1))
  else
    bif decide (x6 = 1) then
      bd (m_spec_reader_one ([(-1), 4096, 32, x5.1] : List (Int)) p3 (IntKind.wrap .i64 (x5.2.2 + 1))) fun x8 =>
      some (x5.1, x8, IntKind.wrap .i64 ((IntKind.wrap .i64 (x5.2.2 + 1)) + 1))
    else
      some (x5.1, x5.2.1, IntKind.wrap .i64 (x5.2.2 + 1))

def m_spec_someArms_L1 (p1 : List (ByteArray × Int)) (p2 : Int) (p3 : List (Int)) : Nat → (List (Int × Int)) → Int → Int → Option ((List (Int × Int)) × Int)
  | 0, _, _, _ => none
  | fu + 1, v6, v7, v8 =>
    bif decide (0 < v7) then
      bd (m_spec_anArm p1 p2 p3 v8) fun x9 =>
      bd (m_spec_reader_pick 2 p3 x9.2.2) fun x10 =>
      bif decide (x10 = 0) then
        bd (m_spec_reader_one ([x9.1, 0] : List (Int)) p3 (IntKind.wrap .i64 (x9.2.2 + 1))) fun x11 =>
        bd (m_spec_reader_one ([x9.2.1, 0] : List (Int)) p3 (IntKind.wrap .i64 ((IntKind.wrap .i64 (x9.2.2 + 1)) + 1))) fun x12 =>
        gd (v6.length + ([(x11, x12)] : List (Int × Int)).length ≤ 1099511627776) <|
        m_spec_someArms_L1 p1 p2 p3 fu (v6 ++ ([(x11, x12)] : List (Int × Int))) (IntKind.wrap .i64 (v7 - 1)) (IntKind.wrap .i64 ((IntKind.wrap .i64 ((IntKind.wrap .i64 (x9.2.2 + 1)) + 1)) + 1))
      else
        gd (v6.length + ([(x9.1, x9.2.1)] : List (Int × Int)).length ≤ 1099511627776) <|
        m_spec_someArms_L1 p1 p2 p3 fu (v6 ++ ([(x9.1, x9.2.1)] : List (Int × Int))) (IntKind.wrap .i64 (v7 - 1)) (IntKind.wrap .i64 (x9.2.2 + 1))
    else
      some (v6, v8)

/-- loop.example/namedflags/spec.someArms -/
def m_spec_someArms (p1 : List (ByteArray × Int)) (p2 : Int) (p3 : List (Int)) (p4 : Int) : Option ((List (Int × Int)) × Int) :=
  bd (m_spec_reader_one ([3, 2, 4, 1, 0, 6] : List (Int)) p3 p4) fun x5 =>
  bd (m_spec_someArms_L1 p1 p2 p3 FU ([] : List (Int × Int)) x5 (IntKind.wrap .i64 (p4 + 1))) fun x13 =>
  bd (m_spec_reader_pick 20 p3 x13.2) fun x14 =>
  bif decide (x14 = 0) then
    bd (m_spec_someArm p1 p2 p3 (IntKind.wrap .i64 (x13.2 + 1))) fun x15 =>
    gd (x13.1.length + ([(x15.1, x15.2.1)] : List (Int × Int)).length ≤ 1099511627776) <|
    some (x13.1 ++ ([(x15.1, x15.2.1)] : List (Int × Int)), x15.2.2)
  else
    some (x13.1, IntKind.wrap .i64 (x13.2 + 1))

/-- loop.example/namedflags/spec.DrawFirstMissed -/
def m_spec_DrawFirstMissed (p1 : List (Int)) : Option ((List (ByteArray × Int)) × Int × (List (Int × Int))) :=
  bd (m_spec_newReader p1) fun x2 =>
  bd (m_spec_someFlag x2 0) fun x3 =>
  bd (m_spec_someArms x3.1 x3.2.1 x2 x3.2.2) fun x4 =>
  some (x3.1, x3.2.1, x4.1)

/-- loop.example/namedflags/impl.in -/
def m_impl_in (p1 : Int) (p2 : Int) (p3 : Int) : Option (Bool) :=
  bif decide (p2 ≤ p1) then
    some (decide (p1 ≤ p3))
  else
    some false

def m_impl_ValidName_L1 (p1 : ByteArray) : Nat → Int → Option (Unit ⊕ Unit)
  | 0, _ => none
  | fu + 1, v2 =>
    bif decide (v2 < (p1.size : Int)) then
      gd (0 ≤ v2 ∧ v2 < (p1.size : Int)) <|
      bif decide ((byteAt p1 v2.toNat) < 97) then
        some (Sum.inl ())
      else
        bif decide (122 < (byteAt p1 v2.toNat)) then
          some (Sum.inl ())
        else
          m_impl_ValidName_L1 p1 fu (IntKind.wrap .i64 (v2 + 1))
    else
      some (Sum.inr ())

/-- loop.example/namedflags/impl.ValidName -/
def m_impl_ValidName (p1 : ByteArray) : Option (Bool) :=
  bd (m_impl_ValidName_L1 p1 FU 0) fun x3 =>
  sm x3 (fun x4 =>
    some false) (fun x5 =>
    bd (m_impl_in (p1.size : Int) 1 6) fun x6 =>
    some x6)

/-- loop.example/namedflags/impl.named$1 -/
def m_impl_named_1_l (p1 : ByteArray) (p2 : Int) (p3 : ByteArray) : Option (Unit) :=
  some ()

def m_slices_IndexFunc_si_named_1_l_L1 (p1 : List (ByteArray × Int)) (p2 : ByteArray) : Nat → Int → Option (Int ⊕ Unit)
  | 0, _ => none
  | fu + 1, v3 =>
    bif decide (v3 < (p1.length : Int)) then
      gd (0 ≤ v3 ∧ v3 < (p1.length : Int)) <|
      bd (m_impl_named_1_l ((gt p1 v3).1) ((gt p1 v3).2) p2) fun x4 =>
      bif decide (((gt p1 v3).1) = p2) then
        some (Sum.inl v3)
      else
        m_slices_IndexFunc_si_named_1_l_L1 p1 p2 fu (IntKind.wrap .i64 (v3 + 1))
    else
      some (Sum.inr ())

/-- slices.IndexFunc[[]loop.example/namedflags/impl.Def,loop.example/namedflags/impl.Def] -/
def m_slices_IndexFunc_si_named_1_l (p1 : List (ByteArray × Int)) (p2 : ByteArray) : Option (Int) :=
  bd (m_slices_IndexFunc_si_named_1_l_L1 p1 p2 FU 0) fun x5 =>
  sm x5 (fun x6 =>
    some x6) (fun x7 =>
    some (-1))

/-- loop.example/namedflags/impl.named -/
def m_impl_named (p1 : List (ByteArray × Int)) (p2 : ByteArray) : Option (Int) :=
  bd (m_slices_IndexFunc_si_named_1_l p1 p2) fun x3 =>
  some x3

def m_impl_defsValid_L1 (p1 : List (ByteArray × Int)) (p2 : Int) (p3 : Int) : Nat → Int → Option (Unit ⊕ Unit)
  | 0, _ => none
  | fu + 1, v4 =>
    bif decide (v4 < (p1.length : Int)) then
      gd (0 ≤ v4 ∧ v4 < (p1.length : Int)) <|
      bd (m_impl_ValidName ((gt p1 v4).1)) fun x5 =>
      bif (!x5) then
        some (Sum.inl ())
      else
        bd (m_impl_in ((gt p1 v4).2) p2 p3) fun x6 =>
        bif (!x6) then
          some (Sum.inl ())
        else
          gd (0 ≤ (0 : Int) ∧ (0 : Int) ≤ v4 ∧ v4 ≤ (p1.length : Int) ∧ (p1.length : Int) ≤ (p1.length : Int)) <|
          bd (m_impl_named (sub p1 (0 : Int) v4) ((gt p1 v4).1)) fun x7 =>
          bif decide (0 ≤ x7) then
            some (Sum.inl ())
          else
            m_impl_defsValid_L1 p1 p2 p3 fu (IntKind.wrap .i64 (v4 + 1))
    else
      some (Sum.inr ())

/-- loop.example/namedflags/impl.defsValid -/
def m_impl_defsValid (p1 : List (ByteArray × Int)) (p2 : Int) (p3 : Int) : Option (Bool) :=
  bd (m_impl_defsValid_L1 p1 p2 p3 FU 0) fun x8 =>
  sm x8 (fun x9 =>
    some false) (fun x10 =>
    some (decide ((p1.length : Int) ≤ 12)))

/-- loop.example/namedflags/impl.ValidFlag -/
def m_impl_ValidFlag (p1 : List (ByteArray × Int)) (p2 : Int) : Option (Bool) :=
  bd (m_impl_defsValid p1 0 4095) fun x3 =>
  bif x3 then
    bd (m_impl_in p2 0 3) fun x4 =>
    some x4
  else
    some false

def m_impl_Flag_mask_L1 (p1 : List (ByteArray × Int)) : Nat → Int → Int → Option (Int)
  | 0, _, _ => none
  | fu + 1, v3, v4 =>
    bif decide (v4 < (p1.length : Int)) then
      gd (0 ≤ v4 ∧ v4 < (p1.length : Int)) <|
      m_impl_Flag_mask_L1 p1 fu (Go.bits .or .i64 v3 ((gt p1 v4).2)) (IntKind.wrap .i64 (v4 + 1))
    else
      some v3

/-- (loop.example/namedflags/impl.Flag).mask -/
def m_impl_Flag_mask (p1 : List (ByteArray × Int)) (p2 : Int) : Option (Int) :=
  bd (m_impl_Flag_mask_L1 p1 FU 0 0) fun x5 =>
  some x5

/-- (loop.example/namedflags/impl.Arm).ok -/
def m_impl_Arm_ok (p1 : Int) (p2 : Int) (p3 : List (ByteArray × Int)) (p4 : Int) : Option (Bool) :=
  bd (m_impl_Flag_mask p3 p4) fun x5 =>
  nm (decide ((Go.bits .andNot .i64 (Go.bits .or .i64 p1 p2) x5) = 0)) fun v6 =>
  bif v6 then
    some (decide ((Go.bits .and .i64 p1 p2) = 0))
  else
    some false

/-- loop.example/namedflags/impl.armsOk$1 -/
def m_impl_armsOk_1_l (p1 : Int) (p2 : Int) (p3 : List (ByteArray × Int)) (p4 : Int) : Option (Bool) :=
  bd (m_impl_Arm_ok p1 p2 p3 p4) fun x5 =>
  some (!x5)

def m_slices_IndexFunc_ii_armsOk_1_lsi_L1 (p1 : List (Int × Int)) (p2 : List (ByteArray × Int)) (p3 : Int) : Nat → Int → Option (Int ⊕ Unit)
  | 0, _ => none
  | fu + 1, v4 =>
    bif decide (v4 < (p1.length : Int)) then
      gd (0 ≤ v4 ∧ v4 < (p1.length : Int)) <|
      bd (m_impl_armsOk_1_l ((gt p1 v4).1) ((gt p1 v4).2) p2 p3) fun x5 =>
      bif x5 then
        some (Sum.inl v4)
      else
        m_slices_IndexFunc_ii_armsOk_1_lsi_L1 p1 p2 p3 fu (IntKind.wrap .i64 (v4 + 1))
    else
      some (Sum.inr ())

/-- slices.IndexFunc[[]loop.example/namedflags/impl.Arm,loop.example/namedflags/impl.Arm] -/
def m_slices_IndexFunc_ii_armsOk_1_lsi (p1 : List (Int × Int)) (p2 : List (ByteArray × Int)) (p3 : Int) : Option (Int) :=
  bd (m_slices_IndexFunc_ii_armsOk_1_lsi_L1 p1 p2 p3 FU 0) fun x6 =>
  sm x6 (fun x7 =>
    some x7) (fun x8 =>
    some (-1))

/-- slices.ContainsFunc[[]loop.example/namedflags/impl.Arm,loop.example/namedflags/impl.Arm] -/
def m_slices_ContainsFunc_ii_armsOk_1_lsi (p1 : List (Int × Int)) (p2 : List (ByteArray × Int)) (p3 : Int) : Option (Bool) :=
  bd (m_slices_IndexFunc_ii_armsOk_1_lsi p1 p2 p3) fun x4 =>
  some (decide (0 ≤ x4))

/-- loop.example/namedflags/impl.armsOk -/
def m_impl_armsOk (p1 : List (ByteArray × Int)) (p2 : Int) (p3 : List (Int × Int)) : Option (Bool) :=
  bd (m_impl_ValidFlag p1 p2) fun x4 =>
  bif x4 then
    bif decide ((p3.length : Int) ≤ 10) then
      bd (m_slices_ContainsFunc_ii_armsOk_1_lsi p3 p1 p2) fun x5 =>
      some (!x5)
    else
      some false
  else
    some false

def m_impl_inside_L1 (p1 : Int) : Nat → (List (Int)) → Int → Option (List (Int))
  | 0, _, _ => none
  | fu + 1, v2, v3 =>
    bif decide (v3 ≤ p1) then
      bif decide ((Go.bits .andNot .i64 v3 p1) = 0) then
        gd (v2.length + ([v3] : List (Int)).length ≤ 1099511627776) <|
        m_impl_inside_L1 p1 fu (v2 ++ ([v3] : List (Int))) (IntKind.wrap .i64 (v3 + 1))
      else
        m_impl_inside_L1 p1 fu v2 (IntKind.wrap .i64 (v3 + 1))
    else
      some v2

/-- loop.example/namedflags/impl.inside -/
def m_impl_inside (p1 : Int) : Option (List (Int)) :=
  bd (m_impl_inside_L1 p1 FU ([] : List (Int)) 0) fun x4 =>
  some x4

/-- (loop.example/namedflags/impl.Arm).matches -/
def m_impl_Arm_matches (p1 : Int) (p2 : Int) (p3 : Int) : Option (Bool) :=
  bif decide ((Go.bits .andNot .i64 p1 p3) = 0) then
    some (decide ((Go.bits .and .i64 p2 p3) = 0))
  else
    some false

/-- loop.example/namedflags/impl.first$1 -/
def m_impl_first_1_l (p1 : Int) (p2 : Int) (p3 : Int) : Option (Bool) :=
  bd (m_impl_Arm_matches p1 p2 p3) fun x4 =>
  some x4

def m_slices_IndexFunc_ii_first_1_l_L1 (p1 : List (Int × Int)) (p2 : Int) : Nat → Int → Option (Int ⊕ Unit)
  | 0, _ => none
  | fu + 1, v3 =>
    bif decide (v3 < (p1.length : Int)) then
      gd (0 ≤ v3 ∧ v3 < (p1.length : Int)) <|
      bd (m_impl_first_1_l ((gt p1 v3).1) ((gt p1 v3).2) p2) fun x4 =>
      bif x4 then
        some (Sum.inl v3)
      else
        m_slices_IndexFunc_ii_first_1_l_L1 p1 p2 fu (IntKind.wrap .i64 (v3 + 1))
    else
      some (Sum.inr ())

/-- slices.IndexFunc[[]loop.example/namedflags/impl.Arm,loop.example/namedflags/impl.Arm] -/
def m_slices_IndexFunc_ii_first_1_l (p1 : List (Int × Int)) (p2 : Int) : Option (Int) :=
  bd (m_slices_IndexFunc_ii_first_1_l_L1 p1 p2 FU 0) fun x5 =>
  sm x5 (fun x6 =>
    some x6) (fun x7 =>
    some (-1))

/-- loop.example/namedflags/impl.first -/
def m_impl_first (p1 : List (Int × Int)) (p2 : Int) : Option (Int) :=
  bd (m_slices_IndexFunc_ii_first_1_l p1 p2) fun x3 =>
  some x3

def m_impl_FirstMissed_L1 (p3 : List (Int × Int)) (x6 : List (Int)) : Nat → Int → Option (Int ⊕ Unit)
  | 0, _ => none
  | fu + 1, v7 =>
    bif decide (v7 < (x6.length : Int)) then
      gd (0 ≤ v7 ∧ v7 < (x6.length : Int)) <|
      bd (m_impl_first p3 (gt x6 v7)) fun x8 =>
      bif decide (x8 < 0) then
        some (Sum.inl (gt x6 v7))
      else
        m_impl_FirstMissed_L1 p3 x6 fu (IntKind.wrap .i64 (v7 + 1))
    else
      some (Sum.inr ())

/-- loop.example/namedflags/impl.FirstMissed -/
def m_impl_FirstMissed (p1 : List (ByteArray × Int)) (p2 : Int) (p3 : List (Int × Int)) : Option (Int) :=
  bd (m_impl_armsOk p1 p2 p3) fun x4 =>
  bif (!x4) then
    some (-2)
  else
    bd (m_impl_Flag_mask p1 p2) fun x5 =>
    bd (m_impl_inside x5) fun x6 =>
    bd (m_impl_FirstMissed_L1 p3 x6 FU 0) fun x9 =>
    sm x9 (fun x10 =>
      some x10) (fun x11 =>
      some (-1))

def m_spec_both_L1 (p1 : Int) (p2 : Int) : Nat → Int → Int → Option (Int)
  | 0, _, _ => none
  | fu + 1, v3, v4 =>
    bif decide (v4 ≤ 4095) then
      gd (v4 ≠ 0 ∧ IntKind.wrap .i64 (Int.tdiv p1 v4) = Int.tdiv p1 v4) <|
      gd ((2 : Int) ≠ 0) <|
      bif decide ((Int.tmod (Int.tdiv p1 v4) 2) = 1) then
        gd (v4 ≠ 0 ∧ IntKind.wrap .i64 (Int.tdiv p2 v4) = Int.tdiv p2 v4) <|
        bif decide ((Int.tmod (Int.tdiv p2 v4) 2) = 1) then
          m_spec_both_L1 p1 p2 fu (IntKind.wrap .i64 (v3 + v4)) (IntKind.wrap .i64 (v4 * 2))
        else
          m_spec_both_L1 p1 p2 fu v3 (IntKind.wrap .i64 (v4 * 2))
      else
        m_spec_both_L1 p1 p2 fu v3 (IntKind.wrap .i64 (v4 * 2))
    else
      some v3

/-- loop.example/namedflags/spec.both -/
def m_spec_both (p1 : Int) (p2 : Int) : Option (Int) :=
  bd (m_spec_both_L1 p1 p2 FU 0 1) fun x5 =>
  some x5

/-- loop.example/namedflags/spec.either -/
def m_spec_either (p1 : Int) (p2 : Int) : Option (Int) :=
  bd (m_spec_both p1 p2) fun x3 =>
  some (IntKind.wrap .i64 ((IntKind.wrap .i64 (p1 + p2)) - x3))

def m_spec_mask_L1 (p1 : List (ByteArray × Int)) : Nat → Int → Int → Option (Int)
  | 0, _, _ => none
  | fu + 1, v2, v3 =>
    bif decide (v3 < (p1.length : Int)) then
      gd (0 ≤ v3 ∧ v3 < (p1.length : Int)) <|
      bd (m_spec_either v2 ((gt p1 v3).2)) fun x4 =>
      m_spec_mask_L1 p1 fu x4 (IntKind.wrap .i64 (v3 + 1))
    else
      some v2

/-- loop.example/namedflags/spec.mask -/
def m_spec_mask (p1 : List (ByteArray × Int)) : Option (Int) :=
  bd (m_spec_mask_L1 p1 FU 0 0) fun x5 =>
  some x5

/-- loop.example/namedflags/spec.inRange -/
def m_spec_inRange (p1 : Int) (p2 : Int) (p3 : Int) : Option (Bool) :=
  bif decide (p2 ≤ p1) then
    some (decide (p1 ≤ p3))
  else
    some false

def m_spec_validName_L1 (p1 : ByteArray) : Nat → Int → Option (Unit ⊕ Unit)
  | 0, _ => none
  | fu + 1, v2 =>
    bif decide (v2 < (p1.size : Int)) then
      gd (0 ≤ v2 ∧ v2 < (p1.size : Int)) <|
      bif decide ((byteAt p1 v2.toNat) < 97) then
        some (Sum.inl ())
      else
        bif decide (122 < (byteAt p1 v2.toNat)) then
          some (Sum.inl ())
        else
          m_spec_validName_L1 p1 fu (IntKind.wrap .i64 (v2 + 1))
    else
      some (Sum.inr ())

/-- loop.example/namedflags/spec.validName -/
def m_spec_validName (p1 : ByteArray) : Option (Bool) :=
  bd (m_spec_validName_L1 p1 FU 0) fun x3 =>
  sm x3 (fun x4 =>
    some false) (fun x5 =>
    bd (m_spec_inRange (p1.size : Int) 1 6) fun x6 =>
    some x6)

def m_spec_validDefs_L1 (p1 : List (ByteArray × Int)) (p2 : Int) (p3 : Int) : Nat → Int → Option (Unit ⊕ Unit)
  | 0, _ => none
  | fu + 1, v4 =>
    bif decide (v4 < (p1.length : Int)) then
      gd (0 ≤ v4 ∧ v4 < (p1.length : Int)) <|
      bd (m_spec_validName ((gt p1 v4).1)) fun x5 =>
      bif (!x5) then
        some (Sum.inl ())
      else
        bd (m_spec_inRange ((gt p1 v4).2) p2 p3) fun x6 =>
        bif (!x6) then
          some (Sum.inl ())
        else
          gd (0 ≤ (0 : Int) ∧ (0 : Int) ≤ v4 ∧ v4 ≤ (p1.length : Int) ∧ (p1.length : Int) ≤ (p1.length : Int)) <|
          bd (m_spec_indexOf (sub p1 (0 : Int) v4) ((gt p1 v4).1)) fun x7 =>
          bif decide (0 ≤ x7) then
            some (Sum.inl ())
          else
            m_spec_validDefs_L1 p1 p2 p3 fu (IntKind.wrap .i64 (v4 + 1))
    else
      some (Sum.inr ())

/-- loop.example/namedflags/spec.validDefs -/
def m_spec_validDefs (p1 : List (ByteArray × Int)) (p2 : Int) (p3 : Int) : Option (Bool) :=
  bd (m_spec_validDefs_L1 p1 p2 p3 FU 0) fun x8 =>
  sm x8 (fun x9 =>
    some false) (fun x10 =>
    some (decide ((p1.length : Int) ≤ 12)))

/-- loop.example/namedflags/spec.validFlag -/
def m_spec_validFlag (p1 : List (ByteArray × Int)) (p2 : Int) : Option (Bool) :=
  bd (m_spec_validDefs p1 0 4095) fun x3 =>
  bif x3 then
    bd (m_spec_inRange p2 0 3) fun x4 =>
    some x4
  else
    some false

/-- loop.example/namedflags/spec.less -/
def m_spec_less (p1 : Int) (p2 : Int) : Option (Int) :=
  bd (m_spec_both p1 p2) fun x3 =>
  some (IntKind.wrap .i64 (p1 - x3))

/-- loop.example/namedflags/spec.validArm -/
def m_spec_validArm (p1 : List (ByteArray × Int)) (p2 : Int) (p3 : Int) (p4 : Int) : Option (Bool) :=
  bd (m_spec_mask p1) fun x5 =>
  bd (m_spec_validFlag p1 p2) fun x6 =>
  bif x6 then
    bd (m_spec_inRange p3 0 4095) fun x7 =>
    bif x7 then
      bd (m_spec_inRange p4 0 4095) fun x8 =>
      bif x8 then
        bd (m_spec_less p3 x5) fun x9 =>
        bif decide (x9 = 0) then
          bd (m_spec_less p4 x5) fun x10 =>
          bif decide (x10 = 0) then
            bd (m_spec_both p3 p4) fun x11 =>
            some (decide (x11 = 0))
          else
            some false
        else
          some false
      else
        some false
    else
      some false
  else
    some false

def m_spec_validArms_L1 (p1 : List (ByteArray × Int)) (p2 : Int) (p3 : List (Int × Int)) : Nat → Int → Option (Unit ⊕ Unit)
  | 0, _ => none
  | fu + 1, v4 =>
    bif decide (v4 < (p3.length : Int)) then
      gd (0 ≤ v4 ∧ v4 < (p3.length : Int)) <|
      bd (m_spec_validArm p1 p2 ((gt p3 v4).1) ((gt p3 v4).2)) fun x5 =>
      bif (!x5) then
        some (Sum.inl ())
      else
        m_spec_validArms_L1 p1 p2 p3 fu (IntKind.wrap .i64 (v4 + 1))
    else
      some (Sum.inr ())

/-- loop.example/namedflags/spec.validArms -/
def m_spec_validArms (p1 : List (ByteArray × Int)) (p2 : Int) (p3 : List (Int × Int)) : Option (Bool) :=
  bd (m_spec_validArms_L1 p1 p2 p3 FU 0) fun x6 =>
  sm x6 (fun x7 =>
    some false) (fun x8 =>
    bd (m_spec_validFlag p1 p2) fun x9 =>
    bif x9 then
      some (decide ((p3.length : Int) ≤ 10))
    else
      some false)

def m_spec_partsIn_L1 (p1 : Int) : Nat → (List (Int)) → Int → Option (List (Int))
  | 0, _, _ => none
  | fu + 1, v2, v3 =>
    bif decide (v3 ≤ p1) then
      bd (m_spec_less v3 p1) fun x4 =>
      bif decide (x4 = 0) then
        gd (v2.length + ([v3] : List (Int)).length ≤ 1099511627776) <|
        m_spec_partsIn_L1 p1 fu (v2 ++ ([v3] : List (Int))) (IntKind.wrap .i64 (v3 + 1))
      else
        m_spec_partsIn_L1 p1 fu v2 (IntKind.wrap .i64 (v3 + 1))
    else
      some v2

/-- loop.example/namedflags/spec.partsIn -/
def m_spec_partsIn (p1 : Int) : Option (List (Int)) :=
  bd (m_spec_partsIn_L1 p1 FU ([] : List (Int)) 0) fun x5 =>
  some x5

/-- loop.example/namedflags/spec.matches -/
def m_spec_matches (p1 : Int) (p2 : Int) (p3 : Int) : Option (Bool) :=
  bd (m_spec_less p1 p3) fun x4 =>
  bif decide (x4 = 0) then
    bd (m_spec_both p2 p3) fun x5 =>
    some (decide (x5 = 0))
  else
    some false

def m_spec_firstArm_L1 (p1 : List (Int × Int)) (p2 : Int) : Nat → Int → Option (Int ⊕ Unit)
  | 0, _ => none
  | fu + 1, v3 =>
    bif decide (v3 < (p1.length : Int)) then
      gd (0 ≤ v3 ∧ v3 < (p1.length : Int)) <|
      bd (m_spec_matches ((gt p1 v3).1) ((gt p1 v3).2) p2) fun x4 =>
      bif x4 then
        some (Sum.inl v3)
      else
        m_spec_firstArm_L1 p1 p2 fu (IntKind.wrap .i64 (v3 + 1))
    else
      some (Sum.inr ())

/-- loop.example/namedflags/spec.firstArm -/
def m_spec_firstArm (p1 : List (Int × Int)) (p2 : Int) : Option (Int) :=
  bd (m_spec_firstArm_L1 p1 p2 FU 0) fun x5 =>
  sm x5 (fun x6 =>
    some x6) (fun x7 =>
    some (-1))

/-- loop.example/namedflags/spec.DrawDeadArms -/
def m_spec_DrawDeadArms (p1 : List (Int)) : Option ((List (ByteArray × Int)) × Int × (List (Int × Int))) :=
  bd (m_spec_DrawFirstMissed p1) fun x2 =>
  some (x2.1, x2.2.1, x2.2.2)

/-- slices.Clip[[]int,int] -/
def m_slices_Clip_i (p1 : List (Int)) : Option (Unit) :=
  gd (0 ≤ (0 : Int) ∧ (0 : Int) ≤ (p1.length : Int) ∧ (p1.length : Int) ≤ (p1.length : Int) ∧ (p1.length : Int) ≤ (p1.length : Int)) <|
  some ()

/-- slices.Clip[[]int,int] -/
def m_slices_Clip_hi (p1 : List (Int)) : Option (Unit) :=
  some ()

def m_impl_DeadArms_L1 (p3 : List (Int × Int)) (x6 : List (Int)) : Nat → (List Int) → Int → Option (List Int)
  | 0, _, _ => none
  | fu + 1, v7, v8 =>
    bif decide (v8 < (x6.length : Int)) then
      gd (0 ≤ v8 ∧ v8 < (x6.length : Int)) <|
      bd (m_impl_first p3 (gt x6 v8)) fun x9 =>
      m_impl_DeadArms_L1 p3 x6 fu (v7 ++ [x9]) (IntKind.wrap .i64 (v8 + 1))
    else
      some v7

def m_impl_DeadArms_L2 (p3 : List (Int × Int)) (x10 : List Int) : Nat → (List (Int)) → Int → Option (List (Int))
  | 0, _, _ => none
  | fu + 1, v11, v12 =>
    bif decide (v12 < (p3.length : Int)) then
      bif (!(List.any x10 (fun x => decide (x = v12)))) then
        gd (v11.length + ([v12] : List (Int)).length ≤ 1099511627776) <|
        m_impl_DeadArms_L2 p3 x10 fu (v11 ++ ([v12] : List (Int))) (IntKind.wrap .i64 (v12 + 1))
      else
        m_impl_DeadArms_L2 p3 x10 fu v11 (IntKind.wrap .i64 (v12 + 1))
    else
      some v11

/-- loop.example/namedflags/impl.DeadArms -/
def m_impl_DeadArms (p1 : List (ByteArray × Int)) (p2 : Int) (p3 : List (Int × Int)) : Option (List (Int)) :=
  bd (m_impl_armsOk p1 p2 p3) fun x4 =>
  bif (!x4) then
    some ([] : List (Int))
  else
    bd (m_impl_Flag_mask p1 p2) fun x5 =>
    bd (m_impl_inside x5) fun x6 =>
    bd (m_impl_DeadArms_L1 p3 x6 FU ([] : List Int) 0) fun x10 =>
    bd (m_impl_DeadArms_L2 p3 x10 FU ([] : List (Int)) 0) fun x13 =>
    bd (m_slices_Clip_hi x13) fun x14 =>
    some x13

def m_spec_DeadArms_L1 (p3 : List (Int × Int)) (x6 : List (Int)) : Nat → (List (Bool)) → Int → Option (List (Bool))
  | 0, _, _ => none
  | fu + 1, v7, v8 =>
    bif decide (v8 < (x6.length : Int)) then
      gd (0 ≤ v8 ∧ v8 < (x6.length : Int)) <|
      bd (m_spec_firstArm p3 (gt x6 v8)) fun x9 =>
      bif decide (0 ≤ x9) then
        gd (0 ≤ x9 ∧ x9 < (v7.length : Int)) <|
        m_spec_DeadArms_L1 p3 x6 fu (v7.set (0 + x9.toNat) true) (IntKind.wrap .i64 (v8 + 1))
      else
        m_spec_DeadArms_L1 p3 x6 fu v7 (IntKind.wrap .i64 (v8 + 1))
    else
      some v7

def m_spec_DeadArms_L2 (x10 : List (Bool)) : Nat → (List (Int)) → Int → Option (List (Int))
  | 0, _, _ => none
  | fu + 1, v11, v12 =>
    bif decide (v12 < (x10.length : Int)) then
      gd (0 ≤ v12 ∧ v12 < (x10.length : Int)) <|
      bif (!(gt x10 v12)) then
        gd (v11.length + ([v12] : List (Int)).length ≤ 1099511627776) <|
        m_spec_DeadArms_L2 x10 fu (v11 ++ ([v12] : List (Int))) (IntKind.wrap .i64 (v12 + 1))
      else
        m_spec_DeadArms_L2 x10 fu v11 (IntKind.wrap .i64 (v12 + 1))
    else
      some v11

/-- loop.example/namedflags/spec.DeadArms -/
def m_spec_DeadArms (p1 : List (ByteArray × Int)) (p2 : Int) (p3 : List (Int × Int)) : Option (List (Int)) :=
  bd (m_spec_validArms p1 p2 p3) fun x4 =>
  bif (!x4) then
    some ([] : List (Int))
  else
    gd (0 ≤ (p3.length : Int) ∧ (p3.length : Int) = (p3.length : Int) ∧ (1 : Int) * (p3.length : Int) ≤ 281474976710656 ∧ (p3.length : Int) ≤ 9223372036854775807) <|
    bd (m_spec_mask p1) fun x5 =>
    bd (m_spec_partsIn x5) fun x6 =>
    bd (m_spec_DeadArms_L1 p3 x6 FU (List.replicate (p3.length : Int).toNat (false : Bool)) 0) fun x10 =>
    bd (m_spec_DeadArms_L2 x10 FU ([] : List (Int)) 0) fun x13 =>
    some x13

def m_laws_equalInts_L1 (p1 : List (Int)) (p2 : List (Int)) : Nat → Int → Option (Unit ⊕ Unit)
  | 0, _ => none
  | fu + 1, v3 =>
    bif decide (v3 < (p1.length : Int)) then
      gd (0 ≤ v3 ∧ v3 < (p1.length : Int)) <|
      gd (0 ≤ v3 ∧ v3 < (p2.length : Int)) <|
      bif (!decide ((gt p1 v3) = (gt p2 v3))) then
        some (Sum.inl ())
      else
        m_laws_equalInts_L1 p1 p2 fu (IntKind.wrap .i64 (v3 + 1))
    else
      some (Sum.inr ())

/-- loop.example/namedflags/laws.equalInts -/
def m_laws_equalInts (p1 : List (Int)) (p2 : List (Int)) : Option (Bool) :=
  bif (!decide ((p1.length : Int) = (p2.length : Int))) then
    some false
  else
    bd (m_laws_equalInts_L1 p1 p2 FU 0) fun x4 =>
    sm x4 (fun x5 =>
      some false) (fun x6 =>
      some true)

/-- loop.example/namedflags/impl.ValidArm -/
def m_impl_ValidArm (p1 : List (ByteArray × Int)) (p2 : Int) (p3 : Int) (p4 : Int) : Option (Bool) :=
  bd (m_impl_ValidFlag p1 p2) fun x5 =>
  bif x5 then
    bd (m_impl_Arm_ok p3 p4 p1 p2) fun x6 =>
    some x6
  else
    some false

/-- (loop.example/namedflags/impl.Arm).covers -/
def m_impl_Arm_covers (p1 : Int) (p2 : Int) (p3 : Int) (p4 : Int) : Option (Bool) :=
  bif decide ((Go.bits .andNot .i64 p1 p3) = 0) then
    some (decide ((Go.bits .andNot .i64 p2 p4) = 0))
  else
    some false

/-- loop.example/namedflags/impl.ArmCovers -/
def m_impl_ArmCovers (p1 : List (ByteArray × Int)) (p2 : Int) (p3 : Int) (p4 : Int) (p5 : Int) (p6 : Int) : Option (Bool) :=
  bd (m_impl_ValidArm p1 p2 p3 p4) fun x7 =>
  bif x7 then
    bd (m_impl_ValidArm p1 p2 p5 p6) fun x8 =>
    bif x8 then
      bd (m_impl_Arm_covers p3 p4 p5 p6) fun x9 =>
      some x9
    else
      some false
  else
    some false

def m_laws_isIn_L1 (p1 : List (Int)) (p2 : Int) : Nat → Int → Option (Unit ⊕ Unit)
  | 0, _ => none
  | fu + 1, v3 =>
    bif decide (v3 < (p1.length : Int)) then
      gd (0 ≤ v3 ∧ v3 < (p1.length : Int)) <|
      bif decide ((gt p1 v3) = p2) then
        some (Sum.inl ())
      else
        m_laws_isIn_L1 p1 p2 fu (IntKind.wrap .i64 (v3 + 1))
    else
      some (Sum.inr ())

/-- loop.example/namedflags/laws.isIn -/
def m_laws_isIn (p1 : List (Int)) (p2 : Int) : Option (Bool) :=
  bd (m_laws_isIn_L1 p1 p2 FU 0) fun x4 =>
  sm x4 (fun x5 =>
    some true) (fun x6 =>
    some false)

def m_laws_FnDeadArmsCover_L2 (x2 : (List (ByteArray × Int)) × Int × (List (Int × Int))) (x3 : List (Int)) (v11 : Int) : Nat → Int → Option (Unit ⊕ Unit)
  | 0, _ => none
  | fu + 1, v12 =>
    bif decide (v12 < v11) then
      gd (0 ≤ v12 ∧ v12 < (x2.2.2.length : Int)) <|
      gd (0 ≤ v11 ∧ v11 < (x2.2.2.length : Int)) <|
      bd (m_impl_ArmCovers x2.1 x2.2.1 ((gt x2.2.2 v12).1) ((gt x2.2.2 v12).2) ((gt x2.2.2 v11).1) ((gt x2.2.2 v11).2)) fun x13 =>
      bif x13 then
        bd (m_laws_isIn x3 v11) fun x14 =>
        bif (!x14) then
          some (Sum.inl ())
        else
          m_laws_FnDeadArmsCover_L2 x2 x3 v11 fu (IntKind.wrap .i64 (v12 + 1))
      else
        m_laws_FnDeadArmsCover_L2 x2 x3 v11 fu (IntKind.wrap .i64 (v12 + 1))
    else
      some (Sum.inr ())

def m_laws_FnDeadArmsCover_L1 (x2 : (List (ByteArray × Int)) × Int × (List (Int × Int))) (x3 : List (Int)) : Nat → Int → Option (Unit ⊕ Unit)
  | 0, _ => none
  | fu + 1, v11 =>
    bif decide (v11 < (x2.2.2.length : Int)) then
      bd (m_laws_FnDeadArmsCover_L2 x2 x3 v11 FU 0) fun x15 =>
      sm x15 (fun x16 =>
        some (Sum.inl ())) (fun x17 =>
        m_laws_FnDeadArmsCover_L1 x2 x3 fu (IntKind.wrap .i64 (v11 + 1)))
    else
      some (Sum.inr ())

/-- loop.example/namedflags/laws.FnDeadArmsCover -/
def m_laws_FnDeadArmsCover (p1 : List (Int)) : Option (Bool) :=
  bif decide (1048576 < (p1.length : Int)) then
    some true
  else
    bd (m_spec_DrawDeadArms p1) fun x2 =>
    bd (m_impl_DeadArms x2.1 x2.2.1 x2.2.2) fun x3 =>
    bd (m_spec_DeadArms x2.1 x2.2.1 x2.2.2) fun x4 =>
    bd (m_laws_equalInts x3 x4) fun x5 =>
    bif (!x5) then
      bd (m_spec_DeadArms x2.1 x2.2.1 x2.2.2) fun x6 =>
      bd (m_laws_equalInts x3 x6) fun x7 =>
      some x7
    else
      bd (m_impl_FirstMissed x2.1 x2.2.1 x2.2.2) fun x8 =>
      bif decide (x8 = (-2)) then
        bd (m_spec_DeadArms x2.1 x2.2.1 x2.2.2) fun x9 =>
        bd (m_laws_equalInts x3 x9) fun x10 =>
        some x10
      else
        bd (m_laws_FnDeadArmsCover_L1 x2 x3 FU 0) fun x18 =>
        sm x18 (fun x19 =>
          some false) (fun x20 =>
          bd (m_laws_isIn x3 0) fun x21 =>
          some (!x21))

end Go.Eng

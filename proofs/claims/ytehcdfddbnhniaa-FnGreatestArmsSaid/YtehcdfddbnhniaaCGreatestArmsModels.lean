/- What is said here: nothing is proved. A model of each function, printed by a program out of the translated code. -/
import Derived.Test.YtehcdfddbnhniaaCGreatestArmsEng25
set_option linter.unusedVariables false
set_option linter.unusedSimpArgs false
namespace Go.Eng
open Go

def enc_i (x : Int) : List Value := [.int .i64 x]

def enc_ii (x : Int × Int) : List Value := [.int .i64 x.1, .int .i64 x.2]

def enc_s (x : ByteArray) : List Value := [.string x]

def enc_si (x : ByteArray × Int) : List Value := [.string x.1, .int .i64 x.2]

def enc_y (x : Int) : List Value := [.int .u8 x]

def FU : Nat := 4611686018427387904

def bstr (ns : List Int) : ByteArray := ns.foldl (fun r n => r.push (UInt8.ofNat n.toNat)) ByteArray.empty

/-- loop.example/namedflags/spec.newReader -/
def m_spec_newReader (p1 : List (Int)) : Option (List (Int)) :=
  bif decide (2000 < (p1.length : Int)) then
    gd (0 ≤ (0 : Int) ∧ (0 : Int) ≤ (2000 : Int) ∧ (2000 : Int) ≤ (p1.length : Int) ∧ (p1.length : Int) ≤ (p1.length : Int)) <|
    some (sub p1 (0 : Int) (2000 : Int))
  else
    some p1

/-- (*loop.example/namedflags/spec.reader).pick -/
def m_spec_reader_pick (p1 : Int) (p2 : List (Int)) (p3 : Int) : Option (Int) :=
  bif decide (p1 < 1) then
    some 0
  else
    bif decide ((p2.length : Int) = 0) then
      some 0
    else
      nm (decide ((IntKind.wrap .i64 ((IntKind.wrap .i64 (p3 + 1)) - 1)) < (p2.length : Int))) fun v4 =>
      bif v4 then
        gd (0 ≤ (IntKind.wrap .i64 ((IntKind.wrap .i64 (p3 + 1)) - 1)) ∧ (IntKind.wrap .i64 ((IntKind.wrap .i64 (p3 + 1)) - 1)) < (p2.length : Int)) <|
        nm ((gt p2 (IntKind.wrap .i64 ((IntKind.wrap .i64 (p3 + 1)) - 1)))) fun v5 =>
        gd (p1 ≠ 0) <|
        some (Int.tmod (IntKind.wrap .i64 (v5)) p1)
      else
        gd ((p2.length : Int) ≠ 0) <|
        nm (Int.tmod (IntKind.wrap .i64 ((IntKind.wrap .i64 (p3 + 1)) - 1)) (p2.length : Int)) fun v6 =>
        gd (0 ≤ v6 ∧ v6 < (p2.length : Int)) <|
        nm (IntKind.wrap .i64 ((IntKind.wrap .i64 ((IntKind.wrap .i64 (p3 + 1)) - 1)) * 7)) fun v7 =>
        gd (0 ≤ (Int.tmod (IntKind.wrap .i64 (v7 + 3)) (p2.length : Int)) ∧ (Int.tmod (IntKind.wrap .i64 (v7 + 3)) (p2.length : Int)) < (p2.length : Int)) <|
        nm ((gt p2 (Int.tmod (IntKind.wrap .i64 (v7 + 3)) (p2.length : Int)))) fun v8 =>
        nm (IntKind.wrap .i64 ((IntKind.wrap .i64 ((IntKind.wrap .i64 ((gt p2 v6))) * 131)) + (IntKind.wrap .i64 ((IntKind.wrap .i64 (v8)) * 1117)))) fun v9 =>
        nm (IntKind.wrap .i64 ((IntKind.wrap .i64 ((IntKind.wrap .i64 (p3 + 1)) - 1)) * 29)) fun v10 =>
        gd ((p2.length : Int) ≠ 0 ∧ IntKind.wrap .i64 (Int.tdiv (IntKind.wrap .i64 ((IntKind.wrap .i64 (p3 + 1)) - 1)) (p2.length : Int)) = Int.tdiv (IntKind.wrap .i64 ((IntKind.wrap .i64 (p3 + 1)) - 1)) (p2.length : Int)) <|
        nm (Int.tdiv (IntKind.wrap .i64 ((IntKind.wrap .i64 (p3 + 1)) - 1)) (p2.length : Int)) fun v11 =>
        nm (IntKind.wrap .i64 ((IntKind.wrap .i64 (v9 + v10)) + (IntKind.wrap .i64 (v11 * 53)))) fun v12 =>
        gd ((64 : Int) ≠ 0 ∧ IntKind.wrap .i64 (Int.tdiv v12 64) = Int.tdiv v12 64) <|
        gd (p1 ≠ 0) <|
        some (Int.tmod (Go.bits .xor .i64 v12 (Int.tdiv v12 64)) p1)

/-- (*loop.example/namedflags/spec.reader).one -/
def m_spec_reader_one (p1 : List (Int)) (p2 : List (Int)) (p3 : Int) : Option (Int) :=
  bd (m_spec_reader_pick (p1.length : Int) p2 p3) fun x4 =>
  gd (0 ≤ x4 ∧ x4 < (p1.length : Int)) <|
  some (gt p1 x4)

/-- (*loop.example/namedflags/spec.reader).of -/
def m_spec_reader_of (p1 : List (ByteArray)) (p2 : List (Int)) (p3 : Int) : Option (ByteArray) :=
  bd (m_spec_reader_pick (p1.length : Int) p2 p3) fun x4 =>
  gd (0 ≤ x4 ∧ x4 < (p1.length : Int)) <|
  some (gt p1 x4)

/-- loop.example/namedflags/spec.aName -/
def m_spec_aName (p1 : List (Int)) (p2 : Int) : Option (ByteArray) :=
  bd (m_spec_reader_of ([(ByteArray.mk #[97]), (ByteArray.mk #[98]), (ByteArray.mk #[99]), (ByteArray.mk #[100]), (ByteArray.mk #[101]), (ByteArray.mk #[97, 98]), (ByteArray.mk #[114, 101, 100]), (ByteArray.mk #[98, 108, 117, 101]), (ByteArray.mk #[111, 110]), (ByteArray.mk #[111, 102, 102]), (ByteArray.mk #[97, 108, 108]), (ByteArray.mk #[102])] : List (ByteArray)) p1 p2) fun x3 =>
  some x3

def m_spec_indexOf_L1 (p1 : List (ByteArray × Int)) (p2 : ByteArray) : Nat → Int → Option (Int ⊕ Unit)
  | 0, _ => none
  | fu + 1, v3 =>
    bif decide (v3 < (p1.length : Int)) then
      gd (0 ≤ v3 ∧ v3 < (p1.length : Int)) <|
      bif decide (((gt p1 v3).1) = p2) then
        some (Sum.inl v3)
      else
        m_spec_indexOf_L1 p1 p2 fu (IntKind.wrap .i64 (v3 + 1))
    else
      some (Sum.inr ())

/-- loop.example/namedflags/spec.indexOf -/
def m_spec_indexOf (p1 : List (ByteArray × Int)) (p2 : ByteArray) : Option (Int) :=
  bd (m_spec_indexOf_L1 p1 p2 FU 0) fun x4 =>
  sm x4 (fun x5 =>
    some x5) (fun x6 =>
    some (-1))

def m_spec_goodDefs_L1 (p1 : Int) (p2 : List (Int)) : Nat → (List (ByteArray × Int)) → Int → Int → Option ((List (ByteArray × Int)) × Int)
  | 0, _, _, _ => none
  | fu + 1, v5, v6, v7 =>
    bif decide (0 < v6) then
      bd (m_spec_aName p2 v7) fun x8 =>
      bd (m_spec_reader_pick 12 p2 (IntKind.wrap .i64 (v7 + 1))) fun x9 =>
      bd (m_spec_reader_one ([1, 2, 3, 4, 5, 0, 8, x9, (-1), 7, 1000, 16] : List (Int)) p2 (IntKind.wrap .i64 ((IntKind.wrap .i64 (v7 + 1)) + 1))) fun x10 =>
      bif decide (p1 = 4095) then
        bd (m_spec_reader_pick 64 p2 (IntKind.wrap .i64 ((IntKind.wrap .i64 ((IntKind.wrap .i64 (v7 + 1)) + 1)) + 1))) fun x11 =>
        bd (m_spec_reader_one ([1, 2, 4, 8, 3, 16, 0, 6, 7, x11, 2048, 5, 1, 2, 4] : List (Int)) p2 (IntKind.wrap .i64 ((IntKind.wrap .i64 ((IntKind.wrap .i64 ((IntKind.wrap .i64 (v7 + 1)) + 1)) + 1)) + 1))) fun x12 =>
        bd (m_spec_indexOf v5 x8) fun x13 =>
        bif decide (x13 < 0) then
          bif decide (0 ≤ x12) then
            gd (v5.length + ([(x8, x12)] : List (ByteArray × Int)).length ≤ 1099511627776) <|
            m_spec_goodDefs_L1 p1 p2 fu (v5 ++ ([(x8, x12)] : List (ByteArray × Int))) (IntKind.wrap .i64 (v6 - 1)) (IntKind.wrap .i64 ((IntKind.wrap .i64 ((IntKind.wrap .i64 ((IntKind.wrap .i64 ((IntKind.wrap .i64 (v7 + 1)) + 1)) + 1)) + 1)) + 1))
          else
            bif (!decide (p1 = 4095)) then
              gd (v5.length + ([(x8, x12)] : List (ByteArray × Int)).length ≤ 1099511627776) <|
              m_spec_goodDefs_L1 p1 p2 fu (v5 ++ ([(x8, x12)] : List (ByteArray × Int))) (IntKind.wrap .i64 (v6 - 1)) (IntKind.wrap .i64 ((IntKind.wrap .i64 ((IntKind.wrap .i64 ((IntKind.wrap .i64 ((IntKind.wrap .i64 (v7 + 1)) + 1)) + 1)) + 1)) + 1))
            else
              m_spec_goodDefs_L1 p1 p2 fu v5 (IntKind.wrap .i64 (v6 - 1)) (IntKind.wrap .i64 ((IntKind.wrap .i64 ((IntKind.wrap .i64 ((IntKind.wrap .i64 ((IntKind.wrap .i64 (v7 + 1)) + 1)) + 1)) + 1)) + 1))
        else
          m_spec_goodDefs_L1 p1 p2 fu v5 (IntKind.wrap .i64 (v6 - 1)) (IntKind.wrap .i64 ((IntKind.wrap .i64 ((IntKind.wrap .i64 ((IntKind.wrap .i64 ((IntKind.wrap .i64 (v7 + 1)) + 1)) + 1)) + 1)) + 1))
      else
        bd (m_spec_indexOf v5 x8) fun x14 =>
        bif decide (x14 < 0) then
          bif decide (0 ≤ x10) then
            gd (v5.length + ([(x8, x10)] : List (ByteArray × Int)).length ≤ 1099511627776) <|
            m_spec_goodDefs_L1 p1 p2 fu (v5 ++ ([(x8, x10)] : List (ByteArray × Int))) (IntKind.wrap .i64 (v6 - 1)) (IntKind.wrap .i64 ((IntKind.wrap .i64 ((IntKind.wrap .i64 (v7 + 1)) + 1)) + 1))
          else
            bif (!decide (p1 = 4095)) then
              gd (v5.length + ([(x8, x10)] : List (ByteArray × Int)).length ≤ 1099511627776) <|
              m_spec_goodDefs_L1 p1 p2 fu (v5 ++ ([(x8, x10)] : List (ByteArray × Int))) (IntKind.wrap .i64 (v6 - 1)) (IntKind.wrap .i64 ((IntKind.wrap .i64 ((IntKind.wrap .i64 (v7 + 1)) + 1)) + 1))
            else
              m_spec_goodDefs_L1 p1 p2 fu v5 (IntKind.wrap .i64 (v6 - 1)) (IntKind.wrap .i64 ((IntKind.wrap .i64 ((IntKind.wrap .i64 (v7 + 1)) + 1)) + 1))
        else
          m_spec_goodDefs_L1 p1 p2 fu v5 (IntKind.wrap .i64 (v6 - 1)) (IntKind.wrap .i64 ((IntKind.wrap .i64 ((IntKind.wrap .i64 (v7 + 1)) + 1)) + 1))
    else
      some (v5, v7)

/-- loop.example/namedflags/spec.goodDefs -/
def m_spec_goodDefs (p1 : Int) (p2 : List (Int)) (p3 : Int) : Option ((List (ByteArray × Int)) × Int) :=
  bd (m_spec_reader_one ([4, 3, 5, 2, 6, 1, 0, 12] : List (Int)) p2 p3) fun x4 =>
  bd (m_spec_goodDefs_L1 p1 p2 FU ([] : List (ByteArray × Int)) x4 (IntKind.wrap .i64 (p3 + 1))) fun x15 =>
  some (x15.1, x15.2)

/-- loop.example/namedflags/spec.goodFlag -/
def m_spec_goodFlag (p1 : List (Int)) (p2 : Int) : Option ((List (ByteArray × Int)) × Int × Int) :=
  bd (m_spec_goodDefs 4095 p1 p2) fun x3 =>
  bd (m_spec_reader_pick 4 p1 x3.2) fun x4 =>
  some (x3.1, x4, IntKind.wrap .i64 (x3.2 + 1))

/-- loop.example/namedflags/spec.anyName -/
def m_spec_anyName (p1 : List (Int)) (p2 : Int) : Option (ByteArray) :=
  bd (m_spec_reader_pick 16 p1 p2) fun x3 =>
  bif decide (x3 = 0) then
    bd (m_spec_reader_of ([ByteArray.empty, (ByteArray.mk #[65]), (ByteArray.mk #[116, 111, 111, 108, 111, 110, 103]), (ByteArray.mk #[97, 49]), (ByteArray.mk #[97, 32, 98]), (ByteArray.mk #[97, 98, 99, 100, 101, 102])] : List (ByteArray)) p1 (IntKind.wrap .i64 (p2 + 1))) fun x4 =>
    some x4
  else
    bd (m_spec_aName p1 (IntKind.wrap .i64 (p2 + 1))) fun x5 =>
    some x5

/-- loop.example/namedflags/spec.someFlag -/
def m_spec_someFlag (p1 : List (Int)) (p2 : Int) : Option ((List (ByteArray × Int)) × Int × Int) :=
  bd (m_spec_goodFlag p1 p2) fun x3 =>
  bd (m_spec_reader_pick 24 p1 x3.2.2) fun x4 =>
  bif decide (x4 = 0) then
    bd (m_spec_reader_one ([(-1), 4] : List (Int)) p1 (IntKind.wrap .i64 (x3.2.2 + 1))) fun x5 =>
    some (x3.1, x5, IntKind.wrap .i64 ((IntKind.wrap .i64 (x3.2.2 + 1)) + 1))
  else
    bif decide (x4 = 1) then
      bd (m_spec_anyName p1 (IntKind.wrap .i64 (x3.2.2 + 1))) fun x6 =>
      bd (m_spec_reader_one ([(-1), 4096, 1] : List (Int)) p1 (IntKind.wrap .i64 ((IntKind.wrap .i64 ((IntKind.wrap .i64 (x3.2.2 + 1)) + 1)) + 1))) fun x7 =>
      gd (x3.1.length + ([(x6, x7)] : List (ByteArray × Int)).length ≤ 1099511627776) <|
      some (x3.1 ++ ([(x6, x7)] : List (ByteArray × Int)), x3.2.1, IntKind.wrap .i64 ((IntKind.wrap .i64 ((IntKind.wrap .i64 ((IntKind.wrap .i64 (x3.2.2 + 1)) + 1)) + 1)) + 1))
    else
      some (x3.1, x3.2.1, IntKind.wrap .i64 (x3.2.2 + 1))

/-- loop.example/namedflags/impl.in -/
def m_impl_in (p1 : Int) (p2 : Int) (p3 : Int) : Option (Bool) :=
  bif decide (p2 ≤ p1) then
    some (decide (p1 ≤ p3))
  else
    some false

def m_impl_ValidName_L1 (p1 : ByteArray) : Nat → Int → Option (Unit ⊕ Unit)
  | 0, _ => none
  | fu + 1, v2 =>
    bif decide (v2 < (p1.size : Int)) then
      gd (0 ≤ v2 ∧ v2 < (p1.size : Int)) <|
      bif decide ((byteAt p1 v2.toNat) < 97) then
        some (Sum.inl ())
      else
        bif decide (122 < (byteAt p1 v2.toNat)) then
          some (Sum.inl ())
        else
          m_impl_ValidName_L1 p1 fu (IntKind.wrap .i64 (v2 + 1))
    else
      some (Sum.inr ())

/-- loop.example/namedflags/impl.ValidName -/
def m_impl_ValidName (p1 : ByteArray) : Option (Bool) :=
  bd (m_impl_ValidName_L1 p1 FU 0) fun x3 =>
  sm x3 (fun x4 =>
    some false) (fun x5 =>
    bd (m_impl_in (p1.size : Int) 1 6) fun x6 =>
    some x6)

/-- loop.example/namedflags/impl.named$1 -/
def m_impl_named_1_l (p1 : ByteArray) (p2 : Int) (p3 : ByteArray) : Option (Unit) :=
  some ()

def m_slices_IndexFunc_si_named_1_l_L1 (p1 : List (ByteArray × Int)) (p2 : ByteArray) : Nat → Int → Option (Int ⊕ Unit)
  | 0, _ => none
  | fu + 1, v3 =>
    bif decide (v3 < (p1.length : Int)) then
      gd (0 ≤ v3 ∧ v3 < (p1.length : Int)) <|
      bd (m_impl_named_1_l ((gt p1 v3).1) ((gt p1 v3).2) p2) fun x4 =>
      bif decide (((gt p1 v3).1) = p2) then
        some (Sum.inl v3)
      else
        m_slices_IndexFunc_si_named_1_l_L1 p1 p2 fu (IntKind.wrap .i64 (v3 + 1))
    else
      some (Sum.inr ())

/-- slices.IndexFunc[[]loop.example/namedflags/impl.Def,loop.example/namedflags/impl.Def] -/
def m_slices_IndexFunc_si_named_1_l (p1 : List (ByteArray × Int)) (p2 : ByteArray) : Option (Int) :=
  bd (m_slices_IndexFunc_si_named_1_l_L1 p1 p2 FU 0) fun x5 =>
  sm x5 (fun x6 =>
    some x6) (fun x7 =>
    some (-1))

/-- loop.example/namedflags/impl.named -/
def m_impl_named (p1 : List (ByteArray × Int)) (p2 : ByteArray) : Option (Int) :=
  bd (m_slices_IndexFunc_si_named_1_l p1 p2) fun x3 =>
  some x3

def m_impl_defsValid_L1 (p1 : List (ByteArray × Int)) (p2 : Int) (p3 : Int) : Nat → Int → Option (Unit ⊕ Unit)
  | 0, _ => none
  | fu + 1, v4 =>
    bif decide (v4 < (p1.length : Int)) then
      gd (0 ≤ v4 ∧ v4 < (p1.length : Int)) <|
      bd (m_impl_ValidName ((gt p1 v4).1)) fun x5 =>
      bif (!x5) then
        some (Sum.inl ())
      else
        bd (m_impl_in ((gt p1 v4).2) p2 p3) fun x6 =>
        bif (!x6) then
          some (Sum.inl ())
        else
          gd (0 ≤ (0 : Int) ∧ (0 : Int) ≤ v4 ∧ v4 ≤ (p1.length : Int) ∧ (p1.length : Int) ≤ (p1.length : Int)) <|
          bd (m_impl_named (sub p1 (0 : Int) v4) ((gt p1 v4).1)) fun x7 =>
          bif decide (0 ≤ x7) then
            some (Sum.inl ())
          else
            m_impl_defsValid_L1 p1 p2 p3 fu (IntKind.wrap .i64 (v4 + 1))
    else
      some (Sum.inr ())

/-- loop.example/namedflags/impl.defsValid -/
def m_impl_defsValid (p1 : List (ByteArray × Int)) (p2 : Int) (p3 : Int) : Option (Bool) :=
  bd (m_impl_defsValid_L1 p1 p2 p3 FU 0) fun x8 =>
  sm x8 (fun x9 =>
    some false) (fun x10 =>
    some (decide ((p1.length : Int) ≤ 12)))

/-- loop.example/namedflags/impl.ValidFlag -/
def m_impl_ValidFlag (p1 : List (ByteArray × Int)) (p2 : Int) : Option (Bool) :=
  bd (m_impl_defsValid p1 0 4095) fun x3 =>
  bif x3 then
    bd (m_impl_in p2 0 3) fun x4 =>
    some x4
  else
    some false

def m_impl_Flag_mask_L1 (p1 : List (ByteArray × Int)) : Nat → Int → Int → Option (Int)
  | 0, _, _ => none
  | fu + 1, v3, v4 =>
    bif decide (v4 < (p1.length : Int)) then
      gd (0 ≤ v4 ∧ v4 < (p1.length : Int)) <|
      m_impl_Flag_mask_L1 p1 fu (Go.bits .or .i64 v3 ((gt p1 v4).2)) (IntKind.wrap .i64 (v4 + 1))
    else
      some v3

/-- (loop.example/namedflags/impl.Flag).mask -/
def m_impl_Flag_mask (p1 : List (ByteArray × Int)) (p2 : Int) : Option (Int) :=
  bd (m_impl_Flag_mask_L1 p1 FU 0 0) fun x5 =>
  some x5

/-- (loop.example/namedflags/impl.Arm).ok -/
def m_impl_Arm_ok (p1 : Int) (p2 : Int) (p3 : List (ByteArray × Int)) (p4 : Int) : Option (Bool) :=
  bd (m_impl_Flag_mask p3 p4) fun x5 =>
  nm (decide ((Go.bits .andNot .i64 (Go.bits .or .i64 p1 p2) x5) = 0)) fun v6 =>
  bif v6 then
    some (decide ((Go.bits .and .i64 p1 p2) = 0))
  else
    some false

def m_impl_inside_L1 (p1 : Int) : Nat → (List (Int)) → Int → Option (List (Int))
  | 0, _, _ => none
  | fu + 1, v2, v3 =>
    bif decide (v3 ≤ p1) then
      bif decide ((Go.bits .andNot .i64 v3 p1) = 0) then
        gd (v2.length + ([v3] : List (Int)).length ≤ 1099511627776) <|
        m_impl_inside_L1 p1 fu (v2 ++ ([v3] : List (Int))) (IntKind.wrap .i64 (v3 + 1))
      else
        m_impl_inside_L1 p1 fu v2 (IntKind.wrap .i64 (v3 + 1))
    else
      some v2

/-- loop.example/namedflags/impl.inside -/
def m_impl_inside (p1 : Int) : Option (List (Int)) :=
  bd (m_impl_inside_L1 p1 FU ([] : List (Int)) 0) fun x4 =>
  some x4

/-- (loop.example/namedflags/impl.Arm).matches -/
def m_impl_Arm_matches (p1 : Int) (p2 : Int) (p3 : Int) : Option (Bool) :=
  bif decide ((Go.bits .andNot .i64 p1 p3) = 0) then
    some (decide ((Go.bits .and .i64 p2 p3) = 0))
  else
    some false

def m_spec_both_L1 (p1 : Int) (p2 : Int) : Nat → Int → Int → Option (Int)
  | 0, _, _ => none
  | fu + 1, v3, v4 =>
    bif decide (v4 ≤ 4095) then
      gd (v4 ≠ 0 ∧ IntKind.wrap .i64 (Int.tdiv p1 v4) = Int.tdiv p1 v4) <|
      gd ((2 : Int) ≠ 0) <|
      bif decide ((Int.tmod (Int.tdiv p1 v4) 2) = 1) then
        gd (v4 ≠ 0 ∧ IntKind.wrap .i64 (Int.tdiv p2 v4) = Int.tdiv p2 v4) <|
        bif decide ((Int.tmod (Int.tdiv p2 v4) 2) = 1) then
          m_spec_both_L1 p1 p2 fu (IntKind.wrap .i64 (v3 + v4)) (IntKind.wrap .i64 (v4 * 2))
        else
          m_spec_both_L1 p1 p2 fu v3 (IntKind.wrap .i64 (v4 * 2))
      else
        m_spec_both_L1 p1 p2 fu v3 (IntKind.wrap .i64 (v4 * 2))
    else
      some v3

/-- loop.example/namedflags/spec.both -/
def m_spec_both (p1 : Int) (p2 : Int) : Option (Int) :=
  bd (m_spec_both_L1 p1 p2 FU 0 1) fun x5 =>
  some x5

/-- loop.example/namedflags/spec.either -/
def m_spec_either (p1 : Int) (p2 : Int) : Option (Int) :=
  bd (m_spec_both p1 p2) fun x3 =>
  some (IntKind.wrap .i64 ((IntKind.wrap .i64 (p1 + p2)) - x3))

def m_spec_mask_L1 (p1 : List (ByteArray × Int)) : Nat → Int → Int → Option (Int)
  | 0, _, _ => none
  | fu + 1, v2, v3 =>
    bif decide (v3 < (p1.length : Int)) then
      gd (0 ≤ v3 ∧ v3 < (p1.length : Int)) <|
      bd (m_spec_either v2 ((gt p1 v3).2)) fun x4 =>
      m_spec_mask_L1 p1 fu x4 (IntKind.wrap .i64 (v3 + 1))
    else
      some v2

/-- loop.example/namedflags/spec.mask -/
def m_spec_mask (p1 : List (ByteArray × Int)) : Option (Int) :=
  bd (m_spec_mask_L1 p1 FU 0 0) fun x5 =>
  some x5

/-- loop.example/namedflags/spec.inRange -/
def m_spec_inRange (p1 : Int) (p2 : Int) (p3 : Int) : Option (Bool) :=
  bif decide (p2 ≤ p1) then
    some (decide (p1 ≤ p3))
  else
    some false

def m_spec_validName_L1 (p1 : ByteArray) : Nat → Int → Option (Unit ⊕ Unit)
  | 0, _ => none
  | fu + 1, v2 =>
    bif decide (v2 < (p1.size : Int)) then
      gd (0 ≤ v2 ∧ v2 < (p1.size : Int)) <|
      bif decide ((byteAt p1 v2.toNat) < 97) then
        some (Sum.inl ())
      else
        bif decide (122 < (byteAt p1 v2.toNat)) then
          some (Sum.inl ())
        else
          m_spec_validName_L1 p1 fu (IntKind.wrap .i64 (v2 + 1))
    else
      some (Sum.inr ())

/-- loop.example/namedflags/spec.validName -/
def m_spec_validName (p1 : ByteArray) : Option (Bool) :=
  bd (m_spec_validName_L1 p1 FU 0) fun x3 =>
  sm x3 (fun x4 =>
    some false) (fun x5 =>
    bd (m_spec_inRange (p1.size : Int) 1 6) fun x6 =>
    some x6)

def m_spec_validDefs_L1 (p1 : List (ByteArray × Int)) (p2 : Int) (p3 : Int) : Nat → Int → Option (Unit ⊕ Unit)
  | 0, _ => none
  | fu + 1, v4 =>
    bif decide (v4 < (p1.length : Int)) then
      gd (0 ≤ v4 ∧ v4 < (p1.length : Int)) <|
      bd (m_spec_validName ((gt p1 v4).1)) fun x5 =>
      bif (!x5) then
        some (Sum.inl ())
      else
        bd (m_spec_inRange ((gt p1 v4).2) p2 p3) fun x6 =>
        bif (!x6) then
          some (Sum.inl ())
        else
          gd (0 ≤ (0 : Int) ∧ (0 : Int) ≤ v4 ∧ v4 ≤ (p1.length : Int) ∧ (p1.length : Int) ≤ (p1.length : Int)) <|
          bd (m_spec_indexOf (sub p1 (0 : Int) v4) ((gt p1 v4).1)) fun x7 =>
          bif decide (0 ≤ x7) then
            some (Sum.inl ())
          else
            m_spec_validDefs_L1 p1 p2 p3 fu (IntKind.wrap .i64 (v4 + 1))
    else
      some (Sum.inr ())

/-- loop.example/namedflags/spec.validDefs -/
def m_spec_validDefs (p1 : List (ByteArray × Int)) (p2 : Int) (p3 : Int) : Option (Bool) :=
  bd (m_spec_validDefs_L1 p1 p2 p3 FU 0) fun x8 =>
  sm x8 (fun x9 =>
    some false) (fun x10 =>
    some (decide ((p1.length : Int) ≤ 12)))

/-- loop.example/namedflags/spec.validFlag -/
def m_spec_validFlag (p1 : List (ByteArray × Int)) (p2 : Int) : Option (Bool) :=
  bd (m_spec_validDefs p1 0 4095) fun x3 =>
  bif x3 then
    bd (m_spec_inRange p2 0 3) fun x4 =>
    some x4
  else
    some false

/-- loop.example/namedflags/spec.less -/
def m_spec_less (p1 : Int) (p2 : Int) : Option (Int) :=
  bd (m_spec_both p1 p2) fun x3 =>
  some (IntKind.wrap .i64 (p1 - x3))

def m_spec_partsIn_L1 (p1 : Int) : Nat → (List (Int)) → Int → Option (List (Int))
  | 0, _, _ => none
  | fu + 1, v2, v3 =>
    bif decide (v3 ≤ p1) then
      bd (m_spec_less v3 p1) fun x4 =>
      bif decide (x4 = 0) then
        gd (v2.length + ([v3] : List (Int)).length ≤ 1099511627776) <|
        m_spec_partsIn_L1 p1 fu (v2 ++ ([v3] : List (Int))) (IntKind.wrap .i64 (v3 + 1))
      else
        m_spec_partsIn_L1 p1 fu v2 (IntKind.wrap .i64 (v3 + 1))
    else
      some v2

/-- loop.example/namedflags/spec.partsIn -/
def m_spec_partsIn (p1 : Int) : Option (List (Int)) :=
  bd (m_spec_partsIn_L1 p1 FU ([] : List (Int)) 0) fun x5 =>
  some x5

/-- loop.example/namedflags/spec.matches -/
def m_spec_matches (p1 : Int) (p2 : Int) (p3 : Int) : Option (Bool) :=
  bd (m_spec_less p1 p3) fun x4 =>
  bif decide (x4 = 0) then
    bd (m_spec_both p2 p3) fun x5 =>
    some (decide (x5 = 0))
  else
    some false

/-- loop.example/namedflags/impl.MaskOf -/
def m_impl_MaskOf (p1 : List (ByteArray × Int)) (p2 : Int) : Option (Int) :=
  bd (m_impl_ValidFlag p1 p2) fun x3 =>
  bif (!x3) then
    some (-1)
  else
    bd (m_impl_Flag_mask p1 p2) fun x4 =>
    some x4

/-- loop.example/namedflags/impl.IsValue -/
def m_impl_IsValue (p1 : List (ByteArray × Int)) (p2 : Int) (p3 : Int) : Option (Bool) :=
  bd (m_impl_ValidFlag p1 p2) fun x4 =>
  bif x4 then
    bd (m_impl_in p3 0 4095) fun x5 =>
    bif x5 then
      bif decide (p2 = 3) then
        some true
      else
        bd (m_impl_Flag_mask p1 p2) fun x6 =>
        some (decide ((Go.bits .andNot .i64 p3 x6) = 0))
    else
      some false
  else
    some false

/-- math/bits.OnesCount64 -/
def m_math_bits_OnesCount64 (p1 : Int) : Option (Int) :=
  gd (0 ≤ (1 : Int) ∧ (1 : Int) ≤ (IntKind.bits .u64 : Int)) <|
  nm (Go.bits .and .u64 (p1 / 2 ^ (1 : Int).toNat) 6148914691236517205) fun v2 =>
  nm (IntKind.wrap .u64 (v2 + (Go.bits .and .u64 p1 6148914691236517205))) fun v3 =>
  gd (0 ≤ (2 : Int) ∧ (2 : Int) ≤ (IntKind.bits .u64 : Int)) <|
  nm (Go.bits .and .u64 (v3 / 2 ^ (2 : Int).toNat) 3689348814741910323) fun v4 =>
  nm (IntKind.wrap .u64 (v4 + (Go.bits .and .u64 v3 3689348814741910323))) fun v5 =>
  gd (0 ≤ (4 : Int) ∧ (4 : Int) ≤ (IntKind.bits .u64 : Int)) <|
  nm (Go.bits .and .u64 (IntKind.wrap .u64 ((v5 / 2 ^ (4 : Int).toNat) + v5)) 1085102592571150095) fun v6 =>
  gd (0 ≤ (8 : Int) ∧ (8 : Int) ≤ (IntKind.bits .u64 : Int)) <|
  gd (0 ≤ (16 : Int) ∧ (16 : Int) ≤ (IntKind.bits .u64 : Int)) <|
  nm ((IntKind.wrap .u64 (v6 + (v6 / 2 ^ (8 : Int).toNat))) / 2 ^ (16 : Int).toNat) fun v7 =>
  nm (IntKind.wrap .u64 ((IntKind.wrap .u64 (v6 + (v6 / 2 ^ (8 : Int).toNat))) + v7)) fun v8 =>
  gd (0 ≤ (32 : Int) ∧ (32 : Int) ≤ (IntKind.bits .u64 : Int)) <|
  nm (IntKind.wrap .i64 (IntKind.wrap .u64 (v8 + (v8 / 2 ^ (32 : Int).toNat)))) fun v9 =>
  some (Go.bits .and .i64 v9 127)

/-- math/bits.OnesCount -/
def m_math_bits_OnesCount (p1 : Int) : Option (Int) :=
  bd (m_math_bits_OnesCount64 p1) fun x2 =>
  some x2

/-- loop.example/namedflags/impl.ValidArm -/
def m_impl_ValidArm (p1 : List (ByteArray × Int)) (p2 : Int) (p3 : Int) (p4 : Int) : Option (Bool) :=
  bd (m_impl_ValidFlag p1 p2) fun x5 =>
  bif x5 then
    bd (m_impl_Arm_ok p3 p4 p1 p2) fun x6 =>
    some x6
  else
    some false

/-- (loop.example/namedflags/impl.Arm).covers -/
def m_impl_Arm_covers (p1 : Int) (p2 : Int) (p3 : Int) (p4 : Int) : Option (Bool) :=
  bif decide ((Go.bits .andNot .i64 p1 p3) = 0) then
    some (decide ((Go.bits .andNot .i64 p2 p4) = 0))
  else
    some false

/-- loop.example/namedflags/impl.ArmCovers -/
def m_impl_ArmCovers (p1 : List (ByteArray × Int)) (p2 : Int) (p3 : Int) (p4 : Int) (p5 : Int) (p6 : Int) : Option (Bool) :=
  bd (m_impl_ValidArm p1 p2 p3 p4) fun x7 =>
  bif x7 then
    bd (m_impl_ValidArm p1 p2 p5 p6) fun x8 =>
    bif x8 then
      bd (m_impl_Arm_covers p3 p4 p5 p6) fun x9 =>
      some x9
    else
      some false
  else
    some false

def m_laws_isIn_L1 (p1 : List (Int)) (p2 : Int) : Nat → Int → Option (Unit ⊕ Unit)
  | 0, _ => none
  | fu + 1, v3 =>
    bif decide (v3 < (p1.length : Int)) then
      gd (0 ≤ v3 ∧ v3 < (p1.length : Int)) <|
      bif decide ((gt p1 v3) = p2) then
        some (Sum.inl ())
      else
        m_laws_isIn_L1 p1 p2 fu (IntKind.wrap .i64 (v3 + 1))
    else
      some (Sum.inr ())

/-- loop.example/namedflags/laws.isIn -/
def m_laws_isIn (p1 : List (Int)) (p2 : Int) : Option (Bool) :=
  bd (m_laws_isIn_L1 p1 p2 FU 0) fun x4 =>
  sm x4 (fun x5 =>
    some true) (fun x6 =>
    some false)

/-- loop.example/namedflags/spec.aValue -/
def m_spec_aValue (p1 : List (ByteArray × Int)) (p2 : Int) (p3 : List (Int)) (p4 : Int) : Option (Int × Int) :=
  bd (m_spec_reader_pick 64 p3 p4) fun x5 =>
  bd (m_spec_reader_one ([x5, 1, 3, 7, 0, 63, 5, 2048] : List (Int)) p3 (IntKind.wrap .i64 (p4 + 1))) fun x6 =>
  bd (m_spec_validFlag p1 p2) fun x7 =>
  bif x7 then
    bd (m_spec_reader_pick 6 p3 (IntKind.wrap .i64 ((IntKind.wrap .i64 (p4 + 1)) + 1))) fun x8 =>
    bif decide (0 < x8) then
      bd (m_spec_mask p1) fun x9 =>
      bif decide (p2 = 3) then
        bd (m_spec_reader_pick 2 p3 (IntKind.wrap .i64 ((IntKind.wrap .i64 ((IntKind.wrap .i64 (p4 + 1)) + 1)) + 1))) fun x10 =>
        bif decide (x10 = 0) then
          some (x6, IntKind.wrap .i64 ((IntKind.wrap .i64 ((IntKind.wrap .i64 ((IntKind.wrap .i64 (p4 + 1)) + 1)) + 1)) + 1))
        else
          bd (m_spec_both x6 x9) fun x11 =>
          bd (m_spec_both x6 x9) fun x12 =>
          bd (m_spec_both x6 x9) fun x13 =>
          bd (m_spec_reader_one ([x11, x9, x12, x13] : List (Int)) p3 (IntKind.wrap .i64 ((IntKind.wrap .i64 ((IntKind.wrap .i64 ((IntKind.wrap .i64 (p4 + 1)) + 1)) + 1)) + 1))) fun x14 =>
          some (x14, IntKind.wrap .i64 ((IntKind.wrap .i64 ((IntKind.wrap .i64 ((IntKind.wrap .i64 ((IntKind.wrap .i64 (p4 + 1)) + 1)) + 1)) + 1)) + 1))
      else
        bd (m_spec_both x6 x9) fun x15 =>
        bd (m_spec_both x6 x9) fun x16 =>
        bd (m_spec_both x6 x9) fun x17 =>
        bd (m_spec_reader_one ([x15, x9, x16, x17] : List (Int)) p3 (IntKind.wrap .i64 ((IntKind.wrap .i64 ((IntKind.wrap .i64 (p4 + 1)) + 1)) + 1))) fun x18 =>
        some (x18, IntKind.wrap .i64 ((IntKind.wrap .i64 ((IntKind.wrap .i64 ((IntKind.wrap .i64 (p4 + 1)) + 1)) + 1)) + 1))
    else
      bd (m_spec_reader_one ([x6, (-1), 4096, x6] : List (Int)) p3 (IntKind.wrap .i64 ((IntKind.wrap .i64 ((IntKind.wrap .i64 (p4 + 1)) + 1)) + 1))) fun x19 =>
      some (x19, IntKind.wrap .i64 ((IntKind.wrap .i64 ((IntKind.wrap .i64 ((IntKind.wrap .i64 (p4 + 1)) + 1)) + 1)) + 1))
  else
    bd (m_spec_reader_one ([x6, (-1), 4096, x6] : List (Int)) p3 (IntKind.wrap .i64 ((IntKind.wrap .i64 (p4 + 1)) + 1))) fun x20 =>
    some (x20, IntKind.wrap .i64 ((IntKind.wrap .i64 ((IntKind.wrap .i64 (p4 + 1)) + 1)) + 1))

def m_spec_bitCount_L1  : Nat → Int → Int → Option (Int)
  | 0, _, _ => none
  | fu + 1, v2, v3 =>
    bif decide (0 < v2) then
      gd ((2 : Int) ≠ 0) <|
      gd ((2 : Int) ≠ 0 ∧ IntKind.wrap .i64 (Int.tdiv v2 2) = Int.tdiv v2 2) <|
      m_spec_bitCount_L1  fu (Int.tdiv v2 2) (IntKind.wrap .i64 (v3 + (Int.tmod v2 2)))
    else
      some v3

/-- loop.example/namedflags/spec.bitCount -/
def m_spec_bitCount (p1 : Int) : Option (Int) :=
  bd (m_spec_bitCount_L1 FU p1 0) fun x4 =>
  some x4

def m_spec_DrawGreatestArms_L1 (x2 : List (Int)) : Nat → Int → (List (Int)) → Int → Option (List (Int))
  | 0, _, _, _ => none
  | fu + 1, v9, v10, v11 =>
    bif decide (0 < v11) then
      bd (m_spec_aValue ([((ByteArray.mk #[97]), 1), ((ByteArray.mk #[98]), 2), ((ByteArray.mk #[99]), 4)] : List (ByteArray × Int)) 0 x2 v9) fun x12 =>
      gd (v10.length + ([x12.1] : List (Int)).length ≤ 1099511627776) <|
      m_spec_DrawGreatestArms_L1 x2 fu x12.2 (v10 ++ ([x12.1] : List (Int))) (IntKind.wrap .i64 (v11 - 1))
    else
      some v10

def m_spec_DrawGreatestArms_L2 (x2 : List (Int)) (x3 : (List (ByteArray × Int)) × Int × Int) : Nat → Int → (List (Int)) → Int → Option (List (Int))
  | 0, _, _, _ => none
  | fu + 1, v15, v16, v17 =>
    bif decide (0 < v17) then
      bd (m_spec_aValue x3.1 x3.2.1 x2 v15) fun x18 =>
      gd (v16.length + ([x18.1] : List (Int)).length ≤ 1099511627776) <|
      m_spec_DrawGreatestArms_L2 x2 x3 fu x18.2 (v16 ++ ([x18.1] : List (Int))) (IntKind.wrap .i64 (v17 - 1))
    else
      some v16

def m_spec_DrawGreatestArms_L3 (x2 : List (Int)) (x3 : (List (ByteArray × Int)) × Int × Int) : Nat → Int → (List (Int)) → Int → Option (List (Int))
  | 0, _, _, _ => none
  | fu + 1, v21, v22, v23 =>
    bif decide (0 < v23) then
      bd (m_spec_aValue x3.1 x3.2.1 x2 v21) fun x24 =>
      gd (v22.length + ([x24.1] : List (Int)).length ≤ 1099511627776) <|
      m_spec_DrawGreatestArms_L3 x2 x3 fu x24.2 (v22 ++ ([x24.1] : List (Int))) (IntKind.wrap .i64 (v23 - 1))
    else
      some v22

def m_spec_DrawGreatestArms_L4 (x2 : List (Int)) (x3 : (List (ByteArray × Int)) × Int × Int) : Nat → Int → (List (Int)) → Int → Option (List (Int))
  | 0, _, _, _ => none
  | fu + 1, v27, v28, v29 =>
    bif decide (0 < v29) then
      bd (m_spec_aValue x3.1 x3.2.1 x2 v27) fun x30 =>
      gd (v28.length + ([x30.1] : List (Int)).length ≤ 1099511627776) <|
      m_spec_DrawGreatestArms_L4 x2 x3 fu x30.2 (v28 ++ ([x30.1] : List (Int))) (IntKind.wrap .i64 (v29 - 1))
    else
      some v28

/-- loop.example/namedflags/spec.DrawGreatestArms -/
def m_spec_DrawGreatestArms (p1 : List (Int)) : Option ((List (ByteArray × Int)) × Int × List (Int)) :=
  bd (m_spec_newReader p1) fun x2 =>
  bd (m_spec_someFlag x2 0) fun x3 =>
  bd (m_spec_validFlag x3.1 x3.2.1) fun x4 =>
  bif x4 then
    bd (m_spec_mask x3.1) fun x5 =>
    bd (m_spec_bitCount x5) fun x6 =>
    bif decide (4 < x6) then
      bd (m_spec_reader_pick 4 x2 x3.2.2) fun x7 =>
      bif decide (0 < x7) then
        bd (m_spec_reader_one ([4, 3, 6, 2, 0, 8] : List (Int)) x2 (IntKind.wrap .i64 (x3.2.2 + 1))) fun x8 =>
        bd (m_spec_DrawGreatestArms_L1 x2 FU (IntKind.wrap .i64 ((IntKind.wrap .i64 (x3.2.2 + 1)) + 1)) ([] : List (Int)) x8) fun x13 =>
        some (([((ByteArray.mk #[97]), 1), ((ByteArray.mk #[98]), 2), ((ByteArray.mk #[99]), 4)] : List (ByteArray × Int)), 0, x13)
      else
        bd (m_spec_reader_one ([4, 3, 6, 2, 0, 8] : List (Int)) x2 (IntKind.wrap .i64 (x3.2.2 + 1))) fun x14 =>
        bd (m_spec_DrawGreatestArms_L2 x2 x3 FU (IntKind.wrap .i64 ((IntKind.wrap .i64 (x3.2.2 + 1)) + 1)) ([] : List (Int)) x14) fun x19 =>
        some (x3.1, x3.2.1, x19)
    else
      bd (m_spec_reader_one ([4, 3, 6, 2, 0, 8] : List (Int)) x2 x3.2.2) fun x20 =>
      bd (m_spec_DrawGreatestArms_L3 x2 x3 FU (IntKind.wrap .i64 (x3.2.2 + 1)) ([] : List (Int)) x20) fun x25 =>
      some (x3.1, x3.2.1, x25)
  else
    bd (m_spec_reader_one ([4, 3, 6, 2, 0, 8] : List (Int)) x2 x3.2.2) fun x26 =>
    bd (m_spec_DrawGreatestArms_L4 x2 x3 FU (IntKind.wrap .i64 (x3.2.2 + 1)) ([] : List (Int)) x26) fun x31 =>
    some (x3.1, x3.2.1, x31)

/-- loop.example/namedflags/impl.GreatestArms$1 -/
def m_impl_GreatestArms_1_l (p1 : Int) (p2 : List (ByteArray × Int)) (p3 : Int) : Option (Bool) :=
  bif decide (p1 < 0) then
    some true
  else
    bd (m_impl_Flag_mask p2 p3) fun x4 =>
    some (!decide ((Go.bits .andNot .i64 p1 x4) = 0))

def m_slices_IndexFunc_i_GreatestArms_1_lsi_L1 (p1 : List (Int)) (p2 : List (ByteArray × Int)) (p3 : Int) : Nat → Int → Option (Int ⊕ Unit)
  | 0, _ => none
  | fu + 1, v4 =>
    bif decide (v4 < (p1.length : Int)) then
      gd (0 ≤ v4 ∧ v4 < (p1.length : Int)) <|
      bd (m_impl_GreatestArms_1_l (gt p1 v4) p2 p3) fun x5 =>
      bif x5 then
        some (Sum.inl v4)
      else
        m_slices_IndexFunc_i_GreatestArms_1_lsi_L1 p1 p2 p3 fu (IntKind.wrap .i64 (v4 + 1))
    else
      some (Sum.inr ())

/-- slices.IndexFunc[[]int,int] -/
def m_slices_IndexFunc_i_GreatestArms_1_lsi (p1 : List (Int)) (p2 : List (ByteArray × Int)) (p3 : Int) : Option (Int) :=
  bd (m_slices_IndexFunc_i_GreatestArms_1_lsi_L1 p1 p2 p3 FU 0) fun x6 =>
  sm x6 (fun x7 =>
    some x7) (fun x8 =>
    some (-1))

/-- slices.ContainsFunc[[]int,int] -/
def m_slices_ContainsFunc_i_GreatestArms_1_lsi (p1 : List (Int)) (p2 : List (ByteArray × Int)) (p3 : Int) : Option (Bool) :=
  bd (m_slices_IndexFunc_i_GreatestArms_1_lsi p1 p2 p3) fun x4 =>
  some (decide (0 ≤ x4))

def m_slices_Index_i_L1 (p1 : List (Int)) (p2 : Int) : Nat → Int → Option (Int ⊕ Unit)
  | 0, _ => none
  | fu + 1, v3 =>
    bif decide (v3 < (p1.length : Int)) then
      gd (0 ≤ v3 ∧ v3 < (p1.length : Int)) <|
      bif decide (p2 = (gt p1 v3)) then
        some (Sum.inl v3)
      else
        m_slices_Index_i_L1 p1 p2 fu (IntKind.wrap .i64 (v3 + 1))
    else
      some (Sum.inr ())

/-- slices.Index[[]int,int] -/
def m_slices_Index_i (p1 : List (Int)) (p2 : Int) : Option (Int) :=
  bd (m_slices_Index_i_L1 p1 p2 FU 0) fun x4 =>
  sm x4 (fun x5 =>
    some x5) (fun x6 =>
    some (-1))

/-- slices.Contains[[]int,int] -/
def m_slices_Contains_i (p1 : List (Int)) (p2 : Int) : Option (Bool) :=
  bd (m_slices_Index_i p1 p2) fun x3 =>
  some (decide (0 ≤ x3))

/-- loop.example/namedflags/impl.GreatestArms$2 -/
def m_impl_GreatestArms_2_ll (p1 : Int) (p2 : Int) (p3 : Int) (p4 : List (Int)) : Option (Bool) :=
  bd (m_impl_Arm_matches p2 p3 p1) fun x5 =>
  bif x5 then
    bd (m_slices_Contains_i p4 p1) fun x6 =>
    some (!x6)
  else
    some false

def m_slices_IndexFunc_i_GreatestArms_2_lli_L1 (p1 : List (Int)) (p2 : Int) (p3 : Int) (p4 : List (Int)) : Nat → Int → Option (Int ⊕ Unit)
  | 0, _ => none
  | fu + 1, v5 =>
    bif decide (v5 < (p1.length : Int)) then
      gd (0 ≤ v5 ∧ v5 < (p1.length : Int)) <|
      bd (m_impl_GreatestArms_2_ll (gt p1 v5) p2 p3 p4) fun x6 =>
      bif x6 then
        some (Sum.inl v5)
      else
        m_slices_IndexFunc_i_GreatestArms_2_lli_L1 p1 p2 p3 p4 fu (IntKind.wrap .i64 (v5 + 1))
    else
      some (Sum.inr ())

/-- slices.IndexFunc[[]int,int] -/
def m_slices_IndexFunc_i_GreatestArms_2_lli (p1 : List (Int)) (p2 : Int) (p3 : Int) (p4 : List (Int)) : Option (Int) :=
  bd (m_slices_IndexFunc_i_GreatestArms_2_lli_L1 p1 p2 p3 p4 FU 0) fun x7 =>
  sm x7 (fun x8 =>
    some x8) (fun x9 =>
    some (-1))

/-- slices.ContainsFunc[[]int,int] -/
def m_slices_ContainsFunc_i_GreatestArms_2_lli (p1 : List (Int)) (p2 : Int) (p3 : Int) (p4 : List (Int)) : Option (Bool) :=
  bd (m_slices_IndexFunc_i_GreatestArms_2_lli p1 p2 p3 p4) fun x5 =>
  some (decide (0 ≤ x5))

/-- loop.example/namedflags/impl.GreatestArms$3 -/
def m_impl_GreatestArms_3_l (p1 : Int) (p2 : Int) (p3 : Int) (p4 : Int) : Option (Bool) :=
  bif (!(decide (p3 = p1) && (decide (p4 = p2) && true))) then
    bd (m_impl_Arm_covers p1 p2 p3 p4) fun x5 =>
    some x5
  else
    some false

def m_slices_IndexFunc_ii_GreatestArms_3_l_L1 (p1 : List (Int × Int)) (p2 : Int) (p3 : Int) : Nat → Int → Option (Int ⊕ Unit)
  | 0, _ => none
  | fu + 1, v4 =>
    bif decide (v4 < (p1.length : Int)) then
      gd (0 ≤ v4 ∧ v4 < (p1.length : Int)) <|
      bd (m_impl_GreatestArms_3_l ((gt p1 v4).1) ((gt p1 v4).2) p2 p3) fun x5 =>
      bif x5 then
        some (Sum.inl v4)
      else
        m_slices_IndexFunc_ii_GreatestArms_3_l_L1 p1 p2 p3 fu (IntKind.wrap .i64 (v4 + 1))
    else
      some (Sum.inr ())

/-- slices.IndexFunc[[]loop.example/namedflags/impl.Arm,loop.example/namedflags/impl.Arm] -/
def m_slices_IndexFunc_ii_GreatestArms_3_l (p1 : List (Int × Int)) (p2 : Int) (p3 : Int) : Option (Int) :=
  bd (m_slices_IndexFunc_ii_GreatestArms_3_l_L1 p1 p2 p3 FU 0) fun x6 =>
  sm x6 (fun x7 =>
    some x7) (fun x8 =>
    some (-1))

/-- slices.ContainsFunc[[]loop.example/namedflags/impl.Arm,loop.example/namedflags/impl.Arm] -/
def m_slices_ContainsFunc_ii_GreatestArms_3_l (p1 : List (Int × Int)) (p2 : Int) (p3 : Int) : Option (Bool) :=
  bd (m_slices_IndexFunc_ii_GreatestArms_3_l p1 p2 p3) fun x4 =>
  some (decide (0 ≤ x4))

/-- slices.Clip[[]loop.example/namedflags/impl.Arm,loop.example/namedflags/impl.Arm] -/
def m_slices_Clip_ii (p1 : List (Int × Int)) : Option (Unit) :=
  gd (0 ≤ (0 : Int) ∧ (0 : Int) ≤ (p1.length : Int) ∧ (p1.length : Int) ≤ (p1.length : Int) ∧ (p1.length : Int) ≤ (p1.length : Int)) <|
  some ()

/-- slices.Clip[[]loop.example/namedflags/impl.Arm,loop.example/namedflags/impl.Arm] -/
def m_slices_Clip_hii (p1 : List (Int × Int)) : Option (Unit) :=
  some ()

def m_impl_GreatestArms_L2 (p1 : List (ByteArray × Int)) (p2 : Int) (p3 : List (Int)) (x9 : List (Int)) (v11 : Int) : Nat → (List (Int × Int)) → Int → Option (List (Int × Int))
  | 0, _, _ => none
  | fu + 1, v12, v13 =>
    bif decide (v13 < (x9.length : Int)) then
      gd (0 ≤ v13 ∧ v13 < (x9.length : Int)) <|
      bd (m_impl_Arm_ok (gt x9 v11) (gt x9 v13) p1 p2) fun x14 =>
      bif x14 then
        bd (m_slices_ContainsFunc_i_GreatestArms_2_lli x9 (gt x9 v11) (gt x9 v13) p3) fun x15 =>
        bif (!x15) then
          gd (v12.length + ([((gt x9 v11), (gt x9 v13))] : List (Int × Int)).length ≤ 1099511627776) <|
          m_impl_GreatestArms_L2 p1 p2 p3 x9 v11 fu (v12 ++ ([((gt x9 v11), (gt x9 v13))] : List (Int × Int))) (IntKind.wrap .i64 (v13 + 1))
        else
          m_impl_GreatestArms_L2 p1 p2 p3 x9 v11 fu v12 (IntKind.wrap .i64 (v13 + 1))
      else
        m_impl_GreatestArms_L2 p1 p2 p3 x9 v11 fu v12 (IntKind.wrap .i64 (v13 + 1))
    else
      some v12

def m_impl_GreatestArms_L1 (p1 : List (ByteArray × Int)) (p2 : Int) (p3 : List (Int)) (x9 : List (Int)) : Nat → (List (Int × Int)) → Int → Option (List (Int × Int))
  | 0, _, _ => none
  | fu + 1, v10, v11 =>
    bif decide (v11 < (x9.length : Int)) then
      gd (0 ≤ v11 ∧ v11 < (x9.length : Int)) <|
      bd (m_impl_GreatestArms_L2 p1 p2 p3 x9 v11 FU v10 0) fun x16 =>
      m_impl_GreatestArms_L1 p1 p2 p3 x9 fu x16 (IntKind.wrap .i64 (v11 + 1))
    else
      some v10

def m_impl_GreatestArms_L3 (x17 : List (Int × Int)) : Nat → (List (Int × Int)) → Int → Option (List (Int × Int))
  | 0, _, _ => none
  | fu + 1, v18, v19 =>
    bif decide (v19 < (x17.length : Int)) then
      gd (0 ≤ v19 ∧ v19 < (x17.length : Int)) <|
      bd (m_slices_ContainsFunc_ii_GreatestArms_3_l x17 ((gt x17 v19).1) ((gt x17 v19).2)) fun x20 =>
      bif (!x20) then
        gd (v18.length + ([((gt x17 v19).1, (gt x17 v19).2)] : List (Int × Int)).length ≤ 1099511627776) <|
        m_impl_GreatestArms_L3 x17 fu (v18 ++ ([((gt x17 v19).1, (gt x17 v19).2)] : List (Int × Int))) (IntKind.wrap .i64 (v19 + 1))
      else
        m_impl_GreatestArms_L3 x17 fu v18 (IntKind.wrap .i64 (v19 + 1))
    else
      some v18

/-- loop.example/namedflags/impl.GreatestArms -/
def m_impl_GreatestArms (p1 : List (ByteArray × Int)) (p2 : Int) (p3 : List (Int)) : Option (List (Int × Int)) :=
  bd (m_impl_ValidFlag p1 p2) fun x4 =>
  bif (!x4) then
    some ([] : List (Int × Int))
  else
    bd (m_impl_Flag_mask p1 p2) fun x5 =>
    bd (m_math_bits_OnesCount (IntKind.wrap .u64 (x5))) fun x6 =>
    bif decide (6 < x6) then
      some ([] : List (Int × Int))
    else
      bif decide (64 < (p3.length : Int)) then
        some ([] : List (Int × Int))
      else
        bd (m_slices_ContainsFunc_i_GreatestArms_1_lsi p3 p1 p2) fun x7 =>
        bif x7 then
          some ([] : List (Int × Int))
        else
          bd (m_impl_Flag_mask p1 p2) fun x8 =>
          bd (m_impl_inside x8) fun x9 =>
          bd (m_impl_GreatestArms_L1 p1 p2 p3 x9 FU ([] : List (Int × Int)) 0) fun x17 =>
          bd (m_impl_GreatestArms_L3 x17 FU ([] : List (Int × Int)) 0) fun x21 =>
          bd (m_slices_Clip_hii x21) fun x22 =>
          some x21

def m_spec_hasInt_L1 (p1 : List (Int)) (p2 : Int) : Nat → Int → Option (Unit ⊕ Unit)
  | 0, _ => none
  | fu + 1, v3 =>
    bif decide (v3 < (p1.length : Int)) then
      gd (0 ≤ v3 ∧ v3 < (p1.length : Int)) <|
      bif decide ((gt p1 v3) = p2) then
        some (Sum.inl ())
      else
        m_spec_hasInt_L1 p1 p2 fu (IntKind.wrap .i64 (v3 + 1))
    else
      some (Sum.inr ())

/-- loop.example/namedflags/spec.hasInt -/
def m_spec_hasInt (p1 : List (Int)) (p2 : Int) : Option (Bool) :=
  bd (m_spec_hasInt_L1 p1 p2 FU 0) fun x4 =>
  sm x4 (fun x5 =>
    some true) (fun x6 =>
    some false)

def m_spec_allIn_L1 (p1 : List (Int)) (p2 : List (Int)) (p3 : Int) (p4 : Int) : Nat → Int → Option (Unit ⊕ Unit)
  | 0, _ => none
  | fu + 1, v5 =>
    bif decide (v5 < (p1.length : Int)) then
      gd (0 ≤ v5 ∧ v5 < (p1.length : Int)) <|
      bd (m_spec_matches p3 p4 (gt p1 v5)) fun x6 =>
      bif x6 then
        bd (m_spec_hasInt p2 (gt p1 v5)) fun x7 =>
        bif (!x7) then
          some (Sum.inl ())
        else
          m_spec_allIn_L1 p1 p2 p3 p4 fu (IntKind.wrap .i64 (v5 + 1))
      else
        m_spec_allIn_L1 p1 p2 p3 p4 fu (IntKind.wrap .i64 (v5 + 1))
    else
      some (Sum.inr ())

/-- loop.example/namedflags/spec.allIn -/
def m_spec_allIn (p1 : List (Int)) (p2 : List (Int)) (p3 : Int) (p4 : Int) : Option (Bool) :=
  bd (m_spec_allIn_L1 p1 p2 p3 p4 FU 0) fun x8 =>
  sm x8 (fun x9 =>
    some false) (fun x10 =>
    some true)

def m_spec_armsIn_L2 (p1 : Int) (p2 : List (Int)) (x3 : List (Int)) (v5 : Int) (x7 : List (Int)) : Nat → (List (Int × Int)) → Int → Option (List (Int × Int))
  | 0, _, _ => none
  | fu + 1, v8, v9 =>
    bif decide (v9 < (x7.length : Int)) then
      gd (0 ≤ v5 ∧ v5 < (x3.length : Int)) <|
      gd (0 ≤ v9 ∧ v9 < (x7.length : Int)) <|
      bd (m_spec_allIn x3 p2 (gt x3 v5) (gt x7 v9)) fun x10 =>
      bif x10 then
        gd (v8.length + ([((gt x3 v5), (gt x7 v9))] : List (Int × Int)).length ≤ 1099511627776) <|
        m_spec_armsIn_L2 p1 p2 x3 v5 x7 fu (v8 ++ ([((gt x3 v5), (gt x7 v9))] : List (Int × Int))) (IntKind.wrap .i64 (v9 + 1))
      else
        m_spec_armsIn_L2 p1 p2 x3 v5 x7 fu v8 (IntKind.wrap .i64 (v9 + 1))
    else
      some v8

def m_spec_armsIn_L1 (p1 : Int) (p2 : List (Int)) (x3 : List (Int)) : Nat → (List (Int × Int)) → Int → Option (List (Int × Int))
  | 0, _, _ => none
  | fu + 1, v4, v5 =>
    bif decide (v5 < (x3.length : Int)) then
      gd (0 ≤ v5 ∧ v5 < (x3.length : Int)) <|
      bd (m_spec_less p1 (gt x3 v5)) fun x6 =>
      bd (m_spec_partsIn x6) fun x7 =>
      bd (m_spec_armsIn_L2 p1 p2 x3 v5 x7 FU v4 0) fun x11 =>
      m_spec_armsIn_L1 p1 p2 x3 fu x11 (IntKind.wrap .i64 (v5 + 1))
    else
      some v4

/-- loop.example/namedflags/spec.armsIn -/
def m_spec_armsIn (p1 : Int) (p2 : List (Int)) : Option (List (Int × Int)) :=
  bd (m_spec_partsIn p1) fun x3 =>
  bd (m_spec_armsIn_L1 p1 p2 x3 FU ([] : List (Int × Int)) 0) fun x12 =>
  some x12

/-- loop.example/namedflags/spec.covers -/
def m_spec_covers (p1 : Int) (p2 : Int) (p3 : Int) (p4 : Int) : Option (Bool) :=
  bd (m_spec_less p1 p3) fun x5 =>
  bif decide (x5 = 0) then
    bd (m_spec_less p2 p4) fun x6 =>
    some (decide (x6 = 0))
  else
    some false

def m_spec_GreatestArms_L1 (p3 : List (Int)) (x4 : Int) : Nat → Int → Option (Unit ⊕ Unit)
  | 0, _ => none
  | fu + 1, v7 =>
    bif decide (v7 < (p3.length : Int)) then
      gd (0 ≤ v7 ∧ v7 < (p3.length : Int)) <|
      bd (m_spec_inRange (gt p3 v7) 0 4095) fun x8 =>
      bif (!x8) then
        some (Sum.inl ())
      else
        bd (m_spec_less (gt p3 v7) x4) fun x9 =>
        bif decide (0 < x9) then
          some (Sum.inl ())
        else
          m_spec_GreatestArms_L1 p3 x4 fu (IntKind.wrap .i64 (v7 + 1))
    else
      some (Sum.inr ())

def m_spec_GreatestArms_L3 (x13 : List (Int × Int)) (v14 : List (Int × Int)) (v15 : Int) : Nat → Bool → Int → Option (Bool)
  | 0, _, _ => none
  | fu + 1, v16, v17 =>
    bif decide (v17 < (x13.length : Int)) then
      bif v16 then
        m_spec_GreatestArms_L3 x13 v14 v15 fu true (IntKind.wrap .i64 (v17 + 1))
      else
        bif (!decide (v17 = v15)) then
          gd (0 ≤ v17 ∧ v17 < (x13.length : Int)) <|
          gd (0 ≤ v15 ∧ v15 < (x13.length : Int)) <|
          bd (m_spec_covers ((gt x13 v17).1) ((gt x13 v17).2) ((gt x13 v15).1) ((gt x13 v15).2)) fun x18 =>
          m_spec_GreatestArms_L3 x13 v14 v15 fu x18 (IntKind.wrap .i64 (v17 + 1))
        else
          m_spec_GreatestArms_L3 x13 v14 v15 fu false (IntKind.wrap .i64 (v17 + 1))
    else
      some v16

def m_spec_GreatestArms_L2 (x13 : List (Int × Int)) : Nat → (List (Int × Int)) → Int → Option (List (Int × Int))
  | 0, _, _ => none
  | fu + 1, v14, v15 =>
    bif decide (v15 < (x13.length : Int)) then
      bd (m_spec_GreatestArms_L3 x13 v14 v15 FU false 0) fun x19 =>
      bif (!x19) then
        gd (0 ≤ v15 ∧ v15 < (x13.length : Int)) <|
        gd (v14.length + ([((gt x13 v15).1, (gt x13 v15).2)] : List (Int × Int)).length ≤ 1099511627776) <|
        m_spec_GreatestArms_L2 x13 fu (v14 ++ ([((gt x13 v15).1, (gt x13 v15).2)] : List (Int × Int))) (IntKind.wrap .i64 (v15 + 1))
      else
        m_spec_GreatestArms_L2 x13 fu v14 (IntKind.wrap .i64 (v15 + 1))
    else
      some v14

/-- loop.example/namedflags/spec.GreatestArms -/
def m_spec_GreatestArms (p1 : List (ByteArray × Int)) (p2 : Int) (p3 : List (Int)) : Option (List (Int × Int)) :=
  bd (m_spec_mask p1) fun x4 =>
  bd (m_spec_validFlag p1 p2) fun x5 =>
  bif (!x5) then
    some ([] : List (Int × Int))
  else
    bd (m_spec_bitCount x4) fun x6 =>
    bif decide (6 < x6) then
      some ([] : List (Int × Int))
    else
      bif decide (64 < (p3.length : Int)) then
        some ([] : List (Int × Int))
      else
        bd (m_spec_GreatestArms_L1 p3 x4 FU 0) fun x10 =>
        sm x10 (fun x11 =>
          some ([] : List (Int × Int))) (fun x12 =>
          bd (m_spec_armsIn x4 p3) fun x13 =>
          bd (m_spec_GreatestArms_L2 x13 FU ([] : List (Int × Int)) 0) fun x20 =>
          some x20)

def m_laws_equalArms_L1 (p1 : List (Int × Int)) (p2 : List (Int × Int)) : Nat → Int → Option (Unit ⊕ Unit)
  | 0, _ => none
  | fu + 1, v3 =>
    bif decide (v3 < (p1.length : Int)) then
      gd (0 ≤ v3 ∧ v3 < (p1.length : Int)) <|
      gd (0 ≤ v3 ∧ v3 < (p2.length : Int)) <|
      nm ((!(decide (((gt p1 v3).1) = ((gt p2 v3).1)) && (decide (((gt p1 v3).2) = ((gt p2 v3).2)) && true)))) fun v4 =>
      bif v4 then
        some (Sum.inl ())
      else
        m_laws_equalArms_L1 p1 p2 fu (IntKind.wrap .i64 (v3 + 1))
    else
      some (Sum.inr ())

/-- loop.example/namedflags/laws.equalArms -/
def m_laws_equalArms (p1 : List (Int × Int)) (p2 : List (Int × Int)) : Option (Bool) :=
  bif (!decide ((p1.length : Int) = (p2.length : Int))) then
    some false
  else
    bd (m_laws_equalArms_L1 p1 p2 FU 0) fun x5 =>
    sm x5 (fun x6 =>
      some false) (fun x7 =>
      some true)

/-- slices.Clip[[]int,int] -/
def m_slices_Clip_i (p1 : List (Int)) : Option (Unit) :=
  gd (0 ≤ (0 : Int) ∧ (0 : Int) ≤ (p1.length : Int) ∧ (p1.length : Int) ≤ (p1.length : Int) ∧ (p1.length : Int) ≤ (p1.length : Int)) <|
  some ()

/-- slices.Clip[[]int,int] -/
def m_slices_Clip_hi (p1 : List (Int)) : Option (Unit) :=
  some ()

def m_impl_PartsOf_L1 (p3 : Int) : Nat → (List (Int)) → Int → Option (List (Int))
  | 0, _, _ => none
  | fu + 1, v6, v7 =>
    bif decide (v7 ≤ p3) then
      bif decide ((Go.bits .andNot .i64 v7 p3) = 0) then
        gd (v6.length + ([v7] : List (Int)).length ≤ 1099511627776) <|
        m_impl_PartsOf_L1 p3 fu (v6 ++ ([v7] : List (Int))) (IntKind.wrap .i64 (v7 + 1))
      else
        m_impl_PartsOf_L1 p3 fu v6 (IntKind.wrap .i64 (v7 + 1))
    else
      some v6

/-- loop.example/namedflags/impl.PartsOf -/
def m_impl_PartsOf (p1 : List (ByteArray × Int)) (p2 : Int) (p3 : Int) : Option (List (Int)) :=
  bd (m_impl_IsValue p1 p2 p3) fun x4 =>
  bif (!x4) then
    some ([] : List (Int))
  else
    bd (m_math_bits_OnesCount (IntKind.wrap .u64 (p3))) fun x5 =>
    bif decide (6 < x5) then
      some ([] : List (Int))
    else
      bd (m_impl_PartsOf_L1 p3 FU ([] : List (Int)) 0) fun x8 =>
      bd (m_slices_Clip_hi x8) fun x9 =>
      some x8

/-- loop.example/namedflags/impl.MatchArm -/
def m_impl_MatchArm (p1 : List (ByteArray × Int)) (p2 : Int) (p3 : Int) (p4 : Int) (p5 : Int) : Option (Bool) :=
  bd (m_impl_ValidArm p1 p2 p3 p4) fun x6 =>
  bif x6 then
    bd (m_impl_IsValue p1 p2 p5) fun x7 =>
    bif x7 then
      bd (m_impl_Arm_matches p3 p4 p5) fun x8 =>
      some x8
    else
      some false
  else
    some false

def m_laws_FnGreatestArms_L2 (x2 : (List (ByteArray × Int)) × Int × List (Int)) (x3 : List (Int × Int)) (x11 : List (Int)) (v12 : Int) : Nat → Bool → Int → Option (Bool)
  | 0, _, _ => none
  | fu + 1, v13, v14 =>
    bif decide (v14 < (x3.length : Int)) then
      bif v13 then
        m_laws_FnGreatestArms_L2 x2 x3 x11 v12 fu true (IntKind.wrap .i64 (v14 + 1))
      else
        gd (0 ≤ v14 ∧ v14 < (x3.length : Int)) <|
        gd (0 ≤ v12 ∧ v12 < (x11.length : Int)) <|
        bd (m_impl_MatchArm x2.1 x2.2.1 ((gt x3 v14).1) ((gt x3 v14).2) (gt x11 v12)) fun x15 =>
        m_laws_FnGreatestArms_L2 x2 x3 x11 v12 fu x15 (IntKind.wrap .i64 (v14 + 1))
    else
      some v13

def m_laws_FnGreatestArms_L1 (x2 : (List (ByteArray × Int)) × Int × List (Int)) (x3 : List (Int × Int)) (x11 : List (Int)) : Nat → Int → Option (Unit ⊕ Unit)
  | 0, _ => none
  | fu + 1, v12 =>
    bif decide (v12 < (x11.length : Int)) then
      bd (m_laws_FnGreatestArms_L2 x2 x3 x11 v12 FU false 0) fun x16 =>
      gd (0 ≤ v12 ∧ v12 < (x11.length : Int)) <|
      bd (m_laws_isIn x2.2.2 (gt x11 v12)) fun x17 =>
      bif (!(x16 == x17)) then
        some (Sum.inl ())
      else
        m_laws_FnGreatestArms_L1 x2 x3 x11 fu (IntKind.wrap .i64 (v12 + 1))
    else
      some (Sum.inr ())

def m_laws_FnGreatestArms_L4 (x2 : (List (ByteArray × Int)) × Int × List (Int)) (x3 : List (Int × Int)) (v21 : Int) : Nat → Int → Option (Unit ⊕ Unit)
  | 0, _ => none
  | fu + 1, v22 =>
    bif decide (v22 < (x3.length : Int)) then
      bif (!decide (v21 = v22)) then
        gd (0 ≤ v21 ∧ v21 < (x3.length : Int)) <|
        gd (0 ≤ v22 ∧ v22 < (x3.length : Int)) <|
        bd (m_impl_ArmCovers x2.1 x2.2.1 ((gt x3 v21).1) ((gt x3 v21).2) ((gt x3 v22).1) ((gt x3 v22).2)) fun x23 =>
        bif x23 then
          some (Sum.inl ())
        else
          m_laws_FnGreatestArms_L4 x2 x3 v21 fu (IntKind.wrap .i64 (v22 + 1))
      else
        m_laws_FnGreatestArms_L4 x2 x3 v21 fu (IntKind.wrap .i64 (v22 + 1))
    else
      some (Sum.inr ())

def m_laws_FnGreatestArms_L3 (x2 : (List (ByteArray × Int)) × Int × List (Int)) (x3 : List (Int × Int)) : Nat → Int → Option (Unit ⊕ Unit)
  | 0, _ => none
  | fu + 1, v21 =>
    bif decide (v21 < (x3.length : Int)) then
      bd (m_laws_FnGreatestArms_L4 x2 x3 v21 FU 0) fun x24 =>
      sm x24 (fun x25 =>
        some (Sum.inl ())) (fun x26 =>
        m_laws_FnGreatestArms_L3 x2 x3 fu (IntKind.wrap .i64 (v21 + 1)))
    else
      some (Sum.inr ())

/-- loop.example/namedflags/laws.FnGreatestArms -/
def m_laws_FnGreatestArms (p1 : List (Int)) : Option (Bool) :=
  bif decide (1048576 < (p1.length : Int)) then
    some true
  else
    bd (m_spec_DrawGreatestArms p1) fun x2 =>
    bd (m_impl_GreatestArms x2.1 x2.2.1 x2.2.2) fun x3 =>
    bd (m_spec_GreatestArms x2.1 x2.2.1 x2.2.2) fun x4 =>
    bd (m_laws_equalArms x3 x4) fun x5 =>
    bif (!x5) then
      bd (m_spec_GreatestArms x2.1 x2.2.1 x2.2.2) fun x6 =>
      bd (m_laws_equalArms x3 x6) fun x7 =>
      some x7
    else
      bif decide ((x3.length : Int) = 0) then
        bd (m_spec_GreatestArms x2.1 x2.2.1 x2.2.2) fun x8 =>
        bd (m_laws_equalArms x3 x8) fun x9 =>
        some x9
      else
        bd (m_impl_MaskOf x2.1 x2.2.1) fun x10 =>
        bd (m_impl_PartsOf x2.1 x2.2.1 x10) fun x11 =>
        bd (m_laws_FnGreatestArms_L1 x2 x3 x11 FU 0) fun x18 =>
        sm x18 (fun x19 =>
          some false) (fun x20 =>
          bd (m_laws_FnGreatestArms_L3 x2 x3 FU 0) fun x27 =>
          sm x27 (fun x28 =>
            some false) (fun x29 =>
            some true))

end Go.Eng

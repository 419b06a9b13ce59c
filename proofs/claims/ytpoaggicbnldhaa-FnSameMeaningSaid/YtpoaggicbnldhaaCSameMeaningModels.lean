/- What is said here: nothing is proved. A model of each function, printed by a program out of the translated code. -/
import Derived.Test.YtpoaggicbnldhaaCSameMeaningEng25
set_option linter.unusedVariables false
set_option linter.unusedSimpArgs false
namespace Go.Eng
open Go

def enc_i (x : Int) : List Value := [.int .i64 x]

def enc_isii (x : Int × ByteArray × Int × Int) : List Value := [.int .i64 x.1, .string x.2.1, .int .i64 x.2.2.1, .int .i64 x.2.2.2]

def enc_s (x : ByteArray) : List Value := [.string x]

def enc_si (x : ByteArray × Int) : List Value := [.string x.1, .int .i64 x.2]

def enc_y (x : Int) : List Value := [.int .u8 x]

def FU : Nat := 4611686018427387904

def bstr (ns : List Int) : ByteArray := ns.foldl (fun r n => r.push (UInt8.ofNat n.toNat)) ByteArray.empty

/-- loop.example/namedflags/spec.newReader -/
def m_spec_newReader (p1 : List (Int)) : Option (List (Int)) :=
  bif decide (2000 < (p1.length : Int)) then
    gd (0 ≤ (0 : Int) ∧ (0 : Int) ≤ (2000 : Int) ∧ (2000 : Int) ≤ (p1.length : Int) ∧ (p1.length : Int) ≤ (p1.length : Int)) <|
    some (sub p1 (0 : Int) (2000 : Int))
  else
    some p1

/-- (*loop.example/namedflags/spec.reader).pick -/
def m_spec_reader_pick (p1 : Int) (p2 : List (Int)) (p3 : Int) : Option (Int) :=
  bif decide (p1 < 1) then
    some 0
  else
    bif decide ((p2.length : Int) = 0) then
      some 0
    else
      nm (decide ((IntKind.wrap .i64 ((IntKind.wrap .i64 (p3 + 1)) - 1)) < (p2.length : Int))) fun v4 =>
      bif v4 then
        gd (0 ≤ (IntKind.wrap .i64 ((IntKind.wrap .i64 (p3 + 1)) - 1)) ∧ (IntKind.wrap .i64 ((IntKind.wrap .i64 (p3 + 1)) - 1)) < (p2.length : Int)) <|
        nm ((gt p2 (IntKind.wrap .i64 ((IntKind.wrap .i64 (p3 + 1)) - 1)))) fun v5 =>
        gd (p1 ≠ 0) <|
        some (Int.tmod (IntKind.wrap .i64 (v5)) p1)
      else
        gd ((p2.length : Int) ≠ 0) <|
        nm (Int.tmod (IntKind.wrap .i64 ((IntKind.wrap .i64 (p3 + 1)) - 1)) (p2.length : Int)) fun v6 =>
        gd (0 ≤ v6 ∧ v6 < (p2.length : Int)) <|
        nm (IntKind.wrap .i64 ((IntKind.wrap .i64 ((IntKind.wrap .i64 (p3 + 1)) - 1)) * 7)) fun v7 =>
        gd (0 ≤ (Int.tmod (IntKind.wrap .i64 (v7 + 3)) (p2.length : Int)) ∧ (Int.tmod (IntKind.wrap .i64 (v7 + 3)) (p2.length : Int)) < (p2.length : Int)) <|
        nm ((gt p2 (Int.tmod (IntKind.wrap .i64 (v7 + 3)) (p2.length : Int)))) fun v8 =>
        nm (IntKind.wrap .i64 ((IntKind.wrap .i64 ((IntKind.wrap .i64 ((gt p2 v6))) * 131)) + (IntKind.wrap .i64 ((IntKind.wrap .i64 (v8)) * 1117)))) fun v9 =>
        nm (IntKind.wrap .i64 ((IntKind.wrap .i64 ((IntKind.wrap .i64 (p3 + 1)) - 1)) * 29)) fun v10 =>
        gd ((p2.length : Int) ≠ 0 ∧ IntKind.wrap .i64 (Int.tdiv (IntKind.wrap .i64 ((IntKind.wrap .i64 (p3 + 1)) - 1)) (p2.length : Int)) = Int.tdiv (IntKind.wrap .i64 ((IntKind.wrap .i64 (p3 + 1)) - 1)) (p2.length : Int)) <|
        nm (Int.tdiv (IntKind.wrap .i64 ((IntKind.wrap .i64 (p3 + 1)) - 1)) (p2.length : Int)) fun v11 =>
        nm (IntKind.wrap .i64 ((IntKind.wrap .i64 (v9 + v10)) + (IntKind.wrap .i64 (v11 * 53)))) fun v12 =>
        gd ((64 : Int) ≠ 0 ∧ IntKind.wrap .i64 (Int.tdiv v12 64) = Int.tdiv v12 64) <|
        gd (p1 ≠ 0) <|
        some (Int.tmod (Go.bits .xor .i64 v12 (Int.tdiv v12 64)) p1)

/-- (*loop.example/namedflags/spec.reader).one -/
def m_spec_reader_one (p1 : List (Int)) (p2 : List (Int)) (p3 : Int) : Option (Int) :=
  bd (m_spec_reader_pick (p1.length : Int) p2 p3) fun x4 =>
  gd (0 ≤ x4 ∧ x4 < (p1.length : Int)) <|
  some (gt p1 x4)

/-- (*loop.example/namedflags/spec.reader).of -/
def m_spec_reader_of (p1 : List (ByteArray)) (p2 : List (Int)) (p3 : Int) : Option (ByteArray) :=
  bd (m_spec_reader_pick (p1.length : Int) p2 p3) fun x4 =>
  gd (0 ≤ x4 ∧ x4 < (p1.length : Int)) <|
  some (gt p1 x4)

/-- loop.example/namedflags/spec.aName -/
def m_spec_aName (p1 : List (Int)) (p2 : Int) : Option (ByteArray) :=
  bd (m_spec_reader_of ([(ByteArray.mk #[97]), (ByteArray.mk #[98]), (ByteArray.mk #[99]), (ByteArray.mk #[100]), (ByteArray.mk #[101]), (ByteArray.mk #[97, 98]), (ByteArray.mk #[114, 101, 100]), (ByteArray.mk #[98, 108, 117, 101]), (ByteArray.mk #[111, 110]), (ByteArray.mk #[111, 102, 102]), (ByteArray.mk #[97, 108, 108]), (ByteArray.mk #[102])] : List (ByteArray)) p1 p2) fun x3 =>
  some x3

def m_spec_indexOf_L1 (p1 : List (ByteArray × Int)) (p2 : ByteArray) : Nat → Int → Option (Int ⊕ Unit)
  | 0, _ => none
  | fu + 1, v3 =>
    bif decide (v3 < (p1.length : Int)) then
      gd (0 ≤ v3 ∧ v3 < (p1.length : Int)) <|
      bif decide (((gt p1 v3).1) = p2) then
        some (Sum.inl v3)
      else
        m_spec_indexOf_L1 p1 p2 fu (IntKind.wrap .i64 (v3 + 1))
    else
      some (Sum.inr ())

/-- loop.example/namedflags/spec.indexOf -/
def m_spec_indexOf (p1 : List (ByteArray × Int)) (p2 : ByteArray) : Option (Int) :=
  bd (m_spec_indexOf_L1 p1 p2 FU 0) fun x4 =>
  sm x4 (fun x5 =>
    some x5) (fun x6 =>
    some (-1))

def m_spec_goodDefs_L1 (p1 : Int) (p2 : List (Int)) : Nat → (List (ByteArray × Int)) → Int → Int → Option ((List (ByteArray × Int)) × Int)
  | 0, _, _, _ => none
  | fu + 1, v5, v6, v7 =>
    bif decide (0 < v6) then
      bd (m_spec_aName p2 v7) fun x8 =>
      bd (m_spec_reader_pick 12 p2 (IntKind.wrap .i64 (v7 + 1))) fun x9 =>
      bd (m_spec_reader_one ([1, 2, 3, 4, 5, 0, 8, x9, (-1), 7, 1000, 16] : List (Int)) p2 (IntKind.wrap .i64 ((IntKind.wrap .i64 (v7 + 1)) + 1))) fun x10 =>
      bif decide (p1 = 4095) then
        bd (m_spec_reader_pick 64 p2 (IntKind.wrap .i64 ((IntKind.wrap .i64 ((IntKind.wrap .i64 (v7 + 1)) + 1)) + 1))) fun x11 =>
        bd (m_spec_reader_one ([1, 2, 4, 8, 3, 16, 0, 6, 7, x11, 2048, 5, 1, 2, 4] : List (Int)) p2 (IntKind.wrap .i64 ((IntKind.wrap .i64 ((IntKind.wrap .i64 ((IntKind.wrap .i64 (v7 + 1)) + 1)) + 1)) + 1))) fun x12 =>
        bd (m_spec_indexOf v5 x8) fun x13 =>
        bif decide (x13 < 0) then
          bif decide (0 ≤ x12) then
            gd (v5.length + ([(x8, x12)] : List (ByteArray × Int)).length ≤ 1099511627776) <|
            m_spec_goodDefs_L1 p1 p2 fu (v5 ++ ([(x8, x12)] : List (ByteArray × Int))) (IntKind.wrap .i64 (v6 - 1)) (IntKind.wrap .i64 ((IntKind.wrap .i64 ((IntKind.wrap .i64 ((IntKind.wrap .i64 ((IntKind.wrap .i64 (v7 + 1)) + 1)) + 1)) + 1)) + 1))
          else
            bif (!decide (p1 = 4095)) then
              gd (v5.length + ([(x8, x12)] : List (ByteArray × Int)).length ≤ 1099511627776) <|
              m_spec_goodDefs_L1 p1 p2 fu (v5 ++ ([(x8, x12)] : List (ByteArray × Int))) (IntKind.wrap .i64 (v6 - 1)) (IntKind.wrap .i64 ((IntKind.wrap .i64 ((IntKind.wrap .i64 ((IntKind.wrap .i64 ((IntKind.wrap .i64 (v7 + 1)) + 1)) + 1)) + 1)) + 1))
            else
              m_spec_goodDefs_L1 p1 p2 fu v5 (IntKind.wrap .i64 (v6 - 1)) (IntKind.wrap .i64 ((IntKind.wrap .i64 ((IntKind.wrap .i64 ((IntKind.wrap .i64 ((IntKind.wrap .i64 (v7 + 1)) + 1)) + 1)) + 1)) + 1))
        else
          m_spec_goodDefs_L1 p1 p2 fu v5 (IntKind.wrap .i64 (v6 - 1)) (IntKind.wrap .i64 ((IntKind.wrap .i64 ((IntKind.wrap .i64 ((IntKind.wrap .i64 ((IntKind.wrap .i64 (v7 + 1)) + 1)) + 1)) + 1)) + 1))
      else
        bd (m_spec_indexOf v5 x8) fun x14 =>
        bif decide (x14 < 0) then
          bif decide (0 ≤ x10) then
            gd (v5.length + ([(x8, x10)] : List (ByteArray × Int)).length ≤ 1099511627776) <|
            m_spec_goodDefs_L1 p1 p2 fu (v5 ++ ([(x8, x10)] : List (ByteArray × Int))) (IntKind.wrap .i64 (v6 - 1)) (IntKind.wrap .i64 ((IntKind.wrap .i64 ((IntKind.wrap .i64 (v7 + 1)) + 1)) + 1))
          else
            bif (!decide (p1 = 4095)) then
              gd (v5.length + ([(x8, x10)] : List (ByteArray × Int)).length ≤ 1099511627776) <|
              m_spec_goodDefs_L1 p1 p2 fu (v5 ++ ([(x8, x10)] : List (ByteArray × Int))) (IntKind.wrap .i64 (v6 - 1)) (IntKind.wrap .i64 ((IntKind.wrap .i64 ((IntKind.wrap .i64 (v7 + 1)) + 1)) + 1))
            else
              m_spec_goodDefs_L1 p1 p2 fu v5 (IntKind.wrap .i64 (v6 - 1)) (IntKind.wrap .i64 ((IntKind.wrap .i64 ((IntKind.wrap .i64 (v7 + 1)) + 1)) + 1))
        else
          m_spec_goodDefs_L1 p1 p2 fu v5 (IntKind.wrap .i64 (v6 - 1)) (IntKind.wrap .i64 ((IntKind.wrap .i64 ((IntKind.wrap .i64 (v7 + 1)) + 1)) + 1))
    else
      some (v5, v7)

/-- loop.example/namedflags/spec.goodDefs -/
def m_spec_goodDefs (p1 : Int) (p2 : List (Int)) (p3 : Int) : Option ((List (ByteArray × Int)) × Int) :=
  bd (m_spec_reader_one ([4, 3, 5, 2, 6, 1, 0, 12] : List (Int)) p2 p3) fun x4 =>
  bd (m_spec_goodDefs_L1 p1 p2 FU ([] : List (ByteArray × Int)) x4 (IntKind.wrap .i64 (p3 + 1))) fun x15 =>
  some (x15.1, x15.2)

/-- loop.example/namedflags/impl.in -/
def m_impl_in (p1 : Int) (p2 : Int) (p3 : Int) : Option (Bool) :=
  bif decide (p2 ≤ p1) then
    some (decide (p1 ≤ p3))
  else
    some false

def m_impl_ValidName_L1 (p1 : ByteArray) : Nat → Int → Option (Unit ⊕ Unit)
  | 0, _ => none
  | fu + 1, v2 =>
    bif decide (v2 < (p1.size : Int)) then
      gd (0 ≤ v2 ∧ v2 < (p1.size : Int)) <|
      bif decide ((byteAt p1 v2.toNat) < 97) then
        some (Sum.inl ())
      else
        bif decide (122 < (byteAt p1 v2.toNat)) then
          some (Sum.inl ())
        else
          m_impl_ValidName_L1 p1 fu (IntKind.wrap .i64 (v2 + 1))
    else
      some (Sum.inr ())

/-- loop.example/namedflags/impl.ValidName -/
def m_impl_ValidName (p1 : ByteArray) : Option (Bool) :=
  bd (m_impl_ValidName_L1 p1 FU 0) fun x3 =>
  sm x3 (fun x4 =>
    some false) (fun x5 =>
    bd (m_impl_in (p1.size : Int) 1 6) fun x6 =>
    some x6)

/-- loop.example/namedflags/impl.named$1 -/
def m_impl_named_1_l (p1 : ByteArray) (p2 : Int) (p3 : ByteArray) : Option (Unit) :=
  some ()

def m_slices_IndexFunc_si_named_1_l_L1 (p1 : List (ByteArray × Int)) (p2 : ByteArray) : Nat → Int → Option (Int ⊕ Unit)
  | 0, _ => none
  | fu + 1, v3 =>
    bif decide (v3 < (p1.length : Int)) then
      gd (0 ≤ v3 ∧ v3 < (p1.length : Int)) <|
      bd (m_impl_named_1_l ((gt p1 v3).1) ((gt p1 v3).2) p2) fun x4 =>
      bif decide (((gt p1 v3).1) = p2) then
        some (Sum.inl v3)
      else
        m_slices_IndexFunc_si_named_1_l_L1 p1 p2 fu (IntKind.wrap .i64 (v3 + 1))
    else
      some (Sum.inr ())

/-- slices.IndexFunc[[]loop.example/namedflags/impl.Def,loop.example/namedflags/impl.Def] -/
def m_slices_IndexFunc_si_named_1_l (p1 : List (ByteArray × Int)) (p2 : ByteArray) : Option (Int) :=
  bd (m_slices_IndexFunc_si_named_1_l_L1 p1 p2 FU 0) fun x5 =>
  sm x5 (fun x6 =>
    some x6) (fun x7 =>
    some (-1))

/-- loop.example/namedflags/impl.named -/
def m_impl_named (p1 : List (ByteArray × Int)) (p2 : ByteArray) : Option (Int) :=
  bd (m_slices_IndexFunc_si_named_1_l p1 p2) fun x3 =>
  some x3

def m_impl_defsValid_L1 (p1 : List (ByteArray × Int)) (p2 : Int) (p3 : Int) : Nat → Int → Option (Unit ⊕ Unit)
  | 0, _ => none
  | fu + 1, v4 =>
    bif decide (v4 < (p1.length : Int)) then
      gd (0 ≤ v4 ∧ v4 < (p1.length : Int)) <|
      bd (m_impl_ValidName ((gt p1 v4).1)) fun x5 =>
      bif (!x5) then
        some (Sum.inl ())
      else
        bd (m_impl_in ((gt p1 v4).2) p2 p3) fun x6 =>
        bif (!x6) then
          some (Sum.inl ())
        else
          gd (0 ≤ (0 : Int) ∧ (0 : Int) ≤ v4 ∧ v4 ≤ (p1.length : Int) ∧ (p1.length : Int) ≤ (p1.length : Int)) <|
          bd (m_impl_named (sub p1 (0 : Int) v4) ((gt p1 v4).1)) fun x7 =>
          bif decide (0 ≤ x7) then
            some (Sum.inl ())
          else
            m_impl_defsValid_L1 p1 p2 p3 fu (IntKind.wrap .i64 (v4 + 1))
    else
      some (Sum.inr ())

/-- loop.example/namedflags/impl.defsValid -/
def m_impl_defsValid (p1 : List (ByteArray × Int)) (p2 : Int) (p3 : Int) : Option (Bool) :=
  bd (m_impl_defsValid_L1 p1 p2 p3 FU 0) fun x8 =>
  sm x8 (fun x9 =>
    some false) (fun x10 =>
    some (decide ((p1.length : Int) ≤ 12)))

/-- loop.example/namedflags/spec.inRange -/
def m_spec_inRange (p1 : Int) (p2 : Int) (p3 : Int) : Option (Bool) :=
  bif decide (p2 ≤ p1) then
    some (decide (p1 ≤ p3))
  else
    some false

def m_spec_validName_L1 (p1 : ByteArray) : Nat → Int → Option (Unit ⊕ Unit)
  | 0, _ => none
  | fu + 1, v2 =>
    bif decide (v2 < (p1.size : Int)) then
      gd (0 ≤ v2 ∧ v2 < (p1.size : Int)) <|
      bif decide ((byteAt p1 v2.toNat) < 97) then
        some (Sum.inl ())
      else
        bif decide (122 < (byteAt p1 v2.toNat)) then
          some (Sum.inl ())
        else
          m_spec_validName_L1 p1 fu (IntKind.wrap .i64 (v2 + 1))
    else
      some (Sum.inr ())

/-- loop.example/namedflags/spec.validName -/
def m_spec_validName (p1 : ByteArray) : Option (Bool) :=
  bd (m_spec_validName_L1 p1 FU 0) fun x3 =>
  sm x3 (fun x4 =>
    some false) (fun x5 =>
    bd (m_spec_inRange (p1.size : Int) 1 6) fun x6 =>
    some x6)

def m_spec_validDefs_L1 (p1 : List (ByteArray × Int)) (p2 : Int) (p3 : Int) : Nat → Int → Option (Unit ⊕ Unit)
  | 0, _ => none
  | fu + 1, v4 =>
    bif decide (v4 < (p1.length : Int)) then
      gd (0 ≤ v4 ∧ v4 < (p1.length : Int)) <|
      bd (m_spec_validName ((gt p1 v4).1)) fun x5 =>
      bif (!x5) then
        some (Sum.inl ())
      else
        bd (m_spec_inRange ((gt p1 v4).2) p2 p3) fun x6 =>
        bif (!x6) then
          some (Sum.inl ())
        else
          gd (0 ≤ (0 : Int) ∧ (0 : Int) ≤ v4 ∧ v4 ≤ (p1.length : Int) ∧ (p1.length : Int) ≤ (p1.length : Int)) <|
          bd (m_spec_indexOf (sub p1 (0 : Int) v4) ((gt p1 v4).1)) fun x7 =>
          bif decide (0 ≤ x7) then
            some (Sum.inl ())
          else
            m_spec_validDefs_L1 p1 p2 p3 fu (IntKind.wrap .i64 (v4 + 1))
    else
      some (Sum.inr ())

/-- loop.example/namedflags/spec.validDefs -/
def m_spec_validDefs (p1 : List (ByteArray × Int)) (p2 : Int) (p3 : Int) : Option (Bool) :=
  bd (m_spec_validDefs_L1 p1 p2 p3 FU 0) fun x8 =>
  sm x8 (fun x9 =>
    some false) (fun x10 =>
    some (decide ((p1.length : Int) ≤ 12)))

/-- slices.Clip[[]loop.example/namedflags/impl.Def,loop.example/namedflags/impl.Def] -/
def m_slices_Clip_si (p1 : List (ByteArray × Int)) : Option (Unit) :=
  gd (0 ≤ (0 : Int) ∧ (0 : Int) ≤ (p1.length : Int) ∧ (p1.length : Int) ≤ (p1.length : Int) ∧ (p1.length : Int) ≤ (p1.length : Int)) <|
  some ()

/-- slices.Clip[[]loop.example/namedflags/impl.Def,loop.example/namedflags/impl.Def] -/
def m_slices_Clip_hsi (p1 : List (ByteArray × Int)) : Option (Unit) :=
  some ()

/-- slices.Clone[[]loop.example/namedflags/impl.Def,loop.example/namedflags/impl.Def] -/
def m_slices_Clone_si (p1 : List (ByteArray × Int)) : Option (List (ByteArray × Int)) :=
  gd (p1.length ≤ 1099511627776) <|
  some p1

/-- loop.example/namedflags/impl.clone[loop.example/namedflags/impl.Def] -/
def m_impl_clone_si (p1 : List (ByteArray × Int)) : Option (List (ByteArray × Int)) :=
  bd (m_slices_Clone_si p1) fun x2 =>
  bd (m_slices_Clip_hsi x2) fun x3 =>
  some x2

/-- loop.example/namedflags/spec.goodEnum -/
def m_spec_goodEnum (p1 : List (Int)) (p2 : Int) : Option ((List (ByteArray × Int)) × Int) :=
  bd (m_spec_goodDefs 1000 p1 p2) fun x3 =>
  some (x3.1, x3.2)

/-- loop.example/namedflags/spec.someEnum -/
def m_spec_someEnum (p1 : List (Int)) (p2 : Int) : Option ((List (ByteArray × Int)) × Int) :=
  bd (m_spec_goodEnum p1 p2) fun x3 =>
  bif decide (0 < (x3.1.length : Int)) then
    bd (m_spec_reader_pick (x3.1.length : Int) p1 x3.2) fun x4 =>
    bd (m_spec_reader_pick 24 p1 (IntKind.wrap .i64 (x3.2 + 1))) fun x5 =>
    bif decide (x5 = 0) then
      bd (m_spec_reader_of ([ByteArray.empty, (ByteArray.mk #[65]), (ByteArray.mk #[116, 111, 111, 108, 111, 110, 103])] : List (ByteArray)) p1 (IntKind.wrap .i64 ((IntKind.wrap .i64 (x3.2 + 1)) + 1))) fun x6 =>
      gd (0 ≤ x4 ∧ x4 < (x3.1.length : Int)) <|
      some (x3.1.set (0 + x4.toNat) (x6, (gt x3.1 x4).2), IntKind.wrap .i64 ((IntKind.wrap .i64 ((IntKind.wrap .i64 (x3.2 + 1)) + 1)) + 1))
    else
      bif decide (x5 = 1) then
        bd (m_spec_reader_one ([1001, (-1001)] : List (Int)) p1 (IntKind.wrap .i64 ((IntKind.wrap .i64 (x3.2 + 1)) + 1))) fun x7 =>
        gd (0 ≤ x4 ∧ x4 < (x3.1.length : Int)) <|
        some (x3.1.set (0 + x4.toNat) ((gt x3.1 x4).1, x7), IntKind.wrap .i64 ((IntKind.wrap .i64 ((IntKind.wrap .i64 (x3.2 + 1)) + 1)) + 1))
      else
        bif decide (x5 = 2) then
          gd (0 ≤ x4 ∧ x4 < (x3.1.length : Int)) <|
          gd (x3.1.length + ([((gt x3.1 x4).1, (gt x3.1 x4).2)] : List (ByteArray × Int)).length ≤ 1099511627776) <|
          some (x3.1 ++ ([((gt x3.1 x4).1, (gt x3.1 x4).2)] : List (ByteArray × Int)), IntKind.wrap .i64 ((IntKind.wrap .i64 (x3.2 + 1)) + 1))
        else
          bif decide (x5 = 3) then
            gd (0 ≤ (13 : Int) ∧ (13 : Int) ≤ 1099511627776) <|
            gd (x3.1.length + (List.replicate (13 : Int).toNat ((ByteArray.empty, 0) : ByteArray × Int)).length ≤ 1099511627776) <|
            some (x3.1 ++ (List.replicate (13 : Int).toNat ((ByteArray.empty, 0) : ByteArray × Int)), IntKind.wrap .i64 ((IntKind.wrap .i64 (x3.2 + 1)) + 1))
          else
            some (x3.1, IntKind.wrap .i64 ((IntKind.wrap .i64 (x3.2 + 1)) + 1))
  else
    some (x3.1, x3.2)

/-- loop.example/namedflags/impl.ValidEnum -/
def m_impl_ValidEnum (p1 : List (ByteArray × Int)) : Option (Bool) :=
  bd (m_impl_defsValid p1 (-1000) 1000) fun x2 =>
  some x2

/-- loop.example/namedflags/spec.validEnum -/
def m_spec_validEnum (p1 : List (ByteArray × Int)) : Option (Bool) :=
  bd (m_spec_validDefs p1 (-1000) 1000) fun x2 =>
  some x2

/-- cmp.isNaN[int] -/
def m_cmp_isNaN (p1 : Int) : Option (Unit) :=
  some ()

/-- cmp.Compare[int] -/
def m_cmp_Compare (p1 : Int) (p2 : Int) : Option (Int) :=
  bd (m_cmp_isNaN p1) fun x3 =>
  bd (m_cmp_isNaN p2) fun x4 =>
  bif (!decide (p1 = p1)) then
    bif (!decide (p2 = p2)) then
      some 0
    else
      some (-1)
  else
    bif (!decide (p2 = p2)) then
      some 1
    else
      bif decide (p1 < p2) then
        some (-1)
      else
        bif decide (p2 < p1) then
          some 1
        else
          some 0

def m_spec_differ_L1 (p1 : List (ByteArray × Int)) (p2 : List (ByteArray × Int)) : Nat → (List (Int × ByteArray × Int × Int)) → Int → Option (List (Int × ByteArray × Int × Int))
  | 0, _, _ => none
  | fu + 1, v3, v4 =>
    bif decide (v4 < (p1.length : Int)) then
      gd (0 ≤ v4 ∧ v4 < (p1.length : Int)) <|
      bd (m_spec_indexOf p2 ((gt p1 v4).1)) fun x5 =>
      bif decide (x5 < 0) then
        gd (v3.length + ([(1, (gt p1 v4).1, (gt p1 v4).2, 0)] : List (Int × ByteArray × Int × Int)).length ≤ 1099511627776) <|
        m_spec_differ_L1 p1 p2 fu (v3 ++ ([(1, (gt p1 v4).1, (gt p1 v4).2, 0)] : List (Int × ByteArray × Int × Int))) (IntKind.wrap .i64 (v4 + 1))
      else
        m_spec_differ_L1 p1 p2 fu v3 (IntKind.wrap .i64 (v4 + 1))
    else
      some v3

def m_spec_differ_L2 (p1 : List (ByteArray × Int)) (p2 : List (ByteArray × Int)) : Nat → (List (Int × ByteArray × Int × Int)) → Int → Option (List (Int × ByteArray × Int × Int))
  | 0, _, _ => none
  | fu + 1, v7, v8 =>
    bif decide (v8 < (p1.length : Int)) then
      gd (0 ≤ v8 ∧ v8 < (p1.length : Int)) <|
      bd (m_spec_indexOf p2 ((gt p1 v8).1)) fun x9 =>
      bif decide (0 ≤ x9) then
        gd (0 ≤ x9 ∧ x9 < (p2.length : Int)) <|
        bif (!decide (((gt p2 x9).2) = ((gt p1 v8).2))) then
          gd (v7.length + ([(2, (gt p1 v8).1, (gt p1 v8).2, (gt p2 x9).2)] : List (Int × ByteArray × Int × Int)).length ≤ 1099511627776) <|
          m_spec_differ_L2 p1 p2 fu (v7 ++ ([(2, (gt p1 v8).1, (gt p1 v8).2, (gt p2 x9).2)] : List (Int × ByteArray × Int × Int))) (IntKind.wrap .i64 (v8 + 1))
        else
          m_spec_differ_L2 p1 p2 fu v7 (IntKind.wrap .i64 (v8 + 1))
      else
        m_spec_differ_L2 p1 p2 fu v7 (IntKind.wrap .i64 (v8 + 1))
    else
      some v7

def m_spec_differ_L3 (p1 : List (ByteArray × Int)) (p2 : List (ByteArray × Int)) : Nat → (List (Int × ByteArray × Int × Int)) → Int → Option (List (Int × ByteArray × Int × Int))
  | 0, _, _ => none
  | fu + 1, v11, v12 =>
    bif decide (v12 < (p2.length : Int)) then
      gd (0 ≤ v12 ∧ v12 < (p2.length : Int)) <|
      bd (m_spec_indexOf p1 ((gt p2 v12).1)) fun x13 =>
      bif decide (x13 < 0) then
        gd (v11.length + ([(0, (gt p2 v12).1, 0, (gt p2 v12).2)] : List (Int × ByteArray × Int × Int)).length ≤ 1099511627776) <|
        m_spec_differ_L3 p1 p2 fu (v11 ++ ([(0, (gt p2 v12).1, 0, (gt p2 v12).2)] : List (Int × ByteArray × Int × Int))) (IntKind.wrap .i64 (v12 + 1))
      else
        m_spec_differ_L3 p1 p2 fu v11 (IntKind.wrap .i64 (v12 + 1))
    else
      some v11

/-- loop.example/namedflags/spec.differ -/
def m_spec_differ (p1 : List (ByteArray × Int)) (p2 : List (ByteArray × Int)) : Option (List (Int × ByteArray × Int × Int)) :=
  bd (m_spec_differ_L1 p1 p2 FU ([] : List (Int × ByteArray × Int × Int)) 0) fun x6 =>
  bd (m_spec_differ_L2 p1 p2 FU x6 0) fun x10 =>
  bd (m_spec_differ_L3 p1 p2 FU x10 0) fun x14 =>
  some x14

/-- loop.example/namedflags/spec.copyDefs -/
def m_spec_copyDefs (p1 : List (ByteArray × Int)) : Option (Unit) :=
  gd (([] : List (ByteArray × Int)).length + p1.length ≤ 1099511627776) <|
  some ()

/-- loop.example/namedflags/spec.dropped -/
def m_spec_dropped (p1 : List (ByteArray × Int)) (p2 : Int) : Option (Unit) :=
  gd (0 ≤ (0 : Int) ∧ (0 : Int) ≤ p2 ∧ p2 ≤ (p1.length : Int) ∧ (p1.length : Int) ≤ (p1.length : Int)) <|
  bd (m_spec_copyDefs (sub p1 (0 : Int) p2)) fun x3 =>
  gd (0 ≤ (IntKind.wrap .i64 (p2 + 1)) ∧ (IntKind.wrap .i64 (p2 + 1)) ≤ (p1.length : Int) ∧ (p1.length : Int) ≤ (p1.length : Int) ∧ (p1.length : Int) ≤ (p1.length : Int)) <|
  gd ((([] : List (ByteArray × Int)) ++ (sub p1 (0 : Int) p2)).length + (sub p1 (IntKind.wrap .i64 (p2 + 1)) (p1.length : Int)).length ≤ 1099511627776) <|
  some ()

def m_spec_SortEnum_L2 (p1 : List (ByteArray × Int)) (v3 : List (ByteArray × Int)) (v4 : Int) : Nat → Int → Option (Int)
  | 0, _ => none
  | fu + 1, v5 =>
    bif decide (v5 < (v3.length : Int)) then
      gd (0 ≤ v5 ∧ v5 < (v3.length : Int)) <|
      gd (0 ≤ v4 ∧ v4 < (p1.length : Int)) <|
      bif decide (((gt v3 v5).2) ≤ ((gt p1 v4).2)) then
        m_spec_SortEnum_L2 p1 v3 v4 fu (IntKind.wrap .i64 (v5 + 1))
      else
        some v5
    else
      some v5

def m_spec_SortEnum_L1 (p1 : List (ByteArray × Int)) : Nat → (List (ByteArray × Int)) → Int → Option (List (ByteArray × Int))
  | 0, _, _ => none
  | fu + 1, v3, v4 =>
    bif decide (v4 < (p1.length : Int)) then
      bd (m_spec_SortEnum_L2 p1 v3 v4 FU 0) fun x6 =>
      gd (0 ≤ (0 : Int) ∧ (0 : Int) ≤ x6 ∧ x6 ≤ (v3.length : Int) ∧ (v3.length : Int) ≤ (v3.length : Int)) <|
      bd (m_spec_copyDefs (sub v3 (0 : Int) x6)) fun x7 =>
      gd (0 ≤ v4 ∧ v4 < (p1.length : Int)) <|
      gd ((([] : List (ByteArray × Int)) ++ (sub v3 (0 : Int) x6)).length + ([((gt p1 v4).1, (gt p1 v4).2)] : List (ByteArray × Int)).length ≤ 1099511627776) <|
      gd (0 ≤ x6 ∧ x6 ≤ (v3.length : Int) ∧ (v3.length : Int) ≤ (v3.length : Int) ∧ (v3.length : Int) ≤ (v3.length : Int)) <|
      gd (((([] : List (ByteArray × Int)) ++ (sub v3 (0 : Int) x6)) ++ ([((gt p1 v4).1, (gt p1 v4).2)] : List (ByteArray × Int))).length + (sub v3 x6 (v3.length : Int)).length ≤ 1099511627776) <|
      m_spec_SortEnum_L1 p1 fu (((([] : List (ByteArray × Int)) ++ (sub v3 (0 : Int) x6)) ++ ([((gt p1 v4).1, (gt p1 v4).2)] : List (ByteArray × Int))) ++ (sub v3 x6 (v3.length : Int))) (IntKind.wrap .i64 (v4 + 1))
    else
      some v3

/-- loop.example/namedflags/spec.SortEnum -/
def m_spec_SortEnum (p1 : List (ByteArray × Int)) : Option (List (ByteArray × Int)) :=
  bd (m_spec_validEnum p1) fun x2 =>
  bif (!x2) then
    some ([] : List (ByteArray × Int))
  else
    bd (m_spec_SortEnum_L1 p1 FU ([] : List (ByteArray × Int)) 0) fun x8 =>
    some x8

/-- loop.example/namedflags/impl.SortEnum$1 -/
def m_impl_SortEnum_1 (p1 : ByteArray) (p2 : Int) (p3 : ByteArray) (p4 : Int) : Option (Int) :=
  bd (m_cmp_Compare p2 p4) fun x5 =>
  some x5

def m_slices_insertionSortCmpFunc_h_SortEnum_1_si_L2 (p1 : Int) (p2 : Int) (v4 : Int) : Nat → Int → (List (ByteArray × Int)) → Option (List (ByteArray × Int))
  | 0, _, _ => none
  | fu + 1, v6, v7 =>
    bif decide (p1 < v6) then
      gd (0 ≤ v6 ∧ v6 < (v7.length : Int)) <|
      gd (0 ≤ (IntKind.wrap .i64 (v6 - 1)) ∧ (IntKind.wrap .i64 (v6 - 1)) < (v7.length : Int)) <|
      bd (m_impl_SortEnum_1 ((gt v7 v6).1) ((gt v7 v6).2) ((gt v7 (IntKind.wrap .i64 (v6 - 1))).1) ((gt v7 (IntKind.wrap .i64 (v6 - 1))).2)) fun x8 =>
      bif decide (x8 < 0) then
        m_slices_insertionSortCmpFunc_h_SortEnum_1_si_L2 p1 p2 v4 fu (IntKind.wrap .i64 (v6 - 1)) ((v7.set (0 + v6.toNat) ((gt v7 (IntKind.wrap .i64 (v6 - 1))).1, (gt v7 (IntKind.wrap .i64 (v6 - 1))).2)).set (0 + (IntKind.wrap .i64 (v6 - 1)).toNat) ((gt v7 v6).1, (gt v7 v6).2))
      else
        some v7
    else
      some v7

def m_slices_insertionSortCmpFunc_h_SortEnum_1_si_L1 (p1 : Int) (p2 : Int) : Nat → Int → (List (ByteArray × Int)) → Option (List (ByteArray × Int))
  | 0, _, _ => none
  | fu + 1, v4, v5 =>
    bif decide (v4 < p2) then
      bd (m_slices_insertionSortCmpFunc_h_SortEnum_1_si_L2 p1 p2 v4 FU v4 v5) fun x9 =>
      m_slices_insertionSortCmpFunc_h_SortEnum_1_si_L1 p1 p2 fu (IntKind.wrap .i64 (v4 + 1)) x9
    else
      some v5

/-- slices.insertionSortCmpFunc[loop.example/namedflags/impl.Def] -/
def m_slices_insertionSortCmpFunc_h_SortEnum_1_si (p1 : Int) (p2 : Int) (p3 : List (ByteArray × Int)) : Option (List (ByteArray × Int)) :=
  bd (m_slices_insertionSortCmpFunc_h_SortEnum_1_si_L1 p1 p2 FU (IntKind.wrap .i64 (p1 + 1)) p3) fun x10 =>
  some x10

def m_slices_stableCmpFunc_h_SortEnum_1_si_L1 (p1 : Int) : Nat → Int → Int → (List (ByteArray × Int)) → Option (Int × (List (ByteArray × Int)))
  | 0, _, _, _ => none
  | fu + 1, v3, v4, v5 =>
    bif decide (v4 ≤ p1) then
      bd (m_slices_insertionSortCmpFunc_h_SortEnum_1_si v3 v4 v5) fun x6 =>
      gd (x6.length = v5.length) <|
      m_slices_stableCmpFunc_h_SortEnum_1_si_L1 p1 fu v4 (IntKind.wrap .i64 (v4 + 20)) x6
    else
      some (v3, v5)

def m_slices_stableCmpFunc_h_SortEnum_1_si_L3 (p1 : Int) (x8 : List (ByteArray × Int)) (v9 : Int) : Nat → Option (Unit)
  | 0 => none
  | fu + 1 =>
    bif decide ((IntKind.wrap .i64 (2 * v9)) ≤ p1) then
      none
    else
      some ()

def m_slices_stableCmpFunc_h_SortEnum_1_si_L2 (p1 : Int) (x8 : List (ByteArray × Int)) : Nat → Int → Option (Unit)
  | 0, _ => none
  | fu + 1, v9 =>
    bif decide (v9 < p1) then
      bd (m_slices_stableCmpFunc_h_SortEnum_1_si_L3 p1 x8 v9 FU) fun x10 =>
      bif decide ((IntKind.wrap .i64 (0 + v9)) < p1) then
        none
      else
        m_slices_stableCmpFunc_h_SortEnum_1_si_L2 p1 x8 fu (IntKind.wrap .i64 (v9 * 2))
    else
      some ()

/-- slices.stableCmpFunc[loop.example/namedflags/impl.Def] -/
def m_slices_stableCmpFunc_h_SortEnum_1_si (p1 : Int) (p2 : List (ByteArray × Int)) : Option (List (ByteArray × Int)) :=
  bd (m_slices_stableCmpFunc_h_SortEnum_1_si_L1 p1 FU 0 20 p2) fun x7 =>
  bd (m_slices_insertionSortCmpFunc_h_SortEnum_1_si x7.1 p1 x7.2) fun x8 =>
  gd (x8.length = x7.2.length) <|
  bd (m_slices_stableCmpFunc_h_SortEnum_1_si_L2 p1 x8 FU 20) fun x11 =>
  some x8

/-- slices.SortStableFunc[[]loop.example/namedflags/impl.Def,loop.example/namedflags/impl.Def] -/
def m_slices_SortStableFunc_h_SortEnum_1_si (p1 : List (ByteArray × Int)) : Option (List (ByteArray × Int)) :=
  bd (m_slices_stableCmpFunc_h_SortEnum_1_si (p1.length : Int) p1) fun x2 =>
  gd (x2.length = p1.length) <|
  some x2

/-- loop.example/namedflags/impl.SortEnum -/
def m_impl_SortEnum (p1 : List (ByteArray × Int)) : Option (List (ByteArray × Int)) :=
  bd (m_impl_ValidEnum p1) fun x2 =>
  bif (!x2) then
    some ([] : List (ByteArray × Int))
  else
    bd (m_impl_clone_si p1) fun x3 =>
    bd (m_slices_SortStableFunc_h_SortEnum_1_si x3) fun x4 =>
    gd (x4.length = x3.length) <|
    some x4

/-- slices.Grow[[]loop.example/namedflags/impl.Change,loop.example/namedflags/impl.Change] -/
def m_slices_Grow_nisii (p1 : Int) : Option (List (Int × ByteArray × Int × Int)) :=
  bif decide (p1 < 0) then
    none
  else
    nm (decide (0 < (IntKind.wrap .i64 (p1 - (IntKind.wrap .i64 (0 - 0)))))) fun v2 =>
    bif v2 then
      gd ((0 : Int) = 0 ∧ (0 : Int) = 0 ∧ (0 : Int) = 0) <|
      gd (0 ≤ (IntKind.wrap .i64 (p1 - (IntKind.wrap .i64 (0 - 0)))) ∧ (IntKind.wrap .i64 (p1 - (IntKind.wrap .i64 (0 - 0)))) ≤ 1099511627776) <|
      gd (([] : List (Int × ByteArray × Int × Int)).length + (List.replicate (IntKind.wrap .i64 (p1 - (IntKind.wrap .i64 (0 - 0)))).toNat ((0, ByteArray.empty, 0, 0) : Int × ByteArray × Int × Int)).length ≤ 1099511627776) <|
      gd (0 ≤ (0 : Int) ∧ (0 : Int) ≤ (0 : Int) ∧ (0 : Int) ≤ ((List.replicate (IntKind.wrap .i64 (p1 - (IntKind.wrap .i64 (0 - 0)))).toNat ((0, ByteArray.empty, 0, 0) : Int × ByteArray × Int × Int)).length : Int) ∧ ((List.replicate (IntKind.wrap .i64 (p1 - (IntKind.wrap .i64 (0 - 0)))).toNat ((0, ByteArray.empty, 0, 0) : Int × ByteArray × Int × Int)).length : Int) ≤ ((List.replicate (IntKind.wrap .i64 (p1 - (IntKind.wrap .i64 (0 - 0)))).toNat ((0, ByteArray.empty, 0, 0) : Int × ByteArray × Int × Int)).length : Int)) <|
      some (sub (List.replicate (IntKind.wrap .i64 (p1 - (IntKind.wrap .i64 (0 - 0)))).toNat ((0, ByteArray.empty, 0, 0) : Int × ByteArray × Int × Int)) (0 : Int) (0 : Int))
    else
      some ([] : List (Int × ByteArray × Int × Int))

/-- slices.Concat[[]loop.example/namedflags/impl.Change,loop.example/namedflags/impl.Change] -/
def m_slices_Concat_x3isiiisiiisii (p1 : List (Int × ByteArray × Int × Int)) (p2 : List (Int × ByteArray × Int × Int)) (p3 : List (Int × ByteArray × Int × Int)) : Option (List (Int × ByteArray × Int × Int)) :=
  bif decide ((IntKind.wrap .i64 (0 + (p1.length : Int))) < 0) then
    none
  else
    nm (IntKind.wrap .i64 ((IntKind.wrap .i64 (0 + (p1.length : Int))) + (p2.length : Int))) fun v4 =>
    bif decide (v4 < 0) then
      none
    else
      bif decide ((IntKind.wrap .i64 (v4 + (p3.length : Int))) < 0) then
        none
      else
        bd (m_slices_Grow_nisii (IntKind.wrap .i64 (v4 + (p3.length : Int)))) fun x5 =>
        gd (x5.length + p1.length ≤ 1099511627776) <|
        gd ((x5 ++ p1).length + p2.length ≤ 1099511627776) <|
        gd (((x5 ++ p1) ++ p2).length + p3.length ≤ 1099511627776) <|
        some (((x5 ++ p1) ++ p2) ++ p3)

/-- slices.Clip[[]loop.example/namedflags/impl.Change,loop.example/namedflags/impl.Change] -/
def m_slices_Clip_isii (p1 : List (Int × ByteArray × Int × Int)) : Option (Unit) :=
  gd (0 ≤ (0 : Int) ∧ (0 : Int) ≤ (p1.length : Int) ∧ (p1.length : Int) ≤ (p1.length : Int) ∧ (p1.length : Int) ≤ (p1.length : Int)) <|
  some ()

/-- slices.Clip[[]loop.example/namedflags/impl.Change,loop.example/namedflags/impl.Change] -/
def m_slices_Clip_hisii (p1 : List (Int × ByteArray × Int × Int)) : Option (Unit) :=
  some ()

def m_impl_DiffEnums_L1 (p1 : List (ByteArray × Int)) (p2 : List (ByteArray × Int)) : Nat → (List (Int × ByteArray × Int × Int)) → (List (Int × ByteArray × Int × Int)) → Int → Option ((List (Int × ByteArray × Int × Int)) × (List (Int × ByteArray × Int × Int)))
  | 0, _, _, _ => none
  | fu + 1, v5, v6, v7 =>
    bif decide (v7 < (p1.length : Int)) then
      gd (0 ≤ v7 ∧ v7 < (p1.length : Int)) <|
      bd (m_impl_named p2 ((gt p1 v7).1)) fun x8 =>
      bif decide (x8 < 0) then
        gd (v5.length + ([(1, (gt p1 v7).1, (gt p1 v7).2, 0)] : List (Int × ByteArray × Int × Int)).length ≤ 1099511627776) <|
        m_impl_DiffEnums_L1 p1 p2 fu (v5 ++ ([(1, (gt p1 v7).1, (gt p1 v7).2, 0)] : List (Int × ByteArray × Int × Int))) v6 (IntKind.wrap .i64 (v7 + 1))
      else
        gd (0 ≤ x8 ∧ x8 < (p2.length : Int)) <|
        bif (!decide (((gt p2 x8).2) = ((gt p1 v7).2))) then
          gd (v6.length + ([(2, (gt p1 v7).1, (gt p1 v7).2, (gt p2 x8).2)] : List (Int × ByteArray × Int × Int)).length ≤ 1099511627776) <|
          m_impl_DiffEnums_L1 p1 p2 fu v5 (v6 ++ ([(2, (gt p1 v7).1, (gt p1 v7).2, (gt p2 x8).2)] : List (Int × ByteArray × Int × Int))) (IntKind.wrap .i64 (v7 + 1))
        else
          m_impl_DiffEnums_L1 p1 p2 fu v5 v6 (IntKind.wrap .i64 (v7 + 1))
    else
      some (v5, v6)

def m_impl_DiffEnums_L2 (p1 : List (ByteArray × Int)) (p2 : List (ByteArray × Int)) (x9 : (List (Int × ByteArray × Int × Int)) × (List (Int × ByteArray × Int × Int))) : Nat → (List (Int × ByteArray × Int × Int)) → Int → Option (List (Int × ByteArray × Int × Int))
  | 0, _, _ => none
  | fu + 1, v10, v11 =>
    bif decide (v11 < (p2.length : Int)) then
      gd (0 ≤ v11 ∧ v11 < (p2.length : Int)) <|
      bd (m_impl_named p1 ((gt p2 v11).1)) fun x12 =>
      bif decide (x12 < 0) then
        gd (v10.length + ([(0, (gt p2 v11).1, 0, (gt p2 v11).2)] : List (Int × ByteArray × Int × Int)).length ≤ 1099511627776) <|
        m_impl_DiffEnums_L2 p1 p2 x9 fu (v10 ++ ([(0, (gt p2 v11).1, 0, (gt p2 v11).2)] : List (Int × ByteArray × Int × Int))) (IntKind.wrap .i64 (v11 + 1))
      else
        m_impl_DiffEnums_L2 p1 p2 x9 fu v10 (IntKind.wrap .i64 (v11 + 1))
    else
      some v10

/-- loop.example/namedflags/impl.DiffEnums -/
def m_impl_DiffEnums (p1 : List (ByteArray × Int)) (p2 : List (ByteArray × Int)) : Option (List (Int × ByteArray × Int × Int)) :=
  bd (m_impl_ValidEnum p1) fun x3 =>
  bif (!x3) then
    some ([] : List (Int × ByteArray × Int × Int))
  else
    bd (m_impl_ValidEnum p2) fun x4 =>
    bif (!x4) then
      some ([] : List (Int × ByteArray × Int × Int))
    else
      bd (m_impl_DiffEnums_L1 p1 p2 FU ([] : List (Int × ByteArray × Int × Int)) ([] : List (Int × ByteArray × Int × Int)) 0) fun x9 =>
      bd (m_impl_DiffEnums_L2 p1 p2 x9 FU ([] : List (Int × ByteArray × Int × Int)) 0) fun x13 =>
      bd (m_slices_Concat_x3isiiisiiisii x9.1 x9.2 x13) fun x14 =>
      bd (m_slices_Clip_hisii x14) fun x15 =>
      some x14

/-- loop.example/namedflags/impl.SameMeaning -/
def m_impl_SameMeaning (p1 : List (ByteArray × Int)) (p2 : List (ByteArray × Int)) : Option (Bool) :=
  bd (m_impl_ValidEnum p1) fun x3 =>
  bif x3 then
    bd (m_impl_ValidEnum p2) fun x4 =>
    bif x4 then
      bd (m_impl_DiffEnums p1 p2) fun x5 =>
      some (decide ((x5.length : Int) = 0))
    else
      some false
  else
    some false

def m_spec_twoEnums_L1 (p1 : List (Int)) (x3 : (List (ByteArray × Int)) × Int) : Nat → (List (ByteArray × Int)) → Int → Int → Option ((List (ByteArray × Int)) × Int)
  | 0, _, _, _ => none
  | fu + 1, v9, v10, v11 =>
    bif decide (0 < v10) then
      bd (m_spec_reader_pick (IntKind.wrap .i64 ((v9.length : Int) + 1)) p1 v11) fun x12 =>
      bd (m_spec_aName p1 (IntKind.wrap .i64 (v11 + 1))) fun x13 =>
      bd (m_spec_reader_one ([1, 2, 3, 9, 0] : List (Int)) p1 (IntKind.wrap .i64 ((IntKind.wrap .i64 (v11 + 1)) + 1))) fun x14 =>
      bif decide (x12 < (v9.length : Int)) then
        bd (m_spec_reader_pick 3 p1 (IntKind.wrap .i64 ((IntKind.wrap .i64 ((IntKind.wrap .i64 (v11 + 1)) + 1)) + 1))) fun x15 =>
        bif decide (x15 = 0) then
          bd (m_spec_dropped v9 x12) fun x16 =>
          m_spec_twoEnums_L1 p1 x3 fu ((([] : List (ByteArray × Int)) ++ (sub v9 (0 : Int) x12)) ++ (sub v9 (IntKind.wrap .i64 (x12 + 1)) (v9.length : Int))) (IntKind.wrap .i64 (v10 - 1)) (IntKind.wrap .i64 ((IntKind.wrap .i64 ((IntKind.wrap .i64 ((IntKind.wrap .i64 (v11 + 1)) + 1)) + 1)) + 1))
        else
          bd (m_spec_reader_pick 2 p1 (IntKind.wrap .i64 ((IntKind.wrap .i64 ((IntKind.wrap .i64 ((IntKind.wrap .i64 (v11 + 1)) + 1)) + 1)) + 1))) fun x17 =>
          bif decide (x17 = 0) then
            gd (0 ≤ x12 ∧ x12 < (v9.length : Int)) <|
            m_spec_twoEnums_L1 p1 x3 fu (v9.set (0 + x12.toNat) ((gt v9 x12).1, x14)) (IntKind.wrap .i64 (v10 - 1)) (IntKind.wrap .i64 ((IntKind.wrap .i64 ((IntKind.wrap .i64 ((IntKind.wrap .i64 ((IntKind.wrap .i64 (v11 + 1)) + 1)) + 1)) + 1)) + 1))
          else
            bd (m_spec_indexOf v9 x13) fun x18 =>
            bif decide (x18 < 0) then
              bif decide ((v9.length : Int) < 12) then
                gd (v9.length + ([(x13, x14)] : List (ByteArray × Int)).length ≤ 1099511627776) <|
                m_spec_twoEnums_L1 p1 x3 fu (v9 ++ ([(x13, x14)] : List (ByteArray × Int))) (IntKind.wrap .i64 (v10 - 1)) (IntKind.wrap .i64 ((IntKind.wrap .i64 ((IntKind.wrap .i64 ((IntKind.wrap .i64 ((IntKind.wrap .i64 (v11 + 1)) + 1)) + 1)) + 1)) + 1))
              else
                m_spec_twoEnums_L1 p1 x3 fu v9 (IntKind.wrap .i64 (v10 - 1)) (IntKind.wrap .i64 ((IntKind.wrap .i64 ((IntKind.wrap .i64 ((IntKind.wrap .i64 ((IntKind.wrap .i64 (v11 + 1)) + 1)) + 1)) + 1)) + 1))
            else
              m_spec_twoEnums_L1 p1 x3 fu v9 (IntKind.wrap .i64 (v10 - 1)) (IntKind.wrap .i64 ((IntKind.wrap .i64 ((IntKind.wrap .i64 ((IntKind.wrap .i64 ((IntKind.wrap .i64 (v11 + 1)) + 1)) + 1)) + 1)) + 1))
      else
        bd (m_spec_indexOf v9 x13) fun x19 =>
        bif decide (x19 < 0) then
          bif decide ((v9.length : Int) < 12) then
            gd (v9.length + ([(x13, x14)] : List (ByteArray × Int)).length ≤ 1099511627776) <|
            m_spec_twoEnums_L1 p1 x3 fu (v9 ++ ([(x13, x14)] : List (ByteArray × Int))) (IntKind.wrap .i64 (v10 - 1)) (IntKind.wrap .i64 ((IntKind.wrap .i64 ((IntKind.wrap .i64 (v11 + 1)) + 1)) + 1))
          else
            m_spec_twoEnums_L1 p1 x3 fu v9 (IntKind.wrap .i64 (v10 - 1)) (IntKind.wrap .i64 ((IntKind.wrap .i64 ((IntKind.wrap .i64 (v11 + 1)) + 1)) + 1))
        else
          m_spec_twoEnums_L1 p1 x3 fu v9 (IntKind.wrap .i64 (v10 - 1)) (IntKind.wrap .i64 ((IntKind.wrap .i64 ((IntKind.wrap .i64 (v11 + 1)) + 1)) + 1))
    else
      some (v9, v11)

/-- loop.example/namedflags/spec.twoEnums -/
def m_spec_twoEnums (p1 : List (Int)) (p2 : Int) : Option ((List (ByteArray × Int)) × (List (ByteArray × Int)) × Int) :=
  bd (m_spec_someEnum p1 p2) fun x3 =>
  bd (m_spec_goodEnum p1 x3.2) fun x4 =>
  bd (m_spec_validEnum x3.1) fun x5 =>
  bif x5 then
    bd (m_spec_reader_pick 3 p1 x4.2) fun x6 =>
    bif decide (0 < x6) then
      bd (m_spec_copyDefs x3.1) fun x7 =>
      bd (m_spec_reader_pick 4 p1 (IntKind.wrap .i64 (x4.2 + 1))) fun x8 =>
      bd (m_spec_twoEnums_L1 p1 x3 FU (([] : List (ByteArray × Int)) ++ x3.1) x8 (IntKind.wrap .i64 ((IntKind.wrap .i64 (x4.2 + 1)) + 1))) fun x20 =>
      some (x3.1, x20.1, x20.2)
    else
      some (x3.1, x4.1, IntKind.wrap .i64 (x4.2 + 1))
  else
    some (x3.1, x4.1, x4.2)

/-- loop.example/namedflags/spec.DrawSameMeaning -/
def m_spec_DrawSameMeaning (p1 : List (Int)) : Option ((List (ByteArray × Int)) × (List (ByteArray × Int))) :=
  bd (m_spec_newReader p1) fun x2 =>
  bd (m_spec_twoEnums x2 0) fun x3 =>
  bd (m_spec_reader_pick 3 x2 x3.2.2) fun x4 =>
  bif decide (x4 = 0) then
    bd (m_spec_SortEnum x3.1) fun x5 =>
    some (x3.1, x5)
  else
    some (x3.1, x3.2.1)

/-- loop.example/namedflags/spec.SameMeaning -/
def m_spec_SameMeaning (p1 : List (ByteArray × Int)) (p2 : List (ByteArray × Int)) : Option (Bool) :=
  bd (m_spec_validEnum p1) fun x3 =>
  bif x3 then
    bd (m_spec_validEnum p2) fun x4 =>
    bif x4 then
      bd (m_spec_differ p1 p2) fun x5 =>
      some (decide ((x5.length : Int) = 0))
    else
      some false
  else
    some false

/-- loop.example/namedflags/laws.FnSameMeaning -/
def m_laws_FnSameMeaning (p1 : List (Int)) : Option (Bool) :=
  bif decide (1048576 < (p1.length : Int)) then
    some true
  else
    bd (m_spec_DrawSameMeaning p1) fun x2 =>
    bd (m_impl_SameMeaning x2.1 x2.2) fun x3 =>
    bd (m_spec_SameMeaning x2.1 x2.2) fun x4 =>
    bif (!(x3 == x4)) then
      bd (m_spec_SameMeaning x2.1 x2.2) fun x5 =>
      some (x3 == x5)
    else
      bd (m_impl_ValidEnum x2.1) fun x6 =>
      bif (!x6) then
        bd (m_spec_SameMeaning x2.1 x2.2) fun x7 =>
        some (x3 == x7)
      else
        bd (m_impl_ValidEnum x2.2) fun x8 =>
        bif (!x8) then
          bd (m_spec_SameMeaning x2.1 x2.2) fun x9 =>
          some (x3 == x9)
        else
          bd (m_impl_SameMeaning x2.2 x2.1) fun x10 =>
          bif (x10 == x3) then
            bd (m_impl_SortEnum x2.1) fun x11 =>
            bd (m_impl_SameMeaning x2.1 x11) fun x12 =>
            bif x12 then
              bif (!x3) then
                some true
              else
                some (decide ((x2.1.length : Int) = (x2.2.length : Int)))
            else
              some false
          else
            some false

end Go.Eng

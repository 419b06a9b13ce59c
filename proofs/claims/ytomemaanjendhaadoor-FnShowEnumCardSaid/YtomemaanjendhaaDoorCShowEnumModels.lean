/- What is said here: nothing is proved. A model of each function, printed by a program out of the translated code. -/
import Derived.Test.YtomemaanjendhaaDoorCShowEnumEng27
set_option linter.unusedVariables false
set_option linter.unusedSimpArgs false
namespace Go.Eng
open Go

def enc_i (x : Int) : List Value := [.int .i64 x]

def enc_s (x : ByteArray) : List Value := [.string x]

def enc_si (x : ByteArray × Int) : List Value := [.string x.1, .int .i64 x.2]

def enc_y (x : Int) : List Value := [.int .u8 x]

def FU : Nat := 4611686018427387904

def bstr (ns : List Int) : ByteArray := ns.foldl (fun r n => r.push (UInt8.ofNat n.toNat)) ByteArray.empty

/-- loop.example/namedflags/spec.newReader -/
def m_spec_newReader (p1 : List (Int)) : Option (List (Int)) :=
  bif decide (2000 < (p1.length : Int)) then
    gd (0 ≤ (0 : Int) ∧ (0 : Int) ≤ (2000 : Int) ∧ (2000 : Int) ≤ (p1.length : Int) ∧ (p1.length : Int) ≤ (p1.length : Int)) <|
    some (sub p1 (0 : Int) (2000 : Int))
  else
    some p1

/-- (*loop.example/namedflags/spec.reader).pick -/
def m_spec_reader_pick (p1 : Int) (p2 : List (Int)) (p3 : Int) : Option (Int) :=
  bif decide (p1 < 1) then
    some 0
  else
    bif decide ((p2.length : Int) = 0) then
      some 0
    else
      nm (decide ((IntKind.wrap .i64 ((IntKind.wrap .i64 (p3 + 1)) - 1)) < (p2.length : Int))) fun v4 =>
      bif v4 then
        gd (0 ≤ (IntKind.wrap .i64 ((IntKind.wrap .i64 (p3 + 1)) - 1)) ∧ (IntKind.wrap .i64 ((IntKind.wrap .i64 (p3 + 1)) - 1)) < (p2.length : Int)) <|
        nm ((gt p2 (IntKind.wrap .i64 ((IntKind.wrap .i64 (p3 + 1)) - 1)))) fun v5 =>
        gd (p1 ≠ 0) <|
        some (Int.tmod (IntKind.wrap .i64 (v5)) p1)
      else
        gd ((p2.length : Int) ≠ 0) <|
        nm (Int.tmod (IntKind.wrap .i64 ((IntKind.wrap .i64 (p3 + 1)) - 1)) (p2.length : Int)) fun v6 =>
        gd (0 ≤ v6 ∧ v6 < (p2.length : Int)) <|
        nm (IntKind.wrap .i64 ((IntKind.wrap .i64 ((IntKind.wrap .i64 (p3 + 1)) - 1)) * 7)) fun v7 =>
        gd (0 ≤ (Int.tmod (IntKind.wrap .i64 (v7 + 3)) (p2.length : Int)) ∧ (Int.tmod (IntKind.wrap .i64 (v7 + 3)) (p2.length : Int)) < (p2.length : Int)) <|
        nm ((gt p2 (Int.tmod (IntKind.wrap .i64 (v7 + 3)) (p2.length : Int)))) fun v8 =>
        nm (IntKind.wrap .i64 ((IntKind.wrap .i64 ((IntKind.wrap .i64 ((gt p2 v6))) * 131)) + (IntKind.wrap .i64 ((IntKind.wrap .i64 (v8)) * 1117)))) fun v9 =>
        nm (IntKind.wrap .i64 ((IntKind.wrap .i64 ((IntKind.wrap .i64 (p3 + 1)) - 1)) * 29)) fun v10 =>
        gd ((p2.length : Int) ≠ 0 ∧ IntKind.wrap .i64 (Int.tdiv (IntKind.wrap .i64 ((IntKind.wrap .i64 (p3 + 1)) - 1)) (p2.length : Int)) = Int.tdiv (IntKind.wrap .i64 ((IntKind.wrap .i64 (p3 + 1)) - 1)) (p2.length : Int)) <|
        nm (Int.tdiv (IntKind.wrap .i64 ((IntKind.wrap .i64 (p3 + 1)) - 1)) (p2.length : Int)) fun v11 =>
        nm (IntKind.wrap .i64 ((IntKind.wrap .i64 (v9 + v10)) + (IntKind.wrap .i64 (v11 * 53)))) fun v12 =>
        gd ((64 : Int) ≠ 0 ∧ IntKind.wrap .i64 (Int.tdiv v12 64) = Int.tdiv v12 64) <|
        gd (p1 ≠ 0) <|
        some (Int.tmod (Go.bits .xor .i64 v12 (Int.tdiv v12 64)) p1)

/-- (*loop.example/namedflags/spec.reader).one -/
def m_spec_reader_one (p1 : List (Int)) (p2 : List (Int)) (p3 : Int) : Option (Int) :=
  bd (m_spec_reader_pick (p1.length : Int) p2 p3) fun x4 =>
  gd (0 ≤ x4 ∧ x4 < (p1.length : Int)) <|
  some (gt p1 x4)

/-- (*loop.example/namedflags/spec.reader).of -/
def m_spec_reader_of (p1 : List (ByteArray)) (p2 : List (Int)) (p3 : Int) : Option (ByteArray) :=
  bd (m_spec_reader_pick (p1.length : Int) p2 p3) fun x4 =>
  gd (0 ≤ x4 ∧ x4 < (p1.length : Int)) <|
  some (gt p1 x4)

/-- loop.example/namedflags/spec.aName -/
def m_spec_aName (p1 : List (Int)) (p2 : Int) : Option (ByteArray) :=
  bd (m_spec_reader_of ([(ByteArray.mk #[97]), (ByteArray.mk #[98]), (ByteArray.mk #[99]), (ByteArray.mk #[100]), (ByteArray.mk #[101]), (ByteArray.mk #[97, 98]), (ByteArray.mk #[114, 101, 100]), (ByteArray.mk #[98, 108, 117, 101]), (ByteArray.mk #[111, 110]), (ByteArray.mk #[111, 102, 102]), (ByteArray.mk #[97, 108, 108]), (ByteArray.mk #[102])] : List (ByteArray)) p1 p2) fun x3 =>
  some x3

def m_spec_indexOf_L1 (p1 : List (ByteArray × Int)) (p2 : ByteArray) : Nat → Int → Option (Int ⊕ Unit)
  | 0, _ => none
  | fu + 1, v3 =>
    bif decide (v3 < (p1.length : Int)) then
      gd (0 ≤ v3 ∧ v3 < (p1.length : Int)) <|
      bif decide (((gt p1 v3).1) = p2) then
        some (Sum.inl v3)
      else
        m_spec_indexOf_L1 p1 p2 fu (IntKind.wrap .i64 (v3 + 1))
    else
      some (Sum.inr ())

/-- loop.example/namedflags/spec.indexOf -/
def m_spec_indexOf (p1 : List (ByteArray × Int)) (p2 : ByteArray) : Option (Int) :=
  bd (m_spec_indexOf_L1 p1 p2 FU 0) fun x4 =>
  sm x4 (fun x5 =>
    some x5) (fun x6 =>
    some (-1))

def m_spec_goodDefs_L1 (p1 : Int) (p2 : List (Int)) : Nat → (List (ByteArray × Int)) → Int → Int → Option ((List (ByteArray × Int)) × Int)
  | 0, _, _, _ => none
  | fu + 1, v5, v6, v7 =>
    bif decide (0 < v6) then
      bd (m_spec_aName p2 v7) fun x8 =>
      bd (m_spec_reader_pick 12 p2 (IntKind.wrap .i64 (v7 + 1))) fun x9 =>
      bd (m_spec_reader_one ([1, 2, 3, 4, 5, 0, 8, x9, (-1), 7, 1000, 16] : List (Int)) p2 (IntKind.wrap .i64 ((IntKind.wrap .i64 (v7 + 1)) + 1))) fun x10 =>
      bif decide (p1 = 4095) then
        bd (m_spec_reader_pick 64 p2 (IntKind.wrap .i64 ((IntKind.wrap .i64 ((IntKind.wrap .i64 (v7 + 1)) + 1)) + 1))) fun x11 =>
        bd (m_spec_reader_one ([1, 2, 4, 8, 3, 16, 0, 6, 7, x11, 2048, 5, 1, 2, 4] : List (Int)) p2 (IntKind.wrap .i64 ((IntKind.wrap .i64 ((IntKind.wrap .i64 ((IntKind.wrap .i64 (v7 + 1)) + 1)) + 1)) + 1))) fun x12 =>
        bd (m_spec_indexOf v5 x8) fun x13 =>
        bif decide (x13 < 0) then
          bif decide (0 ≤ x12) then
            gd (v5.length + ([(x8, x12)] : List (ByteArray × Int)).length ≤ 1099511627776) <|
            m_spec_goodDefs_L1 p1 p2 fu (v5 ++ ([(x8, x12)] : List (ByteArray × Int))) (IntKind.wrap .i64 (v6 - 1)) (IntKind.wrap .i64 ((IntKind.wrap .i64 ((IntKind.wrap .i64 ((IntKind.wrap .i64 ((IntKind.wrap .i64 (v7 + 1)) + 1)) + 1)) + 1)) + 1))
          else
            bif (!decide (p1 = 4095)) then
              gd (v5.length + ([(x8, x12)] : List (ByteArray × Int)).length ≤ 1099511627776) <|
              m_spec_goodDefs_L1 p1 p2 fu (v5 ++ ([(x8, x12)] : List (ByteArray × Int))) (IntKind.wrap .i64 (v6 - 1)) (IntKind.wrap .i64 ((IntKind.wrap .i64 ((IntKind.wrap .i64 ((IntKind.wrap .i64 ((IntKind.wrap .i64 (v7 + 1)) + 1)) + 1)) + 1)) + 1))
            else
              m_spec_goodDefs_L1 p1 p2 fu v5 (IntKind.wrap .i64 (v6 - 1)) (IntKind.wrap .i64 ((IntKind.wrap .i64 ((IntKind.wrap .i64 ((IntKind.wrap .i64 ((IntKind.wrap .i64 (v7 + 1)) + 1)) + 1)) + 1)) + 1))
        else
          m_spec_goodDefs_L1 p1 p2 fu v5 (IntKind.wrap .i64 (v6 - 1)) (IntKind.wrap .i64 ((IntKind.wrap .i64 ((IntKind.wrap .i64 ((IntKind.wrap .i64 ((IntKind.wrap .i64 (v7 + 1)) + 1)) + 1)) + 1)) + 1))
      else
        bd (m_spec_indexOf v5 x8) fun x14 =>
        bif decide (x14 < 0) then
          bif decide (0 ≤ x10) then
            gd (v5.length + ([(x8, x10)] : List (ByteArray × Int)).length ≤ 1099511627776) <|
            m_spec_goodDefs_L1 p1 p2 fu (v5 ++ ([(x8, x10)] : List (ByteArray × Int))) (IntKind.wrap .i64 (v6 - 1)) (IntKind.wrap .i64 ((IntKind.wrap .i64 ((IntKind.wrap .i64 (v7 + 1)) + 1)) + 1))
          else
            bif (!decide (p1 = 4095)) then
              gd (v5.length + ([(x8, x10)] : List (ByteArray × Int)).length ≤ 1099511627776) <|
              m_spec_goodDefs_L1 p1 p2 fu (v5 ++ ([(x8, x10)] : List (ByteArray × Int))) (IntKind.wrap .i64 (v6 - 1)) (IntKind.wrap .i64 ((IntKind.wrap .i64 ((IntKind.wrap .i64 (v7 + 1)) + 1)) + 1))
            else
              m_spec_goodDefs_L1 p1 p2 fu v5 (IntKind.wrap .i64 (v6 - 1)) (IntKind.wrap .i64 ((IntKind.wrap .i64 ((IntKind.wrap .i64 (v7 + 1)) + 1)) + 1))
        else
          m_spec_goodDefs_L1 p1 p2 fu v5 (IntKind.wrap .i64 (v6 - 1)) (IntKind.wrap .i64 ((IntKind.wrap .i64 ((IntKind.wrap .i64 (v7 + 1)) + 1)) + 1))
    else
      some (v5, v7)

/-- loop.example/namedflags/spec.goodDefs -/
def m_spec_goodDefs (p1 : Int) (p2 : List (Int)) (p3 : Int) : Option ((List (ByteArray × Int)) × Int) :=
  bd (m_spec_reader_one ([4, 3, 5, 2, 6, 1, 0, 12] : List (Int)) p2 p3) fun x4 =>
  bd (m_spec_goodDefs_L1 p1 p2 FU ([] : List (ByteArray × Int)) x4 (IntKind.wrap .i64 (p3 + 1))) fun x15 =>
  some (x15.1, x15.2)

def m_spec_valueAt_L1 (p1 : List (ByteArray × Int)) (p2 : Int) : Nat → Int → Option (Int ⊕ Unit)
  | 0, _ => none
  | fu + 1, v3 =>
    bif decide (v3 < (p1.length : Int)) then
      gd (0 ≤ v3 ∧ v3 < (p1.length : Int)) <|
      bif decide (((gt p1 v3).2) = p2) then
        some (Sum.inl v3)
      else
        m_spec_valueAt_L1 p1 p2 fu (IntKind.wrap .i64 (v3 + 1))
    else
      some (Sum.inr ())

/-- loop.example/namedflags/spec.valueAt -/
def m_spec_valueAt (p1 : List (ByteArray × Int)) (p2 : Int) : Option (Int) :=
  bd (m_spec_valueAt_L1 p1 p2 FU 0) fun x4 =>
  sm x4 (fun x5 =>
    some x5) (fun x6 =>
    some (-1))

/-- loop.example/namedflags/impl.in -/
def m_impl_in (p1 : Int) (p2 : Int) (p3 : Int) : Option (Bool) :=
  bif decide (p2 ≤ p1) then
    some (decide (p1 ≤ p3))
  else
    some false

def m_impl_ValidName_L1 (p1 : ByteArray) : Nat → Int → Option (Unit ⊕ Unit)
  | 0, _ => none
  | fu + 1, v2 =>
    bif decide (v2 < (p1.size : Int)) then
      gd (0 ≤ v2 ∧ v2 < (p1.size : Int)) <|
      bif decide ((byteAt p1 v2.toNat) < 97) then
        some (Sum.inl ())
      else
        bif decide (122 < (byteAt p1 v2.toNat)) then
          some (Sum.inl ())
        else
          m_impl_ValidName_L1 p1 fu (IntKind.wrap .i64 (v2 + 1))
    else
      some (Sum.inr ())

/-- loop.example/namedflags/impl.ValidName -/
def m_impl_ValidName (p1 : ByteArray) : Option (Bool) :=
  bd (m_impl_ValidName_L1 p1 FU 0) fun x3 =>
  sm x3 (fun x4 =>
    some false) (fun x5 =>
    bd (m_impl_in (p1.size : Int) 1 6) fun x6 =>
    some x6)

/-- loop.example/namedflags/impl.named$1 -/
def m_impl_named_1_l (p1 : ByteArray) (p2 : Int) (p3 : ByteArray) : Option (Unit) :=
  some ()

def m_slices_IndexFunc_si_named_1_l_L1 (p1 : List (ByteArray × Int)) (p2 : ByteArray) : Nat → Int → Option (Int ⊕ Unit)
  | 0, _ => none
  | fu + 1, v3 =>
    bif decide (v3 < (p1.length : Int)) then
      gd (0 ≤ v3 ∧ v3 < (p1.length : Int)) <|
      bd (m_impl_named_1_l ((gt p1 v3).1) ((gt p1 v3).2) p2) fun x4 =>
      bif decide (((gt p1 v3).1) = p2) then
        some (Sum.inl v3)
      else
        m_slices_IndexFunc_si_named_1_l_L1 p1 p2 fu (IntKind.wrap .i64 (v3 + 1))
    else
      some (Sum.inr ())

/-- slices.IndexFunc[[]loop.example/namedflags/impl.Def,loop.example/namedflags/impl.Def] -/
def m_slices_IndexFunc_si_named_1_l (p1 : List (ByteArray × Int)) (p2 : ByteArray) : Option (Int) :=
  bd (m_slices_IndexFunc_si_named_1_l_L1 p1 p2 FU 0) fun x5 =>
  sm x5 (fun x6 =>
    some x6) (fun x7 =>
    some (-1))

/-- loop.example/namedflags/impl.named -/
def m_impl_named (p1 : List (ByteArray × Int)) (p2 : ByteArray) : Option (Int) :=
  bd (m_slices_IndexFunc_si_named_1_l p1 p2) fun x3 =>
  some x3

def m_impl_defsValid_L1 (p1 : List (ByteArray × Int)) (p2 : Int) (p3 : Int) : Nat → Int → Option (Unit ⊕ Unit)
  | 0, _ => none
  | fu + 1, v4 =>
    bif decide (v4 < (p1.length : Int)) then
      gd (0 ≤ v4 ∧ v4 < (p1.length : Int)) <|
      bd (m_impl_ValidName ((gt p1 v4).1)) fun x5 =>
      bif (!x5) then
        some (Sum.inl ())
      else
        bd (m_impl_in ((gt p1 v4).2) p2 p3) fun x6 =>
        bif (!x6) then
          some (Sum.inl ())
        else
          gd (0 ≤ (0 : Int) ∧ (0 : Int) ≤ v4 ∧ v4 ≤ (p1.length : Int) ∧ (p1.length : Int) ≤ (p1.length : Int)) <|
          bd (m_impl_named (sub p1 (0 : Int) v4) ((gt p1 v4).1)) fun x7 =>
          bif decide (0 ≤ x7) then
            some (Sum.inl ())
          else
            m_impl_defsValid_L1 p1 p2 p3 fu (IntKind.wrap .i64 (v4 + 1))
    else
      some (Sum.inr ())

/-- loop.example/namedflags/impl.defsValid -/
def m_impl_defsValid (p1 : List (ByteArray × Int)) (p2 : Int) (p3 : Int) : Option (Bool) :=
  bd (m_impl_defsValid_L1 p1 p2 p3 FU 0) fun x8 =>
  sm x8 (fun x9 =>
    some false) (fun x10 =>
    some (decide ((p1.length : Int) ≤ 12)))

/-- loop.example/namedflags/spec.inRange -/
def m_spec_inRange (p1 : Int) (p2 : Int) (p3 : Int) : Option (Bool) :=
  bif decide (p2 ≤ p1) then
    some (decide (p1 ≤ p3))
  else
    some false

def m_spec_validName_L1 (p1 : ByteArray) : Nat → Int → Option (Unit ⊕ Unit)
  | 0, _ => none
  | fu + 1, v2 =>
    bif decide (v2 < (p1.size : Int)) then
      gd (0 ≤ v2 ∧ v2 < (p1.size : Int)) <|
      bif decide ((byteAt p1 v2.toNat) < 97) then
        some (Sum.inl ())
      else
        bif decide (122 < (byteAt p1 v2.toNat)) then
          some (Sum.inl ())
        else
          m_spec_validName_L1 p1 fu (IntKind.wrap .i64 (v2 + 1))
    else
      some (Sum.inr ())

/-- loop.example/namedflags/spec.validName -/
def m_spec_validName (p1 : ByteArray) : Option (Bool) :=
  bd (m_spec_validName_L1 p1 FU 0) fun x3 =>
  sm x3 (fun x4 =>
    some false) (fun x5 =>
    bd (m_spec_inRange (p1.size : Int) 1 6) fun x6 =>
    some x6)

def m_spec_validDefs_L1 (p1 : List (ByteArray × Int)) (p2 : Int) (p3 : Int) : Nat → Int → Option (Unit ⊕ Unit)
  | 0, _ => none
  | fu + 1, v4 =>
    bif decide (v4 < (p1.length : Int)) then
      gd (0 ≤ v4 ∧ v4 < (p1.length : Int)) <|
      bd (m_spec_validName ((gt p1 v4).1)) fun x5 =>
      bif (!x5) then
        some (Sum.inl ())
      else
        bd (m_spec_inRange ((gt p1 v4).2) p2 p3) fun x6 =>
        bif (!x6) then
          some (Sum.inl ())
        else
          gd (0 ≤ (0 : Int) ∧ (0 : Int) ≤ v4 ∧ v4 ≤ (p1.length : Int) ∧ (p1.length : Int) ≤ (p1.length : Int)) <|
          bd (m_spec_indexOf (sub p1 (0 : Int) v4) ((gt p1 v4).1)) fun x7 =>
          bif decide (0 ≤ x7) then
            some (Sum.inl ())
          else
            m_spec_validDefs_L1 p1 p2 p3 fu (IntKind.wrap .i64 (v4 + 1))
    else
      some (Sum.inr ())

/-- loop.example/namedflags/spec.validDefs -/
def m_spec_validDefs (p1 : List (ByteArray × Int)) (p2 : Int) (p3 : Int) : Option (Bool) :=
  bd (m_spec_validDefs_L1 p1 p2 p3 FU 0) fun x8 =>
  sm x8 (fun x9 =>
    some false) (fun x10 =>
    some (decide ((p1.length : Int) ≤ 12)))

/-- loop.example/namedflags/spec.goodEnum -/
def m_spec_goodEnum (p1 : List (Int)) (p2 : Int) : Option ((List (ByteArray × Int)) × Int) :=
  bd (m_spec_goodDefs 1000 p1 p2) fun x3 =>
  some (x3.1, x3.2)

/-- loop.example/namedflags/spec.someEnum -/
def m_spec_someEnum (p1 : List (Int)) (p2 : Int) : Option ((List (ByteArray × Int)) × Int) :=
  bd (m_spec_goodEnum p1 p2) fun x3 =>
  bif decide (0 < (x3.1.length : Int)) then
    bd (m_spec_reader_pick (x3.1.length : Int) p1 x3.2) fun x4 =>
    bd (m_spec_reader_pick 24 p1 (IntKind.wrap .i64 (x3.2 + 1))) fun x5 =>
    bif decide (x5 = 0) then
      bd (m_spec_reader_of ([ByteArray.empty, (ByteArray.mk #[65]), (ByteArray.mk #[116, 111, 111, 108, 111, 110, 103])] : List (ByteArray)) p1 (IntKind.wrap .i64 ((IntKind.wrap .i64 (x3.2 + 1)) + 1))) fun x6 =>
      gd (0 ≤ x4 ∧ x4 < (x3.1.length : Int)) <|
      some (x3.1.set (0 + x4.toNat) (x6, (gt x3.1 x4).2), IntKind.wrap .i64 ((IntKind.wrap .i64 ((IntKind.wrap .i64 (x3.2 + 1)) + 1)) + 1))
    else
      bif decide (x5 = 1) then
        bd (m_spec_reader_one ([1001, (-1001)] : List (Int)) p1 (IntKind.wrap .i64 ((IntKind.wrap .i64 (x3.2 + 1)) + 1))) fun x7 =>
        gd (0 ≤ x4 ∧ x4 < (x3.1.length : Int)) <|
        some (x3.1.set (0 + x4.toNat) ((gt x3.1 x4).1, x7), IntKind.wrap .i64 ((IntKind.wrap .i64 ((IntKind.wrap .i64 (x3.2 + 1)) + 1)) + 1))
      else
        bif decide (x5 = 2) then
          gd (0 ≤ x4 ∧ x4 < (x3.1.length : Int)) <|
          gd (x3.1.length + ([((gt x3.1 x4).1, (gt x3.1 x4).2)] : List (ByteArray × Int)).length ≤ 1099511627776) <|
          some (x3.1 ++ ([((gt x3.1 x4).1, (gt x3.1 x4).2)] : List (ByteArray × Int)), IntKind.wrap .i64 ((IntKind.wrap .i64 (x3.2 + 1)) + 1))
        else
          bif decide (x5 = 3) then
            gd (0 ≤ (13 : Int) ∧ (13 : Int) ≤ 1099511627776) <|
            gd (x3.1.length + (List.replicate (13 : Int).toNat ((ByteArray.empty, 0) : ByteArray × Int)).length ≤ 1099511627776) <|
            some (x3.1 ++ (List.replicate (13 : Int).toNat ((ByteArray.empty, 0) : ByteArray × Int)), IntKind.wrap .i64 ((IntKind.wrap .i64 (x3.2 + 1)) + 1))
          else
            some (x3.1, IntKind.wrap .i64 ((IntKind.wrap .i64 (x3.2 + 1)) + 1))
  else
    some (x3.1, x3.2)

/-- loop.example/namedflags/impl.ValidEnum -/
def m_impl_ValidEnum (p1 : List (ByteArray × Int)) : Option (Bool) :=
  bd (m_impl_defsValid p1 (-1000) 1000) fun x2 =>
  some x2

/-- loop.example/namedflags/impl.ValueOf -/
def m_impl_ValueOf (p1 : List (ByteArray × Int)) (p2 : ByteArray) : Option (Int × Bool) :=
  bd (m_impl_named p1 p2) fun x3 =>
  bd (m_impl_ValidEnum p1) fun x4 =>
  bif (!x4) then
    some (0, false)
  else
    bif decide (x3 < 0) then
      some (0, false)
    else
      gd (0 ≤ x3 ∧ x3 < (p1.length : Int)) <|
      some ((gt p1 x3).2, true)

/-- loop.example/namedflags/impl.valued$1 -/
def m_impl_valued_1_l (p1 : ByteArray) (p2 : Int) (p3 : Int) : Option (Unit) :=
  some ()

def m_slices_IndexFunc_si_valued_1_l_L1 (p1 : List (ByteArray × Int)) (p2 : Int) : Nat → Int → Option (Int ⊕ Unit)
  | 0, _ => none
  | fu + 1, v3 =>
    bif decide (v3 < (p1.length : Int)) then
      gd (0 ≤ v3 ∧ v3 < (p1.length : Int)) <|
      bd (m_impl_valued_1_l ((gt p1 v3).1) ((gt p1 v3).2) p2) fun x4 =>
      bif decide (((gt p1 v3).2) = p2) then
        some (Sum.inl v3)
      else
        m_slices_IndexFunc_si_valued_1_l_L1 p1 p2 fu (IntKind.wrap .i64 (v3 + 1))
    else
      some (Sum.inr ())

/-- slices.IndexFunc[[]loop.example/namedflags/impl.Def,loop.example/namedflags/impl.Def] -/
def m_slices_IndexFunc_si_valued_1_l (p1 : List (ByteArray × Int)) (p2 : Int) : Option (Int) :=
  bd (m_slices_IndexFunc_si_valued_1_l_L1 p1 p2 FU 0) fun x5 =>
  sm x5 (fun x6 =>
    some x6) (fun x7 =>
    some (-1))

/-- loop.example/namedflags/impl.valued -/
def m_impl_valued (p1 : List (ByteArray × Int)) (p2 : Int) : Option (Int) :=
  bd (m_slices_IndexFunc_si_valued_1_l p1 p2) fun x3 =>
  some x3

/-- loop.example/namedflags/spec.validEnum -/
def m_spec_validEnum (p1 : List (ByteArray × Int)) : Option (Bool) :=
  bd (m_spec_validDefs p1 (-1000) 1000) fun x2 =>
  some x2

/-- strconv.Itoa -/
def m_strconv_Itoa (p1 : Int) : Option (ByteArray) :=
  gd (-9223372036854775808 ≤ p1 ∧ p1 ≤ 9223372036854775807) <|
  some ⟨(Lib.itoa p1).toArray⟩

/-- loop.example/namedflags/spec.number -/
def m_spec_number : Nat → (Int) → Option (ByteArray)
  | 0, _ => none
  | fu + 1, p1 =>
    bif decide (p1 < 10) then
      gd (0 ≤ p1 ∧ p1 ≤ (IntKind.wrap .i64 (p1 + 1)) ∧ (IntKind.wrap .i64 (p1 + 1)) ≤ ((ByteArray.mk #[48, 49, 50, 51, 52, 53, 54, 55, 56, 57]).size : Int)) <|
      nm ((ByteArray.mk #[48, 49, 50, 51, 52, 53, 54, 55, 56, 57]).extract p1.toNat (IntKind.wrap .i64 (p1 + 1)).toNat) fun v2 =>
      some v2
    else
      gd ((10 : Int) ≠ 0 ∧ IntKind.wrap .i64 (Int.tdiv p1 10) = Int.tdiv p1 10) <|
      bd (m_spec_number fu (Int.tdiv p1 10)) fun x3 =>
      gd ((10 : Int) ≠ 0) <|
      bd (m_spec_number fu (Int.tmod p1 10)) fun x4 =>
      gd (x3.size + x4.size ≤ 9223372036854775807) <|
      some (x3 ++ x4)

/-- loop.example/namedflags/spec.ShowEnum -/
def m_spec_ShowEnum (p1 : List (ByteArray × Int)) (p2 : Int) : Option (ByteArray) :=
  bd (m_spec_validEnum p1) fun x3 =>
  bif (!x3) then
    some ByteArray.empty
  else
    bd (m_spec_inRange p2 (-1000) 1000) fun x4 =>
    bif (!x4) then
      some ByteArray.empty
    else
      bd (m_spec_valueAt p1 p2) fun x5 =>
      bif decide (0 ≤ x5) then
        gd (0 ≤ x5 ∧ x5 < (p1.length : Int)) <|
        some ((gt p1 x5).1)
      else
        bif decide (p2 < 0) then
          bd (m_spec_number FU (IntKind.wrap .i64 (0 - p2))) fun x6 =>
          gd ((ByteArray.mk #[45]).size + x6.size ≤ 9223372036854775807) <|
          some ((ByteArray.mk #[45]) ++ x6)
        else
          bd (m_spec_number FU p2) fun x7 =>
          some x7

/-- loop.example/namedflags/impl.NameOf -/
def m_impl_NameOf (p1 : List (ByteArray × Int)) (p2 : Int) : Option (ByteArray × Bool) :=
  bd (m_impl_valued p1 p2) fun x3 =>
  bd (m_impl_ValidEnum p1) fun x4 =>
  bif (!x4) then
    some (ByteArray.empty, false)
  else
    bif decide (x3 < 0) then
      some (ByteArray.empty, false)
    else
      gd (0 ≤ x3 ∧ x3 < (p1.length : Int)) <|
      some ((gt p1 x3).1, true)

/-- loop.example/namedflags/impl.ShowEnum -/
def m_impl_ShowEnum (p1 : List (ByteArray × Int)) (p2 : Int) : Option (ByteArray) :=
  bd (m_impl_ValidEnum p1) fun x3 =>
  bif (!x3) then
    some ByteArray.empty
  else
    bd (m_impl_in p2 (-1000) 1000) fun x4 =>
    bif (!x4) then
      some ByteArray.empty
    else
      bd (m_impl_NameOf p1 p2) fun x5 =>
      bif x5.2 then
        some x5.1
      else
        bd (m_strconv_Itoa p2) fun x6 =>
        some x6

/-- loop.example/namedflags/spec.DrawShowEnum -/
def m_spec_DrawShowEnum (p1 : List (Int)) : Option ((List (ByteArray × Int)) × Int) :=
  bd (m_spec_newReader p1) fun x2 =>
  bd (m_spec_someEnum x2 0) fun x3 =>
  bif decide (0 < (x3.1.length : Int)) then
    bd (m_spec_reader_pick 2 x2 x3.2) fun x4 =>
    bif decide (x4 = 0) then
      bd (m_spec_reader_pick (x3.1.length : Int) x2 (IntKind.wrap .i64 (x3.2 + 1))) fun x5 =>
      gd (0 ≤ x5 ∧ x5 < (x3.1.length : Int)) <|
      some (x3.1, (gt x3.1 x5).2)
    else
      bd (m_spec_reader_one ([9, (-9), 0, 1000, (-1000), 1001, (-1001)] : List (Int)) x2 (IntKind.wrap .i64 (x3.2 + 1))) fun x6 =>
      some (x3.1, x6)
  else
    bd (m_spec_reader_one ([9, (-9), 0, 1000, (-1000), 1001, (-1001)] : List (Int)) x2 x3.2) fun x7 =>
    some (x3.1, x7)

/-- loop.example/namedflags/laws.FnShowEnum -/
def m_laws_FnShowEnum (p1 : List (Int)) : Option (Bool) :=
  bif decide (1048576 < (p1.length : Int)) then
    some true
  else
    bd (m_spec_DrawShowEnum p1) fun x2 =>
    bd (m_impl_ShowEnum x2.1 x2.2) fun x3 =>
    bd (m_spec_ShowEnum x2.1 x2.2) fun x4 =>
    bif (!decide (x3 = x4)) then
      bd (m_spec_ShowEnum x2.1 x2.2) fun x5 =>
      some (decide (x3 = x5))
    else
      bif decide (x3 = ByteArray.empty) then
        bd (m_spec_ShowEnum x2.1 x2.2) fun x6 =>
        some (decide (x3 = x6))
      else
        bd (m_impl_NameOf x2.1 x2.2) fun x7 =>
        bd (m_impl_ValueOf x2.1 x3) fun x8 =>
        bif x7.2 then
          bif decide (x3 = x7.1) then
            some true
          else
            some false
        else
          some (!x8.2)

/-- loop.example/namedflags/spec.signedText -/
def m_spec_signedText (p1 : Int) : Option (ByteArray) :=
  bif decide (p1 < 0) then
    bd (m_spec_number FU (IntKind.wrap .i64 (0 - p1))) fun x2 =>
    gd ((ByteArray.mk #[45]).size + x2.size ≤ 9223372036854775807) <|
    some ((ByteArray.mk #[45]) ++ x2)
  else
    bd (m_spec_number FU p1) fun x3 =>
    some x3

end Go.Eng

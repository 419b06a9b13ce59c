/- What is said here: nothing is proved. A model of each function, printed by a program out of the translated code. -/
import Derived.Test.YteednpcbfencoaaCApplyChangesEng27
set_option linter.unusedVariables false
set_option linter.unusedSimpArgs false
namespace Go.Eng
open Go

def enc_i (x : Int) : List Value := [.int .i64 x]

def enc_isii (x : Int × ByteArray × Int × Int) : List Value := [.int .i64 x.1, .string x.2.1, .int .i64 x.2.2.1, .int .i64 x.2.2.2]

def enc_s (x : ByteArray) : List Value := [.string x]

def enc_si (x : ByteArray × Int) : List Value := [.string x.1, .int .i64 x.2]

def enc_y (x : Int) : List Value := [.int .u8 x]

def FU : Nat := 4611686018427387904

def bstr (ns : List Int) : ByteArray := ns.foldl (fun r n => r.push (UInt8.ofNat n.toNat)) ByteArray.empty

/-- loop.example/namedflags/spec.newReader -/
def m_spec_newReader (p1 : List (Int)) : Option (List (Int)) :=
  bif decide (2000 < (p1.length : Int)) then
    gd (0 ≤ (0 : Int) ∧ (0 : Int) ≤ (2000 : Int) ∧ (2000 : Int) ≤ (p1.length : Int) ∧ (p1.length : Int) ≤ (p1.length : Int)) <|
    some (sub p1 (0 : Int) (2000 : Int))
  else
    some p1

/-- (*loop.example/namedflags/spec.reader).pick -/
def m_spec_reader_pick (p1 : Int) (p2 : List (Int)) (p3 : Int) : Option (Int) :=
  bif decide (p1 < 1) then
    some 0
  else
    bif decide ((p2.length : Int) = 0) then
      some 0
    else
      nm (decide ((IntKind.wrap .i64 ((IntKind.wrap .i64 (p3 + 1)) - 1)) < (p2.length : Int))) fun v4 =>
      bif v4 then
        gd (0 ≤ (IntKind.wrap .i64 ((IntKind.wrap .i64 (p3 + 1)) - 1)) ∧ (IntKind.wrap .i64 ((IntKind.wrap .i64 (p3 + 1)) - 1)) < (p2.length : Int)) <|
        nm ((gt p2 (IntKind.wrap .i64 ((IntKind.wrap .i64 (p3 + 1)) - 1)))) fun v5 =>
        gd (p1 ≠ 0) <|
        some (Int.tmod (IntKind.wrap .i64 (v5)) p1)
      else
        gd ((p2.length : Int) ≠ 0) <|
        nm (Int.tmod (IntKind.wrap .i64 ((IntKind.wrap .i64 (p3 + 1)) - 1)) (p2.length : Int)) fun v6 =>
        gd (0 ≤ v6 ∧ v6 < (p2.length : Int)) <|
        nm (IntKind.wrap .i64 ((IntKind.wrap .i64 ((IntKind.wrap .i64 (p3 + 1)) - 1)) * 7)) fun v7 =>
        gd (0 ≤ (Int.tmod (IntKind.wrap .i64 (v7 + 3)) (p2.length : Int)) ∧ (Int.tmod (IntKind.wrap .i64 (v7 + 3)) (p2.length : Int)) < (p2.length : Int)) <|
        nm ((gt p2 (Int.tmod (IntKind.wrap .i64 (v7 + 3)) (p2.length : Int)))) fun v8 =>
        nm (IntKind.wrap .i64 ((IntKind.wrap .i64 ((IntKind.wrap .i64 ((gt p2 v6))) * 131)) + (IntKind.wrap .i64 ((IntKind.wrap .i64 (v8)) * 1117)))) fun v9 =>
        nm (IntKind.wrap .i64 ((IntKind.wrap .i64 ((IntKind.wrap .i64 (p3 + 1)) - 1)) * 29)) fun v10 =>
        gd ((p2.length : Int) ≠ 0 ∧ IntKind.wrap .i64 (Int.tdiv (IntKind.wrap .i64 ((IntKind.wrap .i64 (p3 + 1)) - 1)) (p2.length : Int)) = Int.tdiv (IntKind.wrap .i64 ((IntKind.wrap .i64 (p3 + 1)) - 1)) (p2.length : Int)) <|
        nm (Int.tdiv (IntKind.wrap .i64 ((IntKind.wrap .i64 (p3 + 1)) - 1)) (p2.length : Int)) fun v11 =>
        nm (IntKind.wrap .i64 ((IntKind.wrap .i64 (v9 + v10)) + (IntKind.wrap .i64 (v11 * 53)))) fun v12 =>
        gd ((64 : Int) ≠ 0 ∧ IntKind.wrap .i64 (Int.tdiv v12 64) = Int.tdiv v12 64) <|
        gd (p1 ≠ 0) <|
        some (Int.tmod (Go.bits .xor .i64 v12 (Int.tdiv v12 64)) p1)

/-- (*loop.example/namedflags/spec.reader).one -/
def m_spec_reader_one (p1 : List (Int)) (p2 : List (Int)) (p3 : Int) : Option (Int) :=
  bd (m_spec_reader_pick (p1.length : Int) p2 p3) fun x4 =>
  gd (0 ≤ x4 ∧ x4 < (p1.length : Int)) <|
  some (gt p1 x4)

/-- (*loop.example/namedflags/spec.reader).of -/
def m_spec_reader_of (p1 : List (ByteArray)) (p2 : List (Int)) (p3 : Int) : Option (ByteArray) :=
  bd (m_spec_reader_pick (p1.length : Int) p2 p3) fun x4 =>
  gd (0 ≤ x4 ∧ x4 < (p1.length : Int)) <|
  some (gt p1 x4)

/-- loop.example/namedflags/spec.aName -/
def m_spec_aName (p1 : List (Int)) (p2 : Int) : Option (ByteArray) :=
  bd (m_spec_reader_of ([(ByteArray.mk #[97]), (ByteArray.mk #[98]), (ByteArray.mk #[99]), (ByteArray.mk #[100]), (ByteArray.mk #[101]), (ByteArray.mk #[97, 98]), (ByteArray.mk #[114, 101, 100]), (ByteArray.mk #[98, 108, 117, 101]), (ByteArray.mk #[111, 110]), (ByteArray.mk #[111, 102, 102]), (ByteArray.mk #[97, 108, 108]), (ByteArray.mk #[102])] : List (ByteArray)) p1 p2) fun x3 =>
  some x3

def m_spec_indexOf_L1 (p1 : List (ByteArray × Int)) (p2 : ByteArray) : Nat → Int → Option (Int ⊕ Unit)
  | 0, _ => none
  | fu + 1, v3 =>
    bif decide (v3 < (p1.length : Int)) then
      gd (0 ≤ v3 ∧ v3 < (p1.length : Int)) <|
      bif decide (((gt p1 v3).1) = p2) then
        some (Sum.inl v3)
      else
        m_spec_indexOf_L1 p1 p2 fu (IntKind.wrap .i64 (v3 + 1))
    else
      some (Sum.inr ())

/-- loop.example/namedflags/spec.indexOf -/
def m_spec_indexOf (p1 : List (ByteArray × Int)) (p2 : ByteArray) : Option (Int) :=
  bd (m_spec_indexOf_L1 p1 p2 FU 0) fun x4 =>
  sm x4 (fun x5 =>
    some x5) (fun x6 =>
    some (-1))

def m_spec_goodDefs_L1 (p1 : Int) (p2 : List (Int)) : Nat → (List (ByteArray × Int)) → Int → Int → Option ((List (ByteArray × Int)) × Int)
  | 0, _, _, _ => none
  | fu + 1, v5, v6, v7 =>
    bif decide (0 < v6) then
      bd (m_spec_aName p2 v7) fun x8 =>
      bd (m_spec_reader_pick 12 p2 (IntKind.wrap .i64 (v7 + 1))) fun x9 =>
      bd (m_spec_reader_one ([1, 2, 3, 4, 5, 0, 8, x9, (-1), 7, 1000, 16] : List (Int)) p2 (IntKind.wrap .i64 ((IntKind.wrap .i64 (v7 + 1)) + 1))) fun x10 =>
      bif decide (p1 = 4095) then
        bd (m_spec_reader_pick 64 p2 (IntKind.wrap .i64 ((IntKind.wrap .i64 ((IntKind.wrap .i64 (v7 + 1)) + 1)) + 1))) fun x11 =>
        bd (m_spec_reader_one ([1, 2, 4, 8, 3, 16, 0, 6, 7, x11, 2048, 5, 1, 2, 4] : List (Int)) p2 (IntKind.wrap .i64 ((IntKind.wrap .i64 ((IntKind.wrap .i64 ((IntKind.wrap .i64 (v7 + 1)) + 1)) + 1)) + 1))) fun x12 =>
        bd (m_spec_indexOf v5 x8) fun x13 =>
        bif decide (x13 < 0) then
          bif decide (0 ≤ x12) then
            gd (v5.length + ([(x8, x12)] : List (ByteArray × Int)).length ≤ 1099511627776) <|
            m_spec_goodDefs_L1 p1 p2 fu (v5 ++ ([(x8, x12)] : List (ByteArray × Int))) (IntKind.wrap .i64 (v6 - 1)) (IntKind.wrap .i64 ((IntKind.wrap .i64 ((IntKind.wrap .i64 ((IntKind.wrap .i64 ((IntKind.wrap .i64 (v7 + 1)) + 1)) + 1)) + 1)) + 1))
          else
            bif (!decide (p1 = 4095)) then
              gd (v5.length + ([(x8, x12)] : List (ByteArray × Int)).length ≤ 1099511627776) <|
              m_spec_goodDefs_L1 p1 p2 fu (v5 ++ ([(x8, x12)] : List (ByteArray × Int))) (IntKind.wrap .i64 (v6 - 1)) (IntKind.wrap .i64 ((IntKind.wrap .i64 ((IntKind.wrap .i64 ((IntKind.wrap .i64 ((IntKind.wrap .i64 (v7 + 1)) + 1)) + 1)) + 1)) + 1))
            else
              m_spec_goodDefs_L1 p1 p2 fu v5 (IntKind.wrap .i64 (v6 - 1)) (IntKind.wrap .i64 ((IntKind.wrap .i64 ((IntKind.wrap .i64 ((IntKind.wrap .i64 ((IntKind.wrap .i64 (v7 + 1)) + 1)) + 1)) + 1)) + 1))
        else
          m_spec_goodDefs_L1 p1 p2 fu v5 (IntKind.wrap .i64 (v6 - 1)) (IntKind.wrap .i64 ((IntKind.wrap .i64 ((IntKind.wrap .i64 ((IntKind.wrap .i64 ((IntKind.wrap .i64 (v7 + 1)) + 1)) + 1)) + 1)) + 1))
      else
        bd (m_spec_indexOf v5 x8) fun x14 =>
        bif decide (x14 < 0) then
          bif decide (0 ≤ x10) then
            gd (v5.length + ([(x8, x10)] : List (ByteArray × Int)).length ≤ 1099511627776) <|
            m_spec_goodDefs_L1 p1 p2 fu (v5 ++ ([(x8, x10)] : List (ByteArray × Int))) (IntKind.wrap .i64 (v6 - 1)) (IntKind.wrap .i64 ((IntKind.wrap .i64 ((IntKind.wrap .i64 (v7 + 1)) + 1)) + 1))
          else
            bif (!decide (p1 = 4095)) then
              gd (v5.length + ([(x8, x10)] : List (ByteArray × Int)).length ≤ 1099511627776) <|
              m_spec_goodDefs_L1 p1 p2 fu (v5 ++ ([(x8, x10)] : List (ByteArray × Int))) (IntKind.wrap .i64 (v6 - 1)) (IntKind.wrap .i64 ((IntKind.wrap .i64 ((IntKind.wrap .i64 (v7 + 1)) + 1)) + 1))
            else
              m_spec_goodDefs_L1 p1 p2 fu v5 (IntKind.wrap .i64 (v6 - 1)) (IntKind.wrap .i64 ((IntKind.wrap .i64 ((IntKind.wrap .i64 (v7 + 1)) + 1)) + 1))
        else
          m_spec_goodDefs_L1 p1 p2 fu v5 (IntKind.wrap .i64 (v6 - 1)) (IntKind.wrap .i64 ((IntKind.wrap .i64 ((IntKind.wrap .i64 (v7 + 1)) + 1)) + 1))
    else
      some (v5, v7)

/-- loop.example/namedflags/spec.goodDefs -/
def m_spec_goodDefs (p1 : Int) (p2 : List (Int)) (p3 : Int) : Option ((List (ByteArray × Int)) × Int) :=
  bd (m_spec_reader_one ([4, 3, 5, 2, 6, 1, 0, 12] : List (Int)) p2 p3) fun x4 =>
  bd (m_spec_goodDefs_L1 p1 p2 FU ([] : List (ByteArray × Int)) x4 (IntKind.wrap .i64 (p3 + 1))) fun x15 =>
  some (x15.1, x15.2)

/-- loop.example/namedflags/impl.in -/
def m_impl_in (p1 : Int) (p2 : Int) (p3 : Int) : Option (Bool) :=
  bif decide (p2 ≤ p1) then
    some (decide (p1 ≤ p3))
  else
    some false

def m_impl_ValidName_L1 (p1 : ByteArray) : Nat → Int → Option (Unit ⊕ Unit)
  | 0, _ => none
  | fu + 1, v2 =>
    bif decide (v2 < (p1.size : Int)) then
      gd (0 ≤ v2 ∧ v2 < (p1.size : Int)) <|
      bif decide ((byteAt p1 v2.toNat) < 97) then
        some (Sum.inl ())
      else
        bif decide (122 < (byteAt p1 v2.toNat)) then
          some (Sum.inl ())
        else
          m_impl_ValidName_L1 p1 fu (IntKind.wrap .i64 (v2 + 1))
    else
      some (Sum.inr ())

/-- loop.example/namedflags/impl.ValidName -/
def m_impl_ValidName (p1 : ByteArray) : Option (Bool) :=
  bd (m_impl_ValidName_L1 p1 FU 0) fun x3 =>
  sm x3 (fun x4 =>
    some false) (fun x5 =>
    bd (m_impl_in (p1.size : Int) 1 6) fun x6 =>
    some x6)

/-- loop.example/namedflags/impl.named$1 -/
def m_impl_named_1_l (p1 : ByteArray) (p2 : Int) (p3 : ByteArray) : Option (Unit) :=
  some ()

def m_slices_IndexFunc_si_named_1_l_L1 (p1 : List (ByteArray × Int)) (p2 : ByteArray) : Nat → Int → Option (Int ⊕ Unit)
  | 0, _ => none
  | fu + 1, v3 =>
    bif decide (v3 < (p1.length : Int)) then
      gd (0 ≤ v3 ∧ v3 < (p1.length : Int)) <|
      bd (m_impl_named_1_l ((gt p1 v3).1) ((gt p1 v3).2) p2) fun x4 =>
      bif decide (((gt p1 v3).1) = p2) then
        some (Sum.inl v3)
      else
        m_slices_IndexFunc_si_named_1_l_L1 p1 p2 fu (IntKind.wrap .i64 (v3 + 1))
    else
      some (Sum.inr ())

/-- slices.IndexFunc[[]loop.example/namedflags/impl.Def,loop.example/namedflags/impl.Def] -/
def m_slices_IndexFunc_si_named_1_l (p1 : List (ByteArray × Int)) (p2 : ByteArray) : Option (Int) :=
  bd (m_slices_IndexFunc_si_named_1_l_L1 p1 p2 FU 0) fun x5 =>
  sm x5 (fun x6 =>
    some x6) (fun x7 =>
    some (-1))

/-- loop.example/namedflags/impl.named -/
def m_impl_named (p1 : List (ByteArray × Int)) (p2 : ByteArray) : Option (Int) :=
  bd (m_slices_IndexFunc_si_named_1_l p1 p2) fun x3 =>
  some x3

def m_impl_defsValid_L1 (p1 : List (ByteArray × Int)) (p2 : Int) (p3 : Int) : Nat → Int → Option (Unit ⊕ Unit)
  | 0, _ => none
  | fu + 1, v4 =>
    bif decide (v4 < (p1.length : Int)) then
      gd (0 ≤ v4 ∧ v4 < (p1.length : Int)) <|
      bd (m_impl_ValidName ((gt p1 v4).1)) fun x5 =>
      bif (!x5) then
        some (Sum.inl ())
      else
        bd (m_impl_in ((gt p1 v4).2) p2 p3) fun x6 =>
        bif (!x6) then
          some (Sum.inl ())
        else
          gd (0 ≤ (0 : Int) ∧ (0 : Int) ≤ v4 ∧ v4 ≤ (p1.length : Int) ∧ (p1.length : Int) ≤ (p1.length : Int)) <|
          bd (m_impl_named (sub p1 (0 : Int) v4) ((gt p1 v4).1)) fun x7 =>
          bif decide (0 ≤ x7) then
            some (Sum.inl ())
          else
            m_impl_defsValid_L1 p1 p2 p3 fu (IntKind.wrap .i64 (v4 + 1))
    else
      some (Sum.inr ())

/-- loop.example/namedflags/impl.defsValid -/
def m_impl_defsValid (p1 : List (ByteArray × Int)) (p2 : Int) (p3 : Int) : Option (Bool) :=
  bd (m_impl_defsValid_L1 p1 p2 p3 FU 0) fun x8 =>
  sm x8 (fun x9 =>
    some false) (fun x10 =>
    some (decide ((p1.length : Int) ≤ 12)))

/-- loop.example/namedflags/spec.inRange -/
def m_spec_inRange (p1 : Int) (p2 : Int) (p3 : Int) : Option (Bool) :=
  bif decide (p2 ≤ p1) then
    some (decide (p1 ≤ p3))
  else
    some false

def m_spec_validName_L1 (p1 : ByteArray) : Nat → Int → Option (Unit ⊕ Unit)
  | 0, _ => none
  | fu + 1, v2 =>
    bif decide (v2 < (p1.size : Int)) then
      gd (0 ≤ v2 ∧ v2 < (p1.size : Int)) <|
      bif decide ((byteAt p1 v2.toNat) < 97) then
        some (Sum.inl ())
      else
        bif decide (122 < (byteAt p1 v2.toNat)) then
          some (Sum.inl ())
        else
          m_spec_validName_L1 p1 fu (IntKind.wrap .i64 (v2 + 1))
    else
      some (Sum.inr ())

/-- loop.example/namedflags/spec.validName -/
def m_spec_validName (p1 : ByteArray) : Option (Bool) :=
  bd (m_spec_validName_L1 p1 FU 0) fun x3 =>
  sm x3 (fun x4 =>
    some false) (fun x5 =>
    bd (m_spec_inRange (p1.size : Int) 1 6) fun x6 =>
    some x6)

def m_spec_validDefs_L1 (p1 : List (ByteArray × Int)) (p2 : Int) (p3 : Int) : Nat → Int → Option (Unit ⊕ Unit)
  | 0, _ => none
  | fu + 1, v4 =>
    bif decide (v4 < (p1.length : Int)) then
      gd (0 ≤ v4 ∧ v4 < (p1.length : Int)) <|
      bd (m_spec_validName ((gt p1 v4).1)) fun x5 =>
      bif (!x5) then
        some (Sum.inl ())
      else
        bd (m_spec_inRange ((gt p1 v4).2) p2 p3) fun x6 =>
        bif (!x6) then
          some (Sum.inl ())
        else
          gd (0 ≤ (0 : Int) ∧ (0 : Int) ≤ v4 ∧ v4 ≤ (p1.length : Int) ∧ (p1.length : Int) ≤ (p1.length : Int)) <|
          bd (m_spec_indexOf (sub p1 (0 : Int) v4) ((gt p1 v4).1)) fun x7 =>
          bif decide (0 ≤ x7) then
            some (Sum.inl ())
          else
            m_spec_validDefs_L1 p1 p2 p3 fu (IntKind.wrap .i64 (v4 + 1))
    else
      some (Sum.inr ())

/-- loop.example/namedflags/spec.validDefs -/
def m_spec_validDefs (p1 : List (ByteArray × Int)) (p2 : Int) (p3 : Int) : Option (Bool) :=
  bd (m_spec_validDefs_L1 p1 p2 p3 FU 0) fun x8 =>
  sm x8 (fun x9 =>
    some false) (fun x10 =>
    some (decide ((p1.length : Int) ≤ 12)))

/-- slices.Clip[[]loop.example/namedflags/impl.Def,loop.example/namedflags/impl.Def] -/
def m_slices_Clip_si (p1 : List (ByteArray × Int)) : Option (Unit) :=
  gd (0 ≤ (0 : Int) ∧ (0 : Int) ≤ (p1.length : Int) ∧ (p1.length : Int) ≤ (p1.length : Int) ∧ (p1.length : Int) ≤ (p1.length : Int)) <|
  some ()

/-- slices.Clip[[]loop.example/namedflags/impl.Def,loop.example/namedflags/impl.Def] -/
def m_slices_Clip_hsi (p1 : List (ByteArray × Int)) : Option (Unit) :=
  some ()

/-- slices.Clone[[]loop.example/namedflags/impl.Def,loop.example/namedflags/impl.Def] -/
def m_slices_Clone_si (p1 : List (ByteArray × Int)) : Option (List (ByteArray × Int)) :=
  gd (p1.length ≤ 1099511627776) <|
  some p1

/-- loop.example/namedflags/impl.clone[loop.example/namedflags/impl.Def] -/
def m_impl_clone_si (p1 : List (ByteArray × Int)) : Option (List (ByteArray × Int)) :=
  bd (m_slices_Clone_si p1) fun x2 =>
  bd (m_slices_Clip_hsi x2) fun x3 =>
  some x2

def m_laws_equalDefs_L1 (p1 : List (ByteArray × Int)) (p2 : List (ByteArray × Int)) : Nat → Int → Option (Unit ⊕ Unit)
  | 0, _ => none
  | fu + 1, v3 =>
    bif decide (v3 < (p1.length : Int)) then
      gd (0 ≤ v3 ∧ v3 < (p1.length : Int)) <|
      gd (0 ≤ v3 ∧ v3 < (p2.length : Int)) <|
      nm ((!(decide (((gt p1 v3).1) = ((gt p2 v3).1)) && (decide (((gt p1 v3).2) = ((gt p2 v3).2)) && true)))) fun v4 =>
      bif v4 then
        some (Sum.inl ())
      else
        m_laws_equalDefs_L1 p1 p2 fu (IntKind.wrap .i64 (v3 + 1))
    else
      some (Sum.inr ())

/-- loop.example/namedflags/laws.equalDefs -/
def m_laws_equalDefs (p1 : List (ByteArray × Int)) (p2 : List (ByteArray × Int)) : Option (Bool) :=
  bif (!decide ((p1.length : Int) = (p2.length : Int))) then
    some false
  else
    bd (m_laws_equalDefs_L1 p1 p2 FU 0) fun x5 =>
    sm x5 (fun x6 =>
      some false) (fun x7 =>
      some true)

/-- loop.example/namedflags/spec.goodEnum -/
def m_spec_goodEnum (p1 : List (Int)) (p2 : Int) : Option ((List (ByteArray × Int)) × Int) :=
  bd (m_spec_goodDefs 1000 p1 p2) fun x3 =>
  some (x3.1, x3.2)

/-- loop.example/namedflags/spec.someEnum -/
def m_spec_someEnum (p1 : List (Int)) (p2 : Int) : Option ((List (ByteArray × Int)) × Int) :=
  bd (m_spec_goodEnum p1 p2) fun x3 =>
  bif decide (0 < (x3.1.length : Int)) then
    bd (m_spec_reader_pick (x3.1.length : Int) p1 x3.2) fun x4 =>
    bd (m_spec_reader_pick 24 p1 (IntKind.wrap .i64 (x3.2 + 1))) fun x5 =>
    bif decide (x5 = 0) then
      bd (m_spec_reader_of ([ByteArray.empty, (ByteArray.mk #[65]), (ByteArray.mk #[116, 111, 111, 108, 111, 110, 103])] : List (ByteArray)) p1 (IntKind.wrap .i64 ((IntKind.wrap .i64 (x3.2 + 1)) + 1))) fun x6 =>
      gd (0 ≤ x4 ∧ x4 < (x3.1.length : Int)) <|
      some (x3.1.set (0 + x4.toNat) (x6, (gt x3.1 x4).2), IntKind.wrap .i64 ((IntKind.wrap .i64 ((IntKind.wrap .i64 (x3.2 + 1)) + 1)) + 1))
    else
      bif decide (x5 = 1) then
        bd (m_spec_reader_one ([1001, (-1001)] : List (Int)) p1 (IntKind.wrap .i64 ((IntKind.wrap .i64 (x3.2 + 1)) + 1))) fun x7 =>
        gd (0 ≤ x4 ∧ x4 < (x3.1.length : Int)) <|
        some (x3.1.set (0 + x4.toNat) ((gt x3.1 x4).1, x7), IntKind.wrap .i64 ((IntKind.wrap .i64 ((IntKind.wrap .i64 (x3.2 + 1)) + 1)) + 1))
      else
        bif decide (x5 = 2) then
          gd (0 ≤ x4 ∧ x4 < (x3.1.length : Int)) <|
          gd (x3.1.length + ([((gt x3.1 x4).1, (gt x3.1 x4).2)] : List (ByteArray × Int)).length ≤ 1099511627776) <|
          some (x3.1 ++ ([((gt x3.1 x4).1, (gt x3.1 x4).2)] : List (ByteArray × Int)), IntKind.wrap .i64 ((IntKind.wrap .i64 (x3.2 + 1)) + 1))
        else
          bif decide (x5 = 3) then
            gd (0 ≤ (13 : Int) ∧ (13 : Int) ≤ 1099511627776) <|
            gd (x3.1.length + (List.replicate (13 : Int).toNat ((ByteArray.empty, 0) : ByteArray × Int)).length ≤ 1099511627776) <|
            some (x3.1 ++ (List.replicate (13 : Int).toNat ((ByteArray.empty, 0) : ByteArray × Int)), IntKind.wrap .i64 ((IntKind.wrap .i64 (x3.2 + 1)) + 1))
          else
            some (x3.1, IntKind.wrap .i64 ((IntKind.wrap .i64 (x3.2 + 1)) + 1))
  else
    some (x3.1, x3.2)

/-- loop.example/namedflags/impl.ValidEnum -/
def m_impl_ValidEnum (p1 : List (ByteArray × Int)) : Option (Bool) :=
  bd (m_impl_defsValid p1 (-1000) 1000) fun x2 =>
  some x2

/-- loop.example/namedflags/spec.validEnum -/
def m_spec_validEnum (p1 : List (ByteArray × Int)) : Option (Bool) :=
  bd (m_spec_validDefs p1 (-1000) 1000) fun x2 =>
  some x2

/-- slices.Grow[[]loop.example/namedflags/impl.Def,loop.example/namedflags/impl.Def] -/
def m_slices_Grow_nsi (p1 : Int) : Option (List (ByteArray × Int)) :=
  bif decide (p1 < 0) then
    none
  else
    nm (decide (0 < (IntKind.wrap .i64 (p1 - (IntKind.wrap .i64 (0 - 0)))))) fun v2 =>
    bif v2 then
      gd ((0 : Int) = 0 ∧ (0 : Int) = 0 ∧ (0 : Int) = 0) <|
      gd (0 ≤ (IntKind.wrap .i64 (p1 - (IntKind.wrap .i64 (0 - 0)))) ∧ (IntKind.wrap .i64 (p1 - (IntKind.wrap .i64 (0 - 0)))) ≤ 1099511627776) <|
      gd (([] : List (ByteArray × Int)).length + (List.replicate (IntKind.wrap .i64 (p1 - (IntKind.wrap .i64 (0 - 0)))).toNat ((ByteArray.empty, 0) : ByteArray × Int)).length ≤ 1099511627776) <|
      gd (0 ≤ (0 : Int) ∧ (0 : Int) ≤ (0 : Int) ∧ (0 : Int) ≤ ((List.replicate (IntKind.wrap .i64 (p1 - (IntKind.wrap .i64 (0 - 0)))).toNat ((ByteArray.empty, 0) : ByteArray × Int)).length : Int) ∧ ((List.replicate (IntKind.wrap .i64 (p1 - (IntKind.wrap .i64 (0 - 0)))).toNat ((ByteArray.empty, 0) : ByteArray × Int)).length : Int) ≤ ((List.replicate (IntKind.wrap .i64 (p1 - (IntKind.wrap .i64 (0 - 0)))).toNat ((ByteArray.empty, 0) : ByteArray × Int)).length : Int)) <|
      some (sub (List.replicate (IntKind.wrap .i64 (p1 - (IntKind.wrap .i64 (0 - 0)))).toNat ((ByteArray.empty, 0) : ByteArray × Int)) (0 : Int) (0 : Int))
    else
      some ([] : List (ByteArray × Int))

/-- slices.Concat[[]loop.example/namedflags/impl.Def,loop.example/namedflags/impl.Def] -/
def m_slices_Concat_x2sisi (p1 : List (ByteArray × Int)) (p2 : List (ByteArray × Int)) : Option (List (ByteArray × Int)) :=
  bif decide ((IntKind.wrap .i64 (0 + (p1.length : Int))) < 0) then
    none
  else
    nm (IntKind.wrap .i64 ((IntKind.wrap .i64 (0 + (p1.length : Int))) + (p2.length : Int))) fun v3 =>
    bif decide (v3 < 0) then
      none
    else
      bd (m_slices_Grow_nsi v3) fun x4 =>
      gd (x4.length + p1.length ≤ 1099511627776) <|
      gd ((x4 ++ p1).length + p2.length ≤ 1099511627776) <|
      some ((x4 ++ p1) ++ p2)

def m_spec_differ_L1 (p1 : List (ByteArray × Int)) (p2 : List (ByteArray × Int)) : Nat → (List (Int × ByteArray × Int × Int)) → Int → Option (List (Int × ByteArray × Int × Int))
  | 0, _, _ => none
  | fu + 1, v3, v4 =>
    bif decide (v4 < (p1.length : Int)) then
      gd (0 ≤ v4 ∧ v4 < (p1.length : Int)) <|
      bd (m_spec_indexOf p2 ((gt p1 v4).1)) fun x5 =>
      bif decide (x5 < 0) then
        gd (v3.length + ([(1, (gt p1 v4).1, (gt p1 v4).2, 0)] : List (Int × ByteArray × Int × Int)).length ≤ 1099511627776) <|
        m_spec_differ_L1 p1 p2 fu (v3 ++ ([(1, (gt p1 v4).1, (gt p1 v4).2, 0)] : List (Int × ByteArray × Int × Int))) (IntKind.wrap .i64 (v4 + 1))
      else
        m_spec_differ_L1 p1 p2 fu v3 (IntKind.wrap .i64 (v4 + 1))
    else
      some v3

def m_spec_differ_L2 (p1 : List (ByteArray × Int)) (p2 : List (ByteArray × Int)) : Nat → (List (Int × ByteArray × Int × Int)) → Int → Option (List (Int × ByteArray × Int × Int))
  | 0, _, _ => none
  | fu + 1, v7, v8 =>
    bif decide (v8 < (p1.length : Int)) then
      gd (0 ≤ v8 ∧ v8 < (p1.length : Int)) <|
      bd (m_spec_indexOf p2 ((gt p1 v8).1)) fun x9 =>
      bif decide (0 ≤ x9) then
        gd (0 ≤ x9 ∧ x9 < (p2.length : Int)) <|
        bif (!decide (((gt p2 x9).2) = ((gt p1 v8).2))) then
          gd (v7.length + ([(2, (gt p1 v8).1, (gt p1 v8).2, (gt p2 x9).2)] : List (Int × ByteArray × Int × Int)).length ≤ 1099511627776) <|
          m_spec_differ_L2 p1 p2 fu (v7 ++ ([(2, (gt p1 v8).1, (gt p1 v8).2, (gt p2 x9).2)] : List (Int × ByteArray × Int × Int))) (IntKind.wrap .i64 (v8 + 1))
        else
          m_spec_differ_L2 p1 p2 fu v7 (IntKind.wrap .i64 (v8 + 1))
      else
        m_spec_differ_L2 p1 p2 fu v7 (IntKind.wrap .i64 (v8 + 1))
    else
      some v7

def m_spec_differ_L3 (p1 : List (ByteArray × Int)) (p2 : List (ByteArray × Int)) : Nat → (List (Int × ByteArray × Int × Int)) → Int → Option (List (Int × ByteArray × Int × Int))
  | 0, _, _ => none
  | fu + 1, v11, v12 =>
    bif decide (v12 < (p2.length : Int)) then
      gd (0 ≤ v12 ∧ v12 < (p2.length : Int)) <|
      bd (m_spec_indexOf p1 ((gt p2 v12).1)) fun x13 =>
      bif decide (x13 < 0) then
        gd (v11.length + ([(0, (gt p2 v12).1, 0, (gt p2 v12).2)] : List (Int × ByteArray × Int × Int)).length ≤ 1099511627776) <|
        m_spec_differ_L3 p1 p2 fu (v11 ++ ([(0, (gt p2 v12).1, 0, (gt p2 v12).2)] : List (Int × ByteArray × Int × Int))) (IntKind.wrap .i64 (v12 + 1))
      else
        m_spec_differ_L3 p1 p2 fu v11 (IntKind.wrap .i64 (v12 + 1))
    else
      some v11

/-- loop.example/namedflags/spec.differ -/
def m_spec_differ (p1 : List (ByteArray × Int)) (p2 : List (ByteArray × Int)) : Option (List (Int × ByteArray × Int × Int)) :=
  bd (m_spec_differ_L1 p1 p2 FU ([] : List (Int × ByteArray × Int × Int)) 0) fun x6 =>
  bd (m_spec_differ_L2 p1 p2 FU x6 0) fun x10 =>
  bd (m_spec_differ_L3 p1 p2 FU x10 0) fun x14 =>
  some x14

/-- loop.example/namedflags/spec.someChanges -/
def m_spec_someChanges (p1 : List (ByteArray × Int)) (p2 : List (Int)) (p3 : Int) : Option ((List (Int × ByteArray × Int × Int)) × Int) :=
  bd (m_spec_goodEnum p2 p3) fun x4 =>
  bd (m_spec_validEnum p1) fun x5 =>
  bif x5 then
    bd (m_spec_differ p1 x4.1) fun x6 =>
    bd (m_spec_reader_pick 4 p2 x4.2) fun x7 =>
    bif decide (x7 = 0) then
      bd (m_spec_reader_one ([0, 1, 2, 3] : List (Int)) p2 (IntKind.wrap .i64 (x4.2 + 1))) fun x8 =>
      bd (m_spec_aName p2 (IntKind.wrap .i64 ((IntKind.wrap .i64 (x4.2 + 1)) + 1))) fun x9 =>
      bd (m_spec_reader_pick 3 p2 (IntKind.wrap .i64 ((IntKind.wrap .i64 ((IntKind.wrap .i64 (x4.2 + 1)) + 1)) + 1))) fun x10 =>
      bd (m_spec_reader_one ([0, 1, 1001] : List (Int)) p2 (IntKind.wrap .i64 ((IntKind.wrap .i64 ((IntKind.wrap .i64 ((IntKind.wrap .i64 (x4.2 + 1)) + 1)) + 1)) + 1))) fun x11 =>
      gd (x6.length + ([(x8, x9, x10, x11)] : List (Int × ByteArray × Int × Int)).length ≤ 1099511627776) <|
      some (x6 ++ ([(x8, x9, x10, x11)] : List (Int × ByteArray × Int × Int)), IntKind.wrap .i64 ((IntKind.wrap .i64 ((IntKind.wrap .i64 ((IntKind.wrap .i64 ((IntKind.wrap .i64 (x4.2 + 1)) + 1)) + 1)) + 1)) + 1))
    else
      some (x6, IntKind.wrap .i64 (x4.2 + 1))
  else
    bd (m_spec_reader_pick 4 p2 x4.2) fun x12 =>
    bif decide (x12 = 0) then
      bd (m_spec_reader_one ([0, 1, 2, 3] : List (Int)) p2 (IntKind.wrap .i64 (x4.2 + 1))) fun x13 =>
      bd (m_spec_aName p2 (IntKind.wrap .i64 ((IntKind.wrap .i64 (x4.2 + 1)) + 1))) fun x14 =>
      bd (m_spec_reader_pick 3 p2 (IntKind.wrap .i64 ((IntKind.wrap .i64 ((IntKind.wrap .i64 (x4.2 + 1)) + 1)) + 1))) fun x15 =>
      bd (m_spec_reader_one ([0, 1, 1001] : List (Int)) p2 (IntKind.wrap .i64 ((IntKind.wrap .i64 ((IntKind.wrap .i64 ((IntKind.wrap .i64 (x4.2 + 1)) + 1)) + 1)) + 1))) fun x16 =>
      gd (([] : List (Int × ByteArray × Int × Int)).length + ([(x13, x14, x15, x16)] : List (Int × ByteArray × Int × Int)).length ≤ 1099511627776) <|
      some (([] : List (Int × ByteArray × Int × Int)) ++ ([(x13, x14, x15, x16)] : List (Int × ByteArray × Int × Int)), IntKind.wrap .i64 ((IntKind.wrap .i64 ((IntKind.wrap .i64 ((IntKind.wrap .i64 ((IntKind.wrap .i64 (x4.2 + 1)) + 1)) + 1)) + 1)) + 1))
    else
      some (([] : List (Int × ByteArray × Int × Int)), IntKind.wrap .i64 (x4.2 + 1))

/-- loop.example/namedflags/spec.DrawApplyChanges -/
def m_spec_DrawApplyChanges (p1 : List (Int)) : Option ((List (ByteArray × Int)) × (List (Int × ByteArray × Int × Int))) :=
  bd (m_spec_newReader p1) fun x2 =>
  bd (m_spec_someEnum x2 0) fun x3 =>
  bd (m_spec_someChanges x3.1 x2 x3.2) fun x4 =>
  some (x3.1, x4.1)

/-- loop.example/namedflags/impl.enumOf -/
def m_impl_enumOf (p1 : List (ByteArray × Int)) (p2 : Bool) : Option ((List (ByteArray × Int)) × Bool) :=
  bif (!p2) then
    some (([] : List (ByteArray × Int)), false)
  else
    bd (m_impl_ValidEnum p1) fun x3 =>
    bif (!x3) then
      some (([] : List (ByteArray × Int)), false)
    else
      bd (m_impl_clone_si p1) fun x4 =>
      some (x4, true)

/-- loop.example/namedflags/impl.AddDef -/
def m_impl_AddDef (p1 : List (ByteArray × Int)) (p2 : ByteArray) (p3 : Int) : Option ((List (ByteArray × Int)) × Bool) :=
  bd (m_impl_clone_si p1) fun x4 =>
  gd (x4.length + ([(p2, p3)] : List (ByteArray × Int)).length ≤ 1099511627776) <|
  bd (m_impl_ValidEnum p1) fun x5 =>
  bd (m_impl_enumOf (x4 ++ ([(p2, p3)] : List (ByteArray × Int))) x5) fun x6 =>
  some (x6.1, x6.2)

/-- loop.example/namedflags/impl.DropDef -/
def m_impl_DropDef (p1 : List (ByteArray × Int)) (p2 : ByteArray) : Option ((List (ByteArray × Int)) × Bool) :=
  bd (m_impl_named p1 p2) fun x3 =>
  bif decide (x3 < 0) then
    some (([] : List (ByteArray × Int)), false)
  else
    gd (0 ≤ (0 : Int) ∧ (0 : Int) ≤ x3 ∧ x3 ≤ (p1.length : Int) ∧ (p1.length : Int) ≤ (p1.length : Int)) <|
    gd (0 ≤ (IntKind.wrap .i64 (x3 + 1)) ∧ (IntKind.wrap .i64 (x3 + 1)) ≤ (p1.length : Int) ∧ (p1.length : Int) ≤ (p1.length : Int) ∧ (p1.length : Int) ≤ (p1.length : Int)) <|
    bd (m_slices_Concat_x2sisi (sub p1 (0 : Int) x3) (sub p1 (IntKind.wrap .i64 (x3 + 1)) (p1.length : Int))) fun x4 =>
    bd (m_impl_ValidEnum p1) fun x5 =>
    bd (m_impl_enumOf x4 x5) fun x6 =>
    some (x6.1, x6.2)

/-- (loop.example/namedflags/impl.Enum).apply -/
def m_impl_Enum_apply (p1 : List (ByteArray × Int)) (p2 : Int) (p3 : ByteArray) (p4 : Int) (p5 : Int) : Option ((List (ByteArray × Int)) × Bool) :=
  bd (m_impl_named p1 p3) fun x6 =>
  bif decide (p2 = 0) then
    bif decide (0 ≤ x6) then
      some (([] : List (ByteArray × Int)), false)
    else
      bif (!decide (p4 = 0)) then
        some (([] : List (ByteArray × Int)), false)
      else
        bd (m_impl_AddDef p1 p3 p5) fun x7 =>
        some (x7.1, x7.2)
  else
    bif decide (x6 < 0) then
      some (([] : List (ByteArray × Int)), false)
    else
      gd (0 ≤ x6 ∧ x6 < (p1.length : Int)) <|
      bif (!decide (((gt p1 x6).2) = p4)) then
        some (([] : List (ByteArray × Int)), false)
      else
        bif decide (p2 = 1) then
          bif decide (p5 = 0) then
            bd (m_impl_DropDef p1 p3) fun x8 =>
            some (x8.1, x8.2)
          else
            bif decide (p2 = 2) then
              bd (m_impl_clone_si p1) fun x9 =>
              gd (0 ≤ x6 ∧ x6 < (x9.length : Int)) <|
              bd (m_impl_enumOf (x9.set (0 + x6.toNat) ((gt x9 x6).1, p5)) true) fun x10 =>
              some (x10.1, x10.2)
            else
              some (([] : List (ByteArray × Int)), false)
        else
          bif decide (p2 = 2) then
            bd (m_impl_clone_si p1) fun x11 =>
            gd (0 ≤ x6 ∧ x6 < (x11.length : Int)) <|
            bd (m_impl_enumOf (x11.set (0 + x6.toNat) ((gt x11 x6).1, p5)) true) fun x12 =>
            some (x12.1, x12.2)
          else
            some (([] : List (ByteArray × Int)), false)

def m_impl_ApplyChanges_L1 (p2 : List (Int × ByteArray × Int × Int)) : Nat → (List (ByteArray × Int)) → Int → Option (Unit ⊕ List (ByteArray × Int))
  | 0, _, _ => none
  | fu + 1, v5, v6 =>
    bif decide (v6 < (p2.length : Int)) then
      gd (0 ≤ v6 ∧ v6 < (p2.length : Int)) <|
      bd (m_impl_Enum_apply v5 ((gt p2 v6).1) ((gt p2 v6).2.1) ((gt p2 v6).2.2.1) ((gt p2 v6).2.2.2)) fun x7 =>
      bif (!x7.2) then
        some (Sum.inl ())
      else
        m_impl_ApplyChanges_L1 p2 fu x7.1 (IntKind.wrap .i64 (v6 + 1))
    else
      some (Sum.inr v5)

/-- loop.example/namedflags/impl.ApplyChanges -/
def m_impl_ApplyChanges (p1 : List (ByteArray × Int)) (p2 : List (Int × ByteArray × Int × Int)) : Option ((List (ByteArray × Int)) × Bool) :=
  bd (m_impl_ValidEnum p1) fun x3 =>
  bif (!x3) then
    some (([] : List (ByteArray × Int)), false)
  else
    bif decide (30 < (p2.length : Int)) then
      some (([] : List (ByteArray × Int)), false)
    else
      bd (m_impl_clone_si p1) fun x4 =>
      bd (m_impl_ApplyChanges_L1 p2 FU x4 0) fun x8 =>
      sm x8 (fun x9 =>
        some (([] : List (ByteArray × Int)), false)) (fun x10 =>
        some (x10, true))

/-- loop.example/namedflags/spec.copyDefs -/
def m_spec_copyDefs (p1 : List (ByteArray × Int)) : Option (Unit) :=
  gd (([] : List (ByteArray × Int)).length + p1.length ≤ 1099511627776) <|
  some ()

/-- loop.example/namedflags/spec.dropped -/
def m_spec_dropped (p1 : List (ByteArray × Int)) (p2 : Int) : Option (Unit) :=
  gd (0 ≤ (0 : Int) ∧ (0 : Int) ≤ p2 ∧ p2 ≤ (p1.length : Int) ∧ (p1.length : Int) ≤ (p1.length : Int)) <|
  bd (m_spec_copyDefs (sub p1 (0 : Int) p2)) fun x3 =>
  gd (0 ≤ (IntKind.wrap .i64 (p2 + 1)) ∧ (IntKind.wrap .i64 (p2 + 1)) ≤ (p1.length : Int) ∧ (p1.length : Int) ≤ (p1.length : Int) ∧ (p1.length : Int) ≤ (p1.length : Int)) <|
  gd ((([] : List (ByteArray × Int)) ++ (sub p1 (0 : Int) p2)).length + (sub p1 (IntKind.wrap .i64 (p2 + 1)) (p1.length : Int)).length ≤ 1099511627776) <|
  some ()

/-- loop.example/namedflags/spec.applied -/
def m_spec_applied (p1 : List (ByteArray × Int)) (p2 : Int) (p3 : ByteArray) (p4 : Int) (p5 : Int) : Option ((List (ByteArray × Int)) × Bool) :=
  bd (m_spec_indexOf p1 p3) fun x6 =>
  bif decide (p2 = 0) then
    bd (m_spec_copyDefs p1) fun x7 =>
    gd ((([] : List (ByteArray × Int)) ++ p1).length + ([(p3, p5)] : List (ByteArray × Int)).length ≤ 1099511627776) <|
    bif decide (x6 < 0) then
      some ((([] : List (ByteArray × Int)) ++ p1) ++ ([(p3, p5)] : List (ByteArray × Int)), decide (p4 = 0))
    else
      some ((([] : List (ByteArray × Int)) ++ p1) ++ ([(p3, p5)] : List (ByteArray × Int)), false)
  else
    bif decide (p2 = 1) then
      bif decide (x6 < 0) then
        some (([] : List (ByteArray × Int)), false)
      else
        gd (0 ≤ x6 ∧ x6 < (p1.length : Int)) <|
        bif (!decide (((gt p1 x6).2) = p4)) then
          some (([] : List (ByteArray × Int)), false)
        else
          bif (!decide (p5 = 0)) then
            some (([] : List (ByteArray × Int)), false)
          else
            bd (m_spec_dropped p1 x6) fun x8 =>
            some ((([] : List (ByteArray × Int)) ++ (sub p1 (0 : Int) x6)) ++ (sub p1 (IntKind.wrap .i64 (x6 + 1)) (p1.length : Int)), true)
    else
      bif decide (p2 = 2) then
        bif decide (x6 < 0) then
          some (([] : List (ByteArray × Int)), false)
        else
          gd (0 ≤ x6 ∧ x6 < (p1.length : Int)) <|
          bif (!decide (((gt p1 x6).2) = p4)) then
            some (([] : List (ByteArray × Int)), false)
          else
            bd (m_spec_copyDefs p1) fun x9 =>
            gd (0 ≤ x6 ∧ x6 < ((([] : List (ByteArray × Int)) ++ p1).length : Int)) <|
            some ((([] : List (ByteArray × Int)) ++ p1).set (0 + x6.toNat) ((gt (([] : List (ByteArray × Int)) ++ p1) x6).1, p5), true)
      else
        some (([] : List (ByteArray × Int)), false)

def m_spec_ApplyChanges_L1 (p2 : List (Int × ByteArray × Int × Int)) : Nat → (List (ByteArray × Int)) → Int → Option (Unit ⊕ List (ByteArray × Int))
  | 0, _, _ => none
  | fu + 1, v5, v6 =>
    bif decide (v6 < (p2.length : Int)) then
      gd (0 ≤ v6 ∧ v6 < (p2.length : Int)) <|
      bd (m_spec_applied v5 ((gt p2 v6).1) ((gt p2 v6).2.1) ((gt p2 v6).2.2.1) ((gt p2 v6).2.2.2)) fun x7 =>
      bif (!x7.2) then
        some (Sum.inl ())
      else
        bd (m_spec_validEnum x7.1) fun x8 =>
        bif (!x8) then
          some (Sum.inl ())
        else
          m_spec_ApplyChanges_L1 p2 fu x7.1 (IntKind.wrap .i64 (v6 + 1))
    else
      some (Sum.inr v5)

/-- loop.example/namedflags/spec.ApplyChanges -/
def m_spec_ApplyChanges (p1 : List (ByteArray × Int)) (p2 : List (Int × ByteArray × Int × Int)) : Option ((List (ByteArray × Int)) × Bool) :=
  bd (m_spec_validEnum p1) fun x3 =>
  bif (!x3) then
    some (([] : List (ByteArray × Int)), false)
  else
    bif decide (30 < (p2.length : Int)) then
      some (([] : List (ByteArray × Int)), false)
    else
      bd (m_spec_copyDefs p1) fun x4 =>
      bd (m_spec_ApplyChanges_L1 p2 FU (([] : List (ByteArray × Int)) ++ p1) 0) fun x9 =>
      sm x9 (fun x10 =>
        some (([] : List (ByteArray × Int)), false)) (fun x11 =>
        some (x11, true))

/-- loop.example/namedflags/laws.equalEnum -/
def m_laws_equalEnum (p1 : List (ByteArray × Int)) (p2 : List (ByteArray × Int)) : Option (Bool) :=
  bd (m_laws_equalDefs p1 p2) fun x3 =>
  some x3

/-- loop.example/namedflags/impl.TurnChanges -/
def m_impl_TurnChanges (p1 : List (Int × ByteArray × Int × Int)) : Option (List (Int × ByteArray × Int × Int)) :=
  gd (p1.length ≤ 1000000) <|
  some (p1.reverse.map turnChg)

/-- slices.Grow[[]loop.example/namedflags/impl.Change,loop.example/namedflags/impl.Change] -/
def m_slices_Grow_nisii (p1 : Int) : Option (List (Int × ByteArray × Int × Int)) :=
  bif decide (p1 < 0) then
    none
  else
    nm (decide (0 < (IntKind.wrap .i64 (p1 - (IntKind.wrap .i64 (0 - 0)))))) fun v2 =>
    bif v2 then
      gd ((0 : Int) = 0 ∧ (0 : Int) = 0 ∧ (0 : Int) = 0) <|
      gd (0 ≤ (IntKind.wrap .i64 (p1 - (IntKind.wrap .i64 (0 - 0)))) ∧ (IntKind.wrap .i64 (p1 - (IntKind.wrap .i64 (0 - 0)))) ≤ 1099511627776) <|
      gd (([] : List (Int × ByteArray × Int × Int)).length + (List.replicate (IntKind.wrap .i64 (p1 - (IntKind.wrap .i64 (0 - 0)))).toNat ((0, ByteArray.empty, 0, 0) : Int × ByteArray × Int × Int)).length ≤ 1099511627776) <|
      gd (0 ≤ (0 : Int) ∧ (0 : Int) ≤ (0 : Int) ∧ (0 : Int) ≤ ((List.replicate (IntKind.wrap .i64 (p1 - (IntKind.wrap .i64 (0 - 0)))).toNat ((0, ByteArray.empty, 0, 0) : Int × ByteArray × Int × Int)).length : Int) ∧ ((List.replicate (IntKind.wrap .i64 (p1 - (IntKind.wrap .i64 (0 - 0)))).toNat ((0, ByteArray.empty, 0, 0) : Int × ByteArray × Int × Int)).length : Int) ≤ ((List.replicate (IntKind.wrap .i64 (p1 - (IntKind.wrap .i64 (0 - 0)))).toNat ((0, ByteArray.empty, 0, 0) : Int × ByteArray × Int × Int)).length : Int)) <|
      some (sub (List.replicate (IntKind.wrap .i64 (p1 - (IntKind.wrap .i64 (0 - 0)))).toNat ((0, ByteArray.empty, 0, 0) : Int × ByteArray × Int × Int)) (0 : Int) (0 : Int))
    else
      some ([] : List (Int × ByteArray × Int × Int))

/-- slices.Concat[[]loop.example/namedflags/impl.Change,loop.example/namedflags/impl.Change] -/
def m_slices_Concat_x3isiiisiiisii (p1 : List (Int × ByteArray × Int × Int)) (p2 : List (Int × ByteArray × Int × Int)) (p3 : List (Int × ByteArray × Int × Int)) : Option (List (Int × ByteArray × Int × Int)) :=
  bif decide ((IntKind.wrap .i64 (0 + (p1.length : Int))) < 0) then
    none
  else
    nm (IntKind.wrap .i64 ((IntKind.wrap .i64 (0 + (p1.length : Int))) + (p2.length : Int))) fun v4 =>
    bif decide (v4 < 0) then
      none
    else
      bif decide ((IntKind.wrap .i64 (v4 + (p3.length : Int))) < 0) then
        none
      else
        bd (m_slices_Grow_nisii (IntKind.wrap .i64 (v4 + (p3.length : Int)))) fun x5 =>
        gd (x5.length + p1.length ≤ 1099511627776) <|
        gd ((x5 ++ p1).length + p2.length ≤ 1099511627776) <|
        gd (((x5 ++ p1) ++ p2).length + p3.length ≤ 1099511627776) <|
        some (((x5 ++ p1) ++ p2) ++ p3)

/-- slices.Clip[[]loop.example/namedflags/impl.Change,loop.example/namedflags/impl.Change] -/
def m_slices_Clip_isii (p1 : List (Int × ByteArray × Int × Int)) : Option (Unit) :=
  gd (0 ≤ (0 : Int) ∧ (0 : Int) ≤ (p1.length : Int) ∧ (p1.length : Int) ≤ (p1.length : Int) ∧ (p1.length : Int) ≤ (p1.length : Int)) <|
  some ()

/-- slices.Clip[[]loop.example/namedflags/impl.Change,loop.example/namedflags/impl.Change] -/
def m_slices_Clip_hisii (p1 : List (Int × ByteArray × Int × Int)) : Option (Unit) :=
  some ()

def m_impl_DiffEnums_L1 (p1 : List (ByteArray × Int)) (p2 : List (ByteArray × Int)) : Nat → (List (Int × ByteArray × Int × Int)) → (List (Int × ByteArray × Int × Int)) → Int → Option ((List (Int × ByteArray × Int × Int)) × (List (Int × ByteArray × Int × Int)))
  | 0, _, _, _ => none
  | fu + 1, v5, v6, v7 =>
    bif decide (v7 < (p1.length : Int)) then
      gd (0 ≤ v7 ∧ v7 < (p1.length : Int)) <|
      bd (m_impl_named p2 ((gt p1 v7).1)) fun x8 =>
      bif decide (x8 < 0) then
        gd (v5.length + ([(1, (gt p1 v7).1, (gt p1 v7).2, 0)] : List (Int × ByteArray × Int × Int)).length ≤ 1099511627776) <|
        m_impl_DiffEnums_L1 p1 p2 fu (v5 ++ ([(1, (gt p1 v7).1, (gt p1 v7).2, 0)] : List (Int × ByteArray × Int × Int))) v6 (IntKind.wrap .i64 (v7 + 1))
      else
        gd (0 ≤ x8 ∧ x8 < (p2.length : Int)) <|
        bif (!decide (((gt p2 x8).2) = ((gt p1 v7).2))) then
          gd (v6.length + ([(2, (gt p1 v7).1, (gt p1 v7).2, (gt p2 x8).2)] : List (Int × ByteArray × Int × Int)).length ≤ 1099511627776) <|
          m_impl_DiffEnums_L1 p1 p2 fu v5 (v6 ++ ([(2, (gt p1 v7).1, (gt p1 v7).2, (gt p2 x8).2)] : List (Int × ByteArray × Int × Int))) (IntKind.wrap .i64 (v7 + 1))
        else
          m_impl_DiffEnums_L1 p1 p2 fu v5 v6 (IntKind.wrap .i64 (v7 + 1))
    else
      some (v5, v6)

def m_impl_DiffEnums_L2 (p1 : List (ByteArray × Int)) (p2 : List (ByteArray × Int)) (x9 : (List (Int × ByteArray × Int × Int)) × (List (Int × ByteArray × Int × Int))) : Nat → (List (Int × ByteArray × Int × Int)) → Int → Option (List (Int × ByteArray × Int × Int))
  | 0, _, _ => none
  | fu + 1, v10, v11 =>
    bif decide (v11 < (p2.length : Int)) then
      gd (0 ≤ v11 ∧ v11 < (p2.length : Int)) <|
      bd (m_impl_named p1 ((gt p2 v11).1)) fun x12 =>
      bif decide (x12 < 0) then
        gd (v10.length + ([(0, (gt p2 v11).1, 0, (gt p2 v11).2)] : List (Int × ByteArray × Int × Int)).length ≤ 1099511627776) <|
        m_impl_DiffEnums_L2 p1 p2 x9 fu (v10 ++ ([(0, (gt p2 v11).1, 0, (gt p2 v11).2)] : List (Int × ByteArray × Int × Int))) (IntKind.wrap .i64 (v11 + 1))
      else
        m_impl_DiffEnums_L2 p1 p2 x9 fu v10 (IntKind.wrap .i64 (v11 + 1))
    else
      some v10

/-- loop.example/namedflags/impl.DiffEnums -/
def m_impl_DiffEnums (p1 : List (ByteArray × Int)) (p2 : List (ByteArray × Int)) : Option (List (Int × ByteArray × Int × Int)) :=
  bd (m_impl_ValidEnum p1) fun x3 =>
  bif (!x3) then
    some ([] : List (Int × ByteArray × Int × Int))
  else
    bd (m_impl_ValidEnum p2) fun x4 =>
    bif (!x4) then
      some ([] : List (Int × ByteArray × Int × Int))
    else
      bd (m_impl_DiffEnums_L1 p1 p2 FU ([] : List (Int × ByteArray × Int × Int)) ([] : List (Int × ByteArray × Int × Int)) 0) fun x9 =>
      bd (m_impl_DiffEnums_L2 p1 p2 x9 FU ([] : List (Int × ByteArray × Int × Int)) 0) fun x13 =>
      bd (m_slices_Concat_x3isiiisiiisii x9.1 x9.2 x13) fun x14 =>
      bd (m_slices_Clip_hisii x14) fun x15 =>
      some x14

/-- loop.example/namedflags/impl.SameMeaning -/
def m_impl_SameMeaning (p1 : List (ByteArray × Int)) (p2 : List (ByteArray × Int)) : Option (Bool) :=
  bd (m_impl_ValidEnum p1) fun x3 =>
  bif x3 then
    bd (m_impl_ValidEnum p2) fun x4 =>
    bif x4 then
      bd (m_impl_DiffEnums p1 p2) fun x5 =>
      some (decide ((x5.length : Int) = 0))
    else
      some false
  else
    some false

/-- loop.example/namedflags/laws.FnApplyChanges -/
def m_laws_FnApplyChanges (p1 : List (Int)) : Option (Bool) :=
  bif decide (1048576 < (p1.length : Int)) then
    some true
  else
    bd (m_spec_DrawApplyChanges p1) fun x2 =>
    bd (m_impl_ApplyChanges x2.1 x2.2) fun x3 =>
    bd (m_spec_ApplyChanges x2.1 x2.2) fun x4 =>
    bd (m_laws_equalEnum x3.1 x4.1) fun x5 =>
    bif (!x5) then
      bd (m_laws_equalEnum x3.1 x4.1) fun x6 =>
      bif x6 then
        some (x3.2 == x4.2)
      else
        some false
    else
      bif (!(x3.2 == x4.2)) then
        bd (m_laws_equalEnum x3.1 x4.1) fun x7 =>
        bif x7 then
          some (x3.2 == x4.2)
        else
          some false
      else
        bif (!x3.2) then
          bd (m_laws_equalEnum x3.1 x4.1) fun x8 =>
          bif x8 then
            some (x3.2 == x4.2)
          else
            some false
        else
          bd (m_impl_TurnChanges x2.2) fun x9 =>
          bd (m_impl_ApplyChanges x3.1 x9) fun x10 =>
          bd (m_impl_ValidEnum x3.1) fun x11 =>
          bif x11 then
            bif x10.2 then
              bd (m_impl_SameMeaning x10.1 x2.1) fun x12 =>
              some x12
            else
              some false
          else
            some false

end Go.Eng

/- What is said here: nothing is proved. A model of each function, printed by a program out of the translated code. -/
import Derived.Test.YtomemaanjendhaaDoorCExactShowShortEng27
set_option linter.unusedVariables false
set_option linter.unusedSimpArgs false
namespace Go.Eng
open Go

def enc_s (x : ByteArray) : List Value := [.string x]

def enc_si (x : ByteArray × Int) : List Value := [.string x.1, .int .i64 x.2]

def FU : Nat := 4611686018427387904

def bstr (ns : List Int) : ByteArray := ns.foldl (fun r n => r.push (UInt8.ofNat n.toNat)) ByteArray.empty

/-- (*loop.example/namedflags/spec.reader).pick -/
def m_spec_reader_pick (p1 : Int) (p2 : List (Int)) (p3 : Int) : Option (Int) :=
  bif decide (p1 < 1) then
    some 0
  else
    bif decide ((p2.length : Int) = 0) then
      some 0
    else
      nm (decide ((IntKind.wrap .i64 ((IntKind.wrap .i64 (p3 + 1)) - 1)) < (p2.length : Int))) fun v4 =>
      bif v4 then
        gd (0 ≤ (IntKind.wrap .i64 ((IntKind.wrap .i64 (p3 + 1)) - 1)) ∧ (IntKind.wrap .i64 ((IntKind.wrap .i64 (p3 + 1)) - 1)) < (p2.length : Int)) <|
        nm ((gt p2 (IntKind.wrap .i64 ((IntKind.wrap .i64 (p3 + 1)) - 1)))) fun v5 =>
        gd (p1 ≠ 0) <|
        some (Int.tmod (IntKind.wrap .i64 (v5)) p1)
      else
        gd ((p2.length : Int) ≠ 0) <|
        nm (Int.tmod (IntKind.wrap .i64 ((IntKind.wrap .i64 (p3 + 1)) - 1)) (p2.length : Int)) fun v6 =>
        gd (0 ≤ v6 ∧ v6 < (p2.length : Int)) <|
        nm (IntKind.wrap .i64 ((IntKind.wrap .i64 ((IntKind.wrap .i64 (p3 + 1)) - 1)) * 7)) fun v7 =>
        gd (0 ≤ (Int.tmod (IntKind.wrap .i64 (v7 + 3)) (p2.length : Int)) ∧ (Int.tmod (IntKind.wrap .i64 (v7 + 3)) (p2.length : Int)) < (p2.length : Int)) <|
        nm ((gt p2 (Int.tmod (IntKind.wrap .i64 (v7 + 3)) (p2.length : Int)))) fun v8 =>
        nm (IntKind.wrap .i64 ((IntKind.wrap .i64 ((IntKind.wrap .i64 ((gt p2 v6))) * 131)) + (IntKind.wrap .i64 ((IntKind.wrap .i64 (v8)) * 1117)))) fun v9 =>
        nm (IntKind.wrap .i64 ((IntKind.wrap .i64 ((IntKind.wrap .i64 (p3 + 1)) - 1)) * 29)) fun v10 =>
        gd ((p2.length : Int) ≠ 0 ∧ IntKind.wrap .i64 (Int.tdiv (IntKind.wrap .i64 ((IntKind.wrap .i64 (p3 + 1)) - 1)) (p2.length : Int)) = Int.tdiv (IntKind.wrap .i64 ((IntKind.wrap .i64 (p3 + 1)) - 1)) (p2.length : Int)) <|
        nm (Int.tdiv (IntKind.wrap .i64 ((IntKind.wrap .i64 (p3 + 1)) - 1)) (p2.length : Int)) fun v11 =>
        nm (IntKind.wrap .i64 ((IntKind.wrap .i64 (v9 + v10)) + (IntKind.wrap .i64 (v11 * 53)))) fun v12 =>
        gd ((64 : Int) ≠ 0 ∧ IntKind.wrap .i64 (Int.tdiv v12 64) = Int.tdiv v12 64) <|
        gd (p1 ≠ 0) <|
        some (Int.tmod (Go.bits .xor .i64 v12 (Int.tdiv v12 64)) p1)

/-- (*loop.example/namedflags/spec.reader).one -/
def m_spec_reader_one (p1 : List (Int)) (p2 : List (Int)) (p3 : Int) : Option (Int) :=
  bd (m_spec_reader_pick (p1.length : Int) p2 p3) fun x4 =>
  gd (0 ≤ x4 ∧ x4 < (p1.length : Int)) <|
  some (gt p1 x4)

def m_spec_indexOf_L1 (p1 : List (ByteArray × Int)) (p2 : ByteArray) : Nat → Int → Option (Int ⊕ Unit)
  | 0, _ => none
  | fu + 1, v3 =>
    bif decide (v3 < (p1.length : Int)) then
      gd (0 ≤ v3 ∧ v3 < (p1.length : Int)) <|
      bif decide (((gt p1 v3).1) = p2) then
        some (Sum.inl v3)
      else
        m_spec_indexOf_L1 p1 p2 fu (IntKind.wrap .i64 (v3 + 1))
    else
      some (Sum.inr ())

/-- loop.example/namedflags/spec.indexOf -/
def m_spec_indexOf (p1 : List (ByteArray × Int)) (p2 : ByteArray) : Option (Int) :=
  bd (m_spec_indexOf_L1 p1 p2 FU 0) fun x4 =>
  sm x4 (fun x5 =>
    some x5) (fun x6 =>
    some (-1))

def m_spec_valueAt_L1 (p1 : List (ByteArray × Int)) (p2 : Int) : Nat → Int → Option (Int ⊕ Unit)
  | 0, _ => none
  | fu + 1, v3 =>
    bif decide (v3 < (p1.length : Int)) then
      gd (0 ≤ v3 ∧ v3 < (p1.length : Int)) <|
      bif decide (((gt p1 v3).2) = p2) then
        some (Sum.inl v3)
      else
        m_spec_valueAt_L1 p1 p2 fu (IntKind.wrap .i64 (v3 + 1))
    else
      some (Sum.inr ())

/-- loop.example/namedflags/spec.valueAt -/
def m_spec_valueAt (p1 : List (ByteArray × Int)) (p2 : Int) : Option (Int) :=
  bd (m_spec_valueAt_L1 p1 p2 FU 0) fun x4 =>
  sm x4 (fun x5 =>
    some x5) (fun x6 =>
    some (-1))

/-- loop.example/namedflags/impl.in -/
def m_impl_in (p1 : Int) (p2 : Int) (p3 : Int) : Option (Bool) :=
  bif decide (p2 ≤ p1) then
    some (decide (p1 ≤ p3))
  else
    some false

def m_impl_ValidName_L1 (p1 : ByteArray) : Nat → Int → Option (Unit ⊕ Unit)
  | 0, _ => none
  | fu + 1, v2 =>
    bif decide (v2 < (p1.size : Int)) then
      gd (0 ≤ v2 ∧ v2 < (p1.size : Int)) <|
      bif decide ((byteAt p1 v2.toNat) < 97) then
        some (Sum.inl ())
      else
        bif decide (122 < (byteAt p1 v2.toNat)) then
          some (Sum.inl ())
        else
          m_impl_ValidName_L1 p1 fu (IntKind.wrap .i64 (v2 + 1))
    else
      some (Sum.inr ())

/-- loop.example/namedflags/impl.ValidName -/
def m_impl_ValidName (p1 : ByteArray) : Option (Bool) :=
  bd (m_impl_ValidName_L1 p1 FU 0) fun x3 =>
  sm x3 (fun x4 =>
    some false) (fun x5 =>
    bd (m_impl_in (p1.size : Int) 1 6) fun x6 =>
    some x6)

/-- loop.example/namedflags/impl.named$1 -/
def m_impl_named_1_l (p1 : ByteArray) (p2 : Int) (p3 : ByteArray) : Option (Unit) :=
  some ()

def m_slices_IndexFunc_si_named_1_l_L1 (p1 : List (ByteArray × Int)) (p2 : ByteArray) : Nat → Int → Option (Int ⊕ Unit)
  | 0, _ => none
  | fu + 1, v3 =>
    bif decide (v3 < (p1.length : Int)) then
      gd (0 ≤ v3 ∧ v3 < (p1.length : Int)) <|
      bd (m_impl_named_1_l ((gt p1 v3).1) ((gt p1 v3).2) p2) fun x4 =>
      bif decide (((gt p1 v3).1) = p2) then
        some (Sum.inl v3)
      else
        m_slices_IndexFunc_si_named_1_l_L1 p1 p2 fu (IntKind.wrap .i64 (v3 + 1))
    else
      some (Sum.inr ())

/-- slices.IndexFunc[[]loop.example/namedflags/impl.Def,loop.example/namedflags/impl.Def] -/
def m_slices_IndexFunc_si_named_1_l (p1 : List (ByteArray × Int)) (p2 : ByteArray) : Option (Int) :=
  bd (m_slices_IndexFunc_si_named_1_l_L1 p1 p2 FU 0) fun x5 =>
  sm x5 (fun x6 =>
    some x6) (fun x7 =>
    some (-1))

/-- loop.example/namedflags/impl.named -/
def m_impl_named (p1 : List (ByteArray × Int)) (p2 : ByteArray) : Option (Int) :=
  bd (m_slices_IndexFunc_si_named_1_l p1 p2) fun x3 =>
  some x3

def m_impl_defsValid_L1 (p1 : List (ByteArray × Int)) (p2 : Int) (p3 : Int) : Nat → Int → Option (Unit ⊕ Unit)
  | 0, _ => none
  | fu + 1, v4 =>
    bif decide (v4 < (p1.length : Int)) then
      gd (0 ≤ v4 ∧ v4 < (p1.length : Int)) <|
      bd (m_impl_ValidName ((gt p1 v4).1)) fun x5 =>
      bif (!x5) then
        some (Sum.inl ())
      else
        bd (m_impl_in ((gt p1 v4).2) p2 p3) fun x6 =>
        bif (!x6) then
          some (Sum.inl ())
        else
          gd (0 ≤ (0 : Int) ∧ (0 : Int) ≤ v4 ∧ v4 ≤ (p1.length : Int) ∧ (p1.length : Int) ≤ (p1.length : Int)) <|
          bd (m_impl_named (sub p1 (0 : Int) v4) ((gt p1 v4).1)) fun x7 =>
          bif decide (0 ≤ x7) then
            some (Sum.inl ())
          else
            m_impl_defsValid_L1 p1 p2 p3 fu (IntKind.wrap .i64 (v4 + 1))
    else
      some (Sum.inr ())

/-- loop.example/namedflags/impl.defsValid -/
def m_impl_defsValid (p1 : List (ByteArray × Int)) (p2 : Int) (p3 : Int) : Option (Bool) :=
  bd (m_impl_defsValid_L1 p1 p2 p3 FU 0) fun x8 =>
  sm x8 (fun x9 =>
    some false) (fun x10 =>
    some (decide ((p1.length : Int) ≤ 12)))

/-- loop.example/namedflags/impl.ValidFlag -/
def m_impl_ValidFlag (p1 : List (ByteArray × Int)) (p2 : Int) : Option (Bool) :=
  bd (m_impl_defsValid p1 0 4095) fun x3 =>
  bif x3 then
    bd (m_impl_in p2 0 3) fun x4 =>
    some x4
  else
    some false

def m_impl_Flag_mask_L1 (p1 : List (ByteArray × Int)) : Nat → Int → Int → Option (Int)
  | 0, _, _ => none
  | fu + 1, v3, v4 =>
    bif decide (v4 < (p1.length : Int)) then
      gd (0 ≤ v4 ∧ v4 < (p1.length : Int)) <|
      m_impl_Flag_mask_L1 p1 fu (Go.bits .or .i64 v3 ((gt p1 v4).2)) (IntKind.wrap .i64 (v4 + 1))
    else
      some v3

/-- (loop.example/namedflags/impl.Flag).mask -/
def m_impl_Flag_mask (p1 : List (ByteArray × Int)) (p2 : Int) : Option (Int) :=
  bd (m_impl_Flag_mask_L1 p1 FU 0 0) fun x5 =>
  some x5

def m_spec_both_L1 (p1 : Int) (p2 : Int) : Nat → Int → Int → Option (Int)
  | 0, _, _ => none
  | fu + 1, v3, v4 =>
    bif decide (v4 ≤ 4095) then
      gd (v4 ≠ 0 ∧ IntKind.wrap .i64 (Int.tdiv p1 v4) = Int.tdiv p1 v4) <|
      gd ((2 : Int) ≠ 0) <|
      bif decide ((Int.tmod (Int.tdiv p1 v4) 2) = 1) then
        gd (v4 ≠ 0 ∧ IntKind.wrap .i64 (Int.tdiv p2 v4) = Int.tdiv p2 v4) <|
        bif decide ((Int.tmod (Int.tdiv p2 v4) 2) = 1) then
          m_spec_both_L1 p1 p2 fu (IntKind.wrap .i64 (v3 + v4)) (IntKind.wrap .i64 (v4 * 2))
        else
          m_spec_both_L1 p1 p2 fu v3 (IntKind.wrap .i64 (v4 * 2))
      else
        m_spec_both_L1 p1 p2 fu v3 (IntKind.wrap .i64 (v4 * 2))
    else
      some v3

/-- loop.example/namedflags/spec.both -/
def m_spec_both (p1 : Int) (p2 : Int) : Option (Int) :=
  bd (m_spec_both_L1 p1 p2 FU 0 1) fun x5 =>
  some x5

/-- loop.example/namedflags/spec.either -/
def m_spec_either (p1 : Int) (p2 : Int) : Option (Int) :=
  bd (m_spec_both p1 p2) fun x3 =>
  some (IntKind.wrap .i64 ((IntKind.wrap .i64 (p1 + p2)) - x3))

def m_spec_mask_L1 (p1 : List (ByteArray × Int)) : Nat → Int → Int → Option (Int)
  | 0, _, _ => none
  | fu + 1, v2, v3 =>
    bif decide (v3 < (p1.length : Int)) then
      gd (0 ≤ v3 ∧ v3 < (p1.length : Int)) <|
      bd (m_spec_either v2 ((gt p1 v3).2)) fun x4 =>
      m_spec_mask_L1 p1 fu x4 (IntKind.wrap .i64 (v3 + 1))
    else
      some v2

/-- loop.example/namedflags/spec.mask -/
def m_spec_mask (p1 : List (ByteArray × Int)) : Option (Int) :=
  bd (m_spec_mask_L1 p1 FU 0 0) fun x5 =>
  some x5

/-- loop.example/namedflags/spec.inRange -/
def m_spec_inRange (p1 : Int) (p2 : Int) (p3 : Int) : Option (Bool) :=
  bif decide (p2 ≤ p1) then
    some (decide (p1 ≤ p3))
  else
    some false

def m_spec_validName_L1 (p1 : ByteArray) : Nat → Int → Option (Unit ⊕ Unit)
  | 0, _ => none
  | fu + 1, v2 =>
    bif decide (v2 < (p1.size : Int)) then
      gd (0 ≤ v2 ∧ v2 < (p1.size : Int)) <|
      bif decide ((byteAt p1 v2.toNat) < 97) then
        some (Sum.inl ())
      else
        bif decide (122 < (byteAt p1 v2.toNat)) then
          some (Sum.inl ())
        else
          m_spec_validName_L1 p1 fu (IntKind.wrap .i64 (v2 + 1))
    else
      some (Sum.inr ())

/-- loop.example/namedflags/spec.validName -/
def m_spec_validName (p1 : ByteArray) : Option (Bool) :=
  bd (m_spec_validName_L1 p1 FU 0) fun x3 =>
  sm x3 (fun x4 =>
    some false) (fun x5 =>
    bd (m_spec_inRange (p1.size : Int) 1 6) fun x6 =>
    some x6)

def m_spec_validDefs_L1 (p1 : List (ByteArray × Int)) (p2 : Int) (p3 : Int) : Nat → Int → Option (Unit ⊕ Unit)
  | 0, _ => none
  | fu + 1, v4 =>
    bif decide (v4 < (p1.length : Int)) then
      gd (0 ≤ v4 ∧ v4 < (p1.length : Int)) <|
      bd (m_spec_validName ((gt p1 v4).1)) fun x5 =>
      bif (!x5) then
        some (Sum.inl ())
      else
        bd (m_spec_inRange ((gt p1 v4).2) p2 p3) fun x6 =>
        bif (!x6) then
          some (Sum.inl ())
        else
          gd (0 ≤ (0 : Int) ∧ (0 : Int) ≤ v4 ∧ v4 ≤ (p1.length : Int) ∧ (p1.length : Int) ≤ (p1.length : Int)) <|
          bd (m_spec_indexOf (sub p1 (0 : Int) v4) ((gt p1 v4).1)) fun x7 =>
          bif decide (0 ≤ x7) then
            some (Sum.inl ())
          else
            m_spec_validDefs_L1 p1 p2 p3 fu (IntKind.wrap .i64 (v4 + 1))
    else
      some (Sum.inr ())

/-- loop.example/namedflags/spec.validDefs -/
def m_spec_validDefs (p1 : List (ByteArray × Int)) (p2 : Int) (p3 : Int) : Option (Bool) :=
  bd (m_spec_validDefs_L1 p1 p2 p3 FU 0) fun x8 =>
  sm x8 (fun x9 =>
    some false) (fun x10 =>
    some (decide ((p1.length : Int) ≤ 12)))

/-- loop.example/namedflags/spec.validFlag -/
def m_spec_validFlag (p1 : List (ByteArray × Int)) (p2 : Int) : Option (Bool) :=
  bd (m_spec_validDefs p1 0 4095) fun x3 =>
  bif x3 then
    bd (m_spec_inRange p2 0 3) fun x4 =>
    some x4
  else
    some false

/-- loop.example/namedflags/spec.less -/
def m_spec_less (p1 : Int) (p2 : Int) : Option (Int) :=
  bd (m_spec_both p1 p2) fun x3 =>
  some (IntKind.wrap .i64 (p1 - x3))

/-- loop.example/namedflags/impl.IsValue -/
def m_impl_IsValue (p1 : List (ByteArray × Int)) (p2 : Int) (p3 : Int) : Option (Bool) :=
  bd (m_impl_ValidFlag p1 p2) fun x4 =>
  bif x4 then
    bd (m_impl_in p3 0 4095) fun x5 =>
    bif x5 then
      bif decide (p2 = 3) then
        some true
      else
        bd (m_impl_Flag_mask p1 p2) fun x6 =>
        some (decide ((Go.bits .andNot .i64 p3 x6) = 0))
    else
      some false
  else
    some false

/-- slices.Clone[[]loop.example/namedflags/impl.Def,loop.example/namedflags/impl.Def] -/
def m_slices_Clone_si (p1 : List (ByteArray × Int)) : Option (List (ByteArray × Int)) :=
  gd (p1.length ≤ 1099511627776) <|
  some p1

/-- loop.example/namedflags/laws.eqDef -/
def m_laws_eqDef (p1 : ByteArray) (p2 : Int) (p3 : ByteArray) (p4 : Int) : Option (Bool) :=
  bif (!decide (p1 = p3)) then
    some false
  else
    bif (!decide (p2 = p4)) then
      some false
    else
      some true

def m_laws_eqDefS_L1 (p1 : List (ByteArray × Int)) (p2 : List (ByteArray × Int)) : Nat → Int → Option (Unit ⊕ Unit)
  | 0, _ => none
  | fu + 1, v3 =>
    bif decide (v3 < (p1.length : Int)) then
      gd (0 ≤ v3 ∧ v3 < (p1.length : Int)) <|
      gd (0 ≤ v3 ∧ v3 < (p2.length : Int)) <|
      bd (m_laws_eqDef ((gt p1 v3).1) ((gt p1 v3).2) ((gt p2 v3).1) ((gt p2 v3).2)) fun x4 =>
      bif (!x4) then
        some (Sum.inl ())
      else
        m_laws_eqDefS_L1 p1 p2 fu (IntKind.wrap .i64 (v3 + 1))
    else
      some (Sum.inr ())

/-- loop.example/namedflags/laws.eqDefS -/
def m_laws_eqDefS (p1 : List (ByteArray × Int)) (p2 : List (ByteArray × Int)) : Option (Bool) :=
  bif (!decide ((p1.length : Int) = (p2.length : Int))) then
    some false
  else
    bd (m_laws_eqDefS_L1 p1 p2 FU 0) fun x5 =>
    sm x5 (fun x6 =>
      some false) (fun x7 =>
      some true)

/-- loop.example/namedflags/laws.eqFlag -/
def m_laws_eqFlag (p1 : List (ByteArray × Int)) (p2 : Int) (p3 : List (ByteArray × Int)) (p4 : Int) : Option (Bool) :=
  bd (m_laws_eqDefS p1 p3) fun x5 =>
  bif (!x5) then
    some false
  else
    bif (!decide (p2 = p4)) then
      some false
    else
      some true

/-- loop.example/namedflags/impl.valued$1 -/
def m_impl_valued_1_l (p1 : ByteArray) (p2 : Int) (p3 : Int) : Option (Unit) :=
  some ()

def m_slices_IndexFunc_si_valued_1_l_L1 (p1 : List (ByteArray × Int)) (p2 : Int) : Nat → Int → Option (Int ⊕ Unit)
  | 0, _ => none
  | fu + 1, v3 =>
    bif decide (v3 < (p1.length : Int)) then
      gd (0 ≤ v3 ∧ v3 < (p1.length : Int)) <|
      bd (m_impl_valued_1_l ((gt p1 v3).1) ((gt p1 v3).2) p2) fun x4 =>
      bif decide (((gt p1 v3).2) = p2) then
        some (Sum.inl v3)
      else
        m_slices_IndexFunc_si_valued_1_l_L1 p1 p2 fu (IntKind.wrap .i64 (v3 + 1))
    else
      some (Sum.inr ())

/-- slices.IndexFunc[[]loop.example/namedflags/impl.Def,loop.example/namedflags/impl.Def] -/
def m_slices_IndexFunc_si_valued_1_l (p1 : List (ByteArray × Int)) (p2 : Int) : Option (Int) :=
  bd (m_slices_IndexFunc_si_valued_1_l_L1 p1 p2 FU 0) fun x5 =>
  sm x5 (fun x6 =>
    some x6) (fun x7 =>
    some (-1))

/-- loop.example/namedflags/impl.valued -/
def m_impl_valued (p1 : List (ByteArray × Int)) (p2 : Int) : Option (Int) :=
  bd (m_slices_IndexFunc_si_valued_1_l p1 p2) fun x3 =>
  some x3

/-- slices.Clip[[]string,string] -/
def m_slices_Clip_s (p1 : List (ByteArray)) : Option (Unit) :=
  gd (0 ≤ (0 : Int) ∧ (0 : Int) ≤ (p1.length : Int) ∧ (p1.length : Int) ≤ (p1.length : Int) ∧ (p1.length : Int) ≤ (p1.length : Int)) <|
  some ()

/-- slices.Clip[[]string,string] -/
def m_slices_Clip_hs (p1 : List (ByteArray)) : Option (Unit) :=
  some ()

/-- loop.example/namedflags/spec.isValue -/
def m_spec_isValue (p1 : List (ByteArray × Int)) (p2 : Int) (p3 : Int) : Option (Bool) :=
  bd (m_spec_validFlag p1 p2) fun x4 =>
  bif x4 then
    bd (m_spec_inRange p3 0 4095) fun x5 =>
    bif x5 then
      bif decide (p2 = 3) then
        some true
      else
        bd (m_spec_mask p1) fun x6 =>
        bd (m_spec_less p3 x6) fun x7 =>
        some (decide (x7 = 0))
    else
      some false
  else
    some false

def m_spec_namesOf_L1 (p1 : List (ByteArray × Int)) : Nat → (List (ByteArray)) → Int → Option (List (ByteArray))
  | 0, _, _ => none
  | fu + 1, v2, v3 =>
    bif decide (v3 < (p1.length : Int)) then
      gd (0 ≤ v3 ∧ v3 < (p1.length : Int)) <|
      gd (v2.length + ([(gt p1 v3).1] : List (ByteArray)).length ≤ 1099511627776) <|
      m_spec_namesOf_L1 p1 fu (v2 ++ ([(gt p1 v3).1] : List (ByteArray))) (IntKind.wrap .i64 (v3 + 1))
    else
      some v2

/-- loop.example/namedflags/spec.namesOf -/
def m_spec_namesOf (p1 : List (ByteArray × Int)) : Option (List (ByteArray)) :=
  bd (m_spec_namesOf_L1 p1 FU ([] : List (ByteArray)) 0) fun x4 =>
  some x4

/-- (loop.example/namedflags/impl.Flag).fitting$1 -/
def m_impl_Flag_fitting_1_l (p1 : ByteArray) (p2 : Int) (p3 : Int) : Option (Bool) :=
  bif decide (p2 = 0) then
    some true
  else
    some (!decide ((Go.bits .andNot .i64 p2 p3) = 0))

def m_slices_IndexFunc_si_Flag_fitting_1_l_L1 (p1 : List (ByteArray × Int)) (p2 : Int) : Nat → Int → Option (Int ⊕ Unit)
  | 0, _ => none
  | fu + 1, v3 =>
    bif decide (v3 < (p1.length : Int)) then
      gd (0 ≤ v3 ∧ v3 < (p1.length : Int)) <|
      bd (m_impl_Flag_fitting_1_l ((gt p1 v3).1) ((gt p1 v3).2) p2) fun x4 =>
      bif x4 then
        some (Sum.inl v3)
      else
        m_slices_IndexFunc_si_Flag_fitting_1_l_L1 p1 p2 fu (IntKind.wrap .i64 (v3 + 1))
    else
      some (Sum.inr ())

/-- slices.IndexFunc[[]loop.example/namedflags/impl.Def,loop.example/namedflags/impl.Def] -/
def m_slices_IndexFunc_si_Flag_fitting_1_l (p1 : List (ByteArray × Int)) (p2 : Int) : Option (Int) :=
  bd (m_slices_IndexFunc_si_Flag_fitting_1_l_L1 p1 p2 FU 0) fun x5 =>
  sm x5 (fun x6 =>
    some x6) (fun x7 =>
    some (-1))

def m_slices_DeleteFunc_h_Flag_fitting_1_si_L1 (p2 : Int) : Nat → Int → Int → (List (ByteArray × Int)) → Option (Int × (List (ByteArray × Int)))
  | 0, _, _, _ => none
  | fu + 1, v4, v5, v6 =>
    bif decide (v5 < (v6.length : Int)) then
      gd (0 ≤ v5 ∧ v5 < (v6.length : Int)) <|
      bd (m_impl_Flag_fitting_1_l ((gt v6 v5).1) ((gt v6 v5).2) p2) fun x7 =>
      bif (!x7) then
        gd (0 ≤ v4 ∧ v4 < (v6.length : Int)) <|
        m_slices_DeleteFunc_h_Flag_fitting_1_si_L1 p2 fu (IntKind.wrap .i64 (v4 + 1)) (IntKind.wrap .i64 (v5 + 1)) (v6.set (0 + v4.toNat) ((gt v6 v5).1, (gt v6 v5).2))
      else
        m_slices_DeleteFunc_h_Flag_fitting_1_si_L1 p2 fu v4 (IntKind.wrap .i64 (v5 + 1)) v6
    else
      some (v4, v6)

/-- slices.DeleteFunc[[]loop.example/namedflags/impl.Def,loop.example/namedflags/impl.Def] -/
def m_slices_DeleteFunc_h_Flag_fitting_1_si (p1 : List (ByteArray × Int)) (p2 : Int) : Option (List (ByteArray × Int)) :=
  bd (m_slices_IndexFunc_si_Flag_fitting_1_l p1 p2) fun x3 =>
  bif decide (x3 = (-1)) then
    some p1
  else
    bd (m_slices_DeleteFunc_h_Flag_fitting_1_si_L1 p2 FU x3 (IntKind.wrap .i64 (x3 + 1)) p1) fun x8 =>
    gd (0 ≤ x8.1 ∧ x8.1 ≤ (x8.2.length : Int) ∧ (x8.2.length : Int) ≤ (x8.2.length : Int) ∧ (x8.2.length : Int) ≤ (x8.2.length : Int)) <|
    gd (0 ≤ (0 : Int) ∧ (0 : Int) ≤ x8.1 ∧ x8.1 ≤ (x8.2.length : Int) ∧ (x8.2.length : Int) ≤ (x8.2.length : Int)) <|
    some (sub (clr x8.2 x8.1 (x8.2.length : Int) ((ByteArray.empty, 0) : ByteArray × Int)) (0 : Int) x8.1)

/-- (loop.example/namedflags/impl.Flag).fitting -/
def m_impl_Flag_fitting (p1 : List (ByteArray × Int)) (p2 : Int) (p3 : Int) : Option (List (ByteArray × Int)) :=
  bd (m_slices_Clone_si p1) fun x4 =>
  bd (m_slices_DeleteFunc_h_Flag_fitting_1_si x4 p3) fun x5 =>
  some x5

/-- loop.example/namedflags/impl.together -/
def m_impl_together (p1 : List (ByteArray × Int)) : Option (Int) :=
  bd (m_impl_Flag_mask p1 0) fun x2 =>
  some x2

/-- slices.Grow[[]loop.example/namedflags/impl.Def,loop.example/namedflags/impl.Def] -/
def m_slices_Grow_nsi (p1 : Int) : Option (List (ByteArray × Int)) :=
  bif decide (p1 < 0) then
    none
  else
    nm (decide (0 < (IntKind.wrap .i64 (p1 - (IntKind.wrap .i64 (0 - 0)))))) fun v2 =>
    bif v2 then
      gd ((0 : Int) = 0 ∧ (0 : Int) = 0 ∧ (0 : Int) = 0) <|
      gd (0 ≤ (IntKind.wrap .i64 (p1 - (IntKind.wrap .i64 (0 - 0)))) ∧ (IntKind.wrap .i64 (p1 - (IntKind.wrap .i64 (0 - 0)))) ≤ 1099511627776) <|
      gd (([] : List (ByteArray × Int)).length + (List.replicate (IntKind.wrap .i64 (p1 - (IntKind.wrap .i64 (0 - 0)))).toNat ((ByteArray.empty, 0) : ByteArray × Int)).length ≤ 1099511627776) <|
      gd (0 ≤ (0 : Int) ∧ (0 : Int) ≤ (0 : Int) ∧ (0 : Int) ≤ ((List.replicate (IntKind.wrap .i64 (p1 - (IntKind.wrap .i64 (0 - 0)))).toNat ((ByteArray.empty, 0) : ByteArray × Int)).length : Int) ∧ ((List.replicate (IntKind.wrap .i64 (p1 - (IntKind.wrap .i64 (0 - 0)))).toNat ((ByteArray.empty, 0) : ByteArray × Int)).length : Int) ≤ ((List.replicate (IntKind.wrap .i64 (p1 - (IntKind.wrap .i64 (0 - 0)))).toNat ((ByteArray.empty, 0) : ByteArray × Int)).length : Int)) <|
      some (sub (List.replicate (IntKind.wrap .i64 (p1 - (IntKind.wrap .i64 (0 - 0)))).toNat ((ByteArray.empty, 0) : ByteArray × Int)) (0 : Int) (0 : Int))
    else
      some ([] : List (ByteArray × Int))

/-- slices.Concat[[]loop.example/namedflags/impl.Def,loop.example/namedflags/impl.Def] -/
def m_slices_Concat_x2sin (p1 : List (ByteArray × Int)) : Option (List (ByteArray × Int)) :=
  bif decide ((IntKind.wrap .i64 (0 + (p1.length : Int))) < 0) then
    none
  else
    nm (IntKind.wrap .i64 ((IntKind.wrap .i64 (0 + (p1.length : Int))) + 0)) fun v2 =>
    bif decide (v2 < 0) then
      none
    else
      bd (m_slices_Grow_nsi v2) fun x3 =>
      gd (x3.length + p1.length ≤ 1099511627776) <|
      gd ((x3 ++ p1).length + ([] : List (ByteArray × Int)).length ≤ 1099511627776) <|
      some ((x3 ++ p1) ++ ([] : List (ByteArray × Int)))

/-- slices.Concat[[]loop.example/namedflags/impl.Def,loop.example/namedflags/impl.Def] -/
def m_slices_Concat_x2sisi (p1 : List (ByteArray × Int)) (p2 : List (ByteArray × Int)) : Option (List (ByteArray × Int)) :=
  bif decide ((IntKind.wrap .i64 (0 + (p1.length : Int))) < 0) then
    none
  else
    nm (IntKind.wrap .i64 ((IntKind.wrap .i64 (0 + (p1.length : Int))) + (p2.length : Int))) fun v3 =>
    bif decide (v3 < 0) then
      none
    else
      bd (m_slices_Grow_nsi v3) fun x4 =>
      gd (x4.length + p1.length ≤ 1099511627776) <|
      gd ((x4 ++ p1).length + p2.length ≤ 1099511627776) <|
      some ((x4 ++ p1) ++ p2)

def m_impl_fewest_L1 (rec : (List (ByteArray × Int)) → Int → Int → Option ((List (ByteArray × Int)) × Bool)) (p1 : List (ByteArray × Int)) (p2 : Int) (p3 : Int) : Nat → Int → Option (List (ByteArray × Int) ⊕ Unit)
  | 0, _ => none
  | fu + 1, v4 =>
    bif decide (v4 < (p1.length : Int)) then
      gd (0 ≤ v4 ∧ v4 < (p1.length : Int)) <|
      gd (0 ≤ (IntKind.wrap .i64 (v4 + 1)) ∧ (IntKind.wrap .i64 (v4 + 1)) ≤ (p1.length : Int) ∧ (p1.length : Int) ≤ (p1.length : Int) ∧ (p1.length : Int) ≤ (p1.length : Int)) <|
      bd (rec (sub p1 (IntKind.wrap .i64 (v4 + 1)) (p1.length : Int)) (IntKind.wrap .i64 (p2 - 1)) (Go.bits .andNot .i64 p3 ((gt p1 v4).2))) fun x5 =>
      bif x5.2 then
        bd (m_slices_Concat_x2sisi ([((gt p1 v4).1, (gt p1 v4).2)] : List (ByteArray × Int)) x5.1) fun x6 =>
        some (Sum.inl x6)
      else
        m_impl_fewest_L1 rec p1 p2 p3 fu (IntKind.wrap .i64 (v4 + 1))
    else
      some (Sum.inr ())

/-- loop.example/namedflags/impl.fewest -/
def m_impl_fewest : Nat → (List (ByteArray × Int)) → (Int) → (Int) → Option ((List (ByteArray × Int)) × Bool)
  | 0, _, _, _ => none
  | fu + 1, p1, p2, p3 =>
    bif decide (p2 = 0) then
      some (([] : List (ByteArray × Int)), decide (p3 = 0))
    else
      bd (m_impl_fewest_L1 (m_impl_fewest fu) p1 p2 p3 FU 0) fun x7 =>
      sm x7 (fun x8 =>
        some (x8, true)) (fun x9 =>
        some (([] : List (ByteArray × Int)), false))

def m_impl_Flag_short_L1 (x4 : List (ByteArray × Int)) : Nat → Int → Option (List (ByteArray × Int))
  | 0, _ => none
  | fu + 1, v5 =>
    bd (m_impl_together x4) fun x6 =>
    bd (m_impl_fewest FU x4 v5 x6) fun x7 =>
    bif x7.2 then
      some x7.1
    else
      m_impl_Flag_short_L1 x4 fu (IntKind.wrap .i64 (v5 + 1))

/-- (loop.example/namedflags/impl.Flag).short -/
def m_impl_Flag_short (p1 : List (ByteArray × Int)) (p2 : Int) (p3 : Int) : Option (List (ByteArray × Int)) :=
  bd (m_impl_Flag_fitting p1 p2 p3) fun x4 =>
  bd (m_impl_Flag_short_L1 x4 FU 0) fun x8 =>
  some x8

/-- loop.example/namedflags/impl.anyDef -/
def m_impl_anyDef (p1 : ByteArray) (p2 : Int) : Option (Unit) :=
  some ()

def m_impl_names_anyDef_L1 (p1 : List (ByteArray × Int)) : Nat → (List (ByteArray)) → Int → Option (List (ByteArray))
  | 0, _, _ => none
  | fu + 1, v2, v3 =>
    bif decide (v3 < (p1.length : Int)) then
      gd (0 ≤ v3 ∧ v3 < (p1.length : Int)) <|
      bd (m_impl_anyDef ((gt p1 v3).1) ((gt p1 v3).2)) fun x4 =>
      gd (v2.length + ([(gt p1 v3).1] : List (ByteArray)).length ≤ 1099511627776) <|
      m_impl_names_anyDef_L1 p1 fu (v2 ++ ([(gt p1 v3).1] : List (ByteArray))) (IntKind.wrap .i64 (v3 + 1))
    else
      some v2

/-- loop.example/namedflags/impl.names -/
def m_impl_names_anyDef (p1 : List (ByteArray × Int)) : Option (List (ByteArray)) :=
  bd (m_impl_names_anyDef_L1 p1 FU ([] : List (ByteArray)) 0) fun x5 =>
  bd (m_slices_Clip_hs x5) fun x6 =>
  some x5

/-- slices.Clone[[]string,string] -/
def m_slices_Clone_s (p1 : List (ByteArray)) : Option (List (ByteArray)) :=
  gd (p1.length ≤ 1099511627776) <|
  some p1

/-- strconv.Itoa -/
def m_strconv_Itoa (p1 : Int) : Option (ByteArray) :=
  gd (-9223372036854775808 ≤ p1 ∧ p1 ≤ 9223372036854775807) <|
  some ⟨(Lib.itoa p1).toArray⟩

/-- strings.Join -/
def m_strings_Join (p1 : List (ByteArray)) (p2 : ByteArray) : Option (ByteArray) :=
  gd (p1.length ≤ 140737488355328) <|
  gd ((Lib.join (p1.map (·.data.toList)) p2.data.toList).length ≤ 140737488355328) <|
  some ⟨(Lib.join (p1.map (·.data.toList)) p2.data.toList).toArray⟩

/-- (loop.example/namedflags/impl.Flag).show -/
def m_impl_Flag_show (p1 : List (ByteArray × Int)) (p2 : Int) (p3 : List (ByteArray)) (p4 : Int) : Option (ByteArray) :=
  bd (m_slices_Clone_s p3) fun x5 =>
  bif (!decide (p4 = 0)) then
    bd (m_strconv_Itoa p4) fun x6 =>
    gd (x5.length + ([x6] : List (ByteArray)).length ≤ 1099511627776) <|
    nm (decide (0 < ((x5 ++ ([x6] : List (ByteArray))).length : Int))) fun v7 =>
    bif v7 then
      bd (m_strings_Join (x5 ++ ([x6] : List (ByteArray))) (ByteArray.mk #[124])) fun x8 =>
      some x8
    else
      bd (m_impl_valued p1 0) fun x9 =>
      bif decide (0 ≤ x9) then
        gd (0 ≤ x9 ∧ x9 < (p1.length : Int)) <|
        some ((gt p1 x9).1)
      else
        some (ByteArray.mk #[48])
  else
    bif decide (0 < (x5.length : Int)) then
      bd (m_strings_Join x5 (ByteArray.mk #[124])) fun x10 =>
      some x10
    else
      bd (m_impl_valued p1 0) fun x11 =>
      bif decide (0 ≤ x11) then
        gd (0 ≤ x11 ∧ x11 < (p1.length : Int)) <|
        some ((gt p1 x11).1)
      else
        some (ByteArray.mk #[48])

/-- loop.example/namedflags/impl.ShowShort -/
def m_impl_ShowShort (p1 : List (ByteArray × Int)) (p2 : Int) (p3 : Int) : Option (ByteArray) :=
  bd (m_impl_IsValue p1 p2 p3) fun x4 =>
  bif (!x4) then
    some ByteArray.empty
  else
    bd (m_impl_Flag_short p1 p2 p3) fun x5 =>
    bd (m_impl_names_anyDef x5) fun x6 =>
    bd (m_impl_together x5) fun x7 =>
    bd (m_impl_Flag_show p1 p2 x6 (Go.bits .andNot .i64 p3 x7)) fun x8 =>
    some x8

def m_spec_fitting_L1 (p1 : List (ByteArray × Int)) (p2 : Int) : Nat → (List (ByteArray × Int)) → Int → Option (List (ByteArray × Int))
  | 0, _, _ => none
  | fu + 1, v3, v4 =>
    bif decide (v4 < (p1.length : Int)) then
      gd (0 ≤ v4 ∧ v4 < (p1.length : Int)) <|
      bif decide (0 < ((gt p1 v4).2)) then
        bd (m_spec_less ((gt p1 v4).2) p2) fun x5 =>
        bif decide (x5 = 0) then
          gd (v3.length + ([((gt p1 v4).1, (gt p1 v4).2)] : List (ByteArray × Int)).length ≤ 1099511627776) <|
          m_spec_fitting_L1 p1 p2 fu (v3 ++ ([((gt p1 v4).1, (gt p1 v4).2)] : List (ByteArray × Int))) (IntKind.wrap .i64 (v4 + 1))
        else
          m_spec_fitting_L1 p1 p2 fu v3 (IntKind.wrap .i64 (v4 + 1))
      else
        m_spec_fitting_L1 p1 p2 fu v3 (IntKind.wrap .i64 (v4 + 1))
    else
      some v3

/-- loop.example/namedflags/spec.fitting -/
def m_spec_fitting (p1 : List (ByteArray × Int)) (p2 : Int) : Option (List (ByteArray × Int)) :=
  bd (m_spec_fitting_L1 p1 p2 FU ([] : List (ByteArray × Int)) 0) fun x6 =>
  some x6

def m_spec_fewest_L1 (rec : (List (ByteArray × Int)) → Int → Int → Int → Option ((List (ByteArray × Int)) × Bool)) (p1 : List (ByteArray × Int)) (p3 : Int) (p4 : Int) : Nat → Int → Option (List (ByteArray × Int) ⊕ Unit)
  | 0, _ => none
  | fu + 1, v5 =>
    bif decide (v5 < (p1.length : Int)) then
      gd (0 ≤ v5 ∧ v5 < (p1.length : Int)) <|
      bd (m_spec_less p4 ((gt p1 v5).2)) fun x6 =>
      bd (rec p1 (IntKind.wrap .i64 (v5 + 1)) (IntKind.wrap .i64 (p3 - 1)) x6) fun x7 =>
      bif x7.2 then
        gd (([((gt p1 v5).1, (gt p1 v5).2)] : List (ByteArray × Int)).length + x7.1.length ≤ 1099511627776) <|
        some (Sum.inl (([((gt p1 v5).1, (gt p1 v5).2)] : List (ByteArray × Int)) ++ x7.1))
      else
        m_spec_fewest_L1 rec p1 p3 p4 fu (IntKind.wrap .i64 (v5 + 1))
    else
      some (Sum.inr ())

/-- loop.example/namedflags/spec.fewest -/
def m_spec_fewest : Nat → (List (ByteArray × Int)) → (Int) → (Int) → (Int) → Option ((List (ByteArray × Int)) × Bool)
  | 0, _, _, _, _ => none
  | fu + 1, p1, p2, p3, p4 =>
    bif decide (p3 = 0) then
      some (([] : List (ByteArray × Int)), decide (p4 = 0))
    else
      bd (m_spec_fewest_L1 (m_spec_fewest fu) p1 p3 p4 FU p2) fun x8 =>
      sm x8 (fun x9 =>
        some (x9, true)) (fun x10 =>
        some (([] : List (ByteArray × Int)), false))

def m_spec_short_L1 (x3 : List (ByteArray × Int)) (x4 : Int) : Nat → Int → Option (List (ByteArray × Int) ⊕ Unit)
  | 0, _ => none
  | fu + 1, v5 =>
    bif decide (v5 ≤ (x3.length : Int)) then
      bd (m_spec_fewest FU x3 0 v5 x4) fun x6 =>
      bif x6.2 then
        some (Sum.inl x6.1)
      else
        m_spec_short_L1 x3 x4 fu (IntKind.wrap .i64 (v5 + 1))
    else
      some (Sum.inr ())

/-- loop.example/namedflags/spec.short -/
def m_spec_short (p1 : List (ByteArray × Int)) (p2 : Int) : Option (List (ByteArray × Int)) :=
  bd (m_spec_fitting p1 p2) fun x3 =>
  bd (m_spec_mask x3) fun x4 =>
  bd (m_spec_short_L1 x3 x4 FU 0) fun x7 =>
  sm x7 (fun x8 =>
    some x8) (fun x9 =>
    some ([] : List (ByteArray × Int)))

/-- loop.example/namedflags/spec.number -/
def m_spec_number : Nat → (Int) → Option (ByteArray)
  | 0, _ => none
  | fu + 1, p1 =>
    bif decide (p1 < 10) then
      gd (0 ≤ p1 ∧ p1 ≤ (IntKind.wrap .i64 (p1 + 1)) ∧ (IntKind.wrap .i64 (p1 + 1)) ≤ ((ByteArray.mk #[48, 49, 50, 51, 52, 53, 54, 55, 56, 57]).size : Int)) <|
      nm ((ByteArray.mk #[48, 49, 50, 51, 52, 53, 54, 55, 56, 57]).extract p1.toNat (IntKind.wrap .i64 (p1 + 1)).toNat) fun v2 =>
      some v2
    else
      gd ((10 : Int) ≠ 0 ∧ IntKind.wrap .i64 (Int.tdiv p1 10) = Int.tdiv p1 10) <|
      bd (m_spec_number fu (Int.tdiv p1 10)) fun x3 =>
      gd ((10 : Int) ≠ 0) <|
      bd (m_spec_number fu (Int.tmod p1 10)) fun x4 =>
      gd (x3.size + x4.size ≤ 9223372036854775807) <|
      some (x3 ++ x4)

/-- loop.example/namedflags/spec.zeroText -/
def m_spec_zeroText (p1 : List (ByteArray × Int)) : Option (ByteArray) :=
  bd (m_spec_valueAt p1 0) fun x2 =>
  bif decide (0 ≤ x2) then
    gd (0 ≤ x2 ∧ x2 < (p1.length : Int)) <|
    some ((gt p1 x2).1)
  else
    some (ByteArray.mk #[48])

def m_spec_joinWith_L1 (p1 : List (ByteArray)) (p2 : ByteArray) : Nat → ByteArray → Int → Option (ByteArray)
  | 0, _, _ => none
  | fu + 1, v3, v4 =>
    bif decide (v4 < (p1.length : Int)) then
      bif decide (0 < v4) then
        gd (v3.size + p2.size ≤ 9223372036854775807) <|
        gd (0 ≤ v4 ∧ v4 < (p1.length : Int)) <|
        gd ((v3 ++ p2).size + (gt p1 v4).size ≤ 9223372036854775807) <|
        m_spec_joinWith_L1 p1 p2 fu ((v3 ++ p2) ++ (gt p1 v4)) (IntKind.wrap .i64 (v4 + 1))
      else
        gd (0 ≤ v4 ∧ v4 < (p1.length : Int)) <|
        gd (v3.size + (gt p1 v4).size ≤ 9223372036854775807) <|
        m_spec_joinWith_L1 p1 p2 fu (v3 ++ (gt p1 v4)) (IntKind.wrap .i64 (v4 + 1))
    else
      some v3

/-- loop.example/namedflags/spec.joinWith -/
def m_spec_joinWith (p1 : List (ByteArray)) (p2 : ByteArray) : Option (ByteArray) :=
  bd (m_spec_joinWith_L1 p1 p2 FU ByteArray.empty 0) fun x5 =>
  some x5

/-- loop.example/namedflags/spec.withRest -/
def m_spec_withRest (p1 : List (ByteArray × Int)) (p2 : List (ByteArray)) (p3 : Int) : Option (ByteArray) :=
  bif decide (0 < p3) then
    gd (([] : List (ByteArray)).length + p2.length ≤ 1099511627776) <|
    bd (m_spec_number FU p3) fun x4 =>
    gd ((([] : List (ByteArray)) ++ p2).length + ([x4] : List (ByteArray)).length ≤ 1099511627776) <|
    nm ((((([] : List (ByteArray)) ++ p2) ++ ([x4] : List (ByteArray))).length : Int)) fun v5 =>
    bif decide (v5 = 0) then
      bd (m_spec_zeroText p1) fun x6 =>
      some x6
    else
      bd (m_spec_joinWith ((([] : List (ByteArray)) ++ p2) ++ ([x4] : List (ByteArray))) (ByteArray.mk #[124])) fun x7 =>
      some x7
  else
    bif decide ((p2.length : Int) = 0) then
      bd (m_spec_zeroText p1) fun x8 =>
      some x8
    else
      bd (m_spec_joinWith p2 (ByteArray.mk #[124])) fun x9 =>
      some x9

/-- loop.example/namedflags/spec.ShowShort -/
def m_spec_ShowShort (p1 : List (ByteArray × Int)) (p2 : Int) (p3 : Int) : Option (ByteArray) :=
  bd (m_spec_isValue p1 p2 p3) fun x4 =>
  bif (!x4) then
    some ByteArray.empty
  else
    bd (m_spec_short p1 p3) fun x5 =>
    bd (m_spec_namesOf x5) fun x6 =>
    bd (m_spec_mask x5) fun x7 =>
    bd (m_spec_less p3 x7) fun x8 =>
    bd (m_spec_withRest p1 x6 x8) fun x9 =>
    some x9

/-- loop.example/namedflags/laws.szDef -/
def m_laws_szDef (p1 : ByteArray) (p2 : Int) (p3 : Int) : Option (Int) :=
  bif decide ((IntKind.wrap .i64 (p3 - (p1.size : Int))) < 0) then
    some (-1)
  else
    some (IntKind.wrap .i64 (p3 - (p1.size : Int)))

def m_laws_szDefS_L1 (p1 : List (ByteArray × Int)) : Nat → Int → Int → Option (Unit ⊕ Int)
  | 0, _, _ => none
  | fu + 1, v3, v4 =>
    bif decide (v4 < (p1.length : Int)) then
      gd (0 ≤ v4 ∧ v4 < (p1.length : Int)) <|
      bd (m_laws_szDef ((gt p1 v4).1) ((gt p1 v4).2) v3) fun x5 =>
      bif decide (x5 < 0) then
        some (Sum.inl ())
      else
        m_laws_szDefS_L1 p1 fu x5 (IntKind.wrap .i64 (v4 + 1))
    else
      some (Sum.inr v3)

/-- loop.example/namedflags/laws.szDefS -/
def m_laws_szDefS (p1 : List (ByteArray × Int)) (p2 : Int) : Option (Int) :=
  bif decide ((IntKind.wrap .i64 (p2 - (p1.length : Int))) < 0) then
    some (-1)
  else
    bd (m_laws_szDefS_L1 p1 FU (IntKind.wrap .i64 (p2 - (p1.length : Int))) 0) fun x6 =>
    sm x6 (fun x7 =>
      some (-1)) (fun x8 =>
      some x8)

/-- loop.example/namedflags/laws.toDef -/
def m_laws_toDef (p1 : ByteArray) (p2 : Int) : Option (Unit) :=
  some ()

def m_laws_toDefS_L1 (p1 : List (ByteArray × Int)) : Nat → (List (ByteArray × Int)) → Int → Option (List (ByteArray × Int))
  | 0, _, _ => none
  | fu + 1, v2, v3 =>
    bif decide (v3 < (p1.length : Int)) then
      gd (0 ≤ v3 ∧ v3 < (p1.length : Int)) <|
      bd (m_laws_toDef ((gt p1 v3).1) ((gt p1 v3).2)) fun x4 =>
      gd (0 ≤ v3 ∧ v3 < (v2.length : Int)) <|
      m_laws_toDefS_L1 p1 fu (v2.set (0 + v3.toNat) (((gt p1 v3).1), ((gt p1 v3).2))) (IntKind.wrap .i64 (v3 + 1))
    else
      some v2

/-- loop.example/namedflags/laws.toDefS -/
def m_laws_toDefS (p1 : List (ByteArray × Int)) : Option (List (ByteArray × Int)) :=
  gd (0 ≤ (p1.length : Int) ∧ (p1.length : Int) = (p1.length : Int) ∧ (24 : Int) * (p1.length : Int) ≤ 281474976710656 ∧ (p1.length : Int) ≤ 9223372036854775807) <|
  bd (m_laws_toDefS_L1 p1 FU (List.replicate (p1.length : Int).toNat ((ByteArray.empty, 0) : ByteArray × Int)) 0) fun x5 =>
  some x5

/-- loop.example/namedflags/laws.szFlag -/
def m_laws_szFlag (p1 : List (ByteArray × Int)) (p2 : Int) (p3 : Int) : Option (Int) :=
  bd (m_laws_szDefS p1 p3) fun x4 =>
  bif decide (x4 < 0) then
    some (-1)
  else
    some x4

/-- loop.example/namedflags/laws.toFlag -/
def m_laws_toFlag (p1 : List (ByteArray × Int)) (p2 : Int) : Option (List (ByteArray × Int)) :=
  bd (m_laws_toDefS p1) fun x3 =>
  some x3

/-- loop.example/namedflags/laws.FnExactShowShort -/
def m_laws_FnExactShowShort (p1 : List (ByteArray × Int)) (p2 : Int) (p3 : Int) : Option (Bool) :=
  bd (m_laws_szFlag p1 p2 1048576) fun x4 =>
  bif decide (x4 < 0) then
    some true
  else
    bd (m_laws_toFlag p1 p2) fun x5 =>
    bd (m_spec_ShowShort x5 p2 p3) fun x6 =>
    bd (m_laws_toFlag p1 p2) fun x7 =>
    bd (m_impl_ShowShort x7 p2 p3) fun x8 =>
    bif (!decide (x8 = x6)) then
      some false
    else
      bd (m_laws_toFlag p1 p2) fun x9 =>
      bd (m_laws_eqFlag x7 p2 x9 p2) fun x10 =>
      bif (!x10) then
        some false
      else
        some true

end Go.Eng

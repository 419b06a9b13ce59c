/- What is said here: nothing is proved. A model of each function, printed by a program out of the translated code. -/
import Derived.Test.YtpoaggicbnldhaaCExactSortEnumEng25
set_option linter.unusedVariables false
set_option linter.unusedSimpArgs false
namespace Go.Eng
open Go

def enc_si (x : ByteArray × Int) : List Value := [.string x.1, .int .i64 x.2]

def enc_y (x : Int) : List Value := [.int .u8 x]

def FU : Nat := 4611686018427387904

def bstr (ns : List Int) : ByteArray := ns.foldl (fun r n => r.push (UInt8.ofNat n.toNat)) ByteArray.empty

/-- (*loop.example/namedflags/spec.reader).pick -/
def m_spec_reader_pick (p1 : Int) (p2 : List (Int)) (p3 : Int) : Option (Int) :=
  bif decide (p1 < 1) then
    some 0
  else
    bif decide ((p2.length : Int) = 0) then
      some 0
    else
      nm (decide ((IntKind.wrap .i64 ((IntKind.wrap .i64 (p3 + 1)) - 1)) < (p2.length : Int))) fun v4 =>
      bif v4 then
        gd (0 ≤ (IntKind.wrap .i64 ((IntKind.wrap .i64 (p3 + 1)) - 1)) ∧ (IntKind.wrap .i64 ((IntKind.wrap .i64 (p3 + 1)) - 1)) < (p2.length : Int)) <|
        nm ((gt p2 (IntKind.wrap .i64 ((IntKind.wrap .i64 (p3 + 1)) - 1)))) fun v5 =>
        gd (p1 ≠ 0) <|
        some (Int.tmod (IntKind.wrap .i64 (v5)) p1)
      else
        gd ((p2.length : Int) ≠ 0) <|
        nm (Int.tmod (IntKind.wrap .i64 ((IntKind.wrap .i64 (p3 + 1)) - 1)) (p2.length : Int)) fun v6 =>
        gd (0 ≤ v6 ∧ v6 < (p2.length : Int)) <|
        nm (IntKind.wrap .i64 ((IntKind.wrap .i64 ((IntKind.wrap .i64 (p3 + 1)) - 1)) * 7)) fun v7 =>
        gd (0 ≤ (Int.tmod (IntKind.wrap .i64 (v7 + 3)) (p2.length : Int)) ∧ (Int.tmod (IntKind.wrap .i64 (v7 + 3)) (p2.length : Int)) < (p2.length : Int)) <|
        nm ((gt p2 (Int.tmod (IntKind.wrap .i64 (v7 + 3)) (p2.length : Int)))) fun v8 =>
        nm (IntKind.wrap .i64 ((IntKind.wrap .i64 ((IntKind.wrap .i64 ((gt p2 v6))) * 131)) + (IntKind.wrap .i64 ((IntKind.wrap .i64 (v8)) * 1117)))) fun v9 =>
        nm (IntKind.wrap .i64 ((IntKind.wrap .i64 ((IntKind.wrap .i64 (p3 + 1)) - 1)) * 29)) fun v10 =>
        gd ((p2.length : Int) ≠ 0 ∧ IntKind.wrap .i64 (Int.tdiv (IntKind.wrap .i64 ((IntKind.wrap .i64 (p3 + 1)) - 1)) (p2.length : Int)) = Int.tdiv (IntKind.wrap .i64 ((IntKind.wrap .i64 (p3 + 1)) - 1)) (p2.length : Int)) <|
        nm (Int.tdiv (IntKind.wrap .i64 ((IntKind.wrap .i64 (p3 + 1)) - 1)) (p2.length : Int)) fun v11 =>
        nm (IntKind.wrap .i64 ((IntKind.wrap .i64 (v9 + v10)) + (IntKind.wrap .i64 (v11 * 53)))) fun v12 =>
        gd ((64 : Int) ≠ 0 ∧ IntKind.wrap .i64 (Int.tdiv v12 64) = Int.tdiv v12 64) <|
        gd (p1 ≠ 0) <|
        some (Int.tmod (Go.bits .xor .i64 v12 (Int.tdiv v12 64)) p1)

/-- (*loop.example/namedflags/spec.reader).one -/
def m_spec_reader_one (p1 : List (Int)) (p2 : List (Int)) (p3 : Int) : Option (Int) :=
  bd (m_spec_reader_pick (p1.length : Int) p2 p3) fun x4 =>
  gd (0 ≤ x4 ∧ x4 < (p1.length : Int)) <|
  some (gt p1 x4)

def m_spec_indexOf_L1 (p1 : List (ByteArray × Int)) (p2 : ByteArray) : Nat → Int → Option (Int ⊕ Unit)
  | 0, _ => none
  | fu + 1, v3 =>
    bif decide (v3 < (p1.length : Int)) then
      gd (0 ≤ v3 ∧ v3 < (p1.length : Int)) <|
      bif decide (((gt p1 v3).1) = p2) then
        some (Sum.inl v3)
      else
        m_spec_indexOf_L1 p1 p2 fu (IntKind.wrap .i64 (v3 + 1))
    else
      some (Sum.inr ())

/-- loop.example/namedflags/spec.indexOf -/
def m_spec_indexOf (p1 : List (ByteArray × Int)) (p2 : ByteArray) : Option (Int) :=
  bd (m_spec_indexOf_L1 p1 p2 FU 0) fun x4 =>
  sm x4 (fun x5 =>
    some x5) (fun x6 =>
    some (-1))

/-- loop.example/namedflags/impl.in -/
def m_impl_in (p1 : Int) (p2 : Int) (p3 : Int) : Option (Bool) :=
  bif decide (p2 ≤ p1) then
    some (decide (p1 ≤ p3))
  else
    some false

def m_impl_ValidName_L1 (p1 : ByteArray) : Nat → Int → Option (Unit ⊕ Unit)
  | 0, _ => none
  | fu + 1, v2 =>
    bif decide (v2 < (p1.size : Int)) then
      gd (0 ≤ v2 ∧ v2 < (p1.size : Int)) <|
      bif decide ((byteAt p1 v2.toNat) < 97) then
        some (Sum.inl ())
      else
        bif decide (122 < (byteAt p1 v2.toNat)) then
          some (Sum.inl ())
        else
          m_impl_ValidName_L1 p1 fu (IntKind.wrap .i64 (v2 + 1))
    else
      some (Sum.inr ())

/-- loop.example/namedflags/impl.ValidName -/
def m_impl_ValidName (p1 : ByteArray) : Option (Bool) :=
  bd (m_impl_ValidName_L1 p1 FU 0) fun x3 =>
  sm x3 (fun x4 =>
    some false) (fun x5 =>
    bd (m_impl_in (p1.size : Int) 1 6) fun x6 =>
    some x6)

/-- loop.example/namedflags/impl.named$1 -/
def m_impl_named_1_l (p1 : ByteArray) (p2 : Int) (p3 : ByteArray) : Option (Unit) :=
  some ()

def m_slices_IndexFunc_si_named_1_l_L1 (p1 : List (ByteArray × Int)) (p2 : ByteArray) : Nat → Int → Option (Int ⊕ Unit)
  | 0, _ => none
  | fu + 1, v3 =>
    bif decide (v3 < (p1.length : Int)) then
      gd (0 ≤ v3 ∧ v3 < (p1.length : Int)) <|
      bd (m_impl_named_1_l ((gt p1 v3).1) ((gt p1 v3).2) p2) fun x4 =>
      bif decide (((gt p1 v3).1) = p2) then
        some (Sum.inl v3)
      else
        m_slices_IndexFunc_si_named_1_l_L1 p1 p2 fu (IntKind.wrap .i64 (v3 + 1))
    else
      some (Sum.inr ())

/-- slices.IndexFunc[[]loop.example/namedflags/impl.Def,loop.example/namedflags/impl.Def] -/
def m_slices_IndexFunc_si_named_1_l (p1 : List (ByteArray × Int)) (p2 : ByteArray) : Option (Int) :=
  bd (m_slices_IndexFunc_si_named_1_l_L1 p1 p2 FU 0) fun x5 =>
  sm x5 (fun x6 =>
    some x6) (fun x7 =>
    some (-1))

/-- loop.example/namedflags/impl.named -/
def m_impl_named (p1 : List (ByteArray × Int)) (p2 : ByteArray) : Option (Int) :=
  bd (m_slices_IndexFunc_si_named_1_l p1 p2) fun x3 =>
  some x3

def m_impl_defsValid_L1 (p1 : List (ByteArray × Int)) (p2 : Int) (p3 : Int) : Nat → Int → Option (Unit ⊕ Unit)
  | 0, _ => none
  | fu + 1, v4 =>
    bif decide (v4 < (p1.length : Int)) then
      gd (0 ≤ v4 ∧ v4 < (p1.length : Int)) <|
      bd (m_impl_ValidName ((gt p1 v4).1)) fun x5 =>
      bif (!x5) then
        some (Sum.inl ())
      else
        bd (m_impl_in ((gt p1 v4).2) p2 p3) fun x6 =>
        bif (!x6) then
          some (Sum.inl ())
        else
          gd (0 ≤ (0 : Int) ∧ (0 : Int) ≤ v4 ∧ v4 ≤ (p1.length : Int) ∧ (p1.length : Int) ≤ (p1.length : Int)) <|
          bd (m_impl_named (sub p1 (0 : Int) v4) ((gt p1 v4).1)) fun x7 =>
          bif decide (0 ≤ x7) then
            some (Sum.inl ())
          else
            m_impl_defsValid_L1 p1 p2 p3 fu (IntKind.wrap .i64 (v4 + 1))
    else
      some (Sum.inr ())

/-- loop.example/namedflags/impl.defsValid -/
def m_impl_defsValid (p1 : List (ByteArray × Int)) (p2 : Int) (p3 : Int) : Option (Bool) :=
  bd (m_impl_defsValid_L1 p1 p2 p3 FU 0) fun x8 =>
  sm x8 (fun x9 =>
    some false) (fun x10 =>
    some (decide ((p1.length : Int) ≤ 12)))

/-- loop.example/namedflags/spec.inRange -/
def m_spec_inRange (p1 : Int) (p2 : Int) (p3 : Int) : Option (Bool) :=
  bif decide (p2 ≤ p1) then
    some (decide (p1 ≤ p3))
  else
    some false

def m_spec_validName_L1 (p1 : ByteArray) : Nat → Int → Option (Unit ⊕ Unit)
  | 0, _ => none
  | fu + 1, v2 =>
    bif decide (v2 < (p1.size : Int)) then
      gd (0 ≤ v2 ∧ v2 < (p1.size : Int)) <|
      bif decide ((byteAt p1 v2.toNat) < 97) then
        some (Sum.inl ())
      else
        bif decide (122 < (byteAt p1 v2.toNat)) then
          some (Sum.inl ())
        else
          m_spec_validName_L1 p1 fu (IntKind.wrap .i64 (v2 + 1))
    else
      some (Sum.inr ())

/-- loop.example/namedflags/spec.validName -/
def m_spec_validName (p1 : ByteArray) : Option (Bool) :=
  bd (m_spec_validName_L1 p1 FU 0) fun x3 =>
  sm x3 (fun x4 =>
    some false) (fun x5 =>
    bd (m_spec_inRange (p1.size : Int) 1 6) fun x6 =>
    some x6)

def m_spec_validDefs_L1 (p1 : List (ByteArray × Int)) (p2 : Int) (p3 : Int) : Nat → Int → Option (Unit ⊕ Unit)
  | 0, _ => none
  | fu + 1, v4 =>
    bif decide (v4 < (p1.length : Int)) then
      gd (0 ≤ v4 ∧ v4 < (p1.length : Int)) <|
      bd (m_spec_validName ((gt p1 v4).1)) fun x5 =>
      bif (!x5) then
        some (Sum.inl ())
      else
        bd (m_spec_inRange ((gt p1 v4).2) p2 p3) fun x6 =>
        bif (!x6) then
          some (Sum.inl ())
        else
          gd (0 ≤ (0 : Int) ∧ (0 : Int) ≤ v4 ∧ v4 ≤ (p1.length : Int) ∧ (p1.length : Int) ≤ (p1.length : Int)) <|
          bd (m_spec_indexOf (sub p1 (0 : Int) v4) ((gt p1 v4).1)) fun x7 =>
          bif decide (0 ≤ x7) then
            some (Sum.inl ())
          else
            m_spec_validDefs_L1 p1 p2 p3 fu (IntKind.wrap .i64 (v4 + 1))
    else
      some (Sum.inr ())

/-- loop.example/namedflags/spec.validDefs -/
def m_spec_validDefs (p1 : List (ByteArray × Int)) (p2 : Int) (p3 : Int) : Option (Bool) :=
  bd (m_spec_validDefs_L1 p1 p2 p3 FU 0) fun x8 =>
  sm x8 (fun x9 =>
    some false) (fun x10 =>
    some (decide ((p1.length : Int) ≤ 12)))

/-- slices.Clip[[]loop.example/namedflags/impl.Def,loop.example/namedflags/impl.Def] -/
def m_slices_Clip_si (p1 : List (ByteArray × Int)) : Option (Unit) :=
  gd (0 ≤ (0 : Int) ∧ (0 : Int) ≤ (p1.length : Int) ∧ (p1.length : Int) ≤ (p1.length : Int) ∧ (p1.length : Int) ≤ (p1.length : Int)) <|
  some ()

/-- slices.Clip[[]loop.example/namedflags/impl.Def,loop.example/namedflags/impl.Def] -/
def m_slices_Clip_hsi (p1 : List (ByteArray × Int)) : Option (Unit) :=
  some ()

/-- slices.Clone[[]loop.example/namedflags/impl.Def,loop.example/namedflags/impl.Def] -/
def m_slices_Clone_si (p1 : List (ByteArray × Int)) : Option (List (ByteArray × Int)) :=
  gd (p1.length ≤ 1099511627776) <|
  some p1

/-- loop.example/namedflags/impl.clone[loop.example/namedflags/impl.Def] -/
def m_impl_clone_si (p1 : List (ByteArray × Int)) : Option (List (ByteArray × Int)) :=
  bd (m_slices_Clone_si p1) fun x2 =>
  bd (m_slices_Clip_hsi x2) fun x3 =>
  some x2

/-- loop.example/namedflags/laws.eqDef -/
def m_laws_eqDef (p1 : ByteArray) (p2 : Int) (p3 : ByteArray) (p4 : Int) : Option (Bool) :=
  bif (!decide (p1 = p3)) then
    some false
  else
    bif (!decide (p2 = p4)) then
      some false
    else
      some true

def m_laws_eqDefS_L1 (p1 : List (ByteArray × Int)) (p2 : List (ByteArray × Int)) : Nat → Int → Option (Unit ⊕ Unit)
  | 0, _ => none
  | fu + 1, v3 =>
    bif decide (v3 < (p1.length : Int)) then
      gd (0 ≤ v3 ∧ v3 < (p1.length : Int)) <|
      gd (0 ≤ v3 ∧ v3 < (p2.length : Int)) <|
      bd (m_laws_eqDef ((gt p1 v3).1) ((gt p1 v3).2) ((gt p2 v3).1) ((gt p2 v3).2)) fun x4 =>
      bif (!x4) then
        some (Sum.inl ())
      else
        m_laws_eqDefS_L1 p1 p2 fu (IntKind.wrap .i64 (v3 + 1))
    else
      some (Sum.inr ())

/-- loop.example/namedflags/laws.eqDefS -/
def m_laws_eqDefS (p1 : List (ByteArray × Int)) (p2 : List (ByteArray × Int)) : Option (Bool) :=
  bif (!decide ((p1.length : Int) = (p2.length : Int))) then
    some false
  else
    bd (m_laws_eqDefS_L1 p1 p2 FU 0) fun x5 =>
    sm x5 (fun x6 =>
      some false) (fun x7 =>
      some true)

def m_laws_markText_L1  : Nat → Int → ByteArray → Option (ByteArray)
  | 0, _, _ => none
  | fu + 1, v2, v3 =>
    bif decide (0 < v2) then
      gd ((10 : Int) ≠ 0) <|
      nm (bstr ([IntKind.wrap .u8 (IntKind.wrap .i64 (48 + (Int.tmod v2 10)))] : List (Int))) fun v4 =>
      gd (v4.size + v3.size ≤ 9223372036854775807) <|
      gd ((10 : Int) ≠ 0 ∧ IntKind.wrap .i64 (Int.tdiv v2 10) = Int.tdiv v2 10) <|
      m_laws_markText_L1  fu (Int.tdiv v2 10) (v4 ++ v3)
    else
      some v3

/-- loop.example/namedflags/laws.markText -/
def m_laws_markText (p1 : Int) : Option (ByteArray) :=
  bif decide (p1 ≤ 0) then
    some (ByteArray.mk #[109, 48])
  else
    bd (m_laws_markText_L1 FU p1 ByteArray.empty) fun x5 =>
    gd ((ByteArray.mk #[109]).size + x5.size ≤ 9223372036854775807) <|
    some ((ByteArray.mk #[109]) ++ x5)

def m_laws_markDefS_h_L1  : Nat → Int → Int → (List (ByteArray × Int)) → Option (Int × (List (ByteArray × Int)))
  | 0, _, _, _ => none
  | fu + 1, v3, v4, v5 =>
    bif decide (v4 < (v5.length : Int)) then
      bd (m_laws_markText v3) fun x6 =>
      gd (0 ≤ v4 ∧ v4 < (v5.length : Int)) <|
      m_laws_markDefS_h_L1  fu (IntKind.wrap .i64 ((IntKind.wrap .i64 (v3 + 1)) + 1)) (IntKind.wrap .i64 (v4 + 1)) ((v5.set (0 + v4.toNat) (x6, (gt v5 v4).2)).set (0 + v4.toNat) ((gt (v5.set (0 + v4.toNat) (x6, (gt v5 v4).2)) v4).1, IntKind.wrap .i64 (v3 + 1)))
    else
      some (v3, v5)

/-- loop.example/namedflags/laws.markDefS -/
def m_laws_markDefS_h (p1 : Int) (p2 : List (ByteArray × Int)) : Option (Int × (List (ByteArray × Int))) :=
  bd (m_laws_markDefS_h_L1 FU p1 0 p2) fun x7 =>
  some (x7.1, x7.2)

def m_laws_heldDefS_L1 (p1 : List (ByteArray × Int)) : Nat → Int → Int → Option (Unit ⊕ Int)
  | 0, _, _ => none
  | fu + 1, v3, v4 =>
    bif decide (v4 < (p1.length : Int)) then
      gd (0 ≤ v4 ∧ v4 < (p1.length : Int)) <|
      bd (m_laws_markText v3) fun x5 =>
      bif (!decide (((gt p1 v4).1) = x5)) then
        some (Sum.inl ())
      else
        bif (!decide (((gt p1 v4).2) = (IntKind.wrap .i64 (v3 + 1)))) then
          some (Sum.inl ())
        else
          m_laws_heldDefS_L1 p1 fu (IntKind.wrap .i64 ((IntKind.wrap .i64 (v3 + 1)) + 1)) (IntKind.wrap .i64 (v4 + 1))
    else
      some (Sum.inr v3)

/-- loop.example/namedflags/laws.heldDefS -/
def m_laws_heldDefS (p1 : List (ByteArray × Int)) (p2 : Int) : Option (Int) :=
  bd (m_laws_heldDefS_L1 p1 FU p2 0) fun x6 =>
  sm x6 (fun x7 =>
    some (-1)) (fun x8 =>
    some x8)

/-- loop.example/namedflags/impl.ValidEnum -/
def m_impl_ValidEnum (p1 : List (ByteArray × Int)) : Option (Bool) :=
  bd (m_impl_defsValid p1 (-1000) 1000) fun x2 =>
  some x2

/-- loop.example/namedflags/spec.validEnum -/
def m_spec_validEnum (p1 : List (ByteArray × Int)) : Option (Bool) :=
  bd (m_spec_validDefs p1 (-1000) 1000) fun x2 =>
  some x2

/-- cmp.isNaN[int] -/
def m_cmp_isNaN (p1 : Int) : Option (Unit) :=
  some ()

/-- cmp.Compare[int] -/
def m_cmp_Compare (p1 : Int) (p2 : Int) : Option (Int) :=
  bd (m_cmp_isNaN p1) fun x3 =>
  bd (m_cmp_isNaN p2) fun x4 =>
  bif (!decide (p1 = p1)) then
    bif (!decide (p2 = p2)) then
      some 0
    else
      some (-1)
  else
    bif (!decide (p2 = p2)) then
      some 1
    else
      bif decide (p1 < p2) then
        some (-1)
      else
        bif decide (p2 < p1) then
          some 1
        else
          some 0

/-- loop.example/namedflags/spec.copyDefs -/
def m_spec_copyDefs (p1 : List (ByteArray × Int)) : Option (Unit) :=
  gd (([] : List (ByteArray × Int)).length + p1.length ≤ 1099511627776) <|
  some ()

/-- loop.example/namedflags/laws.szDef -/
def m_laws_szDef (p1 : ByteArray) (p2 : Int) (p3 : Int) : Option (Int) :=
  bif decide ((IntKind.wrap .i64 (p3 - (p1.size : Int))) < 0) then
    some (-1)
  else
    some (IntKind.wrap .i64 (p3 - (p1.size : Int)))

def m_laws_szDefS_L1 (p1 : List (ByteArray × Int)) : Nat → Int → Int → Option (Unit ⊕ Int)
  | 0, _, _ => none
  | fu + 1, v3, v4 =>
    bif decide (v4 < (p1.length : Int)) then
      gd (0 ≤ v4 ∧ v4 < (p1.length : Int)) <|
      bd (m_laws_szDef ((gt p1 v4).1) ((gt p1 v4).2) v3) fun x5 =>
      bif decide (x5 < 0) then
        some (Sum.inl ())
      else
        m_laws_szDefS_L1 p1 fu x5 (IntKind.wrap .i64 (v4 + 1))
    else
      some (Sum.inr v3)

/-- loop.example/namedflags/laws.szDefS -/
def m_laws_szDefS (p1 : List (ByteArray × Int)) (p2 : Int) : Option (Int) :=
  bif decide ((IntKind.wrap .i64 (p2 - (p1.length : Int))) < 0) then
    some (-1)
  else
    bd (m_laws_szDefS_L1 p1 FU (IntKind.wrap .i64 (p2 - (p1.length : Int))) 0) fun x6 =>
    sm x6 (fun x7 =>
      some (-1)) (fun x8 =>
      some x8)

/-- loop.example/namedflags/laws.szEnum -/
def m_laws_szEnum (p1 : List (ByteArray × Int)) (p2 : Int) : Option (Int) :=
  bd (m_laws_szDefS p1 p2) fun x3 =>
  bif decide (x3 < 0) then
    some (-1)
  else
    some x3

/-- loop.example/namedflags/laws.toDef -/
def m_laws_toDef (p1 : ByteArray) (p2 : Int) : Option (Unit) :=
  some ()

def m_laws_toDefS_L1 (p1 : List (ByteArray × Int)) : Nat → (List (ByteArray × Int)) → Int → Option (List (ByteArray × Int))
  | 0, _, _ => none
  | fu + 1, v2, v3 =>
    bif decide (v3 < (p1.length : Int)) then
      gd (0 ≤ v3 ∧ v3 < (p1.length : Int)) <|
      bd (m_laws_toDef ((gt p1 v3).1) ((gt p1 v3).2)) fun x4 =>
      gd (0 ≤ v3 ∧ v3 < (v2.length : Int)) <|
      m_laws_toDefS_L1 p1 fu (v2.set (0 + v3.toNat) (((gt p1 v3).1), ((gt p1 v3).2))) (IntKind.wrap .i64 (v3 + 1))
    else
      some v2

/-- loop.example/namedflags/laws.toDefS -/
def m_laws_toDefS (p1 : List (ByteArray × Int)) : Option (List (ByteArray × Int)) :=
  gd (0 ≤ (p1.length : Int) ∧ (p1.length : Int) = (p1.length : Int) ∧ (24 : Int) * (p1.length : Int) ≤ 281474976710656 ∧ (p1.length : Int) ≤ 9223372036854775807) <|
  bd (m_laws_toDefS_L1 p1 FU (List.replicate (p1.length : Int).toNat ((ByteArray.empty, 0) : ByteArray × Int)) 0) fun x5 =>
  some x5

/-- loop.example/namedflags/laws.toEnum -/
def m_laws_toEnum (p1 : List (ByteArray × Int)) : Option (List (ByteArray × Int)) :=
  bd (m_laws_toDefS p1) fun x2 =>
  some x2

/-- loop.example/namedflags/laws.eqEnum -/
def m_laws_eqEnum (p1 : List (ByteArray × Int)) (p2 : List (ByteArray × Int)) : Option (Bool) :=
  bd (m_laws_eqDefS p1 p2) fun x3 =>
  bif (!x3) then
    some false
  else
    some true

/-- loop.example/namedflags/laws.markEnum -/
def m_laws_markEnum_h (p1 : Int) (p2 : List (ByteArray × Int)) : Option (Int × (List (ByteArray × Int))) :=
  bd (m_laws_markDefS_h p1 p2) fun x3 =>
  gd (x3.2.length = p2.length) <|
  some (x3.1, x3.2)

def m_spec_SortEnum_L2 (p1 : List (ByteArray × Int)) (v3 : List (ByteArray × Int)) (v4 : Int) : Nat → Int → Option (Int)
  | 0, _ => none
  | fu + 1, v5 =>
    bif decide (v5 < (v3.length : Int)) then
      gd (0 ≤ v5 ∧ v5 < (v3.length : Int)) <|
      gd (0 ≤ v4 ∧ v4 < (p1.length : Int)) <|
      bif decide (((gt v3 v5).2) ≤ ((gt p1 v4).2)) then
        m_spec_SortEnum_L2 p1 v3 v4 fu (IntKind.wrap .i64 (v5 + 1))
      else
        some v5
    else
      some v5

def m_spec_SortEnum_L1 (p1 : List (ByteArray × Int)) : Nat → (List (ByteArray × Int)) → Int → Option (List (ByteArray × Int))
  | 0, _, _ => none
  | fu + 1, v3, v4 =>
    bif decide (v4 < (p1.length : Int)) then
      bd (m_spec_SortEnum_L2 p1 v3 v4 FU 0) fun x6 =>
      gd (0 ≤ (0 : Int) ∧ (0 : Int) ≤ x6 ∧ x6 ≤ (v3.length : Int) ∧ (v3.length : Int) ≤ (v3.length : Int)) <|
      bd (m_spec_copyDefs (sub v3 (0 : Int) x6)) fun x7 =>
      gd (0 ≤ v4 ∧ v4 < (p1.length : Int)) <|
      gd ((([] : List (ByteArray × Int)) ++ (sub v3 (0 : Int) x6)).length + ([((gt p1 v4).1, (gt p1 v4).2)] : List (ByteArray × Int)).length ≤ 1099511627776) <|
      gd (0 ≤ x6 ∧ x6 ≤ (v3.length : Int) ∧ (v3.length : Int) ≤ (v3.length : Int) ∧ (v3.length : Int) ≤ (v3.length : Int)) <|
      gd (((([] : List (ByteArray × Int)) ++ (sub v3 (0 : Int) x6)) ++ ([((gt p1 v4).1, (gt p1 v4).2)] : List (ByteArray × Int))).length + (sub v3 x6 (v3.length : Int)).length ≤ 1099511627776) <|
      m_spec_SortEnum_L1 p1 fu (((([] : List (ByteArray × Int)) ++ (sub v3 (0 : Int) x6)) ++ ([((gt p1 v4).1, (gt p1 v4).2)] : List (ByteArray × Int))) ++ (sub v3 x6 (v3.length : Int))) (IntKind.wrap .i64 (v4 + 1))
    else
      some v3

/-- loop.example/namedflags/spec.SortEnum -/
def m_spec_SortEnum (p1 : List (ByteArray × Int)) : Option (List (ByteArray × Int)) :=
  bd (m_spec_validEnum p1) fun x2 =>
  bif (!x2) then
    some ([] : List (ByteArray × Int))
  else
    bd (m_spec_SortEnum_L1 p1 FU ([] : List (ByteArray × Int)) 0) fun x8 =>
    some x8

/-- loop.example/namedflags/impl.SortEnum$1 -/
def m_impl_SortEnum_1 (p1 : ByteArray) (p2 : Int) (p3 : ByteArray) (p4 : Int) : Option (Int) :=
  bd (m_cmp_Compare p2 p4) fun x5 =>
  some x5

def m_slices_insertionSortCmpFunc_h_SortEnum_1_si_L2 (p1 : Int) (p2 : Int) (v4 : Int) : Nat → Int → (List (ByteArray × Int)) → Option (List (ByteArray × Int))
  | 0, _, _ => none
  | fu + 1, v6, v7 =>
    bif decide (p1 < v6) then
      gd (0 ≤ v6 ∧ v6 < (v7.length : Int)) <|
      gd (0 ≤ (IntKind.wrap .i64 (v6 - 1)) ∧ (IntKind.wrap .i64 (v6 - 1)) < (v7.length : Int)) <|
      bd (m_impl_SortEnum_1 ((gt v7 v6).1) ((gt v7 v6).2) ((gt v7 (IntKind.wrap .i64 (v6 - 1))).1) ((gt v7 (IntKind.wrap .i64 (v6 - 1))).2)) fun x8 =>
      bif decide (x8 < 0) then
        m_slices_insertionSortCmpFunc_h_SortEnum_1_si_L2 p1 p2 v4 fu (IntKind.wrap .i64 (v6 - 1)) ((v7.set (0 + v6.toNat) ((gt v7 (IntKind.wrap .i64 (v6 - 1))).1, (gt v7 (IntKind.wrap .i64 (v6 - 1))).2)).set (0 + (IntKind.wrap .i64 (v6 - 1)).toNat) ((gt v7 v6).1, (gt v7 v6).2))
      else
        some v7
    else
      some v7

def m_slices_insertionSortCmpFunc_h_SortEnum_1_si_L1 (p1 : Int) (p2 : Int) : Nat → Int → (List (ByteArray × Int)) → Option (List (ByteArray × Int))
  | 0, _, _ => none
  | fu + 1, v4, v5 =>
    bif decide (v4 < p2) then
      bd (m_slices_insertionSortCmpFunc_h_SortEnum_1_si_L2 p1 p2 v4 FU v4 v5) fun x9 =>
      m_slices_insertionSortCmpFunc_h_SortEnum_1_si_L1 p1 p2 fu (IntKind.wrap .i64 (v4 + 1)) x9
    else
      some v5

/-- slices.insertionSortCmpFunc[loop.example/namedflags/impl.Def] -/
def m_slices_insertionSortCmpFunc_h_SortEnum_1_si (p1 : Int) (p2 : Int) (p3 : List (ByteArray × Int)) : Option (List (ByteArray × Int)) :=
  bd (m_slices_insertionSortCmpFunc_h_SortEnum_1_si_L1 p1 p2 FU (IntKind.wrap .i64 (p1 + 1)) p3) fun x10 =>
  some x10

def m_slices_stableCmpFunc_h_SortEnum_1_si_L1 (p1 : Int) : Nat → Int → Int → (List (ByteArray × Int)) → Option (Int × (List (ByteArray × Int)))
  | 0, _, _, _ => none
  | fu + 1, v3, v4, v5 =>
    bif decide (v4 ≤ p1) then
      bd (m_slices_insertionSortCmpFunc_h_SortEnum_1_si v3 v4 v5) fun x6 =>
      gd (x6.length = v5.length) <|
      m_slices_stableCmpFunc_h_SortEnum_1_si_L1 p1 fu v4 (IntKind.wrap .i64 (v4 + 20)) x6
    else
      some (v3, v5)

def m_slices_stableCmpFunc_h_SortEnum_1_si_L3 (p1 : Int) (x8 : List (ByteArray × Int)) (v9 : Int) : Nat → Option (Unit)
  | 0 => none
  | fu + 1 =>
    bif decide ((IntKind.wrap .i64 (2 * v9)) ≤ p1) then
      none
    else
      some ()

def m_slices_stableCmpFunc_h_SortEnum_1_si_L2 (p1 : Int) (x8 : List (ByteArray × Int)) : Nat → Int → Option (Unit)
  | 0, _ => none
  | fu + 1, v9 =>
    bif decide (v9 < p1) then
      bd (m_slices_stableCmpFunc_h_SortEnum_1_si_L3 p1 x8 v9 FU) fun x10 =>
      bif decide ((IntKind.wrap .i64 (0 + v9)) < p1) then
        none
      else
        m_slices_stableCmpFunc_h_SortEnum_1_si_L2 p1 x8 fu (IntKind.wrap .i64 (v9 * 2))
    else
      some ()

/-- slices.stableCmpFunc[loop.example/namedflags/impl.Def] -/
def m_slices_stableCmpFunc_h_SortEnum_1_si (p1 : Int) (p2 : List (ByteArray × Int)) : Option (List (ByteArray × Int)) :=
  bd (m_slices_stableCmpFunc_h_SortEnum_1_si_L1 p1 FU 0 20 p2) fun x7 =>
  bd (m_slices_insertionSortCmpFunc_h_SortEnum_1_si x7.1 p1 x7.2) fun x8 =>
  gd (x8.length = x7.2.length) <|
  bd (m_slices_stableCmpFunc_h_SortEnum_1_si_L2 p1 x8 FU 20) fun x11 =>
  some x8

/-- slices.SortStableFunc[[]loop.example/namedflags/impl.Def,loop.example/namedflags/impl.Def] -/
def m_slices_SortStableFunc_h_SortEnum_1_si (p1 : List (ByteArray × Int)) : Option (List (ByteArray × Int)) :=
  bd (m_slices_stableCmpFunc_h_SortEnum_1_si (p1.length : Int) p1) fun x2 =>
  gd (x2.length = p1.length) <|
  some x2

/-- loop.example/namedflags/impl.SortEnum -/
def m_impl_SortEnum (p1 : List (ByteArray × Int)) : Option (List (ByteArray × Int)) :=
  bd (m_impl_ValidEnum p1) fun x2 =>
  bif (!x2) then
    some ([] : List (ByteArray × Int))
  else
    bd (m_impl_clone_si p1) fun x3 =>
    bd (m_slices_SortStableFunc_h_SortEnum_1_si x3) fun x4 =>
    gd (x4.length = x3.length) <|
    some x4

/-- loop.example/namedflags/laws.heldEnum -/
def m_laws_heldEnum (p1 : List (ByteArray × Int)) (p2 : Int) : Option (Int) :=
  bd (m_laws_heldDefS p1 p2) fun x3 =>
  bif decide (x3 < 0) then
    some (-1)
  else
    some x3

/-- loop.example/namedflags/laws.FnExactSortEnum -/
def m_laws_FnExactSortEnum (p1 : List (ByteArray × Int)) : Option (Bool) :=
  bd (m_laws_szEnum p1 1048576) fun x2 =>
  bif decide (x2 < 0) then
    some true
  else
    bd (m_laws_toEnum p1) fun x3 =>
    bd (m_spec_SortEnum x3) fun x4 =>
    bd (m_laws_toEnum p1) fun x5 =>
    bd (m_impl_SortEnum x5) fun x6 =>
    bd (m_laws_eqEnum x6 x4) fun x7 =>
    bif (!x7) then
      some false
    else
      bd (m_laws_toEnum p1) fun x8 =>
      bd (m_laws_eqEnum x5 x8) fun x9 =>
      bif (!x9) then
        some false
      else
        bd (m_laws_markEnum_h 1 x5) fun x10 =>
        gd (x10.2.length = x5.length) <|
        bif decide (x10.1 < 0) then
          some false
        else
          bd (m_laws_eqEnum x6 x4) fun x11 =>
          bif (!x11) then
            some false
          else
            bd (m_laws_markEnum_h 1 x6) fun x12 =>
            gd (x12.2.length = x6.length) <|
            bd (m_laws_heldEnum x12.2 1) fun x13 =>
            bif decide (x13 < 0) then
              some false
            else
              bif (!decide (x13 = x12.1)) then
                some false
              else
                bd (m_laws_toEnum p1) fun x14 =>
                bd (m_impl_SortEnum x14) fun x15 =>
                bd (m_laws_eqEnum x15 x4) fun x16 =>
                bif (!x16) then
                  some false
                else
                  bd (m_laws_heldEnum x12.2 1) fun x17 =>
                  bif decide (x17 < 0) then
                    some false
                  else
                    bif (!decide (x17 = x12.1)) then
                      some false
                    else
                      some true

end Go.Eng

/- What is said here: nothing is proved. A model of each function, printed by a program out of the translated code. -/
import Derived.Test.YtomemaanjendhaaDoorCExactParseEnumEng27
set_option linter.unusedVariables false
set_option linter.unusedSimpArgs false
namespace Go.Eng
open Go

def enc_s (x : ByteArray) : List Value := [.string x]

def enc_sbi (x : ByteArray × Bool × Int) : List Value := [.string x.1, .bool x.2.1, .int .i64 x.2.2]

def enc_si (x : ByteArray × Int) : List Value := [.string x.1, .int .i64 x.2]

def enc_y (x : Int) : List Value := [.int .u8 x]

def FU : Nat := 4611686018427387904

def bstr (ns : List Int) : ByteArray := ns.foldl (fun r n => r.push (UInt8.ofNat n.toNat)) ByteArray.empty

/-- (*loop.example/namedflags/spec.reader).pick -/
def m_spec_reader_pick (p1 : Int) (p2 : List (Int)) (p3 : Int) : Option (Int) :=
  bif decide (p1 < 1) then
    some 0
  else
    bif decide ((p2.length : Int) = 0) then
      some 0
    else
      nm (decide ((IntKind.wrap .i64 ((IntKind.wrap .i64 (p3 + 1)) - 1)) < (p2.length : Int))) fun v4 =>
      bif v4 then
        gd (0 ≤ (IntKind.wrap .i64 ((IntKind.wrap .i64 (p3 + 1)) - 1)) ∧ (IntKind.wrap .i64 ((IntKind.wrap .i64 (p3 + 1)) - 1)) < (p2.length : Int)) <|
        nm ((gt p2 (IntKind.wrap .i64 ((IntKind.wrap .i64 (p3 + 1)) - 1)))) fun v5 =>
        gd (p1 ≠ 0) <|
        some (Int.tmod (IntKind.wrap .i64 (v5)) p1)
      else
        gd ((p2.length : Int) ≠ 0) <|
        nm (Int.tmod (IntKind.wrap .i64 ((IntKind.wrap .i64 (p3 + 1)) - 1)) (p2.length : Int)) fun v6 =>
        gd (0 ≤ v6 ∧ v6 < (p2.length : Int)) <|
        nm (IntKind.wrap .i64 ((IntKind.wrap .i64 ((IntKind.wrap .i64 (p3 + 1)) - 1)) * 7)) fun v7 =>
        gd (0 ≤ (Int.tmod (IntKind.wrap .i64 (v7 + 3)) (p2.length : Int)) ∧ (Int.tmod (IntKind.wrap .i64 (v7 + 3)) (p2.length : Int)) < (p2.length : Int)) <|
        nm ((gt p2 (Int.tmod (IntKind.wrap .i64 (v7 + 3)) (p2.length : Int)))) fun v8 =>
        nm (IntKind.wrap .i64 ((IntKind.wrap .i64 ((IntKind.wrap .i64 ((gt p2 v6))) * 131)) + (IntKind.wrap .i64 ((IntKind.wrap .i64 (v8)) * 1117)))) fun v9 =>
        nm (IntKind.wrap .i64 ((IntKind.wrap .i64 ((IntKind.wrap .i64 (p3 + 1)) - 1)) * 29)) fun v10 =>
        gd ((p2.length : Int) ≠ 0 ∧ IntKind.wrap .i64 (Int.tdiv (IntKind.wrap .i64 ((IntKind.wrap .i64 (p3 + 1)) - 1)) (p2.length : Int)) = Int.tdiv (IntKind.wrap .i64 ((IntKind.wrap .i64 (p3 + 1)) - 1)) (p2.length : Int)) <|
        nm (Int.tdiv (IntKind.wrap .i64 ((IntKind.wrap .i64 (p3 + 1)) - 1)) (p2.length : Int)) fun v11 =>
        nm (IntKind.wrap .i64 ((IntKind.wrap .i64 (v9 + v10)) + (IntKind.wrap .i64 (v11 * 53)))) fun v12 =>
        gd ((64 : Int) ≠ 0 ∧ IntKind.wrap .i64 (Int.tdiv v12 64) = Int.tdiv v12 64) <|
        gd (p1 ≠ 0) <|
        some (Int.tmod (Go.bits .xor .i64 v12 (Int.tdiv v12 64)) p1)

/-- (*loop.example/namedflags/spec.reader).one -/
def m_spec_reader_one (p1 : List (Int)) (p2 : List (Int)) (p3 : Int) : Option (Int) :=
  bd (m_spec_reader_pick (p1.length : Int) p2 p3) fun x4 =>
  gd (0 ≤ x4 ∧ x4 < (p1.length : Int)) <|
  some (gt p1 x4)

def m_spec_indexOf_L1 (p1 : List (ByteArray × Int)) (p2 : ByteArray) : Nat → Int → Option (Int ⊕ Unit)
  | 0, _ => none
  | fu + 1, v3 =>
    bif decide (v3 < (p1.length : Int)) then
      gd (0 ≤ v3 ∧ v3 < (p1.length : Int)) <|
      bif decide (((gt p1 v3).1) = p2) then
        some (Sum.inl v3)
      else
        m_spec_indexOf_L1 p1 p2 fu (IntKind.wrap .i64 (v3 + 1))
    else
      some (Sum.inr ())

/-- loop.example/namedflags/spec.indexOf -/
def m_spec_indexOf (p1 : List (ByteArray × Int)) (p2 : ByteArray) : Option (Int) :=
  bd (m_spec_indexOf_L1 p1 p2 FU 0) fun x4 =>
  sm x4 (fun x5 =>
    some x5) (fun x6 =>
    some (-1))

/-- loop.example/namedflags/impl.in -/
def m_impl_in (p1 : Int) (p2 : Int) (p3 : Int) : Option (Bool) :=
  bif decide (p2 ≤ p1) then
    some (decide (p1 ≤ p3))
  else
    some false

def m_impl_ValidName_L1 (p1 : ByteArray) : Nat → Int → Option (Unit ⊕ Unit)
  | 0, _ => none
  | fu + 1, v2 =>
    bif decide (v2 < (p1.size : Int)) then
      gd (0 ≤ v2 ∧ v2 < (p1.size : Int)) <|
      bif decide ((byteAt p1 v2.toNat) < 97) then
        some (Sum.inl ())
      else
        bif decide (122 < (byteAt p1 v2.toNat)) then
          some (Sum.inl ())
        else
          m_impl_ValidName_L1 p1 fu (IntKind.wrap .i64 (v2 + 1))
    else
      some (Sum.inr ())

/-- loop.example/namedflags/impl.ValidName -/
def m_impl_ValidName (p1 : ByteArray) : Option (Bool) :=
  bd (m_impl_ValidName_L1 p1 FU 0) fun x3 =>
  sm x3 (fun x4 =>
    some false) (fun x5 =>
    bd (m_impl_in (p1.size : Int) 1 6) fun x6 =>
    some x6)

/-- loop.example/namedflags/impl.named$1 -/
def m_impl_named_1_l (p1 : ByteArray) (p2 : Int) (p3 : ByteArray) : Option (Unit) :=
  some ()

def m_slices_IndexFunc_si_named_1_l_L1 (p1 : List (ByteArray × Int)) (p2 : ByteArray) : Nat → Int → Option (Int ⊕ Unit)
  | 0, _ => none
  | fu + 1, v3 =>
    bif decide (v3 < (p1.length : Int)) then
      gd (0 ≤ v3 ∧ v3 < (p1.length : Int)) <|
      bd (m_impl_named_1_l ((gt p1 v3).1) ((gt p1 v3).2) p2) fun x4 =>
      bif decide (((gt p1 v3).1) = p2) then
        some (Sum.inl v3)
      else
        m_slices_IndexFunc_si_named_1_l_L1 p1 p2 fu (IntKind.wrap .i64 (v3 + 1))
    else
      some (Sum.inr ())

/-- slices.IndexFunc[[]loop.example/namedflags/impl.Def,loop.example/namedflags/impl.Def] -/
def m_slices_IndexFunc_si_named_1_l (p1 : List (ByteArray × Int)) (p2 : ByteArray) : Option (Int) :=
  bd (m_slices_IndexFunc_si_named_1_l_L1 p1 p2 FU 0) fun x5 =>
  sm x5 (fun x6 =>
    some x6) (fun x7 =>
    some (-1))

/-- loop.example/namedflags/impl.named -/
def m_impl_named (p1 : List (ByteArray × Int)) (p2 : ByteArray) : Option (Int) :=
  bd (m_slices_IndexFunc_si_named_1_l p1 p2) fun x3 =>
  some x3

def m_impl_defsValid_L1 (p1 : List (ByteArray × Int)) (p2 : Int) (p3 : Int) : Nat → Int → Option (Unit ⊕ Unit)
  | 0, _ => none
  | fu + 1, v4 =>
    bif decide (v4 < (p1.length : Int)) then
      gd (0 ≤ v4 ∧ v4 < (p1.length : Int)) <|
      bd (m_impl_ValidName ((gt p1 v4).1)) fun x5 =>
      bif (!x5) then
        some (Sum.inl ())
      else
        bd (m_impl_in ((gt p1 v4).2) p2 p3) fun x6 =>
        bif (!x6) then
          some (Sum.inl ())
        else
          gd (0 ≤ (0 : Int) ∧ (0 : Int) ≤ v4 ∧ v4 ≤ (p1.length : Int) ∧ (p1.length : Int) ≤ (p1.length : Int)) <|
          bd (m_impl_named (sub p1 (0 : Int) v4) ((gt p1 v4).1)) fun x7 =>
          bif decide (0 ≤ x7) then
            some (Sum.inl ())
          else
            m_impl_defsValid_L1 p1 p2 p3 fu (IntKind.wrap .i64 (v4 + 1))
    else
      some (Sum.inr ())

/-- loop.example/namedflags/impl.defsValid -/
def m_impl_defsValid (p1 : List (ByteArray × Int)) (p2 : Int) (p3 : Int) : Option (Bool) :=
  bd (m_impl_defsValid_L1 p1 p2 p3 FU 0) fun x8 =>
  sm x8 (fun x9 =>
    some false) (fun x10 =>
    some (decide ((p1.length : Int) ≤ 12)))

/-- loop.example/namedflags/spec.inRange -/
def m_spec_inRange (p1 : Int) (p2 : Int) (p3 : Int) : Option (Bool) :=
  bif decide (p2 ≤ p1) then
    some (decide (p1 ≤ p3))
  else
    some false

def m_spec_validName_L1 (p1 : ByteArray) : Nat → Int → Option (Unit ⊕ Unit)
  | 0, _ => none
  | fu + 1, v2 =>
    bif decide (v2 < (p1.size : Int)) then
      gd (0 ≤ v2 ∧ v2 < (p1.size : Int)) <|
      bif decide ((byteAt p1 v2.toNat) < 97) then
        some (Sum.inl ())
      else
        bif decide (122 < (byteAt p1 v2.toNat)) then
          some (Sum.inl ())
        else
          m_spec_validName_L1 p1 fu (IntKind.wrap .i64 (v2 + 1))
    else
      some (Sum.inr ())

/-- loop.example/namedflags/spec.validName -/
def m_spec_validName (p1 : ByteArray) : Option (Bool) :=
  bd (m_spec_validName_L1 p1 FU 0) fun x3 =>
  sm x3 (fun x4 =>
    some false) (fun x5 =>
    bd (m_spec_inRange (p1.size : Int) 1 6) fun x6 =>
    some x6)

def m_spec_validDefs_L1 (p1 : List (ByteArray × Int)) (p2 : Int) (p3 : Int) : Nat → Int → Option (Unit ⊕ Unit)
  | 0, _ => none
  | fu + 1, v4 =>
    bif decide (v4 < (p1.length : Int)) then
      gd (0 ≤ v4 ∧ v4 < (p1.length : Int)) <|
      bd (m_spec_validName ((gt p1 v4).1)) fun x5 =>
      bif (!x5) then
        some (Sum.inl ())
      else
        bd (m_spec_inRange ((gt p1 v4).2) p2 p3) fun x6 =>
        bif (!x6) then
          some (Sum.inl ())
        else
          gd (0 ≤ (0 : Int) ∧ (0 : Int) ≤ v4 ∧ v4 ≤ (p1.length : Int) ∧ (p1.length : Int) ≤ (p1.length : Int)) <|
          bd (m_spec_indexOf (sub p1 (0 : Int) v4) ((gt p1 v4).1)) fun x7 =>
          bif decide (0 ≤ x7) then
            some (Sum.inl ())
          else
            m_spec_validDefs_L1 p1 p2 p3 fu (IntKind.wrap .i64 (v4 + 1))
    else
      some (Sum.inr ())

/-- loop.example/namedflags/spec.validDefs -/
def m_spec_validDefs (p1 : List (ByteArray × Int)) (p2 : Int) (p3 : Int) : Option (Bool) :=
  bd (m_spec_validDefs_L1 p1 p2 p3 FU 0) fun x8 =>
  sm x8 (fun x9 =>
    some false) (fun x10 =>
    some (decide ((p1.length : Int) ≤ 12)))

def m_impl_greatest_L1 (p1 : List (ByteArray × Int)) : Nat → Int → Int → Option (Int)
  | 0, _, _ => none
  | fu + 1, v3, v4 =>
    bif decide (v4 < (p1.length : Int)) then
      gd (0 ≤ v4 ∧ v4 < (p1.length : Int)) <|
      bif decide (v4 = 0) then
        m_impl_greatest_L1 p1 fu ((gt p1 v4).2) (IntKind.wrap .i64 (v4 + 1))
      else
        bif decide (v3 < ((gt p1 v4).2)) then
          m_impl_greatest_L1 p1 fu ((gt p1 v4).2) (IntKind.wrap .i64 (v4 + 1))
        else
          m_impl_greatest_L1 p1 fu v3 (IntKind.wrap .i64 (v4 + 1))
    else
      some v3

/-- loop.example/namedflags/impl.greatest -/
def m_impl_greatest (p1 : List (ByteArray × Int)) (p2 : Int) : Option (Int) :=
  bd (m_impl_greatest_L1 p1 FU p2 0) fun x5 =>
  some x5

/-- slices.Clip[[]loop.example/namedflags/impl.Def,loop.example/namedflags/impl.Def] -/
def m_slices_Clip_si (p1 : List (ByteArray × Int)) : Option (Unit) :=
  gd (0 ≤ (0 : Int) ∧ (0 : Int) ≤ (p1.length : Int) ∧ (p1.length : Int) ≤ (p1.length : Int) ∧ (p1.length : Int) ≤ (p1.length : Int)) <|
  some ()

/-- slices.Clip[[]loop.example/namedflags/impl.Def,loop.example/namedflags/impl.Def] -/
def m_slices_Clip_hsi (p1 : List (ByteArray × Int)) : Option (Unit) :=
  some ()

/-- slices.Clone[[]loop.example/namedflags/impl.Def,loop.example/namedflags/impl.Def] -/
def m_slices_Clone_si (p1 : List (ByteArray × Int)) : Option (List (ByteArray × Int)) :=
  gd (p1.length ≤ 1099511627776) <|
  some p1

/-- loop.example/namedflags/impl.clone[loop.example/namedflags/impl.Def] -/
def m_impl_clone_si (p1 : List (ByteArray × Int)) : Option (List (ByteArray × Int)) :=
  bd (m_slices_Clone_si p1) fun x2 =>
  bd (m_slices_Clip_hsi x2) fun x3 =>
  some x2

def m_spec_validItems_L2 (p1 : List (ByteArray × Bool × Int)) (p2 : Int) (p3 : Int) (v4 : Int) : Nat → Int → Option (Unit ⊕ Unit)
  | 0, _ => none
  | fu + 1, v7 =>
    bif decide (v7 < v4) then
      gd (0 ≤ v7 ∧ v7 < (p1.length : Int)) <|
      gd (0 ≤ v4 ∧ v4 < (p1.length : Int)) <|
      bif decide (((gt p1 v7).1) = ((gt p1 v4).1)) then
        some (Sum.inl ())
      else
        m_spec_validItems_L2 p1 p2 p3 v4 fu (IntKind.wrap .i64 (v7 + 1))
    else
      some (Sum.inr ())

def m_spec_validItems_L3 (p1 : List (ByteArray × Bool × Int)) (p2 : Int) (p3 : Int) (v4 : Int) : Nat → Int → Option (Unit ⊕ Unit)
  | 0, _ => none
  | fu + 1, v12 =>
    bif decide (v12 < v4) then
      gd (0 ≤ v12 ∧ v12 < (p1.length : Int)) <|
      gd (0 ≤ v4 ∧ v4 < (p1.length : Int)) <|
      bif decide (((gt p1 v12).1) = ((gt p1 v4).1)) then
        some (Sum.inl ())
      else
        m_spec_validItems_L3 p1 p2 p3 v4 fu (IntKind.wrap .i64 (v12 + 1))
    else
      some (Sum.inr ())

def m_spec_validItems_L1 (p1 : List (ByteArray × Bool × Int)) (p2 : Int) (p3 : Int) : Nat → Int → Option (Unit ⊕ Unit)
  | 0, _ => none
  | fu + 1, v4 =>
    bif decide (v4 < (p1.length : Int)) then
      gd (0 ≤ v4 ∧ v4 < (p1.length : Int)) <|
      bd (m_spec_validName ((gt p1 v4).1)) fun x5 =>
      bif (!x5) then
        some (Sum.inl ())
      else
        bif (gt p1 v4).2.1 then
          bif (!decide (((gt p1 v4).2.2) = 0)) then
            some (Sum.inl ())
          else
            bd (m_spec_inRange ((gt p1 v4).2.2) p2 p3) fun x6 =>
            bif (!x6) then
              some (Sum.inl ())
            else
              bd (m_spec_validItems_L2 p1 p2 p3 v4 FU 0) fun x8 =>
              sm x8 (fun x9 =>
                some (Sum.inl ())) (fun x10 =>
                m_spec_validItems_L1 p1 p2 p3 fu (IntKind.wrap .i64 (v4 + 1)))
        else
          bd (m_spec_inRange ((gt p1 v4).2.2) p2 p3) fun x11 =>
          bif (!x11) then
            some (Sum.inl ())
          else
            bd (m_spec_validItems_L3 p1 p2 p3 v4 FU 0) fun x13 =>
            sm x13 (fun x14 =>
              some (Sum.inl ())) (fun x15 =>
              m_spec_validItems_L1 p1 p2 p3 fu (IntKind.wrap .i64 (v4 + 1)))
    else
      some (Sum.inr ())

/-- loop.example/namedflags/spec.validItems -/
def m_spec_validItems (p1 : List (ByteArray × Bool × Int)) (p2 : Int) (p3 : Int) : Option (Bool) :=
  bd (m_spec_validItems_L1 p1 p2 p3 FU 0) fun x16 =>
  sm x16 (fun x17 =>
    some false) (fun x18 =>
    some (decide ((p1.length : Int) ≤ 12)))

/-- loop.example/namedflags/laws.eqDef -/
def m_laws_eqDef (p1 : ByteArray) (p2 : Int) (p3 : ByteArray) (p4 : Int) : Option (Bool) :=
  bif (!decide (p1 = p3)) then
    some false
  else
    bif (!decide (p2 = p4)) then
      some false
    else
      some true

def m_laws_eqDefS_L1 (p1 : List (ByteArray × Int)) (p2 : List (ByteArray × Int)) : Nat → Int → Option (Unit ⊕ Unit)
  | 0, _ => none
  | fu + 1, v3 =>
    bif decide (v3 < (p1.length : Int)) then
      gd (0 ≤ v3 ∧ v3 < (p1.length : Int)) <|
      gd (0 ≤ v3 ∧ v3 < (p2.length : Int)) <|
      bd (m_laws_eqDef ((gt p1 v3).1) ((gt p1 v3).2) ((gt p2 v3).1) ((gt p2 v3).2)) fun x4 =>
      bif (!x4) then
        some (Sum.inl ())
      else
        m_laws_eqDefS_L1 p1 p2 fu (IntKind.wrap .i64 (v3 + 1))
    else
      some (Sum.inr ())

/-- loop.example/namedflags/laws.eqDefS -/
def m_laws_eqDefS (p1 : List (ByteArray × Int)) (p2 : List (ByteArray × Int)) : Option (Bool) :=
  bif (!decide ((p1.length : Int) = (p2.length : Int))) then
    some false
  else
    bd (m_laws_eqDefS_L1 p1 p2 FU 0) fun x5 =>
    sm x5 (fun x6 =>
      some false) (fun x7 =>
      some true)

def m_laws_markText_L1  : Nat → Int → ByteArray → Option (ByteArray)
  | 0, _, _ => none
  | fu + 1, v2, v3 =>
    bif decide (0 < v2) then
      gd ((10 : Int) ≠ 0) <|
      nm (bstr ([IntKind.wrap .u8 (IntKind.wrap .i64 (48 + (Int.tmod v2 10)))] : List (Int))) fun v4 =>
      gd (v4.size + v3.size ≤ 9223372036854775807) <|
      gd ((10 : Int) ≠ 0 ∧ IntKind.wrap .i64 (Int.tdiv v2 10) = Int.tdiv v2 10) <|
      m_laws_markText_L1  fu (Int.tdiv v2 10) (v4 ++ v3)
    else
      some v3

/-- loop.example/namedflags/laws.markText -/
def m_laws_markText (p1 : Int) : Option (ByteArray) :=
  bif decide (p1 ≤ 0) then
    some (ByteArray.mk #[109, 48])
  else
    bd (m_laws_markText_L1 FU p1 ByteArray.empty) fun x5 =>
    gd ((ByteArray.mk #[109]).size + x5.size ≤ 9223372036854775807) <|
    some ((ByteArray.mk #[109]) ++ x5)

def m_laws_markDefS_h_L1  : Nat → Int → Int → (List (ByteArray × Int)) → Option (Int × (List (ByteArray × Int)))
  | 0, _, _, _ => none
  | fu + 1, v3, v4, v5 =>
    bif decide (v4 < (v5.length : Int)) then
      bd (m_laws_markText v3) fun x6 =>
      gd (0 ≤ v4 ∧ v4 < (v5.length : Int)) <|
      m_laws_markDefS_h_L1  fu (IntKind.wrap .i64 ((IntKind.wrap .i64 (v3 + 1)) + 1)) (IntKind.wrap .i64 (v4 + 1)) ((v5.set (0 + v4.toNat) (x6, (gt v5 v4).2)).set (0 + v4.toNat) ((gt (v5.set (0 + v4.toNat) (x6, (gt v5 v4).2)) v4).1, IntKind.wrap .i64 (v3 + 1)))
    else
      some (v3, v5)

/-- loop.example/namedflags/laws.markDefS -/
def m_laws_markDefS_h (p1 : Int) (p2 : List (ByteArray × Int)) : Option (Int × (List (ByteArray × Int))) :=
  bd (m_laws_markDefS_h_L1 FU p1 0 p2) fun x7 =>
  some (x7.1, x7.2)

def m_laws_heldDefS_L1 (p1 : List (ByteArray × Int)) : Nat → Int → Int → Option (Unit ⊕ Int)
  | 0, _, _ => none
  | fu + 1, v3, v4 =>
    bif decide (v4 < (p1.length : Int)) then
      gd (0 ≤ v4 ∧ v4 < (p1.length : Int)) <|
      bd (m_laws_markText v3) fun x5 =>
      bif (!decide (((gt p1 v4).1) = x5)) then
        some (Sum.inl ())
      else
        bif (!decide (((gt p1 v4).2) = (IntKind.wrap .i64 (v3 + 1)))) then
          some (Sum.inl ())
        else
          m_laws_heldDefS_L1 p1 fu (IntKind.wrap .i64 ((IntKind.wrap .i64 (v3 + 1)) + 1)) (IntKind.wrap .i64 (v4 + 1))
    else
      some (Sum.inr v3)

/-- loop.example/namedflags/laws.heldDefS -/
def m_laws_heldDefS (p1 : List (ByteArray × Int)) (p2 : Int) : Option (Int) :=
  bd (m_laws_heldDefS_L1 p1 FU p2 0) fun x6 =>
  sm x6 (fun x7 =>
    some (-1)) (fun x8 =>
    some x8)

/-- loop.example/namedflags/impl.ValidEnum -/
def m_impl_ValidEnum (p1 : List (ByteArray × Int)) : Option (Bool) :=
  bd (m_impl_defsValid p1 (-1000) 1000) fun x2 =>
  some x2

/-- loop.example/namedflags/spec.validEnum -/
def m_spec_validEnum (p1 : List (ByteArray × Int)) : Option (Bool) :=
  bd (m_spec_validDefs p1 (-1000) 1000) fun x2 =>
  some x2

/-- strconv.Itoa -/
def m_strconv_Itoa (p1 : Int) : Option (ByteArray) :=
  gd (-9223372036854775808 ≤ p1 ∧ p1 ≤ 9223372036854775807) <|
  some ⟨(Lib.itoa p1).toArray⟩

/-- loop.example/namedflags/spec.number -/
def m_spec_number : Nat → (Int) → Option (ByteArray)
  | 0, _ => none
  | fu + 1, p1 =>
    bif decide (p1 < 10) then
      gd (0 ≤ p1 ∧ p1 ≤ (IntKind.wrap .i64 (p1 + 1)) ∧ (IntKind.wrap .i64 (p1 + 1)) ≤ ((ByteArray.mk #[48, 49, 50, 51, 52, 53, 54, 55, 56, 57]).size : Int)) <|
      nm ((ByteArray.mk #[48, 49, 50, 51, 52, 53, 54, 55, 56, 57]).extract p1.toNat (IntKind.wrap .i64 (p1 + 1)).toNat) fun v2 =>
      some v2
    else
      gd ((10 : Int) ≠ 0 ∧ IntKind.wrap .i64 (Int.tdiv p1 10) = Int.tdiv p1 10) <|
      bd (m_spec_number fu (Int.tdiv p1 10)) fun x3 =>
      gd ((10 : Int) ≠ 0) <|
      bd (m_spec_number fu (Int.tmod p1 10)) fun x4 =>
      gd (x3.size + x4.size ≤ 9223372036854775807) <|
      some (x3 ++ x4)

/-- strings.Split -/
def m_strings_Split (p1 : ByteArray) (p2 : ByteArray) : Option (List (ByteArray)) :=
  gd (p1.size < 4294967281) <|
  gd (1 ≤ p2.size) <|
  some (Lib.splitB p2 0 (Lib.countB p1 p2) p1)

/-- strconv.Atoi -/
def m_strconv_Atoi (p1 : ByteArray) : Option (Int × Bool) :=
  gd (p1.size ≤ 281474976710656) <|
  some (atoiAns p1)

/-- loop.example/namedflags/impl.decimal -/
def m_impl_decimal (p1 : ByteArray) : Option (Int × Bool) :=
  bd (m_strconv_Atoi p1) fun x2 =>
  bif x2.2 then
    bd (m_strconv_Itoa x2.1) fun x3 =>
    some (x2.1, decide (x3 = p1))
  else
    some (x2.1, false)

/-- loop.example/namedflags/impl.enumOf -/
def m_impl_enumOf (p1 : List (ByteArray × Int)) (p2 : Bool) : Option ((List (ByteArray × Int)) × Bool) :=
  bif (!p2) then
    some (([] : List (ByteArray × Int)), false)
  else
    bd (m_impl_ValidEnum p1) fun x3 =>
    bif (!x3) then
      some (([] : List (ByteArray × Int)), false)
    else
      bd (m_impl_clone_si p1) fun x4 =>
      some (x4, true)

/-- loop.example/namedflags/laws.eqEnum -/
def m_laws_eqEnum (p1 : List (ByteArray × Int)) (p2 : List (ByteArray × Int)) : Option (Bool) :=
  bd (m_laws_eqDefS p1 p2) fun x3 =>
  bif (!x3) then
    some false
  else
    some true

/-- loop.example/namedflags/laws.markEnum -/
def m_laws_markEnum_h (p1 : Int) (p2 : List (ByteArray × Int)) : Option (Int × (List (ByteArray × Int))) :=
  bd (m_laws_markDefS_h p1 p2) fun x3 =>
  gd (x3.2.length = p2.length) <|
  some (x3.1, x3.2)

def m_spec_splitAt_L1 (p1 : ByteArray) (p2 : Int) : Nat → (List (ByteArray)) → Int → Int → Option (List (ByteArray) × Int)
  | 0, _, _, _ => none
  | fu + 1, v3, v4, v5 =>
    bif decide (v5 < (p1.size : Int)) then
      gd (0 ≤ v5 ∧ v5 < (p1.size : Int)) <|
      bif decide ((byteAt p1 v5.toNat) = p2) then
        gd (0 ≤ v4 ∧ v4 ≤ v5 ∧ v5 ≤ (p1.size : Int)) <|
        gd (v3.length + ([p1.extract v4.toNat v5.toNat] : List (ByteArray)).length ≤ 1099511627776) <|
        m_spec_splitAt_L1 p1 p2 fu (v3 ++ ([p1.extract v4.toNat v5.toNat] : List (ByteArray))) (IntKind.wrap .i64 (v5 + 1)) (IntKind.wrap .i64 (v5 + 1))
      else
        m_spec_splitAt_L1 p1 p2 fu v3 v4 (IntKind.wrap .i64 (v5 + 1))
    else
      some (v3, v4)

/-- loop.example/namedflags/spec.splitAt -/
def m_spec_splitAt (p1 : ByteArray) (p2 : Int) : Option (List (ByteArray)) :=
  bd (m_spec_splitAt_L1 p1 p2 FU ([] : List (ByteArray)) 0 0) fun x6 =>
  gd (0 ≤ x6.2 ∧ x6.2 ≤ (p1.size : Int) ∧ (p1.size : Int) ≤ (p1.size : Int)) <|
  gd (x6.1.length + ([p1.extract x6.2.toNat (p1.size : Int).toNat] : List (ByteArray)).length ≤ 1099511627776) <|
  some (x6.1 ++ ([p1.extract x6.2.toNat (p1.size : Int).toNat] : List (ByteArray)))

def m_spec_readNumber_L1 (p1 : ByteArray) : Nat → Int → Int → Option (Unit ⊕ Int)
  | 0, _, _ => none
  | fu + 1, v2, v3 =>
    bif decide (v3 < (p1.size : Int)) then
      gd (0 ≤ v3 ∧ v3 < (p1.size : Int)) <|
      bif decide ((byteAt p1 v3.toNat) < 48) then
        some (Sum.inl ())
      else
        bif decide (57 < (byteAt p1 v3.toNat)) then
          some (Sum.inl ())
        else
          bif decide (4095 < v2) then
            some (Sum.inl ())
          else
            nm (IntKind.wrap .i64 (IntKind.wrap .u8 ((byteAt p1 v3.toNat) - 48))) fun v4 =>
            m_spec_readNumber_L1 p1 fu (IntKind.wrap .i64 ((IntKind.wrap .i64 (10 * v2)) + v4)) (IntKind.wrap .i64 (v3 + 1))
    else
      some (Sum.inr v2)

/-- loop.example/namedflags/spec.readNumber -/
def m_spec_readNumber (p1 : ByteArray) : Option (Int) :=
  bd (m_spec_readNumber_L1 p1 FU 0 0) fun x5 =>
  sm x5 (fun x6 =>
    some (-1)) (fun x7 =>
    bif decide (p1 = ByteArray.empty) then
      some (-1)
    else
      bif decide (4096 < x7) then
        some (-1)
      else
        bd (m_spec_number FU x7) fun x8 =>
        bif (!decide (x8 = p1)) then
          some (-1)
        else
          some x7)

/-- loop.example/namedflags/spec.readSigned -/
def m_spec_readSigned (p1 : ByteArray) : Option (Int × Bool) :=
  bif (!decide (p1 = ByteArray.empty)) then
    gd (0 ≤ (0 : Int) ∧ (0 : Int) < (p1.size : Int)) <|
    bif decide ((byteAt p1 (0 : Int).toNat) = 45) then
      gd (0 ≤ (1 : Int) ∧ (1 : Int) ≤ (p1.size : Int) ∧ (p1.size : Int) ≤ (p1.size : Int)) <|
      bd (m_spec_readNumber (p1.extract (1 : Int).toNat (p1.size : Int).toNat)) fun x2 =>
      bif decide (x2 < 0) then
        some (0, false)
      else
        bif decide (x2 = 0) then
          some (0, false)
        else
          some (IntKind.wrap .i64 (0 - x2), true)
    else
      bd (m_spec_readNumber p1) fun x3 =>
      bif decide (x3 < 0) then
        some (0, false)
      else
        some (x3, true)
  else
    bd (m_spec_readNumber p1) fun x4 =>
    bif decide (x4 < 0) then
      some (0, false)
    else
      some (x4, true)

/-- loop.example/namedflags/spec.parseItem -/
def m_spec_parseItem (p1 : ByteArray) : Option (ByteArray × Bool × Int × Bool) :=
  bd (m_spec_splitAt p1 32) fun x2 =>
  bif decide ((x2.length : Int) = 1) then
    some (p1, true, 0, true)
  else
    bif (!decide ((x2.length : Int) = 3)) then
      some (ByteArray.empty, false, 0, false)
    else
      gd (0 ≤ (1 : Int) ∧ (1 : Int) < (x2.length : Int)) <|
      bif (!decide ((gt x2 (1 : Int)) = (ByteArray.mk #[61]))) then
        some (ByteArray.empty, false, 0, false)
      else
        gd (0 ≤ (2 : Int) ∧ (2 : Int) < (x2.length : Int)) <|
        bd (m_spec_readSigned (gt x2 (2 : Int))) fun x3 =>
        gd (0 ≤ (0 : Int) ∧ (0 : Int) < (x2.length : Int)) <|
        some ((gt x2 (0 : Int)), false, x3.1, x3.2)

def m_spec_parseItems_L1 (x2 : List (ByteArray)) : Nat → (List (ByteArray × Bool × Int)) → Int → Option (Unit ⊕ List (ByteArray × Bool × Int))
  | 0, _, _ => none
  | fu + 1, v4, v5 =>
    bif decide ((IntKind.wrap .i64 (v5 + 1)) < (x2.length : Int)) then
      gd (0 ≤ v5 ∧ v5 < (x2.length : Int)) <|
      bd (m_spec_parseItem (gt x2 v5)) fun x6 =>
      bif (!x6.2.2.2) then
        some (Sum.inl ())
      else
        gd (v4.length + ([(x6.1, x6.2.1, x6.2.2.1)] : List (ByteArray × Bool × Int)).length ≤ 1099511627776) <|
        m_spec_parseItems_L1 x2 fu (v4 ++ ([(x6.1, x6.2.1, x6.2.2.1)] : List (ByteArray × Bool × Int))) (IntKind.wrap .i64 (v5 + 1))
    else
      some (Sum.inr v4)

/-- loop.example/namedflags/spec.parseItems -/
def m_spec_parseItems (p1 : ByteArray) : Option (ByteArray × (List (ByteArray × Bool × Int)) × Bool) :=
  bd (m_spec_splitAt p1 10) fun x2 =>
  bif decide ((x2.length : Int) < 2) then
    some (ByteArray.empty, ([] : List (ByteArray × Bool × Int)), false)
  else
    gd (0 ≤ (IntKind.wrap .i64 ((x2.length : Int) - 1)) ∧ (IntKind.wrap .i64 ((x2.length : Int) - 1)) < (x2.length : Int)) <|
    nm ((!decide ((gt x2 (IntKind.wrap .i64 ((x2.length : Int) - 1))) = ByteArray.empty))) fun v3 =>
    bif v3 then
      some (ByteArray.empty, ([] : List (ByteArray × Bool × Int)), false)
    else
      bd (m_spec_parseItems_L1 x2 FU ([] : List (ByteArray × Bool × Int)) 1) fun x7 =>
      sm x7 (fun x8 =>
        some (ByteArray.empty, ([] : List (ByteArray × Bool × Int)), false)) (fun x9 =>
        gd (0 ≤ (0 : Int) ∧ (0 : Int) < (x2.length : Int)) <|
        some ((gt x2 (0 : Int)), x9, true))

/-- strings.CutSuffix -/
def m_strings_CutSuffix (p1 : ByteArray) (p2 : ByteArray) : Option (ByteArray × Bool) :=
  gd (p1.size ≤ 9223372036854775807) <|
  some (⟨(Lib.trimSuffix p1.data.toList p2.data.toList).toArray⟩, Lib.hasSuffix p1.data.toList p2.data.toList)

/-- strings.Cut -/
def m_strings_Cut (p1 : ByteArray) (p2 : ByteArray) : Option (ByteArray × ByteArray × Bool) :=
  gd (p1.size < 4294967281) <|
  some (⟨(Lib.cut p1.data.toList p2.data.toList).1.toArray⟩, ⟨(Lib.cut p1.data.toList p2.data.toList).2.1.toArray⟩, (Lib.cut p1.data.toList p2.data.toList).2.2)

def m_impl_readItems_L1 (x3 : List (ByteArray)) : Nat → (List (ByteArray × Bool × Int)) → Int → Option (Unit ⊕ List (ByteArray × Bool × Int))
  | 0, _, _ => none
  | fu + 1, v4, v5 =>
    nm (decide (v5 < (((x3.length : Int).toNat - (1 : Int).toNat : Nat) : Int))) fun v6 =>
    bif v6 then
      gd ((0 ≤ v5 ∧ v5 < (((x3.length : Int).toNat - (1 : Int).toNat : Nat) : Int)) ∧ (1 : Int).toNat + v5.toNat < x3.length) <|
      bd (m_strings_Cut (gt x3 (((1 : Int).toNat + v5.toNat : Nat) : Int)) (ByteArray.mk #[32, 61, 32])) fun x7 =>
      bif x7.2.2 then
        bd (m_impl_decimal x7.2.1) fun x8 =>
        bif (!x8.2) then
          some (Sum.inl ())
        else
          gd (v4.length + ([(x7.1, (!x7.2.2), x8.1)] : List (ByteArray × Bool × Int)).length ≤ 1099511627776) <|
          m_impl_readItems_L1 x3 fu (v4 ++ ([(x7.1, (!x7.2.2), x8.1)] : List (ByteArray × Bool × Int))) (IntKind.wrap .i64 (v5 + 1))
      else
        gd (v4.length + ([(x7.1, (!x7.2.2), 0)] : List (ByteArray × Bool × Int)).length ≤ 1099511627776) <|
        m_impl_readItems_L1 x3 fu (v4 ++ ([(x7.1, (!x7.2.2), 0)] : List (ByteArray × Bool × Int))) (IntKind.wrap .i64 (v5 + 1))
    else
      some (Sum.inr v4)

/-- loop.example/namedflags/impl.readItems -/
def m_impl_readItems (p1 : ByteArray) : Option (ByteArray × (List (ByteArray × Bool × Int)) × Bool) :=
  bd (m_strings_CutSuffix p1 (ByteArray.mk #[10])) fun x2 =>
  bd (m_strings_Split x2.1 (ByteArray.mk #[10])) fun x3 =>
  bif (!x2.2) then
    some (ByteArray.empty, ([] : List (ByteArray × Bool × Int)), false)
  else
    bif decide (13 < (x3.length : Int)) then
      some (ByteArray.empty, ([] : List (ByteArray × Bool × Int)), false)
    else
      gd (0 ≤ (1 : Int) ∧ (1 : Int) ≤ (x3.length : Int) ∧ (x3.length : Int) ≤ (x3.length : Int) ∧ (x3.length : Int) ≤ (x3.length : Int)) <|
      bd (m_impl_readItems_L1 x3 FU ([] : List (ByteArray × Bool × Int)) 0) fun x9 =>
      sm x9 (fun x10 =>
        some (ByteArray.empty, ([] : List (ByteArray × Bool × Int)), false)) (fun x11 =>
        gd (0 ≤ (0 : Int) ∧ (0 : Int) < (x3.length : Int)) <|
        some ((gt x3 (0 : Int)), x11, true))

/-- loop.example/namedflags/laws.heldEnum -/
def m_laws_heldEnum (p1 : List (ByteArray × Int)) (p2 : Int) : Option (Int) :=
  bd (m_laws_heldDefS p1 p2) fun x3 =>
  bif decide (x3 < 0) then
    some (-1)
  else
    some x3

/-- loop.example/namedflags/impl.BuildEnum$1 -/
def m_impl_BuildEnum_1 (p1 : List (ByteArray × Int)) : Option (Int) :=
  bd (m_impl_greatest p1 0) fun x2 =>
  some (IntKind.wrap .i64 (x2 + 1))

def m_impl_build_BuildEnum_1_L1 (p1 : List (ByteArray × Bool × Int)) : Nat → (List (ByteArray × Int)) → Int → Option (Unit ⊕ List (ByteArray × Int))
  | 0, _, _ => none
  | fu + 1, v2, v3 =>
    bif decide (v3 < (p1.length : Int)) then
      gd (0 ≤ v3 ∧ v3 < (p1.length : Int)) <|
      bif (gt p1 v3).2.1 then
        bif (!decide (((gt p1 v3).2.2) = 0)) then
          some (Sum.inl ())
        else
          bd (m_impl_BuildEnum_1 v2) fun x4 =>
          gd (v2.length + ([((gt p1 v3).1, x4)] : List (ByteArray × Int)).length ≤ 1099511627776) <|
          m_impl_build_BuildEnum_1_L1 p1 fu (v2 ++ ([((gt p1 v3).1, x4)] : List (ByteArray × Int))) (IntKind.wrap .i64 (v3 + 1))
      else
        gd (v2.length + ([((gt p1 v3).1, (gt p1 v3).2.2)] : List (ByteArray × Int)).length ≤ 1099511627776) <|
        m_impl_build_BuildEnum_1_L1 p1 fu (v2 ++ ([((gt p1 v3).1, (gt p1 v3).2.2)] : List (ByteArray × Int))) (IntKind.wrap .i64 (v3 + 1))
    else
      some (Sum.inr v2)

/-- loop.example/namedflags/impl.build -/
def m_impl_build_BuildEnum_1 (p1 : List (ByteArray × Bool × Int)) : Option ((List (ByteArray × Int)) × Bool) :=
  bd (m_impl_build_BuildEnum_1_L1 p1 FU ([] : List (ByteArray × Int)) 0) fun x5 =>
  sm x5 (fun x6 =>
    some (([] : List (ByteArray × Int)), false)) (fun x7 =>
    bd (m_slices_Clip_hsi x7) fun x8 =>
    some (x7, true))

/-- loop.example/namedflags/impl.BuildEnum -/
def m_impl_BuildEnum (p1 : List (ByteArray × Bool × Int)) : Option ((List (ByteArray × Int)) × Bool) :=
  bif decide (12 < (p1.length : Int)) then
    some (([] : List (ByteArray × Int)), false)
  else
    bd (m_impl_build_BuildEnum_1 p1) fun x2 =>
    bd (m_impl_enumOf x2.1 x2.2) fun x3 =>
    some (x3.1, x3.2)

/-- loop.example/namedflags/impl.ParseEnum -/
def m_impl_ParseEnum (p1 : ByteArray) : Option ((List (ByteArray × Int)) × Bool) :=
  bd (m_impl_readItems p1) fun x2 =>
  bif (!x2.2.2) then
    some (([] : List (ByteArray × Int)), false)
  else
    bif (!decide (x2.1 = (ByteArray.mk #[101, 110, 117, 109]))) then
      some (([] : List (ByteArray × Int)), false)
    else
      bd (m_impl_BuildEnum x2.2.1) fun x3 =>
      some (x3.1, x3.2)

def m_spec_highest_L1 (p1 : List (ByteArray × Int)) : Nat → Int → Int → Option (Int)
  | 0, _, _ => none
  | fu + 1, v2, v3 =>
    bif decide (v3 < (p1.length : Int)) then
      gd (0 ≤ v3 ∧ v3 < (p1.length : Int)) <|
      m_spec_highest_L1 p1 fu (if ((gt p1 v3).2) > v2 then ((gt p1 v3).2) else v2) (IntKind.wrap .i64 (v3 + 1))
    else
      some v2

/-- loop.example/namedflags/spec.highest -/
def m_spec_highest (p1 : List (ByteArray × Int)) : Option (Int) :=
  bif decide ((p1.length : Int) = 0) then
    some 1
  else
    gd (0 ≤ (0 : Int) ∧ (0 : Int) < (p1.length : Int)) <|
    bd (m_spec_highest_L1 p1 FU ((gt p1 (0 : Int)).2) 0) fun x4 =>
    some (IntKind.wrap .i64 (x4 + 1))

def m_spec_BuildEnum_L1 (p1 : List (ByteArray × Bool × Int)) : Nat → (List (ByteArray × Int)) → Int → Option (List (ByteArray × Int))
  | 0, _, _ => none
  | fu + 1, v3, v4 =>
    bif decide (v4 < (p1.length : Int)) then
      gd (0 ≤ v4 ∧ v4 < (p1.length : Int)) <|
      bif (gt p1 v4).2.1 then
        bd (m_spec_highest v3) fun x5 =>
        gd (v3.length + ([((gt p1 v4).1, x5)] : List (ByteArray × Int)).length ≤ 1099511627776) <|
        m_spec_BuildEnum_L1 p1 fu (v3 ++ ([((gt p1 v4).1, x5)] : List (ByteArray × Int))) (IntKind.wrap .i64 (v4 + 1))
      else
        gd (v3.length + ([((gt p1 v4).1, (gt p1 v4).2.2)] : List (ByteArray × Int)).length ≤ 1099511627776) <|
        m_spec_BuildEnum_L1 p1 fu (v3 ++ ([((gt p1 v4).1, (gt p1 v4).2.2)] : List (ByteArray × Int))) (IntKind.wrap .i64 (v4 + 1))
    else
      some v3

/-- loop.example/namedflags/spec.BuildEnum -/
def m_spec_BuildEnum (p1 : List (ByteArray × Bool × Int)) : Option ((List (ByteArray × Int)) × Bool) :=
  bd (m_spec_validItems p1 (-1000) 1000) fun x2 =>
  bif (!x2) then
    some (([] : List (ByteArray × Int)), false)
  else
    bd (m_spec_BuildEnum_L1 p1 FU ([] : List (ByteArray × Int)) 0) fun x6 =>
    bd (m_spec_validEnum x6) fun x7 =>
    bif (!x7) then
      some (([] : List (ByteArray × Int)), false)
    else
      some (x6, true)

/-- loop.example/namedflags/spec.ParseEnum -/
def m_spec_ParseEnum (p1 : ByteArray) : Option ((List (ByteArray × Int)) × Bool) :=
  bd (m_spec_parseItems p1) fun x2 =>
  bif (!x2.2.2) then
    some (([] : List (ByteArray × Int)), false)
  else
    bif (!decide (x2.1 = (ByteArray.mk #[101, 110, 117, 109]))) then
      some (([] : List (ByteArray × Int)), false)
    else
      bd (m_spec_BuildEnum x2.2.1) fun x3 =>
      some (x3.1, x3.2)

/-- loop.example/namedflags/laws.FnExactParseEnum -/
def m_laws_FnExactParseEnum (p1 : ByteArray) : Option (Bool) :=
  bif decide (1048576 < (p1.size : Int)) then
    some true
  else
    bd (m_spec_ParseEnum p1) fun x2 =>
    bd (m_impl_ParseEnum p1) fun x3 =>
    bd (m_laws_eqEnum x3.1 x2.1) fun x4 =>
    bif (!x4) then
      some false
    else
      bif (!(x3.2 == x2.2)) then
        some false
      else
        bd (m_laws_markEnum_h 1 x3.1) fun x5 =>
        gd (x5.2.length = x3.1.length) <|
        bd (m_laws_heldEnum x5.2 1) fun x6 =>
        bif decide (x6 < 0) then
          some false
        else
          bif (!decide (x6 = x5.1)) then
            some false
          else
            bd (m_impl_ParseEnum p1) fun x7 =>
            bd (m_laws_eqEnum x7.1 x2.1) fun x8 =>
            bif (!x8) then
              some false
            else
              bif (!(x7.2 == x2.2)) then
                some false
              else
                bd (m_laws_heldEnum x5.2 1) fun x9 =>
                bif decide (x9 < 0) then
                  some false
                else
                  bif (!decide (x9 = x5.1)) then
                    some false
                  else
                    some true

end Go.Eng

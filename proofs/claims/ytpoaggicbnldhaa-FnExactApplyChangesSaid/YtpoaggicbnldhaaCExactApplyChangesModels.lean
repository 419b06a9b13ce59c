/- What is said here: nothing is proved. A model of each function, printed by a program out of the translated code. -/
import Derived.Test.YtpoaggicbnldhaaCExactApplyChangesEng25
set_option linter.unusedVariables false
set_option linter.unusedSimpArgs false
namespace Go.Eng
open Go

def enc_isii (x : Int × ByteArray × Int × Int) : List Value := [.int .i64 x.1, .string x.2.1, .int .i64 x.2.2.1, .int .i64 x.2.2.2]

def enc_si (x : ByteArray × Int) : List Value := [.string x.1, .int .i64 x.2]

def enc_y (x : Int) : List Value := [.int .u8 x]

def FU : Nat := 4611686018427387904

def bstr (ns : List Int) : ByteArray := ns.foldl (fun r n => r.push (UInt8.ofNat n.toNat)) ByteArray.empty

/-- (*loop.example/namedflags/spec.reader).pick -/
def m_spec_reader_pick (p1 : Int) (p2 : List (Int)) (p3 : Int) : Option (Int) :=
  bif decide (p1 < 1) then
    some 0
  else
    bif decide ((p2.length : Int) = 0) then
      some 0
    else
      nm (decide ((IntKind.wrap .i64 ((IntKind.wrap .i64 (p3 + 1)) - 1)) < (p2.length : Int))) fun v4 =>
      bif v4 then
        gd (0 ≤ (IntKind.wrap .i64 ((IntKind.wrap .i64 (p3 + 1)) - 1)) ∧ (IntKind.wrap .i64 ((IntKind.wrap .i64 (p3 + 1)) - 1)) < (p2.length : Int)) <|
        nm ((gt p2 (IntKind.wrap .i64 ((IntKind.wrap .i64 (p3 + 1)) - 1)))) fun v5 =>
        gd (p1 ≠ 0) <|
        some (Int.tmod (IntKind.wrap .i64 (v5)) p1)
      else
        gd ((p2.length : Int) ≠ 0) <|
        nm (Int.tmod (IntKind.wrap .i64 ((IntKind.wrap .i64 (p3 + 1)) - 1)) (p2.length : Int)) fun v6 =>
        gd (0 ≤ v6 ∧ v6 < (p2.length : Int)) <|
        nm (IntKind.wrap .i64 ((IntKind.wrap .i64 ((IntKind.wrap .i64 (p3 + 1)) - 1)) * 7)) fun v7 =>
        gd (0 ≤ (Int.tmod (IntKind.wrap .i64 (v7 + 3)) (p2.length : Int)) ∧ (Int.tmod (IntKind.wrap .i64 (v7 + 3)) (p2.length : Int)) < (p2.length : Int)) <|
        nm ((gt p2 (Int.tmod (IntKind.wrap .i64 (v7 + 3)) (p2.length : Int)))) fun v8 =>
        nm (IntKind.wrap .i64 ((IntKind.wrap .i64 ((IntKind.wrap .i64 ((gt p2 v6))) * 131)) + (IntKind.wrap .i64 ((IntKind.wrap .i64 (v8)) * 1117)))) fun v9 =>
        nm (IntKind.wrap .i64 ((IntKind.wrap .i64 ((IntKind.wrap .i64 (p3 + 1)) - 1)) * 29)) fun v10 =>
        gd ((p2.length : Int) ≠ 0 ∧ IntKind.wrap .i64 (Int.tdiv (IntKind.wrap .i64 ((IntKind.wrap .i64 (p3 + 1)) - 1)) (p2.length : Int)) = Int.tdiv (IntKind.wrap .i64 ((IntKind.wrap .i64 (p3 + 1)) - 1)) (p2.length : Int)) <|
        nm (Int.tdiv (IntKind.wrap .i64 ((IntKind.wrap .i64 (p3 + 1)) - 1)) (p2.length : Int)) fun v11 =>
        nm (IntKind.wrap .i64 ((IntKind.wrap .i64 (v9 + v10)) + (IntKind.wrap .i64 (v11 * 53)))) fun v12 =>
        gd ((64 : Int) ≠ 0 ∧ IntKind.wrap .i64 (Int.tdiv v12 64) = Int.tdiv v12 64) <|
        gd (p1 ≠ 0) <|
        some (Int.tmod (Go.bits .xor .i64 v12 (Int.tdiv v12 64)) p1)

/-- (*loop.example/namedflags/spec.reader).one -/
def m_spec_reader_one (p1 : List (Int)) (p2 : List (Int)) (p3 : Int) : Option (Int) :=
  bd (m_spec_reader_pick (p1.length : Int) p2 p3) fun x4 =>
  gd (0 ≤ x4 ∧ x4 < (p1.length : Int)) <|
  some (gt p1 x4)

def m_spec_indexOf_L1 (p1 : List (ByteArray × Int)) (p2 : ByteArray) : Nat → Int → Option (Int ⊕ Unit)
  | 0, _ => none
  | fu + 1, v3 =>
    bif decide (v3 < (p1.length : Int)) then
      gd (0 ≤ v3 ∧ v3 < (p1.length : Int)) <|
      bif decide (((gt p1 v3).1) = p2) then
        some (Sum.inl v3)
      else
        m_spec_indexOf_L1 p1 p2 fu (IntKind.wrap .i64 (v3 + 1))
    else
      some (Sum.inr ())

/-- loop.example/namedflags/spec.indexOf -/
def m_spec_indexOf (p1 : List (ByteArray × Int)) (p2 : ByteArray) : Option (Int) :=
  bd (m_spec_indexOf_L1 p1 p2 FU 0) fun x4 =>
  sm x4 (fun x5 =>
    some x5) (fun x6 =>
    some (-1))

/-- loop.example/namedflags/impl.in -/
def m_impl_in (p1 : Int) (p2 : Int) (p3 : Int) : Option (Bool) :=
  bif decide (p2 ≤ p1) then
    some (decide (p1 ≤ p3))
  else
    some false

def m_impl_ValidName_L1 (p1 : ByteArray) : Nat → Int → Option (Unit ⊕ Unit)
  | 0, _ => none
  | fu + 1, v2 =>
    bif decide (v2 < (p1.size : Int)) then
      gd (0 ≤ v2 ∧ v2 < (p1.size : Int)) <|
      bif decide ((byteAt p1 v2.toNat) < 97) then
        some (Sum.inl ())
      else
        bif decide (122 < (byteAt p1 v2.toNat)) then
          some (Sum.inl ())
        else
          m_impl_ValidName_L1 p1 fu (IntKind.wrap .i64 (v2 + 1))
    else
      some (Sum.inr ())

/-- loop.example/namedflags/impl.ValidName -/
def m_impl_ValidName (p1 : ByteArray) : Option (Bool) :=
  bd (m_impl_ValidName_L1 p1 FU 0) fun x3 =>
  sm x3 (fun x4 =>
    some false) (fun x5 =>
    bd (m_impl_in (p1.size : Int) 1 6) fun x6 =>
    some x6)

/-- loop.example/namedflags/impl.named$1 -/
def m_impl_named_1_l (p1 : ByteArray) (p2 : Int) (p3 : ByteArray) : Option (Unit) :=
  some ()

def m_slices_IndexFunc_si_named_1_l_L1 (p1 : List (ByteArray × Int)) (p2 : ByteArray) : Nat → Int → Option (Int ⊕ Unit)
  | 0, _ => none
  | fu + 1, v3 =>
    bif decide (v3 < (p1.length : Int)) then
      gd (0 ≤ v3 ∧ v3 < (p1.length : Int)) <|
      bd (m_impl_named_1_l ((gt p1 v3).1) ((gt p1 v3).2) p2) fun x4 =>
      bif decide (((gt p1 v3).1) = p2) then
        some (Sum.inl v3)
      else
        m_slices_IndexFunc_si_named_1_l_L1 p1 p2 fu (IntKind.wrap .i64 (v3 + 1))
    else
      some (Sum.inr ())

/-- slices.IndexFunc[[]loop.example/namedflags/impl.Def,loop.example/namedflags/impl.Def] -/
def m_slices_IndexFunc_si_named_1_l (p1 : List (ByteArray × Int)) (p2 : ByteArray) : Option (Int) :=
  bd (m_slices_IndexFunc_si_named_1_l_L1 p1 p2 FU 0) fun x5 =>
  sm x5 (fun x6 =>
    some x6) (fun x7 =>
    some (-1))

/-- loop.example/namedflags/impl.named -/
def m_impl_named (p1 : List (ByteArray × Int)) (p2 : ByteArray) : Option (Int) :=
  bd (m_slices_IndexFunc_si_named_1_l p1 p2) fun x3 =>
  some x3

def m_impl_defsValid_L1 (p1 : List (ByteArray × Int)) (p2 : Int) (p3 : Int) : Nat → Int → Option (Unit ⊕ Unit)
  | 0, _ => none
  | fu + 1, v4 =>
    bif decide (v4 < (p1.length : Int)) then
      gd (0 ≤ v4 ∧ v4 < (p1.length : Int)) <|
      bd (m_impl_ValidName ((gt p1 v4).1)) fun x5 =>
      bif (!x5) then
        some (Sum.inl ())
      else
        bd (m_impl_in ((gt p1 v4).2) p2 p3) fun x6 =>
        bif (!x6) then
          some (Sum.inl ())
        else
          gd (0 ≤ (0 : Int) ∧ (0 : Int) ≤ v4 ∧ v4 ≤ (p1.length : Int) ∧ (p1.length : Int) ≤ (p1.length : Int)) <|
          bd (m_impl_named (sub p1 (0 : Int) v4) ((gt p1 v4).1)) fun x7 =>
          bif decide (0 ≤ x7) then
            some (Sum.inl ())
          else
            m_impl_defsValid_L1 p1 p2 p3 fu (IntKind.wrap .i64 (v4 + 1))
    else
      some (Sum.inr ())

/-- loop.example/namedflags/impl.defsValid -/
def m_impl_defsValid (p1 : List (ByteArray × Int)) (p2 : Int) (p3 : Int) : Option (Bool) :=
  bd (m_impl_defsValid_L1 p1 p2 p3 FU 0) fun x8 =>
  sm x8 (fun x9 =>
    some false) (fun x10 =>
    some (decide ((p1.length : Int) ≤ 12)))

/-- loop.example/namedflags/spec.inRange -/
def m_spec_inRange (p1 : Int) (p2 : Int) (p3 : Int) : Option (Bool) :=
  bif decide (p2 ≤ p1) then
    some (decide (p1 ≤ p3))
  else
    some false

def m_spec_validName_L1 (p1 : ByteArray) : Nat → Int → Option (Unit ⊕ Unit)
  | 0, _ => none
  | fu + 1, v2 =>
    bif decide (v2 < (p1.size : Int)) then
      gd (0 ≤ v2 ∧ v2 < (p1.size : Int)) <|
      bif decide ((byteAt p1 v2.toNat) < 97) then
        some (Sum.inl ())
      else
        bif decide (122 < (byteAt p1 v2.toNat)) then
          some (Sum.inl ())
        else
          m_spec_validName_L1 p1 fu (IntKind.wrap .i64 (v2 + 1))
    else
      some (Sum.inr ())

/-- loop.example/namedflags/spec.validName -/
def m_spec_validName (p1 : ByteArray) : Option (Bool) :=
  bd (m_spec_validName_L1 p1 FU 0) fun x3 =>
  sm x3 (fun x4 =>
    some false) (fun x5 =>
    bd (m_spec_inRange (p1.size : Int) 1 6) fun x6 =>
    some x6)

def m_spec_validDefs_L1 (p1 : List (ByteArray × Int)) (p2 : Int) (p3 : Int) : Nat → Int → Option (Unit ⊕ Unit)
  | 0, _ => none
  | fu + 1, v4 =>
    bif decide (v4 < (p1.length : Int)) then
      gd (0 ≤ v4 ∧ v4 < (p1.length : Int)) <|
      bd (m_spec_validName ((gt p1 v4).1)) fun x5 =>
      bif (!x5) then
        some (Sum.inl ())
      else
        bd (m_spec_inRange ((gt p1 v4).2) p2 p3) fun x6 =>
        bif (!x6) then
          some (Sum.inl ())
        else
          gd (0 ≤ (0 : Int) ∧ (0 : Int) ≤ v4 ∧ v4 ≤ (p1.length : Int) ∧ (p1.length : Int) ≤ (p1.length : Int)) <|
          bd (m_spec_indexOf (sub p1 (0 : Int) v4) ((gt p1 v4).1)) fun x7 =>
          bif decide (0 ≤ x7) then
            some (Sum.inl ())
          else
            m_spec_validDefs_L1 p1 p2 p3 fu (IntKind.wrap .i64 (v4 + 1))
    else
      some (Sum.inr ())

/-- loop.example/namedflags/spec.validDefs -/
def m_spec_validDefs (p1 : List (ByteArray × Int)) (p2 : Int) (p3 : Int) : Option (Bool) :=
  bd (m_spec_validDefs_L1 p1 p2 p3 FU 0) fun x8 =>
  sm x8 (fun x9 =>
    some false) (fun x10 =>
    some (decide ((p1.length : Int) ≤ 12)))

/-- slices.Clip[[]loop.example/namedflags/impl.Def,loop.example/namedflags/impl.Def] -/
def m_slices_Clip_si (p1 : List (ByteArray × Int)) : Option (Unit) :=
  gd (0 ≤ (0 : Int) ∧ (0 : Int) ≤ (p1.length : Int) ∧ (p1.length : Int) ≤ (p1.length : Int) ∧ (p1.length : Int) ≤ (p1.length : Int)) <|
  some ()

/-- slices.Clip[[]loop.example/namedflags/impl.Def,loop.example/namedflags/impl.Def] -/
def m_slices_Clip_hsi (p1 : List (ByteArray × Int)) : Option (Unit) :=
  some ()

/-- slices.Clone[[]loop.example/namedflags/impl.Def,loop.example/namedflags/impl.Def] -/
def m_slices_Clone_si (p1 : List (ByteArray × Int)) : Option (List (ByteArray × Int)) :=
  gd (p1.length ≤ 1099511627776) <|
  some p1

/-- loop.example/namedflags/impl.clone[loop.example/namedflags/impl.Def] -/
def m_impl_clone_si (p1 : List (ByteArray × Int)) : Option (List (ByteArray × Int)) :=
  bd (m_slices_Clone_si p1) fun x2 =>
  bd (m_slices_Clip_hsi x2) fun x3 =>
  some x2

/-- loop.example/namedflags/laws.eqDef -/
def m_laws_eqDef (p1 : ByteArray) (p2 : Int) (p3 : ByteArray) (p4 : Int) : Option (Bool) :=
  bif (!decide (p1 = p3)) then
    some false
  else
    bif (!decide (p2 = p4)) then
      some false
    else
      some true

def m_laws_eqDefS_L1 (p1 : List (ByteArray × Int)) (p2 : List (ByteArray × Int)) : Nat → Int → Option (Unit ⊕ Unit)
  | 0, _ => none
  | fu + 1, v3 =>
    bif decide (v3 < (p1.length : Int)) then
      gd (0 ≤ v3 ∧ v3 < (p1.length : Int)) <|
      gd (0 ≤ v3 ∧ v3 < (p2.length : Int)) <|
      bd (m_laws_eqDef ((gt p1 v3).1) ((gt p1 v3).2) ((gt p2 v3).1) ((gt p2 v3).2)) fun x4 =>
      bif (!x4) then
        some (Sum.inl ())
      else
        m_laws_eqDefS_L1 p1 p2 fu (IntKind.wrap .i64 (v3 + 1))
    else
      some (Sum.inr ())

/-- loop.example/namedflags/laws.eqDefS -/
def m_laws_eqDefS (p1 : List (ByteArray × Int)) (p2 : List (ByteArray × Int)) : Option (Bool) :=
  bif (!decide ((p1.length : Int) = (p2.length : Int))) then
    some false
  else
    bd (m_laws_eqDefS_L1 p1 p2 FU 0) fun x5 =>
    sm x5 (fun x6 =>
      some false) (fun x7 =>
      some true)

def m_laws_markText_L1  : Nat → Int → ByteArray → Option (ByteArray)
  | 0, _, _ => none
  | fu + 1, v2, v3 =>
    bif decide (0 < v2) then
      gd ((10 : Int) ≠ 0) <|
      nm (bstr ([IntKind.wrap .u8 (IntKind.wrap .i64 (48 + (Int.tmod v2 10)))] : List (Int))) fun v4 =>
      gd (v4.size + v3.size ≤ 9223372036854775807) <|
      gd ((10 : Int) ≠ 0 ∧ IntKind.wrap .i64 (Int.tdiv v2 10) = Int.tdiv v2 10) <|
      m_laws_markText_L1  fu (Int.tdiv v2 10) (v4 ++ v3)
    else
      some v3

/-- loop.example/namedflags/laws.markText -/
def m_laws_markText (p1 : Int) : Option (ByteArray) :=
  bif decide (p1 ≤ 0) then
    some (ByteArray.mk #[109, 48])
  else
    bd (m_laws_markText_L1 FU p1 ByteArray.empty) fun x5 =>
    gd ((ByteArray.mk #[109]).size + x5.size ≤ 9223372036854775807) <|
    some ((ByteArray.mk #[109]) ++ x5)

def m_laws_markDefS_h_L1  : Nat → Int → Int → (List (ByteArray × Int)) → Option (Int × (List (ByteArray × Int)))
  | 0, _, _, _ => none
  | fu + 1, v3, v4, v5 =>
    bif decide (v4 < (v5.length : Int)) then
      bd (m_laws_markText v3) fun x6 =>
      gd (0 ≤ v4 ∧ v4 < (v5.length : Int)) <|
      m_laws_markDefS_h_L1  fu (IntKind.wrap .i64 ((IntKind.wrap .i64 (v3 + 1)) + 1)) (IntKind.wrap .i64 (v4 + 1)) ((v5.set (0 + v4.toNat) (x6, (gt v5 v4).2)).set (0 + v4.toNat) ((gt (v5.set (0 + v4.toNat) (x6, (gt v5 v4).2)) v4).1, IntKind.wrap .i64 (v3 + 1)))
    else
      some (v3, v5)

/-- loop.example/namedflags/laws.markDefS -/
def m_laws_markDefS_h (p1 : Int) (p2 : List (ByteArray × Int)) : Option (Int × (List (ByteArray × Int))) :=
  bd (m_laws_markDefS_h_L1 FU p1 0 p2) fun x7 =>
  some (x7.1, x7.2)

def m_laws_heldDefS_L1 (p1 : List (ByteArray × Int)) : Nat → Int → Int → Option (Unit ⊕ Int)
  | 0, _, _ => none
  | fu + 1, v3, v4 =>
    bif decide (v4 < (p1.length : Int)) then
      gd (0 ≤ v4 ∧ v4 < (p1.length : Int)) <|
      bd (m_laws_markText v3) fun x5 =>
      bif (!decide (((gt p1 v4).1) = x5)) then
        some (Sum.inl ())
      else
        bif (!decide (((gt p1 v4).2) = (IntKind.wrap .i64 (v3 + 1)))) then
          some (Sum.inl ())
        else
          m_laws_heldDefS_L1 p1 fu (IntKind.wrap .i64 ((IntKind.wrap .i64 (v3 + 1)) + 1)) (IntKind.wrap .i64 (v4 + 1))
    else
      some (Sum.inr v3)

/-- loop.example/namedflags/laws.heldDefS -/
def m_laws_heldDefS (p1 : List (ByteArray × Int)) (p2 : Int) : Option (Int) :=
  bd (m_laws_heldDefS_L1 p1 FU p2 0) fun x6 =>
  sm x6 (fun x7 =>
    some (-1)) (fun x8 =>
    some x8)

/-- loop.example/namedflags/impl.ValidEnum -/
def m_impl_ValidEnum (p1 : List (ByteArray × Int)) : Option (Bool) :=
  bd (m_impl_defsValid p1 (-1000) 1000) fun x2 =>
  some x2

/-- loop.example/namedflags/spec.validEnum -/
def m_spec_validEnum (p1 : List (ByteArray × Int)) : Option (Bool) :=
  bd (m_spec_validDefs p1 (-1000) 1000) fun x2 =>
  some x2

/-- loop.example/namedflags/impl.enumOf -/
def m_impl_enumOf (p1 : List (ByteArray × Int)) (p2 : Bool) : Option ((List (ByteArray × Int)) × Bool) :=
  bif (!p2) then
    some (([] : List (ByteArray × Int)), false)
  else
    bd (m_impl_ValidEnum p1) fun x3 =>
    bif (!x3) then
      some (([] : List (ByteArray × Int)), false)
    else
      bd (m_impl_clone_si p1) fun x4 =>
      some (x4, true)

/-- loop.example/namedflags/impl.AddDef -/
def m_impl_AddDef (p1 : List (ByteArray × Int)) (p2 : ByteArray) (p3 : Int) : Option ((List (ByteArray × Int)) × Bool) :=
  bd (m_impl_clone_si p1) fun x4 =>
  gd (x4.length + ([(p2, p3)] : List (ByteArray × Int)).length ≤ 1099511627776) <|
  bd (m_impl_ValidEnum p1) fun x5 =>
  bd (m_impl_enumOf (x4 ++ ([(p2, p3)] : List (ByteArray × Int))) x5) fun x6 =>
  some (x6.1, x6.2)

/-- slices.Grow[[]loop.example/namedflags/impl.Def,loop.example/namedflags/impl.Def] -/
def m_slices_Grow_nsi (p1 : Int) : Option (List (ByteArray × Int)) :=
  bif decide (p1 < 0) then
    none
  else
    nm (decide (0 < (IntKind.wrap .i64 (p1 - (IntKind.wrap .i64 (0 - 0)))))) fun v2 =>
    bif v2 then
      gd ((0 : Int) = 0 ∧ (0 : Int) = 0 ∧ (0 : Int) = 0) <|
      gd (0 ≤ (IntKind.wrap .i64 (p1 - (IntKind.wrap .i64 (0 - 0)))) ∧ (IntKind.wrap .i64 (p1 - (IntKind.wrap .i64 (0 - 0)))) ≤ 1099511627776) <|
      gd (([] : List (ByteArray × Int)).length + (List.replicate (IntKind.wrap .i64 (p1 - (IntKind.wrap .i64 (0 - 0)))).toNat ((ByteArray.empty, 0) : ByteArray × Int)).length ≤ 1099511627776) <|
      gd (0 ≤ (0 : Int) ∧ (0 : Int) ≤ (0 : Int) ∧ (0 : Int) ≤ ((List.replicate (IntKind.wrap .i64 (p1 - (IntKind.wrap .i64 (0 - 0)))).toNat ((ByteArray.empty, 0) : ByteArray × Int)).length : Int) ∧ ((List.replicate (IntKind.wrap .i64 (p1 - (IntKind.wrap .i64 (0 - 0)))).toNat ((ByteArray.empty, 0) : ByteArray × Int)).length : Int) ≤ ((List.replicate (IntKind.wrap .i64 (p1 - (IntKind.wrap .i64 (0 - 0)))).toNat ((ByteArray.empty, 0) : ByteArray × Int)).length : Int)) <|
      some (sub (List.replicate (IntKind.wrap .i64 (p1 - (IntKind.wrap .i64 (0 - 0)))).toNat ((ByteArray.empty, 0) : ByteArray × Int)) (0 : Int) (0 : Int))
    else
      some ([] : List (ByteArray × Int))

/-- slices.Concat[[]loop.example/namedflags/impl.Def,loop.example/namedflags/impl.Def] -/
def m_slices_Concat_x2sisi (p1 : List (ByteArray × Int)) (p2 : List (ByteArray × Int)) : Option (List (ByteArray × Int)) :=
  bif decide ((IntKind.wrap .i64 (0 + (p1.length : Int))) < 0) then
    none
  else
    nm (IntKind.wrap .i64 ((IntKind.wrap .i64 (0 + (p1.length : Int))) + (p2.length : Int))) fun v3 =>
    bif decide (v3 < 0) then
      none
    else
      bd (m_slices_Grow_nsi v3) fun x4 =>
      gd (x4.length + p1.length ≤ 1099511627776) <|
      gd ((x4 ++ p1).length + p2.length ≤ 1099511627776) <|
      some ((x4 ++ p1) ++ p2)

/-- loop.example/namedflags/impl.DropDef -/
def m_impl_DropDef (p1 : List (ByteArray × Int)) (p2 : ByteArray) : Option ((List (ByteArray × Int)) × Bool) :=
  bd (m_impl_named p1 p2) fun x3 =>
  bif decide (x3 < 0) then
    some (([] : List (ByteArray × Int)), false)
  else
    gd (0 ≤ (0 : Int) ∧ (0 : Int) ≤ x3 ∧ x3 ≤ (p1.length : Int) ∧ (p1.length : Int) ≤ (p1.length : Int)) <|
    gd (0 ≤ (IntKind.wrap .i64 (x3 + 1)) ∧ (IntKind.wrap .i64 (x3 + 1)) ≤ (p1.length : Int) ∧ (p1.length : Int) ≤ (p1.length : Int) ∧ (p1.length : Int) ≤ (p1.length : Int)) <|
    bd (m_slices_Concat_x2sisi (sub p1 (0 : Int) x3) (sub p1 (IntKind.wrap .i64 (x3 + 1)) (p1.length : Int))) fun x4 =>
    bd (m_impl_ValidEnum p1) fun x5 =>
    bd (m_impl_enumOf x4 x5) fun x6 =>
    some (x6.1, x6.2)

/-- (loop.example/namedflags/impl.Enum).apply -/
def m_impl_Enum_apply (p1 : List (ByteArray × Int)) (p2 : Int) (p3 : ByteArray) (p4 : Int) (p5 : Int) : Option ((List (ByteArray × Int)) × Bool) :=
  bd (m_impl_named p1 p3) fun x6 =>
  bif decide (p2 = 0) then
    bif decide (0 ≤ x6) then
      some (([] : List (ByteArray × Int)), false)
    else
      bif (!decide (p4 = 0)) then
        some (([] : List (ByteArray × Int)), false)
      else
        bd (m_impl_AddDef p1 p3 p5) fun x7 =>
        some (x7.1, x7.2)
  else
    bif decide (x6 < 0) then
      some (([] : List (ByteArray × Int)), false)
    else
      gd (0 ≤ x6 ∧ x6 < (p1.length : Int)) <|
      bif (!decide (((gt p1 x6).2) = p4)) then
        some (([] : List (ByteArray × Int)), false)
      else
        bif decide (p2 = 1) then
          bif decide (p5 = 0) then
            bd (m_impl_DropDef p1 p3) fun x8 =>
            some (x8.1, x8.2)
          else
            bif decide (p2 = 2) then
              bd (m_impl_clone_si p1) fun x9 =>
              gd (0 ≤ x6 ∧ x6 < (x9.length : Int)) <|
              bd (m_impl_enumOf (x9.set (0 + x6.toNat) ((gt x9 x6).1, p5)) true) fun x10 =>
              some (x10.1, x10.2)
            else
              some (([] : List (ByteArray × Int)), false)
        else
          bif decide (p2 = 2) then
            bd (m_impl_clone_si p1) fun x11 =>
            gd (0 ≤ x6 ∧ x6 < (x11.length : Int)) <|
            bd (m_impl_enumOf (x11.set (0 + x6.toNat) ((gt x11 x6).1, p5)) true) fun x12 =>
            some (x12.1, x12.2)
          else
            some (([] : List (ByteArray × Int)), false)

def m_impl_ApplyChanges_L1 (p2 : List (Int × ByteArray × Int × Int)) : Nat → (List (ByteArray × Int)) → Int → Option (Unit ⊕ List (ByteArray × Int))
  | 0, _, _ => none
  | fu + 1, v5, v6 =>
    bif decide (v6 < (p2.length : Int)) then
      gd (0 ≤ v6 ∧ v6 < (p2.length : Int)) <|
      bd (m_impl_Enum_apply v5 ((gt p2 v6).1) ((gt p2 v6).2.1) ((gt p2 v6).2.2.1) ((gt p2 v6).2.2.2)) fun x7 =>
      bif (!x7.2) then
        some (Sum.inl ())
      else
        m_impl_ApplyChanges_L1 p2 fu x7.1 (IntKind.wrap .i64 (v6 + 1))
    else
      some (Sum.inr v5)

/-- loop.example/namedflags/impl.ApplyChanges -/
def m_impl_ApplyChanges (p1 : List (ByteArray × Int)) (p2 : List (Int × ByteArray × Int × Int)) : Option ((List (ByteArray × Int)) × Bool) :=
  bd (m_impl_ValidEnum p1) fun x3 =>
  bif (!x3) then
    some (([] : List (ByteArray × Int)), false)
  else
    bif decide (30 < (p2.length : Int)) then
      some (([] : List (ByteArray × Int)), false)
    else
      bd (m_impl_clone_si p1) fun x4 =>
      bd (m_impl_ApplyChanges_L1 p2 FU x4 0) fun x8 =>
      sm x8 (fun x9 =>
        some (([] : List (ByteArray × Int)), false)) (fun x10 =>
        some (x10, true))

/-- loop.example/namedflags/spec.copyDefs -/
def m_spec_copyDefs (p1 : List (ByteArray × Int)) : Option (Unit) :=
  gd (([] : List (ByteArray × Int)).length + p1.length ≤ 1099511627776) <|
  some ()

/-- loop.example/namedflags/spec.dropped -/
def m_spec_dropped (p1 : List (ByteArray × Int)) (p2 : Int) : Option (Unit) :=
  gd (0 ≤ (0 : Int) ∧ (0 : Int) ≤ p2 ∧ p2 ≤ (p1.length : Int) ∧ (p1.length : Int) ≤ (p1.length : Int)) <|
  bd (m_spec_copyDefs (sub p1 (0 : Int) p2)) fun x3 =>
  gd (0 ≤ (IntKind.wrap .i64 (p2 + 1)) ∧ (IntKind.wrap .i64 (p2 + 1)) ≤ (p1.length : Int) ∧ (p1.length : Int) ≤ (p1.length : Int) ∧ (p1.length : Int) ≤ (p1.length : Int)) <|
  gd ((([] : List (ByteArray × Int)) ++ (sub p1 (0 : Int) p2)).length + (sub p1 (IntKind.wrap .i64 (p2 + 1)) (p1.length : Int)).length ≤ 1099511627776) <|
  some ()

/-- loop.example/namedflags/spec.applied -/
def m_spec_applied (p1 : List (ByteArray × Int)) (p2 : Int) (p3 : ByteArray) (p4 : Int) (p5 : Int) : Option ((List (ByteArray × Int)) × Bool) :=
  bd (m_spec_indexOf p1 p3) fun x6 =>
  bif decide (p2 = 0) then
    bd (m_spec_copyDefs p1) fun x7 =>
    gd ((([] : List (ByteArray × Int)) ++ p1).length + ([(p3, p5)] : List (ByteArray × Int)).length ≤ 1099511627776) <|
    bif decide (x6 < 0) then
      some ((([] : List (ByteArray × Int)) ++ p1) ++ ([(p3, p5)] : List (ByteArray × Int)), decide (p4 = 0))
    else
      some ((([] : List (ByteArray × Int)) ++ p1) ++ ([(p3, p5)] : List (ByteArray × Int)), false)
  else
    bif decide (p2 = 1) then
      bif decide (x6 < 0) then
        some (([] : List (ByteArray × Int)), false)
      else
        gd (0 ≤ x6 ∧ x6 < (p1.length : Int)) <|
        bif (!decide (((gt p1 x6).2) = p4)) then
          some (([] : List (ByteArray × Int)), false)
        else
          bif (!decide (p5 = 0)) then
            some (([] : List (ByteArray × Int)), false)
          else
            bd (m_spec_dropped p1 x6) fun x8 =>
            some ((([] : List (ByteArray × Int)) ++ (sub p1 (0 : Int) x6)) ++ (sub p1 (IntKind.wrap .i64 (x6 + 1)) (p1.length : Int)), true)
    else
      bif decide (p2 = 2) then
        bif decide (x6 < 0) then
          some (([] : List (ByteArray × Int)), false)
        else
          gd (0 ≤ x6 ∧ x6 < (p1.length : Int)) <|
          bif (!decide (((gt p1 x6).2) = p4)) then
            some (([] : List (ByteArray × Int)), false)
          else
            bd (m_spec_copyDefs p1) fun x9 =>
            gd (0 ≤ x6 ∧ x6 < ((([] : List (ByteArray × Int)) ++ p1).length : Int)) <|
            some ((([] : List (ByteArray × Int)) ++ p1).set (0 + x6.toNat) ((gt (([] : List (ByteArray × Int)) ++ p1) x6).1, p5), true)
      else
        some (([] : List (ByteArray × Int)), false)

def m_spec_ApplyChanges_L1 (p2 : List (Int × ByteArray × Int × Int)) : Nat → (List (ByteArray × Int)) → Int → Option (Unit ⊕ List (ByteArray × Int))
  | 0, _, _ => none
  | fu + 1, v5, v6 =>
    bif decide (v6 < (p2.length : Int)) then
      gd (0 ≤ v6 ∧ v6 < (p2.length : Int)) <|
      bd (m_spec_applied v5 ((gt p2 v6).1) ((gt p2 v6).2.1) ((gt p2 v6).2.2.1) ((gt p2 v6).2.2.2)) fun x7 =>
      bif (!x7.2) then
        some (Sum.inl ())
      else
        bd (m_spec_validEnum x7.1) fun x8 =>
        bif (!x8) then
          some (Sum.inl ())
        else
          m_spec_ApplyChanges_L1 p2 fu x7.1 (IntKind.wrap .i64 (v6 + 1))
    else
      some (Sum.inr v5)

/-- loop.example/namedflags/spec.ApplyChanges -/
def m_spec_ApplyChanges (p1 : List (ByteArray × Int)) (p2 : List (Int × ByteArray × Int × Int)) : Option ((List (ByteArray × Int)) × Bool) :=
  bd (m_spec_validEnum p1) fun x3 =>
  bif (!x3) then
    some (([] : List (ByteArray × Int)), false)
  else
    bif decide (30 < (p2.length : Int)) then
      some (([] : List (ByteArray × Int)), false)
    else
      bd (m_spec_copyDefs p1) fun x4 =>
      bd (m_spec_ApplyChanges_L1 p2 FU (([] : List (ByteArray × Int)) ++ p1) 0) fun x9 =>
      sm x9 (fun x10 =>
        some (([] : List (ByteArray × Int)), false)) (fun x11 =>
        some (x11, true))

/-- loop.example/namedflags/laws.szDef -/
def m_laws_szDef (p1 : ByteArray) (p2 : Int) (p3 : Int) : Option (Int) :=
  bif decide ((IntKind.wrap .i64 (p3 - (p1.size : Int))) < 0) then
    some (-1)
  else
    some (IntKind.wrap .i64 (p3 - (p1.size : Int)))

def m_laws_szDefS_L1 (p1 : List (ByteArray × Int)) : Nat → Int → Int → Option (Unit ⊕ Int)
  | 0, _, _ => none
  | fu + 1, v3, v4 =>
    bif decide (v4 < (p1.length : Int)) then
      gd (0 ≤ v4 ∧ v4 < (p1.length : Int)) <|
      bd (m_laws_szDef ((gt p1 v4).1) ((gt p1 v4).2) v3) fun x5 =>
      bif decide (x5 < 0) then
        some (Sum.inl ())
      else
        m_laws_szDefS_L1 p1 fu x5 (IntKind.wrap .i64 (v4 + 1))
    else
      some (Sum.inr v3)

/-- loop.example/namedflags/laws.szDefS -/
def m_laws_szDefS (p1 : List (ByteArray × Int)) (p2 : Int) : Option (Int) :=
  bif decide ((IntKind.wrap .i64 (p2 - (p1.length : Int))) < 0) then
    some (-1)
  else
    bd (m_laws_szDefS_L1 p1 FU (IntKind.wrap .i64 (p2 - (p1.length : Int))) 0) fun x6 =>
    sm x6 (fun x7 =>
      some (-1)) (fun x8 =>
      some x8)

/-- loop.example/namedflags/laws.szEnum -/
def m_laws_szEnum (p1 : List (ByteArray × Int)) (p2 : Int) : Option (Int) :=
  bd (m_laws_szDefS p1 p2) fun x3 =>
  bif decide (x3 < 0) then
    some (-1)
  else
    some x3

/-- loop.example/namedflags/laws.toDef -/
def m_laws_toDef (p1 : ByteArray) (p2 : Int) : Option (Unit) :=
  some ()

def m_laws_toDefS_L1 (p1 : List (ByteArray × Int)) : Nat → (List (ByteArray × Int)) → Int → Option (List (ByteArray × Int))
  | 0, _, _ => none
  | fu + 1, v2, v3 =>
    bif decide (v3 < (p1.length : Int)) then
      gd (0 ≤ v3 ∧ v3 < (p1.length : Int)) <|
      bd (m_laws_toDef ((gt p1 v3).1) ((gt p1 v3).2)) fun x4 =>
      gd (0 ≤ v3 ∧ v3 < (v2.length : Int)) <|
      m_laws_toDefS_L1 p1 fu (v2.set (0 + v3.toNat) (((gt p1 v3).1), ((gt p1 v3).2))) (IntKind.wrap .i64 (v3 + 1))
    else
      some v2

/-- loop.example/namedflags/laws.toDefS -/
def m_laws_toDefS (p1 : List (ByteArray × Int)) : Option (List (ByteArray × Int)) :=
  gd (0 ≤ (p1.length : Int) ∧ (p1.length : Int) = (p1.length : Int) ∧ (24 : Int) * (p1.length : Int) ≤ 281474976710656 ∧ (p1.length : Int) ≤ 9223372036854775807) <|
  bd (m_laws_toDefS_L1 p1 FU (List.replicate (p1.length : Int).toNat ((ByteArray.empty, 0) : ByteArray × Int)) 0) fun x5 =>
  some x5

/-- loop.example/namedflags/laws.toEnum -/
def m_laws_toEnum (p1 : List (ByteArray × Int)) : Option (List (ByteArray × Int)) :=
  bd (m_laws_toDefS p1) fun x2 =>
  some x2

/-- loop.example/namedflags/laws.eqEnum -/
def m_laws_eqEnum (p1 : List (ByteArray × Int)) (p2 : List (ByteArray × Int)) : Option (Bool) :=
  bd (m_laws_eqDefS p1 p2) fun x3 =>
  bif (!x3) then
    some false
  else
    some true

/-- loop.example/namedflags/laws.markEnum -/
def m_laws_markEnum_h (p1 : Int) (p2 : List (ByteArray × Int)) : Option (Int × (List (ByteArray × Int))) :=
  bd (m_laws_markDefS_h p1 p2) fun x3 =>
  gd (x3.2.length = p2.length) <|
  some (x3.1, x3.2)

/-- loop.example/namedflags/laws.heldEnum -/
def m_laws_heldEnum (p1 : List (ByteArray × Int)) (p2 : Int) : Option (Int) :=
  bd (m_laws_heldDefS p1 p2) fun x3 =>
  bif decide (x3 < 0) then
    some (-1)
  else
    some x3

/-- loop.example/namedflags/laws.szChange -/
def m_laws_szChange (p1 : Int) (p2 : ByteArray) (p3 : Int) (p4 : Int) (p5 : Int) : Option (Int) :=
  bif decide ((IntKind.wrap .i64 (p5 - (p2.size : Int))) < 0) then
    some (-1)
  else
    some (IntKind.wrap .i64 (p5 - (p2.size : Int)))

def m_laws_szChangeS_L1 (p1 : List (Int × ByteArray × Int × Int)) : Nat → Int → Int → Option (Unit ⊕ Int)
  | 0, _, _ => none
  | fu + 1, v3, v4 =>
    bif decide (v4 < (p1.length : Int)) then
      gd (0 ≤ v4 ∧ v4 < (p1.length : Int)) <|
      bd (m_laws_szChange ((gt p1 v4).1) ((gt p1 v4).2.1) ((gt p1 v4).2.2.1) ((gt p1 v4).2.2.2) v3) fun x5 =>
      bif decide (x5 < 0) then
        some (Sum.inl ())
      else
        m_laws_szChangeS_L1 p1 fu x5 (IntKind.wrap .i64 (v4 + 1))
    else
      some (Sum.inr v3)

/-- loop.example/namedflags/laws.szChangeS -/
def m_laws_szChangeS (p1 : List (Int × ByteArray × Int × Int)) (p2 : Int) : Option (Int) :=
  bif decide ((IntKind.wrap .i64 (p2 - (p1.length : Int))) < 0) then
    some (-1)
  else
    bd (m_laws_szChangeS_L1 p1 FU (IntKind.wrap .i64 (p2 - (p1.length : Int))) 0) fun x6 =>
    sm x6 (fun x7 =>
      some (-1)) (fun x8 =>
      some x8)

/-- loop.example/namedflags/laws.toChange -/
def m_laws_toChange (p1 : Int) (p2 : ByteArray) (p3 : Int) (p4 : Int) : Option (Unit) :=
  some ()

def m_laws_toChangeS_L1 (p1 : List (Int × ByteArray × Int × Int)) : Nat → (List (Int × ByteArray × Int × Int)) → Int → Option (List (Int × ByteArray × Int × Int))
  | 0, _, _ => none
  | fu + 1, v2, v3 =>
    bif decide (v3 < (p1.length : Int)) then
      gd (0 ≤ v3 ∧ v3 < (p1.length : Int)) <|
      bd (m_laws_toChange ((gt p1 v3).1) ((gt p1 v3).2.1) ((gt p1 v3).2.2.1) ((gt p1 v3).2.2.2)) fun x4 =>
      gd (0 ≤ v3 ∧ v3 < (v2.length : Int)) <|
      m_laws_toChangeS_L1 p1 fu (v2.set (0 + v3.toNat) (((gt p1 v3).1), ((gt p1 v3).2.1), ((gt p1 v3).2.2.1), ((gt p1 v3).2.2.2))) (IntKind.wrap .i64 (v3 + 1))
    else
      some v2

/-- loop.example/namedflags/laws.toChangeS -/
def m_laws_toChangeS (p1 : List (Int × ByteArray × Int × Int)) : Option (List (Int × ByteArray × Int × Int)) :=
  gd (0 ≤ (p1.length : Int) ∧ (p1.length : Int) = (p1.length : Int) ∧ (40 : Int) * (p1.length : Int) ≤ 281474976710656 ∧ (p1.length : Int) ≤ 9223372036854775807) <|
  bd (m_laws_toChangeS_L1 p1 FU (List.replicate (p1.length : Int).toNat ((0, ByteArray.empty, 0, 0) : Int × ByteArray × Int × Int)) 0) fun x5 =>
  some x5

/-- loop.example/namedflags/laws.eqChange -/
def m_laws_eqChange (p1 : Int) (p2 : ByteArray) (p3 : Int) (p4 : Int) (p5 : Int) (p6 : ByteArray) (p7 : Int) (p8 : Int) : Option (Bool) :=
  bif (!decide (p1 = p5)) then
    some false
  else
    bif (!decide (p2 = p6)) then
      some false
    else
      bif (!decide (p3 = p7)) then
        some false
      else
        bif (!decide (p4 = p8)) then
          some false
        else
          some true

def m_laws_eqChangeS_L1 (p1 : List (Int × ByteArray × Int × Int)) (p2 : List (Int × ByteArray × Int × Int)) : Nat → Int → Option (Unit ⊕ Unit)
  | 0, _ => none
  | fu + 1, v3 =>
    bif decide (v3 < (p1.length : Int)) then
      gd (0 ≤ v3 ∧ v3 < (p1.length : Int)) <|
      gd (0 ≤ v3 ∧ v3 < (p2.length : Int)) <|
      bd (m_laws_eqChange ((gt p1 v3).1) ((gt p1 v3).2.1) ((gt p1 v3).2.2.1) ((gt p1 v3).2.2.2) ((gt p2 v3).1) ((gt p2 v3).2.1) ((gt p2 v3).2.2.1) ((gt p2 v3).2.2.2)) fun x4 =>
      bif (!x4) then
        some (Sum.inl ())
      else
        m_laws_eqChangeS_L1 p1 p2 fu (IntKind.wrap .i64 (v3 + 1))
    else
      some (Sum.inr ())

/-- loop.example/namedflags/laws.eqChangeS -/
def m_laws_eqChangeS (p1 : List (Int × ByteArray × Int × Int)) (p2 : List (Int × ByteArray × Int × Int)) : Option (Bool) :=
  bif (!decide ((p1.length : Int) = (p2.length : Int))) then
    some false
  else
    bd (m_laws_eqChangeS_L1 p1 p2 FU 0) fun x5 =>
    sm x5 (fun x6 =>
      some false) (fun x7 =>
      some true)

def m_laws_markChangeS_h_L1  : Nat → Int → Int → (List (Int × ByteArray × Int × Int)) → Option (Int × (List (Int × ByteArray × Int × Int)))
  | 0, _, _, _ => none
  | fu + 1, v3, v4, v5 =>
    bif decide (v4 < (v5.length : Int)) then
      gd (0 ≤ v4 ∧ v4 < (v5.length : Int)) <|
      bd (m_laws_markText (IntKind.wrap .i64 (v3 + 1))) fun x6 =>
      nm (IntKind.wrap .i64 ((IntKind.wrap .i64 ((IntKind.wrap .i64 (v3 + 1)) + 1)) + 1)) fun v7 =>
      m_laws_markChangeS_h_L1  fu (IntKind.wrap .i64 (v7 + 1)) (IntKind.wrap .i64 (v4 + 1)) ((((v5.set (0 + v4.toNat) (v3, (gt v5 v4).2.1, (gt v5 v4).2.2.1, (gt v5 v4).2.2.2)).set (0 + v4.toNat) ((gt (v5.set (0 + v4.toNat) (v3, (gt v5 v4).2.1, (gt v5 v4).2.2.1, (gt v5 v4).2.2.2)) v4).1, x6, (gt (v5.set (0 + v4.toNat) (v3, (gt v5 v4).2.1, (gt v5 v4).2.2.1, (gt v5 v4).2.2.2)) v4).2.2.1, (gt (v5.set (0 + v4.toNat) (v3, (gt v5 v4).2.1, (gt v5 v4).2.2.1, (gt v5 v4).2.2.2)) v4).2.2.2)).set (0 + v4.toNat) ((gt ((v5.set (0 + v4.toNat) (v3, (gt v5 v4).2.1, (gt v5 v4).2.2.1, (gt v5 v4).2.2.2)).set (0 + v4.toNat) ((gt (v5.set (0 + v4.toNat) (v3, (gt v5 v4).2.1, (gt v5 v4).2.2.1, (gt v5 v4).2.2.2)) v4).1, x6, (gt (v5.set (0 + v4.toNat) (v3, (gt v5 v4).2.1, (gt v5 v4).2.2.1, (gt v5 v4).2.2.2)) v4).2.2.1, (gt (v5.set (0 + v4.toNat) (v3, (gt v5 v4).2.1, (gt v5 v4).2.2.1, (gt v5 v4).2.2.2)) v4).2.2.2)) v4).1, (gt ((v5.set (0 + v4.toNat) (v3, (gt v5 v4).2.1, (gt v5 v4).2.2.1, (gt v5 v4).2.2.2)).set (0 + v4.toNat) ((gt (v5.set (0 + v4.toNat) (v3, (gt v5 v4).2.1, (gt v5 v4).2.2.1, (gt v5 v4).2.2.2)) v4).1, x6, (gt (v5.set (0 + v4.toNat) (v3, (gt v5 v4).2.1, (gt v5 v4).2.2.1, (gt v5 v4).2.2.2)) v4).2.2.1, (gt (v5.set (0 + v4.toNat) (v3, (gt v5 v4).2.1, (gt v5 v4).2.2.1, (gt v5 v4).2.2.2)) v4).2.2.2)) v4).2.1, IntKind.wrap .i64 ((IntKind.wrap .i64 (v3 + 1)) + 1), (gt ((v5.set (0 + v4.toNat) (v3, (gt v5 v4).2.1, (gt v5 v4).2.2.1, (gt v5 v4).2.2.2)).set (0 + v4.toNat) ((gt (v5.set (0 + v4.toNat) (v3, (gt v5 v4).2.1, (gt v5 v4).2.2.1, (gt v5 v4).2.2.2)) v4).1, x6, (gt (v5.set (0 + v4.toNat) (v3, (gt v5 v4).2.1, (gt v5 v4).2.2.1, (gt v5 v4).2.2.2)) v4).2.2.1, (gt (v5.set (0 + v4.toNat) (v3, (gt v5 v4).2.1, (gt v5 v4).2.2.1, (gt v5 v4).2.2.2)) v4).2.2.2)) v4).2.2.2)).set (0 + v4.toNat) ((gt (((v5.set (0 + v4.toNat) (v3, (gt v5 v4).2.1, (gt v5 v4).2.2.1, (gt v5 v4).2.2.2)).set (0 + v4.toNat) ((gt (v5.set (0 + v4.toNat) (v3, (gt v5 v4).2.1, (gt v5 v4).2.2.1, (gt v5 v4).2.2.2)) v4).1, x6, (gt (v5.set (0 + v4.toNat) (v3, (gt v5 v4).2.1, (gt v5 v4).2.2.1, (gt v5 v4).2.2.2)) v4).2.2.1, (gt (v5.set (0 + v4.toNat) (v3, (gt v5 v4).2.1, (gt v5 v4).2.2.1, (gt v5 v4).2.2.2)) v4).2.2.2)).set (0 + v4.toNat) ((gt ((v5.set (0 + v4.toNat) (v3, (gt v5 v4).2.1, (gt v5 v4).2.2.1, (gt v5 v4).2.2.2)).set (0 + v4.toNat) ((gt (v5.set (0 + v4.toNat) (v3, (gt v5 v4).2.1, (gt v5 v4).2.2.1, (gt v5 v4).2.2.2)) v4).1, x6, (gt (v5.set (0 + v4.toNat) (v3, (gt v5 v4).2.1, (gt v5 v4).2.2.1, (gt v5 v4).2.2.2)) v4).2.2.1, (gt (v5.set (0 + v4.toNat) (v3, (gt v5 v4).2.1, (gt v5 v4).2.2.1, (gt v5 v4).2.2.2)) v4).2.2.2)) v4).1, (gt ((v5.set (0 + v4.toNat) (v3, (gt v5 v4).2.1, (gt v5 v4).2.2.1, (gt v5 v4).2.2.2)).set (0 + v4.toNat) ((gt (v5.set (0 + v4.toNat) (v3, (gt v5 v4).2.1, (gt v5 v4).2.2.1, (gt v5 v4).2.2.2)) v4).1, x6, (gt (v5.set (0 + v4.toNat) (v3, (gt v5 v4).2.1, (gt v5 v4).2.2.1, (gt v5 v4).2.2.2)) v4).2.2.1, (gt (v5.set (0 + v4.toNat) (v3, (gt v5 v4).2.1, (gt v5 v4).2.2.1, (gt v5 v4).2.2.2)) v4).2.2.2)) v4).2.1, IntKind.wrap .i64 ((IntKind.wrap .i64 (v3 + 1)) + 1), (gt ((v5.set (0 + v4.toNat) (v3, (gt v5 v4).2.1, (gt v5 v4).2.2.1, (gt v5 v4).2.2.2)).set (0 + v4.toNat) ((gt (v5.set (0 + v4.toNat) (v3, (gt v5 v4).2.1, (gt v5 v4).2.2.1, (gt v5 v4).2.2.2)) v4).1, x6, (gt (v5.set (0 + v4.toNat) (v3, (gt v5 v4).2.1, (gt v5 v4).2.2.1, (gt v5 v4).2.2.2)) v4).2.2.1, (gt (v5.set (0 + v4.toNat) (v3, (gt v5 v4).2.1, (gt v5 v4).2.2.1, (gt v5 v4).2.2.2)) v4).2.2.2)) v4).2.2.2)) v4).1, (gt (((v5.set (0 + v4.toNat) (v3, (gt v5 v4).2.1, (gt v5 v4).2.2.1, (gt v5 v4).2.2.2)).set (0 + v4.toNat) ((gt (v5.set (0 + v4.toNat) (v3, (gt v5 v4).2.1, (gt v5 v4).2.2.1, (gt v5 v4).2.2.2)) v4).1, x6, (gt (v5.set (0 + v4.toNat) (v3, (gt v5 v4).2.1, (gt v5 v4).2.2.1, (gt v5 v4).2.2.2)) v4).2.2.1, (gt (v5.set (0 + v4.toNat) (v3, (gt v5 v4).2.1, (gt v5 v4).2.2.1, (gt v5 v4).2.2.2)) v4).2.2.2)).set (0 + v4.toNat) ((gt ((v5.set (0 + v4.toNat) (v3, (gt v5 v4).2.1, (gt v5 v4).2.2.1, (gt v5 v4).2.2.2)).set (0 + v4.toNat) ((gt (v5.set (0 + v4.toNat) (v3, (gt v5 v4).2.1, (gt v5 v4).2.2.1, (gt v5 v4).2.2.2)) v4).1, x6, (gt (v5.set (0 + v4.toNat) (v3, (gt v5 v4).2.1, (gt v5 v4).2.2.1, (gt v5 v4).2.2.2)) v4).2.2.1, (gt (v5.set (0 + v4.toNat) (v3, (gt v5 v4).2.1, (gt v5 v4).2.2.1, (gt v5 v4).2.2.2)) v4).2.2.2)) v4).1, (gt ((v5.set (0 + v4.toNat) (v3, (gt v5 v4).2.1, (gt v5 v4).2.2.1, (gt v5 v4).2.2.2)).set (0 + v4.toNat) ((gt (v5.set (0 + v4.toNat) (v3, (gt v5 v4).2.1, (gt v5 v4).2.2.1, (gt v5 v4).2.2.2)) v4).1, x6, (gt (v5.set (0 + v4.toNat) (v3, (gt v5 v4).2.1, (gt v5 v4).2.2.1, (gt v5 v4).2.2.2)) v4).2.2.1, (gt (v5.set (0 + v4.toNat) (v3, (gt v5 v4).2.1, (gt v5 v4).2.2.1, (gt v5 v4).2.2.2)) v4).2.2.2)) v4).2.1, IntKind.wrap .i64 ((IntKind.wrap .i64 (v3 + 1)) + 1), (gt ((v5.set (0 + v4.toNat) (v3, (gt v5 v4).2.1, (gt v5 v4).2.2.1, (gt v5 v4).2.2.2)).set (0 + v4.toNat) ((gt (v5.set (0 + v4.toNat) (v3, (gt v5 v4).2.1, (gt v5 v4).2.2.1, (gt v5 v4).2.2.2)) v4).1, x6, (gt (v5.set (0 + v4.toNat) (v3, (gt v5 v4).2.1, (gt v5 v4).2.2.1, (gt v5 v4).2.2.2)) v4).2.2.1, (gt (v5.set (0 + v4.toNat) (v3, (gt v5 v4).2.1, (gt v5 v4).2.2.1, (gt v5 v4).2.2.2)) v4).2.2.2)) v4).2.2.2)) v4).2.1, (gt (((v5.set (0 + v4.toNat) (v3, (gt v5 v4).2.1, (gt v5 v4).2.2.1, (gt v5 v4).2.2.2)).set (0 + v4.toNat) ((gt (v5.set (0 + v4.toNat) (v3, (gt v5 v4).2.1, (gt v5 v4).2.2.1, (gt v5 v4).2.2.2)) v4).1, x6, (gt (v5.set (0 + v4.toNat) (v3, (gt v5 v4).2.1, (gt v5 v4).2.2.1, (gt v5 v4).2.2.2)) v4).2.2.1, (gt (v5.set (0 + v4.toNat) (v3, (gt v5 v4).2.1, (gt v5 v4).2.2.1, (gt v5 v4).2.2.2)) v4).2.2.2)).set (0 + v4.toNat) ((gt ((v5.set (0 + v4.toNat) (v3, (gt v5 v4).2.1, (gt v5 v4).2.2.1, (gt v5 v4).2.2.2)).set (0 + v4.toNat) ((gt (v5.set (0 + v4.toNat) (v3, (gt v5 v4).2.1, (gt v5 v4).2.2.1, (gt v5 v4).2.2.2)) v4).1, x6, (gt (v5.set (0 + v4.toNat) (v3, (gt v5 v4).2.1, (gt v5 v4).2.2.1, (gt v5 v4).2.2.2)) v4).2.2.1, (gt (v5.set (0 + v4.toNat) (v3, (gt v5 v4).2.1, (gt v5 v4).2.2.1, (gt v5 v4).2.2.2)) v4).2.2.2)) v4).1, (gt ((v5.set (0 + v4.toNat) (v3, (gt v5 v4).2.1, (gt v5 v4).2.2.1, (gt v5 v4).2.2.2)).set (0 + v4.toNat) ((gt (v5.set (0 + v4.toNat) (v3, (gt v5 v4).2.1, (gt v5 v4).2.2.1, (gt v5 v4).2.2.2)) v4).1, x6, (gt (v5.set (0 + v4.toNat) (v3, (gt v5 v4).2.1, (gt v5 v4).2.2.1, (gt v5 v4).2.2.2)) v4).2.2.1, (gt (v5.set (0 + v4.toNat) (v3, (gt v5 v4).2.1, (gt v5 v4).2.2.1, (gt v5 v4).2.2.2)) v4).2.2.2)) v4).2.1, IntKind.wrap .i64 ((IntKind.wrap .i64 (v3 + 1)) + 1), (gt ((v5.set (0 + v4.toNat) (v3, (gt v5 v4).2.1, (gt v5 v4).2.2.1, (gt v5 v4).2.2.2)).set (0 + v4.toNat) ((gt (v5.set (0 + v4.toNat) (v3, (gt v5 v4).2.1, (gt v5 v4).2.2.1, (gt v5 v4).2.2.2)) v4).1, x6, (gt (v5.set (0 + v4.toNat) (v3, (gt v5 v4).2.1, (gt v5 v4).2.2.1, (gt v5 v4).2.2.2)) v4).2.2.1, (gt (v5.set (0 + v4.toNat) (v3, (gt v5 v4).2.1, (gt v5 v4).2.2.1, (gt v5 v4).2.2.2)) v4).2.2.2)) v4).2.2.2)) v4).2.2.1, v7))
    else
      some (v3, v5)

/-- loop.example/namedflags/laws.markChangeS -/
def m_laws_markChangeS_h (p1 : Int) (p2 : List (Int × ByteArray × Int × Int)) : Option (Int × (List (Int × ByteArray × Int × Int))) :=
  bd (m_laws_markChangeS_h_L1 FU p1 0 p2) fun x8 =>
  some (x8.1, x8.2)

/-- loop.example/namedflags/laws.FnExactApplyChanges -/
def m_laws_FnExactApplyChanges (p1 : List (ByteArray × Int)) (p2 : List (Int × ByteArray × Int × Int)) : Option (Bool) :=
  bd (m_laws_szEnum p1 1048576) fun x3 =>
  bif decide (x3 < 0) then
    some true
  else
    bd (m_laws_szChangeS p2 x3) fun x4 =>
    bif decide (x4 < 0) then
      some true
    else
      bd (m_laws_toEnum p1) fun x5 =>
      bd (m_laws_toChangeS p2) fun x6 =>
      bd (m_spec_ApplyChanges x5 x6) fun x7 =>
      bd (m_laws_toEnum p1) fun x8 =>
      bd (m_laws_toChangeS p2) fun x9 =>
      bd (m_impl_ApplyChanges x8 x9) fun x10 =>
      bd (m_laws_eqEnum x10.1 x7.1) fun x11 =>
      bif (!x11) then
        some false
      else
        bif (!(x10.2 == x7.2)) then
          some false
        else
          bd (m_laws_toEnum p1) fun x12 =>
          bd (m_laws_eqEnum x8 x12) fun x13 =>
          bif (!x13) then
            some false
          else
            bd (m_laws_toChangeS p2) fun x14 =>
            bd (m_laws_eqChangeS x9 x14) fun x15 =>
            bif (!x15) then
              some false
            else
              bd (m_laws_markEnum_h 1 x8) fun x16 =>
              gd (x16.2.length = x8.length) <|
              bd (m_laws_markChangeS_h x16.1 x9) fun x17 =>
              gd (x17.2.length = x9.length) <|
              bif decide (x17.1 < 0) then
                some false
              else
                bd (m_laws_eqEnum x10.1 x7.1) fun x18 =>
                bif (!x18) then
                  some false
                else
                  bd (m_laws_markEnum_h 1 x10.1) fun x19 =>
                  gd (x19.2.length = x10.1.length) <|
                  bd (m_laws_heldEnum x19.2 1) fun x20 =>
                  bif decide (x20 < 0) then
                    some false
                  else
                    bif (!decide (x20 = x19.1)) then
                      some false
                    else
                      bd (m_laws_toEnum p1) fun x21 =>
                      bd (m_laws_toChangeS p2) fun x22 =>
                      bd (m_impl_ApplyChanges x21 x22) fun x23 =>
                      bd (m_laws_eqEnum x23.1 x7.1) fun x24 =>
                      bif (!x24) then
                        some false
                      else
                        bif (!(x23.2 == x7.2)) then
                          some false
                        else
                          bd (m_laws_heldEnum x19.2 1) fun x25 =>
                          bif decide (x25 < 0) then
                            some false
                          else
                            bif (!decide (x25 = x19.1)) then
                              some false
                            else
                              some true

end Go.Eng

/- What is said here: nothing is proved. A model of each function, printed by a program out of the translated code. -/
import Derived.Test.YtehcdfddbnhniaaCExactMembersInEng25
set_option linter.unusedVariables false
set_option linter.unusedSimpArgs false
namespace Go.Eng
open Go

def enc_s (x : ByteArray) : List Value := [.string x]

def enc_si (x : ByteArray × Int) : List Value := [.string x.1, .int .i64 x.2]

def enc_y (x : Int) : List Value := [.int .u8 x]

def FU : Nat := 4611686018427387904

def bstr (ns : List Int) : ByteArray := ns.foldl (fun r n => r.push (UInt8.ofNat n.toNat)) ByteArray.empty

/-- (*loop.example/namedflags/spec.reader).pick -/
def m_spec_reader_pick (p1 : Int) (p2 : List (Int)) (p3 : Int) : Option (Int) :=
  bif decide (p1 < 1) then
    some 0
  else
    bif decide ((p2.length : Int) = 0) then
      some 0
    else
      nm (decide ((IntKind.wrap .i64 ((IntKind.wrap .i64 (p3 + 1)) - 1)) < (p2.length : Int))) fun v4 =>
      bif v4 then
        gd (0 ≤ (IntKind.wrap .i64 ((IntKind.wrap .i64 (p3 + 1)) - 1)) ∧ (IntKind.wrap .i64 ((IntKind.wrap .i64 (p3 + 1)) - 1)) < (p2.length : Int)) <|
        nm ((gt p2 (IntKind.wrap .i64 ((IntKind.wrap .i64 (p3 + 1)) - 1)))) fun v5 =>
        gd (p1 ≠ 0) <|
        some (Int.tmod (IntKind.wrap .i64 (v5)) p1)
      else
        gd ((p2.length : Int) ≠ 0) <|
        nm (Int.tmod (IntKind.wrap .i64 ((IntKind.wrap .i64 (p3 + 1)) - 1)) (p2.length : Int)) fun v6 =>
        gd (0 ≤ v6 ∧ v6 < (p2.length : Int)) <|
        nm (IntKind.wrap .i64 ((IntKind.wrap .i64 ((IntKind.wrap .i64 (p3 + 1)) - 1)) * 7)) fun v7 =>
        gd (0 ≤ (Int.tmod (IntKind.wrap .i64 (v7 + 3)) (p2.length : Int)) ∧ (Int.tmod (IntKind.wrap .i64 (v7 + 3)) (p2.length : Int)) < (p2.length : Int)) <|
        nm ((gt p2 (Int.tmod (IntKind.wrap .i64 (v7 + 3)) (p2.length : Int)))) fun v8 =>
        nm (IntKind.wrap .i64 ((IntKind.wrap .i64 ((IntKind.wrap .i64 ((gt p2 v6))) * 131)) + (IntKind.wrap .i64 ((IntKind.wrap .i64 (v8)) * 1117)))) fun v9 =>
        nm (IntKind.wrap .i64 ((IntKind.wrap .i64 ((IntKind.wrap .i64 (p3 + 1)) - 1)) * 29)) fun v10 =>
        gd ((p2.length : Int) ≠ 0 ∧ IntKind.wrap .i64 (Int.tdiv (IntKind.wrap .i64 ((IntKind.wrap .i64 (p3 + 1)) - 1)) (p2.length : Int)) = Int.tdiv (IntKind.wrap .i64 ((IntKind.wrap .i64 (p3 + 1)) - 1)) (p2.length : Int)) <|
        nm (Int.tdiv (IntKind.wrap .i64 ((IntKind.wrap .i64 (p3 + 1)) - 1)) (p2.length : Int)) fun v11 =>
        nm (IntKind.wrap .i64 ((IntKind.wrap .i64 (v9 + v10)) + (IntKind.wrap .i64 (v11 * 53)))) fun v12 =>
        gd ((64 : Int) ≠ 0 ∧ IntKind.wrap .i64 (Int.tdiv v12 64) = Int.tdiv v12 64) <|
        gd (p1 ≠ 0) <|
        some (Int.tmod (Go.bits .xor .i64 v12 (Int.tdiv v12 64)) p1)

/-- (*loop.example/namedflags/spec.reader).one -/
def m_spec_reader_one (p1 : List (Int)) (p2 : List (Int)) (p3 : Int) : Option (Int) :=
  bd (m_spec_reader_pick (p1.length : Int) p2 p3) fun x4 =>
  gd (0 ≤ x4 ∧ x4 < (p1.length : Int)) <|
  some (gt p1 x4)

def m_spec_indexOf_L1 (p1 : List (ByteArray × Int)) (p2 : ByteArray) : Nat → Int → Option (Int ⊕ Unit)
  | 0, _ => none
  | fu + 1, v3 =>
    bif decide (v3 < (p1.length : Int)) then
      gd (0 ≤ v3 ∧ v3 < (p1.length : Int)) <|
      bif decide (((gt p1 v3).1) = p2) then
        some (Sum.inl v3)
      else
        m_spec_indexOf_L1 p1 p2 fu (IntKind.wrap .i64 (v3 + 1))
    else
      some (Sum.inr ())

/-- loop.example/namedflags/spec.indexOf -/
def m_spec_indexOf (p1 : List (ByteArray × Int)) (p2 : ByteArray) : Option (Int) :=
  bd (m_spec_indexOf_L1 p1 p2 FU 0) fun x4 =>
  sm x4 (fun x5 =>
    some x5) (fun x6 =>
    some (-1))

def m_spec_valueAt_L1 (p1 : List (ByteArray × Int)) (p2 : Int) : Nat → Int → Option (Int ⊕ Unit)
  | 0, _ => none
  | fu + 1, v3 =>
    bif decide (v3 < (p1.length : Int)) then
      gd (0 ≤ v3 ∧ v3 < (p1.length : Int)) <|
      bif decide (((gt p1 v3).2) = p2) then
        some (Sum.inl v3)
      else
        m_spec_valueAt_L1 p1 p2 fu (IntKind.wrap .i64 (v3 + 1))
    else
      some (Sum.inr ())

/-- loop.example/namedflags/spec.valueAt -/
def m_spec_valueAt (p1 : List (ByteArray × Int)) (p2 : Int) : Option (Int) :=
  bd (m_spec_valueAt_L1 p1 p2 FU 0) fun x4 =>
  sm x4 (fun x5 =>
    some x5) (fun x6 =>
    some (-1))

def m_spec_singles_L1 (p1 : List (ByteArray × Int)) : Nat → (List (ByteArray × Int)) → Int → Option (List (ByteArray × Int))
  | 0, _, _ => none
  | fu + 1, v2, v3 =>
    bif decide (v3 ≤ 4095) then
      bd (m_spec_valueAt p1 v3) fun x4 =>
      bif decide (0 ≤ x4) then
        gd (0 ≤ x4 ∧ x4 < (p1.length : Int)) <|
        gd (v2.length + ([((gt p1 x4).1, (gt p1 x4).2)] : List (ByteArray × Int)).length ≤ 1099511627776) <|
        m_spec_singles_L1 p1 fu (v2 ++ ([((gt p1 x4).1, (gt p1 x4).2)] : List (ByteArray × Int))) (IntKind.wrap .i64 (v3 * 2))
      else
        m_spec_singles_L1 p1 fu v2 (IntKind.wrap .i64 (v3 * 2))
    else
      some v2

/-- loop.example/namedflags/spec.singles -/
def m_spec_singles (p1 : List (ByteArray × Int)) : Option (List (ByteArray × Int)) :=
  bd (m_spec_singles_L1 p1 FU ([] : List (ByteArray × Int)) 1) fun x5 =>
  some x5

/-- loop.example/namedflags/impl.in -/
def m_impl_in (p1 : Int) (p2 : Int) (p3 : Int) : Option (Bool) :=
  bif decide (p2 ≤ p1) then
    some (decide (p1 ≤ p3))
  else
    some false

def m_impl_ValidName_L1 (p1 : ByteArray) : Nat → Int → Option (Unit ⊕ Unit)
  | 0, _ => none
  | fu + 1, v2 =>
    bif decide (v2 < (p1.size : Int)) then
      gd (0 ≤ v2 ∧ v2 < (p1.size : Int)) <|
      bif decide ((byteAt p1 v2.toNat) < 97) then
        some (Sum.inl ())
      else
        bif decide (122 < (byteAt p1 v2.toNat)) then
          some (Sum.inl ())
        else
          m_impl_ValidName_L1 p1 fu (IntKind.wrap .i64 (v2 + 1))
    else
      some (Sum.inr ())

/-- loop.example/namedflags/impl.ValidName -/
def m_impl_ValidName (p1 : ByteArray) : Option (Bool) :=
  bd (m_impl_ValidName_L1 p1 FU 0) fun x3 =>
  sm x3 (fun x4 =>
    some false) (fun x5 =>
    bd (m_impl_in (p1.size : Int) 1 6) fun x6 =>
    some x6)

/-- loop.example/namedflags/impl.named$1 -/
def m_impl_named_1_l (p1 : ByteArray) (p2 : Int) (p3 : ByteArray) : Option (Unit) :=
  some ()

def m_slices_IndexFunc_si_named_1_l_L1 (p1 : List (ByteArray × Int)) (p2 : ByteArray) : Nat → Int → Option (Int ⊕ Unit)
  | 0, _ => none
  | fu + 1, v3 =>
    bif decide (v3 < (p1.length : Int)) then
      gd (0 ≤ v3 ∧ v3 < (p1.length : Int)) <|
      bd (m_impl_named_1_l ((gt p1 v3).1) ((gt p1 v3).2) p2) fun x4 =>
      bif decide (((gt p1 v3).1) = p2) then
        some (Sum.inl v3)
      else
        m_slices_IndexFunc_si_named_1_l_L1 p1 p2 fu (IntKind.wrap .i64 (v3 + 1))
    else
      some (Sum.inr ())

/-- slices.IndexFunc[[]loop.example/namedflags/impl.Def,loop.example/namedflags/impl.Def] -/
def m_slices_IndexFunc_si_named_1_l (p1 : List (ByteArray × Int)) (p2 : ByteArray) : Option (Int) :=
  bd (m_slices_IndexFunc_si_named_1_l_L1 p1 p2 FU 0) fun x5 =>
  sm x5 (fun x6 =>
    some x6) (fun x7 =>
    some (-1))

/-- loop.example/namedflags/impl.named -/
def m_impl_named (p1 : List (ByteArray × Int)) (p2 : ByteArray) : Option (Int) :=
  bd (m_slices_IndexFunc_si_named_1_l p1 p2) fun x3 =>
  some x3

def m_impl_defsValid_L1 (p1 : List (ByteArray × Int)) (p2 : Int) (p3 : Int) : Nat → Int → Option (Unit ⊕ Unit)
  | 0, _ => none
  | fu + 1, v4 =>
    bif decide (v4 < (p1.length : Int)) then
      gd (0 ≤ v4 ∧ v4 < (p1.length : Int)) <|
      bd (m_impl_ValidName ((gt p1 v4).1)) fun x5 =>
      bif (!x5) then
        some (Sum.inl ())
      else
        bd (m_impl_in ((gt p1 v4).2) p2 p3) fun x6 =>
        bif (!x6) then
          some (Sum.inl ())
        else
          gd (0 ≤ (0 : Int) ∧ (0 : Int) ≤ v4 ∧ v4 ≤ (p1.length : Int) ∧ (p1.length : Int) ≤ (p1.length : Int)) <|
          bd (m_impl_named (sub p1 (0 : Int) v4) ((gt p1 v4).1)) fun x7 =>
          bif decide (0 ≤ x7) then
            some (Sum.inl ())
          else
            m_impl_defsValid_L1 p1 p2 p3 fu (IntKind.wrap .i64 (v4 + 1))
    else
      some (Sum.inr ())

/-- loop.example/namedflags/impl.defsValid -/
def m_impl_defsValid (p1 : List (ByteArray × Int)) (p2 : Int) (p3 : Int) : Option (Bool) :=
  bd (m_impl_defsValid_L1 p1 p2 p3 FU 0) fun x8 =>
  sm x8 (fun x9 =>
    some false) (fun x10 =>
    some (decide ((p1.length : Int) ≤ 12)))

/-- loop.example/namedflags/impl.ValidFlag -/
def m_impl_ValidFlag (p1 : List (ByteArray × Int)) (p2 : Int) : Option (Bool) :=
  bd (m_impl_defsValid p1 0 4095) fun x3 =>
  bif x3 then
    bd (m_impl_in p2 0 3) fun x4 =>
    some x4
  else
    some false

def m_impl_Flag_mask_L1 (p1 : List (ByteArray × Int)) : Nat → Int → Int → Option (Int)
  | 0, _, _ => none
  | fu + 1, v3, v4 =>
    bif decide (v4 < (p1.length : Int)) then
      gd (0 ≤ v4 ∧ v4 < (p1.length : Int)) <|
      m_impl_Flag_mask_L1 p1 fu (Go.bits .or .i64 v3 ((gt p1 v4).2)) (IntKind.wrap .i64 (v4 + 1))
    else
      some v3

/-- (loop.example/namedflags/impl.Flag).mask -/
def m_impl_Flag_mask (p1 : List (ByteArray × Int)) (p2 : Int) : Option (Int) :=
  bd (m_impl_Flag_mask_L1 p1 FU 0 0) fun x5 =>
  some x5

def m_spec_both_L1 (p1 : Int) (p2 : Int) : Nat → Int → Int → Option (Int)
  | 0, _, _ => none
  | fu + 1, v3, v4 =>
    bif decide (v4 ≤ 4095) then
      gd (v4 ≠ 0 ∧ IntKind.wrap .i64 (Int.tdiv p1 v4) = Int.tdiv p1 v4) <|
      gd ((2 : Int) ≠ 0) <|
      bif decide ((Int.tmod (Int.tdiv p1 v4) 2) = 1) then
        gd (v4 ≠ 0 ∧ IntKind.wrap .i64 (Int.tdiv p2 v4) = Int.tdiv p2 v4) <|
        bif decide ((Int.tmod (Int.tdiv p2 v4) 2) = 1) then
          m_spec_both_L1 p1 p2 fu (IntKind.wrap .i64 (v3 + v4)) (IntKind.wrap .i64 (v4 * 2))
        else
          m_spec_both_L1 p1 p2 fu v3 (IntKind.wrap .i64 (v4 * 2))
      else
        m_spec_both_L1 p1 p2 fu v3 (IntKind.wrap .i64 (v4 * 2))
    else
      some v3

/-- loop.example/namedflags/spec.both -/
def m_spec_both (p1 : Int) (p2 : Int) : Option (Int) :=
  bd (m_spec_both_L1 p1 p2 FU 0 1) fun x5 =>
  some x5

/-- loop.example/namedflags/spec.either -/
def m_spec_either (p1 : Int) (p2 : Int) : Option (Int) :=
  bd (m_spec_both p1 p2) fun x3 =>
  some (IntKind.wrap .i64 ((IntKind.wrap .i64 (p1 + p2)) - x3))

def m_spec_mask_L1 (p1 : List (ByteArray × Int)) : Nat → Int → Int → Option (Int)
  | 0, _, _ => none
  | fu + 1, v2, v3 =>
    bif decide (v3 < (p1.length : Int)) then
      gd (0 ≤ v3 ∧ v3 < (p1.length : Int)) <|
      bd (m_spec_either v2 ((gt p1 v3).2)) fun x4 =>
      m_spec_mask_L1 p1 fu x4 (IntKind.wrap .i64 (v3 + 1))
    else
      some v2

/-- loop.example/namedflags/spec.mask -/
def m_spec_mask (p1 : List (ByteArray × Int)) : Option (Int) :=
  bd (m_spec_mask_L1 p1 FU 0 0) fun x5 =>
  some x5

/-- loop.example/namedflags/spec.inRange -/
def m_spec_inRange (p1 : Int) (p2 : Int) (p3 : Int) : Option (Bool) :=
  bif decide (p2 ≤ p1) then
    some (decide (p1 ≤ p3))
  else
    some false

def m_spec_validName_L1 (p1 : ByteArray) : Nat → Int → Option (Unit ⊕ Unit)
  | 0, _ => none
  | fu + 1, v2 =>
    bif decide (v2 < (p1.size : Int)) then
      gd (0 ≤ v2 ∧ v2 < (p1.size : Int)) <|
      bif decide ((byteAt p1 v2.toNat) < 97) then
        some (Sum.inl ())
      else
        bif decide (122 < (byteAt p1 v2.toNat)) then
          some (Sum.inl ())
        else
          m_spec_validName_L1 p1 fu (IntKind.wrap .i64 (v2 + 1))
    else
      some (Sum.inr ())

/-- loop.example/namedflags/spec.validName -/
def m_spec_validName (p1 : ByteArray) : Option (Bool) :=
  bd (m_spec_validName_L1 p1 FU 0) fun x3 =>
  sm x3 (fun x4 =>
    some false) (fun x5 =>
    bd (m_spec_inRange (p1.size : Int) 1 6) fun x6 =>
    some x6)

def m_spec_validDefs_L1 (p1 : List (ByteArray × Int)) (p2 : Int) (p3 : Int) : Nat → Int → Option (Unit ⊕ Unit)
  | 0, _ => none
  | fu + 1, v4 =>
    bif decide (v4 < (p1.length : Int)) then
      gd (0 ≤ v4 ∧ v4 < (p1.length : Int)) <|
      bd (m_spec_validName ((gt p1 v4).1)) fun x5 =>
      bif (!x5) then
        some (Sum.inl ())
      else
        bd (m_spec_inRange ((gt p1 v4).2) p2 p3) fun x6 =>
        bif (!x6) then
          some (Sum.inl ())
        else
          gd (0 ≤ (0 : Int) ∧ (0 : Int) ≤ v4 ∧ v4 ≤ (p1.length : Int) ∧ (p1.length : Int) ≤ (p1.length : Int)) <|
          bd (m_spec_indexOf (sub p1 (0 : Int) v4) ((gt p1 v4).1)) fun x7 =>
          bif decide (0 ≤ x7) then
            some (Sum.inl ())
          else
            m_spec_validDefs_L1 p1 p2 p3 fu (IntKind.wrap .i64 (v4 + 1))
    else
      some (Sum.inr ())

/-- loop.example/namedflags/spec.validDefs -/
def m_spec_validDefs (p1 : List (ByteArray × Int)) (p2 : Int) (p3 : Int) : Option (Bool) :=
  bd (m_spec_validDefs_L1 p1 p2 p3 FU 0) fun x8 =>
  sm x8 (fun x9 =>
    some false) (fun x10 =>
    some (decide ((p1.length : Int) ≤ 12)))

/-- loop.example/namedflags/spec.validFlag -/
def m_spec_validFlag (p1 : List (ByteArray × Int)) (p2 : Int) : Option (Bool) :=
  bd (m_spec_validDefs p1 0 4095) fun x3 =>
  bif x3 then
    bd (m_spec_inRange p2 0 3) fun x4 =>
    some x4
  else
    some false

/-- loop.example/namedflags/spec.less -/
def m_spec_less (p1 : Int) (p2 : Int) : Option (Int) :=
  bd (m_spec_both p1 p2) fun x3 =>
  some (IntKind.wrap .i64 (p1 - x3))

/-- loop.example/namedflags/impl.IsValue -/
def m_impl_IsValue (p1 : List (ByteArray × Int)) (p2 : Int) (p3 : Int) : Option (Bool) :=
  bd (m_impl_ValidFlag p1 p2) fun x4 =>
  bif x4 then
    bd (m_impl_in p3 0 4095) fun x5 =>
    bif x5 then
      bif decide (p2 = 3) then
        some true
      else
        bd (m_impl_Flag_mask p1 p2) fun x6 =>
        some (decide ((Go.bits .andNot .i64 p3 x6) = 0))
    else
      some false
  else
    some false

/-- slices.Clip[[]loop.example/namedflags/impl.Def,loop.example/namedflags/impl.Def] -/
def m_slices_Clip_si (p1 : List (ByteArray × Int)) : Option (Unit) :=
  gd (0 ≤ (0 : Int) ∧ (0 : Int) ≤ (p1.length : Int) ∧ (p1.length : Int) ≤ (p1.length : Int) ∧ (p1.length : Int) ≤ (p1.length : Int)) <|
  some ()

/-- slices.Clip[[]loop.example/namedflags/impl.Def,loop.example/namedflags/impl.Def] -/
def m_slices_Clip_hsi (p1 : List (ByteArray × Int)) : Option (Unit) :=
  some ()

/-- slices.Clone[[]loop.example/namedflags/impl.Def,loop.example/namedflags/impl.Def] -/
def m_slices_Clone_si (p1 : List (ByteArray × Int)) : Option (List (ByteArray × Int)) :=
  gd (p1.length ≤ 1099511627776) <|
  some p1

/-- loop.example/namedflags/impl.clone[loop.example/namedflags/impl.Def] -/
def m_impl_clone_si (p1 : List (ByteArray × Int)) : Option (List (ByteArray × Int)) :=
  bd (m_slices_Clone_si p1) fun x2 =>
  bd (m_slices_Clip_hsi x2) fun x3 =>
  some x2

/-- loop.example/namedflags/laws.eqDef -/
def m_laws_eqDef (p1 : ByteArray) (p2 : Int) (p3 : ByteArray) (p4 : Int) : Option (Bool) :=
  bif (!decide (p1 = p3)) then
    some false
  else
    bif (!decide (p2 = p4)) then
      some false
    else
      some true

def m_laws_eqDefS_L1 (p1 : List (ByteArray × Int)) (p2 : List (ByteArray × Int)) : Nat → Int → Option (Unit ⊕ Unit)
  | 0, _ => none
  | fu + 1, v3 =>
    bif decide (v3 < (p1.length : Int)) then
      gd (0 ≤ v3 ∧ v3 < (p1.length : Int)) <|
      gd (0 ≤ v3 ∧ v3 < (p2.length : Int)) <|
      bd (m_laws_eqDef ((gt p1 v3).1) ((gt p1 v3).2) ((gt p2 v3).1) ((gt p2 v3).2)) fun x4 =>
      bif (!x4) then
        some (Sum.inl ())
      else
        m_laws_eqDefS_L1 p1 p2 fu (IntKind.wrap .i64 (v3 + 1))
    else
      some (Sum.inr ())

/-- loop.example/namedflags/laws.eqDefS -/
def m_laws_eqDefS (p1 : List (ByteArray × Int)) (p2 : List (ByteArray × Int)) : Option (Bool) :=
  bif (!decide ((p1.length : Int) = (p2.length : Int))) then
    some false
  else
    bd (m_laws_eqDefS_L1 p1 p2 FU 0) fun x5 =>
    sm x5 (fun x6 =>
      some false) (fun x7 =>
      some true)

def m_laws_markText_L1  : Nat → Int → ByteArray → Option (ByteArray)
  | 0, _, _ => none
  | fu + 1, v2, v3 =>
    bif decide (0 < v2) then
      gd ((10 : Int) ≠ 0) <|
      nm (bstr ([IntKind.wrap .u8 (IntKind.wrap .i64 (48 + (Int.tmod v2 10)))] : List (Int))) fun v4 =>
      gd (v4.size + v3.size ≤ 9223372036854775807) <|
      gd ((10 : Int) ≠ 0 ∧ IntKind.wrap .i64 (Int.tdiv v2 10) = Int.tdiv v2 10) <|
      m_laws_markText_L1  fu (Int.tdiv v2 10) (v4 ++ v3)
    else
      some v3

/-- loop.example/namedflags/laws.markText -/
def m_laws_markText (p1 : Int) : Option (ByteArray) :=
  bif decide (p1 ≤ 0) then
    some (ByteArray.mk #[109, 48])
  else
    bd (m_laws_markText_L1 FU p1 ByteArray.empty) fun x5 =>
    gd ((ByteArray.mk #[109]).size + x5.size ≤ 9223372036854775807) <|
    some ((ByteArray.mk #[109]) ++ x5)

def m_laws_markDefS_h_L1  : Nat → Int → Int → (List (ByteArray × Int)) → Option (Int × (List (ByteArray × Int)))
  | 0, _, _, _ => none
  | fu + 1, v3, v4, v5 =>
    bif decide (v4 < (v5.length : Int)) then
      bd (m_laws_markText v3) fun x6 =>
      gd (0 ≤ v4 ∧ v4 < (v5.length : Int)) <|
      m_laws_markDefS_h_L1  fu (IntKind.wrap .i64 ((IntKind.wrap .i64 (v3 + 1)) + 1)) (IntKind.wrap .i64 (v4 + 1)) ((v5.set (0 + v4.toNat) (x6, (gt v5 v4).2)).set (0 + v4.toNat) ((gt (v5.set (0 + v4.toNat) (x6, (gt v5 v4).2)) v4).1, IntKind.wrap .i64 (v3 + 1)))
    else
      some (v3, v5)

/-- loop.example/namedflags/laws.markDefS -/
def m_laws_markDefS_h (p1 : Int) (p2 : List (ByteArray × Int)) : Option (Int × (List (ByteArray × Int))) :=
  bd (m_laws_markDefS_h_L1 FU p1 0 p2) fun x7 =>
  some (x7.1, x7.2)

/-- loop.example/namedflags/impl.ValidEnum -/
def m_impl_ValidEnum (p1 : List (ByteArray × Int)) : Option (Bool) :=
  bd (m_impl_defsValid p1 (-1000) 1000) fun x2 =>
  some x2

/-- loop.example/namedflags/impl.ValueOf -/
def m_impl_ValueOf (p1 : List (ByteArray × Int)) (p2 : ByteArray) : Option (Int × Bool) :=
  bd (m_impl_named p1 p2) fun x3 =>
  bd (m_impl_ValidEnum p1) fun x4 =>
  bif (!x4) then
    some (0, false)
  else
    bif decide (x3 < 0) then
      some (0, false)
    else
      gd (0 ≤ x3 ∧ x3 < (p1.length : Int)) <|
      some ((gt p1 x3).2, true)

/-- loop.example/namedflags/impl.valued$1 -/
def m_impl_valued_1_l (p1 : ByteArray) (p2 : Int) (p3 : Int) : Option (Unit) :=
  some ()

def m_slices_IndexFunc_si_valued_1_l_L1 (p1 : List (ByteArray × Int)) (p2 : Int) : Nat → Int → Option (Int ⊕ Unit)
  | 0, _ => none
  | fu + 1, v3 =>
    bif decide (v3 < (p1.length : Int)) then
      gd (0 ≤ v3 ∧ v3 < (p1.length : Int)) <|
      bd (m_impl_valued_1_l ((gt p1 v3).1) ((gt p1 v3).2) p2) fun x4 =>
      bif decide (((gt p1 v3).2) = p2) then
        some (Sum.inl v3)
      else
        m_slices_IndexFunc_si_valued_1_l_L1 p1 p2 fu (IntKind.wrap .i64 (v3 + 1))
    else
      some (Sum.inr ())

/-- slices.IndexFunc[[]loop.example/namedflags/impl.Def,loop.example/namedflags/impl.Def] -/
def m_slices_IndexFunc_si_valued_1_l (p1 : List (ByteArray × Int)) (p2 : Int) : Option (Int) :=
  bd (m_slices_IndexFunc_si_valued_1_l_L1 p1 p2 FU 0) fun x5 =>
  sm x5 (fun x6 =>
    some x6) (fun x7 =>
    some (-1))

/-- loop.example/namedflags/impl.valued -/
def m_impl_valued (p1 : List (ByteArray × Int)) (p2 : Int) : Option (Int) :=
  bd (m_slices_IndexFunc_si_valued_1_l p1 p2) fun x3 =>
  some x3

def m_impl_Enum_members_L1 (p1 : List (ByteArray × Int)) : Nat → (List (ByteArray × Int)) → Int → Option (List (ByteArray × Int))
  | 0, _, _ => none
  | fu + 1, v2, v3 =>
    bif decide (v3 < (p1.length : Int)) then
      gd (0 ≤ v3 ∧ v3 < (p1.length : Int)) <|
      bd (m_impl_valued v2 ((gt p1 v3).2)) fun x4 =>
      bif decide (x4 < 0) then
        gd (v2.length + ([((gt p1 v3).1, (gt p1 v3).2)] : List (ByteArray × Int)).length ≤ 1099511627776) <|
        m_impl_Enum_members_L1 p1 fu (v2 ++ ([((gt p1 v3).1, (gt p1 v3).2)] : List (ByteArray × Int))) (IntKind.wrap .i64 (v3 + 1))
      else
        m_impl_Enum_members_L1 p1 fu v2 (IntKind.wrap .i64 (v3 + 1))
    else
      some v2

/-- (loop.example/namedflags/impl.Enum).members -/
def m_impl_Enum_members (p1 : List (ByteArray × Int)) : Option (List (ByteArray × Int)) :=
  bd (m_impl_Enum_members_L1 p1 FU ([] : List (ByteArray × Int)) 0) fun x5 =>
  some x5

/-- loop.example/namedflags/impl.RankOf -/
def m_impl_RankOf (p1 : List (ByteArray × Int)) (p2 : ByteArray) : Option (Int) :=
  bd (m_impl_ValueOf p1 p2) fun x3 =>
  bif (!x3.2) then
    some (-1)
  else
    bd (m_impl_Enum_members p1) fun x4 =>
    bd (m_impl_valued x4 x3.1) fun x5 =>
    some x5

/-- loop.example/namedflags/impl.FlagOf$1 -/
def m_impl_FlagOf_1 (p1 : Int) : Option (Unit) :=
  gd (0 ≤ p1 ∧ p1 ≤ (IntKind.bits .i64 : Int)) <|
  some ()

def m_impl_Enum_ranked_FlagOf_1_L1 (p1 : List (ByteArray × Int)) (x2 : List (ByteArray × Int)) : Nat → (List (ByteArray × Int)) → Int → Option (List (ByteArray × Int))
  | 0, _, _ => none
  | fu + 1, v3, v4 =>
    bif decide (v4 < (x2.length : Int)) then
      gd (0 ≤ v4 ∧ v4 < (v3.length : Int)) <|
      bd (m_impl_RankOf p1 ((gt v3 v4).1)) fun x5 =>
      bd (m_impl_FlagOf_1 x5) fun x6 =>
      m_impl_Enum_ranked_FlagOf_1_L1 p1 x2 fu (v3.set (0 + v4.toNat) ((gt v3 v4).1, IntKind.wrap .i64 ((1 : Int) * 2 ^ x5.toNat))) (IntKind.wrap .i64 (v4 + 1))
    else
      some v3

/-- (loop.example/namedflags/impl.Enum).ranked -/
def m_impl_Enum_ranked_FlagOf_1 (p1 : List (ByteArray × Int)) : Option (List (ByteArray × Int)) :=
  bd (m_impl_clone_si p1) fun x2 =>
  bd (m_impl_Enum_ranked_FlagOf_1_L1 p1 x2 FU x2 0) fun x7 =>
  some x7

/-- loop.example/namedflags/impl.FlagOf -/
def m_impl_FlagOf (p1 : List (ByteArray × Int)) : Option (List (ByteArray × Int)) :=
  bd (m_impl_ValidEnum p1) fun x2 =>
  bif (!x2) then
    some ([] : List (ByteArray × Int))
  else
    bd (m_impl_Enum_ranked_FlagOf_1 p1) fun x3 =>
    some x3

/-- slices.Clip[[]string,string] -/
def m_slices_Clip_s (p1 : List (ByteArray)) : Option (Unit) :=
  gd (0 ≤ (0 : Int) ∧ (0 : Int) ≤ (p1.length : Int) ∧ (p1.length : Int) ≤ (p1.length : Int) ∧ (p1.length : Int) ≤ (p1.length : Int)) <|
  some ()

/-- slices.Clip[[]string,string] -/
def m_slices_Clip_hs (p1 : List (ByteArray)) : Option (Unit) :=
  some ()

def m_impl_MembersIn_L1 (p2 : Int) (x6 : List (ByteArray × Int)) : Nat → (List (ByteArray)) → Int → Option (List (ByteArray))
  | 0, _, _ => none
  | fu + 1, v7, v8 =>
    bif decide (v8 < (x6.length : Int)) then
      gd (0 ≤ v8 ∧ v8 < (x6.length : Int)) <|
      gd (0 ≤ v8 ∧ v8 ≤ (IntKind.bits .i64 : Int)) <|
      bif decide ((Go.bits .and .i64 (p2 / 2 ^ v8.toNat) 1) = 1) then
        gd (v7.length + ([(gt x6 v8).1] : List (ByteArray)).length ≤ 1099511627776) <|
        m_impl_MembersIn_L1 p2 x6 fu (v7 ++ ([(gt x6 v8).1] : List (ByteArray))) (IntKind.wrap .i64 (v8 + 1))
      else
        m_impl_MembersIn_L1 p2 x6 fu v7 (IntKind.wrap .i64 (v8 + 1))
    else
      some v7

/-- loop.example/namedflags/impl.MembersIn -/
def m_impl_MembersIn (p1 : List (ByteArray × Int)) (p2 : Int) : Option (List (ByteArray)) :=
  bd (m_impl_ValidEnum p1) fun x3 =>
  bif (!x3) then
    some ([] : List (ByteArray))
  else
    bd (m_impl_FlagOf p1) fun x4 =>
    bd (m_impl_IsValue x4 0 p2) fun x5 =>
    bif (!x5) then
      some ([] : List (ByteArray))
    else
      bd (m_impl_Enum_members p1) fun x6 =>
      bd (m_impl_MembersIn_L1 p2 x6 FU ([] : List (ByteArray)) 0) fun x9 =>
      bd (m_slices_Clip_hs x9) fun x10 =>
      some x9

/-- loop.example/namedflags/spec.validEnum -/
def m_spec_validEnum (p1 : List (ByteArray × Int)) : Option (Bool) :=
  bd (m_spec_validDefs p1 (-1000) 1000) fun x2 =>
  some x2

def m_spec_members_L1 (p1 : List (ByteArray × Int)) : Nat → (List (ByteArray × Int)) → Int → Option (List (ByteArray × Int))
  | 0, _, _ => none
  | fu + 1, v2, v3 =>
    bif decide (v3 < (p1.length : Int)) then
      gd (0 ≤ v3 ∧ v3 < (p1.length : Int)) <|
      bd (m_spec_valueAt p1 ((gt p1 v3).2)) fun x4 =>
      bif decide (x4 = v3) then
        gd (v2.length + ([((gt p1 v3).1, (gt p1 v3).2)] : List (ByteArray × Int)).length ≤ 1099511627776) <|
        m_spec_members_L1 p1 fu (v2 ++ ([((gt p1 v3).1, (gt p1 v3).2)] : List (ByteArray × Int))) (IntKind.wrap .i64 (v3 + 1))
      else
        m_spec_members_L1 p1 fu v2 (IntKind.wrap .i64 (v3 + 1))
    else
      some v2

/-- loop.example/namedflags/spec.members -/
def m_spec_members (p1 : List (ByteArray × Int)) : Option (List (ByteArray × Int)) :=
  bd (m_spec_members_L1 p1 FU ([] : List (ByteArray × Int)) 0) fun x5 =>
  some x5

def m_spec_bitOf_L1 (p1 : Int) : Nat → Int → Int → Option (Int)
  | 0, _, _ => none
  | fu + 1, v2, v3 =>
    bif decide (v3 < p1) then
      m_spec_bitOf_L1 p1 fu (IntKind.wrap .i64 (2 * v2)) (IntKind.wrap .i64 (v3 + 1))
    else
      some v2

/-- loop.example/namedflags/spec.bitOf -/
def m_spec_bitOf (p1 : Int) : Option (Int) :=
  bd (m_spec_bitOf_L1 p1 FU 1 0) fun x4 =>
  some x4

def m_spec_rankDefs_L1 (p1 : List (ByteArray × Int)) (x2 : List (ByteArray × Int)) : Nat → (List (ByteArray × Int)) → Int → Option (List (ByteArray × Int))
  | 0, _, _ => none
  | fu + 1, v3, v4 =>
    bif decide (v4 < (p1.length : Int)) then
      gd (0 ≤ v4 ∧ v4 < (p1.length : Int)) <|
      bd (m_spec_valueAt x2 ((gt p1 v4).2)) fun x5 =>
      bd (m_spec_bitOf x5) fun x6 =>
      gd (v3.length + ([((gt p1 v4).1, x6)] : List (ByteArray × Int)).length ≤ 1099511627776) <|
      m_spec_rankDefs_L1 p1 x2 fu (v3 ++ ([((gt p1 v4).1, x6)] : List (ByteArray × Int))) (IntKind.wrap .i64 (v4 + 1))
    else
      some v3

/-- loop.example/namedflags/spec.rankDefs -/
def m_spec_rankDefs (p1 : List (ByteArray × Int)) : Option (List (ByteArray × Int)) :=
  bd (m_spec_members p1) fun x2 =>
  bd (m_spec_rankDefs_L1 p1 x2 FU ([] : List (ByteArray × Int)) 0) fun x7 =>
  some x7

/-- loop.example/namedflags/spec.isValue -/
def m_spec_isValue (p1 : List (ByteArray × Int)) (p2 : Int) (p3 : Int) : Option (Bool) :=
  bd (m_spec_validFlag p1 p2) fun x4 =>
  bif x4 then
    bd (m_spec_inRange p3 0 4095) fun x5 =>
    bif x5 then
      bif decide (p2 = 3) then
        some true
      else
        bd (m_spec_mask p1) fun x6 =>
        bd (m_spec_less p3 x6) fun x7 =>
        some (decide (x7 = 0))
    else
      some false
  else
    some false

def m_spec_inside_L1 (p2 : Int) (x3 : List (ByteArray × Int)) : Nat → (List (ByteArray × Int)) → Int → Option (List (ByteArray × Int))
  | 0, _, _ => none
  | fu + 1, v4, v5 =>
    bif decide (v5 < (x3.length : Int)) then
      gd (0 ≤ v5 ∧ v5 < (x3.length : Int)) <|
      bd (m_spec_both ((gt x3 v5).2) p2) fun x6 =>
      bif decide (0 < x6) then
        gd (v4.length + ([((gt x3 v5).1, (gt x3 v5).2)] : List (ByteArray × Int)).length ≤ 1099511627776) <|
        m_spec_inside_L1 p2 x3 fu (v4 ++ ([((gt x3 v5).1, (gt x3 v5).2)] : List (ByteArray × Int))) (IntKind.wrap .i64 (v5 + 1))
      else
        m_spec_inside_L1 p2 x3 fu v4 (IntKind.wrap .i64 (v5 + 1))
    else
      some v4

/-- loop.example/namedflags/spec.inside -/
def m_spec_inside (p1 : List (ByteArray × Int)) (p2 : Int) : Option (List (ByteArray × Int)) :=
  bd (m_spec_singles p1) fun x3 =>
  bd (m_spec_inside_L1 p2 x3 FU ([] : List (ByteArray × Int)) 0) fun x7 =>
  some x7

def m_spec_namesOf_L1 (p1 : List (ByteArray × Int)) : Nat → (List (ByteArray)) → Int → Option (List (ByteArray))
  | 0, _, _ => none
  | fu + 1, v2, v3 =>
    bif decide (v3 < (p1.length : Int)) then
      gd (0 ≤ v3 ∧ v3 < (p1.length : Int)) <|
      gd (v2.length + ([(gt p1 v3).1] : List (ByteArray)).length ≤ 1099511627776) <|
      m_spec_namesOf_L1 p1 fu (v2 ++ ([(gt p1 v3).1] : List (ByteArray))) (IntKind.wrap .i64 (v3 + 1))
    else
      some v2

/-- loop.example/namedflags/spec.namesOf -/
def m_spec_namesOf (p1 : List (ByteArray × Int)) : Option (List (ByteArray)) :=
  bd (m_spec_namesOf_L1 p1 FU ([] : List (ByteArray)) 0) fun x4 =>
  some x4

/-- loop.example/namedflags/spec.MembersIn -/
def m_spec_MembersIn (p1 : List (ByteArray × Int)) (p2 : Int) : Option (List (ByteArray)) :=
  bd (m_spec_validEnum p1) fun x3 =>
  bif (!x3) then
    some ([] : List (ByteArray))
  else
    bd (m_spec_rankDefs p1) fun x4 =>
    bd (m_spec_isValue x4 0 p2) fun x5 =>
    bif (!x5) then
      some ([] : List (ByteArray))
    else
      bd (m_spec_inside x4 p2) fun x6 =>
      bd (m_spec_namesOf x6) fun x7 =>
      some x7

/-- loop.example/namedflags/laws.szDef -/
def m_laws_szDef (p1 : ByteArray) (p2 : Int) (p3 : Int) : Option (Int) :=
  bif decide ((IntKind.wrap .i64 (p3 - (p1.size : Int))) < 0) then
    some (-1)
  else
    some (IntKind.wrap .i64 (p3 - (p1.size : Int)))

def m_laws_szDefS_L1 (p1 : List (ByteArray × Int)) : Nat → Int → Int → Option (Unit ⊕ Int)
  | 0, _, _ => none
  | fu + 1, v3, v4 =>
    bif decide (v4 < (p1.length : Int)) then
      gd (0 ≤ v4 ∧ v4 < (p1.length : Int)) <|
      bd (m_laws_szDef ((gt p1 v4).1) ((gt p1 v4).2) v3) fun x5 =>
      bif decide (x5 < 0) then
        some (Sum.inl ())
      else
        m_laws_szDefS_L1 p1 fu x5 (IntKind.wrap .i64 (v4 + 1))
    else
      some (Sum.inr v3)

/-- loop.example/namedflags/laws.szDefS -/
def m_laws_szDefS (p1 : List (ByteArray × Int)) (p2 : Int) : Option (Int) :=
  bif decide ((IntKind.wrap .i64 (p2 - (p1.length : Int))) < 0) then
    some (-1)
  else
    bd (m_laws_szDefS_L1 p1 FU (IntKind.wrap .i64 (p2 - (p1.length : Int))) 0) fun x6 =>
    sm x6 (fun x7 =>
      some (-1)) (fun x8 =>
      some x8)

/-- loop.example/namedflags/laws.szEnum -/
def m_laws_szEnum (p1 : List (ByteArray × Int)) (p2 : Int) : Option (Int) :=
  bd (m_laws_szDefS p1 p2) fun x3 =>
  bif decide (x3 < 0) then
    some (-1)
  else
    some x3

/-- loop.example/namedflags/laws.toDef -/
def m_laws_toDef (p1 : ByteArray) (p2 : Int) : Option (Unit) :=
  some ()

def m_laws_toDefS_L1 (p1 : List (ByteArray × Int)) : Nat → (List (ByteArray × Int)) → Int → Option (List (ByteArray × Int))
  | 0, _, _ => none
  | fu + 1, v2, v3 =>
    bif decide (v3 < (p1.length : Int)) then
      gd (0 ≤ v3 ∧ v3 < (p1.length : Int)) <|
      bd (m_laws_toDef ((gt p1 v3).1) ((gt p1 v3).2)) fun x4 =>
      gd (0 ≤ v3 ∧ v3 < (v2.length : Int)) <|
      m_laws_toDefS_L1 p1 fu (v2.set (0 + v3.toNat) (((gt p1 v3).1), ((gt p1 v3).2))) (IntKind.wrap .i64 (v3 + 1))
    else
      some v2

/-- loop.example/namedflags/laws.toDefS -/
def m_laws_toDefS (p1 : List (ByteArray × Int)) : Option (List (ByteArray × Int)) :=
  gd (0 ≤ (p1.length : Int) ∧ (p1.length : Int) = (p1.length : Int) ∧ (24 : Int) * (p1.length : Int) ≤ 281474976710656 ∧ (p1.length : Int) ≤ 9223372036854775807) <|
  bd (m_laws_toDefS_L1 p1 FU (List.replicate (p1.length : Int).toNat ((ByteArray.empty, 0) : ByteArray × Int)) 0) fun x5 =>
  some x5

/-- loop.example/namedflags/laws.toEnum -/
def m_laws_toEnum (p1 : List (ByteArray × Int)) : Option (List (ByteArray × Int)) :=
  bd (m_laws_toDefS p1) fun x2 =>
  some x2

def m_laws_eqStringS_L1 (p1 : List (ByteArray)) (p2 : List (ByteArray)) : Nat → Int → Option (Unit ⊕ Unit)
  | 0, _ => none
  | fu + 1, v3 =>
    bif decide (v3 < (p1.length : Int)) then
      gd (0 ≤ v3 ∧ v3 < (p1.length : Int)) <|
      gd (0 ≤ v3 ∧ v3 < (p2.length : Int)) <|
      bif (!decide ((gt p1 v3) = (gt p2 v3))) then
        some (Sum.inl ())
      else
        m_laws_eqStringS_L1 p1 p2 fu (IntKind.wrap .i64 (v3 + 1))
    else
      some (Sum.inr ())

/-- loop.example/namedflags/laws.eqStringS -/
def m_laws_eqStringS (p1 : List (ByteArray)) (p2 : List (ByteArray)) : Option (Bool) :=
  bif (!decide ((p1.length : Int) = (p2.length : Int))) then
    some false
  else
    bd (m_laws_eqStringS_L1 p1 p2 FU 0) fun x4 =>
    sm x4 (fun x5 =>
      some false) (fun x6 =>
      some true)

/-- loop.example/namedflags/laws.eqEnum -/
def m_laws_eqEnum (p1 : List (ByteArray × Int)) (p2 : List (ByteArray × Int)) : Option (Bool) :=
  bd (m_laws_eqDefS p1 p2) fun x3 =>
  bif (!x3) then
    some false
  else
    some true

/-- loop.example/namedflags/laws.markEnum -/
def m_laws_markEnum_h (p1 : Int) (p2 : List (ByteArray × Int)) : Option (Int × (List (ByteArray × Int))) :=
  bd (m_laws_markDefS_h p1 p2) fun x3 =>
  gd (x3.2.length = p2.length) <|
  some (x3.1, x3.2)

def m_laws_markStringS_h_L1  : Nat → Int → Int → (List (ByteArray)) → Option (Int × List (ByteArray))
  | 0, _, _, _ => none
  | fu + 1, v3, v4, v5 =>
    bif decide (v4 < (v5.length : Int)) then
      bd (m_laws_markText v3) fun x6 =>
      gd (0 ≤ v4 ∧ v4 < (v5.length : Int)) <|
      m_laws_markStringS_h_L1  fu (IntKind.wrap .i64 (v3 + 1)) (IntKind.wrap .i64 (v4 + 1)) (v5.set (0 + v4.toNat) x6)
    else
      some (v3, v5)

/-- loop.example/namedflags/laws.markStringS -/
def m_laws_markStringS_h (p1 : Int) (p2 : List (ByteArray)) : Option (Int × List (ByteArray)) :=
  bd (m_laws_markStringS_h_L1 FU p1 0 p2) fun x7 =>
  some (x7.1, x7.2)

def m_laws_heldStringS_L1 (p1 : List (ByteArray)) : Nat → Int → Int → Option (Unit ⊕ Int)
  | 0, _, _ => none
  | fu + 1, v3, v4 =>
    bif decide (v4 < (p1.length : Int)) then
      gd (0 ≤ v4 ∧ v4 < (p1.length : Int)) <|
      bd (m_laws_markText v3) fun x5 =>
      bif (!decide ((gt p1 v4) = x5)) then
        some (Sum.inl ())
      else
        m_laws_heldStringS_L1 p1 fu (IntKind.wrap .i64 (v3 + 1)) (IntKind.wrap .i64 (v4 + 1))
    else
      some (Sum.inr v3)

/-- loop.example/namedflags/laws.heldStringS -/
def m_laws_heldStringS (p1 : List (ByteArray)) (p2 : Int) : Option (Int) :=
  bd (m_laws_heldStringS_L1 p1 FU p2 0) fun x6 =>
  sm x6 (fun x7 =>
    some (-1)) (fun x8 =>
    some x8)

/-- loop.example/namedflags/laws.FnExactMembersIn -/
def m_laws_FnExactMembersIn (p1 : List (ByteArray × Int)) (p2 : Int) : Option (Bool) :=
  bd (m_laws_szEnum p1 1048576) fun x3 =>
  bif decide (x3 < 0) then
    some true
  else
    bd (m_laws_toEnum p1) fun x4 =>
    bd (m_spec_MembersIn x4 p2) fun x5 =>
    bd (m_laws_toEnum p1) fun x6 =>
    bd (m_impl_MembersIn x6 p2) fun x7 =>
    bd (m_laws_eqStringS x7 x5) fun x8 =>
    bif (!x8) then
      some false
    else
      bd (m_laws_toEnum p1) fun x9 =>
      bd (m_laws_eqEnum x6 x9) fun x10 =>
      bif (!x10) then
        some false
      else
        bd (m_laws_markEnum_h 1 x6) fun x11 =>
        gd (x11.2.length = x6.length) <|
        bif decide (x11.1 < 0) then
          some false
        else
          bd (m_laws_eqStringS x7 x5) fun x12 =>
          bif (!x12) then
            some false
          else
            bd (m_laws_markStringS_h 1 x7) fun x13 =>
            gd (x13.2.length = x7.length) <|
            bd (m_laws_heldStringS x13.2 1) fun x14 =>
            bif decide (x14 < 0) then
              some false
            else
              bif (!decide (x14 = x13.1)) then
                some false
              else
                bd (m_laws_toEnum p1) fun x15 =>
                bd (m_impl_MembersIn x15 p2) fun x16 =>
                bd (m_laws_eqStringS x16 x5) fun x17 =>
                bif (!x17) then
                  some false
                else
                  bd (m_laws_heldStringS x13.2 1) fun x18 =>
                  bif decide (x18 < 0) then
                    some false
                  else
                    bif (!decide (x18 = x13.1)) then
                      some false
                    else
                      some true

end Go.Eng

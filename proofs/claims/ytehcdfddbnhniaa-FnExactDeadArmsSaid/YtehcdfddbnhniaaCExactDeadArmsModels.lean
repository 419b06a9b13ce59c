/- What is said here: nothing is proved. A model of each function, printed by a program out of the translated code. -/
import Derived.Test.YtehcdfddbnhniaaCExactDeadArmsEng25
set_option linter.unusedVariables false
set_option linter.unusedSimpArgs false
namespace Go.Eng
open Go

def enc_b (x : Bool) : List Value := [.bool x]

def enc_i (x : Int) : List Value := [.int .i64 x]

def enc_ii (x : Int × Int) : List Value := [.int .i64 x.1, .int .i64 x.2]

def enc_si (x : ByteArray × Int) : List Value := [.string x.1, .int .i64 x.2]

def enc_y (x : Int) : List Value := [.int .u8 x]

def FU : Nat := 4611686018427387904

def bstr (ns : List Int) : ByteArray := ns.foldl (fun r n => r.push (UInt8.ofNat n.toNat)) ByteArray.empty

/-- (*loop.example/namedflags/spec.reader).pick -/
def m_spec_reader_pick (p1 : Int) (p2 : List (Int)) (p3 : Int) : Option (Int) :=
  bif decide (p1 < 1) then
    some 0
  else
    bif decide ((p2.length : Int) = 0) then
      some 0
    else
      nm (decide ((IntKind.wrap .i64 ((IntKind.wrap .i64 (p3 + 1)) - 1)) < (p2.length : Int))) fun v4 =>
      bif v4 then
        gd (0 ≤ (IntKind.wrap .i64 ((IntKind.wrap .i64 (p3 + 1)) - 1)) ∧ (IntKind.wrap .i64 ((IntKind.wrap .i64 (p3 + 1)) - 1)) < (p2.length : Int)) <|
        nm ((gt p2 (IntKind.wrap .i64 ((IntKind.wrap .i64 (p3 + 1)) - 1)))) fun v5 =>
        gd (p1 ≠ 0) <|
        some (Int.tmod (IntKind.wrap .i64 (v5)) p1)
      else
        gd ((p2.length : Int) ≠ 0) <|
        nm (Int.tmod (IntKind.wrap .i64 ((IntKind.wrap .i64 (p3 + 1)) - 1)) (p2.length : Int)) fun v6 =>
        gd (0 ≤ v6 ∧ v6 < (p2.length : Int)) <|
        nm (IntKind.wrap .i64 ((IntKind.wrap .i64 ((IntKind.wrap .i64 (p3 + 1)) - 1)) * 7)) fun v7 =>
        gd (0 ≤ (Int.tmod (IntKind.wrap .i64 (v7 + 3)) (p2.length : Int)) ∧ (Int.tmod (IntKind.wrap .i64 (v7 + 3)) (p2.length : Int)) < (p2.length : Int)) <|
        nm ((gt p2 (Int.tmod (IntKind.wrap .i64 (v7 + 3)) (p2.length : Int)))) fun v8 =>
        nm (IntKind.wrap .i64 ((IntKind.wrap .i64 ((IntKind.wrap .i64 ((gt p2 v6))) * 131)) + (IntKind.wrap .i64 ((IntKind.wrap .i64 (v8)) * 1117)))) fun v9 =>
        nm (IntKind.wrap .i64 ((IntKind.wrap .i64 ((IntKind.wrap .i64 (p3 + 1)) - 1)) * 29)) fun v10 =>
        gd ((p2.length : Int) ≠ 0 ∧ IntKind.wrap .i64 (Int.tdiv (IntKind.wrap .i64 ((IntKind.wrap .i64 (p3 + 1)) - 1)) (p2.length : Int)) = Int.tdiv (IntKind.wrap .i64 ((IntKind.wrap .i64 (p3 + 1)) - 1)) (p2.length : Int)) <|
        nm (Int.tdiv (IntKind.wrap .i64 ((IntKind.wrap .i64 (p3 + 1)) - 1)) (p2.length : Int)) fun v11 =>
        nm (IntKind.wrap .i64 ((IntKind.wrap .i64 (v9 + v10)) + (IntKind.wrap .i64 (v11 * 53)))) fun v12 =>
        gd ((64 : Int) ≠ 0 ∧ IntKind.wrap .i64 (Int.tdiv v12 64) = Int.tdiv v12 64) <|
        gd (p1 ≠ 0) <|
        some (Int.tmod (Go.bits .xor .i64 v12 (Int.tdiv v12 64)) p1)

/-- (*loop.example/namedflags/spec.reader).one -/
def m_spec_reader_one (p1 : List (Int)) (p2 : List (Int)) (p3 : Int) : Option (Int) :=
  bd (m_spec_reader_pick (p1.length : Int) p2 p3) fun x4 =>
  gd (0 ≤ x4 ∧ x4 < (p1.length : Int)) <|
  some (gt p1 x4)

def m_spec_indexOf_L1 (p1 : List (ByteArray × Int)) (p2 : ByteArray) : Nat → Int → Option (Int ⊕ Unit)
  | 0, _ => none
  | fu + 1, v3 =>
    bif decide (v3 < (p1.length : Int)) then
      gd (0 ≤ v3 ∧ v3 < (p1.length : Int)) <|
      bif decide (((gt p1 v3).1) = p2) then
        some (Sum.inl v3)
      else
        m_spec_indexOf_L1 p1 p2 fu (IntKind.wrap .i64 (v3 + 1))
    else
      some (Sum.inr ())

/-- loop.example/namedflags/spec.indexOf -/
def m_spec_indexOf (p1 : List (ByteArray × Int)) (p2 : ByteArray) : Option (Int) :=
  bd (m_spec_indexOf_L1 p1 p2 FU 0) fun x4 =>
  sm x4 (fun x5 =>
    some x5) (fun x6 =>
    some (-1))

/-- loop.example/namedflags/impl.in -/
def m_impl_in (p1 : Int) (p2 : Int) (p3 : Int) : Option (Bool) :=
  bif decide (p2 ≤ p1) then
    some (decide (p1 ≤ p3))
  else
    some false

def m_impl_ValidName_L1 (p1 : ByteArray) : Nat → Int → Option (Unit ⊕ Unit)
  | 0, _ => none
  | fu + 1, v2 =>
    bif decide (v2 < (p1.size : Int)) then
      gd (0 ≤ v2 ∧ v2 < (p1.size : Int)) <|
      bif decide ((byteAt p1 v2.toNat) < 97) then
        some (Sum.inl ())
      else
        bif decide (122 < (byteAt p1 v2.toNat)) then
          some (Sum.inl ())
        else
          m_impl_ValidName_L1 p1 fu (IntKind.wrap .i64 (v2 + 1))
    else
      some (Sum.inr ())

/-- loop.example/namedflags/impl.ValidName -/
def m_impl_ValidName (p1 : ByteArray) : Option (Bool) :=
  bd (m_impl_ValidName_L1 p1 FU 0) fun x3 =>
  sm x3 (fun x4 =>
    some false) (fun x5 =>
    bd (m_impl_in (p1.size : Int) 1 6) fun x6 =>
    some x6)

/-- loop.example/namedflags/impl.named$1 -/
def m_impl_named_1_l (p1 : ByteArray) (p2 : Int) (p3 : ByteArray) : Option (Unit) :=
  some ()

def m_slices_IndexFunc_si_named_1_l_L1 (p1 : List (ByteArray × Int)) (p2 : ByteArray) : Nat → Int → Option (Int ⊕ Unit)
  | 0, _ => none
  | fu + 1, v3 =>
    bif decide (v3 < (p1.length : Int)) then
      gd (0 ≤ v3 ∧ v3 < (p1.length : Int)) <|
      bd (m_impl_named_1_l ((gt p1 v3).1) ((gt p1 v3).2) p2) fun x4 =>
      bif decide (((gt p1 v3).1) = p2) then
        some (Sum.inl v3)
      else
        m_slices_IndexFunc_si_named_1_l_L1 p1 p2 fu (IntKind.wrap .i64 (v3 + 1))
    else
      some (Sum.inr ())

/-- slices.IndexFunc[[]loop.example/namedflags/impl.Def,loop.example/namedflags/impl.Def] -/
def m_slices_IndexFunc_si_named_1_l (p1 : List (ByteArray × Int)) (p2 : ByteArray) : Option (Int) :=
  bd (m_slices_IndexFunc_si_named_1_l_L1 p1 p2 FU 0) fun x5 =>
  sm x5 (fun x6 =>
    some x6) (fun x7 =>
    some (-1))

/-- loop.example/namedflags/impl.named -/
def m_impl_named (p1 : List (ByteArray × Int)) (p2 : ByteArray) : Option (Int) :=
  bd (m_slices_IndexFunc_si_named_1_l p1 p2) fun x3 =>
  some x3

def m_impl_defsValid_L1 (p1 : List (ByteArray × Int)) (p2 : Int) (p3 : Int) : Nat → Int → Option (Unit ⊕ Unit)
  | 0, _ => none
  | fu + 1, v4 =>
    bif decide (v4 < (p1.length : Int)) then
      gd (0 ≤ v4 ∧ v4 < (p1.length : Int)) <|
      bd (m_impl_ValidName ((gt p1 v4).1)) fun x5 =>
      bif (!x5) then
        some (Sum.inl ())
      else
        bd (m_impl_in ((gt p1 v4).2) p2 p3) fun x6 =>
        bif (!x6) then
          some (Sum.inl ())
        else
          gd (0 ≤ (0 : Int) ∧ (0 : Int) ≤ v4 ∧ v4 ≤ (p1.length : Int) ∧ (p1.length : Int) ≤ (p1.length : Int)) <|
          bd (m_impl_named (sub p1 (0 : Int) v4) ((gt p1 v4).1)) fun x7 =>
          bif decide (0 ≤ x7) then
            some (Sum.inl ())
          else
            m_impl_defsValid_L1 p1 p2 p3 fu (IntKind.wrap .i64 (v4 + 1))
    else
      some (Sum.inr ())

/-- loop.example/namedflags/impl.defsValid -/
def m_impl_defsValid (p1 : List (ByteArray × Int)) (p2 : Int) (p3 : Int) : Option (Bool) :=
  bd (m_impl_defsValid_L1 p1 p2 p3 FU 0) fun x8 =>
  sm x8 (fun x9 =>
    some false) (fun x10 =>
    some (decide ((p1.length : Int) ≤ 12)))

/-- loop.example/namedflags/impl.ValidFlag -/
def m_impl_ValidFlag (p1 : List (ByteArray × Int)) (p2 : Int) : Option (Bool) :=
  bd (m_impl_defsValid p1 0 4095) fun x3 =>
  bif x3 then
    bd (m_impl_in p2 0 3) fun x4 =>
    some x4
  else
    some false

def m_impl_Flag_mask_L1 (p1 : List (ByteArray × Int)) : Nat → Int → Int → Option (Int)
  | 0, _, _ => none
  | fu + 1, v3, v4 =>
    bif decide (v4 < (p1.length : Int)) then
      gd (0 ≤ v4 ∧ v4 < (p1.length : Int)) <|
      m_impl_Flag_mask_L1 p1 fu (Go.bits .or .i64 v3 ((gt p1 v4).2)) (IntKind.wrap .i64 (v4 + 1))
    else
      some v3

/-- (loop.example/namedflags/impl.Flag).mask -/
def m_impl_Flag_mask (p1 : List (ByteArray × Int)) (p2 : Int) : Option (Int) :=
  bd (m_impl_Flag_mask_L1 p1 FU 0 0) fun x5 =>
  some x5

/-- (loop.example/namedflags/impl.Arm).ok -/
def m_impl_Arm_ok (p1 : Int) (p2 : Int) (p3 : List (ByteArray × Int)) (p4 : Int) : Option (Bool) :=
  bd (m_impl_Flag_mask p3 p4) fun x5 =>
  nm (decide ((Go.bits .andNot .i64 (Go.bits .or .i64 p1 p2) x5) = 0)) fun v6 =>
  bif v6 then
    some (decide ((Go.bits .and .i64 p1 p2) = 0))
  else
    some false

/-- loop.example/namedflags/impl.armsOk$1 -/
def m_impl_armsOk_1_l (p1 : Int) (p2 : Int) (p3 : List (ByteArray × Int)) (p4 : Int) : Option (Bool) :=
  bd (m_impl_Arm_ok p1 p2 p3 p4) fun x5 =>
  some (!x5)

def m_slices_IndexFunc_ii_armsOk_1_lsi_L1 (p1 : List (Int × Int)) (p2 : List (ByteArray × Int)) (p3 : Int) : Nat → Int → Option (Int ⊕ Unit)
  | 0, _ => none
  | fu + 1, v4 =>
    bif decide (v4 < (p1.length : Int)) then
      gd (0 ≤ v4 ∧ v4 < (p1.length : Int)) <|
      bd (m_impl_armsOk_1_l ((gt p1 v4).1) ((gt p1 v4).2) p2 p3) fun x5 =>
      bif x5 then
        some (Sum.inl v4)
      else
        m_slices_IndexFunc_ii_armsOk_1_lsi_L1 p1 p2 p3 fu (IntKind.wrap .i64 (v4 + 1))
    else
      some (Sum.inr ())

/-- slices.IndexFunc[[]loop.example/namedflags/impl.Arm,loop.example/namedflags/impl.Arm] -/
def m_slices_IndexFunc_ii_armsOk_1_lsi (p1 : List (Int × Int)) (p2 : List (ByteArray × Int)) (p3 : Int) : Option (Int) :=
  bd (m_slices_IndexFunc_ii_armsOk_1_lsi_L1 p1 p2 p3 FU 0) fun x6 =>
  sm x6 (fun x7 =>
    some x7) (fun x8 =>
    some (-1))

/-- slices.ContainsFunc[[]loop.example/namedflags/impl.Arm,loop.example/namedflags/impl.Arm] -/
def m_slices_ContainsFunc_ii_armsOk_1_lsi (p1 : List (Int × Int)) (p2 : List (ByteArray × Int)) (p3 : Int) : Option (Bool) :=
  bd (m_slices_IndexFunc_ii_armsOk_1_lsi p1 p2 p3) fun x4 =>
  some (decide (0 ≤ x4))

/-- loop.example/namedflags/impl.armsOk -/
def m_impl_armsOk (p1 : List (ByteArray × Int)) (p2 : Int) (p3 : List (Int × Int)) : Option (Bool) :=
  bd (m_impl_ValidFlag p1 p2) fun x4 =>
  bif x4 then
    bif decide ((p3.length : Int) ≤ 10) then
      bd (m_slices_ContainsFunc_ii_armsOk_1_lsi p3 p1 p2) fun x5 =>
      some (!x5)
    else
      some false
  else
    some false

def m_impl_inside_L1 (p1 : Int) : Nat → (List (Int)) → Int → Option (List (Int))
  | 0, _, _ => none
  | fu + 1, v2, v3 =>
    bif decide (v3 ≤ p1) then
      bif decide ((Go.bits .andNot .i64 v3 p1) = 0) then
        gd (v2.length + ([v3] : List (Int)).length ≤ 1099511627776) <|
        m_impl_inside_L1 p1 fu (v2 ++ ([v3] : List (Int))) (IntKind.wrap .i64 (v3 + 1))
      else
        m_impl_inside_L1 p1 fu v2 (IntKind.wrap .i64 (v3 + 1))
    else
      some v2

/-- loop.example/namedflags/impl.inside -/
def m_impl_inside (p1 : Int) : Option (List (Int)) :=
  bd (m_impl_inside_L1 p1 FU ([] : List (Int)) 0) fun x4 =>
  some x4

/-- (loop.example/namedflags/impl.Arm).matches -/
def m_impl_Arm_matches (p1 : Int) (p2 : Int) (p3 : Int) : Option (Bool) :=
  bif decide ((Go.bits .andNot .i64 p1 p3) = 0) then
    some (decide ((Go.bits .and .i64 p2 p3) = 0))
  else
    some false

/-- loop.example/namedflags/impl.first$1 -/
def m_impl_first_1_l (p1 : Int) (p2 : Int) (p3 : Int) : Option (Bool) :=
  bd (m_impl_Arm_matches p1 p2 p3) fun x4 =>
  some x4

def m_slices_IndexFunc_ii_first_1_l_L1 (p1 : List (Int × Int)) (p2 : Int) : Nat → Int → Option (Int ⊕ Unit)
  | 0, _ => none
  | fu + 1, v3 =>
    bif decide (v3 < (p1.length : Int)) then
      gd (0 ≤ v3 ∧ v3 < (p1.length : Int)) <|
      bd (m_impl_first_1_l ((gt p1 v3).1) ((gt p1 v3).2) p2) fun x4 =>
      bif x4 then
        some (Sum.inl v3)
      else
        m_slices_IndexFunc_ii_first_1_l_L1 p1 p2 fu (IntKind.wrap .i64 (v3 + 1))
    else
      some (Sum.inr ())

/-- slices.IndexFunc[[]loop.example/namedflags/impl.Arm,loop.example/namedflags/impl.Arm] -/
def m_slices_IndexFunc_ii_first_1_l (p1 : List (Int × Int)) (p2 : Int) : Option (Int) :=
  bd (m_slices_IndexFunc_ii_first_1_l_L1 p1 p2 FU 0) fun x5 =>
  sm x5 (fun x6 =>
    some x6) (fun x7 =>
    some (-1))

/-- loop.example/namedflags/impl.first -/
def m_impl_first (p1 : List (Int × Int)) (p2 : Int) : Option (Int) :=
  bd (m_slices_IndexFunc_ii_first_1_l p1 p2) fun x3 =>
  some x3

def m_spec_both_L1 (p1 : Int) (p2 : Int) : Nat → Int → Int → Option (Int)
  | 0, _, _ => none
  | fu + 1, v3, v4 =>
    bif decide (v4 ≤ 4095) then
      gd (v4 ≠ 0 ∧ IntKind.wrap .i64 (Int.tdiv p1 v4) = Int.tdiv p1 v4) <|
      gd ((2 : Int) ≠ 0) <|
      bif decide ((Int.tmod (Int.tdiv p1 v4) 2) = 1) then
        gd (v4 ≠ 0 ∧ IntKind.wrap .i64 (Int.tdiv p2 v4) = Int.tdiv p2 v4) <|
        bif decide ((Int.tmod (Int.tdiv p2 v4) 2) = 1) then
          m_spec_both_L1 p1 p2 fu (IntKind.wrap .i64 (v3 + v4)) (IntKind.wrap .i64 (v4 * 2))
        else
          m_spec_both_L1 p1 p2 fu v3 (IntKind.wrap .i64 (v4 * 2))
      else
        m_spec_both_L1 p1 p2 fu v3 (IntKind.wrap .i64 (v4 * 2))
    else
      some v3

/-- loop.example/namedflags/spec.both -/
def m_spec_both (p1 : Int) (p2 : Int) : Option (Int) :=
  bd (m_spec_both_L1 p1 p2 FU 0 1) fun x5 =>
  some x5

/-- loop.example/namedflags/spec.either -/
def m_spec_either (p1 : Int) (p2 : Int) : Option (Int) :=
  bd (m_spec_both p1 p2) fun x3 =>
  some (IntKind.wrap .i64 ((IntKind.wrap .i64 (p1 + p2)) - x3))

def m_spec_mask_L1 (p1 : List (ByteArray × Int)) : Nat → Int → Int → Option (Int)
  | 0, _, _ => none
  | fu + 1, v2, v3 =>
    bif decide (v3 < (p1.length : Int)) then
      gd (0 ≤ v3 ∧ v3 < (p1.length : Int)) <|
      bd (m_spec_either v2 ((gt p1 v3).2)) fun x4 =>
      m_spec_mask_L1 p1 fu x4 (IntKind.wrap .i64 (v3 + 1))
    else
      some v2

/-- loop.example/namedflags/spec.mask -/
def m_spec_mask (p1 : List (ByteArray × Int)) : Option (Int) :=
  bd (m_spec_mask_L1 p1 FU 0 0) fun x5 =>
  some x5

/-- loop.example/namedflags/spec.inRange -/
def m_spec_inRange (p1 : Int) (p2 : Int) (p3 : Int) : Option (Bool) :=
  bif decide (p2 ≤ p1) then
    some (decide (p1 ≤ p3))
  else
    some false

def m_spec_validName_L1 (p1 : ByteArray) : Nat → Int → Option (Unit ⊕ Unit)
  | 0, _ => none
  | fu + 1, v2 =>
    bif decide (v2 < (p1.size : Int)) then
      gd (0 ≤ v2 ∧ v2 < (p1.size : Int)) <|
      bif decide ((byteAt p1 v2.toNat) < 97) then
        some (Sum.inl ())
      else
        bif decide (122 < (byteAt p1 v2.toNat)) then
          some (Sum.inl ())
        else
          m_spec_validName_L1 p1 fu (IntKind.wrap .i64 (v2 + 1))
    else
      some (Sum.inr ())

/-- loop.example/namedflags/spec.validName -/
def m_spec_validName (p1 : ByteArray) : Option (Bool) :=
  bd (m_spec_validName_L1 p1 FU 0) fun x3 =>
  sm x3 (fun x4 =>
    some false) (fun x5 =>
    bd (m_spec_inRange (p1.size : Int) 1 6) fun x6 =>
    some x6)

def m_spec_validDefs_L1 (p1 : List (ByteArray × Int)) (p2 : Int) (p3 : Int) : Nat → Int → Option (Unit ⊕ Unit)
  | 0, _ => none
  | fu + 1, v4 =>
    bif decide (v4 < (p1.length : Int)) then
      gd (0 ≤ v4 ∧ v4 < (p1.length : Int)) <|
      bd (m_spec_validName ((gt p1 v4).1)) fun x5 =>
      bif (!x5) then
        some (Sum.inl ())
      else
        bd (m_spec_inRange ((gt p1 v4).2) p2 p3) fun x6 =>
        bif (!x6) then
          some (Sum.inl ())
        else
          gd (0 ≤ (0 : Int) ∧ (0 : Int) ≤ v4 ∧ v4 ≤ (p1.length : Int) ∧ (p1.length : Int) ≤ (p1.length : Int)) <|
          bd (m_spec_indexOf (sub p1 (0 : Int) v4) ((gt p1 v4).1)) fun x7 =>
          bif decide (0 ≤ x7) then
            some (Sum.inl ())
          else
            m_spec_validDefs_L1 p1 p2 p3 fu (IntKind.wrap .i64 (v4 + 1))
    else
      some (Sum.inr ())

/-- loop.example/namedflags/spec.validDefs -/
def m_spec_validDefs (p1 : List (ByteArray × Int)) (p2 : Int) (p3 : Int) : Option (Bool) :=
  bd (m_spec_validDefs_L1 p1 p2 p3 FU 0) fun x8 =>
  sm x8 (fun x9 =>
    some false) (fun x10 =>
    some (decide ((p1.length : Int) ≤ 12)))

/-- loop.example/namedflags/spec.validFlag -/
def m_spec_validFlag (p1 : List (ByteArray × Int)) (p2 : Int) : Option (Bool) :=
  bd (m_spec_validDefs p1 0 4095) fun x3 =>
  bif x3 then
    bd (m_spec_inRange p2 0 3) fun x4 =>
    some x4
  else
    some false

/-- loop.example/namedflags/spec.less -/
def m_spec_less (p1 : Int) (p2 : Int) : Option (Int) :=
  bd (m_spec_both p1 p2) fun x3 =>
  some (IntKind.wrap .i64 (p1 - x3))

/-- loop.example/namedflags/spec.validArm -/
def m_spec_validArm (p1 : List (ByteArray × Int)) (p2 : Int) (p3 : Int) (p4 : Int) : Option (Bool) :=
  bd (m_spec_mask p1) fun x5 =>
  bd (m_spec_validFlag p1 p2) fun x6 =>
  bif x6 then
    bd (m_spec_inRange p3 0 4095) fun x7 =>
    bif x7 then
      bd (m_spec_inRange p4 0 4095) fun x8 =>
      bif x8 then
        bd (m_spec_less p3 x5) fun x9 =>
        bif decide (x9 = 0) then
          bd (m_spec_less p4 x5) fun x10 =>
          bif decide (x10 = 0) then
            bd (m_spec_both p3 p4) fun x11 =>
            some (decide (x11 = 0))
          else
            some false
        else
          some false
      else
        some false
    else
      some false
  else
    some false

def m_spec_validArms_L1 (p1 : List (ByteArray × Int)) (p2 : Int) (p3 : List (Int × Int)) : Nat → Int → Option (Unit ⊕ Unit)
  | 0, _ => none
  | fu + 1, v4 =>
    bif decide (v4 < (p3.length : Int)) then
      gd (0 ≤ v4 ∧ v4 < (p3.length : Int)) <|
      bd (m_spec_validArm p1 p2 ((gt p3 v4).1) ((gt p3 v4).2)) fun x5 =>
      bif (!x5) then
        some (Sum.inl ())
      else
        m_spec_validArms_L1 p1 p2 p3 fu (IntKind.wrap .i64 (v4 + 1))
    else
      some (Sum.inr ())

/-- loop.example/namedflags/spec.validArms -/
def m_spec_validArms (p1 : List (ByteArray × Int)) (p2 : Int) (p3 : List (Int × Int)) : Option (Bool) :=
  bd (m_spec_validArms_L1 p1 p2 p3 FU 0) fun x6 =>
  sm x6 (fun x7 =>
    some false) (fun x8 =>
    bd (m_spec_validFlag p1 p2) fun x9 =>
    bif x9 then
      some (decide ((p3.length : Int) ≤ 10))
    else
      some false)

def m_spec_partsIn_L1 (p1 : Int) : Nat → (List (Int)) → Int → Option (List (Int))
  | 0, _, _ => none
  | fu + 1, v2, v3 =>
    bif decide (v3 ≤ p1) then
      bd (m_spec_less v3 p1) fun x4 =>
      bif decide (x4 = 0) then
        gd (v2.length + ([v3] : List (Int)).length ≤ 1099511627776) <|
        m_spec_partsIn_L1 p1 fu (v2 ++ ([v3] : List (Int))) (IntKind.wrap .i64 (v3 + 1))
      else
        m_spec_partsIn_L1 p1 fu v2 (IntKind.wrap .i64 (v3 + 1))
    else
      some v2

/-- loop.example/namedflags/spec.partsIn -/
def m_spec_partsIn (p1 : Int) : Option (List (Int)) :=
  bd (m_spec_partsIn_L1 p1 FU ([] : List (Int)) 0) fun x5 =>
  some x5

/-- loop.example/namedflags/spec.matches -/
def m_spec_matches (p1 : Int) (p2 : Int) (p3 : Int) : Option (Bool) :=
  bd (m_spec_less p1 p3) fun x4 =>
  bif decide (x4 = 0) then
    bd (m_spec_both p2 p3) fun x5 =>
    some (decide (x5 = 0))
  else
    some false

def m_spec_firstArm_L1 (p1 : List (Int × Int)) (p2 : Int) : Nat → Int → Option (Int ⊕ Unit)
  | 0, _ => none
  | fu + 1, v3 =>
    bif decide (v3 < (p1.length : Int)) then
      gd (0 ≤ v3 ∧ v3 < (p1.length : Int)) <|
      bd (m_spec_matches ((gt p1 v3).1) ((gt p1 v3).2) p2) fun x4 =>
      bif x4 then
        some (Sum.inl v3)
      else
        m_spec_firstArm_L1 p1 p2 fu (IntKind.wrap .i64 (v3 + 1))
    else
      some (Sum.inr ())

/-- loop.example/namedflags/spec.firstArm -/
def m_spec_firstArm (p1 : List (Int × Int)) (p2 : Int) : Option (Int) :=
  bd (m_spec_firstArm_L1 p1 p2 FU 0) fun x5 =>
  sm x5 (fun x6 =>
    some x6) (fun x7 =>
    some (-1))

/-- loop.example/namedflags/laws.eqDef -/
def m_laws_eqDef (p1 : ByteArray) (p2 : Int) (p3 : ByteArray) (p4 : Int) : Option (Bool) :=
  bif (!decide (p1 = p3)) then
    some false
  else
    bif (!decide (p2 = p4)) then
      some false
    else
      some true

def m_laws_eqDefS_L1 (p1 : List (ByteArray × Int)) (p2 : List (ByteArray × Int)) : Nat → Int → Option (Unit ⊕ Unit)
  | 0, _ => none
  | fu + 1, v3 =>
    bif decide (v3 < (p1.length : Int)) then
      gd (0 ≤ v3 ∧ v3 < (p1.length : Int)) <|
      gd (0 ≤ v3 ∧ v3 < (p2.length : Int)) <|
      bd (m_laws_eqDef ((gt p1 v3).1) ((gt p1 v3).2) ((gt p2 v3).1) ((gt p2 v3).2)) fun x4 =>
      bif (!x4) then
        some (Sum.inl ())
      else
        m_laws_eqDefS_L1 p1 p2 fu (IntKind.wrap .i64 (v3 + 1))
    else
      some (Sum.inr ())

/-- loop.example/namedflags/laws.eqDefS -/
def m_laws_eqDefS (p1 : List (ByteArray × Int)) (p2 : List (ByteArray × Int)) : Option (Bool) :=
  bif (!decide ((p1.length : Int) = (p2.length : Int))) then
    some false
  else
    bd (m_laws_eqDefS_L1 p1 p2 FU 0) fun x5 =>
    sm x5 (fun x6 =>
      some false) (fun x7 =>
      some true)

/-- loop.example/namedflags/laws.eqFlag -/
def m_laws_eqFlag (p1 : List (ByteArray × Int)) (p2 : Int) (p3 : List (ByteArray × Int)) (p4 : Int) : Option (Bool) :=
  bd (m_laws_eqDefS p1 p3) fun x5 =>
  bif (!x5) then
    some false
  else
    bif (!decide (p2 = p4)) then
      some false
    else
      some true

def m_laws_markText_L1  : Nat → Int → ByteArray → Option (ByteArray)
  | 0, _, _ => none
  | fu + 1, v2, v3 =>
    bif decide (0 < v2) then
      gd ((10 : Int) ≠ 0) <|
      nm (bstr ([IntKind.wrap .u8 (IntKind.wrap .i64 (48 + (Int.tmod v2 10)))] : List (Int))) fun v4 =>
      gd (v4.size + v3.size ≤ 9223372036854775807) <|
      gd ((10 : Int) ≠ 0 ∧ IntKind.wrap .i64 (Int.tdiv v2 10) = Int.tdiv v2 10) <|
      m_laws_markText_L1  fu (Int.tdiv v2 10) (v4 ++ v3)
    else
      some v3

/-- loop.example/namedflags/laws.markText -/
def m_laws_markText (p1 : Int) : Option (ByteArray) :=
  bif decide (p1 ≤ 0) then
    some (ByteArray.mk #[109, 48])
  else
    bd (m_laws_markText_L1 FU p1 ByteArray.empty) fun x5 =>
    gd ((ByteArray.mk #[109]).size + x5.size ≤ 9223372036854775807) <|
    some ((ByteArray.mk #[109]) ++ x5)

def m_laws_markDefS_h_L1  : Nat → Int → Int → (List (ByteArray × Int)) → Option (Int × (List (ByteArray × Int)))
  | 0, _, _, _ => none
  | fu + 1, v3, v4, v5 =>
    bif decide (v4 < (v5.length : Int)) then
      bd (m_laws_markText v3) fun x6 =>
      gd (0 ≤ v4 ∧ v4 < (v5.length : Int)) <|
      m_laws_markDefS_h_L1  fu (IntKind.wrap .i64 ((IntKind.wrap .i64 (v3 + 1)) + 1)) (IntKind.wrap .i64 (v4 + 1)) ((v5.set (0 + v4.toNat) (x6, (gt v5 v4).2)).set (0 + v4.toNat) ((gt (v5.set (0 + v4.toNat) (x6, (gt v5 v4).2)) v4).1, IntKind.wrap .i64 (v3 + 1)))
    else
      some (v3, v5)

/-- loop.example/namedflags/laws.markDefS -/
def m_laws_markDefS_h (p1 : Int) (p2 : List (ByteArray × Int)) : Option (Int × (List (ByteArray × Int))) :=
  bd (m_laws_markDefS_h_L1 FU p1 0 p2) fun x7 =>
  some (x7.1, x7.2)

/-- loop.example/namedflags/laws.markFlag -/
def m_laws_markFlag_h (p1 : Int) (p2 : Int) (p3 : List (ByteArray × Int)) : Option (Int × (List (ByteArray × Int))) :=
  bd (m_laws_markDefS_h p2 p3) fun x4 =>
  gd (x4.2.length = p3.length) <|
  some (x4.1, x4.2)

/-- slices.Clip[[]int,int] -/
def m_slices_Clip_i (p1 : List (Int)) : Option (Unit) :=
  gd (0 ≤ (0 : Int) ∧ (0 : Int) ≤ (p1.length : Int) ∧ (p1.length : Int) ≤ (p1.length : Int) ∧ (p1.length : Int) ≤ (p1.length : Int)) <|
  some ()

/-- slices.Clip[[]int,int] -/
def m_slices_Clip_hi (p1 : List (Int)) : Option (Unit) :=
  some ()

def m_impl_DeadArms_L1 (p3 : List (Int × Int)) (x6 : List (Int)) : Nat → (List Int) → Int → Option (List Int)
  | 0, _, _ => none
  | fu + 1, v7, v8 =>
    bif decide (v8 < (x6.length : Int)) then
      gd (0 ≤ v8 ∧ v8 < (x6.length : Int)) <|
      bd (m_impl_first p3 (gt x6 v8)) fun x9 =>
      m_impl_DeadArms_L1 p3 x6 fu (v7 ++ [x9]) (IntKind.wrap .i64 (v8 + 1))
    else
      some v7

def m_impl_DeadArms_L2 (p3 : List (Int × Int)) (x10 : List Int) : Nat → (List (Int)) → Int → Option (List (Int))
  | 0, _, _ => none
  | fu + 1, v11, v12 =>
    bif decide (v12 < (p3.length : Int)) then
      bif (!(List.any x10 (fun x => decide (x = v12)))) then
        gd (v11.length + ([v12] : List (Int)).length ≤ 1099511627776) <|
        m_impl_DeadArms_L2 p3 x10 fu (v11 ++ ([v12] : List (Int))) (IntKind.wrap .i64 (v12 + 1))
      else
        m_impl_DeadArms_L2 p3 x10 fu v11 (IntKind.wrap .i64 (v12 + 1))
    else
      some v11

/-- loop.example/namedflags/impl.DeadArms -/
def m_impl_DeadArms (p1 : List (ByteArray × Int)) (p2 : Int) (p3 : List (Int × Int)) : Option (List (Int)) :=
  bd (m_impl_armsOk p1 p2 p3) fun x4 =>
  bif (!x4) then
    some ([] : List (Int))
  else
    bd (m_impl_Flag_mask p1 p2) fun x5 =>
    bd (m_impl_inside x5) fun x6 =>
    bd (m_impl_DeadArms_L1 p3 x6 FU ([] : List Int) 0) fun x10 =>
    bd (m_impl_DeadArms_L2 p3 x10 FU ([] : List (Int)) 0) fun x13 =>
    bd (m_slices_Clip_hi x13) fun x14 =>
    some x13

def m_spec_DeadArms_L1 (p3 : List (Int × Int)) (x6 : List (Int)) : Nat → (List (Bool)) → Int → Option (List (Bool))
  | 0, _, _ => none
  | fu + 1, v7, v8 =>
    bif decide (v8 < (x6.length : Int)) then
      gd (0 ≤ v8 ∧ v8 < (x6.length : Int)) <|
      bd (m_spec_firstArm p3 (gt x6 v8)) fun x9 =>
      bif decide (0 ≤ x9) then
        gd (0 ≤ x9 ∧ x9 < (v7.length : Int)) <|
        m_spec_DeadArms_L1 p3 x6 fu (v7.set (0 + x9.toNat) true) (IntKind.wrap .i64 (v8 + 1))
      else
        m_spec_DeadArms_L1 p3 x6 fu v7 (IntKind.wrap .i64 (v8 + 1))
    else
      some v7

def m_spec_DeadArms_L2 (x10 : List (Bool)) : Nat → (List (Int)) → Int → Option (List (Int))
  | 0, _, _ => none
  | fu + 1, v11, v12 =>
    bif decide (v12 < (x10.length : Int)) then
      gd (0 ≤ v12 ∧ v12 < (x10.length : Int)) <|
      bif (!(gt x10 v12)) then
        gd (v11.length + ([v12] : List (Int)).length ≤ 1099511627776) <|
        m_spec_DeadArms_L2 x10 fu (v11 ++ ([v12] : List (Int))) (IntKind.wrap .i64 (v12 + 1))
      else
        m_spec_DeadArms_L2 x10 fu v11 (IntKind.wrap .i64 (v12 + 1))
    else
      some v11

/-- loop.example/namedflags/spec.DeadArms -/
def m_spec_DeadArms (p1 : List (ByteArray × Int)) (p2 : Int) (p3 : List (Int × Int)) : Option (List (Int)) :=
  bd (m_spec_validArms p1 p2 p3) fun x4 =>
  bif (!x4) then
    some ([] : List (Int))
  else
    gd (0 ≤ (p3.length : Int) ∧ (p3.length : Int) = (p3.length : Int) ∧ (1 : Int) * (p3.length : Int) ≤ 281474976710656 ∧ (p3.length : Int) ≤ 9223372036854775807) <|
    bd (m_spec_mask p1) fun x5 =>
    bd (m_spec_partsIn x5) fun x6 =>
    bd (m_spec_DeadArms_L1 p3 x6 FU (List.replicate (p3.length : Int).toNat (false : Bool)) 0) fun x10 =>
    bd (m_spec_DeadArms_L2 x10 FU ([] : List (Int)) 0) fun x13 =>
    some x13

/-- loop.example/namedflags/laws.szDef -/
def m_laws_szDef (p1 : ByteArray) (p2 : Int) (p3 : Int) : Option (Int) :=
  bif decide ((IntKind.wrap .i64 (p3 - (p1.size : Int))) < 0) then
    some (-1)
  else
    some (IntKind.wrap .i64 (p3 - (p1.size : Int)))

def m_laws_szDefS_L1 (p1 : List (ByteArray × Int)) : Nat → Int → Int → Option (Unit ⊕ Int)
  | 0, _, _ => none
  | fu + 1, v3, v4 =>
    bif decide (v4 < (p1.length : Int)) then
      gd (0 ≤ v4 ∧ v4 < (p1.length : Int)) <|
      bd (m_laws_szDef ((gt p1 v4).1) ((gt p1 v4).2) v3) fun x5 =>
      bif decide (x5 < 0) then
        some (Sum.inl ())
      else
        m_laws_szDefS_L1 p1 fu x5 (IntKind.wrap .i64 (v4 + 1))
    else
      some (Sum.inr v3)

/-- loop.example/namedflags/laws.szDefS -/
def m_laws_szDefS (p1 : List (ByteArray × Int)) (p2 : Int) : Option (Int) :=
  bif decide ((IntKind.wrap .i64 (p2 - (p1.length : Int))) < 0) then
    some (-1)
  else
    bd (m_laws_szDefS_L1 p1 FU (IntKind.wrap .i64 (p2 - (p1.length : Int))) 0) fun x6 =>
    sm x6 (fun x7 =>
      some (-1)) (fun x8 =>
      some x8)

/-- loop.example/namedflags/laws.toDef -/
def m_laws_toDef (p1 : ByteArray) (p2 : Int) : Option (Unit) :=
  some ()

def m_laws_toDefS_L1 (p1 : List (ByteArray × Int)) : Nat → (List (ByteArray × Int)) → Int → Option (List (ByteArray × Int))
  | 0, _, _ => none
  | fu + 1, v2, v3 =>
    bif decide (v3 < (p1.length : Int)) then
      gd (0 ≤ v3 ∧ v3 < (p1.length : Int)) <|
      bd (m_laws_toDef ((gt p1 v3).1) ((gt p1 v3).2)) fun x4 =>
      gd (0 ≤ v3 ∧ v3 < (v2.length : Int)) <|
      m_laws_toDefS_L1 p1 fu (v2.set (0 + v3.toNat) (((gt p1 v3).1), ((gt p1 v3).2))) (IntKind.wrap .i64 (v3 + 1))
    else
      some v2

/-- loop.example/namedflags/laws.toDefS -/
def m_laws_toDefS (p1 : List (ByteArray × Int)) : Option (List (ByteArray × Int)) :=
  gd (0 ≤ (p1.length : Int) ∧ (p1.length : Int) = (p1.length : Int) ∧ (24 : Int) * (p1.length : Int) ≤ 281474976710656 ∧ (p1.length : Int) ≤ 9223372036854775807) <|
  bd (m_laws_toDefS_L1 p1 FU (List.replicate (p1.length : Int).toNat ((ByteArray.empty, 0) : ByteArray × Int)) 0) fun x5 =>
  some x5

/-- loop.example/namedflags/laws.szFlag -/
def m_laws_szFlag (p1 : List (ByteArray × Int)) (p2 : Int) (p3 : Int) : Option (Int) :=
  bd (m_laws_szDefS p1 p3) fun x4 =>
  bif decide (x4 < 0) then
    some (-1)
  else
    some x4

/-- loop.example/namedflags/laws.szArmS -/
def m_laws_szArmS (p1 : List (Int × Int)) (p2 : Int) : Option (Int) :=
  bif decide ((IntKind.wrap .i64 (p2 - (p1.length : Int))) < 0) then
    some (-1)
  else
    some (IntKind.wrap .i64 (p2 - (p1.length : Int)))

/-- loop.example/namedflags/laws.toFlag -/
def m_laws_toFlag (p1 : List (ByteArray × Int)) (p2 : Int) : Option (List (ByteArray × Int)) :=
  bd (m_laws_toDefS p1) fun x3 =>
  some x3

/-- loop.example/namedflags/laws.toArm -/
def m_laws_toArm (p1 : Int) (p2 : Int) : Option (Unit) :=
  some ()

def m_laws_toArmS_L1 (p1 : List (Int × Int)) : Nat → (List (Int × Int)) → Int → Option (List (Int × Int))
  | 0, _, _ => none
  | fu + 1, v2, v3 =>
    bif decide (v3 < (p1.length : Int)) then
      gd (0 ≤ v3 ∧ v3 < (p1.length : Int)) <|
      bd (m_laws_toArm ((gt p1 v3).1) ((gt p1 v3).2)) fun x4 =>
      gd (0 ≤ v3 ∧ v3 < (v2.length : Int)) <|
      m_laws_toArmS_L1 p1 fu (v2.set (0 + v3.toNat) (((gt p1 v3).1), ((gt p1 v3).2))) (IntKind.wrap .i64 (v3 + 1))
    else
      some v2

/-- loop.example/namedflags/laws.toArmS -/
def m_laws_toArmS (p1 : List (Int × Int)) : Option (List (Int × Int)) :=
  gd (0 ≤ (p1.length : Int) ∧ (p1.length : Int) = (p1.length : Int) ∧ (16 : Int) * (p1.length : Int) ≤ 281474976710656 ∧ (p1.length : Int) ≤ 9223372036854775807) <|
  bd (m_laws_toArmS_L1 p1 FU (List.replicate (p1.length : Int).toNat ((0, 0) : Int × Int)) 0) fun x5 =>
  some x5

def m_laws_eqIntS_L1 (p1 : List (Int)) (p2 : List (Int)) : Nat → Int → Option (Unit ⊕ Unit)
  | 0, _ => none
  | fu + 1, v3 =>
    bif decide (v3 < (p1.length : Int)) then
      gd (0 ≤ v3 ∧ v3 < (p1.length : Int)) <|
      gd (0 ≤ v3 ∧ v3 < (p2.length : Int)) <|
      bif (!decide ((gt p1 v3) = (gt p2 v3))) then
        some (Sum.inl ())
      else
        m_laws_eqIntS_L1 p1 p2 fu (IntKind.wrap .i64 (v3 + 1))
    else
      some (Sum.inr ())

/-- loop.example/namedflags/laws.eqIntS -/
def m_laws_eqIntS (p1 : List (Int)) (p2 : List (Int)) : Option (Bool) :=
  bif (!decide ((p1.length : Int) = (p2.length : Int))) then
    some false
  else
    bd (m_laws_eqIntS_L1 p1 p2 FU 0) fun x4 =>
    sm x4 (fun x5 =>
      some false) (fun x6 =>
      some true)

/-- loop.example/namedflags/laws.eqArm -/
def m_laws_eqArm (p1 : Int) (p2 : Int) (p3 : Int) (p4 : Int) : Option (Bool) :=
  bif (!decide (p1 = p3)) then
    some false
  else
    bif (!decide (p2 = p4)) then
      some false
    else
      some true

def m_laws_eqArmS_L1 (p1 : List (Int × Int)) (p2 : List (Int × Int)) : Nat → Int → Option (Unit ⊕ Unit)
  | 0, _ => none
  | fu + 1, v3 =>
    bif decide (v3 < (p1.length : Int)) then
      gd (0 ≤ v3 ∧ v3 < (p1.length : Int)) <|
      gd (0 ≤ v3 ∧ v3 < (p2.length : Int)) <|
      bd (m_laws_eqArm ((gt p1 v3).1) ((gt p1 v3).2) ((gt p2 v3).1) ((gt p2 v3).2)) fun x4 =>
      bif (!x4) then
        some (Sum.inl ())
      else
        m_laws_eqArmS_L1 p1 p2 fu (IntKind.wrap .i64 (v3 + 1))
    else
      some (Sum.inr ())

/-- loop.example/namedflags/laws.eqArmS -/
def m_laws_eqArmS (p1 : List (Int × Int)) (p2 : List (Int × Int)) : Option (Bool) :=
  bif (!decide ((p1.length : Int) = (p2.length : Int))) then
    some false
  else
    bd (m_laws_eqArmS_L1 p1 p2 FU 0) fun x5 =>
    sm x5 (fun x6 =>
      some false) (fun x7 =>
      some true)

def m_laws_markArmS_h_L1  : Nat → Int → Int → (List (Int × Int)) → Option (Int × (List (Int × Int)))
  | 0, _, _, _ => none
  | fu + 1, v3, v4, v5 =>
    bif decide (v4 < (v5.length : Int)) then
      gd (0 ≤ v4 ∧ v4 < (v5.length : Int)) <|
      m_laws_markArmS_h_L1  fu (IntKind.wrap .i64 ((IntKind.wrap .i64 (v3 + 1)) + 1)) (IntKind.wrap .i64 (v4 + 1)) ((v5.set (0 + v4.toNat) (v3, (gt v5 v4).2)).set (0 + v4.toNat) ((gt (v5.set (0 + v4.toNat) (v3, (gt v5 v4).2)) v4).1, IntKind.wrap .i64 (v3 + 1)))
    else
      some (v3, v5)

/-- loop.example/namedflags/laws.markArmS -/
def m_laws_markArmS_h (p1 : Int) (p2 : List (Int × Int)) : Option (Int × (List (Int × Int))) :=
  bd (m_laws_markArmS_h_L1 FU p1 0 p2) fun x6 =>
  some (x6.1, x6.2)

def m_laws_markIntS_h_L1  : Nat → Int → Int → (List (Int)) → Option (Int × List (Int))
  | 0, _, _, _ => none
  | fu + 1, v3, v4, v5 =>
    bif decide (v4 < (v5.length : Int)) then
      gd (0 ≤ v4 ∧ v4 < (v5.length : Int)) <|
      m_laws_markIntS_h_L1  fu (IntKind.wrap .i64 (v3 + 1)) (IntKind.wrap .i64 (v4 + 1)) (v5.set (0 + v4.toNat) v3)
    else
      some (v3, v5)

/-- loop.example/namedflags/laws.markIntS -/
def m_laws_markIntS_h (p1 : Int) (p2 : List (Int)) : Option (Int × List (Int)) :=
  bd (m_laws_markIntS_h_L1 FU p1 0 p2) fun x6 =>
  some (x6.1, x6.2)

def m_laws_heldIntS_L1 (p1 : List (Int)) : Nat → Int → Int → Option (Unit ⊕ Int)
  | 0, _, _ => none
  | fu + 1, v3, v4 =>
    bif decide (v4 < (p1.length : Int)) then
      gd (0 ≤ v4 ∧ v4 < (p1.length : Int)) <|
      bif (!decide ((gt p1 v4) = v3)) then
        some (Sum.inl ())
      else
        m_laws_heldIntS_L1 p1 fu (IntKind.wrap .i64 (v3 + 1)) (IntKind.wrap .i64 (v4 + 1))
    else
      some (Sum.inr v3)

/-- loop.example/namedflags/laws.heldIntS -/
def m_laws_heldIntS (p1 : List (Int)) (p2 : Int) : Option (Int) :=
  bd (m_laws_heldIntS_L1 p1 FU p2 0) fun x5 =>
  sm x5 (fun x6 =>
    some (-1)) (fun x7 =>
    some x7)

/-- loop.example/namedflags/laws.FnExactDeadArms -/
def m_laws_FnExactDeadArms (p1 : List (ByteArray × Int)) (p2 : Int) (p3 : List (Int × Int)) : Option (Bool) :=
  bd (m_laws_szFlag p1 p2 1048576) fun x4 =>
  bif decide (x4 < 0) then
    some true
  else
    bd (m_laws_szArmS p3 x4) fun x5 =>
    bif decide (x5 < 0) then
      some true
    else
      bd (m_laws_toFlag p1 p2) fun x6 =>
      bd (m_laws_toArmS p3) fun x7 =>
      bd (m_spec_DeadArms x6 p2 x7) fun x8 =>
      bd (m_laws_toFlag p1 p2) fun x9 =>
      bd (m_laws_toArmS p3) fun x10 =>
      bd (m_impl_DeadArms x9 p2 x10) fun x11 =>
      bd (m_laws_eqIntS x11 x8) fun x12 =>
      bif (!x12) then
        some false
      else
        bd (m_laws_toFlag p1 p2) fun x13 =>
        bd (m_laws_eqFlag x9 p2 x13 p2) fun x14 =>
        bif (!x14) then
          some false
        else
          bd (m_laws_toArmS p3) fun x15 =>
          bd (m_laws_eqArmS x10 x15) fun x16 =>
          bif (!x16) then
            some false
          else
            bd (m_laws_markFlag_h p2 1 x9) fun x17 =>
            gd (x17.2.length = x9.length) <|
            bd (m_laws_markArmS_h x17.1 x10) fun x18 =>
            gd (x18.2.length = x10.length) <|
            bif decide (x18.1 < 0) then
              some false
            else
              bd (m_laws_eqIntS x11 x8) fun x19 =>
              bif (!x19) then
                some false
              else
                bd (m_laws_markIntS_h 1 x11) fun x20 =>
                gd (x20.2.length = x11.length) <|
                bd (m_laws_heldIntS x20.2 1) fun x21 =>
                bif decide (x21 < 0) then
                  some false
                else
                  bif (!decide (x21 = x20.1)) then
                    some false
                  else
                    bd (m_laws_toFlag p1 p2) fun x22 =>
                    bd (m_laws_toArmS p3) fun x23 =>
                    bd (m_impl_DeadArms x22 p2 x23) fun x24 =>
                    bd (m_laws_eqIntS x24 x8) fun x25 =>
                    bif (!x25) then
                      some false
                    else
                      bd (m_laws_heldIntS x20.2 1) fun x26 =>
                      bif decide (x26 < 0) then
                        some false
                      else
                        bif (!decide (x26 = x20.1)) then
                          some false
                        else
                          some true

end Go.Eng

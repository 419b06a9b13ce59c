/- What is said here: nothing is proved. A model of each function, printed by a program out of the translated code. -/
import Derived.Test.YtehcdfddbnhniaaCExactGreatestArmsEng25
set_option linter.unusedVariables false
set_option linter.unusedSimpArgs false
namespace Go.Eng
open Go

def enc_i (x : Int) : List Value := [.int .i64 x]

def enc_ii (x : Int × Int) : List Value := [.int .i64 x.1, .int .i64 x.2]

def enc_si (x : ByteArray × Int) : List Value := [.string x.1, .int .i64 x.2]

def enc_y (x : Int) : List Value := [.int .u8 x]

def FU : Nat := 4611686018427387904

def bstr (ns : List Int) : ByteArray := ns.foldl (fun r n => r.push (UInt8.ofNat n.toNat)) ByteArray.empty

/-- (*loop.example/namedflags/spec.reader).pick -/
def m_spec_reader_pick (p1 : Int) (p2 : List (Int)) (p3 : Int) : Option (Int) :=
  bif decide (p1 < 1) then
    some 0
  else
    bif decide ((p2.length : Int) = 0) then
      some 0
    else
      nm (decide ((IntKind.wrap .i64 ((IntKind.wrap .i64 (p3 + 1)) - 1)) < (p2.length : Int))) fun v4 =>
      bif v4 then
        gd (0 ≤ (IntKind.wrap .i64 ((IntKind.wrap .i64 (p3 + 1)) - 1)) ∧ (IntKind.wrap .i64 ((IntKind.wrap .i64 (p3 + 1)) - 1)) < (p2.length : Int)) <|
        nm ((gt p2 (IntKind.wrap .i64 ((IntKind.wrap .i64 (p3 + 1)) - 1)))) fun v5 =>
        gd (p1 ≠ 0) <|
        some (Int.tmod (IntKind.wrap .i64 (v5)) p1)
      else
        gd ((p2.length : Int) ≠ 0) <|
        nm (Int.tmod (IntKind.wrap .i64 ((IntKind.wrap .i64 (p3 + 1)) - 1)) (p2.length : Int)) fun v6 =>
        gd (0 ≤ v6 ∧ v6 < (p2.length : Int)) <|
        nm (IntKind.wrap .i64 ((IntKind.wrap .i64 ((IntKind.wrap .i64 (p3 + 1)) - 1)) * 7)) fun v7 =>
        gd (0 ≤ (Int.tmod (IntKind.wrap .i64 (v7 + 3)) (p2.length : Int)) ∧ (Int.tmod (IntKind.wrap .i64 (v7 + 3)) (p2.length : Int)) < (p2.length : Int)) <|
        nm ((gt p2 (Int.tmod (IntKind.wrap .i64 (v7 + 3)) (p2.length : Int)))) fun v8 =>
        nm (IntKind.wrap .i64 ((IntKind.wrap .i64 ((IntKind.wrap .i64 ((gt p2 v6))) * 131)) + (IntKind.wrap .i64 ((IntKind.wrap .i64 (v8)) * 1117)))) fun v9 =>
        nm (IntKind.wrap .i64 ((IntKind.wrap .i64 ((IntKind.wrap .i64 (p3 + 1)) - 1)) * 29)) fun v10 =>
        gd ((p2.length : Int) ≠ 0 ∧ IntKind.wrap .i64 (Int.tdiv (IntKind.wrap .i64 ((IntKind.wrap .i64 (p3 + 1)) - 1)) (p2.length : Int)) = Int.tdiv (IntKind.wrap .i64 ((IntKind.wrap .i64 (p3 + 1)) - 1)) (p2.length : Int)) <|
        nm (Int.tdiv (IntKind.wrap .i64 ((IntKind.wrap .i64 (p3 + 1)) - 1)) (p2.length : Int)) fun v11 =>
        nm (IntKind.wrap .i64 ((IntKind.wrap .i64 (v9 + v10)) + (IntKind.wrap .i64 (v11 * 53)))) fun v12 =>
        gd ((64 : Int) ≠ 0 ∧ IntKind.wrap .i64 (Int.tdiv v12 64) = Int.tdiv v12 64) <|
        gd (p1 ≠ 0) <|
        some (Int.tmod (Go.bits .xor .i64 v12 (Int.tdiv v12 64)) p1)

/-- (*loop.example/namedflags/spec.reader).one -/
def m_spec_reader_one (p1 : List (Int)) (p2 : List (Int)) (p3 : Int) : Option (Int) :=
  bd (m_spec_reader_pick (p1.length : Int) p2 p3) fun x4 =>
  gd (0 ≤ x4 ∧ x4 < (p1.length : Int)) <|
  some (gt p1 x4)

def m_spec_indexOf_L1 (p1 : List (ByteArray × Int)) (p2 : ByteArray) : Nat → Int → Option (Int ⊕ Unit)
  | 0, _ => none
  | fu + 1, v3 =>
    bif decide (v3 < (p1.length : Int)) then
      gd (0 ≤ v3 ∧ v3 < (p1.length : Int)) <|
      bif decide (((gt p1 v3).1) = p2) then
        some (Sum.inl v3)
      else
        m_spec_indexOf_L1 p1 p2 fu (IntKind.wrap .i64 (v3 + 1))
    else
      some (Sum.inr ())

/-- loop.example/namedflags/spec.indexOf -/
def m_spec_indexOf (p1 : List (ByteArray × Int)) (p2 : ByteArray) : Option (Int) :=
  bd (m_spec_indexOf_L1 p1 p2 FU 0) fun x4 =>
  sm x4 (fun x5 =>
    some x5) (fun x6 =>
    some (-1))

/-- loop.example/namedflags/impl.in -/
def m_impl_in (p1 : Int) (p2 : Int) (p3 : Int) : Option (Bool) :=
  bif decide (p2 ≤ p1) then
    some (decide (p1 ≤ p3))
  else
    some false

def m_impl_ValidName_L1 (p1 : ByteArray) : Nat → Int → Option (Unit ⊕ Unit)
  | 0, _ => none
  | fu + 1, v2 =>
    bif decide (v2 < (p1.size : Int)) then
      gd (0 ≤ v2 ∧ v2 < (p1.size : Int)) <|
      bif decide ((byteAt p1 v2.toNat) < 97) then
        some (Sum.inl ())
      else
        bif decide (122 < (byteAt p1 v2.toNat)) then
          some (Sum.inl ())
        else
          m_impl_ValidName_L1 p1 fu (IntKind.wrap .i64 (v2 + 1))
    else
      some (Sum.inr ())

/-- loop.example/namedflags/impl.ValidName -/
def m_impl_ValidName (p1 : ByteArray) : Option (Bool) :=
  bd (m_impl_ValidName_L1 p1 FU 0) fun x3 =>
  sm x3 (fun x4 =>
    some false) (fun x5 =>
    bd (m_impl_in (p1.size : Int) 1 6) fun x6 =>
    some x6)

/-- loop.example/namedflags/impl.named$1 -/
def m_impl_named_1_l (p1 : ByteArray) (p2 : Int) (p3 : ByteArray) : Option (Unit) :=
  some ()

def m_slices_IndexFunc_si_named_1_l_L1 (p1 : List (ByteArray × Int)) (p2 : ByteArray) : Nat → Int → Option (Int ⊕ Unit)
  | 0, _ => none
  | fu + 1, v3 =>
    bif decide (v3 < (p1.length : Int)) then
      gd (0 ≤ v3 ∧ v3 < (p1.length : Int)) <|
      bd (m_impl_named_1_l ((gt p1 v3).1) ((gt p1 v3).2) p2) fun x4 =>
      bif decide (((gt p1 v3).1) = p2) then
        some (Sum.inl v3)
      else
        m_slices_IndexFunc_si_named_1_l_L1 p1 p2 fu (IntKind.wrap .i64 (v3 + 1))
    else
      some (Sum.inr ())

/-- slices.IndexFunc[[]loop.example/namedflags/impl.Def,loop.example/namedflags/impl.Def] -/
def m_slices_IndexFunc_si_named_1_l (p1 : List (ByteArray × Int)) (p2 : ByteArray) : Option (Int) :=
  bd (m_slices_IndexFunc_si_named_1_l_L1 p1 p2 FU 0) fun x5 =>
  sm x5 (fun x6 =>
    some x6) (fun x7 =>
    some (-1))

/-- loop.example/namedflags/impl.named -/
def m_impl_named (p1 : List (ByteArray × Int)) (p2 : ByteArray) : Option (Int) :=
  bd (m_slices_IndexFunc_si_named_1_l p1 p2) fun x3 =>
  some x3

def m_impl_defsValid_L1 (p1 : List (ByteArray × Int)) (p2 : Int) (p3 : Int) : Nat → Int → Option (Unit ⊕ Unit)
  | 0, _ => none
  | fu + 1, v4 =>
    bif decide (v4 < (p1.length : Int)) then
      gd (0 ≤ v4 ∧ v4 < (p1.length : Int)) <|
      bd (m_impl_ValidName ((gt p1 v4).1)) fun x5 =>
      bif (!x5) then
        some (Sum.inl ())
      else
        bd (m_impl_in ((gt p1 v4).2) p2 p3) fun x6 =>
        bif (!x6) then
          some (Sum.inl ())
        else
          gd (0 ≤ (0 : Int) ∧ (0 : Int) ≤ v4 ∧ v4 ≤ (p1.length : Int) ∧ (p1.length : Int) ≤ (p1.length : Int)) <|
          bd (m_impl_named (sub p1 (0 : Int) v4) ((gt p1 v4).1)) fun x7 =>
          bif decide (0 ≤ x7) then
            some (Sum.inl ())
          else
            m_impl_defsValid_L1 p1 p2 p3 fu (IntKind.wrap .i64 (v4 + 1))
    else
      some (Sum.inr ())

/-- loop.example/namedflags/impl.defsValid -/
def m_impl_defsValid (p1 : List (ByteArray × Int)) (p2 : Int) (p3 : Int) : Option (Bool) :=
  bd (m_impl_defsValid_L1 p1 p2 p3 FU 0) fun x8 =>
  sm x8 (fun x9 =>
    some false) (fun x10 =>
    some (decide ((p1.length : Int) ≤ 12)))

/-- loop.example/namedflags/impl.ValidFlag -/
def m_impl_ValidFlag (p1 : List (ByteArray × Int)) (p2 : Int) : Option (Bool) :=
  bd (m_impl_defsValid p1 0 4095) fun x3 =>
  bif x3 then
    bd (m_impl_in p2 0 3) fun x4 =>
    some x4
  else
    some false

def m_impl_Flag_mask_L1 (p1 : List (ByteArray × Int)) : Nat → Int → Int → Option (Int)
  | 0, _, _ => none
  | fu + 1, v3, v4 =>
    bif decide (v4 < (p1.length : Int)) then
      gd (0 ≤ v4 ∧ v4 < (p1.length : Int)) <|
      m_impl_Flag_mask_L1 p1 fu (Go.bits .or .i64 v3 ((gt p1 v4).2)) (IntKind.wrap .i64 (v4 + 1))
    else
      some v3

/-- (loop.example/namedflags/impl.Flag).mask -/
def m_impl_Flag_mask (p1 : List (ByteArray × Int)) (p2 : Int) : Option (Int) :=
  bd (m_impl_Flag_mask_L1 p1 FU 0 0) fun x5 =>
  some x5

/-- (loop.example/namedflags/impl.Arm).ok -/
def m_impl_Arm_ok (p1 : Int) (p2 : Int) (p3 : List (ByteArray × Int)) (p4 : Int) : Option (Bool) :=
  bd (m_impl_Flag_mask p3 p4) fun x5 =>
  nm (decide ((Go.bits .andNot .i64 (Go.bits .or .i64 p1 p2) x5) = 0)) fun v6 =>
  bif v6 then
    some (decide ((Go.bits .and .i64 p1 p2) = 0))
  else
    some false

def m_impl_inside_L1 (p1 : Int) : Nat → (List (Int)) → Int → Option (List (Int))
  | 0, _, _ => none
  | fu + 1, v2, v3 =>
    bif decide (v3 ≤ p1) then
      bif decide ((Go.bits .andNot .i64 v3 p1) = 0) then
        gd (v2.length + ([v3] : List (Int)).length ≤ 1099511627776) <|
        m_impl_inside_L1 p1 fu (v2 ++ ([v3] : List (Int))) (IntKind.wrap .i64 (v3 + 1))
      else
        m_impl_inside_L1 p1 fu v2 (IntKind.wrap .i64 (v3 + 1))
    else
      some v2

/-- loop.example/namedflags/impl.inside -/
def m_impl_inside (p1 : Int) : Option (List (Int)) :=
  bd (m_impl_inside_L1 p1 FU ([] : List (Int)) 0) fun x4 =>
  some x4

/-- (loop.example/namedflags/impl.Arm).matches -/
def m_impl_Arm_matches (p1 : Int) (p2 : Int) (p3 : Int) : Option (Bool) :=
  bif decide ((Go.bits .andNot .i64 p1 p3) = 0) then
    some (decide ((Go.bits .and .i64 p2 p3) = 0))
  else
    some false

def m_spec_both_L1 (p1 : Int) (p2 : Int) : Nat → Int → Int → Option (Int)
  | 0, _, _ => none
  | fu + 1, v3, v4 =>
    bif decide (v4 ≤ 4095) then
      gd (v4 ≠ 0 ∧ IntKind.wrap .i64 (Int.tdiv p1 v4) = Int.tdiv p1 v4) <|
      gd ((2 : Int) ≠ 0) <|
      bif decide ((Int.tmod (Int.tdiv p1 v4) 2) = 1) then
        gd (v4 ≠ 0 ∧ IntKind.wrap .i64 (Int.tdiv p2 v4) = Int.tdiv p2 v4) <|
        bif decide ((Int.tmod (Int.tdiv p2 v4) 2) = 1) then
          m_spec_both_L1 p1 p2 fu (IntKind.wrap .i64 (v3 + v4)) (IntKind.wrap .i64 (v4 * 2))
        else
          m_spec_both_L1 p1 p2 fu v3 (IntKind.wrap .i64 (v4 * 2))
      else
        m_spec_both_L1 p1 p2 fu v3 (IntKind.wrap .i64 (v4 * 2))
    else
      some v3

/-- loop.example/namedflags/spec.both -/
def m_spec_both (p1 : Int) (p2 : Int) : Option (Int) :=
  bd (m_spec_both_L1 p1 p2 FU 0 1) fun x5 =>
  some x5

/-- loop.example/namedflags/spec.either -/
def m_spec_either (p1 : Int) (p2 : Int) : Option (Int) :=
  bd (m_spec_both p1 p2) fun x3 =>
  some (IntKind.wrap .i64 ((IntKind.wrap .i64 (p1 + p2)) - x3))

def m_spec_mask_L1 (p1 : List (ByteArray × Int)) : Nat → Int → Int → Option (Int)
  | 0, _, _ => none
  | fu + 1, v2, v3 =>
    bif decide (v3 < (p1.length : Int)) then
      gd (0 ≤ v3 ∧ v3 < (p1.length : Int)) <|
      bd (m_spec_either v2 ((gt p1 v3).2)) fun x4 =>
      m_spec_mask_L1 p1 fu x4 (IntKind.wrap .i64 (v3 + 1))
    else
      some v2

/-- loop.example/namedflags/spec.mask -/
def m_spec_mask (p1 : List (ByteArray × Int)) : Option (Int) :=
  bd (m_spec_mask_L1 p1 FU 0 0) fun x5 =>
  some x5

/-- loop.example/namedflags/spec.inRange -/
def m_spec_inRange (p1 : Int) (p2 : Int) (p3 : Int) : Option (Bool) :=
  bif decide (p2 ≤ p1) then
    some (decide (p1 ≤ p3))
  else
    some false

def m_spec_validName_L1 (p1 : ByteArray) : Nat → Int → Option (Unit ⊕ Unit)
  | 0, _ => none
  | fu + 1, v2 =>
    bif decide (v2 < (p1.size : Int)) then
      gd (0 ≤ v2 ∧ v2 < (p1.size : Int)) <|
      bif decide ((byteAt p1 v2.toNat) < 97) then
        some (Sum.inl ())
      else
        bif decide (122 < (byteAt p1 v2.toNat)) then
          some (Sum.inl ())
        else
          m_spec_validName_L1 p1 fu (IntKind.wrap .i64 (v2 + 1))
    else
      some (Sum.inr ())

/-- loop.example/namedflags/spec.validName -/
def m_spec_validName (p1 : ByteArray) : Option (Bool) :=
  bd (m_spec_validName_L1 p1 FU 0) fun x3 =>
  sm x3 (fun x4 =>
    some false) (fun x5 =>
    bd (m_spec_inRange (p1.size : Int) 1 6) fun x6 =>
    some x6)

def m_spec_validDefs_L1 (p1 : List (ByteArray × Int)) (p2 : Int) (p3 : Int) : Nat → Int → Option (Unit ⊕ Unit)
  | 0, _ => none
  | fu + 1, v4 =>
    bif decide (v4 < (p1.length : Int)) then
      gd (0 ≤ v4 ∧ v4 < (p1.length : Int)) <|
      bd (m_spec_validName ((gt p1 v4).1)) fun x5 =>
      bif (!x5) then
        some (Sum.inl ())
      else
        bd (m_spec_inRange ((gt p1 v4).2) p2 p3) fun x6 =>
        bif (!x6) then
          some (Sum.inl ())
        else
          gd (0 ≤ (0 : Int) ∧ (0 : Int) ≤ v4 ∧ v4 ≤ (p1.length : Int) ∧ (p1.length : Int) ≤ (p1.length : Int)) <|
          bd (m_spec_indexOf (sub p1 (0 : Int) v4) ((gt p1 v4).1)) fun x7 =>
          bif decide (0 ≤ x7) then
            some (Sum.inl ())
          else
            m_spec_validDefs_L1 p1 p2 p3 fu (IntKind.wrap .i64 (v4 + 1))
    else
      some (Sum.inr ())

/-- loop.example/namedflags/spec.validDefs -/
def m_spec_validDefs (p1 : List (ByteArray × Int)) (p2 : Int) (p3 : Int) : Option (Bool) :=
  bd (m_spec_validDefs_L1 p1 p2 p3 FU 0) fun x8 =>
  sm x8 (fun x9 =>
    some false) (fun x10 =>
    some (decide ((p1.length : Int) ≤ 12)))

/-- loop.example/namedflags/spec.validFlag -/
def m_spec_validFlag (p1 : List (ByteArray × Int)) (p2 : Int) : Option (Bool) :=
  bd (m_spec_validDefs p1 0 4095) fun x3 =>
  bif x3 then
    bd (m_spec_inRange p2 0 3) fun x4 =>
    some x4
  else
    some false

/-- loop.example/namedflags/spec.less -/
def m_spec_less (p1 : Int) (p2 : Int) : Option (Int) :=
  bd (m_spec_both p1 p2) fun x3 =>
  some (IntKind.wrap .i64 (p1 - x3))

def m_spec_partsIn_L1 (p1 : Int) : Nat → (List (Int)) → Int → Option (List (Int))
  | 0, _, _ => none
  | fu + 1, v2, v3 =>
    bif decide (v3 ≤ p1) then
      bd (m_spec_less v3 p1) fun x4 =>
      bif decide (x4 = 0) then
        gd (v2.length + ([v3] : List (Int)).length ≤ 1099511627776) <|
        m_spec_partsIn_L1 p1 fu (v2 ++ ([v3] : List (Int))) (IntKind.wrap .i64 (v3 + 1))
      else
        m_spec_partsIn_L1 p1 fu v2 (IntKind.wrap .i64 (v3 + 1))
    else
      some v2

/-- loop.example/namedflags/spec.partsIn -/
def m_spec_partsIn (p1 : Int) : Option (List (Int)) :=
  bd (m_spec_partsIn_L1 p1 FU ([] : List (Int)) 0) fun x5 =>
  some x5

/-- loop.example/namedflags/spec.matches -/
def m_spec_matches (p1 : Int) (p2 : Int) (p3 : Int) : Option (Bool) :=
  bd (m_spec_less p1 p3) fun x4 =>
  bif decide (x4 = 0) then
    bd (m_spec_both p2 p3) fun x5 =>
    some (decide (x5 = 0))
  else
    some false

/-- math/bits.OnesCount64 -/
def m_math_bits_OnesCount64 (p1 : Int) : Option (Int) :=
  gd (0 ≤ (1 : Int) ∧ (1 : Int) ≤ (IntKind.bits .u64 : Int)) <|
  nm (Go.bits .and .u64 (p1 / 2 ^ (1 : Int).toNat) 6148914691236517205) fun v2 =>
  nm (IntKind.wrap .u64 (v2 + (Go.bits .and .u64 p1 6148914691236517205))) fun v3 =>
  gd (0 ≤ (2 : Int) ∧ (2 : Int) ≤ (IntKind.bits .u64 : Int)) <|
  nm (Go.bits .and .u64 (v3 / 2 ^ (2 : Int).toNat) 3689348814741910323) fun v4 =>
  nm (IntKind.wrap .u64 (v4 + (Go.bits .and .u64 v3 3689348814741910323))) fun v5 =>
  gd (0 ≤ (4 : Int) ∧ (4 : Int) ≤ (IntKind.bits .u64 : Int)) <|
  nm (Go.bits .and .u64 (IntKind.wrap .u64 ((v5 / 2 ^ (4 : Int).toNat) + v5)) 1085102592571150095) fun v6 =>
  gd (0 ≤ (8 : Int) ∧ (8 : Int) ≤ (IntKind.bits .u64 : Int)) <|
  gd (0 ≤ (16 : Int) ∧ (16 : Int) ≤ (IntKind.bits .u64 : Int)) <|
  nm ((IntKind.wrap .u64 (v6 + (v6 / 2 ^ (8 : Int).toNat))) / 2 ^ (16 : Int).toNat) fun v7 =>
  nm (IntKind.wrap .u64 ((IntKind.wrap .u64 (v6 + (v6 / 2 ^ (8 : Int).toNat))) + v7)) fun v8 =>
  gd (0 ≤ (32 : Int) ∧ (32 : Int) ≤ (IntKind.bits .u64 : Int)) <|
  nm (IntKind.wrap .i64 (IntKind.wrap .u64 (v8 + (v8 / 2 ^ (32 : Int).toNat)))) fun v9 =>
  some (Go.bits .and .i64 v9 127)

/-- math/bits.OnesCount -/
def m_math_bits_OnesCount (p1 : Int) : Option (Int) :=
  bd (m_math_bits_OnesCount64 p1) fun x2 =>
  some x2

/-- loop.example/namedflags/laws.eqDef -/
def m_laws_eqDef (p1 : ByteArray) (p2 : Int) (p3 : ByteArray) (p4 : Int) : Option (Bool) :=
  bif (!decide (p1 = p3)) then
    some false
  else
    bif (!decide (p2 = p4)) then
      some false
    else
      some true

def m_laws_eqDefS_L1 (p1 : List (ByteArray × Int)) (p2 : List (ByteArray × Int)) : Nat → Int → Option (Unit ⊕ Unit)
  | 0, _ => none
  | fu + 1, v3 =>
    bif decide (v3 < (p1.length : Int)) then
      gd (0 ≤ v3 ∧ v3 < (p1.length : Int)) <|
      gd (0 ≤ v3 ∧ v3 < (p2.length : Int)) <|
      bd (m_laws_eqDef ((gt p1 v3).1) ((gt p1 v3).2) ((gt p2 v3).1) ((gt p2 v3).2)) fun x4 =>
      bif (!x4) then
        some (Sum.inl ())
      else
        m_laws_eqDefS_L1 p1 p2 fu (IntKind.wrap .i64 (v3 + 1))
    else
      some (Sum.inr ())

/-- loop.example/namedflags/laws.eqDefS -/
def m_laws_eqDefS (p1 : List (ByteArray × Int)) (p2 : List (ByteArray × Int)) : Option (Bool) :=
  bif (!decide ((p1.length : Int) = (p2.length : Int))) then
    some false
  else
    bd (m_laws_eqDefS_L1 p1 p2 FU 0) fun x5 =>
    sm x5 (fun x6 =>
      some false) (fun x7 =>
      some true)

/-- loop.example/namedflags/laws.eqFlag -/
def m_laws_eqFlag (p1 : List (ByteArray × Int)) (p2 : Int) (p3 : List (ByteArray × Int)) (p4 : Int) : Option (Bool) :=
  bd (m_laws_eqDefS p1 p3) fun x5 =>
  bif (!x5) then
    some false
  else
    bif (!decide (p2 = p4)) then
      some false
    else
      some true

def m_laws_markText_L1  : Nat → Int → ByteArray → Option (ByteArray)
  | 0, _, _ => none
  | fu + 1, v2, v3 =>
    bif decide (0 < v2) then
      gd ((10 : Int) ≠ 0) <|
      nm (bstr ([IntKind.wrap .u8 (IntKind.wrap .i64 (48 + (Int.tmod v2 10)))] : List (Int))) fun v4 =>
      gd (v4.size + v3.size ≤ 9223372036854775807) <|
      gd ((10 : Int) ≠ 0 ∧ IntKind.wrap .i64 (Int.tdiv v2 10) = Int.tdiv v2 10) <|
      m_laws_markText_L1  fu (Int.tdiv v2 10) (v4 ++ v3)
    else
      some v3

/-- loop.example/namedflags/laws.markText -/
def m_laws_markText (p1 : Int) : Option (ByteArray) :=
  bif decide (p1 ≤ 0) then
    some (ByteArray.mk #[109, 48])
  else
    bd (m_laws_markText_L1 FU p1 ByteArray.empty) fun x5 =>
    gd ((ByteArray.mk #[109]).size + x5.size ≤ 9223372036854775807) <|
    some ((ByteArray.mk #[109]) ++ x5)

def m_laws_markDefS_h_L1  : Nat → Int → Int → (List (ByteArray × Int)) → Option (Int × (List (ByteArray × Int)))
  | 0, _, _, _ => none
  | fu + 1, v3, v4, v5 =>
    bif decide (v4 < (v5.length : Int)) then
      bd (m_laws_markText v3) fun x6 =>
      gd (0 ≤ v4 ∧ v4 < (v5.length : Int)) <|
      m_laws_markDefS_h_L1  fu (IntKind.wrap .i64 ((IntKind.wrap .i64 (v3 + 1)) + 1)) (IntKind.wrap .i64 (v4 + 1)) ((v5.set (0 + v4.toNat) (x6, (gt v5 v4).2)).set (0 + v4.toNat) ((gt (v5.set (0 + v4.toNat) (x6, (gt v5 v4).2)) v4).1, IntKind.wrap .i64 (v3 + 1)))
    else
      some (v3, v5)

/-- loop.example/namedflags/laws.markDefS -/
def m_laws_markDefS_h (p1 : Int) (p2 : List (ByteArray × Int)) : Option (Int × (List (ByteArray × Int))) :=
  bd (m_laws_markDefS_h_L1 FU p1 0 p2) fun x7 =>
  some (x7.1, x7.2)

/-- loop.example/namedflags/laws.markFlag -/
def m_laws_markFlag_h (p1 : Int) (p2 : Int) (p3 : List (ByteArray × Int)) : Option (Int × (List (ByteArray × Int))) :=
  bd (m_laws_markDefS_h p2 p3) fun x4 =>
  gd (x4.2.length = p3.length) <|
  some (x4.1, x4.2)

/-- (loop.example/namedflags/impl.Arm).covers -/
def m_impl_Arm_covers (p1 : Int) (p2 : Int) (p3 : Int) (p4 : Int) : Option (Bool) :=
  bif decide ((Go.bits .andNot .i64 p1 p3) = 0) then
    some (decide ((Go.bits .andNot .i64 p2 p4) = 0))
  else
    some false

/-- loop.example/namedflags/laws.szDef -/
def m_laws_szDef (p1 : ByteArray) (p2 : Int) (p3 : Int) : Option (Int) :=
  bif decide ((IntKind.wrap .i64 (p3 - (p1.size : Int))) < 0) then
    some (-1)
  else
    some (IntKind.wrap .i64 (p3 - (p1.size : Int)))

def m_laws_szDefS_L1 (p1 : List (ByteArray × Int)) : Nat → Int → Int → Option (Unit ⊕ Int)
  | 0, _, _ => none
  | fu + 1, v3, v4 =>
    bif decide (v4 < (p1.length : Int)) then
      gd (0 ≤ v4 ∧ v4 < (p1.length : Int)) <|
      bd (m_laws_szDef ((gt p1 v4).1) ((gt p1 v4).2) v3) fun x5 =>
      bif decide (x5 < 0) then
        some (Sum.inl ())
      else
        m_laws_szDefS_L1 p1 fu x5 (IntKind.wrap .i64 (v4 + 1))
    else
      some (Sum.inr v3)

/-- loop.example/namedflags/laws.szDefS -/
def m_laws_szDefS (p1 : List (ByteArray × Int)) (p2 : Int) : Option (Int) :=
  bif decide ((IntKind.wrap .i64 (p2 - (p1.length : Int))) < 0) then
    some (-1)
  else
    bd (m_laws_szDefS_L1 p1 FU (IntKind.wrap .i64 (p2 - (p1.length : Int))) 0) fun x6 =>
    sm x6 (fun x7 =>
      some (-1)) (fun x8 =>
      some x8)

/-- loop.example/namedflags/laws.toDef -/
def m_laws_toDef (p1 : ByteArray) (p2 : Int) : Option (Unit) :=
  some ()

def m_laws_toDefS_L1 (p1 : List (ByteArray × Int)) : Nat → (List (ByteArray × Int)) → Int → Option (List (ByteArray × Int))
  | 0, _, _ => none
  | fu + 1, v2, v3 =>
    bif decide (v3 < (p1.length : Int)) then
      gd (0 ≤ v3 ∧ v3 < (p1.length : Int)) <|
      bd (m_laws_toDef ((gt p1 v3).1) ((gt p1 v3).2)) fun x4 =>
      gd (0 ≤ v3 ∧ v3 < (v2.length : Int)) <|
      m_laws_toDefS_L1 p1 fu (v2.set (0 + v3.toNat) (((gt p1 v3).1), ((gt p1 v3).2))) (IntKind.wrap .i64 (v3 + 1))
    else
      some v2

/-- loop.example/namedflags/laws.toDefS -/
def m_laws_toDefS (p1 : List (ByteArray × Int)) : Option (List (ByteArray × Int)) :=
  gd (0 ≤ (p1.length : Int) ∧ (p1.length : Int) = (p1.length : Int) ∧ (24 : Int) * (p1.length : Int) ≤ 281474976710656 ∧ (p1.length : Int) ≤ 9223372036854775807) <|
  bd (m_laws_toDefS_L1 p1 FU (List.replicate (p1.length : Int).toNat ((ByteArray.empty, 0) : ByteArray × Int)) 0) fun x5 =>
  some x5

/-- loop.example/namedflags/laws.szFlag -/
def m_laws_szFlag (p1 : List (ByteArray × Int)) (p2 : Int) (p3 : Int) : Option (Int) :=
  bd (m_laws_szDefS p1 p3) fun x4 =>
  bif decide (x4 < 0) then
    some (-1)
  else
    some x4

/-- loop.example/namedflags/laws.toFlag -/
def m_laws_toFlag (p1 : List (ByteArray × Int)) (p2 : Int) : Option (List (ByteArray × Int)) :=
  bd (m_laws_toDefS p1) fun x3 =>
  some x3

def m_laws_eqIntS_L1 (p1 : List (Int)) (p2 : List (Int)) : Nat → Int → Option (Unit ⊕ Unit)
  | 0, _ => none
  | fu + 1, v3 =>
    bif decide (v3 < (p1.length : Int)) then
      gd (0 ≤ v3 ∧ v3 < (p1.length : Int)) <|
      gd (0 ≤ v3 ∧ v3 < (p2.length : Int)) <|
      bif (!decide ((gt p1 v3) = (gt p2 v3))) then
        some (Sum.inl ())
      else
        m_laws_eqIntS_L1 p1 p2 fu (IntKind.wrap .i64 (v3 + 1))
    else
      some (Sum.inr ())

/-- loop.example/namedflags/laws.eqIntS -/
def m_laws_eqIntS (p1 : List (Int)) (p2 : List (Int)) : Option (Bool) :=
  bif (!decide ((p1.length : Int) = (p2.length : Int))) then
    some false
  else
    bd (m_laws_eqIntS_L1 p1 p2 FU 0) fun x4 =>
    sm x4 (fun x5 =>
      some false) (fun x6 =>
      some true)

/-- loop.example/namedflags/laws.eqArm -/
def m_laws_eqArm (p1 : Int) (p2 : Int) (p3 : Int) (p4 : Int) : Option (Bool) :=
  bif (!decide (p1 = p3)) then
    some false
  else
    bif (!decide (p2 = p4)) then
      some false
    else
      some true

def m_laws_eqArmS_L1 (p1 : List (Int × Int)) (p2 : List (Int × Int)) : Nat → Int → Option (Unit ⊕ Unit)
  | 0, _ => none
  | fu + 1, v3 =>
    bif decide (v3 < (p1.length : Int)) then
      gd (0 ≤ v3 ∧ v3 < (p1.length : Int)) <|
      gd (0 ≤ v3 ∧ v3 < (p2.length : Int)) <|
      bd (m_laws_eqArm ((gt p1 v3).1) ((gt p1 v3).2) ((gt p2 v3).1) ((gt p2 v3).2)) fun x4 =>
      bif (!x4) then
        some (Sum.inl ())
      else
        m_laws_eqArmS_L1 p1 p2 fu (IntKind.wrap .i64 (v3 + 1))
    else
      some (Sum.inr ())

/-- loop.example/namedflags/laws.eqArmS -/
def m_laws_eqArmS (p1 : List (Int × Int)) (p2 : List (Int × Int)) : Option (Bool) :=
  bif (!decide ((p1.length : Int) = (p2.length : Int))) then
    some false
  else
    bd (m_laws_eqArmS_L1 p1 p2 FU 0) fun x5 =>
    sm x5 (fun x6 =>
      some false) (fun x7 =>
      some true)

def m_laws_markArmS_h_L1  : Nat → Int → Int → (List (Int × Int)) → Option (Int × (List (Int × Int)))
  | 0, _, _, _ => none
  | fu + 1, v3, v4, v5 =>
    bif decide (v4 < (v5.length : Int)) then
      gd (0 ≤ v4 ∧ v4 < (v5.length : Int)) <|
      m_laws_markArmS_h_L1  fu (IntKind.wrap .i64 ((IntKind.wrap .i64 (v3 + 1)) + 1)) (IntKind.wrap .i64 (v4 + 1)) ((v5.set (0 + v4.toNat) (v3, (gt v5 v4).2)).set (0 + v4.toNat) ((gt (v5.set (0 + v4.toNat) (v3, (gt v5 v4).2)) v4).1, IntKind.wrap .i64 (v3 + 1)))
    else
      some (v3, v5)

/-- loop.example/namedflags/laws.markArmS -/
def m_laws_markArmS_h (p1 : Int) (p2 : List (Int × Int)) : Option (Int × (List (Int × Int))) :=
  bd (m_laws_markArmS_h_L1 FU p1 0 p2) fun x6 =>
  some (x6.1, x6.2)

def m_spec_bitCount_L1  : Nat → Int → Int → Option (Int)
  | 0, _, _ => none
  | fu + 1, v2, v3 =>
    bif decide (0 < v2) then
      gd ((2 : Int) ≠ 0) <|
      gd ((2 : Int) ≠ 0 ∧ IntKind.wrap .i64 (Int.tdiv v2 2) = Int.tdiv v2 2) <|
      m_spec_bitCount_L1  fu (Int.tdiv v2 2) (IntKind.wrap .i64 (v3 + (Int.tmod v2 2)))
    else
      some v3

/-- loop.example/namedflags/spec.bitCount -/
def m_spec_bitCount (p1 : Int) : Option (Int) :=
  bd (m_spec_bitCount_L1 FU p1 0) fun x4 =>
  some x4

/-- loop.example/namedflags/impl.GreatestArms$1 -/
def m_impl_GreatestArms_1_l (p1 : Int) (p2 : List (ByteArray × Int)) (p3 : Int) : Option (Bool) :=
  bif decide (p1 < 0) then
    some true
  else
    bd (m_impl_Flag_mask p2 p3) fun x4 =>
    some (!decide ((Go.bits .andNot .i64 p1 x4) = 0))

def m_slices_IndexFunc_i_GreatestArms_1_lsi_L1 (p1 : List (Int)) (p2 : List (ByteArray × Int)) (p3 : Int) : Nat → Int → Option (Int ⊕ Unit)
  | 0, _ => none
  | fu + 1, v4 =>
    bif decide (v4 < (p1.length : Int)) then
      gd (0 ≤ v4 ∧ v4 < (p1.length : Int)) <|
      bd (m_impl_GreatestArms_1_l (gt p1 v4) p2 p3) fun x5 =>
      bif x5 then
        some (Sum.inl v4)
      else
        m_slices_IndexFunc_i_GreatestArms_1_lsi_L1 p1 p2 p3 fu (IntKind.wrap .i64 (v4 + 1))
    else
      some (Sum.inr ())

/-- slices.IndexFunc[[]int,int] -/
def m_slices_IndexFunc_i_GreatestArms_1_lsi (p1 : List (Int)) (p2 : List (ByteArray × Int)) (p3 : Int) : Option (Int) :=
  bd (m_slices_IndexFunc_i_GreatestArms_1_lsi_L1 p1 p2 p3 FU 0) fun x6 =>
  sm x6 (fun x7 =>
    some x7) (fun x8 =>
    some (-1))

/-- slices.ContainsFunc[[]int,int] -/
def m_slices_ContainsFunc_i_GreatestArms_1_lsi (p1 : List (Int)) (p2 : List (ByteArray × Int)) (p3 : Int) : Option (Bool) :=
  bd (m_slices_IndexFunc_i_GreatestArms_1_lsi p1 p2 p3) fun x4 =>
  some (decide (0 ≤ x4))

def m_slices_Index_i_L1 (p1 : List (Int)) (p2 : Int) : Nat → Int → Option (Int ⊕ Unit)
  | 0, _ => none
  | fu + 1, v3 =>
    bif decide (v3 < (p1.length : Int)) then
      gd (0 ≤ v3 ∧ v3 < (p1.length : Int)) <|
      bif decide (p2 = (gt p1 v3)) then
        some (Sum.inl v3)
      else
        m_slices_Index_i_L1 p1 p2 fu (IntKind.wrap .i64 (v3 + 1))
    else
      some (Sum.inr ())

/-- slices.Index[[]int,int] -/
def m_slices_Index_i (p1 : List (Int)) (p2 : Int) : Option (Int) :=
  bd (m_slices_Index_i_L1 p1 p2 FU 0) fun x4 =>
  sm x4 (fun x5 =>
    some x5) (fun x6 =>
    some (-1))

/-- slices.Contains[[]int,int] -/
def m_slices_Contains_i (p1 : List (Int)) (p2 : Int) : Option (Bool) :=
  bd (m_slices_Index_i p1 p2) fun x3 =>
  some (decide (0 ≤ x3))

/-- loop.example/namedflags/impl.GreatestArms$2 -/
def m_impl_GreatestArms_2_ll (p1 : Int) (p2 : Int) (p3 : Int) (p4 : List (Int)) : Option (Bool) :=
  bd (m_impl_Arm_matches p2 p3 p1) fun x5 =>
  bif x5 then
    bd (m_slices_Contains_i p4 p1) fun x6 =>
    some (!x6)
  else
    some false

def m_slices_IndexFunc_i_GreatestArms_2_lli_L1 (p1 : List (Int)) (p2 : Int) (p3 : Int) (p4 : List (Int)) : Nat → Int → Option (Int ⊕ Unit)
  | 0, _ => none
  | fu + 1, v5 =>
    bif decide (v5 < (p1.length : Int)) then
      gd (0 ≤ v5 ∧ v5 < (p1.length : Int)) <|
      bd (m_impl_GreatestArms_2_ll (gt p1 v5) p2 p3 p4) fun x6 =>
      bif x6 then
        some (Sum.inl v5)
      else
        m_slices_IndexFunc_i_GreatestArms_2_lli_L1 p1 p2 p3 p4 fu (IntKind.wrap .i64 (v5 + 1))
    else
      some (Sum.inr ())

/-- slices.IndexFunc[[]int,int] -/
def m_slices_IndexFunc_i_GreatestArms_2_lli (p1 : List (Int)) (p2 : Int) (p3 : Int) (p4 : List (Int)) : Option (Int) :=
  bd (m_slices_IndexFunc_i_GreatestArms_2_lli_L1 p1 p2 p3 p4 FU 0) fun x7 =>
  sm x7 (fun x8 =>
    some x8) (fun x9 =>
    some (-1))

/-- slices.ContainsFunc[[]int,int] -/
def m_slices_ContainsFunc_i_GreatestArms_2_lli (p1 : List (Int)) (p2 : Int) (p3 : Int) (p4 : List (Int)) : Option (Bool) :=
  bd (m_slices_IndexFunc_i_GreatestArms_2_lli p1 p2 p3 p4) fun x5 =>
  some (decide (0 ≤ x5))

/-- loop.example/namedflags/impl.GreatestArms$3 -/
def m_impl_GreatestArms_3_l (p1 : Int) (p2 : Int) (p3 : Int) (p4 : Int) : Option (Bool) :=
  bif (!(decide (p3 = p1) && (decide (p4 = p2) && true))) then
    bd (m_impl_Arm_covers p1 p2 p3 p4) fun x5 =>
    some x5
  else
    some false

def m_slices_IndexFunc_ii_GreatestArms_3_l_L1 (p1 : List (Int × Int)) (p2 : Int) (p3 : Int) : Nat → Int → Option (Int ⊕ Unit)
  | 0, _ => none
  | fu + 1, v4 =>
    bif decide (v4 < (p1.length : Int)) then
      gd (0 ≤ v4 ∧ v4 < (p1.length : Int)) <|
      bd (m_impl_GreatestArms_3_l ((gt p1 v4).1) ((gt p1 v4).2) p2 p3) fun x5 =>
      bif x5 then
        some (Sum.inl v4)
      else
        m_slices_IndexFunc_ii_GreatestArms_3_l_L1 p1 p2 p3 fu (IntKind.wrap .i64 (v4 + 1))
    else
      some (Sum.inr ())

/-- slices.IndexFunc[[]loop.example/namedflags/impl.Arm,loop.example/namedflags/impl.Arm] -/
def m_slices_IndexFunc_ii_GreatestArms_3_l (p1 : List (Int × Int)) (p2 : Int) (p3 : Int) : Option (Int) :=
  bd (m_slices_IndexFunc_ii_GreatestArms_3_l_L1 p1 p2 p3 FU 0) fun x6 =>
  sm x6 (fun x7 =>
    some x7) (fun x8 =>
    some (-1))

/-- slices.ContainsFunc[[]loop.example/namedflags/impl.Arm,loop.example/namedflags/impl.Arm] -/
def m_slices_ContainsFunc_ii_GreatestArms_3_l (p1 : List (Int × Int)) (p2 : Int) (p3 : Int) : Option (Bool) :=
  bd (m_slices_IndexFunc_ii_GreatestArms_3_l p1 p2 p3) fun x4 =>
  some (decide (0 ≤ x4))

/-- slices.Clip[[]loop.example/namedflags/impl.Arm,loop.example/namedflags/impl.Arm] -/
def m_slices_Clip_ii (p1 : List (Int × Int)) : Option (Unit) :=
  gd (0 ≤ (0 : Int) ∧ (0 : Int) ≤ (p1.length : Int) ∧ (p1.length : Int) ≤ (p1.length : Int) ∧ (p1.length : Int) ≤ (p1.length : Int)) <|
  some ()

/-- slices.Clip[[]loop.example/namedflags/impl.Arm,loop.example/namedflags/impl.Arm] -/
def m_slices_Clip_hii (p1 : List (Int × Int)) : Option (Unit) :=
  some ()

def m_impl_GreatestArms_L2 (p1 : List (ByteArray × Int)) (p2 : Int) (p3 : List (Int)) (x9 : List (Int)) (v11 : Int) : Nat → (List (Int × Int)) → Int → Option (List (Int × Int))
  | 0, _, _ => none
  | fu + 1, v12, v13 =>
    bif decide (v13 < (x9.length : Int)) then
      gd (0 ≤ v13 ∧ v13 < (x9.length : Int)) <|
      bd (m_impl_Arm_ok (gt x9 v11) (gt x9 v13) p1 p2) fun x14 =>
      bif x14 then
        bd (m_slices_ContainsFunc_i_GreatestArms_2_lli x9 (gt x9 v11) (gt x9 v13) p3) fun x15 =>
        bif (!x15) then
          gd (v12.length + ([((gt x9 v11), (gt x9 v13))] : List (Int × Int)).length ≤ 1099511627776) <|
          m_impl_GreatestArms_L2 p1 p2 p3 x9 v11 fu (v12 ++ ([((gt x9 v11), (gt x9 v13))] : List (Int × Int))) (IntKind.wrap .i64 (v13 + 1))
        else
          m_impl_GreatestArms_L2 p1 p2 p3 x9 v11 fu v12 (IntKind.wrap .i64 (v13 + 1))
      else
        m_impl_GreatestArms_L2 p1 p2 p3 x9 v11 fu v12 (IntKind.wrap .i64 (v13 + 1))
    else
      some v12

def m_impl_GreatestArms_L1 (p1 : List (ByteArray × Int)) (p2 : Int) (p3 : List (Int)) (x9 : List (Int)) : Nat → (List (Int × Int)) → Int → Option (List (Int × Int))
  | 0, _, _ => none
  | fu + 1, v10, v11 =>
    bif decide (v11 < (x9.length : Int)) then
      gd (0 ≤ v11 ∧ v11 < (x9.length : Int)) <|
      bd (m_impl_GreatestArms_L2 p1 p2 p3 x9 v11 FU v10 0) fun x16 =>
      m_impl_GreatestArms_L1 p1 p2 p3 x9 fu x16 (IntKind.wrap .i64 (v11 + 1))
    else
      some v10

def m_impl_GreatestArms_L3 (x17 : List (Int × Int)) : Nat → (List (Int × Int)) → Int → Option (List (Int × Int))
  | 0, _, _ => none
  | fu + 1, v18, v19 =>
    bif decide (v19 < (x17.length : Int)) then
      gd (0 ≤ v19 ∧ v19 < (x17.length : Int)) <|
      bd (m_slices_ContainsFunc_ii_GreatestArms_3_l x17 ((gt x17 v19).1) ((gt x17 v19).2)) fun x20 =>
      bif (!x20) then
        gd (v18.length + ([((gt x17 v19).1, (gt x17 v19).2)] : List (Int × Int)).length ≤ 1099511627776) <|
        m_impl_GreatestArms_L3 x17 fu (v18 ++ ([((gt x17 v19).1, (gt x17 v19).2)] : List (Int × Int))) (IntKind.wrap .i64 (v19 + 1))
      else
        m_impl_GreatestArms_L3 x17 fu v18 (IntKind.wrap .i64 (v19 + 1))
    else
      some v18

/-- loop.example/namedflags/impl.GreatestArms -/
def m_impl_GreatestArms (p1 : List (ByteArray × Int)) (p2 : Int) (p3 : List (Int)) : Option (List (Int × Int)) :=
  bd (m_impl_ValidFlag p1 p2) fun x4 =>
  bif (!x4) then
    some ([] : List (Int × Int))
  else
    bd (m_impl_Flag_mask p1 p2) fun x5 =>
    bd (m_math_bits_OnesCount (IntKind.wrap .u64 (x5))) fun x6 =>
    bif decide (6 < x6) then
      some ([] : List (Int × Int))
    else
      bif decide (64 < (p3.length : Int)) then
        some ([] : List (Int × Int))
      else
        bd (m_slices_ContainsFunc_i_GreatestArms_1_lsi p3 p1 p2) fun x7 =>
        bif x7 then
          some ([] : List (Int × Int))
        else
          bd (m_impl_Flag_mask p1 p2) fun x8 =>
          bd (m_impl_inside x8) fun x9 =>
          bd (m_impl_GreatestArms_L1 p1 p2 p3 x9 FU ([] : List (Int × Int)) 0) fun x17 =>
          bd (m_impl_GreatestArms_L3 x17 FU ([] : List (Int × Int)) 0) fun x21 =>
          bd (m_slices_Clip_hii x21) fun x22 =>
          some x21

def m_spec_hasInt_L1 (p1 : List (Int)) (p2 : Int) : Nat → Int → Option (Unit ⊕ Unit)
  | 0, _ => none
  | fu + 1, v3 =>
    bif decide (v3 < (p1.length : Int)) then
      gd (0 ≤ v3 ∧ v3 < (p1.length : Int)) <|
      bif decide ((gt p1 v3) = p2) then
        some (Sum.inl ())
      else
        m_spec_hasInt_L1 p1 p2 fu (IntKind.wrap .i64 (v3 + 1))
    else
      some (Sum.inr ())

/-- loop.example/namedflags/spec.hasInt -/
def m_spec_hasInt (p1 : List (Int)) (p2 : Int) : Option (Bool) :=
  bd (m_spec_hasInt_L1 p1 p2 FU 0) fun x4 =>
  sm x4 (fun x5 =>
    some true) (fun x6 =>
    some false)

def m_spec_allIn_L1 (p1 : List (Int)) (p2 : List (Int)) (p3 : Int) (p4 : Int) : Nat → Int → Option (Unit ⊕ Unit)
  | 0, _ => none
  | fu + 1, v5 =>
    bif decide (v5 < (p1.length : Int)) then
      gd (0 ≤ v5 ∧ v5 < (p1.length : Int)) <|
      bd (m_spec_matches p3 p4 (gt p1 v5)) fun x6 =>
      bif x6 then
        bd (m_spec_hasInt p2 (gt p1 v5)) fun x7 =>
        bif (!x7) then
          some (Sum.inl ())
        else
          m_spec_allIn_L1 p1 p2 p3 p4 fu (IntKind.wrap .i64 (v5 + 1))
      else
        m_spec_allIn_L1 p1 p2 p3 p4 fu (IntKind.wrap .i64 (v5 + 1))
    else
      some (Sum.inr ())

/-- loop.example/namedflags/spec.allIn -/
def m_spec_allIn (p1 : List (Int)) (p2 : List (Int)) (p3 : Int) (p4 : Int) : Option (Bool) :=
  bd (m_spec_allIn_L1 p1 p2 p3 p4 FU 0) fun x8 =>
  sm x8 (fun x9 =>
    some false) (fun x10 =>
    some true)

def m_spec_armsIn_L2 (p1 : Int) (p2 : List (Int)) (x3 : List (Int)) (v5 : Int) (x7 : List (Int)) : Nat → (List (Int × Int)) → Int → Option (List (Int × Int))
  | 0, _, _ => none
  | fu + 1, v8, v9 =>
    bif decide (v9 < (x7.length : Int)) then
      gd (0 ≤ v5 ∧ v5 < (x3.length : Int)) <|
      gd (0 ≤ v9 ∧ v9 < (x7.length : Int)) <|
      bd (m_spec_allIn x3 p2 (gt x3 v5) (gt x7 v9)) fun x10 =>
      bif x10 then
        gd (v8.length + ([((gt x3 v5), (gt x7 v9))] : List (Int × Int)).length ≤ 1099511627776) <|
        m_spec_armsIn_L2 p1 p2 x3 v5 x7 fu (v8 ++ ([((gt x3 v5), (gt x7 v9))] : List (Int × Int))) (IntKind.wrap .i64 (v9 + 1))
      else
        m_spec_armsIn_L2 p1 p2 x3 v5 x7 fu v8 (IntKind.wrap .i64 (v9 + 1))
    else
      some v8

def m_spec_armsIn_L1 (p1 : Int) (p2 : List (Int)) (x3 : List (Int)) : Nat → (List (Int × Int)) → Int → Option (List (Int × Int))
  | 0, _, _ => none
  | fu + 1, v4, v5 =>
    bif decide (v5 < (x3.length : Int)) then
      gd (0 ≤ v5 ∧ v5 < (x3.length : Int)) <|
      bd (m_spec_less p1 (gt x3 v5)) fun x6 =>
      bd (m_spec_partsIn x6) fun x7 =>
      bd (m_spec_armsIn_L2 p1 p2 x3 v5 x7 FU v4 0) fun x11 =>
      m_spec_armsIn_L1 p1 p2 x3 fu x11 (IntKind.wrap .i64 (v5 + 1))
    else
      some v4

/-- loop.example/namedflags/spec.armsIn -/
def m_spec_armsIn (p1 : Int) (p2 : List (Int)) : Option (List (Int × Int)) :=
  bd (m_spec_partsIn p1) fun x3 =>
  bd (m_spec_armsIn_L1 p1 p2 x3 FU ([] : List (Int × Int)) 0) fun x12 =>
  some x12

/-- loop.example/namedflags/spec.covers -/
def m_spec_covers (p1 : Int) (p2 : Int) (p3 : Int) (p4 : Int) : Option (Bool) :=
  bd (m_spec_less p1 p3) fun x5 =>
  bif decide (x5 = 0) then
    bd (m_spec_less p2 p4) fun x6 =>
    some (decide (x6 = 0))
  else
    some false

def m_spec_GreatestArms_L1 (p3 : List (Int)) (x4 : Int) : Nat → Int → Option (Unit ⊕ Unit)
  | 0, _ => none
  | fu + 1, v7 =>
    bif decide (v7 < (p3.length : Int)) then
      gd (0 ≤ v7 ∧ v7 < (p3.length : Int)) <|
      bd (m_spec_inRange (gt p3 v7) 0 4095) fun x8 =>
      bif (!x8) then
        some (Sum.inl ())
      else
        bd (m_spec_less (gt p3 v7) x4) fun x9 =>
        bif decide (0 < x9) then
          some (Sum.inl ())
        else
          m_spec_GreatestArms_L1 p3 x4 fu (IntKind.wrap .i64 (v7 + 1))
    else
      some (Sum.inr ())

def m_spec_GreatestArms_L3 (x13 : List (Int × Int)) (v14 : List (Int × Int)) (v15 : Int) : Nat → Bool → Int → Option (Bool)
  | 0, _, _ => none
  | fu + 1, v16, v17 =>
    bif decide (v17 < (x13.length : Int)) then
      bif v16 then
        m_spec_GreatestArms_L3 x13 v14 v15 fu true (IntKind.wrap .i64 (v17 + 1))
      else
        bif (!decide (v17 = v15)) then
          gd (0 ≤ v17 ∧ v17 < (x13.length : Int)) <|
          gd (0 ≤ v15 ∧ v15 < (x13.length : Int)) <|
          bd (m_spec_covers ((gt x13 v17).1) ((gt x13 v17).2) ((gt x13 v15).1) ((gt x13 v15).2)) fun x18 =>
          m_spec_GreatestArms_L3 x13 v14 v15 fu x18 (IntKind.wrap .i64 (v17 + 1))
        else
          m_spec_GreatestArms_L3 x13 v14 v15 fu false (IntKind.wrap .i64 (v17 + 1))
    else
      some v16

def m_spec_GreatestArms_L2 (x13 : List (Int × Int)) : Nat → (List (Int × Int)) → Int → Option (List (Int × Int))
  | 0, _, _ => none
  | fu + 1, v14, v15 =>
    bif decide (v15 < (x13.length : Int)) then
      bd (m_spec_GreatestArms_L3 x13 v14 v15 FU false 0) fun x19 =>
      bif (!x19) then
        gd (0 ≤ v15 ∧ v15 < (x13.length : Int)) <|
        gd (v14.length + ([((gt x13 v15).1, (gt x13 v15).2)] : List (Int × Int)).length ≤ 1099511627776) <|
        m_spec_GreatestArms_L2 x13 fu (v14 ++ ([((gt x13 v15).1, (gt x13 v15).2)] : List (Int × Int))) (IntKind.wrap .i64 (v15 + 1))
      else
        m_spec_GreatestArms_L2 x13 fu v14 (IntKind.wrap .i64 (v15 + 1))
    else
      some v14

/-- loop.example/namedflags/spec.GreatestArms -/
def m_spec_GreatestArms (p1 : List (ByteArray × Int)) (p2 : Int) (p3 : List (Int)) : Option (List (Int × Int)) :=
  bd (m_spec_mask p1) fun x4 =>
  bd (m_spec_validFlag p1 p2) fun x5 =>
  bif (!x5) then
    some ([] : List (Int × Int))
  else
    bd (m_spec_bitCount x4) fun x6 =>
    bif decide (6 < x6) then
      some ([] : List (Int × Int))
    else
      bif decide (64 < (p3.length : Int)) then
        some ([] : List (Int × Int))
      else
        bd (m_spec_GreatestArms_L1 p3 x4 FU 0) fun x10 =>
        sm x10 (fun x11 =>
          some ([] : List (Int × Int))) (fun x12 =>
          bd (m_spec_armsIn x4 p3) fun x13 =>
          bd (m_spec_GreatestArms_L2 x13 FU ([] : List (Int × Int)) 0) fun x20 =>
          some x20)

def m_laws_toIntS_L1 (p1 : List (Int)) : Nat → (List (Int)) → Int → Option (List (Int))
  | 0, _, _ => none
  | fu + 1, v2, v3 =>
    bif decide (v3 < (p1.length : Int)) then
      gd (0 ≤ v3 ∧ v3 < (p1.length : Int)) <|
      gd (0 ≤ v3 ∧ v3 < (v2.length : Int)) <|
      m_laws_toIntS_L1 p1 fu (v2.set (0 + v3.toNat) (gt p1 v3)) (IntKind.wrap .i64 (v3 + 1))
    else
      some v2

/-- loop.example/namedflags/laws.toIntS -/
def m_laws_toIntS (p1 : List (Int)) : Option (List (Int)) :=
  gd (0 ≤ (p1.length : Int) ∧ (p1.length : Int) = (p1.length : Int) ∧ (8 : Int) * (p1.length : Int) ≤ 281474976710656 ∧ (p1.length : Int) ≤ 9223372036854775807) <|
  bd (m_laws_toIntS_L1 p1 FU (List.replicate (p1.length : Int).toNat (0 : Int)) 0) fun x4 =>
  some x4

def m_laws_markIntS_h_L1  : Nat → Int → Int → (List (Int)) → Option (Int × List (Int))
  | 0, _, _, _ => none
  | fu + 1, v3, v4, v5 =>
    bif decide (v4 < (v5.length : Int)) then
      gd (0 ≤ v4 ∧ v4 < (v5.length : Int)) <|
      m_laws_markIntS_h_L1  fu (IntKind.wrap .i64 (v3 + 1)) (IntKind.wrap .i64 (v4 + 1)) (v5.set (0 + v4.toNat) v3)
    else
      some (v3, v5)

/-- loop.example/namedflags/laws.markIntS -/
def m_laws_markIntS_h (p1 : Int) (p2 : List (Int)) : Option (Int × List (Int)) :=
  bd (m_laws_markIntS_h_L1 FU p1 0 p2) fun x6 =>
  some (x6.1, x6.2)

def m_laws_heldArmS_L1 (p1 : List (Int × Int)) : Nat → Int → Int → Option (Unit ⊕ Int)
  | 0, _, _ => none
  | fu + 1, v3, v4 =>
    bif decide (v4 < (p1.length : Int)) then
      gd (0 ≤ v4 ∧ v4 < (p1.length : Int)) <|
      bif (!decide (((gt p1 v4).1) = v3)) then
        some (Sum.inl ())
      else
        bif (!decide (((gt p1 v4).2) = (IntKind.wrap .i64 (v3 + 1)))) then
          some (Sum.inl ())
        else
          m_laws_heldArmS_L1 p1 fu (IntKind.wrap .i64 ((IntKind.wrap .i64 (v3 + 1)) + 1)) (IntKind.wrap .i64 (v4 + 1))
    else
      some (Sum.inr v3)

/-- loop.example/namedflags/laws.heldArmS -/
def m_laws_heldArmS (p1 : List (Int × Int)) (p2 : Int) : Option (Int) :=
  bd (m_laws_heldArmS_L1 p1 FU p2 0) fun x5 =>
  sm x5 (fun x6 =>
    some (-1)) (fun x7 =>
    some x7)

/-- loop.example/namedflags/laws.FnExactGreatestArms -/
def m_laws_FnExactGreatestArms (p1 : List (ByteArray × Int)) (p2 : Int) (p3 : List (Int)) : Option (Bool) :=
  bif decide (1048576 < (p3.length : Int)) then
    some true
  else
    bd (m_laws_szFlag p1 p2 1048576) fun x4 =>
    bif decide (x4 < 0) then
      some true
    else
      bd (m_laws_toFlag p1 p2) fun x5 =>
      bd (m_laws_toIntS p3) fun x6 =>
      bd (m_spec_GreatestArms x5 p2 x6) fun x7 =>
      bd (m_laws_toFlag p1 p2) fun x8 =>
      bd (m_laws_toIntS p3) fun x9 =>
      bd (m_impl_GreatestArms x8 p2 x9) fun x10 =>
      bd (m_laws_eqArmS x10 x7) fun x11 =>
      bif (!x11) then
        some false
      else
        bd (m_laws_toFlag p1 p2) fun x12 =>
        bd (m_laws_eqFlag x8 p2 x12 p2) fun x13 =>
        bif (!x13) then
          some false
        else
          bd (m_laws_toIntS p3) fun x14 =>
          bd (m_laws_eqIntS x9 x14) fun x15 =>
          bif (!x15) then
            some false
          else
            bd (m_laws_markFlag_h p2 1 x8) fun x16 =>
            gd (x16.2.length = x8.length) <|
            bd (m_laws_markIntS_h x16.1 x9) fun x17 =>
            gd (x17.2.length = x9.length) <|
            bif decide (x17.1 < 0) then
              some false
            else
              bd (m_laws_eqArmS x10 x7) fun x18 =>
              bif (!x18) then
                some false
              else
                bd (m_laws_markArmS_h 1 x10) fun x19 =>
                gd (x19.2.length = x10.length) <|
                bd (m_laws_heldArmS x19.2 1) fun x20 =>
                bif decide (x20 < 0) then
                  some false
                else
                  bif (!decide (x20 = x19.1)) then
                    some false
                  else
                    bd (m_laws_toFlag p1 p2) fun x21 =>
                    bd (m_laws_toIntS p3) fun x22 =>
                    bd (m_impl_GreatestArms x21 p2 x22) fun x23 =>
                    bd (m_laws_eqArmS x23 x7) fun x24 =>
                    bif (!x24) then
                      some false
                    else
                      bd (m_laws_heldArmS x19.2 1) fun x25 =>
                      bif decide (x25 < 0) then
                        some false
                      else
                        bif (!decide (x25 = x19.1)) then
                          some false
                        else
                          some true

end Go.Eng

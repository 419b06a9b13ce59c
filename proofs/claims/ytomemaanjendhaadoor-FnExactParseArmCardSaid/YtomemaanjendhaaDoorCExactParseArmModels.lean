/- What is said here: nothing is proved. A model of each function, printed by a program out of the translated code. -/
import Derived.Test.YtomemaanjendhaaDoorCExactParseArmEng27
set_option linter.unusedVariables false
set_option linter.unusedSimpArgs false
namespace Go.Eng
open Go

def enc_s (x : ByteArray) : List Value := [.string x]

def enc_si (x : ByteArray × Int) : List Value := [.string x.1, .int .i64 x.2]

def FU : Nat := 4611686018427387904

def bstr (ns : List Int) : ByteArray := ns.foldl (fun r n => r.push (UInt8.ofNat n.toNat)) ByteArray.empty

/-- (*loop.example/namedflags/spec.reader).pick -/
def m_spec_reader_pick (p1 : Int) (p2 : List (Int)) (p3 : Int) : Option (Int) :=
  bif decide (p1 < 1) then
    some 0
  else
    bif decide ((p2.length : Int) = 0) then
      some 0
    else
      nm (decide ((IntKind.wrap .i64 ((IntKind.wrap .i64 (p3 + 1)) - 1)) < (p2.length : Int))) fun v4 =>
      bif v4 then
        gd (0 ≤ (IntKind.wrap .i64 ((IntKind.wrap .i64 (p3 + 1)) - 1)) ∧ (IntKind.wrap .i64 ((IntKind.wrap .i64 (p3 + 1)) - 1)) < (p2.length : Int)) <|
        nm ((gt p2 (IntKind.wrap .i64 ((IntKind.wrap .i64 (p3 + 1)) - 1)))) fun v5 =>
        gd (p1 ≠ 0) <|
        some (Int.tmod (IntKind.wrap .i64 (v5)) p1)
      else
        gd ((p2.length : Int) ≠ 0) <|
        nm (Int.tmod (IntKind.wrap .i64 ((IntKind.wrap .i64 (p3 + 1)) - 1)) (p2.length : Int)) fun v6 =>
        gd (0 ≤ v6 ∧ v6 < (p2.length : Int)) <|
        nm (IntKind.wrap .i64 ((IntKind.wrap .i64 ((IntKind.wrap .i64 (p3 + 1)) - 1)) * 7)) fun v7 =>
        gd (0 ≤ (Int.tmod (IntKind.wrap .i64 (v7 + 3)) (p2.length : Int)) ∧ (Int.tmod (IntKind.wrap .i64 (v7 + 3)) (p2.length : Int)) < (p2.length : Int)) <|
        nm ((gt p2 (Int.tmod (IntKind.wrap .i64 (v7 + 3)) (p2.length : Int)))) fun v8 =>
        nm (IntKind.wrap .i64 ((IntKind.wrap .i64 ((IntKind.wrap .i64 ((gt p2 v6))) * 131)) + (IntKind.wrap .i64 ((IntKind.wrap .i64 (v8)) * 1117)))) fun v9 =>
        nm (IntKind.wrap .i64 ((IntKind.wrap .i64 ((IntKind.wrap .i64 (p3 + 1)) - 1)) * 29)) fun v10 =>
        gd ((p2.length : Int) ≠ 0 ∧ IntKind.wrap .i64 (Int.tdiv (IntKind.wrap .i64 ((IntKind.wrap .i64 (p3 + 1)) - 1)) (p2.length : Int)) = Int.tdiv (IntKind.wrap .i64 ((IntKind.wrap .i64 (p3 + 1)) - 1)) (p2.length : Int)) <|
        nm (Int.tdiv (IntKind.wrap .i64 ((IntKind.wrap .i64 (p3 + 1)) - 1)) (p2.length : Int)) fun v11 =>
        nm (IntKind.wrap .i64 ((IntKind.wrap .i64 (v9 + v10)) + (IntKind.wrap .i64 (v11 * 53)))) fun v12 =>
        gd ((64 : Int) ≠ 0 ∧ IntKind.wrap .i64 (Int.tdiv v12 64) = Int.tdiv v12 64) <|
        gd (p1 ≠ 0) <|
        some (Int.tmod (Go.bits .xor .i64 v12 (Int.tdiv v12 64)) p1)

/-- (*loop.example/namedflags/spec.reader).one -/
def m_spec_reader_one (p1 : List (Int)) (p2 : List (Int)) (p3 : Int) : Option (Int) :=
  bd (m_spec_reader_pick (p1.length : Int) p2 p3) fun x4 =>
  gd (0 ≤ x4 ∧ x4 < (p1.length : Int)) <|
  some (gt p1 x4)

def m_spec_indexOf_L1 (p1 : List (ByteArray × Int)) (p2 : ByteArray) : Nat → Int → Option (Int ⊕ Unit)
  | 0, _ => none
  | fu + 1, v3 =>
    bif decide (v3 < (p1.length : Int)) then
      gd (0 ≤ v3 ∧ v3 < (p1.length : Int)) <|
      bif decide (((gt p1 v3).1) = p2) then
        some (Sum.inl v3)
      else
        m_spec_indexOf_L1 p1 p2 fu (IntKind.wrap .i64 (v3 + 1))
    else
      some (Sum.inr ())

/-- loop.example/namedflags/spec.indexOf -/
def m_spec_indexOf (p1 : List (ByteArray × Int)) (p2 : ByteArray) : Option (Int) :=
  bd (m_spec_indexOf_L1 p1 p2 FU 0) fun x4 =>
  sm x4 (fun x5 =>
    some x5) (fun x6 =>
    some (-1))

def m_spec_valueAt_L1 (p1 : List (ByteArray × Int)) (p2 : Int) : Nat → Int → Option (Int ⊕ Unit)
  | 0, _ => none
  | fu + 1, v3 =>
    bif decide (v3 < (p1.length : Int)) then
      gd (0 ≤ v3 ∧ v3 < (p1.length : Int)) <|
      bif decide (((gt p1 v3).2) = p2) then
        some (Sum.inl v3)
      else
        m_spec_valueAt_L1 p1 p2 fu (IntKind.wrap .i64 (v3 + 1))
    else
      some (Sum.inr ())

/-- loop.example/namedflags/spec.valueAt -/
def m_spec_valueAt (p1 : List (ByteArray × Int)) (p2 : Int) : Option (Int) :=
  bd (m_spec_valueAt_L1 p1 p2 FU 0) fun x4 =>
  sm x4 (fun x5 =>
    some x5) (fun x6 =>
    some (-1))

def m_spec_singles_L1 (p1 : List (ByteArray × Int)) : Nat → (List (ByteArray × Int)) → Int → Option (List (ByteArray × Int))
  | 0, _, _ => none
  | fu + 1, v2, v3 =>
    bif decide (v3 ≤ 4095) then
      bd (m_spec_valueAt p1 v3) fun x4 =>
      bif decide (0 ≤ x4) then
        gd (0 ≤ x4 ∧ x4 < (p1.length : Int)) <|
        gd (v2.length + ([((gt p1 x4).1, (gt p1 x4).2)] : List (ByteArray × Int)).length ≤ 1099511627776) <|
        m_spec_singles_L1 p1 fu (v2 ++ ([((gt p1 x4).1, (gt p1 x4).2)] : List (ByteArray × Int))) (IntKind.wrap .i64 (v3 * 2))
      else
        m_spec_singles_L1 p1 fu v2 (IntKind.wrap .i64 (v3 * 2))
    else
      some v2

/-- loop.example/namedflags/spec.singles -/
def m_spec_singles (p1 : List (ByteArray × Int)) : Option (List (ByteArray × Int)) :=
  bd (m_spec_singles_L1 p1 FU ([] : List (ByteArray × Int)) 1) fun x5 =>
  some x5

/-- loop.example/namedflags/impl.in -/
def m_impl_in (p1 : Int) (p2 : Int) (p3 : Int) : Option (Bool) :=
  bif decide (p2 ≤ p1) then
    some (decide (p1 ≤ p3))
  else
    some false

def m_impl_ValidName_L1 (p1 : ByteArray) : Nat → Int → Option (Unit ⊕ Unit)
  | 0, _ => none
  | fu + 1, v2 =>
    bif decide (v2 < (p1.size : Int)) then
      gd (0 ≤ v2 ∧ v2 < (p1.size : Int)) <|
      bif decide ((byteAt p1 v2.toNat) < 97) then
        some (Sum.inl ())
      else
        bif decide (122 < (byteAt p1 v2.toNat)) then
          some (Sum.inl ())
        else
          m_impl_ValidName_L1 p1 fu (IntKind.wrap .i64 (v2 + 1))
    else
      some (Sum.inr ())

/-- loop.example/namedflags/impl.ValidName -/
def m_impl_ValidName (p1 : ByteArray) : Option (Bool) :=
  bd (m_impl_ValidName_L1 p1 FU 0) fun x3 =>
  sm x3 (fun x4 =>
    some false) (fun x5 =>
    bd (m_impl_in (p1.size : Int) 1 6) fun x6 =>
    some x6)

/-- loop.example/namedflags/impl.named$1 -/
def m_impl_named_1_l (p1 : ByteArray) (p2 : Int) (p3 : ByteArray) : Option (Unit) :=
  some ()

def m_slices_IndexFunc_si_named_1_l_L1 (p1 : List (ByteArray × Int)) (p2 : ByteArray) : Nat → Int → Option (Int ⊕ Unit)
  | 0, _ => none
  | fu + 1, v3 =>
    bif decide (v3 < (p1.length : Int)) then
      gd (0 ≤ v3 ∧ v3 < (p1.length : Int)) <|
      bd (m_impl_named_1_l ((gt p1 v3).1) ((gt p1 v3).2) p2) fun x4 =>
      bif decide (((gt p1 v3).1) = p2) then
        some (Sum.inl v3)
      else
        m_slices_IndexFunc_si_named_1_l_L1 p1 p2 fu (IntKind.wrap .i64 (v3 + 1))
    else
      some (Sum.inr ())

/-- slices.IndexFunc[[]loop.example/namedflags/impl.Def,loop.example/namedflags/impl.Def] -/
def m_slices_IndexFunc_si_named_1_l (p1 : List (ByteArray × Int)) (p2 : ByteArray) : Option (Int) :=
  bd (m_slices_IndexFunc_si_named_1_l_L1 p1 p2 FU 0) fun x5 =>
  sm x5 (fun x6 =>
    some x6) (fun x7 =>
    some (-1))

/-- loop.example/namedflags/impl.named -/
def m_impl_named (p1 : List (ByteArray × Int)) (p2 : ByteArray) : Option (Int) :=
  bd (m_slices_IndexFunc_si_named_1_l p1 p2) fun x3 =>
  some x3

def m_impl_defsValid_L1 (p1 : List (ByteArray × Int)) (p2 : Int) (p3 : Int) : Nat → Int → Option (Unit ⊕ Unit)
  | 0, _ => none
  | fu + 1, v4 =>
    bif decide (v4 < (p1.length : Int)) then
      gd (0 ≤ v4 ∧ v4 < (p1.length : Int)) <|
      bd (m_impl_ValidName ((gt p1 v4).1)) fun x5 =>
      bif (!x5) then
        some (Sum.inl ())
      else
        bd (m_impl_in ((gt p1 v4).2) p2 p3) fun x6 =>
        bif (!x6) then
          some (Sum.inl ())
        else
          gd (0 ≤ (0 : Int) ∧ (0 : Int) ≤ v4 ∧ v4 ≤ (p1.length : Int) ∧ (p1.length : Int) ≤ (p1.length : Int)) <|
          bd (m_impl_named (sub p1 (0 : Int) v4) ((gt p1 v4).1)) fun x7 =>
          bif decide (0 ≤ x7) then
            some (Sum.inl ())
          else
            m_impl_defsValid_L1 p1 p2 p3 fu (IntKind.wrap .i64 (v4 + 1))
    else
      some (Sum.inr ())

/-- loop.example/namedflags/impl.defsValid -/
def m_impl_defsValid (p1 : List (ByteArray × Int)) (p2 : Int) (p3 : Int) : Option (Bool) :=
  bd (m_impl_defsValid_L1 p1 p2 p3 FU 0) fun x8 =>
  sm x8 (fun x9 =>
    some false) (fun x10 =>
    some (decide ((p1.length : Int) ≤ 12)))

/-- loop.example/namedflags/impl.ValidFlag -/
def m_impl_ValidFlag (p1 : List (ByteArray × Int)) (p2 : Int) : Option (Bool) :=
  bd (m_impl_defsValid p1 0 4095) fun x3 =>
  bif x3 then
    bd (m_impl_in p2 0 3) fun x4 =>
    some x4
  else
    some false

def m_impl_Flag_mask_L1 (p1 : List (ByteArray × Int)) : Nat → Int → Int → Option (Int)
  | 0, _, _ => none
  | fu + 1, v3, v4 =>
    bif decide (v4 < (p1.length : Int)) then
      gd (0 ≤ v4 ∧ v4 < (p1.length : Int)) <|
      m_impl_Flag_mask_L1 p1 fu (Go.bits .or .i64 v3 ((gt p1 v4).2)) (IntKind.wrap .i64 (v4 + 1))
    else
      some v3

/-- (loop.example/namedflags/impl.Flag).mask -/
def m_impl_Flag_mask (p1 : List (ByteArray × Int)) (p2 : Int) : Option (Int) :=
  bd (m_impl_Flag_mask_L1 p1 FU 0 0) fun x5 =>
  some x5

/-- (loop.example/namedflags/impl.Arm).ok -/
def m_impl_Arm_ok (p1 : Int) (p2 : Int) (p3 : List (ByteArray × Int)) (p4 : Int) : Option (Bool) :=
  bd (m_impl_Flag_mask p3 p4) fun x5 =>
  nm (decide ((Go.bits .andNot .i64 (Go.bits .or .i64 p1 p2) x5) = 0)) fun v6 =>
  bif v6 then
    some (decide ((Go.bits .and .i64 p1 p2) = 0))
  else
    some false

def m_spec_both_L1 (p1 : Int) (p2 : Int) : Nat → Int → Int → Option (Int)
  | 0, _, _ => none
  | fu + 1, v3, v4 =>
    bif decide (v4 ≤ 4095) then
      gd (v4 ≠ 0 ∧ IntKind.wrap .i64 (Int.tdiv p1 v4) = Int.tdiv p1 v4) <|
      gd ((2 : Int) ≠ 0) <|
      bif decide ((Int.tmod (Int.tdiv p1 v4) 2) = 1) then
        gd (v4 ≠ 0 ∧ IntKind.wrap .i64 (Int.tdiv p2 v4) = Int.tdiv p2 v4) <|
        bif decide ((Int.tmod (Int.tdiv p2 v4) 2) = 1) then
          m_spec_both_L1 p1 p2 fu (IntKind.wrap .i64 (v3 + v4)) (IntKind.wrap .i64 (v4 * 2))
        else
          m_spec_both_L1 p1 p2 fu v3 (IntKind.wrap .i64 (v4 * 2))
      else
        m_spec_both_L1 p1 p2 fu v3 (IntKind.wrap .i64 (v4 * 2))
    else
      some v3

/-- loop.example/namedflags/spec.both -/
def m_spec_both (p1 : Int) (p2 : Int) : Option (Int) :=
  bd (m_spec_both_L1 p1 p2 FU 0 1) fun x5 =>
  some x5

/-- loop.example/namedflags/spec.either -/
def m_spec_either (p1 : Int) (p2 : Int) : Option (Int) :=
  bd (m_spec_both p1 p2) fun x3 =>
  some (IntKind.wrap .i64 ((IntKind.wrap .i64 (p1 + p2)) - x3))

def m_spec_mask_L1 (p1 : List (ByteArray × Int)) : Nat → Int → Int → Option (Int)
  | 0, _, _ => none
  | fu + 1, v2, v3 =>
    bif decide (v3 < (p1.length : Int)) then
      gd (0 ≤ v3 ∧ v3 < (p1.length : Int)) <|
      bd (m_spec_either v2 ((gt p1 v3).2)) fun x4 =>
      m_spec_mask_L1 p1 fu x4 (IntKind.wrap .i64 (v3 + 1))
    else
      some v2

/-- loop.example/namedflags/spec.mask -/
def m_spec_mask (p1 : List (ByteArray × Int)) : Option (Int) :=
  bd (m_spec_mask_L1 p1 FU 0 0) fun x5 =>
  some x5

/-- loop.example/namedflags/spec.inRange -/
def m_spec_inRange (p1 : Int) (p2 : Int) (p3 : Int) : Option (Bool) :=
  bif decide (p2 ≤ p1) then
    some (decide (p1 ≤ p3))
  else
    some false

def m_spec_validName_L1 (p1 : ByteArray) : Nat → Int → Option (Unit ⊕ Unit)
  | 0, _ => none
  | fu + 1, v2 =>
    bif decide (v2 < (p1.size : Int)) then
      gd (0 ≤ v2 ∧ v2 < (p1.size : Int)) <|
      bif decide ((byteAt p1 v2.toNat) < 97) then
        some (Sum.inl ())
      else
        bif decide (122 < (byteAt p1 v2.toNat)) then
          some (Sum.inl ())
        else
          m_spec_validName_L1 p1 fu (IntKind.wrap .i64 (v2 + 1))
    else
      some (Sum.inr ())

/-- loop.example/namedflags/spec.validName -/
def m_spec_validName (p1 : ByteArray) : Option (Bool) :=
  bd (m_spec_validName_L1 p1 FU 0) fun x3 =>
  sm x3 (fun x4 =>
    some false) (fun x5 =>
    bd (m_spec_inRange (p1.size : Int) 1 6) fun x6 =>
    some x6)

def m_spec_validDefs_L1 (p1 : List (ByteArray × Int)) (p2 : Int) (p3 : Int) : Nat → Int → Option (Unit ⊕ Unit)
  | 0, _ => none
  | fu + 1, v4 =>
    bif decide (v4 < (p1.length : Int)) then
      gd (0 ≤ v4 ∧ v4 < (p1.length : Int)) <|
      bd (m_spec_validName ((gt p1 v4).1)) fun x5 =>
      bif (!x5) then
        some (Sum.inl ())
      else
        bd (m_spec_inRange ((gt p1 v4).2) p2 p3) fun x6 =>
        bif (!x6) then
          some (Sum.inl ())
        else
          gd (0 ≤ (0 : Int) ∧ (0 : Int) ≤ v4 ∧ v4 ≤ (p1.length : Int) ∧ (p1.length : Int) ≤ (p1.length : Int)) <|
          bd (m_spec_indexOf (sub p1 (0 : Int) v4) ((gt p1 v4).1)) fun x7 =>
          bif decide (0 ≤ x7) then
            some (Sum.inl ())
          else
            m_spec_validDefs_L1 p1 p2 p3 fu (IntKind.wrap .i64 (v4 + 1))
    else
      some (Sum.inr ())

/-- loop.example/namedflags/spec.validDefs -/
def m_spec_validDefs (p1 : List (ByteArray × Int)) (p2 : Int) (p3 : Int) : Option (Bool) :=
  bd (m_spec_validDefs_L1 p1 p2 p3 FU 0) fun x8 =>
  sm x8 (fun x9 =>
    some false) (fun x10 =>
    some (decide ((p1.length : Int) ≤ 12)))

/-- loop.example/namedflags/spec.validFlag -/
def m_spec_validFlag (p1 : List (ByteArray × Int)) (p2 : Int) : Option (Bool) :=
  bd (m_spec_validDefs p1 0 4095) fun x3 =>
  bif x3 then
    bd (m_spec_inRange p2 0 3) fun x4 =>
    some x4
  else
    some false

/-- loop.example/namedflags/spec.less -/
def m_spec_less (p1 : Int) (p2 : Int) : Option (Int) :=
  bd (m_spec_both p1 p2) fun x3 =>
  some (IntKind.wrap .i64 (p1 - x3))

/-- loop.example/namedflags/spec.validArm -/
def m_spec_validArm (p1 : List (ByteArray × Int)) (p2 : Int) (p3 : Int) (p4 : Int) : Option (Bool) :=
  bd (m_spec_mask p1) fun x5 =>
  bd (m_spec_validFlag p1 p2) fun x6 =>
  bif x6 then
    bd (m_spec_inRange p3 0 4095) fun x7 =>
    bif x7 then
      bd (m_spec_inRange p4 0 4095) fun x8 =>
      bif x8 then
        bd (m_spec_less p3 x5) fun x9 =>
        bif decide (x9 = 0) then
          bd (m_spec_less p4 x5) fun x10 =>
          bif decide (x10 = 0) then
            bd (m_spec_both p3 p4) fun x11 =>
            some (decide (x11 = 0))
          else
            some false
        else
          some false
      else
        some false
    else
      some false
  else
    some false

def lstr_c9535661 : ByteArray := (ByteArray.mk #[0, 1, 2, 2, 3, 3, 3, 3, 4, 4, 4, 4, 4, 4, 4, 4, 5, 5, 5, 5, 5, 5, 5, 5, 5, 5, 5, 5, 5, 5, 5, 5, 6, 6, 6, 6, 6, 6, 6, 6, 6, 6, 6, 6, 6, 6, 6, 6, 6, 6, 6, 6, 6, 6, 6, 6, 6, 6, 6, 6, 6, 6, 6, 6, 7, 7, 7, 7, 7, 7, 7, 7, 7, 7, 7, 7, 7, 7, 7, 7, 7, 7, 7, 7, 7, 7, 7, 7, 7, 7, 7, 7, 7, 7, 7, 7, 7, 7, 7, 7, 7, 7, 7, 7, 7, 7, 7, 7, 7, 7, 7, 7, 7, 7, 7, 7, 7, 7, 7, 7, 7, 7, 7, 7, 7, 7, 7, 7, 8, 8, 8, 8, 8, 8, 8, 8, 8, 8, 8, 8, 8, 8, 8, 8, 8, 8, 8, 8, 8, 8, 8, 8, 8, 8, 8, 8, 8, 8, 8, 8, 8, 8, 8, 8, 8, 8, 8, 8, 8, 8, 8, 8, 8, 8, 8, 8, 8, 8, 8, 8, 8, 8, 8, 8, 8, 8, 8, 8, 8, 8, 8, 8, 8, 8, 8, 8, 8, 8, 8, 8, 8, 8, 8, 8, 8, 8, 8, 8, 8, 8, 8, 8, 8, 8, 8, 8, 8, 8, 8, 8, 8, 8, 8, 8, 8, 8, 8, 8, 8, 8, 8, 8, 8, 8, 8, 8, 8, 8, 8, 8, 8, 8, 8, 8, 8, 8, 8, 8, 8, 8, 8, 8, 8, 8, 8, 8])

/-- math/bits.Len64 -/
def m_math_bits_Len64 (p1 : Int) : Option (Int) :=
  bif decide (4294967296 ≤ p1) then
    gd (0 ≤ (32 : Int) ∧ (32 : Int) ≤ (IntKind.bits .u64 : Int)) <|
    bif decide (65536 ≤ (p1 / 2 ^ (32 : Int).toNat)) then
      gd (0 ≤ (16 : Int) ∧ (16 : Int) ≤ (IntKind.bits .u64 : Int)) <|
      nm (decide (256 ≤ ((p1 / 2 ^ (32 : Int).toNat) / 2 ^ (16 : Int).toNat))) fun v2 =>
      bif v2 then
        gd (0 ≤ (8 : Int) ∧ (8 : Int) ≤ (IntKind.bits .u64 : Int)) <|
        nm (((p1 / 2 ^ (32 : Int).toNat) / 2 ^ (16 : Int).toNat) / 2 ^ (8 : Int).toNat) fun v3 =>
        gd (0 ≤ (IntKind.wrap .u8 (v3)) ∧ (IntKind.wrap .u8 (v3)) < (lstr_c9535661.size : Int)) <|
        nm (IntKind.wrap .i64 (byteAt lstr_c9535661 (IntKind.wrap .u8 (v3)).toNat)) fun v4 =>
        nm (IntKind.wrap .i64 ((IntKind.wrap .i64 ((IntKind.wrap .i64 (32 + 16)) + 8)) + v4)) fun v5 =>
        some v5
      else
        nm (IntKind.wrap .u8 ((p1 / 2 ^ (32 : Int).toNat) / 2 ^ (16 : Int).toNat)) fun v6 =>
        gd (0 ≤ v6 ∧ v6 < (lstr_c9535661.size : Int)) <|
        nm (IntKind.wrap .i64 ((IntKind.wrap .i64 (32 + 16)) + (IntKind.wrap .i64 (byteAt lstr_c9535661 v6.toNat)))) fun v7 =>
        some v7
    else
      bif decide (256 ≤ (p1 / 2 ^ (32 : Int).toNat)) then
        gd (0 ≤ (8 : Int) ∧ (8 : Int) ≤ (IntKind.bits .u64 : Int)) <|
        nm (IntKind.wrap .u8 ((p1 / 2 ^ (32 : Int).toNat) / 2 ^ (8 : Int).toNat)) fun v8 =>
        gd (0 ≤ v8 ∧ v8 < (lstr_c9535661.size : Int)) <|
        nm (IntKind.wrap .i64 ((IntKind.wrap .i64 (32 + 8)) + (IntKind.wrap .i64 (byteAt lstr_c9535661 v8.toNat)))) fun v9 =>
        some v9
      else
        gd (0 ≤ (IntKind.wrap .u8 (p1 / 2 ^ (32 : Int).toNat)) ∧ (IntKind.wrap .u8 (p1 / 2 ^ (32 : Int).toNat)) < (lstr_c9535661.size : Int)) <|
        nm (byteAt lstr_c9535661 (IntKind.wrap .u8 (p1 / 2 ^ (32 : Int).toNat)).toNat) fun v10 =>
        some (IntKind.wrap .i64 (32 + (IntKind.wrap .i64 (v10))))
  else
    bif decide (65536 ≤ p1) then
      gd (0 ≤ (16 : Int) ∧ (16 : Int) ≤ (IntKind.bits .u64 : Int)) <|
      bif decide (256 ≤ (p1 / 2 ^ (16 : Int).toNat)) then
        gd (0 ≤ (8 : Int) ∧ (8 : Int) ≤ (IntKind.bits .u64 : Int)) <|
        nm (IntKind.wrap .u8 ((p1 / 2 ^ (16 : Int).toNat) / 2 ^ (8 : Int).toNat)) fun v11 =>
        gd (0 ≤ v11 ∧ v11 < (lstr_c9535661.size : Int)) <|
        nm (IntKind.wrap .i64 ((IntKind.wrap .i64 ((IntKind.wrap .i64 (0 + 16)) + 8)) + (IntKind.wrap .i64 (byteAt lstr_c9535661 v11.toNat)))) fun v12 =>
        some v12
      else
        gd (0 ≤ (IntKind.wrap .u8 (p1 / 2 ^ (16 : Int).toNat)) ∧ (IntKind.wrap .u8 (p1 / 2 ^ (16 : Int).toNat)) < (lstr_c9535661.size : Int)) <|
        nm (byteAt lstr_c9535661 (IntKind.wrap .u8 (p1 / 2 ^ (16 : Int).toNat)).toNat) fun v13 =>
        nm (IntKind.wrap .i64 ((IntKind.wrap .i64 (0 + 16)) + (IntKind.wrap .i64 (v13)))) fun v14 =>
        some v14
    else
      bif decide (256 ≤ p1) then
        gd (0 ≤ (8 : Int) ∧ (8 : Int) ≤ (IntKind.bits .u64 : Int)) <|
        gd (0 ≤ (IntKind.wrap .u8 (p1 / 2 ^ (8 : Int).toNat)) ∧ (IntKind.wrap .u8 (p1 / 2 ^ (8 : Int).toNat)) < (lstr_c9535661.size : Int)) <|
        nm (byteAt lstr_c9535661 (IntKind.wrap .u8 (p1 / 2 ^ (8 : Int).toNat)).toNat) fun v15 =>
        nm (IntKind.wrap .i64 ((IntKind.wrap .i64 (0 + 8)) + (IntKind.wrap .i64 (v15)))) fun v16 =>
        some v16
      else
        gd (0 ≤ (IntKind.wrap .u8 (p1)) ∧ (IntKind.wrap .u8 (p1)) < (lstr_c9535661.size : Int)) <|
        nm (IntKind.wrap .i64 (byteAt lstr_c9535661 (IntKind.wrap .u8 (p1)).toNat)) fun v17 =>
        some (IntKind.wrap .i64 (0 + v17))

/-- math/bits.Len -/
def m_math_bits_Len (p1 : Int) : Option (Int) :=
  bd (m_math_bits_Len64 p1) fun x2 =>
  some x2

/-- math/bits.OnesCount64 -/
def m_math_bits_OnesCount64 (p1 : Int) : Option (Int) :=
  gd (0 ≤ (1 : Int) ∧ (1 : Int) ≤ (IntKind.bits .u64 : Int)) <|
  nm (Go.bits .and .u64 (p1 / 2 ^ (1 : Int).toNat) 6148914691236517205) fun v2 =>
  nm (IntKind.wrap .u64 (v2 + (Go.bits .and .u64 p1 6148914691236517205))) fun v3 =>
  gd (0 ≤ (2 : Int) ∧ (2 : Int) ≤ (IntKind.bits .u64 : Int)) <|
  nm (Go.bits .and .u64 (v3 / 2 ^ (2 : Int).toNat) 3689348814741910323) fun v4 =>
  nm (IntKind.wrap .u64 (v4 + (Go.bits .and .u64 v3 3689348814741910323))) fun v5 =>
  gd (0 ≤ (4 : Int) ∧ (4 : Int) ≤ (IntKind.bits .u64 : Int)) <|
  nm (Go.bits .and .u64 (IntKind.wrap .u64 ((v5 / 2 ^ (4 : Int).toNat) + v5)) 1085102592571150095) fun v6 =>
  gd (0 ≤ (8 : Int) ∧ (8 : Int) ≤ (IntKind.bits .u64 : Int)) <|
  gd (0 ≤ (16 : Int) ∧ (16 : Int) ≤ (IntKind.bits .u64 : Int)) <|
  nm ((IntKind.wrap .u64 (v6 + (v6 / 2 ^ (8 : Int).toNat))) / 2 ^ (16 : Int).toNat) fun v7 =>
  nm (IntKind.wrap .u64 ((IntKind.wrap .u64 (v6 + (v6 / 2 ^ (8 : Int).toNat))) + v7)) fun v8 =>
  gd (0 ≤ (32 : Int) ∧ (32 : Int) ≤ (IntKind.bits .u64 : Int)) <|
  nm (IntKind.wrap .i64 (IntKind.wrap .u64 (v8 + (v8 / 2 ^ (32 : Int).toNat)))) fun v9 =>
  some (Go.bits .and .i64 v9 127)

/-- math/bits.OnesCount -/
def m_math_bits_OnesCount (p1 : Int) : Option (Int) :=
  bd (m_math_bits_OnesCount64 p1) fun x2 =>
  some x2

/-- loop.example/namedflags/laws.eqDef -/
def m_laws_eqDef (p1 : ByteArray) (p2 : Int) (p3 : ByteArray) (p4 : Int) : Option (Bool) :=
  bif (!decide (p1 = p3)) then
    some false
  else
    bif (!decide (p2 = p4)) then
      some false
    else
      some true

def m_laws_eqDefS_L1 (p1 : List (ByteArray × Int)) (p2 : List (ByteArray × Int)) : Nat → Int → Option (Unit ⊕ Unit)
  | 0, _ => none
  | fu + 1, v3 =>
    bif decide (v3 < (p1.length : Int)) then
      gd (0 ≤ v3 ∧ v3 < (p1.length : Int)) <|
      gd (0 ≤ v3 ∧ v3 < (p2.length : Int)) <|
      bd (m_laws_eqDef ((gt p1 v3).1) ((gt p1 v3).2) ((gt p2 v3).1) ((gt p2 v3).2)) fun x4 =>
      bif (!x4) then
        some (Sum.inl ())
      else
        m_laws_eqDefS_L1 p1 p2 fu (IntKind.wrap .i64 (v3 + 1))
    else
      some (Sum.inr ())

/-- loop.example/namedflags/laws.eqDefS -/
def m_laws_eqDefS (p1 : List (ByteArray × Int)) (p2 : List (ByteArray × Int)) : Option (Bool) :=
  bif (!decide ((p1.length : Int) = (p2.length : Int))) then
    some false
  else
    bd (m_laws_eqDefS_L1 p1 p2 FU 0) fun x5 =>
    sm x5 (fun x6 =>
      some false) (fun x7 =>
      some true)

/-- loop.example/namedflags/laws.eqFlag -/
def m_laws_eqFlag (p1 : List (ByteArray × Int)) (p2 : Int) (p3 : List (ByteArray × Int)) (p4 : Int) : Option (Bool) :=
  bd (m_laws_eqDefS p1 p3) fun x5 =>
  bif (!x5) then
    some false
  else
    bif (!decide (p2 = p4)) then
      some false
    else
      some true

/-- loop.example/namedflags/impl.valued$1 -/
def m_impl_valued_1_l (p1 : ByteArray) (p2 : Int) (p3 : Int) : Option (Unit) :=
  some ()

def m_slices_IndexFunc_si_valued_1_l_L1 (p1 : List (ByteArray × Int)) (p2 : Int) : Nat → Int → Option (Int ⊕ Unit)
  | 0, _ => none
  | fu + 1, v3 =>
    bif decide (v3 < (p1.length : Int)) then
      gd (0 ≤ v3 ∧ v3 < (p1.length : Int)) <|
      bd (m_impl_valued_1_l ((gt p1 v3).1) ((gt p1 v3).2) p2) fun x4 =>
      bif decide (((gt p1 v3).2) = p2) then
        some (Sum.inl v3)
      else
        m_slices_IndexFunc_si_valued_1_l_L1 p1 p2 fu (IntKind.wrap .i64 (v3 + 1))
    else
      some (Sum.inr ())

/-- slices.IndexFunc[[]loop.example/namedflags/impl.Def,loop.example/namedflags/impl.Def] -/
def m_slices_IndexFunc_si_valued_1_l (p1 : List (ByteArray × Int)) (p2 : Int) : Option (Int) :=
  bd (m_slices_IndexFunc_si_valued_1_l_L1 p1 p2 FU 0) fun x5 =>
  sm x5 (fun x6 =>
    some x6) (fun x7 =>
    some (-1))

/-- loop.example/namedflags/impl.valued -/
def m_impl_valued (p1 : List (ByteArray × Int)) (p2 : Int) : Option (Int) :=
  bd (m_slices_IndexFunc_si_valued_1_l p1 p2) fun x3 =>
  some x3

/-- loop.example/namedflags/impl.ValidArm -/
def m_impl_ValidArm (p1 : List (ByteArray × Int)) (p2 : Int) (p3 : Int) (p4 : Int) : Option (Bool) :=
  bd (m_impl_ValidFlag p1 p2) fun x5 =>
  bif x5 then
    bd (m_impl_Arm_ok p3 p4 p1 p2) fun x6 =>
    some x6
  else
    some false

/-- strings.Join -/
def m_strings_Join (p1 : List (ByteArray)) (p2 : ByteArray) : Option (ByteArray) :=
  gd (p1.length ≤ 140737488355328) <|
  gd ((Lib.join (p1.map (·.data.toList)) p2.data.toList).length ≤ 140737488355328) <|
  some ⟨(Lib.join (p1.map (·.data.toList)) p2.data.toList).toArray⟩

def m_spec_joinWith_L1 (p1 : List (ByteArray)) (p2 : ByteArray) : Nat → ByteArray → Int → Option (ByteArray)
  | 0, _, _ => none
  | fu + 1, v3, v4 =>
    bif decide (v4 < (p1.length : Int)) then
      bif decide (0 < v4) then
        gd (v3.size + p2.size ≤ 9223372036854775807) <|
        gd (0 ≤ v4 ∧ v4 < (p1.length : Int)) <|
        gd ((v3 ++ p2).size + (gt p1 v4).size ≤ 9223372036854775807) <|
        m_spec_joinWith_L1 p1 p2 fu ((v3 ++ p2) ++ (gt p1 v4)) (IntKind.wrap .i64 (v4 + 1))
      else
        gd (0 ≤ v4 ∧ v4 < (p1.length : Int)) <|
        gd (v3.size + (gt p1 v4).size ≤ 9223372036854775807) <|
        m_spec_joinWith_L1 p1 p2 fu (v3 ++ (gt p1 v4)) (IntKind.wrap .i64 (v4 + 1))
    else
      some v3

/-- loop.example/namedflags/spec.joinWith -/
def m_spec_joinWith (p1 : List (ByteArray)) (p2 : ByteArray) : Option (ByteArray) :=
  bd (m_spec_joinWith_L1 p1 p2 FU ByteArray.empty 0) fun x5 =>
  some x5

/-- strings.Split -/
def m_strings_Split (p1 : ByteArray) (p2 : ByteArray) : Option (List (ByteArray)) :=
  gd (p1.size < 4294967281) <|
  gd (1 ≤ p2.size) <|
  some (Lib.splitB p2 0 (Lib.countB p1 p2) p1)

/-- loop.example/namedflags/impl.single -/
def m_impl_single (p1 : Int) : Option (Bool) :=
  bd (m_math_bits_OnesCount (IntKind.wrap .u64 (p1))) fun x2 =>
  some (decide (x2 = 1))

/-- cmp.isNaN[int] -/
def m_cmp_isNaN (p1 : Int) : Option (Unit) :=
  some ()

/-- cmp.Compare[int] -/
def m_cmp_Compare (p1 : Int) (p2 : Int) : Option (Int) :=
  bd (m_cmp_isNaN p1) fun x3 =>
  bd (m_cmp_isNaN p2) fun x4 =>
  bif (!decide (p1 = p1)) then
    bif (!decide (p2 = p2)) then
      some 0
    else
      some (-1)
  else
    bif (!decide (p2 = p2)) then
      some 1
    else
      bif decide (p1 < p2) then
        some (-1)
      else
        bif decide (p2 < p1) then
          some 1
        else
          some 0

/-- (loop.example/namedflags/impl.Flag).singles$1 -/
def m_impl_Flag_singles_1 (p1 : ByteArray) (p2 : Int) (p3 : ByteArray) (p4 : Int) : Option (Int) :=
  bd (m_cmp_Compare p2 p4) fun x5 =>
  some x5

def m_slices_insertionSortCmpFunc_h_Flag_singles_1_si_L2 (p1 : Int) (p2 : Int) (v4 : Int) : Nat → Int → (List (ByteArray × Int)) → Option (List (ByteArray × Int))
  | 0, _, _ => none
  | fu + 1, v6, v7 =>
    bif decide (p1 < v6) then
      gd (0 ≤ v6 ∧ v6 < (v7.length : Int)) <|
      gd (0 ≤ (IntKind.wrap .i64 (v6 - 1)) ∧ (IntKind.wrap .i64 (v6 - 1)) < (v7.length : Int)) <|
      bd (m_impl_Flag_singles_1 ((gt v7 v6).1) ((gt v7 v6).2) ((gt v7 (IntKind.wrap .i64 (v6 - 1))).1) ((gt v7 (IntKind.wrap .i64 (v6 - 1))).2)) fun x8 =>
      bif decide (x8 < 0) then
        m_slices_insertionSortCmpFunc_h_Flag_singles_1_si_L2 p1 p2 v4 fu (IntKind.wrap .i64 (v6 - 1)) ((v7.set (0 + v6.toNat) ((gt v7 (IntKind.wrap .i64 (v6 - 1))).1, (gt v7 (IntKind.wrap .i64 (v6 - 1))).2)).set (0 + (IntKind.wrap .i64 (v6 - 1)).toNat) ((gt v7 v6).1, (gt v7 v6).2))
      else
        some v7
    else
      some v7

def m_slices_insertionSortCmpFunc_h_Flag_singles_1_si_L1 (p1 : Int) (p2 : Int) : Nat → Int → (List (ByteArray × Int)) → Option (List (ByteArray × Int))
  | 0, _, _ => none
  | fu + 1, v4, v5 =>
    bif decide (v4 < p2) then
      bd (m_slices_insertionSortCmpFunc_h_Flag_singles_1_si_L2 p1 p2 v4 FU v4 v5) fun x9 =>
      m_slices_insertionSortCmpFunc_h_Flag_singles_1_si_L1 p1 p2 fu (IntKind.wrap .i64 (v4 + 1)) x9
    else
      some v5

/-- slices.insertionSortCmpFunc[loop.example/namedflags/impl.Def] -/
def m_slices_insertionSortCmpFunc_h_Flag_singles_1_si (p1 : Int) (p2 : Int) (p3 : List (ByteArray × Int)) : Option (List (ByteArray × Int)) :=
  bd (m_slices_insertionSortCmpFunc_h_Flag_singles_1_si_L1 p1 p2 FU (IntKind.wrap .i64 (p1 + 1)) p3) fun x10 =>
  some x10

def m_slices_pdqsortCmpFunc_h_Flag_singles_1_si_L1 (p1 : Int) (p2 : Int) (p3 : Int) (p4 : List (ByteArray × Int)) : Nat → Option (List (ByteArray × Int))
  | 0 => none
  | fu + 1 =>
    bif decide ((IntKind.wrap .i64 (p2 - p1)) ≤ 12) then
      bd (m_slices_insertionSortCmpFunc_h_Flag_singles_1_si p1 p2 p4) fun x5 =>
      gd (x5.length = p4.length) <|
      some x5
    else
      bif decide (p3 = 0) then
        none
      else
        none

/-- slices.pdqsortCmpFunc[loop.example/namedflags/impl.Def] -/
def m_slices_pdqsortCmpFunc_h_Flag_singles_1_si (p1 : Int) (p2 : Int) (p3 : Int) (p4 : List (ByteArray × Int)) : Option (List (ByteArray × Int)) :=
  bd (m_slices_pdqsortCmpFunc_h_Flag_singles_1_si_L1 p1 p2 p3 p4 FU) fun x6 =>
  some x6

/-- slices.SortFunc[[]loop.example/namedflags/impl.Def,loop.example/namedflags/impl.Def] -/
def m_slices_SortFunc_h_Flag_singles_1_si (p1 : List (ByteArray × Int)) : Option (List (ByteArray × Int)) :=
  bd (m_math_bits_Len (IntKind.wrap .u64 ((p1.length : Int)))) fun x2 =>
  bd (m_slices_pdqsortCmpFunc_h_Flag_singles_1_si 0 (p1.length : Int) x2 p1) fun x3 =>
  gd (x3.length = p1.length) <|
  some x3

def m_impl_Flag_singles_L1 (p1 : List (ByteArray × Int)) : Nat → (List (ByteArray × Int)) → Int → Option (List (ByteArray × Int))
  | 0, _, _ => none
  | fu + 1, v3, v4 =>
    bif decide (v4 < (p1.length : Int)) then
      gd (0 ≤ v4 ∧ v4 < (p1.length : Int)) <|
      bd (m_impl_single ((gt p1 v4).2)) fun x5 =>
      bif x5 then
        bd (m_impl_valued v3 ((gt p1 v4).2)) fun x6 =>
        bif decide (x6 < 0) then
          gd (v3.length + ([((gt p1 v4).1, (gt p1 v4).2)] : List (ByteArray × Int)).length ≤ 1099511627776) <|
          m_impl_Flag_singles_L1 p1 fu (v3 ++ ([((gt p1 v4).1, (gt p1 v4).2)] : List (ByteArray × Int))) (IntKind.wrap .i64 (v4 + 1))
        else
          m_impl_Flag_singles_L1 p1 fu v3 (IntKind.wrap .i64 (v4 + 1))
      else
        m_impl_Flag_singles_L1 p1 fu v3 (IntKind.wrap .i64 (v4 + 1))
    else
      some v3

/-- (loop.example/namedflags/impl.Flag).singles -/
def m_impl_Flag_singles (p1 : List (ByteArray × Int)) (p2 : Int) : Option (List (ByteArray × Int)) :=
  bd (m_impl_Flag_singles_L1 p1 FU ([] : List (ByteArray × Int)) 0) fun x7 =>
  bd (m_slices_SortFunc_h_Flag_singles_1_si x7) fun x8 =>
  gd (x8.length = x7.length) <|
  some x8

/-- loop.example/namedflags/laws.szDef -/
def m_laws_szDef (p1 : ByteArray) (p2 : Int) (p3 : Int) : Option (Int) :=
  bif decide ((IntKind.wrap .i64 (p3 - (p1.size : Int))) < 0) then
    some (-1)
  else
    some (IntKind.wrap .i64 (p3 - (p1.size : Int)))

def m_laws_szDefS_L1 (p1 : List (ByteArray × Int)) : Nat → Int → Int → Option (Unit ⊕ Int)
  | 0, _, _ => none
  | fu + 1, v3, v4 =>
    bif decide (v4 < (p1.length : Int)) then
      gd (0 ≤ v4 ∧ v4 < (p1.length : Int)) <|
      bd (m_laws_szDef ((gt p1 v4).1) ((gt p1 v4).2) v3) fun x5 =>
      bif decide (x5 < 0) then
        some (Sum.inl ())
      else
        m_laws_szDefS_L1 p1 fu x5 (IntKind.wrap .i64 (v4 + 1))
    else
      some (Sum.inr v3)

/-- loop.example/namedflags/laws.szDefS -/
def m_laws_szDefS (p1 : List (ByteArray × Int)) (p2 : Int) : Option (Int) :=
  bif decide ((IntKind.wrap .i64 (p2 - (p1.length : Int))) < 0) then
    some (-1)
  else
    bd (m_laws_szDefS_L1 p1 FU (IntKind.wrap .i64 (p2 - (p1.length : Int))) 0) fun x6 =>
    sm x6 (fun x7 =>
      some (-1)) (fun x8 =>
      some x8)

/-- loop.example/namedflags/laws.toDef -/
def m_laws_toDef (p1 : ByteArray) (p2 : Int) : Option (Unit) :=
  some ()

def m_laws_toDefS_L1 (p1 : List (ByteArray × Int)) : Nat → (List (ByteArray × Int)) → Int → Option (List (ByteArray × Int))
  | 0, _, _ => none
  | fu + 1, v2, v3 =>
    bif decide (v3 < (p1.length : Int)) then
      gd (0 ≤ v3 ∧ v3 < (p1.length : Int)) <|
      bd (m_laws_toDef ((gt p1 v3).1) ((gt p1 v3).2)) fun x4 =>
      gd (0 ≤ v3 ∧ v3 < (v2.length : Int)) <|
      m_laws_toDefS_L1 p1 fu (v2.set (0 + v3.toNat) (((gt p1 v3).1), ((gt p1 v3).2))) (IntKind.wrap .i64 (v3 + 1))
    else
      some v2

/-- loop.example/namedflags/laws.toDefS -/
def m_laws_toDefS (p1 : List (ByteArray × Int)) : Option (List (ByteArray × Int)) :=
  gd (0 ≤ (p1.length : Int) ∧ (p1.length : Int) = (p1.length : Int) ∧ (24 : Int) * (p1.length : Int) ≤ 281474976710656 ∧ (p1.length : Int) ≤ 9223372036854775807) <|
  bd (m_laws_toDefS_L1 p1 FU (List.replicate (p1.length : Int).toNat ((ByteArray.empty, 0) : ByteArray × Int)) 0) fun x5 =>
  some x5

/-- loop.example/namedflags/laws.szFlag -/
def m_laws_szFlag (p1 : List (ByteArray × Int)) (p2 : Int) (p3 : Int) : Option (Int) :=
  bd (m_laws_szDefS p1 p3) fun x4 =>
  bif decide (x4 < 0) then
    some (-1)
  else
    some x4

/-- loop.example/namedflags/laws.toFlag -/
def m_laws_toFlag (p1 : List (ByteArray × Int)) (p2 : Int) : Option (List (ByteArray × Int)) :=
  bd (m_laws_toDefS p1) fun x3 =>
  some x3

/-- loop.example/namedflags/laws.eqArm -/
def m_laws_eqArm (p1 : Int) (p2 : Int) (p3 : Int) (p4 : Int) : Option (Bool) :=
  bif (!decide (p1 = p3)) then
    some false
  else
    bif (!decide (p2 = p4)) then
      some false
    else
      some true

def m_spec_splitAt_L1 (p1 : ByteArray) (p2 : Int) : Nat → (List (ByteArray)) → Int → Int → Option (List (ByteArray) × Int)
  | 0, _, _, _ => none
  | fu + 1, v3, v4, v5 =>
    bif decide (v5 < (p1.size : Int)) then
      gd (0 ≤ v5 ∧ v5 < (p1.size : Int)) <|
      bif decide ((byteAt p1 v5.toNat) = p2) then
        gd (0 ≤ v4 ∧ v4 ≤ v5 ∧ v5 ≤ (p1.size : Int)) <|
        gd (v3.length + ([p1.extract v4.toNat v5.toNat] : List (ByteArray)).length ≤ 1099511627776) <|
        m_spec_splitAt_L1 p1 p2 fu (v3 ++ ([p1.extract v4.toNat v5.toNat] : List (ByteArray))) (IntKind.wrap .i64 (v5 + 1)) (IntKind.wrap .i64 (v5 + 1))
      else
        m_spec_splitAt_L1 p1 p2 fu v3 v4 (IntKind.wrap .i64 (v5 + 1))
    else
      some (v3, v4)

/-- loop.example/namedflags/spec.splitAt -/
def m_spec_splitAt (p1 : ByteArray) (p2 : Int) : Option (List (ByteArray)) :=
  bd (m_spec_splitAt_L1 p1 p2 FU ([] : List (ByteArray)) 0 0) fun x6 =>
  gd (0 ≤ x6.2 ∧ x6.2 ≤ (p1.size : Int) ∧ (p1.size : Int) ≤ (p1.size : Int)) <|
  gd (x6.1.length + ([p1.extract x6.2.toNat (p1.size : Int).toNat] : List (ByteArray)).length ≤ 1099511627776) <|
  some (x6.1 ++ ([p1.extract x6.2.toNat (p1.size : Int).toNat] : List (ByteArray)))

/-- strings.CutPrefix -/
def m_strings_CutPrefix (p1 : ByteArray) (p2 : ByteArray) : Option (ByteArray × Bool) :=
  some (⟨(Lib.trimPrefix p1.data.toList p2.data.toList).toArray⟩, Lib.hasPrefix p1.data.toList p2.data.toList)

/-- loop.example/namedflags/spec.canTell -/
def m_spec_canTell (p1 : List (ByteArray × Int)) (p2 : Int) (p3 : Int) (p4 : Int) : Option (Bool) :=
  bd (m_spec_either p3 p4) fun x5 =>
  bd (m_spec_singles p1) fun x6 =>
  bd (m_spec_mask x6) fun x7 =>
  bd (m_spec_less x5 x7) fun x8 =>
  some (decide (x8 = 0))

def m_spec_armText_L1 (p3 : Int) (p4 : Int) (x5 : List (ByteArray × Int)) : Nat → (List (ByteArray)) → Int → Option (List (ByteArray))
  | 0, _, _ => none
  | fu + 1, v6, v7 =>
    bif decide (v7 < (x5.length : Int)) then
      gd (0 ≤ v7 ∧ v7 < (x5.length : Int)) <|
      bd (m_spec_both ((gt x5 v7).2) p3) fun x8 =>
      bif decide (0 < x8) then
        gd (v6.length + ([(gt x5 v7).1] : List (ByteArray)).length ≤ 1099511627776) <|
        bd (m_spec_both ((gt x5 v7).2) p4) fun x9 =>
        bif decide (0 < x9) then
          gd ((ByteArray.mk #[33]).size + ((gt x5 v7).1).size ≤ 9223372036854775807) <|
          gd ((v6 ++ ([(gt x5 v7).1] : List (ByteArray))).length + ([(ByteArray.mk #[33]) ++ ((gt x5 v7).1)] : List (ByteArray)).length ≤ 1099511627776) <|
          m_spec_armText_L1 p3 p4 x5 fu ((v6 ++ ([(gt x5 v7).1] : List (ByteArray))) ++ ([(ByteArray.mk #[33]) ++ ((gt x5 v7).1)] : List (ByteArray))) (IntKind.wrap .i64 (v7 + 1))
        else
          m_spec_armText_L1 p3 p4 x5 fu (v6 ++ ([(gt x5 v7).1] : List (ByteArray))) (IntKind.wrap .i64 (v7 + 1))
      else
        bd (m_spec_both ((gt x5 v7).2) p4) fun x10 =>
        bif decide (0 < x10) then
          gd ((ByteArray.mk #[33]).size + ((gt x5 v7).1).size ≤ 9223372036854775807) <|
          gd (v6.length + ([(ByteArray.mk #[33]) ++ ((gt x5 v7).1)] : List (ByteArray)).length ≤ 1099511627776) <|
          m_spec_armText_L1 p3 p4 x5 fu (v6 ++ ([(ByteArray.mk #[33]) ++ ((gt x5 v7).1)] : List (ByteArray))) (IntKind.wrap .i64 (v7 + 1))
        else
          m_spec_armText_L1 p3 p4 x5 fu v6 (IntKind.wrap .i64 (v7 + 1))
    else
      some v6

/-- loop.example/namedflags/spec.armText -/
def m_spec_armText (p1 : List (ByteArray × Int)) (p2 : Int) (p3 : Int) (p4 : Int) : Option (ByteArray) :=
  bd (m_spec_singles p1) fun x5 =>
  bd (m_spec_armText_L1 p3 p4 x5 FU ([] : List (ByteArray)) 0) fun x11 =>
  bif decide ((x11.length : Int) = 0) then
    some (ByteArray.mk #[42])
  else
    bd (m_spec_joinWith x11 (ByteArray.mk #[32])) fun x12 =>
    some x12

def m_impl_ArmText_L1 (p3 : Int) (p4 : Int) (x6 : List (ByteArray × Int)) : Nat → (List (ByteArray)) → Int → Int → Option (List (ByteArray) × Int)
  | 0, _, _, _ => none
  | fu + 1, v7, v8, v9 =>
    bif decide (v9 < (x6.length : Int)) then
      gd (0 ≤ v9 ∧ v9 < (x6.length : Int)) <|
      bif (!decide ((Go.bits .and .i64 p3 ((gt x6 v9).2)) = 0)) then
        gd (v7.length + ([(gt x6 v9).1] : List (ByteArray)).length ≤ 1099511627776) <|
        m_impl_ArmText_L1 p3 p4 x6 fu (v7 ++ ([(gt x6 v9).1] : List (ByteArray))) (Go.bits .andNot .i64 v8 ((gt x6 v9).2)) (IntKind.wrap .i64 (v9 + 1))
      else
        bif (!decide ((Go.bits .and .i64 p4 ((gt x6 v9).2)) = 0)) then
          gd ((ByteArray.mk #[33]).size + ((gt x6 v9).1).size ≤ 9223372036854775807) <|
          gd (v7.length + ([(ByteArray.mk #[33]) ++ ((gt x6 v9).1)] : List (ByteArray)).length ≤ 1099511627776) <|
          m_impl_ArmText_L1 p3 p4 x6 fu (v7 ++ ([(ByteArray.mk #[33]) ++ ((gt x6 v9).1)] : List (ByteArray))) (Go.bits .andNot .i64 v8 ((gt x6 v9).2)) (IntKind.wrap .i64 (v9 + 1))
        else
          m_impl_ArmText_L1 p3 p4 x6 fu v7 (Go.bits .andNot .i64 v8 ((gt x6 v9).2)) (IntKind.wrap .i64 (v9 + 1))
    else
      some (v7, v8)

/-- loop.example/namedflags/impl.ArmText -/
def m_impl_ArmText (p1 : List (ByteArray × Int)) (p2 : Int) (p3 : Int) (p4 : Int) : Option (ByteArray) :=
  bd (m_impl_ValidArm p1 p2 p3 p4) fun x5 =>
  bif (!x5) then
    some ByteArray.empty
  else
    bd (m_impl_Flag_singles p1 p2) fun x6 =>
    bd (m_impl_ArmText_L1 p3 p4 x6 FU ([] : List (ByteArray)) (Go.bits .or .i64 p3 p4) 0) fun x10 =>
    bif (!decide (x10.2 = 0)) then
      some ByteArray.empty
    else
      bif decide ((x10.1.length : Int) = 0) then
        some (ByteArray.mk #[42])
      else
        bd (m_strings_Join x10.1 (ByteArray.mk #[32])) fun x11 =>
        some x11

def m_impl_ParseArm_L1 (p1 : List (ByteArray × Int)) (p2 : Int) (p3 : ByteArray) (x4 : List (ByteArray)) : Nat → Int → Int → Int → Option (Unit ⊕ Int × Int)
  | 0, _, _, _ => none
  | fu + 1, v5, v6, v7 =>
    bif decide (v7 < (x4.length : Int)) then
      gd (0 ≤ v7 ∧ v7 < (x4.length : Int)) <|
      bd (m_strings_CutPrefix (gt x4 v7) (ByteArray.mk #[33])) fun x8 =>
      bd (m_impl_named p1 x8.1) fun x9 =>
      bif decide (x9 < 0) then
        some (Sum.inl ())
      else
        bif x8.2 then
          gd (0 ≤ x9 ∧ x9 < (p1.length : Int)) <|
          m_impl_ParseArm_L1 p1 p2 p3 x4 fu v5 (Go.bits .or .i64 v6 ((gt p1 x9).2)) (IntKind.wrap .i64 (v7 + 1))
        else
          gd (0 ≤ x9 ∧ x9 < (p1.length : Int)) <|
          m_impl_ParseArm_L1 p1 p2 p3 x4 fu (Go.bits .or .i64 v5 ((gt p1 x9).2)) v6 (IntKind.wrap .i64 (v7 + 1))
    else
      some (Sum.inr (v5, v6))

/-- loop.example/namedflags/impl.ParseArm -/
def m_impl_ParseArm (p1 : List (ByteArray × Int)) (p2 : Int) (p3 : ByteArray) : Option (Int × Int × Bool) :=
  bif (!decide (p3 = (ByteArray.mk #[42]))) then
    bd (m_strings_Split p3 (ByteArray.mk #[32])) fun x4 =>
    bd (m_impl_ParseArm_L1 p1 p2 p3 x4 FU 0 0 0) fun x10 =>
    sm x10 (fun x11 =>
      some (0, 0, false)) (fun x12 =>
      bif decide (p3 = ByteArray.empty) then
        some (0, 0, false)
      else
        bd (m_impl_ArmText p1 p2 x12.1 x12.2) fun x13 =>
        bif (!decide (x13 = p3)) then
          some (0, 0, false)
        else
          some (x12.1, x12.2, true))
  else
    bif decide (p3 = ByteArray.empty) then
      some (0, 0, false)
    else
      bd (m_impl_ArmText p1 p2 0 0) fun x14 =>
      bif (!decide (x14 = p3)) then
        some (0, 0, false)
      else
        some (0, 0, true)

def m_spec_parseArm_L1 (p1 : List (ByteArray × Int)) (p2 : Int) (p3 : ByteArray) (x4 : List (ByteArray)) : Nat → Int → Int → Int → Option (Unit ⊕ Int × Int)
  | 0, _, _, _ => none
  | fu + 1, v5, v6, v7 =>
    bif decide (v7 < (x4.length : Int)) then
      gd (0 ≤ v7 ∧ v7 < (x4.length : Int)) <|
      bif (!decide ((gt x4 v7) = ByteArray.empty)) then
        gd (0 ≤ (0 : Int) ∧ (0 : Int) < ((gt x4 v7).size : Int)) <|
        bif decide ((byteAt (gt x4 v7) (0 : Int).toNat) = 33) then
          gd (0 ≤ (1 : Int) ∧ (1 : Int) ≤ ((gt x4 v7).size : Int) ∧ ((gt x4 v7).size : Int) ≤ ((gt x4 v7).size : Int)) <|
          nm ((gt x4 v7).extract (1 : Int).toNat ((gt x4 v7).size : Int).toNat) fun v8 =>
          bd (m_spec_indexOf p1 v8) fun x9 =>
          bif decide (x9 < 0) then
            some (Sum.inl ())
          else
            gd (0 ≤ x9 ∧ x9 < (p1.length : Int)) <|
            bd (m_spec_either v6 ((gt p1 x9).2)) fun x10 =>
            m_spec_parseArm_L1 p1 p2 p3 x4 fu v5 x10 (IntKind.wrap .i64 (v7 + 1))
        else
          bd (m_spec_indexOf p1 (gt x4 v7)) fun x11 =>
          bif decide (x11 < 0) then
            some (Sum.inl ())
          else
            gd (0 ≤ x11 ∧ x11 < (p1.length : Int)) <|
            bd (m_spec_either v5 ((gt p1 x11).2)) fun x12 =>
            m_spec_parseArm_L1 p1 p2 p3 x4 fu x12 v6 (IntKind.wrap .i64 (v7 + 1))
      else
        bd (m_spec_indexOf p1 (gt x4 v7)) fun x13 =>
        bif decide (x13 < 0) then
          some (Sum.inl ())
        else
          gd (0 ≤ x13 ∧ x13 < (p1.length : Int)) <|
          bd (m_spec_either v5 ((gt p1 x13).2)) fun x14 =>
          m_spec_parseArm_L1 p1 p2 p3 x4 fu x14 v6 (IntKind.wrap .i64 (v7 + 1))
    else
      some (Sum.inr (v5, v6))

/-- loop.example/namedflags/spec.parseArm -/
def m_spec_parseArm (p1 : List (ByteArray × Int)) (p2 : Int) (p3 : ByteArray) : Option (Int × Int × Bool) :=
  bif decide (p3 = (ByteArray.mk #[42])) then
    some (0, 0, true)
  else
    bd (m_spec_splitAt p3 32) fun x4 =>
    bd (m_spec_parseArm_L1 p1 p2 p3 x4 FU 0 0 0) fun x15 =>
    sm x15 (fun x16 =>
      some (0, 0, false)) (fun x17 =>
      bd (m_spec_validArm p1 p2 x17.1 x17.2) fun x18 =>
      bif x18 then
        bd (m_spec_canTell p1 p2 x17.1 x17.2) fun x19 =>
        bif x19 then
          bd (m_spec_armText p1 p2 x17.1 x17.2) fun x20 =>
          some (x17.1, x17.2, decide (x20 = p3))
        else
          some (x17.1, x17.2, false)
      else
        some (x17.1, x17.2, false))

/-- loop.example/namedflags/spec.ParseArm -/
def m_spec_ParseArm (p1 : List (ByteArray × Int)) (p2 : Int) (p3 : ByteArray) : Option (Int × Int × Bool) :=
  bd (m_spec_validFlag p1 p2) fun x4 =>
  bif (!x4) then
    some (0, 0, false)
  else
    bd (m_spec_parseArm p1 p2 p3) fun x5 =>
    bif (!x5.2.2) then
      some (0, 0, false)
    else
      some (x5.1, x5.2.1, true)

/-- loop.example/namedflags/laws.FnExactParseArm -/
def m_laws_FnExactParseArm (p1 : List (ByteArray × Int)) (p2 : Int) (p3 : ByteArray) : Option (Bool) :=
  bif decide (1048576 < (p3.size : Int)) then
    some true
  else
    bd (m_laws_szFlag p1 p2 1048576) fun x4 =>
    bif decide (x4 < 0) then
      some true
    else
      bd (m_laws_toFlag p1 p2) fun x5 =>
      bd (m_spec_ParseArm x5 p2 p3) fun x6 =>
      bd (m_laws_toFlag p1 p2) fun x7 =>
      bd (m_impl_ParseArm x7 p2 p3) fun x8 =>
      bd (m_laws_eqArm x8.1 x8.2.1 x6.1 x6.2.1) fun x9 =>
      bif (!x9) then
        some false
      else
        bif (!(x8.2.2 == x6.2.2)) then
          some false
        else
          bd (m_laws_toFlag p1 p2) fun x10 =>
          bd (m_laws_eqFlag x7 p2 x10 p2) fun x11 =>
          bif (!x11) then
            some false
          else
            some true

end Go.Eng

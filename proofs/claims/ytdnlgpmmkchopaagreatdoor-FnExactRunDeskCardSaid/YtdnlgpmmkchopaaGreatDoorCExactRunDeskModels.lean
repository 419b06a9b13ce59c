/- What is said here: nothing is proved. A model of each function, printed by a program out of the translated code. -/
import Derived.Test.YtdnlgpmmkchopaaGreatDoorCExactRunDeskEng27
set_option linter.unusedVariables false
set_option linter.unusedSimpArgs false
namespace Go.Eng
open Go

def aw (x:Int):List Value:=[.int .i64 x]

def ab (x:ByteArray):List Value:=[.string x]

def af (x:ByteArray×Bool×Int):List Value:=[.string x.1,.bool x.2.1,.int .i64 x.2.2]

def aa (x:ByteArray×Int):List Value:=[.string x.1,.int .i64 x.2]

def FU:Nat:=4611686018427387904

def Bg (ns:List Int):ByteArray:=ns.foldl (fun r n=>r.push (UInt8.ofNat n.toNat)) ByteArray.empty

def iM (p1:Int) (p2:List (Int)) (p3:Int):Option (Int) := bif decide (p1<1) then some 0 else bif decide ((p2.length:Int)=0) then some 0 else nm (decide ((IntKind.wrap .i64 ((IntKind.wrap .i64 (p3+1)) - 1))<(p2.length:Int))) fun v4 => bif v4 then gd (0≤(IntKind.wrap .i64 ((IntKind.wrap .i64 (p3+1)) - 1))∧(IntKind.wrap .i64 ((IntKind.wrap .i64 (p3+1)) - 1))<(p2.length:Int)) <| nm ((gt p2 (IntKind.wrap .i64 ((IntKind.wrap .i64 (p3+1)) - 1)))) fun v5 => gd (p1≠0) <| some (Int.tmod (IntKind.wrap .i64 (v5)) p1) else gd ((p2.length:Int)≠0) <| nm (Int.tmod (IntKind.wrap .i64 ((IntKind.wrap .i64 (p3+1)) - 1)) (p2.length:Int)) fun v6 => gd (0≤v6∧v6<(p2.length:Int)) <| nm (IntKind.wrap .i64 ((IntKind.wrap .i64 ((IntKind.wrap .i64 (p3+1)) - 1))*7)) fun v7 => gd (0≤(Int.tmod (IntKind.wrap .i64 (v7+3)) (p2.length:Int))∧(Int.tmod (IntKind.wrap .i64 (v7+3)) (p2.length:Int))<(p2.length:Int)) <| nm ((gt p2 (Int.tmod (IntKind.wrap .i64 (v7+3)) (p2.length:Int)))) fun v8 => nm (IntKind.wrap .i64 ((IntKind.wrap .i64 ((IntKind.wrap .i64 ((gt p2 v6)))*131))+(IntKind.wrap .i64 ((IntKind.wrap .i64 (v8))*1117)))) fun v9 => nm (IntKind.wrap .i64 ((IntKind.wrap .i64 ((IntKind.wrap .i64 (p3+1)) - 1))*29)) fun v10 => gd ((p2.length:Int)≠0∧IntKind.wrap .i64 (Int.tdiv (IntKind.wrap .i64 ((IntKind.wrap .i64 (p3+1)) - 1)) (p2.length:Int))=Int.tdiv (IntKind.wrap .i64 ((IntKind.wrap .i64 (p3+1)) - 1)) (p2.length:Int)) <| nm (Int.tdiv (IntKind.wrap .i64 ((IntKind.wrap .i64 (p3+1)) - 1)) (p2.length:Int)) fun v11 => nm (IntKind.wrap .i64 ((IntKind.wrap .i64 (v9+v10))+(IntKind.wrap .i64 (v11*53)))) fun v12 => gd ((64:Int)≠0∧IntKind.wrap .i64 (Int.tdiv v12 64)=Int.tdiv v12 64) <| gd (p1≠0) <| some (Int.tmod (Go.bits .xor .i64 v12 (Int.tdiv v12 64)) p1)

def lc (p1:List (Int)) (p2:List (Int)) (p3:Int):Option (Int) := bd (iM (p1.length:Int) p2 p3) fun x4 => gd (0≤x4∧x4<(p1.length:Int)) <| some (gt p1 x4)

def cY (p1:List (ByteArray×Int)) (p2:ByteArray):Nat→Int→Option (Int ⊕ Unit) | 0,_=>none | fu+1,v3 => bif decide (v3<(p1.length:Int)) then gd (0≤v3∧v3<(p1.length:Int)) <| bif decide (((gt p1 v3).1)=p2) then some (Sum.inl v3) else cY p1 p2 fu (IntKind.wrap .i64 (v3+1)) else some (Sum.inr ())

def fP (p1:List (ByteArray×Int)) (p2:ByteArray):Option (Int) := bd (cY p1 p2 FU 0) fun x4 => sm x4 (fun x5 => some x5) (fun x6 => some (-1))

def cV (p1:List (ByteArray×Int)) (p2:Int):Nat→Int→Option (Int ⊕ Unit) | 0,_=>none | fu+1,v3 => bif decide (v3<(p1.length:Int)) then gd (0≤v3∧v3<(p1.length:Int)) <| bif decide (((gt p1 v3).2)=p2) then some (Sum.inl v3) else cV p1 p2 fu (IntKind.wrap .i64 (v3+1)) else some (Sum.inr ())

def eJ (p1:List (ByteArray×Int)) (p2:Int):Option (Int) := bd (cV p1 p2 FU 0) fun x4 => sm x4 (fun x5 => some x5) (fun x6 => some (-1))

def bt (p1:List (ByteArray×Int)):Nat→(List (ByteArray×Int))→Int→Option (List (ByteArray×Int)) | 0,_,_=>none | fu+1,v2,v3 => bif decide (v3≤4095) then bd (eJ p1 v3) fun x4 => bif decide (0≤x4) then gd (0≤x4∧x4<(p1.length:Int)) <| gd (v2.length+([((gt p1 x4).1,(gt p1 x4).2)]:List (ByteArray×Int)).length≤1099511627776) <| bt p1 fu (v2++([((gt p1 x4).1,(gt p1 x4).2)]:List (ByteArray×Int))) (IntKind.wrap .i64 (v3*2)) else bt p1 fu v2 (IntKind.wrap .i64 (v3*2)) else some v2

def eP (p1:List (ByteArray×Int)):Option (List (ByteArray×Int)) := bd (bt p1 FU ([]:List (ByteArray×Int)) 1) fun x5 => some x5

def fI (p1:Int) (p2:Int) (p3:Int):Option (Bool) := bif decide (p2≤p1) then some (decide (p1≤p3)) else some false

def dc (p1:ByteArray):Nat→Int→Option (Unit ⊕ Unit) | 0,_=>none | fu+1,v2 => bif decide (v2<(p1.size:Int)) then gd (0≤v2∧v2<(p1.size:Int)) <| bif decide ((aD p1 v2.toNat)<97) then some (Sum.inl ()) else bif decide (122<(aD p1 v2.toNat)) then some (Sum.inl ()) else dc p1 fu (IntKind.wrap .i64 (v2+1)) else some (Sum.inr ())

def fW (p1:ByteArray):Option (Bool) := bd (dc p1 FU 0) fun x3 => sm x3 (fun x4 => some false) (fun x5 => bd (fI (p1.size:Int) 1 6) fun x6 => some x6)

def hU (p1:ByteArray) (p2:Int) (p3:ByteArray):Option (Unit) := some ()

def aS (p1:List (ByteArray×Int)) (p2:ByteArray):Nat→Int→Option (Int ⊕ Unit) | 0,_=>none | fu+1,v3 => bif decide (v3<(p1.length:Int)) then gd (0≤v3∧v3<(p1.length:Int)) <| bd (hU ((gt p1 v3).1) ((gt p1 v3).2) p2) fun x4 => bif decide (((gt p1 v3).1)=p2) then some (Sum.inl v3) else aS p1 p2 fu (IntKind.wrap .i64 (v3+1)) else some (Sum.inr ())

def cP (p1:List (ByteArray×Int)) (p2:ByteArray):Option (Int) := bd (aS p1 p2 FU 0) fun x5 => sm x5 (fun x6 => some x6) (fun x7 => some (-1))

def gQ (p1:List (ByteArray×Int)) (p2:ByteArray):Option (Int) := bd (cP p1 p2) fun x3 => some x3

def db (p1:List (ByteArray×Int)) (p2:Int) (p3:Int):Nat→Int→Option (Unit ⊕ Unit) | 0,_=>none | fu+1,v4 => bif decide (v4<(p1.length:Int)) then gd (0≤v4∧v4<(p1.length:Int)) <| bd (fW ((gt p1 v4).1)) fun x5 => bif (!x5) then some (Sum.inl ()) else bd (fI ((gt p1 v4).2) p2 p3) fun x6 => bif (!x6) then some (Sum.inl ()) else gd (0≤(0:Int)∧(0:Int)≤v4∧v4≤(p1.length:Int)∧(p1.length:Int)≤(p1.length:Int)) <| bd (gQ (sub p1 (0:Int) v4) ((gt p1 v4).1)) fun x7 => bif decide (0≤x7) then some (Sum.inl ()) else db p1 p2 p3 fu (IntKind.wrap .i64 (v4+1)) else some (Sum.inr ())

def gi (p1:List (ByteArray×Int)) (p2:Int) (p3:Int):Option (Bool) := bd (db p1 p2 p3 FU 0) fun x8 => sm x8 (fun x9 => some false) (fun x10 => some (decide ((p1.length:Int)≤12)))

def dq (p1:List (ByteArray×Int)) (p2:Int):Option (Bool) := bd (gi p1 0 4095) fun x3 => bif x3 then bd (fI p2 0 3) fun x4 => some x4 else some false

def cA (p1:List (ByteArray×Int)):Nat→Int→Int→Option (Int) | 0,_,_=>none | fu+1,v3,v4 => bif decide (v4<(p1.length:Int)) then gd (0≤v4∧v4<(p1.length:Int)) <| cA p1 fu (Go.bits .or .i64 v3 ((gt p1 v4).2)) (IntKind.wrap .i64 (v4+1)) else some v3

def cr (p1:List (ByteArray×Int)) (p2:Int):Option (Int) := bd (cA p1 FU 0 0) fun x5 => some x5

def bu (p1:Int) (p2:Int):Nat→Int→Int→Option (Int) | 0,_,_=>none | fu+1,v3,v4 => bif decide (v4≤4095) then gd (v4≠0∧IntKind.wrap .i64 (Int.tdiv p1 v4)=Int.tdiv p1 v4) <| gd ((2:Int)≠0) <| bif decide ((Int.tmod (Int.tdiv p1 v4) 2)=1) then gd (v4≠0∧IntKind.wrap .i64 (Int.tdiv p2 v4)=Int.tdiv p2 v4) <| bif decide ((Int.tmod (Int.tdiv p2 v4) 2)=1) then bu p1 p2 fu (IntKind.wrap .i64 (v3+v4)) (IntKind.wrap .i64 (v4*2)) else bu p1 p2 fu v3 (IntKind.wrap .i64 (v4*2)) else bu p1 p2 fu v3 (IntKind.wrap .i64 (v4*2)) else some v3

def dT (p1:Int) (p2:Int):Option (Int) := bd (bu p1 p2 FU 0 1) fun x5 => some x5

def dI (p1:Int) (p2:Int):Option (Int) := bd (dT p1 p2) fun x3 => some (IntKind.wrap .i64 ((IntKind.wrap .i64 (p1+p2)) - x3))

def dQ (p1:List (ByteArray×Int)):Nat→Int→Int→Option (Int) | 0,_,_=>none | fu+1,v2,v3 => bif decide (v3<(p1.length:Int)) then gd (0≤v3∧v3<(p1.length:Int)) <| bd (dI v2 ((gt p1 v3).2)) fun x4 => dQ p1 fu x4 (IntKind.wrap .i64 (v3+1)) else some v2

def cQ (p1:List (ByteArray×Int)):Option (Int) := bd (dQ p1 FU 0 0) fun x5 => some x5

def cE (p1:Int) (p2:Int) (p3:Int):Option (Bool) := bif decide (p2≤p1) then some (decide (p1≤p3)) else some false

def bO (p1:ByteArray):Nat→Int→Option (Unit ⊕ Unit) | 0,_=>none | fu+1,v2 => bif decide (v2<(p1.size:Int)) then gd (0≤v2∧v2<(p1.size:Int)) <| bif decide ((aD p1 v2.toNat)<97) then some (Sum.inl ()) else bif decide (122<(aD p1 v2.toNat)) then some (Sum.inl ()) else bO p1 fu (IntKind.wrap .i64 (v2+1)) else some (Sum.inr ())

def dK (p1:ByteArray):Option (Bool) := bd (bO p1 FU 0) fun x3 => sm x3 (fun x4 => some false) (fun x5 => bd (cE (p1.size:Int) 1 6) fun x6 => some x6)

def bP (p1:List (ByteArray×Int)) (p2:Int) (p3:Int):Nat→Int→Option (Unit ⊕ Unit) | 0,_=>none | fu+1,v4 => bif decide (v4<(p1.length:Int)) then gd (0≤v4∧v4<(p1.length:Int)) <| bd (dK ((gt p1 v4).1)) fun x5 => bif (!x5) then some (Sum.inl ()) else bd (cE ((gt p1 v4).2) p2 p3) fun x6 => bif (!x6) then some (Sum.inl ()) else gd (0≤(0:Int)∧(0:Int)≤v4∧v4≤(p1.length:Int)∧(p1.length:Int)≤(p1.length:Int)) <| bd (fP (sub p1 (0:Int) v4) ((gt p1 v4).1)) fun x7 => bif decide (0≤x7) then some (Sum.inl ()) else bP p1 p2 p3 fu (IntKind.wrap .i64 (v4+1)) else some (Sum.inr ())

def eN (p1:List (ByteArray×Int)) (p2:Int) (p3:Int):Option (Bool) := bd (bP p1 p2 p3 FU 0) fun x8 => sm x8 (fun x9 => some false) (fun x10 => some (decide ((p1.length:Int)≤12)))

def eQ (p1:List (ByteArray×Int)) (p2:Int):Option (Bool) := bd (eN p1 0 4095) fun x3 => bif x3 then bd (cE p2 0 3) fun x4 => some x4 else some false

def cq (p1:Int) (p2:Int):Option (Int) := bd (dT p1 p2) fun x3 => some (IntKind.wrap .i64 (p1 - x3))

def bN (p1:List (ByteArray×Int)) (p2:Int) (p3:Int):Option (Bool) := bd (dq p1 p2) fun x4 => bif x4 then bd (fI p3 0 4095) fun x5 => bif x5 then bif decide (p2=3) then some true else bd (cr p1 p2) fun x6 => some (decide ((Go.bits .andNot .i64 p3 x6)=0)) else some false else some false

def gk (p1:Int) (p2:Int):Option (Unit) := some ()

def ea (p1:List (ByteArray×Int)) (p2:Int) (p3:Int) (p4:Int):Option (Int) := bd (bN p1 p2 p3) fun x5 => bif (!x5) then some (-1) else bd (bN p1 p2 p4) fun x6 => bif (!x6) then some (-1) else bd (gk p3 p4) fun x7 => some (Go.bits .andNot .i64 p3 p4)

def dy (p1:List (ByteArray×Int)) (p2:Int) (p3:Int) (p4:Int):Option (Int) := bd (ea p1 p2 p3 p4) fun x5 => some x5

def bL (p1:List (ByteArray×Int)):Nat→Int→Int→Option (Int) | 0,_,_=>none | fu+1,v3,v4 => bif decide (v4<(p1.length:Int)) then gd (0≤v4∧v4<(p1.length:Int)) <| bif decide (v4=0) then bL p1 fu ((gt p1 v4).2) (IntKind.wrap .i64 (v4+1)) else bif decide (v3<((gt p1 v4).2)) then bL p1 fu ((gt p1 v4).2) (IntKind.wrap .i64 (v4+1)) else bL p1 fu v3 (IntKind.wrap .i64 (v4+1)) else some v3

def gz (p1:List (ByteArray×Int)) (p2:Int):Option (Int) := bd (bL p1 FU p2 0) fun x5 => some x5

def lstr_c9535661:ByteArray:=(ByteArray.mk #[0,1,2,2,3,3,3,3,4,4,4,4,4,4,4,4,5,5,5,5,5,5,5,5,5,5,5,5,5,5,5,5,6,6,6,6,6,6,6,6,6,6,6,6,6,6,6,6,6,6,6,6,6,6,6,6,6,6,6,6,6,6,6,6,7,7,7,7,7,7,7,7,7,7,7,7,7,7,7,7,7,7,7,7,7,7,7,7,7,7,7,7,7,7,7,7,7,7,7,7,7,7,7,7,7,7,7,7,7,7,7,7,7,7,7,7,7,7,7,7,7,7,7,7,7,7,7,7,8,8,8,8,8,8,8,8,8,8,8,8,8,8,8,8,8,8,8,8,8,8,8,8,8,8,8,8,8,8,8,8,8,8,8,8,8,8,8,8,8,8,8,8,8,8,8,8,8,8,8,8,8,8,8,8,8,8,8,8,8,8,8,8,8,8,8,8,8,8,8,8,8,8,8,8,8,8,8,8,8,8,8,8,8,8,8,8,8,8,8,8,8,8,8,8,8,8,8,8,8,8,8,8,8,8,8,8,8,8,8,8,8,8,8,8,8,8,8,8,8,8,8,8,8,8,8,8])

def gL (p1:Int):Option (Int) := bif decide (4294967296≤p1) then gd (0≤(32:Int)∧(32:Int)≤(IntKind.bits .u64:Int)) <| bif decide (65536≤(p1 / 2 ^ (32:Int).toNat)) then gd (0≤(16:Int)∧(16:Int)≤(IntKind.bits .u64:Int)) <| nm (decide (256≤((p1 / 2 ^ (32:Int).toNat) / 2 ^ (16:Int).toNat))) fun v2 => bif v2 then gd (0≤(8:Int)∧(8:Int)≤(IntKind.bits .u64:Int)) <| nm (((p1 / 2 ^ (32:Int).toNat) / 2 ^ (16:Int).toNat) / 2 ^ (8:Int).toNat) fun v3 => gd (0≤(IntKind.wrap .u8 (v3))∧(IntKind.wrap .u8 (v3))<(lstr_c9535661.size:Int)) <| nm (IntKind.wrap .i64 (aD lstr_c9535661 (IntKind.wrap .u8 (v3)).toNat)) fun v4 => nm (IntKind.wrap .i64 ((IntKind.wrap .i64 ((IntKind.wrap .i64 (32+16))+8))+v4)) fun v5 => some v5 else nm (IntKind.wrap .u8 ((p1 / 2 ^ (32:Int).toNat) / 2 ^ (16:Int).toNat)) fun v6 => gd (0≤v6∧v6<(lstr_c9535661.size:Int)) <| nm (IntKind.wrap .i64 ((IntKind.wrap .i64 (32+16))+(IntKind.wrap .i64 (aD lstr_c9535661 v6.toNat)))) fun v7 => some v7 else bif decide (256≤(p1 / 2 ^ (32:Int).toNat)) then gd (0≤(8:Int)∧(8:Int)≤(IntKind.bits .u64:Int)) <| nm (IntKind.wrap .u8 ((p1 / 2 ^ (32:Int).toNat) / 2 ^ (8:Int).toNat)) fun v8 => gd (0≤v8∧v8<(lstr_c9535661.size:Int)) <| nm (IntKind.wrap .i64 ((IntKind.wrap .i64 (32+8))+(IntKind.wrap .i64 (aD lstr_c9535661 v8.toNat)))) fun v9 => some v9 else gd (0≤(IntKind.wrap .u8 (p1 / 2 ^ (32:Int).toNat))∧(IntKind.wrap .u8 (p1 / 2 ^ (32:Int).toNat))<(lstr_c9535661.size:Int)) <| nm (aD lstr_c9535661 (IntKind.wrap .u8 (p1 / 2 ^ (32:Int).toNat)).toNat) fun v10 => some (IntKind.wrap .i64 (32+(IntKind.wrap .i64 (v10)))) else bif decide (65536≤p1) then gd (0≤(16:Int)∧(16:Int)≤(IntKind.bits .u64:Int)) <| bif decide (256≤(p1 / 2 ^ (16:Int).toNat)) then gd (0≤(8:Int)∧(8:Int)≤(IntKind.bits .u64:Int)) <| nm (IntKind.wrap .u8 ((p1 / 2 ^ (16:Int).toNat) / 2 ^ (8:Int).toNat)) fun v11 => gd (0≤v11∧v11<(lstr_c9535661.size:Int)) <| nm (IntKind.wrap .i64 ((IntKind.wrap .i64 ((IntKind.wrap .i64 (0+16))+8))+(IntKind.wrap .i64 (aD lstr_c9535661 v11.toNat)))) fun v12 => some v12 else gd (0≤(IntKind.wrap .u8 (p1 / 2 ^ (16:Int).toNat))∧(IntKind.wrap .u8 (p1 / 2 ^ (16:Int).toNat))<(lstr_c9535661.size:Int)) <| nm (aD lstr_c9535661 (IntKind.wrap .u8 (p1 / 2 ^ (16:Int).toNat)).toNat) fun v13 => nm (IntKind.wrap .i64 ((IntKind.wrap .i64 (0+16))+(IntKind.wrap .i64 (v13)))) fun v14 => some v14 else bif decide (256≤p1) then gd (0≤(8:Int)∧(8:Int)≤(IntKind.bits .u64:Int)) <| gd (0≤(IntKind.wrap .u8 (p1 / 2 ^ (8:Int).toNat))∧(IntKind.wrap .u8 (p1 / 2 ^ (8:Int).toNat))<(lstr_c9535661.size:Int)) <| nm (aD lstr_c9535661 (IntKind.wrap .u8 (p1 / 2 ^ (8:Int).toNat)).toNat) fun v15 => nm (IntKind.wrap .i64 ((IntKind.wrap .i64 (0+8))+(IntKind.wrap .i64 (v15)))) fun v16 => some v16 else gd (0≤(IntKind.wrap .u8 (p1))∧(IntKind.wrap .u8 (p1))<(lstr_c9535661.size:Int)) <| nm (IntKind.wrap .i64 (aD lstr_c9535661 (IntKind.wrap .u8 (p1)).toNat)) fun v17 => some (IntKind.wrap .i64 (0+v17))

def dX (p1:Int):Option (Int) := bd (gL p1) fun x2 => some x2

def fc (p1:List (ByteArray×Int)):Option (Int) := bd (gz p1 0) fun x2 => bd (dX (IntKind.wrap .u64 ((if x2>0 then x2 else 0)))) fun x3 => gd (0≤x3∧x3≤(IntKind.bits .i64:Int)) <| some (IntKind.wrap .i64 ((1:Int)*2 ^ x3.toNat))

def lZ (p1:List (ByteArray×Int)):Option (Unit) := gd (0≤(0:Int)∧(0:Int)≤(p1.length:Int)∧(p1.length:Int)≤(p1.length:Int)∧(p1.length:Int)≤(p1.length:Int)) <| some ()

def fE (p1:List (ByteArray×Int)):Option (Unit) := some ()

def bi (p1:List (ByteArray×Bool×Int)):Nat→(List (ByteArray×Int))→Int→Option (Unit ⊕ List (ByteArray×Int)) | 0,_,_=>none | fu+1,v2,v3 => bif decide (v3<(p1.length:Int)) then gd (0≤v3∧v3<(p1.length:Int)) <| bif (gt p1 v3).2.1 then bif (!decide (((gt p1 v3).2.2)=0)) then some (Sum.inl ()) else bd (fc v2) fun x4 => gd (v2.length+([((gt p1 v3).1,x4)]:List (ByteArray×Int)).length≤1099511627776) <| bi p1 fu (v2++([((gt p1 v3).1,x4)]:List (ByteArray×Int))) (IntKind.wrap .i64 (v3+1)) else gd (v2.length+([((gt p1 v3).1,(gt p1 v3).2.2)]:List (ByteArray×Int)).length≤1099511627776) <| bi p1 fu (v2++([((gt p1 v3).1,(gt p1 v3).2.2)]:List (ByteArray×Int))) (IntKind.wrap .i64 (v3+1)) else some (Sum.inr v2)

def dn (p1:List (ByteArray×Bool×Int)):Option ((List (ByteArray×Int))×Bool) := bd (bi p1 FU ([]:List (ByteArray×Int)) 0) fun x5 => sm x5 (fun x6 => some (([]:List (ByteArray×Int)),false)) (fun x7 => bd (fE x7) fun x8 => some (x7,true))

def eg (p1:List (ByteArray×Int)):Option (List (ByteArray×Int)) := gd (p1.length≤1099511627776) <| some p1

def gC (p1:List (ByteArray×Int)):Option (List (ByteArray×Int)) := bd (eg p1) fun x2 => bd (fE x2) fun x3 => some x2

def ij (p1:List (ByteArray×Int)) (p2:Int) (p3:Bool):Option ((List (ByteArray×Int))×Int×Bool) := bd (gC p1) fun x4 => bif p3 then bd (dq x4 p2) fun x5 => bif x5 then some (x4,p2,true) else some (([]:List (ByteArray×Int)),0,false) else some (([]:List (ByteArray×Int)),0,false)

def ga (p1:List (ByteArray×Bool×Int)) (p2:Int):Option ((List (ByteArray×Int))×Int×Bool) := bif decide (12<(p1.length:Int)) then some (([]:List (ByteArray×Int)),0,false) else bd (dn p1) fun x3 => bd (ij x3.1 p2 x3.2) fun x4 => some (x4.1,x4.2.1,x4.2.2)

def aU (p1:List (ByteArray×Bool×Int)) (p2:Int) (p3:Int) (v4:Int):Nat→Int→Option (Unit ⊕ Unit) | 0,_=>none | fu+1,v7 => bif decide (v7<v4) then gd (0≤v7∧v7<(p1.length:Int)) <| gd (0≤v4∧v4<(p1.length:Int)) <| bif decide (((gt p1 v7).1)=((gt p1 v4).1)) then some (Sum.inl ()) else aU p1 p2 p3 v4 fu (IntKind.wrap .i64 (v7+1)) else some (Sum.inr ())

def cn (p1:List (ByteArray×Bool×Int)) (p2:Int) (p3:Int) (v4:Int):Nat→Int→Option (Unit ⊕ Unit) | 0,_=>none | fu+1,v12 => bif decide (v12<v4) then gd (0≤v12∧v12<(p1.length:Int)) <| gd (0≤v4∧v4<(p1.length:Int)) <| bif decide (((gt p1 v12).1)=((gt p1 v4).1)) then some (Sum.inl ()) else cn p1 p2 p3 v4 fu (IntKind.wrap .i64 (v12+1)) else some (Sum.inr ())

def bq (p1:List (ByteArray×Bool×Int)) (p2:Int) (p3:Int):Nat→Int→Option (Unit ⊕ Unit) | 0,_=>none | fu+1,v4 => bif decide (v4<(p1.length:Int)) then gd (0≤v4∧v4<(p1.length:Int)) <| bd (dK ((gt p1 v4).1)) fun x5 => bif (!x5) then some (Sum.inl ()) else bif (gt p1 v4).2.1 then bif (!decide (((gt p1 v4).2.2)=0)) then some (Sum.inl ()) else bd (cE ((gt p1 v4).2.2) p2 p3) fun x6 => bif (!x6) then some (Sum.inl ()) else bd (aU p1 p2 p3 v4 FU 0) fun x8 => sm x8 (fun x9 => some (Sum.inl ())) (fun x10 => bq p1 p2 p3 fu (IntKind.wrap .i64 (v4+1))) else bd (cE ((gt p1 v4).2.2) p2 p3) fun x11 => bif (!x11) then some (Sum.inl ()) else bd (cn p1 p2 p3 v4 FU 0) fun x13 => sm x13 (fun x14 => some (Sum.inl ())) (fun x15 => bq p1 p2 p3 fu (IntKind.wrap .i64 (v4+1))) else some (Sum.inr ())

def fA (p1:List (ByteArray×Bool×Int)) (p2:Int) (p3:Int):Option (Bool) := bd (bq p1 p2 p3 FU 0) fun x16 => sm x16 (fun x17 => some false) (fun x18 => some (decide ((p1.length:Int)≤12)))

def cX (p1:List (ByteArray×Int)) (v3:Int):Nat→Int→Option (Int) | 0,_=>none | fu+1,v4 => gd (0≤v3∧v3<(p1.length:Int)) <| bif decide (v4≤((gt p1 v3).2)) then cX p1 v3 fu (IntKind.wrap .i64 (v4*2)) else some v4

def cD (p1:List (ByteArray×Int)):Nat→Int→Int→Option (Int) | 0,_,_=>none | fu+1,v2,v3 => bif decide (v3<(p1.length:Int)) then bd (cX p1 v3 FU v2) fun x5 => cD p1 fu x5 (IntKind.wrap .i64 (v3+1)) else some v2

def fN (p1:List (ByteArray×Int)):Option (Int) := bd (cD p1 FU 1 0) fun x6 => some x6

def bQ (p1:List (ByteArray×Bool×Int)) (p2:Int):Nat→(List (ByteArray×Int))→Int→Option (List (ByteArray×Int)) | 0,_,_=>none | fu+1,v4,v5 => bif decide (v5<(p1.length:Int)) then gd (0≤v5∧v5<(p1.length:Int)) <| bif (gt p1 v5).2.1 then bd (fN v4) fun x6 => gd (v4.length+([((gt p1 v5).1,x6)]:List (ByteArray×Int)).length≤1099511627776) <| bQ p1 p2 fu (v4++([((gt p1 v5).1,x6)]:List (ByteArray×Int))) (IntKind.wrap .i64 (v5+1)) else gd (v4.length+([((gt p1 v5).1,(gt p1 v5).2.2)]:List (ByteArray×Int)).length≤1099511627776) <| bQ p1 p2 fu (v4++([((gt p1 v5).1,(gt p1 v5).2.2)]:List (ByteArray×Int))) (IntKind.wrap .i64 (v5+1)) else some v4

def gg (p1:List (ByteArray×Bool×Int)) (p2:Int):Option ((List (ByteArray×Int))×Int×Bool) := bd (fA p1 0 4095) fun x3 => bif (!x3) then some (([]:List (ByteArray×Int)),0,false) else bd (bQ p1 p2 FU ([]:List (ByteArray×Int)) 0) fun x7 => bd (eQ x7 p2) fun x8 => bif (!x8) then some (([]:List (ByteArray×Int)),0,false) else some (x7,p2,true)

def eo (p1:Int):Option (Int) := gd (0≤(1:Int)∧(1:Int)≤(IntKind.bits .u64:Int)) <| nm (Go.bits .and .u64 (p1 / 2 ^ (1:Int).toNat) 6148914691236517205) fun v2 => nm (IntKind.wrap .u64 (v2+(Go.bits .and .u64 p1 6148914691236517205))) fun v3 => gd (0≤(2:Int)∧(2:Int)≤(IntKind.bits .u64:Int)) <| nm (Go.bits .and .u64 (v3 / 2 ^ (2:Int).toNat) 3689348814741910323) fun v4 => nm (IntKind.wrap .u64 (v4+(Go.bits .and .u64 v3 3689348814741910323))) fun v5 => gd (0≤(4:Int)∧(4:Int)≤(IntKind.bits .u64:Int)) <| nm (Go.bits .and .u64 (IntKind.wrap .u64 ((v5 / 2 ^ (4:Int).toNat)+v5)) 1085102592571150095) fun v6 => gd (0≤(8:Int)∧(8:Int)≤(IntKind.bits .u64:Int)) <| gd (0≤(16:Int)∧(16:Int)≤(IntKind.bits .u64:Int)) <| nm ((IntKind.wrap .u64 (v6+(v6 / 2 ^ (8:Int).toNat))) / 2 ^ (16:Int).toNat) fun v7 => nm (IntKind.wrap .u64 ((IntKind.wrap .u64 (v6+(v6 / 2 ^ (8:Int).toNat)))+v7)) fun v8 => gd (0≤(32:Int)∧(32:Int)≤(IntKind.bits .u64:Int)) <| nm (IntKind.wrap .i64 (IntKind.wrap .u64 (v8+(v8 / 2 ^ (32:Int).toNat)))) fun v9 => some (Go.bits .and .i64 v9 127)

def dR (p1:Int):Option (Int) := bd (eo p1) fun x2 => some x2

def gO (p1:ByteArray) (p2:Int) (p3:Int):Option (Unit) := some ()

def aQ (p1:List (ByteArray×Int)) (p2:Int):Nat→Int→Option (Int ⊕ Unit) | 0,_=>none | fu+1,v3 => bif decide (v3<(p1.length:Int)) then gd (0≤v3∧v3<(p1.length:Int)) <| bd (gO ((gt p1 v3).1) ((gt p1 v3).2) p2) fun x4 => bif decide (((gt p1 v3).2)=p2) then some (Sum.inl v3) else aQ p1 p2 fu (IntKind.wrap .i64 (v3+1)) else some (Sum.inr ())

def cK (p1:List (ByteArray×Int)) (p2:Int):Option (Int) := bd (aQ p1 p2 FU 0) fun x5 => sm x5 (fun x6 => some x6) (fun x7 => some (-1))

def fw (p1:List (ByteArray×Int)) (p2:Int):Option (Int) := bd (cK p1 p2) fun x3 => some x3

def mo (p1:List (ByteArray)):Option (Unit) := gd (0≤(0:Int)∧(0:Int)≤(p1.length:Int)∧(p1.length:Int)≤(p1.length:Int)∧(p1.length:Int)≤(p1.length:Int)) <| some ()

def eS (p1:List (ByteArray)):Option (Unit) := some ()

def eF (p1:List (ByteArray×Int)) (p2:Int) (p3:Int):Option (Bool) := bd (eQ p1 p2) fun x4 => bif x4 then bd (cE p3 0 4095) fun x5 => bif x5 then bif decide (p2=3) then some true else bd (cQ p1) fun x6 => bd (cq p3 x6) fun x7 => some (decide (x7=0)) else some false else some false

def cI (p2:Int) (x3:List (ByteArray×Int)):Nat→(List (ByteArray×Int))→Int→Option (List (ByteArray×Int)) | 0,_,_=>none | fu+1,v4,v5 => bif decide (v5<(x3.length:Int)) then gd (0≤v5∧v5<(x3.length:Int)) <| bd (dT ((gt x3 v5).2) p2) fun x6 => bif decide (0<x6) then gd (v4.length+([((gt x3 v5).1,(gt x3 v5).2)]:List (ByteArray×Int)).length≤1099511627776) <| cI p2 x3 fu (v4++([((gt x3 v5).1,(gt x3 v5).2)]:List (ByteArray×Int))) (IntKind.wrap .i64 (v5+1)) else cI p2 x3 fu v4 (IntKind.wrap .i64 (v5+1)) else some v4

def il (p1:List (ByteArray×Int)) (p2:Int):Option (List (ByteArray×Int)) := bd (eP p1) fun x3 => bd (cI p2 x3 FU ([]:List (ByteArray×Int)) 0) fun x7 => some x7

def cZ (p1:List (ByteArray×Int)):Nat→(List (ByteArray))→Int→Option (List (ByteArray)) | 0,_,_=>none | fu+1,v2,v3 => bif decide (v3<(p1.length:Int)) then gd (0≤v3∧v3<(p1.length:Int)) <| gd (v2.length+([(gt p1 v3).1]:List (ByteArray)).length≤1099511627776) <| cZ p1 fu (v2++([(gt p1 v3).1]:List (ByteArray))) (IntKind.wrap .i64 (v3+1)) else some v2

def eT (p1:List (ByteArray×Int)):Option (List (ByteArray)) := bd (cZ p1 FU ([]:List (ByteArray)) 0) fun x4 => some x4

def cG (p1:ByteArray) (p2:Int) (p3:Int):Option (Bool) := bif decide (p2=0) then some true else some (!decide ((Go.bits .andNot .i64 p2 p3)=0))

def aG (p1:List (ByteArray×Int)) (p2:Int):Nat→Int→Option (Int ⊕ Unit) | 0,_=>none | fu+1,v3 => bif decide (v3<(p1.length:Int)) then gd (0≤v3∧v3<(p1.length:Int)) <| bd (cG ((gt p1 v3).1) ((gt p1 v3).2) p2) fun x4 => bif x4 then some (Sum.inl v3) else aG p1 p2 fu (IntKind.wrap .i64 (v3+1)) else some (Sum.inr ())

def bF (p1:List (ByteArray×Int)) (p2:Int):Option (Int) := bd (aG p1 p2 FU 0) fun x5 => sm x5 (fun x6 => some x6) (fun x7 => some (-1))

def aB (p2:Int):Nat→Int→Int→(List (ByteArray×Int))→Option (Int×(List (ByteArray×Int))) | 0,_,_,_=>none | fu+1,v4,v5,v6 => bif decide (v5<(v6.length:Int)) then gd (0≤v5∧v5<(v6.length:Int)) <| bd (cG ((gt v6 v5).1) ((gt v6 v5).2) p2) fun x7 => bif (!x7) then gd (0≤v4∧v4<(v6.length:Int)) <| aB p2 fu (IntKind.wrap .i64 (v4+1)) (IntKind.wrap .i64 (v5+1)) (v6.set (0+v4.toNat) ((gt v6 v5).1,(gt v6 v5).2)) else aB p2 fu v4 (IntKind.wrap .i64 (v5+1)) v6 else some (v4,v6)

def ca (p1:List (ByteArray×Int)) (p2:Int):Option (List (ByteArray×Int)) := bd (bF p1 p2) fun x3 => bif decide (x3=(-1)) then some p1 else bd (aB p2 FU x3 (IntKind.wrap .i64 (x3+1)) p1) fun x8 => gd (0≤x8.1∧x8.1≤(x8.2.length:Int)∧(x8.2.length:Int)≤(x8.2.length:Int)∧(x8.2.length:Int)≤(x8.2.length:Int)) <| gd (0≤(0:Int)∧(0:Int)≤x8.1∧x8.1≤(x8.2.length:Int)∧(x8.2.length:Int)≤(x8.2.length:Int)) <| some (sub (clr x8.2 x8.1 (x8.2.length:Int) ((ByteArray.empty,0):ByteArray×Int)) (0:Int) x8.1)

def eA (p1:List (ByteArray×Int)) (p2:Int) (p3:Int):Option (List (ByteArray×Int)) := bd (eg p1) fun x4 => bd (ca x4 p3) fun x5 => some x5

def dW (p1:List (ByteArray×Int)):Option (Int) := bd (cr p1 0) fun x2 => some x2

def ee (p1:Int):Option (List (ByteArray×Int)) := bif decide (p1<0) then none else nm (decide (0<(IntKind.wrap .i64 (p1 - (IntKind.wrap .i64 (0 - 0)))))) fun v2 => bif v2 then gd ((0:Int)=0∧(0:Int)=0∧(0:Int)=0) <| gd (0≤(IntKind.wrap .i64 (p1 - (IntKind.wrap .i64 (0 - 0))))∧(IntKind.wrap .i64 (p1 - (IntKind.wrap .i64 (0 - 0))))≤1099511627776) <| gd (([]:List (ByteArray×Int)).length+(List.replicate (IntKind.wrap .i64 (p1 - (IntKind.wrap .i64 (0 - 0)))).toNat ((ByteArray.empty,0):ByteArray×Int)).length≤1099511627776) <| gd (0≤(0:Int)∧(0:Int)≤(0:Int)∧(0:Int)≤((List.replicate (IntKind.wrap .i64 (p1 - (IntKind.wrap .i64 (0 - 0)))).toNat ((ByteArray.empty,0):ByteArray×Int)).length:Int)∧((List.replicate (IntKind.wrap .i64 (p1 - (IntKind.wrap .i64 (0 - 0)))).toNat ((ByteArray.empty,0):ByteArray×Int)).length:Int)≤((List.replicate (IntKind.wrap .i64 (p1 - (IntKind.wrap .i64 (0 - 0)))).toNat ((ByteArray.empty,0):ByteArray×Int)).length:Int)) <| some (sub (List.replicate (IntKind.wrap .i64 (p1 - (IntKind.wrap .i64 (0 - 0)))).toNat ((ByteArray.empty,0):ByteArray×Int)) (0:Int) (0:Int)) else some ([]:List (ByteArray×Int))

def jG (p1:List (ByteArray×Int)):Option (List (ByteArray×Int)) := bif decide ((IntKind.wrap .i64 (0+(p1.length:Int)))<0) then none else nm (IntKind.wrap .i64 ((IntKind.wrap .i64 (0+(p1.length:Int)))+0)) fun v2 => bif decide (v2<0) then none else bd (ee v2) fun x3 => gd (x3.length+p1.length≤1099511627776) <| gd ((x3++p1).length+([]:List (ByteArray×Int)).length≤1099511627776) <| some ((x3++p1)++([]:List (ByteArray×Int)))

def dH (p1:List (ByteArray×Int)) (p2:List (ByteArray×Int)):Option (List (ByteArray×Int)) := bif decide ((IntKind.wrap .i64 (0+(p1.length:Int)))<0) then none else nm (IntKind.wrap .i64 ((IntKind.wrap .i64 (0+(p1.length:Int)))+(p2.length:Int))) fun v3 => bif decide (v3<0) then none else bd (ee v3) fun x4 => gd (x4.length+p1.length≤1099511627776) <| gd ((x4++p1).length+p2.length≤1099511627776) <| some ((x4++p1)++p2)

def cL (rec:(List (ByteArray×Int))→Int→Int→Option ((List (ByteArray×Int))×Bool)) (p1:List (ByteArray×Int)) (p2:Int) (p3:Int):Nat→Int→Option (List (ByteArray×Int) ⊕ Unit) | 0,_=>none | fu+1,v4 => bif decide (v4<(p1.length:Int)) then gd (0≤v4∧v4<(p1.length:Int)) <| gd (0≤(IntKind.wrap .i64 (v4+1))∧(IntKind.wrap .i64 (v4+1))≤(p1.length:Int)∧(p1.length:Int)≤(p1.length:Int)∧(p1.length:Int)≤(p1.length:Int)) <| bd (rec (sub p1 (IntKind.wrap .i64 (v4+1)) (p1.length:Int)) (IntKind.wrap .i64 (p2 - 1)) (Go.bits .andNot .i64 p3 ((gt p1 v4).2))) fun x5 => bif x5.2 then bd (dH ([((gt p1 v4).1,(gt p1 v4).2)]:List (ByteArray×Int)) x5.1) fun x6 => some (Sum.inl x6) else cL rec p1 p2 p3 fu (IntKind.wrap .i64 (v4+1)) else some (Sum.inr ())

def m_impl_fewest:Nat→(List (ByteArray×Int))→(Int)→(Int)→Option ((List (ByteArray×Int))×Bool) | 0,_,_,_=>none | fu+1,p1,p2,p3 => bif decide (p2=0) then some (([]:List (ByteArray×Int)),decide (p3=0)) else bd (cL (m_impl_fewest fu) p1 p2 p3 FU 0) fun x7 => sm x7 (fun x8 => some (x8,true)) (fun x9 => some (([]:List (ByteArray×Int)),false))

def cm (x4:List (ByteArray×Int)):Nat→Int→Option (List (ByteArray×Int)) | 0,_=>none | fu+1,v5 => bd (dW x4) fun x6 => bd (m_impl_fewest FU x4 v5 x6) fun x7 => bif x7.2 then some x7.1 else cm x4 fu (IntKind.wrap .i64 (v5+1))

def fx (p1:List (ByteArray×Int)) (p2:Int) (p3:Int):Option (List (ByteArray×Int)) := bd (eA p1 p2 p3) fun x4 => bd (cm x4 FU 0) fun x8 => some x8

def jt (p1:ByteArray) (p2:Int):Option (Unit) := some ()

def bX (p1:List (ByteArray×Int)):Nat→(List (ByteArray))→Int→Option (List (ByteArray)) | 0,_,_=>none | fu+1,v2,v3 => bif decide (v3<(p1.length:Int)) then gd (0≤v3∧v3<(p1.length:Int)) <| bd (jt ((gt p1 v3).1) ((gt p1 v3).2)) fun x4 => gd (v2.length+([(gt p1 v3).1]:List (ByteArray)).length≤1099511627776) <| bX p1 fu (v2++([(gt p1 v3).1]:List (ByteArray))) (IntKind.wrap .i64 (v3+1)) else some v2

def dD (p1:List (ByteArray×Int)):Option (List (ByteArray)) := bd (bX p1 FU ([]:List (ByteArray)) 0) fun x5 => bd (eS x5) fun x6 => some x5

def hH (p1:List (ByteArray)):Option (List (ByteArray)) := gd (p1.length≤1099511627776) <| some p1

def cU (p1:Int):Option (ByteArray) := gd (-9223372036854775808≤p1∧p1≤9223372036854775807) <| some ⟨(Lib.itoa p1).toArray⟩

def fL (p1:List (ByteArray)) (p2:ByteArray):Option (ByteArray) := gd (p1.length≤140737488355328) <| gd ((Lib.join (p1.map (·.data.toList)) p2.data.toList).length≤140737488355328) <| some ⟨(Lib.join (p1.map (·.data.toList)) p2.data.toList).toArray⟩

def eH (p1:List (ByteArray×Int)) (p2:Int) (p3:List (ByteArray)) (p4:Int):Option (ByteArray) := bd (hH p3) fun x5 => bif (!decide (p4=0)) then bd (cU p4) fun x6 => gd (x5.length+([x6]:List (ByteArray)).length≤1099511627776) <| nm (decide (0<((x5++([x6]:List (ByteArray))).length:Int))) fun v7 => bif v7 then bd (fL (x5++([x6]:List (ByteArray))) (ByteArray.mk #[124])) fun x8 => some x8 else bd (fw p1 0) fun x9 => bif decide (0≤x9) then gd (0≤x9∧x9<(p1.length:Int)) <| some ((gt p1 x9).1) else some (ByteArray.mk #[48]) else bif decide (0<(x5.length:Int)) then bd (fL x5 (ByteArray.mk #[124])) fun x10 => some x10 else bd (fw p1 0) fun x11 => bif decide (0≤x11) then gd (0≤x11∧x11<(p1.length:Int)) <| some ((gt p1 x11).1) else some (ByteArray.mk #[48])

def dP (p1:List (ByteArray×Int)) (p2:Int) (p3:Int):Option (ByteArray) := bd (bN p1 p2 p3) fun x4 => bif (!x4) then some ByteArray.empty else bd (fx p1 p2 p3) fun x5 => bd (dD x5) fun x6 => bd (dW x5) fun x7 => bd (eH p1 p2 x6 (Go.bits .andNot .i64 p3 x7)) fun x8 => some x8

def cg (p1:List (ByteArray×Int)) (p2:Int):Nat→(List (ByteArray×Int))→Int→Option (List (ByteArray×Int)) | 0,_,_=>none | fu+1,v3,v4 => bif decide (v4<(p1.length:Int)) then gd (0≤v4∧v4<(p1.length:Int)) <| bif decide (0<((gt p1 v4).2)) then bd (cq ((gt p1 v4).2) p2) fun x5 => bif decide (x5=0) then gd (v3.length+([((gt p1 v4).1,(gt p1 v4).2)]:List (ByteArray×Int)).length≤1099511627776) <| cg p1 p2 fu (v3++([((gt p1 v4).1,(gt p1 v4).2)]:List (ByteArray×Int))) (IntKind.wrap .i64 (v4+1)) else cg p1 p2 fu v3 (IntKind.wrap .i64 (v4+1)) else cg p1 p2 fu v3 (IntKind.wrap .i64 (v4+1)) else some v3

def gT (p1:List (ByteArray×Int)) (p2:Int):Option (List (ByteArray×Int)) := bd (cg p1 p2 FU ([]:List (ByteArray×Int)) 0) fun x6 => some x6

def cJ (rec:(List (ByteArray×Int))→Int→Int→Int→Option ((List (ByteArray×Int))×Bool)) (p1:List (ByteArray×Int)) (p3:Int) (p4:Int):Nat→Int→Option (List (ByteArray×Int) ⊕ Unit) | 0,_=>none | fu+1,v5 => bif decide (v5<(p1.length:Int)) then gd (0≤v5∧v5<(p1.length:Int)) <| bd (cq p4 ((gt p1 v5).2)) fun x6 => bd (rec p1 (IntKind.wrap .i64 (v5+1)) (IntKind.wrap .i64 (p3 - 1)) x6) fun x7 => bif x7.2 then gd (([((gt p1 v5).1,(gt p1 v5).2)]:List (ByteArray×Int)).length+x7.1.length≤1099511627776) <| some (Sum.inl (([((gt p1 v5).1,(gt p1 v5).2)]:List (ByteArray×Int))++x7.1)) else cJ rec p1 p3 p4 fu (IntKind.wrap .i64 (v5+1)) else some (Sum.inr ())

def m_spec_fewest:Nat→(List (ByteArray×Int))→(Int)→(Int)→(Int)→Option ((List (ByteArray×Int))×Bool) | 0,_,_,_,_=>none | fu+1,p1,p2,p3,p4 => bif decide (p3=0) then some (([]:List (ByteArray×Int)),decide (p4=0)) else bd (cJ (m_spec_fewest fu) p1 p3 p4 FU p2) fun x8 => sm x8 (fun x9 => some (x9,true)) (fun x10 => some (([]:List (ByteArray×Int)),false))

def dB (x3:List (ByteArray×Int)) (x4:Int):Nat→Int→Option (List (ByteArray×Int) ⊕ Unit) | 0,_=>none | fu+1,v5 => bif decide (v5≤(x3.length:Int)) then bd (m_spec_fewest FU x3 0 v5 x4) fun x6 => bif x6.2 then some (Sum.inl x6.1) else dB x3 x4 fu (IntKind.wrap .i64 (v5+1)) else some (Sum.inr ())

def iI (p1:List (ByteArray×Int)) (p2:Int):Option (List (ByteArray×Int)) := bd (gT p1 p2) fun x3 => bd (cQ x3) fun x4 => bd (dB x3 x4 FU 0) fun x7 => sm x7 (fun x8 => some x8) (fun x9 => some ([]:List (ByteArray×Int)))

def m_spec_number:Nat→(Int)→Option (ByteArray) | 0,_=>none | fu+1,p1 => bif decide (p1<10) then gd (0≤p1∧p1≤(IntKind.wrap .i64 (p1+1))∧(IntKind.wrap .i64 (p1+1))≤((ByteArray.mk #[48,49,50,51,52,53,54,55,56,57]).size:Int)) <| nm ((ByteArray.mk #[48,49,50,51,52,53,54,55,56,57]).extract p1.toNat (IntKind.wrap .i64 (p1+1)).toNat) fun v2 => some v2 else gd ((10:Int)≠0∧IntKind.wrap .i64 (Int.tdiv p1 10)=Int.tdiv p1 10) <| bd (m_spec_number fu (Int.tdiv p1 10)) fun x3 => gd ((10:Int)≠0) <| bd (m_spec_number fu (Int.tmod p1 10)) fun x4 => gd (x3.size+x4.size≤9223372036854775807) <| some (x3++x4)

def fp (p1:List (ByteArray×Int)):Option (ByteArray) := bd (eJ p1 0) fun x2 => bif decide (0≤x2) then gd (0≤x2∧x2<(p1.length:Int)) <| some ((gt p1 x2).1) else some (ByteArray.mk #[48])

def bW (p1:List (ByteArray)) (p2:ByteArray):Nat→ByteArray→Int→Option (ByteArray) | 0,_,_=>none | fu+1,v3,v4 => bif decide (v4<(p1.length:Int)) then bif decide (0<v4) then gd (v3.size+p2.size≤9223372036854775807) <| gd (0≤v4∧v4<(p1.length:Int)) <| gd ((v3++p2).size+(gt p1 v4).size≤9223372036854775807) <| bW p1 p2 fu ((v3++p2)++(gt p1 v4)) (IntKind.wrap .i64 (v4+1)) else gd (0≤v4∧v4<(p1.length:Int)) <| gd (v3.size+(gt p1 v4).size≤9223372036854775807) <| bW p1 p2 fu (v3++(gt p1 v4)) (IntKind.wrap .i64 (v4+1)) else some v3

def fm (p1:List (ByteArray)) (p2:ByteArray):Option (ByteArray) := bd (bW p1 p2 FU ByteArray.empty 0) fun x5 => some x5

def dZ (p1:List (ByteArray×Int)) (p2:List (ByteArray)) (p3:Int):Option (ByteArray) := bif decide (0<p3) then gd (([]:List (ByteArray)).length+p2.length≤1099511627776) <| bd (m_spec_number FU p3) fun x4 => gd ((([]:List (ByteArray))++p2).length+([x4]:List (ByteArray)).length≤1099511627776) <| nm ((((([]:List (ByteArray))++p2)++([x4]:List (ByteArray))).length:Int)) fun v5 => bif decide (v5=0) then bd (fp p1) fun x6 => some x6 else bd (fm ((([]:List (ByteArray))++p2)++([x4]:List (ByteArray))) (ByteArray.mk #[124])) fun x7 => some x7 else bif decide ((p2.length:Int)=0) then bd (fp p1) fun x8 => some x8 else bd (fm p2 (ByteArray.mk #[124])) fun x9 => some x9

def fU (p1:List (ByteArray×Int)) (p2:Int) (p3:Int):Option (ByteArray) := bd (eF p1 p2 p3) fun x4 => bif (!x4) then some ByteArray.empty else bd (iI p1 p3) fun x5 => bd (eT x5) fun x6 => bd (cQ x5) fun x7 => bd (cq p3 x7) fun x8 => bd (dZ p1 x6 x8) fun x9 => some x9

def de (p1:ByteArray) (p2:ByteArray):Option (List (ByteArray)) := gd (p1.size<4294967281) <| gd (1≤p2.size) <| some (Lib.splitB p2 0 (Lib.countB p1 p2) p1)

def iQ (p1:ByteArray):Option (Int×Bool) := gd (p1.size≤281474976710656) <| some (jR p1)

def eM (p1:ByteArray):Option (Int×Bool) := bd (iQ p1) fun x2 => bif x2.2 then bd (cU x2.1) fun x3 => some (x2.1,decide (x3=p1)) else some (x2.1,false)

def bE (p1:List (ByteArray×Int)) (p2:Int) (x5:List (ByteArray)):Nat→Int→Int→Option (Unit ⊕ Int) | 0,_,_=>none | fu+1,v6,v7 => bif decide (v7<(x5.length:Int)) then gd (0≤v7∧v7<(x5.length:Int)) <| bd (gQ p1 (gt x5 v7)) fun x8 => bif decide (0≤x8) then gd (0≤x8∧x8<(p1.length:Int)) <| bE p1 p2 x5 fu (Go.bits .or .i64 v6 ((gt p1 x8).2)) (IntKind.wrap .i64 (v7+1)) else bd (eM (gt x5 v7)) fun x9 => bif (!x9.2) then some (Sum.inl ()) else bd (fI x9.1 0 4095) fun x10 => bif (!x10) then some (Sum.inl ()) else bE p1 p2 x5 fu (Go.bits .or .i64 v6 x9.1) (IntKind.wrap .i64 (v7+1)) else some (Sum.inr v6)

def eO (p1:List (ByteArray×Int)) (p2:Int) (p3:ByteArray):Option (Int×Bool) := bd (dq p1 p2) fun x4 => bif (!x4) then some (0,false) else bd (de p3 (ByteArray.mk #[124])) fun x5 => bd (bE p1 p2 x5 FU 0 0) fun x11 => sm x11 (fun x12 => some (0,false)) (fun x13 => bd (bN p1 p2 x13) fun x14 => bif (!x14) then some (0,false) else some (x13,true))

def ik (p1:Int):Option (Bool) := bd (dR (IntKind.wrap .u64 (p1))) fun x2 => some (decide (x2=1))

def im (p1:Int):Option (Unit) := some ()

def ii (p1:Int) (p2:Int):Option (Int) := bd (im p1) fun x3 => bd (im p2) fun x4 => bif (!decide (p1=p1)) then bif (!decide (p2=p2)) then some 0 else some (-1) else bif (!decide (p2=p2)) then some 1 else bif decide (p1<p2) then some (-1) else bif decide (p2<p1) then some 1 else some 0

def fk (p1:ByteArray) (p2:Int) (p3:ByteArray) (p4:Int):Option (Int) := bd (ii p2 p4) fun x5 => some x5

def az (p1:Int) (p2:Int) (v4:Int):Nat→Int→(List (ByteArray×Int))→Option (List (ByteArray×Int)) | 0,_,_=>none | fu+1,v6,v7 => bif decide (p1<v6) then gd (0≤v6∧v6<(v7.length:Int)) <| gd (0≤(IntKind.wrap .i64 (v6 - 1))∧(IntKind.wrap .i64 (v6 - 1))<(v7.length:Int)) <| bd (fk ((gt v7 v6).1) ((gt v7 v6).2) ((gt v7 (IntKind.wrap .i64 (v6 - 1))).1) ((gt v7 (IntKind.wrap .i64 (v6 - 1))).2)) fun x8 => bif decide (x8<0) then az p1 p2 v4 fu (IntKind.wrap .i64 (v6 - 1)) ((v7.set (0+v6.toNat) ((gt v7 (IntKind.wrap .i64 (v6 - 1))).1,(gt v7 (IntKind.wrap .i64 (v6 - 1))).2)).set (0+(IntKind.wrap .i64 (v6 - 1)).toNat) ((gt v7 v6).1,(gt v7 v6).2)) else some v7 else some v7

def ax (p1:Int) (p2:Int):Nat→Int→(List (ByteArray×Int))→Option (List (ByteArray×Int)) | 0,_,_=>none | fu+1,v4,v5 => bif decide (v4<p2) then bd (az p1 p2 v4 FU v4 v5) fun x9 => ax p1 p2 fu (IntKind.wrap .i64 (v4+1)) x9 else some v5

def aW (p1:Int) (p2:Int) (p3:List (ByteArray×Int)):Option (List (ByteArray×Int)) := bd (ax p1 p2 FU (IntKind.wrap .i64 (p1+1)) p3) fun x10 => some x10

def bg (p1:Int) (p2:Int) (p3:Int) (p4:List (ByteArray×Int)):Nat→Option (List (ByteArray×Int)) | 0=>none | fu+1 => bif decide ((IntKind.wrap .i64 (p2 - p1))≤12) then bd (aW p1 p2 p4) fun x5 => gd (x5.length=p4.length) <| some x5 else bif decide (p3=0) then none else none

def bM (p1:Int) (p2:Int) (p3:Int) (p4:List (ByteArray×Int)):Option (List (ByteArray×Int)) := bd (bg p1 p2 p3 p4 FU) fun x6 => some x6

def bH (p1:List (ByteArray×Int)):Option (List (ByteArray×Int)) := bd (dX (IntKind.wrap .u64 ((p1.length:Int)))) fun x2 => bd (bM 0 (p1.length:Int) x2 p1) fun x3 => gd (x3.length=p1.length) <| some x3

def bn (p1:List (ByteArray×Int)):Nat→(List (ByteArray×Int))→Int→Option (List (ByteArray×Int)) | 0,_,_=>none | fu+1,v3,v4 => bif decide (v4<(p1.length:Int)) then gd (0≤v4∧v4<(p1.length:Int)) <| bd (ik ((gt p1 v4).2)) fun x5 => bif x5 then bd (fw v3 ((gt p1 v4).2)) fun x6 => bif decide (x6<0) then gd (v3.length+([((gt p1 v4).1,(gt p1 v4).2)]:List (ByteArray×Int)).length≤1099511627776) <| bn p1 fu (v3++([((gt p1 v4).1,(gt p1 v4).2)]:List (ByteArray×Int))) (IntKind.wrap .i64 (v4+1)) else bn p1 fu v3 (IntKind.wrap .i64 (v4+1)) else bn p1 fu v3 (IntKind.wrap .i64 (v4+1)) else some v3

def dC (p1:List (ByteArray×Int)) (p2:Int):Option (List (ByteArray×Int)) := bd (bn p1 FU ([]:List (ByteArray×Int)) 0) fun x7 => bd (bH x7) fun x8 => gd (x8.length=x7.length) <| some x8

def ey (p1:ByteArray) (p2:Int) (p3:Int):Option (Unit) := some ()

def aL (p1:List (ByteArray×Int)) (p2:Int):Nat→(List (ByteArray))→Int→Option (List (ByteArray)) | 0,_,_=>none | fu+1,v3,v4 => bif decide (v4<(p1.length:Int)) then gd (0≤v4∧v4<(p1.length:Int)) <| bd (ey ((gt p1 v4).1) ((gt p1 v4).2) p2) fun x5 => bif (!decide ((Go.bits .and .i64 p2 ((gt p1 v4).2))=0)) then gd (v3.length+([(gt p1 v4).1]:List (ByteArray)).length≤1099511627776) <| aL p1 p2 fu (v3++([(gt p1 v4).1]:List (ByteArray))) (IntKind.wrap .i64 (v4+1)) else aL p1 p2 fu v3 (IntKind.wrap .i64 (v4+1)) else some v3

def cu (p1:List (ByteArray×Int)) (p2:Int):Option (List (ByteArray)) := bd (aL p1 p2 FU ([]:List (ByteArray)) 0) fun x6 => bd (eS x6) fun x7 => some x6

def bI (x5:List (ByteArray)) (x6:List (ByteArray×Int)):Nat→Int→Int→Option (Int) | 0,_,_=>none | fu+1,v7,v8 => bif decide (v8<(x6.length:Int)) then gd (0≤v8∧v8<(x6.length:Int)) <| bI x5 x6 fu (Go.bits .andNot .i64 v7 ((gt x6 v8).2)) (IntKind.wrap .i64 (v8+1)) else some v7

def eD (p1:List (ByteArray×Int)) (p2:Int) (p3:Int):Option (List (ByteArray)×Int) := bd (dC p1 p2) fun x4 => bd (cu x4 p3) fun x5 => bd (dC p1 p2) fun x6 => bd (bI x5 x6 FU p3 0) fun x9 => some (x5,x9)

def cy (p1:List (ByteArray)) (p2:List (ByteArray)):Nat→Int→Option (Unit ⊕ Unit) | 0,_=>none | fu+1,v3 => bif decide (v3<(p1.length:Int)) then gd (0≤v3∧v3<(p1.length:Int)) <| gd (0≤v3∧v3<(p2.length:Int)) <| bif (!decide ((gt p1 v3)=(gt p2 v3))) then some (Sum.inl ()) else cy p1 p2 fu (IntKind.wrap .i64 (v3+1)) else some (Sum.inr ())

def eI (p1:List (ByteArray)) (p2:List (ByteArray)):Option (Bool) := bif (!decide ((p1.length:Int)=(p2.length:Int))) then some false else bd (cy p1 p2 FU 0) fun x4 => sm x4 (fun x5 => some false) (fun x6 => some true)

def cc (p1:List (ByteArray)):Nat→Int→Int→Option (Unit ⊕ Int) | 0,_,_=>none | fu+1,v3,v4 => bif decide (v4<(p1.length:Int)) then gd (0≤v4∧v4<(p1.length:Int)) <| nm (decide ((IntKind.wrap .i64 (v3 - ((gt p1 v4).size:Int)))<0)) fun v5 => bif v5 then some (Sum.inl ()) else cc p1 fu (IntKind.wrap .i64 (v3 - ((gt p1 v4).size:Int))) (IntKind.wrap .i64 (v4+1)) else some (Sum.inr v3)

def gc (p1:List (ByteArray)) (p2:Int):Option (Int) := bif decide ((IntKind.wrap .i64 (p2 - (p1.length:Int)))<0) then some (-1) else bd (cc p1 FU (IntKind.wrap .i64 (p2 - (p1.length:Int))) 0) fun x6 => sm x6 (fun x7 => some (-1)) (fun x8 => some x8)

def cz (p1:List (ByteArray)):Nat→(List (ByteArray))→Int→Option (List (ByteArray)) | 0,_,_=>none | fu+1,v2,v3 => bif decide (v3<(p1.length:Int)) then gd (0≤v3∧v3<(p1.length:Int)) <| gd (0≤v3∧v3<(v2.length:Int)) <| cz p1 fu (v2.set (0+v3.toNat) (gt p1 v3)) (IntKind.wrap .i64 (v3+1)) else some v2

def dM (p1:List (ByteArray)):Option (List (ByteArray)) := gd (0≤(p1.length:Int)∧(p1.length:Int)=(p1.length:Int)∧(16:Int)*(p1.length:Int)≤281474976710656∧(p1.length:Int)≤9223372036854775807) <| bd (cz p1 FU (List.replicate (p1.length:Int).toNat (ByteArray.empty:ByteArray)) 0) fun x4 => some x4

def ch (p1:ByteArray) (p2:Int):Nat→(List (ByteArray))→Int→Int→Option (List (ByteArray)×Int) | 0,_,_,_=>none | fu+1,v3,v4,v5 => bif decide (v5<(p1.size:Int)) then gd (0≤v5∧v5<(p1.size:Int)) <| bif decide ((aD p1 v5.toNat)=p2) then gd (0≤v4∧v4≤v5∧v5≤(p1.size:Int)) <| gd (v3.length+([p1.extract v4.toNat v5.toNat]:List (ByteArray)).length≤1099511627776) <| ch p1 p2 fu (v3++([p1.extract v4.toNat v5.toNat]:List (ByteArray))) (IntKind.wrap .i64 (v5+1)) (IntKind.wrap .i64 (v5+1)) else ch p1 p2 fu v3 v4 (IntKind.wrap .i64 (v5+1)) else some (v3,v4)

def ck (p1:ByteArray) (p2:Int):Option (List (ByteArray)) := bd (ch p1 p2 FU ([]:List (ByteArray)) 0 0) fun x6 => gd (0≤x6.2∧x6.2≤(p1.size:Int)∧(p1.size:Int)≤(p1.size:Int)) <| gd (x6.1.length+([p1.extract x6.2.toNat (p1.size:Int).toNat]:List (ByteArray)).length≤1099511627776) <| some (x6.1++([p1.extract x6.2.toNat (p1.size:Int).toNat]:List (ByteArray)))

def bV (p1:ByteArray):Nat→Int→Int→Option (Unit ⊕ Int) | 0,_,_=>none | fu+1,v2,v3 => bif decide (v3<(p1.size:Int)) then gd (0≤v3∧v3<(p1.size:Int)) <| bif decide ((aD p1 v3.toNat)<48) then some (Sum.inl ()) else bif decide (57<(aD p1 v3.toNat)) then some (Sum.inl ()) else bif decide (4095<v2) then some (Sum.inl ()) else nm (IntKind.wrap .i64 (IntKind.wrap .u8 ((aD p1 v3.toNat) - 48))) fun v4 => bV p1 fu (IntKind.wrap .i64 ((IntKind.wrap .i64 (10*v2))+v4)) (IntKind.wrap .i64 (v3+1)) else some (Sum.inr v2)

def cC (p1:ByteArray):Option (Int) := bd (bV p1 FU 0 0) fun x5 => sm x5 (fun x6 => some (-1)) (fun x7 => bif decide (p1=ByteArray.empty) then some (-1) else bif decide (4096<x7) then some (-1) else bd (m_spec_number FU x7) fun x8 => bif (!decide (x8=p1)) then some (-1) else some x7)

def ef (p1:ByteArray):Option (Int×Bool) := bif (!decide (p1=ByteArray.empty)) then gd (0≤(0:Int)∧(0:Int)<(p1.size:Int)) <| bif decide ((aD p1 (0:Int).toNat)=45) then gd (0≤(1:Int)∧(1:Int)≤(p1.size:Int)∧(p1.size:Int)≤(p1.size:Int)) <| bd (cC (p1.extract (1:Int).toNat (p1.size:Int).toNat)) fun x2 => bif decide (x2<0) then some (0,false) else bif decide (x2=0) then some (0,false) else some (IntKind.wrap .i64 (0 - x2),true) else bd (cC p1) fun x3 => bif decide (x3<0) then some (0,false) else some (x3,true) else bd (cC p1) fun x4 => bif decide (x4<0) then some (0,false) else some (x4,true)

def gh (p1:ByteArray):Option (ByteArray×Bool×Int×Bool) := bd (ck p1 32) fun x2 => bif decide ((x2.length:Int)=1) then some (p1,true,0,true) else bif (!decide ((x2.length:Int)=3)) then some (ByteArray.empty,false,0,false) else gd (0≤(1:Int)∧(1:Int)<(x2.length:Int)) <| bif (!decide ((gt x2 (1:Int))=(ByteArray.mk #[61]))) then some (ByteArray.empty,false,0,false) else gd (0≤(2:Int)∧(2:Int)<(x2.length:Int)) <| bd (ef (gt x2 (2:Int))) fun x3 => gd (0≤(0:Int)∧(0:Int)<(x2.length:Int)) <| some ((gt x2 (0:Int)),false,x3.1,x3.2)

def bJ (x2:List (ByteArray)):Nat→(List (ByteArray×Bool×Int))→Int→Option (Unit ⊕ List (ByteArray×Bool×Int)) | 0,_,_=>none | fu+1,v4,v5 => bif decide ((IntKind.wrap .i64 (v5+1))<(x2.length:Int)) then gd (0≤v5∧v5<(x2.length:Int)) <| bd (gh (gt x2 v5)) fun x6 => bif (!x6.2.2.2) then some (Sum.inl ()) else gd (v4.length+([(x6.1,x6.2.1,x6.2.2.1)]:List (ByteArray×Bool×Int)).length≤1099511627776) <| bJ x2 fu (v4++([(x6.1,x6.2.1,x6.2.2.1)]:List (ByteArray×Bool×Int))) (IntKind.wrap .i64 (v5+1)) else some (Sum.inr v4)

def fC (p1:ByteArray):Option (ByteArray×(List (ByteArray×Bool×Int))×Bool) := bd (ck p1 10) fun x2 => bif decide ((x2.length:Int)<2) then some (ByteArray.empty,([]:List (ByteArray×Bool×Int)),false) else gd (0≤(IntKind.wrap .i64 ((x2.length:Int) - 1))∧(IntKind.wrap .i64 ((x2.length:Int) - 1))<(x2.length:Int)) <| nm ((!decide ((gt x2 (IntKind.wrap .i64 ((x2.length:Int) - 1)))=ByteArray.empty))) fun v3 => bif v3 then some (ByteArray.empty,([]:List (ByteArray×Bool×Int)),false) else bd (bJ x2 FU ([]:List (ByteArray×Bool×Int)) 1) fun x7 => sm x7 (fun x8 => some (ByteArray.empty,([]:List (ByteArray×Bool×Int)),false)) (fun x9 => gd (0≤(0:Int)∧(0:Int)<(x2.length:Int)) <| some ((gt x2 (0:Int)),x9,true))

def gM :Option (Unit) := some ()

def da (p1:ByteArray):Nat→Int→Option (Int ⊕ Unit) | 0,_=>none | fu+1,v3 => nm ((([(ByteArray.mk #[115,116,114,105,99,116]),(ByteArray.mk #[102,105,116]),(ByteArray.mk #[101,106,101,99,116]),(ByteArray.mk #[107,101,101,112])]:List (ByteArray)).length:Int)) fun v4 => bif decide (v3<v4) then gd (0≤v3∧v3<(([(ByteArray.mk #[115,116,114,105,99,116]),(ByteArray.mk #[102,105,116]),(ByteArray.mk #[101,106,101,99,116]),(ByteArray.mk #[107,101,101,112])]:List (ByteArray)).length:Int)) <| nm ((gt ([(ByteArray.mk #[115,116,114,105,99,116]),(ByteArray.mk #[102,105,116]),(ByteArray.mk #[101,106,101,99,116]),(ByteArray.mk #[107,101,101,112])]:List (ByteArray)) v3)) fun v5 => gd ((ByteArray.mk #[102,108,97,103,32]).size+v5.size≤9223372036854775807) <| nm (decide (p1=((ByteArray.mk #[102,108,97,103,32])++v5))) fun v6 => bif v6 then some (Sum.inl v3) else da p1 fu (IntKind.wrap .i64 (v3+1)) else some (Sum.inr ())

def fO (p1:ByteArray):Option (Int) := bd (gM) fun x2 => bd (da p1 FU 0) fun x7 => sm x7 (fun x8 => some x8) (fun x9 => some (-1))

def fX (p1:ByteArray):Option ((List (ByteArray×Int))×Int×Bool) := bd (fC p1) fun x2 => bif (!x2.2.2) then some (([]:List (ByteArray×Int)),0,false) else bd (fO x2.1) fun x3 => bif decide (x3<0) then some (([]:List (ByteArray×Int)),0,false) else bd (fO x2.1) fun x4 => bd (gg x2.2.1 x4) fun x5 => some (x5.1,x5.2.1,x5.2.2)

def iu (p1:List (ByteArray×Int)):Option (Int) := bd (fN p1) fun x2 => some (IntKind.wrap .i64 (x2 - 1))

def jq (p1:List (ByteArray×Int)) (p2:Int) (p3:Int):Option (Int×Int) := bif decide (p3<0) then bif decide (p2=3) then bd (iu p1) fun x4 => bd (cq x4 (IntKind.wrap .i64 ((IntKind.wrap .i64 (0 - p3)) - 1))) fun x5 => some (x5,0) else bd (cQ p1) fun x6 => bd (cq x6 (IntKind.wrap .i64 ((IntKind.wrap .i64 (0 - p3)) - 1))) fun x7 => some (x7,0) else bd (cQ p1) fun x8 => bd (cq p3 x8) fun x9 => bif decide (x9=0) then some (p3,0) else bif decide (p2=0) then some (0,2) else bif decide (p2=1) then bd (cQ p1) fun x10 => bd (dT p3 x10) fun x11 => some (x11,0) else bif decide (p2=2) then some (p3,1) else some (p3,0)

def dp (p1:List (ByteArray×Int)) (p2:Int) (p3:Int):Option (ByteArray) := bd (il p1 p3) fun x4 => bd (eT x4) fun x5 => bd (cQ x4) fun x6 => bd (cq p3 x6) fun x7 => bd (dZ p1 x5 x7) fun x8 => some x8

def gu (p1:List (ByteArray×Int)) (p2:Int) (p3:Int):Option (ByteArray) := bd (jq p1 p2 p3) fun x4 => bif decide (x4.2=0) then bd (dp p1 p2 x4.1) fun x5 => some x5 else bif decide (x4.2=1) then bd (m_spec_number FU x4.1) fun x6 => gd ((ByteArray.mk #[110,117,109,98,101,114,32]).size+x6.size≤9223372036854775807) <| some ((ByteArray.mk #[110,117,109,98,101,114,32])++x6) else some (ByteArray.mk #[119,114,111,110,103])

def gF (p1:List (ByteArray×Int)) (p2:ByteArray):Option (Int) := bd (fP p1 p2) fun x3 => bif decide (0≤x3) then gd (0≤x3∧x3<(p1.length:Int)) <| some ((gt p1 x3).2) else bd (cC p2) fun x4 => some x4

def cd (p1:List (ByteArray×Int)) (p2:Int) (x4:List (ByteArray)):Nat→Int→Int→Option (Unit ⊕ Int) | 0,_,_=>none | fu+1,v5,v6 => bif decide (v6<(x4.length:Int)) then gd (0≤v6∧v6<(x4.length:Int)) <| bd (gF p1 (gt x4 v6)) fun x7 => bif decide (x7<0) then some (Sum.inl ()) else bd (dI v5 x7) fun x8 => cd p1 p2 x4 fu x8 (IntKind.wrap .i64 (v6+1)) else some (Sum.inr v5)

def bA (p1:List (ByteArray×Int)) (p2:Int) (p3:ByteArray):Option (Int) := bd (ck p3 124) fun x4 => bd (cd p1 p2 x4 FU 0 0) fun x9 => sm x9 (fun x10 => some (-1)) (fun x11 => bd (eF p1 p2 x11) fun x12 => bif (!x12) then some (-1) else some x11)

def fb (p1:List (ByteArray×Int)) (p2:Int) (p3:Int):Option (Int) := bd (eF p1 p2 p3) fun x4 => bif (!x4) then some (-1) else bif decide (p2=3) then bd (iu p1) fun x5 => bd (cq x5 p3) fun x6 => some x6 else bd (cQ p1) fun x7 => bd (cq x7 p3) fun x8 => some x8

def ia (p1:List (ByteArray×Int)) (p2:Int) (p3:ByteArray):Option (ByteArray) := bd (ck p3 32) fun x4 => gd (0≤(IntKind.wrap .i64 ((x4.length:Int) - 1))∧(IntKind.wrap .i64 ((x4.length:Int) - 1))<(x4.length:Int)) <| bd (ef (gt x4 (IntKind.wrap .i64 ((x4.length:Int) - 1)))) fun x5 => bif decide ((x4.length:Int)=2) then gd (0≤(0:Int)∧(0:Int)<(x4.length:Int)) <| nm (decide ((gt x4 (0:Int))=(ByteArray.mk #[109,97,107,101]))) fun v6 => bif v6 then bif x5.2 then bd (cE x5.1 (-4096) 4095) fun x7 => bif x7 then bd (gu p1 p2 x5.1) fun x8 => some x8 else bif decide ((x4.length:Int)<2) then some (ByteArray.mk #[119,104,97,116]) else bif decide (3<(x4.length:Int)) then some (ByteArray.mk #[119,104,97,116]) else gd (0≤(1:Int)∧(1:Int)<(x4.length:Int)) <| bd (bA p1 p2 (gt x4 (1:Int))) fun x9 => bd (bA p1 p2 (gt x4 (IntKind.wrap .i64 ((x4.length:Int) - 1)))) fun x10 => some (ByteArray.mk #[119,104,97,116]) else bif decide ((x4.length:Int)<2) then some (ByteArray.mk #[119,104,97,116]) else bif decide (3<(x4.length:Int)) then some (ByteArray.mk #[119,104,97,116]) else gd (0≤(1:Int)∧(1:Int)<(x4.length:Int)) <| bd (bA p1 p2 (gt x4 (1:Int))) fun x11 => bd (bA p1 p2 (gt x4 (IntKind.wrap .i64 ((x4.length:Int) - 1)))) fun x12 => some (ByteArray.mk #[119,104,97,116]) else bif decide ((x4.length:Int)<2) then some (ByteArray.mk #[119,104,97,116]) else bif decide (3<(x4.length:Int)) then some (ByteArray.mk #[119,104,97,116]) else gd (0≤(1:Int)∧(1:Int)<(x4.length:Int)) <| bd (bA p1 p2 (gt x4 (1:Int))) fun x13 => bd (bA p1 p2 (gt x4 (IntKind.wrap .i64 ((x4.length:Int) - 1)))) fun x14 => nm (decide ((gt x4 (0:Int))=(ByteArray.mk #[118,97,108,117,101]))) fun v15 => bif v15 then bif decide (0≤x13) then bd (m_spec_number FU x13) fun x16 => some x16 else some (ByteArray.mk #[119,104,97,116]) else nm (decide ((gt x4 (0:Int))=(ByteArray.mk #[115,104,111,119]))) fun v17 => bif v17 then bif decide (0≤x13) then bd (dp p1 p2 x13) fun x18 => some x18 else some (ByteArray.mk #[119,104,97,116]) else nm (decide ((gt x4 (0:Int))=(ByteArray.mk #[115,104,111,114,116]))) fun v19 => bif v19 then bif decide (0≤x13) then bd (fU p1 p2 x13) fun x20 => some x20 else some (ByteArray.mk #[119,104,97,116]) else bif decide ((gt x4 (0:Int))=(ByteArray.mk #[110,111,116])) then bif decide (0≤x13) then bd (fb p1 p2 x13) fun x21 => bd (dp p1 p2 x21) fun x22 => some x22 else some (ByteArray.mk #[119,104,97,116]) else some (ByteArray.mk #[119,104,97,116]) else bif decide ((x4.length:Int)<2) then some (ByteArray.mk #[119,104,97,116]) else bif decide (3<(x4.length:Int)) then some (ByteArray.mk #[119,104,97,116]) else gd (0≤(1:Int)∧(1:Int)<(x4.length:Int)) <| bd (bA p1 p2 (gt x4 (1:Int))) fun x23 => bd (bA p1 p2 (gt x4 (IntKind.wrap .i64 ((x4.length:Int) - 1)))) fun x24 => bif decide ((x4.length:Int)=3) then gd (0≤(0:Int)∧(0:Int)<(x4.length:Int)) <| bif decide ((gt x4 (0:Int))=(ByteArray.mk #[111,114])) then bif decide (0≤x23) then bif decide (0≤x24) then bd (dI x23 x24) fun x25 => bd (dp p1 p2 x25) fun x26 => some x26 else some (ByteArray.mk #[119,104,97,116]) else some (ByteArray.mk #[119,104,97,116]) else bif decide ((gt x4 (0:Int))=(ByteArray.mk #[97,110,100])) then bif decide (0≤x23) then bif decide (0≤x24) then bd (dT x23 x24) fun x27 => bd (dp p1 p2 x27) fun x28 => some x28 else some (ByteArray.mk #[119,104,97,116]) else some (ByteArray.mk #[119,104,97,116]) else nm (decide ((gt x4 (0:Int))=(ByteArray.mk #[108,101,115,115]))) fun v29 => bif v29 then bif decide (0≤x23) then bif decide (0≤x24) then bd (cq x23 x24) fun x30 => bd (dp p1 p2 x30) fun x31 => some x31 else some (ByteArray.mk #[119,104,97,116]) else some (ByteArray.mk #[119,104,97,116]) else some (ByteArray.mk #[119,104,97,116]) else some (ByteArray.mk #[119,104,97,116])

def cB (p2:List (ByteArray)) (x3:(List (ByteArray×Int))×Int×Bool):Nat→ByteArray→Int→Option (ByteArray) | 0,_,_=>none | fu+1,v4,v5 => bif decide (v5<(p2.length:Int)) then bif x3.2.2 then gd (0≤v5∧v5<(p2.length:Int)) <| bd (ia x3.1 x3.2.1 (gt p2 v5)) fun x6 => gd (v4.size+x6.size≤9223372036854775807) <| gd ((v4++x6).size+(ByteArray.mk #[10]).size≤9223372036854775807) <| cB p2 x3 fu ((v4++x6)++(ByteArray.mk #[10])) (IntKind.wrap .i64 (v5+1)) else gd (v4.size+(ByteArray.mk #[119,114,111,110,103,10]).size≤9223372036854775807) <| cB p2 x3 fu (v4++(ByteArray.mk #[119,114,111,110,103,10])) (IntKind.wrap .i64 (v5+1)) else some v4

def gV (p1:ByteArray) (p2:List (ByteArray)):Option (ByteArray) := bif decide (20<(p2.length:Int)) then some ByteArray.empty else bd (fX p1) fun x3 => bd (cB p2 x3 FU ByteArray.empty 0) fun x7 => some x7

def gj (p1:ByteArray) (p2:ByteArray):Option (ByteArray×Bool) := gd (p1.size≤9223372036854775807) <| some (⟨(Lib.trimSuffix p1.data.toList p2.data.toList).toArray⟩,Lib.hasSuffix p1.data.toList p2.data.toList)

def js (p1:ByteArray) (p2:ByteArray):Option (ByteArray×ByteArray×Bool) := gd (p1.size<4294967281) <| some (⟨(Lib.cut p1.data.toList p2.data.toList).1.toArray⟩,⟨(Lib.cut p1.data.toList p2.data.toList).2.1.toArray⟩,(Lib.cut p1.data.toList p2.data.toList).2.2)

def bD (x3:List (ByteArray)):Nat→(List (ByteArray×Bool×Int))→Int→Option (Unit ⊕ List (ByteArray×Bool×Int)) | 0,_,_=>none | fu+1,v4,v5 => nm (decide (v5<(((x3.length:Int).toNat - (1:Int).toNat:Nat):Int))) fun v6 => bif v6 then gd ((0≤v5∧v5<(((x3.length:Int).toNat - (1:Int).toNat:Nat):Int))∧(1:Int).toNat+v5.toNat<x3.length) <| bd (js (gt x3 (((1:Int).toNat+v5.toNat:Nat):Int)) (ByteArray.mk #[32,61,32])) fun x7 => bif x7.2.2 then bd (eM x7.2.1) fun x8 => bif (!x8.2) then some (Sum.inl ()) else gd (v4.length+([(x7.1,(!x7.2.2),x8.1)]:List (ByteArray×Bool×Int)).length≤1099511627776) <| bD x3 fu (v4++([(x7.1,(!x7.2.2),x8.1)]:List (ByteArray×Bool×Int))) (IntKind.wrap .i64 (v5+1)) else gd (v4.length+([(x7.1,(!x7.2.2),0)]:List (ByteArray×Bool×Int)).length≤1099511627776) <| bD x3 fu (v4++([(x7.1,(!x7.2.2),0)]:List (ByteArray×Bool×Int))) (IntKind.wrap .i64 (v5+1)) else some (Sum.inr v4)

def fZ (p1:ByteArray):Option (ByteArray×(List (ByteArray×Bool×Int))×Bool) := bd (gj p1 (ByteArray.mk #[10])) fun x2 => bd (de x2.1 (ByteArray.mk #[10])) fun x3 => bif (!x2.2) then some (ByteArray.empty,([]:List (ByteArray×Bool×Int)),false) else bif decide (13<(x3.length:Int)) then some (ByteArray.empty,([]:List (ByteArray×Bool×Int)),false) else gd (0≤(1:Int)∧(1:Int)≤(x3.length:Int)∧(x3.length:Int)≤(x3.length:Int)∧(x3.length:Int)≤(x3.length:Int)) <| bd (bD x3 FU ([]:List (ByteArray×Bool×Int)) 0) fun x9 => sm x9 (fun x10 => some (ByteArray.empty,([]:List (ByteArray×Bool×Int)),false)) (fun x11 => gd (0≤(0:Int)∧(0:Int)<(x3.length:Int)) <| some ((gt x3 (0:Int)),x11,true))

def gm (p1:ByteArray) (p2:ByteArray):Option (ByteArray×Bool) := some (⟨(Lib.trimPrefix p1.data.toList p2.data.toList).toArray⟩,Lib.hasPrefix p1.data.toList p2.data.toList)

def cw (p1:List (ByteArray)) (p2:ByteArray):Nat→Int→Option (Int ⊕ Unit) | 0,_=>none | fu+1,v3 => bif decide (v3<(p1.length:Int)) then gd (0≤v3∧v3<(p1.length:Int)) <| bif decide (p2=(gt p1 v3)) then some (Sum.inl v3) else cw p1 p2 fu (IntKind.wrap .i64 (v3+1)) else some (Sum.inr ())

def eK (p1:List (ByteArray)) (p2:ByteArray):Option (Int) := bd (cw p1 p2 FU 0) fun x4 => sm x4 (fun x5 => some x5) (fun x6 => some (-1))

def fR (p1:ByteArray):Option ((List (ByteArray×Int))×Int×Bool) := bd (fZ p1) fun x2 => bd (gm x2.1 (ByteArray.mk #[102,108,97,103,32])) fun x3 => bd (eK boundWords x3.1) fun x4 => bif (!x2.2.2) then some (([]:List (ByteArray×Int)),0,false) else bif (!x3.2) then some (([]:List (ByteArray×Int)),0,false) else bif decide (x4<0) then some (([]:List (ByteArray×Int)),0,false) else bd (ga x2.2.1 x4) fun x5 => some (x5.1,x5.2.1,x5.2.2)

def fV (p1:List (ByteArray×Int)) (p2:Int):Option (Int) := bd (cr p1 p2) fun x3 => bd (dX (IntKind.wrap .u64 (x3))) fun x4 => gd (0≤x4∧x4≤(IntKind.bits .i64:Int)) <| nm (IntKind.wrap .i64 ((IntKind.wrap .i64 ((1:Int)*2 ^ x4.toNat)) - 1)) fun v5 => some v5

def eh (p1:List (ByteArray×Int)) (p2:Int):Option (Int) := bif decide (p2=3) then bd (fV p1 p2) fun x3 => some x3 else bd (cr p1 p2) fun x4 => some x4

def fQ (p1:List (ByteArray×Int)) (p2:Int) (p3:Int):Option (Int×Int) := bd (dq p1 p2) fun x4 => bif (!x4) then some (0,2) else bd (fI p3 (-4096) 4095) fun x5 => bif (!x5) then some (0,2) else bif decide (p3<0) then bd (eh p1 p2) fun x6 => nm (Go.bits .andNot .i64 x6 (IntKind.wrap .i64 ((IntKind.wrap .i64 (0 - p3)) - 1))) fun v7 => some (v7,0) else bd (cr p1 p2) fun x8 => bif decide ((Go.bits .andNot .i64 p3 x8)=0) then some (p3,0) else bif decide (p2=3) then some (p3,0) else bif decide (p2=1) then bd (cr p1 p2) fun x9 => some (Go.bits .and .i64 p3 x9,0) else bif decide (p2=2) then some (p3,1) else some (0,2)

def bh (p1:List (ByteArray×Int)) (p2:Int) (p3:Int):Option (ByteArray) := bd (bN p1 p2 p3) fun x4 => bif (!x4) then some ByteArray.empty else bd (eD p1 p2 p3) fun x5 => bd (eH p1 p2 x5.1 x5.2) fun x6 => some x6

def gy (p1:List (ByteArray×Int)) (p2:Int) (p3:ByteArray):Option (ByteArray) := bd (eM p3) fun x4 => bif (!x4.2) then some (ByteArray.mk #[119,104,97,116]) else bd (fI x4.1 (-4096) 4095) fun x5 => bif (!x5) then some (ByteArray.mk #[119,104,97,116]) else bd (fQ p1 p2 x4.1) fun x6 => bif decide (x6.2=0) then bd (bh p1 p2 x6.1) fun x7 => some x7 else bif decide (x6.2=1) then bd (cU x6.1) fun x8 => gd ((ByteArray.mk #[110,117,109,98,101,114,32]).size+x8.size≤9223372036854775807) <| some ((ByteArray.mk #[110,117,109,98,101,114,32])++x8) else some (ByteArray.mk #[119,114,111,110,103])

def dj (p1:List (ByteArray×Int)) (p2:Int) (p3:Int):Option (Int) := bd (bN p1 p2 p3) fun x4 => bif (!x4) then some (-1) else bd (eh p1 p2) fun x5 => some (Go.bits .andNot .i64 x5 p3)

def gK (p1:Int) (p2:Int):Option (Unit) := some ()

def eW (p1:List (ByteArray×Int)) (p2:Int) (p3:Int) (p4:Int):Option (Int) := bd (bN p1 p2 p3) fun x5 => bif (!x5) then some (-1) else bd (bN p1 p2 p4) fun x6 => bif (!x6) then some (-1) else bd (gK p3 p4) fun x7 => some (Go.bits .or .i64 p3 p4)

def dU (p1:List (ByteArray×Int)) (p2:Int) (p3:Int) (p4:Int):Option (Int) := bd (eW p1 p2 p3 p4) fun x5 => some x5

def gB (p1:Int) (p2:Int):Option (Unit) := some ()

def eu (p1:List (ByteArray×Int)) (p2:Int) (p3:Int) (p4:Int):Option (Int) := bd (bN p1 p2 p3) fun x5 => bif (!x5) then some (-1) else bd (bN p1 p2 p4) fun x6 => bif (!x6) then some (-1) else bd (gB p3 p4) fun x7 => some (Go.bits .and .i64 p3 p4)

def dL (p1:List (ByteArray×Int)) (p2:Int) (p3:Int) (p4:Int):Option (Int) := bd (eu p1 p2 p3 p4) fun x5 => some x5

def dk (p1:List (ByteArray×Int)) (p2:Int) (x4:List (ByteArray)):Nat→(List (Int))→Int→Option (Unit ⊕ List (Int)) | 0,_,_=>none | fu+1,v7,v8 => nm (decide (v8<(((x4.length:Int).toNat - (1:Int).toNat:Nat):Int))) fun v9 => bif v9 then gd ((0≤v8∧v8<(((x4.length:Int).toNat - (1:Int).toNat:Nat):Int))∧(1:Int).toNat+v8.toNat<x4.length) <| bd (eO p1 p2 (gt x4 (((1:Int).toNat+v8.toNat:Nat):Int))) fun x10 => bif (!x10.2) then some (Sum.inl ()) else gd (v7.length+([x10.1]:List (Int)).length≤1099511627776) <| dk p1 p2 x4 fu (v7++([x10.1]:List (Int))) (IntKind.wrap .i64 (v8+1)) else some (Sum.inr v7)

def bK (p1:List (ByteArray×Int)) (p2:Int) (x4:List (ByteArray)):Nat→(List (Int))→Int→Option (Unit ⊕ List (Int)) | 0,_,_=>none | fu+1,v14,v15 => nm (decide (v15<(((x4.length:Int).toNat - (1:Int).toNat:Nat):Int))) fun v16 => bif v16 then gd ((0≤v15∧v15<(((x4.length:Int).toNat - (1:Int).toNat:Nat):Int))∧(1:Int).toNat+v15.toNat<x4.length) <| bd (eO p1 p2 (gt x4 (((1:Int).toNat+v15.toNat:Nat):Int))) fun x17 => bif (!x17.2) then some (Sum.inl ()) else gd (v14.length+([x17.1]:List (Int)).length≤1099511627776) <| bK p1 p2 x4 fu (v14++([x17.1]:List (Int))) (IntKind.wrap .i64 (v15+1)) else some (Sum.inr v14)

def fl (p1:List (ByteArray×Int)) (p2:Int) (p3:ByteArray):Option (ByteArray) := bd (de p3 (ByteArray.mk #[32])) fun x4 => gd (0≤(0:Int)∧(0:Int)<(x4.length:Int)) <| nm (decide ((gt x4 (0:Int))=(ByteArray.mk #[109,97,107,101]))) fun v5 => bif v5 then bif decide ((x4.length:Int)=2) then gd (0≤(1:Int)∧(1:Int)<(x4.length:Int)) <| bd (gy p1 p2 (gt x4 (1:Int))) fun x6 => some x6 else gd (0≤(1:Int)∧(1:Int)≤(x4.length:Int)∧(x4.length:Int)≤(x4.length:Int)∧(x4.length:Int)≤(x4.length:Int)) <| bd (dk p1 p2 x4 FU ([]:List (Int)) 0) fun x11 => sm x11 (fun x12 => some (ByteArray.mk #[119,104,97,116])) (fun x13 => some (ByteArray.mk #[119,104,97,116])) else gd (0≤(1:Int)∧(1:Int)≤(x4.length:Int)∧(x4.length:Int)≤(x4.length:Int)∧(x4.length:Int)≤(x4.length:Int)) <| bd (bK p1 p2 x4 FU ([]:List (Int)) 0) fun x18 => sm x18 (fun x19 => some (ByteArray.mk #[119,104,97,116])) (fun x20 => nm (decide ((gt x4 (0:Int))=(ByteArray.mk #[118,97,108,117,101]))) fun v21 => bif v21 then bif decide ((x20.length:Int)=1) then gd (0≤(0:Int)∧(0:Int)<(x20.length:Int)) <| bd (cU (gt x20 (0:Int))) fun x22 => some x22 else some (ByteArray.mk #[119,104,97,116]) else nm (decide ((gt x4 (0:Int))=(ByteArray.mk #[115,104,111,119]))) fun v23 => bif v23 then bif decide ((x20.length:Int)=1) then gd (0≤(0:Int)∧(0:Int)<(x20.length:Int)) <| bd (bh p1 p2 (gt x20 (0:Int))) fun x24 => some x24 else some (ByteArray.mk #[119,104,97,116]) else nm (decide ((gt x4 (0:Int))=(ByteArray.mk #[115,104,111,114,116]))) fun v25 => bif v25 then bif decide ((x20.length:Int)=1) then gd (0≤(0:Int)∧(0:Int)<(x20.length:Int)) <| bd (dP p1 p2 (gt x20 (0:Int))) fun x26 => some x26 else some (ByteArray.mk #[119,104,97,116]) else bif decide ((gt x4 (0:Int))=(ByteArray.mk #[110,111,116])) then bif decide ((x20.length:Int)=1) then gd (0≤(0:Int)∧(0:Int)<(x20.length:Int)) <| bd (dj p1 p2 (gt x20 (0:Int))) fun x27 => bd (bh p1 p2 x27) fun x28 => some x28 else some (ByteArray.mk #[119,104,97,116]) else bif decide ((gt x4 (0:Int))=(ByteArray.mk #[111,114])) then bif decide ((x20.length:Int)=2) then gd (0≤(0:Int)∧(0:Int)<(x20.length:Int)) <| gd (0≤(1:Int)∧(1:Int)<(x20.length:Int)) <| bd (dU p1 p2 (gt x20 (0:Int)) (gt x20 (1:Int))) fun x29 => bd (bh p1 p2 x29) fun x30 => some x30 else some (ByteArray.mk #[119,104,97,116]) else bif decide ((gt x4 (0:Int))=(ByteArray.mk #[97,110,100])) then bif decide ((x20.length:Int)=2) then gd (0≤(0:Int)∧(0:Int)<(x20.length:Int)) <| gd (0≤(1:Int)∧(1:Int)<(x20.length:Int)) <| bd (dL p1 p2 (gt x20 (0:Int)) (gt x20 (1:Int))) fun x31 => bd (bh p1 p2 x31) fun x32 => some x32 else some (ByteArray.mk #[119,104,97,116]) else nm (decide ((gt x4 (0:Int))=(ByteArray.mk #[108,101,115,115]))) fun v33 => bif v33 then bif decide ((x20.length:Int)=2) then gd (0≤(0:Int)∧(0:Int)<(x20.length:Int)) <| gd (0≤(1:Int)∧(1:Int)<(x20.length:Int)) <| bd (dy p1 p2 (gt x20 (0:Int)) (gt x20 (1:Int))) fun x34 => bd (bh p1 p2 x34) fun x35 => some x35 else some (ByteArray.mk #[119,104,97,116]) else some (ByteArray.mk #[119,104,97,116]))

def gS (p1:ByteArray) (p2:List (ByteArray)):Option (ByteArray) := bif decide (20<(p2.length:Int)) then some ByteArray.empty else bd (fR p1) fun x3 => bd (jJ (fun l=>fl x3.1 x3.2.1 l) x3.2.2 p2) fun x4 => some ⟨x4.toArray⟩

def fi (p1:ByteArray) (p2:List (ByteArray)):Option (Bool) := bif decide (1048576<(p1.size:Int)) then some true else bd (gc p2 1048576) fun x3 => bif decide (x3<0) then some true else bd (dM p2) fun x4 => bd (gV p1 x4) fun x5 => bd (dM p2) fun x6 => bd (gS p1 x6) fun x7 => bif (!decide (x7=x5)) then some false else bd (dM p2) fun x8 => bd (eI x6 x8) fun x9 => bif (!x9) then some false else some true

end Go.Eng

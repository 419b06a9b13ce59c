/- What is said here: nothing is proved. A model of each function, printed by a program out of the translated code. -/
import Derived.Test.YtdnlgpmmkchopaaGreatDoorCRunDeskEng27
set_option linter.unusedVariables false
set_option linter.unusedSimpArgs false
namespace Go.Eng
open Go

def ay (x:Int):List Value:=[.int .i64 x]

def ab (x:ByteArray):List Value:=[.string x]

def af (x:ByteArray×Bool×Int):List Value:=[.string x.1,.bool x.2.1,.int .i64 x.2.2]

def aa (x:ByteArray×Int):List Value:=[.string x.1,.int .i64 x.2]

def ah (x:Int):List Value:=[.int .u8 x]

def FU:Nat:=4611686018427387904

def CC (ns:List Int):ByteArray:=ns.foldl (fun r n=>r.push (UInt8.ofNat n.toNat)) ByteArray.empty

def gG (p1:List (Int)):Option (List (Int)) := bif decide (2000<(p1.length:Int)) then gd (0≤(0:Int)∧(0:Int)≤(2000:Int)∧(2000:Int)≤(p1.length:Int)∧(p1.length:Int)≤(p1.length:Int)) <| some (sub p1 (0:Int) (2000:Int)) else some p1

def aJ (p1:Int) (p2:List (Int)) (p3:Int):Option (Int) := bif decide (p1<1) then some 0 else bif decide ((p2.length:Int)=0) then some 0 else nm (decide ((IntKind.wrap .i64 ((IntKind.wrap .i64 (p3+1)) - 1))<(p2.length:Int))) fun v4 => bif v4 then gd (0≤(IntKind.wrap .i64 ((IntKind.wrap .i64 (p3+1)) - 1))∧(IntKind.wrap .i64 ((IntKind.wrap .i64 (p3+1)) - 1))<(p2.length:Int)) <| nm ((gt p2 (IntKind.wrap .i64 ((IntKind.wrap .i64 (p3+1)) - 1)))) fun v5 => gd (p1≠0) <| some (Int.tmod (IntKind.wrap .i64 (v5)) p1) else gd ((p2.length:Int)≠0) <| nm (Int.tmod (IntKind.wrap .i64 ((IntKind.wrap .i64 (p3+1)) - 1)) (p2.length:Int)) fun v6 => gd (0≤v6∧v6<(p2.length:Int)) <| nm (IntKind.wrap .i64 ((IntKind.wrap .i64 ((IntKind.wrap .i64 (p3+1)) - 1))*7)) fun v7 => gd (0≤(Int.tmod (IntKind.wrap .i64 (v7+3)) (p2.length:Int))∧(Int.tmod (IntKind.wrap .i64 (v7+3)) (p2.length:Int))<(p2.length:Int)) <| nm ((gt p2 (Int.tmod (IntKind.wrap .i64 (v7+3)) (p2.length:Int)))) fun v8 => nm (IntKind.wrap .i64 ((IntKind.wrap .i64 ((IntKind.wrap .i64 ((gt p2 v6)))*131))+(IntKind.wrap .i64 ((IntKind.wrap .i64 (v8))*1117)))) fun v9 => nm (IntKind.wrap .i64 ((IntKind.wrap .i64 ((IntKind.wrap .i64 (p3+1)) - 1))*29)) fun v10 => gd ((p2.length:Int)≠0∧IntKind.wrap .i64 (Int.tdiv (IntKind.wrap .i64 ((IntKind.wrap .i64 (p3+1)) - 1)) (p2.length:Int))=Int.tdiv (IntKind.wrap .i64 ((IntKind.wrap .i64 (p3+1)) - 1)) (p2.length:Int)) <| nm (Int.tdiv (IntKind.wrap .i64 ((IntKind.wrap .i64 (p3+1)) - 1)) (p2.length:Int)) fun v11 => nm (IntKind.wrap .i64 ((IntKind.wrap .i64 (v9+v10))+(IntKind.wrap .i64 (v11*53)))) fun v12 => gd ((64:Int)≠0∧IntKind.wrap .i64 (Int.tdiv v12 64)=Int.tdiv v12 64) <| gd (p1≠0) <| some (Int.tmod (Go.bits .xor .i64 v12 (Int.tdiv v12 64)) p1)

def cv (p1:List (Int)) (p2:List (Int)) (p3:Int):Option (Int) := bd (aJ (p1.length:Int) p2 p3) fun x4 => gd (0≤x4∧x4<(p1.length:Int)) <| some (gt p1 x4)

def bq (p1:List (ByteArray)) (p2:List (Int)) (p3:Int):Option (ByteArray) := bd (aJ (p1.length:Int) p2 p3) fun x4 => gd (0≤x4∧x4<(p1.length:Int)) <| some (gt p1 x4)

def iB (p1:List (Int)) (p2:Int):Option (ByteArray) := bd (bq ([(ByteArray.mk #[97]),(ByteArray.mk #[98]),(ByteArray.mk #[99]),(ByteArray.mk #[100]),(ByteArray.mk #[101]),(ByteArray.mk #[97,98]),(ByteArray.mk #[114,101,100]),(ByteArray.mk #[98,108,117,101]),(ByteArray.mk #[111,110]),(ByteArray.mk #[111,102,102]),(ByteArray.mk #[97,108,108]),(ByteArray.mk #[102])]:List (ByteArray)) p1 p2) fun x3 => some x3

def dq (p1:List (ByteArray×Int)) (p2:ByteArray):Nat→Int→Option (Int ⊕ Unit) | 0,_=>none | fu+1,v3 => bif decide (v3<(p1.length:Int)) then gd (0≤v3∧v3<(p1.length:Int)) <| bif decide (((gt p1 v3).1)=p2) then some (Sum.inl v3) else dq p1 p2 fu (IntKind.wrap .i64 (v3+1)) else some (Sum.inr ())

def eF (p1:List (ByteArray×Int)) (p2:ByteArray):Option (Int) := bd (dq p1 p2 FU 0) fun x4 => sm x4 (fun x5 => some x5) (fun x6 => some (-1))

def aQ (p1:Int) (p2:List (Int)):Nat→(List (ByteArray×Int))→Int→Int→Option ((List (ByteArray×Int))×Int) | 0,_,_,_=>none | fu+1,v5,v6,v7 => bif decide (0<v6) then bd (iB p2 v7) fun x8 => bd (aJ 12 p2 (IntKind.wrap .i64 (v7+1))) fun x9 => bd (cv ([1,2,3,4,5,0,8,x9,(-1),7,1000,16]:List (Int)) p2 (IntKind.wrap .i64 ((IntKind.wrap .i64 (v7+1))+1))) fun x10 => bif decide (p1=4095) then bd (aJ 64 p2 (IntKind.wrap .i64 ((IntKind.wrap .i64 ((IntKind.wrap .i64 (v7+1))+1))+1))) fun x11 => bd (cv ([1,2,4,8,3,16,0,6,7,x11,2048,5,1,2,4]:List (Int)) p2 (IntKind.wrap .i64 ((IntKind.wrap .i64 ((IntKind.wrap .i64 ((IntKind.wrap .i64 (v7+1))+1))+1))+1))) fun x12 => bd (eF v5 x8) fun x13 => bif decide (x13<0) then bif decide (0≤x12) then gd (v5.length+([(x8,x12)]:List (ByteArray×Int)).length≤1099511627776) <| aQ p1 p2 fu (v5++([(x8,x12)]:List (ByteArray×Int))) (IntKind.wrap .i64 (v6 - 1)) (IntKind.wrap .i64 ((IntKind.wrap .i64 ((IntKind.wrap .i64 ((IntKind.wrap .i64 ((IntKind.wrap .i64 (v7+1))+1))+1))+1))+1)) else bif (!decide (p1=4095)) then gd (v5.length+([(x8,x12)]:List (ByteArray×Int)).length≤1099511627776) <| aQ p1 p2 fu (v5++([(x8,x12)]:List (ByteArray×Int))) (IntKind.wrap .i64 (v6 - 1)) (IntKind.wrap .i64 ((IntKind.wrap .i64 ((IntKind.wrap .i64 ((IntKind.wrap .i64 ((IntKind.wrap .i64 (v7+1))+1))+1))+1))+1)) else aQ p1 p2 fu v5 (IntKind.wrap .i64 (v6 - 1)) (IntKind.wrap .i64 ((IntKind.wrap .i64 ((IntKind.wrap .i64 ((IntKind.wrap .i64 ((IntKind.wrap .i64 (v7+1))+1))+1))+1))+1)) else aQ p1 p2 fu v5 (IntKind.wrap .i64 (v6 - 1)) (IntKind.wrap .i64 ((IntKind.wrap .i64 ((IntKind.wrap .i64 ((IntKind.wrap .i64 ((IntKind.wrap .i64 (v7+1))+1))+1))+1))+1)) else bd (eF v5 x8) fun x14 => bif decide (x14<0) then bif decide (0≤x10) then gd (v5.length+([(x8,x10)]:List (ByteArray×Int)).length≤1099511627776) <| aQ p1 p2 fu (v5++([(x8,x10)]:List (ByteArray×Int))) (IntKind.wrap .i64 (v6 - 1)) (IntKind.wrap .i64 ((IntKind.wrap .i64 ((IntKind.wrap .i64 (v7+1))+1))+1)) else bif (!decide (p1=4095)) then gd (v5.length+([(x8,x10)]:List (ByteArray×Int)).length≤1099511627776) <| aQ p1 p2 fu (v5++([(x8,x10)]:List (ByteArray×Int))) (IntKind.wrap .i64 (v6 - 1)) (IntKind.wrap .i64 ((IntKind.wrap .i64 ((IntKind.wrap .i64 (v7+1))+1))+1)) else aQ p1 p2 fu v5 (IntKind.wrap .i64 (v6 - 1)) (IntKind.wrap .i64 ((IntKind.wrap .i64 ((IntKind.wrap .i64 (v7+1))+1))+1)) else aQ p1 p2 fu v5 (IntKind.wrap .i64 (v6 - 1)) (IntKind.wrap .i64 ((IntKind.wrap .i64 ((IntKind.wrap .i64 (v7+1))+1))+1)) else some (v5,v7)

def il (p1:Int) (p2:List (Int)) (p3:Int):Option ((List (ByteArray×Int))×Int) := bd (cv ([4,3,5,2,6,1,0,12]:List (Int)) p2 p3) fun x4 => bd (aQ p1 p2 FU ([]:List (ByteArray×Int)) x4 (IntKind.wrap .i64 (p3+1))) fun x15 => some (x15.1,x15.2)

def fp (p1:List (Int)) (p2:Int):Option (ByteArray) := bd (aJ 16 p1 p2) fun x3 => bif decide (x3=0) then bd (bq ([ByteArray.empty,(ByteArray.mk #[65]),(ByteArray.mk #[116,111,111,108,111,110,103]),(ByteArray.mk #[97,49]),(ByteArray.mk #[97,32,98]),(ByteArray.mk #[97,98,99,100,101,102])]:List (ByteArray)) p1 (IntKind.wrap .i64 (p2+1))) fun x4 => some x4 else bd (iB p1 (IntKind.wrap .i64 (p2+1))) fun x5 => some x5

def dl (p1:List (ByteArray×Int)) (p2:Int):Nat→Int→Option (Int ⊕ Unit) | 0,_=>none | fu+1,v3 => bif decide (v3<(p1.length:Int)) then gd (0≤v3∧v3<(p1.length:Int)) <| bif decide (((gt p1 v3).2)=p2) then some (Sum.inl v3) else dl p1 p2 fu (IntKind.wrap .i64 (v3+1)) else some (Sum.inr ())

def fw (p1:List (ByteArray×Int)) (p2:Int):Option (Int) := bd (dl p1 p2 FU 0) fun x4 => sm x4 (fun x5 => some x5) (fun x6 => some (-1))

def bD (p1:List (ByteArray×Int)):Nat→(List (ByteArray×Int))→Int→Option (List (ByteArray×Int)) | 0,_,_=>none | fu+1,v2,v3 => bif decide (v3≤4095) then bd (fw p1 v3) fun x4 => bif decide (0≤x4) then gd (0≤x4∧x4<(p1.length:Int)) <| gd (v2.length+([((gt p1 x4).1,(gt p1 x4).2)]:List (ByteArray×Int)).length≤1099511627776) <| bD p1 fu (v2++([((gt p1 x4).1,(gt p1 x4).2)]:List (ByteArray×Int))) (IntKind.wrap .i64 (v3*2)) else bD p1 fu v2 (IntKind.wrap .i64 (v3*2)) else some v2

def fm (p1:List (ByteArray×Int)):Option (List (ByteArray×Int)) := bd (bD p1 FU ([]:List (ByteArray×Int)) 1) fun x5 => some x5

def gp (p1:Int) (p2:Int) (p3:Int):Option (Bool) := bif decide (p2≤p1) then some (decide (p1≤p3)) else some false

def dt (p1:ByteArray):Nat→Int→Option (Unit ⊕ Unit) | 0,_=>none | fu+1,v2 => bif decide (v2<(p1.size:Int)) then gd (0≤v2∧v2<(p1.size:Int)) <| bif decide ((aH p1 v2.toNat)<97) then some (Sum.inl ()) else bif decide (122<(aH p1 v2.toNat)) then some (Sum.inl ()) else dt p1 fu (IntKind.wrap .i64 (v2+1)) else some (Sum.inr ())

def gz (p1:ByteArray):Option (Bool) := bd (dt p1 FU 0) fun x3 => sm x3 (fun x4 => some false) (fun x5 => bd (gp (p1.size:Int) 1 6) fun x6 => some x6)

def iN (p1:ByteArray) (p2:Int) (p3:ByteArray):Option (Unit) := some ()

def aX (p1:List (ByteArray×Int)) (p2:ByteArray):Nat→Int→Option (Int ⊕ Unit) | 0,_=>none | fu+1,v3 => bif decide (v3<(p1.length:Int)) then gd (0≤v3∧v3<(p1.length:Int)) <| bd (iN ((gt p1 v3).1) ((gt p1 v3).2) p2) fun x4 => bif decide (((gt p1 v3).1)=p2) then some (Sum.inl v3) else aX p1 p2 fu (IntKind.wrap .i64 (v3+1)) else some (Sum.inr ())

def df (p1:List (ByteArray×Int)) (p2:ByteArray):Option (Int) := bd (aX p1 p2 FU 0) fun x5 => sm x5 (fun x6 => some x6) (fun x7 => some (-1))

def iF (p1:List (ByteArray×Int)) (p2:ByteArray):Option (Int) := bd (df p1 p2) fun x3 => some x3

def dr (p1:List (ByteArray×Int)) (p2:Int) (p3:Int):Nat→Int→Option (Unit ⊕ Unit) | 0,_=>none | fu+1,v4 => bif decide (v4<(p1.length:Int)) then gd (0≤v4∧v4<(p1.length:Int)) <| bd (gz ((gt p1 v4).1)) fun x5 => bif (!x5) then some (Sum.inl ()) else bd (gp ((gt p1 v4).2) p2 p3) fun x6 => bif (!x6) then some (Sum.inl ()) else gd (0≤(0:Int)∧(0:Int)≤v4∧v4≤(p1.length:Int)∧(p1.length:Int)≤(p1.length:Int)) <| bd (iF (sub p1 (0:Int) v4) ((gt p1 v4).1)) fun x7 => bif decide (0≤x7) then some (Sum.inl ()) else dr p1 p2 p3 fu (IntKind.wrap .i64 (v4+1)) else some (Sum.inr ())

def gE (p1:List (ByteArray×Int)) (p2:Int) (p3:Int):Option (Bool) := bd (dr p1 p2 p3 FU 0) fun x8 => sm x8 (fun x9 => some false) (fun x10 => some (decide ((p1.length:Int)≤12)))

def dx (p1:List (ByteArray×Int)) (p2:Int):Option (Bool) := bd (gE p1 0 4095) fun x3 => bif x3 then bd (gp p2 0 3) fun x4 => some x4 else some false

def cM (p1:List (ByteArray×Int)):Nat→Int→Int→Option (Int) | 0,_,_=>none | fu+1,v3,v4 => bif decide (v4<(p1.length:Int)) then gd (0≤v4∧v4<(p1.length:Int)) <| cM p1 fu (Go.bits .or .i64 v3 ((gt p1 v4).2)) (IntKind.wrap .i64 (v4+1)) else some v3

def cK (p1:List (ByteArray×Int)) (p2:Int):Option (Int) := bd (cM p1 FU 0 0) fun x5 => some x5

def bF (p1:Int) (p2:Int):Nat→Int→Int→Option (Int) | 0,_,_=>none | fu+1,v3,v4 => bif decide (v4≤4095) then gd (v4≠0∧IntKind.wrap .i64 (Int.tdiv p1 v4)=Int.tdiv p1 v4) <| gd ((2:Int)≠0) <| bif decide ((Int.tmod (Int.tdiv p1 v4) 2)=1) then gd (v4≠0∧IntKind.wrap .i64 (Int.tdiv p2 v4)=Int.tdiv p2 v4) <| bif decide ((Int.tmod (Int.tdiv p2 v4) 2)=1) then bF p1 p2 fu (IntKind.wrap .i64 (v3+v4)) (IntKind.wrap .i64 (v4*2)) else bF p1 p2 fu v3 (IntKind.wrap .i64 (v4*2)) else bF p1 p2 fu v3 (IntKind.wrap .i64 (v4*2)) else some v3

def eH (p1:Int) (p2:Int):Option (Int) := bd (bF p1 p2 FU 0 1) fun x5 => some x5

def dX (p1:Int) (p2:Int):Option (Int) := bd (eH p1 p2) fun x3 => some (IntKind.wrap .i64 ((IntKind.wrap .i64 (p1+p2)) - x3))

def eB (p1:List (ByteArray×Int)):Nat→Int→Int→Option (Int) | 0,_,_=>none | fu+1,v2,v3 => bif decide (v3<(p1.length:Int)) then gd (0≤v3∧v3<(p1.length:Int)) <| bd (dX v2 ((gt p1 v3).2)) fun x4 => eB p1 fu x4 (IntKind.wrap .i64 (v3+1)) else some v2

def dg (p1:List (ByteArray×Int)):Option (Int) := bd (eB p1 FU 0 0) fun x5 => some x5

def cU (p1:Int) (p2:Int) (p3:Int):Option (Bool) := bif decide (p2≤p1) then some (decide (p1≤p3)) else some false

def cc (p1:ByteArray):Nat→Int→Option (Unit ⊕ Unit) | 0,_=>none | fu+1,v2 => bif decide (v2<(p1.size:Int)) then gd (0≤v2∧v2<(p1.size:Int)) <| bif decide ((aH p1 v2.toNat)<97) then some (Sum.inl ()) else bif decide (122<(aH p1 v2.toNat)) then some (Sum.inl ()) else cc p1 fu (IntKind.wrap .i64 (v2+1)) else some (Sum.inr ())

def ee (p1:ByteArray):Option (Bool) := bd (cc p1 FU 0) fun x3 => sm x3 (fun x4 => some false) (fun x5 => bd (cU (p1.size:Int) 1 6) fun x6 => some x6)

def cd (p1:List (ByteArray×Int)) (p2:Int) (p3:Int):Nat→Int→Option (Unit ⊕ Unit) | 0,_=>none | fu+1,v4 => bif decide (v4<(p1.length:Int)) then gd (0≤v4∧v4<(p1.length:Int)) <| bd (ee ((gt p1 v4).1)) fun x5 => bif (!x5) then some (Sum.inl ()) else bd (cU ((gt p1 v4).2) p2 p3) fun x6 => bif (!x6) then some (Sum.inl ()) else gd (0≤(0:Int)∧(0:Int)≤v4∧v4≤(p1.length:Int)∧(p1.length:Int)≤(p1.length:Int)) <| bd (eF (sub p1 (0:Int) v4) ((gt p1 v4).1)) fun x7 => bif decide (0≤x7) then some (Sum.inl ()) else cd p1 p2 p3 fu (IntKind.wrap .i64 (v4+1)) else some (Sum.inr ())

def fl (p1:List (ByteArray×Int)) (p2:Int) (p3:Int):Option (Bool) := bd (cd p1 p2 p3 FU 0) fun x8 => sm x8 (fun x9 => some false) (fun x10 => some (decide ((p1.length:Int)≤12)))

def fA (p1:List (ByteArray×Int)) (p2:Int):Option (Bool) := bd (fl p1 0 4095) fun x3 => bif x3 then bd (cU p2 0 3) fun x4 => some x4 else some false

def cI (p1:Int) (p2:Int):Option (Int) := bd (eH p1 p2) fun x3 => some (IntKind.wrap .i64 (p1 - x3))

def bY (p1:List (ByteArray×Int)) (p2:Int) (p3:Int):Option (Bool) := bd (dx p1 p2) fun x4 => bif x4 then bd (gp p3 0 4095) fun x5 => bif x5 then bif decide (p2=3) then some true else bd (cK p1 p2) fun x6 => some (decide ((Go.bits .andNot .i64 p3 x6)=0)) else some false else some false

def gV (p1:Int) (p2:Int):Option (Unit) := some ()

def eI (p1:List (ByteArray×Int)) (p2:Int) (p3:Int) (p4:Int):Option (Int) := bd (bY p1 p2 p3) fun x5 => bif (!x5) then some (-1) else bd (bY p1 p2 p4) fun x6 => bif (!x6) then some (-1) else bd (gV p3 p4) fun x7 => some (Go.bits .andNot .i64 p3 p4)

def dJ (p1:List (ByteArray×Int)) (p2:Int) (p3:Int) (p4:Int):Option (Int) := bd (eI p1 p2 p3 p4) fun x5 => some x5

def bZ (p2:List (Int)) (x4:(List (ByteArray×Int))×Int):Nat→(List (ByteArray×Bool×Int))→Int→Int→Option ((List (ByteArray×Bool×Int))×Int) | 0,_,_,_=>none | fu+1,v5,v6,v7 => bif decide (v6<(x4.1.length:Int)) then gd (0≤v6∧v6<(x4.1.length:Int)) <| bd (aJ 2 p2 v7) fun x8 => bif decide (x8=0) then gd (v5.length+([((gt x4.1 v6).1,true,0)]:List (ByteArray×Bool×Int)).length≤1099511627776) <| bZ p2 x4 fu (v5++([((gt x4.1 v6).1,true,0)]:List (ByteArray×Bool×Int))) (IntKind.wrap .i64 (v6+1)) (IntKind.wrap .i64 (v7+1)) else gd (v5.length+([((gt x4.1 v6).1,false,(gt x4.1 v6).2)]:List (ByteArray×Bool×Int)).length≤1099511627776) <| bZ p2 x4 fu (v5++([((gt x4.1 v6).1,false,(gt x4.1 v6).2)]:List (ByteArray×Bool×Int))) (IntKind.wrap .i64 (v6+1)) (IntKind.wrap .i64 (v7+1)) else some (v5,v7)

def gN (p1:Int) (p2:List (Int)) (p3:Int):Option ((List (ByteArray×Bool×Int))×Int) := bd (il p1 p2 p3) fun x4 => bd (bZ p2 x4 FU ([]:List (ByteArray×Bool×Int)) 0 x4.2) fun x9 => bif decide (0<(x9.1.length:Int)) then bd (aJ 16 p2 x9.2) fun x10 => bif decide (x10=0) then bd (aJ (x9.1.length:Int) p2 (IntKind.wrap .i64 (x9.2+1))) fun x11 => bd (fp p2 (IntKind.wrap .i64 ((IntKind.wrap .i64 (x9.2+1))+1))) fun x12 => bd (aJ 2 p2 (IntKind.wrap .i64 ((IntKind.wrap .i64 ((IntKind.wrap .i64 ((IntKind.wrap .i64 (x9.2+1))+1))+1))+1))) fun x13 => bd (cv ([5,(-1),4096,1001]:List (Int)) p2 (IntKind.wrap .i64 ((IntKind.wrap .i64 ((IntKind.wrap .i64 ((IntKind.wrap .i64 ((IntKind.wrap .i64 (x9.2+1))+1))+1))+1))+1))) fun x14 => gd (0≤x11∧x11<(x9.1.length:Int)) <| some (x9.1.set (0+x11.toNat) (x12,decide (x13=0),x14),IntKind.wrap .i64 ((IntKind.wrap .i64 ((IntKind.wrap .i64 ((IntKind.wrap .i64 ((IntKind.wrap .i64 ((IntKind.wrap .i64 (x9.2+1))+1))+1))+1))+1))+1)) else some (x9.1,IntKind.wrap .i64 (x9.2+1)) else some (x9.1,x9.2)

def bW (p1:List (ByteArray×Int)):Nat→Int→Int→Option (Int) | 0,_,_=>none | fu+1,v3,v4 => bif decide (v4<(p1.length:Int)) then gd (0≤v4∧v4<(p1.length:Int)) <| bif decide (v4=0) then bW p1 fu ((gt p1 v4).2) (IntKind.wrap .i64 (v4+1)) else bif decide (v3<((gt p1 v4).2)) then bW p1 fu ((gt p1 v4).2) (IntKind.wrap .i64 (v4+1)) else bW p1 fu v3 (IntKind.wrap .i64 (v4+1)) else some v3

def ib (p1:List (ByteArray×Int)) (p2:Int):Option (Int) := bd (bW p1 FU p2 0) fun x5 => some x5

def lstr_c9535661:ByteArray:=(ByteArray.mk #[0,1,2,2,3,3,3,3,4,4,4,4,4,4,4,4,5,5,5,5,5,5,5,5,5,5,5,5,5,5,5,5,6,6,6,6,6,6,6,6,6,6,6,6,6,6,6,6,6,6,6,6,6,6,6,6,6,6,6,6,6,6,6,6,7,7,7,7,7,7,7,7,7,7,7,7,7,7,7,7,7,7,7,7,7,7,7,7,7,7,7,7,7,7,7,7,7,7,7,7,7,7,7,7,7,7,7,7,7,7,7,7,7,7,7,7,7,7,7,7,7,7,7,7,7,7,7,7,8,8,8,8,8,8,8,8,8,8,8,8,8,8,8,8,8,8,8,8,8,8,8,8,8,8,8,8,8,8,8,8,8,8,8,8,8,8,8,8,8,8,8,8,8,8,8,8,8,8,8,8,8,8,8,8,8,8,8,8,8,8,8,8,8,8,8,8,8,8,8,8,8,8,8,8,8,8,8,8,8,8,8,8,8,8,8,8,8,8,8,8,8,8,8,8,8,8,8,8,8,8,8,8,8,8,8,8,8,8,8,8,8,8,8,8,8,8,8,8,8,8,8,8,8,8,8,8])

def iz (p1:Int):Option (Int) := bif decide (4294967296≤p1) then gd (0≤(32:Int)∧(32:Int)≤(IntKind.bits .u64:Int)) <| bif decide (65536≤(p1 / 2 ^ (32:Int).toNat)) then gd (0≤(16:Int)∧(16:Int)≤(IntKind.bits .u64:Int)) <| nm (decide (256≤((p1 / 2 ^ (32:Int).toNat) / 2 ^ (16:Int).toNat))) fun v2 => bif v2 then gd (0≤(8:Int)∧(8:Int)≤(IntKind.bits .u64:Int)) <| nm (((p1 / 2 ^ (32:Int).toNat) / 2 ^ (16:Int).toNat) / 2 ^ (8:Int).toNat) fun v3 => gd (0≤(IntKind.wrap .u8 (v3))∧(IntKind.wrap .u8 (v3))<(lstr_c9535661.size:Int)) <| nm (IntKind.wrap .i64 (aH lstr_c9535661 (IntKind.wrap .u8 (v3)).toNat)) fun v4 => nm (IntKind.wrap .i64 ((IntKind.wrap .i64 ((IntKind.wrap .i64 (32+16))+8))+v4)) fun v5 => some v5 else nm (IntKind.wrap .u8 ((p1 / 2 ^ (32:Int).toNat) / 2 ^ (16:Int).toNat)) fun v6 => gd (0≤v6∧v6<(lstr_c9535661.size:Int)) <| nm (IntKind.wrap .i64 ((IntKind.wrap .i64 (32+16))+(IntKind.wrap .i64 (aH lstr_c9535661 v6.toNat)))) fun v7 => some v7 else bif decide (256≤(p1 / 2 ^ (32:Int).toNat)) then gd (0≤(8:Int)∧(8:Int)≤(IntKind.bits .u64:Int)) <| nm (IntKind.wrap .u8 ((p1 / 2 ^ (32:Int).toNat) / 2 ^ (8:Int).toNat)) fun v8 => gd (0≤v8∧v8<(lstr_c9535661.size:Int)) <| nm (IntKind.wrap .i64 ((IntKind.wrap .i64 (32+8))+(IntKind.wrap .i64 (aH lstr_c9535661 v8.toNat)))) fun v9 => some v9 else gd (0≤(IntKind.wrap .u8 (p1 / 2 ^ (32:Int).toNat))∧(IntKind.wrap .u8 (p1 / 2 ^ (32:Int).toNat))<(lstr_c9535661.size:Int)) <| nm (aH lstr_c9535661 (IntKind.wrap .u8 (p1 / 2 ^ (32:Int).toNat)).toNat) fun v10 => some (IntKind.wrap .i64 (32+(IntKind.wrap .i64 (v10)))) else bif decide (65536≤p1) then gd (0≤(16:Int)∧(16:Int)≤(IntKind.bits .u64:Int)) <| bif decide (256≤(p1 / 2 ^ (16:Int).toNat)) then gd (0≤(8:Int)∧(8:Int)≤(IntKind.bits .u64:Int)) <| nm (IntKind.wrap .u8 ((p1 / 2 ^ (16:Int).toNat) / 2 ^ (8:Int).toNat)) fun v11 => gd (0≤v11∧v11<(lstr_c9535661.size:Int)) <| nm (IntKind.wrap .i64 ((IntKind.wrap .i64 ((IntKind.wrap .i64 (0+16))+8))+(IntKind.wrap .i64 (aH lstr_c9535661 v11.toNat)))) fun v12 => some v12 else gd (0≤(IntKind.wrap .u8 (p1 / 2 ^ (16:Int).toNat))∧(IntKind.wrap .u8 (p1 / 2 ^ (16:Int).toNat))<(lstr_c9535661.size:Int)) <| nm (aH lstr_c9535661 (IntKind.wrap .u8 (p1 / 2 ^ (16:Int).toNat)).toNat) fun v13 => nm (IntKind.wrap .i64 ((IntKind.wrap .i64 (0+16))+(IntKind.wrap .i64 (v13)))) fun v14 => some v14 else bif decide (256≤p1) then gd (0≤(8:Int)∧(8:Int)≤(IntKind.bits .u64:Int)) <| gd (0≤(IntKind.wrap .u8 (p1 / 2 ^ (8:Int).toNat))∧(IntKind.wrap .u8 (p1 / 2 ^ (8:Int).toNat))<(lstr_c9535661.size:Int)) <| nm (aH lstr_c9535661 (IntKind.wrap .u8 (p1 / 2 ^ (8:Int).toNat)).toNat) fun v15 => nm (IntKind.wrap .i64 ((IntKind.wrap .i64 (0+8))+(IntKind.wrap .i64 (v15)))) fun v16 => some v16 else gd (0≤(IntKind.wrap .u8 (p1))∧(IntKind.wrap .u8 (p1))<(lstr_c9535661.size:Int)) <| nm (IntKind.wrap .i64 (aH lstr_c9535661 (IntKind.wrap .u8 (p1)).toNat)) fun v17 => some (IntKind.wrap .i64 (0+v17))

def eK (p1:Int):Option (Int) := bd (iz p1) fun x2 => some x2

def fP (p1:List (ByteArray×Int)):Option (Int) := bd (ib p1 0) fun x2 => bd (eK (IntKind.wrap .u64 ((if x2>0 then x2 else 0)))) fun x3 => gd (0≤x3∧x3≤(IntKind.bits .i64:Int)) <| some (IntKind.wrap .i64 ((1:Int)*2 ^ x3.toNat))

def nf (p1:List (ByteArray×Int)):Option (Unit) := gd (0≤(0:Int)∧(0:Int)≤(p1.length:Int)∧(p1.length:Int)≤(p1.length:Int)∧(p1.length:Int)≤(p1.length:Int)) <| some ()

def gh (p1:List (ByteArray×Int)):Option (Unit) := some ()

def bw (p1:List (ByteArray×Bool×Int)):Nat→(List (ByteArray×Int))→Int→Option (Unit ⊕ List (ByteArray×Int)) | 0,_,_=>none | fu+1,v2,v3 => bif decide (v3<(p1.length:Int)) then gd (0≤v3∧v3<(p1.length:Int)) <| bif (gt p1 v3).2.1 then bif (!decide (((gt p1 v3).2.2)=0)) then some (Sum.inl ()) else bd (fP v2) fun x4 => gd (v2.length+([((gt p1 v3).1,x4)]:List (ByteArray×Int)).length≤1099511627776) <| bw p1 fu (v2++([((gt p1 v3).1,x4)]:List (ByteArray×Int))) (IntKind.wrap .i64 (v3+1)) else gd (v2.length+([((gt p1 v3).1,(gt p1 v3).2.2)]:List (ByteArray×Int)).length≤1099511627776) <| bw p1 fu (v2++([((gt p1 v3).1,(gt p1 v3).2.2)]:List (ByteArray×Int))) (IntKind.wrap .i64 (v3+1)) else some (Sum.inr v2)

def dD (p1:List (ByteArray×Bool×Int)):Option ((List (ByteArray×Int))×Bool) := bd (bw p1 FU ([]:List (ByteArray×Int)) 0) fun x5 => sm x5 (fun x6 => some (([]:List (ByteArray×Int)),false)) (fun x7 => bd (gh x7) fun x8 => some (x7,true))

def eU (p1:List (ByteArray×Int)):Option (List (ByteArray×Int)) := gd (p1.length≤1099511627776) <| some p1

def ie (p1:List (ByteArray×Int)):Option (List (ByteArray×Int)) := bd (eU p1) fun x2 => bd (gh x2) fun x3 => some x2

def iY (p1:List (ByteArray×Int)) (p2:Int) (p3:Bool):Option ((List (ByteArray×Int))×Int×Bool) := bd (ie p1) fun x4 => bif p3 then bd (dx x4 p2) fun x5 => bif x5 then some (x4,p2,true) else some (([]:List (ByteArray×Int)),0,false) else some (([]:List (ByteArray×Int)),0,false)

def gQ (p1:List (ByteArray×Bool×Int)) (p2:Int):Option ((List (ByteArray×Int))×Int×Bool) := bif decide (12<(p1.length:Int)) then some (([]:List (ByteArray×Int)),0,false) else bd (dD p1) fun x3 => bd (iY x3.1 p2 x3.2) fun x4 => some (x4.1,x4.2.1,x4.2.2)

def bc (p1:List (ByteArray×Bool×Int)) (p2:Int) (p3:Int) (v4:Int):Nat→Int→Option (Unit ⊕ Unit) | 0,_=>none | fu+1,v7 => bif decide (v7<v4) then gd (0≤v7∧v7<(p1.length:Int)) <| gd (0≤v4∧v4<(p1.length:Int)) <| bif decide (((gt p1 v7).1)=((gt p1 v4).1)) then some (Sum.inl ()) else bc p1 p2 p3 v4 fu (IntKind.wrap .i64 (v7+1)) else some (Sum.inr ())

def cG (p1:List (ByteArray×Bool×Int)) (p2:Int) (p3:Int) (v4:Int):Nat→Int→Option (Unit ⊕ Unit) | 0,_=>none | fu+1,v12 => bif decide (v12<v4) then gd (0≤v12∧v12<(p1.length:Int)) <| gd (0≤v4∧v4<(p1.length:Int)) <| bif decide (((gt p1 v12).1)=((gt p1 v4).1)) then some (Sum.inl ()) else cG p1 p2 p3 v4 fu (IntKind.wrap .i64 (v12+1)) else some (Sum.inr ())

def bB (p1:List (ByteArray×Bool×Int)) (p2:Int) (p3:Int):Nat→Int→Option (Unit ⊕ Unit) | 0,_=>none | fu+1,v4 => bif decide (v4<(p1.length:Int)) then gd (0≤v4∧v4<(p1.length:Int)) <| bd (ee ((gt p1 v4).1)) fun x5 => bif (!x5) then some (Sum.inl ()) else bif (gt p1 v4).2.1 then bif (!decide (((gt p1 v4).2.2)=0)) then some (Sum.inl ()) else bd (cU ((gt p1 v4).2.2) p2 p3) fun x6 => bif (!x6) then some (Sum.inl ()) else bd (bc p1 p2 p3 v4 FU 0) fun x8 => sm x8 (fun x9 => some (Sum.inl ())) (fun x10 => bB p1 p2 p3 fu (IntKind.wrap .i64 (v4+1))) else bd (cU ((gt p1 v4).2.2) p2 p3) fun x11 => bif (!x11) then some (Sum.inl ()) else bd (cG p1 p2 p3 v4 FU 0) fun x13 => sm x13 (fun x14 => some (Sum.inl ())) (fun x15 => bB p1 p2 p3 fu (IntKind.wrap .i64 (v4+1))) else some (Sum.inr ())

def gf (p1:List (ByteArray×Bool×Int)) (p2:Int) (p3:Int):Option (Bool) := bd (bB p1 p2 p3 FU 0) fun x16 => sm x16 (fun x17 => some false) (fun x18 => some (decide ((p1.length:Int)≤12)))

def dp (p1:List (ByteArray×Int)) (v3:Int):Nat→Int→Option (Int) | 0,_=>none | fu+1,v4 => gd (0≤v3∧v3<(p1.length:Int)) <| bif decide (v4≤((gt p1 v3).2)) then dp p1 v3 fu (IntKind.wrap .i64 (v4*2)) else some v4

def cO (p1:List (ByteArray×Int)):Nat→Int→Int→Option (Int) | 0,_,_=>none | fu+1,v2,v3 => bif decide (v3<(p1.length:Int)) then bd (dp p1 v3 FU v2) fun x5 => cO p1 fu x5 (IntKind.wrap .i64 (v3+1)) else some v2

def gv (p1:List (ByteArray×Int)):Option (Int) := bd (cO p1 FU 1 0) fun x6 => some x6

def ca (p1:List (ByteArray×Bool×Int)) (p2:Int):Nat→(List (ByteArray×Int))→Int→Option (List (ByteArray×Int)) | 0,_,_=>none | fu+1,v4,v5 => bif decide (v5<(p1.length:Int)) then gd (0≤v5∧v5<(p1.length:Int)) <| bif (gt p1 v5).2.1 then bd (gv v4) fun x6 => gd (v4.length+([((gt p1 v5).1,x6)]:List (ByteArray×Int)).length≤1099511627776) <| ca p1 p2 fu (v4++([((gt p1 v5).1,x6)]:List (ByteArray×Int))) (IntKind.wrap .i64 (v5+1)) else gd (v4.length+([((gt p1 v5).1,(gt p1 v5).2.2)]:List (ByteArray×Int)).length≤1099511627776) <| ca p1 p2 fu (v4++([((gt p1 v5).1,(gt p1 v5).2.2)]:List (ByteArray×Int))) (IntKind.wrap .i64 (v5+1)) else some v4

def gP (p1:List (ByteArray×Bool×Int)) (p2:Int):Option ((List (ByteArray×Int))×Int×Bool) := bd (gf p1 0 4095) fun x3 => bif (!x3) then some (([]:List (ByteArray×Int)),0,false) else bd (ca p1 p2 FU ([]:List (ByteArray×Int)) 0) fun x7 => bd (fA x7 p2) fun x8 => bif (!x8) then some (([]:List (ByteArray×Int)),0,false) else some (x7,p2,true)

def fh (p1:Int):Option (Int) := gd (0≤(1:Int)∧(1:Int)≤(IntKind.bits .u64:Int)) <| nm (Go.bits .and .u64 (p1 / 2 ^ (1:Int).toNat) 6148914691236517205) fun v2 => nm (IntKind.wrap .u64 (v2+(Go.bits .and .u64 p1 6148914691236517205))) fun v3 => gd (0≤(2:Int)∧(2:Int)≤(IntKind.bits .u64:Int)) <| nm (Go.bits .and .u64 (v3 / 2 ^ (2:Int).toNat) 3689348814741910323) fun v4 => nm (IntKind.wrap .u64 (v4+(Go.bits .and .u64 v3 3689348814741910323))) fun v5 => gd (0≤(4:Int)∧(4:Int)≤(IntKind.bits .u64:Int)) <| nm (Go.bits .and .u64 (IntKind.wrap .u64 ((v5 / 2 ^ (4:Int).toNat)+v5)) 1085102592571150095) fun v6 => gd (0≤(8:Int)∧(8:Int)≤(IntKind.bits .u64:Int)) <| gd (0≤(16:Int)∧(16:Int)≤(IntKind.bits .u64:Int)) <| nm ((IntKind.wrap .u64 (v6+(v6 / 2 ^ (8:Int).toNat))) / 2 ^ (16:Int).toNat) fun v7 => nm (IntKind.wrap .u64 ((IntKind.wrap .u64 (v6+(v6 / 2 ^ (8:Int).toNat)))+v7)) fun v8 => gd (0≤(32:Int)∧(32:Int)≤(IntKind.bits .u64:Int)) <| nm (IntKind.wrap .i64 (IntKind.wrap .u64 (v8+(v8 / 2 ^ (32:Int).toNat)))) fun v9 => some (Go.bits .and .i64 v9 127)

def eG (p1:Int):Option (Int) := bd (fh p1) fun x2 => some x2

def iy (p1:ByteArray) (p2:Int) (p3:Int):Option (Unit) := some ()

def aW (p1:List (ByteArray×Int)) (p2:Int):Nat→Int→Option (Int ⊕ Unit) | 0,_=>none | fu+1,v3 => bif decide (v3<(p1.length:Int)) then gd (0≤v3∧v3<(p1.length:Int)) <| bd (iy ((gt p1 v3).1) ((gt p1 v3).2) p2) fun x4 => bif decide (((gt p1 v3).2)=p2) then some (Sum.inl v3) else aW p1 p2 fu (IntKind.wrap .i64 (v3+1)) else some (Sum.inr ())

def cZ (p1:List (ByteArray×Int)) (p2:Int):Option (Int) := bd (aW p1 p2 FU 0) fun x5 => sm x5 (fun x6 => some x6) (fun x7 => some (-1))

def gb (p1:List (ByteArray×Int)) (p2:Int):Option (Int) := bd (cZ p1 p2) fun x3 => some x3

def nB (p1:List (ByteArray)):Option (Unit) := gd (0≤(0:Int)∧(0:Int)≤(p1.length:Int)∧(p1.length:Int)≤(p1.length:Int)∧(p1.length:Int)≤(p1.length:Int)) <| some ()

def fF (p1:List (ByteArray)):Option (Unit) := some ()

def ft (p1:List (ByteArray×Int)) (p2:Int) (p3:Int):Option (Bool) := bd (fA p1 p2) fun x4 => bif x4 then bd (cU p3 0 4095) fun x5 => bif x5 then bif decide (p2=3) then some true else bd (dg p1) fun x6 => bd (cI p3 x6) fun x7 => some (decide (x7=0)) else some false else some false

def cY (p2:Int) (x3:List (ByteArray×Int)):Nat→(List (ByteArray×Int))→Int→Option (List (ByteArray×Int)) | 0,_,_=>none | fu+1,v4,v5 => bif decide (v5<(x3.length:Int)) then gd (0≤v5∧v5<(x3.length:Int)) <| bd (eH ((gt x3 v5).2) p2) fun x6 => bif decide (0<x6) then gd (v4.length+([((gt x3 v5).1,(gt x3 v5).2)]:List (ByteArray×Int)).length≤1099511627776) <| cY p2 x3 fu (v4++([((gt x3 v5).1,(gt x3 v5).2)]:List (ByteArray×Int))) (IntKind.wrap .i64 (v5+1)) else cY p2 x3 fu v4 (IntKind.wrap .i64 (v5+1)) else some v4

def iZ (p1:List (ByteArray×Int)) (p2:Int):Option (List (ByteArray×Int)) := bd (fm p1) fun x3 => bd (cY p2 x3 FU ([]:List (ByteArray×Int)) 0) fun x7 => some x7

def dn (p1:List (ByteArray×Int)):Nat→(List (ByteArray))→Int→Option (List (ByteArray)) | 0,_,_=>none | fu+1,v2,v3 => bif decide (v3<(p1.length:Int)) then gd (0≤v3∧v3<(p1.length:Int)) <| gd (v2.length+([(gt p1 v3).1]:List (ByteArray)).length≤1099511627776) <| dn p1 fu (v2++([(gt p1 v3).1]:List (ByteArray))) (IntKind.wrap .i64 (v3+1)) else some v2

def fG (p1:List (ByteArray×Int)):Option (List (ByteArray)) := bd (dn p1 FU ([]:List (ByteArray)) 0) fun x4 => some x4

def cV (p1:ByteArray) (p2:Int) (p3:Int):Option (Bool) := bif decide (p2=0) then some true else some (!decide ((Go.bits .andNot .i64 p2 p3)=0))

def aL (p1:List (ByteArray×Int)) (p2:Int):Nat→Int→Option (Int ⊕ Unit) | 0,_=>none | fu+1,v3 => bif decide (v3<(p1.length:Int)) then gd (0≤v3∧v3<(p1.length:Int)) <| bd (cV ((gt p1 v3).1) ((gt p1 v3).2) p2) fun x4 => bif x4 then some (Sum.inl v3) else aL p1 p2 fu (IntKind.wrap .i64 (v3+1)) else some (Sum.inr ())

def bO (p1:List (ByteArray×Int)) (p2:Int):Option (Int) := bd (aL p1 p2 FU 0) fun x5 => sm x5 (fun x6 => some x6) (fun x7 => some (-1))

def aG (p2:Int):Nat→Int→Int→(List (ByteArray×Int))→Option (Int×(List (ByteArray×Int))) | 0,_,_,_=>none | fu+1,v4,v5,v6 => bif decide (v5<(v6.length:Int)) then gd (0≤v5∧v5<(v6.length:Int)) <| bd (cV ((gt v6 v5).1) ((gt v6 v5).2) p2) fun x7 => bif (!x7) then gd (0≤v4∧v4<(v6.length:Int)) <| aG p2 fu (IntKind.wrap .i64 (v4+1)) (IntKind.wrap .i64 (v5+1)) (v6.set (0+v4.toNat) ((gt v6 v5).1,(gt v6 v5).2)) else aG p2 fu v4 (IntKind.wrap .i64 (v5+1)) v6 else some (v4,v6)

def cp (p1:List (ByteArray×Int)) (p2:Int):Option (List (ByteArray×Int)) := bd (bO p1 p2) fun x3 => bif decide (x3=(-1)) then some p1 else bd (aG p2 FU x3 (IntKind.wrap .i64 (x3+1)) p1) fun x8 => gd (0≤x8.1∧x8.1≤(x8.2.length:Int)∧(x8.2.length:Int)≤(x8.2.length:Int)∧(x8.2.length:Int)≤(x8.2.length:Int)) <| gd (0≤(0:Int)∧(0:Int)≤x8.1∧x8.1≤(x8.2.length:Int)∧(x8.2.length:Int)≤(x8.2.length:Int)) <| some (sub (clr x8.2 x8.1 (x8.2.length:Int) ((ByteArray.empty,0):ByteArray×Int)) (0:Int) x8.1)

def fj (p1:List (ByteArray×Int)) (p2:Int) (p3:Int):Option (List (ByteArray×Int)) := bd (eU p1) fun x4 => bd (cp x4 p3) fun x5 => some x5

def eS (p1:List (ByteArray×Int)):Option (Int) := bd (cK p1 0) fun x2 => some x2

def eX (p1:Int):Option (List (ByteArray×Int)) := bif decide (p1<0) then none else nm (decide (0<(IntKind.wrap .i64 (p1 - (IntKind.wrap .i64 (0 - 0)))))) fun v2 => bif v2 then gd ((0:Int)=0∧(0:Int)=0∧(0:Int)=0) <| gd (0≤(IntKind.wrap .i64 (p1 - (IntKind.wrap .i64 (0 - 0))))∧(IntKind.wrap .i64 (p1 - (IntKind.wrap .i64 (0 - 0))))≤1099511627776) <| gd (([]:List (ByteArray×Int)).length+(List.replicate (IntKind.wrap .i64 (p1 - (IntKind.wrap .i64 (0 - 0)))).toNat ((ByteArray.empty,0):ByteArray×Int)).length≤1099511627776) <| gd (0≤(0:Int)∧(0:Int)≤(0:Int)∧(0:Int)≤((List.replicate (IntKind.wrap .i64 (p1 - (IntKind.wrap .i64 (0 - 0)))).toNat ((ByteArray.empty,0):ByteArray×Int)).length:Int)∧((List.replicate (IntKind.wrap .i64 (p1 - (IntKind.wrap .i64 (0 - 0)))).toNat ((ByteArray.empty,0):ByteArray×Int)).length:Int)≤((List.replicate (IntKind.wrap .i64 (p1 - (IntKind.wrap .i64 (0 - 0)))).toNat ((ByteArray.empty,0):ByteArray×Int)).length:Int)) <| some (sub (List.replicate (IntKind.wrap .i64 (p1 - (IntKind.wrap .i64 (0 - 0)))).toNat ((ByteArray.empty,0):ByteArray×Int)) (0:Int) (0:Int)) else some ([]:List (ByteArray×Int))

def kz (p1:List (ByteArray×Int)):Option (List (ByteArray×Int)) := bif decide ((IntKind.wrap .i64 (0+(p1.length:Int)))<0) then none else nm (IntKind.wrap .i64 ((IntKind.wrap .i64 (0+(p1.length:Int)))+0)) fun v2 => bif decide (v2<0) then none else bd (eX v2) fun x3 => gd (x3.length+p1.length≤1099511627776) <| gd ((x3++p1).length+([]:List (ByteArray×Int)).length≤1099511627776) <| some ((x3++p1)++([]:List (ByteArray×Int)))

def dV (p1:List (ByteArray×Int)) (p2:List (ByteArray×Int)):Option (List (ByteArray×Int)) := bif decide ((IntKind.wrap .i64 (0+(p1.length:Int)))<0) then none else nm (IntKind.wrap .i64 ((IntKind.wrap .i64 (0+(p1.length:Int)))+(p2.length:Int))) fun v3 => bif decide (v3<0) then none else bd (eX v3) fun x4 => gd (x4.length+p1.length≤1099511627776) <| gd ((x4++p1).length+p2.length≤1099511627776) <| some ((x4++p1)++p2)

def cW (rec:(List (ByteArray×Int))→Int→Int→Option ((List (ByteArray×Int))×Bool)) (p1:List (ByteArray×Int)) (p2:Int) (p3:Int):Nat→Int→Option (List (ByteArray×Int) ⊕ Unit) | 0,_=>none | fu+1,v4 => bif decide (v4<(p1.length:Int)) then gd (0≤v4∧v4<(p1.length:Int)) <| gd (0≤(IntKind.wrap .i64 (v4+1))∧(IntKind.wrap .i64 (v4+1))≤(p1.length:Int)∧(p1.length:Int)≤(p1.length:Int)∧(p1.length:Int)≤(p1.length:Int)) <| bd (rec (sub p1 (IntKind.wrap .i64 (v4+1)) (p1.length:Int)) (IntKind.wrap .i64 (p2 - 1)) (Go.bits .andNot .i64 p3 ((gt p1 v4).2))) fun x5 => bif x5.2 then bd (dV ([((gt p1 v4).1,(gt p1 v4).2)]:List (ByteArray×Int)) x5.1) fun x6 => some (Sum.inl x6) else cW rec p1 p2 p3 fu (IntKind.wrap .i64 (v4+1)) else some (Sum.inr ())

def m_impl_fewest:Nat→(List (ByteArray×Int))→(Int)→(Int)→Option ((List (ByteArray×Int))×Bool) | 0,_,_,_=>none | fu+1,p1,p2,p3 => bif decide (p2=0) then some (([]:List (ByteArray×Int)),decide (p3=0)) else bd (cW (m_impl_fewest fu) p1 p2 p3 FU 0) fun x7 => sm x7 (fun x8 => some (x8,true)) (fun x9 => some (([]:List (ByteArray×Int)),false))

def cC (x4:List (ByteArray×Int)):Nat→Int→Option (List (ByteArray×Int)) | 0,_=>none | fu+1,v5 => bd (eS x4) fun x6 => bd (m_impl_fewest FU x4 v5 x6) fun x7 => bif x7.2 then some x7.1 else cC x4 fu (IntKind.wrap .i64 (v5+1))

def gi (p1:List (ByteArray×Int)) (p2:Int) (p3:Int):Option (List (ByteArray×Int)) := bd (fj p1 p2 p3) fun x4 => bd (cC x4 FU 0) fun x8 => some x8

def kd (p1:ByteArray) (p2:Int):Option (Unit) := some ()

def cm (p1:List (ByteArray×Int)):Nat→(List (ByteArray))→Int→Option (List (ByteArray)) | 0,_,_=>none | fu+1,v2,v3 => bif decide (v3<(p1.length:Int)) then gd (0≤v3∧v3<(p1.length:Int)) <| bd (kd ((gt p1 v3).1) ((gt p1 v3).2)) fun x4 => gd (v2.length+([(gt p1 v3).1]:List (ByteArray)).length≤1099511627776) <| cm p1 fu (v2++([(gt p1 v3).1]:List (ByteArray))) (IntKind.wrap .i64 (v3+1)) else some v2

def dO (p1:List (ByteArray×Int)):Option (List (ByteArray)) := bd (cm p1 FU ([]:List (ByteArray)) 0) fun x5 => bd (fF x5) fun x6 => some x5

def iP (p1:List (ByteArray)):Option (List (ByteArray)) := gd (p1.length≤1099511627776) <| some p1

def di (p1:Int):Option (ByteArray) := gd (-9223372036854775808≤p1∧p1≤9223372036854775807) <| some ⟨(Lib.itoa p1).toArray⟩

def gr (p1:List (ByteArray)) (p2:ByteArray):Option (ByteArray) := gd (p1.length≤140737488355328) <| gd ((Lib.join (p1.map (·.data.toList)) p2.data.toList).length≤140737488355328) <| some ⟨(Lib.join (p1.map (·.data.toList)) p2.data.toList).toArray⟩

def fq (p1:List (ByteArray×Int)) (p2:Int) (p3:List (ByteArray)) (p4:Int):Option (ByteArray) := bd (iP p3) fun x5 => bif (!decide (p4=0)) then bd (di p4) fun x6 => gd (x5.length+([x6]:List (ByteArray)).length≤1099511627776) <| nm (decide (0<((x5++([x6]:List (ByteArray))).length:Int))) fun v7 => bif v7 then bd (gr (x5++([x6]:List (ByteArray))) (ByteArray.mk #[124])) fun x8 => some x8 else bd (gb p1 0) fun x9 => bif decide (0≤x9) then gd (0≤x9∧x9<(p1.length:Int)) <| some ((gt p1 x9).1) else some (ByteArray.mk #[48]) else bif decide (0<(x5.length:Int)) then bd (gr x5 (ByteArray.mk #[124])) fun x10 => some x10 else bd (gb p1 0) fun x11 => bif decide (0≤x11) then gd (0≤x11∧x11<(p1.length:Int)) <| some ((gt p1 x11).1) else some (ByteArray.mk #[48])

def eh (p1:List (ByteArray×Int)) (p2:Int) (p3:Int):Option (ByteArray) := bd (bY p1 p2 p3) fun x4 => bif (!x4) then some ByteArray.empty else bd (gi p1 p2 p3) fun x5 => bd (dO x5) fun x6 => bd (eS x5) fun x7 => bd (fq p1 p2 x6 (Go.bits .andNot .i64 p3 x7)) fun x8 => some x8

def cy (p1:List (ByteArray×Int)) (p2:Int):Nat→(List (ByteArray×Int))→Int→Option (List (ByteArray×Int)) | 0,_,_=>none | fu+1,v3,v4 => bif decide (v4<(p1.length:Int)) then gd (0≤v4∧v4<(p1.length:Int)) <| bif decide (0<((gt p1 v4).2)) then bd (cI ((gt p1 v4).2) p2) fun x5 => bif decide (x5=0) then gd (v3.length+([((gt p1 v4).1,(gt p1 v4).2)]:List (ByteArray×Int)).length≤1099511627776) <| cy p1 p2 fu (v3++([((gt p1 v4).1,(gt p1 v4).2)]:List (ByteArray×Int))) (IntKind.wrap .i64 (v4+1)) else cy p1 p2 fu v3 (IntKind.wrap .i64 (v4+1)) else cy p1 p2 fu v3 (IntKind.wrap .i64 (v4+1)) else some v3

def iD (p1:List (ByteArray×Int)) (p2:Int):Option (List (ByteArray×Int)) := bd (cy p1 p2 FU ([]:List (ByteArray×Int)) 0) fun x6 => some x6

def cX (rec:(List (ByteArray×Int))→Int→Int→Int→Option ((List (ByteArray×Int))×Bool)) (p1:List (ByteArray×Int)) (p3:Int) (p4:Int):Nat→Int→Option (List (ByteArray×Int) ⊕ Unit) | 0,_=>none | fu+1,v5 => bif decide (v5<(p1.length:Int)) then gd (0≤v5∧v5<(p1.length:Int)) <| bd (cI p4 ((gt p1 v5).2)) fun x6 => bd (rec p1 (IntKind.wrap .i64 (v5+1)) (IntKind.wrap .i64 (p3 - 1)) x6) fun x7 => bif x7.2 then gd (([((gt p1 v5).1,(gt p1 v5).2)]:List (ByteArray×Int)).length+x7.1.length≤1099511627776) <| some (Sum.inl (([((gt p1 v5).1,(gt p1 v5).2)]:List (ByteArray×Int))++x7.1)) else cX rec p1 p3 p4 fu (IntKind.wrap .i64 (v5+1)) else some (Sum.inr ())

def m_spec_fewest:Nat→(List (ByteArray×Int))→(Int)→(Int)→(Int)→Option ((List (ByteArray×Int))×Bool) | 0,_,_,_,_=>none | fu+1,p1,p2,p3,p4 => bif decide (p3=0) then some (([]:List (ByteArray×Int)),decide (p4=0)) else bd (cX (m_spec_fewest fu) p1 p3 p4 FU p2) fun x8 => sm x8 (fun x9 => some (x9,true)) (fun x10 => some (([]:List (ByteArray×Int)),false))

def dM (x3:List (ByteArray×Int)) (x4:Int):Nat→Int→Option (List (ByteArray×Int) ⊕ Unit) | 0,_=>none | fu+1,v5 => bif decide (v5≤(x3.length:Int)) then bd (m_spec_fewest FU x3 0 v5 x4) fun x6 => bif x6.2 then some (Sum.inl x6.1) else dM x3 x4 fu (IntKind.wrap .i64 (v5+1)) else some (Sum.inr ())

def ju (p1:List (ByteArray×Int)) (p2:Int):Option (List (ByteArray×Int)) := bd (iD p1 p2) fun x3 => bd (dg x3) fun x4 => bd (dM x3 x4 FU 0) fun x7 => sm x7 (fun x8 => some x8) (fun x9 => some ([]:List (ByteArray×Int)))

def m_spec_number:Nat→(Int)→Option (ByteArray) | 0,_=>none | fu+1,p1 => bif decide (p1<10) then gd (0≤p1∧p1≤(IntKind.wrap .i64 (p1+1))∧(IntKind.wrap .i64 (p1+1))≤((ByteArray.mk #[48,49,50,51,52,53,54,55,56,57]).size:Int)) <| nm ((ByteArray.mk #[48,49,50,51,52,53,54,55,56,57]).extract p1.toNat (IntKind.wrap .i64 (p1+1)).toNat) fun v2 => some v2 else gd ((10:Int)≠0∧IntKind.wrap .i64 (Int.tdiv p1 10)=Int.tdiv p1 10) <| bd (m_spec_number fu (Int.tdiv p1 10)) fun x3 => gd ((10:Int)≠0) <| bd (m_spec_number fu (Int.tmod p1 10)) fun x4 => gd (x3.size+x4.size≤9223372036854775807) <| some (x3++x4)

def fY (p1:List (ByteArray×Int)):Option (ByteArray) := bd (fw p1 0) fun x2 => bif decide (0≤x2) then gd (0≤x2∧x2<(p1.length:Int)) <| some ((gt p1 x2).1) else some (ByteArray.mk #[48])

def ck (p1:List (ByteArray)) (p2:ByteArray):Nat→ByteArray→Int→Option (ByteArray) | 0,_,_=>none | fu+1,v3,v4 => bif decide (v4<(p1.length:Int)) then bif decide (0<v4) then gd (v3.size+p2.size≤9223372036854775807) <| gd (0≤v4∧v4<(p1.length:Int)) <| gd ((v3++p2).size+(gt p1 v4).size≤9223372036854775807) <| ck p1 p2 fu ((v3++p2)++(gt p1 v4)) (IntKind.wrap .i64 (v4+1)) else gd (0≤v4∧v4<(p1.length:Int)) <| gd (v3.size+(gt p1 v4).size≤9223372036854775807) <| ck p1 p2 fu (v3++(gt p1 v4)) (IntKind.wrap .i64 (v4+1)) else some v3

def cD (p1:List (ByteArray)) (p2:ByteArray):Option (ByteArray) := bd (ck p1 p2 FU ByteArray.empty 0) fun x5 => some x5

def eM (p1:List (ByteArray×Int)) (p2:List (ByteArray)) (p3:Int):Option (ByteArray) := bif decide (0<p3) then gd (([]:List (ByteArray)).length+p2.length≤1099511627776) <| bd (m_spec_number FU p3) fun x4 => gd ((([]:List (ByteArray))++p2).length+([x4]:List (ByteArray)).length≤1099511627776) <| nm ((((([]:List (ByteArray))++p2)++([x4]:List (ByteArray))).length:Int)) fun v5 => bif decide (v5=0) then bd (fY p1) fun x6 => some x6 else bd (cD ((([]:List (ByteArray))++p2)++([x4]:List (ByteArray))) (ByteArray.mk #[124])) fun x7 => some x7 else bif decide ((p2.length:Int)=0) then bd (fY p1) fun x8 => some x8 else bd (cD p2 (ByteArray.mk #[124])) fun x9 => some x9

def gJ (p1:List (ByteArray×Int)) (p2:Int) (p3:Int):Option (ByteArray) := bd (ft p1 p2 p3) fun x4 => bif (!x4) then some ByteArray.empty else bd (ju p1 p3) fun x5 => bd (fG x5) fun x6 => bd (dg x5) fun x7 => bd (cI p3 x7) fun x8 => bd (eM p1 x6 x8) fun x9 => some x9

def du (p1:ByteArray) (p2:ByteArray):Option (List (ByteArray)) := gd (p1.size<4294967281) <| gd (1≤p2.size) <| some (Lib.splitB p2 0 (Lib.countB p1 p2) p1)

def jQ (p1:ByteArray):Option (Int×Bool) := gd (p1.size≤281474976710656) <| some (kw p1)

def fv (p1:ByteArray):Option (Int×Bool) := bd (jQ p1) fun x2 => bif x2.2 then bd (di x2.1) fun x3 => some (x2.1,decide (x3=p1)) else some (x2.1,false)

def bR (p1:List (ByteArray×Int)) (p2:Int) (x5:List (ByteArray)):Nat→Int→Int→Option (Unit ⊕ Int) | 0,_,_=>none | fu+1,v6,v7 => bif decide (v7<(x5.length:Int)) then gd (0≤v7∧v7<(x5.length:Int)) <| bd (iF p1 (gt x5 v7)) fun x8 => bif decide (0≤x8) then gd (0≤x8∧x8<(p1.length:Int)) <| bR p1 p2 x5 fu (Go.bits .or .i64 v6 ((gt p1 x8).2)) (IntKind.wrap .i64 (v7+1)) else bd (fv (gt x5 v7)) fun x9 => bif (!x9.2) then some (Sum.inl ()) else bd (gp x9.1 0 4095) fun x10 => bif (!x10) then some (Sum.inl ()) else bR p1 p2 x5 fu (Go.bits .or .i64 v6 x9.1) (IntKind.wrap .i64 (v7+1)) else some (Sum.inr v6)

def fB (p1:List (ByteArray×Int)) (p2:Int) (p3:ByteArray):Option (Int×Bool) := bd (dx p1 p2) fun x4 => bif (!x4) then some (0,false) else bd (du p3 (ByteArray.mk #[124])) fun x5 => bd (bR p1 p2 x5 FU 0 0) fun x11 => sm x11 (fun x12 => some (0,false)) (fun x13 => bd (bY p1 p2 x13) fun x14 => bif (!x14) then some (0,false) else some (x13,true))

def iW (p1:Int):Option (Bool) := bd (eG (IntKind.wrap .u64 (p1))) fun x2 => some (decide (x2=1))

def jg (p1:Int):Option (Unit) := some ()

def iS (p1:Int) (p2:Int):Option (Int) := bd (jg p1) fun x3 => bd (jg p2) fun x4 => bif (!decide (p1=p1)) then bif (!decide (p2=p2)) then some 0 else some (-1) else bif (!decide (p2=p2)) then some 1 else bif decide (p1<p2) then some (-1) else bif decide (p2<p1) then some 1 else some 0

def fU (p1:ByteArray) (p2:Int) (p3:ByteArray) (p4:Int):Option (Int) := bd (iS p2 p4) fun x5 => some x5

def aD (p1:Int) (p2:Int) (v4:Int):Nat→Int→(List (ByteArray×Int))→Option (List (ByteArray×Int)) | 0,_,_=>none | fu+1,v6,v7 => bif decide (p1<v6) then gd (0≤v6∧v6<(v7.length:Int)) <| gd (0≤(IntKind.wrap .i64 (v6 - 1))∧(IntKind.wrap .i64 (v6 - 1))<(v7.length:Int)) <| bd (fU ((gt v7 v6).1) ((gt v7 v6).2) ((gt v7 (IntKind.wrap .i64 (v6 - 1))).1) ((gt v7 (IntKind.wrap .i64 (v6 - 1))).2)) fun x8 => bif decide (x8<0) then aD p1 p2 v4 fu (IntKind.wrap .i64 (v6 - 1)) ((v7.set (0+v6.toNat) ((gt v7 (IntKind.wrap .i64 (v6 - 1))).1,(gt v7 (IntKind.wrap .i64 (v6 - 1))).2)).set (0+(IntKind.wrap .i64 (v6 - 1)).toNat) ((gt v7 v6).1,(gt v7 v6).2)) else some v7 else some v7

def aB (p1:Int) (p2:Int):Nat→Int→(List (ByteArray×Int))→Option (List (ByteArray×Int)) | 0,_,_=>none | fu+1,v4,v5 => bif decide (v4<p2) then bd (aD p1 p2 v4 FU v4 v5) fun x9 => aB p1 p2 fu (IntKind.wrap .i64 (v4+1)) x9 else some v5

def bi (p1:Int) (p2:Int) (p3:List (ByteArray×Int)):Option (List (ByteArray×Int)) := bd (aB p1 p2 FU (IntKind.wrap .i64 (p1+1)) p3) fun x10 => some x10

def br (p1:Int) (p2:Int) (p3:Int) (p4:List (ByteArray×Int)):Nat→Option (List (ByteArray×Int)) | 0=>none | fu+1 => bif decide ((IntKind.wrap .i64 (p2 - p1))≤12) then bd (bi p1 p2 p4) fun x5 => gd (x5.length=p4.length) <| some x5 else bif decide (p3=0) then none else none

def bX (p1:Int) (p2:Int) (p3:Int) (p4:List (ByteArray×Int)):Option (List (ByteArray×Int)) := bd (br p1 p2 p3 p4 FU) fun x6 => some x6

def bS (p1:List (ByteArray×Int)):Option (List (ByteArray×Int)) := bd (eK (IntKind.wrap .u64 ((p1.length:Int)))) fun x2 => bd (bX 0 (p1.length:Int) x2 p1) fun x3 => gd (x3.length=p1.length) <| some x3

def bA (p1:List (ByteArray×Int)):Nat→(List (ByteArray×Int))→Int→Option (List (ByteArray×Int)) | 0,_,_=>none | fu+1,v3,v4 => bif decide (v4<(p1.length:Int)) then gd (0≤v4∧v4<(p1.length:Int)) <| bd (iW ((gt p1 v4).2)) fun x5 => bif x5 then bd (gb v3 ((gt p1 v4).2)) fun x6 => bif decide (x6<0) then gd (v3.length+([((gt p1 v4).1,(gt p1 v4).2)]:List (ByteArray×Int)).length≤1099511627776) <| bA p1 fu (v3++([((gt p1 v4).1,(gt p1 v4).2)]:List (ByteArray×Int))) (IntKind.wrap .i64 (v4+1)) else bA p1 fu v3 (IntKind.wrap .i64 (v4+1)) else bA p1 fu v3 (IntKind.wrap .i64 (v4+1)) else some v3

def dR (p1:List (ByteArray×Int)) (p2:Int):Option (List (ByteArray×Int)) := bd (bA p1 FU ([]:List (ByteArray×Int)) 0) fun x7 => bd (bS x7) fun x8 => gd (x8.length=x7.length) <| some x8

def ff (p1:ByteArray) (p2:Int) (p3:Int):Option (Unit) := some ()

def aS (p1:List (ByteArray×Int)) (p2:Int):Nat→(List (ByteArray))→Int→Option (List (ByteArray)) | 0,_,_=>none | fu+1,v3,v4 => bif decide (v4<(p1.length:Int)) then gd (0≤v4∧v4<(p1.length:Int)) <| bd (ff ((gt p1 v4).1) ((gt p1 v4).2) p2) fun x5 => bif (!decide ((Go.bits .and .i64 p2 ((gt p1 v4).2))=0)) then gd (v3.length+([(gt p1 v4).1]:List (ByteArray)).length≤1099511627776) <| aS p1 p2 fu (v3++([(gt p1 v4).1]:List (ByteArray))) (IntKind.wrap .i64 (v4+1)) else aS p1 p2 fu v3 (IntKind.wrap .i64 (v4+1)) else some v3

def cL (p1:List (ByteArray×Int)) (p2:Int):Option (List (ByteArray)) := bd (aS p1 p2 FU ([]:List (ByteArray)) 0) fun x6 => bd (fF x6) fun x7 => some x6

def bU (x5:List (ByteArray)) (x6:List (ByteArray×Int)):Nat→Int→Int→Option (Int) | 0,_,_=>none | fu+1,v7,v8 => bif decide (v8<(x6.length:Int)) then gd (0≤v8∧v8<(x6.length:Int)) <| bU x5 x6 fu (Go.bits .andNot .i64 v7 ((gt x6 v8).2)) (IntKind.wrap .i64 (v8+1)) else some v7

def fi (p1:List (ByteArray×Int)) (p2:Int) (p3:Int):Option (List (ByteArray)×Int) := bd (dR p1 p2) fun x4 => bd (cL x4 p3) fun x5 => bd (dR p1 p2) fun x6 => bd (bU x5 x6 FU p3 0) fun x9 => some (x5,x9)

def bP (p1:List (ByteArray×Int)) (p2:List (Int)):Nat→(List (ByteArray))→Int→Int→Option (List (ByteArray)×Int) | 0,_,_,_=>none | fu+1,v5,v6,v7 => bif decide (0<v6) then bif decide (0<(p1.length:Int)) then bd (aJ 12 p2 v7) fun x8 => bif decide (0<x8) then bd (aJ (p1.length:Int) p2 (IntKind.wrap .i64 (v7+1))) fun x9 => gd (0≤x9∧x9<(p1.length:Int)) <| gd (v5.length+([(gt p1 x9).1]:List (ByteArray)).length≤1099511627776) <| bP p1 p2 fu (v5++([(gt p1 x9).1]:List (ByteArray))) (IntKind.wrap .i64 (v6 - 1)) (IntKind.wrap .i64 ((IntKind.wrap .i64 (v7+1))+1)) else bd (fp p2 (IntKind.wrap .i64 (v7+1))) fun x10 => gd (v5.length+([x10]:List (ByteArray)).length≤1099511627776) <| bP p1 p2 fu (v5++([x10]:List (ByteArray))) (IntKind.wrap .i64 (v6 - 1)) (IntKind.wrap .i64 ((IntKind.wrap .i64 ((IntKind.wrap .i64 (v7+1))+1))+1)) else bd (fp p2 v7) fun x11 => gd (v5.length+([x11]:List (ByteArray)).length≤1099511627776) <| bP p1 p2 fu (v5++([x11]:List (ByteArray))) (IntKind.wrap .i64 (v6 - 1)) (IntKind.wrap .i64 ((IntKind.wrap .i64 (v7+1))+1)) else some (v5,v7)

def gB (p1:List (ByteArray×Int)) (p2:List (Int)) (p3:Int):Option (List (ByteArray)×Int) := bd (aJ 4 p2 p3) fun x4 => bd (bP p1 p2 FU ([]:List (ByteArray)) x4 (IntKind.wrap .i64 (p3+1))) fun x12 => some (x12.1,x12.2)

def cw (p1:ByteArray) (p2:Int):Nat→(List (ByteArray))→Int→Int→Option (List (ByteArray)×Int) | 0,_,_,_=>none | fu+1,v3,v4,v5 => bif decide (v5<(p1.size:Int)) then gd (0≤v5∧v5<(p1.size:Int)) <| bif decide ((aH p1 v5.toNat)=p2) then gd (0≤v4∧v4≤v5∧v5≤(p1.size:Int)) <| gd (v3.length+([p1.extract v4.toNat v5.toNat]:List (ByteArray)).length≤1099511627776) <| cw p1 p2 fu (v3++([p1.extract v4.toNat v5.toNat]:List (ByteArray))) (IntKind.wrap .i64 (v5+1)) (IntKind.wrap .i64 (v5+1)) else cw p1 p2 fu v3 v4 (IntKind.wrap .i64 (v5+1)) else some (v3,v4)

def cA (p1:ByteArray) (p2:Int):Option (List (ByteArray)) := bd (cw p1 p2 FU ([]:List (ByteArray)) 0 0) fun x6 => gd (0≤x6.2∧x6.2≤(p1.size:Int)∧(p1.size:Int)≤(p1.size:Int)) <| gd (x6.1.length+([p1.extract x6.2.toNat (p1.size:Int).toNat]:List (ByteArray)).length≤1099511627776) <| some (x6.1++([p1.extract x6.2.toNat (p1.size:Int).toNat]:List (ByteArray)))

def ci (p1:ByteArray):Nat→Int→Int→Option (Unit ⊕ Int) | 0,_,_=>none | fu+1,v2,v3 => bif decide (v3<(p1.size:Int)) then gd (0≤v3∧v3<(p1.size:Int)) <| bif decide ((aH p1 v3.toNat)<48) then some (Sum.inl ()) else bif decide (57<(aH p1 v3.toNat)) then some (Sum.inl ()) else bif decide (4095<v2) then some (Sum.inl ()) else nm (IntKind.wrap .i64 (IntKind.wrap .u8 ((aH p1 v3.toNat) - 48))) fun v4 => ci p1 fu (IntKind.wrap .i64 ((IntKind.wrap .i64 (10*v2))+v4)) (IntKind.wrap .i64 (v3+1)) else some (Sum.inr v2)

def cP (p1:ByteArray):Option (Int) := bd (ci p1 FU 0 0) fun x5 => sm x5 (fun x6 => some (-1)) (fun x7 => bif decide (p1=ByteArray.empty) then some (-1) else bif decide (4096<x7) then some (-1) else bd (m_spec_number FU x7) fun x8 => bif (!decide (x8=p1)) then some (-1) else some x7)

def eY (p1:ByteArray):Option (Int×Bool) := bif (!decide (p1=ByteArray.empty)) then gd (0≤(0:Int)∧(0:Int)<(p1.size:Int)) <| bif decide ((aH p1 (0:Int).toNat)=45) then gd (0≤(1:Int)∧(1:Int)≤(p1.size:Int)∧(p1.size:Int)≤(p1.size:Int)) <| bd (cP (p1.extract (1:Int).toNat (p1.size:Int).toNat)) fun x2 => bif decide (x2<0) then some (0,false) else bif decide (x2=0) then some (0,false) else some (IntKind.wrap .i64 (0 - x2),true) else bd (cP p1) fun x3 => bif decide (x3<0) then some (0,false) else some (x3,true) else bd (cP p1) fun x4 => bif decide (x4<0) then some (0,false) else some (x4,true)

def gL (p1:ByteArray):Option (ByteArray×Bool×Int×Bool) := bd (cA p1 32) fun x2 => bif decide ((x2.length:Int)=1) then some (p1,true,0,true) else bif (!decide ((x2.length:Int)=3)) then some (ByteArray.empty,false,0,false) else gd (0≤(1:Int)∧(1:Int)<(x2.length:Int)) <| bif (!decide ((gt x2 (1:Int))=(ByteArray.mk #[61]))) then some (ByteArray.empty,false,0,false) else gd (0≤(2:Int)∧(2:Int)<(x2.length:Int)) <| bd (eY (gt x2 (2:Int))) fun x3 => gd (0≤(0:Int)∧(0:Int)<(x2.length:Int)) <| some ((gt x2 (0:Int)),false,x3.1,x3.2)

def bT (x2:List (ByteArray)):Nat→(List (ByteArray×Bool×Int))→Int→Option (Unit ⊕ List (ByteArray×Bool×Int)) | 0,_,_=>none | fu+1,v4,v5 => bif decide ((IntKind.wrap .i64 (v5+1))<(x2.length:Int)) then gd (0≤v5∧v5<(x2.length:Int)) <| bd (gL (gt x2 v5)) fun x6 => bif (!x6.2.2.2) then some (Sum.inl ()) else gd (v4.length+([(x6.1,x6.2.1,x6.2.2.1)]:List (ByteArray×Bool×Int)).length≤1099511627776) <| bT x2 fu (v4++([(x6.1,x6.2.1,x6.2.2.1)]:List (ByteArray×Bool×Int))) (IntKind.wrap .i64 (v5+1)) else some (Sum.inr v4)

def gj (p1:ByteArray):Option (ByteArray×(List (ByteArray×Bool×Int))×Bool) := bd (cA p1 10) fun x2 => bif decide ((x2.length:Int)<2) then some (ByteArray.empty,([]:List (ByteArray×Bool×Int)),false) else gd (0≤(IntKind.wrap .i64 ((x2.length:Int) - 1))∧(IntKind.wrap .i64 ((x2.length:Int) - 1))<(x2.length:Int)) <| nm ((!decide ((gt x2 (IntKind.wrap .i64 ((x2.length:Int) - 1)))=ByteArray.empty))) fun v3 => bif v3 then some (ByteArray.empty,([]:List (ByteArray×Bool×Int)),false) else bd (bT x2 FU ([]:List (ByteArray×Bool×Int)) 1) fun x7 => sm x7 (fun x8 => some (ByteArray.empty,([]:List (ByteArray×Bool×Int)),false)) (fun x9 => gd (0≤(0:Int)∧(0:Int)<(x2.length:Int)) <| some ((gt x2 (0:Int)),x9,true))

def eW :Option (Unit) := some ()

def dm (p1:ByteArray):Nat→Int→Option (Int ⊕ Unit) | 0,_=>none | fu+1,v3 => nm ((([(ByteArray.mk #[115,116,114,105,99,116]),(ByteArray.mk #[102,105,116]),(ByteArray.mk #[101,106,101,99,116]),(ByteArray.mk #[107,101,101,112])]:List (ByteArray)).length:Int)) fun v4 => bif decide (v3<v4) then gd (0≤v3∧v3<(([(ByteArray.mk #[115,116,114,105,99,116]),(ByteArray.mk #[102,105,116]),(ByteArray.mk #[101,106,101,99,116]),(ByteArray.mk #[107,101,101,112])]:List (ByteArray)).length:Int)) <| nm ((gt ([(ByteArray.mk #[115,116,114,105,99,116]),(ByteArray.mk #[102,105,116]),(ByteArray.mk #[101,106,101,99,116]),(ByteArray.mk #[107,101,101,112])]:List (ByteArray)) v3)) fun v5 => gd ((ByteArray.mk #[102,108,97,103,32]).size+v5.size≤9223372036854775807) <| nm (decide (p1=((ByteArray.mk #[102,108,97,103,32])++v5))) fun v6 => bif v6 then some (Sum.inl v3) else dm p1 fu (IntKind.wrap .i64 (v3+1)) else some (Sum.inr ())

def gw (p1:ByteArray):Option (Int) := bd (eW) fun x2 => bd (dm p1 FU 0) fun x7 => sm x7 (fun x8 => some x8) (fun x9 => some (-1))

def fC (p1:ByteArray):Option ((List (ByteArray×Int))×Int×Bool) := bd (gj p1) fun x2 => bif (!x2.2.2) then some (([]:List (ByteArray×Int)),0,false) else bd (gw x2.1) fun x3 => bif decide (x3<0) then some (([]:List (ByteArray×Int)),0,false) else bd (gw x2.1) fun x4 => bd (gP x2.2.1 x4) fun x5 => some (x5.1,x5.2.1,x5.2.2)

def jk (p1:List (ByteArray×Int)):Option (Int) := bd (gv p1) fun x2 => some (IntKind.wrap .i64 (x2 - 1))

def jZ (p1:List (ByteArray×Int)) (p2:Int) (p3:Int):Option (Int×Int) := bif decide (p3<0) then bif decide (p2=3) then bd (jk p1) fun x4 => bd (cI x4 (IntKind.wrap .i64 ((IntKind.wrap .i64 (0 - p3)) - 1))) fun x5 => some (x5,0) else bd (dg p1) fun x6 => bd (cI x6 (IntKind.wrap .i64 ((IntKind.wrap .i64 (0 - p3)) - 1))) fun x7 => some (x7,0) else bd (dg p1) fun x8 => bd (cI p3 x8) fun x9 => bif decide (x9=0) then some (p3,0) else bif decide (p2=0) then some (0,2) else bif decide (p2=1) then bd (dg p1) fun x10 => bd (eH p3 x10) fun x11 => some (x11,0) else bif decide (p2=2) then some (p3,1) else some (p3,0)

def dz (p1:List (ByteArray×Int)) (p2:Int) (p3:Int):Option (ByteArray) := bd (iZ p1 p3) fun x4 => bd (fG x4) fun x5 => bd (dg x4) fun x6 => bd (cI p3 x6) fun x7 => bd (eM p1 x5 x7) fun x8 => some x8

def hY (p1:List (ByteArray×Int)) (p2:Int) (p3:Int):Option (ByteArray) := bd (jZ p1 p2 p3) fun x4 => bif decide (x4.2=0) then bd (dz p1 p2 x4.1) fun x5 => some x5 else bif decide (x4.2=1) then bd (m_spec_number FU x4.1) fun x6 => gd ((ByteArray.mk #[110,117,109,98,101,114,32]).size+x6.size≤9223372036854775807) <| some ((ByteArray.mk #[110,117,109,98,101,114,32])++x6) else some (ByteArray.mk #[119,114,111,110,103])

def im (p1:List (ByteArray×Int)) (p2:ByteArray):Option (Int) := bd (eF p1 p2) fun x3 => bif decide (0≤x3) then gd (0≤x3∧x3<(p1.length:Int)) <| some ((gt p1 x3).2) else bd (cP p2) fun x4 => some x4

def cr (p1:List (ByteArray×Int)) (p2:Int) (x4:List (ByteArray)):Nat→Int→Int→Option (Unit ⊕ Int) | 0,_,_=>none | fu+1,v5,v6 => bif decide (v6<(x4.length:Int)) then gd (0≤v6∧v6<(x4.length:Int)) <| bd (im p1 (gt x4 v6)) fun x7 => bif decide (x7<0) then some (Sum.inl ()) else bd (dX v5 x7) fun x8 => cr p1 p2 x4 fu x8 (IntKind.wrap .i64 (v6+1)) else some (Sum.inr v5)

def bH (p1:List (ByteArray×Int)) (p2:Int) (p3:ByteArray):Option (Int) := bd (cA p3 124) fun x4 => bd (cr p1 p2 x4 FU 0 0) fun x9 => sm x9 (fun x10 => some (-1)) (fun x11 => bd (ft p1 p2 x11) fun x12 => bif (!x12) then some (-1) else some x11)

def fQ (p1:List (ByteArray×Int)) (p2:Int) (p3:Int):Option (Int) := bd (ft p1 p2 p3) fun x4 => bif (!x4) then some (-1) else bif decide (p2=3) then bd (jk p1) fun x5 => bd (cI x5 p3) fun x6 => some x6 else bd (dg p1) fun x7 => bd (cI x7 p3) fun x8 => some x8

def iU (p1:List (ByteArray×Int)) (p2:Int) (p3:ByteArray):Option (ByteArray) := bd (cA p3 32) fun x4 => gd (0≤(IntKind.wrap .i64 ((x4.length:Int) - 1))∧(IntKind.wrap .i64 ((x4.length:Int) - 1))<(x4.length:Int)) <| bd (eY (gt x4 (IntKind.wrap .i64 ((x4.length:Int) - 1)))) fun x5 => bif decide ((x4.length:Int)=2) then gd (0≤(0:Int)∧(0:Int)<(x4.length:Int)) <| nm (decide ((gt x4 (0:Int))=(ByteArray.mk #[109,97,107,101]))) fun v6 => bif v6 then bif x5.2 then bd (cU x5.1 (-4096) 4095) fun x7 => bif x7 then bd (hY p1 p2 x5.1) fun x8 => some x8 else bif decide ((x4.length:Int)<2) then some (ByteArray.mk #[119,104,97,116]) else bif decide (3<(x4.length:Int)) then some (ByteArray.mk #[119,104,97,116]) else gd (0≤(1:Int)∧(1:Int)<(x4.length:Int)) <| bd (bH p1 p2 (gt x4 (1:Int))) fun x9 => bd (bH p1 p2 (gt x4 (IntKind.wrap .i64 ((x4.length:Int) - 1)))) fun x10 => some (ByteArray.mk #[119,104,97,116]) else bif decide ((x4.length:Int)<2) then some (ByteArray.mk #[119,104,97,116]) else bif decide (3<(x4.length:Int)) then some (ByteArray.mk #[119,104,97,116]) else gd (0≤(1:Int)∧(1:Int)<(x4.length:Int)) <| bd (bH p1 p2 (gt x4 (1:Int))) fun x11 => bd (bH p1 p2 (gt x4 (IntKind.wrap .i64 ((x4.length:Int) - 1)))) fun x12 => some (ByteArray.mk #[119,104,97,116]) else bif decide ((x4.length:Int)<2) then some (ByteArray.mk #[119,104,97,116]) else bif decide (3<(x4.length:Int)) then some (ByteArray.mk #[119,104,97,116]) else gd (0≤(1:Int)∧(1:Int)<(x4.length:Int)) <| bd (bH p1 p2 (gt x4 (1:Int))) fun x13 => bd (bH p1 p2 (gt x4 (IntKind.wrap .i64 ((x4.length:Int) - 1)))) fun x14 => nm (decide ((gt x4 (0:Int))=(ByteArray.mk #[118,97,108,117,101]))) fun v15 => bif v15 then bif decide (0≤x13) then bd (m_spec_number FU x13) fun x16 => some x16 else some (ByteArray.mk #[119,104,97,116]) else nm (decide ((gt x4 (0:Int))=(ByteArray.mk #[115,104,111,119]))) fun v17 => bif v17 then bif decide (0≤x13) then bd (dz p1 p2 x13) fun x18 => some x18 else some (ByteArray.mk #[119,104,97,116]) else nm (decide ((gt x4 (0:Int))=(ByteArray.mk #[115,104,111,114,116]))) fun v19 => bif v19 then bif decide (0≤x13) then bd (gJ p1 p2 x13) fun x20 => some x20 else some (ByteArray.mk #[119,104,97,116]) else bif decide ((gt x4 (0:Int))=(ByteArray.mk #[110,111,116])) then bif decide (0≤x13) then bd (fQ p1 p2 x13) fun x21 => bd (dz p1 p2 x21) fun x22 => some x22 else some (ByteArray.mk #[119,104,97,116]) else some (ByteArray.mk #[119,104,97,116]) else bif decide ((x4.length:Int)<2) then some (ByteArray.mk #[119,104,97,116]) else bif decide (3<(x4.length:Int)) then some (ByteArray.mk #[119,104,97,116]) else gd (0≤(1:Int)∧(1:Int)<(x4.length:Int)) <| bd (bH p1 p2 (gt x4 (1:Int))) fun x23 => bd (bH p1 p2 (gt x4 (IntKind.wrap .i64 ((x4.length:Int) - 1)))) fun x24 => bif decide ((x4.length:Int)=3) then gd (0≤(0:Int)∧(0:Int)<(x4.length:Int)) <| bif decide ((gt x4 (0:Int))=(ByteArray.mk #[111,114])) then bif decide (0≤x23) then bif decide (0≤x24) then bd (dX x23 x24) fun x25 => bd (dz p1 p2 x25) fun x26 => some x26 else some (ByteArray.mk #[119,104,97,116]) else some (ByteArray.mk #[119,104,97,116]) else bif decide ((gt x4 (0:Int))=(ByteArray.mk #[97,110,100])) then bif decide (0≤x23) then bif decide (0≤x24) then bd (eH x23 x24) fun x27 => bd (dz p1 p2 x27) fun x28 => some x28 else some (ByteArray.mk #[119,104,97,116]) else some (ByteArray.mk #[119,104,97,116]) else nm (decide ((gt x4 (0:Int))=(ByteArray.mk #[108,101,115,115]))) fun v29 => bif v29 then bif decide (0≤x23) then bif decide (0≤x24) then bd (cI x23 x24) fun x30 => bd (dz p1 p2 x30) fun x31 => some x31 else some (ByteArray.mk #[119,104,97,116]) else some (ByteArray.mk #[119,104,97,116]) else some (ByteArray.mk #[119,104,97,116]) else some (ByteArray.mk #[119,104,97,116])

def cQ (p2:List (ByteArray)) (x3:(List (ByteArray×Int))×Int×Bool):Nat→ByteArray→Int→Option (ByteArray) | 0,_,_=>none | fu+1,v4,v5 => bif decide (v5<(p2.length:Int)) then bif x3.2.2 then gd (0≤v5∧v5<(p2.length:Int)) <| bd (iU x3.1 x3.2.1 (gt p2 v5)) fun x6 => gd (v4.size+x6.size≤9223372036854775807) <| gd ((v4++x6).size+(ByteArray.mk #[10]).size≤9223372036854775807) <| cQ p2 x3 fu ((v4++x6)++(ByteArray.mk #[10])) (IntKind.wrap .i64 (v5+1)) else gd (v4.size+(ByteArray.mk #[119,114,111,110,103,10]).size≤9223372036854775807) <| cQ p2 x3 fu (v4++(ByteArray.mk #[119,114,111,110,103,10])) (IntKind.wrap .i64 (v5+1)) else some v4

def fE (p1:ByteArray) (p2:List (ByteArray)):Option (ByteArray) := bif decide (20<(p2.length:Int)) then some ByteArray.empty else bd (fC p1) fun x3 => bd (cQ p2 x3 FU ByteArray.empty 0) fun x7 => some x7

def gT (p1:ByteArray) (p2:ByteArray):Option (ByteArray×Bool) := gd (p1.size≤9223372036854775807) <| some (⟨(Lib.trimSuffix p1.data.toList p2.data.toList).toArray⟩,Lib.hasSuffix p1.data.toList p2.data.toList)

def ke (p1:ByteArray) (p2:ByteArray):Option (ByteArray×ByteArray×Bool) := gd (p1.size<4294967281) <| some (⟨(Lib.cut p1.data.toList p2.data.toList).1.toArray⟩,⟨(Lib.cut p1.data.toList p2.data.toList).2.1.toArray⟩,(Lib.cut p1.data.toList p2.data.toList).2.2)

def bQ (x3:List (ByteArray)):Nat→(List (ByteArray×Bool×Int))→Int→Option (Unit ⊕ List (ByteArray×Bool×Int)) | 0,_,_=>none | fu+1,v4,v5 => nm (decide (v5<(((x3.length:Int).toNat - (1:Int).toNat:Nat):Int))) fun v6 => bif v6 then gd ((0≤v5∧v5<(((x3.length:Int).toNat - (1:Int).toNat:Nat):Int))∧(1:Int).toNat+v5.toNat<x3.length) <| bd (ke (gt x3 (((1:Int).toNat+v5.toNat:Nat):Int)) (ByteArray.mk #[32,61,32])) fun x7 => bif x7.2.2 then bd (fv x7.2.1) fun x8 => bif (!x8.2) then some (Sum.inl ()) else gd (v4.length+([(x7.1,(!x7.2.2),x8.1)]:List (ByteArray×Bool×Int)).length≤1099511627776) <| bQ x3 fu (v4++([(x7.1,(!x7.2.2),x8.1)]:List (ByteArray×Bool×Int))) (IntKind.wrap .i64 (v5+1)) else gd (v4.length+([(x7.1,(!x7.2.2),0)]:List (ByteArray×Bool×Int)).length≤1099511627776) <| bQ x3 fu (v4++([(x7.1,(!x7.2.2),0)]:List (ByteArray×Bool×Int))) (IntKind.wrap .i64 (v5+1)) else some (Sum.inr v4)

def gS (p1:ByteArray):Option (ByteArray×(List (ByteArray×Bool×Int))×Bool) := bd (gT p1 (ByteArray.mk #[10])) fun x2 => bd (du x2.1 (ByteArray.mk #[10])) fun x3 => bif (!x2.2) then some (ByteArray.empty,([]:List (ByteArray×Bool×Int)),false) else bif decide (13<(x3.length:Int)) then some (ByteArray.empty,([]:List (ByteArray×Bool×Int)),false) else gd (0≤(1:Int)∧(1:Int)≤(x3.length:Int)∧(x3.length:Int)≤(x3.length:Int)∧(x3.length:Int)≤(x3.length:Int)) <| bd (bQ x3 FU ([]:List (ByteArray×Bool×Int)) 0) fun x9 => sm x9 (fun x10 => some (ByteArray.empty,([]:List (ByteArray×Bool×Int)),false)) (fun x11 => gd (0≤(0:Int)∧(0:Int)<(x3.length:Int)) <| some ((gt x3 (0:Int)),x11,true))

def gU (p1:ByteArray) (p2:ByteArray):Option (ByteArray×Bool) := some (⟨(Lib.trimPrefix p1.data.toList p2.data.toList).toArray⟩,Lib.hasPrefix p1.data.toList p2.data.toList)

def cN (p1:List (ByteArray)) (p2:ByteArray):Nat→Int→Option (Int ⊕ Unit) | 0,_=>none | fu+1,v3 => bif decide (v3<(p1.length:Int)) then gd (0≤v3∧v3<(p1.length:Int)) <| bif decide (p2=(gt p1 v3)) then some (Sum.inl v3) else cN p1 p2 fu (IntKind.wrap .i64 (v3+1)) else some (Sum.inr ())

def fD (p1:List (ByteArray)) (p2:ByteArray):Option (Int) := bd (cN p1 p2 FU 0) fun x4 => sm x4 (fun x5 => some x5) (fun x6 => some (-1))

def gR (p1:ByteArray):Option ((List (ByteArray×Int))×Int×Bool) := bd (gS p1) fun x2 => bd (gU x2.1 (ByteArray.mk #[102,108,97,103,32])) fun x3 => bd (fD boundWords x3.1) fun x4 => bif (!x2.2.2) then some (([]:List (ByteArray×Int)),0,false) else bif (!x3.2) then some (([]:List (ByteArray×Int)),0,false) else bif decide (x4<0) then some (([]:List (ByteArray×Int)),0,false) else bd (gQ x2.2.1 x4) fun x5 => some (x5.1,x5.2.1,x5.2.2)

def gO (p1:List (ByteArray×Int)) (p2:Int):Option (Int) := bd (cK p1 p2) fun x3 => bd (eK (IntKind.wrap .u64 (x3))) fun x4 => gd (0≤x4∧x4≤(IntKind.bits .i64:Int)) <| nm (IntKind.wrap .i64 ((IntKind.wrap .i64 ((1:Int)*2 ^ x4.toNat)) - 1)) fun v5 => some v5

def eT (p1:List (ByteArray×Int)) (p2:Int):Option (Int) := bif decide (p2=3) then bd (gO p1 p2) fun x3 => some x3 else bd (cK p1 p2) fun x4 => some x4

def gI (p1:List (ByteArray×Int)) (p2:Int) (p3:Int):Option (Int×Int) := bd (dx p1 p2) fun x4 => bif (!x4) then some (0,2) else bd (gp p3 (-4096) 4095) fun x5 => bif (!x5) then some (0,2) else bif decide (p3<0) then bd (eT p1 p2) fun x6 => nm (Go.bits .andNot .i64 x6 (IntKind.wrap .i64 ((IntKind.wrap .i64 (0 - p3)) - 1))) fun v7 => some (v7,0) else bd (cK p1 p2) fun x8 => bif decide ((Go.bits .andNot .i64 p3 x8)=0) then some (p3,0) else bif decide (p2=3) then some (p3,0) else bif decide (p2=1) then bd (cK p1 p2) fun x9 => some (Go.bits .and .i64 p3 x9,0) else bif decide (p2=2) then some (p3,1) else some (0,2)

def bt (p1:List (ByteArray×Int)) (p2:Int) (p3:Int):Option (ByteArray) := bd (bY p1 p2 p3) fun x4 => bif (!x4) then some ByteArray.empty else bd (fi p1 p2 p3) fun x5 => bd (fq p1 p2 x5.1 x5.2) fun x6 => some x6

def ik (p1:List (ByteArray×Int)) (p2:Int) (p3:ByteArray):Option (ByteArray) := bd (fv p3) fun x4 => bif (!x4.2) then some (ByteArray.mk #[119,104,97,116]) else bd (gp x4.1 (-4096) 4095) fun x5 => bif (!x5) then some (ByteArray.mk #[119,104,97,116]) else bd (gI p1 p2 x4.1) fun x6 => bif decide (x6.2=0) then bd (bt p1 p2 x6.1) fun x7 => some x7 else bif decide (x6.2=1) then bd (di x6.1) fun x8 => gd ((ByteArray.mk #[110,117,109,98,101,114,32]).size+x8.size≤9223372036854775807) <| some ((ByteArray.mk #[110,117,109,98,101,114,32])++x8) else some (ByteArray.mk #[119,114,111,110,103])

def dE (p1:List (ByteArray×Int)) (p2:Int) (p3:Int):Option (Int) := bd (bY p1 p2 p3) fun x4 => bif (!x4) then some (-1) else bd (eT p1 p2) fun x5 => some (Go.bits .andNot .i64 x5 p3)

def iw (p1:Int) (p2:Int):Option (Unit) := some ()

def fH (p1:List (ByteArray×Int)) (p2:Int) (p3:Int) (p4:Int):Option (Int) := bd (bY p1 p2 p3) fun x5 => bif (!x5) then some (-1) else bd (bY p1 p2 p4) fun x6 => bif (!x6) then some (-1) else bd (iw p3 p4) fun x7 => some (Go.bits .or .i64 p3 p4)

def eP (p1:List (ByteArray×Int)) (p2:Int) (p3:Int) (p4:Int):Option (Int) := bd (fH p1 p2 p3 p4) fun x5 => some x5

def ij (p1:Int) (p2:Int):Option (Unit) := some ()

def fe (p1:List (ByteArray×Int)) (p2:Int) (p3:Int) (p4:Int):Option (Int) := bd (bY p1 p2 p3) fun x5 => bif (!x5) then some (-1) else bd (bY p1 p2 p4) fun x6 => bif (!x6) then some (-1) else bd (ij p3 p4) fun x7 => some (Go.bits .and .i64 p3 p4)

def ea (p1:List (ByteArray×Int)) (p2:Int) (p3:Int) (p4:Int):Option (Int) := bd (fe p1 p2 p3 p4) fun x5 => some x5

def dw (p1:List (ByteArray×Int)) (p2:Int) (x4:List (ByteArray)):Nat→(List (Int))→Int→Option (Unit ⊕ List (Int)) | 0,_,_=>none | fu+1,v7,v8 => nm (decide (v8<(((x4.length:Int).toNat - (1:Int).toNat:Nat):Int))) fun v9 => bif v9 then gd ((0≤v8∧v8<(((x4.length:Int).toNat - (1:Int).toNat:Nat):Int))∧(1:Int).toNat+v8.toNat<x4.length) <| bd (fB p1 p2 (gt x4 (((1:Int).toNat+v8.toNat:Nat):Int))) fun x10 => bif (!x10.2) then some (Sum.inl ()) else gd (v7.length+([x10.1]:List (Int)).length≤1099511627776) <| dw p1 p2 x4 fu (v7++([x10.1]:List (Int))) (IntKind.wrap .i64 (v8+1)) else some (Sum.inr v7)

def bV (p1:List (ByteArray×Int)) (p2:Int) (x4:List (ByteArray)):Nat→(List (Int))→Int→Option (Unit ⊕ List (Int)) | 0,_,_=>none | fu+1,v14,v15 => nm (decide (v15<(((x4.length:Int).toNat - (1:Int).toNat:Nat):Int))) fun v16 => bif v16 then gd ((0≤v15∧v15<(((x4.length:Int).toNat - (1:Int).toNat:Nat):Int))∧(1:Int).toNat+v15.toNat<x4.length) <| bd (fB p1 p2 (gt x4 (((1:Int).toNat+v15.toNat:Nat):Int))) fun x17 => bif (!x17.2) then some (Sum.inl ()) else gd (v14.length+([x17.1]:List (Int)).length≤1099511627776) <| bV p1 p2 x4 fu (v14++([x17.1]:List (Int))) (IntKind.wrap .i64 (v15+1)) else some (Sum.inr v14)

def fT (p1:List (ByteArray×Int)) (p2:Int) (p3:ByteArray):Option (ByteArray) := bd (du p3 (ByteArray.mk #[32])) fun x4 => gd (0≤(0:Int)∧(0:Int)<(x4.length:Int)) <| nm (decide ((gt x4 (0:Int))=(ByteArray.mk #[109,97,107,101]))) fun v5 => bif v5 then bif decide ((x4.length:Int)=2) then gd (0≤(1:Int)∧(1:Int)<(x4.length:Int)) <| bd (ik p1 p2 (gt x4 (1:Int))) fun x6 => some x6 else gd (0≤(1:Int)∧(1:Int)≤(x4.length:Int)∧(x4.length:Int)≤(x4.length:Int)∧(x4.length:Int)≤(x4.length:Int)) <| bd (dw p1 p2 x4 FU ([]:List (Int)) 0) fun x11 => sm x11 (fun x12 => some (ByteArray.mk #[119,104,97,116])) (fun x13 => some (ByteArray.mk #[119,104,97,116])) else gd (0≤(1:Int)∧(1:Int)≤(x4.length:Int)∧(x4.length:Int)≤(x4.length:Int)∧(x4.length:Int)≤(x4.length:Int)) <| bd (bV p1 p2 x4 FU ([]:List (Int)) 0) fun x18 => sm x18 (fun x19 => some (ByteArray.mk #[119,104,97,116])) (fun x20 => nm (decide ((gt x4 (0:Int))=(ByteArray.mk #[118,97,108,117,101]))) fun v21 => bif v21 then bif decide ((x20.length:Int)=1) then gd (0≤(0:Int)∧(0:Int)<(x20.length:Int)) <| bd (di (gt x20 (0:Int))) fun x22 => some x22 else some (ByteArray.mk #[119,104,97,116]) else nm (decide ((gt x4 (0:Int))=(ByteArray.mk #[115,104,111,119]))) fun v23 => bif v23 then bif decide ((x20.length:Int)=1) then gd (0≤(0:Int)∧(0:Int)<(x20.length:Int)) <| bd (bt p1 p2 (gt x20 (0:Int))) fun x24 => some x24 else some (ByteArray.mk #[119,104,97,116]) else nm (decide ((gt x4 (0:Int))=(ByteArray.mk #[115,104,111,114,116]))) fun v25 => bif v25 then bif decide ((x20.length:Int)=1) then gd (0≤(0:Int)∧(0:Int)<(x20.length:Int)) <| bd (eh p1 p2 (gt x20 (0:Int))) fun x26 => some x26 else some (ByteArray.mk #[119,104,97,116]) else bif decide ((gt x4 (0:Int))=(ByteArray.mk #[110,111,116])) then bif decide ((x20.length:Int)=1) then gd (0≤(0:Int)∧(0:Int)<(x20.length:Int)) <| bd (dE p1 p2 (gt x20 (0:Int))) fun x27 => bd (bt p1 p2 x27) fun x28 => some x28 else some (ByteArray.mk #[119,104,97,116]) else bif decide ((gt x4 (0:Int))=(ByteArray.mk #[111,114])) then bif decide ((x20.length:Int)=2) then gd (0≤(0:Int)∧(0:Int)<(x20.length:Int)) <| gd (0≤(1:Int)∧(1:Int)<(x20.length:Int)) <| bd (eP p1 p2 (gt x20 (0:Int)) (gt x20 (1:Int))) fun x29 => bd (bt p1 p2 x29) fun x30 => some x30 else some (ByteArray.mk #[119,104,97,116]) else bif decide ((gt x4 (0:Int))=(ByteArray.mk #[97,110,100])) then bif decide ((x20.length:Int)=2) then gd (0≤(0:Int)∧(0:Int)<(x20.length:Int)) <| gd (0≤(1:Int)∧(1:Int)<(x20.length:Int)) <| bd (ea p1 p2 (gt x20 (0:Int)) (gt x20 (1:Int))) fun x31 => bd (bt p1 p2 x31) fun x32 => some x32 else some (ByteArray.mk #[119,104,97,116]) else nm (decide ((gt x4 (0:Int))=(ByteArray.mk #[108,101,115,115]))) fun v33 => bif v33 then bif decide ((x20.length:Int)=2) then gd (0≤(0:Int)∧(0:Int)<(x20.length:Int)) <| gd (0≤(1:Int)∧(1:Int)<(x20.length:Int)) <| bd (dJ p1 p2 (gt x20 (0:Int)) (gt x20 (1:Int))) fun x34 => bd (bt p1 p2 x34) fun x35 => some x35 else some (ByteArray.mk #[119,104,97,116]) else some (ByteArray.mk #[119,104,97,116]))

def gy (p1:ByteArray) (p2:List (ByteArray)):Option (ByteArray) := bif decide (20<(p2.length:Int)) then some ByteArray.empty else bd (gR p1) fun x3 => bd (kC (fun l=>fT x3.1 x3.2.1 l) x3.2.2 p2) fun x4 => some ⟨x4.toArray⟩

def gg (p1:Int):Option (ByteArray) := bif decide (p1<0) then bd (m_spec_number FU (IntKind.wrap .i64 (0 - p1))) fun x2 => gd ((ByteArray.mk #[45]).size+x2.size≤9223372036854775807) <| some ((ByteArray.mk #[45])++x2) else bd (m_spec_number FU p1) fun x3 => some x3

def cu (p1:List (ByteArray×Bool×Int)):Nat→ByteArray→Int→Option (ByteArray) | 0,_,_=>none | fu+1,v2,v3 => bif decide (v3<(p1.length:Int)) then gd (0≤v3∧v3<(p1.length:Int)) <| gd (v2.size+((gt p1 v3).1).size≤9223372036854775807) <| bif (!((gt p1 v3).2.1)) then gd ((v2++((gt p1 v3).1)).size+(ByteArray.mk #[32,61,32]).size≤9223372036854775807) <| bd (gg ((gt p1 v3).2.2)) fun x4 => gd (((v2++((gt p1 v3).1))++(ByteArray.mk #[32,61,32])).size+x4.size≤9223372036854775807) <| nm (((v2++((gt p1 v3).1))++(ByteArray.mk #[32,61,32]))++x4) fun v5 => gd (v5.size+(ByteArray.mk #[10]).size≤9223372036854775807) <| cu p1 fu (v5++(ByteArray.mk #[10])) (IntKind.wrap .i64 (v3+1)) else gd ((v2++((gt p1 v3).1)).size+(ByteArray.mk #[10]).size≤9223372036854775807) <| cu p1 fu ((v2++((gt p1 v3).1))++(ByteArray.mk #[10])) (IntKind.wrap .i64 (v3+1)) else some v2

def gD (p1:List (ByteArray×Bool×Int)):Option (ByteArray) := bd (cu p1 FU ByteArray.empty 0) fun x6 => some x6

def hZ (p1:List (Int)) (p2:Int):Option (ByteArray×Int) := bd (eW) fun x3 => bd (aJ 4 p1 p2) fun x4 => gd (0≤x4∧x4<(([(ByteArray.mk #[115,116,114,105,99,116]),(ByteArray.mk #[102,105,116]),(ByteArray.mk #[101,106,101,99,116]),(ByteArray.mk #[107,101,101,112])]:List (ByteArray)).length:Int)) <| nm ((gt ([(ByteArray.mk #[115,116,114,105,99,116]),(ByteArray.mk #[102,105,116]),(ByteArray.mk #[101,106,101,99,116]),(ByteArray.mk #[107,101,101,112])]:List (ByteArray)) x4)) fun v5 => gd ((ByteArray.mk #[102,108,97,103,32]).size+v5.size≤9223372036854775807) <| gd (((ByteArray.mk #[102,108,97,103,32])++v5).size+(ByteArray.mk #[10]).size≤9223372036854775807) <| nm (((ByteArray.mk #[102,108,97,103,32])++v5)++(ByteArray.mk #[10])) fun v6 => bd (gN 4095 p1 (IntKind.wrap .i64 (p2+1))) fun x7 => bd (gD x7.1) fun x8 => gd (v6.size+x8.size≤9223372036854775807) <| some (v6++x8,x7.2)

def ja (p1:ByteArray) (p2:List (Int)) (p3:Int):Option (ByteArray×Int) := bd (aJ (IntKind.wrap .i64 ((p1.size:Int)+1)) p2 p3) fun x4 => bd (aJ 5 p2 (IntKind.wrap .i64 (p3+1))) fun x5 => bif decide (x5=0) then bif decide (x4<(p1.size:Int)) then gd (0≤(0:Int)∧(0:Int)≤x4∧x4≤(p1.size:Int)) <| bd (bq ([(ByteArray.mk #[48]),(ByteArray.mk #[49]),(ByteArray.mk #[124]),(ByteArray.mk #[32]),(ByteArray.mk #[97]),(ByteArray.mk #[33]),(ByteArray.mk #[45]),(ByteArray.mk #[61]),(ByteArray.mk #[10])]:List (ByteArray)) p2 (IntKind.wrap .i64 ((IntKind.wrap .i64 (p3+1))+1))) fun x6 => gd ((p1.extract (0:Int).toNat x4.toNat).size+x6.size≤9223372036854775807) <| gd (0≤(IntKind.wrap .i64 (x4+1))∧(IntKind.wrap .i64 (x4+1))≤(p1.size:Int)∧(p1.size:Int)≤(p1.size:Int)) <| nm (p1.extract (IntKind.wrap .i64 (x4+1)).toNat (p1.size:Int).toNat) fun v7 => gd (((p1.extract (0:Int).toNat x4.toNat)++x6).size+v7.size≤9223372036854775807) <| some (((p1.extract (0:Int).toNat x4.toNat)++x6)++v7,IntKind.wrap .i64 ((IntKind.wrap .i64 ((IntKind.wrap .i64 (p3+1))+1))+1)) else some (p1,IntKind.wrap .i64 ((IntKind.wrap .i64 (p3+1))+1)) else bif decide (x5=1) then bif decide (x4<(p1.size:Int)) then gd (0≤(0:Int)∧(0:Int)≤x4∧x4≤(p1.size:Int)) <| bd (bq ([(ByteArray.mk #[48]),(ByteArray.mk #[49]),(ByteArray.mk #[124]),(ByteArray.mk #[32]),(ByteArray.mk #[97]),(ByteArray.mk #[33]),(ByteArray.mk #[45]),(ByteArray.mk #[61]),(ByteArray.mk #[10])]:List (ByteArray)) p2 (IntKind.wrap .i64 ((IntKind.wrap .i64 (p3+1))+1))) fun x8 => gd ((p1.extract (0:Int).toNat x4.toNat).size+x8.size≤9223372036854775807) <| gd (0≤(IntKind.wrap .i64 (x4+1))∧(IntKind.wrap .i64 (x4+1))≤(p1.size:Int)∧(p1.size:Int)≤(p1.size:Int)) <| nm (p1.extract (IntKind.wrap .i64 (x4+1)).toNat (p1.size:Int).toNat) fun v9 => gd (((p1.extract (0:Int).toNat x4.toNat)++x8).size+v9.size≤9223372036854775807) <| some (((p1.extract (0:Int).toNat x4.toNat)++x8)++v9,IntKind.wrap .i64 ((IntKind.wrap .i64 ((IntKind.wrap .i64 (p3+1))+1))+1)) else some (p1,IntKind.wrap .i64 ((IntKind.wrap .i64 (p3+1))+1)) else bif decide (x5=2) then gd (0≤(0:Int)∧(0:Int)≤x4∧x4≤(p1.size:Int)) <| some (p1.extract (0:Int).toNat x4.toNat,IntKind.wrap .i64 ((IntKind.wrap .i64 (p3+1))+1)) else bif decide (x5=3) then bd (bq ([(ByteArray.mk #[48]),(ByteArray.mk #[124]),(ByteArray.mk #[32]),(ByteArray.mk #[97]),(ByteArray.mk #[10])]:List (ByteArray)) p2 (IntKind.wrap .i64 ((IntKind.wrap .i64 (p3+1))+1))) fun x10 => gd (p1.size+x10.size≤9223372036854775807) <| some (p1++x10,IntKind.wrap .i64 ((IntKind.wrap .i64 ((IntKind.wrap .i64 (p3+1))+1))+1)) else some (p1,IntKind.wrap .i64 ((IntKind.wrap .i64 (p3+1))+1))

def fM (p1:List (ByteArray×Int)) (p2:Int) (p3:List (Int)) (p4:Int):Option (ByteArray×Int) := bd (gB p1 p3 p4) fun x5 => bd (aJ 4 p3 x5.2) fun x6 => bif decide (x6=0) then bd (bq ([(ByteArray.mk #[49]),(ByteArray.mk #[56]),(ByteArray.mk #[51,50]),(ByteArray.mk #[48]),(ByteArray.mk #[52,48,57,53]),(ByteArray.mk #[52,48,57,54]),(ByteArray.mk #[48,49])]:List (ByteArray)) p3 (IntKind.wrap .i64 (x5.2+1))) fun x7 => gd (x5.1.length+([x7]:List (ByteArray)).length≤1099511627776) <| nm (decide (((x5.1++([x7]:List (ByteArray))).length:Int)=0)) fun v8 => bif v8 then bd (bq ([(ByteArray.mk #[48]),(ByteArray.mk #[49]),ByteArray.empty]:List (ByteArray)) p3 (IntKind.wrap .i64 ((IntKind.wrap .i64 (x5.2+1))+1))) fun x9 => bd (cD ([x9]:List (ByteArray)) (ByteArray.mk #[124])) fun x10 => some (x10,IntKind.wrap .i64 ((IntKind.wrap .i64 ((IntKind.wrap .i64 (x5.2+1))+1))+1)) else bd (cD (x5.1++([x7]:List (ByteArray))) (ByteArray.mk #[124])) fun x11 => some (x11,IntKind.wrap .i64 ((IntKind.wrap .i64 (x5.2+1))+1)) else bif decide ((x5.1.length:Int)=0) then bd (bq ([(ByteArray.mk #[48]),(ByteArray.mk #[49]),ByteArray.empty]:List (ByteArray)) p3 (IntKind.wrap .i64 (x5.2+1))) fun x12 => bd (cD ([x12]:List (ByteArray)) (ByteArray.mk #[124])) fun x13 => some (x13,IntKind.wrap .i64 ((IntKind.wrap .i64 (x5.2+1))+1)) else bd (cD x5.1 (ByteArray.mk #[124])) fun x14 => some (x14,IntKind.wrap .i64 (x5.2+1))

def cR (x2:List (Int)) (x4:(List (ByteArray×Int))×Int×Bool) (x6:ByteArray×Int):Nat→Int→(List (ByteArray))→Int→Option (List (ByteArray)) | 0,_,_,_=>none | fu+1,v8,v9,v10 => bif decide (0<v10) then bd (fM x4.1 x4.2.1 x2 v8) fun x11 => bd (fM x4.1 x4.2.1 x2 x11.2) fun x12 => gd ((ByteArray.mk #[115,104,111,119,32]).size+x11.1.size≤9223372036854775807) <| gd ((ByteArray.mk #[115,104,111,114,116,32]).size+x11.1.size≤9223372036854775807) <| gd ((ByteArray.mk #[110,111,116,32]).size+x11.1.size≤9223372036854775807) <| gd ((ByteArray.mk #[111,114,32]).size+x11.1.size≤9223372036854775807) <| gd (((ByteArray.mk #[111,114,32])++x11.1).size+(ByteArray.mk #[32]).size≤9223372036854775807) <| nm (((ByteArray.mk #[111,114,32])++x11.1)++(ByteArray.mk #[32])) fun v13 => gd (v13.size+x12.1.size≤9223372036854775807) <| gd ((ByteArray.mk #[97,110,100,32]).size+x11.1.size≤9223372036854775807) <| gd (((ByteArray.mk #[97,110,100,32])++x11.1).size+(ByteArray.mk #[32]).size≤9223372036854775807) <| nm (((ByteArray.mk #[97,110,100,32])++x11.1)++(ByteArray.mk #[32])) fun v14 => gd (v14.size+x12.1.size≤9223372036854775807) <| gd ((ByteArray.mk #[108,101,115,115,32]).size+x11.1.size≤9223372036854775807) <| gd (((ByteArray.mk #[108,101,115,115,32])++x11.1).size+(ByteArray.mk #[32]).size≤9223372036854775807) <| nm (((ByteArray.mk #[108,101,115,115,32])++x11.1)++(ByteArray.mk #[32])) fun v15 => gd (v15.size+x12.1.size≤9223372036854775807) <| gd ((ByteArray.mk #[118,97,108,117,101,32]).size+x11.1.size≤9223372036854775807) <| gd (((ByteArray.mk #[115,104,111,119,32])++x11.1).size+(ByteArray.mk #[32]).size≤9223372036854775807) <| nm (((ByteArray.mk #[115,104,111,119,32])++x11.1)++(ByteArray.mk #[32])) fun v16 => gd (v16.size+x12.1.size≤9223372036854775807) <| bd (bq ([(ByteArray.mk #[109,97,107,101,32,51]),(ByteArray.mk #[109,97,107,101,32,45,50]),(ByteArray.mk #[109,97,107,101,32,52,48,57,53]),(ByteArray.mk #[109,97,107,101,32,45,52,48,57,54]),(ByteArray.mk #[109,97,107,101,32,48,49]),(ByteArray.mk #[115,104,111,119,32])++x11.1,(ByteArray.mk #[115,104,111,114,116,32])++x11.1,(ByteArray.mk #[110,111,116,32])++x11.1,v13++x12.1,v14++x12.1,v15++x12.1,(ByteArray.mk #[118,97,108,117,101,32])++x11.1,(ByteArray.mk #[104,101,108,112]),ByteArray.empty,v16++x12.1]:List (ByteArray)) x2 x12.2) fun x17 => gd (v9.length+([x17]:List (ByteArray)).length≤1099511627776) <| cR x2 x4 x6 fu (IntKind.wrap .i64 (x12.2+1)) (v9++([x17]:List (ByteArray))) (IntKind.wrap .i64 (v10 - 1)) else some v9

def bM (x2:List (Int)) (x3:ByteArray×Int) (x4:(List (ByteArray×Int))×Int×Bool):Nat→Int→(List (ByteArray))→Int→Option (List (ByteArray)) | 0,_,_,_=>none | fu+1,v20,v21,v22 => bif decide (0<v22) then bd (fM x4.1 x4.2.1 x2 v20) fun x23 => bd (fM x4.1 x4.2.1 x2 x23.2) fun x24 => gd ((ByteArray.mk #[115,104,111,119,32]).size+x23.1.size≤9223372036854775807) <| gd ((ByteArray.mk #[115,104,111,114,116,32]).size+x23.1.size≤9223372036854775807) <| gd ((ByteArray.mk #[110,111,116,32]).size+x23.1.size≤9223372036854775807) <| gd ((ByteArray.mk #[111,114,32]).size+x23.1.size≤9223372036854775807) <| gd (((ByteArray.mk #[111,114,32])++x23.1).size+(ByteArray.mk #[32]).size≤9223372036854775807) <| nm (((ByteArray.mk #[111,114,32])++x23.1)++(ByteArray.mk #[32])) fun v25 => gd (v25.size+x24.1.size≤9223372036854775807) <| gd ((ByteArray.mk #[97,110,100,32]).size+x23.1.size≤9223372036854775807) <| gd (((ByteArray.mk #[97,110,100,32])++x23.1).size+(ByteArray.mk #[32]).size≤9223372036854775807) <| nm (((ByteArray.mk #[97,110,100,32])++x23.1)++(ByteArray.mk #[32])) fun v26 => gd (v26.size+x24.1.size≤9223372036854775807) <| gd ((ByteArray.mk #[108,101,115,115,32]).size+x23.1.size≤9223372036854775807) <| gd (((ByteArray.mk #[108,101,115,115,32])++x23.1).size+(ByteArray.mk #[32]).size≤9223372036854775807) <| nm (((ByteArray.mk #[108,101,115,115,32])++x23.1)++(ByteArray.mk #[32])) fun v27 => gd (v27.size+x24.1.size≤9223372036854775807) <| gd ((ByteArray.mk #[118,97,108,117,101,32]).size+x23.1.size≤9223372036854775807) <| gd (((ByteArray.mk #[115,104,111,119,32])++x23.1).size+(ByteArray.mk #[32]).size≤9223372036854775807) <| nm (((ByteArray.mk #[115,104,111,119,32])++x23.1)++(ByteArray.mk #[32])) fun v28 => gd (v28.size+x24.1.size≤9223372036854775807) <| bd (bq ([(ByteArray.mk #[109,97,107,101,32,51]),(ByteArray.mk #[109,97,107,101,32,45,50]),(ByteArray.mk #[109,97,107,101,32,52,48,57,53]),(ByteArray.mk #[109,97,107,101,32,45,52,48,57,54]),(ByteArray.mk #[109,97,107,101,32,48,49]),(ByteArray.mk #[115,104,111,119,32])++x23.1,(ByteArray.mk #[115,104,111,114,116,32])++x23.1,(ByteArray.mk #[110,111,116,32])++x23.1,v25++x24.1,v26++x24.1,v27++x24.1,(ByteArray.mk #[118,97,108,117,101,32])++x23.1,(ByteArray.mk #[104,101,108,112]),ByteArray.empty,v28++x24.1]:List (ByteArray)) x2 x24.2) fun x29 => gd (v21.length+([x29]:List (ByteArray)).length≤1099511627776) <| bM x2 x3 x4 fu (IntKind.wrap .i64 (x24.2+1)) (v21++([x29]:List (ByteArray))) (IntKind.wrap .i64 (v22 - 1)) else some v21

def fJ (p1:List (Int)):Option (ByteArray×List (ByteArray)) := bd (gG p1) fun x2 => bd (hZ x2 0) fun x3 => bd (fC x3.1) fun x4 => bd (aJ 8 x2 x3.2) fun x5 => bif decide (x5=0) then bd (ja x3.1 x2 (IntKind.wrap .i64 (x3.2+1))) fun x6 => bd (cv ([4,6,2,0]:List (Int)) x2 x6.2) fun x7 => bd (cR x2 x4 x6 FU (IntKind.wrap .i64 (x6.2+1)) ([]:List (ByteArray)) x7) fun x18 => some (x6.1,x18) else bd (cv ([4,6,2,0]:List (Int)) x2 (IntKind.wrap .i64 (x3.2+1))) fun x19 => bd (bM x2 x3 x4 FU (IntKind.wrap .i64 ((IntKind.wrap .i64 (x3.2+1))+1)) ([]:List (ByteArray)) x19) fun x30 => some (x3.1,x30)

def cE (p1:ByteArray):Nat→Int→Int→Option (Int) | 0,_,_=>none | fu+1,v2,v3 => bif decide (v3<(p1.size:Int)) then gd (0≤v3∧v3<(p1.size:Int)) <| bif decide ((aH p1 v3.toNat)=10) then cE p1 fu (IntKind.wrap .i64 (v2+1)) (IntKind.wrap .i64 (v3+1)) else cE p1 fu v2 (IntKind.wrap .i64 (v3+1)) else some v2

def ii (p1:ByteArray):Option (Int) := bd (cE p1 FU 0 0) fun x4 => some x4

def cq (x2:ByteArray×List (ByteArray)) (x3:ByteArray):Nat→Int→Option (Unit ⊕ Unit) | 0,_=>none | fu+1,v7 => bif decide (v7≤(x2.2.length:Int)) then gd (0≤(0:Int)∧(0:Int)≤v7∧v7≤(x2.2.length:Int)∧(x2.2.length:Int)≤(x2.2.length:Int)) <| bd (gy x2.1 (sub x2.2 (0:Int) v7)) fun x8 => bif decide ((x3.size:Int)<(x8.size:Int)) then some (Sum.inl ()) else gd (0≤(0:Int)∧(0:Int)≤(x8.size:Int)∧(x8.size:Int)≤(x3.size:Int)) <| nm ((!decide ((x3.extract (0:Int).toNat (x8.size:Int).toNat)=x8))) fun v9 => bif v9 then some (Sum.inl ()) else cq x2 x3 fu (IntKind.wrap .i64 (v7+1)) else some (Sum.inr ())

def iM (p1:List (Int)):Option (Bool) := bif decide (1048576<(p1.length:Int)) then some true else bd (fJ p1) fun x2 => bd (gy x2.1 x2.2) fun x3 => bd (fE x2.1 x2.2) fun x4 => bif (!decide (x3=x4)) then bd (fE x2.1 x2.2) fun x5 => some (decide (x3=x5)) else bif decide (x3=ByteArray.empty) then bd (fE x2.1 x2.2) fun x6 => some (decide (x3=x6)) else bd (cq x2 x3 FU 0) fun x10 => sm x10 (fun x11 => some false) (fun x12 => bd (ii x3) fun x13 => some (decide (x13=(x2.2.length:Int))))

end Go.Eng

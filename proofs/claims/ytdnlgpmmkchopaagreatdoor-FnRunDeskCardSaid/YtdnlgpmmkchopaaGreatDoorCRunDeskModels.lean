/- What is said here: nothing is proved. A model of each function, printed by a program out of the translated code. -/
import Derived.Test.YtdnlgpmmkchopaaGreatDoorCRunDeskEng27
set_option linter.unusedVariables false
set_option linter.unusedSimpArgs false
open Go.IntKind renaming wrap → CB
open ByteArray renaming mk → CC
namespace Go.Eng
open Go

def ax (x:Int):List Value:=[.int .i64 x]

def ab (x:ByteArray):List Value:=[.string x]

def ae (x:ByteArray×Bool×Int):List Value:=[.string x.1,.bool x.2.1,.int .i64 x.2.2]

def aa (x:ByteArray×Int):List Value:=[.string x.1,.int .i64 x.2]

def ag (x:Int):List Value:=[.int .u8 x]

def FU:Nat:=4611686018427387904

def Cz (ns:List Int):ByteArray:=ns.foldl (fun r n=>r.push (UInt8.ofNat n.toNat)) ByteArray.empty

def gG (p1:List (Int)):Option (List (Int)) := bif decide (2000<(p1.length:Int)) then gd (0≤(0:Int)∧(0:Int)≤(2000:Int)∧(2000:Int)≤(p1.length:Int)∧(p1.length:Int)≤(p1.length:Int)) <| some (sub p1 (0:Int) (2000:Int)) else some p1

def aJ (p1:Int) (p2:List (Int)) (p3:Int):Option (Int) := bif decide (p1<1) then some 0 else bif decide ((p2.length:Int)=0) then some 0 else nm (decide ((CB .i64 ((CB .i64 (p3+1)) - 1))<(p2.length:Int))) fun v4 => bif v4 then gd (0≤(CB .i64 ((CB .i64 (p3+1)) - 1))∧(CB .i64 ((CB .i64 (p3+1)) - 1))<(p2.length:Int)) <| nm ((gt p2 (CB .i64 ((CB .i64 (p3+1)) - 1)))) fun v5 => gd (p1≠0) <| some (Int.tmod (CB .i64 (v5)) p1) else gd ((p2.length:Int)≠0) <| nm (Int.tmod (CB .i64 ((CB .i64 (p3+1)) - 1)) (p2.length:Int)) fun v6 => gd (0≤v6∧v6<(p2.length:Int)) <| nm (CB .i64 ((CB .i64 ((CB .i64 (p3+1)) - 1))*7)) fun v7 => gd (0≤(Int.tmod (CB .i64 (v7+3)) (p2.length:Int))∧(Int.tmod (CB .i64 (v7+3)) (p2.length:Int))<(p2.length:Int)) <| nm ((gt p2 (Int.tmod (CB .i64 (v7+3)) (p2.length:Int)))) fun v8 => nm (CB .i64 ((CB .i64 ((CB .i64 ((gt p2 v6)))*131))+(CB .i64 ((CB .i64 (v8))*1117)))) fun v9 => nm (CB .i64 ((CB .i64 ((CB .i64 (p3+1)) - 1))*29)) fun v10 => gd ((p2.length:Int)≠0∧CB .i64 (Int.tdiv (CB .i64 ((CB .i64 (p3+1)) - 1)) (p2.length:Int))=Int.tdiv (CB .i64 ((CB .i64 (p3+1)) - 1)) (p2.length:Int)) <| nm (Int.tdiv (CB .i64 ((CB .i64 (p3+1)) - 1)) (p2.length:Int)) fun v11 => nm (CB .i64 ((CB .i64 (v9+v10))+(CB .i64 (v11*53)))) fun v12 => gd ((64:Int)≠0∧CB .i64 (Int.tdiv v12 64)=Int.tdiv v12 64) <| gd (p1≠0) <| some (Int.tmod (Go.bits .xor .i64 v12 (Int.tdiv v12 64)) p1)

def cv (p1:List (Int)) (p2:List (Int)) (p3:Int):Option (Int) := bd (aJ (p1.length:Int) p2 p3) fun x4 => gd (0≤x4∧x4<(p1.length:Int)) <| some (gt p1 x4)

def bi (p1:List (ByteArray)) (p2:List (Int)) (p3:Int):Option (ByteArray) := bd (aJ (p1.length:Int) p2 p3) fun x4 => gd (0≤x4∧x4<(p1.length:Int)) <| some (gt p1 x4)

def iB (p1:List (Int)) (p2:Int):Option (ByteArray) := bd (bi ([(CC #[97]),(CC #[98]),(CC #[99]),(CC #[100]),(CC #[101]),(CC #[97,98]),(CC #[114,101,100]),(CC #[98,108,117,101]),(CC #[111,110]),(CC #[111,102,102]),(CC #[97,108,108]),(CC #[102])]:List (ByteArray)) p1 p2) fun x3 => some x3

def dp (p1:List (ByteArray×Int)) (p2:ByteArray):Nat→Int→Option (Int ⊕ Unit) | 0,_=>none | fu+1,v3 => bif decide (v3<(p1.length:Int)) then gd (0≤v3∧v3<(p1.length:Int)) <| bif decide (((gt p1 v3).1)=p2) then some (Sum.inl v3) else dp p1 p2 fu (CB .i64 (v3+1)) else some (Sum.inr ())

def eo (p1:List (ByteArray×Int)) (p2:ByteArray):Option (Int) := bd (dp p1 p2 FU 0) fun x4 => sm x4 (fun x5 => some x5) (fun x6 => some (-1))

def aP (p1:Int) (p2:List (Int)):Nat→(List (ByteArray×Int))→Int→Int→Option ((List (ByteArray×Int))×Int) | 0,_,_,_=>none | fu+1,v5,v6,v7 => bif decide (0<v6) then bd (iB p2 v7) fun x8 => bd (aJ 12 p2 (CB .i64 (v7+1))) fun x9 => bd (cv ([1,2,3,4,5,0,8,x9,(-1),7,1000,16]:List (Int)) p2 (CB .i64 ((CB .i64 (v7+1))+1))) fun x10 => bif decide (p1=4095) then bd (aJ 64 p2 (CB .i64 ((CB .i64 ((CB .i64 (v7+1))+1))+1))) fun x11 => bd (cv ([1,2,4,8,3,16,0,6,7,x11,2048,5,1,2,4]:List (Int)) p2 (CB .i64 ((CB .i64 ((CB .i64 ((CB .i64 (v7+1))+1))+1))+1))) fun x12 => bd (eo v5 x8) fun x13 => bif decide (x13<0) then bif decide (0≤x12) then gd (v5.length+([(x8,x12)]:List (ByteArray×Int)).length≤1099511627776) <| aP p1 p2 fu (v5++([(x8,x12)]:List (ByteArray×Int))) (CB .i64 (v6 - 1)) (CB .i64 ((CB .i64 ((CB .i64 ((CB .i64 ((CB .i64 (v7+1))+1))+1))+1))+1)) else bif (!decide (p1=4095)) then gd (v5.length+([(x8,x12)]:List (ByteArray×Int)).length≤1099511627776) <| aP p1 p2 fu (v5++([(x8,x12)]:List (ByteArray×Int))) (CB .i64 (v6 - 1)) (CB .i64 ((CB .i64 ((CB .i64 ((CB .i64 ((CB .i64 (v7+1))+1))+1))+1))+1)) else aP p1 p2 fu v5 (CB .i64 (v6 - 1)) (CB .i64 ((CB .i64 ((CB .i64 ((CB .i64 ((CB .i64 (v7+1))+1))+1))+1))+1)) else aP p1 p2 fu v5 (CB .i64 (v6 - 1)) (CB .i64 ((CB .i64 ((CB .i64 ((CB .i64 ((CB .i64 (v7+1))+1))+1))+1))+1)) else bd (eo v5 x8) fun x14 => bif decide (x14<0) then bif decide (0≤x10) then gd (v5.length+([(x8,x10)]:List (ByteArray×Int)).length≤1099511627776) <| aP p1 p2 fu (v5++([(x8,x10)]:List (ByteArray×Int))) (CB .i64 (v6 - 1)) (CB .i64 ((CB .i64 ((CB .i64 (v7+1))+1))+1)) else bif (!decide (p1=4095)) then gd (v5.length+([(x8,x10)]:List (ByteArray×Int)).length≤1099511627776) <| aP p1 p2 fu (v5++([(x8,x10)]:List (ByteArray×Int))) (CB .i64 (v6 - 1)) (CB .i64 ((CB .i64 ((CB .i64 (v7+1))+1))+1)) else aP p1 p2 fu v5 (CB .i64 (v6 - 1)) (CB .i64 ((CB .i64 ((CB .i64 (v7+1))+1))+1)) else aP p1 p2 fu v5 (CB .i64 (v6 - 1)) (CB .i64 ((CB .i64 ((CB .i64 (v7+1))+1))+1)) else some (v5,v7)

def ic (p1:Int) (p2:List (Int)) (p3:Int):Option ((List (ByteArray×Int))×Int) := bd (cv ([4,3,5,2,6,1,0,12]:List (Int)) p2 p3) fun x4 => bd (aP p1 p2 FU ([]:List (ByteArray×Int)) x4 (CB .i64 (p3+1))) fun x15 => some (x15.1,x15.2)

def fq (p1:List (Int)) (p2:Int):Option (ByteArray) := bd (aJ 16 p1 p2) fun x3 => bif decide (x3=0) then bd (bi ([ByteArray.empty,(CC #[65]),(CC #[116,111,111,108,111,110,103]),(CC #[97,49]),(CC #[97,32,98]),(CC #[97,98,99,100,101,102])]:List (ByteArray)) p1 (CB .i64 (p2+1))) fun x4 => some x4 else bd (iB p1 (CB .i64 (p2+1))) fun x5 => some x5

def dm (p1:List (ByteArray×Int)) (p2:Int):Nat→Int→Option (Int ⊕ Unit) | 0,_=>none | fu+1,v3 => bif decide (v3<(p1.length:Int)) then gd (0≤v3∧v3<(p1.length:Int)) <| bif decide (((gt p1 v3).2)=p2) then some (Sum.inl v3) else dm p1 p2 fu (CB .i64 (v3+1)) else some (Sum.inr ())

def fl (p1:List (ByteArray×Int)) (p2:Int):Option (Int) := bd (dm p1 p2 FU 0) fun x4 => sm x4 (fun x5 => some x5) (fun x6 => some (-1))

def bC (p1:List (ByteArray×Int)):Nat→(List (ByteArray×Int))→Int→Option (List (ByteArray×Int)) | 0,_,_=>none | fu+1,v2,v3 => bif decide (v3≤4095) then bd (fl p1 v3) fun x4 => bif decide (0≤x4) then gd (0≤x4∧x4<(p1.length:Int)) <| gd (v2.length+([((gt p1 x4).1,(gt p1 x4).2)]:List (ByteArray×Int)).length≤1099511627776) <| bC p1 fu (v2++([((gt p1 x4).1,(gt p1 x4).2)]:List (ByteArray×Int))) (CB .i64 (v3*2)) else bC p1 fu v2 (CB .i64 (v3*2)) else some v2

def fm (p1:List (ByteArray×Int)):Option (List (ByteArray×Int)) := bd (bC p1 FU ([]:List (ByteArray×Int)) 1) fun x5 => some x5

def gm (p1:Int) (p2:Int) (p3:Int):Option (Bool) := bif decide (p2≤p1) then some (decide (p1≤p3)) else some false

def dq (p1:ByteArray):Nat→Int→Option (Unit ⊕ Unit) | 0,_=>none | fu+1,v2 => bif decide (v2<(p1.size:Int)) then gd (0≤v2∧v2<(p1.size:Int)) <| bif decide ((aG p1 v2.toNat)<97) then some (Sum.inl ()) else bif decide (122<(aG p1 v2.toNat)) then some (Sum.inl ()) else dq p1 fu (CB .i64 (v2+1)) else some (Sum.inr ())

def gz (p1:ByteArray):Option (Bool) := bd (dq p1 FU 0) fun x3 => sm x3 (fun x4 => some false) (fun x5 => bd (gm (p1.size:Int) 1 6) fun x6 => some x6)

def iN (p1:ByteArray) (p2:Int) (p3:ByteArray):Option (Unit) := some ()

def aW (p1:List (ByteArray×Int)) (p2:ByteArray):Nat→Int→Option (Int ⊕ Unit) | 0,_=>none | fu+1,v3 => bif decide (v3<(p1.length:Int)) then gd (0≤v3∧v3<(p1.length:Int)) <| bd (iN ((gt p1 v3).1) ((gt p1 v3).2) p2) fun x4 => bif decide (((gt p1 v3).1)=p2) then some (Sum.inl v3) else aW p1 p2 fu (CB .i64 (v3+1)) else some (Sum.inr ())

def de (p1:List (ByteArray×Int)) (p2:ByteArray):Option (Int) := bd (aW p1 p2 FU 0) fun x5 => sm x5 (fun x6 => some x6) (fun x7 => some (-1))

def iC (p1:List (ByteArray×Int)) (p2:ByteArray):Option (Int) := bd (de p1 p2) fun x3 => some x3

def dr (p1:List (ByteArray×Int)) (p2:Int) (p3:Int):Nat→Int→Option (Unit ⊕ Unit) | 0,_=>none | fu+1,v4 => bif decide (v4<(p1.length:Int)) then gd (0≤v4∧v4<(p1.length:Int)) <| bd (gz ((gt p1 v4).1)) fun x5 => bif (!x5) then some (Sum.inl ()) else bd (gm ((gt p1 v4).2) p2 p3) fun x6 => bif (!x6) then some (Sum.inl ()) else gd (0≤(0:Int)∧(0:Int)≤v4∧v4≤(p1.length:Int)∧(p1.length:Int)≤(p1.length:Int)) <| bd (iC (sub p1 (0:Int) v4) ((gt p1 v4).1)) fun x7 => bif decide (0≤x7) then some (Sum.inl ()) else dr p1 p2 p3 fu (CB .i64 (v4+1)) else some (Sum.inr ())

def gA (p1:List (ByteArray×Int)) (p2:Int) (p3:Int):Option (Bool) := bd (dr p1 p2 p3 FU 0) fun x8 => sm x8 (fun x9 => some false) (fun x10 => some (decide ((p1.length:Int)≤12)))

def dD (p1:List (ByteArray×Int)) (p2:Int):Option (Bool) := bd (gA p1 0 4095) fun x3 => bif x3 then bd (gm p2 0 3) fun x4 => some x4 else some false

def cL (p1:List (ByteArray×Int)):Nat→Int→Int→Option (Int) | 0,_,_=>none | fu+1,v3,v4 => bif decide (v4<(p1.length:Int)) then gd (0≤v4∧v4<(p1.length:Int)) <| cL p1 fu (Go.bits .or .i64 v3 ((gt p1 v4).2)) (CB .i64 (v4+1)) else some v3

def cH (p1:List (ByteArray×Int)) (p2:Int):Option (Int) := bd (cL p1 FU 0 0) fun x5 => some x5

def bD (p1:Int) (p2:Int):Nat→Int→Int→Option (Int) | 0,_,_=>none | fu+1,v3,v4 => bif decide (v4≤4095) then gd (v4≠0∧CB .i64 (Int.tdiv p1 v4)=Int.tdiv p1 v4) <| gd ((2:Int)≠0) <| bif decide ((Int.tmod (Int.tdiv p1 v4) 2)=1) then gd (v4≠0∧CB .i64 (Int.tdiv p2 v4)=Int.tdiv p2 v4) <| bif decide ((Int.tmod (Int.tdiv p2 v4) 2)=1) then bD p1 p2 fu (CB .i64 (v3+v4)) (CB .i64 (v4*2)) else bD p1 p2 fu v3 (CB .i64 (v4*2)) else bD p1 p2 fu v3 (CB .i64 (v4*2)) else some v3

def eG (p1:Int) (p2:Int):Option (Int) := bd (bD p1 p2 FU 0 1) fun x5 => some x5

def dX (p1:Int) (p2:Int):Option (Int) := bd (eG p1 p2) fun x3 => some (CB .i64 ((CB .i64 (p1+p2)) - x3))

def eB (p1:List (ByteArray×Int)):Nat→Int→Int→Option (Int) | 0,_,_=>none | fu+1,v2,v3 => bif decide (v3<(p1.length:Int)) then gd (0≤v3∧v3<(p1.length:Int)) <| bd (dX v2 ((gt p1 v3).2)) fun x4 => eB p1 fu x4 (CB .i64 (v3+1)) else some v2

def dj (p1:List (ByteArray×Int)):Option (Int) := bd (eB p1 FU 0 0) fun x5 => some x5

def cR (p1:Int) (p2:Int) (p3:Int):Option (Bool) := bif decide (p2≤p1) then some (decide (p1≤p3)) else some false

def bY (p1:ByteArray):Nat→Int→Option (Unit ⊕ Unit) | 0,_=>none | fu+1,v2 => bif decide (v2<(p1.size:Int)) then gd (0≤v2∧v2<(p1.size:Int)) <| bif decide ((aG p1 v2.toNat)<97) then some (Sum.inl ()) else bif decide (122<(aG p1 v2.toNat)) then some (Sum.inl ()) else bY p1 fu (CB .i64 (v2+1)) else some (Sum.inr ())

def dY (p1:ByteArray):Option (Bool) := bd (bY p1 FU 0) fun x3 => sm x3 (fun x4 => some false) (fun x5 => bd (cR (p1.size:Int) 1 6) fun x6 => some x6)

def cc (p1:List (ByteArray×Int)) (p2:Int) (p3:Int):Nat→Int→Option (Unit ⊕ Unit) | 0,_=>none | fu+1,v4 => bif decide (v4<(p1.length:Int)) then gd (0≤v4∧v4<(p1.length:Int)) <| bd (dY ((gt p1 v4).1)) fun x5 => bif (!x5) then some (Sum.inl ()) else bd (cR ((gt p1 v4).2) p2 p3) fun x6 => bif (!x6) then some (Sum.inl ()) else gd (0≤(0:Int)∧(0:Int)≤v4∧v4≤(p1.length:Int)∧(p1.length:Int)≤(p1.length:Int)) <| bd (eo (sub p1 (0:Int) v4) ((gt p1 v4).1)) fun x7 => bif decide (0≤x7) then some (Sum.inl ()) else cc p1 p2 p3 fu (CB .i64 (v4+1)) else some (Sum.inr ())

def fE (p1:List (ByteArray×Int)) (p2:Int) (p3:Int):Option (Bool) := bd (cc p1 p2 p3 FU 0) fun x8 => sm x8 (fun x9 => some false) (fun x10 => some (decide ((p1.length:Int)≤12)))

def fx (p1:List (ByteArray×Int)) (p2:Int):Option (Bool) := bd (fE p1 0 4095) fun x3 => bif x3 then bd (cR p2 0 3) fun x4 => some x4 else some false

def cI (p1:Int) (p2:Int):Option (Int) := bd (eG p1 p2) fun x3 => some (CB .i64 (p1 - x3))

def bX (p1:List (ByteArray×Int)) (p2:Int) (p3:Int):Option (Bool) := bd (dD p1 p2) fun x4 => bif x4 then bd (gm p3 0 4095) fun x5 => bif x5 then bif decide (p2=3) then some true else bd (cH p1 p2) fun x6 => some (decide ((Go.bits .andNot .i64 p3 x6)=0)) else some false else some false

def gR (p1:Int) (p2:Int):Option (Unit) := some ()

def eJ (p1:List (ByteArray×Int)) (p2:Int) (p3:Int) (p4:Int):Option (Int) := bd (bX p1 p2 p3) fun x5 => bif (!x5) then some (-1) else bd (bX p1 p2 p4) fun x6 => bif (!x6) then some (-1) else bd (gR p3 p4) fun x7 => some (Go.bits .andNot .i64 p3 p4)

def dI (p1:List (ByteArray×Int)) (p2:Int) (p3:Int) (p4:Int):Option (Int) := bd (eJ p1 p2 p3 p4) fun x5 => some x5

def ca (p2:List (Int)) (x4:(List (ByteArray×Int))×Int):Nat→(List (ByteArray×Bool×Int))→Int→Int→Option ((List (ByteArray×Bool×Int))×Int) | 0,_,_,_=>none | fu+1,v5,v6,v7 => bif decide (v6<(x4.1.length:Int)) then gd (0≤v6∧v6<(x4.1.length:Int)) <| bd (aJ 2 p2 v7) fun x8 => bif decide (x8=0) then gd (v5.length+([((gt x4.1 v6).1,true,0)]:List (ByteArray×Bool×Int)).length≤1099511627776) <| ca p2 x4 fu (v5++([((gt x4.1 v6).1,true,0)]:List (ByteArray×Bool×Int))) (CB .i64 (v6+1)) (CB .i64 (v7+1)) else gd (v5.length+([((gt x4.1 v6).1,false,(gt x4.1 v6).2)]:List (ByteArray×Bool×Int)).length≤1099511627776) <| ca p2 x4 fu (v5++([((gt x4.1 v6).1,false,(gt x4.1 v6).2)]:List (ByteArray×Bool×Int))) (CB .i64 (v6+1)) (CB .i64 (v7+1)) else some (v5,v7)

def gK (p1:Int) (p2:List (Int)) (p3:Int):Option ((List (ByteArray×Bool×Int))×Int) := bd (ic p1 p2 p3) fun x4 => bd (ca p2 x4 FU ([]:List (ByteArray×Bool×Int)) 0 x4.2) fun x9 => bif decide (0<(x9.1.length:Int)) then bd (aJ 16 p2 x9.2) fun x10 => bif decide (x10=0) then bd (aJ (x9.1.length:Int) p2 (CB .i64 (x9.2+1))) fun x11 => bd (fq p2 (CB .i64 ((CB .i64 (x9.2+1))+1))) fun x12 => bd (aJ 2 p2 (CB .i64 ((CB .i64 ((CB .i64 ((CB .i64 (x9.2+1))+1))+1))+1))) fun x13 => bd (cv ([5,(-1),4096,1001]:List (Int)) p2 (CB .i64 ((CB .i64 ((CB .i64 ((CB .i64 ((CB .i64 (x9.2+1))+1))+1))+1))+1))) fun x14 => gd (0≤x11∧x11<(x9.1.length:Int)) <| some (x9.1.set (0+x11.toNat) (x12,decide (x13=0),x14),CB .i64 ((CB .i64 ((CB .i64 ((CB .i64 ((CB .i64 ((CB .i64 (x9.2+1))+1))+1))+1))+1))+1)) else some (x9.1,CB .i64 (x9.2+1)) else some (x9.1,x9.2)

def bV (p1:List (ByteArray×Int)):Nat→Int→Int→Option (Int) | 0,_,_=>none | fu+1,v3,v4 => bif decide (v4<(p1.length:Int)) then gd (0≤v4∧v4<(p1.length:Int)) <| bif decide (v4=0) then bV p1 fu ((gt p1 v4).2) (CB .i64 (v4+1)) else bif decide (v3<((gt p1 v4).2)) then bV p1 fu ((gt p1 v4).2) (CB .i64 (v4+1)) else bV p1 fu v3 (CB .i64 (v4+1)) else some v3

def hU (p1:List (ByteArray×Int)) (p2:Int):Option (Int) := bd (bV p1 FU p2 0) fun x5 => some x5

def lstr_c9535661:ByteArray:=(CC #[0,1,2,2,3,3,3,3,4,4,4,4,4,4,4,4,5,5,5,5,5,5,5,5,5,5,5,5,5,5,5,5,6,6,6,6,6,6,6,6,6,6,6,6,6,6,6,6,6,6,6,6,6,6,6,6,6,6,6,6,6,6,6,6,7,7,7,7,7,7,7,7,7,7,7,7,7,7,7,7,7,7,7,7,7,7,7,7,7,7,7,7,7,7,7,7,7,7,7,7,7,7,7,7,7,7,7,7,7,7,7,7,7,7,7,7,7,7,7,7,7,7,7,7,7,7,7,7,8,8,8,8,8,8,8,8,8,8,8,8,8,8,8,8,8,8,8,8,8,8,8,8,8,8,8,8,8,8,8,8,8,8,8,8,8,8,8,8,8,8,8,8,8,8,8,8,8,8,8,8,8,8,8,8,8,8,8,8,8,8,8,8,8,8,8,8,8,8,8,8,8,8,8,8,8,8,8,8,8,8,8,8,8,8,8,8,8,8,8,8,8,8,8,8,8,8,8,8,8,8,8,8,8,8,8,8,8,8,8,8,8,8,8,8,8,8,8,8,8,8,8,8,8,8,8,8])

def ir (p1:Int):Option (Int) := bif decide (4294967296≤p1) then gd (0≤(32:Int)∧(32:Int)≤(IntKind.bits .u64:Int)) <| bif decide (65536≤(p1 / 2 ^ (32:Int).toNat)) then gd (0≤(16:Int)∧(16:Int)≤(IntKind.bits .u64:Int)) <| nm (decide (256≤((p1 / 2 ^ (32:Int).toNat) / 2 ^ (16:Int).toNat))) fun v2 => bif v2 then gd (0≤(8:Int)∧(8:Int)≤(IntKind.bits .u64:Int)) <| nm (((p1 / 2 ^ (32:Int).toNat) / 2 ^ (16:Int).toNat) / 2 ^ (8:Int).toNat) fun v3 => gd (0≤(CB .u8 (v3))∧(CB .u8 (v3))<(lstr_c9535661.size:Int)) <| nm (CB .i64 (aG lstr_c9535661 (CB .u8 (v3)).toNat)) fun v4 => nm (CB .i64 ((CB .i64 ((CB .i64 (32+16))+8))+v4)) fun v5 => some v5 else nm (CB .u8 ((p1 / 2 ^ (32:Int).toNat) / 2 ^ (16:Int).toNat)) fun v6 => gd (0≤v6∧v6<(lstr_c9535661.size:Int)) <| nm (CB .i64 ((CB .i64 (32+16))+(CB .i64 (aG lstr_c9535661 v6.toNat)))) fun v7 => some v7 else bif decide (256≤(p1 / 2 ^ (32:Int).toNat)) then gd (0≤(8:Int)∧(8:Int)≤(IntKind.bits .u64:Int)) <| nm (CB .u8 ((p1 / 2 ^ (32:Int).toNat) / 2 ^ (8:Int).toNat)) fun v8 => gd (0≤v8∧v8<(lstr_c9535661.size:Int)) <| nm (CB .i64 ((CB .i64 (32+8))+(CB .i64 (aG lstr_c9535661 v8.toNat)))) fun v9 => some v9 else gd (0≤(CB .u8 (p1 / 2 ^ (32:Int).toNat))∧(CB .u8 (p1 / 2 ^ (32:Int).toNat))<(lstr_c9535661.size:Int)) <| nm (aG lstr_c9535661 (CB .u8 (p1 / 2 ^ (32:Int).toNat)).toNat) fun v10 => some (CB .i64 (32+(CB .i64 (v10)))) else bif decide (65536≤p1) then gd (0≤(16:Int)∧(16:Int)≤(IntKind.bits .u64:Int)) <| bif decide (256≤(p1 / 2 ^ (16:Int).toNat)) then gd (0≤(8:Int)∧(8:Int)≤(IntKind.bits .u64:Int)) <| nm (CB .u8 ((p1 / 2 ^ (16:Int).toNat) / 2 ^ (8:Int).toNat)) fun v11 => gd (0≤v11∧v11<(lstr_c9535661.size:Int)) <| nm (CB .i64 ((CB .i64 ((CB .i64 (0+16))+8))+(CB .i64 (aG lstr_c9535661 v11.toNat)))) fun v12 => some v12 else gd (0≤(CB .u8 (p1 / 2 ^ (16:Int).toNat))∧(CB .u8 (p1 / 2 ^ (16:Int).toNat))<(lstr_c9535661.size:Int)) <| nm (aG lstr_c9535661 (CB .u8 (p1 / 2 ^ (16:Int).toNat)).toNat) fun v13 => nm (CB .i64 ((CB .i64 (0+16))+(CB .i64 (v13)))) fun v14 => some v14 else bif decide (256≤p1) then gd (0≤(8:Int)∧(8:Int)≤(IntKind.bits .u64:Int)) <| gd (0≤(CB .u8 (p1 / 2 ^ (8:Int).toNat))∧(CB .u8 (p1 / 2 ^ (8:Int).toNat))<(lstr_c9535661.size:Int)) <| nm (aG lstr_c9535661 (CB .u8 (p1 / 2 ^ (8:Int).toNat)).toNat) fun v15 => nm (CB .i64 ((CB .i64 (0+8))+(CB .i64 (v15)))) fun v16 => some v16 else gd (0≤(CB .u8 (p1))∧(CB .u8 (p1))<(lstr_c9535661.size:Int)) <| nm (CB .i64 (aG lstr_c9535661 (CB .u8 (p1)).toNat)) fun v17 => some (CB .i64 (0+v17))

def eP (p1:Int):Option (Int) := bd (ir p1) fun x2 => some x2

def fH (p1:List (ByteArray×Int)):Option (Int) := bd (hU p1 0) fun x2 => bd (eP (CB .u64 ((if x2>0 then x2 else 0)))) fun x3 => gd (0≤x3∧x3≤(IntKind.bits .i64:Int)) <| some (CB .i64 ((1:Int)*2 ^ x3.toNat))

def mD (p1:List (ByteArray×Int)):Option (Unit) := gd (0≤(0:Int)∧(0:Int)≤(p1.length:Int)∧(p1.length:Int)≤(p1.length:Int)∧(p1.length:Int)≤(p1.length:Int)) <| some ()

def gh (p1:List (ByteArray×Int)):Option (Unit) := some ()

def bu (p1:List (ByteArray×Bool×Int)):Nat→(List (ByteArray×Int))→Int→Option (Unit ⊕ List (ByteArray×Int)) | 0,_,_=>none | fu+1,v2,v3 => bif decide (v3<(p1.length:Int)) then gd (0≤v3∧v3<(p1.length:Int)) <| bif (gt p1 v3).2.1 then bif (!decide (((gt p1 v3).2.2)=0)) then some (Sum.inl ()) else bd (fH v2) fun x4 => gd (v2.length+([((gt p1 v3).1,x4)]:List (ByteArray×Int)).length≤1099511627776) <| bu p1 fu (v2++([((gt p1 v3).1,x4)]:List (ByteArray×Int))) (CB .i64 (v3+1)) else gd (v2.length+([((gt p1 v3).1,(gt p1 v3).2.2)]:List (ByteArray×Int)).length≤1099511627776) <| bu p1 fu (v2++([((gt p1 v3).1,(gt p1 v3).2.2)]:List (ByteArray×Int))) (CB .i64 (v3+1)) else some (Sum.inr v2)

def dz (p1:List (ByteArray×Bool×Int)):Option ((List (ByteArray×Int))×Bool) := bd (bu p1 FU ([]:List (ByteArray×Int)) 0) fun x5 => sm x5 (fun x6 => some (([]:List (ByteArray×Int)),false)) (fun x7 => bd (gh x7) fun x8 => some (x7,true))

def eY (p1:List (ByteArray×Int)):Option (List (ByteArray×Int)) := gd (p1.length≤1099511627776) <| some p1

def ia (p1:List (ByteArray×Int)):Option (List (ByteArray×Int)) := bd (eY p1) fun x2 => bd (gh x2) fun x3 => some x2

def iR (p1:List (ByteArray×Int)) (p2:Int) (p3:Bool):Option ((List (ByteArray×Int))×Int×Bool) := bd (ia p1) fun x4 => bif p3 then bd (dD x4 p2) fun x5 => bif x5 then some (x4,p2,true) else some (([]:List (ByteArray×Int)),0,false) else some (([]:List (ByteArray×Int)),0,false)

def gL (p1:List (ByteArray×Bool×Int)) (p2:Int):Option ((List (ByteArray×Int))×Int×Bool) := bif decide (12<(p1.length:Int)) then some (([]:List (ByteArray×Int)),0,false) else bd (dz p1) fun x3 => bd (iR x3.1 p2 x3.2) fun x4 => some (x4.1,x4.2.1,x4.2.2)

def bc (p1:List (ByteArray×Bool×Int)) (p2:Int) (p3:Int) (v4:Int):Nat→Int→Option (Unit ⊕ Unit) | 0,_=>none | fu+1,v7 => bif decide (v7<v4) then gd (0≤v7∧v7<(p1.length:Int)) <| gd (0≤v4∧v4<(p1.length:Int)) <| bif decide (((gt p1 v7).1)=((gt p1 v4).1)) then some (Sum.inl ()) else bc p1 p2 p3 v4 fu (CB .i64 (v7+1)) else some (Sum.inr ())

def cA (p1:List (ByteArray×Bool×Int)) (p2:Int) (p3:Int) (v4:Int):Nat→Int→Option (Unit ⊕ Unit) | 0,_=>none | fu+1,v12 => bif decide (v12<v4) then gd (0≤v12∧v12<(p1.length:Int)) <| gd (0≤v4∧v4<(p1.length:Int)) <| bif decide (((gt p1 v12).1)=((gt p1 v4).1)) then some (Sum.inl ()) else cA p1 p2 p3 v4 fu (CB .i64 (v12+1)) else some (Sum.inr ())

def bA (p1:List (ByteArray×Bool×Int)) (p2:Int) (p3:Int):Nat→Int→Option (Unit ⊕ Unit) | 0,_=>none | fu+1,v4 => bif decide (v4<(p1.length:Int)) then gd (0≤v4∧v4<(p1.length:Int)) <| bd (dY ((gt p1 v4).1)) fun x5 => bif (!x5) then some (Sum.inl ()) else bif (gt p1 v4).2.1 then bif (!decide (((gt p1 v4).2.2)=0)) then some (Sum.inl ()) else bd (cR ((gt p1 v4).2.2) p2 p3) fun x6 => bif (!x6) then some (Sum.inl ()) else bd (bc p1 p2 p3 v4 FU 0) fun x8 => sm x8 (fun x9 => some (Sum.inl ())) (fun x10 => bA p1 p2 p3 fu (CB .i64 (v4+1))) else bd (cR ((gt p1 v4).2.2) p2 p3) fun x11 => bif (!x11) then some (Sum.inl ()) else bd (cA p1 p2 p3 v4 FU 0) fun x13 => sm x13 (fun x14 => some (Sum.inl ())) (fun x15 => bA p1 p2 p3 fu (CB .i64 (v4+1))) else some (Sum.inr ())

def ge (p1:List (ByteArray×Bool×Int)) (p2:Int) (p3:Int):Option (Bool) := bd (bA p1 p2 p3 FU 0) fun x16 => sm x16 (fun x17 => some false) (fun x18 => some (decide ((p1.length:Int)≤12)))

def dn (p1:List (ByteArray×Int)) (v3:Int):Nat→Int→Option (Int) | 0,_=>none | fu+1,v4 => gd (0≤v3∧v3<(p1.length:Int)) <| bif decide (v4≤((gt p1 v3).2)) then dn p1 v3 fu (CB .i64 (v4*2)) else some v4

def cP (p1:List (ByteArray×Int)):Nat→Int→Int→Option (Int) | 0,_,_=>none | fu+1,v2,v3 => bif decide (v3<(p1.length:Int)) then bd (dn p1 v3 FU v2) fun x5 => cP p1 fu x5 (CB .i64 (v3+1)) else some v2

def gw (p1:List (ByteArray×Int)):Option (Int) := bd (cP p1 FU 1 0) fun x6 => some x6

def bZ (p1:List (ByteArray×Bool×Int)) (p2:Int):Nat→(List (ByteArray×Int))→Int→Option (List (ByteArray×Int)) | 0,_,_=>none | fu+1,v4,v5 => bif decide (v5<(p1.length:Int)) then gd (0≤v5∧v5<(p1.length:Int)) <| bif (gt p1 v5).2.1 then bd (gw v4) fun x6 => gd (v4.length+([((gt p1 v5).1,x6)]:List (ByteArray×Int)).length≤1099511627776) <| bZ p1 p2 fu (v4++([((gt p1 v5).1,x6)]:List (ByteArray×Int))) (CB .i64 (v5+1)) else gd (v4.length+([((gt p1 v5).1,(gt p1 v5).2.2)]:List (ByteArray×Int)).length≤1099511627776) <| bZ p1 p2 fu (v4++([((gt p1 v5).1,(gt p1 v5).2.2)]:List (ByteArray×Int))) (CB .i64 (v5+1)) else some v4

def gD (p1:List (ByteArray×Bool×Int)) (p2:Int):Option ((List (ByteArray×Int))×Int×Bool) := bd (ge p1 0 4095) fun x3 => bif (!x3) then some (([]:List (ByteArray×Int)),0,false) else bd (bZ p1 p2 FU ([]:List (ByteArray×Int)) 0) fun x7 => bd (fx x7 p2) fun x8 => bif (!x8) then some (([]:List (ByteArray×Int)),0,false) else some (x7,p2,true)

def fc (p1:Int):Option (Int) := gd (0≤(1:Int)∧(1:Int)≤(IntKind.bits .u64:Int)) <| nm (Go.bits .and .u64 (p1 / 2 ^ (1:Int).toNat) 6148914691236517205) fun v2 => nm (CB .u64 (v2+(Go.bits .and .u64 p1 6148914691236517205))) fun v3 => gd (0≤(2:Int)∧(2:Int)≤(IntKind.bits .u64:Int)) <| nm (Go.bits .and .u64 (v3 / 2 ^ (2:Int).toNat) 3689348814741910323) fun v4 => nm (CB .u64 (v4+(Go.bits .and .u64 v3 3689348814741910323))) fun v5 => gd (0≤(4:Int)∧(4:Int)≤(IntKind.bits .u64:Int)) <| nm (Go.bits .and .u64 (CB .u64 ((v5 / 2 ^ (4:Int).toNat)+v5)) 1085102592571150095) fun v6 => gd (0≤(8:Int)∧(8:Int)≤(IntKind.bits .u64:Int)) <| gd (0≤(16:Int)∧(16:Int)≤(IntKind.bits .u64:Int)) <| nm ((CB .u64 (v6+(v6 / 2 ^ (8:Int).toNat))) / 2 ^ (16:Int).toNat) fun v7 => nm (CB .u64 ((CB .u64 (v6+(v6 / 2 ^ (8:Int).toNat)))+v7)) fun v8 => gd (0≤(32:Int)∧(32:Int)≤(IntKind.bits .u64:Int)) <| nm (CB .i64 (CB .u64 (v8+(v8 / 2 ^ (32:Int).toNat)))) fun v9 => some (Go.bits .and .i64 v9 127)

def eF (p1:Int):Option (Int) := bd (fc p1) fun x2 => some x2

def iu (p1:ByteArray) (p2:Int) (p3:Int):Option (Unit) := some ()

def aV (p1:List (ByteArray×Int)) (p2:Int):Nat→Int→Option (Int ⊕ Unit) | 0,_=>none | fu+1,v3 => bif decide (v3<(p1.length:Int)) then gd (0≤v3∧v3<(p1.length:Int)) <| bd (iu ((gt p1 v3).1) ((gt p1 v3).2) p2) fun x4 => bif decide (((gt p1 v3).2)=p2) then some (Sum.inl v3) else aV p1 p2 fu (CB .i64 (v3+1)) else some (Sum.inr ())

def cW (p1:List (ByteArray×Int)) (p2:Int):Option (Int) := bd (aV p1 p2 FU 0) fun x5 => sm x5 (fun x6 => some x6) (fun x7 => some (-1))

def fY (p1:List (ByteArray×Int)) (p2:Int):Option (Int) := bd (cW p1 p2) fun x3 => some x3

def nl (p1:List (ByteArray)):Option (Unit) := gd (0≤(0:Int)∧(0:Int)≤(p1.length:Int)∧(p1.length:Int)≤(p1.length:Int)∧(p1.length:Int)≤(p1.length:Int)) <| some ()

def fA (p1:List (ByteArray)):Option (Unit) := some ()

def fw (p1:List (ByteArray×Int)) (p2:Int) (p3:Int):Option (Bool) := bd (fx p1 p2) fun x4 => bif x4 then bd (cR p3 0 4095) fun x5 => bif x5 then bif decide (p2=3) then some true else bd (dj p1) fun x6 => bd (cI p3 x6) fun x7 => some (decide (x7=0)) else some false else some false

def cV (p2:Int) (x3:List (ByteArray×Int)):Nat→(List (ByteArray×Int))→Int→Option (List (ByteArray×Int)) | 0,_,_=>none | fu+1,v4,v5 => bif decide (v5<(x3.length:Int)) then gd (0≤v5∧v5<(x3.length:Int)) <| bd (eG ((gt x3 v5).2) p2) fun x6 => bif decide (0<x6) then gd (v4.length+([((gt x3 v5).1,(gt x3 v5).2)]:List (ByteArray×Int)).length≤1099511627776) <| cV p2 x3 fu (v4++([((gt x3 v5).1,(gt x3 v5).2)]:List (ByteArray×Int))) (CB .i64 (v5+1)) else cV p2 x3 fu v4 (CB .i64 (v5+1)) else some v4

def iY (p1:List (ByteArray×Int)) (p2:Int):Option (List (ByteArray×Int)) := bd (fm p1) fun x3 => bd (cV p2 x3 FU ([]:List (ByteArray×Int)) 0) fun x7 => some x7

def dk (p1:List (ByteArray×Int)):Nat→(List (ByteArray))→Int→Option (List (ByteArray)) | 0,_,_=>none | fu+1,v2,v3 => bif decide (v3<(p1.length:Int)) then gd (0≤v3∧v3<(p1.length:Int)) <| gd (v2.length+([(gt p1 v3).1]:List (ByteArray)).length≤1099511627776) <| dk p1 fu (v2++([(gt p1 v3).1]:List (ByteArray))) (CB .i64 (v3+1)) else some v2

def ft (p1:List (ByteArray×Int)):Option (List (ByteArray)) := bd (dk p1 FU ([]:List (ByteArray)) 0) fun x4 => some x4

def cU (p1:ByteArray) (p2:Int) (p3:Int):Option (Bool) := bif decide (p2=0) then some true else some (!decide ((Go.bits .andNot .i64 p2 p3)=0))

def aK (p1:List (ByteArray×Int)) (p2:Int):Nat→Int→Option (Int ⊕ Unit) | 0,_=>none | fu+1,v3 => bif decide (v3<(p1.length:Int)) then gd (0≤v3∧v3<(p1.length:Int)) <| bd (cU ((gt p1 v3).1) ((gt p1 v3).2) p2) fun x4 => bif x4 then some (Sum.inl v3) else aK p1 p2 fu (CB .i64 (v3+1)) else some (Sum.inr ())

def bQ (p1:List (ByteArray×Int)) (p2:Int):Option (Int) := bd (aK p1 p2 FU 0) fun x5 => sm x5 (fun x6 => some x6) (fun x7 => some (-1))

def aF (p2:Int):Nat→Int→Int→(List (ByteArray×Int))→Option (Int×(List (ByteArray×Int))) | 0,_,_,_=>none | fu+1,v4,v5,v6 => bif decide (v5<(v6.length:Int)) then gd (0≤v5∧v5<(v6.length:Int)) <| bd (cU ((gt v6 v5).1) ((gt v6 v5).2) p2) fun x7 => bif (!x7) then gd (0≤v4∧v4<(v6.length:Int)) <| aF p2 fu (CB .i64 (v4+1)) (CB .i64 (v5+1)) (v6.set (0+v4.toNat) ((gt v6 v5).1,(gt v6 v5).2)) else aF p2 fu v4 (CB .i64 (v5+1)) v6 else some (v4,v6)

def cn (p1:List (ByteArray×Int)) (p2:Int):Option (List (ByteArray×Int)) := bd (bQ p1 p2) fun x3 => bif decide (x3=(-1)) then some p1 else bd (aF p2 FU x3 (CB .i64 (x3+1)) p1) fun x8 => gd (0≤x8.1∧x8.1≤(x8.2.length:Int)∧(x8.2.length:Int)≤(x8.2.length:Int)∧(x8.2.length:Int)≤(x8.2.length:Int)) <| gd (0≤(0:Int)∧(0:Int)≤x8.1∧x8.1≤(x8.2.length:Int)∧(x8.2.length:Int)≤(x8.2.length:Int)) <| some (sub (clr x8.2 x8.1 (x8.2.length:Int) ((ByteArray.empty,0):ByteArray×Int)) (0:Int) x8.1)

def fh (p1:List (ByteArray×Int)) (p2:Int) (p3:Int):Option (List (ByteArray×Int)) := bd (eY p1) fun x4 => bd (cn x4 p3) fun x5 => some x5

def eI (p1:List (ByteArray×Int)):Option (Int) := bd (cH p1 0) fun x2 => some x2

def eS (p1:Int):Option (List (ByteArray×Int)) := bif decide (p1<0) then none else nm (decide (0<(CB .i64 (p1 - (CB .i64 (0 - 0)))))) fun v2 => bif v2 then gd ((0:Int)=0∧(0:Int)=0∧(0:Int)=0) <| gd (0≤(CB .i64 (p1 - (CB .i64 (0 - 0))))∧(CB .i64 (p1 - (CB .i64 (0 - 0))))≤1099511627776) <| gd (([]:List (ByteArray×Int)).length+(List.replicate (CB .i64 (p1 - (CB .i64 (0 - 0)))).toNat ((ByteArray.empty,0):ByteArray×Int)).length≤1099511627776) <| gd (0≤(0:Int)∧(0:Int)≤(0:Int)∧(0:Int)≤((List.replicate (CB .i64 (p1 - (CB .i64 (0 - 0)))).toNat ((ByteArray.empty,0):ByteArray×Int)).length:Int)∧((List.replicate (CB .i64 (p1 - (CB .i64 (0 - 0)))).toNat ((ByteArray.empty,0):ByteArray×Int)).length:Int)≤((List.replicate (CB .i64 (p1 - (CB .i64 (0 - 0)))).toNat ((ByteArray.empty,0):ByteArray×Int)).length:Int)) <| some (sub (List.replicate (CB .i64 (p1 - (CB .i64 (0 - 0)))).toNat ((ByteArray.empty,0):ByteArray×Int)) (0:Int) (0:Int)) else some ([]:List (ByteArray×Int))

def kF (p1:List (ByteArray×Int)):Option (List (ByteArray×Int)) := bif decide ((CB .i64 (0+(p1.length:Int)))<0) then none else nm (CB .i64 ((CB .i64 (0+(p1.length:Int)))+0)) fun v2 => bif decide (v2<0) then none else bd (eS v2) fun x3 => gd (x3.length+p1.length≤1099511627776) <| gd ((x3++p1).length+([]:List (ByteArray×Int)).length≤1099511627776) <| some ((x3++p1)++([]:List (ByteArray×Int)))

def dV (p1:List (ByteArray×Int)) (p2:List (ByteArray×Int)):Option (List (ByteArray×Int)) := bif decide ((CB .i64 (0+(p1.length:Int)))<0) then none else nm (CB .i64 ((CB .i64 (0+(p1.length:Int)))+(p2.length:Int))) fun v3 => bif decide (v3<0) then none else bd (eS v3) fun x4 => gd (x4.length+p1.length≤1099511627776) <| gd ((x4++p1).length+p2.length≤1099511627776) <| some ((x4++p1)++p2)

def cX (rec:(List (ByteArray×Int))→Int→Int→Option ((List (ByteArray×Int))×Bool)) (p1:List (ByteArray×Int)) (p2:Int) (p3:Int):Nat→Int→Option (List (ByteArray×Int) ⊕ Unit) | 0,_=>none | fu+1,v4 => bif decide (v4<(p1.length:Int)) then gd (0≤v4∧v4<(p1.length:Int)) <| gd (0≤(CB .i64 (v4+1))∧(CB .i64 (v4+1))≤(p1.length:Int)∧(p1.length:Int)≤(p1.length:Int)∧(p1.length:Int)≤(p1.length:Int)) <| bd (rec (sub p1 (CB .i64 (v4+1)) (p1.length:Int)) (CB .i64 (p2 - 1)) (Go.bits .andNot .i64 p3 ((gt p1 v4).2))) fun x5 => bif x5.2 then bd (dV ([((gt p1 v4).1,(gt p1 v4).2)]:List (ByteArray×Int)) x5.1) fun x6 => some (Sum.inl x6) else cX rec p1 p2 p3 fu (CB .i64 (v4+1)) else some (Sum.inr ())

def m_impl_fewest:Nat→(List (ByteArray×Int))→(Int)→(Int)→Option ((List (ByteArray×Int))×Bool) | 0,_,_,_=>none | fu+1,p1,p2,p3 => bif decide (p2=0) then some (([]:List (ByteArray×Int)),decide (p3=0)) else bd (cX (m_impl_fewest fu) p1 p2 p3 FU 0) fun x7 => sm x7 (fun x8 => some (x8,true)) (fun x9 => some (([]:List (ByteArray×Int)),false))

def cG (x4:List (ByteArray×Int)):Nat→Int→Option (List (ByteArray×Int)) | 0,_=>none | fu+1,v5 => bd (eI x4) fun x6 => bd (m_impl_fewest FU x4 v5 x6) fun x7 => bif x7.2 then some x7.1 else cG x4 fu (CB .i64 (v5+1))

def gb (p1:List (ByteArray×Int)) (p2:Int) (p3:Int):Option (List (ByteArray×Int)) := bd (fh p1 p2 p3) fun x4 => bd (cG x4 FU 0) fun x8 => some x8

def kc (p1:ByteArray) (p2:Int):Option (Unit) := some ()

def cj (p1:List (ByteArray×Int)):Nat→(List (ByteArray))→Int→Option (List (ByteArray)) | 0,_,_=>none | fu+1,v2,v3 => bif decide (v3<(p1.length:Int)) then gd (0≤v3∧v3<(p1.length:Int)) <| bd (kc ((gt p1 v3).1) ((gt p1 v3).2)) fun x4 => gd (v2.length+([(gt p1 v3).1]:List (ByteArray)).length≤1099511627776) <| cj p1 fu (v2++([(gt p1 v3).1]:List (ByteArray))) (CB .i64 (v3+1)) else some v2

def dQ (p1:List (ByteArray×Int)):Option (List (ByteArray)) := bd (cj p1 FU ([]:List (ByteArray)) 0) fun x5 => bd (fA x5) fun x6 => some x5

def iK (p1:List (ByteArray)):Option (List (ByteArray)) := gd (p1.length≤1099511627776) <| some p1

def df (p1:Int):Option (ByteArray) := gd (-9223372036854775808≤p1∧p1≤9223372036854775807) <| some ⟨(Lib.itoa p1).toArray⟩

def gr (p1:List (ByteArray)) (p2:ByteArray):Option (ByteArray) := gd (p1.length≤140737488355328) <| gd ((Lib.join (p1.map (·.data.toList)) p2.data.toList).length≤140737488355328) <| some ⟨(Lib.join (p1.map (·.data.toList)) p2.data.toList).toArray⟩

def fF (p1:List (ByteArray×Int)) (p2:Int) (p3:List (ByteArray)) (p4:Int):Option (ByteArray) := bd (iK p3) fun x5 => bif (!decide (p4=0)) then bd (df p4) fun x6 => gd (x5.length+([x6]:List (ByteArray)).length≤1099511627776) <| nm (decide (0<((x5++([x6]:List (ByteArray))).length:Int))) fun v7 => bif v7 then bd (gr (x5++([x6]:List (ByteArray))) (CC #[124])) fun x8 => some x8 else bd (fY p1 0) fun x9 => bif decide (0≤x9) then gd (0≤x9∧x9<(p1.length:Int)) <| some ((gt p1 x9).1) else some (CC #[48]) else bif decide (0<(x5.length:Int)) then bd (gr x5 (CC #[124])) fun x10 => some x10 else bd (fY p1 0) fun x11 => bif decide (0≤x11) then gd (0≤x11∧x11<(p1.length:Int)) <| some ((gt p1 x11).1) else some (CC #[48])

def eh (p1:List (ByteArray×Int)) (p2:Int) (p3:Int):Option (ByteArray) := bd (bX p1 p2 p3) fun x4 => bif (!x4) then some ByteArray.empty else bd (gb p1 p2 p3) fun x5 => bd (dQ x5) fun x6 => bd (eI x5) fun x7 => bd (fF p1 p2 x6 (Go.bits .andNot .i64 p3 x7)) fun x8 => some x8

def cw (p1:List (ByteArray×Int)) (p2:Int):Nat→(List (ByteArray×Int))→Int→Option (List (ByteArray×Int)) | 0,_,_=>none | fu+1,v3,v4 => bif decide (v4<(p1.length:Int)) then gd (0≤v4∧v4<(p1.length:Int)) <| bif decide (0<((gt p1 v4).2)) then bd (cI ((gt p1 v4).2) p2) fun x5 => bif decide (x5=0) then gd (v3.length+([((gt p1 v4).1,(gt p1 v4).2)]:List (ByteArray×Int)).length≤1099511627776) <| cw p1 p2 fu (v3++([((gt p1 v4).1,(gt p1 v4).2)]:List (ByteArray×Int))) (CB .i64 (v4+1)) else cw p1 p2 fu v3 (CB .i64 (v4+1)) else cw p1 p2 fu v3 (CB .i64 (v4+1)) else some v3

def iA (p1:List (ByteArray×Int)) (p2:Int):Option (List (ByteArray×Int)) := bd (cw p1 p2 FU ([]:List (ByteArray×Int)) 0) fun x6 => some x6

def cY (rec:(List (ByteArray×Int))→Int→Int→Int→Option ((List (ByteArray×Int))×Bool)) (p1:List (ByteArray×Int)) (p3:Int) (p4:Int):Nat→Int→Option (List (ByteArray×Int) ⊕ Unit) | 0,_=>none | fu+1,v5 => bif decide (v5<(p1.length:Int)) then gd (0≤v5∧v5<(p1.length:Int)) <| bd (cI p4 ((gt p1 v5).2)) fun x6 => bd (rec p1 (CB .i64 (v5+1)) (CB .i64 (p3 - 1)) x6) fun x7 => bif x7.2 then gd (([((gt p1 v5).1,(gt p1 v5).2)]:List (ByteArray×Int)).length+x7.1.length≤1099511627776) <| some (Sum.inl (([((gt p1 v5).1,(gt p1 v5).2)]:List (ByteArray×Int))++x7.1)) else cY rec p1 p3 p4 fu (CB .i64 (v5+1)) else some (Sum.inr ())

def m_spec_fewest:Nat→(List (ByteArray×Int))→(Int)→(Int)→(Int)→Option ((List (ByteArray×Int))×Bool) | 0,_,_,_,_=>none | fu+1,p1,p2,p3,p4 => bif decide (p3=0) then some (([]:List (ByteArray×Int)),decide (p4=0)) else bd (cY (m_spec_fewest fu) p1 p3 p4 FU p2) fun x8 => sm x8 (fun x9 => some (x9,true)) (fun x10 => some (([]:List (ByteArray×Int)),false))

def dL (x3:List (ByteArray×Int)) (x4:Int):Nat→Int→Option (List (ByteArray×Int) ⊕ Unit) | 0,_=>none | fu+1,v5 => bif decide (v5≤(x3.length:Int)) then bd (m_spec_fewest FU x3 0 v5 x4) fun x6 => bif x6.2 then some (Sum.inl x6.1) else dL x3 x4 fu (CB .i64 (v5+1)) else some (Sum.inr ())

def jr (p1:List (ByteArray×Int)) (p2:Int):Option (List (ByteArray×Int)) := bd (iA p1 p2) fun x3 => bd (dj x3) fun x4 => bd (dL x3 x4 FU 0) fun x7 => sm x7 (fun x8 => some x8) (fun x9 => some ([]:List (ByteArray×Int)))

def m_spec_number:Nat→(Int)→Option (ByteArray) | 0,_=>none | fu+1,p1 => bif decide (p1<10) then gd (0≤p1∧p1≤(CB .i64 (p1+1))∧(CB .i64 (p1+1))≤((CC #[48,49,50,51,52,53,54,55,56,57]).size:Int)) <| nm ((CC #[48,49,50,51,52,53,54,55,56,57]).extract p1.toNat (CB .i64 (p1+1)).toNat) fun v2 => some v2 else gd ((10:Int)≠0∧CB .i64 (Int.tdiv p1 10)=Int.tdiv p1 10) <| bd (m_spec_number fu (Int.tdiv p1 10)) fun x3 => gd ((10:Int)≠0) <| bd (m_spec_number fu (Int.tmod p1 10)) fun x4 => gd (x3.size+x4.size≤9223372036854775807) <| some (x3++x4)

def fS (p1:List (ByteArray×Int)):Option (ByteArray) := bd (fl p1 0) fun x2 => bif decide (0≤x2) then gd (0≤x2∧x2<(p1.length:Int)) <| some ((gt p1 x2).1) else some (CC #[48])

def ck (p1:List (ByteArray)) (p2:ByteArray):Nat→ByteArray→Int→Option (ByteArray) | 0,_,_=>none | fu+1,v3,v4 => bif decide (v4<(p1.length:Int)) then bif decide (0<v4) then gd (v3.size+p2.size≤9223372036854775807) <| gd (0≤v4∧v4<(p1.length:Int)) <| gd ((v3++p2).size+(gt p1 v4).size≤9223372036854775807) <| ck p1 p2 fu ((v3++p2)++(gt p1 v4)) (CB .i64 (v4+1)) else gd (0≤v4∧v4<(p1.length:Int)) <| gd (v3.size+(gt p1 v4).size≤9223372036854775807) <| ck p1 p2 fu (v3++(gt p1 v4)) (CB .i64 (v4+1)) else some v3

def cD (p1:List (ByteArray)) (p2:ByteArray):Option (ByteArray) := bd (ck p1 p2 FU ByteArray.empty 0) fun x5 => some x5

def eH (p1:List (ByteArray×Int)) (p2:List (ByteArray)) (p3:Int):Option (ByteArray) := bif decide (0<p3) then gd (([]:List (ByteArray)).length+p2.length≤1099511627776) <| bd (m_spec_number FU p3) fun x4 => gd ((([]:List (ByteArray))++p2).length+([x4]:List (ByteArray)).length≤1099511627776) <| nm ((((([]:List (ByteArray))++p2)++([x4]:List (ByteArray))).length:Int)) fun v5 => bif decide (v5=0) then bd (fS p1) fun x6 => some x6 else bd (cD ((([]:List (ByteArray))++p2)++([x4]:List (ByteArray))) (CC #[124])) fun x7 => some x7 else bif decide ((p2.length:Int)=0) then bd (fS p1) fun x8 => some x8 else bd (cD p2 (CC #[124])) fun x9 => some x9

def gP (p1:List (ByteArray×Int)) (p2:Int) (p3:Int):Option (ByteArray) := bd (fw p1 p2 p3) fun x4 => bif (!x4) then some ByteArray.empty else bd (jr p1 p3) fun x5 => bd (ft x5) fun x6 => bd (dj x5) fun x7 => bd (cI p3 x7) fun x8 => bd (eH p1 x6 x8) fun x9 => some x9

def dt (p1:ByteArray) (p2:ByteArray):Option (List (ByteArray)) := gd (p1.size<4294967281) <| gd (1≤p2.size) <| some (Lib.splitB p2 0 (Lib.countB p1 p2) p1)

def jK (p1:ByteArray):Option (Int×Bool) := gd (p1.size≤281474976710656) <| some (ky p1)

def fp (p1:ByteArray):Option (Int×Bool) := bd (jK p1) fun x2 => bif x2.2 then bd (df x2.1) fun x3 => some (x2.1,decide (x3=p1)) else some (x2.1,false)

def bO (p1:List (ByteArray×Int)) (p2:Int) (x5:List (ByteArray)):Nat→Int→Int→Option (Unit ⊕ Int) | 0,_,_=>none | fu+1,v6,v7 => bif decide (v7<(x5.length:Int)) then gd (0≤v7∧v7<(x5.length:Int)) <| bd (iC p1 (gt x5 v7)) fun x8 => bif decide (0≤x8) then gd (0≤x8∧x8<(p1.length:Int)) <| bO p1 p2 x5 fu (Go.bits .or .i64 v6 ((gt p1 x8).2)) (CB .i64 (v7+1)) else bd (fp (gt x5 v7)) fun x9 => bif (!x9.2) then some (Sum.inl ()) else bd (gm x9.1 0 4095) fun x10 => bif (!x10) then some (Sum.inl ()) else bO p1 p2 x5 fu (Go.bits .or .i64 v6 x9.1) (CB .i64 (v7+1)) else some (Sum.inr v6)

def fC (p1:List (ByteArray×Int)) (p2:Int) (p3:ByteArray):Option (Int×Bool) := bd (dD p1 p2) fun x4 => bif (!x4) then some (0,false) else bd (dt p3 (CC #[124])) fun x5 => bd (bO p1 p2 x5 FU 0 0) fun x11 => sm x11 (fun x12 => some (0,false)) (fun x13 => bd (bX p1 p2 x13) fun x14 => bif (!x14) then some (0,false) else some (x13,true))

def iZ (p1:Int):Option (Bool) := bd (eF (CB .u64 (p1))) fun x2 => some (decide (x2=1))

def jk (p1:Int):Option (Unit) := some ()

def iS (p1:Int) (p2:Int):Option (Int) := bd (jk p1) fun x3 => bd (jk p2) fun x4 => bif (!decide (p1=p1)) then bif (!decide (p2=p2)) then some 0 else some (-1) else bif (!decide (p2=p2)) then some 1 else bif decide (p1<p2) then some (-1) else bif decide (p2<p1) then some 1 else some 0

def fV (p1:ByteArray) (p2:Int) (p3:ByteArray) (p4:Int):Option (Int) := bd (iS p2 p4) fun x5 => some x5

def aC (p1:Int) (p2:Int) (v4:Int):Nat→Int→(List (ByteArray×Int))→Option (List (ByteArray×Int)) | 0,_,_=>none | fu+1,v6,v7 => bif decide (p1<v6) then gd (0≤v6∧v6<(v7.length:Int)) <| gd (0≤(CB .i64 (v6 - 1))∧(CB .i64 (v6 - 1))<(v7.length:Int)) <| bd (fV ((gt v7 v6).1) ((gt v7 v6).2) ((gt v7 (CB .i64 (v6 - 1))).1) ((gt v7 (CB .i64 (v6 - 1))).2)) fun x8 => bif decide (x8<0) then aC p1 p2 v4 fu (CB .i64 (v6 - 1)) ((v7.set (0+v6.toNat) ((gt v7 (CB .i64 (v6 - 1))).1,(gt v7 (CB .i64 (v6 - 1))).2)).set (0+(CB .i64 (v6 - 1)).toNat) ((gt v7 v6).1,(gt v7 v6).2)) else some v7 else some v7

def aA (p1:Int) (p2:Int):Nat→Int→(List (ByteArray×Int))→Option (List (ByteArray×Int)) | 0,_,_=>none | fu+1,v4,v5 => bif decide (v4<p2) then bd (aC p1 p2 v4 FU v4 v5) fun x9 => aA p1 p2 fu (CB .i64 (v4+1)) x9 else some v5

def bh (p1:Int) (p2:Int) (p3:List (ByteArray×Int)):Option (List (ByteArray×Int)) := bd (aA p1 p2 FU (CB .i64 (p1+1)) p3) fun x10 => some x10

def bq (p1:Int) (p2:Int) (p3:Int) (p4:List (ByteArray×Int)):Nat→Option (List (ByteArray×Int)) | 0=>none | fu+1 => bif decide ((CB .i64 (p2 - p1))≤12) then bd (bh p1 p2 p4) fun x5 => gd (x5.length=p4.length) <| some x5 else bif decide (p3=0) then none else none

def bW (p1:Int) (p2:Int) (p3:Int) (p4:List (ByteArray×Int)):Option (List (ByteArray×Int)) := bd (bq p1 p2 p3 p4 FU) fun x6 => some x6

def bR (p1:List (ByteArray×Int)):Option (List (ByteArray×Int)) := bd (eP (CB .u64 ((p1.length:Int)))) fun x2 => bd (bW 0 (p1.length:Int) x2 p1) fun x3 => gd (x3.length=p1.length) <| some x3

def bz (p1:List (ByteArray×Int)):Nat→(List (ByteArray×Int))→Int→Option (List (ByteArray×Int)) | 0,_,_=>none | fu+1,v3,v4 => bif decide (v4<(p1.length:Int)) then gd (0≤v4∧v4<(p1.length:Int)) <| bd (iZ ((gt p1 v4).2)) fun x5 => bif x5 then bd (fY v3 ((gt p1 v4).2)) fun x6 => bif decide (x6<0) then gd (v3.length+([((gt p1 v4).1,(gt p1 v4).2)]:List (ByteArray×Int)).length≤1099511627776) <| bz p1 fu (v3++([((gt p1 v4).1,(gt p1 v4).2)]:List (ByteArray×Int))) (CB .i64 (v4+1)) else bz p1 fu v3 (CB .i64 (v4+1)) else bz p1 fu v3 (CB .i64 (v4+1)) else some v3

def dR (p1:List (ByteArray×Int)) (p2:Int):Option (List (ByteArray×Int)) := bd (bz p1 FU ([]:List (ByteArray×Int)) 0) fun x7 => bd (bR x7) fun x8 => gd (x8.length=x7.length) <| some x8

def ff (p1:ByteArray) (p2:Int) (p3:Int):Option (Unit) := some ()

def aR (p1:List (ByteArray×Int)) (p2:Int):Nat→(List (ByteArray))→Int→Option (List (ByteArray)) | 0,_,_=>none | fu+1,v3,v4 => bif decide (v4<(p1.length:Int)) then gd (0≤v4∧v4<(p1.length:Int)) <| bd (ff ((gt p1 v4).1) ((gt p1 v4).2) p2) fun x5 => bif (!decide ((Go.bits .and .i64 p2 ((gt p1 v4).2))=0)) then gd (v3.length+([(gt p1 v4).1]:List (ByteArray)).length≤1099511627776) <| aR p1 p2 fu (v3++([(gt p1 v4).1]:List (ByteArray))) (CB .i64 (v4+1)) else aR p1 p2 fu v3 (CB .i64 (v4+1)) else some v3

def cK (p1:List (ByteArray×Int)) (p2:Int):Option (List (ByteArray)) := bd (aR p1 p2 FU ([]:List (ByteArray)) 0) fun x6 => bd (fA x6) fun x7 => some x6

def bS (x5:List (ByteArray)) (x6:List (ByteArray×Int)):Nat→Int→Int→Option (Int) | 0,_,_=>none | fu+1,v7,v8 => bif decide (v8<(x6.length:Int)) then gd (0≤v8∧v8<(x6.length:Int)) <| bS x5 x6 fu (Go.bits .andNot .i64 v7 ((gt x6 v8).2)) (CB .i64 (v8+1)) else some v7

def fj (p1:List (ByteArray×Int)) (p2:Int) (p3:Int):Option (List (ByteArray)×Int) := bd (dR p1 p2) fun x4 => bd (cK x4 p3) fun x5 => bd (dR p1 p2) fun x6 => bd (bS x5 x6 FU p3 0) fun x9 => some (x5,x9)

def bN (p1:List (ByteArray×Int)) (p2:List (Int)):Nat→(List (ByteArray))→Int→Int→Option (List (ByteArray)×Int) | 0,_,_,_=>none | fu+1,v5,v6,v7 => bif decide (0<v6) then bif decide (0<(p1.length:Int)) then bd (aJ 12 p2 v7) fun x8 => bif decide (0<x8) then bd (aJ (p1.length:Int) p2 (CB .i64 (v7+1))) fun x9 => gd (0≤x9∧x9<(p1.length:Int)) <| gd (v5.length+([(gt p1 x9).1]:List (ByteArray)).length≤1099511627776) <| bN p1 p2 fu (v5++([(gt p1 x9).1]:List (ByteArray))) (CB .i64 (v6 - 1)) (CB .i64 ((CB .i64 (v7+1))+1)) else bd (fq p2 (CB .i64 (v7+1))) fun x10 => gd (v5.length+([x10]:List (ByteArray)).length≤1099511627776) <| bN p1 p2 fu (v5++([x10]:List (ByteArray))) (CB .i64 (v6 - 1)) (CB .i64 ((CB .i64 ((CB .i64 (v7+1))+1))+1)) else bd (fq p2 v7) fun x11 => gd (v5.length+([x11]:List (ByteArray)).length≤1099511627776) <| bN p1 p2 fu (v5++([x11]:List (ByteArray))) (CB .i64 (v6 - 1)) (CB .i64 ((CB .i64 (v7+1))+1)) else some (v5,v7)

def gJ (p1:List (ByteArray×Int)) (p2:List (Int)) (p3:Int):Option (List (ByteArray)×Int) := bd (aJ 4 p2 p3) fun x4 => bd (bN p1 p2 FU ([]:List (ByteArray)) x4 (CB .i64 (p3+1))) fun x12 => some (x12.1,x12.2)

def cu (p1:ByteArray) (p2:Int):Nat→(List (ByteArray))→Int→Int→Option (List (ByteArray)×Int) | 0,_,_,_=>none | fu+1,v3,v4,v5 => bif decide (v5<(p1.size:Int)) then gd (0≤v5∧v5<(p1.size:Int)) <| bif decide ((aG p1 v5.toNat)=p2) then gd (0≤v4∧v4≤v5∧v5≤(p1.size:Int)) <| gd (v3.length+([p1.extract v4.toNat v5.toNat]:List (ByteArray)).length≤1099511627776) <| cu p1 p2 fu (v3++([p1.extract v4.toNat v5.toNat]:List (ByteArray))) (CB .i64 (v5+1)) (CB .i64 (v5+1)) else cu p1 p2 fu v3 v4 (CB .i64 (v5+1)) else some (v3,v4)

def cz (p1:ByteArray) (p2:Int):Option (List (ByteArray)) := bd (cu p1 p2 FU ([]:List (ByteArray)) 0 0) fun x6 => gd (0≤x6.2∧x6.2≤(p1.size:Int)∧(p1.size:Int)≤(p1.size:Int)) <| gd (x6.1.length+([p1.extract x6.2.toNat (p1.size:Int).toNat]:List (ByteArray)).length≤1099511627776) <| some (x6.1++([p1.extract x6.2.toNat (p1.size:Int).toNat]:List (ByteArray)))

def ch (p1:ByteArray):Nat→Int→Int→Option (Unit ⊕ Int) | 0,_,_=>none | fu+1,v2,v3 => bif decide (v3<(p1.size:Int)) then gd (0≤v3∧v3<(p1.size:Int)) <| bif decide ((aG p1 v3.toNat)<48) then some (Sum.inl ()) else bif decide (57<(aG p1 v3.toNat)) then some (Sum.inl ()) else bif decide (4095<v2) then some (Sum.inl ()) else nm (CB .i64 (CB .u8 ((aG p1 v3.toNat) - 48))) fun v4 => ch p1 fu (CB .i64 ((CB .i64 (10*v2))+v4)) (CB .i64 (v3+1)) else some (Sum.inr v2)

def cO (p1:ByteArray):Option (Int) := bd (ch p1 FU 0 0) fun x5 => sm x5 (fun x6 => some (-1)) (fun x7 => bif decide (p1=ByteArray.empty) then some (-1) else bif decide (4096<x7) then some (-1) else bd (m_spec_number FU x7) fun x8 => bif (!decide (x8=p1)) then some (-1) else some x7)

def eT (p1:ByteArray):Option (Int×Bool) := bif (!decide (p1=ByteArray.empty)) then gd (0≤(0:Int)∧(0:Int)<(p1.size:Int)) <| bif decide ((aG p1 (0:Int).toNat)=45) then gd (0≤(1:Int)∧(1:Int)≤(p1.size:Int)∧(p1.size:Int)≤(p1.size:Int)) <| bd (cO (p1.extract (1:Int).toNat (p1.size:Int).toNat)) fun x2 => bif decide (x2<0) then some (0,false) else bif decide (x2=0) then some (0,false) else some (CB .i64 (0 - x2),true) else bd (cO p1) fun x3 => bif decide (x3<0) then some (0,false) else some (x3,true) else bd (cO p1) fun x4 => bif decide (x4<0) then some (0,false) else some (x4,true)

def gE (p1:ByteArray):Option (ByteArray×Bool×Int×Bool) := bd (cz p1 32) fun x2 => bif decide ((x2.length:Int)=1) then some (p1,true,0,true) else bif (!decide ((x2.length:Int)=3)) then some (ByteArray.empty,false,0,false) else gd (0≤(1:Int)∧(1:Int)<(x2.length:Int)) <| bif (!decide ((gt x2 (1:Int))=(CC #[61]))) then some (ByteArray.empty,false,0,false) else gd (0≤(2:Int)∧(2:Int)<(x2.length:Int)) <| bd (eT (gt x2 (2:Int))) fun x3 => gd (0≤(0:Int)∧(0:Int)<(x2.length:Int)) <| some ((gt x2 (0:Int)),false,x3.1,x3.2)

def bT (x2:List (ByteArray)):Nat→(List (ByteArray×Bool×Int))→Int→Option (Unit ⊕ List (ByteArray×Bool×Int)) | 0,_,_=>none | fu+1,v4,v5 => bif decide ((CB .i64 (v5+1))<(x2.length:Int)) then gd (0≤v5∧v5<(x2.length:Int)) <| bd (gE (gt x2 v5)) fun x6 => bif (!x6.2.2.2) then some (Sum.inl ()) else gd (v4.length+([(x6.1,x6.2.1,x6.2.2.1)]:List (ByteArray×Bool×Int)).length≤1099511627776) <| bT x2 fu (v4++([(x6.1,x6.2.1,x6.2.2.1)]:List (ByteArray×Bool×Int))) (CB .i64 (v5+1)) else some (Sum.inr v4)

def gg (p1:ByteArray):Option (ByteArray×(List (ByteArray×Bool×Int))×Bool) := bd (cz p1 10) fun x2 => bif decide ((x2.length:Int)<2) then some (ByteArray.empty,([]:List (ByteArray×Bool×Int)),false) else gd (0≤(CB .i64 ((x2.length:Int) - 1))∧(CB .i64 ((x2.length:Int) - 1))<(x2.length:Int)) <| nm ((!decide ((gt x2 (CB .i64 ((x2.length:Int) - 1)))=ByteArray.empty))) fun v3 => bif v3 then some (ByteArray.empty,([]:List (ByteArray×Bool×Int)),false) else bd (bT x2 FU ([]:List (ByteArray×Bool×Int)) 1) fun x7 => sm x7 (fun x8 => some (ByteArray.empty,([]:List (ByteArray×Bool×Int)),false)) (fun x9 => gd (0≤(0:Int)∧(0:Int)<(x2.length:Int)) <| some ((gt x2 (0:Int)),x9,true))

def eU :Option (Unit) := some ()

def dl (p1:ByteArray):Nat→Int→Option (Int ⊕ Unit) | 0,_=>none | fu+1,v3 => nm ((([(CC #[115,116,114,105,99,116]),(CC #[102,105,116]),(CC #[101,106,101,99,116]),(CC #[107,101,101,112])]:List (ByteArray)).length:Int)) fun v4 => bif decide (v3<v4) then gd (0≤v3∧v3<(([(CC #[115,116,114,105,99,116]),(CC #[102,105,116]),(CC #[101,106,101,99,116]),(CC #[107,101,101,112])]:List (ByteArray)).length:Int)) <| nm ((gt ([(CC #[115,116,114,105,99,116]),(CC #[102,105,116]),(CC #[101,106,101,99,116]),(CC #[107,101,101,112])]:List (ByteArray)) v3)) fun v5 => gd ((CC #[102,108,97,103,32]).size+v5.size≤9223372036854775807) <| nm (decide (p1=((CC #[102,108,97,103,32])++v5))) fun v6 => bif v6 then some (Sum.inl v3) else dl p1 fu (CB .i64 (v3+1)) else some (Sum.inr ())

def gp (p1:ByteArray):Option (Int) := bd (eU) fun x2 => bd (dl p1 FU 0) fun x7 => sm x7 (fun x8 => some x8) (fun x9 => some (-1))

def fv (p1:ByteArray):Option ((List (ByteArray×Int))×Int×Bool) := bd (gg p1) fun x2 => bif (!x2.2.2) then some (([]:List (ByteArray×Int)),0,false) else bd (gp x2.1) fun x3 => bif decide (x3<0) then some (([]:List (ByteArray×Int)),0,false) else bd (gp x2.1) fun x4 => bd (gD x2.2.1 x4) fun x5 => some (x5.1,x5.2.1,x5.2.2)

def jg (p1:List (ByteArray×Int)):Option (Int) := bd (gw p1) fun x2 => some (CB .i64 (x2 - 1))

def jX (p1:List (ByteArray×Int)) (p2:Int) (p3:Int):Option (Int×Int) := bif decide (p3<0) then bif decide (p2=3) then bd (jg p1) fun x4 => bd (cI x4 (CB .i64 ((CB .i64 (0 - p3)) - 1))) fun x5 => some (x5,0) else bd (dj p1) fun x6 => bd (cI x6 (CB .i64 ((CB .i64 (0 - p3)) - 1))) fun x7 => some (x7,0) else bd (dj p1) fun x8 => bd (cI p3 x8) fun x9 => bif decide (x9=0) then some (p3,0) else bif decide (p2=0) then some (0,2) else bif decide (p2=1) then bd (dj p1) fun x10 => bd (eG p3 x10) fun x11 => some (x11,0) else bif decide (p2=2) then some (p3,1) else some (p3,0)

def dC (p1:List (ByteArray×Int)) (p2:Int) (p3:Int):Option (ByteArray) := bd (iY p1 p3) fun x4 => bd (ft x4) fun x5 => bd (dj x4) fun x6 => bd (cI p3 x6) fun x7 => bd (eH p1 x5 x7) fun x8 => some x8

def hJ (p1:List (ByteArray×Int)) (p2:Int) (p3:Int):Option (ByteArray) := bd (jX p1 p2 p3) fun x4 => bif decide (x4.2=0) then bd (dC p1 p2 x4.1) fun x5 => some x5 else bif decide (x4.2=1) then bd (m_spec_number FU x4.1) fun x6 => gd ((CC #[110,117,109,98,101,114,32]).size+x6.size≤9223372036854775807) <| some ((CC #[110,117,109,98,101,114,32])++x6) else some (CC #[119,114,111,110,103])

def ij (p1:List (ByteArray×Int)) (p2:ByteArray):Option (Int) := bd (eo p1 p2) fun x3 => bif decide (0≤x3) then gd (0≤x3∧x3<(p1.length:Int)) <| some ((gt p1 x3).2) else bd (cO p2) fun x4 => some x4

def cr (p1:List (ByteArray×Int)) (p2:Int) (x4:List (ByteArray)):Nat→Int→Int→Option (Unit ⊕ Int) | 0,_,_=>none | fu+1,v5,v6 => bif decide (v6<(x4.length:Int)) then gd (0≤v6∧v6<(x4.length:Int)) <| bd (ij p1 (gt x4 v6)) fun x7 => bif decide (x7<0) then some (Sum.inl ()) else bd (dX v5 x7) fun x8 => cr p1 p2 x4 fu x8 (CB .i64 (v6+1)) else some (Sum.inr v5)

def bG (p1:List (ByteArray×Int)) (p2:Int) (p3:ByteArray):Option (Int) := bd (cz p3 124) fun x4 => bd (cr p1 p2 x4 FU 0 0) fun x9 => sm x9 (fun x10 => some (-1)) (fun x11 => bd (fw p1 p2 x11) fun x12 => bif (!x12) then some (-1) else some x11)

def fM (p1:List (ByteArray×Int)) (p2:Int) (p3:Int):Option (Int) := bd (fw p1 p2 p3) fun x4 => bif (!x4) then some (-1) else bif decide (p2=3) then bd (jg p1) fun x5 => bd (cI x5 p3) fun x6 => some x6 else bd (dj p1) fun x7 => bd (cI x7 p3) fun x8 => some x8

def iW (p1:List (ByteArray×Int)) (p2:Int) (p3:ByteArray):Option (ByteArray) := bd (cz p3 32) fun x4 => gd (0≤(CB .i64 ((x4.length:Int) - 1))∧(CB .i64 ((x4.length:Int) - 1))<(x4.length:Int)) <| bd (eT (gt x4 (CB .i64 ((x4.length:Int) - 1)))) fun x5 => bif decide ((x4.length:Int)=2) then gd (0≤(0:Int)∧(0:Int)<(x4.length:Int)) <| nm (decide ((gt x4 (0:Int))=(CC #[109,97,107,101]))) fun v6 => bif v6 then bif x5.2 then bd (cR x5.1 (-4096) 4095) fun x7 => bif x7 then bd (hJ p1 p2 x5.1) fun x8 => some x8 else bif decide ((x4.length:Int)<2) then some (CC #[119,104,97,116]) else bif decide (3<(x4.length:Int)) then some (CC #[119,104,97,116]) else gd (0≤(1:Int)∧(1:Int)<(x4.length:Int)) <| bd (bG p1 p2 (gt x4 (1:Int))) fun x9 => bd (bG p1 p2 (gt x4 (CB .i64 ((x4.length:Int) - 1)))) fun x10 => some (CC #[119,104,97,116]) else bif decide ((x4.length:Int)<2) then some (CC #[119,104,97,116]) else bif decide (3<(x4.length:Int)) then some (CC #[119,104,97,116]) else gd (0≤(1:Int)∧(1:Int)<(x4.length:Int)) <| bd (bG p1 p2 (gt x4 (1:Int))) fun x11 => bd (bG p1 p2 (gt x4 (CB .i64 ((x4.length:Int) - 1)))) fun x12 => some (CC #[119,104,97,116]) else bif decide ((x4.length:Int)<2) then some (CC #[119,104,97,116]) else bif decide (3<(x4.length:Int)) then some (CC #[119,104,97,116]) else gd (0≤(1:Int)∧(1:Int)<(x4.length:Int)) <| bd (bG p1 p2 (gt x4 (1:Int))) fun x13 => bd (bG p1 p2 (gt x4 (CB .i64 ((x4.length:Int) - 1)))) fun x14 => nm (decide ((gt x4 (0:Int))=(CC #[118,97,108,117,101]))) fun v15 => bif v15 then bif decide (0≤x13) then bd (m_spec_number FU x13) fun x16 => some x16 else some (CC #[119,104,97,116]) else nm (decide ((gt x4 (0:Int))=(CC #[115,104,111,119]))) fun v17 => bif v17 then bif decide (0≤x13) then bd (dC p1 p2 x13) fun x18 => some x18 else some (CC #[119,104,97,116]) else nm (decide ((gt x4 (0:Int))=(CC #[115,104,111,114,116]))) fun v19 => bif v19 then bif decide (0≤x13) then bd (gP p1 p2 x13) fun x20 => some x20 else some (CC #[119,104,97,116]) else bif decide ((gt x4 (0:Int))=(CC #[110,111,116])) then bif decide (0≤x13) then bd (fM p1 p2 x13) fun x21 => bd (dC p1 p2 x21) fun x22 => some x22 else some (CC #[119,104,97,116]) else some (CC #[119,104,97,116]) else bif decide ((x4.length:Int)<2) then some (CC #[119,104,97,116]) else bif decide (3<(x4.length:Int)) then some (CC #[119,104,97,116]) else gd (0≤(1:Int)∧(1:Int)<(x4.length:Int)) <| bd (bG p1 p2 (gt x4 (1:Int))) fun x23 => bd (bG p1 p2 (gt x4 (CB .i64 ((x4.length:Int) - 1)))) fun x24 => bif decide ((x4.length:Int)=3) then gd (0≤(0:Int)∧(0:Int)<(x4.length:Int)) <| bif decide ((gt x4 (0:Int))=(CC #[111,114])) then bif decide (0≤x23) then bif decide (0≤x24) then bd (dX x23 x24) fun x25 => bd (dC p1 p2 x25) fun x26 => some x26 else some (CC #[119,104,97,116]) else some (CC #[119,104,97,116]) else bif decide ((gt x4 (0:Int))=(CC #[97,110,100])) then bif decide (0≤x23) then bif decide (0≤x24) then bd (eG x23 x24) fun x27 => bd (dC p1 p2 x27) fun x28 => some x28 else some (CC #[119,104,97,116]) else some (CC #[119,104,97,116]) else nm (decide ((gt x4 (0:Int))=(CC #[108,101,115,115]))) fun v29 => bif v29 then bif decide (0≤x23) then bif decide (0≤x24) then bd (cI x23 x24) fun x30 => bd (dC p1 p2 x30) fun x31 => some x31 else some (CC #[119,104,97,116]) else some (CC #[119,104,97,116]) else some (CC #[119,104,97,116]) else some (CC #[119,104,97,116])

def cN (p2:List (ByteArray)) (x3:(List (ByteArray×Int))×Int×Bool):Nat→ByteArray→Int→Option (ByteArray) | 0,_,_=>none | fu+1,v4,v5 => bif decide (v5<(p2.length:Int)) then bif x3.2.2 then gd (0≤v5∧v5<(p2.length:Int)) <| bd (iW x3.1 x3.2.1 (gt p2 v5)) fun x6 => gd (v4.size+x6.size≤9223372036854775807) <| gd ((v4++x6).size+(CC #[10]).size≤9223372036854775807) <| cN p2 x3 fu ((v4++x6)++(CC #[10])) (CB .i64 (v5+1)) else gd (v4.size+(CC #[119,114,111,110,103,10]).size≤9223372036854775807) <| cN p2 x3 fu (v4++(CC #[119,114,111,110,103,10])) (CB .i64 (v5+1)) else some v4

def fB (p1:ByteArray) (p2:List (ByteArray)):Option (ByteArray) := bif decide (20<(p2.length:Int)) then some ByteArray.empty else bd (fv p1) fun x3 => bd (cN p2 x3 FU ByteArray.empty 0) fun x7 => some x7

def gS (p1:ByteArray) (p2:ByteArray):Option (ByteArray×Bool) := gd (p1.size≤9223372036854775807) <| some (⟨(Lib.trimSuffix p1.data.toList p2.data.toList).toArray⟩,Lib.hasSuffix p1.data.toList p2.data.toList)

def kb (p1:ByteArray) (p2:ByteArray):Option (ByteArray×ByteArray×Bool) := gd (p1.size<4294967281) <| some (⟨(Lib.cut p1.data.toList p2.data.toList).1.toArray⟩,⟨(Lib.cut p1.data.toList p2.data.toList).2.1.toArray⟩,(Lib.cut p1.data.toList p2.data.toList).2.2)

def bP (x3:List (ByteArray)):Nat→(List (ByteArray×Bool×Int))→Int→Option (Unit ⊕ List (ByteArray×Bool×Int)) | 0,_,_=>none | fu+1,v4,v5 => nm (decide (v5<(((x3.length:Int).toNat - (1:Int).toNat:Nat):Int))) fun v6 => bif v6 then gd ((0≤v5∧v5<(((x3.length:Int).toNat - (1:Int).toNat:Nat):Int))∧(1:Int).toNat+v5.toNat<x3.length) <| bd (kb (gt x3 (((1:Int).toNat+v5.toNat:Nat):Int)) (CC #[32,61,32])) fun x7 => bif x7.2.2 then bd (fp x7.2.1) fun x8 => bif (!x8.2) then some (Sum.inl ()) else gd (v4.length+([(x7.1,(!x7.2.2),x8.1)]:List (ByteArray×Bool×Int)).length≤1099511627776) <| bP x3 fu (v4++([(x7.1,(!x7.2.2),x8.1)]:List (ByteArray×Bool×Int))) (CB .i64 (v5+1)) else gd (v4.length+([(x7.1,(!x7.2.2),0)]:List (ByteArray×Bool×Int)).length≤1099511627776) <| bP x3 fu (v4++([(x7.1,(!x7.2.2),0)]:List (ByteArray×Bool×Int))) (CB .i64 (v5+1)) else some (Sum.inr v4)

def gy (p1:ByteArray):Option (ByteArray×(List (ByteArray×Bool×Int))×Bool) := bd (gS p1 (CC #[10])) fun x2 => bd (dt x2.1 (CC #[10])) fun x3 => bif (!x2.2) then some (ByteArray.empty,([]:List (ByteArray×Bool×Int)),false) else bif decide (13<(x3.length:Int)) then some (ByteArray.empty,([]:List (ByteArray×Bool×Int)),false) else gd (0≤(1:Int)∧(1:Int)≤(x3.length:Int)∧(x3.length:Int)≤(x3.length:Int)∧(x3.length:Int)≤(x3.length:Int)) <| bd (bP x3 FU ([]:List (ByteArray×Bool×Int)) 0) fun x9 => sm x9 (fun x10 => some (ByteArray.empty,([]:List (ByteArray×Bool×Int)),false)) (fun x11 => gd (0≤(0:Int)∧(0:Int)<(x3.length:Int)) <| some ((gt x3 (0:Int)),x11,true))

def gT (p1:ByteArray) (p2:ByteArray):Option (ByteArray×Bool) := some (⟨(Lib.trimPrefix p1.data.toList p2.data.toList).toArray⟩,Lib.hasPrefix p1.data.toList p2.data.toList)

def cM (p1:List (ByteArray)) (p2:ByteArray):Nat→Int→Option (Int ⊕ Unit) | 0,_=>none | fu+1,v3 => bif decide (v3<(p1.length:Int)) then gd (0≤v3∧v3<(p1.length:Int)) <| bif decide (p2=(gt p1 v3)) then some (Sum.inl v3) else cM p1 p2 fu (CB .i64 (v3+1)) else some (Sum.inr ())

def fD (p1:List (ByteArray)) (p2:ByteArray):Option (Int) := bd (cM p1 p2 FU 0) fun x4 => sm x4 (fun x5 => some x5) (fun x6 => some (-1))

def gO (p1:ByteArray):Option ((List (ByteArray×Int))×Int×Bool) := bd (gy p1) fun x2 => bd (gT x2.1 (CC #[102,108,97,103,32])) fun x3 => bd (fD boundWords x3.1) fun x4 => bif (!x2.2.2) then some (([]:List (ByteArray×Int)),0,false) else bif (!x3.2) then some (([]:List (ByteArray×Int)),0,false) else bif decide (x4<0) then some (([]:List (ByteArray×Int)),0,false) else bd (gL x2.2.1 x4) fun x5 => some (x5.1,x5.2.1,x5.2.2)

def gQ (p1:List (ByteArray×Int)) (p2:Int):Option (Int) := bd (cH p1 p2) fun x3 => bd (eP (CB .u64 (x3))) fun x4 => gd (0≤x4∧x4≤(IntKind.bits .i64:Int)) <| nm (CB .i64 ((CB .i64 ((1:Int)*2 ^ x4.toNat)) - 1)) fun v5 => some v5

def eW (p1:List (ByteArray×Int)) (p2:Int):Option (Int) := bif decide (p2=3) then bd (gQ p1 p2) fun x3 => some x3 else bd (cH p1 p2) fun x4 => some x4

def gC (p1:List (ByteArray×Int)) (p2:Int) (p3:Int):Option (Int×Int) := bd (dD p1 p2) fun x4 => bif (!x4) then some (0,2) else bd (gm p3 (-4096) 4095) fun x5 => bif (!x5) then some (0,2) else bif decide (p3<0) then bd (eW p1 p2) fun x6 => nm (Go.bits .andNot .i64 x6 (CB .i64 ((CB .i64 (0 - p3)) - 1))) fun v7 => some (v7,0) else bd (cH p1 p2) fun x8 => bif decide ((Go.bits .andNot .i64 p3 x8)=0) then some (p3,0) else bif decide (p2=3) then some (p3,0) else bif decide (p2=1) then bd (cH p1 p2) fun x9 => some (Go.bits .and .i64 p3 x9,0) else bif decide (p2=2) then some (p3,1) else some (0,2)

def br (p1:List (ByteArray×Int)) (p2:Int) (p3:Int):Option (ByteArray) := bd (bX p1 p2 p3) fun x4 => bif (!x4) then some ByteArray.empty else bd (fj p1 p2 p3) fun x5 => bd (fF p1 p2 x5.1 x5.2) fun x6 => some x6

def hZ (p1:List (ByteArray×Int)) (p2:Int) (p3:ByteArray):Option (ByteArray) := bd (fp p3) fun x4 => bif (!x4.2) then some (CC #[119,104,97,116]) else bd (gm x4.1 (-4096) 4095) fun x5 => bif (!x5) then some (CC #[119,104,97,116]) else bd (gC p1 p2 x4.1) fun x6 => bif decide (x6.2=0) then bd (br p1 p2 x6.1) fun x7 => some x7 else bif decide (x6.2=1) then bd (df x6.1) fun x8 => gd ((CC #[110,117,109,98,101,114,32]).size+x8.size≤9223372036854775807) <| some ((CC #[110,117,109,98,101,114,32])++x8) else some (CC #[119,114,111,110,103])

def du (p1:List (ByteArray×Int)) (p2:Int) (p3:Int):Option (Int) := bd (bX p1 p2 p3) fun x4 => bif (!x4) then some (-1) else bd (eW p1 p2) fun x5 => some (Go.bits .andNot .i64 x5 p3)

def iw (p1:Int) (p2:Int):Option (Unit) := some ()

def fG (p1:List (ByteArray×Int)) (p2:Int) (p3:Int) (p4:Int):Option (Int) := bd (bX p1 p2 p3) fun x5 => bif (!x5) then some (-1) else bd (bX p1 p2 p4) fun x6 => bif (!x6) then some (-1) else bd (iw p3 p4) fun x7 => some (Go.bits .or .i64 p3 p4)

def eQ (p1:List (ByteArray×Int)) (p2:Int) (p3:Int) (p4:Int):Option (Int) := bd (fG p1 p2 p3 p4) fun x5 => some x5

def ii (p1:Int) (p2:Int):Option (Unit) := some ()

def fb (p1:List (ByteArray×Int)) (p2:Int) (p3:Int) (p4:Int):Option (Int) := bd (bX p1 p2 p3) fun x5 => bif (!x5) then some (-1) else bd (bX p1 p2 p4) fun x6 => bif (!x6) then some (-1) else bd (ii p3 p4) fun x7 => some (Go.bits .and .i64 p3 p4)

def eg (p1:List (ByteArray×Int)) (p2:Int) (p3:Int) (p4:Int):Option (Int) := bd (fb p1 p2 p3 p4) fun x5 => some x5

def dy (p1:List (ByteArray×Int)) (p2:Int) (x4:List (ByteArray)):Nat→(List (Int))→Int→Option (Unit ⊕ List (Int)) | 0,_,_=>none | fu+1,v7,v8 => nm (decide (v8<(((x4.length:Int).toNat - (1:Int).toNat:Nat):Int))) fun v9 => bif v9 then gd ((0≤v8∧v8<(((x4.length:Int).toNat - (1:Int).toNat:Nat):Int))∧(1:Int).toNat+v8.toNat<x4.length) <| bd (fC p1 p2 (gt x4 (((1:Int).toNat+v8.toNat:Nat):Int))) fun x10 => bif (!x10.2) then some (Sum.inl ()) else gd (v7.length+([x10.1]:List (Int)).length≤1099511627776) <| dy p1 p2 x4 fu (v7++([x10.1]:List (Int))) (CB .i64 (v8+1)) else some (Sum.inr v7)

def bU (p1:List (ByteArray×Int)) (p2:Int) (x4:List (ByteArray)):Nat→(List (Int))→Int→Option (Unit ⊕ List (Int)) | 0,_,_=>none | fu+1,v14,v15 => nm (decide (v15<(((x4.length:Int).toNat - (1:Int).toNat:Nat):Int))) fun v16 => bif v16 then gd ((0≤v15∧v15<(((x4.length:Int).toNat - (1:Int).toNat:Nat):Int))∧(1:Int).toNat+v15.toNat<x4.length) <| bd (fC p1 p2 (gt x4 (((1:Int).toNat+v15.toNat:Nat):Int))) fun x17 => bif (!x17.2) then some (Sum.inl ()) else gd (v14.length+([x17.1]:List (Int)).length≤1099511627776) <| bU p1 p2 x4 fu (v14++([x17.1]:List (Int))) (CB .i64 (v15+1)) else some (Sum.inr v14)

def fU (p1:List (ByteArray×Int)) (p2:Int) (p3:ByteArray):Option (ByteArray) := bd (dt p3 (CC #[32])) fun x4 => gd (0≤(0:Int)∧(0:Int)<(x4.length:Int)) <| nm (decide ((gt x4 (0:Int))=(CC #[109,97,107,101]))) fun v5 => bif v5 then bif decide ((x4.length:Int)=2) then gd (0≤(1:Int)∧(1:Int)<(x4.length:Int)) <| bd (hZ p1 p2 (gt x4 (1:Int))) fun x6 => some x6 else gd (0≤(1:Int)∧(1:Int)≤(x4.length:Int)∧(x4.length:Int)≤(x4.length:Int)∧(x4.length:Int)≤(x4.length:Int)) <| bd (dy p1 p2 x4 FU ([]:List (Int)) 0) fun x11 => sm x11 (fun x12 => some (CC #[119,104,97,116])) (fun x13 => some (CC #[119,104,97,116])) else gd (0≤(1:Int)∧(1:Int)≤(x4.length:Int)∧(x4.length:Int)≤(x4.length:Int)∧(x4.length:Int)≤(x4.length:Int)) <| bd (bU p1 p2 x4 FU ([]:List (Int)) 0) fun x18 => sm x18 (fun x19 => some (CC #[119,104,97,116])) (fun x20 => nm (decide ((gt x4 (0:Int))=(CC #[118,97,108,117,101]))) fun v21 => bif v21 then bif decide ((x20.length:Int)=1) then gd (0≤(0:Int)∧(0:Int)<(x20.length:Int)) <| bd (df (gt x20 (0:Int))) fun x22 => some x22 else some (CC #[119,104,97,116]) else nm (decide ((gt x4 (0:Int))=(CC #[115,104,111,119]))) fun v23 => bif v23 then bif decide ((x20.length:Int)=1) then gd (0≤(0:Int)∧(0:Int)<(x20.length:Int)) <| bd (br p1 p2 (gt x20 (0:Int))) fun x24 => some x24 else some (CC #[119,104,97,116]) else nm (decide ((gt x4 (0:Int))=(CC #[115,104,111,114,116]))) fun v25 => bif v25 then bif decide ((x20.length:Int)=1) then gd (0≤(0:Int)∧(0:Int)<(x20.length:Int)) <| bd (eh p1 p2 (gt x20 (0:Int))) fun x26 => some x26 else some (CC #[119,104,97,116]) else bif decide ((gt x4 (0:Int))=(CC #[110,111,116])) then bif decide ((x20.length:Int)=1) then gd (0≤(0:Int)∧(0:Int)<(x20.length:Int)) <| bd (du p1 p2 (gt x20 (0:Int))) fun x27 => bd (br p1 p2 x27) fun x28 => some x28 else some (CC #[119,104,97,116]) else bif decide ((gt x4 (0:Int))=(CC #[111,114])) then bif decide ((x20.length:Int)=2) then gd (0≤(0:Int)∧(0:Int)<(x20.length:Int)) <| gd (0≤(1:Int)∧(1:Int)<(x20.length:Int)) <| bd (eQ p1 p2 (gt x20 (0:Int)) (gt x20 (1:Int))) fun x29 => bd (br p1 p2 x29) fun x30 => some x30 else some (CC #[119,104,97,116]) else bif decide ((gt x4 (0:Int))=(CC #[97,110,100])) then bif decide ((x20.length:Int)=2) then gd (0≤(0:Int)∧(0:Int)<(x20.length:Int)) <| gd (0≤(1:Int)∧(1:Int)<(x20.length:Int)) <| bd (eg p1 p2 (gt x20 (0:Int)) (gt x20 (1:Int))) fun x31 => bd (br p1 p2 x31) fun x32 => some x32 else some (CC #[119,104,97,116]) else nm (decide ((gt x4 (0:Int))=(CC #[108,101,115,115]))) fun v33 => bif v33 then bif decide ((x20.length:Int)=2) then gd (0≤(0:Int)∧(0:Int)<(x20.length:Int)) <| gd (0≤(1:Int)∧(1:Int)<(x20.length:Int)) <| bd (dI p1 p2 (gt x20 (0:Int)) (gt x20 (1:Int))) fun x34 => bd (br p1 p2 x34) fun x35 => some x35 else some (CC #[119,104,97,116]) else some (CC #[119,104,97,116]))

def gv (p1:ByteArray) (p2:List (ByteArray)):Option (ByteArray) := bif decide (20<(p2.length:Int)) then some ByteArray.empty else bd (gO p1) fun x3 => bd (kq (fun l=>fU x3.1 x3.2.1 l) x3.2.2 p2) fun x4 => some ⟨x4.toArray⟩

def gf (p1:Int):Option (ByteArray) := bif decide (p1<0) then bd (m_spec_number FU (CB .i64 (0 - p1))) fun x2 => gd ((CC #[45]).size+x2.size≤9223372036854775807) <| some ((CC #[45])++x2) else bd (m_spec_number FU p1) fun x3 => some x3

def cp (p1:List (ByteArray×Bool×Int)):Nat→ByteArray→Int→Option (ByteArray) | 0,_,_=>none | fu+1,v2,v3 => bif decide (v3<(p1.length:Int)) then gd (0≤v3∧v3<(p1.length:Int)) <| gd (v2.size+((gt p1 v3).1).size≤9223372036854775807) <| bif (!((gt p1 v3).2.1)) then gd ((v2++((gt p1 v3).1)).size+(CC #[32,61,32]).size≤9223372036854775807) <| bd (gf ((gt p1 v3).2.2)) fun x4 => gd (((v2++((gt p1 v3).1))++(CC #[32,61,32])).size+x4.size≤9223372036854775807) <| nm (((v2++((gt p1 v3).1))++(CC #[32,61,32]))++x4) fun v5 => gd (v5.size+(CC #[10]).size≤9223372036854775807) <| cp p1 fu (v5++(CC #[10])) (CB .i64 (v3+1)) else gd ((v2++((gt p1 v3).1)).size+(CC #[10]).size≤9223372036854775807) <| cp p1 fu ((v2++((gt p1 v3).1))++(CC #[10])) (CB .i64 (v3+1)) else some v2

def gF (p1:List (ByteArray×Bool×Int)):Option (ByteArray) := bd (cp p1 FU ByteArray.empty 0) fun x6 => some x6

def hY (p1:List (Int)) (p2:Int):Option (ByteArray×Int) := bd (eU) fun x3 => bd (aJ 4 p1 p2) fun x4 => gd (0≤x4∧x4<(([(CC #[115,116,114,105,99,116]),(CC #[102,105,116]),(CC #[101,106,101,99,116]),(CC #[107,101,101,112])]:List (ByteArray)).length:Int)) <| nm ((gt ([(CC #[115,116,114,105,99,116]),(CC #[102,105,116]),(CC #[101,106,101,99,116]),(CC #[107,101,101,112])]:List (ByteArray)) x4)) fun v5 => gd ((CC #[102,108,97,103,32]).size+v5.size≤9223372036854775807) <| gd (((CC #[102,108,97,103,32])++v5).size+(CC #[10]).size≤9223372036854775807) <| nm (((CC #[102,108,97,103,32])++v5)++(CC #[10])) fun v6 => bd (gK 4095 p1 (CB .i64 (p2+1))) fun x7 => bd (gF x7.1) fun x8 => gd (v6.size+x8.size≤9223372036854775807) <| some (v6++x8,x7.2)

def iU (p1:ByteArray) (p2:List (Int)) (p3:Int):Option (ByteArray×Int) := bd (aJ (CB .i64 ((p1.size:Int)+1)) p2 p3) fun x4 => bd (aJ 5 p2 (CB .i64 (p3+1))) fun x5 => bif decide (x5=0) then bif decide (x4<(p1.size:Int)) then gd (0≤(0:Int)∧(0:Int)≤x4∧x4≤(p1.size:Int)) <| bd (bi ([(CC #[48]),(CC #[49]),(CC #[124]),(CC #[32]),(CC #[97]),(CC #[33]),(CC #[45]),(CC #[61]),(CC #[10])]:List (ByteArray)) p2 (CB .i64 ((CB .i64 (p3+1))+1))) fun x6 => gd ((p1.extract (0:Int).toNat x4.toNat).size+x6.size≤9223372036854775807) <| gd (0≤(CB .i64 (x4+1))∧(CB .i64 (x4+1))≤(p1.size:Int)∧(p1.size:Int)≤(p1.size:Int)) <| nm (p1.extract (CB .i64 (x4+1)).toNat (p1.size:Int).toNat) fun v7 => gd (((p1.extract (0:Int).toNat x4.toNat)++x6).size+v7.size≤9223372036854775807) <| some (((p1.extract (0:Int).toNat x4.toNat)++x6)++v7,CB .i64 ((CB .i64 ((CB .i64 (p3+1))+1))+1)) else some (p1,CB .i64 ((CB .i64 (p3+1))+1)) else bif decide (x5=1) then bif decide (x4<(p1.size:Int)) then gd (0≤(0:Int)∧(0:Int)≤x4∧x4≤(p1.size:Int)) <| bd (bi ([(CC #[48]),(CC #[49]),(CC #[124]),(CC #[32]),(CC #[97]),(CC #[33]),(CC #[45]),(CC #[61]),(CC #[10])]:List (ByteArray)) p2 (CB .i64 ((CB .i64 (p3+1))+1))) fun x8 => gd ((p1.extract (0:Int).toNat x4.toNat).size+x8.size≤9223372036854775807) <| gd (0≤(CB .i64 (x4+1))∧(CB .i64 (x4+1))≤(p1.size:Int)∧(p1.size:Int)≤(p1.size:Int)) <| nm (p1.extract (CB .i64 (x4+1)).toNat (p1.size:Int).toNat) fun v9 => gd (((p1.extract (0:Int).toNat x4.toNat)++x8).size+v9.size≤9223372036854775807) <| some (((p1.extract (0:Int).toNat x4.toNat)++x8)++v9,CB .i64 ((CB .i64 ((CB .i64 (p3+1))+1))+1)) else some (p1,CB .i64 ((CB .i64 (p3+1))+1)) else bif decide (x5=2) then gd (0≤(0:Int)∧(0:Int)≤x4∧x4≤(p1.size:Int)) <| some (p1.extract (0:Int).toNat x4.toNat,CB .i64 ((CB .i64 (p3+1))+1)) else bif decide (x5=3) then bd (bi ([(CC #[48]),(CC #[124]),(CC #[32]),(CC #[97]),(CC #[10])]:List (ByteArray)) p2 (CB .i64 ((CB .i64 (p3+1))+1))) fun x10 => gd (p1.size+x10.size≤9223372036854775807) <| some (p1++x10,CB .i64 ((CB .i64 ((CB .i64 (p3+1))+1))+1)) else some (p1,CB .i64 ((CB .i64 (p3+1))+1))

def fK (p1:List (ByteArray×Int)) (p2:Int) (p3:List (Int)) (p4:Int):Option (ByteArray×Int) := bd (gJ p1 p3 p4) fun x5 => bd (aJ 4 p3 x5.2) fun x6 => bif decide (x6=0) then bd (bi ([(CC #[49]),(CC #[56]),(CC #[51,50]),(CC #[48]),(CC #[52,48,57,53]),(CC #[52,48,57,54]),(CC #[48,49])]:List (ByteArray)) p3 (CB .i64 (x5.2+1))) fun x7 => gd (x5.1.length+([x7]:List (ByteArray)).length≤1099511627776) <| nm (decide (((x5.1++([x7]:List (ByteArray))).length:Int)=0)) fun v8 => bif v8 then bd (bi ([(CC #[48]),(CC #[49]),ByteArray.empty]:List (ByteArray)) p3 (CB .i64 ((CB .i64 (x5.2+1))+1))) fun x9 => bd (cD ([x9]:List (ByteArray)) (CC #[124])) fun x10 => some (x10,CB .i64 ((CB .i64 ((CB .i64 (x5.2+1))+1))+1)) else bd (cD (x5.1++([x7]:List (ByteArray))) (CC #[124])) fun x11 => some (x11,CB .i64 ((CB .i64 (x5.2+1))+1)) else bif decide ((x5.1.length:Int)=0) then bd (bi ([(CC #[48]),(CC #[49]),ByteArray.empty]:List (ByteArray)) p3 (CB .i64 (x5.2+1))) fun x12 => bd (cD ([x12]:List (ByteArray)) (CC #[124])) fun x13 => some (x13,CB .i64 ((CB .i64 (x5.2+1))+1)) else bd (cD x5.1 (CC #[124])) fun x14 => some (x14,CB .i64 (x5.2+1))

def cQ (x2:List (Int)) (x4:(List (ByteArray×Int))×Int×Bool) (x6:ByteArray×Int):Nat→Int→(List (ByteArray))→Int→Option (List (ByteArray)) | 0,_,_,_=>none | fu+1,v8,v9,v10 => bif decide (0<v10) then bd (fK x4.1 x4.2.1 x2 v8) fun x11 => bd (fK x4.1 x4.2.1 x2 x11.2) fun x12 => gd ((CC #[115,104,111,119,32]).size+x11.1.size≤9223372036854775807) <| gd ((CC #[115,104,111,114,116,32]).size+x11.1.size≤9223372036854775807) <| gd ((CC #[110,111,116,32]).size+x11.1.size≤9223372036854775807) <| gd ((CC #[111,114,32]).size+x11.1.size≤9223372036854775807) <| gd (((CC #[111,114,32])++x11.1).size+(CC #[32]).size≤9223372036854775807) <| nm (((CC #[111,114,32])++x11.1)++(CC #[32])) fun v13 => gd (v13.size+x12.1.size≤9223372036854775807) <| gd ((CC #[97,110,100,32]).size+x11.1.size≤9223372036854775807) <| gd (((CC #[97,110,100,32])++x11.1).size+(CC #[32]).size≤9223372036854775807) <| nm (((CC #[97,110,100,32])++x11.1)++(CC #[32])) fun v14 => gd (v14.size+x12.1.size≤9223372036854775807) <| gd ((CC #[108,101,115,115,32]).size+x11.1.size≤9223372036854775807) <| gd (((CC #[108,101,115,115,32])++x11.1).size+(CC #[32]).size≤9223372036854775807) <| nm (((CC #[108,101,115,115,32])++x11.1)++(CC #[32])) fun v15 => gd (v15.size+x12.1.size≤9223372036854775807) <| gd ((CC #[118,97,108,117,101,32]).size+x11.1.size≤9223372036854775807) <| gd (((CC #[115,104,111,119,32])++x11.1).size+(CC #[32]).size≤9223372036854775807) <| nm (((CC #[115,104,111,119,32])++x11.1)++(CC #[32])) fun v16 => gd (v16.size+x12.1.size≤9223372036854775807) <| bd (bi ([(CC #[109,97,107,101,32,51]),(CC #[109,97,107,101,32,45,50]),(CC #[109,97,107,101,32,52,48,57,53]),(CC #[109,97,107,101,32,45,52,48,57,54]),(CC #[109,97,107,101,32,48,49]),(CC #[115,104,111,119,32])++x11.1,(CC #[115,104,111,114,116,32])++x11.1,(CC #[110,111,116,32])++x11.1,v13++x12.1,v14++x12.1,v15++x12.1,(CC #[118,97,108,117,101,32])++x11.1,(CC #[104,101,108,112]),ByteArray.empty,v16++x12.1]:List (ByteArray)) x2 x12.2) fun x17 => gd (v9.length+([x17]:List (ByteArray)).length≤1099511627776) <| cQ x2 x4 x6 fu (CB .i64 (x12.2+1)) (v9++([x17]:List (ByteArray))) (CB .i64 (v10 - 1)) else some v9

def bL (x2:List (Int)) (x3:ByteArray×Int) (x4:(List (ByteArray×Int))×Int×Bool):Nat→Int→(List (ByteArray))→Int→Option (List (ByteArray)) | 0,_,_,_=>none | fu+1,v20,v21,v22 => bif decide (0<v22) then bd (fK x4.1 x4.2.1 x2 v20) fun x23 => bd (fK x4.1 x4.2.1 x2 x23.2) fun x24 => gd ((CC #[115,104,111,119,32]).size+x23.1.size≤9223372036854775807) <| gd ((CC #[115,104,111,114,116,32]).size+x23.1.size≤9223372036854775807) <| gd ((CC #[110,111,116,32]).size+x23.1.size≤9223372036854775807) <| gd ((CC #[111,114,32]).size+x23.1.size≤9223372036854775807) <| gd (((CC #[111,114,32])++x23.1).size+(CC #[32]).size≤9223372036854775807) <| nm (((CC #[111,114,32])++x23.1)++(CC #[32])) fun v25 => gd (v25.size+x24.1.size≤9223372036854775807) <| gd ((CC #[97,110,100,32]).size+x23.1.size≤9223372036854775807) <| gd (((CC #[97,110,100,32])++x23.1).size+(CC #[32]).size≤9223372036854775807) <| nm (((CC #[97,110,100,32])++x23.1)++(CC #[32])) fun v26 => gd (v26.size+x24.1.size≤9223372036854775807) <| gd ((CC #[108,101,115,115,32]).size+x23.1.size≤9223372036854775807) <| gd (((CC #[108,101,115,115,32])++x23.1).size+(CC #[32]).size≤9223372036854775807) <| nm (((CC #[108,101,115,115,32])++x23.1)++(CC #[32])) fun v27 => gd (v27.size+x24.1.size≤9223372036854775807) <| gd ((CC #[118,97,108,117,101,32]).size+x23.1.size≤9223372036854775807) <| gd (((CC #[115,104,111,119,32])++x23.1).size+(CC #[32]).size≤9223372036854775807) <| nm (((CC #[115,104,111,119,32])++x23.1)++(CC #[32])) fun v28 => gd (v28.size+x24.1.size≤9223372036854775807) <| bd (bi ([(CC #[109,97,107,101,32,51]),(CC #[109,97,107,101,32,45,50]),(CC #[109,97,107,101,32,52,48,57,53]),(CC #[109,97,107,101,32,45,52,48,57,54]),(CC #[109,97,107,101,32,48,49]),(CC #[115,104,111,119,32])++x23.1,(CC #[115,104,111,114,116,32])++x23.1,(CC #[110,111,116,32])++x23.1,v25++x24.1,v26++x24.1,v27++x24.1,(CC #[118,97,108,117,101,32])++x23.1,(CC #[104,101,108,112]),ByteArray.empty,v28++x24.1]:List (ByteArray)) x2 x24.2) fun x29 => gd (v21.length+([x29]:List (ByteArray)).length≤1099511627776) <| bL x2 x3 x4 fu (CB .i64 (x24.2+1)) (v21++([x29]:List (ByteArray))) (CB .i64 (v22 - 1)) else some v21

def fP (p1:List (Int)):Option (ByteArray×List (ByteArray)) := bd (gG p1) fun x2 => bd (hY x2 0) fun x3 => bd (fv x3.1) fun x4 => bd (aJ 8 x2 x3.2) fun x5 => bif decide (x5=0) then bd (iU x3.1 x2 (CB .i64 (x3.2+1))) fun x6 => bd (cv ([4,6,2,0]:List (Int)) x2 x6.2) fun x7 => bd (cQ x2 x4 x6 FU (CB .i64 (x6.2+1)) ([]:List (ByteArray)) x7) fun x18 => some (x6.1,x18) else bd (cv ([4,6,2,0]:List (Int)) x2 (CB .i64 (x3.2+1))) fun x19 => bd (bL x2 x3 x4 FU (CB .i64 ((CB .i64 (x3.2+1))+1)) ([]:List (ByteArray)) x19) fun x30 => some (x3.1,x30)

def cC (p1:ByteArray):Nat→Int→Int→Option (Int) | 0,_,_=>none | fu+1,v2,v3 => bif decide (v3<(p1.size:Int)) then gd (0≤v3∧v3<(p1.size:Int)) <| bif decide ((aG p1 v3.toNat)=10) then cC p1 fu (CB .i64 (v2+1)) (CB .i64 (v3+1)) else cC p1 fu v2 (CB .i64 (v3+1)) else some v2

def hF (p1:ByteArray):Option (Int) := bd (cC p1 FU 0 0) fun x4 => some x4

def cq (x2:ByteArray×List (ByteArray)) (x3:ByteArray):Nat→Int→Option (Unit ⊕ Unit) | 0,_=>none | fu+1,v7 => bif decide (v7≤(x2.2.length:Int)) then gd (0≤(0:Int)∧(0:Int)≤v7∧v7≤(x2.2.length:Int)∧(x2.2.length:Int)≤(x2.2.length:Int)) <| bd (gv x2.1 (sub x2.2 (0:Int) v7)) fun x8 => bif decide ((x3.size:Int)<(x8.size:Int)) then some (Sum.inl ()) else gd (0≤(0:Int)∧(0:Int)≤(x8.size:Int)∧(x8.size:Int)≤(x3.size:Int)) <| nm ((!decide ((x3.extract (0:Int).toNat (x8.size:Int).toNat)=x8))) fun v9 => bif v9 then some (Sum.inl ()) else cq x2 x3 fu (CB .i64 (v7+1)) else some (Sum.inr ())

def iH (p1:List (Int)):Option (Bool) := bif decide (1048576<(p1.length:Int)) then some true else bd (fP p1) fun x2 => bd (gv x2.1 x2.2) fun x3 => bd (fB x2.1 x2.2) fun x4 => bif (!decide (x3=x4)) then bd (fB x2.1 x2.2) fun x5 => some (decide (x3=x5)) else bif decide (x3=ByteArray.empty) then bd (fB x2.1 x2.2) fun x6 => some (decide (x3=x6)) else bd (cq x2 x3 FU 0) fun x10 => sm x10 (fun x11 => some false) (fun x12 => bd (hF x3) fun x13 => some (decide (x13=(x2.2.length:Int))))

end Go.Eng

/- What the functions compute -/
import Derived.Test.YthndemlfnhpdbaaDoorAv3
import Derived.Test.YthndemlfnhpdbaaDoorCodes
set_option linter.all false
section
attribute [local congr] ite_congr
set_option maxRecDepth 10000
set_option maxHeartbeats 1000000
namespace Go.Proofs.Tryd.Av
open Go Go.Av Classical
abbrev yq (ks:List Int):PV:=.fz (ks.map fun k=>[.int .i64 k])
structure Up where
 Local:Bool
 Index:Int
 deriving Inhabited
structure yk where
 Kind:Int
 Num:Int
 Flt:Nat
 Str:ByteArray
 Ref:Int
 deriving Inhabited
structure Ins where
 Op:Int
 A:Int
 B:Int
 C:Int
 D:Int
 deriving Inhabited
structure xn where
 Name:ByteArray
 Reg:Int
 From:Int
 To:Int
 deriving Inhabited
structure zc where
 Name:ByteArray
 Line:Int
 Params:Int
 Rest:Bool
 Regs:Int
 Ups:List Up
 Consts:List yk
 Ins:List Ins
 Named:List xn
 deriving Inhabited
abbrev Up.cells (u:Up):List PV:=[.bool u.Local,.int .i64 u.Index]
abbrev yk.cells (v:yk):List PV:=[.int .i64 v.Kind,.int .i64 v.Num,.flt .f64 v.Flt,.str v.Str,.int .i64 v.Ref]
abbrev Ins.cells (n:Ins):List PV:=[.int .i64 n.Op,.int .i64 n.A,.int .i64 n.B,.int .i64 n.C,.int .i64 n.D]
abbrev xn.cells (n:xn):List PV:=[.str n.Name,.int .i64 n.Reg,.int .i64 n.From,.int .i64 n.To]
abbrev ups (l:List Up):PV:=.fz (l.map Up.cells)
abbrev zf (l:List yk):PV:=.fz (l.map yk.cells)
abbrev zj (l:List Ins):PV:=.fz (l.map Ins.cells)
abbrev zm (l:List xn):PV:=.fz (l.map xn.cells)
abbrev zc.cells (p:zc):List PV:=[.str p.Name,.int .i64 p.Line,.int .i64 p.Params,.bool p.Rest,.int .i64 p.Regs,ups p.Ups,zf p.Consts,zj p.Ins,zm p.Named]
abbrev zb (l:List zc):PV:=.fz (l.map zc.cells)
abbrev code (l:List zc):PV:=.agg [zb l]
theorem xz (x lo hi:Int):EP A zgE [.int .i64 x,.int .i64 lo,.int .i64 hi]=some (.bool (decide (lo≤x∧x≤hi))):=by
 simp -implicitDefEqProofs +contextual (disch:=omega) only [znx,zot,zmM, ↓XD,XU, ↓reduceIte,sevalprocAttr]
theorem zN (x lo hi:Int):EP A zd6 [.int .i64 x,.int .i64 lo,.int .i64 hi]=some (.bool (decide (lo≤x∧x≤hi))):=by
 simp -implicitDefEqProofs +contextual (disch:=omega) only [zkR,zk',zjR, ↓XD,XU, ↓reduceIte,sevalprocAttr]
theorem zgp (n:Ins):EP A zaH [.agg n.cells]=some (yq [n.A,n.B,n.C,n.D]):=by
 simp -implicitDefEqProofs +contextual (disch:=omega) only [zhR,zi0,zhm,yq,Ins.cells,zT,zH,xA, ↓XD,XU, ↓reduceIte,sevalprocAttr]
theorem vT (n:Ins):EP A KM [.agg n.cells]=some (.agg [.int .i64 n.A,.int .i64 n.B,.int .i64 n.C,.int .i64 n.D]):=by
 simp -implicitDefEqProofs +contextual (disch:=omega) only [zge,zgi,zfG, ↓XD,XU, ↓reduceIte,sevalprocAttr]
noncomputable def zh (o:Int):Option (List Int):=
 if o=1 then some [11,0,0,0] else
 if o=2 then some [12,0,0,0] else
 if o=3∨o=32∨o=36 then some [0,0,0,0] else
 if o=4 then some [1,7,0,0] else
 if o=5∨o=6 then some [1,2,0,0] else
 if o=7 then some [1,5,0,0] else
 if o=8 then some [5,2,0,0] else
 if o=9 then some [1,8,0,0] else
 if o=10 then some [8,2,0,0] else
 if o=11 then some [1,9,0,0] else
 if o=12∨o=22 then some [1,0,0,0] else
 if o=13 then some [4,2,2,0] else
 if o=14 then some [4,2,3,0] else
 if o=15 then some [1,2,2,0] else
 if o=16 then some [2,2,2,0] else
 if o=17 then some [1,15,2,0] else
 if o=18 then some [1,16,2,2] else
 if o=19 then some [10,0,0,0] else
 if o=20∨o=21 then some [2,10,0,0] else
 if o=23 then some [6,2,0,0] else
 if o=24 then some [6,3,0,0] else
 if o=25 then some [1,3,0,0] else
 if o=26 then some [1,6,17,0] else
 if o=27 then some [1,6,0,0] else
 if o=28 then some [1,2,3,0] else
 if o=29 then some [3,0,0,0] else
 if o=30 then some [2,0,0,0] else
 if o=31 then some [10,14,0,0] else
 if o=33∨o=34 then some [13,0,0,0] else
 if o=35 then some [2,3,0,0] else
 if o=37 then some [18,0,0,0] else
 if o=38∨o=39 then some [18,10,0,0] else
 if o=40 then some [19,0,0,0] else
 if o=41 then some [20,10,1,0] else
 if o=42 then some [21,0,0,0] else
 none
def yx:Option (List Int)→PV
 |some l=>yq l
 |none=>.nils
set_option maxHeartbeats 8000000 in
theorem zdt (o:Int):EP A zcu [.int .i64 o]=some (yx (zh o)):=by
 by_cases h1:o=1
 ·subst h1;simp -implicitDefEqProofs +contextual (disch:=omega) only [zO,zP,zI,zT,zH,xA,zh,yx,yq, ↓XD,XU, ↓reduceIte,sevalprocAttr]
 by_cases h2:o=2
 ·subst h2;simp -implicitDefEqProofs +contextual (disch:=omega) only [zO,zP,zI,zT,zH,xA,zh,yx,yq, ↓XD,XU, ↓reduceIte,sevalprocAttr]
 by_cases h3:o=3
 ·subst h3;simp -implicitDefEqProofs +contextual (disch:=omega) only [zO,zP,zI,zT,zH,xA,zh,yx,yq, ↓XD,XU, ↓reduceIte,sevalprocAttr]
 by_cases h4:o=4
 ·subst h4;simp -implicitDefEqProofs +contextual (disch:=omega) only [zO,zP,zI,zT,zH,xA,zh,yx,yq, ↓XD,XU, ↓reduceIte,sevalprocAttr]
 by_cases h5:o=5
 ·subst h5;simp -implicitDefEqProofs +contextual (disch:=omega) only [zO,zP,zI,zT,zH,xA,zh,yx,yq, ↓XD,XU, ↓reduceIte,sevalprocAttr]
 by_cases h6:o=6
 ·subst h6;simp -implicitDefEqProofs +contextual (disch:=omega) only [zO,zP,zI,zT,zH,xA,zh,yx,yq, ↓XD,XU, ↓reduceIte,sevalprocAttr]
 by_cases h7:o=7
 ·subst h7;simp -implicitDefEqProofs +contextual (disch:=omega) only [zO,zP,zI,zT,zH,xA,zh,yx,yq, ↓XD,XU, ↓reduceIte,sevalprocAttr]
 by_cases h8:o=8
 ·subst h8;simp -implicitDefEqProofs +contextual (disch:=omega) only [zO,zP,zI,zT,zH,xA,zh,yx,yq, ↓XD,XU, ↓reduceIte,sevalprocAttr]
 by_cases h9:o=9
 ·subst h9;simp -implicitDefEqProofs +contextual (disch:=omega) only [zO,zP,zI,zT,zH,xA,zh,yx,yq, ↓XD,XU, ↓reduceIte,sevalprocAttr]
 by_cases h10:o=10
 ·subst h10;simp -implicitDefEqProofs +contextual (disch:=omega) only [zO,zP,zI,zT,zH,xA,zh,yx,yq, ↓XD,XU, ↓reduceIte,sevalprocAttr]
 by_cases h11:o=11
 ·subst h11;simp -implicitDefEqProofs +contextual (disch:=omega) only [zO,zP,zI,zT,zH,xA,zh,yx,yq, ↓XD,XU, ↓reduceIte,sevalprocAttr]
 by_cases h12:o=12
 ·subst h12;simp -implicitDefEqProofs +contextual (disch:=omega) only [zO,zP,zI,zT,zH,xA,zh,yx,yq, ↓XD,XU, ↓reduceIte,sevalprocAttr]
 by_cases h13:o=13
 ·subst h13;simp -implicitDefEqProofs +contextual (disch:=omega) only [zO,zP,zI,zT,zH,xA,zh,yx,yq, ↓XD,XU, ↓reduceIte,sevalprocAttr]
 by_cases h14:o=14
 ·subst h14;simp -implicitDefEqProofs +contextual (disch:=omega) only [zO,zP,zI,zT,zH,xA,zh,yx,yq, ↓XD,XU, ↓reduceIte,sevalprocAttr]
 by_cases h15:o=15
 ·subst h15;simp -implicitDefEqProofs +contextual (disch:=omega) only [zO,zP,zI,zT,zH,xA,zh,yx,yq, ↓XD,XU, ↓reduceIte,sevalprocAttr]
 by_cases h16:o=16
 ·subst h16;simp -implicitDefEqProofs +contextual (disch:=omega) only [zO,zP,zI,zT,zH,xA,zh,yx,yq, ↓XD,XU, ↓reduceIte,sevalprocAttr]
 by_cases h17:o=17
 ·subst h17;simp -implicitDefEqProofs +contextual (disch:=omega) only [zO,zP,zI,zT,zH,xA,zh,yx,yq, ↓XD,XU, ↓reduceIte,sevalprocAttr]
 by_cases h18:o=18
 ·subst h18;simp -implicitDefEqProofs +contextual (disch:=omega) only [zO,zP,zI,zT,zH,xA,zh,yx,yq, ↓XD,XU, ↓reduceIte,sevalprocAttr]
 by_cases h19:o=19
 ·subst h19;simp -implicitDefEqProofs +contextual (disch:=omega) only [zO,zP,zI,zT,zH,xA,zh,yx,yq, ↓XD,XU, ↓reduceIte,sevalprocAttr]
 by_cases h20:o=20
 ·subst h20;simp -implicitDefEqProofs +contextual (disch:=omega) only [zO,zP,zI,zT,zH,xA,zh,yx,yq, ↓XD,XU, ↓reduceIte,sevalprocAttr]
 by_cases h21:o=21
 ·subst h21;simp -implicitDefEqProofs +contextual (disch:=omega) only [zO,zP,zI,zT,zH,xA,zh,yx,yq, ↓XD,XU, ↓reduceIte,sevalprocAttr]
 by_cases h22:o=22
 ·subst h22;simp -implicitDefEqProofs +contextual (disch:=omega) only [zO,zP,zI,zT,zH,xA,zh,yx,yq, ↓XD,XU, ↓reduceIte,sevalprocAttr]
 by_cases h23:o=23
 ·subst h23;simp -implicitDefEqProofs +contextual (disch:=omega) only [zO,zP,zI,zT,zH,xA,zh,yx,yq, ↓XD,XU, ↓reduceIte,sevalprocAttr]
 by_cases h24:o=24
 ·subst h24;simp -implicitDefEqProofs +contextual (disch:=omega) only [zO,zP,zI,zT,zH,xA,zh,yx,yq, ↓XD,XU, ↓reduceIte,sevalprocAttr]
 by_cases h25:o=25
 ·subst h25;simp -implicitDefEqProofs +contextual (disch:=omega) only [zO,zP,zI,zT,zH,xA,zh,yx,yq, ↓XD,XU, ↓reduceIte,sevalprocAttr]
 by_cases h26:o=26
 ·subst h26;simp -implicitDefEqProofs +contextual (disch:=omega) only [zO,zP,zI,zT,zH,xA,zh,yx,yq, ↓XD,XU, ↓reduceIte,sevalprocAttr]
 by_cases h27:o=27
 ·subst h27;simp -implicitDefEqProofs +contextual (disch:=omega) only [zO,zP,zI,zT,zH,xA,zh,yx,yq, ↓XD,XU, ↓reduceIte,sevalprocAttr]
 by_cases h28:o=28
 ·subst h28;simp -implicitDefEqProofs +contextual (disch:=omega) only [zO,zP,zI,zT,zH,xA,zh,yx,yq, ↓XD,XU, ↓reduceIte,sevalprocAttr]
 by_cases h29:o=29
 ·subst h29;simp -implicitDefEqProofs +contextual (disch:=omega) only [zO,zP,zI,zT,zH,xA,zh,yx,yq, ↓XD,XU, ↓reduceIte,sevalprocAttr]
 by_cases h30:o=30
 ·subst h30;simp -implicitDefEqProofs +contextual (disch:=omega) only [zO,zP,zI,zT,zH,xA,zh,yx,yq, ↓XD,XU, ↓reduceIte,sevalprocAttr]
 by_cases h31:o=31
 ·subst h31;simp -implicitDefEqProofs +contextual (disch:=omega) only [zO,zP,zI,zT,zH,xA,zh,yx,yq, ↓XD,XU, ↓reduceIte,sevalprocAttr]
 by_cases h32:o=32
 ·subst h32;simp -implicitDefEqProofs +contextual (disch:=omega) only [zO,zP,zI,zT,zH,xA,zh,yx,yq, ↓XD,XU, ↓reduceIte,sevalprocAttr]
 by_cases h33:o=33
 ·subst h33;simp -implicitDefEqProofs +contextual (disch:=omega) only [zO,zP,zI,zT,zH,xA,zh,yx,yq, ↓XD,XU, ↓reduceIte,sevalprocAttr]
 by_cases h34:o=34
 ·subst h34;simp -implicitDefEqProofs +contextual (disch:=omega) only [zO,zP,zI,zT,zH,xA,zh,yx,yq, ↓XD,XU, ↓reduceIte,sevalprocAttr]
 by_cases h35:o=35
 ·subst h35;simp -implicitDefEqProofs +contextual (disch:=omega) only [zO,zP,zI,zT,zH,xA,zh,yx,yq, ↓XD,XU, ↓reduceIte,sevalprocAttr]
 by_cases h36:o=36
 ·subst h36;simp -implicitDefEqProofs +contextual (disch:=omega) only [zO,zP,zI,zT,zH,xA,zh,yx,yq, ↓XD,XU, ↓reduceIte,sevalprocAttr]
 by_cases h37:o=37
 ·subst h37;simp -implicitDefEqProofs +contextual (disch:=omega) only [zO,zP,zI,zT,zH,xA,zh,yx,yq, ↓XD,XU, ↓reduceIte,sevalprocAttr]
 by_cases h38:o=38
 ·subst h38;simp -implicitDefEqProofs +contextual (disch:=omega) only [zO,zP,zI,zT,zH,xA,zh,yx,yq, ↓XD,XU, ↓reduceIte,sevalprocAttr]
 by_cases h39:o=39
 ·subst h39;simp -implicitDefEqProofs +contextual (disch:=omega) only [zO,zP,zI,zT,zH,xA,zh,yx,yq, ↓XD,XU, ↓reduceIte,sevalprocAttr]
 by_cases h40:o=40
 ·subst h40;simp -implicitDefEqProofs +contextual (disch:=omega) only [zO,zP,zI,zT,zH,xA,zh,yx,yq, ↓XD,XU, ↓reduceIte,sevalprocAttr]
 by_cases h41:o=41
 ·subst h41;simp -implicitDefEqProofs +contextual (disch:=omega) only [zO,zP,zI,zT,zH,xA,zh,yx,yq, ↓XD,XU, ↓reduceIte,sevalprocAttr]
 by_cases h42:o=42
 ·subst h42;simp -implicitDefEqProofs +contextual (disch:=omega) only [zO,zP,zI,zT,zH,xA,zh,yx,yq, ↓XD,XU, ↓reduceIte,sevalprocAttr]
 simp -implicitDefEqProofs +contextual (disch:=omega) only [zO,zP,zI,zT,zH,xA,zh,yx,yq, ↓XD,XU, ↓reduceIte,sevalprocAttr,h1,h2,h3,h4,h5,h6,h7,h8,h9,h10,h11,h12,h13,h14,h15,h16,h17,h18,h19,h20,h21,h22,h23,h24,h25,h26,h27,h28,h29,h30,h31,h32,h33,h34,h35,h36,h37,h38,h39,h40,h41,h42]
end Go.Proofs.Tryd.Av
end
section
attribute [local congr] ite_congr
set_option maxRecDepth 10000
set_option maxHeartbeats 4000000
namespace Go.Proofs.Tryd.Av
open Go Go.Av Classical
def wb {α:Type} (f:α→List PV):Option (List α)→PV
 |none=>.nils
 |some l=>.fz (l.map f)
abbrev ol {α:Type} (o:Option (List α)):List α:=o.getD []
theorem V7 {α:Type} (f:α→List PV) (l:List α):wb f (some l)=.fz (l.map f):=rfl
theorem yu {α:Type} (f:α→List PV) (o:Option (List α)):kS (wb f o)=some (.int .i64 (ol o).length):=by cases o<;>simp [wb,kS,ol]
theorem uy {α:Type} [Inhabited α] (f:α→List PV) (o:Option (List α)) (sz:Nat) (H:zd) (k:IntKind) (i:Int) (h0:0≤i) (h:i<(ol o).length):wW sz H (wb f o) (.int k i)=if (f (za (ol o) i)).length=sz then some (.fp (f (za (ol o) i)) 0) else none:=by
 cases o with
 |none=>simp [ol] at h;omega
 |some l=>exact zoF sz H f l k i h0 h
theorem xm {α:Type} (f:α→List PV) (o:Option (List α)) (d:Nat) (H:zd):frz (d+1) H (wb f o)=wb f o:=by cases o<;>rfl
theorem wP {α:Type} (f:α→List PV) (o:Option (List α)):refs (wb f o)=[]:=by cases o<;>simp [wb,refs]
theorem vn {α:Type} (f:α→List PV) (o:Option (List α)):zH (wb f o)=true:=by cases o<;>rfl
theorem JT {α:Type} (f:α→List PV) (o:Option (List α)):cellsOf (wb f o)=[wb f o]:=by cases o<;>rfl
abbrev iv (k:Int):List PV:=[.int .i64 k]
abbrev sv (s:ByteArray):List PV:=[.str s]
structure zG where
 Name:ByteArray
 Line:Int
 Params:Int
 Rest:Bool
 Regs:Int
 Ups:Option (List Up)
 Consts:Option (List yk)
 Ins:Option (List Ins)
 Named:Option (List xn)
 deriving Inhabited
abbrev zG.cells (p:zG):List PV:=[.str p.Name,.int .i64 p.Line,.int .i64 p.Params,.bool p.Rest,.int .i64 p.Regs,wb Up.cells p.Ups,wb yk.cells p.Consts,wb Ins.cells p.Ins,wb xn.cells p.Named]
abbrev Vz (o:Option (List zG)):List PV:=[wb zG.cells o]
def rest (left t:Int):Int:=if left<t then -1 else left-t
abbrev V4 (c:Int→Int) (i:Int) (l:Int):Int ⊕ Unit:=if l<c i then .inr () else .inl (l-c i)
def va (c:Int→Int):Nat→Int→Int
 |0,_=>0
 |m+1,i=>c i+va c m (i+1)
theorem uw {c:Int→Int} (hc:∀ i,0≤c i):∀ (m:Nat) (i:Int),0≤va c m i
 |0,_=>Int.le_refl 0
 |m+1,i=>by have:=hc i;have:=uw hc m (i+1);rw [va];omega
theorem zoZ {c:Int→Int} (hc:∀ i,0≤c i):∀ (m:Nat) (i l:Int),0≤l→v8 (V4 c) m i l=if l<va c m i then .inr () else .inl (l-va c m i)
 |0,i,l,h0=>by rw [v8,va,if_neg (by omega),Int.sub_zero]
 |m+1,i,l,h0=>by
  have h1:=hc i
  have h2:=uw hc m (i+1)
  have e:va c (m+1) i=c i+va c m (i+1):=rfl
  rw [v8,V4,e]
  by_cases h:l<c i
  ·rw [if_pos h,if_pos (by omega)]
  ·rw [if_neg h]
   dsimp only
   rw [zoZ hc m (i+1) (l-c i) (by omega)]
   by_cases h3:l-c i<va c m (i+1)
   ·rw [if_pos h3,if_pos (by omega)]
   ·rw [if_neg h3,if_neg (by omega)];congr 1;omega
theorem zhp {c:Int→Int} (hc:∀ i,0≤c i) (m:Nat) (l:Int) (h0:0≤l):(match v8 (V4 c) m 0 l with|.inl a=>a|.inr _=> -1)=rest l (va c m 0):=by
 rw [zoZ hc _ _ _ h0,rest]
 by_cases h:l<va c m 0
 ·rw [if_pos h,if_pos h]
 ·rw [if_neg h,if_neg h]
theorem ztm (o:Option (List Up)) (left:Int) (h0:0≤left) (h1:left≤1048576) (hb:(ol o).length≤9223372036854775807):EP A zfu [wb Up.cells o,.int .i64 left]=some (.int .i64 (rest left (ol o).length)):=by
 have e:(left-(ol o).length<0)=(left<(ol o).length):=by rw [eq_iff_iff];omega
 simp -implicitDefEqProofs +contextual (disch:=omega) only [zlU,zm6,zk6,yu,xm, ↓XD,XU, ↓reduceIte,sevalprocAttr]
 simp [rest,e]
theorem zrq (o:Option (List Ins)) (left:Int) (h0:0≤left) (h1:left≤1048576) (hb:(ol o).length≤9223372036854775807):EP A zd_ [wb Ins.cells o,.int .i64 left]=some (.int .i64 (rest left (ol o).length)):=by
 have e:(left-(ol o).length<0)=(left<(ol o).length):=by rw [eq_iff_iff];omega
 simp -implicitDefEqProofs +contextual (disch:=omega) only [zkU,zlc,zjT,yu,xm, ↓XD,XU, ↓reduceIte,sevalprocAttr]
 simp [rest,e]
theorem zpz (v:yk) (left:Int) (h0:0≤left) (h1:left≤1048576) (hs:v.Str.size≤9223372036854775807):EP A zck [.agg v.cells,.int .i64 left]=some (.int .i64 (rest left v.Str.size)):=by
 have e:(left-v.Str.size<0)=(left<v.Str.size):=by rw [eq_iff_iff];omega
 simp -implicitDefEqProofs +contextual (disch:=omega) only [zjt,zj8,ziy,yk.cells, ↓XD,XU, ↓reduceIte,sevalprocAttr]
 simp [rest,e]
theorem zpx (v:xn) (left:Int) (h0:0≤left) (h1:left≤1048576) (hs:v.Name.size≤9223372036854775807):EP A zci [.agg v.cells,.int .i64 left]=some (.int .i64 (rest left v.Name.size)):=by
 have e:(left-v.Name.size<0)=(left<v.Name.size):=by rw [eq_iff_iff];omega
 simp -implicitDefEqProofs +contextual (disch:=omega) only [zjs,zj7,zix,xn.cells, ↓XD,XU, ↓reduceIte,sevalprocAttr]
 simp [rest,e]
theorem zn6 (o:Option (List yk)) (hb:(ol o).length≤1048576) (hs:∀ i:Int,(za (ol o) i).Str.size≤9223372036854775807) (a0:Int) (hok0:0≤a0∧a0≤1048576):zad (fun (a:Int)=>EV A (.loop (Zf 0)) (⟨[(0,wb yk.cells o),(1,.int .i64 a0),(4,.int .i64 0),(5,.int .i64 (0))],[],[],[]⟩:St)=some (zp.exit 0,(⟨[(0,wb yk.cells o),(1,.int .i64 a),(4,.int .i64 0),(5,.int .i64 ((ol o).length))],[],[],[]⟩:St))∧0≤a∧a≤1048576) (fun (r:Unit)=>∃ st,EV A (.loop (Zf 0)) (⟨[(0,wb yk.cells o),(1,.int .i64 a0),(4,.int .i64 0),(5,.int .i64 (0))],[],[],[]⟩:St)=some (.ret,st)∧st.per.get 4=.int .i64 (-1)) (v8 (fun (i:Int) (a:Int)=>V4 (fun k=>((za (ol o) k).Str.size:Int)) i a) (((ol o).length:Int)-0).toNat (0) a0):=by
 refine YA (P:=A) (body:=(Zf 0)) (fun i (a:Int)=>(⟨[(0,wb yk.cells o),(1,.int .i64 a),(4,.int .i64 0),(5,.int .i64 i)],[],[],[]⟩:St)) (fun (i:Int) (a:Int)=>V4 (fun k=>((za (ol o) k).Str.size:Int)) i a) (fun i (a:Int)=>0≤a∧a≤1048576) (fun a=>(zp.exit 0,(⟨[(0,wb yk.cells o),(1,.int .i64 a),(4,.int .i64 0),(5,.int .i64 ((ol o).length))],[],[],[]⟩:St))) (fun (r:Unit) (st:St)=>st.per.get 4=.int .i64 (-1)) (0) ((ol o).length) ?_ ?_ (0) a0 (by omega) (by omega) hok0
 ·intro i a hi hn hok
  have h1:=zpz (za (ol o) i) a hok.1 hok.2 (hs i)
  simp only [yk.cells] at h1
  have h2:0≤((za (ol o) i).Str.size:Int):=(by first|omega|exact by (try dsimp only);omega)
  rw [V4]
  by_cases h:a<((za (ol o) i).Str.size:Int)
  ·rw [if_pos h]
   rw [rest,if_pos h] at h1
   refine ⟨_,by (simp -implicitDefEqProofs +contextual (disch:=omega) only [X4,u_,yu,uy,xm,wP,yk.cells, ↓XD,XU, ↓reduceIte,sevalprocAttr,hn,h1])<;>rfl,by simp [zk.get]⟩
  ·rw [if_neg h]
   rw [rest,if_neg h] at h1
   have e:¬a-((za (ol o) i).Str.size:Int)<0:=by omega
   refine ⟨⟨_,by (simp -implicitDefEqProofs +contextual (disch:=omega) only [X4,u_,yu,uy,xm,wP,yk.cells, ↓XD,XU, ↓reduceIte,sevalprocAttr,hn,h1,e])<;>rfl,by simp [St.next,zW]⟩,by omega⟩
 ·rintro i a hi rfl hok
  refine ⟨by simp -implicitDefEqProofs +contextual (disch:=omega) only [X4,u_, ↓XD,XU, ↓reduceIte,sevalprocAttr,yu,Int.lt_irrefl,hok],by simp⟩
def Yl (l:List yk):Int:=l.length+va (fun k=>((za l k).Str.size:Int)) l.length 0
theorem VD (l:List yk):(l.length:Int)≤Yl l:=by
 have:=uw (c:=fun k=>((za l k).Str.size:Int)) (fun k=>by (try dsimp only);omega) l.length 0
 simp only [Yl];omega
theorem znD (o:Option (List yk)) (left:Int) (h0:0≤left) (h1:left≤1048576) (hb:(ol o).length≤9223372036854775807) (hs:∀ i:Int,(za (ol o) i).Str.size≤9223372036854775807):EP A zaD [wb yk.cells o,.int .i64 left]=some (.int .i64 (rest left (Yl (ol o)))):=by
 have hc:∀ i,0≤(fun k=>((za (ol o) k).Str.size:Int)) i:=fun k=>by (try dsimp only);omega
 have hn:=uw hc (ol o).length 0
 rw [Yl]
 by_cases c1:left<(ol o).length
 ·have e:left-(ol o).length<0:=by omega
  simp -implicitDefEqProofs +contextual (disch:=omega) only [U0,Jf,u_,yu,xm, ↓XD,XU, ↓reduceIte,sevalprocAttr,e]
  simp only [rest];rw [if_pos (by omega)]
 ·have e:¬left-(ol o).length<0:=by omega
  have hl:=zn6 o (by omega) hs (left-(ol o).length) ⟨by omega,by omega⟩
  have hr:=zhp hc (ol o).length (left-(ol o).length) (by omega)
  rw [show (((ol o).length:Int)-0).toNat=(ol o).length by omega] at hl
  cases hi:v8 (V4 (fun k=>((za (ol o) k).Str.size:Int))) (ol o).length 0 (left-(ol o).length) with
  |inl a=>
   rw [hi] at hl hr
   have hl:=hl.1
   simp -implicitDefEqProofs +contextual (disch:=omega) only [U0,Jf,u_,yu,xm, ↓XD,XU, ↓reduceIte,sevalprocAttr,e,hl]
   dsimp only at hr
   rw [hr];simp only [rest];congr 2
   split<;>split<;>omega
  |inr u=>
   rw [hi] at hl hr
   obtain ⟨st,hl,g⟩:=hl
   simp -implicitDefEqProofs +contextual (disch:=omega) only [U0,Jf,u_,yu,xm, ↓XD,XU, ↓reduceIte,sevalprocAttr,e,hl,g]
   dsimp only at hr
   have:rest left ((ol o).length+va (fun k=>((za (ol o) k).Str.size:Int)) (ol o).length 0)= -1:=by rw [hr];simp only [rest];split<;>split<;>omega
   rw [this]
theorem zn4 (o:Option (List xn)) (hb:(ol o).length≤1048576) (hs:∀ i:Int,(za (ol o) i).Name.size≤9223372036854775807) (a0:Int) (hok0:0≤a0∧a0≤1048576):zad (fun (a:Int)=>EV A (.loop (Zd 0)) (⟨[(0,wb xn.cells o),(1,.int .i64 a0),(4,.int .i64 0),(5,.int .i64 (0))],[],[],[]⟩:St)=some (zp.exit 0,(⟨[(0,wb xn.cells o),(1,.int .i64 a),(4,.int .i64 0),(5,.int .i64 ((ol o).length))],[],[],[]⟩:St))∧0≤a∧a≤1048576) (fun (r:Unit)=>∃ st,EV A (.loop (Zd 0)) (⟨[(0,wb xn.cells o),(1,.int .i64 a0),(4,.int .i64 0),(5,.int .i64 (0))],[],[],[]⟩:St)=some (.ret,st)∧st.per.get 4=.int .i64 (-1)) (v8 (fun (i:Int) (a:Int)=>V4 (fun k=>((za (ol o) k).Name.size:Int)) i a) (((ol o).length:Int)-0).toNat (0) a0):=by
 refine YA (P:=A) (body:=(Zd 0)) (fun i (a:Int)=>(⟨[(0,wb xn.cells o),(1,.int .i64 a),(4,.int .i64 0),(5,.int .i64 i)],[],[],[]⟩:St)) (fun (i:Int) (a:Int)=>V4 (fun k=>((za (ol o) k).Name.size:Int)) i a) (fun i (a:Int)=>0≤a∧a≤1048576) (fun a=>(zp.exit 0,(⟨[(0,wb xn.cells o),(1,.int .i64 a),(4,.int .i64 0),(5,.int .i64 ((ol o).length))],[],[],[]⟩:St))) (fun (r:Unit) (st:St)=>st.per.get 4=.int .i64 (-1)) (0) ((ol o).length) ?_ ?_ (0) a0 (by omega) (by omega) hok0
 ·intro i a hi hn hok
  have h1:=zpx (za (ol o) i) a hok.1 hok.2 (hs i)
  simp only [xn.cells] at h1
  have h2:0≤((za (ol o) i).Name.size:Int):=(by first|omega|exact by (try dsimp only);omega)
  rw [V4]
  by_cases h:a<((za (ol o) i).Name.size:Int)
  ·rw [if_pos h]
   rw [rest,if_pos h] at h1
   refine ⟨_,by (simp -implicitDefEqProofs +contextual (disch:=omega) only [XZ,u7,yu,uy,xm,wP,xn.cells, ↓XD,XU, ↓reduceIte,sevalprocAttr,hn,h1])<;>rfl,by simp [zk.get]⟩
  ·rw [if_neg h]
   rw [rest,if_neg h] at h1
   have e:¬a-((za (ol o) i).Name.size:Int)<0:=by omega
   refine ⟨⟨_,by (simp -implicitDefEqProofs +contextual (disch:=omega) only [XZ,u7,yu,uy,xm,wP,xn.cells, ↓XD,XU, ↓reduceIte,sevalprocAttr,hn,h1,e])<;>rfl,by simp [St.next,zW]⟩,by omega⟩
 ·rintro i a hi rfl hok
  refine ⟨by simp -implicitDefEqProofs +contextual (disch:=omega) only [XZ,u7, ↓XD,XU, ↓reduceIte,sevalprocAttr,yu,Int.lt_irrefl,hok],by simp⟩
def QX (l:List xn):Int:=l.length+va (fun k=>((za l k).Name.size:Int)) l.length 0
theorem VC (l:List xn):(l.length:Int)≤QX l:=by
 have:=uw (c:=fun k=>((za l k).Name.size:Int)) (fun k=>by (try dsimp only);omega) l.length 0
 simp only [QX];omega
theorem znB (o:Option (List xn)) (left:Int) (h0:0≤left) (h1:left≤1048576) (hb:(ol o).length≤9223372036854775807) (hs:∀ i:Int,(za (ol o) i).Name.size≤9223372036854775807):EP A zaB [wb xn.cells o,.int .i64 left]=some (.int .i64 (rest left (QX (ol o)))):=by
 have hc:∀ i,0≤(fun k=>((za (ol o) k).Name.size:Int)) i:=fun k=>by (try dsimp only);omega
 have hn:=uw hc (ol o).length 0
 rw [QX]
 by_cases c1:left<(ol o).length
 ·have e:left-(ol o).length<0:=by omega
  simp -implicitDefEqProofs +contextual (disch:=omega) only [UY,Jd,u7,yu,xm, ↓XD,XU, ↓reduceIte,sevalprocAttr,e]
  simp only [rest];rw [if_pos (by omega)]
 ·have e:¬left-(ol o).length<0:=by omega
  have hl:=zn4 o (by omega) hs (left-(ol o).length) ⟨by omega,by omega⟩
  have hr:=zhp hc (ol o).length (left-(ol o).length) (by omega)
  rw [show (((ol o).length:Int)-0).toNat=(ol o).length by omega] at hl
  cases hi:v8 (V4 (fun k=>((za (ol o) k).Name.size:Int))) (ol o).length 0 (left-(ol o).length) with
  |inl a=>
   rw [hi] at hl hr
   have hl:=hl.1
   simp -implicitDefEqProofs +contextual (disch:=omega) only [UY,Jd,u7,yu,xm, ↓XD,XU, ↓reduceIte,sevalprocAttr,e,hl]
   dsimp only at hr
   rw [hr];simp only [rest];congr 2
   split<;>split<;>omega
  |inr u=>
   rw [hi] at hl hr
   obtain ⟨st,hl,g⟩:=hl
   simp -implicitDefEqProofs +contextual (disch:=omega) only [UY,Jd,u7,yu,xm, ↓XD,XU, ↓reduceIte,sevalprocAttr,e,hl,g]
   dsimp only at hr
   have:rest left ((ol o).length+va (fun k=>((za (ol o) k).Name.size:Int)) (ol o).length 0)= -1:=by rw [hr];simp only [rest];split<;>split<;>omega
   rw [this]
structure UJ (f:zG):Prop where
 s:f.Name.size≤9223372036854775807
 u:(ol f.Ups).length≤9223372036854775807
 c:(ol f.Consts).length≤9223372036854775807
 cs:∀ i:Int,(za (ol f.Consts) i).Str.size≤9223372036854775807
 i:(ol f.Ins).length≤9223372036854775807
 n:(ol f.Named).length≤9223372036854775807
 ns:∀ i:Int,(za (ol f.Named) i).Name.size≤9223372036854775807
def vI (f:zG):Int:=f.Name.size+(ol f.Ups).length+Yl (ol f.Consts)+(ol f.Ins).length+QX (ol f.Named)
theorem Wr (f:zG):0≤vI f:=by
 have:=VD (ol f.Consts);have:=VC (ol f.Named)
 simp only [vI];omega
theorem zpy (f:zG) (left:Int) (h0:0≤left) (h1:left≤1048576) (hb:UJ f):EP A zcj [.agg f.cells,.int .i64 left]=some (.int .i64 (rest left (vI f))):=by
 have n1:=VD (ol f.Consts)
 have n2:=VC (ol f.Named)
 have b1:=hb.s
 rw [vI]
 by_cases c0:left<f.Name.size
 ·have e:left-f.Name.size<0:=by omega
  simp -implicitDefEqProofs +contextual (disch:=omega) only [ki,kn,jF,zG.cells,yu,xm,wP,vn, ↓XD,XU, ↓reduceIte,sevalprocAttr,e]
  simp only [rest];rw [if_pos (by omega)]
 ·have e0:¬left-f.Name.size<0:=by omega
  have g1:=ztm f.Ups (left-f.Name.size) (by omega) (by omega) hb.u
  by_cases c1:left-f.Name.size<(ol f.Ups).length
  ·rw [rest,if_pos c1] at g1
   simp -implicitDefEqProofs +contextual (disch:=omega) only [ki,kn,jF,zG.cells,yu,xm,wP,vn, ↓XD,XU, ↓reduceIte,sevalprocAttr,e0,g1]
   simp only [rest];rw [if_pos (by omega)]
  ·rw [rest,if_neg c1] at g1
   have e1:¬left-f.Name.size-(ol f.Ups).length<0:=by omega
   have g2:=znD f.Consts (left-f.Name.size-(ol f.Ups).length) (by omega) (by omega) hb.c hb.cs
   by_cases c2:left-f.Name.size-(ol f.Ups).length<Yl (ol f.Consts)
   ·rw [rest,if_pos c2] at g2
    simp -implicitDefEqProofs +contextual (disch:=omega) only [ki,kn,jF,zG.cells,yu,xm,wP,vn, ↓XD,XU, ↓reduceIte,sevalprocAttr,e0,e1,g1,g2]
    simp only [rest];rw [if_pos (by omega)]
   ·rw [rest,if_neg c2] at g2
    have e2:¬left-f.Name.size-(ol f.Ups).length-Yl (ol f.Consts)<0:=by omega
    have g3:=zrq f.Ins (left-f.Name.size-(ol f.Ups).length-Yl (ol f.Consts)) (by omega) (by omega) hb.i
    by_cases c3:left-f.Name.size-(ol f.Ups).length-Yl (ol f.Consts)<(ol f.Ins).length
    ·rw [rest,if_pos c3] at g3
     simp -implicitDefEqProofs +contextual (disch:=omega) only [ki,kn,jF,zG.cells,yu,xm,wP,vn, ↓XD,XU, ↓reduceIte,sevalprocAttr,e0,e1,e2,g1,g2,g3]
     simp only [rest];rw [if_pos (by omega)]
    ·rw [rest,if_neg c3] at g3
     have e3:¬left-f.Name.size-(ol f.Ups).length-Yl (ol f.Consts)-(ol f.Ins).length<0:=by omega
     have g4:=znB f.Named (left-f.Name.size-(ol f.Ups).length-Yl (ol f.Consts)-(ol f.Ins).length) (by omega) (by omega) hb.n hb.ns
     by_cases c4:left-f.Name.size-(ol f.Ups).length-Yl (ol f.Consts)-(ol f.Ins).length<QX (ol f.Named)
     ·rw [rest,if_pos c4] at g4
      simp -implicitDefEqProofs +contextual (disch:=omega) only [ki,kn,jF,zG.cells,yu,xm,wP,vn, ↓XD,XU, ↓reduceIte,sevalprocAttr,e0,e1,e2,e3,g1,g2,g3,g4]
      simp only [rest];rw [if_pos (by omega)]
     ·rw [rest,if_neg c4] at g4
      have e4:¬left-f.Name.size-(ol f.Ups).length-Yl (ol f.Consts)-(ol f.Ins).length-QX (ol f.Named)<0:=by omega
      simp -implicitDefEqProofs +contextual (disch:=omega) only [ki,kn,jF,zG.cells,yu,xm,wP,vn, ↓XD,XU, ↓reduceIte,sevalprocAttr,e0,e1,e2,e3,e4,g1,g2,g3,g4]
      simp only [rest];rw [if_neg (by omega)];congr 2;omega
theorem zn5 (o:Option (List zG)) (hb:(ol o).length≤1048576) (hs:∀ i:Int,UJ (za (ol o) i)) (a0:Int) (hok0:0≤a0∧a0≤1048576):zad (fun (a:Int)=>EV A (.loop (Ze 0)) (⟨[(0,wb zG.cells o),(1,.int .i64 a0),(4,.int .i64 0),(5,.int .i64 (0))],[],[],[]⟩:St)=some (zp.exit 0,(⟨[(0,wb zG.cells o),(1,.int .i64 a),(4,.int .i64 0),(5,.int .i64 ((ol o).length))],[],[],[]⟩:St))∧0≤a∧a≤1048576) (fun (r:Unit)=>∃ st,EV A (.loop (Ze 0)) (⟨[(0,wb zG.cells o),(1,.int .i64 a0),(4,.int .i64 0),(5,.int .i64 (0))],[],[],[]⟩:St)=some (.ret,st)∧st.per.get 4=.int .i64 (-1)) (v8 (fun (i:Int) (a:Int)=>V4 (fun k=>vI (za (ol o) k)) i a) (((ol o).length:Int)-0).toNat (0) a0):=by
 refine YA (P:=A) (body:=(Ze 0)) (fun i (a:Int)=>(⟨[(0,wb zG.cells o),(1,.int .i64 a),(4,.int .i64 0),(5,.int .i64 i)],[],[],[]⟩:St)) (fun (i:Int) (a:Int)=>V4 (fun k=>vI (za (ol o) k)) i a) (fun i (a:Int)=>0≤a∧a≤1048576) (fun a=>(zp.exit 0,(⟨[(0,wb zG.cells o),(1,.int .i64 a),(4,.int .i64 0),(5,.int .i64 ((ol o).length))],[],[],[]⟩:St))) (fun (r:Unit) (st:St)=>st.per.get 4=.int .i64 (-1)) (0) ((ol o).length) ?_ ?_ (0) a0 (by omega) (by omega) hok0
 ·intro i a hi hn hok
  have h1:=zpy (za (ol o) i) a hok.1 hok.2 (hs i)
  simp only [zG.cells] at h1
  have h2:0≤vI (za (ol o) i):=(by first|omega|exact Wr _)
  rw [V4]
  by_cases h:a<vI (za (ol o) i)
  ·rw [if_pos h]
   rw [rest,if_pos h] at h1
   refine ⟨_,by (simp -implicitDefEqProofs +contextual (disch:=omega) only [X3,u9,yu,uy,xm,wP,zG.cells, ↓XD,XU, ↓reduceIte,sevalprocAttr,hn,h1])<;>rfl,by simp [zk.get]⟩
  ·rw [if_neg h]
   rw [rest,if_neg h] at h1
   have e:¬a-vI (za (ol o) i)<0:=by omega
   refine ⟨⟨_,by (simp -implicitDefEqProofs +contextual (disch:=omega) only [X3,u9,yu,uy,xm,wP,zG.cells, ↓XD,XU, ↓reduceIte,sevalprocAttr,hn,h1,e])<;>rfl,by simp [St.next,zW]⟩,by omega⟩
 ·rintro i a hi rfl hok
  refine ⟨by simp -implicitDefEqProofs +contextual (disch:=omega) only [X3,u9, ↓XD,XU, ↓reduceIte,sevalprocAttr,yu,Int.lt_irrefl,hok],by simp⟩
def ja (l:List zG):Int:=l.length+va (fun k=>vI (za l k)) l.length 0
theorem znC (o:Option (List zG)) (left:Int) (h0:0≤left) (h1:left≤1048576) (hb:(ol o).length≤9223372036854775807) (hs:∀ i:Int,UJ (za (ol o) i)):EP A zaC [wb zG.cells o,.int .i64 left]=some (.int .i64 (rest left (ja (ol o)))):=by
 have hc:∀ i,0≤(fun k=>vI (za (ol o) k)) i:=fun k=>Wr _
 have hn:=uw hc (ol o).length 0
 rw [ja]
 by_cases c1:left<(ol o).length
 ·have e:left-(ol o).length<0:=by omega
  simp -implicitDefEqProofs +contextual (disch:=omega) only [UZ,Je,u9,yu,xm, ↓XD,XU, ↓reduceIte,sevalprocAttr,e]
  simp only [rest];rw [if_pos (by omega)]
 ·have e:¬left-(ol o).length<0:=by omega
  have hl:=zn5 o (by omega) hs (left-(ol o).length) ⟨by omega,by omega⟩
  have hr:=zhp hc (ol o).length (left-(ol o).length) (by omega)
  rw [show (((ol o).length:Int)-0).toNat=(ol o).length by omega] at hl
  cases hi:v8 (V4 (fun k=>vI (za (ol o) k))) (ol o).length 0 (left-(ol o).length) with
  |inl a=>
   rw [hi] at hl hr
   have hl:=hl.1
   simp -implicitDefEqProofs +contextual (disch:=omega) only [UZ,Je,u9,yu,xm, ↓XD,XU, ↓reduceIte,sevalprocAttr,e,hl]
   dsimp only at hr
   rw [hr];simp only [rest];congr 2
   split<;>split<;>omega
  |inr u=>
   rw [hi] at hl hr
   obtain ⟨st,hl,g⟩:=hl
   simp -implicitDefEqProofs +contextual (disch:=omega) only [UZ,Je,u9,yu,xm, ↓XD,XU, ↓reduceIte,sevalprocAttr,e,hl,g]
   dsimp only at hr
   have:rest left ((ol o).length+va (fun k=>vI (za (ol o) k)) (ol o).length 0)= -1:=by rw [hr];simp only [rest];split<;>split<;>omega
   rw [this]
theorem zrp (o:Option (List zG)) (hb:(ol o).length≤9223372036854775807) (hs:∀ i:Int,UJ (za (ol o) i)):EP A zd9 [.agg (Vz o),.int .i64 1048576]=some (.int .i64 (rest 1048576 (ja (ol o)))):=by
 have g:=znC o 1048576 (by omega) (by omega) hb hs
 by_cases c:(1048576:Int)<ja (ol o)
 ·rw [rest,if_pos c] at g ⊢
  simp -implicitDefEqProofs +contextual (disch:=omega) only [zd3,zek,zcD,Vz,yu,xm,wP,vn, ↓XD,XU, ↓reduceIte,sevalprocAttr,g]
 ·rw [rest,if_neg c] at g ⊢
  have e:¬1048576-ja (ol o)<0:=by omega
  simp -implicitDefEqProofs +contextual (disch:=omega) only [zd3,zek,zcD,Vz,yu,xm,wP,vn, ↓XD,XU, ↓reduceIte,sevalprocAttr,g,e]
theorem zcA {α:Type} [Inhabited α] {l:List α} {i:Int} (h0:0≤i) (h1:i<l.length):za l i=l[i.toNat]'(by omega):=by
 have:=wc h0 h1
 rw [List.getElem?_eq_getElem (by omega)] at this
 exact (Option.some.inj this).symm
theorem zcB {α:Type} [Inhabited α] {l:List α} {i:Int} (h0:0≤i) (h1:i<l.length):za l i∈l:=by
 rw [zcA h0 h1];exact List.getElem_mem _
theorem QH {α:Type} [Inhabited α] (l:List α) (g:α→α) (z:α):iter (fun (i:Int) (a:List α)=>a.set i.toNat (g (za l i))) ((l.length:Int)-0).toNat 0 (List.replicate l.length z)=l.map g:=by
 have H:∀ (m:Nat) (i:Int) (a:List α),0≤i→i+m=l.length→a.length=l.length→(∀ k:Int,0≤k→k<i→za a k=g (za l k))→(iter (fun (i:Int) (a:List α)=>a.set i.toNat (g (za l i))) m i a).length=l.length∧∀ k:Int,0≤k→k<l.length→za (iter (fun (i:Int) (a:List α)=>a.set i.toNat (g (za l i))) m i a) k=g (za l k):=by
  intro m
  induction m with
  |zero=>intro i a h0 h1 h2 h3;exact ⟨h2,fun k k0 k1=>h3 k k0 (by omega)⟩
  |succ m ih=>
   intro i a h0 h1 h2 h3
   refine ih (i+1) _ (by omega) (by omega) (by simpa using h2) fun k k0 k1=>?_
   rw [Yi h0 (by omega) k0]
   by_cases h:i=k
   ·rw [if_pos h,h]
   ·rw [if_neg h];exact h3 k k0 (by omega)
 obtain ⟨h1,h2⟩:=H ((l.length:Int)-0).toNat 0 (List.replicate l.length z) (by omega) (by omega) (by simp) (fun k k0 k1=>by omega)
 refine zwL (by simpa using h1) fun k k0 k1=>?_
 rw [h1] at k1
 rw [h2 k k0 k1,zcA k0 k1,zcA k0 (by simpa using k1)]
 simp
theorem zoA (u:Up):EP A zgD [.agg u.cells]=some (.agg u.cells):=by
 simp -implicitDefEqProofs +contextual (disch:=omega) only [znw,zos,zmL,Up.cells, ↓XD,XU, ↓reduceIte,sevalprocAttr]
theorem zsv (l:List Up) (i:Nat) (x0:Bool) (x1:Int):(l.map Up.cells).set i [.bool x0,.int .i64 x1]=(l.set i ⟨x0,x1⟩).map Up.cells:=by rw [List.map_set]
theorem zyo (n:Nat):List.replicate n [PV.bool false,.int .i64 0]=(List.replicate n (⟨false,0⟩:Up)).map Up.cells:=by rw [List.map_replicate]
theorem zwi (xs:List Up) (d:Nat) (H:zd) (len tot s:Nat) (h1:len=xs.length) (h2:tot=xs.length):xA (d+1) H 0 len tot (some (.cells s (xs.map Up.cells)))=.fz (xs.map Up.cells):=Yz _ xs _ H len tot s (fun _ _=>rfl) h1 h2
theorem zwE (o:Option (List Up)) (hb:(ol o).length≤1048576) (a0:List Up) (hok0:a0.length=(ol o).length):EV A (.loop (Qj 0)) (⟨[(0,wb Up.cells o),(2,.nils),(3,.sl 0 0 (ol o).length (ol o).length),(4,.int .i64 (0))],[],[.cells 2 (a0.map Up.cells)],[]⟩:St)=some (zp.exit 0,(⟨[(0,wb Up.cells o),(2,.nils),(3,.sl 0 0 (ol o).length (ol o).length),(4,.int .i64 ((ol o).length))],[],[.cells 2 ((iter (fun (i:Int) (a:List Up)=>a.set i.toNat (za (ol o) i)) (((ol o).length:Int)-0).toNat (0) a0).map Up.cells)],[]⟩:St))∧(iter (fun (i:Int) (a:List Up)=>a.set i.toNat (za (ol o) i)) (((ol o).length:Int)-0).toNat (0) a0).length=(ol o).length:=by
 refine vk (fun i (a:List Up)=>(⟨[(0,wb Up.cells o),(2,.nils),(3,.sl 0 0 (ol o).length (ol o).length),(4,.int .i64 i)],[],[.cells 2 (a.map Up.cells)],[]⟩:St)) (fun (i:Int) (a:List Up)=>a.set i.toNat (za (ol o) i)) (fun i (a:List Up)=>a.length=(ol o).length) (fun a=>(zp.exit 0,(⟨[(0,wb Up.cells o),(2,.nils),(3,.sl 0 0 (ol o).length (ol o).length),(4,.int .i64 ((ol o).length))],[],[.cells 2 (a.map Up.cells)],[]⟩:St))) (0) ((ol o).length) ?_ ?_ (0) a0 (by omega) (by omega) hok0
 ·intro i a hi hn hok
  refine ⟨⟨_,by simp -implicitDefEqProofs +contextual (disch:=omega) only [zaS,KE, ↓XD,XU, ↓reduceIte,sevalprocAttr,yu,uy,Up.cells,zoA,zsv,hn,hok];rfl,by first|(simp [St.next,zW];done)|(simp [St.next,zW];omega)|(simp [St.next,trim,bare,zt,refs];done)⟩,by simp;omega⟩
 ·rintro i a hi rfl hok
  refine ⟨by simp -implicitDefEqProofs +contextual (disch:=omega) only [zaS,KE, ↓XD,XU, ↓reduceIte,sevalprocAttr,yu,uy,Up.cells,zoA,zsv,Int.lt_irrefl,hok],by simp⟩
theorem ztn (o:Option (List Up)) (hb:(ol o).length≤1048576):EP A zfw [wb Up.cells o]=some (wb Up.cells (some (ol o))):=by
 have hl:=(zwE o hb (List.replicate (ol o).length ⟨false,0⟩) (by simp)).1
 have e:=QH (ol o) id ⟨false,0⟩
 simp only [id_eq,List.map_id] at e
 rw [e] at hl
 simp -implicitDefEqProofs +contextual (disch:=omega) only [zlW,zm8,KE,yu,xm,V7,zyo,Up.cells, ↓XD,XU, ↓reduceIte,sevalprocAttr,hl]
 try rw [zwi _ _ _ _ _ _ (by simp) (by simp)]
theorem zhY (u:yk):EP A zcn [.agg u.cells]=some (.agg u.cells):=by
 simp -implicitDefEqProofs +contextual (disch:=omega) only [zjw,zj',ziB,yk.cells, ↓XD,XU, ↓reduceIte,sevalprocAttr]
theorem zoY (l:List yk) (i:Nat) (x0:Int) (x1:Int) (x2:Nat) (x3:ByteArray) (x4:Int):(l.map yk.cells).set i [.int .i64 x0,.int .i64 x1,.flt .f64 x2,.str x3,.int .i64 x4]=(l.set i ⟨x0,x1,x2,x3,x4⟩).map yk.cells:=by rw [List.map_set]
theorem zw5 (n:Nat):List.replicate n [PV.int .i64 0,.int .i64 0,.flt .f64 0,.str ⟨#[]⟩,.int .i64 0]=(List.replicate n (⟨0,0,0,⟨#[]⟩,0⟩:yk)).map yk.cells:=by rw [List.map_replicate]
theorem ztz (xs:List yk) (d:Nat) (H:zd) (len tot s:Nat) (h1:len=xs.length) (h2:tot=xs.length):xA (d+1) H 0 len tot (some (.cells s (xs.map yk.cells)))=.fz (xs.map yk.cells):=Yz _ xs _ H len tot s (fun _ _=>rfl) h1 h2
theorem zp5 (o:Option (List yk)) (hb:(ol o).length≤1048576) (a0:List yk) (hok0:a0.length=(ol o).length):EV A (.loop (UH 0)) (⟨[(0,wb yk.cells o),(2,.nils),(3,.sl 0 0 (ol o).length (ol o).length),(4,.int .i64 (0))],[],[.cells 5 (a0.map yk.cells)],[]⟩:St)=some (zp.exit 0,(⟨[(0,wb yk.cells o),(2,.nils),(3,.sl 0 0 (ol o).length (ol o).length),(4,.int .i64 ((ol o).length))],[],[.cells 5 ((iter (fun (i:Int) (a:List yk)=>a.set i.toNat (za (ol o) i)) (((ol o).length:Int)-0).toNat (0) a0).map yk.cells)],[]⟩:St))∧(iter (fun (i:Int) (a:List yk)=>a.set i.toNat (za (ol o) i)) (((ol o).length:Int)-0).toNat (0) a0).length=(ol o).length:=by
 refine vk (fun i (a:List yk)=>(⟨[(0,wb yk.cells o),(2,.nils),(3,.sl 0 0 (ol o).length (ol o).length),(4,.int .i64 i)],[],[.cells 5 (a.map yk.cells)],[]⟩:St)) (fun (i:Int) (a:List yk)=>a.set i.toNat (za (ol o) i)) (fun i (a:List yk)=>a.length=(ol o).length) (fun a=>(zp.exit 0,(⟨[(0,wb yk.cells o),(2,.nils),(3,.sl 0 0 (ol o).length (ol o).length),(4,.int .i64 ((ol o).length))],[],[.cells 5 (a.map yk.cells)],[]⟩:St))) (0) ((ol o).length) ?_ ?_ (0) a0 (by omega) (by omega) hok0
 ·intro i a hi hn hok
  refine ⟨⟨_,by simp -implicitDefEqProofs +contextual (disch:=omega) only [Kn,Ub, ↓XD,XU, ↓reduceIte,sevalprocAttr,yu,uy,yk.cells,zhY,zoY,hn,hok];rfl,by first|(simp [St.next,zW];done)|(simp [St.next,zW];omega)|(simp [St.next,trim,bare,zt,refs];done)⟩,by simp;omega⟩
 ·rintro i a hi rfl hok
  refine ⟨by simp -implicitDefEqProofs +contextual (disch:=omega) only [Kn,Ub, ↓XD,XU, ↓reduceIte,sevalprocAttr,yu,uy,yk.cells,zhY,zoY,Int.lt_irrefl,hok],by simp⟩
theorem znG (o:Option (List yk)) (hb:(ol o).length≤1048576):EP A zaG [wb yk.cells o]=some (wb yk.cells (some (ol o))):=by
 have hl:=(zp5 o hb (List.replicate (ol o).length ⟨0,0,0,⟨#[]⟩,0⟩) (by simp)).1
 have e:=QH (ol o) id ⟨0,0,0,⟨#[]⟩,0⟩
 simp only [id_eq,List.map_id] at e
 rw [e] at hl
 simp -implicitDefEqProofs +contextual (disch:=omega) only [zhQ,ziZ,Ub,yu,xm,V7,zw5,yk.cells, ↓XD,XU, ↓reduceIte,sevalprocAttr,hl]
 try rw [ztz _ _ _ _ _ _ (by simp) (by simp)]
theorem zl0 (u:Ins):EP A zfv [.agg u.cells]=some (.agg u.cells):=by
 simp -implicitDefEqProofs +contextual (disch:=omega) only [zlV,zm7,zk7,Ins.cells, ↓XD,XU, ↓reduceIte,sevalprocAttr]
theorem zoW (l:List Ins) (i:Nat) (x0:Int) (x1:Int) (x2:Int) (x3:Int) (x4:Int):(l.map Ins.cells).set i [.int .i64 x0,.int .i64 x1,.int .i64 x2,.int .i64 x3,.int .i64 x4]=(l.set i ⟨x0,x1,x2,x3,x4⟩).map Ins.cells:=by rw [List.map_set]
theorem zw2 (n:Nat):List.replicate n [PV.int .i64 0,.int .i64 0,.int .i64 0,.int .i64 0,.int .i64 0]=(List.replicate n (⟨0,0,0,0,0⟩:Ins)).map Ins.cells:=by rw [List.map_replicate]
theorem ztv (xs:List Ins) (d:Nat) (H:zd) (len tot s:Nat) (h1:len=xs.length) (h2:tot=xs.length):xA (d+1) H 0 len tot (some (.cells s (xs.map Ins.cells)))=.fz (xs.map Ins.cells):=Yz _ xs _ H len tot s (fun _ _=>rfl) h1 h2
theorem zt3 (o:Option (List Ins)) (hb:(ol o).length≤1048576) (a0:List Ins) (hok0:a0.length=(ol o).length):EV A (.loop (Kr 0)) (⟨[(0,wb Ins.cells o),(2,.nils),(3,.sl 0 0 (ol o).length (ol o).length),(4,.int .i64 (0))],[],[.cells 5 (a0.map Ins.cells)],[]⟩:St)=some (zp.exit 0,(⟨[(0,wb Ins.cells o),(2,.nils),(3,.sl 0 0 (ol o).length (ol o).length),(4,.int .i64 ((ol o).length))],[],[.cells 5 ((iter (fun (i:Int) (a:List Ins)=>a.set i.toNat (za (ol o) i)) (((ol o).length:Int)-0).toNat (0) a0).map Ins.cells)],[]⟩:St))∧(iter (fun (i:Int) (a:List Ins)=>a.set i.toNat (za (ol o) i)) (((ol o).length:Int)-0).toNat (0) a0).length=(ol o).length:=by
 refine vk (fun i (a:List Ins)=>(⟨[(0,wb Ins.cells o),(2,.nils),(3,.sl 0 0 (ol o).length (ol o).length),(4,.int .i64 i)],[],[.cells 5 (a.map Ins.cells)],[]⟩:St)) (fun (i:Int) (a:List Ins)=>a.set i.toNat (za (ol o) i)) (fun i (a:List Ins)=>a.length=(ol o).length) (fun a=>(zp.exit 0,(⟨[(0,wb Ins.cells o),(2,.nils),(3,.sl 0 0 (ol o).length (ol o).length),(4,.int .i64 ((ol o).length))],[],[.cells 5 (a.map Ins.cells)],[]⟩:St))) (0) ((ol o).length) ?_ ?_ (0) a0 (by omega) (by omega) hok0
 ·intro i a hi hn hok
  refine ⟨⟨_,by simp -implicitDefEqProofs +contextual (disch:=omega) only [Q2,JM, ↓XD,XU, ↓reduceIte,sevalprocAttr,yu,uy,Ins.cells,zl0,zoW,hn,hok];rfl,by first|(simp [St.next,zW];done)|(simp [St.next,zW];omega)|(simp [St.next,trim,bare,zt,refs];done)⟩,by simp;omega⟩
 ·rintro i a hi rfl hok
  refine ⟨by simp -implicitDefEqProofs +contextual (disch:=omega) only [Q2,JM, ↓XD,XU, ↓reduceIte,sevalprocAttr,yu,uy,Ins.cells,zl0,zoW,Int.lt_irrefl,hok],by simp⟩
theorem zrs (o:Option (List Ins)) (hb:(ol o).length≤1048576):EP A zea [wb Ins.cells o]=some (wb Ins.cells (some (ol o))):=by
 have hl:=(zt3 o hb (List.replicate (ol o).length ⟨0,0,0,0,0⟩) (by simp)).1
 have e:=QH (ol o) id ⟨0,0,0,0,0⟩
 simp only [id_eq,List.map_id] at e
 rw [e] at hl
 simp -implicitDefEqProofs +contextual (disch:=omega) only [zkW,zle,JM,yu,xm,V7,zw2,Ins.cells, ↓XD,XU, ↓reduceIte,sevalprocAttr,hl]
 try rw [ztv _ _ _ _ _ _ (by simp) (by simp)]
theorem zhX (u:xn):EP A zcl [.agg u.cells]=some (.agg u.cells):=by
 simp -implicitDefEqProofs +contextual (disch:=omega) only [zju,zj9,ziz,xn.cells, ↓XD,XU, ↓reduceIte,sevalprocAttr]
theorem zoX (l:List xn) (i:Nat) (x0:ByteArray) (x1:Int) (x2:Int) (x3:Int):(l.map xn.cells).set i [.str x0,.int .i64 x1,.int .i64 x2,.int .i64 x3]=(l.set i ⟨x0,x1,x2,x3⟩).map xn.cells:=by rw [List.map_set]
theorem zw4 (n:Nat):List.replicate n [PV.str ⟨#[]⟩,.int .i64 0,.int .i64 0,.int .i64 0]=(List.replicate n (⟨⟨#[]⟩,0,0,0⟩:xn)).map xn.cells:=by rw [List.map_replicate]
theorem ztx (xs:List xn) (d:Nat) (H:zd) (len tot s:Nat) (h1:len=xs.length) (h2:tot=xs.length):xA (d+1) H 0 len tot (some (.cells s (xs.map xn.cells)))=.fz (xs.map xn.cells):=Yz _ xs _ H len tot s (fun _ _=>rfl) h1 h2
theorem zp3 (o:Option (List xn)) (hb:(ol o).length≤1048576) (a0:List xn) (hok0:a0.length=(ol o).length):EV A (.loop (UF 0)) (⟨[(0,wb xn.cells o),(2,.nils),(3,.sl 0 0 (ol o).length (ol o).length),(4,.int .i64 (0))],[],[.cells 4 (a0.map xn.cells)],[]⟩:St)=some (zp.exit 0,(⟨[(0,wb xn.cells o),(2,.nils),(3,.sl 0 0 (ol o).length (ol o).length),(4,.int .i64 ((ol o).length))],[],[.cells 4 ((iter (fun (i:Int) (a:List xn)=>a.set i.toNat (za (ol o) i)) (((ol o).length:Int)-0).toNat (0) a0).map xn.cells)],[]⟩:St))∧(iter (fun (i:Int) (a:List xn)=>a.set i.toNat (za (ol o) i)) (((ol o).length:Int)-0).toNat (0) a0).length=(ol o).length:=by
 refine vk (fun i (a:List xn)=>(⟨[(0,wb xn.cells o),(2,.nils),(3,.sl 0 0 (ol o).length (ol o).length),(4,.int .i64 i)],[],[.cells 4 (a.map xn.cells)],[]⟩:St)) (fun (i:Int) (a:List xn)=>a.set i.toNat (za (ol o) i)) (fun i (a:List xn)=>a.length=(ol o).length) (fun a=>(zp.exit 0,(⟨[(0,wb xn.cells o),(2,.nils),(3,.sl 0 0 (ol o).length (ol o).length),(4,.int .i64 ((ol o).length))],[],[.cells 4 (a.map xn.cells)],[]⟩:St))) (0) ((ol o).length) ?_ ?_ (0) a0 (by omega) (by omega) hok0
 ·intro i a hi hn hok
  refine ⟨⟨_,by simp -implicitDefEqProofs +contextual (disch:=omega) only [Kl,V', ↓XD,XU, ↓reduceIte,sevalprocAttr,yu,uy,xn.cells,zhX,zoX,hn,hok];rfl,by first|(simp [St.next,zW];done)|(simp [St.next,zW];omega)|(simp [St.next,trim,bare,zt,refs];done)⟩,by simp;omega⟩
 ·rintro i a hi rfl hok
  refine ⟨by simp -implicitDefEqProofs +contextual (disch:=omega) only [Kl,V', ↓XD,XU, ↓reduceIte,sevalprocAttr,yu,uy,xn.cells,zhX,zoX,Int.lt_irrefl,hok],by simp⟩
theorem znE (o:Option (List xn)) (hb:(ol o).length≤1048576):EP A zaE [wb xn.cells o]=some (wb xn.cells (some (ol o))):=by
 have hl:=(zp3 o hb (List.replicate (ol o).length ⟨⟨#[]⟩,0,0,0⟩) (by simp)).1
 have e:=QH (ol o) id ⟨⟨#[]⟩,0,0,0⟩
 simp only [id_eq,List.map_id] at e
 rw [e] at hl
 simp -implicitDefEqProofs +contextual (disch:=omega) only [zhO,ziX,V',yu,xm,V7,zw4,xn.cells, ↓XD,XU, ↓reduceIte,sevalprocAttr,hl]
 try rw [ztx _ _ _ _ _ _ (by simp) (by simp)]
def zG.norm (f:zG):zG:={ f with Ups:=some (ol f.Ups),Consts:=some (ol f.Consts),Ins:=some (ol f.Ins),Named:=some (ol f.Named) }
structure Qk (f:zG):Prop where
 u:(ol f.Ups).length≤1048576
 c:(ol f.Consts).length≤1048576
 i:(ol f.Ins).length≤1048576
 n:(ol f.Named).length≤1048576
theorem zpA (f:zG) (h:Qk f):EP A zcm [.agg f.cells]=some (.agg f.norm.cells):=by
 have g1:=ztn f.Ups h.u
 have g2:=znG f.Consts h.c
 have g3:=zrs f.Ins h.i
 have g4:=znE f.Named h.n
 simp -implicitDefEqProofs +contextual (disch:=omega) only [zjv,zj_,ziA,zG.cells,xm,wP,vn,JT, ↓XD,XU, ↓reduceIte,sevalprocAttr,g1,g2,g3,g4]
 try rfl
def zF:zG:=⟨⟨#[]⟩,0,0,false,0,none,none,none,none⟩
theorem ziJ (a:List zG) (i:Nat) (s:ByteArray) (l p:Int) (b:Bool) (r:Int) (u:Option (List Up)) (c:Option (List yk)) (n:Option (List Ins)) (m:Option (List xn)):(a.map zG.cells).set i [.str s,.int .i64 l,.int .i64 p,.bool b,.int .i64 r,wb Up.cells u,wb yk.cells c,wb Ins.cells n,wb xn.cells m]=(a.set i ⟨s,l,p,b,r,u,c,n,m⟩).map zG.cells:=by rw [List.map_set]
theorem zqn (n:Nat):List.replicate n [PV.str ⟨#[]⟩,.int .i64 0,.int .i64 0,.bool false,.int .i64 0,.nils,.nils,.nils,.nils]=(List.replicate n zF).map zG.cells:=by rw [List.map_replicate];rfl
theorem znT (xs:List zG) (d:Nat) (H:zd) (len tot s:Nat) (h1:len=xs.length) (h2:tot=xs.length):xA (d+1) H 0 len tot (some (.cells s (xs.map zG.cells)))=.fz (xs.map zG.cells):=Yz _ xs _ H len tot s (fun x _=>by simp only [zG.cells,List.map_cons,List.map_nil,JG,QC,zoD,xm]) h1 h2
theorem zp4 (o:Option (List zG)) (hb:(ol o).length≤1048576) (hs:∀ i:Int,Qk (za (ol o) i)) (a0:List zG) (hok0:a0.length=(ol o).length):EV A (.loop (UG 0)) (⟨[(0,wb zG.cells o),(2,.nils),(3,.sl 0 0 (ol o).length (ol o).length),(4,.int .i64 (0))],[],[.cells 9 (a0.map zG.cells)],[]⟩:St)=some (zp.exit 0,(⟨[(0,wb zG.cells o),(2,.nils),(3,.sl 0 0 (ol o).length (ol o).length),(4,.int .i64 ((ol o).length))],[],[.cells 9 ((iter (fun (i:Int) (a:List zG)=>a.set i.toNat (za (ol o) i).norm) (((ol o).length:Int)-0).toNat (0) a0).map zG.cells)],[]⟩:St))∧(iter (fun (i:Int) (a:List zG)=>a.set i.toNat (za (ol o) i).norm) (((ol o).length:Int)-0).toNat (0) a0).length=(ol o).length:=by
 refine vk (fun i (a:List zG)=>(⟨[(0,wb zG.cells o),(2,.nils),(3,.sl 0 0 (ol o).length (ol o).length),(4,.int .i64 i)],[],[.cells 9 (a.map zG.cells)],[]⟩:St)) (fun (i:Int) (a:List zG)=>a.set i.toNat (za (ol o) i).norm) (fun i (a:List zG)=>a.length=(ol o).length) (fun a=>(zp.exit 0,(⟨[(0,wb zG.cells o),(2,.nils),(3,.sl 0 0 (ol o).length (ol o).length),(4,.int .i64 ((ol o).length))],[],[.cells 9 (a.map zG.cells)],[]⟩:St))) (0) ((ol o).length) ?_ ?_ (0) a0 (by omega) (by omega) hok0
 ·intro i a hi hn hok
  have hg:=zpA (za (ol o) i) (hs i);simp only [zG.cells,zG.norm] at hg
  refine ⟨⟨_,by simp -implicitDefEqProofs +contextual (disch:=omega) only [Km,Ua, ↓XD,XU, ↓reduceIte,sevalprocAttr,yu,uy,xm,wP,vn,zG.cells,zG.norm,ziJ,hg,hn,hok];rfl,by first|(simp [St.next,zW,zG.norm];done)|(simp [St.next,zW,zG.norm];omega)|(simp [St.next,trim,bare,zt,refs,zG.norm];done)⟩,by simp;omega⟩
 ·rintro i a hi rfl hok
  refine ⟨by simp -implicitDefEqProofs +contextual (disch:=omega) only [Km,Ua, ↓XD,XU, ↓reduceIte,sevalprocAttr,yu,uy,xm,wP,vn,zG.cells,zG.norm,ziJ,Int.lt_irrefl,hok],by simp⟩
theorem znF (o:Option (List zG)) (hb:(ol o).length≤1048576) (hs:∀ i:Int,Qk (za (ol o) i)):EP A zaF [wb zG.cells o]=some (wb zG.cells (some ((ol o).map zG.norm))):=by
 have hl:=(zp4 o hb hs (List.replicate (ol o).length zF) (by simp)).1
 have e:=QH (ol o) zG.norm zF
 rw [e] at hl
 simp -implicitDefEqProofs +contextual (disch:=omega) only [zhP,ziY,Ua,yu,xm,V7,zqn, ↓XD,XU, ↓reduceIte,sevalprocAttr,hl]
 rw [znT _ _ _ _ _ _ (by simp) (by simp)]
theorem zrr (o:Option (List zG)) (hb:(ol o).length≤1048576) (hs:∀ i:Int,Qk (za (ol o) i)):EP A zd' [.agg (Vz o)]=some (.agg (Vz (some ((ol o).map zG.norm)))):=by
 have g:=znF o hb hs
 simp -implicitDefEqProofs +contextual (disch:=omega) only [zkV,zld,zjU,Vz,xm,wP,vn,JT, ↓XD,XU, ↓reduceIte,sevalprocAttr,g]
def zG.to (f:zG):zc:=⟨f.Name,f.Line,f.Params,f.Rest,f.Regs,ol f.Ups,ol f.Consts,ol f.Ins,ol f.Named⟩
theorem zp' (f:zG):f.norm.cells=f.to.cells:=by
 simp only [zG.norm,zG.to,zG.cells,zc.cells,V7,ups,zf,zj,zm]
theorem zr7 (l:List zG):Vz (some (l.map zG.norm))=[zb (l.map zG.to)]:=by
 simp only [Vz,V7,zb,List.map_map]
 congr 2
 try exact List.map_congr_left fun f _=>zp' f
structure Xn (p:zc):Prop where
 r0:0≤p.Regs
 r1:p.Regs≤250
 u:p.Ups.length≤1048576
 c:p.Consts.length≤1048576
 i:p.Ins.length≤1048576
 n:p.Named.length≤1048576
def yU (np:Nat) (f:zc) (r x:Int):Prop:=
 if r=0 then x=0 else if r=1∨r=4∨r=5∨r=6∨r=21 then 0≤x∧x≤f.Regs-1 else if r=2∨r=3 then -f.Regs≤x∧x≤f.Regs-1
 else if r=7 then 0≤x∧x≤f.Consts.length-1 else if r=8 then 0≤x∧x≤f.Ups.length-1 else if r=9 then 0≤x∧x≤np-1 else if r=10 then 0≤x∧x≤f.Ins.length-1
 else if r=11 then 1≤x∧x≤100000 else if r=12 then 0≤x∧x≤100000 else if r=13 then 0≤x∧x≤f.Regs else if r=14 then 0≤x∧x≤f.Regs-2
 else if r=15 then 19≤x∧x≤22 else if r=16 then 1≤x∧x≤18 else if r=17 then 0≤x∧x≤250 else if r=18 then 0≤x∧x≤f.Regs-3 else 0≤x∧x≤f.Regs-2
theorem zki (ps:List zc) (p r x:Int) (p0:0≤p) (hn:p<ps.length) (hb:ps.length≤1048576) (h:Xn (za ps p)):EP A zed [code ps,.int .i64 p,.int .i64 r,.int .i64 x]=some (.bool (decide (yU ps.length (za ps p) r x))):=by
 have g1:=h.r0
 have g2:=h.r1
 have g3:=h.u
 have g4:=h.c
 have g5:=h.i
 by_cases h0:r=0
 ·subst h0;simp -implicitDefEqProofs +contextual (disch:=omega) only [y8,y9,yQ,code,zb,zc.cells,ups,zf,zj,zm,xz,yU,Int.zero_sub, ↓XD,XU, ↓reduceIte,sevalprocAttr,hn]
 by_cases h1:r=1
 ·subst h1;simp -implicitDefEqProofs +contextual (disch:=omega) only [y8,y9,yQ,code,zb,zc.cells,ups,zf,zj,zm,xz,yU,Int.zero_sub, ↓XD,XU, ↓reduceIte,sevalprocAttr,hn]
 by_cases h2:r=2
 ·subst h2;simp -implicitDefEqProofs +contextual (disch:=omega) only [y8,y9,yQ,code,zb,zc.cells,ups,zf,zj,zm,xz,yU,Int.zero_sub, ↓XD,XU, ↓reduceIte,sevalprocAttr,hn]
 by_cases h3:r=3
 ·subst h3;simp -implicitDefEqProofs +contextual (disch:=omega) only [y8,y9,yQ,code,zb,zc.cells,ups,zf,zj,zm,xz,yU,Int.zero_sub, ↓XD,XU, ↓reduceIte,sevalprocAttr,hn]
 by_cases h4:r=4
 ·subst h4;simp -implicitDefEqProofs +contextual (disch:=omega) only [y8,y9,yQ,code,zb,zc.cells,ups,zf,zj,zm,xz,yU,Int.zero_sub, ↓XD,XU, ↓reduceIte,sevalprocAttr,hn]
 by_cases h5:r=5
 ·subst h5;simp -implicitDefEqProofs +contextual (disch:=omega) only [y8,y9,yQ,code,zb,zc.cells,ups,zf,zj,zm,xz,yU,Int.zero_sub, ↓XD,XU, ↓reduceIte,sevalprocAttr,hn]
 by_cases h6:r=6
 ·subst h6;simp -implicitDefEqProofs +contextual (disch:=omega) only [y8,y9,yQ,code,zb,zc.cells,ups,zf,zj,zm,xz,yU,Int.zero_sub, ↓XD,XU, ↓reduceIte,sevalprocAttr,hn]
 by_cases h7:r=7
 ·subst h7;simp -implicitDefEqProofs +contextual (disch:=omega) only [y8,y9,yQ,code,zb,zc.cells,ups,zf,zj,zm,xz,yU,Int.zero_sub, ↓XD,XU, ↓reduceIte,sevalprocAttr,hn]
 by_cases h8:r=8
 ·subst h8;simp -implicitDefEqProofs +contextual (disch:=omega) only [y8,y9,yQ,code,zb,zc.cells,ups,zf,zj,zm,xz,yU,Int.zero_sub, ↓XD,XU, ↓reduceIte,sevalprocAttr,hn]
 by_cases h9:r=9
 ·subst h9;simp -implicitDefEqProofs +contextual (disch:=omega) only [y8,y9,yQ,code,zb,zc.cells,ups,zf,zj,zm,xz,yU,Int.zero_sub, ↓XD,XU, ↓reduceIte,sevalprocAttr,hn]
 by_cases h10:r=10
 ·subst h10;simp -implicitDefEqProofs +contextual (disch:=omega) only [y8,y9,yQ,code,zb,zc.cells,ups,zf,zj,zm,xz,yU,Int.zero_sub, ↓XD,XU, ↓reduceIte,sevalprocAttr,hn]
 by_cases h11:r=11
 ·subst h11;simp -implicitDefEqProofs +contextual (disch:=omega) only [y8,y9,yQ,code,zb,zc.cells,ups,zf,zj,zm,xz,yU,Int.zero_sub, ↓XD,XU, ↓reduceIte,sevalprocAttr,hn]
 by_cases h12:r=12
 ·subst h12;simp -implicitDefEqProofs +contextual (disch:=omega) only [y8,y9,yQ,code,zb,zc.cells,ups,zf,zj,zm,xz,yU,Int.zero_sub, ↓XD,XU, ↓reduceIte,sevalprocAttr,hn]
 by_cases h13:r=13
 ·subst h13;simp -implicitDefEqProofs +contextual (disch:=omega) only [y8,y9,yQ,code,zb,zc.cells,ups,zf,zj,zm,xz,yU,Int.zero_sub, ↓XD,XU, ↓reduceIte,sevalprocAttr,hn]
 by_cases h14:r=14
 ·subst h14;simp -implicitDefEqProofs +contextual (disch:=omega) only [y8,y9,yQ,code,zb,zc.cells,ups,zf,zj,zm,xz,yU,Int.zero_sub, ↓XD,XU, ↓reduceIte,sevalprocAttr,hn]
 by_cases h15:r=15
 ·subst h15;simp -implicitDefEqProofs +contextual (disch:=omega) only [y8,y9,yQ,code,zb,zc.cells,ups,zf,zj,zm,xz,yU,Int.zero_sub, ↓XD,XU, ↓reduceIte,sevalprocAttr,hn]
 by_cases h16:r=16
 ·subst h16;simp -implicitDefEqProofs +contextual (disch:=omega) only [y8,y9,yQ,code,zb,zc.cells,ups,zf,zj,zm,xz,yU,Int.zero_sub, ↓XD,XU, ↓reduceIte,sevalprocAttr,hn]
 by_cases h17:r=17
 ·subst h17;simp -implicitDefEqProofs +contextual (disch:=omega) only [y8,y9,yQ,code,zb,zc.cells,ups,zf,zj,zm,xz,yU,Int.zero_sub, ↓XD,XU, ↓reduceIte,sevalprocAttr,hn]
 by_cases h18:r=18
 ·subst h18;simp -implicitDefEqProofs +contextual (disch:=omega) only [y8,y9,yQ,code,zb,zc.cells,ups,zf,zj,zm,xz,yU,Int.zero_sub, ↓XD,XU, ↓reduceIte,sevalprocAttr,hn]
 by_cases h21:r=21
 ·subst h21;simp -implicitDefEqProofs +contextual (disch:=omega) only [y8,y9,yQ,code,zb,zc.cells,ups,zf,zj,zm,xz,yU,Int.zero_sub, ↓XD,XU, ↓reduceIte,sevalprocAttr,hn]
 simp -implicitDefEqProofs +contextual (disch:=omega) only [y8,y9,yQ,code,zb,zc.cells,ups,zf,zj,zm,xz,yU,Int.zero_sub, ↓XD,XU, ↓reduceIte,sevalprocAttr,hn,h0,h1,h2,h3,h4,h5,h6,h7,h8,h9,h10,h11,h12,h13,h14,h15,h16,h17,h18,h21]
def xO (np:Nat) (f:zc) (r x:Int):Prop:=
 if r=1∨r=4∨r=5∨r=6 then 0≤x∧x≤f.Regs-1 else if r=2∨r=3 then (if x<0 then 0≤ -1-x∧ -1-x≤f.Regs-1 else 0≤x∧x≤f.Regs-1)
 else if r=7 then 1≤x∧x≤100000 else if r=8 then 0≤x∧x≤100000 else if r=9 then 0≤x∧x≤f.Consts.length-1 else if r=10 then 0≤x∧x≤f.Ups.length-1
 else if r=11 then 0≤x∧x≤np-1 else if r=12 then 0≤x∧x≤f.Ins.length-1 else if r=13 then 1≤x∧x≤18 else if r=14 then 19≤x∧x≤22 else if r=15 then 0≤x∧x≤250
 else if r=16 then 0≤x∧x≤f.Regs else if r=17 then 0≤x∧x≤f.Regs-2 else if r=18 then 0≤x∧x≤f.Regs-3 else if r=19∨r=20 then 0≤x∧x≤f.Regs-2 else x=0
theorem zhV (ps:List zc) (f:zc) (r x:Int) (x0: -9223372036854775808≤x) (x1:x<9223372036854775808) (hb:ps.length≤1048576) (h:Xn f):EP A zcc [code ps,.agg f.cells,.int .i64 r,.int .i64 x]=some (.bool (decide (xO ps.length f r x))):=by
 have g1:=h.r0
 have g2:=h.r1
 have g3:=h.u
 have g4:=h.c
 have g5:=h.i
 have hn:=hb
 by_cases h1:r=1
 ·subst h1;simp -implicitDefEqProofs +contextual (disch:=omega) only [yC,yE,yw,code,zb,zc.cells,ups,zf,zj,zm,zN,xO, ↓XD,XU, ↓reduceIte,sevalprocAttr,hn]
 by_cases h2:r=2
 ·subst h2
  by_cases hx:x<0
  ·simp -implicitDefEqProofs +contextual (disch:=omega) only [yC,yE,yw,code,zb,zc.cells,ups,zf,zj,zm,zN,xO, ↓XD,XU, ↓reduceIte,sevalprocAttr,hn,hx]
  ·simp -implicitDefEqProofs +contextual (disch:=omega) only [yC,yE,yw,code,zb,zc.cells,ups,zf,zj,zm,zN,xO, ↓XD,XU, ↓reduceIte,sevalprocAttr,hn,hx]
 by_cases h3:r=3
 ·subst h3
  by_cases hx:x<0
  ·simp -implicitDefEqProofs +contextual (disch:=omega) only [yC,yE,yw,code,zb,zc.cells,ups,zf,zj,zm,zN,xO, ↓XD,XU, ↓reduceIte,sevalprocAttr,hn,hx]
  ·simp -implicitDefEqProofs +contextual (disch:=omega) only [yC,yE,yw,code,zb,zc.cells,ups,zf,zj,zm,zN,xO, ↓XD,XU, ↓reduceIte,sevalprocAttr,hn,hx]
 by_cases h4:r=4
 ·subst h4;simp -implicitDefEqProofs +contextual (disch:=omega) only [yC,yE,yw,code,zb,zc.cells,ups,zf,zj,zm,zN,xO, ↓XD,XU, ↓reduceIte,sevalprocAttr,hn]
 by_cases h5:r=5
 ·subst h5;simp -implicitDefEqProofs +contextual (disch:=omega) only [yC,yE,yw,code,zb,zc.cells,ups,zf,zj,zm,zN,xO, ↓XD,XU, ↓reduceIte,sevalprocAttr,hn]
 by_cases h6:r=6
 ·subst h6;simp -implicitDefEqProofs +contextual (disch:=omega) only [yC,yE,yw,code,zb,zc.cells,ups,zf,zj,zm,zN,xO, ↓XD,XU, ↓reduceIte,sevalprocAttr,hn]
 by_cases h7:r=7
 ·subst h7;simp -implicitDefEqProofs +contextual (disch:=omega) only [yC,yE,yw,code,zb,zc.cells,ups,zf,zj,zm,zN,xO, ↓XD,XU, ↓reduceIte,sevalprocAttr,hn]
 by_cases h8:r=8
 ·subst h8;simp -implicitDefEqProofs +contextual (disch:=omega) only [yC,yE,yw,code,zb,zc.cells,ups,zf,zj,zm,zN,xO, ↓XD,XU, ↓reduceIte,sevalprocAttr,hn]
 by_cases h9:r=9
 ·subst h9;simp -implicitDefEqProofs +contextual (disch:=omega) only [yC,yE,yw,code,zb,zc.cells,ups,zf,zj,zm,zN,xO, ↓XD,XU, ↓reduceIte,sevalprocAttr,hn]
 by_cases h10:r=10
 ·subst h10;simp -implicitDefEqProofs +contextual (disch:=omega) only [yC,yE,yw,code,zb,zc.cells,ups,zf,zj,zm,zN,xO, ↓XD,XU, ↓reduceIte,sevalprocAttr,hn]
 by_cases h11:r=11
 ·subst h11;simp -implicitDefEqProofs +contextual (disch:=omega) only [yC,yE,yw,code,zb,zc.cells,ups,zf,zj,zm,zN,xO, ↓XD,XU, ↓reduceIte,sevalprocAttr,hn]
 by_cases h12:r=12
 ·subst h12;simp -implicitDefEqProofs +contextual (disch:=omega) only [yC,yE,yw,code,zb,zc.cells,ups,zf,zj,zm,zN,xO, ↓XD,XU, ↓reduceIte,sevalprocAttr,hn]
 by_cases h13:r=13
 ·subst h13;simp -implicitDefEqProofs +contextual (disch:=omega) only [yC,yE,yw,code,zb,zc.cells,ups,zf,zj,zm,zN,xO, ↓XD,XU, ↓reduceIte,sevalprocAttr,hn]
 by_cases h14:r=14
 ·subst h14;simp -implicitDefEqProofs +contextual (disch:=omega) only [yC,yE,yw,code,zb,zc.cells,ups,zf,zj,zm,zN,xO, ↓XD,XU, ↓reduceIte,sevalprocAttr,hn]
 by_cases h15:r=15
 ·subst h15;simp -implicitDefEqProofs +contextual (disch:=omega) only [yC,yE,yw,code,zb,zc.cells,ups,zf,zj,zm,zN,xO, ↓XD,XU, ↓reduceIte,sevalprocAttr,hn]
 by_cases h16:r=16
 ·subst h16;simp -implicitDefEqProofs +contextual (disch:=omega) only [yC,yE,yw,code,zb,zc.cells,ups,zf,zj,zm,zN,xO, ↓XD,XU, ↓reduceIte,sevalprocAttr,hn]
 by_cases h17:r=17
 ·subst h17;simp -implicitDefEqProofs +contextual (disch:=omega) only [yC,yE,yw,code,zb,zc.cells,ups,zf,zj,zm,zN,xO, ↓XD,XU, ↓reduceIte,sevalprocAttr,hn]
 by_cases h18:r=18
 ·subst h18;simp -implicitDefEqProofs +contextual (disch:=omega) only [yC,yE,yw,code,zb,zc.cells,ups,zf,zj,zm,zN,xO, ↓XD,XU, ↓reduceIte,sevalprocAttr,hn]
 by_cases h19:r=19
 ·subst h19;simp -implicitDefEqProofs +contextual (disch:=omega) only [yC,yE,yw,code,zb,zc.cells,ups,zf,zj,zm,zN,xO, ↓XD,XU, ↓reduceIte,sevalprocAttr,hn]
 by_cases h20:r=20
 ·subst h20;simp -implicitDefEqProofs +contextual (disch:=omega) only [yC,yE,yw,code,zb,zc.cells,ups,zf,zj,zm,zN,xO, ↓XD,XU, ↓reduceIte,sevalprocAttr,hn]
 simp -implicitDefEqProofs +contextual (disch:=omega) only [yC,yE,yw,code,zb,zc.cells,ups,zf,zj,zm,zN,xO, ↓XD,XU, ↓reduceIte,sevalprocAttr,hn,h1,h2,h3,h4,h5,h6,h7,h8,h9,h10,h11,h12,h13,h14,h15,h16,h17,h18,h19,h20]
def zjk (x:Option (List Int)):Prop:=∀ l,x=some l→l.length=4
theorem zmn {c:Prop} [Decidable c] {x y:Option (List Int)} (h1:zjk x) (h2:zjk y):zjk (if c then x else y):=by
 by_cases h:c
 ·rw [if_pos h];exact h1
 ·rw [if_neg h];exact h2
theorem zkr (a b c d:Int):zjk (some [a,b,c,d]):=fun l h=>by cases h;rfl
theorem zoi (o:Int):zjk (zh o):=by
 unfold zh
 iterate 35 refine zmn (zkr _ _ _ _) ?_
 exact fun l h=>by cases h
theorem zdO {o:Int} {l:List Int} (h:zh o=some l):l.length=4:=zoi o l h
theorem zt2 (ps:List zc) (p i0:Int) (nd:Ins) (rl fl:List Int) (p0:0≤p) (p1:p<ps.length) (hb:ps.length≤1048576) (h:Xn (za ps p)) (hr:rl.length=4) (hf:fl.length=4):match z8 (fun (j:Int)=>¬yU ps.length (za ps p) (za rl j) (za fl j)) 0 4 with|some j=>∃ st,EV A (.loop (X9 0)) (⟨[(0,code ps),(1,.int .i64 p),(2,.int .i64 i0),(3,.ptr 0 0 0 1),(6,.bool false),(7,.ptr 1 0 0 1),(8,yq rl),(28,yq fl),(29,.int .i64 4),(30,.int .i64 (0))],[],[.cells 1 [[zb ps]],.cells 5 [nd.cells]],[]⟩:St)=some (.ret,st)∧st.per.get 6=.bool false|none=>EV A (.loop (X9 0)) (⟨[(0,code ps),(1,.int .i64 p),(2,.int .i64 i0),(3,.ptr 0 0 0 1),(6,.bool false),(7,.ptr 1 0 0 1),(8,yq rl),(28,yq fl),(29,.int .i64 4),(30,.int .i64 (0))],[],[.cells 1 [[zb ps]],.cells 5 [nd.cells]],[]⟩:St)=some (zp.exit 0,(⟨[(0,code ps),(1,.int .i64 p),(2,.int .i64 i0),(3,.ptr 0 0 0 1),(6,.bool false),(7,.ptr 1 0 0 1),(8,yq rl),(28,yq fl),(29,.int .i64 4),(30,.int .i64 (4))],[],[.cells 1 [[zb ps]],.cells 5 [nd.cells]],[]⟩:St)):=by
 refine yt (fun i=>(⟨[(0,code ps),(1,.int .i64 p),(2,.int .i64 i0),(3,.ptr 0 0 0 1),(6,.bool false),(7,.ptr 1 0 0 1),(8,yq rl),(28,yq fl),(29,.int .i64 4),(30,.int .i64 i)],[],[.cells 1 [[zb ps]],.cells 5 [nd.cells]],[]⟩:St)) (fun (j:Int)=>¬yU ps.length (za ps p) (za rl j) (za fl j)) (fun (j:Int) (st:St)=>st.per.get 6=.bool false) (zp.exit 0,(⟨[(0,code ps),(1,.int .i64 p),(2,.int .i64 i0),(3,.ptr 0 0 0 1),(6,.bool false),(7,.ptr 1 0 0 1),(8,yq rl),(28,yq fl),(29,.int .i64 4),(30,.int .i64 (4))],[],[.cells 1 [[zb ps]],.cells 5 [nd.cells]],[]⟩:St)) (0) (4) ?_ ?_ ?_ (0) (by omega) (by omega)
 ·intro i hi hn hp
  try simp only [Classical.not_not] at hp
  have h39:=zki ps p (za rl i) (za fl i) p0 p1 hb h;simp only [code,zb] at h39
  refine ⟨_,by simp -implicitDefEqProofs +contextual (disch:=omega) only [W6,uu, ↓XD,XU, ↓reduceIte,sevalprocAttr,code,zb,Ins.cells,hr,hf,h39,hn,hp];rfl,by first|(simp [St.next,zW];done)|(simp [St.next,zW];omega)|(simp [St.next,trim,bare,zt,refs];done)⟩
 ·intro i hi hn hp
  have h39:=zki ps p (za rl i) (za fl i) p0 p1 hb h;simp only [code,zb] at h39
  refine ⟨_,by simp -implicitDefEqProofs +contextual (disch:=omega) only [W6,uu, ↓XD,XU, ↓reduceIte,sevalprocAttr,code,zb,Ins.cells,hr,hf,h39,hn,hp];rfl,by simp [zk.get,zk.put]⟩
 ·rintro i hi rfl
  refine ⟨by simp -implicitDefEqProofs +contextual (disch:=omega) only [W6,uu, ↓XD,XU, ↓reduceIte,sevalprocAttr,code,zb,Ins.cells,hr,hf,Int.lt_irrefl],by simp⟩
def jg (ps:List zc) (p i:Int):Prop:=
 match zh (za (za ps p).Ins i).Op with
 |none=>False
 |some rl=>z8 (fun j=>¬yU ps.length (za ps p) (za rl j) (za [(za (za ps p).Ins i).A,(za (za ps p).Ins i).B,(za (za ps p).Ins i).C,(za (za ps p).Ins i).D] j)) 0 4=none∧(¬i=((za ps p).Ins.length:Int)-1∨(za (za ps p).Ins i).Op=19∨(za (za ps p).Ins i).Op=29∨(za (za ps p).Ins i).Op=30)
theorem zh0 (ps:List zc) (p i:Int) (p0:0≤p) (p1:p<ps.length) (hb:ps.length≤1048576) (h:Xn (za ps p)) (i0:0≤i) (i1:i<(za ps p).Ins.length):EP A zcs [code ps,.int .i64 p,.int .i64 i]=some (.bool (decide (jg ps p i))):=by
 have hi:=h.i
 have hR:=zdt (za (za ps p).Ins i).Op
 have hF:=zgp (za (za ps p).Ins i)
 simp only [Ins.cells] at hF
 rw [jg]
 cases hs:zh (za (za ps p).Ins i).Op with
 |none=>
  rw [hs] at hR
  simp only [yx] at hR
  simp -implicitDefEqProofs +contextual (disch:=omega) only [Wg,Wt,uu,code,zb,zc.cells,zj,Ins.cells,ups,zf,zm, ↓XD,XU, ↓reduceIte,sevalprocAttr,hR]
 |some rl=>
  rw [hs] at hR
  simp only [yx] at hR
  have hl:=zdO hs
  have hlp:=zt2 ps p i (za (za ps p).Ins i) rl [(za (za ps p).Ins i).A,(za (za ps p).Ins i).B,(za (za ps p).Ins i).C,(za (za ps p).Ins i).D] p0 p1 hb h hl rfl
  dsimp only
  by_cases hk:z8 (fun j=>¬yU ps.length (za ps p) (za rl j) (za [(za (za ps p).Ins i).A,(za (za ps p).Ins i).B,(za (za ps p).Ins i).C,(za (za ps p).Ins i).D] j)) 0 4=none
  ·simp only [hk,true_and]
   rw [hk] at hlp
   simp only [code,zb,yq,List.map_cons,List.map_nil,Ins.cells] at hlp hF
   by_cases hlast:i=((za ps p).Ins.length:Int)-1
   ·subst hlast
    simp -implicitDefEqProofs +contextual (disch:=omega) only [Wg,Wt,uu,code,zb,zc.cells,zj,Ins.cells,ups,zf,zm,yq, ↓XD,XU, ↓reduceIte,sevalprocAttr,hR,hF,hl,hlp]
    simp [Bool.or_assoc]
   ·simp -implicitDefEqProofs +contextual (disch:=omega) only [Wg,Wt,uu,code,zb,zc.cells,zj,Ins.cells,ups,zf,zm,yq, ↓XD,XU, ↓reduceIte,sevalprocAttr,hR,hF,hl,hlp,hlast]
  ·simp only [hk,false_and]
   obtain ⟨j,hj⟩:=Option.ne_none_iff_exists'.1 hk
   rw [hj] at hlp
   obtain ⟨st,hlp,hg⟩:=hlp
   simp only [code,zb,yq,List.map_cons,List.map_nil,Ins.cells] at hlp hF
   simp -implicitDefEqProofs +contextual (disch:=omega) only [Wg,Wt,uu,code,zb,zc.cells,zj,Ins.cells,ups,zf,zm,yq, ↓XD,XU, ↓reduceIte,sevalprocAttr,hR,hF,hl,hlp,hg]
def yF:List (Int×List Int)→Int→Option (List Int)
 |[],_=>none
 |e::l,o=>if o=e.1 then some e.2 else yF l o
abbrev zL (r:List Int):PV:=.agg (r.map fun x=>.int .i64 x)
theorem JU (o:Int):∀ l:List (Int×List Int),findKey 0 (.int .i64 o) (l.map fun e=>(.int .i64 e.1,zL e.2))=some ((yF l o).map zL)
 |[]=>rfl
 |e::l=>by
  rw [List.map_cons,findKey]
  have h:jl 0 (.int .i64 o) (.int .i64 e.1)=some (o==e.1):=by simp [jl]
  simp only [h,yF]
  by_cases he:o=e.1
  ·simp [he]
  ·have:(o==e.1)=false:=by simpa using he
   simp only [this,if_neg he]
   exact JU o l
noncomputable def ze (o:Int):Option (List Int):=yF yJ o
theorem jC:A.glob 1=some [.fm (yJ.map fun e=>(.int .i64 e.1,zL e.2))]:=rfl
theorem zn3 (z:PV) (H:zd) (o:Int):zav 0 z true H (.fm (yJ.map fun e=>(.int .i64 e.1,zL e.2))) (.int .i64 o)=some (match ze o with|some r=>.tup [zL r,.bool true]|none=>.tup [z,.bool false]):=by
 simp only [zav,Yu,JU]
 rw [←ze]
 cases ze o<;>rfl
theorem zh' (o:Int):zjk (ze o):=by
 unfold ze yJ
 simp only [yF]
 iterate 42 refine zmn (zkr _ _ _ _) ?_
 exact fun l h=>by cases h
theorem ztW (ps:List zc) (f:zc) (nd:Ins) (r0 r1 r2 r3 x0 x1 x2 x3:Int) (hx:∀ j:Int, -9223372036854775808≤za [x0,x1,x2,x3] j∧za [x0,x1,x2,x3] j<9223372036854775808) (hb:ps.length≤1048576) (h:Xn f):match z8 (fun (j:Int)=>¬xO ps.length f (za [r0,r1,r2,r3] j) (za [x0,x1,x2,x3] j)) 0 4 with|some j=>∃ st,EV A (.loop (UB 0)) (⟨[(0,code ps),(1,.agg f.cells),(2,.agg nd.cells),(3,.ptr 0 0 0 1),(4,.ptr 1 0 0 1),(5,.ptr 2 0 0 1),(6,.bool false),(7,.ptr 3 0 0 1),(8,.bool true),(21,zL [x0,x1,x2,x3]),(22,.int .i64 (0))],[],[.cells 1 [[zb ps]],.cells 9 [f.cells],.cells 5 [nd.cells],.cells 4 [[.int .i64 r0,.int .i64 r1,.int .i64 r2,.int .i64 r3]]],[]⟩:St)=some (.ret,st)∧st.per.get 6=.bool false|none=>EV A (.loop (UB 0)) (⟨[(0,code ps),(1,.agg f.cells),(2,.agg nd.cells),(3,.ptr 0 0 0 1),(4,.ptr 1 0 0 1),(5,.ptr 2 0 0 1),(6,.bool false),(7,.ptr 3 0 0 1),(8,.bool true),(21,zL [x0,x1,x2,x3]),(22,.int .i64 (0))],[],[.cells 1 [[zb ps]],.cells 9 [f.cells],.cells 5 [nd.cells],.cells 4 [[.int .i64 r0,.int .i64 r1,.int .i64 r2,.int .i64 r3]]],[]⟩:St)=some (zp.exit 0,(⟨[(0,code ps),(1,.agg f.cells),(2,.agg nd.cells),(3,.ptr 0 0 0 1),(4,.ptr 1 0 0 1),(5,.ptr 2 0 0 1),(6,.bool false),(7,.ptr 3 0 0 1),(8,.bool true),(21,zL [x0,x1,x2,x3]),(22,.int .i64 (4))],[],[.cells 1 [[zb ps]],.cells 9 [f.cells],.cells 5 [nd.cells],.cells 4 [[.int .i64 r0,.int .i64 r1,.int .i64 r2,.int .i64 r3]]],[]⟩:St)):=by
 refine yt (fun i=>(⟨[(0,code ps),(1,.agg f.cells),(2,.agg nd.cells),(3,.ptr 0 0 0 1),(4,.ptr 1 0 0 1),(5,.ptr 2 0 0 1),(6,.bool false),(7,.ptr 3 0 0 1),(8,.bool true),(21,zL [x0,x1,x2,x3]),(22,.int .i64 i)],[],[.cells 1 [[zb ps]],.cells 9 [f.cells],.cells 5 [nd.cells],.cells 4 [[.int .i64 r0,.int .i64 r1,.int .i64 r2,.int .i64 r3]]],[]⟩:St)) (fun (j:Int)=>¬xO ps.length f (za [r0,r1,r2,r3] j) (za [x0,x1,x2,x3] j)) (fun (j:Int) (st:St)=>st.per.get 6=.bool false) (zp.exit 0,(⟨[(0,code ps),(1,.agg f.cells),(2,.agg nd.cells),(3,.ptr 0 0 0 1),(4,.ptr 1 0 0 1),(5,.ptr 2 0 0 1),(6,.bool false),(7,.ptr 3 0 0 1),(8,.bool true),(21,zL [x0,x1,x2,x3]),(22,.int .i64 (4))],[],[.cells 1 [[zb ps]],.cells 9 [f.cells],.cells 5 [nd.cells],.cells 4 [[.int .i64 r0,.int .i64 r1,.int .i64 r2,.int .i64 r3]]],[]⟩:St)) (0) (4) ?_ ?_ ?_ (0) (by omega) (by omega)
 ·intro i hi hn hp
  have h30:=zhV ps f (za [r0,r1,r2,r3] i) (za [x0,x1,x2,x3] i) (hx i).1 (hx i).2 hb h;simp only [code,zb,zc.cells,ups,zf,zj,zm] at h30
  simp only [Classical.not_not] at hp
  have hi4:i=0∨i=1∨i=2∨i=3:=by omega
  rcases hi4 with rfl|rfl|rfl|rfl
  all_goals
   simp only [show za [r0,r1,r2,r3] 0=r0 from rfl,show za [r0,r1,r2,r3] 1=r1 from rfl,show za [r0,r1,r2,r3] 2=r2 from rfl,show za [r0,r1,r2,r3] 3=r3 from rfl,show za [x0,x1,x2,x3] 0=x0 from rfl,show za [x0,x1,x2,x3] 1=x1 from rfl,show za [x0,x1,x2,x3] 2=x2 from rfl,show za [x0,x1,x2,x3] 3=x3 from rfl] at h30 hp
   refine ⟨_,by (simp -implicitDefEqProofs +contextual (disch:=omega) only [Jh,Za,code,zb,zc.cells,ups,zf,zj,zm,Ins.cells,zL,List.map_cons,List.map_nil,xb,List.head?_cons, ↓XD,XU, ↓reduceIte,sevalprocAttr,h30,hp])<;>rfl,by simp [St.next,zW]⟩
 ·intro i hi hn hp
  have h30:=zhV ps f (za [r0,r1,r2,r3] i) (za [x0,x1,x2,x3] i) (hx i).1 (hx i).2 hb h;simp only [code,zb,zc.cells,ups,zf,zj,zm] at h30
  have hi4:i=0∨i=1∨i=2∨i=3:=by omega
  rcases hi4 with rfl|rfl|rfl|rfl
  all_goals
   simp only [show za [r0,r1,r2,r3] 0=r0 from rfl,show za [r0,r1,r2,r3] 1=r1 from rfl,show za [r0,r1,r2,r3] 2=r2 from rfl,show za [r0,r1,r2,r3] 3=r3 from rfl,show za [x0,x1,x2,x3] 0=x0 from rfl,show za [x0,x1,x2,x3] 1=x1 from rfl,show za [x0,x1,x2,x3] 2=x2 from rfl,show za [x0,x1,x2,x3] 3=x3 from rfl] at h30 hp
   refine ⟨_,by (simp -implicitDefEqProofs +contextual (disch:=omega) only [Jh,Za,code,zb,zc.cells,ups,zf,zj,zm,Ins.cells,zL,List.map_cons,List.map_nil,xb,List.head?_cons, ↓XD,XU, ↓reduceIte,sevalprocAttr,h30,hp])<;>rfl,by simp [zk.get,zk.put]⟩
 ·rintro i hi rfl
  refine ⟨by simp -implicitDefEqProofs +contextual (disch:=omega) only [Jh,Za, ↓XD,XU, ↓reduceIte,sevalprocAttr,code,zb,Ins.cells,Int.lt_irrefl],by simp⟩
def zjj (ps:List zc) (f:zc) (nd:Ins):Prop:=
 match ze nd.Op with
 |none=>False
 |some rl=>z8 (fun j=>¬xO ps.length f (za rl j) (za [nd.A,nd.B,nd.C,nd.D] j)) 0 4=none
theorem zAY {l:List Int} (h:l.length=4):∃ a b c d,l=[a,b,c,d]:=by
 match l,h with
 |[a,b,c,d],_=>exact ⟨a,b,c,d,rfl⟩
theorem zlY (ps:List zc) (f:zc) (nd:Ins) (hx:∀ j:Int, -9223372036854775808≤za [nd.A,nd.B,nd.C,nd.D] j∧za [nd.A,nd.B,nd.C,nd.D] j<9223372036854775808) (hb:ps.length≤1048576) (h:Xn f):EP A zfq [code ps,.agg f.cells,.agg nd.cells]=some (.bool (decide (zjj ps f nd))):=by
 have hF:=vT nd
 have hL:=fun z H=>zn3 z H nd.Op
 simp only [Ins.cells] at hF
 rw [zjj]
 cases hs:ze nd.Op with
 |none=>
  simp only [hs] at hL
  simp -implicitDefEqProofs +contextual (disch:=omega) only [Qu,QZ,Za,jC,code,zb,zc.cells,zj,Ins.cells,ups,zf,zm, ↓XD,XU, ↓reduceIte,sevalprocAttr,hL]
 |some rl=>
  obtain ⟨r0,r1,r2,r3,rfl⟩:=zAY (zh' _ _ hs)
  simp only [hs] at hL
  have hlp:=ztW ps f nd r0 r1 r2 r3 nd.A nd.B nd.C nd.D hx hb h
  dsimp only
  by_cases hk:z8 (fun j=>¬xO ps.length f (za [r0,r1,r2,r3] j) (za [nd.A,nd.B,nd.C,nd.D] j)) 0 4=none
  ·simp only [hk]
   rw [hk] at hlp
   simp only [code,zb,zc.cells,ups,zf,zj,zm,Ins.cells,zL,List.map_cons,List.map_nil] at hlp hL
   simp -implicitDefEqProofs +contextual (disch:=omega) only [Qu,QZ,Za,jC,code,zb,zc.cells,zj,Ins.cells,ups,zf,zm,zL,List.map_cons,List.map_nil, ↓XD,XU, ↓reduceIte,sevalprocAttr,hL,hF,hlp]
  ·simp only [hk]
   obtain ⟨j,hj⟩:=Option.ne_none_iff_exists'.1 hk
   rw [hj] at hlp
   obtain ⟨st,hlp,hg⟩:=hlp
   simp only [code,zb,zc.cells,ups,zf,zj,zm,Ins.cells,zL,List.map_cons,List.map_nil] at hlp hL
   simp -implicitDefEqProofs +contextual (disch:=omega) only [Qu,QZ,Za,jC,code,zb,zc.cells,zj,Ins.cells,ups,zf,zm,zL,List.map_cons,List.map_nil, ↓XD,XU, ↓reduceIte,sevalprocAttr,hL,hF,hlp,hg]
end Go.Proofs.Tryd.Av
end
section
set_option maxRecDepth 10000
set_option maxHeartbeats 4000000
namespace Go.Proofs.Tryd.Av
open Go Go.Av Classical
def jf (np:Nat) (f:zc) (s i:Int):Prop:=∀ x,yU np f s x↔xO np f i x
theorem zz6 (np:Nat) (f:zc) (h:Xn f):jf np f 0 0∧jf np f 1 1∧jf np f 2 2∧jf np f 3 3∧jf np f 4 4∧jf np f 5 5∧jf np f 6 6∧jf np f 7 9∧jf np f 8 10∧jf np f 9 11∧jf np f 10 12∧jf np f 11 7∧jf np f 12 8∧jf np f 13 16∧jf np f 14 17∧jf np f 15 14∧jf np f 16 13∧jf np f 17 15∧jf np f 18 18∧jf np f 19 19∧jf np f 20 20∧jf np f 21 1:=by
 have g1:=h.r0
 refine ⟨?_,?_,?_,?_,?_,?_,?_,?_,?_,?_,?_,?_,?_,?_,?_,?_,?_,?_,?_,?_,?_,?_⟩
 all_goals
  intro x
  simp [yU,xO]
  try (split<;>omega)
theorem zqs (np:Nat) (f:zc) (h:Xn f) (o:Int):(zh o=none∧ze o=none)∨∃ s0 s1 s2 s3 i0 i1 i2 i3,zh o=some [s0,s1,s2,s3]∧ze o=some [i0,i1,i2,i3]∧jf np f s0 i0∧jf np f s1 i1∧jf np f s2 i2∧jf np f s3 i3:=by
 obtain ⟨p0,p1,p2,p3,p4,p5,p6,p7,p8,p9,p10,p11,p12,p13,p14,p15,p16,p17,p18,p19,p20,p21⟩:=zz6 np f h
 by_cases h1:o=1
 ·subst h1;exact .inr ⟨11,0,0,0,7,0,0,0,by simp [zh],by simp [ze,yJ,yF],p11,p0,p0,p0⟩
 by_cases h2:o=2
 ·subst h2;exact .inr ⟨12,0,0,0,8,0,0,0,by simp [zh],by simp [ze,yJ,yF],p12,p0,p0,p0⟩
 by_cases h3:o=3
 ·subst h3;exact .inr ⟨0,0,0,0,0,0,0,0,by simp [zh],by simp [ze,yJ,yF],p0,p0,p0,p0⟩
 by_cases h4:o=4
 ·subst h4;exact .inr ⟨1,7,0,0,1,9,0,0,by simp [zh],by simp [ze,yJ,yF],p1,p7,p0,p0⟩
 by_cases h5:o=5
 ·subst h5;exact .inr ⟨1,2,0,0,1,2,0,0,by simp [zh],by simp [ze,yJ,yF],p1,p2,p0,p0⟩
 by_cases h6:o=6
 ·subst h6;exact .inr ⟨1,2,0,0,1,2,0,0,by simp [zh],by simp [ze,yJ,yF],p1,p2,p0,p0⟩
 by_cases h7:o=7
 ·subst h7;exact .inr ⟨1,5,0,0,1,5,0,0,by simp [zh],by simp [ze,yJ,yF],p1,p5,p0,p0⟩
 by_cases h8:o=8
 ·subst h8;exact .inr ⟨5,2,0,0,5,2,0,0,by simp [zh],by simp [ze,yJ,yF],p5,p2,p0,p0⟩
 by_cases h9:o=9
 ·subst h9;exact .inr ⟨1,8,0,0,1,10,0,0,by simp [zh],by simp [ze,yJ,yF],p1,p8,p0,p0⟩
 by_cases h10:o=10
 ·subst h10;exact .inr ⟨8,2,0,0,10,2,0,0,by simp [zh],by simp [ze,yJ,yF],p8,p2,p0,p0⟩
 by_cases h11:o=11
 ·subst h11;exact .inr ⟨1,9,0,0,1,11,0,0,by simp [zh],by simp [ze,yJ,yF],p1,p9,p0,p0⟩
 by_cases h12:o=12
 ·subst h12;exact .inr ⟨1,0,0,0,1,0,0,0,by simp [zh],by simp [ze,yJ,yF],p1,p0,p0,p0⟩
 by_cases h13:o=13
 ·subst h13;exact .inr ⟨4,2,2,0,4,2,2,0,by simp [zh],by simp [ze,yJ,yF],p4,p2,p2,p0⟩
 by_cases h14:o=14
 ·subst h14;exact .inr ⟨4,2,3,0,4,2,3,0,by simp [zh],by simp [ze,yJ,yF],p4,p2,p3,p0⟩
 by_cases h15:o=15
 ·subst h15;exact .inr ⟨1,2,2,0,1,2,2,0,by simp [zh],by simp [ze,yJ,yF],p1,p2,p2,p0⟩
 by_cases h16:o=16
 ·subst h16;exact .inr ⟨2,2,2,0,2,2,2,0,by simp [zh],by simp [ze,yJ,yF],p2,p2,p2,p0⟩
 by_cases h17:o=17
 ·subst h17;exact .inr ⟨1,15,2,0,1,14,2,0,by simp [zh],by simp [ze,yJ,yF],p1,p15,p2,p0⟩
 by_cases h18:o=18
 ·subst h18;exact .inr ⟨1,16,2,2,1,13,2,2,by simp [zh],by simp [ze,yJ,yF],p1,p16,p2,p2⟩
 by_cases h19:o=19
 ·subst h19;exact .inr ⟨10,0,0,0,12,0,0,0,by simp [zh],by simp [ze,yJ,yF],p10,p0,p0,p0⟩
 by_cases h20:o=20
 ·subst h20;exact .inr ⟨2,10,0,0,2,12,0,0,by simp [zh],by simp [ze,yJ,yF],p2,p10,p0,p0⟩
 by_cases h21:o=21
 ·subst h21;exact .inr ⟨2,10,0,0,2,12,0,0,by simp [zh],by simp [ze,yJ,yF],p2,p10,p0,p0⟩
 by_cases h22:o=22
 ·subst h22;exact .inr ⟨1,0,0,0,1,0,0,0,by simp [zh],by simp [ze,yJ,yF],p1,p0,p0,p0⟩
 by_cases h23:o=23
 ·subst h23;exact .inr ⟨6,2,0,0,6,2,0,0,by simp [zh],by simp [ze,yJ,yF],p6,p2,p0,p0⟩
 by_cases h24:o=24
 ·subst h24;exact .inr ⟨6,3,0,0,6,3,0,0,by simp [zh],by simp [ze,yJ,yF],p6,p3,p0,p0⟩
 by_cases h25:o=25
 ·subst h25;exact .inr ⟨1,3,0,0,1,3,0,0,by simp [zh],by simp [ze,yJ,yF],p1,p3,p0,p0⟩
 by_cases h26:o=26
 ·subst h26;exact .inr ⟨1,6,17,0,1,6,15,0,by simp [zh],by simp [ze,yJ,yF],p1,p6,p17,p0⟩
 by_cases h27:o=27
 ·subst h27;exact .inr ⟨1,6,0,0,1,6,0,0,by simp [zh],by simp [ze,yJ,yF],p1,p6,p0,p0⟩
 by_cases h28:o=28
 ·subst h28;exact .inr ⟨1,2,3,0,1,2,3,0,by simp [zh],by simp [ze,yJ,yF],p1,p2,p3,p0⟩
 by_cases h29:o=29
 ·subst h29;exact .inr ⟨3,0,0,0,3,0,0,0,by simp [zh],by simp [ze,yJ,yF],p3,p0,p0,p0⟩
 by_cases h30:o=30
 ·subst h30;exact .inr ⟨2,0,0,0,2,0,0,0,by simp [zh],by simp [ze,yJ,yF],p2,p0,p0,p0⟩
 by_cases h31:o=31
 ·subst h31;exact .inr ⟨10,14,0,0,12,17,0,0,by simp [zh],by simp [ze,yJ,yF],p10,p14,p0,p0⟩
 by_cases h32:o=32
 ·subst h32;exact .inr ⟨0,0,0,0,0,0,0,0,by simp [zh],by simp [ze,yJ,yF],p0,p0,p0,p0⟩
 by_cases h33:o=33
 ·subst h33;exact .inr ⟨13,0,0,0,16,0,0,0,by simp [zh],by simp [ze,yJ,yF],p13,p0,p0,p0⟩
 by_cases h34:o=34
 ·subst h34;exact .inr ⟨13,0,0,0,16,0,0,0,by simp [zh],by simp [ze,yJ,yF],p13,p0,p0,p0⟩
 by_cases h35:o=35
 ·subst h35;exact .inr ⟨2,3,0,0,2,3,0,0,by simp [zh],by simp [ze,yJ,yF],p2,p3,p0,p0⟩
 by_cases h36:o=36
 ·subst h36;exact .inr ⟨0,0,0,0,0,0,0,0,by simp [zh],by simp [ze,yJ,yF],p0,p0,p0,p0⟩
 by_cases h37:o=37
 ·subst h37;exact .inr ⟨18,0,0,0,18,0,0,0,by simp [zh],by simp [ze,yJ,yF],p18,p0,p0,p0⟩
 by_cases h38:o=38
 ·subst h38;exact .inr ⟨18,10,0,0,18,12,0,0,by simp [zh],by simp [ze,yJ,yF],p18,p10,p0,p0⟩
 by_cases h39:o=39
 ·subst h39;exact .inr ⟨18,10,0,0,18,12,0,0,by simp [zh],by simp [ze,yJ,yF],p18,p10,p0,p0⟩
 by_cases h40:o=40
 ·subst h40;exact .inr ⟨19,0,0,0,19,0,0,0,by simp [zh],by simp [ze,yJ,yF],p19,p0,p0,p0⟩
 by_cases h41:o=41
 ·subst h41;exact .inr ⟨20,10,1,0,20,12,1,0,by simp [zh],by simp [ze,yJ,yF],p20,p10,p1,p0⟩
 by_cases h42:o=42
 ·subst h42;exact .inr ⟨21,0,0,0,1,0,0,0,by simp [zh],by simp [ze,yJ,yF],p21,p0,p0,p0⟩
 exact .inl ⟨by simp [zh,h1,h2,h3,h4,h5,h6,h7,h8,h9,h10,h11,h12,h13,h14,h15,h16,h17,h18,h19,h20,h21,h22,h23,h24,h25,h26,h27,h28,h29,h30,h31,h32,h33,h34,h35,h36,h37,h38,h39,h40,h41,h42],by simp [ze,yJ,yF,h1,h2,h3,h4,h5,h6,h7,h8,h9,h10,h11,h12,h13,h14,h15,h16,h17,h18,h19,h20,h21,h22,h23,h24,h25,h26,h27,h28,h29,h30,h31,h32,h33,h34,h35,h36,h37,h38,h39,h40,h41,h42]⟩
theorem zhg (ps:List zc) (p i:Int) (h:Xn (za ps p)):jg ps p i↔zjj ps (za ps p) (za (za ps p).Ins i)∧(¬i=((za ps p).Ins.length:Int)-1∨(za (za ps p).Ins i).Op=19∨(za (za ps p).Ins i).Op=29∨(za (za ps p).Ins i).Op=30):=by
 rw [jg,zjj]
 rcases zqs ps.length (za ps p) h (za (za ps p).Ins i).Op with ⟨h1,h2⟩|⟨s0,s1,s2,s3,i0,i1,i2,i3,h1,h2,q0,q1,q2,q3⟩
 ·simp [h1,h2]
 ·simp only [h1,h2]
  have:∀ a b c d:Int,z8 (fun j=>¬yU ps.length (za ps p) (za [s0,s1,s2,s3] j) (za [a,b,c,d] j)) 0 4=z8 (fun j=>¬xO ps.length (za ps p) (za [i0,i1,i2,i3] j) (za [a,b,c,d] j)) 0 4:=fun a b c d=>ziI fun j j0 j1=>not_congr (by
   have hj:j=0∨j=1∨j=2∨j=3:=by omega
   rcases hj with rfl|rfl|rfl|rfl
   ·exact q0 _
   ·exact q1 _
   ·exact q2 _
   ·exact q3 _)
  rw [this]
end Go.Proofs.Tryd.Av
end
section
attribute [local congr] ite_congr
set_option maxRecDepth 10000
set_option maxHeartbeats 4000000
namespace Go.Proofs.Tryd.Av
open Go Go.Av Classical
def Vp (v:yk) (num flt str ref:Bool):Prop:=(num=true∨v.Num=0)∧(flt=true∨FloatKind.f64.format.order v.Flt 0=some .eq)∧(str=true∨v.Str.toList=(⟨⟨[]⟩⟩:ByteArray).toList)∧(ref=true∨v.Ref=0)
theorem zrv (v:yk) (num flt str ref:Bool):EP A zeb [.agg v.cells,.bool num,.bool flt,.bool str,.bool ref]=some (.bool (decide (Vp v num flt str ref))):=by
 simp -implicitDefEqProofs +contextual (disch:=omega) only [zkX,zlf,zjV,yk.cells,Vp, ↓XD,XU, ↓reduceIte,sevalprocAttr]
 simp [Bool.and_assoc]
theorem zwa (v:yk) (num flt str ref:Bool):EP A zgB [.agg v.cells,.bool num,.bool flt,.bool str,.bool ref]=some (.bool (decide (Vp v num flt str ref))):=by
 simp -implicitDefEqProofs +contextual (disch:=omega) only [znu,zoq,zmJ,yk.cells,Vp, ↓XD,XU, ↓reduceIte,sevalprocAttr]
 simp [Bool.and_assoc]
def ZW (v:yk):Prop:=
 if v.Kind=0 then Vp v false false false false else if v.Kind=1 then Vp v true false false false∧(v.Num=0∨v.Num=1) else if v.Kind=2 then Vp v true false false false
 else if v.Kind=3 then Vp v false true false false else if v.Kind=4 then Vp v false false true false∧(v.Str.size:Int)≤4000 else if v.Kind=5∨v.Kind=6∨v.Kind=7 then Vp v false false false true∧0≤v.Ref
 else if v.Kind=8 then Vp v true false false false∧0≤v.Num∧v.Num<15 else False
theorem zpB (v:yk):EP A zcp [.agg v.cells]=some (.bool (decide (ZW v))):=by
 obtain ⟨K,N,F,S,R⟩:=v
 have hz:=fun a b c d=>zrv ⟨K,N,F,S,R⟩ a b c d
 simp only [yk.cells] at hz
 by_cases h0:K=0
 ·subst h0;simp -implicitDefEqProofs +contextual (disch:=omega) only [vd,vh,wS,yk.cells,ZW, ↓XD,XU, ↓reduceIte,sevalprocAttr,hz]
 by_cases h1:K=1
 ·subst h1;simp -implicitDefEqProofs +contextual (disch:=omega) only [vd,vh,wS,yk.cells,ZW, ↓XD,XU, ↓reduceIte,sevalprocAttr,hz]
 by_cases h2:K=2
 ·subst h2;simp -implicitDefEqProofs +contextual (disch:=omega) only [vd,vh,wS,yk.cells,ZW, ↓XD,XU, ↓reduceIte,sevalprocAttr,hz]
 by_cases h3:K=3
 ·subst h3;simp -implicitDefEqProofs +contextual (disch:=omega) only [vd,vh,wS,yk.cells,ZW, ↓XD,XU, ↓reduceIte,sevalprocAttr,hz]
 by_cases h4:K=4
 ·subst h4;simp -implicitDefEqProofs +contextual (disch:=omega) only [vd,vh,wS,yk.cells,ZW, ↓XD,XU, ↓reduceIte,sevalprocAttr,hz]
 by_cases h5:K=5
 ·subst h5;simp -implicitDefEqProofs +contextual (disch:=omega) only [vd,vh,wS,yk.cells,ZW, ↓XD,XU, ↓reduceIte,sevalprocAttr,hz]
 by_cases h6:K=6
 ·subst h6;simp -implicitDefEqProofs +contextual (disch:=omega) only [vd,vh,wS,yk.cells,ZW, ↓XD,XU, ↓reduceIte,sevalprocAttr,hz]
 by_cases h7:K=7
 ·subst h7;simp -implicitDefEqProofs +contextual (disch:=omega) only [vd,vh,wS,yk.cells,ZW, ↓XD,XU, ↓reduceIte,sevalprocAttr,hz]
 by_cases h8:K=8
 ·subst h8
  simp -implicitDefEqProofs +contextual (disch:=omega) only [vd,vh,wS,yk.cells,ZW, ↓XD,XU, ↓reduceIte,sevalprocAttr,hz]
  simp [Bool.and_assoc]
 simp -implicitDefEqProofs +contextual (disch:=omega) only [vd,vh,wS,yk.cells,ZW, ↓XD,XU, ↓reduceIte,sevalprocAttr,h0,h1,h2,h3,h4,h5,h6,h7,h8]
theorem zhW (v:yk):EP A zce [.agg v.cells]=some (.bool (decide (ZW v))):=by
 obtain ⟨K,N,F,S,R⟩:=v
 have hz:=fun a b c d=>zwa ⟨K,N,F,S,R⟩ a b c d
 simp only [yk.cells] at hz
 by_cases h0:K=0
 ·subst h0;simp -implicitDefEqProofs +contextual (disch:=omega) only [vc,vg,wR,yk.cells,ZW, ↓XD,XU, ↓reduceIte,sevalprocAttr,hz]
 by_cases h1:K=1
 ·subst h1;simp -implicitDefEqProofs +contextual (disch:=omega) only [vc,vg,wR,yk.cells,ZW, ↓XD,XU, ↓reduceIte,sevalprocAttr,hz]
 by_cases h2:K=2
 ·subst h2;simp -implicitDefEqProofs +contextual (disch:=omega) only [vc,vg,wR,yk.cells,ZW, ↓XD,XU, ↓reduceIte,sevalprocAttr,hz]
 by_cases h3:K=3
 ·subst h3;simp -implicitDefEqProofs +contextual (disch:=omega) only [vc,vg,wR,yk.cells,ZW, ↓XD,XU, ↓reduceIte,sevalprocAttr,hz]
 by_cases h4:K=4
 ·subst h4;simp -implicitDefEqProofs +contextual (disch:=omega) only [vc,vg,wR,yk.cells,ZW, ↓XD,XU, ↓reduceIte,sevalprocAttr,hz]
 by_cases h5:K=5
 ·subst h5;simp -implicitDefEqProofs +contextual (disch:=omega) only [vc,vg,wR,yk.cells,ZW, ↓XD,XU, ↓reduceIte,sevalprocAttr,hz]
 by_cases h6:K=6
 ·subst h6;simp -implicitDefEqProofs +contextual (disch:=omega) only [vc,vg,wR,yk.cells,ZW, ↓XD,XU, ↓reduceIte,sevalprocAttr,hz]
 by_cases h7:K=7
 ·subst h7;simp -implicitDefEqProofs +contextual (disch:=omega) only [vc,vg,wR,yk.cells,ZW, ↓XD,XU, ↓reduceIte,sevalprocAttr,hz]
 by_cases h8:K=8
 ·subst h8
  simp -implicitDefEqProofs +contextual (disch:=omega) only [vc,vg,wR,yk.cells,ZW, ↓XD,XU, ↓reduceIte,sevalprocAttr,hz]
  simp [Bool.and_assoc]
 simp -implicitDefEqProofs +contextual (disch:=omega) only [vc,vg,wR,yk.cells,ZW, ↓XD,XU, ↓reduceIte,sevalprocAttr,h0,h1,h2,h3,h4,h5,h6,h7,h8]
theorem zin {x:Nat} (h:x<2 ^ 64):FloatKind.f64.format.order x 0=some .eq↔x=0∨x=9223372036854775808:=by
 constructor
 ·intro ho
  have hf:FloatKind.f64.format=Ieee.double:=rfl
  rw [hf] at ho
  have h0:Ieee.double.read 0=.number false 0 Ieee.double.leastPlace:=by decide +kernel
  have hs:Ieee.double.signWeight=9223372036854775808:=by decide +kernel
  have hb:Ieee.double.binade=4503599627370496:=by decide +kernel
  unfold Ieee.Format.order at ho
  rw [h0] at ho
  unfold Ieee.Format.read at ho
  simp only [hs,hb] at ho
  have key:∀ (s:Bool) (m k:Nat),compare (Ieee.signed s m k) (Ieee.signed false 0 0)=.eq→m=0:=by
   intro s m k hc
   have hc:=Std.LawfulEqOrd.eq_of_compare hc
   unfold Ieee.signed at hc
   simp only [Nat.shiftLeft_eq] at hc
   have:(m:Int)*((2 ^ k:Nat):Int)=0:=by split at hc<;>simp at hc ⊢ <;>omega
   have hp:0<(2:Nat) ^ k:=Nat.pow_pos (by decide)
   rcases Int.mul_eq_zero.1 this with h|h<;>omega
  split at ho
  ·simp only [Ieee.Datum.order,Option.some.injEq] at ho
   have:=key _ _ _ ho
   omega
  ·split at ho
   ·simp only [Ieee.Datum.order,Option.some.injEq] at ho
    have h9:∀ b,Ieee.signed false 0 b=Ieee.signed false 0 0:=fun b=>by simp [Ieee.signed]
    rw [h9] at ho
    have:=key _ _ _ ho
    omega
   ·split at ho
    ·simp [Ieee.Datum.order] at ho
     split at ho<;>simp at ho
    ·simp [Ieee.Datum.order] at ho
 ·rintro (rfl|rfl)<;>decide +kernel
theorem zBn:bin .quo (.flt .f64 4607182418800017408) (.flt .f64 0)=some (.flt .f64 9218868437227405312):=by rfl
theorem zBo:bin .quo (.flt .f64 4607182418800017408) (.flt .f64 9223372036854775808)=some (.flt .f64 18442240474082181120):=by rfl
theorem zzx:FloatKind.f64.format.order 0 0=some .eq:=by decide +kernel
theorem zzy:FloatKind.f64.format.order 9223372036854775808 0=some .eq:=by decide +kernel
theorem zBc:FloatKind.f64.format.order 9218868437227405312 0=some .gt:=by decide +kernel
theorem zBb:FloatKind.f64.format.order 18442240474082181120 0=some .lt:=by decide +kernel
def ZV (v:yk):Prop:=ZW v∧¬v.Kind=5∧¬v.Kind=6∧¬v.Kind=7∧(v.Kind=3→FloatKind.f64.format.order v.Flt v.Flt=some .eq)∧(¬v.Kind=3→v.Flt=0)
theorem zo4 {v:yk} (hv:ZW v) (h3:¬v.Kind=3):FloatKind.f64.format.order v.Flt 0=some .eq:=by
 unfold ZW Vp at hv
 by_cases h0:v.Kind=0
 ·simp only [h0,if_true] at hv;simpa using hv.2.1
 by_cases h1:v.Kind=1
 ·simp only [h0,h1,if_true,if_false] at hv;simpa using hv.1.2.1
 by_cases h2:v.Kind=2
 ·simp only [h0,h1,h2,if_true,if_false] at hv;simpa using hv.2.1
 by_cases h4:v.Kind=4
 ·simp only [h0,h1,h2,h3,h4,if_true,if_false] at hv;simpa using hv.1.2.1
 by_cases h5:v.Kind=5∨v.Kind=6∨v.Kind=7
 ·simp only [h0,h1,h2,h3,h4,h5,if_true,if_false] at hv;simpa using hv.1.2.1
 by_cases h8:v.Kind=8
 ·simp only [h0,h1,h2,h3,h4,h5,h8,if_true,if_false] at hv;simpa using hv.1.2.1
 simp only [h0,h1,h2,h3,h4,h5,h8,if_false] at hv
theorem ze9 (v:yk) (hf:v.Flt<2 ^ 64):EP A QP [.agg v.cells]=some (.bool (decide (ZV v))):=by
 have hz:=zpB v
 simp only [yk.cells] at hz
 by_cases hv:ZW v
 ·by_cases h5:v.Kind=5
  ·simp only [hv,h5] at hz
   simp -implicitDefEqProofs +contextual (disch:=omega) only [ub,uc,vQ,yk.cells,ZV, ↓XD,XU, ↓reduceIte,sevalprocAttr,hz,hv,h5]
   try simp
  by_cases h6:v.Kind=6
  ·simp only [hv,h6] at hz
   simp -implicitDefEqProofs +contextual (disch:=omega) only [ub,uc,vQ,yk.cells,ZV, ↓XD,XU, ↓reduceIte,sevalprocAttr,hz,hv,h6]
   try simp
  by_cases h7:v.Kind=7
  ·simp only [hv,h7] at hz
   simp -implicitDefEqProofs +contextual (disch:=omega) only [ub,uc,vQ,yk.cells,ZV, ↓XD,XU, ↓reduceIte,sevalprocAttr,hz,hv,h7]
   try simp
  by_cases h3:v.Kind=3
  ·simp only [hv,h3] at hz
   simp -implicitDefEqProofs +contextual (disch:=omega) only [ub,uc,vQ,yk.cells,ZV, ↓XD,XU, ↓reduceIte,sevalprocAttr,hz,hv,h3]
   try simp
  ·rcases (zin hf).1 (zo4 hv h3) with h|h
   ·simp only [hv,h] at hz
    simp -implicitDefEqProofs +contextual (disch:=omega) only [ub,uc,vQ,yk.cells,ZV, ↓XD,XU, ↓reduceIte,sevalprocAttr,hz,hv,h3,h5,h6,h7,h,zBn,zzx,zBc]
    try simp
   ·simp only [hv,h] at hz
    simp -implicitDefEqProofs +contextual (disch:=omega) only [ub,uc,vQ,yk.cells,ZV, ↓XD,XU, ↓reduceIte,sevalprocAttr,hz,hv,h3,h5,h6,h7,h,zBo,zzy,zBb]
    try simp
 ·simp only [hv] at hz
  simp -implicitDefEqProofs +contextual (disch:=omega) only [ub,uc,vQ,yk.cells,ZV, ↓XD,XU, ↓reduceIte,sevalprocAttr,hz,hv]
theorem zhU (x:Nat):EP A zco [.flt .f64 x]=some (.bool (decide (IntKind.i64.wrap x<0))):=by
 simp -implicitDefEqProofs +contextual (disch:=omega) only [zjx,zka,ziC, ↓XD,XU, ↓reduceIte,sevalprocAttr]
theorem sb0:¬IntKind.i64.wrap ((0:Nat):Int)<0:=by decide
theorem sb1:IntKind.i64.wrap ((9223372036854775808:Nat):Int)<0:=by decide
theorem yV (a b c:Int):EP A zcr [.int .i64 a,.int .i64 b,.int .i64 c]=some (.agg [.int .i64 a,.int .i64 b,.int .i64 c]):=by
 simp -implicitDefEqProofs +contextual (disch:=omega) only [zjy,zkb,ziD, ↓XD,XU, ↓reduceIte,sevalprocAttr]
def uQ (f:zc):Int:=if f.Rest then f.Regs-1 else f.Regs
def jr (f:zc) (p:Int):Prop:=((((((f.Name.size:Int)≤40∧0≤f.Line∧f.Line≤100000)∧0≤f.Regs∧f.Regs≤250)∧0≤f.Params∧f.Params≤uQ f)∧(f.Ups.length:Int)≤250)∧(f.Consts.length:Int)≤500)∧(0<p∨f.Params=0∧f.Ups.length=0)
theorem zgq (ps:List zc) (p:Int) (p0:0≤p) (p1:p<ps.length) (hb:ps.length≤1048576) (hu:(za ps p).Ups.length≤1048576) (hc:(za ps p).Consts.length≤1048576):EP A zaI [code ps,.int .i64 p]=some (.bool (decide (jr (za ps p) p))):=by
 have e0:((za ps p).Ups.length:Int)=0↔(za ps p).Ups.length=0:=by omega
 by_cases hr:(za ps p).Rest
 ·by_cases hA:(((((za ps p).Name.size:Int)≤40∧0≤(za ps p).Line∧(za ps p).Line≤100000)∧0≤(za ps p).Regs∧(za ps p).Regs≤250)∧0≤(za ps p).Params∧(za ps p).Params≤(za ps p).Regs-1)
  ·by_cases hq:0<p
   ·simp -implicitDefEqProofs +contextual (disch:=omega) only [vS,vW,vx,code,zb,zc.cells,ups,zf,zj,zm,xz,jr,uQ, ↓XD,XU, ↓reduceIte,sevalprocAttr,hr,hA,hq]
   ·by_cases hP:(za ps p).Params=0
    ·simp -implicitDefEqProofs +contextual (disch:=omega) only [vS,vW,vx,code,zb,zc.cells,ups,zf,zj,zm,xz,jr,uQ, ↓XD,XU, ↓reduceIte,sevalprocAttr,hr,hA,hq,hP,e0]
    ·simp -implicitDefEqProofs +contextual (disch:=omega) only [vS,vW,vx,code,zb,zc.cells,ups,zf,zj,zm,xz,jr,uQ, ↓XD,XU, ↓reduceIte,sevalprocAttr,hr,hA,hq,hP,e0]
  ·simp -implicitDefEqProofs +contextual (disch:=omega) only [vS,vW,vx,code,zb,zc.cells,ups,zf,zj,zm,xz,jr,uQ, ↓XD,XU, ↓reduceIte,sevalprocAttr,hr,hA]
 ·by_cases hA:(((((za ps p).Name.size:Int)≤40∧0≤(za ps p).Line∧(za ps p).Line≤100000)∧0≤(za ps p).Regs∧(za ps p).Regs≤250)∧0≤(za ps p).Params∧(za ps p).Params≤(za ps p).Regs)
  ·by_cases hq:0<p
   ·simp -implicitDefEqProofs +contextual (disch:=omega) only [vS,vW,vx,code,zb,zc.cells,ups,zf,zj,zm,xz,jr,uQ, ↓XD,XU, ↓reduceIte,sevalprocAttr,hr,hA,hq]
   ·by_cases hP:(za ps p).Params=0
    ·simp -implicitDefEqProofs +contextual (disch:=omega) only [vS,vW,vx,code,zb,zc.cells,ups,zf,zj,zm,xz,jr,uQ, ↓XD,XU, ↓reduceIte,sevalprocAttr,hr,hA,hq,hP,e0]
    ·simp -implicitDefEqProofs +contextual (disch:=omega) only [vS,vW,vx,code,zb,zc.cells,ups,zf,zj,zm,xz,jr,uQ, ↓XD,XU, ↓reduceIte,sevalprocAttr,hr,hA,hq,hP,e0]
  ·simp -implicitDefEqProofs +contextual (disch:=omega) only [vS,vW,vx,code,zb,zc.cells,ups,zf,zj,zm,xz,jr,uQ, ↓XD,XU, ↓reduceIte,sevalprocAttr,hr,hA]
def zg3 (p:zc) (n:xn) (i:Int):Prop:=i<500∧(1≤(n.Name.size:Int)∧(n.Name.size:Int)≤40)∧(0≤n.Reg∧n.Reg≤p.Regs-1)∧0≤n.From∧n.From≤n.To∧n.To≤p.Ins.length
theorem ze_ (p:zc) (i:Int) (hp:Xn p) (i0:0≤i) (i1:i<p.Named.length):EP A QQ [.agg p.cells,.int .i64 i]=some (.bool (decide (zg3 p (za p.Named i) i))):=by
 have:=hp.n
 have:=hp.i
 have:=hp.r1
 have:=hp.r0
 simp -implicitDefEqProofs +contextual (disch:=omega) only [zg7,zhr,zgh,zc.cells,ups,zf,zj,zm,xn.cells,xz,zg3, ↓XD,XU, ↓reduceIte,sevalprocAttr]
 rw [Option.some.injEq,PV.bool.injEq,Bool.eq_iff_iff];simp [and_assoc]
def J_ (p:zc) (u:Up):Prop:=if u.Local then 0≤u.Index∧u.Index≤p.Regs-1 else 0≤u.Index∧u.Index≤(p.Ups.length:Int)-1
theorem zt4 (ps:List zc) (p g:Int) (l:List Up) (p0:0≤p) (p1:p<ps.length) (hb:ps.length≤1048576) (h:Xn (za ps p)) (hl:l.length≤1048576):match z8 (fun (j:Int)=>¬J_ (za ps p) (za l j)) 0 l.length with|some j=>∃ st,EV A (.loop (X_ 0)) (⟨[(0,code ps),(1,.int .i64 p),(2,.int .i64 g),(3,.ptr 0 0 0 1),(6,.bool false),(14,ups l),(15,.int .i64 l.length),(16,.int .i64 (0))],[],[.cells 1 [[zb ps]]],[]⟩:St)=some (.ret,st)∧st.per.get 6=.bool false|none=>EV A (.loop (X_ 0)) (⟨[(0,code ps),(1,.int .i64 p),(2,.int .i64 g),(3,.ptr 0 0 0 1),(6,.bool false),(14,ups l),(15,.int .i64 l.length),(16,.int .i64 (0))],[],[.cells 1 [[zb ps]]],[]⟩:St)=some (zp.exit 0,(⟨[(0,code ps),(1,.int .i64 p),(2,.int .i64 g),(3,.ptr 0 0 0 1),(6,.bool false),(14,ups l),(15,.int .i64 l.length),(16,.int .i64 (l.length))],[],[.cells 1 [[zb ps]]],[]⟩:St)):=by
 refine yt (fun i=>(⟨[(0,code ps),(1,.int .i64 p),(2,.int .i64 g),(3,.ptr 0 0 0 1),(6,.bool false),(14,ups l),(15,.int .i64 l.length),(16,.int .i64 i)],[],[.cells 1 [[zb ps]]],[]⟩:St)) (fun (j:Int)=>¬J_ (za ps p) (za l j)) (fun (j:Int) (st:St)=>st.per.get 6=.bool false) (zp.exit 0,(⟨[(0,code ps),(1,.int .i64 p),(2,.int .i64 g),(3,.ptr 0 0 0 1),(6,.bool false),(14,ups l),(15,.int .i64 l.length),(16,.int .i64 (l.length))],[],[.cells 1 [[zb ps]]],[]⟩:St)) (0) (l.length) ?_ ?_ ?_ (0) (by omega) (by omega)
 ·intro i hi hn hp
  try simp only [Classical.not_not] at hp
  have g1:=h.r0;have g2:=h.r1;have g3:=h.u
  simp only [J_] at hp
  by_cases hL:(za l i).Local=true
  ·try simp only [hL,if_true,if_false,Bool.false_eq_true] at hp
   refine ⟨_,by simp -implicitDefEqProofs +contextual (disch:=omega) only [jT,uv, ↓XD,XU, ↓reduceIte,sevalprocAttr,code,zb,ups,Up.cells,J_,xz,hL,hn,hp];rfl,by first|(simp [St.next,zW,hL];done)|(simp [St.next,zW,hL];omega)|(simp [St.next,trim,bare,zt,refs,hL];done)⟩
  ·try simp only [hL,if_true,if_false,Bool.false_eq_true] at hp
   refine ⟨_,by simp -implicitDefEqProofs +contextual (disch:=omega) only [jT,uv, ↓XD,XU, ↓reduceIte,sevalprocAttr,code,zb,ups,Up.cells,J_,xz,hL,hn,hp];rfl,by first|(simp [St.next,zW,hL];done)|(simp [St.next,zW,hL];omega)|(simp [St.next,trim,bare,zt,refs,hL];done)⟩
 ·intro i hi hn hp
  have g1:=h.r0;have g2:=h.r1;have g3:=h.u
  simp only [J_] at hp
  by_cases hL:(za l i).Local=true
  ·try simp only [hL,if_true,if_false,Bool.false_eq_true] at hp
   refine ⟨_,by simp -implicitDefEqProofs +contextual (disch:=omega) only [jT,uv, ↓XD,XU, ↓reduceIte,sevalprocAttr,code,zb,ups,Up.cells,J_,xz,hL,hn,hp];rfl,by simp [yc,zk.get,zk.put]⟩
  ·try simp only [hL,if_true,if_false,Bool.false_eq_true] at hp
   refine ⟨_,by simp -implicitDefEqProofs +contextual (disch:=omega) only [jT,uv, ↓XD,XU, ↓reduceIte,sevalprocAttr,code,zb,ups,Up.cells,J_,xz,hL,hn,hp];rfl,by simp [yc,zk.get,zk.put]⟩
 ·rintro i hi rfl
  refine ⟨by simp -implicitDefEqProofs +contextual (disch:=omega) only [jT,uv, ↓XD,XU, ↓reduceIte,sevalprocAttr,code,zb,ups,Up.cells,J_,xz,Int.lt_irrefl],by simp⟩
def zdk (p:zc) (l:List Up):Prop:=z8 (fun j=>¬J_ p (za l j)) 0 l.length=none
theorem zpD (ps:List zc) (p g:Int) (p0:0≤p) (p1:p<ps.length) (hb:ps.length≤1048576) (h:Xn (za ps p)) (g0:0≤g) (g1:g<ps.length) (hl:(za ps g).Ups.length≤1048576):EP A zcw [code ps,.int .i64 p,.int .i64 g]=some (.bool (decide (zdk (za ps p) (za ps g).Ups))):=by
 have hlp:=zt4 ps p g (za ps g).Ups p0 p1 hb h hl
 unfold zdk
 by_cases hk:z8 (fun j=>¬J_ (za ps p) (za (za ps g).Ups j)) 0 (za ps g).Ups.length=none
 ·rw [hk] at hlp
  simp only [code,zb,ups] at hlp
  simp -implicitDefEqProofs +contextual (disch:=omega) only [zb0,zcJ,uv,code,zb,zc.cells,ups,zf,zj,zm, ↓XD,XU, ↓reduceIte,sevalprocAttr,hlp,hk]
 ·obtain ⟨j,hj⟩:=Option.ne_none_iff_exists'.1 hk
  rw [hj] at hlp
  obtain ⟨st,hlp,hg⟩:=hlp
  simp only [code,zb,ups] at hlp
  simp -implicitDefEqProofs +contextual (disch:=omega) only [zb0,zcJ,uv,code,zb,zc.cells,ups,zf,zj,zm, ↓XD,XU, ↓reduceIte,sevalprocAttr,hlp,hg,hk]
abbrev wu (c f n:Int):List PV:=[.int .i64 c,.int .i64 f,.int .i64 n]
abbrev fl3 (p:Int×Int×Int):PV:=.agg (wu p.1 p.2.1 p.2.2)
abbrev hU (ps:List zc):zd:=[.cells 1 [[zb ps]],.cells 3 [[.int .i64 0,.int .i64 0,.int .i64 0]]]
abbrev hP (ps:List zc) (f:zc):zd:=[.cells 1 [[zb ps]],.cells 3 [[.int .i64 0,.int .i64 0,.int .i64 0]],.cells 9 [f.cells]]
def vr (ps:List zc):Int:=((ps.map fun f=>f.Ins.length).sum:Nat)
def wV (ps:List zc) (n:Nat):Int:=(((ps.take n).map fun f=>f.Ins.length).sum:Nat)
theorem zgP (fs:List zc) {i:Int} (h0:0≤i) (h1:i<fs.length):wV fs i.toNat+(za fs i).Ins.length=wV fs (i+1).toNat:=by
 have h:i.toNat<fs.length:=by omega
 have e:(i+1).toNat=i.toNat+1:=by omega
 rw [wV,wV,e,List.take_succ_eq_append_getElem h,List.map_append,List.sum_append]
 have:za fs i=fs[i.toNat]:=by
  have:=wc h0 h1
  rw [List.getElem?_eq_getElem h] at this
  exact (Option.some.inj this).symm
 rw [this];simp
theorem zaN (fs:List zc) (n:Nat):0≤wV fs n∧wV fs n≤vr fs:=by
 refine ⟨by simp [wV],?_⟩
 rw [wV,vr,List.map_take]
 have:=(List.take_append_drop n (fs.map fun f=>f.Ins.length))
 have h2:(fs.map fun f=>f.Ins.length).sum=((fs.map fun f=>f.Ins.length).take n).sum+((fs.map fun f=>f.Ins.length).drop n).sum:=by rw [←List.sum_append,this]
 omega
structure zdj (q:zc):Prop where
 u:q.Ups.length≤1048576
 c:q.Consts.length≤1048576
 i:q.Ins.length≤1048576
 n:q.Named.length≤1048576
 f:∀ k:Int,(za q.Consts k).Flt<2 ^ 64
 x:∀ k j:Int, -9223372036854775808≤za [(za q.Ins k).A,(za q.Ins k).B,(za q.Ins k).C,(za q.Ins k).D] j∧za [(za q.Ins k).A,(za q.Ins k).B,(za q.Ins k).C,(za q.Ins k).D] j<9223372036854775808
abbrev uK (ps:List zc):Prop:=∀ p:Int,zdj (za ps p)
theorem jr.pok {f:zc} {p:Int} (h:jr f p) (hs:zdj f):Xn f:=⟨h.1.1.1.1.2.1,h.1.1.1.1.2.2,hs.u,hs.c,hs.i,hs.n⟩
theorem zzl (ps:List zc) (hb:ps.length≤1048576) (ht:vr ps≤1048576) (a0:Int) (hok0:a0=wV ps ((0):Int).toNat):EV A (.loop (yz 0)) (⟨[(0,code ps),(1,.ptr 0 0 0 1),(2,.ptr 1 0 0 1),(3,.int .i64 a0),(18,zb ps),(19,.int .i64 ps.length),(20,.int .i64 (0))],[],hU ps,[]⟩:St)=some (zp.exit 0,(⟨[(0,code ps),(1,.ptr 0 0 0 1),(2,.ptr 1 0 0 1),(3,.int .i64 (iter (fun (i:Int) (a:Int)=>wV ps (i+1).toNat) ((ps.length:Int)-0).toNat (0) a0)),(18,zb ps),(19,.int .i64 ps.length),(20,.int .i64 (ps.length))],[],hU ps,[]⟩:St))∧(iter (fun (i:Int) (a:Int)=>wV ps (i+1).toNat) ((ps.length:Int)-0).toNat (0) a0)=wV ps ((ps.length):Int).toNat:=by
 refine vk (fun i (a:Int)=>(⟨[(0,code ps),(1,.ptr 0 0 0 1),(2,.ptr 1 0 0 1),(3,.int .i64 a),(18,zb ps),(19,.int .i64 ps.length),(20,.int .i64 i)],[],hU ps,[]⟩:St)) (fun (i:Int) (a:Int)=>wV ps (i+1).toNat) (fun i (a:Int)=>a=wV ps (i:Int).toNat) (fun a=>(zp.exit 0,(⟨[(0,code ps),(1,.ptr 0 0 0 1),(2,.ptr 1 0 0 1),(3,.int .i64 a),(18,zb ps),(19,.int .i64 ps.length),(20,.int .i64 (ps.length))],[],hU ps,[]⟩:St))) (0) (ps.length) ?_ ?_ (0) a0 (by omega) (by omega) hok0
 ·intro i a hi hn hok
  have hs:=zgP ps hi hn;have hs2:=zaN ps i.toNat;have hs3:=zaN ps (i+1).toNat
  refine ⟨⟨_,by simp -implicitDefEqProofs +contextual (disch:=omega) only [KO,z_, ↓XD,XU, ↓reduceIte,sevalprocAttr,hU,code,zb,zc.cells,zj,hs,hn,hok];rfl,by first|(simp [St.next,zW];done)|(simp [St.next,zW];omega)|(simp [St.next,trim,bare,zt,refs];done)⟩,by rfl⟩
 ·rintro i a hi rfl hok
  refine ⟨by simp -implicitDefEqProofs +contextual (disch:=omega) only [KO,z_, ↓XD,XU, ↓reduceIte,sevalprocAttr,hU,code,zb,zc.cells,zj,Int.lt_irrefl,hok],by simp⟩
theorem zzm (ps:List zc) (t:Int) (hb:ps.length≤1048576) (hs:uK ps):match z8 (fun (j:Int)=>¬jr (za ps j) j) 0 ps.length with|some j=>∃ st,EV A (.loop (yz 1)) (⟨[(0,code ps),(1,.ptr 0 0 0 1),(2,.ptr 1 0 0 1),(3,.int .i64 t),(18,zb ps),(19,.int .i64 ps.length),(20,.int .i64 ps.length),(47,.int .i64 ps.length),(48,.int .i64 (0))],[],hU ps,[]⟩:St)=some (.ret,st)∧yc 2 1 3 (wu 2 j 0) st|none=>EV A (.loop (yz 1)) (⟨[(0,code ps),(1,.ptr 0 0 0 1),(2,.ptr 1 0 0 1),(3,.int .i64 t),(18,zb ps),(19,.int .i64 ps.length),(20,.int .i64 ps.length),(47,.int .i64 ps.length),(48,.int .i64 (0))],[],hU ps,[]⟩:St)=some (zp.exit 2,(⟨[(0,code ps),(1,.ptr 0 0 0 1),(2,.ptr 1 0 0 1),(3,.int .i64 t),(18,zb ps),(19,.int .i64 ps.length),(20,.int .i64 ps.length),(47,.int .i64 ps.length),(48,.int .i64 (ps.length))],[],hU ps,[]⟩:St)):=by
 refine yt (fun i=>(⟨[(0,code ps),(1,.ptr 0 0 0 1),(2,.ptr 1 0 0 1),(3,.int .i64 t),(18,zb ps),(19,.int .i64 ps.length),(20,.int .i64 ps.length),(47,.int .i64 ps.length),(48,.int .i64 i)],[],hU ps,[]⟩:St)) (fun (j:Int)=>¬jr (za ps j) j) (fun (j:Int) (st:St)=>yc 2 1 3 (wu 2 j 0) st) (zp.exit 2,(⟨[(0,code ps),(1,.ptr 0 0 0 1),(2,.ptr 1 0 0 1),(3,.int .i64 t),(18,zb ps),(19,.int .i64 ps.length),(20,.int .i64 ps.length),(47,.int .i64 ps.length),(48,.int .i64 (ps.length))],[],hU ps,[]⟩:St)) (0) (ps.length) ?_ ?_ ?_ (0) (by omega) (by omega)
 ·intro i hi hn hp
  try simp only [Classical.not_not] at hp
  have hh:=zgq ps i hi hn hb (hs i).u (hs i).c
  refine ⟨_,by simp -implicitDefEqProofs +contextual (disch:=omega) only [W7,z_, ↓XD,XU, ↓reduceIte,sevalprocAttr,hU,code,zb,yV,hh,hn,hp];rfl,by first|(simp [St.next,zW];done)|(simp [St.next,zW];omega)|(simp [St.next,trim,bare,zt,refs];done)⟩
 ·intro i hi hn hp
  have hh:=zgq ps i hi hn hb (hs i).u (hs i).c
  refine ⟨_,by simp -implicitDefEqProofs +contextual (disch:=omega) only [W7,z_, ↓XD,XU, ↓reduceIte,sevalprocAttr,hU,code,zb,yV,hh,hn,hp];rfl,by simp [yc,zk.get,zk.put]⟩
 ·rintro i hi rfl
  refine ⟨by simp -implicitDefEqProofs +contextual (disch:=omega) only [W7,z_, ↓XD,XU, ↓reduceIte,sevalprocAttr,hU,code,zb,yV,Int.lt_irrefl],by simp⟩
theorem zvo (ps:List zc) (t fi:Int) (f:zc) (hb:ps.length≤1048576) (hs:zdj f):match z8 (fun (j:Int)=>¬ZV (za f.Consts j)) 0 f.Consts.length with|some j=>∃ st,EV A (.loop (yz 3)) (⟨[(0,code ps),(1,.ptr 0 0 0 1),(2,.ptr 1 0 0 1),(3,.int .i64 t),(18,zb ps),(19,.int .i64 ps.length),(20,.int .i64 ps.length),(47,.int .i64 ps.length),(48,.int .i64 ps.length),(59,zb ps),(60,.int .i64 ps.length),(61,.int .i64 fi),(8,.ptr 2 0 0 1),(7,.int .i64 fi),(67,zf f.Consts),(68,.int .i64 f.Consts.length),(69,.int .i64 (0))],[],hP ps f,[]⟩:St)=some (.ret,st)∧yc 2 1 3 (wu 3 fi j) st|none=>EV A (.loop (yz 3)) (⟨[(0,code ps),(1,.ptr 0 0 0 1),(2,.ptr 1 0 0 1),(3,.int .i64 t),(18,zb ps),(19,.int .i64 ps.length),(20,.int .i64 ps.length),(47,.int .i64 ps.length),(48,.int .i64 ps.length),(59,zb ps),(60,.int .i64 ps.length),(61,.int .i64 fi),(8,.ptr 2 0 0 1),(7,.int .i64 fi),(67,zf f.Consts),(68,.int .i64 f.Consts.length),(69,.int .i64 (0))],[],hP ps f,[]⟩:St)=some (zp.exit 6,(⟨[(0,code ps),(1,.ptr 0 0 0 1),(2,.ptr 1 0 0 1),(3,.int .i64 t),(18,zb ps),(19,.int .i64 ps.length),(20,.int .i64 ps.length),(47,.int .i64 ps.length),(48,.int .i64 ps.length),(59,zb ps),(60,.int .i64 ps.length),(61,.int .i64 fi),(8,.ptr 2 0 0 1),(7,.int .i64 fi),(67,zf f.Consts),(68,.int .i64 f.Consts.length),(69,.int .i64 (f.Consts.length))],[],hP ps f,[]⟩:St)):=by
 refine yt (fun i=>(⟨[(0,code ps),(1,.ptr 0 0 0 1),(2,.ptr 1 0 0 1),(3,.int .i64 t),(18,zb ps),(19,.int .i64 ps.length),(20,.int .i64 ps.length),(47,.int .i64 ps.length),(48,.int .i64 ps.length),(59,zb ps),(60,.int .i64 ps.length),(61,.int .i64 fi),(8,.ptr 2 0 0 1),(7,.int .i64 fi),(67,zf f.Consts),(68,.int .i64 f.Consts.length),(69,.int .i64 i)],[],hP ps f,[]⟩:St)) (fun (j:Int)=>¬ZV (za f.Consts j)) (fun (j:Int) (st:St)=>yc 2 1 3 (wu 3 fi j) st) (zp.exit 6,(⟨[(0,code ps),(1,.ptr 0 0 0 1),(2,.ptr 1 0 0 1),(3,.int .i64 t),(18,zb ps),(19,.int .i64 ps.length),(20,.int .i64 ps.length),(47,.int .i64 ps.length),(48,.int .i64 ps.length),(59,zb ps),(60,.int .i64 ps.length),(61,.int .i64 fi),(8,.ptr 2 0 0 1),(7,.int .i64 fi),(67,zf f.Consts),(68,.int .i64 f.Consts.length),(69,.int .i64 (f.Consts.length))],[],hP ps f,[]⟩:St)) (0) (f.Consts.length) ?_ ?_ ?_ (0) (by omega) (by omega)
 ·intro i hi hn hp
  try simp only [Classical.not_not] at hp
  have hh:=ze9 (za f.Consts i) (hs.f i);have hc:=hs.c;simp only [yk.cells] at hh
  refine ⟨_,by simp -implicitDefEqProofs +contextual (disch:=omega) only [W9,z_, ↓XD,XU, ↓reduceIte,sevalprocAttr,hP,code,zb,zc.cells,zf,yk.cells,yV,hh,hn,hp];rfl,by first|(simp [St.next,zW];done)|(simp [St.next,zW];omega)|(simp [St.next,trim,bare,zt,refs];done)⟩
 ·intro i hi hn hp
  have hh:=ze9 (za f.Consts i) (hs.f i);have hc:=hs.c;simp only [yk.cells] at hh
  refine ⟨_,by simp -implicitDefEqProofs +contextual (disch:=omega) only [W9,z_, ↓XD,XU, ↓reduceIte,sevalprocAttr,hP,code,zb,zc.cells,zf,yk.cells,yV,hh,hn,hp];rfl,by simp [yc,zk.get,zk.put]⟩
 ·rintro i hi rfl
  refine ⟨by simp -implicitDefEqProofs +contextual (disch:=omega) only [W9,z_, ↓XD,XU, ↓reduceIte,sevalprocAttr,hP,code,zb,zc.cells,zf,yk.cells,yV,Int.lt_irrefl],by simp⟩
noncomputable abbrev uo (ps:List zc) (p:Int):Option Int:=z8 (fun k=>¬ZV (za (za ps p).Consts k)) 0 (za ps p).Consts.length
theorem zzn (ps:List zc) (t:Int) (hb:ps.length≤1048576) (hs:uK ps):match z8 (fun (j:Int)=>uo ps j≠none) 0 ps.length with|some j=>∃ st,EV A (.loop (yz 2)) (⟨[(0,code ps),(1,.ptr 0 0 0 1),(2,.ptr 1 0 0 1),(3,.int .i64 t),(18,zb ps),(19,.int .i64 ps.length),(20,.int .i64 ps.length),(47,.int .i64 ps.length),(48,.int .i64 ps.length),(59,zb ps),(60,.int .i64 ps.length),(61,.int .i64 (0))],[],hU ps,[]⟩:St)=some (.ret,st)∧yc 2 1 3 (wu 3 j ((uo ps j).getD 0)) st|none=>EV A (.loop (yz 2)) (⟨[(0,code ps),(1,.ptr 0 0 0 1),(2,.ptr 1 0 0 1),(3,.int .i64 t),(18,zb ps),(19,.int .i64 ps.length),(20,.int .i64 ps.length),(47,.int .i64 ps.length),(48,.int .i64 ps.length),(59,zb ps),(60,.int .i64 ps.length),(61,.int .i64 (0))],[],hU ps,[]⟩:St)=some (zp.exit 4,(⟨[(0,code ps),(1,.ptr 0 0 0 1),(2,.ptr 1 0 0 1),(3,.int .i64 t),(18,zb ps),(19,.int .i64 ps.length),(20,.int .i64 ps.length),(47,.int .i64 ps.length),(48,.int .i64 ps.length),(59,zb ps),(60,.int .i64 ps.length),(61,.int .i64 (ps.length))],[],hU ps,[]⟩:St)):=by
 refine yt (fun i=>(⟨[(0,code ps),(1,.ptr 0 0 0 1),(2,.ptr 1 0 0 1),(3,.int .i64 t),(18,zb ps),(19,.int .i64 ps.length),(20,.int .i64 ps.length),(47,.int .i64 ps.length),(48,.int .i64 ps.length),(59,zb ps),(60,.int .i64 ps.length),(61,.int .i64 i)],[],hU ps,[]⟩:St)) (fun (j:Int)=>uo ps j≠none) (fun (j:Int) (st:St)=>yc 2 1 3 (wu 3 j ((uo ps j).getD 0)) st) (zp.exit 4,(⟨[(0,code ps),(1,.ptr 0 0 0 1),(2,.ptr 1 0 0 1),(3,.int .i64 t),(18,zb ps),(19,.int .i64 ps.length),(20,.int .i64 ps.length),(47,.int .i64 ps.length),(48,.int .i64 ps.length),(59,zb ps),(60,.int .i64 ps.length),(61,.int .i64 (ps.length))],[],hU ps,[]⟩:St)) (0) (ps.length) ?_ ?_ ?_ (0) (by omega) (by omega)
 ·intro i hi hn hp
  try simp only [Classical.not_not] at hp
  have hl:=zvo ps t i (za ps i) hb (hs i)
  have hp':uo ps i=none:=(by simpa using hp);unfold uo at hp';rw [hp'] at hl
  refine ⟨_,by simp -implicitDefEqProofs +contextual (disch:=omega) only [W8,z_, ↓XD,XU, ↓reduceIte,sevalprocAttr,hU,hP,code,zb,zc.cells,zf,ups,zj,zm,hl,hn,hp];rfl,by first|(simp [St.next,zW];done)|(simp [St.next,zW];omega)|(simp [St.next,trim,bare,zt,refs];done)⟩
 ·intro i hi hn hp
  have hl:=zvo ps t i (za ps i) hb (hs i)
  obtain ⟨k,hk⟩:=Option.ne_none_iff_exists'.1 hp;unfold uo at hk;rw [hk] at hl;obtain ⟨st,hl,hg⟩:=hl
  refine ⟨_,by simp -implicitDefEqProofs +contextual (disch:=omega) only [W8,z_, ↓XD,XU, ↓reduceIte,sevalprocAttr,hU,hP,code,zb,zc.cells,zf,ups,zj,zm,hl,hn,hp];rfl,by unfold uo;rw [hk];exact hg⟩
 ·rintro i hi rfl
  refine ⟨by simp -implicitDefEqProofs +contextual (disch:=omega) only [W8,z_, ↓XD,XU, ↓reduceIte,sevalprocAttr,hU,hP,code,zb,zc.cells,zf,ups,zj,zm,Int.lt_irrefl],by simp⟩
theorem zvp (ps:List zc) (t fi:Int) (f:zc) (hb:ps.length≤1048576) (hs:Xn f):match z8 (fun (j:Int)=>¬zg3 f (za f.Named j) j) 0 f.Named.length with|some j=>∃ st,EV A (.loop (yz 5)) (⟨[(0,code ps),(1,.ptr 0 0 0 1),(2,.ptr 1 0 0 1),(3,.int .i64 t),(18,zb ps),(19,.int .i64 ps.length),(20,.int .i64 ps.length),(47,.int .i64 ps.length),(48,.int .i64 ps.length),(59,zb ps),(60,.int .i64 ps.length),(61,.int .i64 ps.length),(83,zb ps),(84,.int .i64 ps.length),(85,.int .i64 fi),(12,.ptr 2 0 0 1),(11,.int .i64 fi),(92,.int .i64 f.Named.length),(93,.int .i64 (0))],[],hP ps f,[]⟩:St)=some (.ret,st)∧yc 2 1 3 (wu 4 fi j) st|none=>EV A (.loop (yz 5)) (⟨[(0,code ps),(1,.ptr 0 0 0 1),(2,.ptr 1 0 0 1),(3,.int .i64 t),(18,zb ps),(19,.int .i64 ps.length),(20,.int .i64 ps.length),(47,.int .i64 ps.length),(48,.int .i64 ps.length),(59,zb ps),(60,.int .i64 ps.length),(61,.int .i64 ps.length),(83,zb ps),(84,.int .i64 ps.length),(85,.int .i64 fi),(12,.ptr 2 0 0 1),(11,.int .i64 fi),(92,.int .i64 f.Named.length),(93,.int .i64 (0))],[],hP ps f,[]⟩:St)=some (zp.exit 10,(⟨[(0,code ps),(1,.ptr 0 0 0 1),(2,.ptr 1 0 0 1),(3,.int .i64 t),(18,zb ps),(19,.int .i64 ps.length),(20,.int .i64 ps.length),(47,.int .i64 ps.length),(48,.int .i64 ps.length),(59,zb ps),(60,.int .i64 ps.length),(61,.int .i64 ps.length),(83,zb ps),(84,.int .i64 ps.length),(85,.int .i64 fi),(12,.ptr 2 0 0 1),(11,.int .i64 fi),(92,.int .i64 f.Named.length),(93,.int .i64 (f.Named.length))],[],hP ps f,[]⟩:St)):=by
 refine yt (fun i=>(⟨[(0,code ps),(1,.ptr 0 0 0 1),(2,.ptr 1 0 0 1),(3,.int .i64 t),(18,zb ps),(19,.int .i64 ps.length),(20,.int .i64 ps.length),(47,.int .i64 ps.length),(48,.int .i64 ps.length),(59,zb ps),(60,.int .i64 ps.length),(61,.int .i64 ps.length),(83,zb ps),(84,.int .i64 ps.length),(85,.int .i64 fi),(12,.ptr 2 0 0 1),(11,.int .i64 fi),(92,.int .i64 f.Named.length),(93,.int .i64 i)],[],hP ps f,[]⟩:St)) (fun (j:Int)=>¬zg3 f (za f.Named j) j) (fun (j:Int) (st:St)=>yc 2 1 3 (wu 4 fi j) st) (zp.exit 10,(⟨[(0,code ps),(1,.ptr 0 0 0 1),(2,.ptr 1 0 0 1),(3,.int .i64 t),(18,zb ps),(19,.int .i64 ps.length),(20,.int .i64 ps.length),(47,.int .i64 ps.length),(48,.int .i64 ps.length),(59,zb ps),(60,.int .i64 ps.length),(61,.int .i64 ps.length),(83,zb ps),(84,.int .i64 ps.length),(85,.int .i64 fi),(12,.ptr 2 0 0 1),(11,.int .i64 fi),(92,.int .i64 f.Named.length),(93,.int .i64 (f.Named.length))],[],hP ps f,[]⟩:St)) (0) (f.Named.length) ?_ ?_ ?_ (0) (by omega) (by omega)
 ·intro i hi hn hp
  try simp only [Classical.not_not] at hp
  have hh:=ze_ f i hs hi hn;have hc:=hs.n;simp only [zc.cells,ups,zf,zj,zm] at hh
  refine ⟨_,by simp -implicitDefEqProofs +contextual (disch:=omega) only [Va,z_, ↓XD,XU, ↓reduceIte,sevalprocAttr,hP,code,zb,zc.cells,ups,zf,zj,zm,yV,hh,hn,hp];rfl,by first|(simp [St.next,zW];done)|(simp [St.next,zW];omega)|(simp [St.next,trim,bare,zt,refs];done)⟩
 ·intro i hi hn hp
  have hh:=ze_ f i hs hi hn;have hc:=hs.n;simp only [zc.cells,ups,zf,zj,zm] at hh
  refine ⟨_,by simp -implicitDefEqProofs +contextual (disch:=omega) only [Va,z_, ↓XD,XU, ↓reduceIte,sevalprocAttr,hP,code,zb,zc.cells,ups,zf,zj,zm,yV,hh,hn,hp];rfl,by simp [yc,zk.get,zk.put]⟩
 ·rintro i hi rfl
  refine ⟨by simp -implicitDefEqProofs +contextual (disch:=omega) only [Va,z_, ↓XD,XU, ↓reduceIte,sevalprocAttr,hP,code,zb,zc.cells,ups,zf,zj,zm,yV,Int.lt_irrefl],by simp⟩
noncomputable abbrev ji (ps:List zc) (p:Int):Option Int:=z8 (fun k=>¬zg3 (za ps p) (za (za ps p).Named k) k) 0 (za ps p).Named.length
theorem zzo (ps:List zc) (t:Int) (hb:ps.length≤1048576) (hs:∀ p:Int,0≤p→p<ps.length→Xn (za ps p)):match z8 (fun (j:Int)=>ji ps j≠none) 0 ps.length with|some j=>∃ st,EV A (.loop (yz 4)) (⟨[(0,code ps),(1,.ptr 0 0 0 1),(2,.ptr 1 0 0 1),(3,.int .i64 t),(18,zb ps),(19,.int .i64 ps.length),(20,.int .i64 ps.length),(47,.int .i64 ps.length),(48,.int .i64 ps.length),(59,zb ps),(60,.int .i64 ps.length),(61,.int .i64 ps.length),(83,zb ps),(84,.int .i64 ps.length),(85,.int .i64 (0))],[],hU ps,[]⟩:St)=some (.ret,st)∧yc 2 1 3 (wu 4 j ((ji ps j).getD 0)) st|none=>EV A (.loop (yz 4)) (⟨[(0,code ps),(1,.ptr 0 0 0 1),(2,.ptr 1 0 0 1),(3,.int .i64 t),(18,zb ps),(19,.int .i64 ps.length),(20,.int .i64 ps.length),(47,.int .i64 ps.length),(48,.int .i64 ps.length),(59,zb ps),(60,.int .i64 ps.length),(61,.int .i64 ps.length),(83,zb ps),(84,.int .i64 ps.length),(85,.int .i64 (0))],[],hU ps,[]⟩:St)=some (zp.exit 8,(⟨[(0,code ps),(1,.ptr 0 0 0 1),(2,.ptr 1 0 0 1),(3,.int .i64 t),(18,zb ps),(19,.int .i64 ps.length),(20,.int .i64 ps.length),(47,.int .i64 ps.length),(48,.int .i64 ps.length),(59,zb ps),(60,.int .i64 ps.length),(61,.int .i64 ps.length),(83,zb ps),(84,.int .i64 ps.length),(85,.int .i64 (ps.length))],[],hU ps,[]⟩:St)):=by
 refine yt (fun i=>(⟨[(0,code ps),(1,.ptr 0 0 0 1),(2,.ptr 1 0 0 1),(3,.int .i64 t),(18,zb ps),(19,.int .i64 ps.length),(20,.int .i64 ps.length),(47,.int .i64 ps.length),(48,.int .i64 ps.length),(59,zb ps),(60,.int .i64 ps.length),(61,.int .i64 ps.length),(83,zb ps),(84,.int .i64 ps.length),(85,.int .i64 i)],[],hU ps,[]⟩:St)) (fun (j:Int)=>ji ps j≠none) (fun (j:Int) (st:St)=>yc 2 1 3 (wu 4 j ((ji ps j).getD 0)) st) (zp.exit 8,(⟨[(0,code ps),(1,.ptr 0 0 0 1),(2,.ptr 1 0 0 1),(3,.int .i64 t),(18,zb ps),(19,.int .i64 ps.length),(20,.int .i64 ps.length),(47,.int .i64 ps.length),(48,.int .i64 ps.length),(59,zb ps),(60,.int .i64 ps.length),(61,.int .i64 ps.length),(83,zb ps),(84,.int .i64 ps.length),(85,.int .i64 (ps.length))],[],hU ps,[]⟩:St)) (0) (ps.length) ?_ ?_ ?_ (0) (by omega) (by omega)
 ·intro i hi hn hp
  try simp only [Classical.not_not] at hp
  have hl:=zvp ps t i (za ps i) hb (hs i hi hn)
  have hp':ji ps i=none:=(by simpa using hp);unfold ji at hp';rw [hp'] at hl
  refine ⟨_,by simp -implicitDefEqProofs +contextual (disch:=omega) only [W_,z_, ↓XD,XU, ↓reduceIte,sevalprocAttr,hU,hP,code,zb,zc.cells,zf,ups,zj,zm,hl,hn,hp];rfl,by first|(simp [St.next,zW];done)|(simp [St.next,zW];omega)|(simp [St.next,trim,bare,zt,refs];done)⟩
 ·intro i hi hn hp
  have hl:=zvp ps t i (za ps i) hb (hs i hi hn)
  obtain ⟨k,hk⟩:=Option.ne_none_iff_exists'.1 hp;unfold ji at hk;rw [hk] at hl;obtain ⟨st,hl,hg⟩:=hl
  refine ⟨_,by simp -implicitDefEqProofs +contextual (disch:=omega) only [W_,z_, ↓XD,XU, ↓reduceIte,sevalprocAttr,hU,hP,code,zb,zc.cells,zf,ups,zj,zm,hl,hn,hp];rfl,by unfold ji;rw [hk];exact hg⟩
 ·rintro i hi rfl
  refine ⟨by simp -implicitDefEqProofs +contextual (disch:=omega) only [W_,z_, ↓XD,XU, ↓reduceIte,sevalprocAttr,hU,hP,code,zb,zc.cells,zf,ups,zj,zm,Int.lt_irrefl],by simp⟩
theorem zvq (ps:List zc) (t fi:Int) (f0:0≤fi) (f1:fi<ps.length) (hb:ps.length≤1048576) (hs:Xn (za ps fi)):match z8 (fun (j:Int)=>¬jg ps fi j) 0 (za ps fi).Ins.length with|some j=>∃ st,EV A (.loop (yz 7)) (⟨[(0,code ps),(1,.ptr 0 0 0 1),(2,.ptr 1 0 0 1),(3,.int .i64 t),(18,zb ps),(19,.int .i64 ps.length),(20,.int .i64 ps.length),(47,.int .i64 ps.length),(48,.int .i64 ps.length),(59,zb ps),(60,.int .i64 ps.length),(61,.int .i64 ps.length),(83,zb ps),(84,.int .i64 ps.length),(85,.int .i64 ps.length),(106,zb ps),(107,.int .i64 ps.length),(108,.int .i64 fi),(15,.ptr 2 0 0 1),(14,.int .i64 fi),(121,.int .i64 (za ps fi).Ins.length),(122,.int .i64 (0))],[],hP ps (za ps fi),[]⟩:St)=some (.ret,st)∧yc 2 1 3 (wu 5 fi j) st|none=>EV A (.loop (yz 7)) (⟨[(0,code ps),(1,.ptr 0 0 0 1),(2,.ptr 1 0 0 1),(3,.int .i64 t),(18,zb ps),(19,.int .i64 ps.length),(20,.int .i64 ps.length),(47,.int .i64 ps.length),(48,.int .i64 ps.length),(59,zb ps),(60,.int .i64 ps.length),(61,.int .i64 ps.length),(83,zb ps),(84,.int .i64 ps.length),(85,.int .i64 ps.length),(106,zb ps),(107,.int .i64 ps.length),(108,.int .i64 fi),(15,.ptr 2 0 0 1),(14,.int .i64 fi),(121,.int .i64 (za ps fi).Ins.length),(122,.int .i64 (0))],[],hP ps (za ps fi),[]⟩:St)=some (zp.exit 14,(⟨[(0,code ps),(1,.ptr 0 0 0 1),(2,.ptr 1 0 0 1),(3,.int .i64 t),(18,zb ps),(19,.int .i64 ps.length),(20,.int .i64 ps.length),(47,.int .i64 ps.length),(48,.int .i64 ps.length),(59,zb ps),(60,.int .i64 ps.length),(61,.int .i64 ps.length),(83,zb ps),(84,.int .i64 ps.length),(85,.int .i64 ps.length),(106,zb ps),(107,.int .i64 ps.length),(108,.int .i64 fi),(15,.ptr 2 0 0 1),(14,.int .i64 fi),(121,.int .i64 (za ps fi).Ins.length),(122,.int .i64 ((za ps fi).Ins.length))],[],hP ps (za ps fi),[]⟩:St)):=by
 refine yt (fun i=>(⟨[(0,code ps),(1,.ptr 0 0 0 1),(2,.ptr 1 0 0 1),(3,.int .i64 t),(18,zb ps),(19,.int .i64 ps.length),(20,.int .i64 ps.length),(47,.int .i64 ps.length),(48,.int .i64 ps.length),(59,zb ps),(60,.int .i64 ps.length),(61,.int .i64 ps.length),(83,zb ps),(84,.int .i64 ps.length),(85,.int .i64 ps.length),(106,zb ps),(107,.int .i64 ps.length),(108,.int .i64 fi),(15,.ptr 2 0 0 1),(14,.int .i64 fi),(121,.int .i64 (za ps fi).Ins.length),(122,.int .i64 i)],[],hP ps (za ps fi),[]⟩:St)) (fun (j:Int)=>¬jg ps fi j) (fun (j:Int) (st:St)=>yc 2 1 3 (wu 5 fi j) st) (zp.exit 14,(⟨[(0,code ps),(1,.ptr 0 0 0 1),(2,.ptr 1 0 0 1),(3,.int .i64 t),(18,zb ps),(19,.int .i64 ps.length),(20,.int .i64 ps.length),(47,.int .i64 ps.length),(48,.int .i64 ps.length),(59,zb ps),(60,.int .i64 ps.length),(61,.int .i64 ps.length),(83,zb ps),(84,.int .i64 ps.length),(85,.int .i64 ps.length),(106,zb ps),(107,.int .i64 ps.length),(108,.int .i64 fi),(15,.ptr 2 0 0 1),(14,.int .i64 fi),(121,.int .i64 (za ps fi).Ins.length),(122,.int .i64 ((za ps fi).Ins.length))],[],hP ps (za ps fi),[]⟩:St)) (0) ((za ps fi).Ins.length) ?_ ?_ ?_ (0) (by omega) (by omega)
 ·intro i hi hn hp
  try simp only [Classical.not_not] at hp
  have hh:=zh0 ps fi i f0 f1 hb hs hi hn;have hc:=hs.i;simp only [code,zb] at hh
  refine ⟨_,by simp -implicitDefEqProofs +contextual (disch:=omega) only [Vb,z_, ↓XD,XU, ↓reduceIte,sevalprocAttr,hP,code,zb,yV,hh,hn,hp];rfl,by first|(simp [St.next,zW];done)|(simp [St.next,zW];omega)|(simp [St.next,trim,bare,zt,refs];done)⟩
 ·intro i hi hn hp
  have hh:=zh0 ps fi i f0 f1 hb hs hi hn;have hc:=hs.i;simp only [code,zb] at hh
  refine ⟨_,by simp -implicitDefEqProofs +contextual (disch:=omega) only [Vb,z_, ↓XD,XU, ↓reduceIte,sevalprocAttr,hP,code,zb,yV,hh,hn,hp];rfl,by simp [yc,zk.get,zk.put]⟩
 ·rintro i hi rfl
  refine ⟨by simp -implicitDefEqProofs +contextual (disch:=omega) only [Vb,z_, ↓XD,XU, ↓reduceIte,sevalprocAttr,hP,code,zb,yV,Int.lt_irrefl],by simp⟩
noncomputable abbrev v4 (ps:List zc) (p:Int):Option Int:=if (za ps p).Ins.length=0 then some 0 else z8 (fun k=>¬jg ps p k) 0 (za ps p).Ins.length
theorem zzp (ps:List zc) (t:Int) (hb:ps.length≤1048576) (hs:∀ p:Int,0≤p→p<ps.length→Xn (za ps p)):match z8 (fun (j:Int)=>v4 ps j≠none) 0 ps.length with|some j=>∃ st,EV A (.loop (yz 6)) (⟨[(0,code ps),(1,.ptr 0 0 0 1),(2,.ptr 1 0 0 1),(3,.int .i64 t),(18,zb ps),(19,.int .i64 ps.length),(20,.int .i64 ps.length),(47,.int .i64 ps.length),(48,.int .i64 ps.length),(59,zb ps),(60,.int .i64 ps.length),(61,.int .i64 ps.length),(83,zb ps),(84,.int .i64 ps.length),(85,.int .i64 ps.length),(106,zb ps),(107,.int .i64 ps.length),(108,.int .i64 (0))],[],hU ps,[]⟩:St)=some (.ret,st)∧yc 2 1 3 (wu 5 j ((v4 ps j).getD 0)) st|none=>EV A (.loop (yz 6)) (⟨[(0,code ps),(1,.ptr 0 0 0 1),(2,.ptr 1 0 0 1),(3,.int .i64 t),(18,zb ps),(19,.int .i64 ps.length),(20,.int .i64 ps.length),(47,.int .i64 ps.length),(48,.int .i64 ps.length),(59,zb ps),(60,.int .i64 ps.length),(61,.int .i64 ps.length),(83,zb ps),(84,.int .i64 ps.length),(85,.int .i64 ps.length),(106,zb ps),(107,.int .i64 ps.length),(108,.int .i64 (0))],[],hU ps,[]⟩:St)=some (zp.exit 12,(⟨[(0,code ps),(1,.ptr 0 0 0 1),(2,.ptr 1 0 0 1),(3,.int .i64 t),(18,zb ps),(19,.int .i64 ps.length),(20,.int .i64 ps.length),(47,.int .i64 ps.length),(48,.int .i64 ps.length),(59,zb ps),(60,.int .i64 ps.length),(61,.int .i64 ps.length),(83,zb ps),(84,.int .i64 ps.length),(85,.int .i64 ps.length),(106,zb ps),(107,.int .i64 ps.length),(108,.int .i64 (ps.length))],[],hU ps,[]⟩:St)):=by
 refine yt (fun i=>(⟨[(0,code ps),(1,.ptr 0 0 0 1),(2,.ptr 1 0 0 1),(3,.int .i64 t),(18,zb ps),(19,.int .i64 ps.length),(20,.int .i64 ps.length),(47,.int .i64 ps.length),(48,.int .i64 ps.length),(59,zb ps),(60,.int .i64 ps.length),(61,.int .i64 ps.length),(83,zb ps),(84,.int .i64 ps.length),(85,.int .i64 ps.length),(106,zb ps),(107,.int .i64 ps.length),(108,.int .i64 i)],[],hU ps,[]⟩:St)) (fun (j:Int)=>v4 ps j≠none) (fun (j:Int) (st:St)=>yc 2 1 3 (wu 5 j ((v4 ps j).getD 0)) st) (zp.exit 12,(⟨[(0,code ps),(1,.ptr 0 0 0 1),(2,.ptr 1 0 0 1),(3,.int .i64 t),(18,zb ps),(19,.int .i64 ps.length),(20,.int .i64 ps.length),(47,.int .i64 ps.length),(48,.int .i64 ps.length),(59,zb ps),(60,.int .i64 ps.length),(61,.int .i64 ps.length),(83,zb ps),(84,.int .i64 ps.length),(85,.int .i64 ps.length),(106,zb ps),(107,.int .i64 ps.length),(108,.int .i64 (ps.length))],[],hU ps,[]⟩:St)) (0) (ps.length) ?_ ?_ ?_ (0) (by omega) (by omega)
 ·intro i hi hn hp
  have hl:=zvq ps t i hi hn hb (hs i hi hn);have e0:((za ps i).Ins.length:Int)=0↔(za ps i).Ins.length=0:=by omega
  have hp':v4 ps i=none:=(by simpa using hp)
  unfold v4 at hp'
  by_cases hz:(za ps i).Ins.length=0
  ·rw [if_pos hz] at hp';exact absurd hp' (by simp)
  ·rw [if_neg hz] at hp'
   rw [hp'] at hl
   refine ⟨_,by (simp -implicitDefEqProofs +contextual (disch:=omega) only [ZO,z_,hU,hP,code,zb,zc.cells,ups,zf,zj,zm, ↓XD,XU, ↓reduceIte,sevalprocAttr,hn,hz,e0,hl])<;>rfl,by simp [St.next,trim,bare,zt,refs]⟩
 ·intro i hi hn hp
  have hl:=zvq ps t i hi hn hb (hs i hi hn);have e0:((za ps i).Ins.length:Int)=0↔(za ps i).Ins.length=0:=by omega
  obtain ⟨k,hk⟩:=Option.ne_none_iff_exists'.1 hp
  unfold v4 at hk
  by_cases hz:(za ps i).Ins.length=0
  ·refine ⟨_,by (simp -implicitDefEqProofs +contextual (disch:=omega) only [ZO,z_,hU,hP,code,zb,zc.cells,ups,zf,zj,zm, ↓XD,XU, ↓reduceIte,sevalprocAttr,hn,hz,e0,yV])<;>rfl,by unfold v4;rw [if_pos hz];simp [yc,zk.get,zk.put]⟩
  ·rw [if_neg hz] at hk
   rw [hk] at hl
   obtain ⟨st,hl,hg⟩:=hl
   refine ⟨_,by (simp -implicitDefEqProofs +contextual (disch:=omega) only [ZO,z_,hU,hP,code,zb,zc.cells,ups,zf,zj,zm, ↓XD,XU, ↓reduceIte,sevalprocAttr,hn,hz,e0,hl])<;>rfl,by unfold v4;rw [if_neg hz,hk];exact hg⟩
 ·rintro i hi rfl
  refine ⟨by simp -implicitDefEqProofs +contextual (disch:=omega) only [ZO,z_, ↓XD,XU, ↓reduceIte,sevalprocAttr,hU,code,zb,Int.lt_irrefl],by simp⟩
theorem zjz (c f n:Int):EP A Kd [.agg (wu c f n),.agg (wu c f n)]=some (.bool true):=by
 simp -implicitDefEqProofs +contextual (disch:=omega) only [ze6,zfU,zeK, ↓XD,XU, ↓reduceIte,sevalprocAttr]
theorem zue:Ieee.double.read 4607182418800017408=.number false 4503599627370496 (-52):=by decide
theorem zv9 (x:Nat) (h:FloatKind.f64.format.order x 0=some .eq):∃ r,FloatKind.f64.format.div 4607182418800017408 x=some r:=by
 have h':(Ieee.double.read x).order (Ieee.double.read 0)=some .eq:=h
 show ∃ r,(Ieee.Datum.quotient (Ieee.double.fractionBits+2) (Ieee.double.read 4607182418800017408) (Ieee.double.read x)).map Ieee.double.write=some r
 rw [zue]
 cases hx:Ieee.double.read x with
 |nan s n=>rw [hx] at h';cases h'
 |infinity s=>exact ⟨_,rfl⟩
 |number s m i=>
  simp only [Ieee.Datum.quotient]
  split
  ·exact ⟨_,rfl⟩
  ·exact ⟨_,rfl⟩
theorem zs' (k:FloatKind) (x y r:Nat) (h:k.format.div x y=some r):Av.bin .quo (.flt k x) (.flt k y)=some (.flt k r):=by simp [Av.bin,UX,h]
theorem zlZ (x:Nat):EP A QN [.flt .f64 x,.flt .f64 x]=some (.bool true):=by
 by_cases h0:FloatKind.f64.format.order x x=some .eq
 ·by_cases h:FloatKind.f64.format.order x 0=some .eq
  ·obtain ⟨r,hr⟩:=zv9 x h
   have hq:=zs' .f64 4607182418800017408 x r hr
   simp -implicitDefEqProofs +contextual (disch:=omega) only [V0,Uf,W4, ↓XD,XU, ↓reduceIte,sevalprocAttr,h0,h,hq]
  ·simp -implicitDefEqProofs +contextual (disch:=omega) only [V0,Uf,W4, ↓XD,XU, ↓reduceIte,sevalprocAttr,h0,h]
 ·simp -implicitDefEqProofs +contextual (disch:=omega) only [V0,Uf,W4, ↓XD,XU, ↓reduceIte,sevalprocAttr,h0]
theorem zwb (u:Up):EP A zgC [.agg u.cells,.agg u.cells]=some (.bool true):=by
 simp -implicitDefEqProofs +contextual (disch:=omega) only [znv,zor,zmK,Up.cells, ↓XD,XU, ↓reduceIte,sevalprocAttr]
theorem zwF (l:List Up) (hb:l.length≤1048576) (a0:Unit) (hok0:True):EV A (.loop (Qi 0)) (⟨[(0,.fz (l.map Up.cells)),(1,.fz (l.map Up.cells)),(4,.bool false),(5,.int .i64 (0))],[],[],[]⟩:St)=some (zp.exit 0,(⟨[(0,.fz (l.map Up.cells)),(1,.fz (l.map Up.cells)),(4,.bool false),(5,.int .i64 (l.length))],[],[],[]⟩:St))∧True:=by
 refine vk (fun i (a:Unit)=>(⟨[(0,.fz (l.map Up.cells)),(1,.fz (l.map Up.cells)),(4,.bool false),(5,.int .i64 i)],[],[],[]⟩:St)) (fun (i:Int) (a:Unit)=>a) (fun i (a:Unit)=>True) (fun a=>(zp.exit 0,(⟨[(0,.fz (l.map Up.cells)),(1,.fz (l.map Up.cells)),(4,.bool false),(5,.int .i64 (l.length))],[],[],[]⟩:St))) (0) (l.length) ?_ ?_ (0) a0 (by omega) (by omega) hok0
 ·intro i a hi hn hok
  have hg:=zwb (za l i);simp only [Up.cells] at hg
  refine ⟨⟨_,by simp -implicitDefEqProofs +contextual (disch:=omega) only [zaR,KD, ↓XD,XU, ↓reduceIte,sevalprocAttr,Up.cells,hg,hn,hok];rfl,by first|(simp [St.next,zW];done)|(simp [St.next,zW];omega)|(simp [St.next,trim,bare,zt,refs];done)⟩,by trivial⟩
 ·rintro i a hi rfl hok
  refine ⟨by simp -implicitDefEqProofs +contextual (disch:=omega) only [zaR,KD, ↓XD,XU, ↓reduceIte,sevalprocAttr,Up.cells,Int.lt_irrefl,hok],by simp⟩
theorem ztl (l:List Up) (hb:l.length≤1048576):EP A zft [.fz (l.map Up.cells),.fz (l.map Up.cells)]=some (.bool true):=by
 have hl:=(zwF l hb () trivial).1
 simp -implicitDefEqProofs +contextual (disch:=omega) only [zlT,zm5,KD, ↓XD,XU, ↓reduceIte,sevalprocAttr,hl]
theorem zpv (u:yk):EP A zch [.agg u.cells,.agg u.cells]=some (.bool true):=by
 simp -implicitDefEqProofs +contextual (disch:=omega) only [zjr,zj6,ziw,yk.cells, ↓XD,XU, ↓reduceIte,sevalprocAttr,zlZ]
theorem zp7 (l:List yk) (hb:l.length≤1048576) (a0:Unit) (hok0:True):EV A (.loop (UE 0)) (⟨[(0,.fz (l.map yk.cells)),(1,.fz (l.map yk.cells)),(4,.bool false),(5,.int .i64 (0))],[],[],[]⟩:St)=some (zp.exit 0,(⟨[(0,.fz (l.map yk.cells)),(1,.fz (l.map yk.cells)),(4,.bool false),(5,.int .i64 (l.length))],[],[],[]⟩:St))∧True:=by
 refine vk (fun i (a:Unit)=>(⟨[(0,.fz (l.map yk.cells)),(1,.fz (l.map yk.cells)),(4,.bool false),(5,.int .i64 i)],[],[],[]⟩:St)) (fun (i:Int) (a:Unit)=>a) (fun i (a:Unit)=>True) (fun a=>(zp.exit 0,(⟨[(0,.fz (l.map yk.cells)),(1,.fz (l.map yk.cells)),(4,.bool false),(5,.int .i64 (l.length))],[],[],[]⟩:St))) (0) (l.length) ?_ ?_ (0) a0 (by omega) (by omega) hok0
 ·intro i a hi hn hok
  have hg:=zpv (za l i);simp only [yk.cells] at hg
  refine ⟨⟨_,by simp -implicitDefEqProofs +contextual (disch:=omega) only [Kk,V_, ↓XD,XU, ↓reduceIte,sevalprocAttr,yk.cells,hg,hn,hok];rfl,by first|(simp [St.next,zW];done)|(simp [St.next,zW];omega)|(simp [St.next,trim,bare,zt,refs];done)⟩,by trivial⟩
 ·rintro i a hi rfl hok
  refine ⟨by simp -implicitDefEqProofs +contextual (disch:=omega) only [Kk,V_, ↓XD,XU, ↓reduceIte,sevalprocAttr,yk.cells,Int.lt_irrefl,hok],by simp⟩
theorem znA (l:List yk) (hb:l.length≤1048576):EP A zaA [.fz (l.map yk.cells),.fz (l.map yk.cells)]=some (.bool true):=by
 have hl:=(zp7 l hb () trivial).1
 simp -implicitDefEqProofs +contextual (disch:=omega) only [zhN,ziW,V_, ↓XD,XU, ↓reduceIte,sevalprocAttr,hl]
theorem ztk (u:Ins):EP A zfs [.agg u.cells,.agg u.cells]=some (.bool true):=by
 simp -implicitDefEqProofs +contextual (disch:=omega) only [zlS,zm4,zk5,Ins.cells, ↓XD,XU, ↓reduceIte,sevalprocAttr]
theorem zt6 (l:List Ins) (hb:l.length≤1048576) (a0:Unit) (hok0:True):EV A (.loop (Kq 0)) (⟨[(0,.fz (l.map Ins.cells)),(1,.fz (l.map Ins.cells)),(4,.bool false),(5,.int .i64 (0))],[],[],[]⟩:St)=some (zp.exit 0,(⟨[(0,.fz (l.map Ins.cells)),(1,.fz (l.map Ins.cells)),(4,.bool false),(5,.int .i64 (l.length))],[],[],[]⟩:St))∧True:=by
 refine vk (fun i (a:Unit)=>(⟨[(0,.fz (l.map Ins.cells)),(1,.fz (l.map Ins.cells)),(4,.bool false),(5,.int .i64 i)],[],[],[]⟩:St)) (fun (i:Int) (a:Unit)=>a) (fun i (a:Unit)=>True) (fun a=>(zp.exit 0,(⟨[(0,.fz (l.map Ins.cells)),(1,.fz (l.map Ins.cells)),(4,.bool false),(5,.int .i64 (l.length))],[],[],[]⟩:St))) (0) (l.length) ?_ ?_ (0) a0 (by omega) (by omega) hok0
 ·intro i a hi hn hok
  have hg:=ztk (za l i);simp only [Ins.cells] at hg
  refine ⟨⟨_,by simp -implicitDefEqProofs +contextual (disch:=omega) only [Q1,JL, ↓XD,XU, ↓reduceIte,sevalprocAttr,Ins.cells,hg,hn,hok];rfl,by first|(simp [St.next,zW];done)|(simp [St.next,zW];omega)|(simp [St.next,trim,bare,zt,refs];done)⟩,by trivial⟩
 ·rintro i a hi rfl hok
  refine ⟨by simp -implicitDefEqProofs +contextual (disch:=omega) only [Q1,JL, ↓XD,XU, ↓reduceIte,sevalprocAttr,Ins.cells,Int.lt_irrefl,hok],by simp⟩
theorem zro (l:List Ins) (hb:l.length≤1048576):EP A zd8 [.fz (l.map Ins.cells),.fz (l.map Ins.cells)]=some (.bool true):=by
 have hl:=(zt6 l hb () trivial).1
 simp -implicitDefEqProofs +contextual (disch:=omega) only [zkT,zlb,JL, ↓XD,XU, ↓reduceIte,sevalprocAttr,hl]
theorem zpt (u:xn):EP A zcf [.agg u.cells,.agg u.cells]=some (.bool true):=by
 simp -implicitDefEqProofs +contextual (disch:=omega) only [zjp,zj4,ziu,xn.cells, ↓XD,XU, ↓reduceIte,sevalprocAttr]
theorem zp6 (l:List xn) (hb:l.length≤1048576) (a0:Unit) (hok0:True):EV A (.loop (UC 0)) (⟨[(0,.fz (l.map xn.cells)),(1,.fz (l.map xn.cells)),(4,.bool false),(5,.int .i64 (0))],[],[],[]⟩:St)=some (zp.exit 0,(⟨[(0,.fz (l.map xn.cells)),(1,.fz (l.map xn.cells)),(4,.bool false),(5,.int .i64 (l.length))],[],[],[]⟩:St))∧True:=by
 refine vk (fun i (a:Unit)=>(⟨[(0,.fz (l.map xn.cells)),(1,.fz (l.map xn.cells)),(4,.bool false),(5,.int .i64 i)],[],[],[]⟩:St)) (fun (i:Int) (a:Unit)=>a) (fun i (a:Unit)=>True) (fun a=>(zp.exit 0,(⟨[(0,.fz (l.map xn.cells)),(1,.fz (l.map xn.cells)),(4,.bool false),(5,.int .i64 (l.length))],[],[],[]⟩:St))) (0) (l.length) ?_ ?_ (0) a0 (by omega) (by omega) hok0
 ·intro i a hi hn hok
  have hg:=zpt (za l i);simp only [xn.cells] at hg
  refine ⟨⟨_,by simp -implicitDefEqProofs +contextual (disch:=omega) only [Ki,V8, ↓XD,XU, ↓reduceIte,sevalprocAttr,xn.cells,hg,hn,hok];rfl,by first|(simp [St.next,zW];done)|(simp [St.next,zW];omega)|(simp [St.next,trim,bare,zt,refs];done)⟩,by trivial⟩
 ·rintro i a hi rfl hok
  refine ⟨by simp -implicitDefEqProofs +contextual (disch:=omega) only [Ki,V8, ↓XD,XU, ↓reduceIte,sevalprocAttr,xn.cells,Int.lt_irrefl,hok],by simp⟩
theorem zny (l:List xn) (hb:l.length≤1048576):EP A zay [.fz (l.map xn.cells),.fz (l.map xn.cells)]=some (.bool true):=by
 have hl:=(zp6 l hb () trivial).1
 simp -implicitDefEqProofs +contextual (disch:=omega) only [zhL,ziU,V8, ↓XD,XU, ↓reduceIte,sevalprocAttr,hl]
theorem zpu (f:zc) (h:zdj f):EP A zcg [.agg f.cells,.agg f.cells]=some (.bool true):=by
 have g1:=ztl f.Ups h.u
 have g2:=znA f.Consts h.c
 have g3:=zro f.Ins h.i
 have g4:=zny f.Named h.n
 simp -implicitDefEqProofs +contextual (disch:=omega) only [zjq,zj5,ziv,zc.cells,ups,zf,zj,zm, ↓XD,XU, ↓reduceIte,sevalprocAttr,g1,g2,g3,g4]
theorem zt5 (l:List zc) (hb:l.length≤1048576) (hs:uK l) (a0:Unit) (hok0:True):EV A (.loop (UD 0)) (⟨[(0,.fz (l.map zc.cells)),(1,.fz (l.map zc.cells)),(4,.bool false),(5,.int .i64 (0))],[],[],[]⟩:St)=some (zp.exit 0,(⟨[(0,.fz (l.map zc.cells)),(1,.fz (l.map zc.cells)),(4,.bool false),(5,.int .i64 (l.length))],[],[],[]⟩:St))∧True:=by
 refine vk (fun i (a:Unit)=>(⟨[(0,.fz (l.map zc.cells)),(1,.fz (l.map zc.cells)),(4,.bool false),(5,.int .i64 i)],[],[],[]⟩:St)) (fun (i:Int) (a:Unit)=>a) (fun i (a:Unit)=>True) (fun a=>(zp.exit 0,(⟨[(0,.fz (l.map zc.cells)),(1,.fz (l.map zc.cells)),(4,.bool false),(5,.int .i64 (l.length))],[],[],[]⟩:St))) (0) (l.length) ?_ ?_ (0) a0 (by omega) (by omega) hok0
 ·intro i a hi hn hok
  have hg:=zpu (za l i) (hs i);simp only [zc.cells,ups,zf,zj,zm] at hg
  refine ⟨⟨_,by simp -implicitDefEqProofs +contextual (disch:=omega) only [Kj,V9, ↓XD,XU, ↓reduceIte,sevalprocAttr,zc.cells,ups,zf,zj,zm,hg,hn,hok];rfl,by first|(simp [St.next,zW];done)|(simp [St.next,zW];omega)|(simp [St.next,trim,bare,zt,refs];done)⟩,by trivial⟩
 ·rintro i a hi rfl hok
  refine ⟨by simp -implicitDefEqProofs +contextual (disch:=omega) only [Kj,V9, ↓XD,XU, ↓reduceIte,sevalprocAttr,zc.cells,ups,zf,zj,zm,Int.lt_irrefl,hok],by simp⟩
theorem znz (l:List zc) (hb:l.length≤1048576) (hs:uK l):EP A zaz [zb l,zb l]=some (.bool true):=by
 have hl:=(zt5 l hb hs () trivial).1
 simp -implicitDefEqProofs +contextual (disch:=omega) only [zhM,ziV,V9,zb, ↓XD,XU, ↓reduceIte,sevalprocAttr,hl]
theorem zrn (l:List zc) (hb:l.length≤1048576) (hs:uK l):EP A zd7 [code l,code l]=some (.bool true):=by
 have g:=znz l hb hs
 simp only [zb] at g
 simp -implicitDefEqProofs +contextual (disch:=omega) only [zkS,zla,zjS,code,zb, ↓XD,XU, ↓reduceIte,sevalprocAttr,g]
theorem zgN {c d:Int→Int}:∀ (m:Nat) (i:Int),(∀ k,i≤k→c k=d k)→va c m i=va d m i
 |0,_,_=>rfl
 |m+1,i,h=>by rw [va,va,h i (Int.le_refl _),zgN m (i+1) (fun k hk=>h k (by omega))]
theorem zgO (c:Int→Int):∀ (m:Nat) (i:Int),va c m (i+1)=va (fun k=>c (k+1)) m i
 |0,_=>rfl
 |m+1,i=>by rw [va,va,zgO c m (i+1)]
theorem zud {α:Type} [Inhabited α] (x:α) (l:List α) {k:Int} (h:0≤k):za (x::l) (k+1)=za l k:=by
 simp [za,List.getD,show (k+1).toNat=k.toNat+1 by omega]
theorem zsA {α:Type} [Inhabited α] (g:α→Nat) (c:α→Int) (h:∀ x,(g x:Int)≤c x):∀ l:List α,(((l.map g).sum:Nat):Int)≤va (fun k=>c (za l k)) l.length 0
 |[]=>by simp [va]
 |x::l=>by
  have ih:=zsA g c h l
  have hx:=h x
  rw [List.map_cons,List.sum_cons,List.length_cons,va,zgO]
  rw [zgN (d:=fun k=>c (za l k)) l.length 0 (fun k hk=>by rw [zud x l hk])]
  have:za (x::l) 0=x:=rfl
  rw [this]
  omega
theorem zrV {c:Int→Int} (hc:∀ i,0≤c i):∀ (m:Nat) (i j:Int),i≤j→j<i+m→c j≤va c m i
 |0,i,j,h1,h2=>by omega
 |m+1,i,j,h1,h2=>by
  have:=hc i
  have h3:=uw hc m (i+1)
  rw [va]
  by_cases h:i=j
  ·subst h;omega
  ·have:=zrV hc m (i+1) j (by omega) (by omega);omega
theorem zwM {α β:Type} [Inhabited α] [Inhabited β] (f:α→β) (l:List α) {i:Int} (h0:0≤i) (h1:i<l.length):za (l.map f) i=f (za l i):=by
 rw [zcA h0 h1,zcA h0 (by simpa using h1)];simp
theorem zwK {α:Type} [Inhabited α] {l:List α} {i:Int} (h:¬(0≤i∧i<l.length)):za l i=default∨(¬0≤i∧za l i=za l 0):=by
 by_cases h0:0≤i
 ·left;exact zga h0 (by omega)
 ·right;exact ⟨h0,by simp [za,show i.toNat=0 by omega]⟩
theorem Wd {α:Type} [Inhabited α] {l:List α} {p:α→Prop} (hd:p default) (h:∀ i:Int,0≤i→i<l.length→p (za l i)) (i:Int):p (za l i):=by
 by_cases hi:0≤i∧i<l.length
 ·exact h i hi.1 hi.2
 ·rcases zwK hi with e|⟨h0,e⟩
  ·rw [e];exact hd
  ·rw [e]
   by_cases hl:(0:Int)<l.length
   ·exact h 0 (by omega) hl
   ·rw [zga (by omega) (by omega)];exact hd
theorem zsB {f:zG} (h:vI f≤1048576):Qk f:=by
 have h1:=VD (ol f.Consts)
 have h2:=VC (ol f.Named)
 simp only [vI] at h
 exact ⟨by omega,by omega,by omega,by omega⟩
theorem ziM {l:List zG} (h:ja l≤1048576) (i:Int):Qk (za l i):=by
 refine Wd (p:=Qk) ⟨by decide,by decide,by decide,by decide⟩ (fun i h0 h1=>zsB ?_) i
 have:=zrV (c:=fun k=>vI (za l k)) (fun k=>Wr _) l.length 0 i h0 (by omega)
 simp only [ja] at h
 try dsimp only at this
 omega
theorem zmW {l:List zG} (h:ja l≤1048576):l.length≤1048576∧vr (l.map zG.to)≤1048576:=by
 have h1:=uw (c:=fun k=>vI (za l k)) (fun k=>Wr _) l.length 0
 have h2:=zsA (fun f:zG=>(ol f.Ins).length) vI (fun f=>by
  have:=VD (ol f.Consts);have:=VC (ol f.Named)
  simp only [vI];omega) l
 simp only [ja] at h
 refine ⟨by omega,?_⟩
 rw [vr,List.map_map]
 have e:(l.map ((fun f:zc=>f.Ins.length) ∘ zG.to))=l.map fun f:zG=>(ol f.Ins).length:=List.map_congr_left fun f _=>by simp [zG.to]
 rw [e]
 omega
structure zbv (q:zG):Prop where
 f:∀ k:Int,(za (ol q.Consts) k).Flt<2 ^ 64
 x:∀ k j:Int, -9223372036854775808≤za [(za (ol q.Ins) k).A,(za (ol q.Ins) k).B,(za (ol q.Ins) k).C,(za (ol q.Ins) k).D] j∧za [(za (ol q.Ins) k).A,(za (ol q.Ins) k).B,(za (ol q.Ins) k).C,(za (ol q.Ins) k).D] j<9223372036854775808
theorem Qc {α:Type} [Inhabited α] (k:Int):za ([]:List α) k=default:=by simp [za,List.getD]
theorem zsx {l:List zG} (h:ja l≤1048576) (hg:∀ i:Int,zbv (za l i)):uK (l.map zG.to):=by
 intro j
 refine Wd (l:=l.map zG.to) (p:=zdj) ⟨by decide,by decide,by decide,by decide,fun k=>?_,fun k j=>?_⟩ (fun i h0 h1=>?_) j
 ·rw [show (default:zc).Consts=[] from rfl,Qc];decide
 ·rw [show (default:zc).Ins=[] from rfl,Qc]
  exact Wd (l:=[(default:Ins).A,(default:Ins).B,(default:Ins).C,(default:Ins).D]) (p:=fun x:Int=> -9223372036854775808≤x∧x<9223372036854775808) (by decide) (fun i i0 i1=>by
   have:i=0∨i=1∨i=2∨i=3:=by simp at i1;omega
   rcases this with rfl|rfl|rfl|rfl<;>decide) j
 rw [List.length_map] at h1
 rw [zwM zG.to l h0 h1]
 have hs:=ziM h i
 exact ⟨by simpa [zG.to] using hs.u,by simpa [zG.to] using hs.c,by simpa [zG.to] using hs.i,by simpa [zG.to] using hs.n,(hg i).f,(hg i).x⟩
def Big (ps:List zc):Prop:=(ps.length=0∨200<(ps.length:Int))∨6000<vr ps
noncomputable abbrev uS (ps:List zc):Option Int:=z8 (fun p=>¬jr (za ps p) p) 0 ps.length
noncomputable abbrev j_ (ps:List zc):Option Int:=z8 (fun j=>uo ps j≠none) 0 ps.length
noncomputable abbrev kU (ps:List zc):Option Int:=z8 (fun j=>ji ps j≠none) 0 ps.length
noncomputable abbrev XJ (ps:List zc):Option Int:=z8 (fun j=>v4 ps j≠none) 0 ps.length
noncomputable def parts (ps:List zc):Int×Int×Int:=if Big ps then (1,0,0) else match uS ps with
 |some f=>(2,f,0)
 |none=>match j_ ps with
  |some f=>(3,f,(uo ps f).getD 0)
  |none=>match kU ps with
   |some f=>(4,f,(ji ps f).getD 0)
   |none=>match XJ ps with
    |some f=>(5,f,(v4 ps f).getD 0)
    |none=>(0,0,0)
theorem zfk {ps:List zc} (hs:uK ps) (h:uS ps=none) (p:Int) (p0:0≤p) (p1:p<ps.length):Xn (za ps p):=
 (Classical.not_not.1 (y7.1 h p p0 p1)).pok (hs p)
theorem zpC (ps:List zc) (hb:ps.length≤1048576) (ht:vr ps≤1048576) (hs:uK ps):EP A zct [code ps]=some (fl3 (parts ps)):=by
 obtain ⟨e0,k0⟩:=zzl ps hb ht 0 (by simp [wV])
 simp only [k0] at e0
 have hT:wV ps (ps.length:Int).toNat=vr ps:=by rw [wV,vr];simp
 rw [hT] at e0
 have e1:=zzm ps (vr ps) hb hs
 have e2:=zzn ps (vr ps) hb hs
 have z0:((ps.length:Int)=0)=(ps.length=0):=by rw [eq_iff_iff];omega
 by_cases hB:Big ps
 ·have hB':=hB
  rw [Big] at hB
  simp -implicitDefEqProofs +contextual (disch:=omega) only [kj,ko,z_,code,zb, ↓XD,XU, ↓reduceIte,sevalprocAttr,yV,e0,z0,hB]
  simp [parts,hB']
 ·have hB':=hB
  rw [Big] at hB
  cases h1:uS ps with
  |some f=>
   unfold uS at h1
   rw [h1] at e1
   obtain ⟨st,e1,g1,g2⟩:=e1
   simp -implicitDefEqProofs +contextual (disch:=omega) only [kj,ko,z_,code,zb, ↓XD,XU, ↓reduceIte,sevalprocAttr,yV,e0,z0,hB,e1,g1,g2]
   simp [parts,hB',uS,h1]
  |none=>
   have hk:=zfk hs h1
   have e4:=zzo ps (vr ps) hb hk
   have e6:=zzp ps (vr ps) hb hk
   unfold uS at h1
   rw [h1] at e1
   cases h2:j_ ps with
   |some f=>
    unfold j_ at h2
    rw [h2] at e2
    obtain ⟨st,e2,g1,g2⟩:=e2
    simp -implicitDefEqProofs +contextual (disch:=omega) only [kj,ko,z_,code,zb, ↓XD,XU, ↓reduceIte,sevalprocAttr,yV,e0,z0,hB,e1,e2,g1,g2]
    simp [parts,hB',uS,h1,j_,h2]
   |none=>
    unfold j_ at h2
    rw [h2] at e2
    cases h3:kU ps with
    |some f=>
     unfold kU at h3
     rw [h3] at e4
     obtain ⟨st,e4,g1,g2⟩:=e4
     simp -implicitDefEqProofs +contextual (disch:=omega) only [kj,ko,z_,code,zb, ↓XD,XU, ↓reduceIte,sevalprocAttr,yV,e0,z0,hB,e1,e2,e4,g1,g2]
     simp [parts,hB',uS,h1,j_,h2,kU,h3]
    |none=>
     unfold kU at h3
     rw [h3] at e4
     cases h4:XJ ps with
     |some f=>
      unfold XJ at h4
      rw [h4] at e6
      obtain ⟨st,e6,g1,g2⟩:=e6
      simp -implicitDefEqProofs +contextual (disch:=omega) only [kj,ko,z_,code,zb, ↓XD,XU, ↓reduceIte,sevalprocAttr,yV,e0,z0,hB,e1,e2,e4,e6,g1,g2]
      simp [parts,hB',uS,h1,j_,h2,kU,h3,XJ,h4]
     |none=>
      unfold XJ at h4
      rw [h4] at e6
      simp -implicitDefEqProofs +contextual (disch:=omega) only [kj,ko,z_,code,zb, ↓XD,XU, ↓reduceIte,sevalprocAttr,yV,e0,z0,hB,e1,e2,e4,e6]
      simp [parts,hB',uS,h1,j_,h2,kU,h3,XJ,h4]
theorem zqb {ps:List zc} (h:(parts ps).1=0):parts ps=(0,0,0):=by
 revert h;unfold parts;repeat' split
 all_goals (intro h;first|rfl|exact absurd h (by dsimp only;decide))
structure zg1 (ps:List zc):Prop where
 big:¬Big ps
 ok:∀ p:Int,0≤p→p<ps.length→Xn (za ps p)
 ins:∀ p:Int,0≤p→p<ps.length→∀ i:Int,0≤i→i<(za ps p).Ins.length→jg ps p i
theorem zdE {ps:List zc} (hs:uK ps) (h:(parts ps).1=0):zg1 ps:=by
 rw [parts] at h
 by_cases hB:Big ps
 ·rw [if_pos hB] at h;exact absurd h (by decide)
 rw [if_neg hB] at h
 cases h1:uS ps with
 |some f=>rw [h1] at h;exact absurd h (by dsimp only;decide)
 |none=>
  rw [h1] at h
  cases h2:j_ ps with
  |some f=>rw [h2] at h;exact absurd h (by dsimp only;decide)
  |none=>
   rw [h2] at h
   cases h3:kU ps with
   |some f=>rw [h3] at h;exact absurd h (by dsimp only;decide)
   |none=>
    rw [h3] at h
    cases h4:XJ ps with
    |some f=>rw [h4] at h;exact absurd h (by dsimp only;decide)
    |none=>
     refine ⟨hB,zfk hs h1,fun p p0 p1 i i0 i1=>?_⟩
     have h5:v4 ps p=none:=Classical.not_not.1 (y7.1 h4 p p0 p1)
     unfold v4 at h5
     split at h5
     ·cases h5
     ·exact Classical.not_not.1 (y7.1 h5 i i0 i1)
theorem ztt {ps:List zc} {p i:Int} (h:jg ps p i) (ho:(za (za ps p).Ins i).Op=11):0≤(za (za ps p).Ins i).B∧(za (za ps p).Ins i).B<ps.length:=by
 rw [jg,ho] at h
 have e:zh 11=some [1,9,0,0]:=by simp [zh]
 rw [e] at h
 have:=Classical.not_not.1 (y7.1 h.1 1 (by omega) (by omega))
 rw [show za [(1:Int),9,0,0] 1=9 from rfl,show ∀ a b c d:Int,za [a,b,c,d] 1=b from fun _ _ _ _=>rfl] at this
 simp [yU] at this
 omega
abbrev bl (l:List Bool):List (List PV):=l.map fun b=>[.bool b]
noncomputable abbrev JV (ps:List zc) (p i:Int) (s:List Bool):List Bool ⊕ Int:=
 if (za (za ps p).Ins i).Op=11 then
  (if ((za (za ps p).Ins i).B≤p∨za s (za (za ps p).Ins i).B=true)∨¬zdk (za ps p) (za ps (za (za ps p).Ins i).B).Ups then .inr i
  else .inl (s.set (za (za ps p).Ins i).B.toNat true))
 else .inl s
noncomputable abbrev hM (ps:List zc) (f:zc) (l:List Bool):zd:=[.cells 1 [[zb ps]],.cells 3 [[.int .i64 0,.int .i64 0,.int .i64 0]],.cells 3 [[.int .i64 0,.int .i64 0,.int .i64 0]],.cells 1 (bl l),.cells 9 [f.cells]]
theorem zzr (ps:List zc) (p:Int) (p0:0≤p) (p1:p<ps.length) (hb:ps.length≤1048576) (hf:zg1 ps) (a0:List Bool) (hok0:a0.length=ps.length):zad (fun (a:List Bool)=>EV A (.loop (xZ 1)) (⟨[(0,code ps),(1,.ptr 0 0 0 1),(2,.ptr 1 0 0 1),(3,.ptr 2 0 0 1),(4,.sl 3 0 ps.length ps.length),(21,zb ps),(22,.int .i64 ps.length),(23,.int .i64 p),(6,.ptr 4 0 0 1),(5,.int .i64 p),(29,zj (za ps p).Ins),(30,.int .i64 (za ps p).Ins.length),(31,.int .i64 (0))],[],hM ps (za ps p) a0,[]⟩:St)=some (zp.exit 2,(⟨[(0,code ps),(1,.ptr 0 0 0 1),(2,.ptr 1 0 0 1),(3,.ptr 2 0 0 1),(4,.sl 3 0 ps.length ps.length),(21,zb ps),(22,.int .i64 ps.length),(23,.int .i64 p),(6,.ptr 4 0 0 1),(5,.int .i64 p),(29,zj (za ps p).Ins),(30,.int .i64 (za ps p).Ins.length),(31,.int .i64 ((za ps p).Ins.length))],[],hM ps (za ps p) a,[]⟩:St))∧a.length=ps.length) (fun (r:Int)=>∃ st,EV A (.loop (xZ 1)) (⟨[(0,code ps),(1,.ptr 0 0 0 1),(2,.ptr 1 0 0 1),(3,.ptr 2 0 0 1),(4,.sl 3 0 ps.length ps.length),(21,zb ps),(22,.int .i64 ps.length),(23,.int .i64 p),(6,.ptr 4 0 0 1),(5,.int .i64 p),(29,zj (za ps p).Ins),(30,.int .i64 (za ps p).Ins.length),(31,.int .i64 (0))],[],hM ps (za ps p) a0,[]⟩:St)=some (.ret,st)∧yc 2 1 3 (wu 6 p r) st) (v8 (fun (i:Int) (a:List Bool)=>JV ps p i a) (((za ps p).Ins.length:Int)-0).toNat (0) a0):=by
 have hb2:=(hf.ok p p0 p1).i
 refine YA (P:=A) (body:=(xZ 1)) (fun i (a:List Bool)=>(⟨[(0,code ps),(1,.ptr 0 0 0 1),(2,.ptr 1 0 0 1),(3,.ptr 2 0 0 1),(4,.sl 3 0 ps.length ps.length),(21,zb ps),(22,.int .i64 ps.length),(23,.int .i64 p),(6,.ptr 4 0 0 1),(5,.int .i64 p),(29,zj (za ps p).Ins),(30,.int .i64 (za ps p).Ins.length),(31,.int .i64 i)],[],hM ps (za ps p) a,[]⟩:St)) (fun (i:Int) (a:List Bool)=>JV ps p i a) (fun i (a:List Bool)=>a.length=ps.length) (fun a=>(zp.exit 2,(⟨[(0,code ps),(1,.ptr 0 0 0 1),(2,.ptr 1 0 0 1),(3,.ptr 2 0 0 1),(4,.sl 3 0 ps.length ps.length),(21,zb ps),(22,.int .i64 ps.length),(23,.int .i64 p),(6,.ptr 4 0 0 1),(5,.int .i64 p),(29,zj (za ps p).Ins),(30,.int .i64 (za ps p).Ins.length),(31,.int .i64 ((za ps p).Ins.length))],[],hM ps (za ps p) a,[]⟩:St))) (fun (r:Int) (st:St)=>yc 2 1 3 (wu 6 p r) st) (0) ((za ps p).Ins.length) ?_ ?_ (0) a0 (by omega) (by omega) hok0
 ·intro i a hi hn hok
  have hk:=hf.ok p p0 p1
  have hb2:=hk.i
  rw [JV]
  by_cases h2:(za (za ps p).Ins i).Op=11
  ·rw [if_pos h2]
   have hg1:=ztt (hf.ins p p0 p1 i hi hn) h2
   have hu:=zpD ps p (za (za ps p).Ins i).B p0 p1 hb hk hg1.1 hg1.2 (hf.ok _ hg1.1 hg1.2).u
   simp only [code,zb] at hu
   by_cases h3:((za (za ps p).Ins i).B≤p∨za a (za (za ps p).Ins i).B=true)∨¬zdk (za ps p) (za ps (za (za ps p).Ins i).B).Ups
   ·rw [if_pos h3]
    refine ⟨_,by (simp -implicitDefEqProofs +contextual (disch:=omega) only [jZ,xj,hM,code,zb,zc.cells,ups,zf,zj,zm,Ins.cells, ↓XD,XU, ↓reduceIte,sevalprocAttr,hn,hok,h2,h3,hu,yV])<;>rfl,by simp [yc,zk.get,zk.put]⟩
   ·rw [if_neg h3]
    refine ⟨⟨_,by (simp -implicitDefEqProofs +contextual (disch:=omega) only [jZ,xj,hM,code,zb,zc.cells,ups,zf,zj,zm,Ins.cells, ↓XD,XU, ↓reduceIte,sevalprocAttr,hn,hok,h2,h3,hu])<;>rfl,by simp [St.next,trim,bare,zt,refs]⟩,by simpa using hok⟩
  ·rw [if_neg h2]
   refine ⟨⟨_,by (simp -implicitDefEqProofs +contextual (disch:=omega) only [jZ,xj,hM,code,zb,zc.cells,ups,zf,zj,zm,Ins.cells, ↓XD,XU, ↓reduceIte,sevalprocAttr,hn,hok,h2])<;>rfl,by simp [St.next,trim,bare,zt,refs]⟩,hok⟩
 ·rintro i a hi rfl hok
  refine ⟨by simp -implicitDefEqProofs +contextual (disch:=omega) only [jZ,xj, ↓XD,XU, ↓reduceIte,sevalprocAttr,zt,Int.lt_irrefl,hok],by simp⟩
noncomputable def zcb (ps:List zc) (p:Int) (s:List Bool):List Bool ⊕ Int:=v8 (JV ps p) (((za ps p).Ins.length:Int)-0).toNat 0 s
noncomputable abbrev Vh (ps:List zc) (p:Int) (s:List Bool):List Bool ⊕ (Int×Int):=match zcb ps p s with|.inl s'=>.inl s'|.inr n=>.inr (p,n)
theorem zzq (ps:List zc) (hb:ps.length≤1048576) (hf:zg1 ps) (a0:List Bool) (hok0:a0.length=ps.length):zad (fun (a:List Bool)=>EV A (.loop (xZ 0)) (⟨[(0,code ps),(1,.ptr 0 0 0 1),(2,.ptr 1 0 0 1),(3,.ptr 2 0 0 1),(4,.sl 3 0 ps.length ps.length),(21,zb ps),(22,.int .i64 ps.length),(23,.int .i64 (0))],[],[.cells 1 [[zb ps]],.cells 3 [[.int .i64 0,.int .i64 0,.int .i64 0]],.cells 3 [[.int .i64 0,.int .i64 0,.int .i64 0]],.cells 1 (bl a0)],[]⟩:St)=some (zp.exit 0,(⟨[(0,code ps),(1,.ptr 0 0 0 1),(2,.ptr 1 0 0 1),(3,.ptr 2 0 0 1),(4,.sl 3 0 ps.length ps.length),(21,zb ps),(22,.int .i64 ps.length),(23,.int .i64 (ps.length))],[],[.cells 1 [[zb ps]],.cells 3 [[.int .i64 0,.int .i64 0,.int .i64 0]],.cells 3 [[.int .i64 0,.int .i64 0,.int .i64 0]],.cells 1 (bl a)],[]⟩:St))∧a.length=ps.length) (fun (r:Int×Int)=>∃ st,EV A (.loop (xZ 0)) (⟨[(0,code ps),(1,.ptr 0 0 0 1),(2,.ptr 1 0 0 1),(3,.ptr 2 0 0 1),(4,.sl 3 0 ps.length ps.length),(21,zb ps),(22,.int .i64 ps.length),(23,.int .i64 (0))],[],[.cells 1 [[zb ps]],.cells 3 [[.int .i64 0,.int .i64 0,.int .i64 0]],.cells 3 [[.int .i64 0,.int .i64 0,.int .i64 0]],.cells 1 (bl a0)],[]⟩:St)=some (.ret,st)∧yc 2 1 3 (wu 6 r.1 r.2) st) (v8 (fun (i:Int) (a:List Bool)=>Vh ps i a) ((ps.length:Int)-0).toNat (0) a0):=by
 refine YA (P:=A) (body:=(xZ 0)) (fun i (a:List Bool)=>(⟨[(0,code ps),(1,.ptr 0 0 0 1),(2,.ptr 1 0 0 1),(3,.ptr 2 0 0 1),(4,.sl 3 0 ps.length ps.length),(21,zb ps),(22,.int .i64 ps.length),(23,.int .i64 i)],[],[.cells 1 [[zb ps]],.cells 3 [[.int .i64 0,.int .i64 0,.int .i64 0]],.cells 3 [[.int .i64 0,.int .i64 0,.int .i64 0]],.cells 1 (bl a)],[]⟩:St)) (fun (i:Int) (a:List Bool)=>Vh ps i a) (fun i (a:List Bool)=>a.length=ps.length) (fun a=>(zp.exit 0,(⟨[(0,code ps),(1,.ptr 0 0 0 1),(2,.ptr 1 0 0 1),(3,.ptr 2 0 0 1),(4,.sl 3 0 ps.length ps.length),(21,zb ps),(22,.int .i64 ps.length),(23,.int .i64 (ps.length))],[],[.cells 1 [[zb ps]],.cells 3 [[.int .i64 0,.int .i64 0,.int .i64 0]],.cells 3 [[.int .i64 0,.int .i64 0,.int .i64 0]],.cells 1 (bl a)],[]⟩:St))) (fun (r:Int×Int) (st:St)=>yc 2 1 3 (wu 6 r.1 r.2) st) (0) (ps.length) ?_ ?_ (0) a0 (by omega) (by omega) hok0
 ·intro i a hi hn hok
  have h2:=zzr ps i hi hn hb hf a hok
  have hI:zcb ps i a=v8 (fun (n:Int) (a:List Bool)=>JV ps i n a) (((za ps i).Ins.length:Int)-0).toNat 0 a:=rfl
  rw [←hI] at h2
  rw [Vh]
  cases hr:zcb ps i a with
  |inl s'=>
   rw [hr] at h2
   obtain ⟨h2,hs'⟩:=h2
   refine ⟨⟨_,by (simp -implicitDefEqProofs +contextual (disch:=omega) only [YJ,xj,hM,code,zb,zc.cells,ups,zf,zj,zm, ↓XD,XU, ↓reduceIte,sevalprocAttr,hn,h2,hok])<;>rfl,by simp [St.next,trim,bare,zt,refs]⟩,hs'⟩
  |inr n=>
   rw [hr] at h2
   obtain ⟨st,h2,hg2⟩:=h2
   exact ⟨_,by (simp -implicitDefEqProofs +contextual (disch:=omega) only [YJ,xj,hM,code,zb,zc.cells,ups,zf,zj,zm, ↓XD,XU, ↓reduceIte,sevalprocAttr,hn,h2,hok])<;>rfl,hg2⟩
 ·rintro i a hi rfl hok
  refine ⟨by simp -implicitDefEqProofs +contextual (disch:=omega) only [YJ,xj, ↓XD,XU, ↓reduceIte,sevalprocAttr,zt,Int.lt_irrefl,hok],by simp⟩
theorem zzs (ps:List zc) (l:List Bool) (hb:ps.length≤1048576) (h1:1≤ps.length) (hl:l.length=ps.length):match z8 (fun (j:Int)=>¬za l j=true) 1 ps.length with|some j=>∃ st,EV A (.loop (xZ 2)) (⟨[(0,code ps),(1,.ptr 0 0 0 1),(2,.ptr 1 0 0 1),(3,.ptr 2 0 0 1),(4,.sl 3 0 ps.length ps.length),(21,zb ps),(22,.int .i64 ps.length),(23,.int .i64 ps.length),(9,.int .i64 (1))],[],[.cells 1 [[zb ps]],.cells 3 [[.int .i64 0,.int .i64 0,.int .i64 0]],.cells 3 [[.int .i64 0,.int .i64 0,.int .i64 0]],.cells 1 (bl l)],[]⟩:St)=some (.ret,st)∧yc 2 1 3 (wu 7 j 0) st|none=>EV A (.loop (xZ 2)) (⟨[(0,code ps),(1,.ptr 0 0 0 1),(2,.ptr 1 0 0 1),(3,.ptr 2 0 0 1),(4,.sl 3 0 ps.length ps.length),(21,zb ps),(22,.int .i64 ps.length),(23,.int .i64 ps.length),(9,.int .i64 (1))],[],[.cells 1 [[zb ps]],.cells 3 [[.int .i64 0,.int .i64 0,.int .i64 0]],.cells 3 [[.int .i64 0,.int .i64 0,.int .i64 0]],.cells 1 (bl l)],[]⟩:St)=some (zp.exit 4,(⟨[(0,code ps),(1,.ptr 0 0 0 1),(2,.ptr 1 0 0 1),(3,.ptr 2 0 0 1),(4,.sl 3 0 ps.length ps.length),(21,zb ps),(22,.int .i64 ps.length),(23,.int .i64 ps.length),(9,.int .i64 (ps.length))],[],[.cells 1 [[zb ps]],.cells 3 [[.int .i64 0,.int .i64 0,.int .i64 0]],.cells 3 [[.int .i64 0,.int .i64 0,.int .i64 0]],.cells 1 (bl l)],[]⟩:St)):=by
 refine yt (fun i=>(⟨[(0,code ps),(1,.ptr 0 0 0 1),(2,.ptr 1 0 0 1),(3,.ptr 2 0 0 1),(4,.sl 3 0 ps.length ps.length),(21,zb ps),(22,.int .i64 ps.length),(23,.int .i64 ps.length),(9,.int .i64 i)],[],[.cells 1 [[zb ps]],.cells 3 [[.int .i64 0,.int .i64 0,.int .i64 0]],.cells 3 [[.int .i64 0,.int .i64 0,.int .i64 0]],.cells 1 (bl l)],[]⟩:St)) (fun (j:Int)=>¬za l j=true) (fun (j:Int) (st:St)=>yc 2 1 3 (wu 7 j 0) st) (zp.exit 4,(⟨[(0,code ps),(1,.ptr 0 0 0 1),(2,.ptr 1 0 0 1),(3,.ptr 2 0 0 1),(4,.sl 3 0 ps.length ps.length),(21,zb ps),(22,.int .i64 ps.length),(23,.int .i64 ps.length),(9,.int .i64 (ps.length))],[],[.cells 1 [[zb ps]],.cells 3 [[.int .i64 0,.int .i64 0,.int .i64 0]],.cells 3 [[.int .i64 0,.int .i64 0,.int .i64 0]],.cells 1 (bl l)],[]⟩:St)) (1) (ps.length) ?_ ?_ ?_ (1) (by omega) (by omega)
 ·intro i hi hn hp
  try simp only [Classical.not_not] at hp
  refine ⟨_,by simp -implicitDefEqProofs +contextual (disch:=omega) only [YK,xj, ↓XD,XU, ↓reduceIte,sevalprocAttr,code,zb,yV,hl,hn,hp];rfl,by first|(simp [St.next,zW];done)|(simp [St.next,zW];omega)|(simp [St.next,trim,bare,zt,refs];done)⟩
 ·intro i hi hn hp
  refine ⟨_,by simp -implicitDefEqProofs +contextual (disch:=omega) only [YK,xj, ↓XD,XU, ↓reduceIte,sevalprocAttr,code,zb,yV,hl,hn,hp];rfl,by simp [yc,zk.get,zk.put]⟩
 ·rintro i hi rfl
  refine ⟨by simp -implicitDefEqProofs +contextual (disch:=omega) only [YK,xj, ↓XD,XU, ↓reduceIte,sevalprocAttr,code,zb,yV,hl,Int.lt_irrefl],by simp⟩
noncomputable def Qb (ps:List zc):List Bool ⊕ (Int×Int):=v8 (Vh ps) ((ps.length:Int)-0).toNat 0 (List.replicate ps.length false)
noncomputable def xW (ps:List zc):Int×Int×Int:=if (parts ps).1≠0 then parts ps else match Qb ps with
 |.inr r=>(6,r.1,r.2)
 |.inl l=>match z8 (fun j=>¬za l j=true) 1 ps.length with
  |some f=>(7,f,0)
  |none=>(0,0,0)
theorem zk1 (ps:List zc) (hb:ps.length≤1048576) (ht:vr ps≤1048576) (hs:uK ps):EP A KN [code ps]=some (fl3 (xW ps)):=by
 have e1:=zpC ps hb ht hs
 simp only [code,zb] at e1
 rw [xW]
 by_cases h1:(parts ps).1=0
 ·have hf:=zdE hs h1
  have hp:=zqb h1
  have hL1:1≤ps.length:=by have:=hf.big;rw [Big] at this;omega
  rw [if_neg (by simpa using h1)]
  rw [hp] at e1
  have e7:=zzq ps hb hf (List.replicate ps.length false) (by simp)
  have hI:Qb ps=v8 (fun (f:Int) (a:List Bool)=>Vh ps f a) ((ps.length:Int)-0).toNat 0 (List.replicate ps.length false):=rfl
  rw [←hI] at e7
  cases k7:Qb ps with
  |inr r=>
   rw [k7] at e7
   obtain ⟨st,e7,g1,g2⟩:=e7
   simp only [bl,code,zb] at e7
   simp -implicitDefEqProofs +contextual (disch:=omega) only [ZJ,ZL,xj,code,zb, ↓XD,XU, ↓reduceIte,sevalprocAttr,e1,e7,g1,g2]
  |inl l=>
   rw [k7] at e7
   obtain ⟨e7,hl⟩:=e7
   simp only [bl,code,zb] at e7
   have e8:=zzs ps l hb hL1 hl
   simp only [bl,code,zb] at e8
   dsimp only
   cases k8:z8 (fun j=>¬za l j=true) 1 ps.length with
   |some f=>
    rw [k8] at e8
    obtain ⟨st,e8,g1,g2⟩:=e8
    simp -implicitDefEqProofs +contextual (disch:=omega) only [ZJ,ZL,xj,code,zb, ↓XD,XU, ↓reduceIte,sevalprocAttr,e1,e7,e8,g1,g2]
   |none=>
    rw [k8] at e8
    simp -implicitDefEqProofs +contextual (disch:=omega) only [ZJ,ZL,xj,code,zb, ↓XD,XU, ↓reduceIte,sevalprocAttr,e1,e7,e8]
 ·rw [if_pos (by simpa using h1)]
  simp -implicitDefEqProofs +contextual (disch:=omega) only [ZJ,ZL,xj,code,zb, ↓XD,XU, ↓reduceIte,sevalprocAttr,e1,h1]
end Go.Proofs.Tryd.Av
end
section
set_option maxRecDepth 10000
set_option maxHeartbeats 1000000
namespace Go.Proofs.Tryd.Av
open Go Go.Av Classical
structure Gd where
 Try:Bool
 Keep:Int
 Handler:Int
 deriving Inhabited,DecidableEq
structure yr where
 Types:List Int
 Guards:List Gd
 deriving Inhabited,DecidableEq
abbrev Gd.cells (g:Gd):List PV:=[.bool g.Try,.int .i64 g.Keep,.int .i64 g.Handler]
abbrev gds (l:List Gd):PV:=.fz (l.map Gd.cells)
def cI (l:List Int):PV:=if l=[] then .nils else yq l
def cG (l:List Gd):PV:=if l=[] then .nils else gds l
def xU (p:PV) (l:List Int):Prop:=p=yq l∨(p=.nils∧l=[])
def xF (p:PV) (l:List Gd):Prop:=p=gds l∨(p=.nils∧l=[])
theorem zlm (l:List Int):xU (cI l) l:=by unfold cI;split;exact .inr ⟨rfl, ‹_›⟩;exact .inl rfl
theorem zll (l:List Gd):xF (cG l) l:=by unfold cG;split;exact .inr ⟨rfl, ‹_›⟩;exact .inl rfl
structure Rd where
 ts:List Int
 tk:List Int
 sy:List Int
def yT (r:Int):Int:=if r=2 then 1 else if r=3 then 3 else if r=4∨r=18∨r=19∨r=20 then 1 else if r=5 then 2 else if r=6 then 3 else 0
def wt (r:Int):Prop:=r=2∨r=3
def JK (r x:Int) (ts:List Int):Prop:=(r=18∧(¬za ts (x+1)=1∨¬za ts (x+2)=1))∨(r=20∧¬za ts (x+1)=1)
noncomputable def kO (r x:Int):Int:=if wt r∧x<0 then -1-x else x
noncomputable def wh (r x:Int) (a:Rd):Option Rd:=
 if yT r=0 then some a
 else if ¬za a.ts (kO r x)=yT r then none
 else if wt r∧x<0 then
  if kO r x∈a.sy then none else some ⟨a.ts.set (kO r x).toNat 0,a.tk++[kO r x],a.sy⟩
 else if wt r then some a
 else if JK r x a.ts then none
 else if r=19 then
  if ¬za a.ts (x+1)=0 then none else some ⟨a.ts,a.tk++[x],a.sy++[x]⟩
 else some ⟨a.ts,a.tk,a.sy++[x]⟩
noncomputable def U7 (rs:List Int) (n:Ins) (ts:List Int):Option Rd:=
 match wh (za rs 0) n.A ⟨ts,[],[]⟩ with
 |none=>none
 |some a=>match wh (za rs 1) n.B a with
  |none=>none
  |some b=>match wh (za rs 2) n.C b with
   |none=>none
   |some c=>wh (za rs 3) n.D c
def Q4 (us:List Up) (ts:List Int):Prop:=∃ u∈us,u.Local=true∧¬za ts u.Index=2
noncomputable def reads (ps:List zc) (n:Ins) (ts:List Int):Option (List Int×List Int):=
 match U7 ((zh n.Op).getD []) n ts with
 |none=>none
 |some a=>if n.Op=11∧Q4 (za ps n.B).Ups a.ts then none else some (a.ts,a.tk)
noncomputable def writes (n:Ins) (ts:List Int):List Int:=
 if n.Op=6 then ts.set n.A.toNat 2
 else if n.Op=22∨n.Op=27∨n.Op=28 then ts.set n.A.toNat 3
 else if n.Op=40 then ts.set (n.A+1).toNat 1
 else if n.Op=42 then ts.set n.A.toNat 0
 else if n.Op=41 then ts.set n.C.toNat 3
 else if za ((zh n.Op).getD []) 0=1 then ts.set n.A.toNat 1 else ts
def vZ (gs:List Gd) (k:Int):Prop:=∀ g∈gs,g.Try=true→g.Keep≤k
noncomputable def change (n:Ins) (gs:List Gd):Option (List Gd):=
 if n.Op=31 then if (gs.length:Int)<50∧vZ gs n.B then some (gs++[⟨true,n.B,n.A⟩]) else none
 else if n.Op=33 then if (gs.length:Int)<50∧vZ gs n.A then some (gs++[⟨false,n.A,0⟩]) else none
 else if n.Op=32 then if gs=[]∨(za gs (gs.length-1)).Try=false then none else some gs.dropLast
 else if n.Op=34 then if gs=[]∨(za gs (gs.length-1)).Try=true∨¬vZ gs n.A then none else some (gs.set (gs.length-1) { za gs (gs.length-1) with Keep:=n.A })
 else if n.Op=35 then if gs=[]∨(za gs (gs.length-1)).Try=true then none else some gs
 else if n.Op=36 then if gs=[]∨(za gs (gs.length-1)).Try=true then none else some gs.dropLast
 else some gs
def JW (gs:List Gd) (tk before behind:List Int):Prop:=
 ∃ g∈gs,g.Try=true∧((∃ r∈tk,r<g.Keep)∨∃ r:Int,0≤r∧r<g.Keep∧¬za before r=za behind r)
noncomputable def wL (n:Ins) (at_:Int) (s:yr) (ts:List Int) (gs:List Gd):List (Int×yr):=
 (if n.Op=19∨n.Op=29∨n.Op=30 then [] else [(at_+1,⟨ts,gs⟩)])++
 (if n.Op=19 then [(n.A,⟨ts,gs⟩)]
  else if n.Op=20∨n.Op=21∨n.Op=38∨n.Op=39 then [(n.B,⟨ts,gs⟩)]
  else if n.Op=41 then [(n.B,⟨ts.set n.C.toNat (za s.Types n.C),gs⟩)]
  else if n.Op=31 then [(n.A,⟨((s.Types.take n.B.toNat++List.replicate (s.Types.length-n.B.toNat) 0).set n.B.toNat 1).set (n.B+1).toNat 1,s.Guards⟩)]
  else [])
noncomputable def kF (ps:List zc) (n:Ins) (at_:Int) (s:yr):Int ⊕ List (Int×yr):=
 match reads ps n s.Types with
 |none=>.inl 10
 |some (ts,tk)=>match change n s.Guards with
  |none=>.inl 11
  |some gs=>if JW s.Guards tk s.Types (writes n ts) then .inl 12 else .inr (wL n at_ s (writes n ts) gs)
noncomputable def Zw:List (Int×yr)→List (Option yr)→List Bool→Int ⊕ (List (Option yr)×List Bool)
 |[],S,due=>.inr (S,due)
 |(j,s)::l,S,due=>match za S j with
  |none=>Zw l (S.set j.toNat (some s)) (due.set j.toNat true)
  |some s'=>if s'=s then Zw l S due else .inl j
def XR (S:List (Option yr)) (due:List Bool):Nat:=2*(S.filter Option.isNone).length+(due.filter id).length
noncomputable def Wj (due:List Bool):Option Int:=z8 (fun j=>za due j=true) 0 due.length
noncomputable def Wn (ps:List zc) (f:zc) (S:List (Option yr)) (due:List Bool) (a:Int):(Int×Int) ⊕ (List (Option yr)×List Bool):=
 match kF ps (za f.Ins a) a ((za S a).getD default) with
 |.inl c=>.inl (c,a)
 |.inr l=>match Zw l S (due.set a.toNat false) with
  |.inl j=>.inl (13,j)
  |.inr r=>.inr r
noncomputable def X6 (ps:List zc) (f:zc) (S:List (Option yr)) (due:List Bool):(Int×Int)×List (Option yr):=
 match Wj due with
 |none=>((0,0),S)
 |some a=>match Wn ps f S due a with
  |.inl c=>(c,S)
  |.inr (S',due')=>if h:XR S' due'<XR S due then X6 ps f S' due' else ((0,0),S)
termination_by XR S due
noncomputable def xV (n:Ins) (a:Int):List Int:=
 if n.Op=1∨n.Op=3∨n.Op=28∨n.Op=29∨n.Op=30∨(n.Op=18∧n.B=12) then []
 else if n.Op=19 then [n.A]
 else if n.Op=41 then [n.B]
 else if n.Op=20∨n.Op=21∨n.Op=38∨n.Op=39 then [n.B,a+1]
 else if n.Op=31 then [n.A,a+1]
 else [a+1]
def zqP (f:zc) (a b:Int):Prop:=b∈xV (za f.Ins a) a
def Kx (f:zc) (a:Int):Prop:=Relation.TransGen (zqP f) a a
theorem jc {α:Type} [Inhabited α] {l:List α} {i:Int} (h0:0≤i) (h1:i<l.length):za l i∈l:=by
 have:=wc h0 h1
 exact List.mem_of_getElem? this
theorem Y' {α:Type} [Inhabited α] {l:List α} {x:α} (h:x∈l):∃ i:Int,0≤i∧i<l.length∧za l i=x:=by
 obtain ⟨k,hk⟩:=List.getElem?_of_mem h
 have hl:=(List.getElem?_eq_some_iff.1 hk).1
 refine ⟨k,by omega,by omega,?_⟩
 have:=wc (l:=l) (i:=(k:Int)) (by omega) (by omega)
 rw [Int.toNat_natCast,hk] at this
 exact (Option.some.inj this).symm
def JF (seen:List Bool):Nat:=(seen.filter (!·)).length
theorem zlQ:∀ {seen:List Bool} {k:Nat},k<seen.length→seen.getD k default=false→JF (seen.set k true)+1=JF seen
 |[],k,h,_=>by simp at h
 |b::l,0,_,h=>by
  have h:b=false:=h
  subst h
  simp [JF]
 |b::l,k+1,h,e=>by
  have e:l.getD k default=false:=by simpa using e
  have:=zlQ (seen:=l) (k:=k) (by simpa using h) e
  unfold JF at this ⊢
  rw [List.set_cons_succ,List.filter_cons,List.filter_cons]
  split
  ·simp only [List.length_cons];omega
  ·exact this
theorem zoz {seen:List Bool} {x:Int} (h0:0≤x) (h1:x<seen.length) (h:¬za seen x=true):JF (seen.set x.toNat true)+1=JF seen:=
 zlQ (by omega) (by unfold za at h;simpa using h)
def ZB (f:zc):Prop:=∀ a:Int,0≤a→a<f.Ins.length→∀ y∈xV (za f.Ins a) a,0≤y∧y<f.Ins.length
theorem zky (n:Ins) (a:Int):(xV n a).length≤2:=by
 unfold xV
 repeat' split
 all_goals simp
abbrev zlh (f:zc) (a b:Int):Prop:=Relation.TransGen (zqP f) a b
structure Bfs (f:zc) (a:Int) (seen:List Bool) (l:List Int) (i:Int):Prop where
 i0:0≤i
 i1:i≤l.length
 n:seen.length=f.Ins.length
 reach:∀ y∈l,zlh f a y
 rng:∀ y∈l,0≤y∧y<f.Ins.length
 first:∀ y∈xV (za f.Ins a) a,y∈l
 past:∀ j:Int,0≤j→j<i→¬za l j=a∧za seen (za l j)=true
 shut:∀ x:Int,0≤x→x<f.Ins.length→za seen x=true→∀ y∈xV (za f.Ins x) x,y∈l
theorem Bfs.end_ {f:zc} {a:Int} {seen:List Bool} {l:List Int} {i:Int} (h:Bfs f a seen l i) (he:¬i<l.length):¬Kx f a:=by
 have hi:i=l.length:=by have:=h.i1;omega
 have key:∀ b,zlh f a b→b∈l:=by
  intro b hb
  induction hb with
  |single hs=>exact h.first _ hs
  |tail _ hs ih=>
   obtain ⟨j,j0,j1,e⟩:=Y' ih
   have:=(h.past j j0 (by omega)).2
   rw [e] at this
   obtain ⟨r0,r1⟩:=h.rng _ ih
   exact h.shut _ r0 r1 this _ hs
 intro hr
 obtain ⟨j,j0,j1,e⟩:=Y' (key a hr)
 exact (h.past j j0 (by omega)).1 e
theorem Bfs.hit {f:zc} {a:Int} {seen:List Bool} {l:List Int} {i:Int} (h:Bfs f a seen l i) (he:i<l.length) (e:za l i=a):Kx f a:=by
 have:=h.reach _ (jc h.i0 he)
 rw [e] at this
 exact this
theorem Bfs.skip {f:zc} {a:Int} {seen:List Bool} {l:List Int} {i:Int} (h:Bfs f a seen l i) (he:i<l.length) (e:¬za l i=a) (hs:za seen (za l i)=true):Bfs f a seen l (i+1):=
 ⟨by have:=h.i0;omega,by omega,h.n,h.reach,h.rng,h.first,fun j j0 j1=>by
  by_cases hj:j=i
  ·subst hj;exact ⟨e,hs⟩
  ·exact h.past j j0 (by omega),h.shut⟩
theorem Bfs.more {f:zc} {a:Int} {seen:List Bool} {l:List Int} {i:Int} (hL:ZB f) (h:Bfs f a seen l i) (he:i<l.length) (e:¬za l i=a) (hs:¬za seen (za l i)=true):Bfs f a (seen.set (za l i).toNat true) (l++xV (za f.Ins (za l i)) (za l i)) (i+1):=by
 have hm:=jc h.i0 he
 obtain ⟨r0,r1⟩:=h.rng _ hm
 have hn:=h.n
 have happ:∀ j:Int,0≤j→j<l.length→za (l++xV (za f.Ins (za l i)) (za l i)) j=za l j:=fun j j0 j1=>by
  unfold za
  simp only [List.getD,List.getElem?_append_left (show j.toNat<l.length by omega)]
 refine ⟨by have:=h.i0;omega,by simp only [List.length_append];omega,by simpa using hn,fun y hy=>?_,fun y hy=>?_,fun y hy=>List.mem_append_left _ (h.first y hy),fun j j0 j1=>?_,fun x x0 x1 hx y hy=>?_⟩
 ·rcases List.mem_append.1 hy with hy|hy
  ·exact h.reach y hy
  ·exact .tail (h.reach _ hm) hy
 ·rcases List.mem_append.1 hy with hy|hy
  ·exact h.rng y hy
  ·exact hL _ r0 r1 y hy
 ·rw [happ j j0 (by omega)]
  have hj0:=h.rng _ (jc (l:=l) j0 (by omega))
  rw [Yi r0 (by omega) hj0.1]
  by_cases hj:j=i
  ·subst hj;exact ⟨e,by simp⟩
  ·obtain ⟨p1,p2⟩:=h.past j j0 (by omega)
   exact ⟨p1,by split;rfl;exact p2⟩
 ·rw [Yi r0 (by omega) x0] at hx
  split at hx
  ·rename_i q;subst q;exact List.mem_append_right _ hy
  ·exact List.mem_append_left _ (h.shut x x0 x1 hx y hy)
structure Dfs (f:zc) (a:Int) (seen:List Bool) (l:List Int):Prop where
 n:seen.length=f.Ins.length
 reach:∀ y∈l,zlh f a y
 rng:∀ y∈l,0≤y∧y<f.Ins.length
 past:∀ x:Int,0≤x→x<f.Ins.length→za seen x=true→¬x=a∧∀ y∈xV (za f.Ins x) x,y∈l∨(0≤y∧y<f.Ins.length∧za seen y=true)
 first:∀ y∈xV (za f.Ins a) a,y∈l∨(0≤y∧y<f.Ins.length∧za seen y=true)
theorem Dfs.end_ {f:zc} {a:Int} {seen:List Bool} (h:Dfs f a seen []):¬Kx f a:=by
 have key:∀ b,zlh f a b→0≤b∧b<f.Ins.length∧za seen b=true:=by
  intro b hb
  induction hb with
  |single hs=>rcases h.first _ hs with h|h;cases h;exact h
  |tail _ hs ih=>
   obtain ⟨r0,r1,r2⟩:=ih
   rcases (h.past _ r0 r1 r2).2 _ hs with h|h;cases h;exact h
 intro hr
 obtain ⟨r0,r1,r2⟩:=key a hr
 exact (h.past a r0 r1 r2).1 rfl
theorem Dfs.hit {f:zc} {a:Int} {seen:List Bool} {l:List Int} {k:Int} (h:Dfs f a seen (l++[k])) (e:k=a):Kx f a:=by
 have:=h.reach k (by simp)
 rw [e] at this
 exact this
theorem Dfs.skip {f:zc} {a:Int} {seen:List Bool} {l:List Int} {k:Int} (h:Dfs f a seen (l++[k])) (hs:za seen k=true):Dfs f a seen l:=by
 obtain ⟨r0,r1⟩:=h.rng k (by simp)
 have mv:∀ y,(y∈l++[k]∨(0≤y∧y<f.Ins.length∧za seen y=true))→y∈l∨(0≤y∧y<f.Ins.length∧za seen y=true):=fun y hy=>by
  rcases hy with hy|hy
  ·rcases List.mem_append.1 hy with hy|hy
   ·exact .inl hy
   ·simp at hy;subst hy;exact .inr ⟨r0,r1,hs⟩
  ·exact .inr hy
 exact ⟨h.n,fun y hy=>h.reach y (List.mem_append_left _ hy),fun y hy=>h.rng y (List.mem_append_left _ hy),fun x x0 x1 hx=>⟨(h.past x x0 x1 hx).1,fun y hy=>mv y ((h.past x x0 x1 hx).2 y hy)⟩,fun y hy=>mv y (h.first y hy)⟩
theorem Dfs.more {f:zc} {a:Int} {seen:List Bool} {l:List Int} {k:Int} (hL:ZB f) (h:Dfs f a seen (l++[k])) (e:¬k=a) (hs:¬za seen k=true) (q:List Int) (hq:∀ y,y∈q↔y∈xV (za f.Ins k) k):Dfs f a (seen.set k.toNat true) (l++q):=by
 obtain ⟨r0,r1⟩:=h.rng k (by simp)
 have hn:=h.n
 have hset:∀ y:Int,0≤y→za (seen.set k.toNat true) y=if k=y then true else za seen y:=fun y y0=>Yi r0 (by omega) y0
 have mv:∀ y,(y∈l++[k]∨(0≤y∧y<f.Ins.length∧za seen y=true))→y∈l++q∨(0≤y∧y<f.Ins.length∧za (seen.set k.toNat true) y=true):=fun y hy=>by
  rcases hy with hy|⟨y0,y1,hy⟩
  ·rcases List.mem_append.1 hy with hy|hy
   ·exact .inl (List.mem_append_left _ hy)
   ·simp at hy;subst hy;exact .inr ⟨r0,r1,by rw [hset _ r0];simp⟩
  ·exact .inr ⟨y0,y1,by rw [hset _ y0];split;rfl;exact hy⟩
 refine ⟨by simpa using hn,fun y hy=>?_,fun y hy=>?_,fun x x0 x1 hx=>?_,fun y hy=>mv y (h.first y hy)⟩
 ·rcases List.mem_append.1 hy with hy|hy
  ·exact h.reach y (List.mem_append_left _ hy)
  ·exact .tail (h.reach k (by simp)) ((hq y).1 hy)
 ·rcases List.mem_append.1 hy with hy|hy
  ·exact h.rng y (List.mem_append_left _ hy)
  ·exact hL _ r0 r1 y ((hq y).1 hy)
 ·rw [hset x x0] at hx
  split at hx
  ·rename_i e2;subst e2;exact ⟨e,fun y hy=>.inl (List.mem_append_right _ ((hq y).2 hy))⟩
  ·exact ⟨(h.past x x0 x1 hx).1,fun y hy=>mv y ((h.past x x0 x1 hx).2 y hy)⟩
theorem wJ {ps:List zc} {p i:Int} (h:jg ps p i) {s0 s1 s2 s3:Int} (hr:zh (za (za ps p).Ins i).Op=some [s0,s1,s2,s3]):
  yU ps.length (za ps p) s0 (za (za ps p).Ins i).A∧yU ps.length (za ps p) s1 (za (za ps p).Ins i).B∧yU ps.length (za ps p) s2 (za (za ps p).Ins i).C∧yU ps.length (za ps p) s3 (za (za ps p).Ins i).D:=by
 rw [jg,hr] at h
 have h1:=y7.1 h.1
 exact ⟨Classical.not_not.1 (h1 0 (by omega) (by omega)),Classical.not_not.1 (h1 1 (by omega) (by omega)),Classical.not_not.1 (h1 2 (by omega) (by omega)),Classical.not_not.1 (h1 3 (by omega) (by omega))⟩
theorem zmf {ps:List zc} {p i:Int} (h:jg ps p i):¬i=((za ps p).Ins.length:Int)-1∨(za (za ps p).Ins i).Op=19∨(za (za ps p).Ins i).Op=29∨(za (za ps p).Ins i).Op=30:=by
 rw [jg] at h
 split at h
 ·exact h.elim
 ·exact h.2
theorem zjP {ps:List zc} {p i:Int} (h:jg ps p i):∃ s0 s1 s2 s3,zh (za (za ps p).Ins i).Op=some [s0,s1,s2,s3]:=by
 rw [jg] at h
 split at h
 ·exact h.elim
 ·rename_i rl hr
  have:=zdO hr
  match rl,this with
  |[a,b,c,d],_=>exact ⟨a,b,c,d,hr⟩
theorem zvn {ps:List zc} {p i:Int} (h:jg ps p i):
  (((za (za ps p).Ins i).Op=19∨(za (za ps p).Ins i).Op=31)→0≤(za (za ps p).Ins i).A∧(za (za ps p).Ins i).A<(za ps p).Ins.length)∧
  (((za (za ps p).Ins i).Op=20∨(za (za ps p).Ins i).Op=21∨(za (za ps p).Ins i).Op=38∨(za (za ps p).Ins i).Op=39∨(za (za ps p).Ins i).Op=41)→0≤(za (za ps p).Ins i).B∧(za (za ps p).Ins i).B<(za ps p).Ins.length):=by
 refine ⟨fun ho=>?_,fun ho=>?_⟩
 ·rcases ho with ho|ho
  ·have:=(wJ h (s0:=10) (s1:=0) (s2:=0) (s3:=0) (by rw [ho];simp [zh])).1
   simp [yU] at this;omega
  ·have:=(wJ h (s0:=10) (s1:=14) (s2:=0) (s3:=0) (by rw [ho];simp [zh])).1
   simp [yU] at this;omega
 ·rcases ho with ho|ho|ho|ho|ho
  ·have:=(wJ h (s0:=2) (s1:=10) (s2:=0) (s3:=0) (by rw [ho];simp [zh])).2.1
   simp [yU] at this;omega
  ·have:=(wJ h (s0:=2) (s1:=10) (s2:=0) (s3:=0) (by rw [ho];simp [zh])).2.1
   simp [yU] at this;omega
  ·have:=(wJ h (s0:=18) (s1:=10) (s2:=0) (s3:=0) (by rw [ho];simp [zh])).2.1
   simp [yU] at this;omega
  ·have:=(wJ h (s0:=18) (s1:=10) (s2:=0) (s3:=0) (by rw [ho];simp [zh])).2.1
   simp [yU] at this;omega
  ·have:=(wJ h (s0:=20) (s1:=10) (s2:=1) (s3:=0) (by rw [ho];simp [zh])).2.1
   simp [yU] at this;omega
theorem zoL {ps:List zc} {p:Int} (h:∀ i:Int,0≤i→i<(za ps p).Ins.length→jg ps p i):ZB (za ps p):=by
 intro a a0 a1 y hy
 have hs:=h a a0 a1
 obtain ⟨j1,j2⟩:=zvn hs
 have hl:=zmf hs
 unfold xV at hy
 split at hy
 ·cases hy
 rename_i n1
 split at hy
 ·rename_i ho;simp at hy;subst hy;exact j1 (.inl ho)
 rename_i n2
 split at hy
 ·rename_i ho;simp at hy;subst hy;exact j2 (.inr (.inr (.inr (.inr ho))))
 rename_i n3
 have nx:a+1<(za ps p).Ins.length:=by
  rcases hl with hl|hl|hl|hl
  ·omega
  ·exact absurd hl n2
  ·exact absurd (.inr (.inr (.inr (.inl hl)))) n1
  ·exact absurd (.inr (.inr (.inr (.inr (.inl hl))))) n1
 split at hy
 ·rename_i ho
  simp at hy
  rcases hy with rfl|rfl
  ·exact j2 (by rcases ho with h|h|h|h<;>simp [h])
  ·omega
 split at hy
 ·rename_i ho
  simp at hy
  rcases hy with rfl|rfl
  ·exact j1 (.inr ho)
  ·omega
 ·simp at hy;subst hy;omega
structure Ky (f:zc) (s:yr):Prop where
 t:(s.Types.length:Int)=f.Regs
 g:s.Guards.length≤50
 k:∀ x∈s.Guards,0≤x.Keep∧x.Keep≤f.Regs
theorem zgb {r x:Int} {a b:Rd} (h:wh r x a=some b):b.ts.length=a.ts.length:=by
 unfold wh at h
 repeat' split at h
 all_goals first|(cases h;done)|(cases h;simp)
theorem zkz {rs:List Int} {n:Ins} {ts:List Int} {b:Rd} (h:U7 rs n ts=some b):b.ts.length=ts.length:=by
 unfold U7 at h
 split at h
 ·cases h
 ·rename_i a h1
  split at h
  ·cases h
  ·rename_i b1 h2
   split at h
   ·cases h
   ·rename_i c h3
    have e1:=zgb h1;have e2:=zgb h2;have e3:=zgb h3;have e4:=zgb h
    simp only at e1
    omega
theorem zkA {ps:List zc} {n:Ins} {ts t2 tk:List Int} (h:reads ps n ts=some (t2,tk)):t2.length=ts.length:=by
 unfold reads at h
 split at h
 ·cases h
 ·rename_i a h1
  split at h
  ·cases h
  ·cases h;exact zkz h1
theorem zi2 (n:Ins) (ts:List Int):(writes n ts).length=ts.length:=by
 unfold writes
 repeat' split
 all_goals simp
theorem zrg {ps:List zc} {p i:Int} (h:jg ps p i) {gs gs':List Gd} (hg:gs.length≤50) (hk:∀ x∈gs,0≤x.Keep∧x.Keep≤(za ps p).Regs) (hr:0≤(za ps p).Regs) (e:change (za (za ps p).Ins i) gs=some gs'):gs'.length≤50∧∀ x∈gs',0≤x.Keep∧x.Keep≤(za ps p).Regs:=by
 unfold change at e
 have dl:∀ x∈gs.dropLast,0≤x.Keep∧x.Keep≤(za ps p).Regs:=fun x hx=>hk x (List.dropLast_subset _ hx)
 split at e
 ·rename_i ho
  have:=(wJ h (s0:=10) (s1:=14) (s2:=0) (s3:=0) (by rw [ho];simp [zh])).2.1
  simp [yU] at this
  split at e
  ·cases e
   refine ⟨by simp;omega,fun x hx=>?_⟩
   rcases List.mem_append.1 hx with hx|hx
   ·exact hk x hx
   ·simp at hx;subst hx;simp only;omega
  ·cases e
 split at e
 ·rename_i ho
  have:=(wJ h (s0:=13) (s1:=0) (s2:=0) (s3:=0) (by rw [ho];simp [zh])).1
  simp [yU] at this
  split at e
  ·cases e
   refine ⟨by simp;omega,fun x hx=>?_⟩
   rcases List.mem_append.1 hx with hx|hx
   ·exact hk x hx
   ·simp at hx;subst hx;simp only;omega
  ·cases e
 split at e
 ·split at e
  ·cases e
  ·cases e;exact ⟨by simp;omega,dl⟩
 split at e
 ·rename_i ho
  have:=(wJ h (s0:=13) (s1:=0) (s2:=0) (s3:=0) (by rw [ho];simp [zh])).1
  simp [yU] at this
  split at e
  ·cases e
  ·cases e
   refine ⟨by simpa using hg,fun x hx=>?_⟩
   rcases List.mem_or_eq_of_mem_set hx with hx|rfl
   ·exact hk x hx
   ·simp only;omega
 split at e
 ·split at e
  ·cases e
  ·cases e;exact ⟨hg,hk⟩
 split at e
 ·split at e
  ·cases e
  ·cases e;exact ⟨by simp;omega,dl⟩
 ·cases e;exact ⟨hg,hk⟩
theorem zj0 {ps:List zc} {p i:Int} (h:jg ps p i) (i0:0≤i) (i1:i<(za ps p).Ins.length) (hr:0≤(za ps p).Regs) {s:yr} (hs:Ky (za ps p) s) {l:List (Int×yr)} (e:kF ps (za (za ps p).Ins i) i s=.inr l):
  ∀ x∈l,(0≤x.1∧x.1<(za ps p).Ins.length)∧Ky (za ps p) x.2:=by
 unfold kF at e
 split at e
 ·cases e
 rename_i ts tk h1
 split at e
 ·cases e
 rename_i gs h2
 split at e
 ·cases e
 cases e
 have hl:=zkA h1
 have hw:=zi2 (za (za ps p).Ins i) ts
 have hst:=hs.t
 obtain ⟨g1,g2⟩:=zrg h hs.g hs.k hr h2
 obtain ⟨j1,j2⟩:=zvn h
 have hla:=zmf h
 have base:Ky (za ps p) ⟨writes (za (za ps p).Ins i) ts,gs⟩:=⟨by simp only;omega,g1,g2⟩
 intro x hx
 unfold wL at hx
 rcases List.mem_append.1 hx with hx|hx
 ·split at hx
  ·cases hx
  ·rename_i ho
   simp at hx;subst hx
   refine ⟨⟨by simp only;omega,?_⟩,base⟩
   rcases hla with hla|hla|hla|hla
   ·simp only;omega
   ·exact absurd (.inl hla) ho
   ·exact absurd (.inr (.inl hla)) ho
   ·exact absurd (.inr (.inr hla)) ho
 ·split at hx
  ·rename_i ho;simp at hx;subst hx;exact ⟨j1 (.inl ho),base⟩
  split at hx
  ·rename_i ho;simp at hx;subst hx;exact ⟨j2 (by rcases ho with h|h|h|h<;>simp [h]),base⟩
  split at hx
  ·rename_i ho;simp at hx;subst hx;exact ⟨j2 (by simp [ho]),⟨by simp only [List.length_set];omega,g1,g2⟩⟩
  split at hx
  ·rename_i ho;simp at hx;subst hx
   have:=(wJ h (s0:=10) (s1:=14) (s2:=0) (s3:=0) (by rw [ho];simp [zh])).2.1
   simp [yU] at this
   exact ⟨j1 (.inr ho),⟨by simp;omega,hs.g,hs.k⟩⟩
  ·cases hx
theorem count_set {α:Type} [Inhabited α] (p:α→Bool) (v:α):∀ (l:List α) (k:Nat),k<l.length→((l.set k v).filter p).length+(if p (l.getD k default) then 1 else 0)=(l.filter p).length+(if p v then 1 else 0)
 |[],k,h=>by simp at h
 |b::l,0,_=>by
  rw [List.set_cons_zero,List.filter_cons,List.filter_cons]
  show _+(if p b then 1 else 0)=_
  cases p b<;>cases p v<;>simp
 |b::l,k+1,h=>by
  have:=count_set p v l k (by simpa using h)
  rw [List.set_cons_succ,List.filter_cons,List.filter_cons]
  show _+(if p (l.getD k default) then 1 else 0)=_
  cases p b<;>simp only [Bool.false_eq_true,if_false,if_true,List.length_cons]<;>omega
structure WOk (f:zc) (S:List (Option yr)) (due:List Bool):Prop where
 s:S.length=f.Ins.length
 d:due.length=f.Ins.length
 ok:∀ i:Int,0≤i→i<f.Ins.length→∀ s,za S i=some s→Ky f s
 due:∀ i:Int,0≤i→i<f.Ins.length→za due i=true→∃ s,za S i=some s
theorem zt' {f:zc} {S:List (Option yr)} {due:List Bool} {j:Int} {s:yr} (h1:S.length=f.Ins.length) (h2:due.length=f.Ins.length) (j0:0≤j) (j1:j<f.Ins.length) (hn:za S j=none):XR (S.set j.toNat (some s)) (due.set j.toNat true)<XR S due:=by
 have a:=count_set Option.isNone (some s) S j.toNat (by omega)
 have b:=count_set id true due j.toNat (by omega)
 have e:S.getD j.toNat default=none:=hn
 rw [e] at a
 simp only [Option.isNone_none,Option.isNone_some,Bool.false_eq_true,if_true,if_false,id] at a b
 unfold XR
 split at b<;>omega
theorem zht {f:zc}:∀ (l:List (Int×yr)) (S:List (Option yr)) (due:List Bool),WOk f S due→(∀ x∈l,(0≤x.1∧x.1<f.Ins.length)∧Ky f x.2)→∀ S' due',Zw l S due=.inr (S',due')→WOk f S' due'∧XR S' due'≤XR S due
 |[],S,due,h,_,S',due',e=>by
  simp only [Zw,Sum.inr.injEq,Prod.mk.injEq] at e
  obtain ⟨rfl,rfl⟩:=e
  exact ⟨h,Nat.le_refl _⟩
 |(j,s)::l,S,due,h,hl,S',due',e=>by
  obtain ⟨⟨j0,j1⟩,hs⟩:=hl (j,s) (by simp)
  simp only at j0 j1 hs
  have h1:=h.s;have h2:=h.d
  rw [Zw] at e
  split at e
  ·rename_i hn
   have hw:WOk f (S.set j.toNat (some s)) (due.set j.toNat true):=⟨by simpa using h1,by simpa using h2,fun i i0 i1 s' e'=>by
     rw [Yi j0 (by omega) i0] at e'
     split at e'
     ·cases e';exact hs
     ·exact h.ok i i0 i1 s' e',fun i i0 i1 e'=>by
     rw [Yi j0 (by omega) i0] at e' ⊢
     split at e'
     ·rename_i q;rw [if_pos q];exact ⟨_,rfl⟩
     ·rename_i q;rw [if_neg q];exact h.due i i0 i1 e'⟩
   obtain ⟨k1,k2⟩:=zht l _ _ hw (fun x hx=>hl x (List.mem_cons_of_mem _ hx)) S' due' e
   have:=zt' (s:=s) h1 h2 j0 j1 hn
   exact ⟨k1,by omega⟩
  ·split at e
   ·exact zht l _ _ h (fun x hx=>hl x (List.mem_cons_of_mem _ hx)) S' due' e
   ·cases e
theorem zib {due:List Bool} {a:Int} (h:Wj due=some a):(0≤a∧a<due.length)∧za due a=true∧∀ j:Int,0≤j→j<a→¬za due j=true:=by
 obtain ⟨h1,h2,h3,h4⟩:=xH.1 h
 exact ⟨⟨h1,h2⟩,h3,fun j j0 j1=>h4 j j0 j1⟩
theorem zmI {ps:List zc} {p:Int} (hI:∀ i:Int,0≤i→i<(za ps p).Ins.length→jg ps p i) (hr:0≤(za ps p).Regs) {S:List (Option yr)} {due:List Bool} (h:WOk (za ps p) S due) {a:Int} (ha:Wj due=some a) {S':List (Option yr)} {due':List Bool} (e:Wn ps (za ps p) S due a=.inr (S',due')):
  WOk (za ps p) S' due'∧XR S' due'<XR S due:=by
 obtain ⟨⟨a0,a1⟩,a2,_⟩:=zib ha
 have h1:=h.s;have h2:=h.d
 obtain ⟨s,hs⟩:=h.due a a0 (by omega) a2
 have hsok:=h.ok a a0 (by omega) s hs
 unfold Wn at e
 rw [hs] at e
 simp only [Option.getD_some] at e
 split at e
 ·cases e
 rename_i l hl
 have hl2:=zj0 (hI a a0 (by omega)) a0 (by omega) hr hsok hl
 split at e
 ·cases e
 rename_i r hv
 cases e
 have hw:WOk (za ps p) S (due.set a.toNat false):=⟨h1,by simpa using h2,h.ok,fun i i0 i1 e'=>by
  rw [Yi a0 a1 i0] at e'
  split at e'
  ·cases e'
  ·exact h.due i i0 i1 e'⟩
 obtain ⟨k1,k2⟩:=zht l S _ hw hl2 S' due' hv
 refine ⟨k1,?_⟩
 have b:=count_set id false due a.toNat (by omega)
 have e:due.getD a.toNat default=true:=a2
 rw [e] at b
 simp only [id,if_true,Bool.false_eq_true,if_false] at b
 unfold XR at k2 ⊢
 omega
theorem znd {ps:List zc} {f:zc} {S:List (Option yr)} {due:List Bool} (h:Wj due=none):X6 ps f S due=((0,0),S):=by
 rw [X6];simp only [h]
theorem zhu {ps:List zc} {f:zc} {S:List (Option yr)} {due:List Bool} {a:Int} {c:Int×Int} (h:Wj due=some a) (e:Wn ps f S due a=.inl c):X6 ps f S due=(c,S):=by
 rw [X6];simp only [h,e]
theorem zo5 {ps:List zc} {f:zc} {S S':List (Option yr)} {due due':List Bool} {a:Int} (h:Wj due=some a) (e:Wn ps f S due a=.inr (S',due')) (hm:XR S' due'<XR S due):X6 ps f S due=X6 ps f S' due':=by
 rw [X6];simp only [h,e];rw [dif_pos hm]
abbrev yn (l:List Int):List (List PV):=l.map fun k=>[PV.int .i64 k]
def zxL:Option (List (List PV))→Bool→zd→Nat→Nat→PV→Option (PV×zd×zV)
 |some new,true,H,sz,bytes,x=>xe H sz bytes x new
 |_,_,_,_,_,_=>none
theorem zE {P:xp} (sz bytes:Nat) (x y:zx) (st:St):zq P.glob (CL P) st (.append sz bytes x y)=zxL (uh st.H (y.get P.glob st)) (xS st.H sz (y.get P.glob st)) st.H sz bytes (x.get P.glob st):=by
 show (match uh st.H (y.get P.glob st),xS st.H sz (y.get P.glob st) with|some new,true=>xe st.H sz bytes (x.get P.glob st) new|_,_=>none)=_
 cases uh st.H (y.get P.glob st)<;>cases xS st.H sz (y.get P.glob st)<;>rfl
theorem zz (new:List (List PV)) (H:zd) (sz bytes:Nat) (x:PV):zxL (some new) true H sz bytes x=xe H sz bytes x new:=rfl
theorem xE (H:zd) (sz bytes:Nat) (new:List (List PV)) (h:new.length*bytes≤35184372088832):xe H sz bytes .nils new=some (.sl H.length 0 new.length new.length,H++[.cells sz new],[]):=by
 simp [xe,h]
def bsK (sz:Nat) (zero cs:List PV) (H:zd):Option (PV×zd×zV):=match zT [zero] [(0,cs)] with
  |some rows=>some (.sl H.length 0 1 1,H++[.cells sz rows],[])
  |none=>none
theorem zy {P:xp} (sz:Nat) (zero:List PV) (x:zx) (st:St):zq P.glob (CL P) st (.buildSlice sz 1 zero [(0,x)])=bsK sz zero (cellsOf (x.get P.glob st)) st.H:=rfl
theorem uT (sz:Nat) (zero cs:List PV) (H:zd) (h:(zero.length==cs.length&&cs.all zH)=true):bsK sz zero cs H=some (.sl H.length 0 1 1,H++[.cells sz [cs]],[]):=by
 simp only [bsK,zT,List.getElem?_cons_zero,h,List.set_cons_zero]
theorem yg (v:Int) (H:zd):bsK 1 [.int .i64 0] [.int .i64 v] H=some (.sl H.length 0 1 1,H++[.cells 1 [[.int .i64 v]]],[]):=uT _ _ _ _ rfl
theorem jb (H:zd) (sz:Nat) (cs:List PV):uh (H++[.cells sz [cs]]) (.sl H.length 0 1 1)=some [cs]∧xS (H++[.cells sz [cs]]) sz (.sl H.length 0 1 1)=true:=by
 constructor<;>simp [uh,xS]
theorem Yj (H:zd) (n:Nat) (hn:n=H.length) (sz:Nat) (cs:List PV):uh (H++[.cells sz [cs]]) (.sl n 0 1 1)=some [cs]∧xS (H++[.cells sz [cs]]) sz (.sl n 0 1 1)=true:=by
 subst hn;exact jb H sz cs
theorem ZC {H:zd} {id sz by':Nat} {rows:List (List PV)} {n:Nat} (h:H[id]?=some (.cells sz rows)) (hn:n=rows.length) (hb:(n+1)*by'≤35184372088832) (cs:List PV) (hr:zt cs=[]):xe H sz by' (.sl id 0 n n) [cs]=some (.sl id 0 (n+1) (n+1),H.set id (.cells sz (rows++[cs])),[]):=by
 subst hn
 have c1:(rows.length==rows.length&&sz==sz&&decide (0+rows.length≤rows.length)&&decide ((0+rows.length+[cs].length)*by'≤35184372088832))=true:=by simp;exact hb
 have c2:decide (0+rows.length+[cs].length≤rows.length)=false:=by simp
 simp only [xe,h,c1,c2]
 simp [wD,hr]
theorem zuE (l:List Int):∀ r∈yn l,zt r=[]:=by
 intro r hr
 obtain ⟨k,_,rfl⟩:=List.mem_map.1 hr
 rfl
theorem uG {d:Nat} {H:zd} {id:Nat} {l:List Int} (h:H[id]?=some (.cells 1 (yn l))):frz (d+2) H (.sl id 0 l.length l.length)=yq l:=by
 have e:List.take l.length (List.map (fun k=>[PV.int .i64 k]) l)=List.map (fun k=>[PV.int .i64 k]) l:=List.take_of_length_le (by simp)
 simp [frz,h,yn,Function.comp_def,e]
theorem Zo {d:Nat} {H:zd} {id:Nat} {l:List Gd} (h:H[id]?=some (.cells 3 (l.map Gd.cells))):frz (d+2) H (.sl id 0 l.length l.length)=gds l:=by
 have e:List.take l.length (List.map (fun x:Gd=>[PV.bool x.Try,PV.int .i64 x.Keep,PV.int .i64 x.Handler]) l)=List.map Gd.cells l:=List.take_of_length_le (by simp)
 simp [frz,h,Function.comp_def,e]
theorem KF {α:Type} [Inhabited α] {l:List α} {i:Int} (h0:0≤i) (h1:i<l.length):l.take (i+1).toNat=l.take i.toNat++[za l i]:=by
 have e:(i+1).toNat=i.toNat+1:=by omega
 rw [e,List.take_succ,wc h0 h1];rfl
end Go.Proofs.Tryd.Av
end
section
attribute [local congr] ite_congr
set_option maxRecDepth 10000
set_option maxHeartbeats 4000000
namespace Go.Proofs.Tryd.Av
open Go Go.Av Classical
theorem zve (r:Int):EP A zcx [.int .i64 r]=some (.tup [.int .i64 (yT r),.bool (decide (wt r))]):=by
 by_cases h2:r=2
 ·subst h2;simp -implicitDefEqProofs +contextual (disch:=omega) only [vG,vJ,vp, ↓XD,XU, ↓reduceIte,sevalprocAttr];simp [yT,wt]
 by_cases h3:r=3
 ·subst h3;simp -implicitDefEqProofs +contextual (disch:=omega) only [vG,vJ,vp, ↓XD,XU, ↓reduceIte,sevalprocAttr];simp [yT,wt]
 by_cases h4:r=4
 ·subst h4;simp -implicitDefEqProofs +contextual (disch:=omega) only [vG,vJ,vp, ↓XD,XU, ↓reduceIte,sevalprocAttr];simp [yT,wt]
 by_cases h5:r=5
 ·subst h5;simp -implicitDefEqProofs +contextual (disch:=omega) only [vG,vJ,vp, ↓XD,XU, ↓reduceIte,sevalprocAttr];simp [yT,wt]
 by_cases h6:r=6
 ·subst h6;simp -implicitDefEqProofs +contextual (disch:=omega) only [vG,vJ,vp, ↓XD,XU, ↓reduceIte,sevalprocAttr];simp [yT,wt]
 by_cases h18:r=18
 ·subst h18;simp -implicitDefEqProofs +contextual (disch:=omega) only [vG,vJ,vp, ↓XD,XU, ↓reduceIte,sevalprocAttr];simp [yT,wt]
 by_cases h19:r=19
 ·subst h19;simp -implicitDefEqProofs +contextual (disch:=omega) only [vG,vJ,vp, ↓XD,XU, ↓reduceIte,sevalprocAttr];simp [yT,wt]
 by_cases h20:r=20
 ·subst h20;simp -implicitDefEqProofs +contextual (disch:=omega) only [vG,vJ,vp, ↓XD,XU, ↓reduceIte,sevalprocAttr];simp [yT,wt]
 simp -implicitDefEqProofs +contextual (disch:=omega) only [vG,vJ,vp, ↓XD,XU, ↓reduceIte,sevalprocAttr,h2,h3,h4,h5,h6,h18,h19,h20];simp [yT,wt,h2,h3,h4,h5,h6,h18,h19,h20]
theorem Ut {p:PV} {l:List Int} (h:xU p l):kS p=some (.int .i64 l.length):=by
 rcases h with rfl|⟨rfl,rfl⟩<;>simp [kS]
theorem wx {p:PV} {l:List Gd} (h:xF p l):kS p=some (.int .i64 l.length):=by
 rcases h with rfl|⟨rfl,rfl⟩<;>simp [kS]
theorem ve {p:PV} {l:List Int} (h:xU p l) (H:zd) (k:IntKind) (i:Int) (h0:0≤i) (h1:i<l.length):wW 1 H p (.int k i)=some (.fp [.int .i64 (za l i)] 0):=by
 rcases h with rfl|⟨rfl,rfl⟩
 ·have:=wc h0 h1
  simp [wW,h0,List.getElem?_map,this]
 ·simp at h1;omega
theorem wg {p:PV} {l:List Gd} (h:xF p l) (H:zd) (k:IntKind) (i:Int) (h0:0≤i) (h1:i<l.length):wW 3 H p (.int k i)=some (.fp (za l i).cells 0):=by
 rcases h with rfl|⟨rfl,rfl⟩
 ·have:=wc h0 h1
  simp [wW,h0,List.getElem?_map,this]
 ·simp at h1;omega
theorem uz {p:PV} {l:List Int} (h:xU p l) (d:Nat) (H:zd):frz (d+1) H p=p:=by rcases h with rfl|⟨rfl,rfl⟩<;>rfl
theorem ww {p:PV} {l:List Gd} (h:xF p l) (d:Nat) (H:zd):frz (d+1) H p=p:=by rcases h with rfl|⟨rfl,rfl⟩<;>rfl
theorem yM {p:PV} {l:List Int} (h:xU p l):refs p=[]:=by rcases h with rfl|⟨rfl,rfl⟩<;>rfl
theorem yL {p:PV} {l:List Gd} (h:xF p l):refs p=[]:=by rcases h with rfl|⟨rfl,rfl⟩<;>rfl
theorem jM {p:PV} {l:List Int} (h:xU p l):zH p=true:=by rcases h with rfl|⟨rfl,rfl⟩<;>rfl
theorem xf {p:PV} {l:List Gd} (h:xF p l):zH p=true:=by rcases h with rfl|⟨rfl,rfl⟩<;>rfl
theorem uH {p:PV} {l:List Int} (h:xU p l):cellsOf p=[p]:=by rcases h with rfl|⟨rfl,rfl⟩<;>rfl
theorem yN {p:PV} {l:List Gd} (h:xF p l):cellsOf p=[p]:=by rcases h with rfl|⟨rfl,rfl⟩<;>rfl
theorem zt7 (p:PV) (gs:List Gd) (k:Int) (h:xF p gs) (hb:gs.length≤1048576):match z8 (fun (j:Int)=>(za gs j).Try=true∧k<(za gs j).Keep) 0 gs.length with|some j=>∃ st,EV A (.loop (X8 0)) (⟨[(0,p),(1,.int .i64 k),(4,.bool false),(7,p),(8,.int .i64 gs.length),(9,.int .i64 (0))],[],[],[]⟩:St)=some (.ret,st)∧st.per.get 4=.bool false|none=>EV A (.loop (X8 0)) (⟨[(0,p),(1,.int .i64 k),(4,.bool false),(7,p),(8,.int .i64 gs.length),(9,.int .i64 (0))],[],[],[]⟩:St)=some (zp.exit 0,(⟨[(0,p),(1,.int .i64 k),(4,.bool false),(7,p),(8,.int .i64 gs.length),(9,.int .i64 (gs.length))],[],[],[]⟩:St)):=by
 refine yt (fun i=>(⟨[(0,p),(1,.int .i64 k),(4,.bool false),(7,p),(8,.int .i64 gs.length),(9,.int .i64 i)],[],[],[]⟩:St)) (fun (j:Int)=>(za gs j).Try=true∧k<(za gs j).Keep) (fun (j:Int) (st:St)=>st.per.get 4=.bool false) (zp.exit 0,(⟨[(0,p),(1,.int .i64 k),(4,.bool false),(7,p),(8,.int .i64 gs.length),(9,.int .i64 (gs.length))],[],[],[]⟩:St)) (0) (gs.length) ?_ ?_ ?_ (0) (by omega) (by omega)
 ·intro i hi hn hp
  have hi':=wg h [] .i64 i hi hn;have hi2:=fun H=>wg h H .i64 i hi hn;simp only [Gd.cells] at hi2
  by_cases c:(za gs i).Try=true
  ·have c2:¬k<(za gs i).Keep:=fun h2=>hp ⟨c,h2⟩
   refine ⟨_,by (simp -implicitDefEqProofs +contextual (disch:=omega) only [ZN,jG, ↓XD,XU, ↓reduceIte,sevalprocAttr,hi2,c,c2,hn])<;>rfl,by simp [St.next,trim,bare,zt,refs,yL h]⟩
  ·refine ⟨_,by (simp -implicitDefEqProofs +contextual (disch:=omega) only [ZN,jG, ↓XD,XU, ↓reduceIte,sevalprocAttr,hi2,c,hn])<;>rfl,by simp [St.next,trim,bare,zt,refs,yL h]⟩
 ·intro i hi hn hp
  have hi':=wg h [] .i64 i hi hn;have hi2:=fun H=>wg h H .i64 i hi hn;simp only [Gd.cells] at hi2
  obtain ⟨c,c2⟩:=hp
  refine ⟨_,by (simp -implicitDefEqProofs +contextual (disch:=omega) only [ZN,jG, ↓XD,XU, ↓reduceIte,sevalprocAttr,hi2,c,c2,hn])<;>rfl,by simp [zk.get,zk.put]⟩
 ·rintro i hi rfl
  refine ⟨by simp -implicitDefEqProofs +contextual (disch:=omega) only [ZN,jG, ↓XD,XU, ↓reduceIte,sevalprocAttr,yL h,Int.lt_irrefl],by simp⟩
theorem zds {p:PV} {gs:List Gd} (h:xF p gs) (k:Int) (hb:gs.length≤1048576):EP A zcq [p,.int .i64 k]=some (.bool (decide (vZ gs k))):=by
 have hl:=zt7 p gs k h hb
 have hlen:=wx h
 cases hs:z8 (fun j=>(za gs j).Try=true∧k<(za gs j).Keep) 0 gs.length with
 |none=>
  rw [hs] at hl
  have ha:vZ gs k:=fun g hg ht=>by
   obtain ⟨j,j0,j1,e⟩:=Y' hg
   have:=y7.1 hs j j0 j1
   rw [e] at this
   by_cases c:k<g.Keep
   ·exact absurd ⟨ht,c⟩ this
   ·omega
  simp -implicitDefEqProofs +contextual (disch:=omega) only [zbY,zcH,jG, ↓XD,XU, ↓reduceIte,sevalprocAttr,hlen,hl,ha]
 |some j=>
  rw [hs] at hl
  obtain ⟨st,hl,hg⟩:=hl
  obtain ⟨j0,j1,⟨ht,c⟩,_⟩:=xH.1 hs
  have ha:¬vZ gs k:=fun ha=>by
   have:=ha _ (jc j0 j1) ht
   omega
  simp -implicitDefEqProofs +contextual (disch:=omega) only [zbY,zcH,jG, ↓XD,XU, ↓reduceIte,sevalprocAttr,hlen,hl,hg,ha]
def Wf (i:Int):PV:=if i=0 then .nils else .sl 1 0 i.toNat i.toNat
def KK (l:List Int) (i:Int):zd:=if i=0 then [] else [.cells 1 [[.int .i64 (za l 0)]],.cells 1 (yn (l.take i.toNat))]
theorem Uq {i:Int} (h:¬i=0):Wf i=.sl 1 0 i.toNat i.toNat:=by rw [Wf,if_neg h]
theorem JE {l:List Int} {i:Int} (h:¬i=0):KK l i=[.cells 1 [[.int .i64 (za l 0)]],.cells 1 (yn (l.take i.toNat))]:=by rw [KK,if_neg h]
theorem ziO {α:Type} [Inhabited α] {l:List α} (h:0<l.length):l.take 1=[za l 0]:=by
 cases l with
 |nil=>simp at h
 |cons a l=>rfl
theorem zwD {p:PV} {l:List Int} (h:xU p l) (hb:l.length≤1048576):EV A (.loop (Vn 0)) ⟨[(0,p),(2,.nils),(3,.nils),(6,p),(7,.int .i64 l.length),(8,.int .i64 0)],[],[],[]⟩=some (.exit 0,⟨[(0,p),(2,.nils),(3,Wf l.length),(6,p),(7,.int .i64 l.length),(8,.int .i64 l.length)],[],KK l l.length,[]⟩):=by
 have key:=vk (P:=A) (body:=(Vn 0)) (fun i (a:Unit)=>(⟨[(0,p),(2,.nils),(3,Wf i),(6,p),(7,.int .i64 l.length),(8,.int .i64 i)],[],KK l i,[]⟩:St)) (fun _ a=>a) (fun _ _=>True)
  (fun _=>(zp.exit 0,(⟨[(0,p),(2,.nils),(3,Wf l.length),(6,p),(7,.int .i64 l.length),(8,.int .i64 l.length)],[],KK l l.length,[]⟩:St))) 0 l.length ?_ ?_ 0 () (by omega) (by omega) trivial
 ·exact key.1
 ·intro i a hi hn _
  have hx:=fun H=>ve h H .i64 i hi hn
  refine ⟨?_,trivial⟩
  by_cases c:i=0
  ·subst c
   have hr:=jb [] 1 [.int .i64 (za l 0)]
   have ha:=xE [.cells 1 [[.int .i64 (za l 0)]]] 1 8 [[.int .i64 (za l 0)]] (by simp)
   have e1:Wf 0=.nils:=rfl
   have e2:KK l 0=[]:=rfl
   have e3:Wf (0+1)=.sl 1 0 1 1:=rfl
   have e4:KK l (0+1)=[.cells 1 [[.int .i64 (za l 0)]],.cells 1 [[.int .i64 (za l 0)]]]:=by
    rw [JE (by decide)]
    show [_,yf.cells 1 (yn (l.take 1))]=_
    rw [ziO (by omega)];rfl
   simp only [List.nil_append,List.length_nil] at hr
   simp only [List.length_singleton,List.length_cons,List.length_nil,List.singleton_append] at ha
   refine ⟨_,by (simp -implicitDefEqProofs +contextual (disch:=omega) only [Uh,Wo,e1,e2, ↓zy, ↓zE,yg,zz, ↓XD,XU, ↓reduceIte,sevalprocAttr,hx,hn,hr.1,hr.2,ha])<;>rfl,?_⟩
   rw [e3,e4]
   simp [e1,e2,St.next,trim,bare,zt,refs,yM h]
  ·have hl:¬i+1=0:=by omega
   have e5:l.take (i+1).toNat=l.take i.toNat++[za l i]:=KF hi hn
   have e6:(i+1).toNat=i.toNat+1:=by omega
   have e7:(l.take i.toNat).length=i.toNat:=by rw [List.length_take];omega
   have hr:=Yj [.cells 1 [[.int .i64 (za l 0)]],.cells 1 (yn (l.take i.toNat))] 2 rfl 1 [.int .i64 (za l i)]
   have ha:=ZC (H:=[.cells 1 [[.int .i64 (za l 0)]],.cells 1 (yn (l.take i.toNat)),.cells 1 [[.int .i64 (za l i)]]]) (id:=1) (sz:=1) (by':=8) (n:=i.toNat) rfl (by simp only [yn,List.length_map,e7]) (by omega) [.int .i64 (za l i)] rfl
   simp only [List.cons_append,List.nil_append] at hr
   refine ⟨_,by (simp -implicitDefEqProofs +contextual (disch:=omega) only [Uh,Wo,Uq c,JE c, ↓zy, ↓zE,yg,zz, ↓XD,XU, ↓reduceIte,sevalprocAttr,hx,hn,hr.1,hr.2,ha])<;>rfl,?_⟩
   rw [Uq hl,JE hl,e5,e6]
   simp [Uq c,JE c,St.next,trim,bare,zt,refs,yM h,yn]
 ·rintro i a hi rfl _
  refine ⟨by simp -implicitDefEqProofs +contextual (disch:=omega) only [Uh,Wo, ↓XD,XU, ↓reduceIte,sevalprocAttr,Int.lt_irrefl],by simp⟩
theorem zao {p:PV} {l:List Int} (h:xU p l) (hb:l.length≤1048576):ES A zec [p] []=some (Wf l.length,KK l l.length,[]):=by
 have hl:=zwD h hb
 have hlen:=Ut h
 simp -implicitDefEqProofs +contextual (disch:=omega) only [zk8,zlg,Wo, ↓XD,XU, ↓reduceIte,sevalprocAttr,hlen,hl]
 by_cases c:(l.length:Int)=0
 ·simp [zW,KK,c]
 ·simp [Uq c,JE c,trim,bare,zt,refs]
def U3 (i:Int):PV:=if i=0 then .nils else .sl 2 0 i.toNat i.toNat
def gpH (l:List Gd) (i:Int):zd:=if i=0 then [] else [.cells 3 [(za l 0).cells],.cells 3 [(za l 0).cells],.cells 3 ((l.take i.toNat).map Gd.cells)]
theorem Us {i:Int} (h:¬i=0):U3 i=.sl 2 0 i.toNat i.toNat:=by rw [U3,if_neg h]
theorem JH {l:List Gd} {i:Int} (h:¬i=0):gpH l i=[.cells 3 [(za l 0).cells],.cells 3 [(za l 0).cells],.cells 3 ((l.take i.toNat).map Gd.cells)]:=by rw [gpH,if_neg h]
theorem zq' (g:Gd) (H:zd):bsK 3 [.bool false,.int .i64 0,.int .i64 0] [.bool g.Try,.int .i64 g.Keep,.int .i64 g.Handler] H=some (.sl H.length 0 1 1,H++[.cells 3 [g.cells]],[]):=uT _ _ _ _ rfl
theorem zkt {p:PV} {l:List Gd} (h:xF p l) (hb:l.length≤1048576):EV A (.loop (Xm 0)) ⟨[(0,p),(2,.nils),(3,.nils),(6,p),(7,.int .i64 l.length),(8,.int .i64 0)],[],[],[]⟩=some (.exit 0,⟨[(0,p),(2,.nils),(3,U3 l.length),(6,p),(7,.int .i64 l.length),(8,.int .i64 l.length)],[],gpH l l.length,[]⟩):=by
 have key:=vk (P:=A) (body:=(Xm 0)) (fun i (a:Unit)=>(⟨[(0,p),(2,.nils),(3,U3 i),(6,p),(7,.int .i64 l.length),(8,.int .i64 i)],[],gpH l i,[]⟩:St)) (fun _ a=>a) (fun _ _=>True)
  (fun _=>(zp.exit 0,(⟨[(0,p),(2,.nils),(3,U3 l.length),(6,p),(7,.int .i64 l.length),(8,.int .i64 l.length)],[],gpH l l.length,[]⟩:St))) 0 l.length ?_ ?_ 0 () (by omega) (by omega) trivial
 ·exact key.1
 ·intro i a hi hn _
  have hx:=fun H=>wg h H .i64 i hi hn
  simp only [Gd.cells] at hx
  refine ⟨?_,trivial⟩
  by_cases c:i=0
  ·subst c
   have hr:=jb [.cells 3 [(za l 0).cells]] 3 (za l 0).cells
   have ha:=xE [.cells 3 [(za l 0).cells],.cells 3 [(za l 0).cells]] 3 24 [(za l 0).cells] (by simp)
   have e1:U3 0=.nils:=rfl
   have e2:gpH l 0=[]:=rfl
   have e3:U3 (0+1)=.sl 2 0 1 1:=rfl
   have e4:gpH l (0+1)=[.cells 3 [(za l 0).cells],.cells 3 [(za l 0).cells],.cells 3 [(za l 0).cells]]:=by
    rw [JH (by decide)]
    show [_,_,yf.cells 3 ((l.take 1).map Gd.cells)]=_
    rw [ziO (by omega)];rfl
   simp only [List.cons_append,List.nil_append,List.length_nil,List.length_cons,Gd.cells] at hr ha
   refine ⟨_,by (simp -implicitDefEqProofs +contextual (disch:=omega) only [X5,kE,e1,e2, ↓zy, ↓zE,zq',zz,Gd.cells, ↓XD,XU, ↓reduceIte,sevalprocAttr,hx,hn,hr.1,hr.2,ha])<;>rfl,?_⟩
   rw [e3,e4]
   simp [e1,e2,St.next,trim,bare,zt,refs,yL h]
  ·have hl:¬i+1=0:=by omega
   have e5:l.take (i+1).toNat=l.take i.toNat++[za l i]:=KF hi hn
   have e6:(i+1).toNat=i.toNat+1:=by omega
   have e7:(l.take i.toNat).length=i.toNat:=by rw [List.length_take];omega
   have hr:=Yj [.cells 3 [(za l 0).cells],.cells 3 [(za l 0).cells],.cells 3 ((l.take i.toNat).map Gd.cells),.cells 3 [(za l i).cells]] 4 rfl 3 (za l i).cells
   have ha:=ZC (H:=[.cells 3 [(za l 0).cells],.cells 3 [(za l 0).cells],.cells 3 ((l.take i.toNat).map Gd.cells),.cells 3 [(za l i).cells],.cells 3 [(za l i).cells]]) (id:=2) (sz:=3) (by':=24) (n:=i.toNat) rfl (by simp only [List.length_map,e7]) (by omega) (za l i).cells rfl
   simp only [List.cons_append,List.nil_append,Gd.cells] at hr ha
   refine ⟨_,by (simp -implicitDefEqProofs +contextual (disch:=omega) only [X5,kE,Us c,JH c, ↓zy, ↓zE,zq',zz,Gd.cells, ↓XD,XU, ↓reduceIte,sevalprocAttr,hx,hn,hr.1,hr.2,ha])<;>rfl,?_⟩
   rw [Us hl,JH hl,e5,e6]
   simp [Us c,JH c,St.next,trim,bare,zt,refs,yL h]
 ·rintro i a hi rfl _
  refine ⟨by simp -implicitDefEqProofs +contextual (disch:=omega) only [X5,kE, ↓XD,XU, ↓reduceIte,sevalprocAttr,Int.lt_irrefl],by simp⟩
theorem ZD {p:PV} {l:List Gd} (h:xF p l) (hb:l.length≤1048576):ES A Xp [p] []=some (U3 l.length,gpH l l.length,[]):=by
 have hl:=zkt h hb
 have hlen:=wx h
 simp -implicitDefEqProofs +contextual (disch:=omega) only [ziH,zaQ,kE, ↓XD,XU, ↓reduceIte,sevalprocAttr,hlen,hl]
 by_cases c:(l.length:Int)=0
 ·simp [zW,gpH,c]
 ·simp [Us c,JH c,trim,bare,zt,refs]
theorem znN {p:PV} {l:List Gd} (h:xF p l) (hb:l.length≤1048576):EP A Xp [p]=some (cG l):=by
 have hl:=zkt h hb
 have hlen:=wx h
 simp -implicitDefEqProofs +contextual (disch:=omega) only [zhS,zaQ,kE, ↓XD,XU, ↓reduceIte,sevalprocAttr,hlen,hl]
 by_cases c:(l.length:Int)=0
 ·have:l=[]:=List.length_eq_zero_iff.1 (by omega)
  subst this
  simp [U3,cG];rfl
 ·have e:l.take (l.length:Int).toNat=l:=by simp
  have:¬l=[]:=fun e=>by subst e;simp at c
  rw [Us c,JH c,cG,if_neg this,e]
  have:=Zo (d:=6) (H:=[.cells 3 [(za l 0).cells],.cells 3 [(za l 0).cells],.cells 3 (l.map Gd.cells)]) (id:=2) (l:=l) rfl
  simpa using this
abbrev zo (p q:PV):List PV:=[.bool true,p,q]
theorem zt8 (p q p' q':PV) (s s':yr) (t1:xU p s.Types) (t2:xF q s.Guards) (t3:xU p' s'.Types) (t4:xF q' s'.Guards) (hb:s.Types.length≤1048576) (hl:s'.Types.length=s.Types.length):match z8 (fun (j:Int)=>¬za s.Types j=za s'.Types j) 0 s.Types.length with|some j=>∃ st,EV A (.loop (jI 0)) (⟨[(0,.agg (zo p q)),(1,.agg (zo p' q')),(2,.ptr 0 0 0 1),(3,.ptr 1 0 0 1),(4,.bool false),(25,.int .i64 s.Types.length),(26,.int .i64 (0))],[],[.cells 3 [zo p q],.cells 3 [zo p' q']],[]⟩:St)=some (.ret,st)∧st.per.get 4=.bool false|none=>EV A (.loop (jI 0)) (⟨[(0,.agg (zo p q)),(1,.agg (zo p' q')),(2,.ptr 0 0 0 1),(3,.ptr 1 0 0 1),(4,.bool false),(25,.int .i64 s.Types.length),(26,.int .i64 (0))],[],[.cells 3 [zo p q],.cells 3 [zo p' q']],[]⟩:St)=some (zp.exit 0,(⟨[(0,.agg (zo p q)),(1,.agg (zo p' q')),(2,.ptr 0 0 0 1),(3,.ptr 1 0 0 1),(4,.bool false),(25,.int .i64 s.Types.length),(26,.int .i64 (s.Types.length))],[],[.cells 3 [zo p q],.cells 3 [zo p' q']],[]⟩:St)):=by
 refine yt (fun i=>(⟨[(0,.agg (zo p q)),(1,.agg (zo p' q')),(2,.ptr 0 0 0 1),(3,.ptr 1 0 0 1),(4,.bool false),(25,.int .i64 s.Types.length),(26,.int .i64 i)],[],[.cells 3 [zo p q],.cells 3 [zo p' q']],[]⟩:St)) (fun (j:Int)=>¬za s.Types j=za s'.Types j) (fun (j:Int) (st:St)=>st.per.get 4=.bool false) (zp.exit 0,(⟨[(0,.agg (zo p q)),(1,.agg (zo p' q')),(2,.ptr 0 0 0 1),(3,.ptr 1 0 0 1),(4,.bool false),(25,.int .i64 s.Types.length),(26,.int .i64 (s.Types.length))],[],[.cells 3 [zo p q],.cells 3 [zo p' q']],[]⟩:St)) (0) (s.Types.length) ?_ ?_ ?_ (0) (by omega) (by omega)
 ·intro i hi hn hp
  have hi1:=fun H=>ve t1 H .i64 i hi hn;have hi2:=fun H=>ve t3 H .i64 i hi (by omega)
  refine ⟨_,by (simp -implicitDefEqProofs +contextual (disch:=omega) only [Ul,wQ,zo, ↓XD,XU, ↓reduceIte,sevalprocAttr,hi1,hi2,hp,hn])<;>rfl,by simp [St.next,trim,bare,zt,refs,yM t1,yM t3,yL t2,yL t4]⟩
 ·intro i hi hn hp
  have hi1:=fun H=>ve t1 H .i64 i hi hn;have hi2:=fun H=>ve t3 H .i64 i hi (by omega)
  refine ⟨_,by (simp -implicitDefEqProofs +contextual (disch:=omega) only [Ul,wQ,zo, ↓XD,XU, ↓reduceIte,sevalprocAttr,hi1,hi2,hp,hn])<;>rfl,by simp [zk.get,zk.put]⟩
 ·rintro i hi rfl
  refine ⟨by simp -implicitDefEqProofs +contextual (disch:=omega) only [Ul,wQ, ↓XD,XU, ↓reduceIte,sevalprocAttr,zo,Int.lt_irrefl],by simp⟩
theorem zh2 (g h:Gd):kk [1,0,0] g.cells h.cells=some (decide (g=h)):=by
 obtain ⟨a,b,c⟩:=g
 obtain ⟨a',b',c'⟩:=h
 simp only [Gd.cells,kk,jl,decide_true]
 congr 1
 rw [Bool.eq_iff_iff]
 simp
theorem zt9 (p q p' q':PV) (s s':yr) (t1:xU p s.Types) (t2:xF q s.Guards) (t3:xU p' s'.Types) (t4:xF q' s'.Guards) (hb:s.Guards.length≤1048576) (hl:s'.Guards.length=s.Guards.length):match z8 (fun (j:Int)=>¬za s.Guards j=za s'.Guards j) 0 s.Guards.length with|some j=>∃ st,EV A (.loop (jI 1)) (⟨[(0,.agg (zo p q)),(1,.agg (zo p' q')),(2,.ptr 0 0 0 1),(3,.ptr 1 0 0 1),(4,.bool false),(25,.int .i64 s.Types.length),(26,.int .i64 s.Types.length),(43,.int .i64 s.Guards.length),(44,.int .i64 (0))],[],[.cells 3 [zo p q],.cells 3 [zo p' q']],[]⟩:St)=some (.ret,st)∧st.per.get 4=.bool false|none=>EV A (.loop (jI 1)) (⟨[(0,.agg (zo p q)),(1,.agg (zo p' q')),(2,.ptr 0 0 0 1),(3,.ptr 1 0 0 1),(4,.bool false),(25,.int .i64 s.Types.length),(26,.int .i64 s.Types.length),(43,.int .i64 s.Guards.length),(44,.int .i64 (0))],[],[.cells 3 [zo p q],.cells 3 [zo p' q']],[]⟩:St)=some (zp.exit 2,(⟨[(0,.agg (zo p q)),(1,.agg (zo p' q')),(2,.ptr 0 0 0 1),(3,.ptr 1 0 0 1),(4,.bool false),(25,.int .i64 s.Types.length),(26,.int .i64 s.Types.length),(43,.int .i64 s.Guards.length),(44,.int .i64 (s.Guards.length))],[],[.cells 3 [zo p q],.cells 3 [zo p' q']],[]⟩:St)):=by
 refine yt (fun i=>(⟨[(0,.agg (zo p q)),(1,.agg (zo p' q')),(2,.ptr 0 0 0 1),(3,.ptr 1 0 0 1),(4,.bool false),(25,.int .i64 s.Types.length),(26,.int .i64 s.Types.length),(43,.int .i64 s.Guards.length),(44,.int .i64 i)],[],[.cells 3 [zo p q],.cells 3 [zo p' q']],[]⟩:St)) (fun (j:Int)=>¬za s.Guards j=za s'.Guards j) (fun (j:Int) (st:St)=>st.per.get 4=.bool false) (zp.exit 2,(⟨[(0,.agg (zo p q)),(1,.agg (zo p' q')),(2,.ptr 0 0 0 1),(3,.ptr 1 0 0 1),(4,.bool false),(25,.int .i64 s.Types.length),(26,.int .i64 s.Types.length),(43,.int .i64 s.Guards.length),(44,.int .i64 (s.Guards.length))],[],[.cells 3 [zo p q],.cells 3 [zo p' q']],[]⟩:St)) (0) (s.Guards.length) ?_ ?_ ?_ (0) (by omega) (by omega)
 ·intro i hi hn hp
  have hi1:=fun H=>wg t2 H .i64 i hi hn;have hi2:=fun H=>wg t4 H .i64 i hi (by omega);have hq:=zh2 (za s.Guards i) (za s'.Guards i);simp only [Gd.cells] at hi1 hi2 hq
  refine ⟨_,by (simp -implicitDefEqProofs +contextual (disch:=omega) only [Um,wQ,zo, ↓XD,XU, ↓reduceIte,sevalprocAttr,hi1,hi2,hq,hp,hn])<;>rfl,by simp [St.next,trim,bare,zt,refs,yM t1,yM t3,yL t2,yL t4]⟩
 ·intro i hi hn hp
  have hi1:=fun H=>wg t2 H .i64 i hi hn;have hi2:=fun H=>wg t4 H .i64 i hi (by omega);have hq:=zh2 (za s.Guards i) (za s'.Guards i);simp only [Gd.cells] at hi1 hi2 hq
  refine ⟨_,by (simp -implicitDefEqProofs +contextual (disch:=omega) only [Um,wQ,zo, ↓XD,XU, ↓reduceIte,sevalprocAttr,hi1,hi2,hq,hp,hn])<;>rfl,by simp [zk.get,zk.put]⟩
 ·rintro i hi rfl
  refine ⟨by simp -implicitDefEqProofs +contextual (disch:=omega) only [Um,wQ, ↓XD,XU, ↓reduceIte,sevalprocAttr,zo,Int.lt_irrefl],by simp⟩
theorem zrx {p q p' q':PV} {s s':yr} (t1:xU p s.Types) (t2:xF q s.Guards) (t3:xU p' s'.Types) (t4:xF q' s'.Guards) (h1:s.Types.length≤1048576) (h2:s.Guards.length≤1048576) (h3:s'.Types.length≤1048576) (h4:s'.Guards.length≤1048576):EP A zef [.agg (zo p q),.agg (zo p' q')]=some (.bool (decide (s=s'))):=by
 have l1:=Ut t1
 have l2:=wx t2
 have l3:=Ut t3
 have l4:=wx t4
 have c1:=uH t1
 have c2:=yN t2
 have c3:=uH t3
 have c4:=yN t4
 have k1:=jM t1
 have k2:=xf t2
 have k3:=jM t3
 have k4:=xf t4
 by_cases e1:(s.Types.length:Int)=s'.Types.length
 ·by_cases e2:(s.Guards.length:Int)=s'.Guards.length
  ·have a0:=zt8 p q p' q' s s' t1 t2 t3 t4 h1 (by omega)
   have a1:=zt9 p q p' q' s s' t1 t2 t3 t4 h2 (by omega)
   have ext:∀ {α:Type} [Inhabited α] {l l':List α},(l.length:Int)=l'.length→z8 (fun j=>¬za l j=za l' j) 0 l.length=none→l=l':=by
    intro α _ l l' hl hs
    refine List.ext_getElem? fun k=>?_
    by_cases hk:k<l.length
    ·have:=Classical.not_not.1 (y7.1 hs k (by omega) (by omega))
     have u1:=wc (l:=l) (i:=(k:Int)) (by omega) (by omega)
     have u2:=wc (l:=l') (i:=(k:Int)) (by omega) (by omega)
     rw [Int.toNat_natCast] at u1 u2
     rw [u1,u2,this]
    ·rw [List.getElem?_eq_none (by omega),List.getElem?_eq_none (by omega)]
   cases s0:z8 (fun j=>¬za s.Types j=za s'.Types j) 0 s.Types.length with
   |some j=>
    rw [s0] at a0
    obtain ⟨st,a0,hg⟩:=a0
    have hne:¬s=s':=fun e=>by
     obtain ⟨_,_,h,_⟩:=xH.1 s0
     exact h (by rw [e])
    simp only [zo,e1,e2] at a0
    simp -implicitDefEqProofs +contextual (disch:=omega) only [Y6,Y_,wQ,zo,zD, ↓XD,XU, ↓reduceIte,sevalprocAttr,l1,l2,l3,l4,c1,c2,c3,c4,k1,k2,k3,k4,e1,e2,a0,hg,hne]
   |none=>
    rw [s0] at a0
    have t0:=ext e1 s0
    cases s1:z8 (fun j=>¬za s.Guards j=za s'.Guards j) 0 s.Guards.length with
    |some j=>
     rw [s1] at a1
     obtain ⟨st,a1,hg⟩:=a1
     have hne:¬s=s':=fun e=>by
      obtain ⟨_,_,h,_⟩:=xH.1 s1
      exact h (by rw [e])
     simp only [zo,e1,e2] at a0 a1
     simp -implicitDefEqProofs +contextual (disch:=omega) only [Y6,Y_,wQ,zo,zD, ↓XD,XU, ↓reduceIte,sevalprocAttr,l1,l2,l3,l4,c1,c2,c3,c4,k1,k2,k3,k4,e1,e2,a0,a1,hg,hne]
    |none=>
     rw [s1] at a1
     have t9:=ext e2 s1
     have he:s=s':=by cases s;cases s';simp only at t0 t9;rw [t0,t9]
     simp only [zo,e1,e2] at a0 a1
     simp -implicitDefEqProofs +contextual (disch:=omega) only [Y6,Y_,wQ,zo,zD, ↓XD,XU, ↓reduceIte,sevalprocAttr,l1,l2,l3,l4,c1,c2,c3,c4,k1,k2,k3,k4,e1,e2,a0,a1,he]
  ·have hne:¬s=s':=fun e=>e2 (by rw [e])
   simp -implicitDefEqProofs +contextual (disch:=omega) only [Y6,Y_,wQ,zo,zD, ↓XD,XU, ↓reduceIte,sevalprocAttr,l1,l2,l3,l4,c1,c2,c3,c4,k1,k2,k3,k4,e1,e2,hne]
 ·have hne:¬s=s':=fun e=>e1 (by rw [e])
  simp -implicitDefEqProofs +contextual (disch:=omega) only [Y6,Y_,wQ,zo,zD, ↓XD,XU, ↓reduceIte,sevalprocAttr,l1,l2,l3,l4,c1,c2,c3,c4,k1,k2,k3,k4,e1,hne]
structure zo7 (gs:List Gd) (tk bf bh:List Int):Prop where
 g:gs.length≤1048576
 t:tk.length≤1048576
 b:bf.length≤1048576
 e:bh.length=bf.length
 k:∀ x∈gs,0≤x.Keep∧x.Keep≤bf.length
noncomputable abbrev zjn (tk:List Int) (k:Int):Option Int:=z8 (fun j=>za tk j<k) 0 tk.length
noncomputable abbrev zpe (bf bh:List Int) (k:Int):Option Int:=z8 (fun j=>¬za bf j=za bh j) 0 k
theorem zx3 (nd:Ins) (g:Gd) (q t b c:PV) (gs:List Gd) (tk bf bh:List Int) (t1:xF q gs) (t2:xU t tk) (t3:xU b bf) (t4:xU c bh) (x:Int) (hb:tk.length≤1048576):match z8 (fun (j:Int)=>za tk j<g.Keep) 0 tk.length with|some j=>∃ st,EV A (.loop (vC 1)) (⟨[(0,.agg nd.cells),(1,q),(2,t),(3,b),(4,c),(5,.ptr 0 0 0 1),(10,.bool false),(16,q),(17,.int .i64 gs.length),(18,.int .i64 x),(12,.ptr 1 0 0 1),(11,.int .i64 x),(26,t),(27,.int .i64 tk.length),(28,.int .i64 (0))],[],[.cells 5 [nd.cells],.cells 3 [g.cells]],[]⟩:St)=some (.ret,st)∧st.per.get 10=.bool false|none=>EV A (.loop (vC 1)) (⟨[(0,.agg nd.cells),(1,q),(2,t),(3,b),(4,c),(5,.ptr 0 0 0 1),(10,.bool false),(16,q),(17,.int .i64 gs.length),(18,.int .i64 x),(12,.ptr 1 0 0 1),(11,.int .i64 x),(26,t),(27,.int .i64 tk.length),(28,.int .i64 (0))],[],[.cells 5 [nd.cells],.cells 3 [g.cells]],[]⟩:St)=some (zp.exit 2,(⟨[(0,.agg nd.cells),(1,q),(2,t),(3,b),(4,c),(5,.ptr 0 0 0 1),(10,.bool false),(16,q),(17,.int .i64 gs.length),(18,.int .i64 x),(12,.ptr 1 0 0 1),(11,.int .i64 x),(26,t),(27,.int .i64 tk.length),(28,.int .i64 (tk.length))],[],[.cells 5 [nd.cells],.cells 3 [g.cells]],[]⟩:St)):=by
 refine yt (fun i=>(⟨[(0,.agg nd.cells),(1,q),(2,t),(3,b),(4,c),(5,.ptr 0 0 0 1),(10,.bool false),(16,q),(17,.int .i64 gs.length),(18,.int .i64 x),(12,.ptr 1 0 0 1),(11,.int .i64 x),(26,t),(27,.int .i64 tk.length),(28,.int .i64 i)],[],[.cells 5 [nd.cells],.cells 3 [g.cells]],[]⟩:St)) (fun (j:Int)=>za tk j<g.Keep) (fun (j:Int) (st:St)=>st.per.get 10=.bool false) (zp.exit 2,(⟨[(0,.agg nd.cells),(1,q),(2,t),(3,b),(4,c),(5,.ptr 0 0 0 1),(10,.bool false),(16,q),(17,.int .i64 gs.length),(18,.int .i64 x),(12,.ptr 1 0 0 1),(11,.int .i64 x),(26,t),(27,.int .i64 tk.length),(28,.int .i64 (tk.length))],[],[.cells 5 [nd.cells],.cells 3 [g.cells]],[]⟩:St)) (0) (tk.length) ?_ ?_ ?_ (0) (by omega) (by omega)
 ·intro i hi hn hp
  have hi1:=fun H=>ve t2 H .i64 i hi hn
  refine ⟨_,by (simp -implicitDefEqProofs +contextual (disch:=omega) only [Ui,xM,Ins.cells,Gd.cells, ↓XD,XU, ↓reduceIte,sevalprocAttr,hi1,hp,hn])<;>rfl,by simp [St.next,trim,bare,zt,refs,yM t2,yM t3,yM t4,yL t1]⟩
 ·intro i hi hn hp
  have hi1:=fun H=>ve t2 H .i64 i hi hn
  refine ⟨_,by (simp -implicitDefEqProofs +contextual (disch:=omega) only [Ui,xM,Ins.cells,Gd.cells, ↓XD,XU, ↓reduceIte,sevalprocAttr,hi1,hp,hn])<;>rfl,by simp [zk.get,zk.put]⟩
 ·rintro i hi rfl
  refine ⟨by simp -implicitDefEqProofs +contextual (disch:=omega) only [Ui,xM, ↓XD,XU, ↓reduceIte,sevalprocAttr,Ins.cells,Gd.cells,Int.lt_irrefl],by simp⟩
theorem zx4 (nd:Ins) (g:Gd) (q t b c:PV) (gs:List Gd) (tk bf bh:List Int) (t1:xF q gs) (t2:xU t tk) (t3:xU b bf) (t4:xU c bh) (x:Int) (hb:bf.length≤1048576) (hk:0≤g.Keep) (hk1:g.Keep≤bf.length) (he:bh.length=bf.length):match z8 (fun (j:Int)=>¬za bf j=za bh j) 0 g.Keep with|some j=>∃ st,EV A (.loop (vC 2)) (⟨[(0,.agg nd.cells),(1,q),(2,t),(3,b),(4,c),(5,.ptr 0 0 0 1),(10,.bool false),(16,q),(17,.int .i64 gs.length),(18,.int .i64 x),(12,.ptr 1 0 0 1),(11,.int .i64 x),(26,t),(27,.int .i64 tk.length),(28,.int .i64 tk.length),(15,.int .i64 (0))],[],[.cells 5 [nd.cells],.cells 3 [g.cells]],[]⟩:St)=some (.ret,st)∧st.per.get 10=.bool false|none=>EV A (.loop (vC 2)) (⟨[(0,.agg nd.cells),(1,q),(2,t),(3,b),(4,c),(5,.ptr 0 0 0 1),(10,.bool false),(16,q),(17,.int .i64 gs.length),(18,.int .i64 x),(12,.ptr 1 0 0 1),(11,.int .i64 x),(26,t),(27,.int .i64 tk.length),(28,.int .i64 tk.length),(15,.int .i64 (0))],[],[.cells 5 [nd.cells],.cells 3 [g.cells]],[]⟩:St)=some (zp.exit 4,(⟨[(0,.agg nd.cells),(1,q),(2,t),(3,b),(4,c),(5,.ptr 0 0 0 1),(10,.bool false),(16,q),(17,.int .i64 gs.length),(18,.int .i64 x),(12,.ptr 1 0 0 1),(11,.int .i64 x),(26,t),(27,.int .i64 tk.length),(28,.int .i64 tk.length),(15,.int .i64 (g.Keep))],[],[.cells 5 [nd.cells],.cells 3 [g.cells]],[]⟩:St)):=by
 refine yt (fun i=>(⟨[(0,.agg nd.cells),(1,q),(2,t),(3,b),(4,c),(5,.ptr 0 0 0 1),(10,.bool false),(16,q),(17,.int .i64 gs.length),(18,.int .i64 x),(12,.ptr 1 0 0 1),(11,.int .i64 x),(26,t),(27,.int .i64 tk.length),(28,.int .i64 tk.length),(15,.int .i64 i)],[],[.cells 5 [nd.cells],.cells 3 [g.cells]],[]⟩:St)) (fun (j:Int)=>¬za bf j=za bh j) (fun (j:Int) (st:St)=>st.per.get 10=.bool false) (zp.exit 4,(⟨[(0,.agg nd.cells),(1,q),(2,t),(3,b),(4,c),(5,.ptr 0 0 0 1),(10,.bool false),(16,q),(17,.int .i64 gs.length),(18,.int .i64 x),(12,.ptr 1 0 0 1),(11,.int .i64 x),(26,t),(27,.int .i64 tk.length),(28,.int .i64 tk.length),(15,.int .i64 (g.Keep))],[],[.cells 5 [nd.cells],.cells 3 [g.cells]],[]⟩:St)) (0) (g.Keep) ?_ ?_ ?_ (0) (by omega) (by omega)
 ·intro i hi hn hp
  have hi1:=fun H=>ve t3 H .i64 i hi (by omega);have hi2:=fun H=>ve t4 H .i64 i hi (by omega)
  refine ⟨_,by (simp -implicitDefEqProofs +contextual (disch:=omega) only [Uj,xM,Ins.cells,Gd.cells, ↓XD,XU, ↓reduceIte,sevalprocAttr,hi1,hi2,hp,hn])<;>rfl,by simp [St.next,trim,bare,zt,refs,yM t2,yM t3,yM t4,yL t1]⟩
 ·intro i hi hn hp
  have hi1:=fun H=>ve t3 H .i64 i hi (by omega);have hi2:=fun H=>ve t4 H .i64 i hi (by omega)
  refine ⟨_,by (simp -implicitDefEqProofs +contextual (disch:=omega) only [Uj,xM,Ins.cells,Gd.cells, ↓XD,XU, ↓reduceIte,sevalprocAttr,hi1,hi2,hp,hn])<;>rfl,by simp [zk.get,zk.put]⟩
 ·rintro i hi rfl
  refine ⟨by simp -implicitDefEqProofs +contextual (disch:=omega) only [Uj,xM, ↓XD,XU, ↓reduceIte,sevalprocAttr,Ins.cells,Gd.cells,Int.lt_irrefl],by simp⟩
noncomputable def zpf (nd:Ins) (gs:List Gd) (tk bf bh:List Int) (j:Int):Prop:=(za gs j).Try=true∧(zjn tk (za gs j).Keep≠none∨(¬(nd.Op=32∧j=(gs.length:Int)-1)∧zpe bf bh (za gs j).Keep≠none))
theorem zBa (nd:Ins) (q t b c:PV) (gs:List Gd) (tk bf bh:List Int) (t1:xF q gs) (t2:xU t tk) (t3:xU b bf) (t4:xU c bh) (h:zo7 gs tk bf bh):match z8 (fun (j:Int)=>zpf nd gs tk bf bh j) 0 gs.length with|some j=>∃ st,EV A (.loop (vC 0)) (⟨[(0,.agg nd.cells),(1,q),(2,t),(3,b),(4,c),(5,.ptr 0 0 0 1),(10,.bool false),(16,q),(17,.int .i64 gs.length),(18,.int .i64 (0))],[],[.cells 5 [nd.cells]],[]⟩:St)=some (.ret,st)∧st.per.get 10=.bool false|none=>EV A (.loop (vC 0)) (⟨[(0,.agg nd.cells),(1,q),(2,t),(3,b),(4,c),(5,.ptr 0 0 0 1),(10,.bool false),(16,q),(17,.int .i64 gs.length),(18,.int .i64 (0))],[],[.cells 5 [nd.cells]],[]⟩:St)=some (zp.exit 0,(⟨[(0,.agg nd.cells),(1,q),(2,t),(3,b),(4,c),(5,.ptr 0 0 0 1),(10,.bool false),(16,q),(17,.int .i64 gs.length),(18,.int .i64 (gs.length))],[],[.cells 5 [nd.cells]],[]⟩:St)):=by
 have hb:=h.g;have hbt:=h.t;have hbb:=h.b;have hbe:=h.e
 refine yt (fun i=>(⟨[(0,.agg nd.cells),(1,q),(2,t),(3,b),(4,c),(5,.ptr 0 0 0 1),(10,.bool false),(16,q),(17,.int .i64 gs.length),(18,.int .i64 i)],[],[.cells 5 [nd.cells]],[]⟩:St)) (fun (j:Int)=>zpf nd gs tk bf bh j) (fun (j:Int) (st:St)=>st.per.get 10=.bool false) (zp.exit 0,(⟨[(0,.agg nd.cells),(1,q),(2,t),(3,b),(4,c),(5,.ptr 0 0 0 1),(10,.bool false),(16,q),(17,.int .i64 gs.length),(18,.int .i64 (gs.length))],[],[.cells 5 [nd.cells]],[]⟩:St)) (0) (gs.length) ?_ ?_ ?_ (0) (by omega) (by omega)
 ·intro i hi hn hp
  have hi1:=fun H=>wg t1 H .i64 i hi hn;have hlt:=Ut t2;have hlg:=wx t1;have hk:=h.k _ (jc hi hn);have l1:=zx3 nd (za gs i) q t b c gs tk bf bh t1 t2 t3 t4 i hbt;have l2:=zx4 nd (za gs i) q t b c gs tk bf bh t1 t2 t3 t4 i hbb hk.1 hk.2 hbe;simp only [Gd.cells,Ins.cells] at hi1 l1 l2
  by_cases c0:(za gs i).Try=true
  ·simp only [c0] at l1 l2
   have n1:zjn tk (za gs i).Keep=none:=Classical.byContradiction fun e=>hp ⟨c0,.inl e⟩
   unfold zjn at n1
   rw [n1] at l1
   by_cases c1:nd.Op=32∧i=(gs.length:Int)-1
   ·obtain ⟨c1,c2⟩:=c1
    refine ⟨_,by (simp -implicitDefEqProofs +contextual (disch:=omega) only [vA,xM,Ins.cells,Gd.cells, ↓XD,XU, ↓reduceIte,sevalprocAttr,hi1,hlt,hlg,l1,c0,eq_true c1,eq_true c2,hn])<;>rfl,by simp [St.next,trim,bare,zt,refs,yM t2,yM t3,yM t4,yL t1]⟩
   ·have n2:zpe bf bh (za gs i).Keep=none:=Classical.byContradiction fun e=>hp ⟨c0,.inr ⟨c1,e⟩⟩
    unfold zpe at n2
    rw [n2] at l2
    by_cases c2:nd.Op=32
    ·have c3:¬i=(gs.length:Int)-1:=fun e=>c1 ⟨c2,e⟩
     refine ⟨_,by (simp -implicitDefEqProofs +contextual (disch:=omega) only [vA,xM,Ins.cells,Gd.cells, ↓XD,XU, ↓reduceIte,sevalprocAttr,hi1,hlt,hlg,l1,l2,c0,eq_true c2,c3,hn])<;>rfl,by simp [St.next,trim,bare,zt,refs,yM t2,yM t3,yM t4,yL t1]⟩
    ·refine ⟨_,by (simp -implicitDefEqProofs +contextual (disch:=omega) only [vA,xM,Ins.cells,Gd.cells, ↓XD,XU, ↓reduceIte,sevalprocAttr,hi1,hlt,hlg,l1,l2,c0,c2,hn])<;>rfl,by simp [St.next,trim,bare,zt,refs,yM t2,yM t3,yM t4,yL t1]⟩
  ·refine ⟨_,by (simp -implicitDefEqProofs +contextual (disch:=omega) only [vA,xM,Ins.cells,Gd.cells, ↓XD,XU, ↓reduceIte,sevalprocAttr,hi1,c0,hn])<;>rfl,by simp [St.next,trim,bare,zt,refs,yM t2,yM t3,yM t4,yL t1]⟩
 ·intro i hi hn hp
  have hi1:=fun H=>wg t1 H .i64 i hi hn;have hlt:=Ut t2;have hlg:=wx t1;have hk:=h.k _ (jc hi hn);have l1:=zx3 nd (za gs i) q t b c gs tk bf bh t1 t2 t3 t4 i hbt;have l2:=zx4 nd (za gs i) q t b c gs tk bf bh t1 t2 t3 t4 i hbb hk.1 hk.2 hbe;simp only [Gd.cells,Ins.cells] at hi1 l1 l2
  obtain ⟨c0,hp⟩:=hp
  simp only [c0] at l1 l2
  cases n1:zjn tk (za gs i).Keep with
  |some j=>
   unfold zjn at n1
   rw [n1] at l1
   obtain ⟨st,l1,hg⟩:=l1
   exact ⟨_,by (simp -implicitDefEqProofs +contextual (disch:=omega) only [vA,xM,Ins.cells,Gd.cells, ↓XD,XU, ↓reduceIte,sevalprocAttr,hi1,hlt,hlg,l1,c0,hn])<;>rfl,hg⟩
  |none=>
   have hp2:=hp.resolve_left (fun e=>e n1)
   unfold zjn at n1
   rw [n1] at l1
   obtain ⟨c1,hp2⟩:=hp2
   obtain ⟨j,n2⟩:=Option.ne_none_iff_exists'.1 hp2
   unfold zpe at n2
   rw [n2] at l2
   obtain ⟨st,l2,hg⟩:=l2
   by_cases c2:nd.Op=32
   ·have c3:¬i=(gs.length:Int)-1:=fun e=>c1 ⟨c2,e⟩
    exact ⟨_,by (simp -implicitDefEqProofs +contextual (disch:=omega) only [vA,xM,Ins.cells,Gd.cells, ↓XD,XU, ↓reduceIte,sevalprocAttr,hi1,hlt,hlg,l1,l2,c0,eq_true c2,c3,hn])<;>rfl,hg⟩
   ·exact ⟨_,by (simp -implicitDefEqProofs +contextual (disch:=omega) only [vA,xM,Ins.cells,Gd.cells, ↓XD,XU, ↓reduceIte,sevalprocAttr,hi1,hlt,hlg,l1,l2,c0,c2,hn])<;>rfl,hg⟩
 ·rintro i hi rfl
  refine ⟨by simp -implicitDefEqProofs +contextual (disch:=omega) only [vA,xM, ↓XD,XU, ↓reduceIte,sevalprocAttr,Ins.cells,Gd.cells,Int.lt_irrefl],by simp⟩
theorem zr6 {nd:Ins} {gs:List Gd} {tk bf bh:List Int} (h:zo7 gs tk bf bh) (h32:nd.Op=32→bf=bh):(∃ j:Int,0≤j∧j<gs.length∧zpf nd gs tk bf bh j)↔JW gs tk bf bh:=by
 constructor
 ·rintro ⟨j,j0,j1,c0,hp⟩
  refine ⟨za gs j,jc j0 j1,c0,?_⟩
  rcases hp with hp|⟨_,hp⟩
  ·obtain ⟨k,hk⟩:=Option.ne_none_iff_exists'.1 hp
   obtain ⟨k0,k1,k2,_⟩:=xH.1 hk
   exact .inl ⟨_,jc k0 k1,k2⟩
  ·obtain ⟨k,hk⟩:=Option.ne_none_iff_exists'.1 hp
   obtain ⟨k0,k1,k2,_⟩:=xH.1 hk
   exact .inr ⟨k,k0,k1,k2⟩
 ·rintro ⟨g,hg,c0,hp⟩
  obtain ⟨j,j0,j1,rfl⟩:=Y' hg
  refine ⟨j,j0,j1,c0,?_⟩
  rcases hp with ⟨r,hr,hlt⟩|⟨r,r0,r1,hne⟩
  ·obtain ⟨k,k0,k1,rfl⟩:=Y' hr
   exact .inl fun e=>y7.1 e k k0 k1 hlt
  ·refine .inr ⟨fun e=>hne (by rw [h32 e.1]),fun e=>y7.1 e r r0 r1 hne⟩
theorem zrw {nd:Ins} {q t b c:PV} {gs:List Gd} {tk bf bh:List Int} (t1:xF q gs) (t2:xU t tk) (t3:xU b bf) (t4:xU c bh) (h:zo7 gs tk bf bh) (h32:nd.Op=32→bf=bh):EP A zee [.agg nd.cells,q,t,b,c]=some (.bool (decide ¬JW gs tk bf bh)):=by
 have l0:=zBa nd q t b c gs tk bf bh t1 t2 t3 t4 h
 have hlen:=wx t1
 have hiff:=zr6 h h32
 simp only [Ins.cells] at l0
 cases hs:z8 (fun j=>zpf nd gs tk bf bh j) 0 gs.length with
 |none=>
  rw [hs] at l0
  have hn:¬JW gs tk bf bh:=fun e=>by
   obtain ⟨j,j0,j1,hj⟩:=hiff.2 e
   exact y7.1 hs j j0 j1 hj
  simp -implicitDefEqProofs +contextual (disch:=omega) only [zd4,zel,xM,Ins.cells,zD, ↓XD,XU, ↓reduceIte,sevalprocAttr,hlen,l0,hn]
 |some j=>
  rw [hs] at l0
  obtain ⟨st,l0,hg⟩:=l0
  obtain ⟨j0,j1,hj,_⟩:=xH.1 hs
  have hn:JW gs tk bf bh:=hiff.1 ⟨j,j0,j1,hj⟩
  simp -implicitDefEqProofs +contextual (disch:=omega) only [zd4,zel,xM,Ins.cells,zD, ↓XD,XU, ↓reduceIte,sevalprocAttr,hlen,l0,hg,hn]
theorem ztU (k:Nat) (g:Gd):xG k g.cells=g.cells:=by simp [Gd.cells,xG,zQ]
theorem Yh (k:Nat) (l:List Gd):(l.map Gd.cells).map (xG k)=l.map Gd.cells:=by
 rw [List.map_map];exact List.map_congr_left fun g _=>ztU k g
theorem Uu (k:Nat) (l:List Int):(yn l).map (xG k)=yn l:=by
 rw [List.map_map];exact List.map_congr_left fun g _=>by simp [xG,zQ]
theorem ztV (k:Nat) (l:List Int) (n:Int):(KK l n).map (yX k)=KK l n:=by
 unfold KK
 split
 ·rfl
 ·simp only [List.map_cons,List.map_nil,yX,Uu,xG,zQ]
theorem jD {l:List Gd} (h:¬l=[]):U3 l.length=.sl 2 0 l.length l.length∧gpH l l.length=[.cells 3 [(za l 0).cells],.cells 3 [(za l 0).cells],.cells 3 (l.map Gd.cells)]:=by
 have c:¬(l.length:Int)=0:=by
  have:=List.length_pos_iff.2 h
  omega
 rw [Us c,JH c]
 simp
theorem Zp:U3 ((([]:List Gd).length:Nat):Int)=.nils∧gpH [] ((([]:List Gd).length:Nat):Int)=[]:=⟨rfl,rfl⟩
def zac (n:Ins) (gs:List Gd) (p:PV) (b:Bool):Prop:=b=(change n gs).isSome∧∀ gs',change n gs=some gs'→xF p gs'
theorem zbR (x:Bool) (y z:Int) (H:zd):bsK 3 [.bool false,.int .i64 0,.int .i64 0] [.bool x,.int .i64 y,.int .i64 z] H=some (.sl H.length 0 1 1,H++[.cells 3 [[.bool x,.int .i64 y,.int .i64 z]]],[]):=uT _ _ _ _ rfl
theorem zwl (d:Nat) (H:zd) (g:Gd):g.cells.map (frz (d+1) H)=g.cells:=by
 simp only [Gd.cells,List.map_cons,List.map_nil,QC,JG]
theorem zwm (d:Nat) (H:zd) (l:List Gd):(l.map Gd.cells).map (fun r=>r.map (frz (d+1) H))=l.map Gd.cells:=by
 rw [List.map_map];exact List.map_congr_left fun g _=>zwl d H g
theorem zhc (d:Nat) (H:zd) (l:List Gd) {n:Nat} (hn:n≤l.length):xA (d+1) H 0 n l.length (some (.cells 3 (l.map Gd.cells)))=gds (l.take n):=by
 have h:(l.length=(l.map Gd.cells).length∧0+n≤l.length):=⟨by simp,by omega⟩
 rw [xA,if_pos h,List.drop_zero, ←List.map_take,zwm]
theorem zb9 (d:Nat) (H:zd) (l:List Gd):xA (d+1) H 0 l.length l.length (some (.cells 3 (l.map Gd.cells)))=gds l:=by
 rw [zhc d H l (Nat.le_refl _),List.take_length]
def slK (sz:Nat) (H:zd):PV→PV→Option (PV×zd×zV)
 |.fz rows,.int _ h=>match decide ((0:Int)≤0)&&decide ((0:Int)≤h)&&decide (h≤rows.length)&&rows.all (fun r=>r.length==sz) with
  |true=>some (.fz ((rows.drop (0:Int).toNat).take (h.toNat-(0:Int).toNat)),H,[])
  |false=>none
 |.sl id off len tot,.int _ h=>match decide ((0:Int)≤0)&&decide ((0:Int)≤h)&&decide (h≤len)&&xS H sz (.sl id off len tot) with
  |true=>some (.sl id (off+(0:Int).toNat) (h.toNat-(0:Int).toNat) tot,H,[])
  |false=>none
 |_,_=>none
theorem zg6 {P:xp} (sz:Nat) (x y:zx) (st:St):zq P.glob (CL P) st (.slice sz x none (some y))=slK sz st.H (x.get P.glob st) (y.get P.glob st):=by
 simp only [zq,kL]
 cases x.get P.glob st<;>cases y.get P.glob st<;>rfl
theorem zmR {sz:Nat} {H:zd} {id len tot:Nat} {k:IntKind} {n:Int} {rows:List (List PV)} (h:H[id]?=some (.cells sz rows)) (h0:0≤n) (h1:n≤len):slK sz H (.sl id 0 len tot) (.int k n)=some (.sl id 0 n.toNat tot,H,[]):=by
 simp [slK,xS,h,h0,h1]
theorem zy6 {A' B C D:Int} {q:PV} {gs:List Gd} (t:xF q gs) (hb:gs.length≤50):∃ p b,EP A vo [.agg (Ins.cells ⟨31,A',B,C,D⟩),q]=some (.tup [p,.bool b])∧zac ⟨31,A',B,C,D⟩ gs p b:=by
 have hg:=ZD t (by omega:gs.length≤1048576)
 have hf:=ww t 7
 have ha:=zds t B (by omega)
 by_cases c:gs=[]
 ·subst c
  rw [Zp.1,Zp.2] at hg
  have hr:=jb [.cells 5 [Ins.cells ⟨31,A',B,C,D⟩]] 3 [.bool true,.int .i64 B,.int .i64 A']
  have hx:=xE [.cells 5 [Ins.cells ⟨31,A',B,C,D⟩],.cells 3 [[.bool true,.int .i64 B,.int .i64 A']]] 3 24 [[.bool true,.int .i64 B,.int .i64 A']] (by simp)
  simp only [List.cons_append,List.nil_append,List.length_nil,List.length_cons,Ins.cells] at hr hx
  refine ⟨_,_,by (simp -implicitDefEqProofs +contextual (disch:=omega) only [yG,yH,yy,Ins.cells,zD, ↓zy, ↓zE,zbR,zz, ↓XD,XU, ↓reduceIte,sevalprocAttr,hf,hg,ha,hr.1,hr.2,hx,zQ])<;>rfl,?_⟩
  refine ⟨by simp [change,vZ],fun gs' h=>?_⟩
  simp [change,vZ] at h
  subst h
  left;rfl
 ·rw [(jD c).1,(jD c).2] at hg
  have hr:=Yj [.cells 5 [Ins.cells ⟨31,A',B,C,D⟩],.cells 3 [(za gs 0).cells],.cells 3 [(za gs 0).cells],.cells 3 (gs.map Gd.cells)] 4 rfl 3 [.bool true,.int .i64 B,.int .i64 A']
  have hx:=ZC (H:=[.cells 5 [Ins.cells ⟨31,A',B,C,D⟩],.cells 3 [(za gs 0).cells],.cells 3 [(za gs 0).cells],.cells 3 (gs.map Gd.cells),.cells 3 [[.bool true,.int .i64 B,.int .i64 A']]]) (id:=3) (sz:=3) (by':=24) (n:=gs.length) rfl (by simp) (by omega) [.bool true,.int .i64 B,.int .i64 A'] rfl
  simp only [List.cons_append,List.nil_append,List.length_nil,List.length_cons,Ins.cells,Gd.cells] at hr hx
  have k1:=Yh 1 gs
  have er:List.map Gd.cells gs++[[.bool true,.int .i64 B,.int .i64 A']]=(gs++[(⟨true,B,A'⟩:Gd)]).map Gd.cells:=by simp
  have en:gs.length+1=(gs++[(⟨true,B,A'⟩:Gd)]).length:=by simp
  by_cases hL:(gs.length:Int)<50
  ·refine ⟨_,_,by (simp -implicitDefEqProofs +contextual (disch:=omega) only [yG,yH,yy,Ins.cells,Gd.cells,zD, ↓zy, ↓zE,zbR,zz, ↓XD,XU, ↓reduceIte,sevalprocAttr,hf,hg,ha,hr.1,hr.2,hx,zQ,yX,xG,k1,hL])<;>rfl,?_⟩
   refine ⟨by by_cases h:vZ gs B<;>simp [change,hL,h],fun gs' h=>?_⟩
   by_cases hab:vZ gs B
   ·simp [change,hL,hab] at h
    subst h
    rw [er,en,zb9];exact .inl rfl
   ·simp [change,hL,hab] at h
  ·refine ⟨_,_,by (simp -implicitDefEqProofs +contextual (disch:=omega) only [yG,yH,yy,Ins.cells,Gd.cells,zD, ↓zy, ↓zE,zbR,zz, ↓XD,XU, ↓reduceIte,sevalprocAttr,hf,hg,ha,hr.1,hr.2,hx,zQ,yX,xG,k1,hL])<;>rfl,?_⟩
   exact ⟨by simp [change,hL],fun gs' h=>by simp [change,hL] at h⟩
theorem zy8 {A' B C D:Int} {q:PV} {gs:List Gd} (t:xF q gs) (hb:gs.length≤50):∃ p b,EP A vo [.agg (Ins.cells ⟨33,A',B,C,D⟩),q]=some (.tup [p,.bool b])∧zac ⟨33,A',B,C,D⟩ gs p b:=by
 have hg:=ZD t (by omega:gs.length≤1048576)
 have hf:=ww t 7
 have ha:=zds t A' (by omega)
 by_cases c:gs=[]
 ·subst c
  rw [Zp.1,Zp.2] at hg
  have hr:=jb [.cells 5 [Ins.cells ⟨33,A',B,C,D⟩]] 3 [.bool false,.int .i64 A',.int .i64 0]
  have hx:=xE [.cells 5 [Ins.cells ⟨33,A',B,C,D⟩],.cells 3 [[.bool false,.int .i64 A',.int .i64 0]]] 3 24 [[.bool false,.int .i64 A',.int .i64 0]] (by simp)
  simp only [List.cons_append,List.nil_append,List.length_nil,List.length_cons,Ins.cells] at hr hx
  refine ⟨_,_,by (simp -implicitDefEqProofs +contextual (disch:=omega) only [yG,yH,yy,Ins.cells,zD, ↓zy, ↓zE,zbR,zz, ↓XD,XU, ↓reduceIte,sevalprocAttr,hf,hg,ha,hr.1,hr.2,hx,zQ])<;>rfl,?_⟩
  refine ⟨by simp [change,vZ],fun gs' h=>?_⟩
  simp [change,vZ] at h
  subst h
  left;rfl
 ·rw [(jD c).1,(jD c).2] at hg
  have hr:=Yj [.cells 5 [Ins.cells ⟨33,A',B,C,D⟩],.cells 3 [(za gs 0).cells],.cells 3 [(za gs 0).cells],.cells 3 (gs.map Gd.cells)] 4 rfl 3 [.bool false,.int .i64 A',.int .i64 0]
  have hx:=ZC (H:=[.cells 5 [Ins.cells ⟨33,A',B,C,D⟩],.cells 3 [(za gs 0).cells],.cells 3 [(za gs 0).cells],.cells 3 (gs.map Gd.cells),.cells 3 [[.bool false,.int .i64 A',.int .i64 0]]]) (id:=3) (sz:=3) (by':=24) (n:=gs.length) rfl (by simp) (by omega) [.bool false,.int .i64 A',.int .i64 0] rfl
  simp only [List.cons_append,List.nil_append,List.length_nil,List.length_cons,Ins.cells,Gd.cells] at hr hx
  have k1:=Yh 1 gs
  have er:List.map Gd.cells gs++[[.bool false,.int .i64 A',.int .i64 0]]=(gs++[(⟨false,A',0⟩:Gd)]).map Gd.cells:=by simp
  have en:gs.length+1=(gs++[(⟨false,A',0⟩:Gd)]).length:=by simp
  by_cases hL:(gs.length:Int)<50
  ·refine ⟨_,_,by (simp -implicitDefEqProofs +contextual (disch:=omega) only [yG,yH,yy,Ins.cells,Gd.cells,zD, ↓zy, ↓zE,zbR,zz, ↓XD,XU, ↓reduceIte,sevalprocAttr,hf,hg,ha,hr.1,hr.2,hx,zQ,yX,xG,k1,hL])<;>rfl,?_⟩
   refine ⟨by by_cases h:vZ gs A'<;>simp [change,hL,h],fun gs' h=>?_⟩
   by_cases hab:vZ gs A'
   ·simp [change,hL,hab] at h
    subst h
    rw [er,en,zb9];exact .inl rfl
   ·simp [change,hL,hab] at h
  ·refine ⟨_,_,by (simp -implicitDefEqProofs +contextual (disch:=omega) only [yG,yH,yy,Ins.cells,Gd.cells,zD, ↓zy, ↓zE,zbR,zz, ↓XD,XU, ↓reduceIte,sevalprocAttr,hf,hg,ha,hr.1,hr.2,hx,zQ,yX,xG,k1,hL])<;>rfl,?_⟩
   exact ⟨by simp [change,hL],fun gs' h=>by simp [change,hL] at h⟩
theorem zy7 {A' B C D:Int} {q:PV} {gs:List Gd} (t:xF q gs) (hb:gs.length≤50):∃ p b,EP A vo [.agg (Ins.cells ⟨32,A',B,C,D⟩),q]=some (.tup [p,.bool b])∧zac ⟨32,A',B,C,D⟩ gs p b:=by
 have hg:=ZD t (by omega:gs.length≤1048576)
 have hf:=ww t 7
 by_cases c:gs=[]
 ·subst c
  rw [Zp.1,Zp.2] at hg
  refine ⟨_,_,by (simp -implicitDefEqProofs +contextual (disch:=omega) only [yG,yH,yy,Ins.cells,zD, ↓XD,XU, ↓reduceIte,sevalprocAttr,hf,hg,zQ])<;>rfl,?_⟩
  exact ⟨by simp [change],fun gs' h=>by simp [change] at h⟩
 ·rw [(jD c).1,(jD c).2] at hg
  have k1:=Yh 1 gs
  have hp:=List.length_pos_iff.2 c
  have hp2:¬(gs.length:Int)=0:=by omega
  have eN:((gs.length:Int)-1).toNat=gs.length-1:=by omega
  cases hT:(za gs ((gs.length:Int)-1)).Try with
  |false=>
   refine ⟨_,_,by (simp -implicitDefEqProofs +contextual (disch:=omega) only [yG,yH,yy,Ins.cells,Gd.cells,zD, ↓XD,XU, ↓reduceIte,sevalprocAttr,hf,hg,zQ,yX,xG,k1,hp2,hT])<;>rfl,?_⟩
   exact ⟨by simp [change,hT],fun gs' h=>by simp [change,hT] at h⟩
  |true=>
   have hs:=zmR (sz:=3) (H:=[.cells 5 [Ins.cells ⟨32,A',B,C,D⟩],.cells 3 [(za gs 0).cells],.cells 3 [(za gs 0).cells],.cells 3 (gs.map Gd.cells)]) (id:=3) (len:=gs.length) (tot:=gs.length) (k:=.i64) (n:=(gs.length:Int)-1) rfl (by omega) (by omega)
   simp only [Ins.cells,Gd.cells] at hs
   refine ⟨_,_,by (simp -implicitDefEqProofs +contextual (disch:=omega) only [yG,yH,yy,Ins.cells,Gd.cells,zD, ↓zg6,hs, ↓XD,XU, ↓reduceIte,sevalprocAttr,hf,hg,zQ,yX,xG,k1,hp2,hT])<;>rfl,?_⟩
   refine ⟨by simp [change,c,hT],fun gs' h=>?_⟩
   simp [change,c,hT] at h
   subst h
   rw [zhc _ _ _ (by omega)]
   left;rw [List.dropLast_eq_take,eN]
theorem zy' {A' B C D:Int} {q:PV} {gs:List Gd} (t:xF q gs) (hb:gs.length≤50):∃ p b,EP A vo [.agg (Ins.cells ⟨36,A',B,C,D⟩),q]=some (.tup [p,.bool b])∧zac ⟨36,A',B,C,D⟩ gs p b:=by
 have hg:=ZD t (by omega:gs.length≤1048576)
 have hf:=ww t 7
 by_cases c:gs=[]
 ·subst c
  rw [Zp.1,Zp.2] at hg
  refine ⟨_,_,by (simp -implicitDefEqProofs +contextual (disch:=omega) only [yG,yH,yy,Ins.cells,zD, ↓XD,XU, ↓reduceIte,sevalprocAttr,hf,hg,zQ])<;>rfl,?_⟩
  exact ⟨by simp [change],fun gs' h=>by simp [change] at h⟩
 ·rw [(jD c).1,(jD c).2] at hg
  have k1:=Yh 1 gs
  have hp:=List.length_pos_iff.2 c
  have hp2:¬(gs.length:Int)=0:=by omega
  have eN:((gs.length:Int)-1).toNat=gs.length-1:=by omega
  cases hT:(za gs ((gs.length:Int)-1)).Try with
  |true=>
   refine ⟨_,_,by (simp -implicitDefEqProofs +contextual (disch:=omega) only [yG,yH,yy,Ins.cells,Gd.cells,zD, ↓XD,XU, ↓reduceIte,sevalprocAttr,hf,hg,zQ,yX,xG,k1,hp2,hT])<;>rfl,?_⟩
   exact ⟨by simp [change,hT],fun gs' h=>by simp [change,hT] at h⟩
  |false=>
   have hs:=zmR (sz:=3) (H:=[.cells 5 [Ins.cells ⟨36,A',B,C,D⟩],.cells 3 [(za gs 0).cells],.cells 3 [(za gs 0).cells],.cells 3 (gs.map Gd.cells)]) (id:=3) (len:=gs.length) (tot:=gs.length) (k:=.i64) (n:=(gs.length:Int)-1) rfl (by omega) (by omega)
   simp only [Ins.cells,Gd.cells] at hs
   refine ⟨_,_,by (simp -implicitDefEqProofs +contextual (disch:=omega) only [yG,yH,yy,Ins.cells,Gd.cells,zD, ↓zg6,hs, ↓XD,XU, ↓reduceIte,sevalprocAttr,hf,hg,zQ,yX,xG,k1,hp2,hT])<;>rfl,?_⟩
   refine ⟨by simp [change,c,hT],fun gs' h=>?_⟩
   simp [change,c,hT] at h
   subst h
   rw [zhc _ _ _ (by omega)]
   left;rw [List.dropLast_eq_take,eN]
theorem zy_ {A' B C D:Int} {q:PV} {gs:List Gd} (t:xF q gs) (hb:gs.length≤50):∃ p b,EP A vo [.agg (Ins.cells ⟨35,A',B,C,D⟩),q]=some (.tup [p,.bool b])∧zac ⟨35,A',B,C,D⟩ gs p b:=by
 have hg:=ZD t (by omega:gs.length≤1048576)
 have hf:=ww t 7
 by_cases c:gs=[]
 ·subst c
  rw [Zp.1,Zp.2] at hg
  refine ⟨_,_,by (simp -implicitDefEqProofs +contextual (disch:=omega) only [yG,yH,yy,Ins.cells,zD, ↓XD,XU, ↓reduceIte,sevalprocAttr,hf,hg,zQ])<;>rfl,?_⟩
  exact ⟨by simp [change],fun gs' h=>by simp [change] at h⟩
 ·rw [(jD c).1,(jD c).2] at hg
  have k1:=Yh 1 gs
  have hp:=List.length_pos_iff.2 c
  have hp2:¬(gs.length:Int)=0:=by omega
  have eN:((gs.length:Int)-1).toNat=gs.length-1:=by omega
  cases hT:(za gs ((gs.length:Int)-1)).Try with
  |true=>
   refine ⟨_,_,by (simp -implicitDefEqProofs +contextual (disch:=omega) only [yG,yH,yy,Ins.cells,Gd.cells,zD, ↓XD,XU, ↓reduceIte,sevalprocAttr,hf,hg,zQ,yX,xG,k1,hp2,hT])<;>rfl,?_⟩
   exact ⟨by simp [change,hT],fun gs' h=>by simp [change,hT] at h⟩
  |false=>
   have hs:=zmR (sz:=3) (H:=[.cells 5 [Ins.cells ⟨36,A',B,C,D⟩],.cells 3 [(za gs 0).cells],.cells 3 [(za gs 0).cells],.cells 3 (gs.map Gd.cells)]) (id:=3) (len:=gs.length) (tot:=gs.length) (k:=.i64) (n:=(gs.length:Int)-1) rfl (by omega) (by omega)
   simp only [Ins.cells,Gd.cells] at hs
   refine ⟨_,_,by (simp -implicitDefEqProofs +contextual (disch:=omega) only [yG,yH,yy,Ins.cells,Gd.cells,zD, ↓zg6,hs, ↓XD,XU, ↓reduceIte,sevalprocAttr,hf,hg,zQ,yX,xG,k1,hp2,hT])<;>rfl,?_⟩
   refine ⟨by simp [change,c,hT],fun gs' h=>?_⟩
   simp [change,c,hT] at h
   subst h
   rw [zb9];exact .inl rfl
theorem zy9 {A' B C D:Int} {q:PV} {gs:List Gd} (t:xF q gs) (hb:gs.length≤50):∃ p b,EP A vo [.agg (Ins.cells ⟨34,A',B,C,D⟩),q]=some (.tup [p,.bool b])∧zac ⟨34,A',B,C,D⟩ gs p b:=by
 have hg:=ZD t (by omega:gs.length≤1048576)
 have hf:=ww t 7
 have ha:=zds t A' (by omega)
 by_cases c:gs=[]
 ·subst c
  rw [Zp.1,Zp.2] at hg
  refine ⟨_,_,by (simp -implicitDefEqProofs +contextual (disch:=omega) only [yG,yH,yy,Ins.cells,zD, ↓XD,XU, ↓reduceIte,sevalprocAttr,hf,hg,zQ])<;>rfl,?_⟩
  exact ⟨by simp [change],fun gs' h=>by simp [change] at h⟩
 ·rw [(jD c).1,(jD c).2] at hg
  have k1:=Yh 1 gs
  have hp:=List.length_pos_iff.2 c
  have hp2:¬(gs.length:Int)=0:=by omega
  have eN:((gs.length:Int)-1).toNat=gs.length-1:=by omega
  cases hT:(za gs ((gs.length:Int)-1)).Try with
  |true=>
   refine ⟨_,_,by (simp -implicitDefEqProofs +contextual (disch:=omega) only [yG,yH,yy,Ins.cells,Gd.cells,zD, ↓XD,XU, ↓reduceIte,sevalprocAttr,hf,hg,zQ,yX,xG,k1,hp2,hT])<;>rfl,?_⟩
   exact ⟨by simp [change,hT],fun gs' h=>by simp [change,hT] at h⟩
  |false=>
   by_cases hab:vZ gs A'
   ·refine ⟨_,_,by (simp -implicitDefEqProofs +contextual (disch:=omega) only [yG,yH,yy,Ins.cells,Gd.cells,zD, ↓XD,XU, ↓reduceIte,sevalprocAttr,hf,hg,ha,zQ,yX,xG,k1,hp2,hT,hab])<;>rfl,?_⟩
    refine ⟨by simp [change,c,hT,hab],fun gs' h=>?_⟩
    simp [change,c,hT,hab] at h
    subst h
    have er:(List.map Gd.cells gs).set ((gs.length:Int)-1).toNat [.bool false,.int .i64 A',.int .i64 (za gs ((gs.length:Int)-1)).Handler]=(gs.set (gs.length-1) ⟨false,A',(za gs ((gs.length:Int)-1)).Handler⟩).map Gd.cells:=by rw [eN,List.map_set]
    have en:gs.length=(gs.set (gs.length-1) (⟨false,A',(za gs ((gs.length:Int)-1)).Handler⟩:Gd)).length:=by simp
    rw [er]
    have:=zb9 5 [.cells 5 [Ins.cells ⟨34,A',B,C,D⟩],.cells 3 [(za gs 0).cells],.cells 3 [(za gs 0).cells],.cells 3 ((gs.set (gs.length-1) (⟨false,A',(za gs ((gs.length:Int)-1)).Handler⟩:Gd)).map Gd.cells)] (gs.set (gs.length-1) ⟨false,A',(za gs ((gs.length:Int)-1)).Handler⟩)
    rw [←en] at this
    rw [this];exact .inl rfl
   ·refine ⟨_,_,by (simp -implicitDefEqProofs +contextual (disch:=omega) only [yG,yH,yy,Ins.cells,Gd.cells,zD, ↓XD,XU, ↓reduceIte,sevalprocAttr,hf,hg,ha,zQ,yX,xG,k1,hp2,hT,hab])<;>rfl,?_⟩
    exact ⟨by simp [change,hT,hab],fun gs' h=>by simp [change,hT,hab] at h⟩
theorem zv2 {o A' B C D:Int} {q:PV} {gs:List Gd} (t:xF q gs) (hb:gs.length≤50) (h1:¬o=31) (h2:¬o=32) (h3:¬o=33) (h4:¬o=34) (h5:¬o=35) (h6:¬o=36):∃ p b,EP A vo [.agg (Ins.cells ⟨o,A',B,C,D⟩),q]=some (.tup [p,.bool b])∧zac ⟨o,A',B,C,D⟩ gs p b:=by
 have hg:=ZD t (by omega:gs.length≤1048576)
 have hf:=ww t 7
 by_cases c:gs=[]
 ·subst c
  rw [Zp.1,Zp.2] at hg
  refine ⟨_,_,by (simp -implicitDefEqProofs +contextual (disch:=omega) only [yG,yH,yy,Ins.cells,zD, ↓XD,XU, ↓reduceIte,sevalprocAttr,hf,hg,zQ,h1,h2,h3,h4,h5,h6])<;>rfl,?_⟩
  refine ⟨by simp [change,h1,h2,h3,h4,h5,h6],fun gs' h=>?_⟩
  simp [change,h1,h2,h3,h4,h5,h6] at h
  subst h
  exact .inr ⟨rfl,rfl⟩
 ·rw [(jD c).1,(jD c).2] at hg
  have k1:=Yh 1 gs
  refine ⟨_,_,by (simp -implicitDefEqProofs +contextual (disch:=omega) only [yG,yH,yy,Ins.cells,Gd.cells,zD, ↓XD,XU, ↓reduceIte,sevalprocAttr,hf,hg,zQ,yX,xG,k1,h1,h2,h3,h4,h5,h6])<;>rfl,?_⟩
  refine ⟨by simp [change,h1,h2,h3,h4,h5,h6],fun gs' h=>?_⟩
  simp [change,h1,h2,h3,h4,h5,h6] at h
  subst h
  rw [zb9];exact .inl rfl
theorem znM {nd:Ins} {q:PV} {gs:List Gd} (t:xF q gs) (hb:gs.length≤50):∃ p b,EP A vo [.agg nd.cells,q]=some (.tup [p,.bool b])∧zac nd gs p b:=by
 obtain ⟨o,a,b,c,d⟩:=nd
 by_cases h1:o=31
 ·subst h1;exact zy6 t hb
 by_cases h2:o=32
 ·subst h2;exact zy7 t hb
 by_cases h3:o=33
 ·subst h3;exact zy8 t hb
 by_cases h4:o=34
 ·subst h4;exact zy9 t hb
 by_cases h5:o=35
 ·subst h5;exact zy_ t hb
 by_cases h6:o=36
 ·subst h6;exact zy' t hb
 exact zv2 t hb h1 h2 h3 h4 h5 h6
def vm (X:zd) (p:PV) (l:List Int):Prop:=(p=.nils∧l=[])∨∃ id,p=.sl id 0 l.length l.length∧X[id]?=some (.cells 1 (yn l))
theorem vm.isI {X:zd} {p:PV} {l:List Int} (h:vm X p l) (d:Nat):xU (frz (d+2) X p) l:=by
 rcases h with ⟨rfl,rfl⟩|⟨id,rfl,h⟩
 ·exact .inr ⟨rfl,rfl⟩
 ·left;exact uG h
theorem vm.len {X:zd} {p:PV} {l:List Int} (h:vm X p l):kS p=some (.int .i64 l.length):=by
 rcases h with ⟨rfl,rfl⟩|⟨id,rfl,h⟩<;>simp [kS]
theorem vm.lend {X:zd} {p:PV} {l:List Int} (h:vm X p l) (Y:zd):vm (Y++X.map (yX Y.length)) (zQ Y.length p) l:=by
 rcases h with ⟨rfl,rfl⟩|⟨id,rfl,h⟩
 ·exact .inl ⟨by simp [zQ],rfl⟩
 ·exact .inr ⟨Y.length+id,by simp [zQ],by rw [Y7,h];simp only [Option.map_some,yX,Uu]⟩
theorem zdN (Y:zd) (v:Int):bsK 1 [.int .i64 0] [.int .i64 v] Y=some (.sl Y.length 0 1 1,Y++[.cells 1 [[.int .i64 v]]],[])∧uh (Y++[.cells 1 [[.int .i64 v]]]) (.sl Y.length 0 1 1)=some [[.int .i64 v]]∧xS (Y++[.cells 1 [[.int .i64 v]]]) 1 (.sl Y.length 0 1 1)=true∧xe (Y++[.cells 1 [[.int .i64 v]]]) 1 8 .nils [[.int .i64 v]]=some (.sl (Y.length+1) 0 1 1,Y++[.cells 1 [[.int .i64 v]],.cells 1 [[.int .i64 v]]],[]):=
 ⟨yg v Y,(jb _ _ _).1,(jb _ _ _).2,by have:=xE (Y++[.cells 1 [[.int .i64 v]]]) 1 8 [[.int .i64 v]] (by simp);simpa using this⟩
theorem zmS (Y:zd) (v w:Int):bsK 1 [.int .i64 0] [.int .i64 w] (Y++[.cells 1 [[.int .i64 v]],.cells 1 [[.int .i64 v]]])=some (.sl (Y.length+2) 0 1 1,Y++[.cells 1 [[.int .i64 v]],.cells 1 [[.int .i64 v]],.cells 1 [[.int .i64 w]]],[])∧uh (Y++[.cells 1 [[.int .i64 v]],.cells 1 [[.int .i64 v]],.cells 1 [[.int .i64 w]]]) (.sl (Y.length+2) 0 1 1)=some [[.int .i64 w]]∧xS (Y++[.cells 1 [[.int .i64 v]],.cells 1 [[.int .i64 v]],.cells 1 [[.int .i64 w]]]) 1 (.sl (Y.length+2) 0 1 1)=true∧
  xe (Y++[.cells 1 [[.int .i64 v]],.cells 1 [[.int .i64 v]],.cells 1 [[.int .i64 w]]]) 1 8 (.sl (Y.length+1) 0 1 1) [[.int .i64 w]]=some (.sl (Y.length+1) 0 2 2,Y++[.cells 1 [[.int .i64 v]],.cells 1 [[.int .i64 v],[.int .i64 w]],.cells 1 [[.int .i64 w]]],[]):=by
 have e:Y++[.cells 1 [[.int .i64 v]],.cells 1 [[.int .i64 v]],.cells 1 [[.int .i64 w]]]=(Y++[.cells 1 [[.int .i64 v]],.cells 1 [[.int .i64 v]]])++[.cells 1 [[.int .i64 w]]]:=by simp
 have hl:Y.length+2=(Y++[yf.cells 1 [[.int .i64 v]],.cells 1 [[.int .i64 v]]]).length:=by simp
 refine ⟨?_,?_,?_,?_⟩
 ·rw [yg,hl,e]
 ·rw [e];exact (Yj _ _ hl 1 _).1
 ·rw [e];exact (Yj _ _ hl 1 _).2
 ·have h0:(Y++[yf.cells 1 [[.int .i64 v]],.cells 1 [[.int .i64 v]],.cells 1 [[.int .i64 w]]])[Y.length+1]?=some (.cells 1 [[.int .i64 v]]):=by rw [wC];rfl
  have:=ZC (by':=8) (n:=1) h0 rfl (by omega) [.int .i64 w] rfl
  rw [this]
  rw [JC];rfl
theorem zkl {f:zc} {a:Int} (a0:0≤a) (a1:a<f.Ins.length) (hb:f.Ins.length≤1048576):∃ st,EV A ur ⟨[(0,.agg f.cells),(1,.int .i64 a)],[],[],[]⟩=some (.ret,st)∧st.ed=[]∧vm st.H (st.per.get 4) (xV (za f.Ins a) a):=by
 obtain ⟨nd,hnd⟩:∃ nd,za f.Ins a=nd:=⟨_,rfl⟩
 rw [hnd]
 obtain ⟨o,A',B,C,D⟩:=nd
 by_cases g1:o=1
 ·subst g1
  refine ⟨_,by (simp -implicitDefEqProofs +contextual (disch:=omega) only [xL,xu,zc.cells,ups,zf,zj,zm,Ins.cells,zD, ↓zy, ↓zE,zz, ↓XD,XU, ↓reduceIte,sevalprocAttr,hnd,a0,a1])<;>rfl,rfl,.inl ⟨rfl,by simp [xV]⟩⟩
 by_cases g3:o=3
 ·subst g3
  refine ⟨_,by (simp -implicitDefEqProofs +contextual (disch:=omega) only [xL,xu,zc.cells,ups,zf,zj,zm,Ins.cells,zD, ↓zy, ↓zE,zz, ↓XD,XU, ↓reduceIte,sevalprocAttr,hnd,a0,a1])<;>rfl,rfl,.inl ⟨rfl,by simp [xV]⟩⟩
 by_cases g28:o=28
 ·subst g28
  refine ⟨_,by (simp -implicitDefEqProofs +contextual (disch:=omega) only [xL,xu,zc.cells,ups,zf,zj,zm,Ins.cells,zD, ↓zy, ↓zE,zz, ↓XD,XU, ↓reduceIte,sevalprocAttr,hnd,a0,a1])<;>rfl,rfl,.inl ⟨rfl,by simp [xV]⟩⟩
 by_cases g29:o=29
 ·subst g29
  refine ⟨_,by (simp -implicitDefEqProofs +contextual (disch:=omega) only [xL,xu,zc.cells,ups,zf,zj,zm,Ins.cells,zD, ↓zy, ↓zE,zz, ↓XD,XU, ↓reduceIte,sevalprocAttr,hnd,a0,a1])<;>rfl,rfl,.inl ⟨rfl,by simp [xV]⟩⟩
 by_cases g30:o=30
 ·subst g30
  refine ⟨_,by (simp -implicitDefEqProofs +contextual (disch:=omega) only [xL,xu,zc.cells,ups,zf,zj,zm,Ins.cells,zD, ↓zy, ↓zE,zz, ↓XD,XU, ↓reduceIte,sevalprocAttr,hnd,a0,a1])<;>rfl,rfl,.inl ⟨rfl,by simp [xV]⟩⟩
 by_cases g18:o=18
 ·subst g18
  by_cases hB:B=12
  ·subst hB
   refine ⟨_,by (simp -implicitDefEqProofs +contextual (disch:=omega) only [xL,xu,zc.cells,ups,zf,zj,zm,Ins.cells,zD, ↓zy, ↓zE,zz, ↓XD,XU, ↓reduceIte,sevalprocAttr,hnd,a0,a1])<;>rfl,rfl,.inl ⟨rfl,by simp [xV]⟩⟩
  ·have h1:=zdN ([.cells 9 [f.cells],.cells 5 [Ins.cells ⟨18,A',B,C,D⟩]]) (a+1)
   simp only [zc.cells,ups,zf,zj,zm,Ins.cells,List.cons_append,List.nil_append,List.length_cons,List.length_nil,Nat.zero_add] at h1
   refine ⟨_,by (simp -implicitDefEqProofs +contextual (disch:=omega) only [xL,xu,zc.cells,ups,zf,zj,zm,Ins.cells,zD, ↓zy, ↓zE,zz, ↓XD,XU, ↓reduceIte,sevalprocAttr,hnd,a0,a1,h1.1,h1.2.1,h1.2.2.1,h1.2.2.2,hB])<;>rfl,rfl,.inr ⟨3,?_,?_⟩⟩
   ·simp [xV,zk.get,zk.put,hB]
   ·simp [xV,hB]
 by_cases g19:o=19
 ·subst g19
  have h1:=zdN ([.cells 9 [f.cells],.cells 5 [Ins.cells ⟨19,A',B,C,D⟩]]) (A')
  simp only [zc.cells,ups,zf,zj,zm,Ins.cells,List.cons_append,List.nil_append,List.length_cons,List.length_nil,Nat.zero_add] at h1
  refine ⟨_,by (simp -implicitDefEqProofs +contextual (disch:=omega) only [xL,xu,zc.cells,ups,zf,zj,zm,Ins.cells,zD, ↓zy, ↓zE,zz, ↓XD,XU, ↓reduceIte,sevalprocAttr,hnd,a0,a1,h1.1,h1.2.1,h1.2.2.1,h1.2.2.2])<;>rfl,rfl,.inr ⟨3,?_,?_⟩⟩
  ·simp [xV,zk.get,zk.put]
  ·simp [xV]
 by_cases g41:o=41
 ·subst g41
  have h1:=zdN ([.cells 9 [f.cells],.cells 5 [Ins.cells ⟨41,A',B,C,D⟩]]) (B)
  simp only [zc.cells,ups,zf,zj,zm,Ins.cells,List.cons_append,List.nil_append,List.length_cons,List.length_nil,Nat.zero_add] at h1
  refine ⟨_,by (simp -implicitDefEqProofs +contextual (disch:=omega) only [xL,xu,zc.cells,ups,zf,zj,zm,Ins.cells,zD, ↓zy, ↓zE,zz, ↓XD,XU, ↓reduceIte,sevalprocAttr,hnd,a0,a1,h1.1,h1.2.1,h1.2.2.1,h1.2.2.2])<;>rfl,rfl,.inr ⟨3,?_,?_⟩⟩
  ·simp [xV,zk.get,zk.put]
  ·simp [xV]
 by_cases g20:o=20
 ·subst g20
  have h1:=zdN ([.cells 9 [f.cells],.cells 5 [Ins.cells ⟨20,A',B,C,D⟩]]) (B)
  have h2:=zmS ([.cells 9 [f.cells],.cells 5 [Ins.cells ⟨20,A',B,C,D⟩]]) (B) (a+1)
  simp only [zc.cells,ups,zf,zj,zm,Ins.cells,List.cons_append,List.nil_append,List.length_cons,List.length_nil,Nat.zero_add] at h1 h2
  refine ⟨_,by (simp -implicitDefEqProofs +contextual (disch:=omega) only [xL,xu,zc.cells,ups,zf,zj,zm,Ins.cells,zD, ↓zy, ↓zE,zz, ↓XD,XU, ↓reduceIte,sevalprocAttr,hnd,a0,a1,h1.1,h1.2.1,h1.2.2.1,h1.2.2.2,h2.1,h2.2.1,h2.2.2.1,h2.2.2.2])<;>rfl,rfl,.inr ⟨3,?_,?_⟩⟩
  ·simp [xV,zk.get,zk.put]
  ·simp [xV]
 by_cases g21:o=21
 ·subst g21
  have h1:=zdN ([.cells 9 [f.cells],.cells 5 [Ins.cells ⟨21,A',B,C,D⟩]]) (B)
  have h2:=zmS ([.cells 9 [f.cells],.cells 5 [Ins.cells ⟨21,A',B,C,D⟩]]) (B) (a+1)
  simp only [zc.cells,ups,zf,zj,zm,Ins.cells,List.cons_append,List.nil_append,List.length_cons,List.length_nil,Nat.zero_add] at h1 h2
  refine ⟨_,by (simp -implicitDefEqProofs +contextual (disch:=omega) only [xL,xu,zc.cells,ups,zf,zj,zm,Ins.cells,zD, ↓zy, ↓zE,zz, ↓XD,XU, ↓reduceIte,sevalprocAttr,hnd,a0,a1,h1.1,h1.2.1,h1.2.2.1,h1.2.2.2,h2.1,h2.2.1,h2.2.2.1,h2.2.2.2])<;>rfl,rfl,.inr ⟨3,?_,?_⟩⟩
  ·simp [xV,zk.get,zk.put]
  ·simp [xV]
 by_cases g38:o=38
 ·subst g38
  have h1:=zdN ([.cells 9 [f.cells],.cells 5 [Ins.cells ⟨38,A',B,C,D⟩]]) (B)
  have h2:=zmS ([.cells 9 [f.cells],.cells 5 [Ins.cells ⟨38,A',B,C,D⟩]]) (B) (a+1)
  simp only [zc.cells,ups,zf,zj,zm,Ins.cells,List.cons_append,List.nil_append,List.length_cons,List.length_nil,Nat.zero_add] at h1 h2
  refine ⟨_,by (simp -implicitDefEqProofs +contextual (disch:=omega) only [xL,xu,zc.cells,ups,zf,zj,zm,Ins.cells,zD, ↓zy, ↓zE,zz, ↓XD,XU, ↓reduceIte,sevalprocAttr,hnd,a0,a1,h1.1,h1.2.1,h1.2.2.1,h1.2.2.2,h2.1,h2.2.1,h2.2.2.1,h2.2.2.2])<;>rfl,rfl,.inr ⟨3,?_,?_⟩⟩
  ·simp [xV,zk.get,zk.put]
  ·simp [xV]
 by_cases g39:o=39
 ·subst g39
  have h1:=zdN ([.cells 9 [f.cells],.cells 5 [Ins.cells ⟨39,A',B,C,D⟩]]) (B)
  have h2:=zmS ([.cells 9 [f.cells],.cells 5 [Ins.cells ⟨39,A',B,C,D⟩]]) (B) (a+1)
  simp only [zc.cells,ups,zf,zj,zm,Ins.cells,List.cons_append,List.nil_append,List.length_cons,List.length_nil,Nat.zero_add] at h1 h2
  refine ⟨_,by (simp -implicitDefEqProofs +contextual (disch:=omega) only [xL,xu,zc.cells,ups,zf,zj,zm,Ins.cells,zD, ↓zy, ↓zE,zz, ↓XD,XU, ↓reduceIte,sevalprocAttr,hnd,a0,a1,h1.1,h1.2.1,h1.2.2.1,h1.2.2.2,h2.1,h2.2.1,h2.2.2.1,h2.2.2.2])<;>rfl,rfl,.inr ⟨3,?_,?_⟩⟩
  ·simp [xV,zk.get,zk.put]
  ·simp [xV]
 by_cases g31:o=31
 ·subst g31
  have h1:=zdN ([.cells 9 [f.cells],.cells 5 [Ins.cells ⟨31,A',B,C,D⟩]]) (A')
  have h2:=zmS ([.cells 9 [f.cells],.cells 5 [Ins.cells ⟨31,A',B,C,D⟩]]) (A') (a+1)
  simp only [zc.cells,ups,zf,zj,zm,Ins.cells,List.cons_append,List.nil_append,List.length_cons,List.length_nil,Nat.zero_add] at h1 h2
  refine ⟨_,by (simp -implicitDefEqProofs +contextual (disch:=omega) only [xL,xu,zc.cells,ups,zf,zj,zm,Ins.cells,zD, ↓zy, ↓zE,zz, ↓XD,XU, ↓reduceIte,sevalprocAttr,hnd,a0,a1,h1.1,h1.2.1,h1.2.2.1,h1.2.2.2,h2.1,h2.2.1,h2.2.2.1,h2.2.2.2])<;>rfl,rfl,.inr ⟨3,?_,?_⟩⟩
  ·simp [xV,zk.get,zk.put]
  ·simp [xV]
 have h1:=zdN ([.cells 9 [f.cells],.cells 5 [Ins.cells ⟨o,A',B,C,D⟩]]) (a+1)
 simp only [zc.cells,ups,zf,zj,zm,Ins.cells,List.cons_append,List.nil_append,List.length_cons,List.length_nil,Nat.zero_add] at h1
 refine ⟨_,by (simp -implicitDefEqProofs +contextual (disch:=omega) only [xL,xu,zc.cells,ups,zf,zj,zm,Ins.cells,zD, ↓zy, ↓zE,zz, ↓XD,XU, ↓reduceIte,sevalprocAttr,hnd,a0,a1,h1.1,h1.2.1,h1.2.2.1,h1.2.2.2,g1,g3,g28,g29,g30,g18,g19,g41,g20,g21,g38,g39,g31])<;>rfl,rfl,.inr ⟨3,?_,?_⟩⟩
 ·simp [xV,zk.get,zk.put,g1,g3,g28,g29,g30,g18,g19,g41,g20,g21,g38,g39,g31]
 ·simp [xV,g1,g3,g28,g29,g30,g18,g19,g41,g20,g21,g38,g39,g31]
theorem znP {f:zc} {a:Int} (a0:0≤a) (a1:a<f.Ins.length) (hb:f.Ins.length≤1048576):∃ p X,ES A Xq [.agg f.cells,.int .i64 a] []=some (p,X,[])∧vm X p (xV (za f.Ins a) a):=by
 obtain ⟨st,h1,h2,h3⟩:=zkl a0 a1 hb
 rcases h3 with ⟨h3,h4⟩|⟨id,h3,h4⟩
 ·refine ⟨.nils,[],?_,.inl ⟨rfl,h4⟩⟩
  rw [zaM,h1]
  simp -implicitDefEqProofs +contextual (disch:=omega) only [↓XD,XU, ↓reduceIte,sevalprocAttr,h2,h3]
  simp [trim,bare,zt,refs]
 ·refine ⟨_,st.H,?_,.inr ⟨id,rfl,h4⟩⟩
  rw [zaM,h1]
  simp -implicitDefEqProofs +contextual (disch:=omega) only [↓XD,XU, ↓reduceIte,sevalprocAttr,h2,h3]
  simp [trim,bare,zt,refs]
theorem znO {f:zc} {a:Int} (a0:0≤a) (a1:a<f.Ins.length) (hb:f.Ins.length≤1048576):∃ p,EP A Xq [.agg f.cells,.int .i64 a]=some p∧xU p (xV (za f.Ins a) a):=by
 obtain ⟨st,h1,h2,h3⟩:=zkl a0 a1 hb
 refine ⟨frz 8 st.H (st.per.get 4),?_,h3.isI 6⟩
 rw [zhT,h1]
 rfl
theorem ux (k:Nat) (roots:List PV) (H:zd) (ed:zV) {id:Nat} (h:id<k∨id∈zt roots):(trim k roots H ed).1[id]?=H[id]?:=by
 rw [trim]
 cases hb:bare k (zt roots)&&ed.all fun e=>decide (k≤e.1)||decide (e.2<k) with
 |false=>rfl
 |true=>
  rw [Bool.and_eq_true] at hb
  have:id<k:=by
   rcases h with h|h
   ·exact h
   ·have:=List.all_eq_true.1 hb.1 id h;simpa using this
  show (H.take k)[id]?=_
  rw [List.getElem?_take,if_pos this]
theorem vV (k:Nat) (roots:List PV) (H:zd):(trim k roots H []).2=[]:=by
 rw [trim];cases bare k (zt roots)&&([]:zV).all _<;>rfl
theorem JY {p:PV} {roots:List PV} (hp:p∈roots) {r:Nat} (hr:r∈refs p):r∈zt roots:=wN.2 ⟨p,hp,hr⟩
theorem xd {H:zd} {i:Nat} {b:yf} (h:H[i]?=some b):i<H.length:=by
 rcases Nat.lt_or_ge i H.length with h1|h1
 ·exact h1
 ·rw [List.getElem?_eq_none h1] at h;cases h
structure Own (b0 b1:yf) (H:zd) (p:PV) (l:List Int):Prop where
 h0:H[0]?=some b0
 h1:H[1]?=some b1
 sl:vm H p l
 far:∀ r∈refs p,2≤r
theorem Own.trim {b0 b1:yf} {H:zd} {p:PV} {l:List Int} (h:Own b0 b1 H p l) {k:Nat} (hk:2≤k) {roots:List PV} (hp:p∈roots) (ed:zV):Own b0 b1 (trim k roots H ed).1 p l:=by
 refine ⟨(ux _ _ _ _ (.inl (by omega))).trans h.h0,(ux _ _ _ _ (.inl (by omega))).trans h.h1,?_,h.far⟩
 rcases h.sl with h1|⟨id,rfl,h1⟩
 ·exact .inl h1
 ·exact .inr ⟨id,rfl,(ux _ _ _ _ (.inr (JY hp (by simp [refs])))).trans h1⟩
theorem Own.push {b0 b1:yf} {H:zd} {p:PV} {l:List Int} (h:Own b0 b1 H p l) (hb:l.length≤4000000) (v:Int):∃ p' H',xe (H++[.cells 1 [[.int .i64 v]]]) 1 8 p [[.int .i64 v]]=some (p',H',[])∧Own b0 b1 H' p' (l++[v])∧H.length≤H'.length:=by
 have e0:=zY H [.cells 1 [[.int .i64 v]]] h.h0
 have e1:=zY H [.cells 1 [[.int .i64 v]]] h.h1
 have hl:=xd h.h1
 rcases h.sl with ⟨rfl,rfl⟩|⟨id,rfl,h1⟩
 ·have:=xE (H++[.cells 1 [[.int .i64 v]]]) 1 8 [[.int .i64 v]] (by simp)
  refine ⟨_,_,this,⟨zY _ _ e0,zY _ _ e1,.inr ⟨(H++[yf.cells 1 [[PV.int .i64 v]]]).length,rfl,by rw [xo];rfl⟩,fun r hr=>?_⟩,by simp⟩
  simp [refs] at hr;subst hr;omega
 ·have h2:=zY H [.cells 1 [[.int .i64 v]]] h1
  have hid:2≤id:=h.far id (by simp [refs])
  have:=ZC (by':=8) (n:=l.length) h2 (by simp) (by omega) [.int .i64 v] rfl
  refine ⟨_,_,this,⟨by rw [List.getElem?_set_ne (by omega)];exact e0,by rw [List.getElem?_set_ne (by omega)];exact e1,.inr ⟨id,by simp,?_⟩,fun r hr=>?_⟩,by simp⟩
  ·rw [List.getElem?_set_self (xd h2)];simp [yn]
  ·simp [refs] at hr;subst hr;exact hid
abbrev Yg (f:zc) (a:Int) (n:Nat) (p:PV) (i:Int):zk:=[(0,.agg f.cells),(1,.int .i64 a),(2,.ptr 0 0 0 1),(4,.bool false),(5,.sl 1 0 n n),(6,p),(7,.int .i64 i)]
theorem zzt {f:zc} {a i x:Int} {n:Nat} {b0 b1:yf} {q:PV} {ql:List Int} (hq:xU q ql) (hql:ql.length≤2) {H:zd} {p:PV} {l:List Int} (h:Own b0 b1 H p l) (hl:l.length≤3000000):
  ∃ H' p',EV A (.loop (uN 1)) ⟨Yg f a n p i++[(8,.int .i64 x),(41,q),(42,.int .i64 ql.length),(43,.int .i64 0)],[],H,[]⟩=some (.exit 2,⟨Yg f a n p' i++[(8,.int .i64 x),(41,q),(42,.int .i64 ql.length),(43,.int .i64 ql.length)],[],H',[]⟩)∧Own b0 b1 H' p' (l++ql):=by
 have key:=zt1 (P:=A) (body:=(uN 1)) (fun j (s:zd×PV)=>(⟨Yg f a n s.2 i++[(8,.int .i64 x),(41,q),(42,.int .i64 ql.length),(43,.int .i64 j)],[],s.1,[]⟩:St))
  (fun j s=>Own b0 b1 s.1 s.2 (l++ql.take j.toNat)) (fun s=>(zp.exit 2,(⟨Yg f a n s.2 i++[(8,.int .i64 x),(41,q),(42,.int .i64 ql.length),(43,.int .i64 ql.length)],[],s.1,[]⟩:St))) 0 ql.length ?_ ?_ 0 (H,p) (by omega) (by omega) (by simpa using h)
 ·obtain ⟨⟨H',p'⟩,k1,k2⟩:=key
  exact ⟨H',p',k1,by simpa using k2⟩
 ·rintro j ⟨H1,p1⟩ hj hn hok
  simp only at hok ⊢
  have hx:=fun H=>ve hq H .i64 j hj hn
  obtain ⟨p',H',e1,e2,e3⟩:=hok.push (by simp;omega) (za ql j)
  have hr:=jb H1 1 [.int .i64 (za ql j)]
  have e5:ql.take (j+1).toNat=ql.take j.toNat++[za ql j]:=KF hj hn
  refine ⟨_,((trim H1.length ((Yg f a n p' i++[(8,PV.int .i64 x),(41,q),(42,.int .i64 ql.length),(43,.int .i64 (j+1))]:zk).map (fun e=>e.2)) H' []).1,p'),by (simp -implicitDefEqProofs +contextual (disch:=omega) only [KP,vU,Yg, ↓zy, ↓zE,yg,zz, ↓XD,XU, ↓reduceIte,sevalprocAttr,hx,hn,hr.1,hr.2,e1])<;>rfl,?_,?_⟩
  ·simp [St.next,vV]
  ·rw [e5, ←List.append_assoc]
   exact e2.trim (xd hok.h1) (by simp) _
 ·rintro j ⟨H1,p1⟩ hj rfl hok
  refine ⟨by simp -implicitDefEqProofs +contextual (disch:=omega) only [KP,vU,Yg, ↓XD,XU, ↓reduceIte,sevalprocAttr,Int.lt_irrefl],by simp⟩
def zqO (f:zc) (a:Int) (n:Nat) (r:zp×St):Prop:=(∃ p i H,r=(.exit 0,(⟨Yg f a n p i,[],H,[]⟩:St))∧¬Kx f a)∨(∃ st,r=(.ret,st)∧st.per.get 4=.bool true∧Kx f a)
structure zjl (f:zc) (a:Int) (H:zd) (p:PV) (seen:List Bool) (l:List Int) (i:Int):Prop where
 own:Own (.cells 9 [f.cells]) (.cells 1 (bl seen)) H p l
 bfs:Bfs f a seen l i
 few:l.length+2*JF seen≤2*f.Ins.length+2
theorem zx_ {f:zc} {a:Int} (hL:ZB f) (hb:f.Ins.length≤1048576) {H:zd} {p:PV} {seen:List Bool} {l:List Int} {i:Int} (h:zjl f a H p seen l i):
  ∃ r,EV A (.loop (uN 0)) ⟨Yg f a f.Ins.length p i,[],H,[]⟩=some r∧zqO f a f.Ins.length r:=by
 refine ZG (P:=A) (body:=(uN 0)) (fun (s:zd×PV×List Bool×List Int×Int)=>(⟨Yg f a f.Ins.length s.2.1 s.2.2.2.2,[],s.1,[]⟩:St)) (fun s=>zjl f a s.1 s.2.1 s.2.2.1 s.2.2.2.1 s.2.2.2.2) (fun s=>2*JF s.2.2.1+(s.2.2.2.1.length-s.2.2.2.2).toNat) (fun _ r=>zqO f a f.Ins.length r) ?_ (H,p,seen,l,i) h
 rintro ⟨H,p,seen,l,i⟩ ⟨ho,hB,hf⟩
 simp only at ho hB hf ⊢
 have hlen:=ho.sl.len
 have i0:=hB.i0
 have hsn:=hB.n
 by_cases c:i<l.length
 ·obtain ⟨id,rfl,hid⟩:∃ id,p=.sl id 0 l.length l.length∧H[id]?=some (.cells 1 (yn l)):=by
   rcases ho.sl with ⟨_,e⟩|h
   ·subst e;simp at c;omega
   ·exact h
  have hll:l.length≤2097154:=by omega
  have g0:=ho.h0
  have g1:=ho.h1
  simp only [zc.cells,ups,zf,zj,zm] at g0
  obtain ⟨x,hx⟩:∃ x,za l i=x:=⟨_,rfl⟩
  by_cases e:x=a
  ·left
   refine ⟨_,by (simp -implicitDefEqProofs +contextual (disch:=omega) only [ZP,vU,Yg,zc.cells,ups,zf,zj,zm, ↓XD,XU, ↓reduceIte,sevalprocAttr,hid,g0,g1,c,i0,hx,eq_true e])<;>rfl,by simp,.inr ⟨_,rfl,by simp [zk.get,zk.put],hB.hit c (hx.trans e)⟩⟩
  ·obtain ⟨x0,x1⟩:=hB.rng _ (jc i0 c)
   rw [hx] at x0 x1
   right
   cases hs:za seen x with
   |true=>
    refine ⟨((trim H.length ((Yg f a f.Ins.length (.sl id 0 l.length l.length) (i+1)).map (fun e=>e.2)) H []).1,.sl id 0 l.length l.length,seen,l,i+1),_,⟨ho.trim (xd g1) (by simp) _,hB.skip c (by rw [hx];exact e) (by rw [hx];exact hs),hf⟩,by simp only;omega,by (simp -implicitDefEqProofs +contextual (disch:=omega) only [ZP,vU,Yg,zc.cells,ups,zf,zj,zm, ↓XD,XU, ↓reduceIte,sevalprocAttr,hid,g0,g1,c,i0,hx,eq_false e,hs,hsn])<;>rfl,by simp [St.next,vV],fun _ h=>h⟩
   |false=>
    have hs2:¬za seen x=true:=by rw [hs];simp
    have hid2:2≤id:=ho.far id (by simp [refs])
    have ho':Own (.cells 9 [f.cells]) (.cells 1 (bl (seen.set x.toNat true))) (H.set 1 (.cells 1 (bl (seen.set x.toNat true)))) (.sl id 0 l.length l.length) l:=⟨by rw [List.getElem?_set_ne (by omega)];exact ho.h0,by rw [List.getElem?_set_self (xd g1)],.inr ⟨id,rfl,by rw [List.getElem?_set_ne (by omega)];exact hid⟩,ho.far⟩
    have q0:=ho'.h0
    obtain ⟨q,e1,e2⟩:=znO x0 x1 hb
    have hlq:=Ut e2
    have h2:=zky (za f.Ins x) x
    obtain ⟨H2,p2,e3,e4⟩:=zzt (f:=f) (a:=a) (i:=i) (x:=x) (n:=f.Ins.length) e2 h2 ho' (by omega)
    simp only [Yg,zc.cells,ups,zf,zj,zm,List.cons_append,List.nil_append] at q0 e1 e3
    have hd:=zoz x0 (by omega) hs2
    have hm:=hB.more hL c (by rw [hx];exact e) (by rw [hx];exact hs2)
    rw [hx] at hm
    refine ⟨((trim H.length ((Yg f a f.Ins.length p2 (i+1)).map (fun e=>e.2)) H2 []).1,p2,seen.set x.toNat true,l++xV (za f.Ins x) x,i+1),_,⟨e4.trim (xd g1) (by simp) _,hm,by simp only [List.length_append];omega⟩,by simp only [List.length_append];omega,by (simp -implicitDefEqProofs +contextual (disch:=omega) only [ZP,vU,Yg,zc.cells,ups,zf,zj,zm, ↓XD,XU, ↓reduceIte,sevalprocAttr,hid,g0,g1,q0,c,i0,hx,eq_false e,hs,hsn,e1,hlq,e3])<;>rfl,by simp [St.next,vV],fun _ h=>h⟩
 ·left
  refine ⟨_,by (simp -implicitDefEqProofs +contextual (disch:=omega) only [ZP,vU,Yg, ↓XD,XU, ↓reduceIte,sevalprocAttr,hlen,c])<;>rfl,by simp,.inl ⟨p,i,H,rfl,hB.end_ c⟩⟩
theorem zij (n:Nat) (j:Int):za (List.replicate n false) j=false:=by
 simp only [za,List.getD,List.getElem?_replicate];split<;>rfl
theorem zq5 {f:zc} {a:Int} (hL:ZB f) (a0:0≤a) (a1:a<f.Ins.length):Bfs f a (List.replicate f.Ins.length false) (xV (za f.Ins a) a) 0:=
 ⟨Int.le_refl _,by omega,by simp,fun y hy=>.single hy,hL a a0 a1,fun y hy=>hy,fun j j0 j1=>by omega,fun x x0 x1 hx=>by rw [zij] at hx;cases hx⟩
theorem zgn (n:Nat):JF (List.replicate n false)=n:=by simp [JF,List.filter_replicate]
theorem zh1 {f:zc} {a:Int} (hL:ZB f) (hb:f.Ins.length≤1048576) (a0:0≤a) (a1:a<f.Ins.length):EP A zcv [.agg f.cells,.int .i64 a]=some (.bool (decide (Kx f a))):=by
 obtain ⟨p,X,e1,h1⟩:=znP a0 a1 hb
 have h2:=h1.lend [.cells 9 [f.cells],.cells 1 (bl (List.replicate f.Ins.length false))]
 have ok:zjl f a ([.cells 9 [f.cells],.cells 1 (bl (List.replicate f.Ins.length false))]++X.map (yX 2)) (zQ 2 p) (List.replicate f.Ins.length false) (xV (za f.Ins a) a) 0:=
  ⟨⟨rfl,rfl,h2,fun r hr=>by obtain ⟨r',e,_⟩:=Wm 2 p r hr;omega⟩,zq5 hL a0 a1,by have:=zky (za f.Ins a) a;rw [zgn];omega⟩
 obtain ⟨r,e2,hq⟩:=zx_ hL hb ok
 simp only [Yg,zc.cells,ups,zf,zj,zm,List.cons_append,List.nil_append] at e1 e2
 rcases hq with ⟨p',i,H',rfl,hn⟩|⟨st,rfl,hg,hn⟩
 ·simp -implicitDefEqProofs +contextual (disch:=omega) only [zbZ,zcI,vU,Yg,zc.cells,ups,zf,zj,zm,zD, ↓XD,XU, ↓reduceIte,sevalprocAttr,e1,e2,hn]
 ·simp -implicitDefEqProofs +contextual (disch:=omega) only [zbZ,zcI,vU,Yg,zc.cells,ups,zf,zj,zm,zD, ↓XD,XU, ↓reduceIte,sevalprocAttr,e1,e2,hn,hg]
theorem Xd {n:Nat} {roots:List PV} {H l:zd} (hb:bare n (zt roots)=true) (hn:H.length=n):trim n roots (H++l) []=(H,[]):=by
 subst hn
 rw [trim,hb]
 simp
structure zxu (nd:Ins) (n:Nat):Prop where
 a:(nd.Op=6∨nd.Op=22∨nd.Op=27∨nd.Op=28∨nd.Op=42∨za ((zh nd.Op).getD []) 0=1)→0≤nd.A∧nd.A<n
 e:nd.Op=40→0≤nd.A∧nd.A+1<n
 c:nd.Op=41→0≤nd.C∧nd.C<n
structure Chg (H H':zd) (p:PV) (ts:List Int):Prop where
 sl:vm H' p ts
 len:H'.length=H.length
 old:∀ j,j∉refs p→H'[j]?=H[j]?
theorem Chg.same {H:zd} {p:PV} {ts:List Int} (h:vm H p ts):Chg H H p ts:=⟨h,rfl,fun _ _=>rfl⟩
theorem Chg.set {H:zd} {t:Nat} {ts ts':List Int} (h:H[t]?=some (.cells 1 (yn ts))) (hl:ts'.length=ts.length):Chg H (H.set t (.cells 1 (yn ts'))) (.sl t 0 ts.length ts.length) ts':=
 ⟨.inr ⟨t,by rw [hl],List.getElem?_set_self (xd h)⟩,by simp,fun j hj=>List.getElem?_set_ne (fun e=>hj (by simp [refs,e]))⟩
theorem zpG {nd:Ins} {H:zd} {p:PV} {ts:List Int} (h:vm H p ts) {s0 s1 s2 s3:Int} (hr:zh nd.Op=some [s0,s1,s2,s3]) (hw:zxu nd ts.length) (hb:ts.length≤1048576):∃ H',ES A zcy [.agg nd.cells,p] H=some (.tup [],H',[])∧Chg H H' p (writes nd ts):=by
 have hroles:=zdt nd.Op
 rw [hr] at hroles
 have hn0:za [s0,s1,s2,s3] 0=s0:=rfl
 have hix:∀ H:zd,wW 1 H (.fz [[.int .i64 s0],[.int .i64 s1],[.int .i64 s2],[.int .i64 s3]]) (.int .i64 0)=some (.fp [.int .i64 s0] 0):=fun _=>rfl
 rcases h with ⟨rfl,rfl⟩|⟨t,rfl,ht⟩
 ·have ka:=fun e=>(hw.a e).2
  have ke:=fun e=>(hw.e e).2
  have kc:=fun e=>(hw.c e).2
  have n1:¬nd.Op=6:=fun e=>by have:=hw.a (.inl e);simp at this;omega
  have n2:¬nd.Op=22:=fun e=>by have:=hw.a (.inr (.inl e));simp at this;omega
  have n3:¬nd.Op=27:=fun e=>by have:=hw.a (.inr (.inr (.inl e)));simp at this;omega
  have n4:¬nd.Op=28:=fun e=>by have:=hw.a (.inr (.inr (.inr (.inl e))));simp at this;omega
  have n5:¬nd.Op=42:=fun e=>by have:=hw.a (.inr (.inr (.inr (.inr (.inl e)))));simp at this;omega
  have n6:¬nd.Op=40:=fun e=>by have:=hw.e e;simp at this;omega
  have n7:¬nd.Op=41:=fun e=>by have:=hw.c e;simp at this;omega
  have n8:¬s0=1:=fun e=>by have:=hw.a (.inr (.inr (.inr (.inr (.inr (by rw [hr];exact e))))));simp at this;omega
  have hT:=Xd (n:=H.length) (roots:=[]) (H:=H) (l:=[.cells 5 [nd.cells]]) rfl rfl
  simp only [Ins.cells] at hT
  refine ⟨H,?_,by rw [show writes nd []=[] by simp [writes,n1,n2,n3,n4,n5,n6,n7,n8,hr,hn0]];exact .same (.inl ⟨rfl,rfl⟩)⟩
  simp -implicitDefEqProofs +contextual (disch:=omega) only [vf,vi,wT,Ins.cells,zD, ↓XD,XU, ↓reduceIte,sevalprocAttr,hroles,yx,yq,n1,n2,n3,n4,n5,n6,n7,n8,hix,hT]
 ·have q1:=zY H [.cells 5 [nd.cells]] ht
  have q2:=fun b=>zdl H [.cells 5 [nd.cells]] (xd ht) b
  have hT:=fun b=>Xd (n:=H.length) (roots:=[]) (H:=H.set t b) (l:=[.cells 5 [nd.cells]]) rfl (by simp)
  have hT0:=Xd (n:=H.length) (roots:=[]) (H:=H) (l:=[.cells 5 [nd.cells]]) rfl rfl
  simp only [Ins.cells] at q1 q2 hT hT0
  by_cases c6:nd.Op=6
  ·obtain ⟨k0,k1⟩:=hw.a (.inl c6)
   refine ⟨_,by (simp -implicitDefEqProofs +contextual (disch:=omega) only [vf,vi,wT,Ins.cells,zD, ↓XD,XU, ↓reduceIte,sevalprocAttr,q1,q2,hT,hT0,eq_true c6,k0,k1])<;>rfl,?_⟩
   rw [show writes nd ts=ts.set (nd.A).toNat 2 by simp [writes,c6]]
   exact Chg.set ht (by simp)
  by_cases c22:nd.Op=22
  ·obtain ⟨k0,k1⟩:=hw.a (.inr (.inl c22))
   refine ⟨_,by (simp -implicitDefEqProofs +contextual (disch:=omega) only [vf,vi,wT,Ins.cells,zD, ↓XD,XU, ↓reduceIte,sevalprocAttr,q1,q2,hT,hT0,eq_true c22,k0,k1,c6])<;>rfl,?_⟩
   rw [show writes nd ts=ts.set (nd.A).toNat 3 by simp [writes,c22]]
   exact Chg.set ht (by simp)
  by_cases c27:nd.Op=27
  ·obtain ⟨k0,k1⟩:=hw.a (.inr (.inr (.inl c27)))
   refine ⟨_,by (simp -implicitDefEqProofs +contextual (disch:=omega) only [vf,vi,wT,Ins.cells,zD, ↓XD,XU, ↓reduceIte,sevalprocAttr,q1,q2,hT,hT0,eq_true c27,k0,k1,c6,c22])<;>rfl,?_⟩
   rw [show writes nd ts=ts.set (nd.A).toNat 3 by simp [writes,c27]]
   exact Chg.set ht (by simp)
  by_cases c28:nd.Op=28
  ·obtain ⟨k0,k1⟩:=hw.a (.inr (.inr (.inr (.inl c28))))
   refine ⟨_,by (simp -implicitDefEqProofs +contextual (disch:=omega) only [vf,vi,wT,Ins.cells,zD, ↓XD,XU, ↓reduceIte,sevalprocAttr,q1,q2,hT,hT0,eq_true c28,k0,k1,c6,c22,c27])<;>rfl,?_⟩
   rw [show writes nd ts=ts.set (nd.A).toNat 3 by simp [writes,c28]]
   exact Chg.set ht (by simp)
  by_cases c40:nd.Op=40
  ·obtain ⟨k0,k1⟩:=hw.e c40
   refine ⟨_,by (simp -implicitDefEqProofs +contextual (disch:=omega) only [vf,vi,wT,Ins.cells,zD, ↓XD,XU, ↓reduceIte,sevalprocAttr,q1,q2,hT,hT0,eq_true c40,k0,k1,c6,c22,c27,c28])<;>rfl,?_⟩
   rw [show writes nd ts=ts.set (nd.A+1).toNat 1 by simp [writes,c40]]
   exact Chg.set ht (by simp)
  by_cases c42:nd.Op=42
  ·obtain ⟨k0,k1⟩:=hw.a (.inr (.inr (.inr (.inr (.inl c42)))))
   refine ⟨_,by (simp -implicitDefEqProofs +contextual (disch:=omega) only [vf,vi,wT,Ins.cells,zD, ↓XD,XU, ↓reduceIte,sevalprocAttr,q1,q2,hT,hT0,eq_true c42,k0,k1,c6,c22,c27,c28,c40])<;>rfl,?_⟩
   rw [show writes nd ts=ts.set (nd.A).toNat 0 by simp [writes,c42]]
   exact Chg.set ht (by simp)
  by_cases c41:nd.Op=41
  ·obtain ⟨k0,k1⟩:=hw.c c41
   refine ⟨_,by (simp -implicitDefEqProofs +contextual (disch:=omega) only [vf,vi,wT,Ins.cells,zD, ↓XD,XU, ↓reduceIte,sevalprocAttr,q1,q2,hT,hT0,eq_true c41,k0,k1,c6,c22,c27,c28,c40,c42])<;>rfl,?_⟩
   rw [show writes nd ts=ts.set (nd.C).toNat 3 by simp [writes,c41]]
   exact Chg.set ht (by simp)
  by_cases e1:s0=1
  ·obtain ⟨k0,k1⟩:=hw.a (.inr (.inr (.inr (.inr (.inr (by rw [hr];exact e1))))))
   subst e1
   refine ⟨_,by (simp -implicitDefEqProofs +contextual (disch:=omega) only [vf,vi,wT,Ins.cells,zD, ↓XD,XU, ↓reduceIte,sevalprocAttr,hroles,yx,yq,q1,q2,hT,hT0,hix,k0,k1,c6,c22,c27,c28,c40,c42,c41])<;>rfl,?_⟩
   rw [show writes nd ts=ts.set nd.A.toNat 1 by simp [writes,hr,hn0,c6,c22,c27,c28,c40,c42,c41]]
   exact Chg.set ht (by simp)
  ·refine ⟨_,by (simp -implicitDefEqProofs +contextual (disch:=omega) only [vf,vi,wT,Ins.cells,zD, ↓XD,XU, ↓reduceIte,sevalprocAttr,hroles,yx,yq,q1,q2,hT,hT0,hix,e1,c6,c22,c27,c28,c40,c42,c41])<;>rfl,?_⟩
   rw [show writes nd ts=ts by simp [writes,hr,hn0,e1,c6,c22,c27,c28,c40,c42,c41]]
   exact .same (.inr ⟨t,rfl,ht⟩)
abbrev z4:List PV:=[.int .i64 0,.bool false,.nils,.nils]
abbrev fr (a:Int) (p q:PV):List PV:=[.int .i64 a,.bool true,p,q]
def Ty (H:zd) (p:PV) (l:List Int):Prop:=xU p l∨vm H p l
theorem Ty.leaf {H:zd} {p:PV} {l:List Int} (h:Ty H p l):zH p=true∧cellsOf p=[p]:=by
 rcases h with h|⟨rfl,_⟩|⟨id,rfl,_⟩
 ·exact ⟨jM h,uH h⟩
 ·exact ⟨rfl,rfl⟩
 ·exact ⟨rfl,rfl⟩
theorem Ty.frz {H:zd} {p:PV} {l:List Int} (h:Ty H p l) (d:Nat):xU (frz (d+2) H p) l:=by
 rcases h with h|h
 ·rw [uz h];exact h
 ·exact h.isI d
theorem Ty.idx {H:zd} {p:PV} {l:List Int} (h:Ty H p l) (k:IntKind) {i:Int} (i0:0≤i) (i1:i<l.length):∃ a,wW 1 H p (.int k i)=some a∧ZK false 1 a H=some (.int .i64 (za l i)):=by
 rcases h with h|⟨rfl,rfl⟩|⟨id,rfl,h⟩
 ·exact ⟨_,ve h H k i i0 i1,by simp [ZK,cellsAt,xb]⟩
 ·simp at i1;omega
 ·refine ⟨.ptr id i.toNat 0 l.length,?_,?_⟩
  ·rw [zmd _ _ _ _ _ _ _ _ i0,h]
   have:=zhf 1 0 l.length l.length id i 1 (fun k:Int=>[PV.int .i64 k]) l rfl rfl i1 (by omega)
   simpa using this
  ·have:=wc i0 i1
   simp [ZK,cellsAt,h,xb,List.getElem?_map,this]
theorem Ty.app {H:zd} {p:PV} {l:List Int} (h:Ty H p l) (X:zd):Ty (H++X) p l:=by
 rcases h with h|⟨rfl,rfl⟩|⟨id,rfl,h⟩
 ·exact .inl h
 ·exact .inr (.inl ⟨rfl,rfl⟩)
 ·exact .inr (.inr ⟨id,rfl,zY _ _ h⟩)
theorem Ty.lt {H:zd} {p:PV} {l:List Int} (h:Ty H p l):∀ r∈refs p,r<H.length:=by
 rcases h with h|⟨rfl,rfl⟩|⟨id,rfl,h⟩
 ·intro r hr;rw [yM h] at hr;cases hr
 ·intro r hr;cases hr
 ·intro r hr;simp [refs] at hr;subst hr;exact xd h
theorem Ur {a:Int} {p q:PV} (h1:zH p=true) (h2:zH q=true):(z4.length==(fr a p q).length&&(fr a p q).all zH)=true:=by
 have e1:zH (.int .i64 a)=true:=rfl
 have e2:zH (.bool true)=true:=rfl
 simp [fr,h1,h2,e1,e2]
theorem zfd (H l:zd) {row:List PV} (hr:(z4.length==row.length&&row.all zH)=true):bsK 4 z4 row (H++l)=some (.sl (H.length+l.length) 0 1 1,H++(l++[.cells 4 [row]]),[])∧uh (H++(l++[.cells 4 [row]])) (.sl (H.length+l.length) 0 1 1)=some [row]∧xS (H++(l++[.cells 4 [row]])) 4 (.sl (H.length+l.length) 0 1 1)=true∧
  xe (H++(l++[.cells 4 [row]])) 4 64 .nils [row]=some (.sl (H.length+(l.length+1)) 0 1 1,H++(l++[.cells 4 [row],.cells 4 [row]]),[]):=by
 have e:H++(l++[yf.cells 4 [row]])=(H++l)++[.cells 4 [row]]:=by simp
 have hl:H.length+l.length=(H++l).length:=by simp
 refine ⟨by rw [uT _ _ _ _ hr];simp,?_,?_,?_⟩
 ·rw [e];exact (Yj _ _ hl 4 _).1
 ·rw [e];exact (Yj _ _ hl 4 _).2
 ·rw [xE _ _ _ _ (by simp)];simp
theorem zjC (H l m:zd) {r1 row:List PV} (hr:(z4.length==row.length&&row.all zH)=true):bsK 4 z4 row (H++(l++(.cells 4 [r1]::m)))=some (.sl (H.length+(l.length+(m.length+1))) 0 1 1,H++(l++(.cells 4 [r1]::(m++[.cells 4 [row]]))),[])∧
  uh (H++(l++(.cells 4 [r1]::(m++[.cells 4 [row]])))) (.sl (H.length+(l.length+(m.length+1))) 0 1 1)=some [row]∧xS (H++(l++(.cells 4 [r1]::(m++[.cells 4 [row]])))) 4 (.sl (H.length+(l.length+(m.length+1))) 0 1 1)=true∧
  xe (H++(l++(.cells 4 [r1]::(m++[.cells 4 [row]])))) 4 64 (.sl (H.length+l.length) 0 1 1) [row]=some (.sl (H.length+l.length) 0 2 2,H++(l++(.cells 4 [r1,row]::(m++[.cells 4 [row]]))),wD (H.length+l.length) row):=by
 have e:H++(l++(yf.cells 4 [r1]::(m++[.cells 4 [row]])))=(H++(l++(yf.cells 4 [r1]::m)))++[.cells 4 [row]]:=by simp
 have hl:H.length+(l.length+(m.length+1))=(H++(l++(yf.cells 4 [r1]::m))).length:=by simp
 refine ⟨by rw [uT _ _ _ _ hr];simp,?_,?_,?_⟩
 ·rw [e];exact (Yj _ _ hl 4 _).1
 ·rw [e];exact (Yj _ _ hl 4 _).2
 ·have h0:(H++(l++(yf.cells 4 [r1]::(m++[.cells 4 [row]]))))[H.length+l.length]?=some (.cells 4 [r1]):=by rw [wC,xo];rfl
  have c2:decide (0+1+[row].length≤1)=false:=by simp
  simp only [xe,h0,c2]
  rw [JC,uR]
  simp
section
def zlw (H:zd) (row:List PV) (x:Int×yr):Prop:=∃ p q,row=fr x.1 p q∧Ty H p x.2.Types∧xF q x.2.Guards
def Uo (H:zd) (p:PV) (l:List (Int×yr)):Prop:=(p=.nils∧l=[])∨∃ id rows,p=.sl id 0 l.length l.length∧H[id]?=some (.cells 4 rows)∧rows.length=l.length∧∀ (i:Nat) (row:List PV) (x:Int×yr),rows[i]?=some row→l[i]?=some x→zlw H row x
theorem Uo.one {H:zd} {id:Nat} {row:List PV} {x:Int×yr} (h:H[id]?=some (.cells 4 [row])) (hr:zlw H row x):Uo H (.sl id 0 1 1) [x]:=
 .inr ⟨id,_,rfl,h,rfl,fun i r y h1 h2=>by
  cases i with
  |zero=>simp at h1 h2;subst h1;subst h2;exact hr
  |succ i=>simp at h1⟩
theorem Uo.two {H:zd} {id:Nat} {r1 r2:List PV} {x y:Int×yr} (h:H[id]?=some (.cells 4 [r1,r2])) (h1:zlw H r1 x) (h2:zlw H r2 y):Uo H (.sl id 0 2 2) [x,y]:=
 .inr ⟨id,_,rfl,h,rfl,fun i r z k1 k2=>by
  match i with
  |0=>simp at k1 k2;subst k1;subst k2;exact h1
  |1=>simp at k1 k2;subst k1;subst k2;exact h2
  |i+2=>simp at k1⟩
theorem Jc {n:Nat} {v:PV} {H:zd} {ed:zV} {r:Nat} (hr:r∈refs v) (h:n≤r):trim n [v] H ed=(H,ed):=by
 rw [trim]
 have:bare n (zt [v])=false:=by
  rw [Bool.eq_false_iff]
  intro hb
  have:=List.all_eq_true.1 hb r (JY (by simp) hr)
  simp at this;omega
 rw [this];rfl
structure Jw (f:zc) (at_:Int) (H:zd) (bp bq tp gp:PV) (s:yr) (ts:List Int) (gs:List Gd):Prop where
 b:Ty H bp s.Types
 c:xF bq s.Guards
 t:Ty H tp ts
 g:xF gp gs
 a0:0≤at_
 a1:at_<f.Ins.length
 n:f.Ins.length≤1048576
abbrev zdd (f:zc) (at_:Int) (H:zd) (bp bq tp gp:PV) (l:List (Int×yr)):Prop:=∃ p X ed,ES A Ke [.agg f.cells,.int .i64 at_,.agg (zo bp bq),tp,gp] H=some (p,H++X,ed)∧Uo (H++X) p l∧∀ e∈ed,H.length≤e.1∧H.length≤e.2∧e.2<(H++X).length
theorem Jw.ed {f:zc} {at_:Int} {H:zd} {bp bq tp gp:PV} {s:yr} {ts:List Int} {gs:List Gd} (h:Jw f at_ H bp bq tp gp s ts gs) (k:Nat):List.filter (fun r=>decide (H.length+k<r)) (refs tp++refs gp)=[]:=by
 rw [yL h.g,List.append_nil,List.filter_eq_nil_iff]
 intro r hr
 have:=h.t.lt r hr
 simp;omega
section
variable {f:zc} {at_:Int} {H:zd} {bp bq tp gp:PV} {s:yr} {ts:List Int} {gs:List Gd} (h:Jw f at_ H bp bq tp gp s ts gs) {A' B C D:Int}
include h
theorem zoC {o:Int} (ho:o=29∨o=30) (hnd:za f.Ins at_=⟨o,A',B,C,D⟩):zdd f at_ H bp bq tp gp []:=by
 obtain ⟨b1,b2⟩:=h.b.leaf
 obtain ⟨t1,t2⟩:=h.t.leaf
 have c1:=xf h.c
 have c2:=yN h.c
 have g1:=xf h.g
 have g2:=yN h.g
 have a0:=h.a0
 have a1:=h.a1
 have an:=h.n
 have he:=h.ed
 have hT:=Xd (n:=H.length) (roots:=[.nils]) (H:=H) (l:=[.cells 9 [f.cells],.cells 3 [zo bp bq],.cells 5 [Ins.cells ⟨o,A',B,C,D⟩],.cells 3 [zo tp gp]]) rfl rfl
 refine ⟨.nils,[],[],?_,.inl ⟨rfl,rfl⟩,by simp⟩
 rw [List.append_nil]
 rcases ho with rfl|rfl
 ·simp only [zc.cells,ups,zf,zj,zm,Ins.cells,zo] at hT
  simp -implicitDefEqProofs +contextual (disch:=omega) only [vy,vz,wv,zc.cells,ups,zf,zj,zm,Ins.cells,zo,zD, ↓XD,XU, ↓reduceIte,sevalprocAttr,hnd,a0,a1,b1,b2,c1,c2,g1,g2,t1,t2,he,hT]
 ·simp only [zc.cells,ups,zf,zj,zm,Ins.cells,zo] at hT
  simp -implicitDefEqProofs +contextual (disch:=omega) only [vy,vz,wv,zc.cells,ups,zf,zj,zm,Ins.cells,zo,zD, ↓XD,XU, ↓reduceIte,sevalprocAttr,hnd,a0,a1,b1,b2,c1,c2,g1,g2,t1,t2,he,hT]
theorem zwh {o:Int} (h19:¬o=19) (h29:¬o=29) (h30:¬o=30) (h20:¬o=20) (h21:¬o=21) (h38:¬o=38) (h39:¬o=39) (h41:¬o=41) (h31:¬o=31) (hnd:za f.Ins at_=⟨o,A',B,C,D⟩):zdd f at_ H bp bq tp gp [(at_+1,⟨ts,gs⟩)]:=by
 obtain ⟨b1,b2⟩:=h.b.leaf
 obtain ⟨t1,t2⟩:=h.t.leaf
 have c1:=xf h.c
 have c2:=yN h.c
 have g1:=xf h.g
 have g2:=yN h.g
 have a0:=h.a0
 have a1:=h.a1
 have an:=h.n
 have he:=h.ed
 have hN:=zfd H [.cells 9 [f.cells],.cells 3 [zo bp bq],.cells 5 [Ins.cells ⟨o,A',B,C,D⟩],.cells 3 [zo tp gp]] (Ur (a:=at_+1) t1 g1)
 have hT:=fun (X:zd)=>Jc (n:=H.length) (v:=.sl (H.length+5) 0 1 1) (H:=X) (ed:=[]) (r:=H.length+5) (by simp [refs]) (by omega)
 simp only [zc.cells,ups,zf,zj,zm,Ins.cells,zo,fr,List.cons_append,List.nil_append,List.length_cons,List.length_nil,Nat.zero_add,Nat.reduceAdd] at hN
 refine ⟨_,_,_,by (simp -implicitDefEqProofs +contextual (disch:=omega) only [vy,vz,wv,zc.cells,ups,zf,zj,zm,Ins.cells,zo,zD, ↓zy, ↓zE,zz, ↓XD,XU, ↓reduceIte,sevalprocAttr,hnd,a0,a1,b1,b2,c1,c2,g1,g2,t1,t2,he,hT,hN.1,hN.2.1,hN.2.2.1,hN.2.2.2,h19,h29,h30,h20,h21,h38,h39,h41,h31])<;>rfl,Uo.one ?_ ⟨tp,gp,rfl,h.t.app _,h.g⟩,by simp⟩
 rw [wC];rfl
theorem zwg (hnd:za f.Ins at_=⟨19,A',B,C,D⟩):zdd f at_ H bp bq tp gp [(A',⟨ts,gs⟩)]:=by
 obtain ⟨b1,b2⟩:=h.b.leaf
 obtain ⟨t1,t2⟩:=h.t.leaf
 have c1:=xf h.c
 have c2:=yN h.c
 have g1:=xf h.g
 have g2:=yN h.g
 have a0:=h.a0
 have a1:=h.a1
 have an:=h.n
 have he:=h.ed
 have hN:=zfd H [.cells 9 [f.cells],.cells 3 [zo bp bq],.cells 5 [Ins.cells ⟨19,A',B,C,D⟩],.cells 3 [zo tp gp]] (Ur (a:=A') t1 g1)
 have hT:=fun (X:zd)=>Jc (n:=H.length) (v:=.sl (H.length+5) 0 1 1) (H:=X) (ed:=[]) (r:=H.length+5) (by simp [refs]) (by omega)
 simp only [zc.cells,ups,zf,zj,zm,Ins.cells,zo,fr,List.cons_append,List.nil_append,List.length_cons,List.length_nil,Nat.zero_add,Nat.reduceAdd] at hN
 refine ⟨_,_,_,by (simp -implicitDefEqProofs +contextual (disch:=omega) only [vy,vz,wv,zc.cells,ups,zf,zj,zm,Ins.cells,zo,zD, ↓zy, ↓zE,zz, ↓XD,XU, ↓reduceIte,sevalprocAttr,hnd,a0,a1,b1,b2,c1,c2,g1,g2,t1,t2,he,hT,hN.1,hN.2.1,hN.2.2.1,hN.2.2.2])<;>rfl,Uo.one ?_ ⟨tp,gp,rfl,h.t.app _,h.g⟩,by simp⟩
 rw [wC];rfl
theorem zxS {o:Int} (ho:o=20∨o=21∨o=38∨o=39) (hnd:za f.Ins at_=⟨o,A',B,C,D⟩):zdd f at_ H bp bq tp gp [(at_+1,⟨ts,gs⟩),(B,⟨ts,gs⟩)]:=by
 obtain ⟨b1,b2⟩:=h.b.leaf
 obtain ⟨t1,t2⟩:=h.t.leaf
 have c1:=xf h.c
 have c2:=yN h.c
 have g1:=xf h.g
 have g2:=yN h.g
 have a0:=h.a0
 have a1:=h.a1
 have an:=h.n
 have he:=h.ed
 have hN:=zfd H [.cells 9 [f.cells],.cells 3 [zo bp bq],.cells 5 [Ins.cells ⟨o,A',B,C,D⟩],.cells 3 [zo tp gp]] (Ur (a:=at_+1) t1 g1)
 have hM:=zjC H [.cells 9 [f.cells],.cells 3 [zo bp bq],.cells 5 [Ins.cells ⟨o,A',B,C,D⟩],.cells 3 [zo tp gp],.cells 4 [fr (at_+1) tp gp]] [] (r1:=fr (at_+1) tp gp) (Ur (a:=B) t1 g1)
 have hT:=fun (X:zd)=>Jc (n:=H.length) (v:=.sl (H.length+5) 0 2 2) (H:=X) (ed:=[]) (r:=H.length+5) (by simp [refs]) (by omega)
 simp only [zc.cells,ups,zf,zj,zm,Ins.cells,zo,fr,List.cons_append,List.nil_append,List.length_cons,List.length_nil,Nat.zero_add,Nat.reduceAdd] at hN hM
 rcases ho with rfl|rfl|rfl|rfl
 all_goals
  refine ⟨_,_,_,by (simp -implicitDefEqProofs +contextual (disch:=omega) only [vy,vz,wv,zc.cells,ups,zf,zj,zm,Ins.cells,zo,zD, ↓zy, ↓zE,zz, ↓XD,XU, ↓reduceIte,sevalprocAttr,hnd,a0,a1,b1,b2,c1,c2,g1,g2,t1,t2,he,hT,hN.1,hN.2.1,hN.2.2.1,hN.2.2.2,hM.1,hM.2.1,hM.2.2.1,hM.2.2.2])<;>rfl,Uo.two ?_ ⟨tp,gp,rfl,h.t.app _,h.g⟩ ⟨tp,gp,rfl,h.t.app _,h.g⟩,by simp⟩
  rw [wC];rfl
end
end
end Go.Proofs.Tryd.Av
end

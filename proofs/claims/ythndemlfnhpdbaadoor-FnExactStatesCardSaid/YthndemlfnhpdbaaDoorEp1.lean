/- What the functions compute -/
import Derived.Test.YthndemlfnhpdbaaDoorAv3
import Derived.Test.YthndemlfnhpdbaaDoorCodes
set_option linter.all false
section
attribute [local congr] ite_congr
set_option maxRecDepth 10000
set_option maxHeartbeats 1000000
namespace Go.Proofs.Tryd.Av
open Go Go.Av Classical
abbrev yt (ks:List Int):PV:=.fz (ks.map λ k=>[.int .i64 k])
structure Up where
 Local:Bool
 Index:Int
 deriving Inhabited
structure yo where
 Kind:Int
 Num:Int
 Flt:Nat
 Str:ByteArray
 Ref:Int
 deriving Inhabited
structure Ins where
 Op:Int
 A:Int
 B:Int
 C:Int
 D:Int
 deriving Inhabited
structure xz where
 Name:ByteArray
 Reg:Int
 From:Int
 To:Int
 deriving Inhabited
structure zc where
 Name:ByteArray
 Line:Int
 Params:Int
 Rest:Bool
 Regs:Int
 Ups:List Up
 Consts:List yo
 Ins:List Ins
 Named:List xz
 deriving Inhabited
abbrev Up.cells (u:Up):List PV:=[.bool u.Local,.int .i64 u.Index]
abbrev yo.cells (v:yo):List PV:=[.int .i64 v.Kind,.int .i64 v.Num,.flt .f64 v.Flt,.str v.Str,.int .i64 v.Ref]
abbrev Ins.cells (n:Ins):List PV:=[.int .i64 n.Op,.int .i64 n.A,.int .i64 n.B,.int .i64 n.C,.int .i64 n.D]
abbrev xz.cells (n:xz):List PV:=[.str n.Name,.int .i64 n.Reg,.int .i64 n.From,.int .i64 n.To]
abbrev ups (l:List Up):PV:=.fz (l.map Up.cells)
abbrev ze (l:List yo):PV:=.fz (l.map yo.cells)
abbrev zj (l:List Ins):PV:=.fz (l.map Ins.cells)
abbrev zm (l:List xz):PV:=.fz (l.map xz.cells)
abbrev zc.cells (p:zc):List PV:=[.str p.Name,.int .i64 p.Line,.int .i64 p.Params,.bool p.Rest,.int .i64 p.Regs,ups p.Ups,ze p.Consts,zj p.Ins,zm p.Named]
abbrev zb (l:List zc):PV:=.fz (l.map zc.cells)
abbrev code (l:List zc):PV:=.agg [zb l]
theorem xB (x lo hi:Int):EP A zjj [.int .i64 x,.int .i64 lo,.int .i64 hi]=some (.bool (decide (lo<=x/\x<=hi))):=by
 simp -implicitDefEqProofs +contextual (disch:=omega) only [zqM,zrJ,zpZ, ↓XD,XU, ↓reduceIte,sevalprocAttr]
theorem zO (x lo hi:Int):EP A zgA [.int .i64 x,.int .i64 lo,.int .i64 hi]=some (.bool (decide (lo<=x/\x<=hi))):=by
 simp -implicitDefEqProofs +contextual (disch:=omega) only [znZ,zol,zmP, ↓XD,XU, ↓reduceIte,sevalprocAttr]
theorem zi4 (n:Ins):EP A zc8 [.agg n.cells]=some (yt [n.A,n.B,n.C,n.D]):=by
 simp -implicitDefEqProofs +contextual (disch:=omega) only [zky,zlR,zj7,yt,Ins.cells,zS,zH,xF, ↓XD,XU, ↓reduceIte,sevalprocAttr]
theorem v9 (n:Ins):EP A zaZ [.agg n.cells]=some (.agg [.int .i64 n.A,.int .i64 n.B,.int .i64 n.C,.int .i64 n.D]):=by
 simp -implicitDefEqProofs +contextual (disch:=omega) only [ziK,ziS,zh_, ↓XD,XU, ↓reduceIte,sevalprocAttr]
noncomputable def zg (o:Int):Option (List Int):=
 if o=1 then some [11,0,0,0] else
 if o=2 then some [12,0,0,0] else
 if o=3\/o=32\/o=36 then some [0,0,0,0] else
 if o=4 then some [1,7,0,0] else
 if o=5\/o=6 then some [1,2,0,0] else
 if o=7 then some [1,5,0,0] else
 if o=8 then some [5,2,0,0] else
 if o=9 then some [1,8,0,0] else
 if o=10 then some [8,2,0,0] else
 if o=11 then some [1,9,0,0] else
 if o=12\/o=22 then some [1,0,0,0] else
 if o=13 then some [4,2,2,0] else
 if o=14 then some [4,2,3,0] else
 if o=15 then some [1,2,2,0] else
 if o=16 then some [2,2,2,0] else
 if o=17 then some [1,15,2,0] else
 if o=18 then some [1,16,2,2] else
 if o=19 then some [10,0,0,0] else
 if o=20\/o=21 then some [2,10,0,0] else
 if o=23 then some [6,2,0,0] else
 if o=24 then some [6,3,0,0] else
 if o=25 then some [1,3,0,0] else
 if o=26 then some [1,6,17,0] else
 if o=27 then some [1,6,0,0] else
 if o=28 then some [1,2,3,0] else
 if o=29 then some [3,0,0,0] else
 if o=30 then some [2,0,0,0] else
 if o=31 then some [10,14,0,0] else
 if o=33\/o=34 then some [13,0,0,0] else
 if o=35 then some [2,3,0,0] else
 if o=37 then some [18,0,0,0] else
 if o=38\/o=39 then some [18,10,0,0] else
 if o=40 then some [19,0,0,0] else
 if o=41 then some [20,10,1,0] else
 if o=42 then some [21,0,0,0] else
 none
def yw:Option (List Int)->PV
 |some l=>yt l
 |none=>.nils
set_option maxHeartbeats 8000000 in
theorem zfS (o:Int):EP A zeU [.int .i64 o]=some (yw (zg o)):=by
 by_cases h1:o=1
 ·subst h1;simp -implicitDefEqProofs +contextual (disch:=omega) only [zP,zQ,zK,zS,zH,xF,zg,yw,yt, ↓XD,XU, ↓reduceIte,sevalprocAttr]
 by_cases h2:o=2
 ·subst h2;simp -implicitDefEqProofs +contextual (disch:=omega) only [zP,zQ,zK,zS,zH,xF,zg,yw,yt, ↓XD,XU, ↓reduceIte,sevalprocAttr]
 by_cases h3:o=3
 ·subst h3;simp -implicitDefEqProofs +contextual (disch:=omega) only [zP,zQ,zK,zS,zH,xF,zg,yw,yt, ↓XD,XU, ↓reduceIte,sevalprocAttr]
 by_cases h4:o=4
 ·subst h4;simp -implicitDefEqProofs +contextual (disch:=omega) only [zP,zQ,zK,zS,zH,xF,zg,yw,yt, ↓XD,XU, ↓reduceIte,sevalprocAttr]
 by_cases h5:o=5
 ·subst h5;simp -implicitDefEqProofs +contextual (disch:=omega) only [zP,zQ,zK,zS,zH,xF,zg,yw,yt, ↓XD,XU, ↓reduceIte,sevalprocAttr]
 by_cases h6:o=6
 ·subst h6;simp -implicitDefEqProofs +contextual (disch:=omega) only [zP,zQ,zK,zS,zH,xF,zg,yw,yt, ↓XD,XU, ↓reduceIte,sevalprocAttr]
 by_cases h7:o=7
 ·subst h7;simp -implicitDefEqProofs +contextual (disch:=omega) only [zP,zQ,zK,zS,zH,xF,zg,yw,yt, ↓XD,XU, ↓reduceIte,sevalprocAttr]
 by_cases h8:o=8
 ·subst h8;simp -implicitDefEqProofs +contextual (disch:=omega) only [zP,zQ,zK,zS,zH,xF,zg,yw,yt, ↓XD,XU, ↓reduceIte,sevalprocAttr]
 by_cases h9:o=9
 ·subst h9;simp -implicitDefEqProofs +contextual (disch:=omega) only [zP,zQ,zK,zS,zH,xF,zg,yw,yt, ↓XD,XU, ↓reduceIte,sevalprocAttr]
 by_cases h10:o=10
 ·subst h10;simp -implicitDefEqProofs +contextual (disch:=omega) only [zP,zQ,zK,zS,zH,xF,zg,yw,yt, ↓XD,XU, ↓reduceIte,sevalprocAttr]
 by_cases h11:o=11
 ·subst h11;simp -implicitDefEqProofs +contextual (disch:=omega) only [zP,zQ,zK,zS,zH,xF,zg,yw,yt, ↓XD,XU, ↓reduceIte,sevalprocAttr]
 by_cases h12:o=12
 ·subst h12;simp -implicitDefEqProofs +contextual (disch:=omega) only [zP,zQ,zK,zS,zH,xF,zg,yw,yt, ↓XD,XU, ↓reduceIte,sevalprocAttr]
 by_cases h13:o=13
 ·subst h13;simp -implicitDefEqProofs +contextual (disch:=omega) only [zP,zQ,zK,zS,zH,xF,zg,yw,yt, ↓XD,XU, ↓reduceIte,sevalprocAttr]
 by_cases h14:o=14
 ·subst h14;simp -implicitDefEqProofs +contextual (disch:=omega) only [zP,zQ,zK,zS,zH,xF,zg,yw,yt, ↓XD,XU, ↓reduceIte,sevalprocAttr]
 by_cases h15:o=15
 ·subst h15;simp -implicitDefEqProofs +contextual (disch:=omega) only [zP,zQ,zK,zS,zH,xF,zg,yw,yt, ↓XD,XU, ↓reduceIte,sevalprocAttr]
 by_cases h16:o=16
 ·subst h16;simp -implicitDefEqProofs +contextual (disch:=omega) only [zP,zQ,zK,zS,zH,xF,zg,yw,yt, ↓XD,XU, ↓reduceIte,sevalprocAttr]
 by_cases h17:o=17
 ·subst h17;simp -implicitDefEqProofs +contextual (disch:=omega) only [zP,zQ,zK,zS,zH,xF,zg,yw,yt, ↓XD,XU, ↓reduceIte,sevalprocAttr]
 by_cases h18:o=18
 ·subst h18;simp -implicitDefEqProofs +contextual (disch:=omega) only [zP,zQ,zK,zS,zH,xF,zg,yw,yt, ↓XD,XU, ↓reduceIte,sevalprocAttr]
 by_cases h19:o=19
 ·subst h19;simp -implicitDefEqProofs +contextual (disch:=omega) only [zP,zQ,zK,zS,zH,xF,zg,yw,yt, ↓XD,XU, ↓reduceIte,sevalprocAttr]
 by_cases h20:o=20
 ·subst h20;simp -implicitDefEqProofs +contextual (disch:=omega) only [zP,zQ,zK,zS,zH,xF,zg,yw,yt, ↓XD,XU, ↓reduceIte,sevalprocAttr]
 by_cases h21:o=21
 ·subst h21;simp -implicitDefEqProofs +contextual (disch:=omega) only [zP,zQ,zK,zS,zH,xF,zg,yw,yt, ↓XD,XU, ↓reduceIte,sevalprocAttr]
 by_cases h22:o=22
 ·subst h22;simp -implicitDefEqProofs +contextual (disch:=omega) only [zP,zQ,zK,zS,zH,xF,zg,yw,yt, ↓XD,XU, ↓reduceIte,sevalprocAttr]
 by_cases h23:o=23
 ·subst h23;simp -implicitDefEqProofs +contextual (disch:=omega) only [zP,zQ,zK,zS,zH,xF,zg,yw,yt, ↓XD,XU, ↓reduceIte,sevalprocAttr]
 by_cases h24:o=24
 ·subst h24;simp -implicitDefEqProofs +contextual (disch:=omega) only [zP,zQ,zK,zS,zH,xF,zg,yw,yt, ↓XD,XU, ↓reduceIte,sevalprocAttr]
 by_cases h25:o=25
 ·subst h25;simp -implicitDefEqProofs +contextual (disch:=omega) only [zP,zQ,zK,zS,zH,xF,zg,yw,yt, ↓XD,XU, ↓reduceIte,sevalprocAttr]
 by_cases h26:o=26
 ·subst h26;simp -implicitDefEqProofs +contextual (disch:=omega) only [zP,zQ,zK,zS,zH,xF,zg,yw,yt, ↓XD,XU, ↓reduceIte,sevalprocAttr]
 by_cases h27:o=27
 ·subst h27;simp -implicitDefEqProofs +contextual (disch:=omega) only [zP,zQ,zK,zS,zH,xF,zg,yw,yt, ↓XD,XU, ↓reduceIte,sevalprocAttr]
 by_cases h28:o=28
 ·subst h28;simp -implicitDefEqProofs +contextual (disch:=omega) only [zP,zQ,zK,zS,zH,xF,zg,yw,yt, ↓XD,XU, ↓reduceIte,sevalprocAttr]
 by_cases h29:o=29
 ·subst h29;simp -implicitDefEqProofs +contextual (disch:=omega) only [zP,zQ,zK,zS,zH,xF,zg,yw,yt, ↓XD,XU, ↓reduceIte,sevalprocAttr]
 by_cases h30:o=30
 ·subst h30;simp -implicitDefEqProofs +contextual (disch:=omega) only [zP,zQ,zK,zS,zH,xF,zg,yw,yt, ↓XD,XU, ↓reduceIte,sevalprocAttr]
 by_cases h31:o=31
 ·subst h31;simp -implicitDefEqProofs +contextual (disch:=omega) only [zP,zQ,zK,zS,zH,xF,zg,yw,yt, ↓XD,XU, ↓reduceIte,sevalprocAttr]
 by_cases h32:o=32
 ·subst h32;simp -implicitDefEqProofs +contextual (disch:=omega) only [zP,zQ,zK,zS,zH,xF,zg,yw,yt, ↓XD,XU, ↓reduceIte,sevalprocAttr]
 by_cases h33:o=33
 ·subst h33;simp -implicitDefEqProofs +contextual (disch:=omega) only [zP,zQ,zK,zS,zH,xF,zg,yw,yt, ↓XD,XU, ↓reduceIte,sevalprocAttr]
 by_cases h34:o=34
 ·subst h34;simp -implicitDefEqProofs +contextual (disch:=omega) only [zP,zQ,zK,zS,zH,xF,zg,yw,yt, ↓XD,XU, ↓reduceIte,sevalprocAttr]
 by_cases h35:o=35
 ·subst h35;simp -implicitDefEqProofs +contextual (disch:=omega) only [zP,zQ,zK,zS,zH,xF,zg,yw,yt, ↓XD,XU, ↓reduceIte,sevalprocAttr]
 by_cases h36:o=36
 ·subst h36;simp -implicitDefEqProofs +contextual (disch:=omega) only [zP,zQ,zK,zS,zH,xF,zg,yw,yt, ↓XD,XU, ↓reduceIte,sevalprocAttr]
 by_cases h37:o=37
 ·subst h37;simp -implicitDefEqProofs +contextual (disch:=omega) only [zP,zQ,zK,zS,zH,xF,zg,yw,yt, ↓XD,XU, ↓reduceIte,sevalprocAttr]
 by_cases h38:o=38
 ·subst h38;simp -implicitDefEqProofs +contextual (disch:=omega) only [zP,zQ,zK,zS,zH,xF,zg,yw,yt, ↓XD,XU, ↓reduceIte,sevalprocAttr]
 by_cases h39:o=39
 ·subst h39;simp -implicitDefEqProofs +contextual (disch:=omega) only [zP,zQ,zK,zS,zH,xF,zg,yw,yt, ↓XD,XU, ↓reduceIte,sevalprocAttr]
 by_cases h40:o=40
 ·subst h40;simp -implicitDefEqProofs +contextual (disch:=omega) only [zP,zQ,zK,zS,zH,xF,zg,yw,yt, ↓XD,XU, ↓reduceIte,sevalprocAttr]
 by_cases h41:o=41
 ·subst h41;simp -implicitDefEqProofs +contextual (disch:=omega) only [zP,zQ,zK,zS,zH,xF,zg,yw,yt, ↓XD,XU, ↓reduceIte,sevalprocAttr]
 by_cases h42:o=42
 ·subst h42;simp -implicitDefEqProofs +contextual (disch:=omega) only [zP,zQ,zK,zS,zH,xF,zg,yw,yt, ↓XD,XU, ↓reduceIte,sevalprocAttr]
 simp -implicitDefEqProofs +contextual (disch:=omega) only [zP,zQ,zK,zS,zH,xF,zg,yw,yt, ↓XD,XU, ↓reduceIte,sevalprocAttr,h1,h2,h3,h4,h5,h6,h7,h8,h9,h10,h11,h12,h13,h14,h15,h16,h17,h18,h19,h20,h21,h22,h23,h24,h25,h26,h27,h28,h29,h30,h31,h32,h33,h34,h35,h36,h37,h38,h39,h40,h41,h42]
end Go.Proofs.Tryd.Av
end
section
attribute [local congr] ite_congr
set_option maxRecDepth 10000
set_option maxHeartbeats 4000000
namespace Go.Proofs.Tryd.Av
open Go Go.Av Classical
structure WL (p:zc):Prop where
 r0:0<=p.Regs
 r1:p.Regs<=250
 u:p.Ups.length<=1048576
 c:p.Consts.length<=1048576
 i:p.Ins.length<=1048576
 n:p.Named.length<=1048576
def yX (np:Nat) (f:zc) (r x:Int):Prop:=
 if r=0 then x=0 else if r=1\/r=4\/r=5\/r=6\/r=21 then 0<=x/\x<=f.Regs-1 else if r=2\/r=3 then -f.Regs<=x/\x<=f.Regs-1
 else if r=7 then 0<=x/\x<=f.Consts.length-1 else if r=8 then 0<=x/\x<=f.Ups.length-1 else if r=9 then 0<=x/\x<=np-1 else if r=10 then 0<=x/\x<=f.Ins.length-1
 else if r=11 then 1<=x/\x<=100000 else if r=12 then 0<=x/\x<=100000 else if r=13 then 0<=x/\x<=f.Regs else if r=14 then 0<=x/\x<=f.Regs-2
 else if r=15 then 19<=x/\x<=22 else if r=16 then 1<=x/\x<=18 else if r=17 then 0<=x/\x<=250 else if r=18 then 0<=x/\x<=f.Regs-3 else 0<=x/\x<=f.Regs-2
theorem znm (ps:List zc) (p r x:Int) (p0:0<=p) (hn:p<ps.length) (hb:ps.length<=1048576) (h:WL (za ps p)):EP A zgJ [code ps,.int .i64 p,.int .i64 r,.int .i64 x]=some (.bool (decide (yX ps.length (za ps p) r x))):=by
 have g1:=h.r0
 have g2:=h.r1
 have g3:=h.u
 have g4:=h.c
 have g5:=h.i
 by_cases h0:r=0
 ·subst h0;simp -implicitDefEqProofs +contextual (disch:=omega) only [y9,y_,yU,code,zb,zc.cells,ups,ze,zj,zm,xB,yX,cQ, ↓XD,XU, ↓reduceIte,sevalprocAttr,hn]
 by_cases h1:r=1
 ·subst h1;simp -implicitDefEqProofs +contextual (disch:=omega) only [y9,y_,yU,code,zb,zc.cells,ups,ze,zj,zm,xB,yX,cQ, ↓XD,XU, ↓reduceIte,sevalprocAttr,hn]
 by_cases h2:r=2
 ·subst h2;simp -implicitDefEqProofs +contextual (disch:=omega) only [y9,y_,yU,code,zb,zc.cells,ups,ze,zj,zm,xB,yX,cQ, ↓XD,XU, ↓reduceIte,sevalprocAttr,hn]
 by_cases h3:r=3
 ·subst h3;simp -implicitDefEqProofs +contextual (disch:=omega) only [y9,y_,yU,code,zb,zc.cells,ups,ze,zj,zm,xB,yX,cQ, ↓XD,XU, ↓reduceIte,sevalprocAttr,hn]
 by_cases h4:r=4
 ·subst h4;simp -implicitDefEqProofs +contextual (disch:=omega) only [y9,y_,yU,code,zb,zc.cells,ups,ze,zj,zm,xB,yX,cQ, ↓XD,XU, ↓reduceIte,sevalprocAttr,hn]
 by_cases h5:r=5
 ·subst h5;simp -implicitDefEqProofs +contextual (disch:=omega) only [y9,y_,yU,code,zb,zc.cells,ups,ze,zj,zm,xB,yX,cQ, ↓XD,XU, ↓reduceIte,sevalprocAttr,hn]
 by_cases h6:r=6
 ·subst h6;simp -implicitDefEqProofs +contextual (disch:=omega) only [y9,y_,yU,code,zb,zc.cells,ups,ze,zj,zm,xB,yX,cQ, ↓XD,XU, ↓reduceIte,sevalprocAttr,hn]
 by_cases h7:r=7
 ·subst h7;simp -implicitDefEqProofs +contextual (disch:=omega) only [y9,y_,yU,code,zb,zc.cells,ups,ze,zj,zm,xB,yX,cQ, ↓XD,XU, ↓reduceIte,sevalprocAttr,hn]
 by_cases h8:r=8
 ·subst h8;simp -implicitDefEqProofs +contextual (disch:=omega) only [y9,y_,yU,code,zb,zc.cells,ups,ze,zj,zm,xB,yX,cQ, ↓XD,XU, ↓reduceIte,sevalprocAttr,hn]
 by_cases h9:r=9
 ·subst h9;simp -implicitDefEqProofs +contextual (disch:=omega) only [y9,y_,yU,code,zb,zc.cells,ups,ze,zj,zm,xB,yX,cQ, ↓XD,XU, ↓reduceIte,sevalprocAttr,hn]
 by_cases h10:r=10
 ·subst h10;simp -implicitDefEqProofs +contextual (disch:=omega) only [y9,y_,yU,code,zb,zc.cells,ups,ze,zj,zm,xB,yX,cQ, ↓XD,XU, ↓reduceIte,sevalprocAttr,hn]
 by_cases h11:r=11
 ·subst h11;simp -implicitDefEqProofs +contextual (disch:=omega) only [y9,y_,yU,code,zb,zc.cells,ups,ze,zj,zm,xB,yX,cQ, ↓XD,XU, ↓reduceIte,sevalprocAttr,hn]
 by_cases h12:r=12
 ·subst h12;simp -implicitDefEqProofs +contextual (disch:=omega) only [y9,y_,yU,code,zb,zc.cells,ups,ze,zj,zm,xB,yX,cQ, ↓XD,XU, ↓reduceIte,sevalprocAttr,hn]
 by_cases h13:r=13
 ·subst h13;simp -implicitDefEqProofs +contextual (disch:=omega) only [y9,y_,yU,code,zb,zc.cells,ups,ze,zj,zm,xB,yX,cQ, ↓XD,XU, ↓reduceIte,sevalprocAttr,hn]
 by_cases h14:r=14
 ·subst h14;simp -implicitDefEqProofs +contextual (disch:=omega) only [y9,y_,yU,code,zb,zc.cells,ups,ze,zj,zm,xB,yX,cQ, ↓XD,XU, ↓reduceIte,sevalprocAttr,hn]
 by_cases h15:r=15
 ·subst h15;simp -implicitDefEqProofs +contextual (disch:=omega) only [y9,y_,yU,code,zb,zc.cells,ups,ze,zj,zm,xB,yX,cQ, ↓XD,XU, ↓reduceIte,sevalprocAttr,hn]
 by_cases h16:r=16
 ·subst h16;simp -implicitDefEqProofs +contextual (disch:=omega) only [y9,y_,yU,code,zb,zc.cells,ups,ze,zj,zm,xB,yX,cQ, ↓XD,XU, ↓reduceIte,sevalprocAttr,hn]
 by_cases h17:r=17
 ·subst h17;simp -implicitDefEqProofs +contextual (disch:=omega) only [y9,y_,yU,code,zb,zc.cells,ups,ze,zj,zm,xB,yX,cQ, ↓XD,XU, ↓reduceIte,sevalprocAttr,hn]
 by_cases h18:r=18
 ·subst h18;simp -implicitDefEqProofs +contextual (disch:=omega) only [y9,y_,yU,code,zb,zc.cells,ups,ze,zj,zm,xB,yX,cQ, ↓XD,XU, ↓reduceIte,sevalprocAttr,hn]
 by_cases h21:r=21
 ·subst h21;simp -implicitDefEqProofs +contextual (disch:=omega) only [y9,y_,yU,code,zb,zc.cells,ups,ze,zj,zm,xB,yX,cQ, ↓XD,XU, ↓reduceIte,sevalprocAttr,hn]
 simp -implicitDefEqProofs +contextual (disch:=omega) only [y9,y_,yU,code,zb,zc.cells,ups,ze,zj,zm,xB,yX,cQ, ↓XD,XU, ↓reduceIte,sevalprocAttr,hn,h0,h1,h2,h3,h4,h5,h6,h7,h8,h9,h10,h11,h12,h13,h14,h15,h16,h17,h18,h21]
def xM (np:Nat) (f:zc) (r x:Int):Prop:=
 if r=1\/r=4\/r=5\/r=6 then 0<=x/\x<=f.Regs-1 else if r=2\/r=3 then (if x<0 then 0<= -1-x/\ -1-x<=f.Regs-1 else 0<=x/\x<=f.Regs-1)
 else if r=7 then 1<=x/\x<=100000 else if r=8 then 0<=x/\x<=100000 else if r=9 then 0<=x/\x<=f.Consts.length-1 else if r=10 then 0<=x/\x<=f.Ups.length-1
 else if r=11 then 0<=x/\x<=np-1 else if r=12 then 0<=x/\x<=f.Ins.length-1 else if r=13 then 1<=x/\x<=18 else if r=14 then 19<=x/\x<=22 else if r=15 then 0<=x/\x<=250
 else if r=16 then 0<=x/\x<=f.Regs else if r=17 then 0<=x/\x<=f.Regs-2 else if r=18 then 0<=x/\x<=f.Regs-3 else if r=19\/r=20 then 0<=x/\x<=f.Regs-2 else x=0
theorem zkC (ps:List zc) (f:zc) (r x:Int) (x0: -9223372036854775808<=x) (x1:x<9223372036854775808) (hb:ps.length<=1048576) (h:WL f):EP A zeA [code ps,.agg f.cells,.int .i64 r,.int .i64 x]=some (.bool (decide (xM ps.length f r x))):=by
 have g1:=h.r0
 have g2:=h.r1
 have g3:=h.u
 have g4:=h.c
 have g5:=h.i
 have hn:=hb
 by_cases h1:r=1
 ·subst h1;simp -implicitDefEqProofs +contextual (disch:=omega) only [yE,yK,yv,code,zb,zc.cells,ups,ze,zj,zm,zO,xM, ↓XD,XU, ↓reduceIte,sevalprocAttr,hn]
 by_cases h2:r=2
 ·subst h2
  by_cases hx:x<0
  ·simp -implicitDefEqProofs +contextual (disch:=omega) only [yE,yK,yv,code,zb,zc.cells,ups,ze,zj,zm,zO,xM, ↓XD,XU, ↓reduceIte,sevalprocAttr,hn,hx]
  ·simp -implicitDefEqProofs +contextual (disch:=omega) only [yE,yK,yv,code,zb,zc.cells,ups,ze,zj,zm,zO,xM, ↓XD,XU, ↓reduceIte,sevalprocAttr,hn,hx]
 by_cases h3:r=3
 ·subst h3
  by_cases hx:x<0
  ·simp -implicitDefEqProofs +contextual (disch:=omega) only [yE,yK,yv,code,zb,zc.cells,ups,ze,zj,zm,zO,xM, ↓XD,XU, ↓reduceIte,sevalprocAttr,hn,hx]
  ·simp -implicitDefEqProofs +contextual (disch:=omega) only [yE,yK,yv,code,zb,zc.cells,ups,ze,zj,zm,zO,xM, ↓XD,XU, ↓reduceIte,sevalprocAttr,hn,hx]
 by_cases h4:r=4
 ·subst h4;simp -implicitDefEqProofs +contextual (disch:=omega) only [yE,yK,yv,code,zb,zc.cells,ups,ze,zj,zm,zO,xM, ↓XD,XU, ↓reduceIte,sevalprocAttr,hn]
 by_cases h5:r=5
 ·subst h5;simp -implicitDefEqProofs +contextual (disch:=omega) only [yE,yK,yv,code,zb,zc.cells,ups,ze,zj,zm,zO,xM, ↓XD,XU, ↓reduceIte,sevalprocAttr,hn]
 by_cases h6:r=6
 ·subst h6;simp -implicitDefEqProofs +contextual (disch:=omega) only [yE,yK,yv,code,zb,zc.cells,ups,ze,zj,zm,zO,xM, ↓XD,XU, ↓reduceIte,sevalprocAttr,hn]
 by_cases h7:r=7
 ·subst h7;simp -implicitDefEqProofs +contextual (disch:=omega) only [yE,yK,yv,code,zb,zc.cells,ups,ze,zj,zm,zO,xM, ↓XD,XU, ↓reduceIte,sevalprocAttr,hn]
 by_cases h8:r=8
 ·subst h8;simp -implicitDefEqProofs +contextual (disch:=omega) only [yE,yK,yv,code,zb,zc.cells,ups,ze,zj,zm,zO,xM, ↓XD,XU, ↓reduceIte,sevalprocAttr,hn]
 by_cases h9:r=9
 ·subst h9;simp -implicitDefEqProofs +contextual (disch:=omega) only [yE,yK,yv,code,zb,zc.cells,ups,ze,zj,zm,zO,xM, ↓XD,XU, ↓reduceIte,sevalprocAttr,hn]
 by_cases h10:r=10
 ·subst h10;simp -implicitDefEqProofs +contextual (disch:=omega) only [yE,yK,yv,code,zb,zc.cells,ups,ze,zj,zm,zO,xM, ↓XD,XU, ↓reduceIte,sevalprocAttr,hn]
 by_cases h11:r=11
 ·subst h11;simp -implicitDefEqProofs +contextual (disch:=omega) only [yE,yK,yv,code,zb,zc.cells,ups,ze,zj,zm,zO,xM, ↓XD,XU, ↓reduceIte,sevalprocAttr,hn]
 by_cases h12:r=12
 ·subst h12;simp -implicitDefEqProofs +contextual (disch:=omega) only [yE,yK,yv,code,zb,zc.cells,ups,ze,zj,zm,zO,xM, ↓XD,XU, ↓reduceIte,sevalprocAttr,hn]
 by_cases h13:r=13
 ·subst h13;simp -implicitDefEqProofs +contextual (disch:=omega) only [yE,yK,yv,code,zb,zc.cells,ups,ze,zj,zm,zO,xM, ↓XD,XU, ↓reduceIte,sevalprocAttr,hn]
 by_cases h14:r=14
 ·subst h14;simp -implicitDefEqProofs +contextual (disch:=omega) only [yE,yK,yv,code,zb,zc.cells,ups,ze,zj,zm,zO,xM, ↓XD,XU, ↓reduceIte,sevalprocAttr,hn]
 by_cases h15:r=15
 ·subst h15;simp -implicitDefEqProofs +contextual (disch:=omega) only [yE,yK,yv,code,zb,zc.cells,ups,ze,zj,zm,zO,xM, ↓XD,XU, ↓reduceIte,sevalprocAttr,hn]
 by_cases h16:r=16
 ·subst h16;simp -implicitDefEqProofs +contextual (disch:=omega) only [yE,yK,yv,code,zb,zc.cells,ups,ze,zj,zm,zO,xM, ↓XD,XU, ↓reduceIte,sevalprocAttr,hn]
 by_cases h17:r=17
 ·subst h17;simp -implicitDefEqProofs +contextual (disch:=omega) only [yE,yK,yv,code,zb,zc.cells,ups,ze,zj,zm,zO,xM, ↓XD,XU, ↓reduceIte,sevalprocAttr,hn]
 by_cases h18:r=18
 ·subst h18;simp -implicitDefEqProofs +contextual (disch:=omega) only [yE,yK,yv,code,zb,zc.cells,ups,ze,zj,zm,zO,xM, ↓XD,XU, ↓reduceIte,sevalprocAttr,hn]
 by_cases h19:r=19
 ·subst h19;simp -implicitDefEqProofs +contextual (disch:=omega) only [yE,yK,yv,code,zb,zc.cells,ups,ze,zj,zm,zO,xM, ↓XD,XU, ↓reduceIte,sevalprocAttr,hn]
 by_cases h20:r=20
 ·subst h20;simp -implicitDefEqProofs +contextual (disch:=omega) only [yE,yK,yv,code,zb,zc.cells,ups,ze,zj,zm,zO,xM, ↓XD,XU, ↓reduceIte,sevalprocAttr,hn]
 simp -implicitDefEqProofs +contextual (disch:=omega) only [yE,yK,yv,code,zb,zc.cells,ups,ze,zj,zm,zO,xM, ↓XD,XU, ↓reduceIte,sevalprocAttr,hn,h1,h2,h3,h4,h5,h6,h7,h8,h9,h10,h11,h12,h13,h14,h15,h16,h17,h18,h19,h20]
def zmf (x:Option (List Int)):Prop:=∀ l,x=some l->l.length=4
theorem zpB {c:Prop} [Decidable c] {x y:Option (List Int)} (h1:zmf x) (h2:zmf y):zmf (if c then x else y):=by
 by_cases h:c
 ·rw [if_pos h];exact h1
 ·rw [if_neg h];exact h2
theorem znw (a b c d:Int):zmf (some [a,b,c,d]):=λ l h=>by cases h;rfl
theorem zry (o:Int):zmf (zg o):=by
 unfold zg
 iterate 35 refine zpB (znw _ _ _ _) ?_
 exact λ l h=>by cases h
theorem zge {o:Int} {l:List Int} (h:zg o=some l):l.length=4:=zry o l h
theorem zxy (ps:List zc) (p i0:Int) (nd:Ins) (rl fl:List Int) (p0:0<=p) (p1:p<ps.length) (hb:ps.length<=1048576) (h:WL (za ps p)) (hr:rl.length=4) (hf:fl.length=4):match z9 (λ (j:Int)=>¬yX ps.length (za ps p) (za rl j) (za fl j)) 0 4 with|some j=>∃ st,EV A (.loop (VF 0)) (⟨[(0,code ps),(1,.int .i64 p),(2,.int .i64 i0),(3,.ptr 0 0 0 1),(6,.bool false),(7,.ptr 1 0 0 1),(8,yt rl),(28,yt fl),(29,.int .i64 4),(30,.int .i64 (0))],[],[.cells 1 [[zb ps]],.cells 5 [nd.cells]],[]⟩:St)=some (.ret,st)/\st.per.get 6=.bool false|none=>EV A (.loop (VF 0)) (⟨[(0,code ps),(1,.int .i64 p),(2,.int .i64 i0),(3,.ptr 0 0 0 1),(6,.bool false),(7,.ptr 1 0 0 1),(8,yt rl),(28,yt fl),(29,.int .i64 4),(30,.int .i64 (0))],[],[.cells 1 [[zb ps]],.cells 5 [nd.cells]],[]⟩:St)=some (zp.exit 0,(⟨[(0,code ps),(1,.int .i64 p),(2,.int .i64 i0),(3,.ptr 0 0 0 1),(6,.bool false),(7,.ptr 1 0 0 1),(8,yt rl),(28,yt fl),(29,.int .i64 4),(30,.int .i64 (4))],[],[.cells 1 [[zb ps]],.cells 5 [nd.cells]],[]⟩:St)):=by
 refine yr (λ i=>(⟨[(0,code ps),(1,.int .i64 p),(2,.int .i64 i0),(3,.ptr 0 0 0 1),(6,.bool false),(7,.ptr 1 0 0 1),(8,yt rl),(28,yt fl),(29,.int .i64 4),(30,.int .i64 i)],[],[.cells 1 [[zb ps]],.cells 5 [nd.cells]],[]⟩:St)) (λ (j:Int)=>¬yX ps.length (za ps p) (za rl j) (za fl j)) (λ (j:Int) (st:St)=>st.per.get 6=.bool false) (zp.exit 0,(⟨[(0,code ps),(1,.int .i64 p),(2,.int .i64 i0),(3,.ptr 0 0 0 1),(6,.bool false),(7,.ptr 1 0 0 1),(8,yt rl),(28,yt fl),(29,.int .i64 4),(30,.int .i64 (4))],[],[.cells 1 [[zb ps]],.cells 5 [nd.cells]],[]⟩:St)) (0) (4) ?_ ?_ ?_ (0) (by omega) (by omega)
 ·intro i hi hn hp
  try simp only [aP] at hp
  have h39:=znm ps p (za rl i) (za fl i) p0 p1 hb h;simp only [code,zb] at h39
  refine ⟨_,by simp -implicitDefEqProofs +contextual (disch:=omega) only [UJ,uF, ↓XD,XU, ↓reduceIte,sevalprocAttr,code,zb,Ins.cells,hr,hf,h39,hn,hp];rfl,by first|(simp [St.next,zT];done)|(simp [St.next,zT];omega)|(simp [St.next,trim,bare,zn,refs];done)⟩
 ·intro i hi hn hp
  have h39:=znm ps p (za rl i) (za fl i) p0 p1 hb h;simp only [code,zb] at h39
  refine ⟨_,by simp -implicitDefEqProofs +contextual (disch:=omega) only [UJ,uF, ↓XD,XU, ↓reduceIte,sevalprocAttr,code,zb,Ins.cells,hr,hf,h39,hn,hp];rfl,by simp [zk.get,zk.put]⟩
 ·rintro i hi rfl
  refine ⟨by simp -implicitDefEqProofs +contextual (disch:=omega) only [UJ,uF, ↓XD,XU, ↓reduceIte,sevalprocAttr,code,zb,Ins.cells,hr,hf,aL],by simp⟩
def jb (ps:List zc) (p i:Int):Prop:=
 match zg (za (za ps p).Ins i).Op with
 |none=>False
 |some rl=>z9 (λ j=>¬yX ps.length (za ps p) (za rl j) (za [(za (za ps p).Ins i).A,(za (za ps p).Ins i).B,(za (za ps p).Ins i).C,(za (za ps p).Ins i).D] j)) 0 4=none/\(¬i=((za ps p).Ins.length:Int)-1\/(za (za ps p).Ins i).Op=19\/(za (za ps p).Ins i).Op=29\/(za (za ps p).Ins i).Op=30)
theorem zkH (ps:List zc) (p i:Int) (p0:0<=p) (p1:p<ps.length) (hb:ps.length<=1048576) (h:WL (za ps p)) (i0:0<=i) (i1:i<(za ps p).Ins.length):EP A zeS [code ps,.int .i64 p,.int .i64 i]=some (.bool (decide (jb ps p i))):=by
 have hi:=h.i
 have hR:=zfS (za (za ps p).Ins i).Op
 have hF:=zi4 (za (za ps p).Ins i)
 simp only [Ins.cells] at hF
 rw [jb]
 cases hs:zg (za (za ps p).Ins i).Op with
 |none=>
  rw [hs] at hR
  simp only [yw] at hR
  simp -implicitDefEqProofs +contextual (disch:=omega) only [VL,V0,uF,code,zb,zc.cells,zj,Ins.cells,ups,ze,zm, ↓XD,XU, ↓reduceIte,sevalprocAttr,hR]
 |some rl=>
  rw [hs] at hR
  simp only [yw] at hR
  have hl:=zge hs
  have hlp:=zxy ps p i (za (za ps p).Ins i) rl [(za (za ps p).Ins i).A,(za (za ps p).Ins i).B,(za (za ps p).Ins i).C,(za (za ps p).Ins i).D] p0 p1 hb h hl rfl
  dsimp only
  by_cases hk:z9 (λ j=>¬yX ps.length (za ps p) (za rl j) (za [(za (za ps p).Ins i).A,(za (za ps p).Ins i).B,(za (za ps p).Ins i).C,(za (za ps p).Ins i).D] j)) 0 4=none
  ·simp only [hk,true_and]
   rw [hk] at hlp
   simp only [code,zb,yt,aM,bA,Ins.cells] at hlp hF
   by_cases hlast:i=((za ps p).Ins.length:Int)-1
   ·subst hlast
    simp -implicitDefEqProofs +contextual (disch:=omega) only [VL,V0,uF,code,zb,zc.cells,zj,Ins.cells,ups,ze,zm,yt, ↓XD,XU, ↓reduceIte,sevalprocAttr,hR,hF,hl,hlp]
    simp [Bool.or_assoc]
   ·simp -implicitDefEqProofs +contextual (disch:=omega) only [VL,V0,uF,code,zb,zc.cells,zj,Ins.cells,ups,ze,zm,yt, ↓XD,XU, ↓reduceIte,sevalprocAttr,hR,hF,hl,hlp,hlast]
  ·simp only [hk,cL]
   obtain ⟨j,hj⟩:=bN.1 hk
   rw [hj] at hlp
   obtain ⟨st,hlp,hg⟩:=hlp
   simp only [code,zb,yt,aM,bA,Ins.cells] at hlp hF
   simp -implicitDefEqProofs +contextual (disch:=omega) only [VL,V0,uF,code,zb,zc.cells,zj,Ins.cells,ups,ze,zm,yt, ↓XD,XU, ↓reduceIte,sevalprocAttr,hR,hF,hl,hlp,hg]
def yC:List (Int×List Int)->Int->Option (List Int)
 |[],_=>none
 |e::l,o=>if o=e.1 then some e.2 else yC l o
abbrev zN (r:List Int):PV:=.agg (r.map λ x=>.int .i64 x)
theorem Q4 (o:Int):∀ l:List (Int×List Int),findKey 0 (.int .i64 o) (l.map λ e=>(.int .i64 e.1,zN e.2))=some ((yC l o).map zN)
 |[]=>rfl
 |e::l=>by
  rw [aM,findKey]
  have h:jC 0 (.int .i64 o) (.int .i64 e.1)=some (o==e.1):=by simp [jC]
  simp only [h,yC]
  by_cases he:o=e.1
  ·simp [he]
  ·have:(o==e.1)=false:=by simpa using he
   simp only [this,if_neg he]
   exact Q4 o l
noncomputable def zE (o:Int):Option (List Int):=yC yN o
theorem j6:A.glob 1=some [.fm (yN.map λ e=>(.int .i64 e.1,zN e.2))]:=rfl
theorem zrh (z:PV) (H:zd) (o:Int):zcQ 0 z true H (.fm (yN.map λ e=>(.int .i64 e.1,zN e.2))) (.int .i64 o)=some (match zE o with|some r=>.tup [zN r,.bool true]|none=>.tup [z,.bool false]):=by
 simp only [zcQ,Xt,Q4]
 rw [<-zE]
 cases zE o<;>rfl
theorem zkS (o:Int):zmf (zE o):=by
 unfold zE yN
 simp only [yC]
 iterate 42 refine zpB (znw _ _ _ _) ?_
 exact λ l h=>by cases h
theorem zxt (ps:List zc) (f:zc) (nd:Ins) (r0 r1 r2 r3 x0 x1 x2 x3:Int) (hx:∀ j:Int, -9223372036854775808<=za [x0,x1,x2,x3] j/\za [x0,x1,x2,x3] j<9223372036854775808) (hb:ps.length<=1048576) (h:WL f):match z9 (λ (j:Int)=>¬xM ps.length f (za [r0,r1,r2,r3] j) (za [x0,x1,x2,x3] j)) 0 4 with|some j=>∃ st,EV A (.loop (Km 0)) (⟨[(0,code ps),(1,.agg f.cells),(2,.agg nd.cells),(3,.ptr 0 0 0 1),(4,.ptr 1 0 0 1),(5,.ptr 2 0 0 1),(6,.bool false),(7,.ptr 3 0 0 1),(8,.bool true),(21,zN [x0,x1,x2,x3]),(22,.int .i64 (0))],[],[.cells 1 [[zb ps]],.cells 9 [f.cells],.cells 5 [nd.cells],.cells 4 [[.int .i64 r0,.int .i64 r1,.int .i64 r2,.int .i64 r3]]],[]⟩:St)=some (.ret,st)/\st.per.get 6=.bool false|none=>EV A (.loop (Km 0)) (⟨[(0,code ps),(1,.agg f.cells),(2,.agg nd.cells),(3,.ptr 0 0 0 1),(4,.ptr 1 0 0 1),(5,.ptr 2 0 0 1),(6,.bool false),(7,.ptr 3 0 0 1),(8,.bool true),(21,zN [x0,x1,x2,x3]),(22,.int .i64 (0))],[],[.cells 1 [[zb ps]],.cells 9 [f.cells],.cells 5 [nd.cells],.cells 4 [[.int .i64 r0,.int .i64 r1,.int .i64 r2,.int .i64 r3]]],[]⟩:St)=some (zp.exit 0,(⟨[(0,code ps),(1,.agg f.cells),(2,.agg nd.cells),(3,.ptr 0 0 0 1),(4,.ptr 1 0 0 1),(5,.ptr 2 0 0 1),(6,.bool false),(7,.ptr 3 0 0 1),(8,.bool true),(21,zN [x0,x1,x2,x3]),(22,.int .i64 (4))],[],[.cells 1 [[zb ps]],.cells 9 [f.cells],.cells 5 [nd.cells],.cells 4 [[.int .i64 r0,.int .i64 r1,.int .i64 r2,.int .i64 r3]]],[]⟩:St)):=by
 refine yr (λ i=>(⟨[(0,code ps),(1,.agg f.cells),(2,.agg nd.cells),(3,.ptr 0 0 0 1),(4,.ptr 1 0 0 1),(5,.ptr 2 0 0 1),(6,.bool false),(7,.ptr 3 0 0 1),(8,.bool true),(21,zN [x0,x1,x2,x3]),(22,.int .i64 i)],[],[.cells 1 [[zb ps]],.cells 9 [f.cells],.cells 5 [nd.cells],.cells 4 [[.int .i64 r0,.int .i64 r1,.int .i64 r2,.int .i64 r3]]],[]⟩:St)) (λ (j:Int)=>¬xM ps.length f (za [r0,r1,r2,r3] j) (za [x0,x1,x2,x3] j)) (λ (j:Int) (st:St)=>st.per.get 6=.bool false) (zp.exit 0,(⟨[(0,code ps),(1,.agg f.cells),(2,.agg nd.cells),(3,.ptr 0 0 0 1),(4,.ptr 1 0 0 1),(5,.ptr 2 0 0 1),(6,.bool false),(7,.ptr 3 0 0 1),(8,.bool true),(21,zN [x0,x1,x2,x3]),(22,.int .i64 (4))],[],[.cells 1 [[zb ps]],.cells 9 [f.cells],.cells 5 [nd.cells],.cells 4 [[.int .i64 r0,.int .i64 r1,.int .i64 r2,.int .i64 r3]]],[]⟩:St)) (0) (4) ?_ ?_ ?_ (0) (by omega) (by omega)
 ·intro i hi hn hp
  have h30:=zkC ps f (za [r0,r1,r2,r3] i) (za [x0,x1,x2,x3] i) (hx i).1 (hx i).2 hb h;simp only [code,zb,zc.cells,ups,ze,zj,zm] at h30
  simp only [aP] at hp
  have hi4:i=0\/i=1\/i=2\/i=3:=by omega
  rcases hi4 with rfl|rfl|rfl|rfl
  all_goals
   simp only [show za [r0,r1,r2,r3] 0=r0 from rfl,show za [r0,r1,r2,r3] 1=r1 from rfl,show za [r0,r1,r2,r3] 2=r2 from rfl,show za [r0,r1,r2,r3] 3=r3 from rfl,show za [x0,x1,x2,x3] 0=x0 from rfl,show za [x0,x1,x2,x3] 1=x1 from rfl,show za [x0,x1,x2,x3] 2=x2 from rfl,show za [x0,x1,x2,x3] 3=x3 from rfl] at h30 hp
   refine ⟨_,by (simp -implicitDefEqProofs +contextual (disch:=omega) only [Qh,ZT,code,zb,zc.cells,ups,ze,zj,zm,Ins.cells,zN,aM,bA,yp,List.head?_cons, ↓XD,XU, ↓reduceIte,sevalprocAttr,h30,hp])<;>rfl,by simp [St.next,zT]⟩
 ·intro i hi hn hp
  have h30:=zkC ps f (za [r0,r1,r2,r3] i) (za [x0,x1,x2,x3] i) (hx i).1 (hx i).2 hb h;simp only [code,zb,zc.cells,ups,ze,zj,zm] at h30
  have hi4:i=0\/i=1\/i=2\/i=3:=by omega
  rcases hi4 with rfl|rfl|rfl|rfl
  all_goals
   simp only [show za [r0,r1,r2,r3] 0=r0 from rfl,show za [r0,r1,r2,r3] 1=r1 from rfl,show za [r0,r1,r2,r3] 2=r2 from rfl,show za [r0,r1,r2,r3] 3=r3 from rfl,show za [x0,x1,x2,x3] 0=x0 from rfl,show za [x0,x1,x2,x3] 1=x1 from rfl,show za [x0,x1,x2,x3] 2=x2 from rfl,show za [x0,x1,x2,x3] 3=x3 from rfl] at h30 hp
   refine ⟨_,by (simp -implicitDefEqProofs +contextual (disch:=omega) only [Qh,ZT,code,zb,zc.cells,ups,ze,zj,zm,Ins.cells,zN,aM,bA,yp,List.head?_cons, ↓XD,XU, ↓reduceIte,sevalprocAttr,h30,hp])<;>rfl,by simp [zk.get,zk.put]⟩
 ·rintro i hi rfl
  refine ⟨by simp -implicitDefEqProofs +contextual (disch:=omega) only [Qh,ZT, ↓XD,XU, ↓reduceIte,sevalprocAttr,code,zb,Ins.cells,aL],by simp⟩
def zme (ps:List zc) (f:zc) (nd:Ins):Prop:=
 match zE nd.Op with
 |none=>False
 |some rl=>z9 (λ j=>¬xM ps.length f (za rl j) (za [nd.A,nd.B,nd.C,nd.D] j)) 0 4=none
theorem zDY {l:List Int} (h:l.length=4):∃ a b c d,l=[a,b,c,d]:=by
 match l,h with
 |[a,b,c,d],_=>exact ⟨a,b,c,d,rfl⟩
theorem zpa (ps:List zc) (f:zc) (nd:Ins) (hx:∀ j:Int, -9223372036854775808<=za [nd.A,nd.B,nd.C,nd.D] j/\za [nd.A,nd.B,nd.C,nd.D] j<9223372036854775808) (hb:ps.length<=1048576) (h:WL f):EP A zhW [code ps,.agg f.cells,.agg nd.cells]=some (.bool (decide (zme ps f nd))):=by
 have hF:=v9 nd
 have hL:=λ z H=>zrh z H nd.Op
 simp only [Ins.cells] at hF
 rw [zme]
 cases hs:zE nd.Op with
 |none=>
  simp only [hs] at hL
  simp -implicitDefEqProofs +contextual (disch:=omega) only [zbM,zcf,ZT,j6,code,zb,zc.cells,zj,Ins.cells,ups,ze,zm, ↓XD,XU, ↓reduceIte,sevalprocAttr,hL]
 |some rl=>
  obtain ⟨r0,r1,r2,r3,rfl⟩:=zDY (zkS _ _ hs)
  simp only [hs] at hL
  have hlp:=zxt ps f nd r0 r1 r2 r3 nd.A nd.B nd.C nd.D hx hb h
  dsimp only
  by_cases hk:z9 (λ j=>¬xM ps.length f (za [r0,r1,r2,r3] j) (za [nd.A,nd.B,nd.C,nd.D] j)) 0 4=none
  ·simp only [hk]
   rw [hk] at hlp
   simp only [code,zb,zc.cells,ups,ze,zj,zm,Ins.cells,zN,aM,bA] at hlp hL
   simp -implicitDefEqProofs +contextual (disch:=omega) only [zbM,zcf,ZT,j6,code,zb,zc.cells,zj,Ins.cells,ups,ze,zm,zN,aM,bA, ↓XD,XU, ↓reduceIte,sevalprocAttr,hL,hF,hlp]
  ·simp only [hk]
   obtain ⟨j,hj⟩:=bN.1 hk
   rw [hj] at hlp
   obtain ⟨st,hlp,hg⟩:=hlp
   simp only [code,zb,zc.cells,ups,ze,zj,zm,Ins.cells,zN,aM,bA] at hlp hL
   simp -implicitDefEqProofs +contextual (disch:=omega) only [zbM,zcf,ZT,j6,code,zb,zc.cells,zj,Ins.cells,ups,ze,zm,zN,aM,bA, ↓XD,XU, ↓reduceIte,sevalprocAttr,hL,hF,hlp,hg]
end Go.Proofs.Tryd.Av
end
section
set_option maxRecDepth 10000
set_option maxHeartbeats 4000000
namespace Go.Proofs.Tryd.Av
open Go Go.Av Classical
def jy (np:Nat) (f:zc) (s i:Int):Prop:=∀ x,yX np f s x↔xM np f i x
theorem zDB (np:Nat) (f:zc) (h:WL f):jy np f 0 0/\jy np f 1 1/\jy np f 2 2/\jy np f 3 3/\jy np f 4 4/\jy np f 5 5/\jy np f 6 6/\jy np f 7 9/\jy np f 8 10/\jy np f 9 11/\jy np f 10 12/\jy np f 11 7/\jy np f 12 8/\jy np f 13 16/\jy np f 14 17/\jy np f 15 14/\jy np f 16 13/\jy np f 17 15/\jy np f 18 18/\jy np f 19 19/\jy np f 20 20/\jy np f 21 1:=by
 have g1:=h.r0
 refine ⟨?_,?_,?_,?_,?_,?_,?_,?_,?_,?_,?_,?_,?_,?_,?_,?_,?_,?_,?_,?_,?_,?_⟩
 all_goals
  intro x
  simp [yX,xM]
  try (split<;>omega)
theorem ztF (np:Nat) (f:zc) (h:WL f) (o:Int):(zg o=none/\zE o=none)\/∃ s0 s1 s2 s3 i0 i1 i2 i3,zg o=some [s0,s1,s2,s3]/\zE o=some [i0,i1,i2,i3]/\jy np f s0 i0/\jy np f s1 i1/\jy np f s2 i2/\jy np f s3 i3:=by
 obtain ⟨p0,p1,p2,p3,p4,p5,p6,p7,p8,p9,p10,p11,p12,p13,p14,p15,p16,p17,p18,p19,p20,p21⟩:=zDB np f h
 by_cases h1:o=1
 ·subst h1;exact .inr ⟨11,0,0,0,7,0,0,0,by simp [zg],by simp [zE,yN,yC],p11,p0,p0,p0⟩
 by_cases h2:o=2
 ·subst h2;exact .inr ⟨12,0,0,0,8,0,0,0,by simp [zg],by simp [zE,yN,yC],p12,p0,p0,p0⟩
 by_cases h3:o=3
 ·subst h3;exact .inr ⟨0,0,0,0,0,0,0,0,by simp [zg],by simp [zE,yN,yC],p0,p0,p0,p0⟩
 by_cases h4:o=4
 ·subst h4;exact .inr ⟨1,7,0,0,1,9,0,0,by simp [zg],by simp [zE,yN,yC],p1,p7,p0,p0⟩
 by_cases h5:o=5
 ·subst h5;exact .inr ⟨1,2,0,0,1,2,0,0,by simp [zg],by simp [zE,yN,yC],p1,p2,p0,p0⟩
 by_cases h6:o=6
 ·subst h6;exact .inr ⟨1,2,0,0,1,2,0,0,by simp [zg],by simp [zE,yN,yC],p1,p2,p0,p0⟩
 by_cases h7:o=7
 ·subst h7;exact .inr ⟨1,5,0,0,1,5,0,0,by simp [zg],by simp [zE,yN,yC],p1,p5,p0,p0⟩
 by_cases h8:o=8
 ·subst h8;exact .inr ⟨5,2,0,0,5,2,0,0,by simp [zg],by simp [zE,yN,yC],p5,p2,p0,p0⟩
 by_cases h9:o=9
 ·subst h9;exact .inr ⟨1,8,0,0,1,10,0,0,by simp [zg],by simp [zE,yN,yC],p1,p8,p0,p0⟩
 by_cases h10:o=10
 ·subst h10;exact .inr ⟨8,2,0,0,10,2,0,0,by simp [zg],by simp [zE,yN,yC],p8,p2,p0,p0⟩
 by_cases h11:o=11
 ·subst h11;exact .inr ⟨1,9,0,0,1,11,0,0,by simp [zg],by simp [zE,yN,yC],p1,p9,p0,p0⟩
 by_cases h12:o=12
 ·subst h12;exact .inr ⟨1,0,0,0,1,0,0,0,by simp [zg],by simp [zE,yN,yC],p1,p0,p0,p0⟩
 by_cases h13:o=13
 ·subst h13;exact .inr ⟨4,2,2,0,4,2,2,0,by simp [zg],by simp [zE,yN,yC],p4,p2,p2,p0⟩
 by_cases h14:o=14
 ·subst h14;exact .inr ⟨4,2,3,0,4,2,3,0,by simp [zg],by simp [zE,yN,yC],p4,p2,p3,p0⟩
 by_cases h15:o=15
 ·subst h15;exact .inr ⟨1,2,2,0,1,2,2,0,by simp [zg],by simp [zE,yN,yC],p1,p2,p2,p0⟩
 by_cases h16:o=16
 ·subst h16;exact .inr ⟨2,2,2,0,2,2,2,0,by simp [zg],by simp [zE,yN,yC],p2,p2,p2,p0⟩
 by_cases h17:o=17
 ·subst h17;exact .inr ⟨1,15,2,0,1,14,2,0,by simp [zg],by simp [zE,yN,yC],p1,p15,p2,p0⟩
 by_cases h18:o=18
 ·subst h18;exact .inr ⟨1,16,2,2,1,13,2,2,by simp [zg],by simp [zE,yN,yC],p1,p16,p2,p2⟩
 by_cases h19:o=19
 ·subst h19;exact .inr ⟨10,0,0,0,12,0,0,0,by simp [zg],by simp [zE,yN,yC],p10,p0,p0,p0⟩
 by_cases h20:o=20
 ·subst h20;exact .inr ⟨2,10,0,0,2,12,0,0,by simp [zg],by simp [zE,yN,yC],p2,p10,p0,p0⟩
 by_cases h21:o=21
 ·subst h21;exact .inr ⟨2,10,0,0,2,12,0,0,by simp [zg],by simp [zE,yN,yC],p2,p10,p0,p0⟩
 by_cases h22:o=22
 ·subst h22;exact .inr ⟨1,0,0,0,1,0,0,0,by simp [zg],by simp [zE,yN,yC],p1,p0,p0,p0⟩
 by_cases h23:o=23
 ·subst h23;exact .inr ⟨6,2,0,0,6,2,0,0,by simp [zg],by simp [zE,yN,yC],p6,p2,p0,p0⟩
 by_cases h24:o=24
 ·subst h24;exact .inr ⟨6,3,0,0,6,3,0,0,by simp [zg],by simp [zE,yN,yC],p6,p3,p0,p0⟩
 by_cases h25:o=25
 ·subst h25;exact .inr ⟨1,3,0,0,1,3,0,0,by simp [zg],by simp [zE,yN,yC],p1,p3,p0,p0⟩
 by_cases h26:o=26
 ·subst h26;exact .inr ⟨1,6,17,0,1,6,15,0,by simp [zg],by simp [zE,yN,yC],p1,p6,p17,p0⟩
 by_cases h27:o=27
 ·subst h27;exact .inr ⟨1,6,0,0,1,6,0,0,by simp [zg],by simp [zE,yN,yC],p1,p6,p0,p0⟩
 by_cases h28:o=28
 ·subst h28;exact .inr ⟨1,2,3,0,1,2,3,0,by simp [zg],by simp [zE,yN,yC],p1,p2,p3,p0⟩
 by_cases h29:o=29
 ·subst h29;exact .inr ⟨3,0,0,0,3,0,0,0,by simp [zg],by simp [zE,yN,yC],p3,p0,p0,p0⟩
 by_cases h30:o=30
 ·subst h30;exact .inr ⟨2,0,0,0,2,0,0,0,by simp [zg],by simp [zE,yN,yC],p2,p0,p0,p0⟩
 by_cases h31:o=31
 ·subst h31;exact .inr ⟨10,14,0,0,12,17,0,0,by simp [zg],by simp [zE,yN,yC],p10,p14,p0,p0⟩
 by_cases h32:o=32
 ·subst h32;exact .inr ⟨0,0,0,0,0,0,0,0,by simp [zg],by simp [zE,yN,yC],p0,p0,p0,p0⟩
 by_cases h33:o=33
 ·subst h33;exact .inr ⟨13,0,0,0,16,0,0,0,by simp [zg],by simp [zE,yN,yC],p13,p0,p0,p0⟩
 by_cases h34:o=34
 ·subst h34;exact .inr ⟨13,0,0,0,16,0,0,0,by simp [zg],by simp [zE,yN,yC],p13,p0,p0,p0⟩
 by_cases h35:o=35
 ·subst h35;exact .inr ⟨2,3,0,0,2,3,0,0,by simp [zg],by simp [zE,yN,yC],p2,p3,p0,p0⟩
 by_cases h36:o=36
 ·subst h36;exact .inr ⟨0,0,0,0,0,0,0,0,by simp [zg],by simp [zE,yN,yC],p0,p0,p0,p0⟩
 by_cases h37:o=37
 ·subst h37;exact .inr ⟨18,0,0,0,18,0,0,0,by simp [zg],by simp [zE,yN,yC],p18,p0,p0,p0⟩
 by_cases h38:o=38
 ·subst h38;exact .inr ⟨18,10,0,0,18,12,0,0,by simp [zg],by simp [zE,yN,yC],p18,p10,p0,p0⟩
 by_cases h39:o=39
 ·subst h39;exact .inr ⟨18,10,0,0,18,12,0,0,by simp [zg],by simp [zE,yN,yC],p18,p10,p0,p0⟩
 by_cases h40:o=40
 ·subst h40;exact .inr ⟨19,0,0,0,19,0,0,0,by simp [zg],by simp [zE,yN,yC],p19,p0,p0,p0⟩
 by_cases h41:o=41
 ·subst h41;exact .inr ⟨20,10,1,0,20,12,1,0,by simp [zg],by simp [zE,yN,yC],p20,p10,p1,p0⟩
 by_cases h42:o=42
 ·subst h42;exact .inr ⟨21,0,0,0,1,0,0,0,by simp [zg],by simp [zE,yN,yC],p21,p0,p0,p0⟩
 exact .inl ⟨by simp [zg,h1,h2,h3,h4,h5,h6,h7,h8,h9,h10,h11,h12,h13,h14,h15,h16,h17,h18,h19,h20,h21,h22,h23,h24,h25,h26,h27,h28,h29,h30,h31,h32,h33,h34,h35,h36,h37,h38,h39,h40,h41,h42],by simp [zE,yN,yC,h1,h2,h3,h4,h5,h6,h7,h8,h9,h10,h11,h12,h13,h14,h15,h16,h17,h18,h19,h20,h21,h22,h23,h24,h25,h26,h27,h28,h29,h30,h31,h32,h33,h34,h35,h36,h37,h38,h39,h40,h41,h42]⟩
theorem zjZ (ps:List zc) (p i:Int) (h:WL (za ps p)):jb ps p i↔zme ps (za ps p) (za (za ps p).Ins i)/\(¬i=((za ps p).Ins.length:Int)-1\/(za (za ps p).Ins i).Op=19\/(za (za ps p).Ins i).Op=29\/(za (za ps p).Ins i).Op=30):=by
 rw [jb,zme]
 rcases ztF ps.length (za ps p) h (za (za ps p).Ins i).Op with ⟨h1,h2⟩|⟨s0,s1,s2,s3,i0,i1,i2,i3,h1,h2,q0,q1,q2,q3⟩
 ·simp [h1,h2]
 ·simp only [h1,h2]
  have:∀ a b c d:Int,z9 (λ j=>¬yX ps.length (za ps p) (za [s0,s1,s2,s3] j) (za [a,b,c,d] j)) 0 4=z9 (λ j=>¬xM ps.length (za ps p) (za [i0,i1,i2,i3] j) (za [a,b,c,d] j)) 0 4:=λ a b c d=>zlx λ j j0 j1=>not_congr (by
   have hj:j=0\/j=1\/j=2\/j=3:=by omega
   rcases hj with rfl|rfl|rfl|rfl
   ·exact q0 _
   ·exact q1 _
   ·exact q2 _
   ·exact q3 _)
  rw [this]
end Go.Proofs.Tryd.Av
end
section
attribute [local congr] ite_congr
set_option maxRecDepth 10000
set_option maxHeartbeats 4000000
namespace Go.Proofs.Tryd.Av
open Go Go.Av Classical
def U6 (v:yo) (num flt str ref:Bool):Prop:=(num=true\/v.Num=0)/\(flt=true\/FloatKind.f64.format.order v.Flt 0=some .eq)/\(str=true\/v.Str.toList=(⟨⟨[]⟩⟩:ByteArray).toList)/\(ref=true\/v.Ref=0)
theorem zuH (v:yo) (num flt str ref:Bool):EP A zgH [.agg v.cells,.bool num,.bool flt,.bool str,.bool ref]=some (.bool (decide (U6 v num flt str ref))):=by
 simp -implicitDefEqProofs +contextual (disch:=omega) only [zn5,zor,zmS,yo.cells,U6, ↓XD,XU, ↓reduceIte,sevalprocAttr]
 simp [Bool.and_assoc]
theorem zzT (v:yo) (num flt str ref:Bool):EP A zjg [.agg v.cells,.bool num,.bool flt,.bool str,.bool ref]=some (.bool (decide (U6 v num flt str ref))):=by
 simp -implicitDefEqProofs +contextual (disch:=omega) only [zqJ,zrG,zpW,yo.cells,U6, ↓XD,XU, ↓reduceIte,sevalprocAttr]
 simp [Bool.and_assoc]
def YT (v:yo):Prop:=
 if v.Kind=0 then U6 v false false false false else if v.Kind=1 then U6 v true false false false/\(v.Num=0\/v.Num=1) else if v.Kind=2 then U6 v true false false false
 else if v.Kind=3 then U6 v false true false false else if v.Kind=4 then U6 v false false true false/\(v.Str.size:Int)<=4000 else if v.Kind=5\/v.Kind=6\/v.Kind=7 then U6 v false false false true/\0<=v.Ref
 else if v.Kind=8 then U6 v true false false false/\0<=v.Num/\v.Num<15 else False
theorem zsQ (v:yo):EP A zeP [.agg v.cells]=some (.bool (decide (YT v))):=by
 obtain ⟨K,N,F,S,R⟩:=v
 have hz:=λ a b c d=>zuH ⟨K,N,F,S,R⟩ a b c d
 simp only [yo.cells] at hz
 by_cases h0:K=0
 ·subst h0;simp -implicitDefEqProofs +contextual (disch:=omega) only [vl,vo,wY,yo.cells,YT, ↓XD,XU, ↓reduceIte,sevalprocAttr,hz]
 by_cases h1:K=1
 ·subst h1;simp -implicitDefEqProofs +contextual (disch:=omega) only [vl,vo,wY,yo.cells,YT, ↓XD,XU, ↓reduceIte,sevalprocAttr,hz]
 by_cases h2:K=2
 ·subst h2;simp -implicitDefEqProofs +contextual (disch:=omega) only [vl,vo,wY,yo.cells,YT, ↓XD,XU, ↓reduceIte,sevalprocAttr,hz]
 by_cases h3:K=3
 ·subst h3;simp -implicitDefEqProofs +contextual (disch:=omega) only [vl,vo,wY,yo.cells,YT, ↓XD,XU, ↓reduceIte,sevalprocAttr,hz]
 by_cases h4:K=4
 ·subst h4;simp -implicitDefEqProofs +contextual (disch:=omega) only [vl,vo,wY,yo.cells,YT, ↓XD,XU, ↓reduceIte,sevalprocAttr,hz]
 by_cases h5:K=5
 ·subst h5;simp -implicitDefEqProofs +contextual (disch:=omega) only [vl,vo,wY,yo.cells,YT, ↓XD,XU, ↓reduceIte,sevalprocAttr,hz]
 by_cases h6:K=6
 ·subst h6;simp -implicitDefEqProofs +contextual (disch:=omega) only [vl,vo,wY,yo.cells,YT, ↓XD,XU, ↓reduceIte,sevalprocAttr,hz]
 by_cases h7:K=7
 ·subst h7;simp -implicitDefEqProofs +contextual (disch:=omega) only [vl,vo,wY,yo.cells,YT, ↓XD,XU, ↓reduceIte,sevalprocAttr,hz]
 by_cases h8:K=8
 ·subst h8
  simp -implicitDefEqProofs +contextual (disch:=omega) only [vl,vo,wY,yo.cells,YT, ↓XD,XU, ↓reduceIte,sevalprocAttr,hz]
  simp [Bool.and_assoc]
 simp -implicitDefEqProofs +contextual (disch:=omega) only [vl,vo,wY,yo.cells,YT, ↓XD,XU, ↓reduceIte,sevalprocAttr,h0,h1,h2,h3,h4,h5,h6,h7,h8]
theorem zkD (v:yo):EP A zeC [.agg v.cells]=some (.bool (decide (YT v))):=by
 obtain ⟨K,N,F,S,R⟩:=v
 have hz:=λ a b c d=>zzT ⟨K,N,F,S,R⟩ a b c d
 simp only [yo.cells] at hz
 by_cases h0:K=0
 ·subst h0;simp -implicitDefEqProofs +contextual (disch:=omega) only [vk,vn,wX,yo.cells,YT, ↓XD,XU, ↓reduceIte,sevalprocAttr,hz]
 by_cases h1:K=1
 ·subst h1;simp -implicitDefEqProofs +contextual (disch:=omega) only [vk,vn,wX,yo.cells,YT, ↓XD,XU, ↓reduceIte,sevalprocAttr,hz]
 by_cases h2:K=2
 ·subst h2;simp -implicitDefEqProofs +contextual (disch:=omega) only [vk,vn,wX,yo.cells,YT, ↓XD,XU, ↓reduceIte,sevalprocAttr,hz]
 by_cases h3:K=3
 ·subst h3;simp -implicitDefEqProofs +contextual (disch:=omega) only [vk,vn,wX,yo.cells,YT, ↓XD,XU, ↓reduceIte,sevalprocAttr,hz]
 by_cases h4:K=4
 ·subst h4;simp -implicitDefEqProofs +contextual (disch:=omega) only [vk,vn,wX,yo.cells,YT, ↓XD,XU, ↓reduceIte,sevalprocAttr,hz]
 by_cases h5:K=5
 ·subst h5;simp -implicitDefEqProofs +contextual (disch:=omega) only [vk,vn,wX,yo.cells,YT, ↓XD,XU, ↓reduceIte,sevalprocAttr,hz]
 by_cases h6:K=6
 ·subst h6;simp -implicitDefEqProofs +contextual (disch:=omega) only [vk,vn,wX,yo.cells,YT, ↓XD,XU, ↓reduceIte,sevalprocAttr,hz]
 by_cases h7:K=7
 ·subst h7;simp -implicitDefEqProofs +contextual (disch:=omega) only [vk,vn,wX,yo.cells,YT, ↓XD,XU, ↓reduceIte,sevalprocAttr,hz]
 by_cases h8:K=8
 ·subst h8
  simp -implicitDefEqProofs +contextual (disch:=omega) only [vk,vn,wX,yo.cells,YT, ↓XD,XU, ↓reduceIte,sevalprocAttr,hz]
  simp [Bool.and_assoc]
 simp -implicitDefEqProofs +contextual (disch:=omega) only [vk,vn,wX,yo.cells,YT, ↓XD,XU, ↓reduceIte,sevalprocAttr,h0,h1,h2,h3,h4,h5,h6,h7,h8]
theorem zk6 {x:Nat} (h:x<2 ^ 64):FloatKind.f64.format.order x 0=some .eq↔x=0\/x=9223372036854775808:=by
 constructor
 ·intro ho
  have hf:FloatKind.f64.format=Ieee.double:=rfl
  rw [hf] at ho
  have h0:Ieee.double.read 0=.number false 0 Ieee.double.leastPlace:=by decide +kernel
  have hs:Ieee.double.signWeight=9223372036854775808:=by decide +kernel
  have hb:Ieee.double.binade=4503599627370496:=by decide +kernel
  unfold Ieee.Format.order at ho
  rw [h0] at ho
  unfold Ieee.Format.read at ho
  simp only [hs,hb] at ho
  have key:∀ (s:Bool) (m k:Nat),compare (Ieee.signed s m k) (Ieee.signed false 0 0)=.eq->m=0:=by
   intro s m k hc
   have hc:=Std.LawfulEqOrd.eq_of_compare hc
   unfold Ieee.signed at hc
   simp only [Nat.shiftLeft_eq] at hc
   have:(m:Int)*((2 ^ k:Nat):Int)=0:=by split at hc<;>simp at hc ⊢ <;>omega
   have hp:0<(2:Nat) ^ k:=Nat.pow_pos (by decide)
   rcases Int.mul_eq_zero.1 this with h|h<;>omega
  split at ho
  ·simp only [Ieee.Datum.order,aC] at ho
   have:=key _ _ _ ho
   omega
  ·split at ho
   ·simp only [Ieee.Datum.order,aC] at ho
    have h9:∀ b,Ieee.signed false 0 b=Ieee.signed false 0 0:=λ b=>by simp [Ieee.signed]
    rw [h9] at ho
    have:=key _ _ _ ho
    omega
   ·split at ho
    ·simp [Ieee.Datum.order] at ho
     split at ho<;>simp at ho
    ·simp [Ieee.Datum.order] at ho
 ·rintro (rfl|rfl)<;>decide +kernel
theorem zEe:bin .quo (.flt .f64 4607182418800017408) (.flt .f64 0)=some (.flt .f64 9218868437227405312):=by rfl
theorem zEf:bin .quo (.flt .f64 4607182418800017408) (.flt .f64 9223372036854775808)=some (.flt .f64 18442240474082181120):=by rfl
theorem zDz:FloatKind.f64.format.order 0 0=some .eq:=by decide +kernel
theorem zDA:FloatKind.f64.format.order 9223372036854775808 0=some .eq:=by decide +kernel
theorem zEc:FloatKind.f64.format.order 9218868437227405312 0=some .gt:=by decide +kernel
theorem zEb:FloatKind.f64.format.order 18442240474082181120 0=some .lt:=by decide +kernel
def YS (v:yo):Prop:=YT v/\¬v.Kind=5/\¬v.Kind=6/\¬v.Kind=7/\(v.Kind=3->FloatKind.f64.format.order v.Flt v.Flt=some .eq)/\(¬v.Kind=3->v.Flt=0)
theorem zsl {v:yo} (hv:YT v) (h3:¬v.Kind=3):FloatKind.f64.format.order v.Flt 0=some .eq:=by
 unfold YT U6 at hv
 by_cases h0:v.Kind=0
 ·simp only [h0,if_true] at hv;simpa using hv.2.1
 by_cases h1:v.Kind=1
 ·simp only [h0,h1,if_true,if_false] at hv;simpa using hv.1.2.1
 by_cases h2:v.Kind=2
 ·simp only [h0,h1,h2,if_true,if_false] at hv;simpa using hv.2.1
 by_cases h4:v.Kind=4
 ·simp only [h0,h1,h2,h3,h4,if_true,if_false] at hv;simpa using hv.1.2.1
 by_cases h5:v.Kind=5\/v.Kind=6\/v.Kind=7
 ·simp only [h0,h1,h2,h3,h4,h5,if_true,if_false] at hv;simpa using hv.1.2.1
 by_cases h8:v.Kind=8
 ·simp only [h0,h1,h2,h3,h4,h5,h8,if_true,if_false] at hv;simpa using hv.1.2.1
 simp only [h0,h1,h2,h3,h4,h5,h8,if_false] at hv
theorem zhC (v:yo) (hf:v.Flt<2 ^ 64):EP A zb6 [.agg v.cells]=some (.bool (decide (YS v))):=by
 have hz:=zsQ v
 simp only [yo.cells] at hz
 by_cases hv:YT v
 ·by_cases h5:v.Kind=5
  ·simp only [hv,h5] at hz
   simp -implicitDefEqProofs +contextual (disch:=omega) only [uj,um,vZ,yo.cells,YS, ↓XD,XU, ↓reduceIte,sevalprocAttr,hz,hv,h5]
   try simp
  by_cases h6:v.Kind=6
  ·simp only [hv,h6] at hz
   simp -implicitDefEqProofs +contextual (disch:=omega) only [uj,um,vZ,yo.cells,YS, ↓XD,XU, ↓reduceIte,sevalprocAttr,hz,hv,h6]
   try simp
  by_cases h7:v.Kind=7
  ·simp only [hv,h7] at hz
   simp -implicitDefEqProofs +contextual (disch:=omega) only [uj,um,vZ,yo.cells,YS, ↓XD,XU, ↓reduceIte,sevalprocAttr,hz,hv,h7]
   try simp
  by_cases h3:v.Kind=3
  ·simp only [hv,h3] at hz
   simp -implicitDefEqProofs +contextual (disch:=omega) only [uj,um,vZ,yo.cells,YS, ↓XD,XU, ↓reduceIte,sevalprocAttr,hz,hv,h3]
   try simp
  ·rcases (zk6 hf).1 (zsl hv h3) with h|h
   ·simp only [hv,h] at hz
    simp -implicitDefEqProofs +contextual (disch:=omega) only [uj,um,vZ,yo.cells,YS, ↓XD,XU, ↓reduceIte,sevalprocAttr,hz,hv,h3,h5,h6,h7,h,zEe,zDz,zEc]
    try simp
   ·simp only [hv,h] at hz
    simp -implicitDefEqProofs +contextual (disch:=omega) only [uj,um,vZ,yo.cells,YS, ↓XD,XU, ↓reduceIte,sevalprocAttr,hz,hv,h3,h5,h6,h7,h,zEf,zDA,zEb]
    try simp
 ·simp only [hv] at hz
  simp -implicitDefEqProofs +contextual (disch:=omega) only [uj,um,vZ,yo.cells,YS, ↓XD,XU, ↓reduceIte,sevalprocAttr,hz,hv]
theorem zkB (x:Nat):EP A zeO [.flt .f64 x]=some (.bool (decide (IntKind.i64.wrap x<0))):=by
 simp -implicitDefEqProofs +contextual (disch:=omega) only [zmv,znd,zlm, ↓XD,XU, ↓reduceIte,sevalprocAttr]
theorem sb0:¬IntKind.i64.wrap ((0:Nat):Int)<0:=by decide
theorem sb1:IntKind.i64.wrap ((9223372036854775808:Nat):Int)<0:=by decide
theorem yY (a b c:Int):EP A zeR [.int .i64 a,.int .i64 b,.int .i64 c]=some (.agg [.int .i64 a,.int .i64 b,.int .i64 c]):=by
 simp -implicitDefEqProofs +contextual (disch:=omega) only [zmw,zne,zln, ↓XD,XU, ↓reduceIte,sevalprocAttr]
def ja (f:zc):Int:=if f.Rest then f.Regs-1 else f.Regs
def jL (f:zc) (p:Int):Prop:=((((((f.Name.size:Int)<=40/\0<=f.Line/\f.Line<=100000)/\0<=f.Regs/\f.Regs<=250)/\0<=f.Params/\f.Params<=ja f)/\(f.Ups.length:Int)<=250)/\(f.Consts.length:Int)<=500)/\(0<p\/f.Params=0/\f.Ups.length=0)
theorem zi5 (ps:List zc) (p:Int) (p0:0<=p) (p1:p<ps.length) (hb:ps.length<=1048576) (hu:(za ps p).Ups.length<=1048576) (hc:(za ps p).Consts.length<=1048576):EP A zc9 [code ps,.int .i64 p]=some (.bool (decide (jL (za ps p) p))):=by
 have e0:((za ps p).Ups.length:Int)=0↔(za ps p).Ups.length=0:=by omega
 by_cases hr:(za ps p).Rest
 ·by_cases hA:(((((za ps p).Name.size:Int)<=40/\0<=(za ps p).Line/\(za ps p).Line<=100000)/\0<=(za ps p).Regs/\(za ps p).Regs<=250)/\0<=(za ps p).Params/\(za ps p).Params<=(za ps p).Regs-1)
  ·by_cases hq:0<p
   ·simp -implicitDefEqProofs +contextual (disch:=omega) only [v8,ub,vD,code,zb,zc.cells,ups,ze,zj,zm,xB,jL,ja, ↓XD,XU, ↓reduceIte,sevalprocAttr,hr,hA,hq]
   ·by_cases hP:(za ps p).Params=0
    ·simp -implicitDefEqProofs +contextual (disch:=omega) only [v8,ub,vD,code,zb,zc.cells,ups,ze,zj,zm,xB,jL,ja, ↓XD,XU, ↓reduceIte,sevalprocAttr,hr,hA,hq,hP,e0]
    ·simp -implicitDefEqProofs +contextual (disch:=omega) only [v8,ub,vD,code,zb,zc.cells,ups,ze,zj,zm,xB,jL,ja, ↓XD,XU, ↓reduceIte,sevalprocAttr,hr,hA,hq,hP,e0]
  ·simp -implicitDefEqProofs +contextual (disch:=omega) only [v8,ub,vD,code,zb,zc.cells,ups,ze,zj,zm,xB,jL,ja, ↓XD,XU, ↓reduceIte,sevalprocAttr,hr,hA]
 ·by_cases hA:(((((za ps p).Name.size:Int)<=40/\0<=(za ps p).Line/\(za ps p).Line<=100000)/\0<=(za ps p).Regs/\(za ps p).Regs<=250)/\0<=(za ps p).Params/\(za ps p).Params<=(za ps p).Regs)
  ·by_cases hq:0<p
   ·simp -implicitDefEqProofs +contextual (disch:=omega) only [v8,ub,vD,code,zb,zc.cells,ups,ze,zj,zm,xB,jL,ja, ↓XD,XU, ↓reduceIte,sevalprocAttr,hr,hA,hq]
   ·by_cases hP:(za ps p).Params=0
    ·simp -implicitDefEqProofs +contextual (disch:=omega) only [v8,ub,vD,code,zb,zc.cells,ups,ze,zj,zm,xB,jL,ja, ↓XD,XU, ↓reduceIte,sevalprocAttr,hr,hA,hq,hP,e0]
    ·simp -implicitDefEqProofs +contextual (disch:=omega) only [v8,ub,vD,code,zb,zc.cells,ups,ze,zj,zm,xB,jL,ja, ↓XD,XU, ↓reduceIte,sevalprocAttr,hr,hA,hq,hP,e0]
  ·simp -implicitDefEqProofs +contextual (disch:=omega) only [v8,ub,vD,code,zb,zc.cells,ups,ze,zj,zm,xB,jL,ja, ↓XD,XU, ↓reduceIte,sevalprocAttr,hr,hA]
def zjJ (p:zc) (n:xz) (i:Int):Prop:=i<500/\(1<=(n.Name.size:Int)/\(n.Name.size:Int)<=40)/\(0<=n.Reg/\n.Reg<=p.Regs-1)/\0<=n.From/\n.From<=n.To/\n.To<=p.Ins.length
theorem zhD (p:zc) (i:Int) (hp:WL p) (i0:0<=i) (i1:i<p.Named.length):EP A zb7 [.agg p.cells,.int .i64 i]=some (.bool (decide (zjJ p (za p.Named i) i))):=by
 have:=hp.n
 have:=hp.i
 have:=hp.r1
 have:=hp.r0
 simp -implicitDefEqProofs +contextual (disch:=omega) only [zjN,zka,ziO,zc.cells,ups,ze,zj,zm,xz.cells,xB,zjJ, ↓XD,XU, ↓reduceIte,sevalprocAttr]
 rw [aC,PV.bool.injEq,bP];simp [and_assoc]
def UpP (p:zc) (u:Up):Prop:=if u.Local then 0<=u.Index/\u.Index<=p.Regs-1 else 0<=u.Index/\u.Index<=(p.Ups.length:Int)-1
theorem zxA (ps:List zc) (p g:Int) (l:List Up) (p0:0<=p) (p1:p<ps.length) (hb:ps.length<=1048576) (h:WL (za ps p)) (hl:l.length<=1048576):match z9 (λ (j:Int)=>¬UpP (za ps p) (za l j)) 0 l.length with|some j=>∃ st,EV A (.loop (VG 0)) (⟨[(0,code ps),(1,.int .i64 p),(2,.int .i64 g),(3,.ptr 0 0 0 1),(6,.bool false),(14,ups l),(15,.int .i64 l.length),(16,.int .i64 (0))],[],[.cells 1 [[zb ps]]],[]⟩:St)=some (.ret,st)/\st.per.get 6=.bool false|none=>EV A (.loop (VG 0)) (⟨[(0,code ps),(1,.int .i64 p),(2,.int .i64 g),(3,.ptr 0 0 0 1),(6,.bool false),(14,ups l),(15,.int .i64 l.length),(16,.int .i64 (0))],[],[.cells 1 [[zb ps]]],[]⟩:St)=some (zp.exit 0,(⟨[(0,code ps),(1,.int .i64 p),(2,.int .i64 g),(3,.ptr 0 0 0 1),(6,.bool false),(14,ups l),(15,.int .i64 l.length),(16,.int .i64 (l.length))],[],[.cells 1 [[zb ps]]],[]⟩:St)):=by
 refine yr (λ i=>(⟨[(0,code ps),(1,.int .i64 p),(2,.int .i64 g),(3,.ptr 0 0 0 1),(6,.bool false),(14,ups l),(15,.int .i64 l.length),(16,.int .i64 i)],[],[.cells 1 [[zb ps]]],[]⟩:St)) (λ (j:Int)=>¬UpP (za ps p) (za l j)) (λ (j:Int) (st:St)=>st.per.get 6=.bool false) (zp.exit 0,(⟨[(0,code ps),(1,.int .i64 p),(2,.int .i64 g),(3,.ptr 0 0 0 1),(6,.bool false),(14,ups l),(15,.int .i64 l.length),(16,.int .i64 (l.length))],[],[.cells 1 [[zb ps]]],[]⟩:St)) (0) (l.length) ?_ ?_ ?_ (0) (by omega) (by omega)
 ·intro i hi hn hp
  try simp only [aP] at hp
  have g1:=h.r0;have g2:=h.r1;have g3:=h.u
  simp only [UpP] at hp
  by_cases hL:(za l i).Local=true
  ·try simp only [hL,if_true,if_false,bG] at hp
   refine ⟨_,by simp -implicitDefEqProofs +contextual (disch:=omega) only [kD,uG, ↓XD,XU, ↓reduceIte,sevalprocAttr,code,zb,ups,Up.cells,UpP,xB,hL,hn,hp];rfl,by first|(simp [St.next,zT,hL];done)|(simp [St.next,zT,hL];omega)|(simp [St.next,trim,bare,zn,refs,hL];done)⟩
  ·try simp only [hL,if_true,if_false,bG] at hp
   refine ⟨_,by simp -implicitDefEqProofs +contextual (disch:=omega) only [kD,uG, ↓XD,XU, ↓reduceIte,sevalprocAttr,code,zb,ups,Up.cells,UpP,xB,hL,hn,hp];rfl,by first|(simp [St.next,zT,hL];done)|(simp [St.next,zT,hL];omega)|(simp [St.next,trim,bare,zn,refs,hL];done)⟩
 ·intro i hi hn hp
  have g1:=h.r0;have g2:=h.r1;have g3:=h.u
  simp only [UpP] at hp
  by_cases hL:(za l i).Local=true
  ·try simp only [hL,if_true,if_false,bG] at hp
   refine ⟨_,by simp -implicitDefEqProofs +contextual (disch:=omega) only [kD,uG, ↓XD,XU, ↓reduceIte,sevalprocAttr,code,zb,ups,Up.cells,UpP,xB,hL,hn,hp];rfl,by simp [yf,zk.get,zk.put]⟩
  ·try simp only [hL,if_true,if_false,bG] at hp
   refine ⟨_,by simp -implicitDefEqProofs +contextual (disch:=omega) only [kD,uG, ↓XD,XU, ↓reduceIte,sevalprocAttr,code,zb,ups,Up.cells,UpP,xB,hL,hn,hp];rfl,by simp [yf,zk.get,zk.put]⟩
 ·rintro i hi rfl
  refine ⟨by simp -implicitDefEqProofs +contextual (disch:=omega) only [kD,uG, ↓XD,XU, ↓reduceIte,sevalprocAttr,code,zb,ups,Up.cells,UpP,xB,aL],by simp⟩
def zfJ (p:zc) (l:List Up):Prop:=z9 (λ j=>¬UpP p (za l j)) 0 l.length=none
theorem zsS (ps:List zc) (p g:Int) (p0:0<=p) (p1:p<ps.length) (hb:ps.length<=1048576) (h:WL (za ps p)) (g0:0<=g) (g1:g<ps.length) (hl:(za ps g).Ups.length<=1048576):EP A zeW [code ps,.int .i64 p,.int .i64 g]=some (.bool (decide (zfJ (za ps p) (za ps g).Ups))):=by
 have hlp:=zxA ps p g (za ps g).Ups p0 p1 hb h hl
 unfold zfJ
 by_cases hk:z9 (λ j=>¬UpP (za ps p) (za (za ps g).Ups j)) 0 (za ps g).Ups.length=none
 ·rw [hk] at hlp
  simp only [code,zb,ups] at hlp
  simp -implicitDefEqProofs +contextual (disch:=omega) only [zeo,ze_,uG,code,zb,zc.cells,ups,ze,zj,zm, ↓XD,XU, ↓reduceIte,sevalprocAttr,hlp,hk]
 ·obtain ⟨j,hj⟩:=bN.1 hk
  rw [hj] at hlp
  obtain ⟨st,hlp,hg⟩:=hlp
  simp only [code,zb,ups] at hlp
  simp -implicitDefEqProofs +contextual (disch:=omega) only [zeo,ze_,uG,code,zb,zc.cells,ups,ze,zj,zm, ↓XD,XU, ↓reduceIte,sevalprocAttr,hlp,hg,hk]
abbrev wD (c f n:Int):List PV:=[.int .i64 c,.int .i64 f,.int .i64 n]
abbrev fl3 (p:Int×Int×Int):PV:=.agg (wD p.1 p.2.1 p.2.2)
abbrev hU (ps:List zc):zd:=[.cells 1 [[zb ps]],.cells 3 [[.int .i64 0,.int .i64 0,.int .i64 0]]]
abbrev hP (ps:List zc) (f:zc):zd:=[.cells 1 [[zb ps]],.cells 3 [[.int .i64 0,.int .i64 0,.int .i64 0]],.cells 9 [f.cells]]
def w9 (ps:List zc):Int:=((ps.map λ f=>f.Ins.length).sum:Nat)
def vb (ps:List zc) (n:Nat):Int:=(((ps.take n).map λ f=>f.Ins.length).sum:Nat)
theorem zju (fs:List zc) {i:Int} (h0:0<=i) (h1:i<fs.length):vb fs i.toNat+(za fs i).Ins.length=vb fs (i+1).toNat:=by
 have h:i.toNat<fs.length:=by omega
 have e:(i+1).toNat=i.toNat+1:=by omega
 rw [vb,vb,e,List.take_succ_eq_append_getElem h,dU,List.sum_append]
 have:za fs i=fs[i.toNat]:=by
  have:=xX h0 h1
  rw [aE h] at this
  exact (dD this).symm
 rw [this];simp
theorem zdd (fs:List zc) (n:Nat):0<=vb fs n/\vb fs n<=w9 fs:=by
 refine ⟨by simp [vb],?_⟩
 rw [vb,w9,List.map_take]
 have:=(List.take_append_drop n (fs.map λ f=>f.Ins.length))
 have h2:(fs.map λ f=>f.Ins.length).sum=((fs.map λ f=>f.Ins.length).take n).sum+((fs.map λ f=>f.Ins.length).drop n).sum:=by rw [<-List.sum_append,this]
 omega
structure zfI (q:zc):Prop where
 u:q.Ups.length<=1048576
 c:q.Consts.length<=1048576
 i:q.Ins.length<=1048576
 n:q.Named.length<=1048576
 f:∀ k:Int,(za q.Consts k).Flt<2 ^ 64
 x:∀ k j:Int, -9223372036854775808<=za [(za q.Ins k).A,(za q.Ins k).B,(za q.Ins k).C,(za q.Ins k).D] j/\za [(za q.Ins k).A,(za q.Ins k).B,(za q.Ins k).C,(za q.Ins k).D] j<9223372036854775808
abbrev vz (ps:List zc):Prop:=∀ p:Int,zfI (za ps p)
theorem jL.pok {f:zc} {p:Int} (h:jL f p) (hs:zfI f):WL f:=⟨h.1.1.1.1.2.1,h.1.1.1.1.2.2,hs.u,hs.c,hs.i,hs.n⟩
theorem zDn (ps:List zc) (hb:ps.length<=1048576) (ht:w9 ps<=1048576) (a0:Int) (hok0:a0=vb ps ((0):Int).toNat):EV A (.loop (yy 0)) (⟨[(0,code ps),(1,.ptr 0 0 0 1),(2,.ptr 1 0 0 1),(3,.int .i64 a0),(18,zb ps),(19,.int .i64 ps.length),(20,.int .i64 (0))],[],hU ps,[]⟩:St)=some (zp.exit 0,(⟨[(0,code ps),(1,.ptr 0 0 0 1),(2,.ptr 1 0 0 1),(3,.int .i64 (iter (λ (i:Int) (a:Int)=>vb ps (i+1).toNat) ((ps.length:Int)-0).toNat (0) a0)),(18,zb ps),(19,.int .i64 ps.length),(20,.int .i64 (ps.length))],[],hU ps,[]⟩:St))/\(iter (λ (i:Int) (a:Int)=>vb ps (i+1).toNat) ((ps.length:Int)-0).toNat (0) a0)=vb ps ((ps.length):Int).toNat:=by
 refine vC (λ i (a:Int)=>(⟨[(0,code ps),(1,.ptr 0 0 0 1),(2,.ptr 1 0 0 1),(3,.int .i64 a),(18,zb ps),(19,.int .i64 ps.length),(20,.int .i64 i)],[],hU ps,[]⟩:St)) (λ (i:Int) (a:Int)=>vb ps (i+1).toNat) (λ i (a:Int)=>a=vb ps (i:Int).toNat) (λ a=>(zp.exit 0,(⟨[(0,code ps),(1,.ptr 0 0 0 1),(2,.ptr 1 0 0 1),(3,.int .i64 a),(18,zb ps),(19,.int .i64 ps.length),(20,.int .i64 (ps.length))],[],hU ps,[]⟩:St))) (0) (ps.length) ?_ ?_ (0) a0 (by omega) (by omega) hok0
 ·intro i a hi hn hok
  have hs:=zju ps hi hn;have hs2:=zdd ps i.toNat;have hs3:=zdd ps (i+1).toNat
  refine ⟨⟨_,by simp -implicitDefEqProofs +contextual (disch:=omega) only [zba,yc, ↓XD,XU, ↓reduceIte,sevalprocAttr,hU,code,zb,zc.cells,zj,hs,hn,hok];rfl,by first|(simp [St.next,zT];done)|(simp [St.next,zT];omega)|(simp [St.next,trim,bare,zn,refs];done)⟩,by rfl⟩
 ·rintro i a hi rfl hok
  refine ⟨by simp -implicitDefEqProofs +contextual (disch:=omega) only [zba,yc, ↓XD,XU, ↓reduceIte,sevalprocAttr,hU,code,zb,zc.cells,zj,aL,hok],by simp⟩
theorem zDo (ps:List zc) (t:Int) (hb:ps.length<=1048576) (hs:vz ps):match z9 (λ (j:Int)=>¬jL (za ps j) j) 0 ps.length with|some j=>∃ st,EV A (.loop (yy 1)) (⟨[(0,code ps),(1,.ptr 0 0 0 1),(2,.ptr 1 0 0 1),(3,.int .i64 t),(18,zb ps),(19,.int .i64 ps.length),(20,.int .i64 ps.length),(47,.int .i64 ps.length),(48,.int .i64 (0))],[],hU ps,[]⟩:St)=some (.ret,st)/\yf 2 1 3 (wD 2 j 0) st|none=>EV A (.loop (yy 1)) (⟨[(0,code ps),(1,.ptr 0 0 0 1),(2,.ptr 1 0 0 1),(3,.int .i64 t),(18,zb ps),(19,.int .i64 ps.length),(20,.int .i64 ps.length),(47,.int .i64 ps.length),(48,.int .i64 (0))],[],hU ps,[]⟩:St)=some (zp.exit 2,(⟨[(0,code ps),(1,.ptr 0 0 0 1),(2,.ptr 1 0 0 1),(3,.int .i64 t),(18,zb ps),(19,.int .i64 ps.length),(20,.int .i64 ps.length),(47,.int .i64 ps.length),(48,.int .i64 (ps.length))],[],hU ps,[]⟩:St)):=by
 refine yr (λ i=>(⟨[(0,code ps),(1,.ptr 0 0 0 1),(2,.ptr 1 0 0 1),(3,.int .i64 t),(18,zb ps),(19,.int .i64 ps.length),(20,.int .i64 ps.length),(47,.int .i64 ps.length),(48,.int .i64 i)],[],hU ps,[]⟩:St)) (λ (j:Int)=>¬jL (za ps j) j) (λ (j:Int) (st:St)=>yf 2 1 3 (wD 2 j 0) st) (zp.exit 2,(⟨[(0,code ps),(1,.ptr 0 0 0 1),(2,.ptr 1 0 0 1),(3,.int .i64 t),(18,zb ps),(19,.int .i64 ps.length),(20,.int .i64 ps.length),(47,.int .i64 ps.length),(48,.int .i64 (ps.length))],[],hU ps,[]⟩:St)) (0) (ps.length) ?_ ?_ ?_ (0) (by omega) (by omega)
 ·intro i hi hn hp
  try simp only [aP] at hp
  have hh:=zi5 ps i hi hn hb (hs i).u (hs i).c
  refine ⟨_,by simp -implicitDefEqProofs +contextual (disch:=omega) only [UK,yc, ↓XD,XU, ↓reduceIte,sevalprocAttr,hU,code,zb,yY,hh,hn,hp];rfl,by first|(simp [St.next,zT];done)|(simp [St.next,zT];omega)|(simp [St.next,trim,bare,zn,refs];done)⟩
 ·intro i hi hn hp
  have hh:=zi5 ps i hi hn hb (hs i).u (hs i).c
  refine ⟨_,by simp -implicitDefEqProofs +contextual (disch:=omega) only [UK,yc, ↓XD,XU, ↓reduceIte,sevalprocAttr,hU,code,zb,yY,hh,hn,hp];rfl,by simp [yf,zk.get,zk.put]⟩
 ·rintro i hi rfl
  refine ⟨by simp -implicitDefEqProofs +contextual (disch:=omega) only [UK,yc, ↓XD,XU, ↓reduceIte,sevalprocAttr,hU,code,zb,yY,aL],by simp⟩
theorem zyZ (ps:List zc) (t fi:Int) (f:zc) (hb:ps.length<=1048576) (hs:zfI f):match z9 (λ (j:Int)=>¬YS (za f.Consts j)) 0 f.Consts.length with|some j=>∃ st,EV A (.loop (yy 3)) (⟨[(0,code ps),(1,.ptr 0 0 0 1),(2,.ptr 1 0 0 1),(3,.int .i64 t),(18,zb ps),(19,.int .i64 ps.length),(20,.int .i64 ps.length),(47,.int .i64 ps.length),(48,.int .i64 ps.length),(59,zb ps),(60,.int .i64 ps.length),(61,.int .i64 fi),(8,.ptr 2 0 0 1),(7,.int .i64 fi),(67,ze f.Consts),(68,.int .i64 f.Consts.length),(69,.int .i64 (0))],[],hP ps f,[]⟩:St)=some (.ret,st)/\yf 2 1 3 (wD 3 fi j) st|none=>EV A (.loop (yy 3)) (⟨[(0,code ps),(1,.ptr 0 0 0 1),(2,.ptr 1 0 0 1),(3,.int .i64 t),(18,zb ps),(19,.int .i64 ps.length),(20,.int .i64 ps.length),(47,.int .i64 ps.length),(48,.int .i64 ps.length),(59,zb ps),(60,.int .i64 ps.length),(61,.int .i64 fi),(8,.ptr 2 0 0 1),(7,.int .i64 fi),(67,ze f.Consts),(68,.int .i64 f.Consts.length),(69,.int .i64 (0))],[],hP ps f,[]⟩:St)=some (zp.exit 6,(⟨[(0,code ps),(1,.ptr 0 0 0 1),(2,.ptr 1 0 0 1),(3,.int .i64 t),(18,zb ps),(19,.int .i64 ps.length),(20,.int .i64 ps.length),(47,.int .i64 ps.length),(48,.int .i64 ps.length),(59,zb ps),(60,.int .i64 ps.length),(61,.int .i64 fi),(8,.ptr 2 0 0 1),(7,.int .i64 fi),(67,ze f.Consts),(68,.int .i64 f.Consts.length),(69,.int .i64 (f.Consts.length))],[],hP ps f,[]⟩:St)):=by
 refine yr (λ i=>(⟨[(0,code ps),(1,.ptr 0 0 0 1),(2,.ptr 1 0 0 1),(3,.int .i64 t),(18,zb ps),(19,.int .i64 ps.length),(20,.int .i64 ps.length),(47,.int .i64 ps.length),(48,.int .i64 ps.length),(59,zb ps),(60,.int .i64 ps.length),(61,.int .i64 fi),(8,.ptr 2 0 0 1),(7,.int .i64 fi),(67,ze f.Consts),(68,.int .i64 f.Consts.length),(69,.int .i64 i)],[],hP ps f,[]⟩:St)) (λ (j:Int)=>¬YS (za f.Consts j)) (λ (j:Int) (st:St)=>yf 2 1 3 (wD 3 fi j) st) (zp.exit 6,(⟨[(0,code ps),(1,.ptr 0 0 0 1),(2,.ptr 1 0 0 1),(3,.int .i64 t),(18,zb ps),(19,.int .i64 ps.length),(20,.int .i64 ps.length),(47,.int .i64 ps.length),(48,.int .i64 ps.length),(59,zb ps),(60,.int .i64 ps.length),(61,.int .i64 fi),(8,.ptr 2 0 0 1),(7,.int .i64 fi),(67,ze f.Consts),(68,.int .i64 f.Consts.length),(69,.int .i64 (f.Consts.length))],[],hP ps f,[]⟩:St)) (0) (f.Consts.length) ?_ ?_ ?_ (0) (by omega) (by omega)
 ·intro i hi hn hp
  try simp only [aP] at hp
  have hh:=zhC (za f.Consts i) (hs.f i);have hc:=hs.c;simp only [yo.cells] at hh
  refine ⟨_,by simp -implicitDefEqProofs +contextual (disch:=omega) only [UM,yc, ↓XD,XU, ↓reduceIte,sevalprocAttr,hP,code,zb,zc.cells,ze,yo.cells,yY,hh,hn,hp];rfl,by first|(simp [St.next,zT];done)|(simp [St.next,zT];omega)|(simp [St.next,trim,bare,zn,refs];done)⟩
 ·intro i hi hn hp
  have hh:=zhC (za f.Consts i) (hs.f i);have hc:=hs.c;simp only [yo.cells] at hh
  refine ⟨_,by simp -implicitDefEqProofs +contextual (disch:=omega) only [UM,yc, ↓XD,XU, ↓reduceIte,sevalprocAttr,hP,code,zb,zc.cells,ze,yo.cells,yY,hh,hn,hp];rfl,by simp [yf,zk.get,zk.put]⟩
 ·rintro i hi rfl
  refine ⟨by simp -implicitDefEqProofs +contextual (disch:=omega) only [UM,yc, ↓XD,XU, ↓reduceIte,sevalprocAttr,hP,code,zb,zc.cells,ze,yo.cells,yY,aL],by simp⟩
noncomputable abbrev uz (ps:List zc) (p:Int):Option Int:=z9 (λ k=>¬YS (za (za ps p).Consts k)) 0 (za ps p).Consts.length
theorem zDp (ps:List zc) (t:Int) (hb:ps.length<=1048576) (hs:vz ps):match z9 (λ (j:Int)=>uz ps j≠none) 0 ps.length with|some j=>∃ st,EV A (.loop (yy 2)) (⟨[(0,code ps),(1,.ptr 0 0 0 1),(2,.ptr 1 0 0 1),(3,.int .i64 t),(18,zb ps),(19,.int .i64 ps.length),(20,.int .i64 ps.length),(47,.int .i64 ps.length),(48,.int .i64 ps.length),(59,zb ps),(60,.int .i64 ps.length),(61,.int .i64 (0))],[],hU ps,[]⟩:St)=some (.ret,st)/\yf 2 1 3 (wD 3 j ((uz ps j).getD 0)) st|none=>EV A (.loop (yy 2)) (⟨[(0,code ps),(1,.ptr 0 0 0 1),(2,.ptr 1 0 0 1),(3,.int .i64 t),(18,zb ps),(19,.int .i64 ps.length),(20,.int .i64 ps.length),(47,.int .i64 ps.length),(48,.int .i64 ps.length),(59,zb ps),(60,.int .i64 ps.length),(61,.int .i64 (0))],[],hU ps,[]⟩:St)=some (zp.exit 4,(⟨[(0,code ps),(1,.ptr 0 0 0 1),(2,.ptr 1 0 0 1),(3,.int .i64 t),(18,zb ps),(19,.int .i64 ps.length),(20,.int .i64 ps.length),(47,.int .i64 ps.length),(48,.int .i64 ps.length),(59,zb ps),(60,.int .i64 ps.length),(61,.int .i64 (ps.length))],[],hU ps,[]⟩:St)):=by
 refine yr (λ i=>(⟨[(0,code ps),(1,.ptr 0 0 0 1),(2,.ptr 1 0 0 1),(3,.int .i64 t),(18,zb ps),(19,.int .i64 ps.length),(20,.int .i64 ps.length),(47,.int .i64 ps.length),(48,.int .i64 ps.length),(59,zb ps),(60,.int .i64 ps.length),(61,.int .i64 i)],[],hU ps,[]⟩:St)) (λ (j:Int)=>uz ps j≠none) (λ (j:Int) (st:St)=>yf 2 1 3 (wD 3 j ((uz ps j).getD 0)) st) (zp.exit 4,(⟨[(0,code ps),(1,.ptr 0 0 0 1),(2,.ptr 1 0 0 1),(3,.int .i64 t),(18,zb ps),(19,.int .i64 ps.length),(20,.int .i64 ps.length),(47,.int .i64 ps.length),(48,.int .i64 ps.length),(59,zb ps),(60,.int .i64 ps.length),(61,.int .i64 (ps.length))],[],hU ps,[]⟩:St)) (0) (ps.length) ?_ ?_ ?_ (0) (by omega) (by omega)
 ·intro i hi hn hp
  try simp only [aP] at hp
  have hl:=zyZ ps t i (za ps i) hb (hs i)
  have hp':uz ps i=none:=(by simpa using hp);unfold uz at hp';rw [hp'] at hl
  refine ⟨_,by simp -implicitDefEqProofs +contextual (disch:=omega) only [UL,yc, ↓XD,XU, ↓reduceIte,sevalprocAttr,hU,hP,code,zb,zc.cells,ze,ups,zj,zm,hl,hn,hp];rfl,by first|(simp [St.next,zT];done)|(simp [St.next,zT];omega)|(simp [St.next,trim,bare,zn,refs];done)⟩
 ·intro i hi hn hp
  have hl:=zyZ ps t i (za ps i) hb (hs i)
  obtain ⟨k,hk⟩:=bN.1 hp;unfold uz at hk;rw [hk] at hl;obtain ⟨st,hl,hg⟩:=hl
  refine ⟨_,by simp -implicitDefEqProofs +contextual (disch:=omega) only [UL,yc, ↓XD,XU, ↓reduceIte,sevalprocAttr,hU,hP,code,zb,zc.cells,ze,ups,zj,zm,hl,hn,hp];rfl,by unfold uz;rw [hk];exact hg⟩
 ·rintro i hi rfl
  refine ⟨by simp -implicitDefEqProofs +contextual (disch:=omega) only [UL,yc, ↓XD,XU, ↓reduceIte,sevalprocAttr,hU,hP,code,zb,zc.cells,ze,ups,zj,zm,aL],by simp⟩
theorem zy0 (ps:List zc) (t fi:Int) (f:zc) (hb:ps.length<=1048576) (hs:WL f):match z9 (λ (j:Int)=>¬zjJ f (za f.Named j) j) 0 f.Named.length with|some j=>∃ st,EV A (.loop (yy 5)) (⟨[(0,code ps),(1,.ptr 0 0 0 1),(2,.ptr 1 0 0 1),(3,.int .i64 t),(18,zb ps),(19,.int .i64 ps.length),(20,.int .i64 ps.length),(47,.int .i64 ps.length),(48,.int .i64 ps.length),(59,zb ps),(60,.int .i64 ps.length),(61,.int .i64 ps.length),(83,zb ps),(84,.int .i64 ps.length),(85,.int .i64 fi),(12,.ptr 2 0 0 1),(11,.int .i64 fi),(92,.int .i64 f.Named.length),(93,.int .i64 (0))],[],hP ps f,[]⟩:St)=some (.ret,st)/\yf 2 1 3 (wD 4 fi j) st|none=>EV A (.loop (yy 5)) (⟨[(0,code ps),(1,.ptr 0 0 0 1),(2,.ptr 1 0 0 1),(3,.int .i64 t),(18,zb ps),(19,.int .i64 ps.length),(20,.int .i64 ps.length),(47,.int .i64 ps.length),(48,.int .i64 ps.length),(59,zb ps),(60,.int .i64 ps.length),(61,.int .i64 ps.length),(83,zb ps),(84,.int .i64 ps.length),(85,.int .i64 fi),(12,.ptr 2 0 0 1),(11,.int .i64 fi),(92,.int .i64 f.Named.length),(93,.int .i64 (0))],[],hP ps f,[]⟩:St)=some (zp.exit 10,(⟨[(0,code ps),(1,.ptr 0 0 0 1),(2,.ptr 1 0 0 1),(3,.int .i64 t),(18,zb ps),(19,.int .i64 ps.length),(20,.int .i64 ps.length),(47,.int .i64 ps.length),(48,.int .i64 ps.length),(59,zb ps),(60,.int .i64 ps.length),(61,.int .i64 ps.length),(83,zb ps),(84,.int .i64 ps.length),(85,.int .i64 fi),(12,.ptr 2 0 0 1),(11,.int .i64 fi),(92,.int .i64 f.Named.length),(93,.int .i64 (f.Named.length))],[],hP ps f,[]⟩:St)):=by
 refine yr (λ i=>(⟨[(0,code ps),(1,.ptr 0 0 0 1),(2,.ptr 1 0 0 1),(3,.int .i64 t),(18,zb ps),(19,.int .i64 ps.length),(20,.int .i64 ps.length),(47,.int .i64 ps.length),(48,.int .i64 ps.length),(59,zb ps),(60,.int .i64 ps.length),(61,.int .i64 ps.length),(83,zb ps),(84,.int .i64 ps.length),(85,.int .i64 fi),(12,.ptr 2 0 0 1),(11,.int .i64 fi),(92,.int .i64 f.Named.length),(93,.int .i64 i)],[],hP ps f,[]⟩:St)) (λ (j:Int)=>¬zjJ f (za f.Named j) j) (λ (j:Int) (st:St)=>yf 2 1 3 (wD 4 fi j) st) (zp.exit 10,(⟨[(0,code ps),(1,.ptr 0 0 0 1),(2,.ptr 1 0 0 1),(3,.int .i64 t),(18,zb ps),(19,.int .i64 ps.length),(20,.int .i64 ps.length),(47,.int .i64 ps.length),(48,.int .i64 ps.length),(59,zb ps),(60,.int .i64 ps.length),(61,.int .i64 ps.length),(83,zb ps),(84,.int .i64 ps.length),(85,.int .i64 fi),(12,.ptr 2 0 0 1),(11,.int .i64 fi),(92,.int .i64 f.Named.length),(93,.int .i64 (f.Named.length))],[],hP ps f,[]⟩:St)) (0) (f.Named.length) ?_ ?_ ?_ (0) (by omega) (by omega)
 ·intro i hi hn hp
  try simp only [aP] at hp
  have hh:=zhD f i hs hi hn;have hc:=hs.n;simp only [zc.cells,ups,ze,zj,zm] at hh
  refine ⟨_,by simp -implicitDefEqProofs +contextual (disch:=omega) only [UO,yc, ↓XD,XU, ↓reduceIte,sevalprocAttr,hP,code,zb,zc.cells,ups,ze,zj,zm,yY,hh,hn,hp];rfl,by first|(simp [St.next,zT];done)|(simp [St.next,zT];omega)|(simp [St.next,trim,bare,zn,refs];done)⟩
 ·intro i hi hn hp
  have hh:=zhD f i hs hi hn;have hc:=hs.n;simp only [zc.cells,ups,ze,zj,zm] at hh
  refine ⟨_,by simp -implicitDefEqProofs +contextual (disch:=omega) only [UO,yc, ↓XD,XU, ↓reduceIte,sevalprocAttr,hP,code,zb,zc.cells,ups,ze,zj,zm,yY,hh,hn,hp];rfl,by simp [yf,zk.get,zk.put]⟩
 ·rintro i hi rfl
  refine ⟨by simp -implicitDefEqProofs +contextual (disch:=omega) only [UO,yc, ↓XD,XU, ↓reduceIte,sevalprocAttr,hP,code,zb,zc.cells,ups,ze,zj,zm,yY,aL],by simp⟩
noncomputable abbrev jA (ps:List zc) (p:Int):Option Int:=z9 (λ k=>¬zjJ (za ps p) (za (za ps p).Named k) k) 0 (za ps p).Named.length
theorem zDq (ps:List zc) (t:Int) (hb:ps.length<=1048576) (hs:∀ p:Int,0<=p->p<ps.length->WL (za ps p)):match z9 (λ (j:Int)=>jA ps j≠none) 0 ps.length with|some j=>∃ st,EV A (.loop (yy 4)) (⟨[(0,code ps),(1,.ptr 0 0 0 1),(2,.ptr 1 0 0 1),(3,.int .i64 t),(18,zb ps),(19,.int .i64 ps.length),(20,.int .i64 ps.length),(47,.int .i64 ps.length),(48,.int .i64 ps.length),(59,zb ps),(60,.int .i64 ps.length),(61,.int .i64 ps.length),(83,zb ps),(84,.int .i64 ps.length),(85,.int .i64 (0))],[],hU ps,[]⟩:St)=some (.ret,st)/\yf 2 1 3 (wD 4 j ((jA ps j).getD 0)) st|none=>EV A (.loop (yy 4)) (⟨[(0,code ps),(1,.ptr 0 0 0 1),(2,.ptr 1 0 0 1),(3,.int .i64 t),(18,zb ps),(19,.int .i64 ps.length),(20,.int .i64 ps.length),(47,.int .i64 ps.length),(48,.int .i64 ps.length),(59,zb ps),(60,.int .i64 ps.length),(61,.int .i64 ps.length),(83,zb ps),(84,.int .i64 ps.length),(85,.int .i64 (0))],[],hU ps,[]⟩:St)=some (zp.exit 8,(⟨[(0,code ps),(1,.ptr 0 0 0 1),(2,.ptr 1 0 0 1),(3,.int .i64 t),(18,zb ps),(19,.int .i64 ps.length),(20,.int .i64 ps.length),(47,.int .i64 ps.length),(48,.int .i64 ps.length),(59,zb ps),(60,.int .i64 ps.length),(61,.int .i64 ps.length),(83,zb ps),(84,.int .i64 ps.length),(85,.int .i64 (ps.length))],[],hU ps,[]⟩:St)):=by
 refine yr (λ i=>(⟨[(0,code ps),(1,.ptr 0 0 0 1),(2,.ptr 1 0 0 1),(3,.int .i64 t),(18,zb ps),(19,.int .i64 ps.length),(20,.int .i64 ps.length),(47,.int .i64 ps.length),(48,.int .i64 ps.length),(59,zb ps),(60,.int .i64 ps.length),(61,.int .i64 ps.length),(83,zb ps),(84,.int .i64 ps.length),(85,.int .i64 i)],[],hU ps,[]⟩:St)) (λ (j:Int)=>jA ps j≠none) (λ (j:Int) (st:St)=>yf 2 1 3 (wD 4 j ((jA ps j).getD 0)) st) (zp.exit 8,(⟨[(0,code ps),(1,.ptr 0 0 0 1),(2,.ptr 1 0 0 1),(3,.int .i64 t),(18,zb ps),(19,.int .i64 ps.length),(20,.int .i64 ps.length),(47,.int .i64 ps.length),(48,.int .i64 ps.length),(59,zb ps),(60,.int .i64 ps.length),(61,.int .i64 ps.length),(83,zb ps),(84,.int .i64 ps.length),(85,.int .i64 (ps.length))],[],hU ps,[]⟩:St)) (0) (ps.length) ?_ ?_ ?_ (0) (by omega) (by omega)
 ·intro i hi hn hp
  try simp only [aP] at hp
  have hl:=zy0 ps t i (za ps i) hb (hs i hi hn)
  have hp':jA ps i=none:=(by simpa using hp);unfold jA at hp';rw [hp'] at hl
  refine ⟨_,by simp -implicitDefEqProofs +contextual (disch:=omega) only [UN,yc, ↓XD,XU, ↓reduceIte,sevalprocAttr,hU,hP,code,zb,zc.cells,ze,ups,zj,zm,hl,hn,hp];rfl,by first|(simp [St.next,zT];done)|(simp [St.next,zT];omega)|(simp [St.next,trim,bare,zn,refs];done)⟩
 ·intro i hi hn hp
  have hl:=zy0 ps t i (za ps i) hb (hs i hi hn)
  obtain ⟨k,hk⟩:=bN.1 hp;unfold jA at hk;rw [hk] at hl;obtain ⟨st,hl,hg⟩:=hl
  refine ⟨_,by simp -implicitDefEqProofs +contextual (disch:=omega) only [UN,yc, ↓XD,XU, ↓reduceIte,sevalprocAttr,hU,hP,code,zb,zc.cells,ze,ups,zj,zm,hl,hn,hp];rfl,by unfold jA;rw [hk];exact hg⟩
 ·rintro i hi rfl
  refine ⟨by simp -implicitDefEqProofs +contextual (disch:=omega) only [UN,yc, ↓XD,XU, ↓reduceIte,sevalprocAttr,hU,hP,code,zb,zc.cells,ze,ups,zj,zm,aL],by simp⟩
theorem zy1 (ps:List zc) (t fi:Int) (f0:0<=fi) (f1:fi<ps.length) (hb:ps.length<=1048576) (hs:WL (za ps fi)):match z9 (λ (j:Int)=>¬jb ps fi j) 0 (za ps fi).Ins.length with|some j=>∃ st,EV A (.loop (yy 7)) (⟨[(0,code ps),(1,.ptr 0 0 0 1),(2,.ptr 1 0 0 1),(3,.int .i64 t),(18,zb ps),(19,.int .i64 ps.length),(20,.int .i64 ps.length),(47,.int .i64 ps.length),(48,.int .i64 ps.length),(59,zb ps),(60,.int .i64 ps.length),(61,.int .i64 ps.length),(83,zb ps),(84,.int .i64 ps.length),(85,.int .i64 ps.length),(106,zb ps),(107,.int .i64 ps.length),(108,.int .i64 fi),(15,.ptr 2 0 0 1),(14,.int .i64 fi),(121,.int .i64 (za ps fi).Ins.length),(122,.int .i64 (0))],[],hP ps (za ps fi),[]⟩:St)=some (.ret,st)/\yf 2 1 3 (wD 5 fi j) st|none=>EV A (.loop (yy 7)) (⟨[(0,code ps),(1,.ptr 0 0 0 1),(2,.ptr 1 0 0 1),(3,.int .i64 t),(18,zb ps),(19,.int .i64 ps.length),(20,.int .i64 ps.length),(47,.int .i64 ps.length),(48,.int .i64 ps.length),(59,zb ps),(60,.int .i64 ps.length),(61,.int .i64 ps.length),(83,zb ps),(84,.int .i64 ps.length),(85,.int .i64 ps.length),(106,zb ps),(107,.int .i64 ps.length),(108,.int .i64 fi),(15,.ptr 2 0 0 1),(14,.int .i64 fi),(121,.int .i64 (za ps fi).Ins.length),(122,.int .i64 (0))],[],hP ps (za ps fi),[]⟩:St)=some (zp.exit 14,(⟨[(0,code ps),(1,.ptr 0 0 0 1),(2,.ptr 1 0 0 1),(3,.int .i64 t),(18,zb ps),(19,.int .i64 ps.length),(20,.int .i64 ps.length),(47,.int .i64 ps.length),(48,.int .i64 ps.length),(59,zb ps),(60,.int .i64 ps.length),(61,.int .i64 ps.length),(83,zb ps),(84,.int .i64 ps.length),(85,.int .i64 ps.length),(106,zb ps),(107,.int .i64 ps.length),(108,.int .i64 fi),(15,.ptr 2 0 0 1),(14,.int .i64 fi),(121,.int .i64 (za ps fi).Ins.length),(122,.int .i64 ((za ps fi).Ins.length))],[],hP ps (za ps fi),[]⟩:St)):=by
 refine yr (λ i=>(⟨[(0,code ps),(1,.ptr 0 0 0 1),(2,.ptr 1 0 0 1),(3,.int .i64 t),(18,zb ps),(19,.int .i64 ps.length),(20,.int .i64 ps.length),(47,.int .i64 ps.length),(48,.int .i64 ps.length),(59,zb ps),(60,.int .i64 ps.length),(61,.int .i64 ps.length),(83,zb ps),(84,.int .i64 ps.length),(85,.int .i64 ps.length),(106,zb ps),(107,.int .i64 ps.length),(108,.int .i64 fi),(15,.ptr 2 0 0 1),(14,.int .i64 fi),(121,.int .i64 (za ps fi).Ins.length),(122,.int .i64 i)],[],hP ps (za ps fi),[]⟩:St)) (λ (j:Int)=>¬jb ps fi j) (λ (j:Int) (st:St)=>yf 2 1 3 (wD 5 fi j) st) (zp.exit 14,(⟨[(0,code ps),(1,.ptr 0 0 0 1),(2,.ptr 1 0 0 1),(3,.int .i64 t),(18,zb ps),(19,.int .i64 ps.length),(20,.int .i64 ps.length),(47,.int .i64 ps.length),(48,.int .i64 ps.length),(59,zb ps),(60,.int .i64 ps.length),(61,.int .i64 ps.length),(83,zb ps),(84,.int .i64 ps.length),(85,.int .i64 ps.length),(106,zb ps),(107,.int .i64 ps.length),(108,.int .i64 fi),(15,.ptr 2 0 0 1),(14,.int .i64 fi),(121,.int .i64 (za ps fi).Ins.length),(122,.int .i64 ((za ps fi).Ins.length))],[],hP ps (za ps fi),[]⟩:St)) (0) ((za ps fi).Ins.length) ?_ ?_ ?_ (0) (by omega) (by omega)
 ·intro i hi hn hp
  try simp only [aP] at hp
  have hh:=zkH ps fi i f0 f1 hb hs hi hn;have hc:=hs.i;simp only [code,zb] at hh
  refine ⟨_,by simp -implicitDefEqProofs +contextual (disch:=omega) only [UP,yc, ↓XD,XU, ↓reduceIte,sevalprocAttr,hP,code,zb,yY,hh,hn,hp];rfl,by first|(simp [St.next,zT];done)|(simp [St.next,zT];omega)|(simp [St.next,trim,bare,zn,refs];done)⟩
 ·intro i hi hn hp
  have hh:=zkH ps fi i f0 f1 hb hs hi hn;have hc:=hs.i;simp only [code,zb] at hh
  refine ⟨_,by simp -implicitDefEqProofs +contextual (disch:=omega) only [UP,yc, ↓XD,XU, ↓reduceIte,sevalprocAttr,hP,code,zb,yY,hh,hn,hp];rfl,by simp [yf,zk.get,zk.put]⟩
 ·rintro i hi rfl
  refine ⟨by simp -implicitDefEqProofs +contextual (disch:=omega) only [UP,yc, ↓XD,XU, ↓reduceIte,sevalprocAttr,hP,code,zb,yY,aL],by simp⟩
noncomputable abbrev ue (ps:List zc) (p:Int):Option Int:=if (za ps p).Ins.length=0 then some 0 else z9 (λ k=>¬jb ps p k) 0 (za ps p).Ins.length
theorem zDr (ps:List zc) (t:Int) (hb:ps.length<=1048576) (hs:∀ p:Int,0<=p->p<ps.length->WL (za ps p)):match z9 (λ (j:Int)=>ue ps j≠none) 0 ps.length with|some j=>∃ st,EV A (.loop (yy 6)) (⟨[(0,code ps),(1,.ptr 0 0 0 1),(2,.ptr 1 0 0 1),(3,.int .i64 t),(18,zb ps),(19,.int .i64 ps.length),(20,.int .i64 ps.length),(47,.int .i64 ps.length),(48,.int .i64 ps.length),(59,zb ps),(60,.int .i64 ps.length),(61,.int .i64 ps.length),(83,zb ps),(84,.int .i64 ps.length),(85,.int .i64 ps.length),(106,zb ps),(107,.int .i64 ps.length),(108,.int .i64 (0))],[],hU ps,[]⟩:St)=some (.ret,st)/\yf 2 1 3 (wD 5 j ((ue ps j).getD 0)) st|none=>EV A (.loop (yy 6)) (⟨[(0,code ps),(1,.ptr 0 0 0 1),(2,.ptr 1 0 0 1),(3,.int .i64 t),(18,zb ps),(19,.int .i64 ps.length),(20,.int .i64 ps.length),(47,.int .i64 ps.length),(48,.int .i64 ps.length),(59,zb ps),(60,.int .i64 ps.length),(61,.int .i64 ps.length),(83,zb ps),(84,.int .i64 ps.length),(85,.int .i64 ps.length),(106,zb ps),(107,.int .i64 ps.length),(108,.int .i64 (0))],[],hU ps,[]⟩:St)=some (zp.exit 12,(⟨[(0,code ps),(1,.ptr 0 0 0 1),(2,.ptr 1 0 0 1),(3,.int .i64 t),(18,zb ps),(19,.int .i64 ps.length),(20,.int .i64 ps.length),(47,.int .i64 ps.length),(48,.int .i64 ps.length),(59,zb ps),(60,.int .i64 ps.length),(61,.int .i64 ps.length),(83,zb ps),(84,.int .i64 ps.length),(85,.int .i64 ps.length),(106,zb ps),(107,.int .i64 ps.length),(108,.int .i64 (ps.length))],[],hU ps,[]⟩:St)):=by
 refine yr (λ i=>(⟨[(0,code ps),(1,.ptr 0 0 0 1),(2,.ptr 1 0 0 1),(3,.int .i64 t),(18,zb ps),(19,.int .i64 ps.length),(20,.int .i64 ps.length),(47,.int .i64 ps.length),(48,.int .i64 ps.length),(59,zb ps),(60,.int .i64 ps.length),(61,.int .i64 ps.length),(83,zb ps),(84,.int .i64 ps.length),(85,.int .i64 ps.length),(106,zb ps),(107,.int .i64 ps.length),(108,.int .i64 i)],[],hU ps,[]⟩:St)) (λ (j:Int)=>ue ps j≠none) (λ (j:Int) (st:St)=>yf 2 1 3 (wD 5 j ((ue ps j).getD 0)) st) (zp.exit 12,(⟨[(0,code ps),(1,.ptr 0 0 0 1),(2,.ptr 1 0 0 1),(3,.int .i64 t),(18,zb ps),(19,.int .i64 ps.length),(20,.int .i64 ps.length),(47,.int .i64 ps.length),(48,.int .i64 ps.length),(59,zb ps),(60,.int .i64 ps.length),(61,.int .i64 ps.length),(83,zb ps),(84,.int .i64 ps.length),(85,.int .i64 ps.length),(106,zb ps),(107,.int .i64 ps.length),(108,.int .i64 (ps.length))],[],hU ps,[]⟩:St)) (0) (ps.length) ?_ ?_ ?_ (0) (by omega) (by omega)
 ·intro i hi hn hp
  have hl:=zy1 ps t i hi hn hb (hs i hi hn);have e0:((za ps i).Ins.length:Int)=0↔(za ps i).Ins.length=0:=by omega
  have hp':ue ps i=none:=(by simpa using hp)
  unfold ue at hp'
  by_cases hz:(za ps i).Ins.length=0
  ·rw [if_pos hz] at hp';exact absurd hp' (by simp)
  ·rw [if_neg hz] at hp'
   rw [hp'] at hl
   refine ⟨_,by (simp -implicitDefEqProofs +contextual (disch:=omega) only [YE,yc,hU,hP,code,zb,zc.cells,ups,ze,zj,zm, ↓XD,XU, ↓reduceIte,sevalprocAttr,hn,hz,e0,hl])<;>rfl,by simp [St.next,trim,bare,zn,refs]⟩
 ·intro i hi hn hp
  have hl:=zy1 ps t i hi hn hb (hs i hi hn);have e0:((za ps i).Ins.length:Int)=0↔(za ps i).Ins.length=0:=by omega
  obtain ⟨k,hk⟩:=bN.1 hp
  unfold ue at hk
  by_cases hz:(za ps i).Ins.length=0
  ·refine ⟨_,by (simp -implicitDefEqProofs +contextual (disch:=omega) only [YE,yc,hU,hP,code,zb,zc.cells,ups,ze,zj,zm, ↓XD,XU, ↓reduceIte,sevalprocAttr,hn,hz,e0,yY])<;>rfl,by unfold ue;rw [if_pos hz];simp [yf,zk.get,zk.put]⟩
  ·rw [if_neg hz] at hk
   rw [hk] at hl
   obtain ⟨st,hl,hg⟩:=hl
   refine ⟨_,by (simp -implicitDefEqProofs +contextual (disch:=omega) only [YE,yc,hU,hP,code,zb,zc.cells,ups,ze,zj,zm, ↓XD,XU, ↓reduceIte,sevalprocAttr,hn,hz,e0,hl])<;>rfl,by unfold ue;rw [if_neg hz,hk];exact hg⟩
 ·rintro i hi rfl
  refine ⟨by simp -implicitDefEqProofs +contextual (disch:=omega) only [YE,yc, ↓XD,XU, ↓reduceIte,sevalprocAttr,hU,code,zb,aL],by simp⟩
def Big (ps:List zc):Prop:=(ps.length=0\/200<(ps.length:Int))\/6000<w9 ps
noncomputable abbrev jd (ps:List zc):Option Int:=z9 (λ p=>¬jL (za ps p) p) 0 ps.length
noncomputable abbrev kT (ps:List zc):Option Int:=z9 (λ j=>uz ps j≠none) 0 ps.length
noncomputable abbrev ZJ (ps:List zc):Option Int:=z9 (λ j=>jA ps j≠none) 0 ps.length
noncomputable abbrev Vc (ps:List zc):Option Int:=z9 (λ j=>ue ps j≠none) 0 ps.length
noncomputable def parts (ps:List zc):Int×Int×Int:=if Big ps then (1,0,0) else match jd ps with
 |some f=>(2,f,0)
 |none=>match kT ps with
  |some f=>(3,f,(uz ps f).getD 0)
  |none=>match ZJ ps with
   |some f=>(4,f,(jA ps f).getD 0)
   |none=>match Vc ps with
    |some f=>(5,f,(ue ps f).getD 0)
    |none=>(0,0,0)
theorem zhP {ps:List zc} (hs:vz ps) (h:jd ps=none) (p:Int) (p0:0<=p) (p1:p<ps.length):WL (za ps p):=
 (aP.1 (y8.1 h p p0 p1)).pok (hs p)
theorem zsR (ps:List zc) (hb:ps.length<=1048576) (ht:w9 ps<=1048576) (hs:vz ps):EP A zeT [code ps]=some (fl3 (parts ps)):=by
 obtain ⟨e0,k0⟩:=zDn ps hb ht 0 (by simp [vb])
 simp only [k0] at e0
 have hT:vb ps (ps.length:Int).toNat=w9 ps:=by rw [vb,w9];simp
 rw [hT] at e0
 have e1:=zDo ps (w9 ps) hb hs
 have e2:=zDp ps (w9 ps) hb hs
 have z0:((ps.length:Int)=0)=(ps.length=0):=by rw [eq_iff_iff];omega
 by_cases hB:Big ps
 ·have hB':=hB
  rw [Big] at hB
  simp -implicitDefEqProofs +contextual (disch:=omega) only [k_,Zf,yc,code,zb, ↓XD,XU, ↓reduceIte,sevalprocAttr,yY,e0,z0,hB]
  simp [parts,hB']
 ·have hB':=hB
  rw [Big] at hB
  cases h1:jd ps with
  |some f=>
   unfold jd at h1
   rw [h1] at e1
   obtain ⟨st,e1,g1,g2⟩:=e1
   simp -implicitDefEqProofs +contextual (disch:=omega) only [k_,Zf,yc,code,zb, ↓XD,XU, ↓reduceIte,sevalprocAttr,yY,e0,z0,hB,e1,g1,g2]
   simp [parts,hB',jd,h1]
  |none=>
   have hk:=zhP hs h1
   have e4:=zDq ps (w9 ps) hb hk
   have e6:=zDr ps (w9 ps) hb hk
   unfold jd at h1
   rw [h1] at e1
   cases h2:kT ps with
   |some f=>
    unfold kT at h2
    rw [h2] at e2
    obtain ⟨st,e2,g1,g2⟩:=e2
    simp -implicitDefEqProofs +contextual (disch:=omega) only [k_,Zf,yc,code,zb, ↓XD,XU, ↓reduceIte,sevalprocAttr,yY,e0,z0,hB,e1,e2,g1,g2]
    simp [parts,hB',jd,h1,kT,h2]
   |none=>
    unfold kT at h2
    rw [h2] at e2
    cases h3:ZJ ps with
    |some f=>
     unfold ZJ at h3
     rw [h3] at e4
     obtain ⟨st,e4,g1,g2⟩:=e4
     simp -implicitDefEqProofs +contextual (disch:=omega) only [k_,Zf,yc,code,zb, ↓XD,XU, ↓reduceIte,sevalprocAttr,yY,e0,z0,hB,e1,e2,e4,g1,g2]
     simp [parts,hB',jd,h1,kT,h2,ZJ,h3]
    |none=>
     unfold ZJ at h3
     rw [h3] at e4
     cases h4:Vc ps with
     |some f=>
      unfold Vc at h4
      rw [h4] at e6
      obtain ⟨st,e6,g1,g2⟩:=e6
      simp -implicitDefEqProofs +contextual (disch:=omega) only [k_,Zf,yc,code,zb, ↓XD,XU, ↓reduceIte,sevalprocAttr,yY,e0,z0,hB,e1,e2,e4,e6,g1,g2]
      simp [parts,hB',jd,h1,kT,h2,ZJ,h3,Vc,h4]
     |none=>
      unfold Vc at h4
      rw [h4] at e6
      simp -implicitDefEqProofs +contextual (disch:=omega) only [k_,Zf,yc,code,zb, ↓XD,XU, ↓reduceIte,sevalprocAttr,yY,e0,z0,hB,e1,e2,e4,e6]
      simp [parts,hB',jd,h1,kT,h2,ZJ,h3,Vc,h4]
theorem ztq {ps:List zc} (h:(parts ps).1=0):parts ps=(0,0,0):=by
 revert h;unfold parts;repeat' split
 all_goals (intro h;first|rfl|exact absurd h (by dsimp only;decide))
structure zjG (ps:List zc):Prop where
 big:¬Big ps
 ok:∀ p:Int,0<=p->p<ps.length->WL (za ps p)
 ins:∀ p:Int,0<=p->p<ps.length->∀ i:Int,0<=i->i<(za ps p).Ins.length->jb ps p i
theorem zf3 {ps:List zc} (hs:vz ps) (h:(parts ps).1=0):zjG ps:=by
 rw [parts] at h
 by_cases hB:Big ps
 ·rw [if_pos hB] at h;exact absurd h (by decide)
 rw [if_neg hB] at h
 cases h1:jd ps with
 |some f=>rw [h1] at h;exact absurd h (by dsimp only;decide)
 |none=>
  rw [h1] at h
  cases h2:kT ps with
  |some f=>rw [h2] at h;exact absurd h (by dsimp only;decide)
  |none=>
   rw [h2] at h
   cases h3:ZJ ps with
   |some f=>rw [h3] at h;exact absurd h (by dsimp only;decide)
   |none=>
    rw [h3] at h
    cases h4:Vc ps with
    |some f=>rw [h4] at h;exact absurd h (by dsimp only;decide)
    |none=>
     refine ⟨hB,zhP hs h1,λ p p0 p1 i i0 i1=>?_⟩
     have h5:ue ps p=none:=aP.1 (y8.1 h4 p p0 p1)
     unfold ue at h5
     split at h5
     ·cases h5
     ·exact aP.1 (y8.1 h5 i i0 i1)
theorem zw2 {ps:List zc} {p i:Int} (h:jb ps p i) (ho:(za (za ps p).Ins i).Op=11):0<=(za (za ps p).Ins i).B/\(za (za ps p).Ins i).B<ps.length:=by
 rw [jb,ho] at h
 have e:zg 11=some [1,9,0,0]:=by simp [zg]
 rw [e] at h
 have:=aP.1 (y8.1 h.1 1 (by omega) (by omega))
 rw [show za [(1:Int),9,0,0] 1=9 from rfl,show ∀ a b c d:Int,za [a,b,c,d] 1=b from λ _ _ _ _=>rfl] at this
 simp [yX] at this
 omega
abbrev bl (l:List Bool):List (List PV):=l.map λ b=>[.bool b]
noncomputable abbrev Q5 (ps:List zc) (p i:Int) (s:List Bool):List Bool ⊕ Int:=
 if (za (za ps p).Ins i).Op=11 then
  (if ((za (za ps p).Ins i).B<=p\/za s (za (za ps p).Ins i).B=true)\/¬zfJ (za ps p) (za ps (za (za ps p).Ins i).B).Ups then .inr i
  else .inl (s.set (za (za ps p).Ins i).B.toNat true))
 else .inl s
noncomputable abbrev hM (ps:List zc) (f:zc) (l:List Bool):zd:=[.cells 1 [[zb ps]],.cells 3 [[.int .i64 0,.int .i64 0,.int .i64 0]],.cells 3 [[.int .i64 0,.int .i64 0,.int .i64 0]],.cells 1 (bl l),.cells 9 [f.cells]]
theorem zDt (ps:List zc) (p:Int) (p0:0<=p) (p1:p<ps.length) (hb:ps.length<=1048576) (hf:zjG ps) (a0:List Bool) (hok0:a0.length=ps.length):zcv (λ (a:List Bool)=>EV A (.loop (xZ 1)) (⟨[(0,code ps),(1,.ptr 0 0 0 1),(2,.ptr 1 0 0 1),(3,.ptr 2 0 0 1),(4,.sl 3 0 ps.length ps.length),(21,zb ps),(22,.int .i64 ps.length),(23,.int .i64 p),(6,.ptr 4 0 0 1),(5,.int .i64 p),(29,zj (za ps p).Ins),(30,.int .i64 (za ps p).Ins.length),(31,.int .i64 (0))],[],hM ps (za ps p) a0,[]⟩:St)=some (zp.exit 2,(⟨[(0,code ps),(1,.ptr 0 0 0 1),(2,.ptr 1 0 0 1),(3,.ptr 2 0 0 1),(4,.sl 3 0 ps.length ps.length),(21,zb ps),(22,.int .i64 ps.length),(23,.int .i64 p),(6,.ptr 4 0 0 1),(5,.int .i64 p),(29,zj (za ps p).Ins),(30,.int .i64 (za ps p).Ins.length),(31,.int .i64 ((za ps p).Ins.length))],[],hM ps (za ps p) a,[]⟩:St))/\a.length=ps.length) (λ (r:Int)=>∃ st,EV A (.loop (xZ 1)) (⟨[(0,code ps),(1,.ptr 0 0 0 1),(2,.ptr 1 0 0 1),(3,.ptr 2 0 0 1),(4,.sl 3 0 ps.length ps.length),(21,zb ps),(22,.int .i64 ps.length),(23,.int .i64 p),(6,.ptr 4 0 0 1),(5,.int .i64 p),(29,zj (za ps p).Ins),(30,.int .i64 (za ps p).Ins.length),(31,.int .i64 (0))],[],hM ps (za ps p) a0,[]⟩:St)=some (.ret,st)/\yf 2 1 3 (wD 6 p r) st) (ug (λ (i:Int) (a:List Bool)=>Q5 ps p i a) (((za ps p).Ins.length:Int)-0).toNat (0) a0):=by
 have hb2:=(hf.ok p p0 p1).i
 refine XA (P:=A) (body:=(xZ 1)) (λ i (a:List Bool)=>(⟨[(0,code ps),(1,.ptr 0 0 0 1),(2,.ptr 1 0 0 1),(3,.ptr 2 0 0 1),(4,.sl 3 0 ps.length ps.length),(21,zb ps),(22,.int .i64 ps.length),(23,.int .i64 p),(6,.ptr 4 0 0 1),(5,.int .i64 p),(29,zj (za ps p).Ins),(30,.int .i64 (za ps p).Ins.length),(31,.int .i64 i)],[],hM ps (za ps p) a,[]⟩:St)) (λ (i:Int) (a:List Bool)=>Q5 ps p i a) (λ i (a:List Bool)=>a.length=ps.length) (λ a=>(zp.exit 2,(⟨[(0,code ps),(1,.ptr 0 0 0 1),(2,.ptr 1 0 0 1),(3,.ptr 2 0 0 1),(4,.sl 3 0 ps.length ps.length),(21,zb ps),(22,.int .i64 ps.length),(23,.int .i64 p),(6,.ptr 4 0 0 1),(5,.int .i64 p),(29,zj (za ps p).Ins),(30,.int .i64 (za ps p).Ins.length),(31,.int .i64 ((za ps p).Ins.length))],[],hM ps (za ps p) a,[]⟩:St))) (λ (r:Int) (st:St)=>yf 2 1 3 (wD 6 p r) st) (0) ((za ps p).Ins.length) ?_ ?_ (0) a0 (by omega) (by omega) hok0
 ·intro i a hi hn hok
  have hk:=hf.ok p p0 p1
  have hb2:=hk.i
  rw [Q5]
  by_cases h2:(za (za ps p).Ins i).Op=11
  ·rw [if_pos h2]
   have hg1:=zw2 (hf.ins p p0 p1 i hi hn) h2
   have hu:=zsS ps p (za (za ps p).Ins i).B p0 p1 hb hk hg1.1 hg1.2 (hf.ok _ hg1.1 hg1.2).u
   simp only [code,zb] at hu
   by_cases h3:((za (za ps p).Ins i).B<=p\/za a (za (za ps p).Ins i).B=true)\/¬zfJ (za ps p) (za ps (za (za ps p).Ins i).B).Ups
   ·rw [if_pos h3]
    refine ⟨_,by (simp -implicitDefEqProofs +contextual (disch:=omega) only [kK,xj,hM,code,zb,zc.cells,ups,ze,zj,zm,Ins.cells, ↓XD,XU, ↓reduceIte,sevalprocAttr,hn,hok,h2,h3,hu,yY])<;>rfl,by simp [yf,zk.get,zk.put]⟩
   ·rw [if_neg h3]
    refine ⟨⟨_,by (simp -implicitDefEqProofs +contextual (disch:=omega) only [kK,xj,hM,code,zb,zc.cells,ups,ze,zj,zm,Ins.cells, ↓XD,XU, ↓reduceIte,sevalprocAttr,hn,hok,h2,h3,hu])<;>rfl,by simp [St.next,trim,bare,zn,refs]⟩,by simpa using hok⟩
  ·rw [if_neg h2]
   refine ⟨⟨_,by (simp -implicitDefEqProofs +contextual (disch:=omega) only [kK,xj,hM,code,zb,zc.cells,ups,ze,zj,zm,Ins.cells, ↓XD,XU, ↓reduceIte,sevalprocAttr,hn,hok,h2])<;>rfl,by simp [St.next,trim,bare,zn,refs]⟩,hok⟩
 ·rintro i a hi rfl hok
  refine ⟨by simp -implicitDefEqProofs +contextual (disch:=omega) only [kK,xj, ↓XD,XU, ↓reduceIte,sevalprocAttr,zn,aL,hok],by simp⟩
noncomputable def zez (ps:List zc) (p:Int) (s:List Bool):List Bool ⊕ Int:=ug (Q5 ps p) (((za ps p).Ins.length:Int)-0).toNat 0 s
noncomputable abbrev UW (ps:List zc) (p:Int) (s:List Bool):List Bool ⊕ (Int×Int):=match zez ps p s with|.inl s'=>.inl s'|.inr n=>.inr (p,n)
theorem zDs (ps:List zc) (hb:ps.length<=1048576) (hf:zjG ps) (a0:List Bool) (hok0:a0.length=ps.length):zcv (λ (a:List Bool)=>EV A (.loop (xZ 0)) (⟨[(0,code ps),(1,.ptr 0 0 0 1),(2,.ptr 1 0 0 1),(3,.ptr 2 0 0 1),(4,.sl 3 0 ps.length ps.length),(21,zb ps),(22,.int .i64 ps.length),(23,.int .i64 (0))],[],[.cells 1 [[zb ps]],.cells 3 [[.int .i64 0,.int .i64 0,.int .i64 0]],.cells 3 [[.int .i64 0,.int .i64 0,.int .i64 0]],.cells 1 (bl a0)],[]⟩:St)=some (zp.exit 0,(⟨[(0,code ps),(1,.ptr 0 0 0 1),(2,.ptr 1 0 0 1),(3,.ptr 2 0 0 1),(4,.sl 3 0 ps.length ps.length),(21,zb ps),(22,.int .i64 ps.length),(23,.int .i64 (ps.length))],[],[.cells 1 [[zb ps]],.cells 3 [[.int .i64 0,.int .i64 0,.int .i64 0]],.cells 3 [[.int .i64 0,.int .i64 0,.int .i64 0]],.cells 1 (bl a)],[]⟩:St))/\a.length=ps.length) (λ (r:Int×Int)=>∃ st,EV A (.loop (xZ 0)) (⟨[(0,code ps),(1,.ptr 0 0 0 1),(2,.ptr 1 0 0 1),(3,.ptr 2 0 0 1),(4,.sl 3 0 ps.length ps.length),(21,zb ps),(22,.int .i64 ps.length),(23,.int .i64 (0))],[],[.cells 1 [[zb ps]],.cells 3 [[.int .i64 0,.int .i64 0,.int .i64 0]],.cells 3 [[.int .i64 0,.int .i64 0,.int .i64 0]],.cells 1 (bl a0)],[]⟩:St)=some (.ret,st)/\yf 2 1 3 (wD 6 r.1 r.2) st) (ug (λ (i:Int) (a:List Bool)=>UW ps i a) ((ps.length:Int)-0).toNat (0) a0):=by
 refine XA (P:=A) (body:=(xZ 0)) (λ i (a:List Bool)=>(⟨[(0,code ps),(1,.ptr 0 0 0 1),(2,.ptr 1 0 0 1),(3,.ptr 2 0 0 1),(4,.sl 3 0 ps.length ps.length),(21,zb ps),(22,.int .i64 ps.length),(23,.int .i64 i)],[],[.cells 1 [[zb ps]],.cells 3 [[.int .i64 0,.int .i64 0,.int .i64 0]],.cells 3 [[.int .i64 0,.int .i64 0,.int .i64 0]],.cells 1 (bl a)],[]⟩:St)) (λ (i:Int) (a:List Bool)=>UW ps i a) (λ i (a:List Bool)=>a.length=ps.length) (λ a=>(zp.exit 0,(⟨[(0,code ps),(1,.ptr 0 0 0 1),(2,.ptr 1 0 0 1),(3,.ptr 2 0 0 1),(4,.sl 3 0 ps.length ps.length),(21,zb ps),(22,.int .i64 ps.length),(23,.int .i64 (ps.length))],[],[.cells 1 [[zb ps]],.cells 3 [[.int .i64 0,.int .i64 0,.int .i64 0]],.cells 3 [[.int .i64 0,.int .i64 0,.int .i64 0]],.cells 1 (bl a)],[]⟩:St))) (λ (r:Int×Int) (st:St)=>yf 2 1 3 (wD 6 r.1 r.2) st) (0) (ps.length) ?_ ?_ (0) a0 (by omega) (by omega) hok0
 ·intro i a hi hn hok
  have h2:=zDt ps i hi hn hb hf a hok
  have hI:zez ps i a=ug (λ (n:Int) (a:List Bool)=>Q5 ps i n a) (((za ps i).Ins.length:Int)-0).toNat 0 a:=rfl
  rw [<-hI] at h2
  rw [UW]
  cases hr:zez ps i a with
  |inl s'=>
   rw [hr] at h2
   obtain ⟨h2,hs'⟩:=h2
   refine ⟨⟨_,by (simp -implicitDefEqProofs +contextual (disch:=omega) only [XO,xj,hM,code,zb,zc.cells,ups,ze,zj,zm, ↓XD,XU, ↓reduceIte,sevalprocAttr,hn,h2,hok])<;>rfl,by simp [St.next,trim,bare,zn,refs]⟩,hs'⟩
  |inr n=>
   rw [hr] at h2
   obtain ⟨st,h2,hg2⟩:=h2
   exact ⟨_,by (simp -implicitDefEqProofs +contextual (disch:=omega) only [XO,xj,hM,code,zb,zc.cells,ups,ze,zj,zm, ↓XD,XU, ↓reduceIte,sevalprocAttr,hn,h2,hok])<;>rfl,hg2⟩
 ·rintro i a hi rfl hok
  refine ⟨by simp -implicitDefEqProofs +contextual (disch:=omega) only [XO,xj, ↓XD,XU, ↓reduceIte,sevalprocAttr,zn,aL,hok],by simp⟩
theorem zDu (ps:List zc) (l:List Bool) (hb:ps.length<=1048576) (h1:1<=ps.length) (hl:l.length=ps.length):match z9 (λ (j:Int)=>¬za l j=true) 1 ps.length with|some j=>∃ st,EV A (.loop (xZ 2)) (⟨[(0,code ps),(1,.ptr 0 0 0 1),(2,.ptr 1 0 0 1),(3,.ptr 2 0 0 1),(4,.sl 3 0 ps.length ps.length),(21,zb ps),(22,.int .i64 ps.length),(23,.int .i64 ps.length),(9,.int .i64 (1))],[],[.cells 1 [[zb ps]],.cells 3 [[.int .i64 0,.int .i64 0,.int .i64 0]],.cells 3 [[.int .i64 0,.int .i64 0,.int .i64 0]],.cells 1 (bl l)],[]⟩:St)=some (.ret,st)/\yf 2 1 3 (wD 7 j 0) st|none=>EV A (.loop (xZ 2)) (⟨[(0,code ps),(1,.ptr 0 0 0 1),(2,.ptr 1 0 0 1),(3,.ptr 2 0 0 1),(4,.sl 3 0 ps.length ps.length),(21,zb ps),(22,.int .i64 ps.length),(23,.int .i64 ps.length),(9,.int .i64 (1))],[],[.cells 1 [[zb ps]],.cells 3 [[.int .i64 0,.int .i64 0,.int .i64 0]],.cells 3 [[.int .i64 0,.int .i64 0,.int .i64 0]],.cells 1 (bl l)],[]⟩:St)=some (zp.exit 4,(⟨[(0,code ps),(1,.ptr 0 0 0 1),(2,.ptr 1 0 0 1),(3,.ptr 2 0 0 1),(4,.sl 3 0 ps.length ps.length),(21,zb ps),(22,.int .i64 ps.length),(23,.int .i64 ps.length),(9,.int .i64 (ps.length))],[],[.cells 1 [[zb ps]],.cells 3 [[.int .i64 0,.int .i64 0,.int .i64 0]],.cells 3 [[.int .i64 0,.int .i64 0,.int .i64 0]],.cells 1 (bl l)],[]⟩:St)):=by
 refine yr (λ i=>(⟨[(0,code ps),(1,.ptr 0 0 0 1),(2,.ptr 1 0 0 1),(3,.ptr 2 0 0 1),(4,.sl 3 0 ps.length ps.length),(21,zb ps),(22,.int .i64 ps.length),(23,.int .i64 ps.length),(9,.int .i64 i)],[],[.cells 1 [[zb ps]],.cells 3 [[.int .i64 0,.int .i64 0,.int .i64 0]],.cells 3 [[.int .i64 0,.int .i64 0,.int .i64 0]],.cells 1 (bl l)],[]⟩:St)) (λ (j:Int)=>¬za l j=true) (λ (j:Int) (st:St)=>yf 2 1 3 (wD 7 j 0) st) (zp.exit 4,(⟨[(0,code ps),(1,.ptr 0 0 0 1),(2,.ptr 1 0 0 1),(3,.ptr 2 0 0 1),(4,.sl 3 0 ps.length ps.length),(21,zb ps),(22,.int .i64 ps.length),(23,.int .i64 ps.length),(9,.int .i64 (ps.length))],[],[.cells 1 [[zb ps]],.cells 3 [[.int .i64 0,.int .i64 0,.int .i64 0]],.cells 3 [[.int .i64 0,.int .i64 0,.int .i64 0]],.cells 1 (bl l)],[]⟩:St)) (1) (ps.length) ?_ ?_ ?_ (1) (by omega) (by omega)
 ·intro i hi hn hp
  try simp only [aP] at hp
  refine ⟨_,by simp -implicitDefEqProofs +contextual (disch:=omega) only [XP,xj, ↓XD,XU, ↓reduceIte,sevalprocAttr,code,zb,yY,hl,hn,hp];rfl,by first|(simp [St.next,zT];done)|(simp [St.next,zT];omega)|(simp [St.next,trim,bare,zn,refs];done)⟩
 ·intro i hi hn hp
  refine ⟨_,by simp -implicitDefEqProofs +contextual (disch:=omega) only [XP,xj, ↓XD,XU, ↓reduceIte,sevalprocAttr,code,zb,yY,hl,hn,hp];rfl,by simp [yf,zk.get,zk.put]⟩
 ·rintro i hi rfl
  refine ⟨by simp -implicitDefEqProofs +contextual (disch:=omega) only [XP,xj, ↓XD,XU, ↓reduceIte,sevalprocAttr,code,zb,yY,hl,aL],by simp⟩
noncomputable def zbs (ps:List zc):List Bool ⊕ (Int×Int):=ug (UW ps) ((ps.length:Int)-0).toNat 0 (List.replicate ps.length false)
noncomputable def xJ (ps:List zc):Int×Int×Int:=if (parts ps).1≠0 then parts ps else match zbs ps with
 |.inr r=>(6,r.1,r.2)
 |.inl l=>match z9 (λ j=>¬za l j=true) 1 ps.length with
  |some f=>(7,f,0)
  |none=>(0,0,0)
theorem zn9 (ps:List zc) (hb:ps.length<=1048576) (ht:w9 ps<=1048576) (hs:vz ps):EP A za5 [code ps]=some (fl3 (xJ ps)):=by
 have e1:=zsR ps hb ht hs
 simp only [code,zb] at e1
 rw [xJ]
 by_cases h1:(parts ps).1=0
 ·have hf:=zf3 hs h1
  have hp:=ztq h1
  have hL1:1<=ps.length:=by have:=hf.big;rw [Big] at this;omega
  rw [if_neg (by simpa using h1)]
  rw [hp] at e1
  have e7:=zDs ps hb hf (List.replicate ps.length false) (by simp)
  have hI:zbs ps=ug (λ (f:Int) (a:List Bool)=>UW ps f a) ((ps.length:Int)-0).toNat 0 (List.replicate ps.length false):=rfl
  rw [<-hI] at e7
  cases k7:zbs ps with
  |inr r=>
   rw [k7] at e7
   obtain ⟨st,e7,g1,g2⟩:=e7
   simp only [bl,code,zb] at e7
   simp -implicitDefEqProofs +contextual (disch:=omega) only [Yz,YB,xj,code,zb, ↓XD,XU, ↓reduceIte,sevalprocAttr,e1,e7,g1,g2]
  |inl l=>
   rw [k7] at e7
   obtain ⟨e7,hl⟩:=e7
   simp only [bl,code,zb] at e7
   have e8:=zDu ps l hb hL1 hl
   simp only [bl,code,zb] at e8
   dsimp only
   cases k8:z9 (λ j=>¬za l j=true) 1 ps.length with
   |some f=>
    rw [k8] at e8
    obtain ⟨st,e8,g1,g2⟩:=e8
    simp -implicitDefEqProofs +contextual (disch:=omega) only [Yz,YB,xj,code,zb, ↓XD,XU, ↓reduceIte,sevalprocAttr,e1,e7,e8,g1,g2]
   |none=>
    rw [k8] at e8
    simp -implicitDefEqProofs +contextual (disch:=omega) only [Yz,YB,xj,code,zb, ↓XD,XU, ↓reduceIte,sevalprocAttr,e1,e7,e8]
 ·rw [if_pos (by simpa using h1)]
  simp -implicitDefEqProofs +contextual (disch:=omega) only [Yz,YB,xj,code,zb, ↓XD,XU, ↓reduceIte,sevalprocAttr,e1,h1]
end Go.Proofs.Tryd.Av
end
section
set_option maxRecDepth 10000
set_option maxHeartbeats 1000000
namespace Go.Proofs.Tryd.Av
open Go Go.Av Classical
structure Gd where
 Try:Bool
 Keep:Int
 Handler:Int
 deriving Inhabited,DecidableEq
structure ya where
 Types:List Int
 Guards:List Gd
 deriving Inhabited,DecidableEq
abbrev Gd.cells (g:Gd):List PV:=[.bool g.Try,.int .i64 g.Keep,.int .i64 g.Handler]
abbrev gds (l:List Gd):PV:=.fz (l.map Gd.cells)
def cI (l:List Int):PV:=if l=[] then .nils else yt l
def cG (l:List Gd):PV:=if l=[] then .nils else gds l
def xP (p:PV) (l:List Int):Prop:=p=yt l\/(p=.nils/\l=[])
def xo (p:PV) (l:List Gd):Prop:=p=gds l\/(p=.nils/\l=[])
theorem zoA (l:List Int):xP (cI l) l:=by unfold cI;split;exact .inr ⟨rfl, ‹_›⟩;exact .inl rfl
theorem zoz (l:List Gd):xo (cG l) l:=by unfold cG;split;exact .inr ⟨rfl, ‹_›⟩;exact .inl rfl
structure Rd where
 ts:List Int
 tk:List Int
 sy:List Int
def xQ (r:Int):Int:=if r=2 then 1 else if r=3 then 3 else if r=4\/r=18\/r=19\/r=20 then 1 else if r=5 then 2 else if r=6 then 3 else 0
def wu (r:Int):Prop:=r=2\/r=3
def QQ (r x:Int) (ts:List Int):Prop:=(r=18/\(¬za ts (x+1)=1\/¬za ts (x+2)=1))\/(r=20/\¬za ts (x+1)=1)
noncomputable def ZD (r x:Int):Int:=if wu r/\x<0 then -1-x else x
noncomputable def vv (r x:Int) (a:Rd):Option Rd:=
 if xQ r=0 then some a
 else if ¬za a.ts (ZD r x)=xQ r then none
 else if wu r/\x<0 then
  if ZD r x∈a.sy then none else some ⟨a.ts.set (ZD r x).toNat 0,a.tk++[ZD r x],a.sy⟩
 else if wu r then some a
 else if QQ r x a.ts then none
 else if r=19 then
  if ¬za a.ts (x+1)=0 then none else some ⟨a.ts,a.tk++[x],a.sy++[x]⟩
 else some ⟨a.ts,a.tk,a.sy++[x]⟩
noncomputable def K6 (rs:List Int) (n:Ins) (ts:List Int):Option Rd:=
 match vv (za rs 0) n.A ⟨ts,[],[]⟩ with
 |none=>none
 |some a=>match vv (za rs 1) n.B a with
  |none=>none
  |some b=>match vv (za rs 2) n.C b with
   |none=>none
   |some c=>vv (za rs 3) n.D c
def U2 (us:List Up) (ts:List Int):Prop:=∃ u∈us,u.Local=true/\¬za ts u.Index=2
noncomputable def reads (ps:List zc) (n:Ins) (ts:List Int):Option (List Int×List Int):=
 match K6 ((zg n.Op).getD []) n ts with
 |none=>none
 |some a=>if n.Op=11/\U2 (za ps n.B).Ups a.ts then none else some (a.ts,a.tk)
noncomputable def writes (n:Ins) (ts:List Int):List Int:=
 if n.Op=6 then ts.set n.A.toNat 2
 else if n.Op=22\/n.Op=27\/n.Op=28 then ts.set n.A.toNat 3
 else if n.Op=40 then ts.set (n.A+1).toNat 1
 else if n.Op=42 then ts.set n.A.toNat 0
 else if n.Op=41 then ts.set n.C.toNat 3
 else if za ((zg n.Op).getD []) 0=1 then ts.set n.A.toNat 1 else ts
def ud (gs:List Gd) (k:Int):Prop:=∀ g∈gs,g.Try=true->g.Keep<=k
noncomputable def change (n:Ins) (gs:List Gd):Option (List Gd):=
 if n.Op=31 then if (gs.length:Int)<50/\ud gs n.B then some (gs++[⟨true,n.B,n.A⟩]) else none
 else if n.Op=33 then if (gs.length:Int)<50/\ud gs n.A then some (gs++[⟨false,n.A,0⟩]) else none
 else if n.Op=32 then if gs=[]\/(za gs (gs.length-1)).Try=false then none else some gs.dropLast
 else if n.Op=34 then if gs=[]\/(za gs (gs.length-1)).Try=true\/¬ud gs n.A then none else some (gs.set (gs.length-1) { za gs (gs.length-1) with Keep:=n.A })
 else if n.Op=35 then if gs=[]\/(za gs (gs.length-1)).Try=true then none else some gs
 else if n.Op=36 then if gs=[]\/(za gs (gs.length-1)).Try=true then none else some gs.dropLast
 else some gs
def Q7 (gs:List Gd) (tk before behind:List Int):Prop:=
 ∃ g∈gs,g.Try=true/\((∃ r∈tk,r<g.Keep)\/∃ r:Int,0<=r/\r<g.Keep/\¬za before r=za behind r)
noncomputable def wR (n:Ins) (at_:Int) (s:ya) (ts:List Int) (gs:List Gd):List (Int×ya):=
 (if n.Op=19\/n.Op=29\/n.Op=30 then [] else [(at_+1,⟨ts,gs⟩)])++
 (if n.Op=19 then [(n.A,⟨ts,gs⟩)]
  else if n.Op=20\/n.Op=21\/n.Op=38\/n.Op=39 then [(n.B,⟨ts,gs⟩)]
  else if n.Op=41 then [(n.B,⟨ts.set n.C.toNat (za s.Types n.C),gs⟩)]
  else if n.Op=31 then [(n.A,⟨((s.Types.take n.B.toNat++List.replicate (s.Types.length-n.B.toNat) 0).set n.B.toNat 1).set (n.B+1).toNat 1,s.Guards⟩)]
  else [])
noncomputable def Zv (ps:List zc) (n:Ins) (at_:Int) (s:ya):Int ⊕ List (Int×ya):=
 match reads ps n s.Types with
 |none=>.inl 10
 |some (ts,tk)=>match change n s.Guards with
  |none=>.inl 11
  |some gs=>if Q7 s.Guards tk s.Types (writes n ts) then .inl 12 else .inr (wR n at_ s (writes n ts) gs)
noncomputable def Yh:List (Int×ya)->List (Option ya)->List Bool->Int ⊕ (List (Option ya)×List Bool)
 |[],S,due=>.inr (S,due)
 |(j,s)::l,S,due=>match za S j with
  |none=>Yh l (S.set j.toNat (some s)) (due.set j.toNat true)
  |some s'=>if s'=s then Yh l S due else .inl j
def WB (S:List (Option ya)) (due:List Bool):Nat:=2*(S.filter Option.isNone).length+(due.filter id).length
noncomputable def Xz (due:List Bool):Option Int:=z9 (λ j=>za due j=true) 0 due.length
noncomputable def XC (ps:List zc) (f:zc) (S:List (Option ya)) (due:List Bool) (a:Int):(Int×Int) ⊕ (List (Option ya)×List Bool):=
 match Zv ps (za f.Ins a) a ((za S a).getD default) with
 |.inl c=>.inl (c,a)
 |.inr l=>match Yh l S (due.set a.toNat false) with
  |.inl j=>.inl (13,j)
  |.inr r=>.inr r
noncomputable def X6 (ps:List zc) (f:zc) (S:List (Option ya)) (due:List Bool):(Int×Int)×List (Option ya):=
 match Xz due with
 |none=>((0,0),S)
 |some a=>match XC ps f S due a with
  |.inl c=>(c,S)
  |.inr (S',due')=>if h:WB S' due'<WB S due then X6 ps f S' due' else ((0,0),S)
termination_by WB S due
noncomputable def xV (n:Ins) (a:Int):List Int:=
 if n.Op=1\/n.Op=3\/n.Op=28\/n.Op=29\/n.Op=30\/(n.Op=18/\n.B=12) then []
 else if n.Op=19 then [n.A]
 else if n.Op=41 then [n.B]
 else if n.Op=20\/n.Op=21\/n.Op=38\/n.Op=39 then [n.B,a+1]
 else if n.Op=31 then [n.A,a+1]
 else [a+1]
def zt4 (f:zc) (a b:Int):Prop:=b∈xV (za f.Ins a) a
def zaK (f:zc) (a:Int):Prop:=Relation.TransGen (zt4 f) a a
theorem jv {α:Type} [Inhabited α] {l:List α} {i:Int} (h0:0<=i) (h1:i<l.length):za l i∈l:=by
 have:=xX h0 h1
 exact aJ this
theorem Xs {α:Type} [Inhabited α] {l:List α} {x:α} (h:x∈l):∃ i:Int,0<=i/\i<l.length/\za l i=x:=by
 obtain ⟨k,hk⟩:=cX h
 have hl:=(aF.1 hk).1
 refine ⟨k,by omega,by omega,?_⟩
 have:=xX (l:=l) (i:=(k:Int)) (by omega) (by omega)
 rw [cB,hk] at this
 exact (dD this).symm
def QJ (seen:List Bool):Nat:=(seen.filter (!·)).length
theorem zo6:∀ {seen:List Bool} {k:Nat},k<seen.length->seen.getD k default=false->QJ (seen.set k true)+1=QJ seen
 |[],k,h,_=>by simp at h
 |b::l,0,_,h=>by
  have h:b=false:=h
  subst h
  simp [QJ]
 |b::l,k+1,h,e=>by
  have e:l.getD k default=false:=by simpa using e
  have:=zo6 (seen:=l) (k:=k) (by simpa using h) e
  unfold QJ at this ⊢
  rw [List.set_cons_succ,dQ,dQ]
  split
  ·simp only [bC];omega
  ·exact this
theorem zrP {seen:List Bool} {x:Int} (h0:0<=x) (h1:x<seen.length) (h:¬za seen x=true):QJ (seen.set x.toNat true)+1=QJ seen:=
 zo6 (by omega) (by unfold za at h;simpa using h)
def Yl (f:zc):Prop:=∀ a:Int,0<=a->a<f.Ins.length->∀ y∈xV (za f.Ins a) a,0<=y/\y<f.Ins.length
theorem znD (n:Ins) (a:Int):(xV n a).length<=2:=by
 unfold xV
 repeat' split
 all_goals simp
abbrev zou (f:zc) (a b:Int):Prop:=Relation.TransGen (zt4 f) a b
structure Bfs (f:zc) (a:Int) (seen:List Bool) (l:List Int) (i:Int):Prop where
 i0:0<=i
 i1:i<=l.length
 n:seen.length=f.Ins.length
 reach:∀ y∈l,zou f a y
 rng:∀ y∈l,0<=y/\y<f.Ins.length
 first:∀ y∈xV (za f.Ins a) a,y∈l
 past:∀ j:Int,0<=j->j<i->¬za l j=a/\za seen (za l j)=true
 shut:∀ x:Int,0<=x->x<f.Ins.length->za seen x=true->∀ y∈xV (za f.Ins x) x,y∈l
theorem Bfs.end_ {f:zc} {a:Int} {seen:List Bool} {l:List Int} {i:Int} (h:Bfs f a seen l i) (he:¬i<l.length):¬zaK f a:=by
 have hi:i=l.length:=by have:=h.i1;omega
 have key:∀ b,zou f a b->b∈l:=by
  intro b hb
  induction hb with
  |single hs=>exact h.first _ hs
  |tail _ hs ih=>
   obtain ⟨j,j0,j1,e⟩:=Xs ih
   have:=(h.past j j0 (by omega)).2
   rw [e] at this
   obtain ⟨r0,r1⟩:=h.rng _ ih
   exact h.shut _ r0 r1 this _ hs
 intro hr
 obtain ⟨j,j0,j1,e⟩:=Xs (key a hr)
 exact (h.past j j0 (by omega)).1 e
theorem Bfs.hit {f:zc} {a:Int} {seen:List Bool} {l:List Int} {i:Int} (h:Bfs f a seen l i) (he:i<l.length) (e:za l i=a):zaK f a:=by
 have:=h.reach _ (jv h.i0 he)
 rw [e] at this
 exact this
theorem Bfs.skip {f:zc} {a:Int} {seen:List Bool} {l:List Int} {i:Int} (h:Bfs f a seen l i) (he:i<l.length) (e:¬za l i=a) (hs:za seen (za l i)=true):Bfs f a seen l (i+1):=
 ⟨by have:=h.i0;omega,by omega,h.n,h.reach,h.rng,h.first,λ j j0 j1=>by
  by_cases hj:j=i
  ·subst hj;exact ⟨e,hs⟩
  ·exact h.past j j0 (by omega),h.shut⟩
theorem Bfs.more {f:zc} {a:Int} {seen:List Bool} {l:List Int} {i:Int} (hL:Yl f) (h:Bfs f a seen l i) (he:i<l.length) (e:¬za l i=a) (hs:¬za seen (za l i)=true):Bfs f a (seen.set (za l i).toNat true) (l++xV (za f.Ins (za l i)) (za l i)) (i+1):=by
 have hm:=jv h.i0 he
 obtain ⟨r0,r1⟩:=h.rng _ hm
 have hn:=h.n
 have happ:∀ j:Int,0<=j->j<l.length->za (l++xV (za f.Ins (za l i)) (za l i)) j=za l j:=λ j j0 j1=>by
  unfold za
  simp only [List.getD,aD (show j.toNat<l.length by omega)]
 refine ⟨by have:=h.i0;omega,by simp only [aQ];omega,by simpa using hn,λ y hy=>?_,λ y hy=>?_,λ y hy=>bQ _ (h.first y hy),λ j j0 j1=>?_,λ x x0 x1 hx y hy=>?_⟩
 ·rcases aX.1 hy with hy|hy
  ·exact h.reach y hy
  ·exact .tail (h.reach _ hm) hy
 ·rcases aX.1 hy with hy|hy
  ·exact h.rng y hy
  ·exact hL _ r0 r1 y hy
 ·rw [happ j j0 (by omega)]
  have hj0:=h.rng _ (jv (l:=l) j0 (by omega))
  rw [Xh r0 (by omega) hj0.1]
  by_cases hj:j=i
  ·subst hj;exact ⟨e,by simp⟩
  ·obtain ⟨p1,p2⟩:=h.past j j0 (by omega)
   exact ⟨p1,by split;rfl;exact p2⟩
 ·rw [Xh r0 (by omega) x0] at hx
  split at hx
  ·rename_i q;subst q;exact cJ _ hy
  ·exact bQ _ (h.shut x x0 x1 hx y hy)
structure Dfs (f:zc) (a:Int) (seen:List Bool) (l:List Int):Prop where
 n:seen.length=f.Ins.length
 reach:∀ y∈l,zou f a y
 rng:∀ y∈l,0<=y/\y<f.Ins.length
 past:∀ x:Int,0<=x->x<f.Ins.length->za seen x=true->¬x=a/\∀ y∈xV (za f.Ins x) x,y∈l\/(0<=y/\y<f.Ins.length/\za seen y=true)
 first:∀ y∈xV (za f.Ins a) a,y∈l\/(0<=y/\y<f.Ins.length/\za seen y=true)
theorem Dfs.end_ {f:zc} {a:Int} {seen:List Bool} (h:Dfs f a seen []):¬zaK f a:=by
 have key:∀ b,zou f a b->0<=b/\b<f.Ins.length/\za seen b=true:=by
  intro b hb
  induction hb with
  |single hs=>rcases h.first _ hs with h|h;cases h;exact h
  |tail _ hs ih=>
   obtain ⟨r0,r1,r2⟩:=ih
   rcases (h.past _ r0 r1 r2).2 _ hs with h|h;cases h;exact h
 intro hr
 obtain ⟨r0,r1,r2⟩:=key a hr
 exact (h.past a r0 r1 r2).1 rfl
theorem Dfs.hit {f:zc} {a:Int} {seen:List Bool} {l:List Int} {k:Int} (h:Dfs f a seen (l++[k])) (e:k=a):zaK f a:=by
 have:=h.reach k (by simp)
 rw [e] at this
 exact this
theorem Dfs.skip {f:zc} {a:Int} {seen:List Bool} {l:List Int} {k:Int} (h:Dfs f a seen (l++[k])) (hs:za seen k=true):Dfs f a seen l:=by
 obtain ⟨r0,r1⟩:=h.rng k (by simp)
 have mv:∀ y,(y∈l++[k]\/(0<=y/\y<f.Ins.length/\za seen y=true))->y∈l\/(0<=y/\y<f.Ins.length/\za seen y=true):=λ y hy=>by
  rcases hy with hy|hy
  ·rcases aX.1 hy with hy|hy
   ·exact .inl hy
   ·simp at hy;subst hy;exact .inr ⟨r0,r1,hs⟩
  ·exact .inr hy
 exact ⟨h.n,λ y hy=>h.reach y (bQ _ hy),λ y hy=>h.rng y (bQ _ hy),λ x x0 x1 hx=>⟨(h.past x x0 x1 hx).1,λ y hy=>mv y ((h.past x x0 x1 hx).2 y hy)⟩,λ y hy=>mv y (h.first y hy)⟩
theorem Dfs.more {f:zc} {a:Int} {seen:List Bool} {l:List Int} {k:Int} (hL:Yl f) (h:Dfs f a seen (l++[k])) (e:¬k=a) (hs:¬za seen k=true) (q:List Int) (hq:∀ y,y∈q↔y∈xV (za f.Ins k) k):Dfs f a (seen.set k.toNat true) (l++q):=by
 obtain ⟨r0,r1⟩:=h.rng k (by simp)
 have hn:=h.n
 have hset:∀ y:Int,0<=y->za (seen.set k.toNat true) y=if k=y then true else za seen y:=λ y y0=>Xh r0 (by omega) y0
 have mv:∀ y,(y∈l++[k]\/(0<=y/\y<f.Ins.length/\za seen y=true))->y∈l++q\/(0<=y/\y<f.Ins.length/\za (seen.set k.toNat true) y=true):=λ y hy=>by
  rcases hy with hy|⟨y0,y1,hy⟩
  ·rcases aX.1 hy with hy|hy
   ·exact .inl (bQ _ hy)
   ·simp at hy;subst hy;exact .inr ⟨r0,r1,by rw [hset _ r0];simp⟩
  ·exact .inr ⟨y0,y1,by rw [hset _ y0];split;rfl;exact hy⟩
 refine ⟨by simpa using hn,λ y hy=>?_,λ y hy=>?_,λ x x0 x1 hx=>?_,λ y hy=>mv y (h.first y hy)⟩
 ·rcases aX.1 hy with hy|hy
  ·exact h.reach y (bQ _ hy)
  ·exact .tail (h.reach k (by simp)) ((hq y).1 hy)
 ·rcases aX.1 hy with hy|hy
  ·exact h.rng y (bQ _ hy)
  ·exact hL _ r0 r1 y ((hq y).1 hy)
 ·rw [hset x x0] at hx
  split at hx
  ·rename_i e2;subst e2;exact ⟨e,λ y hy=>.inl (cJ _ ((hq y).2 hy))⟩
  ·exact ⟨(h.past x x0 x1 hx).1,λ y hy=>mv y ((h.past x x0 x1 hx).2 y hy)⟩
theorem wN {ps:List zc} {p i:Int} (h:jb ps p i) {s0 s1 s2 s3:Int} (hr:zg (za (za ps p).Ins i).Op=some [s0,s1,s2,s3]):
  yX ps.length (za ps p) s0 (za (za ps p).Ins i).A/\yX ps.length (za ps p) s1 (za (za ps p).Ins i).B/\yX ps.length (za ps p) s2 (za (za ps p).Ins i).C/\yX ps.length (za ps p) s3 (za (za ps p).Ins i).D:=by
 rw [jb,hr] at h
 have h1:=y8.1 h.1
 exact ⟨aP.1 (h1 0 (by omega) (by omega)),aP.1 (h1 1 (by omega) (by omega)),aP.1 (h1 2 (by omega) (by omega)),aP.1 (h1 3 (by omega) (by omega))⟩
theorem zpw {ps:List zc} {p i:Int} (h:jb ps p i):¬i=((za ps p).Ins.length:Int)-1\/(za (za ps p).Ins i).Op=19\/(za (za ps p).Ins i).Op=29\/(za (za ps p).Ins i).Op=30:=by
 rw [jb] at h
 split at h
 ·exact h.elim
 ·exact h.2
theorem zmN {ps:List zc} {p i:Int} (h:jb ps p i):∃ s0 s1 s2 s3,zg (za (za ps p).Ins i).Op=some [s0,s1,s2,s3]:=by
 rw [jb] at h
 split at h
 ·exact h.elim
 ·rename_i rl hr
  have:=zge hr
  match rl,this with
  |[a,b,c,d],_=>exact ⟨a,b,c,d,hr⟩
theorem zyY {ps:List zc} {p i:Int} (h:jb ps p i):
  (((za (za ps p).Ins i).Op=19\/(za (za ps p).Ins i).Op=31)->0<=(za (za ps p).Ins i).A/\(za (za ps p).Ins i).A<(za ps p).Ins.length)/\
  (((za (za ps p).Ins i).Op=20\/(za (za ps p).Ins i).Op=21\/(za (za ps p).Ins i).Op=38\/(za (za ps p).Ins i).Op=39\/(za (za ps p).Ins i).Op=41)->0<=(za (za ps p).Ins i).B/\(za (za ps p).Ins i).B<(za ps p).Ins.length):=by
 refine ⟨λ ho=>?_,λ ho=>?_⟩
 ·rcases ho with ho|ho
  ·have:=(wN h (s0:=10) (s1:=0) (s2:=0) (s3:=0) (by rw [ho];simp [zg])).1
   simp [yX] at this;omega
  ·have:=(wN h (s0:=10) (s1:=14) (s2:=0) (s3:=0) (by rw [ho];simp [zg])).1
   simp [yX] at this;omega
 ·rcases ho with ho|ho|ho|ho|ho
  ·have:=(wN h (s0:=2) (s1:=10) (s2:=0) (s3:=0) (by rw [ho];simp [zg])).2.1
   simp [yX] at this;omega
  ·have:=(wN h (s0:=2) (s1:=10) (s2:=0) (s3:=0) (by rw [ho];simp [zg])).2.1
   simp [yX] at this;omega
  ·have:=(wN h (s0:=18) (s1:=10) (s2:=0) (s3:=0) (by rw [ho];simp [zg])).2.1
   simp [yX] at this;omega
  ·have:=(wN h (s0:=18) (s1:=10) (s2:=0) (s3:=0) (by rw [ho];simp [zg])).2.1
   simp [yX] at this;omega
  ·have:=(wN h (s0:=20) (s1:=10) (s2:=1) (s3:=0) (by rw [ho];simp [zg])).2.1
   simp [yX] at this;omega
theorem zr4 {ps:List zc} {p:Int} (h:∀ i:Int,0<=i->i<(za ps p).Ins.length->jb ps p i):Yl (za ps p):=by
 intro a a0 a1 y hy
 have hs:=h a a0 a1
 obtain ⟨j1,j2⟩:=zyY hs
 have hl:=zpw hs
 unfold xV at hy
 split at hy
 ·cases hy
 rename_i n1
 split at hy
 ·rename_i ho;simp at hy;subst hy;exact j1 (.inl ho)
 rename_i n2
 split at hy
 ·rename_i ho;simp at hy;subst hy;exact j2 (.inr (.inr (.inr (.inr ho))))
 rename_i n3
 have nx:a+1<(za ps p).Ins.length:=by
  rcases hl with hl|hl|hl|hl
  ·omega
  ·exact absurd hl n2
  ·exact absurd (.inr (.inr (.inr (.inl hl)))) n1
  ·exact absurd (.inr (.inr (.inr (.inr (.inl hl))))) n1
 split at hy
 ·rename_i ho
  simp at hy
  rcases hy with rfl|rfl
  ·exact j2 (by rcases ho with h|h|h|h<;>simp [h])
  ·omega
 split at hy
 ·rename_i ho
  simp at hy
  rcases hy with rfl|rfl
  ·exact j1 (.inr ho)
  ·omega
 ·simp at hy;subst hy;omega
structure KQ (f:zc) (s:ya):Prop where
 t:(s.Types.length:Int)=f.Regs
 g:s.Guards.length<=50
 k:∀ x∈s.Guards,0<=x.Keep/\x.Keep<=f.Regs
theorem ziH {r x:Int} {a b:Rd} (h:vv r x a=some b):b.ts.length=a.ts.length:=by
 unfold vv at h
 repeat' split at h
 all_goals first|(cases h;done)|(cases h;simp)
theorem znE {rs:List Int} {n:Ins} {ts:List Int} {b:Rd} (h:K6 rs n ts=some b):b.ts.length=ts.length:=by
 unfold K6 at h
 split at h
 ·cases h
 ·rename_i a h1
  split at h
  ·cases h
  ·rename_i b1 h2
   split at h
   ·cases h
   ·rename_i c h3
    have e1:=ziH h1;have e2:=ziH h2;have e3:=ziH h3;have e4:=ziH h
    simp only at e1
    omega
theorem znF {ps:List zc} {n:Ins} {ts t2 tk:List Int} (h:reads ps n ts=some (t2,tk)):t2.length=ts.length:=by
 unfold reads at h
 split at h
 ·cases h
 ·rename_i a h1
  split at h
  ·cases h
  ·cases h;exact znE h1
theorem zlT (n:Ins) (ts:List Int):(writes n ts).length=ts.length:=by
 unfold writes
 repeat' split
 all_goals simp
theorem zuv {ps:List zc} {p i:Int} (h:jb ps p i) {gs gs':List Gd} (hg:gs.length<=50) (hk:∀ x∈gs,0<=x.Keep/\x.Keep<=(za ps p).Regs) (hr:0<=(za ps p).Regs) (e:change (za (za ps p).Ins i) gs=some gs'):gs'.length<=50/\∀ x∈gs',0<=x.Keep/\x.Keep<=(za ps p).Regs:=by
 unfold change at e
 have dl:∀ x∈gs.dropLast,0<=x.Keep/\x.Keep<=(za ps p).Regs:=λ x hx=>hk x (List.dropLast_subset _ hx)
 split at e
 ·rename_i ho
  have:=(wN h (s0:=10) (s1:=14) (s2:=0) (s3:=0) (by rw [ho];simp [zg])).2.1
  simp [yX] at this
  split at e
  ·cases e
   refine ⟨by simp;omega,λ x hx=>?_⟩
   rcases aX.1 hx with hx|hx
   ·exact hk x hx
   ·simp at hx;subst hx;simp only;omega
  ·cases e
 split at e
 ·rename_i ho
  have:=(wN h (s0:=13) (s1:=0) (s2:=0) (s3:=0) (by rw [ho];simp [zg])).1
  simp [yX] at this
  split at e
  ·cases e
   refine ⟨by simp;omega,λ x hx=>?_⟩
   rcases aX.1 hx with hx|hx
   ·exact hk x hx
   ·simp at hx;subst hx;simp only;omega
  ·cases e
 split at e
 ·split at e
  ·cases e
  ·cases e;exact ⟨by simp;omega,dl⟩
 split at e
 ·rename_i ho
  have:=(wN h (s0:=13) (s1:=0) (s2:=0) (s3:=0) (by rw [ho];simp [zg])).1
  simp [yX] at this
  split at e
  ·cases e
  ·cases e
   refine ⟨by simpa using hg,λ x hx=>?_⟩
   rcases dC hx with hx|rfl
   ·exact hk x hx
   ·simp only;omega
 split at e
 ·split at e
  ·cases e
  ·cases e;exact ⟨hg,hk⟩
 split at e
 ·split at e
  ·cases e
  ·cases e;exact ⟨by simp;omega,dl⟩
 ·cases e;exact ⟨hg,hk⟩
theorem zm0 {ps:List zc} {p i:Int} (h:jb ps p i) (i0:0<=i) (i1:i<(za ps p).Ins.length) (hr:0<=(za ps p).Regs) {s:ya} (hs:KQ (za ps p) s) {l:List (Int×ya)} (e:Zv ps (za (za ps p).Ins i) i s=.inr l):
  ∀ x∈l,(0<=x.1/\x.1<(za ps p).Ins.length)/\KQ (za ps p) x.2:=by
 unfold Zv at e
 split at e
 ·cases e
 rename_i ts tk h1
 split at e
 ·cases e
 rename_i gs h2
 split at e
 ·cases e
 cases e
 have hl:=znF h1
 have hw:=zlT (za (za ps p).Ins i) ts
 have hst:=hs.t
 obtain ⟨g1,g2⟩:=zuv h hs.g hs.k hr h2
 obtain ⟨j1,j2⟩:=zyY h
 have hla:=zpw h
 have base:KQ (za ps p) ⟨writes (za (za ps p).Ins i) ts,gs⟩:=⟨by simp only;omega,g1,g2⟩
 intro x hx
 unfold wR at hx
 rcases aX.1 hx with hx|hx
 ·split at hx
  ·cases hx
  ·rename_i ho
   simp at hx;subst hx
   refine ⟨⟨by simp only;omega,?_⟩,base⟩
   rcases hla with hla|hla|hla|hla
   ·simp only;omega
   ·exact absurd (.inl hla) ho
   ·exact absurd (.inr (.inl hla)) ho
   ·exact absurd (.inr (.inr hla)) ho
 ·split at hx
  ·rename_i ho;simp at hx;subst hx;exact ⟨j1 (.inl ho),base⟩
  split at hx
  ·rename_i ho;simp at hx;subst hx;exact ⟨j2 (by rcases ho with h|h|h|h<;>simp [h]),base⟩
  split at hx
  ·rename_i ho;simp at hx;subst hx;exact ⟨j2 (by simp [ho]),⟨by simp only [bI];omega,g1,g2⟩⟩
  split at hx
  ·rename_i ho;simp at hx;subst hx
   have:=(wN h (s0:=10) (s1:=14) (s2:=0) (s3:=0) (by rw [ho];simp [zg])).2.1
   simp [yX] at this
   exact ⟨j1 (.inr ho),⟨by simp;omega,hs.g,hs.k⟩⟩
  ·cases hx
theorem count_set {α:Type} [Inhabited α] (p:α->Bool) (v:α):∀ (l:List α) (k:Nat),k<l.length->((l.set k v).filter p).length+(if p (l.getD k default) then 1 else 0)=(l.filter p).length+(if p v then 1 else 0)
 |[],k,h=>by simp at h
 |b::l,0,_=>by
  rw [List.set_cons_zero,dQ,dQ]
  show _+(if p b then 1 else 0)=_
  cases p b<;>cases p v<;>simp
 |b::l,k+1,h=>by
  have:=count_set p v l k (by simpa using h)
  rw [List.set_cons_succ,dQ,dQ]
  show _+(if p (l.getD k default) then 1 else 0)=_
  cases p b<;>simp only [bG,if_false,if_true,bC]<;>omega
structure WOk (f:zc) (S:List (Option ya)) (due:List Bool):Prop where
 s:S.length=f.Ins.length
 d:due.length=f.Ins.length
 ok:∀ i:Int,0<=i->i<f.Ins.length->∀ s,za S i=some s->KQ f s
 due:∀ i:Int,0<=i->i<f.Ins.length->za due i=true->∃ s,za S i=some s
theorem zxH {f:zc} {S:List (Option ya)} {due:List Bool} {j:Int} {s:ya} (h1:S.length=f.Ins.length) (h2:due.length=f.Ins.length) (j0:0<=j) (j1:j<f.Ins.length) (hn:za S j=none):WB (S.set j.toNat (some s)) (due.set j.toNat true)<WB S due:=by
 have a:=count_set Option.isNone (some s) S j.toNat (by omega)
 have b:=count_set id true due j.toNat (by omega)
 have e:S.getD j.toNat default=none:=hn
 rw [e] at a
 simp only [Option.isNone_none,Option.isNone_some,bG,if_true,if_false,id] at a b
 unfold WB
 split at b<;>omega
theorem zkc {f:zc}:∀ (l:List (Int×ya)) (S:List (Option ya)) (due:List Bool),WOk f S due->(∀ x∈l,(0<=x.1/\x.1<f.Ins.length)/\KQ f x.2)->∀ S' due',Yh l S due=.inr (S',due')->WOk f S' due'/\WB S' due'<=WB S due
 |[],S,due,h,_,S',due',e=>by
  simp only [Yh,Sum.inr.injEq,aG] at e
  obtain ⟨rfl,rfl⟩:=e
  exact ⟨h,aS _⟩
 |(j,s)::l,S,due,h,hl,S',due',e=>by
  obtain ⟨⟨j0,j1⟩,hs⟩:=hl (j,s) (by simp)
  simp only at j0 j1 hs
  have h1:=h.s;have h2:=h.d
  rw [Yh] at e
  split at e
  ·rename_i hn
   have hw:WOk f (S.set j.toNat (some s)) (due.set j.toNat true):=⟨by simpa using h1,by simpa using h2,λ i i0 i1 s' e'=>by
     rw [Xh j0 (by omega) i0] at e'
     split at e'
     ·cases e';exact hs
     ·exact h.ok i i0 i1 s' e',λ i i0 i1 e'=>by
     rw [Xh j0 (by omega) i0] at e' ⊢
     split at e'
     ·rename_i q;rw [if_pos q];exact ⟨_,rfl⟩
     ·rename_i q;rw [if_neg q];exact h.due i i0 i1 e'⟩
   obtain ⟨k1,k2⟩:=zkc l _ _ hw (λ x hx=>hl x (bL _ hx)) S' due' e
   have:=zxH (s:=s) h1 h2 j0 j1 hn
   exact ⟨k1,by omega⟩
  ·split at e
   ·exact zkc l _ _ h (λ x hx=>hl x (bL _ hx)) S' due' e
   ·cases e
theorem zkU {due:List Bool} {a:Int} (h:Xz due=some a):(0<=a/\a<due.length)/\za due a=true/\∀ j:Int,0<=j->j<a->¬za due j=true:=by
 obtain ⟨h1,h2,h3,h4⟩:=xE.1 h
 exact ⟨⟨h1,h2⟩,h3,λ j j0 j1=>h4 j j0 j1⟩
theorem zf8 {ps:List zc} {p:Int} (hI:∀ i:Int,0<=i->i<(za ps p).Ins.length->jb ps p i) (hr:0<=(za ps p).Regs) {S:List (Option ya)} {due:List Bool} (h:WOk (za ps p) S due) {a:Int} (ha:Xz due=some a) {S':List (Option ya)} {due':List Bool} (e:XC ps (za ps p) S due a=.inr (S',due')):
  WOk (za ps p) S' due'/\WB S' due'<WB S due:=by
 obtain ⟨⟨a0,a1⟩,a2,_⟩:=zkU ha
 have h1:=h.s;have h2:=h.d
 obtain ⟨s,hs⟩:=h.due a a0 (by omega) a2
 have hsok:=h.ok a a0 (by omega) s hs
 unfold XC at e
 rw [hs] at e
 simp only [cR] at e
 split at e
 ·cases e
 rename_i l hl
 have hl2:=zm0 (hI a a0 (by omega)) a0 (by omega) hr hsok hl
 split at e
 ·cases e
 rename_i r hv
 cases e
 have hw:WOk (za ps p) S (due.set a.toNat false):=⟨h1,by simpa using h2,h.ok,λ i i0 i1 e'=>by
  rw [Xh a0 a1 i0] at e'
  split at e'
  ·cases e'
  ·exact h.due i i0 i1 e'⟩
 obtain ⟨k1,k2⟩:=zkc l S _ hw hl2 S' due' hv
 refine ⟨k1,?_⟩
 have b:=count_set id false due a.toNat (by omega)
 have e:due.getD a.toNat default=true:=a2
 rw [e] at b
 simp only [id,if_true,bG,if_false] at b
 unfold WB at k2 ⊢
 omega
theorem zgg {ps:List zc} {f:zc} {S:List (Option ya)} {due:List Bool} (h:Xz due=none):X6 ps f S due=((0,0),S):=by
 rw [X6];simp only [h]
theorem zct {ps:List zc} {f:zc} {S:List (Option ya)} {due:List Bool} {a:Int} {c:Int×Int} (h:Xz due=some a) (e:XC ps f S due a=.inl c):X6 ps f S due=(c,S):=by
 rw [X6];simp only [h,e]
theorem znf {ps:List zc} {f:zc} {S S':List (Option ya)} {due due':List Bool} {a:Int} (h:Xz due=some a) (e:XC ps f S due a=.inr (S',due')) (hm:WB S' due'<WB S due):X6 ps f S due=X6 ps f S' due':=by
 rw [X6];simp only [h,e];rw [dif_pos hm]
abbrev ym (l:List Int):List (List PV):=l.map λ k=>[PV.int .i64 k]
def zBH:Option (List (List PV))->Bool->zd->Nat->Nat->PV->Option (PV×zd×zI)
 |some new,true,H,sz,bytes,x=>xe H sz bytes x new
 |_,_,_,_,_,_=>none
theorem zG {P:xn} (sz bytes:Nat) (x y:zy) (st:St):zt P.glob (CL P) st (.append sz bytes x y)=zBH (uu st.H (y.get P.glob st)) (xU st.H sz (y.get P.glob st)) st.H sz bytes (x.get P.glob st):=by
 show (match uu st.H (y.get P.glob st),xU st.H sz (y.get P.glob st) with|some new,true=>xe st.H sz bytes (x.get P.glob st) new|_,_=>none)=_
 cases uu st.H (y.get P.glob st)<;>cases xU st.H sz (y.get P.glob st)<;>rfl
theorem zA (new:List (List PV)) (H:zd) (sz bytes:Nat) (x:PV):zBH (some new) true H sz bytes x=xe H sz bytes x new:=rfl
theorem x_ (H:zd) (sz bytes:Nat) (new:List (List PV)) (h:new.length*bytes<=35184372088832):xe H sz bytes .nils new=some (.sl H.length 0 new.length new.length,H++[.cells sz new],[]):=by
 simp [xe,h]
def bsK (sz:Nat) (zero cs:List PV) (H:zd):Option (PV×zd×zI):=match zS [zero] [(0,cs)] with
  |some rows=>some (.sl H.length 0 1 1,H++[.cells sz rows],[])
  |none=>none
theorem zz {P:xn} (sz:Nat) (zero:List PV) (x:zy) (st:St):zt P.glob (CL P) st (.buildSlice sz 1 zero [(0,x)])=bsK sz zero (cellsOf (x.get P.glob st)) st.H:=rfl
theorem je (sz:Nat) (zero cs:List PV) (H:zd) (h:(zero.length==cs.length&&cs.all zH)=true):bsK sz zero cs H=some (.sl H.length 0 1 1,H++[.cells sz [cs]],[]):=by
 simp only [bsK,zS,bW,h,List.set_cons_zero]
theorem yi (v:Int) (H:zd):bsK 1 [.int .i64 0] [.int .i64 v] H=some (.sl H.length 0 1 1,H++[.cells 1 [[.int .i64 v]]],[]):=je _ _ _ _ rfl
theorem ju (H:zd) (sz:Nat) (cs:List PV):uu (H++[.cells sz [cs]]) (.sl H.length 0 1 1)=some [cs]/\xU (H++[.cells sz [cs]]) sz (.sl H.length 0 1 1)=true:=by
 constructor<;>simp [uu,xU]
theorem Xi (H:zd) (n:Nat) (hn:n=H.length) (sz:Nat) (cs:List PV):uu (H++[.cells sz [cs]]) (.sl n 0 1 1)=some [cs]/\xU (H++[.cells sz [cs]]) sz (.sl n 0 1 1)=true:=by
 subst hn;exact ju H sz cs
theorem Ym {H:zd} {id sz by':Nat} {rows:List (List PV)} {n:Nat} (h:H[id]?=some (.cells sz rows)) (hn:n=rows.length) (hb:(n+1)*by'<=35184372088832) (cs:List PV) (hr:zn cs=[]):xe H sz by' (.sl id 0 n n) [cs]=some (.sl id 0 (n+1) (n+1),H.set id (.cells sz (rows++[cs])),[]):=by
 subst hn
 have c1:(rows.length==rows.length&&sz==sz&&decide (0+rows.length<=rows.length)&&decide ((0+rows.length+[cs].length)*by'<=35184372088832))=true:=by simp;exact hb
 have c2:decide (0+rows.length+[cs].length<=rows.length)=false:=by simp
 simp only [xe,h,c1,c2]
 simp [wG,hr]
theorem zya (l:List Int):∀ r∈ym l,zn r=[]:=by
 intro r hr
 obtain ⟨k,_,rfl⟩:=bU.1 hr
 rfl
theorem jD {d:Nat} {H:zd} {id:Nat} {l:List Int} (h:H[id]?=some (.cells 1 (ym l))):frz (d+2) H (.sl id 0 l.length l.length)=yt l:=by
 have e:List.take l.length (List.map (λ k=>[PV.int .i64 k]) l)=List.map (λ k=>[PV.int .i64 k]) l:=dH (by simp)
 simp [frz,h,ym,Function.comp_def,e]
theorem kP {d:Nat} {H:zd} {id:Nat} {l:List Gd} (h:H[id]?=some (.cells 3 (l.map Gd.cells))):frz (d+2) H (.sl id 0 l.length l.length)=gds l:=by
 have e:List.take l.length (List.map (λ x:Gd=>[PV.bool x.Try,PV.int .i64 x.Keep,PV.int .i64 x.Handler]) l)=List.map Gd.cells l:=dH (by simp)
 simp [frz,h,Function.comp_def,e]
theorem zaS {α:Type} [Inhabited α] {l:List α} {i:Int} (h0:0<=i) (h1:i<l.length):l.take (i+1).toNat=l.take i.toNat++[za l i]:=by
 have e:(i+1).toNat=i.toNat+1:=by omega
 rw [e,List.take_succ,xX h0 h1];rfl
end Go.Proofs.Tryd.Av
end
section
attribute [local congr] ite_congr
set_option maxRecDepth 10000
set_option maxHeartbeats 4000000
namespace Go.Proofs.Tryd.Av
open Go Go.Av Classical
theorem zyP (r:Int):EP A zeX [.int .i64 r]=some (.tup [.int .i64 (xQ r),.bool (decide (wu r))]):=by
 by_cases h2:r=2
 ·subst h2;simp -implicitDefEqProofs +contextual (disch:=omega) only [vO,vT,vw, ↓XD,XU, ↓reduceIte,sevalprocAttr];simp [xQ,wu]
 by_cases h3:r=3
 ·subst h3;simp -implicitDefEqProofs +contextual (disch:=omega) only [vO,vT,vw, ↓XD,XU, ↓reduceIte,sevalprocAttr];simp [xQ,wu]
 by_cases h4:r=4
 ·subst h4;simp -implicitDefEqProofs +contextual (disch:=omega) only [vO,vT,vw, ↓XD,XU, ↓reduceIte,sevalprocAttr];simp [xQ,wu]
 by_cases h5:r=5
 ·subst h5;simp -implicitDefEqProofs +contextual (disch:=omega) only [vO,vT,vw, ↓XD,XU, ↓reduceIte,sevalprocAttr];simp [xQ,wu]
 by_cases h6:r=6
 ·subst h6;simp -implicitDefEqProofs +contextual (disch:=omega) only [vO,vT,vw, ↓XD,XU, ↓reduceIte,sevalprocAttr];simp [xQ,wu]
 by_cases h18:r=18
 ·subst h18;simp -implicitDefEqProofs +contextual (disch:=omega) only [vO,vT,vw, ↓XD,XU, ↓reduceIte,sevalprocAttr];simp [xQ,wu]
 by_cases h19:r=19
 ·subst h19;simp -implicitDefEqProofs +contextual (disch:=omega) only [vO,vT,vw, ↓XD,XU, ↓reduceIte,sevalprocAttr];simp [xQ,wu]
 by_cases h20:r=20
 ·subst h20;simp -implicitDefEqProofs +contextual (disch:=omega) only [vO,vT,vw, ↓XD,XU, ↓reduceIte,sevalprocAttr];simp [xQ,wu]
 simp -implicitDefEqProofs +contextual (disch:=omega) only [vO,vT,vw, ↓XD,XU, ↓reduceIte,sevalprocAttr,h2,h3,h4,h5,h6,h18,h19,h20];simp [xQ,wu,h2,h3,h4,h5,h6,h18,h19,h20]
theorem Xg {p:PV} {l:List Int} (h:xP p l):ZH p=some (.int .i64 l.length):=by
 rcases h with rfl|⟨rfl,rfl⟩<;>simp [ZH]
theorem wh {p:PV} {l:List Gd} (h:xo p l):ZH p=some (.int .i64 l.length):=by
 rcases h with rfl|⟨rfl,rfl⟩<;>simp [ZH]
theorem wP {p:PV} {l:List Int} (h:xP p l) (H:zd) (k:IntKind) (i:Int) (h0:0<=i) (h1:i<l.length):wH 1 H p (.int k i)=some (.fp [.int .i64 (za l i)] 0):=by
 rcases h with rfl|⟨rfl,rfl⟩
 ·have:=xX h0 h1
  simp [wH,h0,aN,this]
 ·simp at h1;omega
theorem xR {p:PV} {l:List Gd} (h:xo p l) (H:zd) (k:IntKind) (i:Int) (h0:0<=i) (h1:i<l.length):wH 3 H p (.int k i)=some (.fp (za l i).cells 0):=by
 rcases h with rfl|⟨rfl,rfl⟩
 ·have:=xX h0 h1
  simp [wH,h0,aN,this]
 ·simp at h1;omega
theorem vQ {p:PV} {l:List Int} (h:xP p l) (d:Nat) (H:zd):frz (d+1) H p=p:=by rcases h with rfl|⟨rfl,rfl⟩<;>rfl
theorem wl {p:PV} {l:List Gd} (h:xo p l) (d:Nat) (H:zd):frz (d+1) H p=p:=by rcases h with rfl|⟨rfl,rfl⟩<;>rfl
theorem yB {p:PV} {l:List Int} (h:xP p l):refs p=[]:=by rcases h with rfl|⟨rfl,rfl⟩<;>rfl
theorem yI {p:PV} {l:List Gd} (h:xo p l):refs p=[]:=by rcases h with rfl|⟨rfl,rfl⟩<;>rfl
theorem jl {p:PV} {l:List Int} (h:xP p l):zH p=true:=by rcases h with rfl|⟨rfl,rfl⟩<;>rfl
theorem xf {p:PV} {l:List Gd} (h:xo p l):zH p=true:=by rcases h with rfl|⟨rfl,rfl⟩<;>rfl
theorem ut {p:PV} {l:List Int} (h:xP p l):cellsOf p=[p]:=by rcases h with rfl|⟨rfl,rfl⟩<;>rfl
theorem yQ {p:PV} {l:List Gd} (h:xo p l):cellsOf p=[p]:=by rcases h with rfl|⟨rfl,rfl⟩<;>rfl
theorem zxD (p:PV) (gs:List Gd) (k:Int) (h:xo p gs) (hb:gs.length<=1048576):match z9 (λ (j:Int)=>(za gs j).Try=true/\k<(za gs j).Keep) 0 gs.length with|some j=>∃ st,EV A (.loop (VE 0)) (⟨[(0,p),(1,.int .i64 k),(4,.bool false),(7,p),(8,.int .i64 gs.length),(9,.int .i64 (0))],[],[],[]⟩:St)=some (.ret,st)/\st.per.get 4=.bool false|none=>EV A (.loop (VE 0)) (⟨[(0,p),(1,.int .i64 k),(4,.bool false),(7,p),(8,.int .i64 gs.length),(9,.int .i64 (0))],[],[],[]⟩:St)=some (zp.exit 0,(⟨[(0,p),(1,.int .i64 k),(4,.bool false),(7,p),(8,.int .i64 gs.length),(9,.int .i64 (gs.length))],[],[],[]⟩:St)):=by
 refine yr (λ i=>(⟨[(0,p),(1,.int .i64 k),(4,.bool false),(7,p),(8,.int .i64 gs.length),(9,.int .i64 i)],[],[],[]⟩:St)) (λ (j:Int)=>(za gs j).Try=true/\k<(za gs j).Keep) (λ (j:Int) (st:St)=>st.per.get 4=.bool false) (zp.exit 0,(⟨[(0,p),(1,.int .i64 k),(4,.bool false),(7,p),(8,.int .i64 gs.length),(9,.int .i64 (gs.length))],[],[],[]⟩:St)) (0) (gs.length) ?_ ?_ ?_ (0) (by omega) (by omega)
 ·intro i hi hn hp
  have hi':=xR h [] .i64 i hi hn;have hi2:=λ H=>xR h H .i64 i hi hn;simp only [Gd.cells] at hi2
  by_cases c:(za gs i).Try=true
  ·have c2:¬k<(za gs i).Keep:=λ h2=>hp ⟨c,h2⟩
   refine ⟨_,by (simp -implicitDefEqProofs +contextual (disch:=omega) only [YD,kf, ↓XD,XU, ↓reduceIte,sevalprocAttr,hi2,c,c2,hn])<;>rfl,by simp [St.next,trim,bare,zn,refs,yI h]⟩
  ·refine ⟨_,by (simp -implicitDefEqProofs +contextual (disch:=omega) only [YD,kf, ↓XD,XU, ↓reduceIte,sevalprocAttr,hi2,c,hn])<;>rfl,by simp [St.next,trim,bare,zn,refs,yI h]⟩
 ·intro i hi hn hp
  have hi':=xR h [] .i64 i hi hn;have hi2:=λ H=>xR h H .i64 i hi hn;simp only [Gd.cells] at hi2
  obtain ⟨c,c2⟩:=hp
  refine ⟨_,by (simp -implicitDefEqProofs +contextual (disch:=omega) only [YD,kf, ↓XD,XU, ↓reduceIte,sevalprocAttr,hi2,c,c2,hn])<;>rfl,by simp [zk.get,zk.put]⟩
 ·rintro i hi rfl
  refine ⟨by simp -implicitDefEqProofs +contextual (disch:=omega) only [YD,kf, ↓XD,XU, ↓reduceIte,sevalprocAttr,yI h,aL],by simp⟩
theorem zfR {p:PV} {gs:List Gd} (h:xo p gs) (k:Int) (hb:gs.length<=1048576):EP A zeQ [p,.int .i64 k]=some (.bool (decide (ud gs k))):=by
 have hl:=zxD p gs k h hb
 have hlen:=wh h
 cases hs:z9 (λ j=>(za gs j).Try=true/\k<(za gs j).Keep) 0 gs.length with
 |none=>
  rw [hs] at hl
  have ha:ud gs k:=λ g hg ht=>by
   obtain ⟨j,j0,j1,e⟩:=Xs hg
   have:=y8.1 hs j j0 j1
   rw [e] at this
   by_cases c:k<g.Keep
   ·exact absurd ⟨ht,c⟩ this
   ·omega
  simp -implicitDefEqProofs +contextual (disch:=omega) only [zem,ze8,kf, ↓XD,XU, ↓reduceIte,sevalprocAttr,hlen,hl,ha]
 |some j=>
  rw [hs] at hl
  obtain ⟨st,hl,hg⟩:=hl
  obtain ⟨j0,j1,⟨ht,c⟩,_⟩:=xE.1 hs
  have ha:¬ud gs k:=λ ha=>by
   have:=ha _ (jv j0 j1) ht
   omega
  simp -implicitDefEqProofs +contextual (disch:=omega) only [zem,ze8,kf, ↓XD,XU, ↓reduceIte,sevalprocAttr,hlen,hl,hg,ha]
def VK (i:Int):PV:=if i=0 then .nils else .sl 1 0 i.toNat i.toNat
def cpH (l:List Int) (i:Int):zd:=if i=0 then [] else [.cells 1 [[.int .i64 (za l 0)]],.cells 1 (ym (l.take i.toNat))]
theorem Kb {i:Int} (h:¬i=0):VK i=.sl 1 0 i.toNat i.toNat:=by rw [VK,if_neg h]
theorem QI {l:List Int} {i:Int} (h:¬i=0):cpH l i=[.cells 1 [[.int .i64 (za l 0)]],.cells 1 (ym (l.take i.toNat))]:=by rw [cpH,if_neg h]
theorem zlB {α:Type} [Inhabited α] {l:List α} (h:0<l.length):l.take 1=[za l 0]:=by
 cases l with
 |nil=>simp at h
 |cons a l=>rfl
theorem zAq {p:PV} {l:List Int} (h:xP p l) (hb:l.length<=1048576):EV A (.loop (U4 0)) ⟨[(0,p),(2,.nils),(3,.nils),(6,p),(7,.int .i64 l.length),(8,.int .i64 0)],[],[],[]⟩=some (.exit 0,⟨[(0,p),(2,.nils),(3,VK l.length),(6,p),(7,.int .i64 l.length),(8,.int .i64 l.length)],[],cpH l l.length,[]⟩):=by
 have key:=vC (P:=A) (body:=(U4 0)) (λ i (a:Unit)=>(⟨[(0,p),(2,.nils),(3,VK i),(6,p),(7,.int .i64 l.length),(8,.int .i64 i)],[],cpH l i,[]⟩:St)) (λ _ a=>a) (λ _ _=>True)
  (λ _=>(zp.exit 0,(⟨[(0,p),(2,.nils),(3,VK l.length),(6,p),(7,.int .i64 l.length),(8,.int .i64 l.length)],[],cpH l l.length,[]⟩:St))) 0 l.length ?_ ?_ 0 () (by omega) (by omega) trivial
 ·exact key.1
 ·intro i a hi hn _
  have hx:=λ H=>wP h H .i64 i hi hn
  refine ⟨?_,trivial⟩
  by_cases c:i=0
  ·subst c
   have hr:=ju [] 1 [.int .i64 (za l 0)]
   have ha:=x_ [.cells 1 [[.int .i64 (za l 0)]]] 1 8 [[.int .i64 (za l 0)]] (by simp)
   have e1:VK 0=.nils:=rfl
   have e2:cpH l 0=[]:=rfl
   have e3:VK (0+1)=.sl 1 0 1 1:=rfl
   have e4:cpH l (0+1)=[.cells 1 [[.int .i64 (za l 0)]],.cells 1 [[.int .i64 (za l 0)]]]:=by
    rw [QI (by decide)]
    show [_,zZ.cells 1 (ym (l.take 1))]=_
    rw [zlB (by omega)];rfl
   simp only [aA,bE] at hr
   simp only [bK,bC,bE,List.singleton_append] at ha
   refine ⟨_,by (simp -implicitDefEqProofs +contextual (disch:=omega) only [J5,VU,e1,e2, ↓zz, ↓zG,yi,zA, ↓XD,XU, ↓reduceIte,sevalprocAttr,hx,hn,hr.1,hr.2,ha])<;>rfl,?_⟩
   rw [e3,e4]
   simp [e1,e2,St.next,trim,bare,zn,refs,yB h]
  ·have hl:¬i+1=0:=by omega
   have e5:l.take (i+1).toNat=l.take i.toNat++[za l i]:=zaS hi hn
   have e6:(i+1).toNat=i.toNat+1:=by omega
   have e7:(l.take i.toNat).length=i.toNat:=by rw [dG];omega
   have hr:=Xi [.cells 1 [[.int .i64 (za l 0)]],.cells 1 (ym (l.take i.toNat))] 2 rfl 1 [.int .i64 (za l i)]
   have ha:=Ym (H:=[.cells 1 [[.int .i64 (za l 0)]],.cells 1 (ym (l.take i.toNat)),.cells 1 [[.int .i64 (za l i)]]]) (id:=1) (sz:=1) (by':=8) (n:=i.toNat) rfl (by simp only [ym,cF,e7]) (by omega) [.int .i64 (za l i)] rfl
   simp only [aB,aA] at hr
   refine ⟨_,by (simp -implicitDefEqProofs +contextual (disch:=omega) only [J5,VU,Kb c,QI c, ↓zz, ↓zG,yi,zA, ↓XD,XU, ↓reduceIte,sevalprocAttr,hx,hn,hr.1,hr.2,ha])<;>rfl,?_⟩
   rw [Kb hl,QI hl,e5,e6]
   simp [Kb c,QI c,St.next,trim,bare,zn,refs,yB h,ym]
 ·rintro i a hi rfl _
  refine ⟨by simp -implicitDefEqProofs +contextual (disch:=omega) only [J5,VU, ↓XD,XU, ↓reduceIte,sevalprocAttr,aL],by simp⟩
theorem zcJ {p:PV} {l:List Int} (h:xP p l) (hb:l.length<=1048576):ES A zgI [p] []=some (VK l.length,cpH l l.length,[]):=by
 have hl:=zAq h hb
 have hlen:=Xg h
 simp -implicitDefEqProofs +contextual (disch:=omega) only [zoi,zos,VU, ↓XD,XU, ↓reduceIte,sevalprocAttr,hlen,hl]
 by_cases c:(l.length:Int)=0
 ·simp [zT,cpH,c]
 ·simp [Kb c,QI c,trim,bare,zn,refs]
def KY (i:Int):PV:=if i=0 then .nils else .sl 2 0 i.toNat i.toNat
def gpH (l:List Gd) (i:Int):zd:=if i=0 then [] else [.cells 3 [(za l 0).cells],.cells 3 [(za l 0).cells],.cells 3 ((l.take i.toNat).map Gd.cells)]
theorem Kf {i:Int} (h:¬i=0):KY i=.sl 2 0 i.toNat i.toNat:=by rw [KY,if_neg h]
theorem QN {l:List Gd} {i:Int} (h:¬i=0):gpH l i=[.cells 3 [(za l 0).cells],.cells 3 [(za l 0).cells],.cells 3 ((l.take i.toNat).map Gd.cells)]:=by rw [gpH,if_neg h]
theorem zuo (g:Gd) (H:zd):bsK 3 [.bool false,.int .i64 0,.int .i64 0] [.bool g.Try,.int .i64 g.Keep,.int .i64 g.Handler] H=some (.sl H.length 0 1 1,H++[.cells 3 [g.cells]],[]):=je _ _ _ _ rfl
theorem zny {p:PV} {l:List Gd} (h:xo p l) (hb:l.length<=1048576):EV A (.loop (WK 0)) ⟨[(0,p),(2,.nils),(3,.nils),(6,p),(7,.int .i64 l.length),(8,.int .i64 0)],[],[],[]⟩=some (.exit 0,⟨[(0,p),(2,.nils),(3,KY l.length),(6,p),(7,.int .i64 l.length),(8,.int .i64 l.length)],[],gpH l l.length,[]⟩):=by
 have key:=vC (P:=A) (body:=(WK 0)) (λ i (a:Unit)=>(⟨[(0,p),(2,.nils),(3,KY i),(6,p),(7,.int .i64 l.length),(8,.int .i64 i)],[],gpH l i,[]⟩:St)) (λ _ a=>a) (λ _ _=>True)
  (λ _=>(zp.exit 0,(⟨[(0,p),(2,.nils),(3,KY l.length),(6,p),(7,.int .i64 l.length),(8,.int .i64 l.length)],[],gpH l l.length,[]⟩:St))) 0 l.length ?_ ?_ 0 () (by omega) (by omega) trivial
 ·exact key.1
 ·intro i a hi hn _
  have hx:=λ H=>xR h H .i64 i hi hn
  simp only [Gd.cells] at hx
  refine ⟨?_,trivial⟩
  by_cases c:i=0
  ·subst c
   have hr:=ju [.cells 3 [(za l 0).cells]] 3 (za l 0).cells
   have ha:=x_ [.cells 3 [(za l 0).cells],.cells 3 [(za l 0).cells]] 3 24 [(za l 0).cells] (by simp)
   have e1:KY 0=.nils:=rfl
   have e2:gpH l 0=[]:=rfl
   have e3:KY (0+1)=.sl 2 0 1 1:=rfl
   have e4:gpH l (0+1)=[.cells 3 [(za l 0).cells],.cells 3 [(za l 0).cells],.cells 3 [(za l 0).cells]]:=by
    rw [QN (by decide)]
    show [_,_,zZ.cells 3 ((l.take 1).map Gd.cells)]=_
    rw [zlB (by omega)];rfl
   simp only [aB,aA,bE,bC,Gd.cells] at hr ha
   refine ⟨_,by (simp -implicitDefEqProofs +contextual (disch:=omega) only [VB,Zu,e1,e2, ↓zz, ↓zG,zuo,zA,Gd.cells, ↓XD,XU, ↓reduceIte,sevalprocAttr,hx,hn,hr.1,hr.2,ha])<;>rfl,?_⟩
   rw [e3,e4]
   simp [e1,e2,St.next,trim,bare,zn,refs,yI h]
  ·have hl:¬i+1=0:=by omega
   have e5:l.take (i+1).toNat=l.take i.toNat++[za l i]:=zaS hi hn
   have e6:(i+1).toNat=i.toNat+1:=by omega
   have e7:(l.take i.toNat).length=i.toNat:=by rw [dG];omega
   have hr:=Xi [.cells 3 [(za l 0).cells],.cells 3 [(za l 0).cells],.cells 3 ((l.take i.toNat).map Gd.cells),.cells 3 [(za l i).cells]] 4 rfl 3 (za l i).cells
   have ha:=Ym (H:=[.cells 3 [(za l 0).cells],.cells 3 [(za l 0).cells],.cells 3 ((l.take i.toNat).map Gd.cells),.cells 3 [(za l i).cells],.cells 3 [(za l i).cells]]) (id:=2) (sz:=3) (by':=24) (n:=i.toNat) rfl (by simp only [cF,e7]) (by omega) (za l i).cells rfl
   simp only [aB,aA,Gd.cells] at hr ha
   refine ⟨_,by (simp -implicitDefEqProofs +contextual (disch:=omega) only [VB,Zu,Kf c,QN c, ↓zz, ↓zG,zuo,zA,Gd.cells, ↓XD,XU, ↓reduceIte,sevalprocAttr,hx,hn,hr.1,hr.2,ha])<;>rfl,?_⟩
   rw [Kf hl,QN hl,e5,e6]
   simp [Kf c,QN c,St.next,trim,bare,zn,refs,yI h]
 ·rintro i a hi rfl _
  refine ⟨by simp -implicitDefEqProofs +contextual (disch:=omega) only [VB,Zu, ↓XD,XU, ↓reduceIte,sevalprocAttr,aL],by simp⟩
theorem Yo {p:PV} {l:List Gd} (h:xo p l) (hb:l.length<=1048576):ES A WN [p] []=some (KY l.length,gpH l l.length,[]):=by
 have hl:=zny h hb
 have hlen:=wh h
 simp -implicitDefEqProofs +contextual (disch:=omega) only [zlw,zdj,Zu, ↓XD,XU, ↓reduceIte,sevalprocAttr,hlen,hl]
 by_cases c:(l.length:Int)=0
 ·simp [zT,gpH,c]
 ·simp [Kf c,QN c,trim,bare,zn,refs]
theorem zqZ {p:PV} {l:List Gd} (h:xo p l) (hb:l.length<=1048576):EP A WN [p]=some (cG l):=by
 have hl:=zny h hb
 have hlen:=wh h
 simp -implicitDefEqProofs +contextual (disch:=omega) only [zkz,zdj,Zu, ↓XD,XU, ↓reduceIte,sevalprocAttr,hlen,hl]
 by_cases c:(l.length:Int)=0
 ·have:l=[]:=bT.1 (by omega)
  subst this
  simp [KY,cG];rfl
 ·have e:l.take (l.length:Int).toNat=l:=by simp
  have:¬l=[]:=λ e=>by subst e;simp at c
  rw [Kf c,QN c,cG,if_neg this,e]
  have:=kP (d:=6) (H:=[.cells 3 [(za l 0).cells],.cells 3 [(za l 0).cells],.cells 3 (l.map Gd.cells)]) (id:=2) (l:=l) rfl
  simpa using this
abbrev zq (p q:PV):List PV:=[.bool true,p,q]
theorem zxE (p q p' q':PV) (s s':ya) (t1:xP p s.Types) (t2:xo q s.Guards) (t3:xP p' s'.Types) (t4:xo q' s'.Guards) (hb:s.Types.length<=1048576) (hl:s'.Types.length=s.Types.length):match z9 (λ (j:Int)=>¬za s.Types j=za s'.Types j) 0 s.Types.length with|some j=>∃ st,EV A (.loop (ki 0)) (⟨[(0,.agg (zq p q)),(1,.agg (zq p' q')),(2,.ptr 0 0 0 1),(3,.ptr 1 0 0 1),(4,.bool false),(25,.int .i64 s.Types.length),(26,.int .i64 (0))],[],[.cells 3 [zq p q],.cells 3 [zq p' q']],[]⟩:St)=some (.ret,st)/\st.per.get 4=.bool false|none=>EV A (.loop (ki 0)) (⟨[(0,.agg (zq p q)),(1,.agg (zq p' q')),(2,.ptr 0 0 0 1),(3,.ptr 1 0 0 1),(4,.bool false),(25,.int .i64 s.Types.length),(26,.int .i64 (0))],[],[.cells 3 [zq p q],.cells 3 [zq p' q']],[]⟩:St)=some (zp.exit 0,(⟨[(0,.agg (zq p q)),(1,.agg (zq p' q')),(2,.ptr 0 0 0 1),(3,.ptr 1 0 0 1),(4,.bool false),(25,.int .i64 s.Types.length),(26,.int .i64 (s.Types.length))],[],[.cells 3 [zq p q],.cells 3 [zq p' q']],[]⟩:St)):=by
 refine yr (λ i=>(⟨[(0,.agg (zq p q)),(1,.agg (zq p' q')),(2,.ptr 0 0 0 1),(3,.ptr 1 0 0 1),(4,.bool false),(25,.int .i64 s.Types.length),(26,.int .i64 i)],[],[.cells 3 [zq p q],.cells 3 [zq p' q']],[]⟩:St)) (λ (j:Int)=>¬za s.Types j=za s'.Types j) (λ (j:Int) (st:St)=>st.per.get 4=.bool false) (zp.exit 0,(⟨[(0,.agg (zq p q)),(1,.agg (zq p' q')),(2,.ptr 0 0 0 1),(3,.ptr 1 0 0 1),(4,.bool false),(25,.int .i64 s.Types.length),(26,.int .i64 (s.Types.length))],[],[.cells 3 [zq p q],.cells 3 [zq p' q']],[]⟩:St)) (0) (s.Types.length) ?_ ?_ ?_ (0) (by omega) (by omega)
 ·intro i hi hn hp
  have hi1:=λ H=>wP t1 H .i64 i hi hn;have hi2:=λ H=>wP t3 H .i64 i hi (by omega)
  refine ⟨_,by (simp -implicitDefEqProofs +contextual (disch:=omega) only [J9,wW,zq, ↓XD,XU, ↓reduceIte,sevalprocAttr,hi1,hi2,hp,hn])<;>rfl,by simp [St.next,trim,bare,zn,refs,yB t1,yB t3,yI t2,yI t4]⟩
 ·intro i hi hn hp
  have hi1:=λ H=>wP t1 H .i64 i hi hn;have hi2:=λ H=>wP t3 H .i64 i hi (by omega)
  refine ⟨_,by (simp -implicitDefEqProofs +contextual (disch:=omega) only [J9,wW,zq, ↓XD,XU, ↓reduceIte,sevalprocAttr,hi1,hi2,hp,hn])<;>rfl,by simp [zk.get,zk.put]⟩
 ·rintro i hi rfl
  refine ⟨by simp -implicitDefEqProofs +contextual (disch:=omega) only [J9,wW, ↓XD,XU, ↓reduceIte,sevalprocAttr,zq,aL],by simp⟩
theorem zkJ (g h:Gd):Za [1,0,0] g.cells h.cells=some (decide (g=h)):=by
 obtain ⟨a,b,c⟩:=g
 obtain ⟨a',b',c'⟩:=h
 simp only [Gd.cells,Za,jC,decide_true]
 congr 1
 rw [bP]
 simp
theorem zxF (p q p' q':PV) (s s':ya) (t1:xP p s.Types) (t2:xo q s.Guards) (t3:xP p' s'.Types) (t4:xo q' s'.Guards) (hb:s.Guards.length<=1048576) (hl:s'.Guards.length=s.Guards.length):match z9 (λ (j:Int)=>¬za s.Guards j=za s'.Guards j) 0 s.Guards.length with|some j=>∃ st,EV A (.loop (ki 1)) (⟨[(0,.agg (zq p q)),(1,.agg (zq p' q')),(2,.ptr 0 0 0 1),(3,.ptr 1 0 0 1),(4,.bool false),(25,.int .i64 s.Types.length),(26,.int .i64 s.Types.length),(43,.int .i64 s.Guards.length),(44,.int .i64 (0))],[],[.cells 3 [zq p q],.cells 3 [zq p' q']],[]⟩:St)=some (.ret,st)/\st.per.get 4=.bool false|none=>EV A (.loop (ki 1)) (⟨[(0,.agg (zq p q)),(1,.agg (zq p' q')),(2,.ptr 0 0 0 1),(3,.ptr 1 0 0 1),(4,.bool false),(25,.int .i64 s.Types.length),(26,.int .i64 s.Types.length),(43,.int .i64 s.Guards.length),(44,.int .i64 (0))],[],[.cells 3 [zq p q],.cells 3 [zq p' q']],[]⟩:St)=some (zp.exit 2,(⟨[(0,.agg (zq p q)),(1,.agg (zq p' q')),(2,.ptr 0 0 0 1),(3,.ptr 1 0 0 1),(4,.bool false),(25,.int .i64 s.Types.length),(26,.int .i64 s.Types.length),(43,.int .i64 s.Guards.length),(44,.int .i64 (s.Guards.length))],[],[.cells 3 [zq p q],.cells 3 [zq p' q']],[]⟩:St)):=by
 refine yr (λ i=>(⟨[(0,.agg (zq p q)),(1,.agg (zq p' q')),(2,.ptr 0 0 0 1),(3,.ptr 1 0 0 1),(4,.bool false),(25,.int .i64 s.Types.length),(26,.int .i64 s.Types.length),(43,.int .i64 s.Guards.length),(44,.int .i64 i)],[],[.cells 3 [zq p q],.cells 3 [zq p' q']],[]⟩:St)) (λ (j:Int)=>¬za s.Guards j=za s'.Guards j) (λ (j:Int) (st:St)=>st.per.get 4=.bool false) (zp.exit 2,(⟨[(0,.agg (zq p q)),(1,.agg (zq p' q')),(2,.ptr 0 0 0 1),(3,.ptr 1 0 0 1),(4,.bool false),(25,.int .i64 s.Types.length),(26,.int .i64 s.Types.length),(43,.int .i64 s.Guards.length),(44,.int .i64 (s.Guards.length))],[],[.cells 3 [zq p q],.cells 3 [zq p' q']],[]⟩:St)) (0) (s.Guards.length) ?_ ?_ ?_ (0) (by omega) (by omega)
 ·intro i hi hn hp
  have hi1:=λ H=>xR t2 H .i64 i hi hn;have hi2:=λ H=>xR t4 H .i64 i hi (by omega);have hq:=zkJ (za s.Guards i) (za s'.Guards i);simp only [Gd.cells] at hi1 hi2 hq
  refine ⟨_,by (simp -implicitDefEqProofs +contextual (disch:=omega) only [J_,wW,zq, ↓XD,XU, ↓reduceIte,sevalprocAttr,hi1,hi2,hq,hp,hn])<;>rfl,by simp [St.next,trim,bare,zn,refs,yB t1,yB t3,yI t2,yI t4]⟩
 ·intro i hi hn hp
  have hi1:=λ H=>xR t2 H .i64 i hi hn;have hi2:=λ H=>xR t4 H .i64 i hi (by omega);have hq:=zkJ (za s.Guards i) (za s'.Guards i);simp only [Gd.cells] at hi1 hi2 hq
  refine ⟨_,by (simp -implicitDefEqProofs +contextual (disch:=omega) only [J_,wW,zq, ↓XD,XU, ↓reduceIte,sevalprocAttr,hi1,hi2,hq,hp,hn])<;>rfl,by simp [zk.get,zk.put]⟩
 ·rintro i hi rfl
  refine ⟨by simp -implicitDefEqProofs +contextual (disch:=omega) only [J_,wW, ↓XD,XU, ↓reduceIte,sevalprocAttr,zq,aL],by simp⟩
theorem zuJ {p q p' q':PV} {s s':ya} (t1:xP p s.Types) (t2:xo q s.Guards) (t3:xP p' s'.Types) (t4:xo q' s'.Guards) (h1:s.Types.length<=1048576) (h2:s.Guards.length<=1048576) (h3:s'.Types.length<=1048576) (h4:s'.Guards.length<=1048576):EP A zgL [.agg (zq p q),.agg (zq p' q')]=some (.bool (decide (s=s'))):=by
 have l1:=Xg t1
 have l2:=wh t2
 have l3:=Xg t3
 have l4:=wh t4
 have c1:=ut t1
 have c2:=yQ t2
 have c3:=ut t3
 have c4:=yQ t4
 have k1:=jl t1
 have k2:=xf t2
 have k3:=jl t3
 have k4:=xf t4
 by_cases e1:(s.Types.length:Int)=s'.Types.length
 ·by_cases e2:(s.Guards.length:Int)=s'.Guards.length
  ·have a0:=zxE p q p' q' s s' t1 t2 t3 t4 h1 (by omega)
   have a1:=zxF p q p' q' s s' t1 t2 t3 t4 h2 (by omega)
   have ext:∀ {α:Type} [Inhabited α] {l l':List α},(l.length:Int)=l'.length->z9 (λ j=>¬za l j=za l' j) 0 l.length=none->l=l':=by
    intro α _ l l' hl hs
    refine dN λ k=>?_
    by_cases hk:k<l.length
    ·have:=aP.1 (y8.1 hs k (by omega) (by omega))
     have u1:=xX (l:=l) (i:=(k:Int)) (by omega) (by omega)
     have u2:=xX (l:=l') (i:=(k:Int)) (by omega) (by omega)
     rw [cB] at u1 u2
     rw [u1,u2,this]
    ·rw [bB (by omega),bB (by omega)]
   cases s0:z9 (λ j=>¬za s.Types j=za s'.Types j) 0 s.Types.length with
   |some j=>
    rw [s0] at a0
    obtain ⟨st,a0,hg⟩:=a0
    have hne:¬s=s':=λ e=>by
     obtain ⟨_,_,h,_⟩:=xE.1 s0
     exact h (by rw [e])
    simp only [zq,e1,e2] at a0
    simp -implicitDefEqProofs +contextual (disch:=omega) only [Wh,Wl,wW,zq,zF, ↓XD,XU, ↓reduceIte,sevalprocAttr,l1,l2,l3,l4,c1,c2,c3,c4,k1,k2,k3,k4,e1,e2,a0,hg,hne]
   |none=>
    rw [s0] at a0
    have t0:=ext e1 s0
    cases s1:z9 (λ j=>¬za s.Guards j=za s'.Guards j) 0 s.Guards.length with
    |some j=>
     rw [s1] at a1
     obtain ⟨st,a1,hg⟩:=a1
     have hne:¬s=s':=λ e=>by
      obtain ⟨_,_,h,_⟩:=xE.1 s1
      exact h (by rw [e])
     simp only [zq,e1,e2] at a0 a1
     simp -implicitDefEqProofs +contextual (disch:=omega) only [Wh,Wl,wW,zq,zF, ↓XD,XU, ↓reduceIte,sevalprocAttr,l1,l2,l3,l4,c1,c2,c3,c4,k1,k2,k3,k4,e1,e2,a0,a1,hg,hne]
    |none=>
     rw [s1] at a1
     have t9:=ext e2 s1
     have he:s=s':=by cases s;cases s';simp only at t0 t9;rw [t0,t9]
     simp only [zq,e1,e2] at a0 a1
     simp -implicitDefEqProofs +contextual (disch:=omega) only [Wh,Wl,wW,zq,zF, ↓XD,XU, ↓reduceIte,sevalprocAttr,l1,l2,l3,l4,c1,c2,c3,c4,k1,k2,k3,k4,e1,e2,a0,a1,he]
  ·have hne:¬s=s':=λ e=>e2 (by rw [e])
   simp -implicitDefEqProofs +contextual (disch:=omega) only [Wh,Wl,wW,zq,zF, ↓XD,XU, ↓reduceIte,sevalprocAttr,l1,l2,l3,l4,c1,c2,c3,c4,k1,k2,k3,k4,e1,e2,hne]
 ·have hne:¬s=s':=λ e=>e1 (by rw [e])
  simp -implicitDefEqProofs +contextual (disch:=omega) only [Wh,Wl,wW,zq,zF, ↓XD,XU, ↓reduceIte,sevalprocAttr,l1,l2,l3,l4,c1,c2,c3,c4,k1,k2,k3,k4,e1,hne]
structure zso (gs:List Gd) (tk bf bh:List Int):Prop where
 g:gs.length<=1048576
 t:tk.length<=1048576
 b:bf.length<=1048576
 e:bh.length=bf.length
 k:∀ x∈gs,0<=x.Keep/\x.Keep<=bf.length
noncomputable abbrev zmk (tk:List Int) (k:Int):Option Int:=z9 (λ j=>za tk j<k) 0 tk.length
noncomputable abbrev zsx (bf bh:List Int) (k:Int):Option Int:=z9 (λ j=>¬za bf j=za bh j) 0 k
theorem zB9 (nd:Ins) (g:Gd) (q t b c:PV) (gs:List Gd) (tk bf bh:List Int) (t1:xo q gs) (t2:xP t tk) (t3:xP b bf) (t4:xP c bh) (x:Int) (hb:tk.length<=1048576):match z9 (λ (j:Int)=>za tk j<g.Keep) 0 tk.length with|some j=>∃ st,EV A (.loop (vJ 1)) (⟨[(0,.agg nd.cells),(1,q),(2,t),(3,b),(4,c),(5,.ptr 0 0 0 1),(10,.bool false),(16,q),(17,.int .i64 gs.length),(18,.int .i64 x),(12,.ptr 1 0 0 1),(11,.int .i64 x),(26,t),(27,.int .i64 tk.length),(28,.int .i64 (0))],[],[.cells 5 [nd.cells],.cells 3 [g.cells]],[]⟩:St)=some (.ret,st)/\st.per.get 10=.bool false|none=>EV A (.loop (vJ 1)) (⟨[(0,.agg nd.cells),(1,q),(2,t),(3,b),(4,c),(5,.ptr 0 0 0 1),(10,.bool false),(16,q),(17,.int .i64 gs.length),(18,.int .i64 x),(12,.ptr 1 0 0 1),(11,.int .i64 x),(26,t),(27,.int .i64 tk.length),(28,.int .i64 (0))],[],[.cells 5 [nd.cells],.cells 3 [g.cells]],[]⟩:St)=some (zp.exit 2,(⟨[(0,.agg nd.cells),(1,q),(2,t),(3,b),(4,c),(5,.ptr 0 0 0 1),(10,.bool false),(16,q),(17,.int .i64 gs.length),(18,.int .i64 x),(12,.ptr 1 0 0 1),(11,.int .i64 x),(26,t),(27,.int .i64 tk.length),(28,.int .i64 (tk.length))],[],[.cells 5 [nd.cells],.cells 3 [g.cells]],[]⟩:St)):=by
 refine yr (λ i=>(⟨[(0,.agg nd.cells),(1,q),(2,t),(3,b),(4,c),(5,.ptr 0 0 0 1),(10,.bool false),(16,q),(17,.int .i64 gs.length),(18,.int .i64 x),(12,.ptr 1 0 0 1),(11,.int .i64 x),(26,t),(27,.int .i64 tk.length),(28,.int .i64 i)],[],[.cells 5 [nd.cells],.cells 3 [g.cells]],[]⟩:St)) (λ (j:Int)=>za tk j<g.Keep) (λ (j:Int) (st:St)=>st.per.get 10=.bool false) (zp.exit 2,(⟨[(0,.agg nd.cells),(1,q),(2,t),(3,b),(4,c),(5,.ptr 0 0 0 1),(10,.bool false),(16,q),(17,.int .i64 gs.length),(18,.int .i64 x),(12,.ptr 1 0 0 1),(11,.int .i64 x),(26,t),(27,.int .i64 tk.length),(28,.int .i64 (tk.length))],[],[.cells 5 [nd.cells],.cells 3 [g.cells]],[]⟩:St)) (0) (tk.length) ?_ ?_ ?_ (0) (by omega) (by omega)
 ·intro i hi hn hp
  have hi1:=λ H=>wP t2 H .i64 i hi hn
  refine ⟨_,by (simp -implicitDefEqProofs +contextual (disch:=omega) only [J6,xL,Ins.cells,Gd.cells, ↓XD,XU, ↓reduceIte,sevalprocAttr,hi1,hp,hn])<;>rfl,by simp [St.next,trim,bare,zn,refs,yB t2,yB t3,yB t4,yI t1]⟩
 ·intro i hi hn hp
  have hi1:=λ H=>wP t2 H .i64 i hi hn
  refine ⟨_,by (simp -implicitDefEqProofs +contextual (disch:=omega) only [J6,xL,Ins.cells,Gd.cells, ↓XD,XU, ↓reduceIte,sevalprocAttr,hi1,hp,hn])<;>rfl,by simp [zk.get,zk.put]⟩
 ·rintro i hi rfl
  refine ⟨by simp -implicitDefEqProofs +contextual (disch:=omega) only [J6,xL, ↓XD,XU, ↓reduceIte,sevalprocAttr,Ins.cells,Gd.cells,aL],by simp⟩
theorem zB_ (nd:Ins) (g:Gd) (q t b c:PV) (gs:List Gd) (tk bf bh:List Int) (t1:xo q gs) (t2:xP t tk) (t3:xP b bf) (t4:xP c bh) (x:Int) (hb:bf.length<=1048576) (hk:0<=g.Keep) (hk1:g.Keep<=bf.length) (he:bh.length=bf.length):match z9 (λ (j:Int)=>¬za bf j=za bh j) 0 g.Keep with|some j=>∃ st,EV A (.loop (vJ 2)) (⟨[(0,.agg nd.cells),(1,q),(2,t),(3,b),(4,c),(5,.ptr 0 0 0 1),(10,.bool false),(16,q),(17,.int .i64 gs.length),(18,.int .i64 x),(12,.ptr 1 0 0 1),(11,.int .i64 x),(26,t),(27,.int .i64 tk.length),(28,.int .i64 tk.length),(15,.int .i64 (0))],[],[.cells 5 [nd.cells],.cells 3 [g.cells]],[]⟩:St)=some (.ret,st)/\st.per.get 10=.bool false|none=>EV A (.loop (vJ 2)) (⟨[(0,.agg nd.cells),(1,q),(2,t),(3,b),(4,c),(5,.ptr 0 0 0 1),(10,.bool false),(16,q),(17,.int .i64 gs.length),(18,.int .i64 x),(12,.ptr 1 0 0 1),(11,.int .i64 x),(26,t),(27,.int .i64 tk.length),(28,.int .i64 tk.length),(15,.int .i64 (0))],[],[.cells 5 [nd.cells],.cells 3 [g.cells]],[]⟩:St)=some (zp.exit 4,(⟨[(0,.agg nd.cells),(1,q),(2,t),(3,b),(4,c),(5,.ptr 0 0 0 1),(10,.bool false),(16,q),(17,.int .i64 gs.length),(18,.int .i64 x),(12,.ptr 1 0 0 1),(11,.int .i64 x),(26,t),(27,.int .i64 tk.length),(28,.int .i64 tk.length),(15,.int .i64 (g.Keep))],[],[.cells 5 [nd.cells],.cells 3 [g.cells]],[]⟩:St)):=by
 refine yr (λ i=>(⟨[(0,.agg nd.cells),(1,q),(2,t),(3,b),(4,c),(5,.ptr 0 0 0 1),(10,.bool false),(16,q),(17,.int .i64 gs.length),(18,.int .i64 x),(12,.ptr 1 0 0 1),(11,.int .i64 x),(26,t),(27,.int .i64 tk.length),(28,.int .i64 tk.length),(15,.int .i64 i)],[],[.cells 5 [nd.cells],.cells 3 [g.cells]],[]⟩:St)) (λ (j:Int)=>¬za bf j=za bh j) (λ (j:Int) (st:St)=>st.per.get 10=.bool false) (zp.exit 4,(⟨[(0,.agg nd.cells),(1,q),(2,t),(3,b),(4,c),(5,.ptr 0 0 0 1),(10,.bool false),(16,q),(17,.int .i64 gs.length),(18,.int .i64 x),(12,.ptr 1 0 0 1),(11,.int .i64 x),(26,t),(27,.int .i64 tk.length),(28,.int .i64 tk.length),(15,.int .i64 (g.Keep))],[],[.cells 5 [nd.cells],.cells 3 [g.cells]],[]⟩:St)) (0) (g.Keep) ?_ ?_ ?_ (0) (by omega) (by omega)
 ·intro i hi hn hp
  have hi1:=λ H=>wP t3 H .i64 i hi (by omega);have hi2:=λ H=>wP t4 H .i64 i hi (by omega)
  refine ⟨_,by (simp -implicitDefEqProofs +contextual (disch:=omega) only [J7,xL,Ins.cells,Gd.cells, ↓XD,XU, ↓reduceIte,sevalprocAttr,hi1,hi2,hp,hn])<;>rfl,by simp [St.next,trim,bare,zn,refs,yB t2,yB t3,yB t4,yI t1]⟩
 ·intro i hi hn hp
  have hi1:=λ H=>wP t3 H .i64 i hi (by omega);have hi2:=λ H=>wP t4 H .i64 i hi (by omega)
  refine ⟨_,by (simp -implicitDefEqProofs +contextual (disch:=omega) only [J7,xL,Ins.cells,Gd.cells, ↓XD,XU, ↓reduceIte,sevalprocAttr,hi1,hi2,hp,hn])<;>rfl,by simp [zk.get,zk.put]⟩
 ·rintro i hi rfl
  refine ⟨by simp -implicitDefEqProofs +contextual (disch:=omega) only [J7,xL, ↓XD,XU, ↓reduceIte,sevalprocAttr,Ins.cells,Gd.cells,aL],by simp⟩
noncomputable def zsy (nd:Ins) (gs:List Gd) (tk bf bh:List Int) (j:Int):Prop:=(za gs j).Try=true/\(zmk tk (za gs j).Keep≠none\/(¬(nd.Op=32/\j=(gs.length:Int)-1)/\zsx bf bh (za gs j).Keep≠none))
theorem zEa (nd:Ins) (q t b c:PV) (gs:List Gd) (tk bf bh:List Int) (t1:xo q gs) (t2:xP t tk) (t3:xP b bf) (t4:xP c bh) (h:zso gs tk bf bh):match z9 (λ (j:Int)=>zsy nd gs tk bf bh j) 0 gs.length with|some j=>∃ st,EV A (.loop (vJ 0)) (⟨[(0,.agg nd.cells),(1,q),(2,t),(3,b),(4,c),(5,.ptr 0 0 0 1),(10,.bool false),(16,q),(17,.int .i64 gs.length),(18,.int .i64 (0))],[],[.cells 5 [nd.cells]],[]⟩:St)=some (.ret,st)/\st.per.get 10=.bool false|none=>EV A (.loop (vJ 0)) (⟨[(0,.agg nd.cells),(1,q),(2,t),(3,b),(4,c),(5,.ptr 0 0 0 1),(10,.bool false),(16,q),(17,.int .i64 gs.length),(18,.int .i64 (0))],[],[.cells 5 [nd.cells]],[]⟩:St)=some (zp.exit 0,(⟨[(0,.agg nd.cells),(1,q),(2,t),(3,b),(4,c),(5,.ptr 0 0 0 1),(10,.bool false),(16,q),(17,.int .i64 gs.length),(18,.int .i64 (gs.length))],[],[.cells 5 [nd.cells]],[]⟩:St)):=by
 have hb:=h.g;have hbt:=h.t;have hbb:=h.b;have hbe:=h.e
 refine yr (λ i=>(⟨[(0,.agg nd.cells),(1,q),(2,t),(3,b),(4,c),(5,.ptr 0 0 0 1),(10,.bool false),(16,q),(17,.int .i64 gs.length),(18,.int .i64 i)],[],[.cells 5 [nd.cells]],[]⟩:St)) (λ (j:Int)=>zsy nd gs tk bf bh j) (λ (j:Int) (st:St)=>st.per.get 10=.bool false) (zp.exit 0,(⟨[(0,.agg nd.cells),(1,q),(2,t),(3,b),(4,c),(5,.ptr 0 0 0 1),(10,.bool false),(16,q),(17,.int .i64 gs.length),(18,.int .i64 (gs.length))],[],[.cells 5 [nd.cells]],[]⟩:St)) (0) (gs.length) ?_ ?_ ?_ (0) (by omega) (by omega)
 ·intro i hi hn hp
  have hi1:=λ H=>xR t1 H .i64 i hi hn;have hlt:=Xg t2;have hlg:=wh t1;have hk:=h.k _ (jv hi hn);have l1:=zB9 nd (za gs i) q t b c gs tk bf bh t1 t2 t3 t4 i hbt;have l2:=zB_ nd (za gs i) q t b c gs tk bf bh t1 t2 t3 t4 i hbb hk.1 hk.2 hbe;simp only [Gd.cells,Ins.cells] at hi1 l1 l2
  by_cases c0:(za gs i).Try=true
  ·simp only [c0] at l1 l2
   have n1:zmk tk (za gs i).Keep=none:=cD λ e=>hp ⟨c0,.inl e⟩
   unfold zmk at n1
   rw [n1] at l1
   by_cases c1:nd.Op=32/\i=(gs.length:Int)-1
   ·obtain ⟨c1,c2⟩:=c1
    refine ⟨_,by (simp -implicitDefEqProofs +contextual (disch:=omega) only [vH,xL,Ins.cells,Gd.cells, ↓XD,XU, ↓reduceIte,sevalprocAttr,hi1,hlt,hlg,l1,c0,eq_true c1,eq_true c2,hn])<;>rfl,by simp [St.next,trim,bare,zn,refs,yB t2,yB t3,yB t4,yI t1]⟩
   ·have n2:zsx bf bh (za gs i).Keep=none:=cD λ e=>hp ⟨c0,.inr ⟨c1,e⟩⟩
    unfold zsx at n2
    rw [n2] at l2
    by_cases c2:nd.Op=32
    ·have c3:¬i=(gs.length:Int)-1:=λ e=>c1 ⟨c2,e⟩
     refine ⟨_,by (simp -implicitDefEqProofs +contextual (disch:=omega) only [vH,xL,Ins.cells,Gd.cells, ↓XD,XU, ↓reduceIte,sevalprocAttr,hi1,hlt,hlg,l1,l2,c0,eq_true c2,c3,hn])<;>rfl,by simp [St.next,trim,bare,zn,refs,yB t2,yB t3,yB t4,yI t1]⟩
    ·refine ⟨_,by (simp -implicitDefEqProofs +contextual (disch:=omega) only [vH,xL,Ins.cells,Gd.cells, ↓XD,XU, ↓reduceIte,sevalprocAttr,hi1,hlt,hlg,l1,l2,c0,c2,hn])<;>rfl,by simp [St.next,trim,bare,zn,refs,yB t2,yB t3,yB t4,yI t1]⟩
  ·refine ⟨_,by (simp -implicitDefEqProofs +contextual (disch:=omega) only [vH,xL,Ins.cells,Gd.cells, ↓XD,XU, ↓reduceIte,sevalprocAttr,hi1,c0,hn])<;>rfl,by simp [St.next,trim,bare,zn,refs,yB t2,yB t3,yB t4,yI t1]⟩
 ·intro i hi hn hp
  have hi1:=λ H=>xR t1 H .i64 i hi hn;have hlt:=Xg t2;have hlg:=wh t1;have hk:=h.k _ (jv hi hn);have l1:=zB9 nd (za gs i) q t b c gs tk bf bh t1 t2 t3 t4 i hbt;have l2:=zB_ nd (za gs i) q t b c gs tk bf bh t1 t2 t3 t4 i hbb hk.1 hk.2 hbe;simp only [Gd.cells,Ins.cells] at hi1 l1 l2
  obtain ⟨c0,hp⟩:=hp
  simp only [c0] at l1 l2
  cases n1:zmk tk (za gs i).Keep with
  |some j=>
   unfold zmk at n1
   rw [n1] at l1
   obtain ⟨st,l1,hg⟩:=l1
   exact ⟨_,by (simp -implicitDefEqProofs +contextual (disch:=omega) only [vH,xL,Ins.cells,Gd.cells, ↓XD,XU, ↓reduceIte,sevalprocAttr,hi1,hlt,hlg,l1,c0,hn])<;>rfl,hg⟩
  |none=>
   have hp2:=hp.resolve_left (λ e=>e n1)
   unfold zmk at n1
   rw [n1] at l1
   obtain ⟨c1,hp2⟩:=hp2
   obtain ⟨j,n2⟩:=bN.1 hp2
   unfold zsx at n2
   rw [n2] at l2
   obtain ⟨st,l2,hg⟩:=l2
   by_cases c2:nd.Op=32
   ·have c3:¬i=(gs.length:Int)-1:=λ e=>c1 ⟨c2,e⟩
    exact ⟨_,by (simp -implicitDefEqProofs +contextual (disch:=omega) only [vH,xL,Ins.cells,Gd.cells, ↓XD,XU, ↓reduceIte,sevalprocAttr,hi1,hlt,hlg,l1,l2,c0,eq_true c2,c3,hn])<;>rfl,hg⟩
   ·exact ⟨_,by (simp -implicitDefEqProofs +contextual (disch:=omega) only [vH,xL,Ins.cells,Gd.cells, ↓XD,XU, ↓reduceIte,sevalprocAttr,hi1,hlt,hlg,l1,l2,c0,c2,hn])<;>rfl,hg⟩
 ·rintro i hi rfl
  refine ⟨by simp -implicitDefEqProofs +contextual (disch:=omega) only [vH,xL, ↓XD,XU, ↓reduceIte,sevalprocAttr,Ins.cells,Gd.cells,aL],by simp⟩
theorem zvs {nd:Ins} {gs:List Gd} {tk bf bh:List Int} (h:zso gs tk bf bh) (h32:nd.Op=32->bf=bh):(∃ j:Int,0<=j/\j<gs.length/\zsy nd gs tk bf bh j)↔Q7 gs tk bf bh:=by
 constructor
 ·rintro ⟨j,j0,j1,c0,hp⟩
  refine ⟨za gs j,jv j0 j1,c0,?_⟩
  rcases hp with hp|⟨_,hp⟩
  ·obtain ⟨k,hk⟩:=bN.1 hp
   obtain ⟨k0,k1,k2,_⟩:=xE.1 hk
   exact .inl ⟨_,jv k0 k1,k2⟩
  ·obtain ⟨k,hk⟩:=bN.1 hp
   obtain ⟨k0,k1,k2,_⟩:=xE.1 hk
   exact .inr ⟨k,k0,k1,k2⟩
 ·rintro ⟨g,hg,c0,hp⟩
  obtain ⟨j,j0,j1,rfl⟩:=Xs hg
  refine ⟨j,j0,j1,c0,?_⟩
  rcases hp with ⟨r,hr,hlt⟩|⟨r,r0,r1,hne⟩
  ·obtain ⟨k,k0,k1,rfl⟩:=Xs hr
   exact .inl λ e=>y8.1 e k k0 k1 hlt
  ·refine .inr ⟨λ e=>hne (by rw [h32 e.1]),λ e=>y8.1 e r r0 r1 hne⟩
theorem zuI {nd:Ins} {q t b c:PV} {gs:List Gd} {tk bf bh:List Int} (t1:xo q gs) (t2:xP t tk) (t3:xP b bf) (t4:xP c bh) (h:zso gs tk bf bh) (h32:nd.Op=32->bf=bh):EP A zgK [.agg nd.cells,q,t,b,c]=some (.bool (decide ¬Q7 gs tk bf bh)):=by
 have l0:=zEa nd q t b c gs tk bf bh t1 t2 t3 t4 h
 have hlen:=wh t1
 have hiff:=zvs h h32
 simp only [Ins.cells] at l0
 cases hs:z9 (λ j=>zsy nd gs tk bf bh j) 0 gs.length with
 |none=>
  rw [hs] at l0
  have hn:¬Q7 gs tk bf bh:=λ e=>by
   obtain ⟨j,j0,j1,hj⟩:=hiff.2 e
   exact y8.1 hs j j0 j1 hj
  simp -implicitDefEqProofs +contextual (disch:=omega) only [zgw,zgT,xL,Ins.cells,zF, ↓XD,XU, ↓reduceIte,sevalprocAttr,hlen,l0,hn]
 |some j=>
  rw [hs] at l0
  obtain ⟨st,l0,hg⟩:=l0
  obtain ⟨j0,j1,hj,_⟩:=xE.1 hs
  have hn:Q7 gs tk bf bh:=hiff.1 ⟨j,j0,j1,hj⟩
  simp -implicitDefEqProofs +contextual (disch:=omega) only [zgw,zgT,xL,Ins.cells,zF, ↓XD,XU, ↓reduceIte,sevalprocAttr,hlen,l0,hg,hn]
theorem zxq (k:Nat) (g:Gd):yR k g.cells=g.cells:=by simp [Gd.cells,yR,zC]
theorem Zb (k:Nat) (l:List Gd):(l.map Gd.cells).map (yR k)=l.map Gd.cells:=by
 rw [cZ];exact bM λ g _=>zxq k g
theorem Wv (k:Nat) (l:List Int):(ym l).map (yR k)=ym l:=by
 rw [cZ];exact bM λ g _=>by simp [yR,zC]
theorem zxr (k:Nat) (l:List Int) (n:Int):(cpH l n).map (zX k)=cpH l n:=by
 unfold cpH
 split
 ·rfl
 ·simp only [aM,bA,zX,Wv,yR,zC]
theorem j9 {l:List Gd} (h:¬l=[]):KY l.length=.sl 2 0 l.length l.length/\gpH l l.length=[.cells 3 [(za l 0).cells],.cells 3 [(za l 0).cells],.cells 3 (l.map Gd.cells)]:=by
 have c:¬(l.length:Int)=0:=by
  have:=List.length_pos_iff.2 h
  omega
 rw [Kf c,QN c]
 simp
theorem Z9:KY ((([]:List Gd).length:Nat):Int)=.nils/\gpH [] ((([]:List Gd).length:Nat):Int)=[]:=⟨rfl,rfl⟩
def zcu (n:Ins) (gs:List Gd) (p:PV) (b:Bool):Prop:=b=(change n gs).isSome/\∀ gs',change n gs=some gs'->xo p gs'
theorem zef (x:Bool) (y z:Int) (H:zd):bsK 3 [.bool false,.int .i64 0,.int .i64 0] [.bool x,.int .i64 y,.int .i64 z] H=some (.sl H.length 0 1 1,H++[.cells 3 [[.bool x,.int .i64 y,.int .i64 z]]],[]):=je _ _ _ _ rfl
theorem zz4 (d:Nat) (H:zd) (g:Gd):g.cells.map (frz (d+1) H)=g.cells:=by
 simp only [Gd.cells,aM,bA,zbV,QL]
theorem zz5 (d:Nat) (H:zd) (l:List Gd):(l.map Gd.cells).map (λ r=>r.map (frz (d+1) H))=l.map Gd.cells:=by
 rw [cZ];exact bM λ g _=>zz4 d H g
theorem zjU (d:Nat) (H:zd) (l:List Gd) {n:Nat} (hn:n<=l.length):xF (d+1) H 0 n l.length (some (.cells 3 (l.map Gd.cells)))=gds (l.take n):=by
 have h:(l.length=(l.map Gd.cells).length/\0+n<=l.length):=⟨by simp,by omega⟩
 rw [xF,if_pos h,dZ, <-List.map_take,zz5]
theorem zew (d:Nat) (H:zd) (l:List Gd):xF (d+1) H 0 l.length l.length (some (.cells 3 (l.map Gd.cells)))=gds l:=by
 rw [zjU d H l (aS _),List.take_length]
def slK (sz:Nat) (H:zd):PV->PV->Option (PV×zd×zI)
 |.fz rows,.int _ h=>match decide ((0:Int)<=0)&&decide ((0:Int)<=h)&&decide (h<=rows.length)&&rows.all (λ r=>r.length==sz) with
  |true=>some (.fz ((rows.drop (0:Int).toNat).take (h.toNat-(0:Int).toNat)),H,[])
  |false=>none
 |.sl id off len tot,.int _ h=>match decide ((0:Int)<=0)&&decide ((0:Int)<=h)&&decide (h<=len)&&xU H sz (.sl id off len tot) with
  |true=>some (.sl id (off+(0:Int).toNat) (h.toNat-(0:Int).toNat) tot,H,[])
  |false=>none
 |_,_=>none
theorem zjM {P:xn} (sz:Nat) (x y:zy) (st:St):zt P.glob (CL P) st (.slice sz x none (some y))=slK sz st.H (x.get P.glob st) (y.get P.glob st):=by
 simp only [zt,ZB]
 cases x.get P.glob st<;>cases y.get P.glob st<;>rfl
theorem zp6 {sz:Nat} {H:zd} {id len tot:Nat} {k:IntKind} {n:Int} {rows:List (List PV)} (h:H[id]?=some (.cells sz rows)) (h0:0<=n) (h1:n<=len):slK sz H (.sl id 0 len tot) (.int k n)=some (.sl id 0 n.toNat tot,H,[]):=by
 simp [slK,xU,h,h0,h1]
theorem zC8 {A' B C D:Int} {q:PV} {gs:List Gd} (t:xo q gs) (hb:gs.length<=50):∃ p b,EP A vu [.agg (Ins.cells ⟨31,A',B,C,D⟩),q]=some (.tup [p,.bool b])/\zcu ⟨31,A',B,C,D⟩ gs p b:=by
 have hg:=Yo t (by omega:gs.length<=1048576)
 have hf:=wl t 7
 have ha:=zfR t B (by omega)
 by_cases c:gs=[]
 ·subst c
  rw [Z9.1,Z9.2] at hg
  have hr:=ju [.cells 5 [Ins.cells ⟨31,A',B,C,D⟩]] 3 [.bool true,.int .i64 B,.int .i64 A']
  have hx:=x_ [.cells 5 [Ins.cells ⟨31,A',B,C,D⟩],.cells 3 [[.bool true,.int .i64 B,.int .i64 A']]] 3 24 [[.bool true,.int .i64 B,.int .i64 A']] (by simp)
  simp only [aB,aA,bE,bC,Ins.cells] at hr hx
  refine ⟨_,_,by (simp -implicitDefEqProofs +contextual (disch:=omega) only [yL,yO,yx,Ins.cells,zF, ↓zz, ↓zG,zef,zA, ↓XD,XU, ↓reduceIte,sevalprocAttr,hf,hg,ha,hr.1,hr.2,hx,zC])<;>rfl,?_⟩
  refine ⟨by simp [change,ud],λ gs' h=>?_⟩
  simp [change,ud] at h
  subst h
  left;rfl
 ·rw [(j9 c).1,(j9 c).2] at hg
  have hr:=Xi [.cells 5 [Ins.cells ⟨31,A',B,C,D⟩],.cells 3 [(za gs 0).cells],.cells 3 [(za gs 0).cells],.cells 3 (gs.map Gd.cells)] 4 rfl 3 [.bool true,.int .i64 B,.int .i64 A']
  have hx:=Ym (H:=[.cells 5 [Ins.cells ⟨31,A',B,C,D⟩],.cells 3 [(za gs 0).cells],.cells 3 [(za gs 0).cells],.cells 3 (gs.map Gd.cells),.cells 3 [[.bool true,.int .i64 B,.int .i64 A']]]) (id:=3) (sz:=3) (by':=24) (n:=gs.length) rfl (by simp) (by omega) [.bool true,.int .i64 B,.int .i64 A'] rfl
  simp only [aB,aA,bE,bC,Ins.cells,Gd.cells] at hr hx
  have k1:=Zb 1 gs
  have er:List.map Gd.cells gs++[[.bool true,.int .i64 B,.int .i64 A']]=(gs++[(⟨true,B,A'⟩:Gd)]).map Gd.cells:=by simp
  have en:gs.length+1=(gs++[(⟨true,B,A'⟩:Gd)]).length:=by simp
  by_cases hL:(gs.length:Int)<50
  ·refine ⟨_,_,by (simp -implicitDefEqProofs +contextual (disch:=omega) only [yL,yO,yx,Ins.cells,Gd.cells,zF, ↓zz, ↓zG,zef,zA, ↓XD,XU, ↓reduceIte,sevalprocAttr,hf,hg,ha,hr.1,hr.2,hx,zC,zX,yR,k1,hL])<;>rfl,?_⟩
   refine ⟨by by_cases h:ud gs B<;>simp [change,hL,h],λ gs' h=>?_⟩
   by_cases hab:ud gs B
   ·simp [change,hL,hab] at h
    subst h
    rw [er,en,zew];exact .inl rfl
   ·simp [change,hL,hab] at h
  ·refine ⟨_,_,by (simp -implicitDefEqProofs +contextual (disch:=omega) only [yL,yO,yx,Ins.cells,Gd.cells,zF, ↓zz, ↓zG,zef,zA, ↓XD,XU, ↓reduceIte,sevalprocAttr,hf,hg,ha,hr.1,hr.2,hx,zC,zX,yR,k1,hL])<;>rfl,?_⟩
   exact ⟨by simp [change,hL],λ gs' h=>by simp [change,hL] at h⟩
theorem zC_ {A' B C D:Int} {q:PV} {gs:List Gd} (t:xo q gs) (hb:gs.length<=50):∃ p b,EP A vu [.agg (Ins.cells ⟨33,A',B,C,D⟩),q]=some (.tup [p,.bool b])/\zcu ⟨33,A',B,C,D⟩ gs p b:=by
 have hg:=Yo t (by omega:gs.length<=1048576)
 have hf:=wl t 7
 have ha:=zfR t A' (by omega)
 by_cases c:gs=[]
 ·subst c
  rw [Z9.1,Z9.2] at hg
  have hr:=ju [.cells 5 [Ins.cells ⟨33,A',B,C,D⟩]] 3 [.bool false,.int .i64 A',.int .i64 0]
  have hx:=x_ [.cells 5 [Ins.cells ⟨33,A',B,C,D⟩],.cells 3 [[.bool false,.int .i64 A',.int .i64 0]]] 3 24 [[.bool false,.int .i64 A',.int .i64 0]] (by simp)
  simp only [aB,aA,bE,bC,Ins.cells] at hr hx
  refine ⟨_,_,by (simp -implicitDefEqProofs +contextual (disch:=omega) only [yL,yO,yx,Ins.cells,zF, ↓zz, ↓zG,zef,zA, ↓XD,XU, ↓reduceIte,sevalprocAttr,hf,hg,ha,hr.1,hr.2,hx,zC])<;>rfl,?_⟩
  refine ⟨by simp [change,ud],λ gs' h=>?_⟩
  simp [change,ud] at h
  subst h
  left;rfl
 ·rw [(j9 c).1,(j9 c).2] at hg
  have hr:=Xi [.cells 5 [Ins.cells ⟨33,A',B,C,D⟩],.cells 3 [(za gs 0).cells],.cells 3 [(za gs 0).cells],.cells 3 (gs.map Gd.cells)] 4 rfl 3 [.bool false,.int .i64 A',.int .i64 0]
  have hx:=Ym (H:=[.cells 5 [Ins.cells ⟨33,A',B,C,D⟩],.cells 3 [(za gs 0).cells],.cells 3 [(za gs 0).cells],.cells 3 (gs.map Gd.cells),.cells 3 [[.bool false,.int .i64 A',.int .i64 0]]]) (id:=3) (sz:=3) (by':=24) (n:=gs.length) rfl (by simp) (by omega) [.bool false,.int .i64 A',.int .i64 0] rfl
  simp only [aB,aA,bE,bC,Ins.cells,Gd.cells] at hr hx
  have k1:=Zb 1 gs
  have er:List.map Gd.cells gs++[[.bool false,.int .i64 A',.int .i64 0]]=(gs++[(⟨false,A',0⟩:Gd)]).map Gd.cells:=by simp
  have en:gs.length+1=(gs++[(⟨false,A',0⟩:Gd)]).length:=by simp
  by_cases hL:(gs.length:Int)<50
  ·refine ⟨_,_,by (simp -implicitDefEqProofs +contextual (disch:=omega) only [yL,yO,yx,Ins.cells,Gd.cells,zF, ↓zz, ↓zG,zef,zA, ↓XD,XU, ↓reduceIte,sevalprocAttr,hf,hg,ha,hr.1,hr.2,hx,zC,zX,yR,k1,hL])<;>rfl,?_⟩
   refine ⟨by by_cases h:ud gs A'<;>simp [change,hL,h],λ gs' h=>?_⟩
   by_cases hab:ud gs A'
   ·simp [change,hL,hab] at h
    subst h
    rw [er,en,zew];exact .inl rfl
   ·simp [change,hL,hab] at h
  ·refine ⟨_,_,by (simp -implicitDefEqProofs +contextual (disch:=omega) only [yL,yO,yx,Ins.cells,Gd.cells,zF, ↓zz, ↓zG,zef,zA, ↓XD,XU, ↓reduceIte,sevalprocAttr,hf,hg,ha,hr.1,hr.2,hx,zC,zX,yR,k1,hL])<;>rfl,?_⟩
   exact ⟨by simp [change,hL],λ gs' h=>by simp [change,hL] at h⟩
theorem zC9 {A' B C D:Int} {q:PV} {gs:List Gd} (t:xo q gs) (hb:gs.length<=50):∃ p b,EP A vu [.agg (Ins.cells ⟨32,A',B,C,D⟩),q]=some (.tup [p,.bool b])/\zcu ⟨32,A',B,C,D⟩ gs p b:=by
 have hg:=Yo t (by omega:gs.length<=1048576)
 have hf:=wl t 7
 by_cases c:gs=[]
 ·subst c
  rw [Z9.1,Z9.2] at hg
  refine ⟨_,_,by (simp -implicitDefEqProofs +contextual (disch:=omega) only [yL,yO,yx,Ins.cells,zF, ↓XD,XU, ↓reduceIte,sevalprocAttr,hf,hg,zC])<;>rfl,?_⟩
  exact ⟨by simp [change],λ gs' h=>by simp [change] at h⟩
 ·rw [(j9 c).1,(j9 c).2] at hg
  have k1:=Zb 1 gs
  have hp:=List.length_pos_iff.2 c
  have hp2:¬(gs.length:Int)=0:=by omega
  have eN:((gs.length:Int)-1).toNat=gs.length-1:=by omega
  cases hT:(za gs ((gs.length:Int)-1)).Try with
  |false=>
   refine ⟨_,_,by (simp -implicitDefEqProofs +contextual (disch:=omega) only [yL,yO,yx,Ins.cells,Gd.cells,zF, ↓XD,XU, ↓reduceIte,sevalprocAttr,hf,hg,zC,zX,yR,k1,hp2,hT])<;>rfl,?_⟩
   exact ⟨by simp [change,hT],λ gs' h=>by simp [change,hT] at h⟩
  |true=>
   have hs:=zp6 (sz:=3) (H:=[.cells 5 [Ins.cells ⟨32,A',B,C,D⟩],.cells 3 [(za gs 0).cells],.cells 3 [(za gs 0).cells],.cells 3 (gs.map Gd.cells)]) (id:=3) (len:=gs.length) (tot:=gs.length) (k:=.i64) (n:=(gs.length:Int)-1) rfl (by omega) (by omega)
   simp only [Ins.cells,Gd.cells] at hs
   refine ⟨_,_,by (simp -implicitDefEqProofs +contextual (disch:=omega) only [yL,yO,yx,Ins.cells,Gd.cells,zF, ↓zjM,hs, ↓XD,XU, ↓reduceIte,sevalprocAttr,hf,hg,zC,zX,yR,k1,hp2,hT])<;>rfl,?_⟩
   refine ⟨by simp [change,c,hT],λ gs' h=>?_⟩
   simp [change,c,hT] at h
   subst h
   rw [zjU _ _ _ (by omega)]
   left;rw [List.dropLast_eq_take,eN]
theorem zDb {A' B C D:Int} {q:PV} {gs:List Gd} (t:xo q gs) (hb:gs.length<=50):∃ p b,EP A vu [.agg (Ins.cells ⟨36,A',B,C,D⟩),q]=some (.tup [p,.bool b])/\zcu ⟨36,A',B,C,D⟩ gs p b:=by
 have hg:=Yo t (by omega:gs.length<=1048576)
 have hf:=wl t 7
 by_cases c:gs=[]
 ·subst c
  rw [Z9.1,Z9.2] at hg
  refine ⟨_,_,by (simp -implicitDefEqProofs +contextual (disch:=omega) only [yL,yO,yx,Ins.cells,zF, ↓XD,XU, ↓reduceIte,sevalprocAttr,hf,hg,zC])<;>rfl,?_⟩
  exact ⟨by simp [change],λ gs' h=>by simp [change] at h⟩
 ·rw [(j9 c).1,(j9 c).2] at hg
  have k1:=Zb 1 gs
  have hp:=List.length_pos_iff.2 c
  have hp2:¬(gs.length:Int)=0:=by omega
  have eN:((gs.length:Int)-1).toNat=gs.length-1:=by omega
  cases hT:(za gs ((gs.length:Int)-1)).Try with
  |true=>
   refine ⟨_,_,by (simp -implicitDefEqProofs +contextual (disch:=omega) only [yL,yO,yx,Ins.cells,Gd.cells,zF, ↓XD,XU, ↓reduceIte,sevalprocAttr,hf,hg,zC,zX,yR,k1,hp2,hT])<;>rfl,?_⟩
   exact ⟨by simp [change,hT],λ gs' h=>by simp [change,hT] at h⟩
  |false=>
   have hs:=zp6 (sz:=3) (H:=[.cells 5 [Ins.cells ⟨36,A',B,C,D⟩],.cells 3 [(za gs 0).cells],.cells 3 [(za gs 0).cells],.cells 3 (gs.map Gd.cells)]) (id:=3) (len:=gs.length) (tot:=gs.length) (k:=.i64) (n:=(gs.length:Int)-1) rfl (by omega) (by omega)
   simp only [Ins.cells,Gd.cells] at hs
   refine ⟨_,_,by (simp -implicitDefEqProofs +contextual (disch:=omega) only [yL,yO,yx,Ins.cells,Gd.cells,zF, ↓zjM,hs, ↓XD,XU, ↓reduceIte,sevalprocAttr,hf,hg,zC,zX,yR,k1,hp2,hT])<;>rfl,?_⟩
   refine ⟨by simp [change,c,hT],λ gs' h=>?_⟩
   simp [change,c,hT] at h
   subst h
   rw [zjU _ _ _ (by omega)]
   left;rw [List.dropLast_eq_take,eN]
theorem zDa {A' B C D:Int} {q:PV} {gs:List Gd} (t:xo q gs) (hb:gs.length<=50):∃ p b,EP A vu [.agg (Ins.cells ⟨35,A',B,C,D⟩),q]=some (.tup [p,.bool b])/\zcu ⟨35,A',B,C,D⟩ gs p b:=by
 have hg:=Yo t (by omega:gs.length<=1048576)
 have hf:=wl t 7
 by_cases c:gs=[]
 ·subst c
  rw [Z9.1,Z9.2] at hg
  refine ⟨_,_,by (simp -implicitDefEqProofs +contextual (disch:=omega) only [yL,yO,yx,Ins.cells,zF, ↓XD,XU, ↓reduceIte,sevalprocAttr,hf,hg,zC])<;>rfl,?_⟩
  exact ⟨by simp [change],λ gs' h=>by simp [change] at h⟩
 ·rw [(j9 c).1,(j9 c).2] at hg
  have k1:=Zb 1 gs
  have hp:=List.length_pos_iff.2 c
  have hp2:¬(gs.length:Int)=0:=by omega
  have eN:((gs.length:Int)-1).toNat=gs.length-1:=by omega
  cases hT:(za gs ((gs.length:Int)-1)).Try with
  |true=>
   refine ⟨_,_,by (simp -implicitDefEqProofs +contextual (disch:=omega) only [yL,yO,yx,Ins.cells,Gd.cells,zF, ↓XD,XU, ↓reduceIte,sevalprocAttr,hf,hg,zC,zX,yR,k1,hp2,hT])<;>rfl,?_⟩
   exact ⟨by simp [change,hT],λ gs' h=>by simp [change,hT] at h⟩
  |false=>
   have hs:=zp6 (sz:=3) (H:=[.cells 5 [Ins.cells ⟨36,A',B,C,D⟩],.cells 3 [(za gs 0).cells],.cells 3 [(za gs 0).cells],.cells 3 (gs.map Gd.cells)]) (id:=3) (len:=gs.length) (tot:=gs.length) (k:=.i64) (n:=(gs.length:Int)-1) rfl (by omega) (by omega)
   simp only [Ins.cells,Gd.cells] at hs
   refine ⟨_,_,by (simp -implicitDefEqProofs +contextual (disch:=omega) only [yL,yO,yx,Ins.cells,Gd.cells,zF, ↓zjM,hs, ↓XD,XU, ↓reduceIte,sevalprocAttr,hf,hg,zC,zX,yR,k1,hp2,hT])<;>rfl,?_⟩
   refine ⟨by simp [change,c,hT],λ gs' h=>?_⟩
   simp [change,c,hT] at h
   subst h
   rw [zew];exact .inl rfl
theorem zC' {A' B C D:Int} {q:PV} {gs:List Gd} (t:xo q gs) (hb:gs.length<=50):∃ p b,EP A vu [.agg (Ins.cells ⟨34,A',B,C,D⟩),q]=some (.tup [p,.bool b])/\zcu ⟨34,A',B,C,D⟩ gs p b:=by
 have hg:=Yo t (by omega:gs.length<=1048576)
 have hf:=wl t 7
 have ha:=zfR t A' (by omega)
 by_cases c:gs=[]
 ·subst c
  rw [Z9.1,Z9.2] at hg
  refine ⟨_,_,by (simp -implicitDefEqProofs +contextual (disch:=omega) only [yL,yO,yx,Ins.cells,zF, ↓XD,XU, ↓reduceIte,sevalprocAttr,hf,hg,zC])<;>rfl,?_⟩
  exact ⟨by simp [change],λ gs' h=>by simp [change] at h⟩
 ·rw [(j9 c).1,(j9 c).2] at hg
  have k1:=Zb 1 gs
  have hp:=List.length_pos_iff.2 c
  have hp2:¬(gs.length:Int)=0:=by omega
  have eN:((gs.length:Int)-1).toNat=gs.length-1:=by omega
  cases hT:(za gs ((gs.length:Int)-1)).Try with
  |true=>
   refine ⟨_,_,by (simp -implicitDefEqProofs +contextual (disch:=omega) only [yL,yO,yx,Ins.cells,Gd.cells,zF, ↓XD,XU, ↓reduceIte,sevalprocAttr,hf,hg,zC,zX,yR,k1,hp2,hT])<;>rfl,?_⟩
   exact ⟨by simp [change,hT],λ gs' h=>by simp [change,hT] at h⟩
  |false=>
   by_cases hab:ud gs A'
   ·refine ⟨_,_,by (simp -implicitDefEqProofs +contextual (disch:=omega) only [yL,yO,yx,Ins.cells,Gd.cells,zF, ↓XD,XU, ↓reduceIte,sevalprocAttr,hf,hg,ha,zC,zX,yR,k1,hp2,hT,hab])<;>rfl,?_⟩
    refine ⟨by simp [change,c,hT,hab],λ gs' h=>?_⟩
    simp [change,c,hT,hab] at h
    subst h
    have er:(List.map Gd.cells gs).set ((gs.length:Int)-1).toNat [.bool false,.int .i64 A',.int .i64 (za gs ((gs.length:Int)-1)).Handler]=(gs.set (gs.length-1) ⟨false,A',(za gs ((gs.length:Int)-1)).Handler⟩).map Gd.cells:=by rw [eN,List.map_set]
    have en:gs.length=(gs.set (gs.length-1) (⟨false,A',(za gs ((gs.length:Int)-1)).Handler⟩:Gd)).length:=by simp
    rw [er]
    have:=zew 5 [.cells 5 [Ins.cells ⟨34,A',B,C,D⟩],.cells 3 [(za gs 0).cells],.cells 3 [(za gs 0).cells],.cells 3 ((gs.set (gs.length-1) (⟨false,A',(za gs ((gs.length:Int)-1)).Handler⟩:Gd)).map Gd.cells)] (gs.set (gs.length-1) ⟨false,A',(za gs ((gs.length:Int)-1)).Handler⟩)
    rw [<-en] at this
    rw [this];exact .inl rfl
   ·refine ⟨_,_,by (simp -implicitDefEqProofs +contextual (disch:=omega) only [yL,yO,yx,Ins.cells,Gd.cells,zF, ↓XD,XU, ↓reduceIte,sevalprocAttr,hf,hg,ha,zC,zX,yR,k1,hp2,hT,hab])<;>rfl,?_⟩
    exact ⟨by simp [change,hT,hab],λ gs' h=>by simp [change,hT,hab] at h⟩
theorem zzF {o A' B C D:Int} {q:PV} {gs:List Gd} (t:xo q gs) (hb:gs.length<=50) (h1:¬o=31) (h2:¬o=32) (h3:¬o=33) (h4:¬o=34) (h5:¬o=35) (h6:¬o=36):∃ p b,EP A vu [.agg (Ins.cells ⟨o,A',B,C,D⟩),q]=some (.tup [p,.bool b])/\zcu ⟨o,A',B,C,D⟩ gs p b:=by
 have hg:=Yo t (by omega:gs.length<=1048576)
 have hf:=wl t 7
 by_cases c:gs=[]
 ·subst c
  rw [Z9.1,Z9.2] at hg
  refine ⟨_,_,by (simp -implicitDefEqProofs +contextual (disch:=omega) only [yL,yO,yx,Ins.cells,zF, ↓XD,XU, ↓reduceIte,sevalprocAttr,hf,hg,zC,h1,h2,h3,h4,h5,h6])<;>rfl,?_⟩
  refine ⟨by simp [change,h1,h2,h3,h4,h5,h6],λ gs' h=>?_⟩
  simp [change,h1,h2,h3,h4,h5,h6] at h
  subst h
  exact .inr ⟨rfl,rfl⟩
 ·rw [(j9 c).1,(j9 c).2] at hg
  have k1:=Zb 1 gs
  refine ⟨_,_,by (simp -implicitDefEqProofs +contextual (disch:=omega) only [yL,yO,yx,Ins.cells,Gd.cells,zF, ↓XD,XU, ↓reduceIte,sevalprocAttr,hf,hg,zC,zX,yR,k1,h1,h2,h3,h4,h5,h6])<;>rfl,?_⟩
  refine ⟨by simp [change,h1,h2,h3,h4,h5,h6],λ gs' h=>?_⟩
  simp [change,h1,h2,h3,h4,h5,h6] at h
  subst h
  rw [zew];exact .inl rfl
theorem zqY {nd:Ins} {q:PV} {gs:List Gd} (t:xo q gs) (hb:gs.length<=50):∃ p b,EP A vu [.agg nd.cells,q]=some (.tup [p,.bool b])/\zcu nd gs p b:=by
 obtain ⟨o,a,b,c,d⟩:=nd
 by_cases h1:o=31
 ·subst h1;exact zC8 t hb
 by_cases h2:o=32
 ·subst h2;exact zC9 t hb
 by_cases h3:o=33
 ·subst h3;exact zC_ t hb
 by_cases h4:o=34
 ·subst h4;exact zC' t hb
 by_cases h5:o=35
 ·subst h5;exact zDa t hb
 by_cases h6:o=36
 ·subst h6;exact zDb t hb
 exact zzF t hb h1 h2 h3 h4 h5 h6
def vt (X:zd) (p:PV) (l:List Int):Prop:=(p=.nils/\l=[])\/∃ id,p=.sl id 0 l.length l.length/\X[id]?=some (.cells 1 (ym l))
theorem vt.isI {X:zd} {p:PV} {l:List Int} (h:vt X p l) (d:Nat):xP (frz (d+2) X p) l:=by
 rcases h with ⟨rfl,rfl⟩|⟨id,rfl,h⟩
 ·exact .inr ⟨rfl,rfl⟩
 ·left;exact jD h
theorem vt.len {X:zd} {p:PV} {l:List Int} (h:vt X p l):ZH p=some (.int .i64 l.length):=by
 rcases h with ⟨rfl,rfl⟩|⟨id,rfl,h⟩<;>simp [ZH]
theorem vt.lend {X:zd} {p:PV} {l:List Int} (h:vt X p l) (Y:zd):vt (Y++X.map (zX Y.length)) (zC Y.length p) l:=by
 rcases h with ⟨rfl,rfl⟩|⟨id,rfl,h⟩
 ·exact .inl ⟨by simp [zC],rfl⟩
 ·exact .inr ⟨Y.length+id,by simp [zC],by rw [Wi,h];simp only [cA,zX,Wv]⟩
theorem zgc (Y:zd) (v:Int):bsK 1 [.int .i64 0] [.int .i64 v] Y=some (.sl Y.length 0 1 1,Y++[.cells 1 [[.int .i64 v]]],[])/\uu (Y++[.cells 1 [[.int .i64 v]]]) (.sl Y.length 0 1 1)=some [[.int .i64 v]]/\xU (Y++[.cells 1 [[.int .i64 v]]]) 1 (.sl Y.length 0 1 1)=true/\xe (Y++[.cells 1 [[.int .i64 v]]]) 1 8 .nils [[.int .i64 v]]=some (.sl (Y.length+1) 0 1 1,Y++[.cells 1 [[.int .i64 v]],.cells 1 [[.int .i64 v]]],[]):=
 ⟨yi v Y,(ju _ _ _).1,(ju _ _ _).2,by have:=x_ (Y++[.cells 1 [[.int .i64 v]]]) 1 8 [[.int .i64 v]] (by simp);simpa using this⟩
theorem zp7 (Y:zd) (v w:Int):bsK 1 [.int .i64 0] [.int .i64 w] (Y++[.cells 1 [[.int .i64 v]],.cells 1 [[.int .i64 v]]])=some (.sl (Y.length+2) 0 1 1,Y++[.cells 1 [[.int .i64 v]],.cells 1 [[.int .i64 v]],.cells 1 [[.int .i64 w]]],[])/\uu (Y++[.cells 1 [[.int .i64 v]],.cells 1 [[.int .i64 v]],.cells 1 [[.int .i64 w]]]) (.sl (Y.length+2) 0 1 1)=some [[.int .i64 w]]/\xU (Y++[.cells 1 [[.int .i64 v]],.cells 1 [[.int .i64 v]],.cells 1 [[.int .i64 w]]]) 1 (.sl (Y.length+2) 0 1 1)=true/\
  xe (Y++[.cells 1 [[.int .i64 v]],.cells 1 [[.int .i64 v]],.cells 1 [[.int .i64 w]]]) 1 8 (.sl (Y.length+1) 0 1 1) [[.int .i64 w]]=some (.sl (Y.length+1) 0 2 2,Y++[.cells 1 [[.int .i64 v]],.cells 1 [[.int .i64 v],[.int .i64 w]],.cells 1 [[.int .i64 w]]],[]):=by
 have e:Y++[.cells 1 [[.int .i64 v]],.cells 1 [[.int .i64 v]],.cells 1 [[.int .i64 w]]]=(Y++[.cells 1 [[.int .i64 v]],.cells 1 [[.int .i64 v]]])++[.cells 1 [[.int .i64 w]]]:=by simp
 have hl:Y.length+2=(Y++[zZ.cells 1 [[.int .i64 v]],.cells 1 [[.int .i64 v]]]).length:=by simp
 refine ⟨?_,?_,?_,?_⟩
 ·rw [yi,hl,e]
 ·rw [e];exact (Xi _ _ hl 1 _).1
 ·rw [e];exact (Xi _ _ hl 1 _).2
 ·have h0:(Y++[zZ.cells 1 [[.int .i64 v]],.cells 1 [[.int .i64 v]],.cells 1 [[.int .i64 w]]])[Y.length+1]?=some (.cells 1 [[.int .i64 v]]):=by rw [wF];rfl
  have:=Ym (by':=8) (n:=1) h0 rfl (by omega) [.int .i64 w] rfl
  rw [this]
  rw [QH];rfl
theorem znp {f:zc} {a:Int} (a0:0<=a) (a1:a<f.Ins.length) (hb:f.Ins.length<=1048576):∃ st,EV A uC ⟨[(0,.agg f.cells),(1,.int .i64 a)],[],[],[]⟩=some (.ret,st)/\st.ed=[]/\vt st.H (st.per.get 4) (xV (za f.Ins a) a):=by
 obtain ⟨nd,hnd⟩:∃ nd,za f.Ins a=nd:=⟨_,rfl⟩
 rw [hnd]
 obtain ⟨o,A',B,C,D⟩:=nd
 by_cases g1:o=1
 ·subst g1
  refine ⟨_,by (simp -implicitDefEqProofs +contextual (disch:=omega) only [xK,xu,zc.cells,ups,ze,zj,zm,Ins.cells,zF, ↓zz, ↓zG,zA, ↓XD,XU, ↓reduceIte,sevalprocAttr,hnd,a0,a1])<;>rfl,rfl,.inl ⟨rfl,by simp [xV]⟩⟩
 by_cases g3:o=3
 ·subst g3
  refine ⟨_,by (simp -implicitDefEqProofs +contextual (disch:=omega) only [xK,xu,zc.cells,ups,ze,zj,zm,Ins.cells,zF, ↓zz, ↓zG,zA, ↓XD,XU, ↓reduceIte,sevalprocAttr,hnd,a0,a1])<;>rfl,rfl,.inl ⟨rfl,by simp [xV]⟩⟩
 by_cases g28:o=28
 ·subst g28
  refine ⟨_,by (simp -implicitDefEqProofs +contextual (disch:=omega) only [xK,xu,zc.cells,ups,ze,zj,zm,Ins.cells,zF, ↓zz, ↓zG,zA, ↓XD,XU, ↓reduceIte,sevalprocAttr,hnd,a0,a1])<;>rfl,rfl,.inl ⟨rfl,by simp [xV]⟩⟩
 by_cases g29:o=29
 ·subst g29
  refine ⟨_,by (simp -implicitDefEqProofs +contextual (disch:=omega) only [xK,xu,zc.cells,ups,ze,zj,zm,Ins.cells,zF, ↓zz, ↓zG,zA, ↓XD,XU, ↓reduceIte,sevalprocAttr,hnd,a0,a1])<;>rfl,rfl,.inl ⟨rfl,by simp [xV]⟩⟩
 by_cases g30:o=30
 ·subst g30
  refine ⟨_,by (simp -implicitDefEqProofs +contextual (disch:=omega) only [xK,xu,zc.cells,ups,ze,zj,zm,Ins.cells,zF, ↓zz, ↓zG,zA, ↓XD,XU, ↓reduceIte,sevalprocAttr,hnd,a0,a1])<;>rfl,rfl,.inl ⟨rfl,by simp [xV]⟩⟩
 by_cases g18:o=18
 ·subst g18
  by_cases hB:B=12
  ·subst hB
   refine ⟨_,by (simp -implicitDefEqProofs +contextual (disch:=omega) only [xK,xu,zc.cells,ups,ze,zj,zm,Ins.cells,zF, ↓zz, ↓zG,zA, ↓XD,XU, ↓reduceIte,sevalprocAttr,hnd,a0,a1])<;>rfl,rfl,.inl ⟨rfl,by simp [xV]⟩⟩
  ·have h1:=zgc ([.cells 9 [f.cells],.cells 5 [Ins.cells ⟨18,A',B,C,D⟩]]) (a+1)
   simp only [zc.cells,ups,ze,zj,zm,Ins.cells,aB,aA,bC,bE,bO] at h1
   refine ⟨_,by (simp -implicitDefEqProofs +contextual (disch:=omega) only [xK,xu,zc.cells,ups,ze,zj,zm,Ins.cells,zF, ↓zz, ↓zG,zA, ↓XD,XU, ↓reduceIte,sevalprocAttr,hnd,a0,a1,h1.1,h1.2.1,h1.2.2.1,h1.2.2.2,hB])<;>rfl,rfl,.inr ⟨3,?_,?_⟩⟩
   ·simp [xV,zk.get,zk.put,hB]
   ·simp [xV,hB]
 by_cases g19:o=19
 ·subst g19
  have h1:=zgc ([.cells 9 [f.cells],.cells 5 [Ins.cells ⟨19,A',B,C,D⟩]]) (A')
  simp only [zc.cells,ups,ze,zj,zm,Ins.cells,aB,aA,bC,bE,bO] at h1
  refine ⟨_,by (simp -implicitDefEqProofs +contextual (disch:=omega) only [xK,xu,zc.cells,ups,ze,zj,zm,Ins.cells,zF, ↓zz, ↓zG,zA, ↓XD,XU, ↓reduceIte,sevalprocAttr,hnd,a0,a1,h1.1,h1.2.1,h1.2.2.1,h1.2.2.2])<;>rfl,rfl,.inr ⟨3,?_,?_⟩⟩
  ·simp [xV,zk.get,zk.put]
  ·simp [xV]
 by_cases g41:o=41
 ·subst g41
  have h1:=zgc ([.cells 9 [f.cells],.cells 5 [Ins.cells ⟨41,A',B,C,D⟩]]) (B)
  simp only [zc.cells,ups,ze,zj,zm,Ins.cells,aB,aA,bC,bE,bO] at h1
  refine ⟨_,by (simp -implicitDefEqProofs +contextual (disch:=omega) only [xK,xu,zc.cells,ups,ze,zj,zm,Ins.cells,zF, ↓zz, ↓zG,zA, ↓XD,XU, ↓reduceIte,sevalprocAttr,hnd,a0,a1,h1.1,h1.2.1,h1.2.2.1,h1.2.2.2])<;>rfl,rfl,.inr ⟨3,?_,?_⟩⟩
  ·simp [xV,zk.get,zk.put]
  ·simp [xV]
 by_cases g20:o=20
 ·subst g20
  have h1:=zgc ([.cells 9 [f.cells],.cells 5 [Ins.cells ⟨20,A',B,C,D⟩]]) (B)
  have h2:=zp7 ([.cells 9 [f.cells],.cells 5 [Ins.cells ⟨20,A',B,C,D⟩]]) (B) (a+1)
  simp only [zc.cells,ups,ze,zj,zm,Ins.cells,aB,aA,bC,bE,bO] at h1 h2
  refine ⟨_,by (simp -implicitDefEqProofs +contextual (disch:=omega) only [xK,xu,zc.cells,ups,ze,zj,zm,Ins.cells,zF, ↓zz, ↓zG,zA, ↓XD,XU, ↓reduceIte,sevalprocAttr,hnd,a0,a1,h1.1,h1.2.1,h1.2.2.1,h1.2.2.2,h2.1,h2.2.1,h2.2.2.1,h2.2.2.2])<;>rfl,rfl,.inr ⟨3,?_,?_⟩⟩
  ·simp [xV,zk.get,zk.put]
  ·simp [xV]
 by_cases g21:o=21
 ·subst g21
  have h1:=zgc ([.cells 9 [f.cells],.cells 5 [Ins.cells ⟨21,A',B,C,D⟩]]) (B)
  have h2:=zp7 ([.cells 9 [f.cells],.cells 5 [Ins.cells ⟨21,A',B,C,D⟩]]) (B) (a+1)
  simp only [zc.cells,ups,ze,zj,zm,Ins.cells,aB,aA,bC,bE,bO] at h1 h2
  refine ⟨_,by (simp -implicitDefEqProofs +contextual (disch:=omega) only [xK,xu,zc.cells,ups,ze,zj,zm,Ins.cells,zF, ↓zz, ↓zG,zA, ↓XD,XU, ↓reduceIte,sevalprocAttr,hnd,a0,a1,h1.1,h1.2.1,h1.2.2.1,h1.2.2.2,h2.1,h2.2.1,h2.2.2.1,h2.2.2.2])<;>rfl,rfl,.inr ⟨3,?_,?_⟩⟩
  ·simp [xV,zk.get,zk.put]
  ·simp [xV]
 by_cases g38:o=38
 ·subst g38
  have h1:=zgc ([.cells 9 [f.cells],.cells 5 [Ins.cells ⟨38,A',B,C,D⟩]]) (B)
  have h2:=zp7 ([.cells 9 [f.cells],.cells 5 [Ins.cells ⟨38,A',B,C,D⟩]]) (B) (a+1)
  simp only [zc.cells,ups,ze,zj,zm,Ins.cells,aB,aA,bC,bE,bO] at h1 h2
  refine ⟨_,by (simp -implicitDefEqProofs +contextual (disch:=omega) only [xK,xu,zc.cells,ups,ze,zj,zm,Ins.cells,zF, ↓zz, ↓zG,zA, ↓XD,XU, ↓reduceIte,sevalprocAttr,hnd,a0,a1,h1.1,h1.2.1,h1.2.2.1,h1.2.2.2,h2.1,h2.2.1,h2.2.2.1,h2.2.2.2])<;>rfl,rfl,.inr ⟨3,?_,?_⟩⟩
  ·simp [xV,zk.get,zk.put]
  ·simp [xV]
 by_cases g39:o=39
 ·subst g39
  have h1:=zgc ([.cells 9 [f.cells],.cells 5 [Ins.cells ⟨39,A',B,C,D⟩]]) (B)
  have h2:=zp7 ([.cells 9 [f.cells],.cells 5 [Ins.cells ⟨39,A',B,C,D⟩]]) (B) (a+1)
  simp only [zc.cells,ups,ze,zj,zm,Ins.cells,aB,aA,bC,bE,bO] at h1 h2
  refine ⟨_,by (simp -implicitDefEqProofs +contextual (disch:=omega) only [xK,xu,zc.cells,ups,ze,zj,zm,Ins.cells,zF, ↓zz, ↓zG,zA, ↓XD,XU, ↓reduceIte,sevalprocAttr,hnd,a0,a1,h1.1,h1.2.1,h1.2.2.1,h1.2.2.2,h2.1,h2.2.1,h2.2.2.1,h2.2.2.2])<;>rfl,rfl,.inr ⟨3,?_,?_⟩⟩
  ·simp [xV,zk.get,zk.put]
  ·simp [xV]
 by_cases g31:o=31
 ·subst g31
  have h1:=zgc ([.cells 9 [f.cells],.cells 5 [Ins.cells ⟨31,A',B,C,D⟩]]) (A')
  have h2:=zp7 ([.cells 9 [f.cells],.cells 5 [Ins.cells ⟨31,A',B,C,D⟩]]) (A') (a+1)
  simp only [zc.cells,ups,ze,zj,zm,Ins.cells,aB,aA,bC,bE,bO] at h1 h2
  refine ⟨_,by (simp -implicitDefEqProofs +contextual (disch:=omega) only [xK,xu,zc.cells,ups,ze,zj,zm,Ins.cells,zF, ↓zz, ↓zG,zA, ↓XD,XU, ↓reduceIte,sevalprocAttr,hnd,a0,a1,h1.1,h1.2.1,h1.2.2.1,h1.2.2.2,h2.1,h2.2.1,h2.2.2.1,h2.2.2.2])<;>rfl,rfl,.inr ⟨3,?_,?_⟩⟩
  ·simp [xV,zk.get,zk.put]
  ·simp [xV]
 have h1:=zgc ([.cells 9 [f.cells],.cells 5 [Ins.cells ⟨o,A',B,C,D⟩]]) (a+1)
 simp only [zc.cells,ups,ze,zj,zm,Ins.cells,aB,aA,bC,bE,bO] at h1
 refine ⟨_,by (simp -implicitDefEqProofs +contextual (disch:=omega) only [xK,xu,zc.cells,ups,ze,zj,zm,Ins.cells,zF, ↓zz, ↓zG,zA, ↓XD,XU, ↓reduceIte,sevalprocAttr,hnd,a0,a1,h1.1,h1.2.1,h1.2.2.1,h1.2.2.2,g1,g3,g28,g29,g30,g18,g19,g41,g20,g21,g38,g39,g31])<;>rfl,rfl,.inr ⟨3,?_,?_⟩⟩
 ·simp [xV,zk.get,zk.put,g1,g3,g28,g29,g30,g18,g19,g41,g20,g21,g38,g39,g31]
 ·simp [xV,g1,g3,g28,g29,g30,g18,g19,g41,g20,g21,g38,g39,g31]
theorem zq1 {f:zc} {a:Int} (a0:0<=a) (a1:a<f.Ins.length) (hb:f.Ins.length<=1048576):∃ p X,ES A WO [.agg f.cells,.int .i64 a] []=some (p,X,[])/\vt X p (xV (za f.Ins a) a):=by
 obtain ⟨st,h1,h2,h3⟩:=znp a0 a1 hb
 rcases h3 with ⟨h3,h4⟩|⟨id,h3,h4⟩
 ·refine ⟨.nils,[],?_,.inl ⟨rfl,h4⟩⟩
  rw [zdc,h1]
  simp -implicitDefEqProofs +contextual (disch:=omega) only [↓XD,XU, ↓reduceIte,sevalprocAttr,h2,h3]
  simp [trim,bare,zn,refs]
 ·refine ⟨_,st.H,?_,.inr ⟨id,rfl,h4⟩⟩
  rw [zdc,h1]
  simp -implicitDefEqProofs +contextual (disch:=omega) only [↓XD,XU, ↓reduceIte,sevalprocAttr,h2,h3]
  simp [trim,bare,zn,refs]
theorem zq0 {f:zc} {a:Int} (a0:0<=a) (a1:a<f.Ins.length) (hb:f.Ins.length<=1048576):∃ p,EP A WO [.agg f.cells,.int .i64 a]=some p/\xP p (xV (za f.Ins a) a):=by
 obtain ⟨st,h1,h2,h3⟩:=znp a0 a1 hb
 refine ⟨frz 8 st.H (st.per.get 4),?_,h3.isI 6⟩
 rw [zkA,h1]
 rfl
theorem uJ (k:Nat) (roots:List PV) (H:zd) (ed:zI) {id:Nat} (h:id<k\/id∈zn roots):(trim k roots H ed).1[id]?=H[id]?:=by
 rw [trim]
 cases hb:bare k (zn roots)&&ed.all λ e=>decide (k<=e.1)||decide (e.2<k) with
 |false=>rfl
 |true=>
  rw [aU] at hb
  have:id<k:=by
   rcases h with h|h
   ·exact h
   ·have:=aZ.1 hb.1 id h;simpa using this
  show (H.take k)[id]?=_
  rw [bR,if_pos this]
theorem ua (k:Nat) (roots:List PV) (H:zd):(trim k roots H []).2=[]:=by
 rw [trim];cases bare k (zn roots)&&([]:zI).all _<;>rfl
theorem Q9 {p:PV} {roots:List PV} (hp:p∈roots) {r:Nat} (hr:r∈refs p):r∈zn roots:=wU.2 ⟨p,hp,hr⟩
theorem yJ {H:zd} {i:Nat} {b:zZ} (h:H[i]?=some b):i<H.length:=by
 rcases bS i H.length with h1|h1
 ·exact h1
 ·rw [bB h1] at h;cases h
structure Own (b0 b1:zZ) (H:zd) (p:PV) (l:List Int):Prop where
 h0:H[0]?=some b0
 h1:H[1]?=some b1
 sl:vt H p l
 far:∀ r∈refs p,2<=r
theorem Own.trim {b0 b1:zZ} {H:zd} {p:PV} {l:List Int} (h:Own b0 b1 H p l) {k:Nat} (hk:2<=k) {roots:List PV} (hp:p∈roots) (ed:zI):Own b0 b1 (trim k roots H ed).1 p l:=by
 refine ⟨(uJ _ _ _ _ (.inl (by omega))).trans h.h0,(uJ _ _ _ _ (.inl (by omega))).trans h.h1,?_,h.far⟩
 rcases h.sl with h1|⟨id,rfl,h1⟩
 ·exact .inl h1
 ·exact .inr ⟨id,rfl,(uJ _ _ _ _ (.inr (Q9 hp (by simp [refs])))).trans h1⟩
theorem Own.push {b0 b1:zZ} {H:zd} {p:PV} {l:List Int} (h:Own b0 b1 H p l) (hb:l.length<=4000000) (v:Int):∃ p' H',xe (H++[.cells 1 [[.int .i64 v]]]) 1 8 p [[.int .i64 v]]=some (p',H',[])/\Own b0 b1 H' p' (l++[v])/\H.length<=H'.length:=by
 have e0:=zY H [.cells 1 [[.int .i64 v]]] h.h0
 have e1:=zY H [.cells 1 [[.int .i64 v]]] h.h1
 have hl:=yJ h.h1
 rcases h.sl with ⟨rfl,rfl⟩|⟨id,rfl,h1⟩
 ·have:=x_ (H++[.cells 1 [[.int .i64 v]]]) 1 8 [[.int .i64 v]] (by simp)
  refine ⟨_,_,this,⟨zY _ _ e0,zY _ _ e1,.inr ⟨(H++[zZ.cells 1 [[PV.int .i64 v]]]).length,rfl,by rw [xp];rfl⟩,λ r hr=>?_⟩,by simp⟩
  simp [refs] at hr;subst hr;omega
 ·have h2:=zY H [.cells 1 [[.int .i64 v]]] h1
  have hid:2<=id:=h.far id (by simp [refs])
  have:=Ym (by':=8) (n:=l.length) h2 (by simp) (by omega) [.int .i64 v] rfl
  refine ⟨_,_,this,⟨by rw [aH (by omega)];exact e0,by rw [aH (by omega)];exact e1,.inr ⟨id,by simp,?_⟩,λ r hr=>?_⟩,by simp⟩
  ·rw [aK (yJ h2)];simp [ym]
  ·simp [refs] at hr;subst hr;exact hid
abbrev Xf (f:zc) (a:Int) (n:Nat) (p:PV) (i:Int):zk:=[(0,.agg f.cells),(1,.int .i64 a),(2,.ptr 0 0 0 1),(4,.bool false),(5,.sl 1 0 n n),(6,p),(7,.int .i64 i)]
theorem zDv {f:zc} {a i x:Int} {n:Nat} {b0 b1:zZ} {q:PV} {ql:List Int} (hq:xP q ql) (hql:ql.length<=2) {H:zd} {p:PV} {l:List Int} (h:Own b0 b1 H p l) (hl:l.length<=3000000):
  ∃ H' p',EV A (.loop (u7 1)) ⟨Xf f a n p i++[(8,.int .i64 x),(41,q),(42,.int .i64 ql.length),(43,.int .i64 0)],[],H,[]⟩=some (.exit 2,⟨Xf f a n p' i++[(8,.int .i64 x),(41,q),(42,.int .i64 ql.length),(43,.int .i64 ql.length)],[],H',[]⟩)/\Own b0 b1 H' p' (l++ql):=by
 have key:=Vj (P:=A) (body:=(u7 1)) (λ j (s:zd×PV)=>(⟨Xf f a n s.2 i++[(8,.int .i64 x),(41,q),(42,.int .i64 ql.length),(43,.int .i64 j)],[],s.1,[]⟩:St))
  (λ j s=>Own b0 b1 s.1 s.2 (l++ql.take j.toNat)) (λ s=>(zp.exit 2,(⟨Xf f a n s.2 i++[(8,.int .i64 x),(41,q),(42,.int .i64 ql.length),(43,.int .i64 ql.length)],[],s.1,[]⟩:St))) 0 ql.length ?_ ?_ 0 (H,p) (by omega) (by omega) (by simpa using h)
 ·obtain ⟨⟨H',p'⟩,k1,k2⟩:=key
  exact ⟨H',p',k1,by simpa using k2⟩
 ·rintro j ⟨H1,p1⟩ hj hn hok
  simp only at hok ⊢
  have hx:=λ H=>wP hq H .i64 j hj hn
  obtain ⟨p',H',e1,e2,e3⟩:=hok.push (by simp;omega) (za ql j)
  have hr:=ju H1 1 [.int .i64 (za ql j)]
  have e5:ql.take (j+1).toNat=ql.take j.toNat++[za ql j]:=zaS hj hn
  refine ⟨_,((trim H1.length ((Xf f a n p' i++[(8,PV.int .i64 x),(41,q),(42,.int .i64 ql.length),(43,.int .i64 (j+1))]:zk).map (λ e=>e.2)) H' []).1,p'),by (simp -implicitDefEqProofs +contextual (disch:=omega) only [zbb,v_,Xf, ↓zz, ↓zG,yi,zA, ↓XD,XU, ↓reduceIte,sevalprocAttr,hx,hn,hr.1,hr.2,e1])<;>rfl,?_,?_⟩
  ·simp [St.next,ua]
  ·rw [e5, <-aY]
   exact e2.trim (yJ hok.h1) (by simp) _
 ·rintro j ⟨H1,p1⟩ hj rfl hok
  refine ⟨by simp -implicitDefEqProofs +contextual (disch:=omega) only [zbb,v_,Xf, ↓XD,XU, ↓reduceIte,sevalprocAttr,aL],by simp⟩
def zt3 (f:zc) (a:Int) (n:Nat) (r:zp×St):Prop:=(∃ p i H,r=(.exit 0,(⟨Xf f a n p i,[],H,[]⟩:St))/\¬zaK f a)\/(∃ st,r=(.ret,st)/\st.per.get 4=.bool true/\zaK f a)
structure zmh (f:zc) (a:Int) (H:zd) (p:PV) (seen:List Bool) (l:List Int) (i:Int):Prop where
 own:Own (.cells 9 [f.cells]) (.cells 1 (bl seen)) H p l
 bfs:Bfs f a seen l i
 few:l.length+2*QJ seen<=2*f.Ins.length+2
theorem zCg {f:zc} {a:Int} (hL:Yl f) (hb:f.Ins.length<=1048576) {H:zd} {p:PV} {seen:List Bool} {l:List Int} {i:Int} (h:zmh f a H p seen l i):
  ∃ r,EV A (.loop (u7 0)) ⟨Xf f a f.Ins.length p i,[],H,[]⟩=some r/\zt3 f a f.Ins.length r:=by
 refine Yr (P:=A) (body:=(u7 0)) (λ (s:zd×PV×List Bool×List Int×Int)=>(⟨Xf f a f.Ins.length s.2.1 s.2.2.2.2,[],s.1,[]⟩:St)) (λ s=>zmh f a s.1 s.2.1 s.2.2.1 s.2.2.2.1 s.2.2.2.2) (λ s=>2*QJ s.2.2.1+(s.2.2.2.1.length-s.2.2.2.2).toNat) (λ _ r=>zt3 f a f.Ins.length r) ?_ (H,p,seen,l,i) h
 rintro ⟨H,p,seen,l,i⟩ ⟨ho,hB,hf⟩
 simp only at ho hB hf ⊢
 have hlen:=ho.sl.len
 have i0:=hB.i0
 have hsn:=hB.n
 by_cases c:i<l.length
 ·obtain ⟨id,rfl,hid⟩:∃ id,p=.sl id 0 l.length l.length/\H[id]?=some (.cells 1 (ym l)):=by
   rcases ho.sl with ⟨_,e⟩|h
   ·subst e;simp at c;omega
   ·exact h
  have hll:l.length<=2097154:=by omega
  have g0:=ho.h0
  have g1:=ho.h1
  simp only [zc.cells,ups,ze,zj,zm] at g0
  obtain ⟨x,hx⟩:∃ x,za l i=x:=⟨_,rfl⟩
  by_cases e:x=a
  ·left
   refine ⟨_,by (simp -implicitDefEqProofs +contextual (disch:=omega) only [YF,v_,Xf,zc.cells,ups,ze,zj,zm, ↓XD,XU, ↓reduceIte,sevalprocAttr,hid,g0,g1,c,i0,hx,eq_true e])<;>rfl,by simp,.inr ⟨_,rfl,by simp [zk.get,zk.put],hB.hit c (hx.trans e)⟩⟩
  ·obtain ⟨x0,x1⟩:=hB.rng _ (jv i0 c)
   rw [hx] at x0 x1
   right
   cases hs:za seen x with
   |true=>
    refine ⟨((trim H.length ((Xf f a f.Ins.length (.sl id 0 l.length l.length) (i+1)).map (λ e=>e.2)) H []).1,.sl id 0 l.length l.length,seen,l,i+1),_,⟨ho.trim (yJ g1) (by simp) _,hB.skip c (by rw [hx];exact e) (by rw [hx];exact hs),hf⟩,by simp only;omega,by (simp -implicitDefEqProofs +contextual (disch:=omega) only [YF,v_,Xf,zc.cells,ups,ze,zj,zm, ↓XD,XU, ↓reduceIte,sevalprocAttr,hid,g0,g1,c,i0,hx,eq_false e,hs,hsn])<;>rfl,by simp [St.next,ua],λ _ h=>h⟩
   |false=>
    have hs2:¬za seen x=true:=by rw [hs];simp
    have hid2:2<=id:=ho.far id (by simp [refs])
    have ho':Own (.cells 9 [f.cells]) (.cells 1 (bl (seen.set x.toNat true))) (H.set 1 (.cells 1 (bl (seen.set x.toNat true)))) (.sl id 0 l.length l.length) l:=⟨by rw [aH (by omega)];exact ho.h0,by rw [aK (yJ g1)],.inr ⟨id,rfl,by rw [aH (by omega)];exact hid⟩,ho.far⟩
    have q0:=ho'.h0
    obtain ⟨q,e1,e2⟩:=zq0 x0 x1 hb
    have hlq:=Xg e2
    have h2:=znD (za f.Ins x) x
    obtain ⟨H2,p2,e3,e4⟩:=zDv (f:=f) (a:=a) (i:=i) (x:=x) (n:=f.Ins.length) e2 h2 ho' (by omega)
    simp only [Xf,zc.cells,ups,ze,zj,zm,aB,aA] at q0 e1 e3
    have hd:=zrP x0 (by omega) hs2
    have hm:=hB.more hL c (by rw [hx];exact e) (by rw [hx];exact hs2)
    rw [hx] at hm
    refine ⟨((trim H.length ((Xf f a f.Ins.length p2 (i+1)).map (λ e=>e.2)) H2 []).1,p2,seen.set x.toNat true,l++xV (za f.Ins x) x,i+1),_,⟨e4.trim (yJ g1) (by simp) _,hm,by simp only [aQ];omega⟩,by simp only [aQ];omega,by (simp -implicitDefEqProofs +contextual (disch:=omega) only [YF,v_,Xf,zc.cells,ups,ze,zj,zm, ↓XD,XU, ↓reduceIte,sevalprocAttr,hid,g0,g1,q0,c,i0,hx,eq_false e,hs,hsn,e1,hlq,e3])<;>rfl,by simp [St.next,ua],λ _ h=>h⟩
 ·left
  refine ⟨_,by (simp -implicitDefEqProofs +contextual (disch:=omega) only [YF,v_,Xf, ↓XD,XU, ↓reduceIte,sevalprocAttr,hlen,c])<;>rfl,by simp,.inl ⟨p,i,H,rfl,hB.end_ c⟩⟩
theorem zk2 (n:Nat) (j:Int):za (List.replicate n false) j=false:=by
 simp only [za,List.getD,cE];split<;>rfl
theorem zui {f:zc} {a:Int} (hL:Yl f) (a0:0<=a) (a1:a<f.Ins.length):Bfs f a (List.replicate f.Ins.length false) (xV (za f.Ins a) a) 0:=
 ⟨Int.le_refl _,by omega,by simp,λ y hy=>.single hy,hL a a0 a1,λ y hy=>hy,λ j j0 j1=>by omega,λ x x0 x1 hx=>by rw [zk2] at hx;cases hx⟩
theorem zi1 (n:Nat):QJ (List.replicate n false)=n:=by simp [QJ,List.filter_replicate]
theorem zkI {f:zc} {a:Int} (hL:Yl f) (hb:f.Ins.length<=1048576) (a0:0<=a) (a1:a<f.Ins.length):EP A zeV [.agg f.cells,.int .i64 a]=some (.bool (decide (zaK f a))):=by
 obtain ⟨p,X,e1,h1⟩:=zq1 a0 a1 hb
 have h2:=h1.lend [.cells 9 [f.cells],.cells 1 (bl (List.replicate f.Ins.length false))]
 have ok:zmh f a ([.cells 9 [f.cells],.cells 1 (bl (List.replicate f.Ins.length false))]++X.map (zX 2)) (zC 2 p) (List.replicate f.Ins.length false) (xV (za f.Ins a) a) 0:=
  ⟨⟨rfl,rfl,h2,λ r hr=>by obtain ⟨r',e,_⟩:=VS 2 p r hr;omega⟩,zui hL a0 a1,by have:=znD (za f.Ins a) a;rw [zi1];omega⟩
 obtain ⟨r,e2,hq⟩:=zCg hL hb ok
 simp only [Xf,zc.cells,ups,ze,zj,zm,aB,aA] at e1 e2
 rcases hq with ⟨p',i,H',rfl,hn⟩|⟨st,rfl,hg,hn⟩
 ·simp -implicitDefEqProofs +contextual (disch:=omega) only [zen,ze9,v_,Xf,zc.cells,ups,ze,zj,zm,zF, ↓XD,XU, ↓reduceIte,sevalprocAttr,e1,e2,hn]
 ·simp -implicitDefEqProofs +contextual (disch:=omega) only [zen,ze9,v_,Xf,zc.cells,ups,ze,zj,zm,zF, ↓XD,XU, ↓reduceIte,sevalprocAttr,e1,e2,hn,hg]
theorem Ww {n:Nat} {roots:List PV} {H l:zd} (hb:bare n (zn roots)=true) (hn:H.length=n):trim n roots (H++l) []=(H,[]):=by
 subst hn
 rw [trim,hb]
 simp
structure zBr (nd:Ins) (n:Nat):Prop where
 a:(nd.Op=6\/nd.Op=22\/nd.Op=27\/nd.Op=28\/nd.Op=42\/za ((zg nd.Op).getD []) 0=1)->0<=nd.A/\nd.A<n
 e:nd.Op=40->0<=nd.A/\nd.A+1<n
 c:nd.Op=41->0<=nd.C/\nd.C<n
structure Chg (H H':zd) (p:PV) (ts:List Int):Prop where
 sl:vt H' p ts
 len:H'.length=H.length
 old:∀ j,j∉refs p->H'[j]?=H[j]?
theorem Chg.same {H:zd} {p:PV} {ts:List Int} (h:vt H p ts):Chg H H p ts:=⟨h,rfl,λ _ _=>rfl⟩
theorem Chg.set {H:zd} {t:Nat} {ts ts':List Int} (h:H[t]?=some (.cells 1 (ym ts))) (hl:ts'.length=ts.length):Chg H (H.set t (.cells 1 (ym ts'))) (.sl t 0 ts.length ts.length) ts':=
 ⟨.inr ⟨t,by rw [hl],aK (yJ h)⟩,by simp,λ j hj=>aH (λ e=>hj (by simp [refs,e]))⟩
theorem zsV {nd:Ins} {H:zd} {p:PV} {ts:List Int} (h:vt H p ts) {s0 s1 s2 s3:Int} (hr:zg nd.Op=some [s0,s1,s2,s3]) (hw:zBr nd ts.length) (hb:ts.length<=1048576):∃ H',ES A zeY [.agg nd.cells,p] H=some (.tup [],H',[])/\Chg H H' p (writes nd ts):=by
 have hroles:=zfS nd.Op
 rw [hr] at hroles
 have hn0:za [s0,s1,s2,s3] 0=s0:=rfl
 have hix:∀ H:zd,wH 1 H (.fz [[.int .i64 s0],[.int .i64 s1],[.int .i64 s2],[.int .i64 s3]]) (.int .i64 0)=some (.fp [.int .i64 s0] 0):=λ _=>rfl
 rcases h with ⟨rfl,rfl⟩|⟨t,rfl,ht⟩
 ·have ka:=λ e=>(hw.a e).2
  have ke:=λ e=>(hw.e e).2
  have kc:=λ e=>(hw.c e).2
  have n1:¬nd.Op=6:=λ e=>by have:=hw.a (.inl e);simp at this;omega
  have n2:¬nd.Op=22:=λ e=>by have:=hw.a (.inr (.inl e));simp at this;omega
  have n3:¬nd.Op=27:=λ e=>by have:=hw.a (.inr (.inr (.inl e)));simp at this;omega
  have n4:¬nd.Op=28:=λ e=>by have:=hw.a (.inr (.inr (.inr (.inl e))));simp at this;omega
  have n5:¬nd.Op=42:=λ e=>by have:=hw.a (.inr (.inr (.inr (.inr (.inl e)))));simp at this;omega
  have n6:¬nd.Op=40:=λ e=>by have:=hw.e e;simp at this;omega
  have n7:¬nd.Op=41:=λ e=>by have:=hw.c e;simp at this;omega
  have n8:¬s0=1:=λ e=>by have:=hw.a (.inr (.inr (.inr (.inr (.inr (by rw [hr];exact e))))));simp at this;omega
  have hT:=Ww (n:=H.length) (roots:=[]) (H:=H) (l:=[.cells 5 [nd.cells]]) rfl rfl
  simp only [Ins.cells] at hT
  refine ⟨H,?_,by rw [show writes nd []=[] by simp [writes,n1,n2,n3,n4,n5,n6,n7,n8,hr,hn0]];exact .same (.inl ⟨rfl,rfl⟩)⟩
  simp -implicitDefEqProofs +contextual (disch:=omega) only [vm,vp,wZ,Ins.cells,zF, ↓XD,XU, ↓reduceIte,sevalprocAttr,hroles,yw,yt,n1,n2,n3,n4,n5,n6,n7,n8,hix,hT]
 ·have q1:=zY H [.cells 5 [nd.cells]] ht
  have q2:=λ b=>zfK H [.cells 5 [nd.cells]] (yJ ht) b
  have hT:=λ b=>Ww (n:=H.length) (roots:=[]) (H:=H.set t b) (l:=[.cells 5 [nd.cells]]) rfl (by simp)
  have hT0:=Ww (n:=H.length) (roots:=[]) (H:=H) (l:=[.cells 5 [nd.cells]]) rfl rfl
  simp only [Ins.cells] at q1 q2 hT hT0
  by_cases c6:nd.Op=6
  ·obtain ⟨k0,k1⟩:=hw.a (.inl c6)
   refine ⟨_,by (simp -implicitDefEqProofs +contextual (disch:=omega) only [vm,vp,wZ,Ins.cells,zF, ↓XD,XU, ↓reduceIte,sevalprocAttr,q1,q2,hT,hT0,eq_true c6,k0,k1])<;>rfl,?_⟩
   rw [show writes nd ts=ts.set (nd.A).toNat 2 by simp [writes,c6]]
   exact Chg.set ht (by simp)
  by_cases c22:nd.Op=22
  ·obtain ⟨k0,k1⟩:=hw.a (.inr (.inl c22))
   refine ⟨_,by (simp -implicitDefEqProofs +contextual (disch:=omega) only [vm,vp,wZ,Ins.cells,zF, ↓XD,XU, ↓reduceIte,sevalprocAttr,q1,q2,hT,hT0,eq_true c22,k0,k1,c6])<;>rfl,?_⟩
   rw [show writes nd ts=ts.set (nd.A).toNat 3 by simp [writes,c22]]
   exact Chg.set ht (by simp)
  by_cases c27:nd.Op=27
  ·obtain ⟨k0,k1⟩:=hw.a (.inr (.inr (.inl c27)))
   refine ⟨_,by (simp -implicitDefEqProofs +contextual (disch:=omega) only [vm,vp,wZ,Ins.cells,zF, ↓XD,XU, ↓reduceIte,sevalprocAttr,q1,q2,hT,hT0,eq_true c27,k0,k1,c6,c22])<;>rfl,?_⟩
   rw [show writes nd ts=ts.set (nd.A).toNat 3 by simp [writes,c27]]
   exact Chg.set ht (by simp)
  by_cases c28:nd.Op=28
  ·obtain ⟨k0,k1⟩:=hw.a (.inr (.inr (.inr (.inl c28))))
   refine ⟨_,by (simp -implicitDefEqProofs +contextual (disch:=omega) only [vm,vp,wZ,Ins.cells,zF, ↓XD,XU, ↓reduceIte,sevalprocAttr,q1,q2,hT,hT0,eq_true c28,k0,k1,c6,c22,c27])<;>rfl,?_⟩
   rw [show writes nd ts=ts.set (nd.A).toNat 3 by simp [writes,c28]]
   exact Chg.set ht (by simp)
  by_cases c40:nd.Op=40
  ·obtain ⟨k0,k1⟩:=hw.e c40
   refine ⟨_,by (simp -implicitDefEqProofs +contextual (disch:=omega) only [vm,vp,wZ,Ins.cells,zF, ↓XD,XU, ↓reduceIte,sevalprocAttr,q1,q2,hT,hT0,eq_true c40,k0,k1,c6,c22,c27,c28])<;>rfl,?_⟩
   rw [show writes nd ts=ts.set (nd.A+1).toNat 1 by simp [writes,c40]]
   exact Chg.set ht (by simp)
  by_cases c42:nd.Op=42
  ·obtain ⟨k0,k1⟩:=hw.a (.inr (.inr (.inr (.inr (.inl c42)))))
   refine ⟨_,by (simp -implicitDefEqProofs +contextual (disch:=omega) only [vm,vp,wZ,Ins.cells,zF, ↓XD,XU, ↓reduceIte,sevalprocAttr,q1,q2,hT,hT0,eq_true c42,k0,k1,c6,c22,c27,c28,c40])<;>rfl,?_⟩
   rw [show writes nd ts=ts.set (nd.A).toNat 0 by simp [writes,c42]]
   exact Chg.set ht (by simp)
  by_cases c41:nd.Op=41
  ·obtain ⟨k0,k1⟩:=hw.c c41
   refine ⟨_,by (simp -implicitDefEqProofs +contextual (disch:=omega) only [vm,vp,wZ,Ins.cells,zF, ↓XD,XU, ↓reduceIte,sevalprocAttr,q1,q2,hT,hT0,eq_true c41,k0,k1,c6,c22,c27,c28,c40,c42])<;>rfl,?_⟩
   rw [show writes nd ts=ts.set (nd.C).toNat 3 by simp [writes,c41]]
   exact Chg.set ht (by simp)
  by_cases e1:s0=1
  ·obtain ⟨k0,k1⟩:=hw.a (.inr (.inr (.inr (.inr (.inr (by rw [hr];exact e1))))))
   subst e1
   refine ⟨_,by (simp -implicitDefEqProofs +contextual (disch:=omega) only [vm,vp,wZ,Ins.cells,zF, ↓XD,XU, ↓reduceIte,sevalprocAttr,hroles,yw,yt,q1,q2,hT,hT0,hix,k0,k1,c6,c22,c27,c28,c40,c42,c41])<;>rfl,?_⟩
   rw [show writes nd ts=ts.set nd.A.toNat 1 by simp [writes,hr,hn0,c6,c22,c27,c28,c40,c42,c41]]
   exact Chg.set ht (by simp)
  ·refine ⟨_,by (simp -implicitDefEqProofs +contextual (disch:=omega) only [vm,vp,wZ,Ins.cells,zF, ↓XD,XU, ↓reduceIte,sevalprocAttr,hroles,yw,yt,q1,q2,hT,hT0,hix,e1,c6,c22,c27,c28,c40,c42,c41])<;>rfl,?_⟩
   rw [show writes nd ts=ts by simp [writes,hr,hn0,e1,c6,c22,c27,c28,c40,c42,c41]]
   exact .same (.inr ⟨t,rfl,ht⟩)
abbrev z4:List PV:=[.int .i64 0,.bool false,.nils,.nils]
abbrev fr (a:Int) (p q:PV):List PV:=[.int .i64 a,.bool true,p,q]
def Ty (H:zd) (p:PV) (l:List Int):Prop:=xP p l\/vt H p l
theorem Ty.leaf {H:zd} {p:PV} {l:List Int} (h:Ty H p l):zH p=true/\cellsOf p=[p]:=by
 rcases h with h|⟨rfl,_⟩|⟨id,rfl,_⟩
 ·exact ⟨jl h,ut h⟩
 ·exact ⟨rfl,rfl⟩
 ·exact ⟨rfl,rfl⟩
theorem Ty.frz {H:zd} {p:PV} {l:List Int} (h:Ty H p l) (d:Nat):xP (frz (d+2) H p) l:=by
 rcases h with h|h
 ·rw [vQ h];exact h
 ·exact h.isI d
theorem Ty.idx {H:zd} {p:PV} {l:List Int} (h:Ty H p l) (k:IntKind) {i:Int} (i0:0<=i) (i1:i<l.length):∃ a,wH 1 H p (.int k i)=some a/\YA false 1 a H=some (.int .i64 (za l i)):=by
 rcases h with h|⟨rfl,rfl⟩|⟨id,rfl,h⟩
 ·exact ⟨_,wP h H k i i0 i1,by simp [YA,cellsAt,yp]⟩
 ·simp at i1;omega
 ·refine ⟨.ptr id i.toNat 0 l.length,?_,?_⟩
  ·rw [zpu _ _ _ _ _ _ _ _ i0,h]
   have:=zjY 1 0 l.length l.length id i 1 (λ k:Int=>[PV.int .i64 k]) l rfl rfl i1 (by omega)
   simpa using this
  ·have:=xX i0 i1
   simp [YA,cellsAt,h,yp,aN,this]
theorem Ty.app {H:zd} {p:PV} {l:List Int} (h:Ty H p l) (X:zd):Ty (H++X) p l:=by
 rcases h with h|⟨rfl,rfl⟩|⟨id,rfl,h⟩
 ·exact .inl h
 ·exact .inr (.inl ⟨rfl,rfl⟩)
 ·exact .inr (.inr ⟨id,rfl,zY _ _ h⟩)
theorem Ty.lt {H:zd} {p:PV} {l:List Int} (h:Ty H p l):∀ r∈refs p,r<H.length:=by
 rcases h with h|⟨rfl,rfl⟩|⟨id,rfl,h⟩
 ·intro r hr;rw [yB h] at hr;cases hr
 ·intro r hr;cases hr
 ·intro r hr;simp [refs] at hr;subst hr;exact yJ h
theorem Kc {a:Int} {p q:PV} (h1:zH p=true) (h2:zH q=true):(z4.length==(fr a p q).length&&(fr a p q).all zH)=true:=by
 have e1:zH (.int .i64 a)=true:=rfl
 have e2:zH (.bool true)=true:=rfl
 simp [fr,h1,h2,e1,e2]
theorem zhH (H l:zd) {row:List PV} (hr:(z4.length==row.length&&row.all zH)=true):bsK 4 z4 row (H++l)=some (.sl (H.length+l.length) 0 1 1,H++(l++[.cells 4 [row]]),[])/\uu (H++(l++[.cells 4 [row]])) (.sl (H.length+l.length) 0 1 1)=some [row]/\xU (H++(l++[.cells 4 [row]])) 4 (.sl (H.length+l.length) 0 1 1)=true/\
  xe (H++(l++[.cells 4 [row]])) 4 64 .nils [row]=some (.sl (H.length+(l.length+1)) 0 1 1,H++(l++[.cells 4 [row],.cells 4 [row]]),[]):=by
 have e:H++(l++[zZ.cells 4 [row]])=(H++l)++[.cells 4 [row]]:=by simp
 have hl:H.length+l.length=(H++l).length:=by simp
 refine ⟨by rw [je _ _ _ _ hr];simp,?_,?_,?_⟩
 ·rw [e];exact (Xi _ _ hl 4 _).1
 ·rw [e];exact (Xi _ _ hl 4 _).2
 ·rw [x_ _ _ _ _ (by simp)];simp
theorem zmz (H l m:zd) {r1 row:List PV} (hr:(z4.length==row.length&&row.all zH)=true):bsK 4 z4 row (H++(l++(.cells 4 [r1]::m)))=some (.sl (H.length+(l.length+(m.length+1))) 0 1 1,H++(l++(.cells 4 [r1]::(m++[.cells 4 [row]]))),[])/\
  uu (H++(l++(.cells 4 [r1]::(m++[.cells 4 [row]])))) (.sl (H.length+(l.length+(m.length+1))) 0 1 1)=some [row]/\xU (H++(l++(.cells 4 [r1]::(m++[.cells 4 [row]])))) 4 (.sl (H.length+(l.length+(m.length+1))) 0 1 1)=true/\
  xe (H++(l++(.cells 4 [r1]::(m++[.cells 4 [row]])))) 4 64 (.sl (H.length+l.length) 0 1 1) [row]=some (.sl (H.length+l.length) 0 2 2,H++(l++(.cells 4 [r1,row]::(m++[.cells 4 [row]]))),wG (H.length+l.length) row):=by
 have e:H++(l++(zZ.cells 4 [r1]::(m++[.cells 4 [row]])))=(H++(l++(zZ.cells 4 [r1]::m)))++[.cells 4 [row]]:=by simp
 have hl:H.length+(l.length+(m.length+1))=(H++(l++(zZ.cells 4 [r1]::m))).length:=by simp
 refine ⟨by rw [je _ _ _ _ hr];simp,?_,?_,?_⟩
 ·rw [e];exact (Xi _ _ hl 4 _).1
 ·rw [e];exact (Xi _ _ hl 4 _).2
 ·have h0:(H++(l++(zZ.cells 4 [r1]::(m++[.cells 4 [row]]))))[H.length+l.length]?=some (.cells 4 [r1]):=by rw [wF,xp];rfl
  have c2:decide (0+1+[row].length<=1)=false:=by simp
  simp only [xe,h0,c2]
  rw [QH,jc]
  simp
section
def zoK (H:zd) (row:List PV) (x:Int×ya):Prop:=∃ p q,row=fr x.1 p q/\Ty H p x.2.Types/\xo q x.2.Guards
def Ka (H:zd) (p:PV) (l:List (Int×ya)):Prop:=(p=.nils/\l=[])\/∃ id rows,p=.sl id 0 l.length l.length/\H[id]?=some (.cells 4 rows)/\rows.length=l.length/\∀ (i:Nat) (row:List PV) (x:Int×ya),rows[i]?=some row->l[i]?=some x->zoK H row x
theorem Ka.one {H:zd} {id:Nat} {row:List PV} {x:Int×ya} (h:H[id]?=some (.cells 4 [row])) (hr:zoK H row x):Ka H (.sl id 0 1 1) [x]:=
 .inr ⟨id,_,rfl,h,rfl,λ i r y h1 h2=>by
  cases i with
  |zero=>simp at h1 h2;subst h1;subst h2;exact hr
  |succ i=>simp at h1⟩
theorem Ka.two {H:zd} {id:Nat} {r1 r2:List PV} {x y:Int×ya} (h:H[id]?=some (.cells 4 [r1,r2])) (h1:zoK H r1 x) (h2:zoK H r2 y):Ka H (.sl id 0 2 2) [x,y]:=
 .inr ⟨id,_,rfl,h,rfl,λ i r z k1 k2=>by
  match i with
  |0=>simp at k1 k2;subst k1;subst k2;exact h1
  |1=>simp at k1 k2;subst k1;subst k2;exact h2
  |i+2=>simp at k1⟩
theorem Qc {n:Nat} {v:PV} {H:zd} {ed:zI} {r:Nat} (hr:r∈refs v) (h:n<=r):trim n [v] H ed=(H,ed):=by
 rw [trim]
 have:bare n (zn [v])=false:=by
  rw [Bool.eq_false_iff]
  intro hb
  have:=aZ.1 hb r (Q9 (by simp) hr)
  simp at this;omega
 rw [this];rfl
structure QA (f:zc) (at_:Int) (H:zd) (bp bq tp gp:PV) (s:ya) (ts:List Int) (gs:List Gd):Prop where
 b:Ty H bp s.Types
 c:xo bq s.Guards
 t:Ty H tp ts
 g:xo gp gs
 a0:0<=at_
 a1:at_<f.Ins.length
 n:f.Ins.length<=1048576
abbrev zfC (f:zc) (at_:Int) (H:zd) (bp bq tp gp:PV) (l:List (Int×ya)):Prop:=∃ p X ed,ES A zan [.agg f.cells,.int .i64 at_,.agg (zq bp bq),tp,gp] H=some (p,H++X,ed)/\Ka (H++X) p l/\∀ e∈ed,H.length<=e.1/\H.length<=e.2/\e.2<(H++X).length
theorem QA.ed {f:zc} {at_:Int} {H:zd} {bp bq tp gp:PV} {s:ya} {ts:List Int} {gs:List Gd} (h:QA f at_ H bp bq tp gp s ts gs) (k:Nat):List.filter (λ r=>decide (H.length+k<r)) (refs tp++refs gp)=[]:=by
 rw [yI h.g,bY,List.filter_eq_nil_iff]
 intro r hr
 have:=h.t.lt r hr
 simp;omega
section
variable {f:zc} {at_:Int} {H:zd} {bp bq tp gp:PV} {s:ya} {ts:List Int} {gs:List Gd} (h:QA f at_ H bp bq tp gp s ts gs) {A' B C D:Int}
include h
theorem zrS {o:Int} (ho:o=29\/o=30) (hnd:za f.Ins at_=⟨o,A',B,C,D⟩):zfC f at_ H bp bq tp gp []:=by
 obtain ⟨b1,b2⟩:=h.b.leaf
 obtain ⟨t1,t2⟩:=h.t.leaf
 have c1:=xf h.c
 have c2:=yQ h.c
 have g1:=xf h.g
 have g2:=yQ h.g
 have a0:=h.a0
 have a1:=h.a1
 have an:=h.n
 have he:=h.ed
 have hT:=Ww (n:=H.length) (roots:=[.nils]) (H:=H) (l:=[.cells 9 [f.cells],.cells 3 [zq bp bq],.cells 5 [Ins.cells ⟨o,A',B,C,D⟩],.cells 3 [zq tp gp]]) rfl rfl
 refine ⟨.nils,[],[],?_,.inl ⟨rfl,rfl⟩,by simp⟩
 rw [bY]
 rcases ho with rfl|rfl
 ·simp only [zc.cells,ups,ze,zj,zm,Ins.cells,zq] at hT
  simp -implicitDefEqProofs +contextual (disch:=omega) only [vE,vF,ww,zc.cells,ups,ze,zj,zm,Ins.cells,zq,zF, ↓XD,XU, ↓reduceIte,sevalprocAttr,hnd,a0,a1,b1,b2,c1,c2,g1,g2,t1,t2,he,hT]
 ·simp only [zc.cells,ups,ze,zj,zm,Ins.cells,zq] at hT
  simp -implicitDefEqProofs +contextual (disch:=omega) only [vE,vF,ww,zc.cells,ups,ze,zj,zm,Ins.cells,zq,zF, ↓XD,XU, ↓reduceIte,sevalprocAttr,hnd,a0,a1,b1,b2,c1,c2,g1,g2,t1,t2,he,hT]
theorem zz2 {o:Int} (h19:¬o=19) (h29:¬o=29) (h30:¬o=30) (h20:¬o=20) (h21:¬o=21) (h38:¬o=38) (h39:¬o=39) (h41:¬o=41) (h31:¬o=31) (hnd:za f.Ins at_=⟨o,A',B,C,D⟩):zfC f at_ H bp bq tp gp [(at_+1,⟨ts,gs⟩)]:=by
 obtain ⟨b1,b2⟩:=h.b.leaf
 obtain ⟨t1,t2⟩:=h.t.leaf
 have c1:=xf h.c
 have c2:=yQ h.c
 have g1:=xf h.g
 have g2:=yQ h.g
 have a0:=h.a0
 have a1:=h.a1
 have an:=h.n
 have he:=h.ed
 have hN:=zhH H [.cells 9 [f.cells],.cells 3 [zq bp bq],.cells 5 [Ins.cells ⟨o,A',B,C,D⟩],.cells 3 [zq tp gp]] (Kc (a:=at_+1) t1 g1)
 have hT:=λ (X:zd)=>Qc (n:=H.length) (v:=.sl (H.length+5) 0 1 1) (H:=X) (ed:=[]) (r:=H.length+5) (by simp [refs]) (by omega)
 simp only [zc.cells,ups,ze,zj,zm,Ins.cells,zq,fr,aB,aA,bC,bE,bO,Nat.reduceAdd] at hN
 refine ⟨_,_,_,by (simp -implicitDefEqProofs +contextual (disch:=omega) only [vE,vF,ww,zc.cells,ups,ze,zj,zm,Ins.cells,zq,zF, ↓zz, ↓zG,zA, ↓XD,XU, ↓reduceIte,sevalprocAttr,hnd,a0,a1,b1,b2,c1,c2,g1,g2,t1,t2,he,hT,hN.1,hN.2.1,hN.2.2.1,hN.2.2.2,h19,h29,h30,h20,h21,h38,h39,h41,h31])<;>rfl,Ka.one ?_ ⟨tp,gp,rfl,h.t.app _,h.g⟩,by simp⟩
 rw [wF];rfl
theorem zz1 (hnd:za f.Ins at_=⟨19,A',B,C,D⟩):zfC f at_ H bp bq tp gp [(A',⟨ts,gs⟩)]:=by
 obtain ⟨b1,b2⟩:=h.b.leaf
 obtain ⟨t1,t2⟩:=h.t.leaf
 have c1:=xf h.c
 have c2:=yQ h.c
 have g1:=xf h.g
 have g2:=yQ h.g
 have a0:=h.a0
 have a1:=h.a1
 have an:=h.n
 have he:=h.ed
 have hN:=zhH H [.cells 9 [f.cells],.cells 3 [zq bp bq],.cells 5 [Ins.cells ⟨19,A',B,C,D⟩],.cells 3 [zq tp gp]] (Kc (a:=A') t1 g1)
 have hT:=λ (X:zd)=>Qc (n:=H.length) (v:=.sl (H.length+5) 0 1 1) (H:=X) (ed:=[]) (r:=H.length+5) (by simp [refs]) (by omega)
 simp only [zc.cells,ups,ze,zj,zm,Ins.cells,zq,fr,aB,aA,bC,bE,bO,Nat.reduceAdd] at hN
 refine ⟨_,_,_,by (simp -implicitDefEqProofs +contextual (disch:=omega) only [vE,vF,ww,zc.cells,ups,ze,zj,zm,Ins.cells,zq,zF, ↓zz, ↓zG,zA, ↓XD,XU, ↓reduceIte,sevalprocAttr,hnd,a0,a1,b1,b2,c1,c2,g1,g2,t1,t2,he,hT,hN.1,hN.2.1,hN.2.2.1,hN.2.2.2])<;>rfl,Ka.one ?_ ⟨tp,gp,rfl,h.t.app _,h.g⟩,by simp⟩
 rw [wF];rfl
theorem zBQ {o:Int} (ho:o=20\/o=21\/o=38\/o=39) (hnd:za f.Ins at_=⟨o,A',B,C,D⟩):zfC f at_ H bp bq tp gp [(at_+1,⟨ts,gs⟩),(B,⟨ts,gs⟩)]:=by
 obtain ⟨b1,b2⟩:=h.b.leaf
 obtain ⟨t1,t2⟩:=h.t.leaf
 have c1:=xf h.c
 have c2:=yQ h.c
 have g1:=xf h.g
 have g2:=yQ h.g
 have a0:=h.a0
 have a1:=h.a1
 have an:=h.n
 have he:=h.ed
 have hN:=zhH H [.cells 9 [f.cells],.cells 3 [zq bp bq],.cells 5 [Ins.cells ⟨o,A',B,C,D⟩],.cells 3 [zq tp gp]] (Kc (a:=at_+1) t1 g1)
 have hM:=zmz H [.cells 9 [f.cells],.cells 3 [zq bp bq],.cells 5 [Ins.cells ⟨o,A',B,C,D⟩],.cells 3 [zq tp gp],.cells 4 [fr (at_+1) tp gp]] [] (r1:=fr (at_+1) tp gp) (Kc (a:=B) t1 g1)
 have hT:=λ (X:zd)=>Qc (n:=H.length) (v:=.sl (H.length+5) 0 2 2) (H:=X) (ed:=[]) (r:=H.length+5) (by simp [refs]) (by omega)
 simp only [zc.cells,ups,ze,zj,zm,Ins.cells,zq,fr,aB,aA,bC,bE,bO,Nat.reduceAdd] at hN hM
 rcases ho with rfl|rfl|rfl|rfl
 all_goals
  refine ⟨_,_,_,by (simp -implicitDefEqProofs +contextual (disch:=omega) only [vE,vF,ww,zc.cells,ups,ze,zj,zm,Ins.cells,zq,zF, ↓zz, ↓zG,zA, ↓XD,XU, ↓reduceIte,sevalprocAttr,hnd,a0,a1,b1,b2,c1,c2,g1,g2,t1,t2,he,hT,hN.1,hN.2.1,hN.2.2.1,hN.2.2.2,hM.1,hM.2.1,hM.2.2.1,hM.2.2.2])<;>rfl,Ka.two ?_ ⟨tp,gp,rfl,h.t.app _,h.g⟩ ⟨tp,gp,rfl,h.t.app _,h.g⟩,by simp⟩
  rw [wF];rfl
end
end
section
theorem Ty.frzApp {H:zd} {p:PV} {l:List Int} (h:Ty H p l):∃ p0,xP p0 l/\∀ X,Go.Av.frz 8 (H++X) p=p0:=by
 rcases h with h|⟨rfl,rfl⟩|⟨id,rfl,h⟩
 ·exact ⟨p,h,λ X=>vQ h 7 _⟩
 ·exact ⟨.nils,.inr ⟨rfl,rfl⟩,λ X=>rfl⟩
 ·exact ⟨yt l,.inl rfl,λ X=>jD (d:=6) (zY H X h)⟩
theorem Ty.frzAppD {H:zd} {p:PV} {l:List Int} (h:Ty H p l) (d:Nat):∃ p0,xP p0 l/\∀ X,Go.Av.frz (d+2) (H++X) p=p0:=by
 rcases h with h|⟨rfl,rfl⟩|⟨id,rfl,h⟩
 ·exact ⟨p,h,λ X=>vQ h (d+1) _⟩
 ·exact ⟨.nils,.inr ⟨rfl,rfl⟩,λ X=>rfl⟩
 ·exact ⟨yt l,.inl rfl,λ X=>jD (d:=d) (zY H X h)⟩
theorem Ty.idxApp {H:zd} {p:PV} {l:List Int} (h:Ty H p l) (k:IntKind) {i:Int} (i0:0<=i) (i1:i<l.length):∃ a,∀ X,wH 1 (H++X) p (.int k i)=some a/\YA false 1 a (H++X)=some (.int .i64 (za l i)):=by
 rcases h with h|⟨rfl,rfl⟩|⟨id,rfl,h⟩
 ·exact ⟨_,λ X=>⟨wP h _ k i i0 i1,by simp [YA,cellsAt,yp]⟩⟩
 ·simp at i1;omega
 ·refine ⟨.ptr id i.toNat 0 l.length,λ X=>⟨?_,?_⟩⟩
  ·rw [zpu _ _ _ _ _ _ _ _ i0,zY H X h]
   have:=zjY 1 0 l.length l.length id i 1 (λ k:Int=>[PV.int .i64 k]) l rfl rfl i1 (by omega)
   simpa using this
  ·have:=xX i0 i1
   simp [YA,cellsAt,zY H X h,yp,aN,this]
theorem zej {l:List Int} (h:0<l.length):VK l.length=.sl 1 0 l.length l.length/\cpH l l.length=[.cells 1 [[.int .i64 (za l 0)]],.cells 1 (ym l)]:=by
 have c:¬(l.length:Int)=0:=by omega
 rw [Kb c,QI c]
 simp
section
variable {f:zc} {at_:Int} {H:zd} {bp bq tp gp:PV} {s:ya} {ts:List Int} {gs:List Gd} (h:QA f at_ H bp bq tp gp s ts gs) {A' B C D:Int}
include h
theorem zz0 (hnd:za f.Ins at_=⟨41,A',B,C,D⟩) (hC:0<=C/\C<ts.length) (hl:s.Types.length=ts.length) (hb:ts.length<=1048576):zfC f at_ H bp bq tp gp [(at_+1,⟨ts,gs⟩),(B,⟨ts.set C.toNat (za s.Types C),gs⟩)]:=by
 obtain ⟨b1,b2⟩:=h.b.leaf
 obtain ⟨t1,t2⟩:=h.t.leaf
 have c1:=xf h.c
 have c2:=yQ h.c
 have g1:=xf h.g
 have g2:=yQ h.g
 have g3:=yI h.g
 have a0:=h.a0
 have a1:=h.a1
 have an:=h.n
 have he:=λ k=>h.ed k
 simp only [g3,bY] at he
 have hc0:=hC.1
 have hc1:=hC.2
 obtain ⟨p0,hp0,hf⟩:=h.t.frzApp
 have hcp:=zcJ hp0 hb
 rw [(zej (by omega:0<ts.length)).1,(zej (by omega:0<ts.length)).2] at hcp
 obtain ⟨a,ha⟩:=h.b.idxApp .i64 hc0 (by omega)
 have ha1:=λ X=>(ha X).1
 have ha2:=λ X=>(ha X).2
 have hk:=Wv (H.length+6) ts
 have hN:=zhH H [.cells 9 [f.cells],.cells 3 [zq bp bq],.cells 5 [Ins.cells ⟨41,A',B,C,D⟩],.cells 3 [zq tp gp]] (Kc (a:=at_+1) t1 g1)
 have hM:=zmz H [.cells 9 [f.cells],.cells 3 [zq bp bq],.cells 5 [Ins.cells ⟨41,A',B,C,D⟩],.cells 3 [zq tp gp],.cells 4 [fr (at_+1) tp gp]] [.cells 1 [[.int .i64 (za ts 0)]],.cells 1 (ym (ts.set C.toNat (za s.Types C)))] (r1:=fr (at_+1) tp gp) (Kc (a:=B) (p:=.sl (H.length+7) 0 ts.length ts.length) rfl g1)
 have hT:=λ (X:zd) ed=>Qc (n:=H.length) (v:=.sl (H.length+5) 0 2 2) (H:=X) (ed:=ed) (r:=H.length+5) (by simp [refs]) (by omega)
 simp only [zc.cells,ups,ze,zj,zm,Ins.cells,zq,fr,aB,aA,bC,bE,bO,Nat.reduceAdd] at hN hM
 refine ⟨_,_,_,by (simp -implicitDefEqProofs +contextual (disch:=omega) only [vE,vF,ww,zc.cells,ups,ze,zj,zm,Ins.cells,zq,zF, ↓zz, ↓zG,zA, ↓XD,XU, ↓reduceIte,sevalprocAttr,hnd,a0,a1,b1,b2,c1,c2,g1,g2,g3,t1,t2,he,hT,hf,hcp,zC,zX,yR,hk,bZ,Nat.reduceAdd,ha1,ha2,hc0,hc1,hN.1,hN.2.1,hN.2.2.1,hN.2.2.2,hM.1,hM.2.1,hM.2.2.1,hM.2.2.2])<;>rfl,Ka.two ?_ ⟨tp,gp,rfl,h.t.app _,h.g⟩ ⟨.sl (H.length+7) 0 ts.length ts.length,gp,rfl,.inr (.inr ⟨H.length+7,by simp,?_⟩),h.g⟩,?_⟩
 ·rw [wF];rfl
 ·rw [wF];rfl
 ·simp
end
theorem zCd (f:zc) (at_ B:Int) (bp bq tp gp h5 h7 h11 h12 h13:PV) (t n:Nat) (G:List Int->zd) (q1:∀ l,(G l)[t]?=some (.cells 1 (ym l))) (q2:∀ l v,(G l).set t (.cells 1 (ym v))=G v) (q3:∀ l v roots,trim (G l).length roots (G v) []=(G v,[])) (hb:n<=1048576) (hB0:0<=B) (hB1:B<=n) (a0:List Int) (hok0:a0.length=n):EV A (.loop (Va 0)) (⟨[(0,.agg f.cells),(1,.int .i64 at_),(2,.agg (zq bp bq)),(3,tp),(4,gp),(5,h5),(7,h7),(10,.nils),(11,h11),(12,h12),(13,h13),(46,.int .i64 31),(56,.bool false),(15,.sl t 0 n n),(16,.int .i64 (B))],[],G a0,[]⟩:St)=some (zp.exit 1,(⟨[(0,.agg f.cells),(1,.int .i64 at_),(2,.agg (zq bp bq)),(3,tp),(4,gp),(5,h5),(7,h7),(10,.nils),(11,h11),(12,h12),(13,h13),(46,.int .i64 31),(56,.bool false),(15,.sl t 0 n n),(16,.int .i64 (n))],[],G (iter (λ (i:Int) (a:List Int)=>a.set (i).toNat 0) ((n:Int)-B).toNat (B) a0),[]⟩:St))/\(iter (λ (i:Int) (a:List Int)=>a.set (i).toNat 0) ((n:Int)-B).toNat (B) a0).length=n:=by
 refine vC (λ i (a:List Int)=>(⟨[(0,.agg f.cells),(1,.int .i64 at_),(2,.agg (zq bp bq)),(3,tp),(4,gp),(5,h5),(7,h7),(10,.nils),(11,h11),(12,h12),(13,h13),(46,.int .i64 31),(56,.bool false),(15,.sl t 0 n n),(16,.int .i64 i)],[],G a,[]⟩:St)) (λ (i:Int) (a:List Int)=>a.set (i).toNat 0) (λ i (a:List Int)=>a.length=n) (λ a=>(zp.exit 1,(⟨[(0,.agg f.cells),(1,.int .i64 at_),(2,.agg (zq bp bq)),(3,tp),(4,gp),(5,h5),(7,h7),(10,.nils),(11,h11),(12,h12),(13,h13),(46,.int .i64 31),(56,.bool false),(15,.sl t 0 n n),(16,.int .i64 (n))],[],G a,[]⟩:St))) (B) (n) ?_ ?_ (B) a0 (by omega) (by omega) hok0
 ·intro i a hi hn hok
  refine ⟨⟨_,by simp -implicitDefEqProofs +contextual (disch:=omega) only [Kk,ww, ↓XD,XU, ↓reduceIte,sevalprocAttr,q1,q2,hn,hok];rfl,by first|(simp [St.next,zT,q3];done)|(simp [St.next,zT,q3];omega)|(simp [St.next,trim,bare,zn,refs,q3];done)⟩,by simpa using hok⟩
 ·rintro i a hi rfl hok
  refine ⟨by simp -implicitDefEqProofs +contextual (disch:=omega) only [Kk,ww, ↓XD,XU, ↓reduceIte,sevalprocAttr,q1,q2,aL,hok],by simp⟩
theorem znv:∀ (m:Nat) (i:Int) (l:List Int),0<=i->i+m=l.length->iter (λ (i:Int) (a:List Int)=>a.set i.toNat 0) m i l=l.take i.toNat++List.replicate m 0
 |0,i,l,h0,h=>by
  rw [iter,dH (by omega)];simp
 |m+1,i,l,h0,h=>by
  rw [iter,znv m (i+1) _ (by omega) (by simp;omega)]
  have e:(i+1).toNat=i.toNat+1:=by omega
  rw [e,List.take_set,List.replicate_succ]
  have hl:i.toNat<l.length:=by omega
  rw [List.take_succ_eq_append_getElem hl,dL _ _ (by rw [dG];omega)]
  have:i.toNat-(l.take i.toNat).length=0:=by rw [dG];omega
  rw [this];simp
noncomputable def zoF (B:Int) (l:List Int):List Int:=((l.take B.toNat++List.replicate (l.length-B.toNat) 0).set B.toNat 1).set (B+1).toNat 1
section
variable {f:zc} {at_:Int} {H:zd} {bp bq tp gp:PV} {s:ya} {ts:List Int} {gs:List Gd} (h:QA f at_ H bp bq tp gp s ts gs) {A' B C D:Int}
include h
theorem zBP (hnd:za f.Ins at_=⟨31,A',B,C,D⟩) (hB:0<=B/\B+1<s.Types.length) (hb:s.Types.length<=1048576):zfC f at_ H bp bq tp gp [(at_+1,⟨ts,gs⟩),(A',⟨zoF B s.Types,s.Guards⟩)]:=by
 obtain ⟨b1,b2⟩:=h.b.leaf
 obtain ⟨t1,t2⟩:=h.t.leaf
 have c1:=xf h.c
 have c2:=yQ h.c
 have c3:=yI h.c
 have g1:=xf h.g
 have g2:=yQ h.g
 have g3:=yI h.g
 have a0:=h.a0
 have a1:=h.a1
 have an:=h.n
 have he:=λ k=>h.ed k
 simp only [g3,bY] at he
 have hB0:=hB.1
 have hB1:=hB.2
 obtain ⟨p0,hp0,hf⟩:=h.b.frzApp
 have hcp:=zcJ hp0 hb
 rw [(zej (by omega:0<s.Types.length)).1,(zej (by omega:0<s.Types.length)).2] at hcp
 have hk:=Wv (H.length+6) s.Types
 obtain ⟨z,hz⟩:∃ z,z=s.Types.take B.toNat++List.replicate (s.Types.length-B.toNat) 0:=⟨_,rfl⟩
 have hzl:z.length=s.Types.length:=by rw [hz];simp;omega
 have hz2:(z.set B.toNat 1).length=s.Types.length:=by rw [bI];exact hzl
 have hlo:=zCd f at_ B bp bq tp gp (.ptr H.length 0 0 1) (.ptr (H.length+1) 0 0 1) (.ptr (H.length+2) 0 0 1) (.sl (H.length+5) 0 1 1) (.ptr (H.length+3) 0 0 1) (H.length+7) s.Types.length (λ l=>H++[.cells 9 [f.cells],.cells 3 [zq bp bq],.cells 5 [Ins.cells ⟨31,A',B,C,D⟩],.cells 3 [zq tp gp],.cells 4 [fr (at_+1) tp gp],.cells 4 [fr (at_+1) tp gp],.cells 1 [[.int .i64 (za s.Types 0)]],.cells 1 (ym l)])
  (λ l=>by rw [wF];rfl) (λ l v=>by rw [QH];rfl) (λ l v roots=>zT _ _ _ (by simp)) hb hB0 (by omega) s.Types rfl
 obtain ⟨hlo,_⟩:=hlo
 have hit:=znv (((s.Types.length:Int)-B).toNat) B s.Types hB0 (by omega)
 have e9:((s.Types.length:Int)-B).toNat=s.Types.length-B.toNat:=by omega
 rw [hit,e9, <-hz] at hlo
 have hN:=zhH H [.cells 9 [f.cells],.cells 3 [zq bp bq],.cells 5 [Ins.cells ⟨31,A',B,C,D⟩],.cells 3 [zq tp gp]] (Kc (a:=at_+1) t1 g1)
 have hM:=zmz H [.cells 9 [f.cells],.cells 3 [zq bp bq],.cells 5 [Ins.cells ⟨31,A',B,C,D⟩],.cells 3 [zq tp gp],.cells 4 [fr (at_+1) tp gp]] [.cells 1 [[.int .i64 (za s.Types 0)]],.cells 1 (ym ((z.set B.toNat 1).set (B+1).toNat 1))] (r1:=fr (at_+1) tp gp) (Kc (a:=A') (p:=.sl (H.length+7) 0 s.Types.length s.Types.length) rfl c1)
 have hT:=λ (X:zd) ed=>Qc (n:=H.length) (v:=.sl (H.length+5) 0 2 2) (H:=X) (ed:=ed) (r:=H.length+5) (by simp [refs]) (by omega)
 simp only [zc.cells,ups,ze,zj,zm,Ins.cells,zq,fr,aB,aA,bC,bE,bO,Nat.reduceAdd] at hN hM hlo
 refine ⟨_,_,_,by (simp -implicitDefEqProofs +contextual (disch:=omega) only [vE,vF,ww,zc.cells,ups,ze,zj,zm,Ins.cells,zq,zF, ↓zz, ↓zG,zA, ↓XD,XU, ↓reduceIte,sevalprocAttr,hnd,a0,a1,b1,b2,c1,c2,c3,g1,g2,g3,t1,t2,he,hT,hf,hcp,zC,zX,yR,hk,bZ,Nat.reduceAdd,hB0,hB1,hlo,hzl,hN.1,hN.2.1,hN.2.2.1,hN.2.2.2,hM.1,hM.2.1,hM.2.2.1,hM.2.2.2])<;>rfl,Ka.two ?_ ⟨tp,gp,rfl,h.t.app _,h.g⟩ ⟨.sl (H.length+7) 0 s.Types.length s.Types.length,bq,rfl,.inr (.inr ⟨H.length+7,?_,?_⟩),h.c⟩,?_⟩
 ·rw [wF];rfl
 ·simp [zoF];omega
 ·rw [wF];simp [zoF,hz]
 ·simp
end
end
theorem zmy {f:zc} {at_:Int} {H:zd} {bp bq tp gp:PV} {s:ya} {ts:List Int} {gs:List Gd} (h:QA f at_ H bp bq tp gp s ts gs) (hl:s.Types.length=ts.length) (hb:ts.length<=1048576)
  (h41:(za f.Ins at_).Op=41->0<=(za f.Ins at_).C/\(za f.Ins at_).C<ts.length) (h31:(za f.Ins at_).Op=31->0<=(za f.Ins at_).B/\(za f.Ins at_).B+1<ts.length):zfC f at_ H bp bq tp gp (wR (za f.Ins at_) at_ s ts gs):=by
 obtain ⟨nd,hnd⟩:∃ nd,za f.Ins at_=nd:=⟨_,rfl⟩
 rw [hnd] at h41 h31 ⊢
 obtain ⟨o,A',B,C,D⟩:=nd
 simp only at h41 h31
 by_cases g29:o=29
 ·have:=zrS h (.inl g29) hnd
  subst g29;simpa [wR] using this
 by_cases g30:o=30
 ·have:=zrS h (.inr g30) hnd
  subst g30;simpa [wR] using this
 by_cases g19:o=19
 ·subst g19
  have:=zz1 h hnd
  simpa [wR] using this
 by_cases g41:o=41
 ·subst g41
  have:=zz0 h hnd (h41 rfl) hl hb
  simpa [wR] using this
 by_cases g31:o=31
 ·subst g31
  have hB:=h31 rfl
  have:=zBP h hnd ⟨hB.1,by omega⟩ (by omega)
  simpa [wR,zoF] using this
 by_cases g:o=20\/o=21\/o=38\/o=39
 ·have:=zBQ h g hnd
  rcases g with rfl|rfl|rfl|rfl<;>simpa [wR] using this
 ·have e20:¬o=20:=λ e=>g (.inl e)
  have e21:¬o=21:=λ e=>g (.inr (.inl e))
  have e38:¬o=38:=λ e=>g (.inr (.inr (.inl e)))
  have e39:¬o=39:=λ e=>g (.inr (.inr (.inr e)))
  have:=zz2 h g19 g29 g30 e20 e21 e38 e39 g41 g31 hnd
  simpa [wR,g19,g29,g30,e20,e21,e38,e39,g41,g31] using this
theorem vt.push {H:zd} {p:PV} {l:List Int} (h:vt H p l) (hb:l.length<=4000000) (v:Int):∃ p' H',xe (H++[.cells 1 [[.int .i64 v]]]) 1 8 p [[.int .i64 v]]=some (p',H',[])/\vt H' p' (l++[v])/\H.length<=H'.length/\(∀ j,j<H.length->j∉refs p->H'[j]?=H[j]?)/\∀ r∈refs p',r∈refs p\/H.length<=r:=by
 rcases h with ⟨rfl,rfl⟩|⟨id,rfl,h1⟩
 ·have:=x_ (H++[.cells 1 [[.int .i64 v]]]) 1 8 [[.int .i64 v]] (by simp)
  refine ⟨_,_,this,.inr ⟨(H++[zZ.cells 1 [[PV.int .i64 v]]]).length,rfl,by rw [xp];rfl⟩,by simp,λ j hj _=>by rw [aY,aD hj],λ r hr=>?_⟩
  simp [refs] at hr;subst hr;right;simp
 ·have h2:=zY H [.cells 1 [[.int .i64 v]]] h1
  have:=Ym (by':=8) (n:=l.length) h2 (by simp) (by omega) [.int .i64 v] rfl
  refine ⟨_,_,this,.inr ⟨id,by simp,?_⟩,by simp,λ j hj hn=>?_,λ r hr=>.inl (by simpa [refs] using hr)⟩
  ·rw [aK (yJ h2)];simp [ym]
  ·rw [aH (λ e=>hn (by simp [refs,e])),aD hj]
theorem vt.keep {H H':zd} {p:PV} {l:List Int} (h:vt H p l) (hk:∀ r∈refs p,H'[r]?=H[r]?):vt H' p l:=by
 rcases h with h|⟨id,rfl,h1⟩
 ·exact .inl h
 ·exact .inr ⟨id,rfl,by rw [hk id (by simp [refs])];exact h1⟩
theorem vt.lt {H:zd} {p:PV} {l:List Int} (h:vt H p l):∀ r∈refs p,r<H.length:=by
 rcases h with ⟨rfl,rfl⟩|⟨id,rfl,h⟩
 ·intro r hr;cases hr
 ·intro r hr;simp [refs] at hr;subst hr;exact yJ h
theorem vt.trim {H:zd} {p:PV} {l:List Int} (h:vt H p l) {k:Nat} {roots:List PV} (hp:p∈roots) (ed:zI):vt (trim k roots H ed).1 p l:=
 h.keep λ r hr=>uJ _ _ _ _ (.inr (Q9 hp hr))
structure RdH (b0 b1:zZ) (H:zd) (t:PV) (K:zd) (tkp syp:PV) (a:Rd):Prop where
 len:H.length+2<=K.length
 old:∀ j,j<H.length->j∉refs t->K[j]?=H[j]?
 c:K[H.length]?=some b0
 n:K[H.length+1]?=some b1
 ty:vt K t a.ts
 tk:vt K tkp a.tk
 sy:vt K syp a.sy
 tin:∀ r∈refs t,r<H.length
 far1:∀ r∈refs tkp,H.length+2<=r
 far2:∀ r∈refs syp,H.length+2<=r
 apart:∀ r∈refs tkp,r∉refs syp
theorem RdH.trim {b0 b1:zZ} {H:zd} {t:PV} {K:zd} {tkp syp:PV} {a:Rd} (h:RdH b0 b1 H t K tkp syp a) {k:Nat} (hk:H.length+2<=k) (hkl:k<=K.length) {roots:List PV} (h1:tkp∈roots) (h2:syp∈roots):RdH b0 b1 H t (trim k roots K []).1 tkp syp a:=by
 have kp:∀ j,j<k->(Go.Av.trim k roots K []).1[j]?=K[j]?:=λ j hj=>uJ _ _ _ _ (.inl hj)
 refine ⟨?_,λ j h1 h2=>(kp j (by omega)).trans (h.old j h1 h2),(kp _ (by omega)).trans h.c,(kp _ (by omega)).trans h.n,h.ty.keep λ r hr=>kp r (by have:=h.tin r hr;omega),h.tk.trim h1 _,h.sy.trim h2 _,h.tin,h.far1,h.far2,h.apart⟩
 rw [Go.Av.trim]
 split
 ·simp;omega
 ·exact h.len
theorem RdH.take {b0 b1:zZ} {H:zd} {K:zd} {tid:Nat} {tkp syp:PV} {a:Rd} (h:RdH b0 b1 H (.sl tid 0 a.ts.length a.ts.length) K tkp syp a) (q:Int) (hb:a.tk.length<=1000):∃ p' K',xe (K.set tid (.cells 1 (ym (a.ts.set q.toNat 0)))++[.cells 1 [[.int .i64 q]]]) 1 8 tkp [[.int .i64 q]]=some (p',K',[])/\RdH b0 b1 H (.sl tid 0 a.ts.length a.ts.length) K' p' syp ⟨a.ts.set q.toNat 0,a.tk++[q],a.sy⟩/\K.length<=K'.length:=by
 have ht:=h.tin tid (by simp [refs])
 have hl:=h.len
 have hset:∀ j,j≠tid->(K.set tid (.cells 1 (ym (a.ts.set q.toNat 0))))[j]?=K[j]?:=λ j hj=>aH (Ne.symm hj)
 have hne1:∀ r∈refs tkp,r≠tid:=λ r hr e=>by have:=h.far1 r hr;omega
 have hne2:∀ r∈refs syp,r≠tid:=λ r hr e=>by have:=h.far2 r hr;omega
 have htk:vt (K.set tid (.cells 1 (ym (a.ts.set q.toNat 0)))) tkp a.tk:=h.tk.keep λ r hr=>hset r (hne1 r hr)
 obtain ⟨p',K',e1,e2,e3,e4,e5⟩:=htk.push (by omega) q
 simp only [bI] at e3 e4 e5
 have old:∀ j,j<K.length->j∉refs tkp->j≠tid->K'[j]?=K[j]?:=λ j h1 h2 h3=>(e4 j h1 h2).trans (hset j h3)
 have nf:∀ j,j<H.length+2->j∉refs tkp:=λ j hj hr=>by have:=h.far1 j hr;omega
 refine ⟨p',K',e1,⟨by omega,λ j h1 h2=>?_,?_,?_,.inr ⟨tid,by simp,?_⟩,e2,h.sy.keep λ r hr=>?_,h.tin,λ r hr=>?_,h.far2,λ r hr hs=>?_⟩,e3⟩
 ·rw [old j (by omega) (nf j (by omega)) (λ e=>h2 (by simp [refs,e]))]
  exact h.old j h1 h2
 ·rw [old _ (by omega) (nf _ (by omega)) (by omega)];exact h.c
 ·rw [old _ (by omega) (nf _ (by omega)) (by omega)];exact h.n
 ·rw [e4 tid (by omega) (nf tid (by omega)),aK (by omega)]
 ·exact old r (h.sy.lt r hr) (λ h2=>h.apart r h2 hr) (hne2 r hr)
 ·rcases e5 r hr with h1|h1
  ·exact h.far1 r h1
  ·omega
 ·rcases e5 r hr with h1|h1
  ·exact h.apart r h1 hs
  ·have:=h.sy.lt r hs;omega
theorem RdH.stay {b0 b1:zZ} {H:zd} {t:PV} {K:zd} {tkp syp:PV} {a:Rd} (h:RdH b0 b1 H t K tkp syp a) (q:Int) (hb:a.sy.length<=1000):∃ p' K',xe (K++[.cells 1 [[.int .i64 q]]]) 1 8 syp [[.int .i64 q]]=some (p',K',[])/\RdH b0 b1 H t K' tkp p' ⟨a.ts,a.tk,a.sy++[q]⟩/\K.length<=K'.length:=by
 have hl:=h.len
 obtain ⟨p',K',e1,e2,e3,e4,e5⟩:=h.sy.push (by omega) q
 have nf:∀ j,j<H.length+2->j∉refs syp:=λ j hj hr=>by have:=h.far2 j hr;omega
 refine ⟨p',K',e1,⟨by omega,λ j h1 h2=>(e4 j (by omega) (nf j (by omega))).trans (h.old j h1 h2),(e4 _ (by omega) (nf _ (by omega))).trans h.c,(e4 _ (by omega) (nf _ (by omega))).trans h.n,h.ty.keep λ r hr=>e4 r (by have:=h.tin r hr;omega) (nf r (by have:=h.tin r hr;omega)),h.tk.keep λ r hr=>e4 r (h.tk.lt r hr) (h.apart r hr),e2,h.tin,h.far1,λ r hr=>?_,λ r hr hs=>?_⟩,e3⟩
 ·rcases e5 r hr with h1|h1
  ·exact h.far2 r h1
  ·omega
 ·rcases e5 r hs with h1|h1
  ·exact h.apart r hr h1
  ·have:=h.tk.lt r hr;omega
theorem RdH.more {b0 b1:zZ} {H:zd} {t:PV} {K:zd} {tkp syp:PV} {a:Rd} (h:RdH b0 b1 H t K tkp syp a) (q:Int) (hb:a.tk.length<=1000):∃ p' K',xe (K++[.cells 1 [[.int .i64 q]]]) 1 8 tkp [[.int .i64 q]]=some (p',K',[])/\RdH b0 b1 H t K' p' syp ⟨a.ts,a.tk++[q],a.sy⟩/\K.length<=K'.length:=by
 have hl:=h.len
 obtain ⟨p',K',e1,e2,e3,e4,e5⟩:=h.tk.push (by omega) q
 have nf:∀ j,j<H.length+2->j∉refs tkp:=λ j hj hr=>by have:=h.far1 j hr;omega
 refine ⟨p',K',e1,⟨by omega,λ j h1 h2=>(e4 j (by omega) (nf j (by omega))).trans (h.old j h1 h2),(e4 _ (by omega) (nf _ (by omega))).trans h.c,(e4 _ (by omega) (nf _ (by omega))).trans h.n,h.ty.keep λ r hr=>e4 r (by have:=h.tin r hr;omega) (nf r (by have:=h.tin r hr;omega)),e2,h.sy.keep λ r hr=>e4 r (h.sy.lt r hr) (λ h2=>h.apart r h2 hr),h.tin,λ r hr=>?_,h.far2,λ r hr hs=>?_⟩,e3⟩
 ·rcases e5 r hr with h1|h1
  ·exact h.far1 r h1
  ·omega
 ·rcases e5 r hr with h1|h1
  ·exact h.apart r h1 hs
  ·have:=h.sy.lt r hs;omega
end Go.Proofs.Tryd.Av
end
section
set_option maxRecDepth 10000
set_option maxHeartbeats 4000000
namespace Go.Proofs.Tryd.Av
open Go Go.Av Classical
section
def Q6 (r x:Int) (ts:List Int):Prop:=(r=4/\¬za ts x=1)\/(r=5/\¬za ts x=2)\/(r=6/\¬za ts x=3)\/(r=18/\(¬za ts x=1\/¬za ts (x+1)=1\/¬za ts (x+2)=1))\/(r=19/\(¬za ts x=1\/¬za ts (x+1)=0))\/(r=20/\(¬za ts x=1\/¬za ts (x+1)=1))
def uH (r:Int):Prop:=r=4\/r=5\/r=6
def VM (rs fs:List Int) (k q:Int):Prop:=(0<k/\uH (za rs 0)/\za fs 0=q)\/(1<k/\uH (za rs 1)/\za fs 1=q)\/(2<k/\uH (za rs 2)/\za fs 2=q)
noncomputable def uk (ps:List zc) (rs fs:List Int) (k:Int) (a:List Int×List Int):Option (List Int×List Int):=
 if za rs k=2\/za rs k=3 then
  if ¬za a.1 (if za fs k<0 then -1-za fs k else za fs k)=(if za rs k=3 then 3 else 1) then none
  else if za fs k<0 then
   if VM rs fs k (-1-za fs k) then none
   else some (a.1.set (-1-za fs k).toNat 0,a.2++[-1-za fs k])
  else some a
 else if za rs k=11 then if U2 (za ps (za fs k)).Ups a.1 then none else some a
 else if Q6 (za rs k) (za fs k) a.1 then none else some a
noncomputable def Z_ (ps:List zc) (rs:List Int) (n:Ins) (ts:List Int):Option (List Int×List Int):=
 match uk ps rs [n.A,n.B,n.C,n.D] 0 (ts,[]) with
 |none=>none
 |some a=>match uk ps rs [n.A,n.B,n.C,n.D] 1 a with
  |none=>none
  |some b=>match uk ps rs [n.A,n.B,n.C,n.D] 2 b with
   |none=>none
   |some c=>uk ps rs [n.A,n.B,n.C,n.D] 3 c
noncomputable def xI (ps:List zc) (n:Ins) (ts:List Int):Option (List Int×List Int):=
 match Z_ ps ((zE n.Op).getD []) n ts with
 |none=>none
 |some a=>some (a.1,if n.Op=40 then a.2++[n.A] else a.2)
theorem zwH {α β:Type} (p:Prop) [Decidable p] (x y:Option α) (f:α->Option β):(if p then x else y).bind f=if p then x.bind f else y.bind f:=by split<;>rfl
theorem zf5 (rs:List Int) (n:Ins) (ts:List Int):K6 rs n ts=(vv (za rs 0) n.A ⟨ts,[],[]⟩).bind λ a=>(vv (za rs 1) n.B a).bind λ b=>(vv (za rs 2) n.C b).bind λ c=>vv (za rs 3) n.D c:=by
 unfold K6
 cases vv (za rs 0) n.A ⟨ts,[],[]⟩ with
 |none=>rfl
 |some a=>dsimp only [Option.bind];cases vv (za rs 1) n.B a with
  |none=>rfl
  |some b=>dsimp only [Option.bind];cases vv (za rs 2) n.C b<;>rfl
theorem zjc (ps:List zc) (rs:List Int) (n:Ins) (ts:List Int):Z_ ps rs n ts=(uk ps rs [n.A,n.B,n.C,n.D] 0 (ts,[])).bind λ a=>(uk ps rs [n.A,n.B,n.C,n.D] 1 a).bind λ b=>(uk ps rs [n.A,n.B,n.C,n.D] 2 b).bind λ c=>uk ps rs [n.A,n.B,n.C,n.D] 3 c:=by
 unfold Z_
 cases uk ps rs [n.A,n.B,n.C,n.D] 0 (ts,[]) with
 |none=>rfl
 |some a=>dsimp only [Option.bind];cases uk ps rs [n.A,n.B,n.C,n.D] 1 a with
  |none=>rfl
  |some b=>dsimp only [Option.bind];cases uk ps rs [n.A,n.B,n.C,n.D] 2 b<;>rfl
theorem ztz (ps:List zc) (n:Ins) (ts:List Int):reads ps n ts=(K6 ((zg n.Op).getD []) n ts).bind λ a=>if n.Op=11/\U2 (za ps n.B).Ups a.ts then none else some (a.ts,a.tk):=by
 unfold reads
 cases K6 ((zg n.Op).getD []) n ts<;>rfl
theorem zq9 (ps:List zc) (n:Ins) (ts:List Int):xI ps n ts=(Z_ ps ((zE n.Op).getD []) n ts).bind λ a=>some (a.1,if n.Op=40 then a.2++[n.A] else a.2):=by
 unfold xI
 cases Z_ ps ((zE n.Op).getD []) n ts<;>rfl
theorem zy2 (x:Int) (a:Rd):vv 2 x a=if x<0 then (if za a.ts (-1-x)=1 then (if -1-x∈a.sy then none else some ⟨a.ts.set (-1-x).toNat 0,a.tk++[-1-x],a.sy⟩) else none) else if za a.ts x=1 then some a else none:=by
 by_cases h:x<0
 ·by_cases h1:za a.ts (-1-x)=1<;>simp [vv,xQ,wu,ZD,h,h1]
 ·by_cases h1:za a.ts x=1<;>simp [vv,xQ,wu,ZD,h,h1]
theorem zy3 (x:Int) (a:Rd):vv 3 x a=if x<0 then (if za a.ts (-1-x)=3 then (if -1-x∈a.sy then none else some ⟨a.ts.set (-1-x).toNat 0,a.tk++[-1-x],a.sy⟩) else none) else if za a.ts x=3 then some a else none:=by
 by_cases h:x<0
 ·by_cases h1:za a.ts (-1-x)=3<;>simp [vv,xQ,wu,ZD,h,h1]
 ·by_cases h1:za a.ts x=3<;>simp [vv,xQ,wu,ZD,h,h1]
theorem zy4 (x:Int) (a:Rd):vv 4 x a=if za a.ts x=1 then some ⟨a.ts,a.tk,a.sy++[x]⟩ else none:=by
 by_cases h1:za a.ts x=1<;>simp [vv,xQ,wu,ZD,QQ,h1]
theorem zy5 (x:Int) (a:Rd):vv 5 x a=if za a.ts x=2 then some ⟨a.ts,a.tk,a.sy++[x]⟩ else none:=by
 by_cases h1:za a.ts x=2<;>simp [vv,xQ,wu,ZD,QQ,h1]
theorem zy6 (x:Int) (a:Rd):vv 6 x a=if za a.ts x=3 then some ⟨a.ts,a.tk,a.sy++[x]⟩ else none:=by
 by_cases h1:za a.ts x=3<;>simp [vv,xQ,wu,ZD,QQ,h1]
theorem zk8 (x:Int) (a:Rd):vv 18 x a=if za a.ts x=1 then (if za a.ts (x+1)=1 then (if za a.ts (x+2)=1 then some ⟨a.ts,a.tk,a.sy++[x]⟩ else none) else none) else none:=by
 by_cases h1:za a.ts x=1<;>by_cases h2:za a.ts (x+1)=1<;>by_cases h3:za a.ts (x+2)=1<;>simp [vv,xQ,wu,ZD,QQ,h1,h2,h3]
theorem zk9 (x:Int) (a:Rd):vv 19 x a=if za a.ts x=1 then (if za a.ts (x+1)=0 then some ⟨a.ts,a.tk++[x],a.sy++[x]⟩ else none) else none:=by
 by_cases h1:za a.ts x=1<;>by_cases h2:za a.ts (x+1)=0<;>simp [vv,xQ,wu,ZD,QQ,h1,h2]
theorem zk_ (x:Int) (a:Rd):vv 20 x a=if za a.ts x=1 then (if za a.ts (x+1)=1 then some ⟨a.ts,a.tk,a.sy++[x]⟩ else none) else none:=by
 by_cases h1:za a.ts x=1<;>by_cases h2:za a.ts (x+1)=1<;>simp [vv,xQ,wu,ZD,QQ,h1,h2]
noncomputable def kn (ps:List zc) (r x:Int) (E:Int->Prop) (a:List Int×List Int):Option (List Int×List Int):=
 if r=2\/r=3 then
  if ¬za a.1 (if x<0 then -1-x else x)=(if r=3 then 3 else 1) then none
  else if x<0 then
   if E (-1-x) then none
   else some (a.1.set (-1-x).toNat 0,a.2++[-1-x])
  else some a
 else if r=11 then if U2 (za ps x).Ups a.1 then none else some a
 else if Q6 r x a.1 then none else some a
def zoC (r:Int):Bool:= !(decide (r=2)||decide (r=3)||decide (r=4)||decide (r=5)||decide (r=6)||decide (r=11)||decide (r=18)||decide (r=19)||decide (r=20))
section
variable {ps:List zc} {rs fs:List Int} {k:Int} {a:List Int×List Int} {r x:Int} {E:Int->Prop}
theorem UY:uk ps rs fs k a=kn ps (za rs k) (za fs k) (VM rs fs k) a:=rfl
theorem zu0:kn ps 2 x E a=if x<0 then (if za a.1 (-1-x)=1 then (if E (-1-x) then none else some (a.1.set (-1-x).toNat 0,a.2++[-1-x])) else none) else if za a.1 x=1 then some a else none:=by
 unfold kn
 by_cases c:x<0
 ·by_cases h1:za a.1 (-1-x)=1<;>simp [c,h1]
 ·by_cases h1:za a.1 x=1<;>simp [c,h1]
theorem zu1:kn ps 3 x E a=if x<0 then (if za a.1 (-1-x)=3 then (if E (-1-x) then none else some (a.1.set (-1-x).toNat 0,a.2++[-1-x])) else none) else if za a.1 x=3 then some a else none:=by
 unfold kn
 by_cases c:x<0
 ·by_cases h1:za a.1 (-1-x)=3<;>simp [c,h1]
 ·by_cases h1:za a.1 x=3<;>simp [c,h1]
theorem zu2:kn ps 4 x E a=if za a.1 x=1 then some a else none:=by
 unfold kn;by_cases h1:za a.1 x=1<;>simp [Q6,h1]
theorem zu3:kn ps 5 x E a=if za a.1 x=2 then some a else none:=by
 unfold kn;by_cases h1:za a.1 x=2<;>simp [Q6,h1]
theorem zu4:kn ps 6 x E a=if za a.1 x=3 then some a else none:=by
 unfold kn;by_cases h1:za a.1 x=3<;>simp [Q6,h1]
theorem zrZ:kn ps 18 x E a=if za a.1 x=1 then (if za a.1 (x+1)=1 then (if za a.1 (x+2)=1 then some a else none) else none) else none:=by
 unfold kn
 by_cases h1:za a.1 x=1<;>by_cases h2:za a.1 (x+1)=1<;>by_cases h3:za a.1 (x+2)=1<;>simp [Q6,h1,h2,h3]
theorem zr0:kn ps 19 x E a=if za a.1 x=1 then (if za a.1 (x+1)=0 then some a else none) else none:=by
 unfold kn
 by_cases h1:za a.1 x=1<;>by_cases h2:za a.1 (x+1)=0<;>simp [Q6,h1,h2]
theorem zr2:kn ps 20 x E a=if za a.1 x=1 then (if za a.1 (x+1)=1 then some a else none) else none:=by
 unfold kn
 by_cases h1:za a.1 x=1<;>by_cases h2:za a.1 (x+1)=1<;>simp [Q6,h1,h2]
theorem zrY:kn ps 11 x E a=if U2 (za ps x).Ups a.1 then none else some a:=by
 unfold kn;simp
theorem zB3 (h:zoC r=true):kn ps r x E a=some a:=by
 simp only [zoC,Bool.not_eq_true',Bool.or_eq_false_iff,decide_eq_false_iff_not] at h
 unfold kn;simp [Q6,h]
theorem zBX (h:za rs k=2):uk ps rs fs k a=if za fs k<0 then (if za a.1 (-1-za fs k)=1 then (if VM rs fs k (-1-za fs k) then none else some (a.1.set (-1-za fs k).toNat 0,a.2++[-1-za fs k])) else none) else if za a.1 (za fs k)=1 then some a else none:=by rw [UY,h,zu0]
theorem zBY (h:za rs k=3):uk ps rs fs k a=if za fs k<0 then (if za a.1 (-1-za fs k)=3 then (if VM rs fs k (-1-za fs k) then none else some (a.1.set (-1-za fs k).toNat 0,a.2++[-1-za fs k])) else none) else if za a.1 (za fs k)=3 then some a else none:=by rw [UY,h,zu1]
theorem zBZ (h:za rs k=4):uk ps rs fs k a=if za a.1 (za fs k)=1 then some a else none:=by rw [UY,h,zu2]
theorem zB0 (h:za rs k=5):uk ps rs fs k a=if za a.1 (za fs k)=2 then some a else none:=by rw [UY,h,zu3]
theorem zB1 (h:za rs k=6):uk ps rs fs k a=if za a.1 (za fs k)=3 then some a else none:=by rw [UY,h,zu4]
theorem zAb (h:za rs k=18):uk ps rs fs k a=if za a.1 (za fs k)=1 then (if za a.1 (za fs k+1)=1 then (if za a.1 (za fs k+2)=1 then some a else none) else none) else none:=by rw [UY,h,zrZ]
theorem zAc (h:za rs k=19):uk ps rs fs k a=if za a.1 (za fs k)=1 then (if za a.1 (za fs k+1)=0 then some a else none) else none:=by rw [UY,h,zr0]
theorem zAd (h:za rs k=20):uk ps rs fs k a=if za a.1 (za fs k)=1 then (if za a.1 (za fs k+1)=1 then some a else none) else none:=by rw [UY,h,zr2]
theorem zAa (h:za rs k=11):uk ps rs fs k a=if U2 (za ps (za fs k)).Ups a.1 then none else some a:=by rw [UY,h,zrY]
theorem zB2 (h:¬za rs k=2) (h3:¬za rs k=3) (h4:¬za rs k=4) (h5:¬za rs k=5) (h6:¬za rs k=6) (h11:¬za rs k=11) (h18:¬za rs k=18) (h19:¬za rs k=19) (h20:¬za rs k=20):uk ps rs fs k a=some a:=by
 unfold uk;simp [Q6,h,h3,h4,h5,h6,h11,h18,h19,h20]
theorem zzP:VM rs fs 0=λ _=>False:=by funext q;simp [VM]
theorem zzQ:VM rs fs 1=λ q=>uH (za rs 0)/\q=za fs 0:=by funext q;simp [VM,eq_comm]
theorem zzR:VM rs fs 2=λ q=>(uH (za rs 0)/\q=za fs 0)\/(uH (za rs 1)/\q=za fs 1):=by funext q;simp [VM,eq_comm]
theorem zzS:VM rs fs 3=λ q=>(uH (za rs 0)/\q=za fs 0)\/(uH (za rs 1)/\q=za fs 1)\/(uH (za rs 2)/\q=za fs 2):=by funext q;simp [VM,eq_comm]
end
theorem zDD (x:Int) (a:Rd):vv 0 x a=some a:=by simp [vv,xQ]
theorem zDE (r x:Int) (a:Rd) (h:xQ r=0):vv r x a=some a:=by simp [vv,h]
theorem zA_ (r:Int) (h:¬(r=4\/r=5\/r=6)):uH r=False:=eq_false h
theorem zA' (r:Int) (h:r=4\/r=5\/r=6):uH r=True:=eq_true h
theorem zw3 (a b c d:Int):za [a,b,c,d] 0=a/\za [a,b,c,d] 1=b/\za [a,b,c,d] 2=c/\za [a,b,c,d] 3=d:=⟨rfl,rfl,rfl,rfl⟩
def RR:=And.intro @zy2<|And.intro @zy3<|And.intro @zy4<|And.intro @zy5<|And.intro @zy6<|And.intro @zk8<|And.intro @zk9<|And.intro @zk_<|And.intro @zDE<|And.intro @zu0<|And.intro @zu1<|And.intro @zu2<|And.intro @zu3<|And.intro @zu4<|And.intro @zrZ<|And.intro @zr0<|And.intro @zr2<|And.intro @zrY<|And.intro @zB3<|And.intro @zA_<|And.intro @zA'<|@zwH
section
variable {ps:List zc} {n:Ins} {ts:List Int}
theorem yP {a b c d:Int} (hs:zg n.Op=some [a,b,c,d]):reads ps n ts=((vv a n.A ⟨ts,[],[]⟩).bind λ x=>(vv b n.B x).bind λ y=>(vv c n.C y).bind λ z=>vv d n.D z).bind λ a=>if n.Op=11/\U2 (za ps n.B).Ups a.ts then none else some (a.ts,a.tk):=by
 rw [ztz,hs,cR,zf5];rfl
theorem yu {a b c d:Int} (hi:zE n.Op=some [a,b,c,d]):xI ps n ts=((kn ps a n.A (λ _=>False) (ts,[])).bind λ x=>(kn ps b n.B (λ q=>uH a/\q=n.A) x).bind λ y=>(kn ps c n.C (λ q=>(uH a/\q=n.A)\/(uH b/\q=n.B)) y).bind λ z=>kn ps d n.D (λ q=>(uH a/\q=n.A)\/(uH b/\q=n.B)\/(uH c/\q=n.C)) z).bind λ a=>some (a.1,if n.Op=40 then a.2++[n.A] else a.2):=by
 rw [zq9,hi,cR,zjc]
 simp only [UY,zzP,zzQ,zzR,zzS]
 rfl
theorem zAI (hs:zg n.Op=some [11,0,0,0]) (hi:zE n.Op=some [7,0,0,0]) (h:¬n.Op=40) (h2:¬n.Op=11):xI ps n ts=reads ps n ts:=by
 rw [yP hs,yu hi]
 simp (maxSteps:=10000000) (disch:=decide) only [RR,aW,bD,true_and,cL,or_false,false_or,if_true,if_false,aV,aO,aA,h,h2,(by decide:¬((11:Int)=40)),(by decide:¬((40:Int)=11))]
theorem zAJ (hs:zg n.Op=some [12,0,0,0]) (hi:zE n.Op=some [8,0,0,0]) (h:¬n.Op=40) (h2:¬n.Op=11):xI ps n ts=reads ps n ts:=by
 rw [yP hs,yu hi]
 simp (maxSteps:=10000000) (disch:=decide) only [RR,aW,bD,true_and,cL,or_false,false_or,if_true,if_false,aV,aO,aA,h,h2,(by decide:¬((11:Int)=40)),(by decide:¬((40:Int)=11))]
theorem zmO (hs:zg n.Op=some [0,0,0,0]) (hi:zE n.Op=some [0,0,0,0]) (h:¬n.Op=40) (h2:¬n.Op=11):xI ps n ts=reads ps n ts:=by
 rw [yP hs,yu hi]
 simp (maxSteps:=10000000) (disch:=decide) only [RR,aW,bD,true_and,cL,or_false,false_or,if_true,if_false,aV,aO,aA,h,h2,(by decide:¬((11:Int)=40)),(by decide:¬((40:Int)=11))]
theorem zAK (hs:zg n.Op=some [1,7,0,0]) (hi:zE n.Op=some [1,9,0,0]) (h:¬n.Op=40) (h2:¬n.Op=11):xI ps n ts=reads ps n ts:=by
 rw [yP hs,yu hi]
 simp (maxSteps:=10000000) (disch:=decide) only [RR,aW,bD,true_and,cL,or_false,false_or,if_true,if_false,aV,aO,aA,h,h2,(by decide:¬((11:Int)=40)),(by decide:¬((40:Int)=11))]
theorem zr' (hs:zg n.Op=some [1,2,0,0]) (hi:zE n.Op=some [1,2,0,0]) (h:¬n.Op=40) (h2:¬n.Op=11):xI ps n ts=reads ps n ts:=by
 rw [yP hs,yu hi]
 simp (maxSteps:=10000000) (disch:=decide) only [RR,aW,bD,true_and,cL,or_false,false_or,if_true,if_false,aV,aO,aA,h,h2,(by decide:¬((11:Int)=40)),(by decide:¬((40:Int)=11))]
theorem zAL (hs:zg n.Op=some [1,5,0,0]) (hi:zE n.Op=some [1,5,0,0]) (h:¬n.Op=40) (h2:¬n.Op=11):xI ps n ts=reads ps n ts:=by
 rw [yP hs,yu hi]
 simp (maxSteps:=10000000) (disch:=decide) only [RR,aW,bD,true_and,cL,or_false,false_or,if_true,if_false,aV,aO,aA,h,h2,(by decide:¬((11:Int)=40)),(by decide:¬((40:Int)=11))]
theorem zAM (hs:zg n.Op=some [5,2,0,0]) (hi:zE n.Op=some [5,2,0,0]) (h:¬n.Op=40) (h2:¬n.Op=11):xI ps n ts=reads ps n ts:=by
 rw [yP hs,yu hi]
 simp (maxSteps:=10000000) (disch:=decide) only [RR,aW,bD,true_and,cL,or_false,false_or,if_true,if_false,aV,aO,aA,h,h2,(by decide:¬((11:Int)=40)),(by decide:¬((40:Int)=11))]
theorem zAN (hs:zg n.Op=some [1,8,0,0]) (hi:zE n.Op=some [1,10,0,0]) (h:¬n.Op=40) (h2:¬n.Op=11):xI ps n ts=reads ps n ts:=by
 rw [yP hs,yu hi]
 simp (maxSteps:=10000000) (disch:=decide) only [RR,aW,bD,true_and,cL,or_false,false_or,if_true,if_false,aV,aO,aA,h,h2,(by decide:¬((11:Int)=40)),(by decide:¬((40:Int)=11))]
theorem zAO (hs:zg n.Op=some [8,2,0,0]) (hi:zE n.Op=some [10,2,0,0]) (h:¬n.Op=40) (h2:¬n.Op=11):xI ps n ts=reads ps n ts:=by
 rw [yP hs,yu hi]
 simp (maxSteps:=10000000) (disch:=decide) only [RR,aW,bD,true_and,cL,or_false,false_or,if_true,if_false,aV,aO,aA,h,h2,(by decide:¬((11:Int)=40)),(by decide:¬((40:Int)=11))]
theorem zAP (hs:zg n.Op=some [1,9,0,0]) (hi:zE n.Op=some [1,11,0,0]) (h:¬n.Op=40) (h2:n.Op=11):xI ps n ts=reads ps n ts:=by
 rw [yP hs,yu hi]
 simp (maxSteps:=10000000) (disch:=decide) only [RR,aW,bD,true_and,cL,or_false,false_or,if_true,if_false,aV,aO,aA,h,h2,(by decide:¬((11:Int)=40)),(by decide:¬((40:Int)=11))]
theorem zpQ (hs:zg n.Op=some [1,0,0,0]) (hi:zE n.Op=some [1,0,0,0]) (h:¬n.Op=40) (h2:¬n.Op=11):xI ps n ts=reads ps n ts:=by
 rw [yP hs,yu hi]
 simp (maxSteps:=10000000) (disch:=decide) only [RR,aW,bD,true_and,cL,or_false,false_or,if_true,if_false,aV,aO,aA,h,h2,(by decide:¬((11:Int)=40)),(by decide:¬((40:Int)=11))]
theorem zxQ (hs:zg n.Op=some [4,2,2,0]) (hi:zE n.Op=some [4,2,2,0]) (h:¬n.Op=40) (h2:¬n.Op=11):xI ps n ts=reads ps n ts:=by
 rw [yP hs,yu hi]
 simp (maxSteps:=10000000) (disch:=decide) only [RR,aW,bD,true_and,cL,or_false,false_or,if_true,if_false,aV,aO,aA,h,h2,(by decide:¬((11:Int)=40)),(by decide:¬((40:Int)=11))]
theorem zxR (hs:zg n.Op=some [4,2,3,0]) (hi:zE n.Op=some [4,2,3,0]) (h:¬n.Op=40) (h2:¬n.Op=11):xI ps n ts=reads ps n ts:=by
 rw [yP hs,yu hi]
 simp (maxSteps:=10000000) (disch:=decide) only [RR,aW,bD,true_and,cL,or_false,false_or,if_true,if_false,aV,aO,aA,h,h2,(by decide:¬((11:Int)=40)),(by decide:¬((40:Int)=11))]
theorem zxS (hs:zg n.Op=some [1,2,2,0]) (hi:zE n.Op=some [1,2,2,0]) (h:¬n.Op=40) (h2:¬n.Op=11):xI ps n ts=reads ps n ts:=by
 rw [yP hs,yu hi]
 simp (maxSteps:=10000000) (disch:=decide) only [RR,aW,bD,true_and,cL,or_false,false_or,if_true,if_false,aV,aO,aA,h,h2,(by decide:¬((11:Int)=40)),(by decide:¬((40:Int)=11))]
theorem zxT (hs:zg n.Op=some [2,2,2,0]) (hi:zE n.Op=some [2,2,2,0]) (h:¬n.Op=40) (h2:¬n.Op=11):xI ps n ts=reads ps n ts:=by
 rw [yP hs,yu hi]
 simp (maxSteps:=10000000) (disch:=decide) only [RR,aW,bD,true_and,cL,or_false,false_or,if_true,if_false,aV,aO,aA,h,h2,(by decide:¬((11:Int)=40)),(by decide:¬((40:Int)=11))]
theorem zxU (hs:zg n.Op=some [1,15,2,0]) (hi:zE n.Op=some [1,14,2,0]) (h:¬n.Op=40) (h2:¬n.Op=11):xI ps n ts=reads ps n ts:=by
 rw [yP hs,yu hi]
 simp (maxSteps:=10000000) (disch:=decide) only [RR,aW,bD,true_and,cL,or_false,false_or,if_true,if_false,aV,aO,aA,h,h2,(by decide:¬((11:Int)=40)),(by decide:¬((40:Int)=11))]
theorem zxV (hs:zg n.Op=some [1,16,2,2]) (hi:zE n.Op=some [1,13,2,2]) (h:¬n.Op=40) (h2:¬n.Op=11):xI ps n ts=reads ps n ts:=by
 rw [yP hs,yu hi]
 simp (maxSteps:=10000000) (disch:=decide) only [RR,aW,bD,true_and,cL,or_false,false_or,if_true,if_false,aV,aO,aA,h,h2,(by decide:¬((11:Int)=40)),(by decide:¬((40:Int)=11))]
theorem zxW (hs:zg n.Op=some [10,0,0,0]) (hi:zE n.Op=some [12,0,0,0]) (h:¬n.Op=40) (h2:¬n.Op=11):xI ps n ts=reads ps n ts:=by
 rw [yP hs,yu hi]
 simp (maxSteps:=10000000) (disch:=decide) only [RR,aW,bD,true_and,cL,or_false,false_or,if_true,if_false,aV,aO,aA,h,h2,(by decide:¬((11:Int)=40)),(by decide:¬((40:Int)=11))]
theorem zpR (hs:zg n.Op=some [2,10,0,0]) (hi:zE n.Op=some [2,12,0,0]) (h:¬n.Op=40) (h2:¬n.Op=11):xI ps n ts=reads ps n ts:=by
 rw [yP hs,yu hi]
 simp (maxSteps:=10000000) (disch:=decide) only [RR,aW,bD,true_and,cL,or_false,false_or,if_true,if_false,aV,aO,aA,h,h2,(by decide:¬((11:Int)=40)),(by decide:¬((40:Int)=11))]
theorem zxX (hs:zg n.Op=some [6,2,0,0]) (hi:zE n.Op=some [6,2,0,0]) (h:¬n.Op=40) (h2:¬n.Op=11):xI ps n ts=reads ps n ts:=by
 rw [yP hs,yu hi]
 simp (maxSteps:=10000000) (disch:=decide) only [RR,aW,bD,true_and,cL,or_false,false_or,if_true,if_false,aV,aO,aA,h,h2,(by decide:¬((11:Int)=40)),(by decide:¬((40:Int)=11))]
theorem zxY (hs:zg n.Op=some [6,3,0,0]) (hi:zE n.Op=some [6,3,0,0]) (h:¬n.Op=40) (h2:¬n.Op=11):xI ps n ts=reads ps n ts:=by
 rw [yP hs,yu hi]
 simp (maxSteps:=10000000) (disch:=decide) only [RR,aW,bD,true_and,cL,or_false,false_or,if_true,if_false,aV,aO,aA,h,h2,(by decide:¬((11:Int)=40)),(by decide:¬((40:Int)=11))]
theorem zxZ (hs:zg n.Op=some [1,3,0,0]) (hi:zE n.Op=some [1,3,0,0]) (h:¬n.Op=40) (h2:¬n.Op=11):xI ps n ts=reads ps n ts:=by
 rw [yP hs,yu hi]
 simp (maxSteps:=10000000) (disch:=decide) only [RR,aW,bD,true_and,cL,or_false,false_or,if_true,if_false,aV,aO,aA,h,h2,(by decide:¬((11:Int)=40)),(by decide:¬((40:Int)=11))]
theorem zx0 (hs:zg n.Op=some [1,6,17,0]) (hi:zE n.Op=some [1,6,15,0]) (h:¬n.Op=40) (h2:¬n.Op=11):xI ps n ts=reads ps n ts:=by
 rw [yP hs,yu hi]
 simp (maxSteps:=10000000) (disch:=decide) only [RR,aW,bD,true_and,cL,or_false,false_or,if_true,if_false,aV,aO,aA,h,h2,(by decide:¬((11:Int)=40)),(by decide:¬((40:Int)=11))]
theorem zx1 (hs:zg n.Op=some [1,6,0,0]) (hi:zE n.Op=some [1,6,0,0]) (h:¬n.Op=40) (h2:¬n.Op=11):xI ps n ts=reads ps n ts:=by
 rw [yP hs,yu hi]
 simp (maxSteps:=10000000) (disch:=decide) only [RR,aW,bD,true_and,cL,or_false,false_or,if_true,if_false,aV,aO,aA,h,h2,(by decide:¬((11:Int)=40)),(by decide:¬((40:Int)=11))]
theorem zx2 (hs:zg n.Op=some [1,2,3,0]) (hi:zE n.Op=some [1,2,3,0]) (h:¬n.Op=40) (h2:¬n.Op=11):xI ps n ts=reads ps n ts:=by
 rw [yP hs,yu hi]
 simp (maxSteps:=10000000) (disch:=decide) only [RR,aW,bD,true_and,cL,or_false,false_or,if_true,if_false,aV,aO,aA,h,h2,(by decide:¬((11:Int)=40)),(by decide:¬((40:Int)=11))]
theorem zx3 (hs:zg n.Op=some [3,0,0,0]) (hi:zE n.Op=some [3,0,0,0]) (h:¬n.Op=40) (h2:¬n.Op=11):xI ps n ts=reads ps n ts:=by
 rw [yP hs,yu hi]
 simp (maxSteps:=10000000) (disch:=decide) only [RR,aW,bD,true_and,cL,or_false,false_or,if_true,if_false,aV,aO,aA,h,h2,(by decide:¬((11:Int)=40)),(by decide:¬((40:Int)=11))]
theorem zx4 (hs:zg n.Op=some [2,0,0,0]) (hi:zE n.Op=some [2,0,0,0]) (h:¬n.Op=40) (h2:¬n.Op=11):xI ps n ts=reads ps n ts:=by
 rw [yP hs,yu hi]
 simp (maxSteps:=10000000) (disch:=decide) only [RR,aW,bD,true_and,cL,or_false,false_or,if_true,if_false,aV,aO,aA,h,h2,(by decide:¬((11:Int)=40)),(by decide:¬((40:Int)=11))]
theorem zx5 (hs:zg n.Op=some [10,14,0,0]) (hi:zE n.Op=some [12,17,0,0]) (h:¬n.Op=40) (h2:¬n.Op=11):xI ps n ts=reads ps n ts:=by
 rw [yP hs,yu hi]
 simp (maxSteps:=10000000) (disch:=decide) only [RR,aW,bD,true_and,cL,or_false,false_or,if_true,if_false,aV,aO,aA,h,h2,(by decide:¬((11:Int)=40)),(by decide:¬((40:Int)=11))]
theorem zpS (hs:zg n.Op=some [13,0,0,0]) (hi:zE n.Op=some [16,0,0,0]) (h:¬n.Op=40) (h2:¬n.Op=11):xI ps n ts=reads ps n ts:=by
 rw [yP hs,yu hi]
 simp (maxSteps:=10000000) (disch:=decide) only [RR,aW,bD,true_and,cL,or_false,false_or,if_true,if_false,aV,aO,aA,h,h2,(by decide:¬((11:Int)=40)),(by decide:¬((40:Int)=11))]
theorem zx6 (hs:zg n.Op=some [2,3,0,0]) (hi:zE n.Op=some [2,3,0,0]) (h:¬n.Op=40) (h2:¬n.Op=11):xI ps n ts=reads ps n ts:=by
 rw [yP hs,yu hi]
 simp (maxSteps:=10000000) (disch:=decide) only [RR,aW,bD,true_and,cL,or_false,false_or,if_true,if_false,aV,aO,aA,h,h2,(by decide:¬((11:Int)=40)),(by decide:¬((40:Int)=11))]
theorem zx7 (hs:zg n.Op=some [18,0,0,0]) (hi:zE n.Op=some [18,0,0,0]) (h:¬n.Op=40) (h2:¬n.Op=11):xI ps n ts=reads ps n ts:=by
 rw [yP hs,yu hi]
 simp (maxSteps:=10000000) (disch:=decide) only [RR,aW,bD,true_and,cL,or_false,false_or,if_true,if_false,aV,aO,aA,h,h2,(by decide:¬((11:Int)=40)),(by decide:¬((40:Int)=11))]
theorem zpT (hs:zg n.Op=some [18,10,0,0]) (hi:zE n.Op=some [18,12,0,0]) (h:¬n.Op=40) (h2:¬n.Op=11):xI ps n ts=reads ps n ts:=by
 rw [yP hs,yu hi]
 simp (maxSteps:=10000000) (disch:=decide) only [RR,aW,bD,true_and,cL,or_false,false_or,if_true,if_false,aV,aO,aA,h,h2,(by decide:¬((11:Int)=40)),(by decide:¬((40:Int)=11))]
theorem zx8 (hs:zg n.Op=some [19,0,0,0]) (hi:zE n.Op=some [19,0,0,0]) (h:n.Op=40) (h2:¬n.Op=11):xI ps n ts=reads ps n ts:=by
 rw [yP hs,yu hi]
 simp (maxSteps:=10000000) (disch:=decide) only [RR,aW,bD,true_and,cL,or_false,false_or,if_true,if_false,aV,aO,aA,h,h2,(by decide:¬((11:Int)=40)),(by decide:¬((40:Int)=11))]
theorem zx9 (hs:zg n.Op=some [20,10,1,0]) (hi:zE n.Op=some [20,12,1,0]) (h:¬n.Op=40) (h2:¬n.Op=11):xI ps n ts=reads ps n ts:=by
 rw [yP hs,yu hi]
 simp (maxSteps:=10000000) (disch:=decide) only [RR,aW,bD,true_and,cL,or_false,false_or,if_true,if_false,aV,aO,aA,h,h2,(by decide:¬((11:Int)=40)),(by decide:¬((40:Int)=11))]
theorem zx_ (hs:zg n.Op=some [21,0,0,0]) (hi:zE n.Op=some [1,0,0,0]) (h:¬n.Op=40) (h2:¬n.Op=11):xI ps n ts=reads ps n ts:=by
 rw [yP hs,yu hi]
 simp (maxSteps:=10000000) (disch:=decide) only [RR,aW,bD,true_and,cL,or_false,false_or,if_true,if_false,aV,aO,aA,h,h2,(by decide:¬((11:Int)=40)),(by decide:¬((40:Int)=11))]
theorem ztA (ps:List zc) (n:Ins) (ts:List Int) {l:List Int} (hs:zg n.Op=some l):xI ps n ts=reads ps n ts:=by
 by_cases h1:n.Op=1
 ·exact zAI (by rw [h1];simp [zg]) (by rw [h1];decide +kernel) (by omega) (by omega)
 by_cases h2:n.Op=2
 ·exact zAJ (by rw [h2];simp [zg]) (by rw [h2];decide +kernel) (by omega) (by omega)
 by_cases h3:n.Op=3
 ·exact zmO (by rw [h3];simp [zg]) (by rw [h3];decide +kernel) (by omega) (by omega)
 by_cases h32:n.Op=32
 ·exact zmO (by rw [h32];simp [zg]) (by rw [h32];decide +kernel) (by omega) (by omega)
 by_cases h36:n.Op=36
 ·exact zmO (by rw [h36];simp [zg]) (by rw [h36];decide +kernel) (by omega) (by omega)
 by_cases h4:n.Op=4
 ·exact zAK (by rw [h4];simp [zg]) (by rw [h4];decide +kernel) (by omega) (by omega)
 by_cases h5:n.Op=5
 ·exact zr' (by rw [h5];simp [zg]) (by rw [h5];decide +kernel) (by omega) (by omega)
 by_cases h6:n.Op=6
 ·exact zr' (by rw [h6];simp [zg]) (by rw [h6];decide +kernel) (by omega) (by omega)
 by_cases h7:n.Op=7
 ·exact zAL (by rw [h7];simp [zg]) (by rw [h7];decide +kernel) (by omega) (by omega)
 by_cases h8:n.Op=8
 ·exact zAM (by rw [h8];simp [zg]) (by rw [h8];decide +kernel) (by omega) (by omega)
 by_cases h9:n.Op=9
 ·exact zAN (by rw [h9];simp [zg]) (by rw [h9];decide +kernel) (by omega) (by omega)
 by_cases h10:n.Op=10
 ·exact zAO (by rw [h10];simp [zg]) (by rw [h10];decide +kernel) (by omega) (by omega)
 by_cases h11:n.Op=11
 ·exact zAP (by rw [h11];simp [zg]) (by rw [h11];decide +kernel) (by omega) (by omega)
 by_cases h12:n.Op=12
 ·exact zpQ (by rw [h12];simp [zg]) (by rw [h12];decide +kernel) (by omega) (by omega)
 by_cases h22:n.Op=22
 ·exact zpQ (by rw [h22];simp [zg]) (by rw [h22];decide +kernel) (by omega) (by omega)
 by_cases h13:n.Op=13
 ·exact zxQ (by rw [h13];simp [zg]) (by rw [h13];decide +kernel) (by omega) (by omega)
 by_cases h14:n.Op=14
 ·exact zxR (by rw [h14];simp [zg]) (by rw [h14];decide +kernel) (by omega) (by omega)
 by_cases h15:n.Op=15
 ·exact zxS (by rw [h15];simp [zg]) (by rw [h15];decide +kernel) (by omega) (by omega)
 by_cases h16:n.Op=16
 ·exact zxT (by rw [h16];simp [zg]) (by rw [h16];decide +kernel) (by omega) (by omega)
 by_cases h17:n.Op=17
 ·exact zxU (by rw [h17];simp [zg]) (by rw [h17];decide +kernel) (by omega) (by omega)
 by_cases h18:n.Op=18
 ·exact zxV (by rw [h18];simp [zg]) (by rw [h18];decide +kernel) (by omega) (by omega)
 by_cases h19:n.Op=19
 ·exact zxW (by rw [h19];simp [zg]) (by rw [h19];decide +kernel) (by omega) (by omega)
 by_cases h20:n.Op=20
 ·exact zpR (by rw [h20];simp [zg]) (by rw [h20];decide +kernel) (by omega) (by omega)
 by_cases h21:n.Op=21
 ·exact zpR (by rw [h21];simp [zg]) (by rw [h21];decide +kernel) (by omega) (by omega)
 by_cases h23:n.Op=23
 ·exact zxX (by rw [h23];simp [zg]) (by rw [h23];decide +kernel) (by omega) (by omega)
 by_cases h24:n.Op=24
 ·exact zxY (by rw [h24];simp [zg]) (by rw [h24];decide +kernel) (by omega) (by omega)
 by_cases h25:n.Op=25
 ·exact zxZ (by rw [h25];simp [zg]) (by rw [h25];decide +kernel) (by omega) (by omega)
 by_cases h26:n.Op=26
 ·exact zx0 (by rw [h26];simp [zg]) (by rw [h26];decide +kernel) (by omega) (by omega)
 by_cases h27:n.Op=27
 ·exact zx1 (by rw [h27];simp [zg]) (by rw [h27];decide +kernel) (by omega) (by omega)
 by_cases h28:n.Op=28
 ·exact zx2 (by rw [h28];simp [zg]) (by rw [h28];decide +kernel) (by omega) (by omega)
 by_cases h29:n.Op=29
 ·exact zx3 (by rw [h29];simp [zg]) (by rw [h29];decide +kernel) (by omega) (by omega)
 by_cases h30:n.Op=30
 ·exact zx4 (by rw [h30];simp [zg]) (by rw [h30];decide +kernel) (by omega) (by omega)
 by_cases h31:n.Op=31
 ·exact zx5 (by rw [h31];simp [zg]) (by rw [h31];decide +kernel) (by omega) (by omega)
 by_cases h33:n.Op=33
 ·exact zpS (by rw [h33];simp [zg]) (by rw [h33];decide +kernel) (by omega) (by omega)
 by_cases h34:n.Op=34
 ·exact zpS (by rw [h34];simp [zg]) (by rw [h34];decide +kernel) (by omega) (by omega)
 by_cases h35:n.Op=35
 ·exact zx6 (by rw [h35];simp [zg]) (by rw [h35];decide +kernel) (by omega) (by omega)
 by_cases h37:n.Op=37
 ·exact zx7 (by rw [h37];simp [zg]) (by rw [h37];decide +kernel) (by omega) (by omega)
 by_cases h38:n.Op=38
 ·exact zpT (by rw [h38];simp [zg]) (by rw [h38];decide +kernel) (by omega) (by omega)
 by_cases h39:n.Op=39
 ·exact zpT (by rw [h39];simp [zg]) (by rw [h39];decide +kernel) (by omega) (by omega)
 by_cases h40:n.Op=40
 ·exact zx8 (by rw [h40];simp [zg]) (by rw [h40];decide +kernel) (by omega) (by omega)
 by_cases h41:n.Op=41
 ·exact zx9 (by rw [h41];simp [zg]) (by rw [h41];decide +kernel) (by omega) (by omega)
 by_cases h42:n.Op=42
 ·exact zx_ (by rw [h42];simp [zg]) (by rw [h42];decide +kernel) (by omega) (by omega)
 exfalso
 simp [zg,h1,h2,h3,h4,h5,h6,h7,h8,h9,h10,h11,h12,h13,h14,h15,h16,h17,h18,h19,h20,h21,h22,h23,h24,h25,h26,h27,h28,h29,h30,h31,h32,h33,h34,h35,h36,h37,h38,h39,h40,h41,h42] at hs
end
end
end Go.Proofs.Tryd.Av
end
section
attribute [local congr] ite_congr
set_option maxRecDepth 10000
set_option maxHeartbeats 4000000
namespace Go.Proofs.Tryd.Av
open Go Go.Av Classical
abbrev wb (ps:List zc) (p:Int) (nd:Ins) (t:PV) (L:Nat) (rs fs:List Int) (tkp syp:PV) (k:Int):zk:=[(0,code ps),(1,.int .i64 p),(2,.agg nd.cells),(3,t),(4,.ptr L 0 0 1),(6,.ptr (L+1) 0 0 1),(8,.nils),(9,.bool false),(10,tkp),(11,syp),(12,yt rs),(28,yt fs),(29,.int .i64 4),(30,.int .i64 k)]
theorem vt.idx {H:zd} {p:PV} {l:List Int} (h:vt H p l) {i:Int} (i0:0<=i) (i1:i<l.length):∃ a,wH 1 H p (.int .i64 i)=some a/\YA false 1 a H=some (.int .i64 (za l i)):=Ty.idx (.inr h) .i64 i0 i1
theorem zAu (ps:List zc) (p:Int) (nd:Ins) (t:PV) (L:Nat) (rs fs:List Int) (tkp syp:PV) (k x w q:Int) (K:zd) (sy:List Int) (hs:vt K syp sy) (hb:sy.length<=1048576):match z9 (λ (j:Int)=>za sy j=q) 0 sy.length with|some j=>∃ st,EV A (.loop (xN 1)) (⟨wb ps p nd t L rs fs tkp syp k++[(13,.int .i64 k),(14,.int .i64 x),(15,.int .i64 w),(16,.bool true),(17,.int .i64 q),(64,syp),(65,.int .i64 sy.length),(66,.int .i64 (0))],[],K,[]⟩:St)=some (.ret,st)/\st.per.get 8=.nils/\st.per.get 9=.bool false/\st.ed=[]/\st.H=K|none=>EV A (.loop (xN 1)) (⟨wb ps p nd t L rs fs tkp syp k++[(13,.int .i64 k),(14,.int .i64 x),(15,.int .i64 w),(16,.bool true),(17,.int .i64 q),(64,syp),(65,.int .i64 sy.length),(66,.int .i64 (0))],[],K,[]⟩:St)=some (zp.exit 2,(⟨wb ps p nd t L rs fs tkp syp k++[(13,.int .i64 k),(14,.int .i64 x),(15,.int .i64 w),(16,.bool true),(17,.int .i64 q),(64,syp),(65,.int .i64 sy.length),(66,.int .i64 (sy.length))],[],K,[]⟩:St)):=by
 refine yr (λ i=>(⟨wb ps p nd t L rs fs tkp syp k++[(13,.int .i64 k),(14,.int .i64 x),(15,.int .i64 w),(16,.bool true),(17,.int .i64 q),(64,syp),(65,.int .i64 sy.length),(66,.int .i64 i)],[],K,[]⟩:St)) (λ (j:Int)=>za sy j=q) (λ (j:Int) (st:St)=>st.per.get 8=.nils/\st.per.get 9=.bool false/\st.ed=[]/\st.H=K) (zp.exit 2,(⟨wb ps p nd t L rs fs tkp syp k++[(13,.int .i64 k),(14,.int .i64 x),(15,.int .i64 w),(16,.bool true),(17,.int .i64 q),(64,syp),(65,.int .i64 sy.length),(66,.int .i64 (sy.length))],[],K,[]⟩:St)) (0) (sy.length) ?_ ?_ ?_ (0) (by omega) (by omega)
 ·intro i hi hn hp
  obtain ⟨a,ha,ha2⟩:=hs.idx hi hn
  refine ⟨_,by (simp -implicitDefEqProofs +contextual (disch:=omega) only [J8,ye,wb, ↓XD,XU, ↓reduceIte,sevalprocAttr,ha,ha2,eq_false hp,hn])<;>rfl,by simp [St.next,zT]⟩
 ·intro i hi hn hp
  obtain ⟨a,ha,ha2⟩:=hs.idx hi hn
  refine ⟨_,by (simp -implicitDefEqProofs +contextual (disch:=omega) only [J8,ye,wb, ↓XD,XU, ↓reduceIte,sevalprocAttr,ha,ha2,eq_true hp,hn])<;>rfl,by simp [zk.get,zk.put]⟩
 ·rintro i hi rfl
  refine ⟨by simp -implicitDefEqProofs +contextual (disch:=omega) only [J8,ye, ↓XD,XU, ↓reduceIte,sevalprocAttr,wb,aL],by simp⟩
theorem zr8 (ps:List zc) (p:Int) (nd:Ins) (t:PV) (L:Nat) (rs fs:List Int) (tkp syp:PV) (k x w q m:Int) (K:zd) (ts:List Int) (hs:vt K t ts) (hb:ts.length<=1048576) (q0:0<=q) (m0:0<=m) (m1:q+m<ts.length):match z9 (λ (j:Int)=>¬za ts (q+j)=1) 1 (m+1) with|some j=>∃ st,EV A (.loop (xN 2)) (⟨wb ps p nd t L rs fs tkp syp k++[(13,.int .i64 k),(14,.int .i64 x),(15,.int .i64 w),(16,.bool false),(17,.int .i64 q),(20,.int .i64 m),(21,.int .i64 (1))],[],K,[]⟩:St)=some (.ret,st)/\st.per.get 8=.nils/\st.per.get 9=.bool false/\st.ed=[]/\st.H=K|none=>EV A (.loop (xN 2)) (⟨wb ps p nd t L rs fs tkp syp k++[(13,.int .i64 k),(14,.int .i64 x),(15,.int .i64 w),(16,.bool false),(17,.int .i64 q),(20,.int .i64 m),(21,.int .i64 (1))],[],K,[]⟩:St)=some (zp.exit 4,(⟨wb ps p nd t L rs fs tkp syp k++[(13,.int .i64 k),(14,.int .i64 x),(15,.int .i64 w),(16,.bool false),(17,.int .i64 q),(20,.int .i64 m),(21,.int .i64 ((m+1)))],[],K,[]⟩:St)):=by
 refine yr (λ i=>(⟨wb ps p nd t L rs fs tkp syp k++[(13,.int .i64 k),(14,.int .i64 x),(15,.int .i64 w),(16,.bool false),(17,.int .i64 q),(20,.int .i64 m),(21,.int .i64 i)],[],K,[]⟩:St)) (λ (j:Int)=>¬za ts (q+j)=1) (λ (j:Int) (st:St)=>st.per.get 8=.nils/\st.per.get 9=.bool false/\st.ed=[]/\st.H=K) (zp.exit 4,(⟨wb ps p nd t L rs fs tkp syp k++[(13,.int .i64 k),(14,.int .i64 x),(15,.int .i64 w),(16,.bool false),(17,.int .i64 q),(20,.int .i64 m),(21,.int .i64 ((m+1)))],[],K,[]⟩:St)) (1) ((m+1)) ?_ ?_ ?_ (1) (by omega) (by omega)
 ·intro i hi hn hp
  obtain ⟨a,ha,ha2⟩:=hs.idx (i:=q+i) (by omega) (by omega)
  have hp':za ts (q+i)=1:=aP.1 hp
  have hle:i<=m:=by omega
  refine ⟨_,by (simp -implicitDefEqProofs +contextual (disch:=omega) only [ZA,ye,wb, ↓XD,XU, ↓reduceIte,sevalprocAttr,ha,ha2,eq_true hp',hle])<;>rfl,by simp [St.next,zT]⟩
 ·intro i hi hn hp
  obtain ⟨a,ha,ha2⟩:=hs.idx (i:=q+i) (by omega) (by omega)
  have hle:i<=m:=by omega
  refine ⟨_,by (simp -implicitDefEqProofs +contextual (disch:=omega) only [ZA,ye,wb, ↓XD,XU, ↓reduceIte,sevalprocAttr,ha,ha2,eq_false hp,hle])<;>rfl,by simp [zk.get,zk.put]⟩
 ·rintro i hi rfl
  refine ⟨by simp -implicitDefEqProofs +contextual (disch:=omega) only [ZA,ye, ↓XD,XU, ↓reduceIte,sevalprocAttr,wb,(show ¬(m+1<=m) by omega),aL],by simp⟩
end Go.Proofs.Tryd.Av
end

/- The evaluator -/
import Derived.ArgAppend
import Derived.Laws.AppendOwn
import Derived.Laws.BytesArg
import Derived.Laws.Cells
import Derived.Laws.CopyRow
import Derived.Laws.StructEq
import Derived.Laws.Tables
import Derived.Orders
import Derived.RowKit3
import Derived.Still
set_option linter.all false
section
namespace Go.Av
open Go
section
inductive PV where
 |und
 |unk
 |int (k:IntKind) (n:Int)
 |bool (b:Bool)
 |str (s:ByteArray)
 |flt (k:FloatKind) (n:Nat)
 |agg (cs:List PV)
 |tup (vs:List PV)
 |fz (rows:List (List PV))
 |fp (cells:List PV) (off:Nat)
 |sl (id off len tot:Nat)
 |ptr (id row off tot:Nat)
 |nils
 |nilp
 |nilf
 |nilm
 |fn (f:Nat) (caps:List PV)
 |fm (es:List (PV×PV))
 |mp (id:Nat)
 deriving Inhabited
inductive yf where
 |cells (sz:Nat) (rows:List (List PV))
 |map (es:List (PV×PV))
 deriving Inhabited
abbrev zd:=List yf
abbrev zV:=List (Nat×Nat)
abbrev zk:=List (Nat×PV)
def zk.get:zk→Nat→PV
 |[],_=>.unk
 |(k,v)::e,n=>match Nat.beq k n with|true=>v|false=>zk.get e n
def zk.put:zk→Nat→PV→zk
 |[],n,v=>[(n,v)]
 |(k,x)::e,n,v=>match Nat.beq k n with|true=>(k,v)::e|false=>(k,x)::zk.put e n v
def zk.erase:zk→Nat→zk
 |[],_=>[]
 |(k,x)::e,n=>match Nat.beq k n with|true=>zk.erase e n|false=>(k,x)::zk.erase e n
structure St where
 per:zk
 reg:zk
 H:zd
 ed:zV
inductive zx where
 |per (n:Nat)
 |reg (n:Nat)
 |const (v:PV)
 |glob (g:Nat)
 deriving Inhabited
inductive Kt where
 |pure|shared|lend|fresh
 deriving DecidableEq,Inhabited
inductive zlB where
 |fbits
 |i2f
 deriving DecidableEq,Inhabited
inductive uD where
 |copy (x:zx)
 |pick (c a b:zx)
 |alloc (cells:List PV)
 |box (x:zx)
 |build (zero:List PV) (parts:List (Nat×Nat×zx))
 |buildSlice (sz len:Nat) (zero:List PV) (parts:List (Nat×zx))
 |load (agg:Bool) (sz:Nat) (a:zx)
 |store (sz:Nat) (a x:zx)
 |nilCheck (x:zx)
 |bin (op:BinOp) (x y:zx)
 |eqB (neg:Bool) (x y:zx)
 |eqS (neg:Bool) (tags:List Nat) (x y:zx)
 |un (op:UnOp) (x:zx)
 |conv (k:IntKind) (x:zx)
 |mkfn (f:Nat) (caps:List zx)
 |mkslice (sz bytes:Nat) (zero:List PV) (len cap:zx)
 |slice (sz:Nat) (x:zx) (lo hi:Option zx)
 |sliceS (x:zx) (lo hi:Option zx)
 |fieldA (off:Nat) (x:zx)
 |field (agg:Bool) (off sz:Nat) (x:zx)
 |indexA (sz:Nat) (x i:zx)
 |indexV (n:Nat) (agg:Bool) (sz:Nat) (x i:zx)
 |len (x:zx)
 |lenS (x:zx)
 |append (sz bytes:Nat) (x y:zx)
 |copyS (sz:Nat) (x y:zx)
 |call (m:Kt) (f:Nat) (args:List zx)
 |callv (m:Kt) (x:zx) (args:List zx)
 |extract (x:zx) (i:Nat)
 |mkmap
 |insert (tag:Nat) (m k v:zx)
 |lookup (tag:Nat) (zero:PV) (ok:Bool) (m k:zx)
 |prim (k:zlB) (x:zx)
 |bstr (x:zx)
 |minmax (mx:Bool) (x y:zx)
 |indexP (n sz:Nat) (x i:zx)
 |fail
 deriving Inhabited
structure zC where
 dst:Option (Bool×Nat)
 op:uD
 guard:Option (zx×Bool)
 still:Bool:=false
 clear:List zx:=[]
 deriving Inhabited
inductive AC where
 |skip
 |region (draw:Bool) (ops:List zC)
 |seq (a b:AC)
 |cond (gone:Bool) (c:zx) (thn els:AC)
 |block (id:Nat) (body:AC)
 |loop (body:AC)
 |exit (id:Nat)
 |ret
 |mrange (x:zx) (W:List Nat) (pk:Nat) (body:AC)
 deriving Inhabited
inductive jd where
 |tmp (n:Nat)
 |cell (n:Nat) (agg:Bool) (sz:Nat)
 deriving Inhabited
structure zJ where
 np:Nat
 code:AC
 res:List jd
 deriving Inhabited
structure xp where
 fn:Nat→Option zJ
 glob:Nat→Option (List PV)
mutual
def refs:PV→List Nat
 |.sl id _ _ _=>[id]
 |.ptr id _ _ _=>[id]
 |.mp id=>[id]
 |.agg cs=>zt cs
 |.tup vs=>zt vs
 |.fn _ caps=>zt caps
 |_=>[]
def zt:List PV→List Nat
 |[]=>[]
 |v::vs=>refs v++zt vs
end
mutual
def zQ (k:Nat):PV→PV
 |.sl id off len tot=>.sl (k+id) off len tot
 |.ptr id row off tot=>.ptr (k+id) row off tot
 |.mp id=>.mp (k+id)
 |.agg cs=>.agg (xG k cs)
 |.tup vs=>.tup (xG k vs)
 |.fn f caps=>.fn f (xG k caps)
 |.fz []=>.fz []
 |.fz (_::_)=>.unk
 |.fp _ _=>.unk
 |.fm _=>.unk
 |.und=>.und
 |.unk=>.unk
 |.int k n=>.int k n
 |.bool b=>.bool b
 |.str s=>.str s
 |.flt k n=>.flt k n
 |.nils=>.nils
 |.nilp=>.nilp
 |.nilf=>.nilf
 |.nilm=>.nilm
def xG (k:Nat):List PV→List PV
 |[]=>[]
 |v::vs=>zQ k v::xG k vs
end
def yX (k:Nat):yf→yf
 |.cells s rows=>.cells s (rows.map (xG k))
 |.map es=>.map (es.map fun e=>(zQ k e.1,zQ k e.2))
def zH:PV→Bool
 |.und|.unk|.agg _|.tup _=>false
 |_=>true
def cellsOf:PV→List PV
 |.agg cs=>cs
 |v=>[v]
def frz:Nat→zd→PV→PV
 |0,_,_=>.unk
 |d+1,H,v=>match v with
  |.sl id off len tot=>match H[id]? with
   |some (.cells _ rows)=>match tot==rows.length&&decide (off+len≤tot) with
    |true=>.fz (((rows.drop off).take len).map (·.map (frz d H)))
    |false=>.unk
   |_=>.unk
  |.ptr id row off tot=>match H[id]? with
   |some (.cells _ rows)=>match tot==rows.length,rows[row]? with
    |true,some cs=>.fp (cs.map (frz d H)) off
    |_,_=>.unk
   |_=>.unk
  |.mp id=>match H[id]? with
   |some (.map es)=>.fm (es.map fun e=>(frz d H e.1,frz d H e.2))
   |_=>.unk
  |.agg cs=>.agg (cs.map (frz d H))
  |.tup vs=>.tup (vs.map (frz d H))
  |.fn f caps=>.fn f (caps.map (frz d H))
  |v=>v
def kw (op:BinOp) (k:IntKind) (x y:Int):Option PV:=
 match op with
 |.add=>some (.int k (k.wrap (x+y)))
 |.sub=>some (.int k (k.wrap (x-y)))
 |.mul=>some (.int k (k.wrap (x*y)))
 |.quo=>if y=0 then none else some (.int k (k.wrap (x.tdiv y)))
 |.rem=>if y=0 then none else some (.int k (x.tmod y))
 |.eql=>some (.bool (x==y))
 |.neq=>some (.bool (x != y))
 |.lss=>some (.bool (decide (x<y)))
 |.leq=>some (.bool (decide (x≤y)))
 |.gtr=>some (.bool (decide (x>y)))
 |.geq=>some (.bool (decide (x≥y)))
 |_=>none
def UX (op:BinOp) (k:FloatKind) (x y:Nat):Option PV:=
 match op with
 |.quo=>match k.format.div x y with|some r=>some (.flt k r)|none=>none
 |.eql=>some (.bool (k.format.order x y==some .eq))
 |.neq=>some (.bool (k.format.order x y != some .eq))
 |.lss=>some (.bool (k.format.order x y==some .lt))
 |.gtr=>some (.bool (k.format.order x y==some .gt))
 |_=>none
def zbP (op:BinOp) (x y:ByteArray):Option PV:=
 match op with
 |.add=>if x.size+y.size≤4294967296 then some (.str (x++y)) else none
 |.eql=>some (.bool (x.toList==y.toList))
 |.neq=>some (.bool !(x.toList==y.toList))
 |_=>none
def bin (op:BinOp):PV→PV→Option PV
 |.int k x,.int k' y=>match decide (k=k') with|true=>kw op k x y|false=>none
 |.flt k x,.flt k' y=>match decide (k=k') with|true=>UX op k x y|false=>none
 |.str x,.str y=>zbP op x y
 |_,_=>none
def jl:Nat→PV→PV→Option Bool
 |0,.int k x,.int k' y=>match decide (k=k') with|true=>some (x==y)|false=>none
 |1,.bool x,.bool y=>some (x==y)
 |2,.str x,.str y=>some (x==y)
 |_,_,_=>none
def kk:List Nat→List PV→List PV→Option Bool
 |[],[],[]=>some true
 |t::ts,p::ps,q::qs=>match jl t p q,kk ts ps qs with
  |some a,some b=>some (a&&b)
  |_,_=>none
 |_,_,_=>none
def un (op:UnOp):PV→Option PV
 |.int k n=>match op with
  |.neg=>some (.int k (k.wrap (0-n)))
  |.xor=>match k.signed with|true=>some (.int k (k.wrap (-1-n)))|false=>none
  |_=>none
 |.bool b=>match op with|.not=>some (.bool !b)|_=>none
 |_=>none
def uh (H:zd):PV→Option (List (List PV))
 |.fz rows=>some rows
 |.nils=>some []
 |.sl id off len tot=>match H[id]? with
  |some (.cells _ rows)=>match tot==rows.length&&decide (off+len≤tot) with
   |true=>some ((rows.drop off).take len)
   |false=>none
  |_=>none
 |_=>none
def xS (H:zd) (sz:Nat):PV→Bool
 |.fz rows=>rows.all fun r=>r.length==sz
 |.nils=>true
 |.sl id _ _ _=>match H[id]? with|some (.cells s _)=>s==sz|_=>false
 |_=>false
def cellsAt (H:zd):PV→Option (List PV)
 |.fp cs off=>some (cs.drop off)
 |.ptr id row off tot=>match H[id]? with
  |some (.cells _ rows)=>match tot==rows.length,rows[row]? with
   |true,some cs=>some (cs.drop off)
   |_,_=>none
  |_=>none
 |_=>none
def xb (agg:Bool) (sz:Nat) (cs:List PV):Option PV:=
 match agg with
 |true=>match Nat.ble sz cs.length with|true=>some (.agg (cs.take sz))|false=>none
 |false=>cs.head?
def wD (id:Nat) (cs:List PV):zV:=((zt cs).filter fun r=>decide (id<r)).map fun r=>(id,r)
def storeAt (H:zd) (sz:Nat) (a x:PV):Option (zd×zV):=
 match a with
 |.ptr id row off tot=>match H[id]? with
  |some (.cells s rows)=>match tot==rows.length,rows[row]? with
   |true,some cs=>
    match (cellsOf x).length==sz&&Nat.ble (off+sz) cs.length&&(cellsOf x).all zH with
    |true=>some (H.set id (.cells s (rows.set row (cs.take off++cellsOf x++cs.drop (off+sz)))),wD id (cellsOf x))
    |false=>none
   |_,_=>none
  |_=>none
 |_=>none
def findKey (tag:Nat) (k:PV):List (PV×PV)→Option (Option PV)
 |[]=>some none
 |e::es=>match jl tag k e.1 with
  |some true=>some (some e.2)
  |some false=>findKey tag k es
  |none=>none
def Yu (H:zd):PV→Option (List (PV×PV))
 |.nilm=>some []
 |.fm es=>some es
 |.mp id=>match H[id]? with|some (.map es)=>some es|_=>none
 |_=>none
def zjM (zero:PV):Bool→Option PV→PV
 |true,some v=>.tup [v,.bool true]
 |false,some v=>v
 |true,none=>.tup [zero,.bool false]
 |false,none=>zero
structure Cl where
 p:Nat→List PV→Option PV
 s:Nat→List PV→zd→Option (PV×zd×zV)
def zx.get (G:Nat→Option (List PV)) (st:St):zx→PV
 |.per n=>st.per.get n
 |.reg n=>st.reg.get n
 |.const v=>v
 |.glob g=>match G g with|some cs=>.fp cs 0|none=>.unk
def xe (H:zd) (sz bytes:Nat) (x:PV) (new:List (List PV)):Option (PV×zd×zV):=
 match x with
 |.nils=>match decide (new.length*bytes≤35184372088832) with
  |true=>some (.sl H.length 0 new.length new.length,H++[.cells sz new],[])
  |false=>none
 |.sl id off len tot=>match H[id]? with
  |some (.cells s rows)=>match tot==rows.length&&s==sz&&decide (off+len≤tot)&&decide ((off+len+new.length)*bytes≤35184372088832) with
   |true=>match decide (off+len+new.length≤tot) with
    |true=>some (.sl id off (len+new.length) tot,H.set id (.cells s (rows.take (off+len)++new++rows.drop (off+len+new.length))),(new.map (wD id)).flatten)
    |false=>match off with
     |0=>some (.sl id 0 (len+new.length) (len+new.length),H.set id (.cells s (rows.take len++new)),(new.map (wD id)).flatten)
     |_+1=>none
   |false=>none
  |_=>none
 |_=>none
def vY:List PV→List (Nat×List PV)→Option (List PV)
 |cs,[]=>some cs
 |cs,(off,new)::ps=>match Nat.ble (off+new.length) cs.length&&new.all zH with
  |true=>vY (cs.take off++new++cs.drop (off+new.length)) ps
  |false=>none
def zT:List (List PV)→List (Nat×List PV)→Option (List (List PV))
 |rows,[]=>some rows
 |rows,(i,new)::ps=>match rows[i]? with
  |some r=>match r.length==new.length&&new.all zH with
   |true=>zT (rows.set i new) ps
   |false=>none
  |none=>none
def V5:PV→Bool
 |.int .. |.bool _|.str _|.flt .. =>true
 |_=>false
def uZ:PV→Bool
 |.agg cs=>cs.all V5
 |.tup vs=>vs.all fun v=>match v with|.agg cs=>cs.all V5|v=>V5 v
 |v=>V5 v
def xJ (C:Cl) (H:zd) (m:Kt) (f:Nat) (args:List PV):Option (PV×zd×zV):=
 match m with
 |.pure=>match C.p f (args.map (frz 8 H)) with
  |some v=>match (zt args).isEmpty||uZ v with
   |true=>some (v,H,[])
   |false=>none
  |none=>none
 |.shared=>C.s f args H
 |.lend=>match C.s f (args.map (frz 8 H)) [] with
  |some (v,H',ed)=>some (zQ H.length v,H++H'.map (yX H.length),ed.map fun e=>(H.length+e.1,H.length+e.2))
  |none=>none
 |.fresh=>match C.s f (args.map (frz 8 H)) [] with
  |some (v,H',_)=>some (frz 8 (H'.map (yX 0)) (zQ 0 v),H,[])
  |none=>none
def Vx:zlB→PV→Option PV
 |.fbits,.flt .f64 n=>some (.int .u64 n)
 |.i2f,.int _ n=>some (.flt .f64 (FloatKind.f64.nearest n))
 |_,_=>none
def mmV:Bool→PV→PV→Option PV
 |true,.int k x,.int _ y=>some (.int k (if y>x then y else x))
 |false,.int k x,.int _ y=>some (.int k (if y<x then y else x))
 |_,_,_=>none
def QD (n sz:Nat):PV→PV→Option PV
 |x,.int _ j=>match decide (0≤j)&&decide (j<n) with
  |true=>match x with
   |.ptr id row off tot=>some (.ptr id row (off+j.toNat*sz) tot)
   |.fp cs off=>some (.fp cs (off+j.toNat*sz))
   |_=>none
  |false=>none
 |_,_=>none
def V6:Bool→Bool→Bool
 |true,b=> !b
 |false,b=>b
def zbT:List (List PV)→Option (List UInt8)
 |[]=>some []
 |[.int .u8 n]::rs=>match zbT rs with|some bs=>some (UInt8.ofNat n.toNat::bs)|none=>none
 |_=>none
def zpi (H:zd) (x:PV):Option PV:=
 match uh H x,xS H 1 x with
 |some rows,true=>match zbT rows with|some bs=>some (.str ⟨bs.toArray⟩)|none=>none
 |_,_=>none
def kL (G:Nat→Option (List PV)) (st:St) (d:Int):Option zx→Option Int
 |none=>some d
 |some x=>match x.get G st with|.int _ n=>some n|_=>none
def zq (G:Nat→Option (List PV)) (C:Cl) (st:St):uD→Option (PV×zd×zV)
 |.copy x=>some (x.get G st,st.H,[])
 |.pick c a b=>match c.get G st with
  |.bool t=>match t with|true=>some (a.get G st,st.H,[])|false=>some (b.get G st,st.H,[])
  |_=>none
 |.alloc cells=>some (.ptr st.H.length 0 0 1,st.H++[.cells cells.length [cells]],[])
 |.box x=>match (cellsOf (x.get G st)).all zH with
  |true=>some (.ptr st.H.length 0 0 1,st.H++[.cells (cellsOf (x.get G st)).length [cellsOf (x.get G st)]],[])
  |false=>none
 |.build zero parts=>match parts.all fun p=>(cellsOf (p.2.2.get G st)).length==p.2.1 with
  |true=>match vY zero (parts.map fun p=>(p.1,cellsOf (p.2.2.get G st))) with
   |some cs=>some (.agg cs,st.H,[])
   |none=>none
  |false=>none
 |.buildSlice sz len zero parts=>match zT (List.replicate len zero) (parts.map fun p=>(p.1,cellsOf (p.2.get G st))) with
  |some rows=>some (.sl st.H.length 0 len len,st.H++[.cells sz rows],[])
  |none=>none
 |.load agg sz a=>match cellsAt st.H (a.get G st) with
  |some cs=>match xb agg sz cs with
   |some v=>some (v,st.H,[])
   |none=>none
  |none=>none
 |.store sz a x=>match storeAt st.H sz (a.get G st) (x.get G st) with
  |some (H,ed)=>some (.und,H,ed)
  |none=>none
 |.nilCheck x=>match x.get G st with
  |.ptr a b c d=>some (.ptr a b c d,st.H,[])
  |.fp a b=>some (.fp a b,st.H,[])
  |_=>none
 |.bin op x y=>match bin op (x.get G st) (y.get G st) with
  |some v=>some (v,st.H,[])
  |none=>none
 |.eqB neg x y=>match x.get G st,y.get G st with
  |.bool p,.bool q=>some (.bool (V6 neg (p==q)),st.H,[])
  |_,_=>none
 |.eqS neg tags x y=>match x.get G st,y.get G st with
  |.agg ps,.agg qs=>match kk tags ps qs with
   |some b=>some (.bool (V6 neg b),st.H,[])
   |none=>none
  |_,_=>none
 |.un op x=>match un op (x.get G st) with
  |some v=>some (v,st.H,[])
  |none=>none
 |.conv k x=>match x.get G st with
  |.int _ n=>some (.int k (k.wrap n),st.H,[])
  |_=>none
 |.mkfn f caps=>match (caps.map (zx.get G st)).all zH with
  |true=>some (.fn f (caps.map (zx.get G st)),st.H,[])
  |false=>none
 |.mkslice sz bytes zero len cap=>match len.get G st,cap.get G st with
  |.int .i64 n,.int .i64 c=>match decide (0≤n)&&decide (n=c)&&decide (n*bytes≤35184372088832) with
   |true=>some (.sl st.H.length 0 n.toNat n.toNat,st.H++[.cells sz (List.replicate n.toNat zero)],[])
   |false=>none
  |_,_=>none
 |.sliceS x lo hi=>match x.get G st,kL G st 0 lo with
  |.str s,some l=>match kL G st s.size hi with
   |some h=>match decide (0≤l)&&decide (l≤h)&&decide (h≤s.size) with
    |true=>some (.str (s.extract l.toNat h.toNat),st.H,[])
    |false=>none
   |none=>none
  |_,_=>none
 |.slice sz x lo hi=>match x.get G st,kL G st 0 lo with
  |.fz rows,some l=>match kL G st rows.length hi with
   |some h=>match decide (0≤l)&&decide (l≤h)&&decide (h≤rows.length)&&rows.all (fun r=>r.length==sz) with
    |true=>some (.fz ((rows.drop l.toNat).take (h.toNat-l.toNat)),st.H,[])
    |false=>none
   |none=>none
  |.sl id off len tot,some l=>match kL G st len hi with
   |some h=>match decide (0≤l)&&decide (l≤h)&&decide (h≤len)&&xS st.H sz (.sl id off len tot) with
    |true=>some (.sl id (off+l.toNat) (h.toNat-l.toNat) tot,st.H,[])
    |false=>none
   |none=>none
  |_,_=>none
 |.fieldA o x=>match x.get G st with
  |.ptr id row off tot=>some (.ptr id row (off+o) tot,st.H,[])
  |.fp cs off=>some (.fp cs (off+o),st.H,[])
  |_=>none
 |.field agg off sz x=>match x.get G st with
  |.agg cs=>match xb agg sz (cs.drop off) with
   |some v=>some (v,st.H,[])
   |none=>none
  |_=>none
 |.indexA sz x i=>match i.get G st with
  |.int _ n=>match decide (0≤n) with
   |true=>match x.get G st with
    |.fz rows=>match rows[n.toNat]? with
     |some r=>match r.length==sz with|true=>some (.fp r 0,st.H,[])|false=>none
     |none=>none
    |.sl id off len tot=>match st.H[id]? with
     |some (.cells s rows)=>match s==sz&&tot==rows.length&&decide (n<len)&&decide (off+len≤tot) with
      |true=>some (.ptr id (off+n.toNat) 0 tot,st.H,[])
      |false=>none
     |_=>none
    |_=>none
   |false=>none
  |_=>none
 |.indexV n agg sz x i=>match x.get G st,i.get G st with
  |.agg cs,.int _ j=>match decide (0≤j)&&decide (j<n) with
   |true=>match xb agg sz (cs.drop (j.toNat*sz)) with
    |some v=>some (v,st.H,[])
    |none=>none
   |false=>none
  |_,_=>none
 |.len x=>match x.get G st with
  |.fz rows=>some (.int .i64 rows.length,st.H,[])
  |.sl _ _ n _=>some (.int .i64 n,st.H,[])
  |.nils=>some (.int .i64 0,st.H,[])
  |_=>none
 |.lenS x=>match x.get G st with
  |.str s=>some (.int .i64 s.size,st.H,[])
  |_=>none
 |.append sz bytes x y=>match uh st.H (y.get G st),xS st.H sz (y.get G st) with
  |some new,true=>xe st.H sz bytes (x.get G st) new
  |_,_=>none
 |.copyS sz x y=>match x.get G st,uh st.H (y.get G st) with
  |.sl id off len tot,some new=>match st.H[id]? with
   |some (.cells s rows)=>match tot==rows.length&&decide (off+len≤tot)&&s==sz&&xS st.H sz (y.get G st) with
    |true=>some (.int .i64 (min new.length len:Nat),st.H.set id (.cells s (rows.take off++new.take len++rows.drop (off+min new.length len))),((new.take len).map (wD id)).flatten)
    |false=>none
   |_=>none
  |_,_=>none
 |.call m f args=>xJ C st.H m f (args.map (zx.get G st))
 |.callv m x args=>match x.get G st with
  |.fn f caps=>xJ C st.H m f (args.map (zx.get G st)++caps)
  |_=>none
 |.extract x i=>match x.get G st with
  |.tup vs=>match vs[i]? with|some v=>some (v,st.H,[])|none=>none
  |_=>none
 |.mkmap=>some (.mp st.H.length,st.H++[.map []],[])
 |.insert tag m k v=>match m.get G st with
  |.mp id=>match st.H[id]? with
   |some (.map es)=>match findKey tag (k.get G st) es with
    |some none=>some (.und,st.H.set id (.map (es++[(k.get G st,v.get G st)])),wD id [k.get G st,v.get G st])
    |_=>none
   |_=>none
  |_=>none
 |.lookup tag zero ok m k=>match Yu st.H (m.get G st) with
  |some es=>match findKey tag (k.get G st) es with
   |some r=>some (zjM zero ok r,st.H,[])
   |none=>none
  |none=>none
 |.prim k x=>match Vx k (x.get G st) with
  |some v=>some (v,st.H,[])
  |none=>none
 |.bstr x=>match zpi st.H (x.get G st) with
  |some v=>some (v,st.H,[])
  |none=>none
 |.minmax mx x y=>match mmV mx (x.get G st) (y.get G st) with
  |some v=>some (v,st.H,[])
  |none=>none
 |.indexP n sz x i=>match QD n sz (x.get G st) (i.get G st) with
  |some v=>some (v,st.H,[])
  |none=>none
 |.fail=>none
def St.put (st:St) (d:Option (Bool×Nat)) (v:PV):St:=
 match d with
 |none=>st
 |some (true,n)=>{ st with per:=st.per.put n v }
 |some (false,n)=>{ st with reg:=st.reg.put n v }
def wanted (G:Nat→Option (List PV)) (st:St) (o:zC):Option Bool:=
 match o.guard with
 |none=>some true
 |some (g,want)=>match g.get G st with
  |.bool b=>some (b==want)
  |.und=>some false
  |_=>none
def zim:Option zx→List zx
 |none=>[]
 |some x=>[x]
def xq:uD→List zx
 |.copy x|.box x|.load _ _ x|.nilCheck x|.un _ x|.conv _ x|.prim _ x|.bstr x|.fieldA _ x|.field _ _ _ x|.len x|.lenS x|.extract x _=>[x]
 |.pick c a b=>[c,a,b]
 |.alloc _|.mkmap|.fail=>[]
 |.build _ parts=>parts.map (·.2.2)
 |.buildSlice _ _ _ parts=>parts.map (·.2)
 |.store _ a x|.bin _ a x|.eqB _ a x|.eqS _ _ a x|.mkslice _ _ _ a x|.indexA _ a x|.indexP _ _ a x|.minmax _ a x|.indexV _ _ _ a x|.append _ _ a x|.copyS _ a x|.lookup _ _ _ a x=>[a,x]
 |.mkfn _ caps=>caps
 |.slice _ x lo hi|.sliceS x lo hi=>x::(zim lo++zim hi)
 |.call _ _ args=>args
 |.callv _ x args=>x::args
 |.insert _ m k v=>[m,k,v]
def Ym (G:Nat→Option (List PV)) (st:St):uD→Option (Option Nat)
 |.store _ a _=>match a.get G st with|.ptr id _ _ _=>some (some id)|_=>none
 |.append _ _ x _=>match x.get G st with|.sl id _ _ _=>some (some id)|.nils=>some none|_=>none
 |.copyS _ x _=>match x.get G st with|.sl id _ _ _=>some (some id)|_=>none
 |.insert _ m _ _=>match m.get G st with|.mp id=>some (some id)|_=>none
 |_=>none
def We:Option (Option Nat)→PV→Bool
 |some none,_=>true
 |some (some _),.fp _ _=>true
 |some (some t),.ptr id _ _ _=> !(Nat.beq t id)
 |_,_=>false
def YB (G:Nat→Option (List PV)) (st:St) (o:zC):Bool:=
 (!o.still||(xq o.op).all fun x=>(refs (x.get G st)).isEmpty)&&o.clear.all fun x=>We (Ym G st o.op) (x.get G st)
def vu (G:Nat→Option (List PV)) (C:Cl) (st:St) (o:zC):Option (PV×zd×zV):=
 match o.still,o.clear with
 |false,[]=>zq G C st o.op
 |s,_=>match YB G st o with
  |true=>match zq G C st o.op with
   |some r=>match !s||(refs r.1).isEmpty with|true=>some r|false=>none
   |none=>none
  |false=>none
def vH (G:Nat→Option (List PV)) (C:Cl):List zC→St→Option St
 |[],st=>some st
 |o::os,st=>match wanted G st o with
  |some true=>match vu G C st o with
   |some (v,H,ed)=>vH G C os (St.put { st with H:=H,ed:=ed++st.ed } o.dst v)
   |none=>none
  |some false=>vH G C os (st.put o.dst .und)
  |none=>none
inductive zp where
 |normal
 |exit (id:Nat)
 |ret
 deriving DecidableEq
def bare (n:Nat) (l:List Nat):Bool:=l.all fun r=>decide (r<n)
def trim (n:Nat) (roots:List PV) (H:zd) (ed:zV):zd×zV:=
 match bare n (zt roots)&&ed.all (fun e=>decide (n≤e.1)||decide (e.2<n)) with
 |true=>(H.take n,ed.filter fun e=>decide (e.2<n))
 |false=>(H,ed)
def St.next (st0 st:St):St:=
 let per:=st.per.take st0.per.length
 let t:=trim st0.H.length (per.map (·.2)) st.H st.ed
 { per:=per,reg:=[],H:=t.1,ed:=t.2 }
def jd.get (st:St):jd→Option PV
 |.tmp n=>some (st.per.get n)
 |.cell n agg sz=>match cellsAt st.H (st.per.get n) with
  |some cs=>xb agg sz cs
  |none=>none
def results (st:St):List jd→Option (List PV)
 |[]=>some []
 |r::rs=>match r.get st,results st rs with
  |some v,some vs=>some (v::vs)
  |_,_=>none
def jp:List PV→PV
 |[v]=>v
 |vs=>.tup vs
def params:Nat→List PV→zk
 |_,[]=>[]
 |n,v::vs=>(n,v)::params (n+1) vs
def Xc (F:zJ):Option (zp×St)→Option PV
 |some (.normal,st)|some (.ret,st)=>match results st F.res with
  |some vs=>some (frz 8 st.H (jp vs))
  |none=>none
 |_=>none
def j5 (n:Nat) (F:zJ):Option (zp×St)→Option (PV×zd×zV)
 |some (.normal,st)|some (.ret,st)=>match results st F.res with
  |some vs=>
   let t:=trim n vs st.H st.ed
   some (jp vs,t.1,t.2)
  |none=>none
 |_=>none
def jn (gone:Bool) (c:zx) (st:St):St:=
 match gone with
 |true=>match c with
  |.per k=>{ st with per:=st.per.erase k }
  |_=>st
 |false=>st
def U6 (H:zd):PV→Option (List (PV×PV))
 |.mp id=>match H[id]? with|some (.map es)=>some es|_=>none
 |_=>none
def wX (pk:Nat) (st:St) (e:PV×PV):St:=
 { per:=zk.put (st.per.map fun p=>(p.1,frz 8 st.H p.2)) pk (.tup [frz 8 st.H e.1,frz 8 st.H e.2]),reg:=[],H:=[],ed:=[] }
def JI:PV→Bool
 |.int .. |.bool _|.str _|.flt .. |.nils|.nilp|.nilf|.nilm=>true
 |_=>false
def ku (W:List Nat) (st:St):Option (zp×St)→Prop
 |some (.normal,s')=>∀ d∈W,st.per.get d=.unk∨(JI (st.per.get d)=true∧s'.per.get d=st.per.get d)
 |_=>False
def Ux (W:List Nat) (s':St) (n:Nat) (v:PV):PV:=match W.any (Nat.beq n) with
 |true=>match JI (s'.per.get n) with|true=>s'.per.get n|false=>.unk
 |false=>v
def zca (W:List Nat) (st s':St):St:={ st with per:=st.per.map fun p=>(p.1,Ux W s' p.1 p.2),reg:=[] }
def J8 (W:List Nat) (st:St) (q:zp×St):Option (zp×St)→Prop
 |some (.ret,s')=>q=(.ret,zca W st s')
 |_=>False
open Classical in
noncomputable def jN (W:List Nat) (st:St) (rs:List (Option (zp×St))):Option (zp×St):=
 if ∀ r∈rs,ku W st r then some (.normal,{ st with reg:=[] })
 else if h:∃ q,∀ r∈rs,ku W st r∨J8 W st q r then some h.choose
 else none
mutual
noncomputable def ev (P:xp):Nat→AC→St→Option (zp×St)
 |0,_,_=>none
 |n+1,c,st=>match c with
  |.skip=>some (.normal,st)
  |.region _ ops=>match vH P.glob ⟨Zm P n,Zn P n⟩ ops { st with reg:=[] } with
   |some st'=>some (.normal,{ st' with reg:=[] })
   |none=>none
  |.seq a b=>match ev P n a st with
   |some (.normal,st')=>ev P n b st'
   |r=>r
  |.cond gone c a b=>match c.get P.glob st with
   |.bool t=>match t with
    |true=>ev P n a (jn gone c st)
    |false=>ev P n b (jn gone c st)
   |_=>none
  |.block id b=>match ev P n b st with
   |some (.exit id',st')=>match Nat.beq id' id with|true=>some (.normal,st')|false=>some (.exit id',st')
   |r=>r
  |.loop b=>match ev P n b st with
   |some (.normal,st')=>ev P n (.loop b) (st.next st')
   |r=>r
  |.exit id=>some (.exit id,st)
  |.ret=>some (.ret,st)
  |.mrange x W pk body=>match U6 st.H (x.get P.glob st) with
   |some es=>jN W st (es.map fun e=>ev P n body (wX pk st e))
   |none=>none
noncomputable def Zm (P:xp):Nat→Nat→List PV→Option PV
 |0,_,_=>none
 |n+1,f,args=>match P.fn f with
  |none=>none
  |some F=>match F.np==args.length with
   |true=>Xc F (ev P n F.code { per:=params 0 args,reg:=[],H:=[],ed:=[] })
   |false=>none
noncomputable def Zn (P:xp):Nat→Nat→List PV→zd→Option (PV×zd×zV)
 |0,_,_,_=>none
 |n+1,f,args,H=>match P.fn f with
  |none=>none
  |some F=>match F.np==args.length with
   |true=>j5 H.length F (ev P n F.code { per:=params 0 args,reg:=[],H:=H,ed:=[] })
   |false=>none
end
end
section
def Cl.le (C D:Cl):Prop:=(∀ f a v,C.p f a=some v→D.p f a=some v)∧(∀ f a H v,C.s f a H=some v→D.s f a H=some v)
theorem zgs {C D:Cl} (h:C.le D) {H:zd} {m:Kt} {f:Nat} {args:List PV} {r:PV×zd×zV} (e:xJ C H m f args=some r):xJ D H m f args=some r:=by
 cases m with
 |pure=>
  unfold xJ at *
  cases hc:C.p f (args.map (frz 8 H)) with
  |none=>simp [hc] at e
  |some v=>simp only [hc] at e;simp only [h.1 _ _ _ hc];exact e
 |shared=>exact h.2 _ _ _ _ e
 |lend=>
  unfold xJ at *
  cases hc:C.s f (args.map (frz 8 H)) [] with
  |none=>simp [hc] at e
  |some v=>simp only [hc] at e;simp only [h.2 _ _ _ _ hc];exact e
 |fresh=>
  unfold xJ at *
  cases hc:C.s f (args.map (frz 8 H)) [] with
  |none=>simp [hc] at e
  |some v=>simp only [hc] at e;simp only [h.2 _ _ _ _ hc];exact e
theorem Zl (G:Nat→Option (List PV)) (C:Cl) (st:St) (m:Kt) (x:zx) (args:List zx):zq G C st (.callv m x args)=match x.get G st with
  |.fn f caps=>xJ C st.H m f (args.map (zx.get G st)++caps)
  |_=>none:=rfl
theorem zrD {G:Nat→Option (List PV)} {C D:Cl} (h:C.le D) {st:St} {op:uD} {r:PV×zd×zV} (e:zq G C st op=some r):zq G D st op=some r:=by
 cases op with
 |call m f args=>exact zgs h e
 |callv m x args=>
  rw [Zl] at e ⊢
  split at e
  ·exact zgs h e
  ·cases e
 |_=>exact e
theorem ZE {G:Nat→Option (List PV)} {C:Cl} {st:St} {o:zC} {r:PV×zd×zV}:vu G C st o=some r↔zq G C st o.op=some r∧YB G st o=true∧(o.still=true→refs r.1=[]):=by
 have gen:(match YB G st o with
   |true=>(match zq G C st o.op with
    |some r=>(match !o.still||(refs r.1).isEmpty with|true=>some r|false=>none)
    |none=>none)
   |false=>none)=some r↔zq G C st o.op=some r∧YB G st o=true∧(o.still=true→refs r.1=[]):=by
  cases hok:YB G st o with
  |false=>simp
  |true=>
   cases he:zq G C st o.op with
   |none=>simp
   |some r'=>
    simp only [true_and]
    constructor
    ·intro h
     split at h
     ·rename_i h3
      injection h with h;subst h
      exact ⟨rfl,fun e=>by simpa [e] using h3⟩
     ·cases h
    ·rintro ⟨h3,h4⟩
     injection h3 with h3;subst h3
     split
     ·rfl
     ·rename_i h5
      simp only [Bool.or_eq_false_iff,Bool.not_eq_false'] at h5
      rw [h4 h5.1] at h5
      simp at h5
 obtain ⟨dst,op,guard,still,clear⟩:=o
 cases still
 ·cases clear with
  |nil=>simp [vu,YB]
  |cons c cs=>exact gen
 ·exact gen
theorem zgt {G:Nat→Option (List PV)} {C D:Cl} (h:C.le D) {st:St} {o:zC} {r:PV×zd×zV} (e:vu G C st o=some r):vu G D st o=some r:=by
 rw [ZE] at *
 exact ⟨zrD h e.1,e.2⟩
theorem Yy {G:Nat→Option (List PV)} {C D:Cl} (h:C.le D):∀ {ops:List zC} {st:St} {r:St},vH G C ops st=some r→vH G D ops st=some r
 |[],_,_,e=>e
 |o::os,st,r,e=>by
  simp only [vH] at e ⊢
  split at e
  ·rename_i hw
   split at e
   ·rename_i v H ed ho
    simp only [zgt h ho]
    exact Yy h e
   ·cases e
  ·exact Yy h e
  ·cases e
section
variable (P:xp) (n:Nat) (st:St)
theorem zwe:ev P (n+1) .skip st=some (.normal,st):=rfl
theorem XP (d:Bool) (ops:List zC):ev P (n+1) (.region d ops) st=match vH P.glob ⟨Zm P n,Zn P n⟩ ops { st with reg:=[] } with|some st'=>some (.normal,{ st' with reg:=[] })|none=>none:=rfl
theorem Qz (a b:AC):ev P (n+1) (.seq a b) st=match ev P n a st with|some (.normal,st')=>ev P n b st'|r=>r:=rfl
theorem zb4 (gone:Bool) (c:zx) (a b:AC):ev P (n+1) (.cond gone c a b) st=match c.get P.glob st with|.bool t=>(match t with|true=>ev P n a (jn gone c st)|false=>ev P n b (jn gone c st))|_=>none:=rfl
theorem Qy (id:Nat) (b:AC):ev P (n+1) (.block id b) st=match ev P n b st with|some (.exit id',st')=>(match Nat.beq id' id with|true=>some (.normal,st')|false=>some (.exit id',st'))|r=>r:=rfl
theorem zb5 (b:AC):ev P (n+1) (.loop b) st=match ev P n b st with|some (.normal,st')=>ev P n (.loop b) (st.next st')|r=>r:=rfl
theorem zaq (x:zx) (W:List Nat) (pk:Nat) (b:AC):ev P (n+1) (.mrange x W pk b) st=match U6 st.H (x.get P.glob st) with|some es=>jN W st (es.map fun e=>ev P n b (wX pk st e))|none=>none:=rfl
theorem Qw (f:Nat) (args:List PV):Zm P (n+1) f args=match P.fn f with|none=>none|some F=>(match F.np==args.length with|true=>Xc F (ev P n F.code { per:=params 0 args,reg:=[],H:=[],ed:=[] })|false=>none):=rfl
theorem Qx (f:Nat) (args:List PV) (H:zd):Zn P (n+1) f args H=match P.fn f with|none=>none|some F=>(match F.np==args.length with|true=>j5 H.length F (ev P n F.code { per:=params 0 args,reg:=[],H:=H,ed:=[] })|false=>none):=rfl
end
theorem Vy {W:List Nat} {st:St} {rs:List (Option (zp×St))} {q:zp×St} (h:jN W st rs=some q):∀ r∈rs,∃ x,r=some x:=by
 have k1:∀ r,ku W st r→∃ x,r=some x:=fun r hr=>by cases r with|none=>exact hr.elim|some x=>exact ⟨x,rfl⟩
 have k2:∀ q r,J8 W st q r→∃ x,r=some x:=fun q r hr=>by cases r with|none=>exact hr.elim|some x=>exact ⟨x,rfl⟩
 unfold jN at h
 split at h
 ·rename_i h1;exact fun r hr=>k1 r (h1 r hr)
 ·split at h
  ·rename_i h2;exact fun r hr=>(h2.choose_spec r hr).elim (k1 r) (k2 _ r)
  ·cases h
theorem zk4 {W:List Nat} {st:St} {rs:List (Option (zp×St))} {q:zp×St} (h:jN W st rs=some q):((∀ r∈rs,ku W st r)∧q=(.normal,{ st with reg:=[] }))∨((¬∀ r∈rs,ku W st r)∧∀ r∈rs,ku W st r∨J8 W st q r):=by
 unfold jN at h
 split at h
 ·rename_i h1;injection h with h;exact .inl ⟨h1,h.symm⟩
 ·rename_i h1
  split at h
  ·rename_i h2;injection h with h;subst h;exact .inr ⟨h1,h2.choose_spec⟩
  ·cases h
theorem zmz {W:List Nat} {st:St} {rs:List (Option (zp×St))} (h:∀ r∈rs,ku W st r):jN W st rs=some (.normal,{ st with reg:=[] }):=by
 unfold jN;rw [if_pos h]
theorem zmA {W:List Nat} {st:St} {rs:List (Option (zp×St))} {q:zp×St} {r0:Option (zp×St)} (h0:r0∈rs) (h1:J8 W st q r0) (h:∀ r∈rs,ku W st r∨J8 W st q r):jN W st rs=some q:=by
 have hn:¬ku W st r0:=fun hp=>by
  match r0,h1,hp with
  |some (.ret,_),_,hp=>exact hp.elim
 have hx:∃ q,∀ r∈rs,ku W st r∨J8 W st q r:=⟨q,h⟩
 unfold jN
 rw [if_neg fun ha=>hn (ha r0 h0),dif_pos hx]
 have h2:=(hx.choose_spec r0 h0).resolve_left hn
 generalize hx.choose=q' at h2
 match r0,h1,h2 with
 |some (.ret,_),h1,h2=>rw [show q'=q from h2.trans h1.symm]
theorem zmt {α β:Type} {f g:α→Option β} {l:List α} (h:∀ a b,f a=some b→g a=some b) (hs:∀ r∈l.map f,∃ x,r=some x):l.map g=l.map f:=
 List.map_congr_left fun a ha=>by
  obtain ⟨x,hx⟩:=hs (f a) (List.mem_map.2 ⟨a,ha,rfl⟩)
  rw [hx];exact h a x hx
theorem Vg (P:xp):∀ n,(∀ c st r,ev P n c st=some r→ev P (n+1) c st=some r)∧(∀ f a v,Zm P n f a=some v→Zm P (n+1) f a=some v)∧
  (∀ f a H v,Zn P n f a H=some v→Zn P (n+1) f a H=some v):=by
 intro n
 induction n with
 |zero=>exact ⟨fun _ _ _ h=>by simp [ev] at h,fun _ _ _ h=>by simp [Zm] at h,fun _ _ _ _ h=>by simp [Zn] at h⟩
 |succ n ih=>
  obtain ⟨i1,i2,i3⟩:=ih
  refine ⟨?_,?_,?_⟩
  ·intro c st r h
   cases c with
   |skip=>exact h
   |region d ops=>
    rw [XP] at h ⊢
    split at h
    ·rename_i st' hs
     simp only [Yy (D:=⟨Zm P (n+1),Zn P (n+1)⟩) ⟨i2,i3⟩ hs]
     exact h
    ·cases h
   |seq a b=>
    rw [Qz] at h ⊢
    cases ha:ev P n a st with
    |none=>simp [ha] at h
    |some x=>
     obtain ⟨e,st'⟩:=x
     rw [i1 _ _ _ ha]
     simp only [ha] at h
     cases e with
     |normal=>exact i1 _ _ _ h
     |_=>exact h
   |cond g x a b=>
    rw [zb4] at h ⊢
    split at h
    ·rename_i t ht
     cases t with
     |true=>exact i1 _ _ _ h
     |false=>exact i1 _ _ _ h
    ·cases h
   |block id b=>
    rw [Qy] at h ⊢
    cases hb:ev P n b st with
    |none=>simp [hb] at h
    |some x=>
     obtain ⟨e,st'⟩:=x
     rw [i1 _ _ _ hb]
     simp only [hb] at h
     exact h
   |loop b=>
    rw [zb5] at h ⊢
    cases hb:ev P n b st with
    |none=>simp [hb] at h
    |some x=>
     obtain ⟨e,st'⟩:=x
     rw [i1 _ _ _ hb]
     simp only [hb] at h
     cases e with
     |normal=>exact i1 _ _ _ h
     |_=>exact h
   |exit id=>exact h
   |ret=>exact h
   |mrange x W pk b=>
    rw [zaq] at h ⊢
    split at h
    ·rename_i es he
     rw [zmt (fun e r hr=>i1 _ _ _ hr) (Vy h)]
     exact h
    ·cases h
  ·intro f a v h
   rw [Qw] at h ⊢
   cases hf:P.fn f with
   |none=>simp [hf] at h
   |some F=>
    simp only [hf] at h ⊢
    split at h
    ·rename_i hn
     cases hb:ev P n F.code { per:=params 0 a,reg:=[],H:=[],ed:=[] } with
     |none=>simp [hb,Xc] at h
     |some x=>rw [i1 _ _ _ hb];rw [hb] at h;exact h
    ·cases h
  ·intro f a H v h
   rw [Qx] at h ⊢
   cases hf:P.fn f with
   |none=>simp [hf] at h
   |some F=>
    simp only [hf] at h ⊢
    split at h
    ·rename_i hn
     cases hb:ev P n F.code { per:=params 0 a,reg:=[],H:=H,ed:=[] } with
     |none=>simp [hb,j5] at h
     |some x=>rw [i1 _ _ _ hb];rw [hb] at h;exact h
    ·cases h
theorem Kc {α:Type} {f:Nat→Option α} (h:∀ n r,f n=some r→f (n+1)=some r) {n m:Nat} (hnm:n≤m) {r:α} (e:f n=some r):f m=some r:=by
 induction hnm with
 |refl=>exact e
 |step _ ih=>exact h _ _ ih
open Classical in
noncomputable def lim {α:Type} (f:Nat→Option α):Option α:=if h:∃ n r,f n=some r then f h.choose else none
theorem zjL {α:Type} {f:Nat→Option α} (h:∀ n r,f n=some r→f (n+1)=some r) (r:α):lim f=some r↔∃ n,f n=some r:=by
 unfold lim
 constructor
 ·intro e
  split at e
  ·exact ⟨_,e⟩
  ·cases e
 ·rintro ⟨n,hn⟩
  have hx:∃ n r,f n=some r:=⟨n,r,hn⟩
  rw [dif_pos hx]
  obtain ⟨r',hr'⟩:=hx.choose_spec
  rw [hr']
  have h1:=Kc h (Nat.le_max_left n hx.choose) hn
  have h2:=Kc h (Nat.le_max_right n hx.choose) hr'
  rw [h1] at h2
  exact h2.symm
noncomputable def EV (P:xp) (c:AC) (st:St):Option (zp×St):=lim fun n=>ev P n c st
noncomputable def EP (P:xp) (f:Nat) (args:List PV):Option PV:=lim fun n=>Zm P n f args
noncomputable def ES (P:xp) (f:Nat) (args:List PV) (H:zd):Option (PV×zd×zV):=lim fun n=>Zn P n f args H
noncomputable def CL (P:xp):Cl:=⟨EP P,ES P⟩
section
variable {P:xp}
theorem zvm {n:Nat} {c:AC} {st:St} (r:zp×St) (h:ev P n c st=some r):ev P (n+1) c st=some r:=(Vg P n).1 _ _ _ h
theorem xQ (c:AC) (st:St) (r:zp×St):EV P c st=some r↔∃ n,ev P n c st=some r:=zjL (f:=fun n=>ev P n c st) (fun _ r h=>zvm r h) r
theorem zeP (f:Nat) (a:List PV) (r:PV):EP P f a=some r↔∃ n,Zm P n f a=some r:=zjL (f:=fun n=>Zm P n f a) (fun n r h=>(Vg P n).2.1 _ _ _ h) r
theorem zbt (f:Nat) (a:List PV) (H:zd) (r:PV×zd×zV):ES P f a H=some r↔∃ n,Zn P n f a H=some r:=zjL (f:=fun n=>Zn P n f a H) (fun n r h=>(Vg P n).2.2 _ _ _ _ h) r
theorem zap {n m:Nat} (h:n≤m) {c:AC} {st:St} {r:zp×St} (e:ev P n c st=some r):ev P m c st=some r:=Kc (f:=fun n=>ev P n c st) (fun _ r h=>zvm r h) h e
theorem ztg (n:Nat):Cl.le ⟨Zm P n,Zn P n⟩ (CL P):=⟨fun _ _ _ h=>(zeP _ _ _).2 ⟨n,h⟩,fun _ _ _ _ h=>(zbt _ _ _ _).2 ⟨n,h⟩⟩
theorem zlj {n m:Nat} (h:n≤m):Cl.le ⟨Zm P n,Zn P n⟩ ⟨Zm P m,Zn P m⟩:=
 ⟨fun f a v e=>Kc (f:=fun n=>Zm P n f a) (fun n r h=>(Vg P n).2.1 _ _ _ h) h e,fun f a H v e=>Kc (f:=fun n=>Zn P n f a H) (fun n r h=>(Vg P n).2.2 _ _ _ _ h) h e⟩
theorem zgr {H:zd} {m:Kt} {f:Nat} {args:List PV} {r:PV×zd×zV} (e:xJ (CL P) H m f args=some r):∃ n,xJ ⟨Zm P n,Zn P n⟩ H m f args=some r:=by
 cases m with
 |pure=>
  unfold xJ at *
  cases hc:(CL P).p f (args.map (frz 8 H)) with
  |none=>simp [hc] at e
  |some v=>
   obtain ⟨n,hn⟩:=(zeP _ _ _).1 hc
   refine ⟨n,?_⟩
   simp only [hc] at e
   simp only [hn]
   exact e
 |shared=>exact (zbt _ _ _ _).1 e
 |lend=>
  unfold xJ at *
  cases hc:(CL P).s f (args.map (frz 8 H)) [] with
  |none=>simp [hc] at e
  |some v=>
   obtain ⟨n,hn⟩:=(zbt _ _ _ _).1 hc
   refine ⟨n,?_⟩
   simp only [hc] at e
   simp only [hn]
   exact e
 |fresh=>
  unfold xJ at *
  cases hc:(CL P).s f (args.map (frz 8 H)) [] with
  |none=>simp [hc] at e
  |some v=>
   obtain ⟨n,hn⟩:=(zbt _ _ _ _).1 hc
   refine ⟨n,?_⟩
   simp only [hc] at e
   simp only [hn]
   exact e
theorem zrC {G:Nat→Option (List PV)} {st:St} {op:uD} {r:PV×zd×zV} (e:zq G (CL P) st op=some r):∃ n,zq G ⟨Zm P n,Zn P n⟩ st op=some r:=by
 cases op with
 |call m f args=>exact zgr e
 |callv m x args=>
  rw [Zl] at e
  simp only [Zl]
  split at e
  ·exact zgr e
  ·cases e
 |_=>exact ⟨0,e⟩
theorem znQ {G:Nat→Option (List PV)} {st:St} {o:zC} {r:PV×zd×zV} (e:vu G (CL P) st o=some r):∃ n,vu G ⟨Zm P n,Zn P n⟩ st o=some r:=by
 rw [ZE] at e
 obtain ⟨n,hn⟩:=zrC e.1
 exact ⟨n,ZE.2 ⟨hn,e.2⟩⟩
theorem zdu {G:Nat→Option (List PV)}:∀ {ops:List zC} {st:St} {r:St},vH G (CL P) ops st=some r→∃ n,vH G ⟨Zm P n,Zn P n⟩ ops st=some r
 |[],_,_,e=>⟨0,e⟩
 |o::os,st,r,e=>by
  simp only [vH] at e ⊢
  split at e
  ·rename_i hw
   split at e
   ·rename_i v H ed ho
    obtain ⟨n,hn⟩:=znQ ho
    obtain ⟨m,hm⟩:=zdu e
    refine ⟨max n m,?_⟩
    simp only [zgt (zlj (Nat.le_max_left n m)) hn]
    exact Yy (zlj (Nat.le_max_right n m)) hm
   ·cases e
  ·exact zdu e
  ·cases e
theorem Uw {α:Type} {a b:Option α} (h1:∀ r,a=some r→b=some r) (h2:∀ r,b=some r→a=some r):a=b:=by
 cases a with
 |none=>cases b with
  |none=>rfl
  |some y=>exact h2 y rfl
 |some x=>exact (h1 x rfl).symm
theorem zvy (st:St):EV P .skip st=some (.normal,st):=(xQ _ _ _).2 ⟨1,rfl⟩
theorem zvx (id:Nat) (st:St):EV P (.exit id) st=some (.exit id,st):=(xQ _ _ _).2 ⟨1,rfl⟩
theorem zxm (st:St):EV P .ret st=some (.ret,st):=(xQ _ _ _).2 ⟨1,rfl⟩
theorem zqN (d:Bool) (ops:List zC) (st:St):EV P (.region d ops) st=match vH P.glob (CL P) ops { st with reg:=[] } with|some st'=>some (.normal,{ st' with reg:=[] })|none=>none:=by
 refine Uw (fun r h=>?_) (fun r h=>?_)
 ·obtain ⟨n,hn⟩:=(xQ _ _ _).1 h
  cases n with
  |zero=>simp [ev] at hn
  |succ n=>
   rw [XP] at hn
   split at hn
   ·rename_i st' hs
    rw [Yy (ztg n) hs]
    exact hn
   ·cases hn
 ·split at h
  ·rename_i st' hs
   obtain ⟨n,hn⟩:=zdu hs
   refine (xQ _ _ _).2 ⟨n+1,?_⟩
   rw [XP];simp only [hn]
   exact h
  ·cases h
theorem zxn (a b:AC) (st:St):EV P (.seq a b) st=match EV P a st with|some (.normal,st')=>EV P b st'|r=>r:=by
 refine Uw (fun r h=>?_) (fun r h=>?_)
 ·obtain ⟨n,hn⟩:=(xQ _ _ _).1 h
  cases n with
  |zero=>simp [ev] at hn
  |succ n=>
   rw [Qz] at hn
   cases ha:ev P n a st with
   |none=>simp [ha] at hn
   |some x=>
    obtain ⟨e,st'⟩:=x
    rw [(xQ _ _ _).2 ⟨n,ha⟩]
    simp only [ha] at hn
    cases e with
    |normal=>exact (xQ _ _ _).2 ⟨n,hn⟩
    |_=>exact hn
 ·cases ha:EV P a st with
  |none=>simp [ha] at h
  |some x=>
   obtain ⟨e,st'⟩:=x
   obtain ⟨n,hn⟩:=(xQ _ _ _).1 ha
   simp only [ha] at h
   cases e with
   |normal=>
    obtain ⟨m,hm⟩:=(xQ _ _ _).1 h
    refine (xQ _ _ _).2 ⟨max n m+1,?_⟩
    rw [Qz];simp only [zap (Nat.le_max_left n m) hn]
    exact zap (Nat.le_max_right n m) hm
   |_=>
    refine (xQ _ _ _).2 ⟨n+1,?_⟩
    rw [Qz];simp only [hn]
    exact h
theorem zvw (gone:Bool) (c:zx) (a b:AC) (st:St):EV P (.cond gone c a b) st=match c.get P.glob st with|.bool t=>(match t with|true=>EV P a (jn gone c st)|false=>EV P b (jn gone c st))|_=>none:=by
 refine Uw (fun r h=>?_) (fun r h=>?_)
 ·obtain ⟨n,hn⟩:=(xQ _ _ _).1 h
  cases n with
  |zero=>simp [ev] at hn
  |succ n=>
   rw [zb4] at hn
   split at hn
   ·rename_i t ht
    cases t with
    |true=>exact (xQ _ _ _).2 ⟨n,hn⟩
    |false=>exact (xQ _ _ _).2 ⟨n,hn⟩
   ·cases hn
 ·split at h
  ·rename_i t ht
   cases t with
   |true=>
    obtain ⟨n,hn⟩:=(xQ _ _ _).1 h
    refine (xQ _ _ _).2 ⟨n+1,?_⟩
    rw [zb4];simp only [ht]
    exact hn
   |false=>
    obtain ⟨n,hn⟩:=(xQ _ _ _).1 h
    refine (xQ _ _ _).2 ⟨n+1,?_⟩
    rw [zb4];simp only [ht]
    exact hn
  ·cases h
theorem zsT (id:Nat) (b:AC) (st:St):EV P (.block id b) st=match EV P b st with|some (.exit id',st')=>(match Nat.beq id' id with|true=>some (.normal,st')|false=>some (.exit id',st'))|r=>r:=by
 refine Uw (fun r h=>?_) (fun r h=>?_)
 ·obtain ⟨n,hn⟩:=(xQ _ _ _).1 h
  cases n with
  |zero=>simp [ev] at hn
  |succ n=>
   rw [Qy] at hn
   cases ha:ev P n b st with
   |none=>simp [ha] at hn
   |some x=>
    rw [(xQ _ _ _).2 ⟨n,ha⟩]
    simp only [ha] at hn
    exact hn
 ·cases ha:EV P b st with
  |none=>simp [ha] at h
  |some x=>
   obtain ⟨n,hn⟩:=(xQ _ _ _).1 ha
   simp only [ha] at h
   refine (xQ _ _ _).2 ⟨n+1,?_⟩
   rw [Qy];simp only [hn]
   exact h
theorem zqM (x:zx) (W:List Nat) (pk:Nat) (b:AC) (st:St):EV P (.mrange x W pk b) st=match U6 st.H (x.get P.glob st) with|some es=>jN W st (es.map fun e=>EV P b (wX pk st e))|none=>none:=by
 have lift:∀ (es:List (PV×PV)),(∀ r∈es.map (fun e=>EV P b (wX pk st e)),∃ x,r=some x)→∃ n,es.map (fun e=>ev P n b (wX pk st e))=es.map (fun e=>EV P b (wX pk st e)):=by
  intro es
  induction es with
  |nil=>exact fun _=>⟨0,rfl⟩
  |cons e es ih=>
   intro h
   obtain ⟨n,hn⟩:=ih fun r hr=>h r (List.mem_cons_of_mem _ hr)
   obtain ⟨q,hq⟩:=h (EV P b (wX pk st e)) (by simp)
   obtain ⟨m,hm⟩:=(xQ _ _ _).1 hq
   refine ⟨max n m,?_⟩
   rw [List.map_cons,List.map_cons,hq,zap (Nat.le_max_right n m) hm]
   congr 1
   have hs:∀ r∈es.map (fun e=>ev P n b (wX pk st e)),∃ x,r=some x:=fun r hr=>by
    rw [hn] at hr
    exact h r (List.mem_cons_of_mem _ hr)
   rw [←hn]
   exact zmt (fun e r hr=>zap (Nat.le_max_left n m) hr) hs
 refine Uw (fun r h=>?_) (fun r h=>?_)
 ·obtain ⟨n,hn⟩:=(xQ _ _ _).1 h
  cases n with
  |zero=>simp [ev] at hn
  |succ n=>
   rw [zaq] at hn
   split at hn
   ·rename_i es he
    try simp only [he]
    rw [zmt (fun e r hr=>(xQ _ _ _).2 ⟨n,hr⟩) (Vy hn)]
    exact hn
   ·cases hn
 ·split at h
  ·rename_i es he
   obtain ⟨n,hn⟩:=lift es (Vy h)
   refine (xQ _ _ _).2 ⟨n+1,?_⟩
   rw [zaq]
   simp only [he]
   rw [hn];exact h
  ·cases h
theorem Wa (b:AC) (st:St):EV P (.loop b) st=match EV P b st with|some (.normal,st')=>EV P (.loop b) (st.next st')|r=>r:=by
 refine Uw (fun r h=>?_) (fun r h=>?_)
 ·obtain ⟨n,hn⟩:=(xQ _ _ _).1 h
  cases n with
  |zero=>simp [ev] at hn
  |succ n=>
   rw [zb5] at hn
   cases ha:ev P n b st with
   |none=>simp [ha] at hn
   |some x=>
    obtain ⟨e,st'⟩:=x
    rw [(xQ _ _ _).2 ⟨n,ha⟩]
    simp only [ha] at hn
    cases e with
    |normal=>exact (xQ _ _ _).2 ⟨n,hn⟩
    |_=>exact hn
 ·cases ha:EV P b st with
  |none=>simp [ha] at h
  |some x=>
   obtain ⟨e,st'⟩:=x
   obtain ⟨n,hn⟩:=(xQ _ _ _).1 ha
   simp only [ha] at h
   cases e with
   |normal=>
    obtain ⟨m,hm⟩:=(xQ _ _ _).1 h
    refine (xQ _ _ _).2 ⟨max n m+1,?_⟩
    rw [zb5];simp only [zap (Nat.le_max_left n m) hn]
    exact zap (Nat.le_max_right n m) hm
   |_=>
    refine (xQ _ _ _).2 ⟨n+1,?_⟩
    rw [zb5];simp only [hn]
    exact h
theorem zyU {f:Nat} {args:List PV} {F:zJ} (hf:P.fn f=some F) (hn:F.np=args.length):EP P f args=Xc F (EV P F.code { per:=params 0 args,reg:=[],H:=[],ed:=[] }):=by
 refine Uw (fun r h=>?_) (fun r h=>?_)
 ·obtain ⟨n,hn'⟩:=(zeP _ _ _).1 h
  cases n with
  |zero=>simp [Zm] at hn'
  |succ n=>
   rw [Qw] at hn';simp only [hf,hn,beq_self_eq_true] at hn'
   cases hb:ev P n F.code { per:=params 0 args,reg:=[],H:=[],ed:=[] } with
   |none=>simp [hb,Xc] at hn'
   |some x=>rw [(xQ _ _ _).2 ⟨n,hb⟩];rw [hb] at hn';exact hn'
 ·cases hb:EV P F.code { per:=params 0 args,reg:=[],H:=[],ed:=[] } with
  |none=>simp [hb,Xc] at h
  |some x=>
   obtain ⟨n,hn'⟩:=(xQ _ _ _).1 hb
   refine (zeP _ _ _).2 ⟨n+1,?_⟩
   rw [Qw];simp only [hf,hn,beq_self_eq_true,hn']
   rw [hb] at h
   exact h
theorem zyV {f:Nat} {args:List PV} {H:zd} {F:zJ} (hf:P.fn f=some F) (hn:F.np=args.length):ES P f args H=j5 H.length F (EV P F.code { per:=params 0 args,reg:=[],H:=H,ed:=[] }):=by
 refine Uw (fun r h=>?_) (fun r h=>?_)
 ·obtain ⟨n,hn'⟩:=(zbt _ _ _ _).1 h
  cases n with
  |zero=>simp [Zn] at hn'
  |succ n=>
   rw [Qx] at hn';simp only [hf,hn,beq_self_eq_true] at hn'
   cases hb:ev P n F.code { per:=params 0 args,reg:=[],H:=H,ed:=[] } with
   |none=>simp [hb,j5] at hn'
   |some x=>rw [(xQ _ _ _).2 ⟨n,hb⟩];rw [hb] at hn';exact hn'
 ·cases hb:EV P F.code { per:=params 0 args,reg:=[],H:=H,ed:=[] } with
  |none=>simp [hb,j5] at h
  |some x=>
   obtain ⟨n,hn'⟩:=(xQ _ _ _).1 hb
   refine (zbt _ _ _ _).2 ⟨n+1,?_⟩
   rw [Qx];simp only [hf,hn,beq_self_eq_true,hn']
   rw [hb] at h
   exact h
end
end
theorem K9 {w w':World} (a:Addr) (h:w'.heap[a.block]?=w.heap[a.block]?):w'.frozen? a=w.frozen? a:=by simp only [World.frozen?,h]
theorem zjE (w:World) (g:Nat) (cs:Array Value) (a:Addr):(w.setRow g cs).frozen? a=w.frozen? a:=by
 simp only [World.frozen?,World.setRow,Array.getElem?_modify]
 by_cases h:g=a.block
 ·subst h
  rw [if_pos rfl]
  cases hh:w.heap[a.block]? with
  |none=>rfl
  |some o=>cases o<;>rfl
 ·rw [if_neg h]
theorem zjD (w:World) (g:Nat) (es:Array MapEntry) (clock:Nat) {es0:Array MapEntry} {c0:Nat} (hg:w.heap[g]?=some (.map es0 c0)) (a:Addr):({ w with heap:=w.heap.setIfInBounds g (.map es clock) }:World).frozen? a=w.frozen? a:=by
 by_cases h:g=a.block
 ·subst h
  have hlt:=(Array.getElem?_eq_some_iff.1 hg).1
  simp [World.frozen?,hlt,hg]
  have:=(Array.getElem?_eq_some_iff.1 hg).2
  simp [this]
 ·exact K9 a (Array.getElem?_setIfInBounds_ne h)
theorem zgf (w:World) (es:Array MapEntry) (clock:Nat) (a:Addr):(w.alloc (.map es clock)).frozen? a=w.frozen? a:=by
 by_cases h:a.block=w.heap.size
 ·have e1:(w.alloc (.map es clock)).heap[a.block]?=some (.map es clock):=by show (w.heap.push _)[_]?=_;rw [h];simp
  have e2:w.heap[a.block]?=none:=by rw [h];simp
  simp [World.frozen?,e1,e2]
 ·exact K9 a (by show (w.heap.push _)[_]?=_;simp [Array.getElem?_push,h])
inductive Loc where
 |unk
 |virt
 |at_ (blk off cap sz:Nat)
abbrev zR:=Nat→Loc
def zr (H:zd) (id:Nat):Nat:=match H[id]? with|some (.cells _ rows)=>rows.length|_=>0
inductive RelF (w:World) (F:Nat→Prop):PV→Value→Prop
 |unk (v:Value):RelF w F .unk v
 |und:RelF w F .und undef
 |int (k:IntKind) (n:Int):RelF w F (.int k n) (.int k n)
 |bool (b:Bool):RelF w F (.bool b) (.bool b)
 |str (s:ByteArray):RelF w F (.str s) (.string s)
 |flt (k:FloatKind) (n:Nat):RelF w F (.flt k n) (.float k n)
 |nils:RelF w F .nils (.slice none 0 0)
 |nilp:RelF w F .nilp (.pointer none)
 |nilf:RelF w F .nilf .nilFunc
 |nilm:RelF w F .nilm (.map none)
 |agg (cs:List PV) (vs:List Value) (hl:vs.length=cs.length) (h1:∀ v∈vs,v.oneCell'=true) (h:∀ (i:Nat) (p:PV) (v:Value),cs[i]?=some p→vs[i]?=some v→RelF w F p v):RelF w F (.agg cs) (.agg vs.toArray)
 |tup (cs:List PV) (vs:List Value) (hl:vs.length=cs.length) (h:∀ (i:Nat) (p:PV) (v:Value),cs[i]?=some p→vs[i]?=some v→RelF w F p v):RelF w F (.tup cs) (.tuple vs.toArray)
 |fzNil (b:Option Addr) (c:Nat):RelF w F (.fz []) (.slice b 0 c)
 |fz (rows:List (List PV)) (blk off s cap:Nat) (f:Nat→Nat→Value) (hF:F blk) (hs:∀ (i:Nat) (r:List PV),rows[i]?=some r→r.length=s) (hc:rows.length≤cap)
   (h1:∀ (i:Nat) (r:List PV) (j:Nat) (p:PV),rows[i]?=some r→r[j]?=some p→(f i j).oneCell'=true) (hw:∀ (i:Nat) (r:List PV) (j:Nat) (p:PV),rows[i]?=some r→r[j]?=some p→w.cell? ⟨blk,off+i*s+j,none⟩=some (f i j))
   (h:∀ (i:Nat) (r:List PV) (j:Nat) (p:PV),rows[i]?=some r→r[j]?=some p→RelF w F p (f i j)):RelF w F (.fz rows) (.slice (some ⟨blk,off,none⟩) rows.length cap)
 |fp (cs:List PV) (blk o off:Nat) (f:Nat→Value) (hF:F blk) (h1:∀ (j:Nat) (p:PV),cs[j]?=some p→(f j).oneCell'=true) (hw:∀ (j:Nat) (p:PV),cs[j]?=some p→w.cell? ⟨blk,o+j,none⟩=some (f j))
   (h:∀ (j:Nat) (p:PV),cs[j]?=some p→RelF w F p (f j)):RelF w F (.fp cs off) (.pointer (some ⟨blk,o+off,none⟩))
 |fn (f:Nat) (cs:List PV) (vs:List Value) (hl:vs.length=cs.length) (h:∀ (i:Nat) (p:PV) (v:Value),cs[i]?=some p→vs[i]?=some v→RelF w F p v):RelF w F (.fn f cs) (.func (.func f) #[] vs.toArray)
 |fm (es es':List (PV×PV)) (r:Nat) (xs:List MapEntry) (clock:Nat) (hK:∀ (tag:Nat) (k:PV) (q:Option PV),findKey tag k es=some q→findKey tag k es'=some q) (hF:F r) (hw:w.heap[r]?=some (.map xs.toArray clock)) (hl:xs.length=es'.length)
   (hk:∀ (i:Nat) (e:PV×PV) (x:MapEntry),es'[i]?=some e→xs[i]?=some x→RelF w F e.1 x.key) (hv:∀ (i:Nat) (e:PV×PV) (x:MapEntry),es'[i]?=some e→xs[i]?=some x→RelF w F e.2 x.val):RelF w F (.fm es) (.map (some r))
inductive zn (w:World) (F:Nat→Prop) (m:zR) (L:Nat→Nat):PV→Value→Prop
 |froz (p:PV) (v:Value) (h:RelF w F p v):zn w F m L p v
 |agg (cs:List PV) (vs:List Value) (hl:vs.length=cs.length) (h1:∀ v∈vs,v.oneCell'=true) (h:∀ (i:Nat) (p:PV) (v:Value),cs[i]?=some p→vs[i]?=some v→zn w F m L p v):zn w F m L (.agg cs) (.agg vs.toArray)
 |tup (cs:List PV) (vs:List Value) (hl:vs.length=cs.length) (h:∀ (i:Nat) (p:PV) (v:Value),cs[i]?=some p→vs[i]?=some v→zn w F m L p v):zn w F m L (.tup cs) (.tuple vs.toArray)
 |fn (f:Nat) (cs:List PV) (vs:List Value) (hl:vs.length=cs.length) (h:∀ (i:Nat) (p:PV) (v:Value),cs[i]?=some p→vs[i]?=some v→zn w F m L p v):zn w F m L (.fn f cs) (.func (.func f) #[] vs.toArray)
 |sl (id off len tot blk o cap s:Nat) (b:Addr) (hm:m id=.at_ blk o cap s) (hL:L id=tot) (ht:off+len≤tot) (hc:tot≤cap) (hb:cap=off∨b=⟨blk,o+off*s,none⟩):
   zn w F m L (.sl id off len tot) (.slice (some b) len (cap-off))
 |slVirt (id:Nat) (hm:m id=.virt) (hL:L id=0):zn w F m L (.sl id 0 0 0) (.slice none 0 0)
 |slOld (id off len tot:Nat) (b:Option Addr) (c:Nat) (hm:m id≠.unk) (hL:tot<L id) (hc:len≤c):zn w F m L (.sl id off len tot) (.slice b len c)
 |ptr (id row off tot blk o cap s:Nat) (hm:m id=.at_ blk o cap s) (hL:L id=tot):zn w F m L (.ptr id row off tot) (.pointer (some ⟨blk,o+row*s+off,none⟩))
 |ptrOld (id row off tot:Nat) (a:Addr) (hm:m id≠.unk) (hL:tot<L id):zn w F m L (.ptr id row off tot) (.pointer (some a))
 |mp (id blk:Nat) (hm:m id=.at_ blk 0 0 0) (hL:L id=0):zn w F m L (.mp id) (.map (some blk))
 |mpOld (id:Nat) (r:Option Nat) (hm:m id≠.unk) (hL:0<L id):zn w F m L (.mp id) (.map r)
structure uO (w:World) (R:PV→Value→Prop) (blk o cap s:Nat) (rows:List (List PV)):Prop where
 room:rows.length≤cap
 cur:∃ (cur:Array Value) (t:TypeId),w.heap[blk]?=some (.cells cur t (0,0))∧o+cap*s≤cur.size∧
  ∀ (i:Nat) (r:List PV) (j:Nat) (p:PV),rows[i]?=some r→r[j]?=some p→∃ v,cur[o+i*s+j]?=some v∧v.oneCell'=true∧R p v
 size:∀ (i:Nat) (r:List PV),rows[i]?=some r→r.length=s
structure zdf (w:World) (R:PV→Value→Prop) (blk:Nat) (es:List (PV×PV)):Prop where
 cur:∃ (xs:List MapEntry) (clock:Nat),w.heap[blk]?=some (.map xs.toArray clock)∧xs.length=es.length∧
  (∀ (i:Nat) (e:PV×PV) (x:MapEntry),es[i]?=some e→xs[i]?=some x→R e.1 x.key)∧(∀ (i:Nat) (e:PV×PV) (x:MapEntry),es[i]?=some e→xs[i]?=some x→R e.2 x.val)
 born:∀ (xs:Array MapEntry) (clock:Nat),w.heap[blk]?=some (.map xs clock)→(xs.toList.map (·.born)).Nodup∧∀ x∈xs.toList,x.born<clock
def zR.has (m:zR) (b:Nat):Prop:=∃ id o c s,m id=.at_ b o c s
structure yl (G:Nat→Option (List PV)) (w:World) (F:Nat→Prop) (m:zR) (H:zd):Prop where
 cells:∀ id s rows,H[id]?=some (.cells s rows)→m id=.unk∨(m id=.virt∧rows=[])∨∃ blk o cap,m id=.at_ blk o cap s∧uO w (zn w F m (zr H)) blk o cap s rows
 maps:∀ id es,H[id]?=some (.map es)→m id=.unk∨∃ blk,m id=.at_ blk 0 0 0∧zdf w (zn w F m (zr H)) blk es
 fresh:∀ id,H.length≤id→m id=.unk
 inj:∀ id id' b o c s o' c' s',m id=.at_ b o c s→m id'=.at_ b o' c' s'→id=id'
 lt:∀ b,m.has b→b<w.heap.size
 ltF:∀ b,F b→b<w.heap.size
 apart:∀ b,m.has b→¬ F b
 glob:∀ g cs,G g=some cs→RelF w F (.fp cs 0) (.pointer (some ⟨g,0,none⟩))
structure wo (w:World) (F:Nat→Prop) (m:zR) (H:zd) (w':World) (F':Nat→Prop) (m':zR) (H':zd):Prop where
 heap:w.heap.size≤w'.heap.size
 sub:∀ b,F b→F' b
 new:∀ b,F' b→F b∨w.heap.size≤b
 old:∀ b,b<w.heap.size→¬ m.has b→w'.heap[b]?=w.heap[b]?
 locs:∀ id,m id≠.unk→m' id≠.unk∧zr H id≤zr H' id∧(zr H' id=zr H id→m' id=m id)
 img:∀ b,m'.has b→m.has b∨w.heap.size≤b
 os:w'.os=w.os
 tape:w'.tape=w.tape
 output:w'.output=w.output
 froz:∀ a,w'.frozen? a=w.frozen? a
 len:H.length≤H'.length
 fresh:∀ id,m id=.unk→m' id≠.unk→H.length≤id
theorem RelF.mono {w w':World} {F F':Nat→Prop} (hh:∀ b,F b→w'.heap[b]?=w.heap[b]?) (hF:∀ b,F b→F' b) {p:PV} {v:Value} (h:RelF w F p v):RelF w' F' p v:=by
 have hcell:∀ b o,F b→w'.cell? ⟨b,o,none⟩=w.cell? ⟨b,o,none⟩:=fun b o hb=>by simp only [World.cell?,hh b hb]
 induction h with
 |unk v=>exact .unk v
 |und=>exact .und
 |int k n=>exact .int k n
 |bool b=>exact .bool b
 |str s=>exact .str s
 |flt k n=>exact .flt k n
 |nils=>exact .nils
 |nilp=>exact .nilp
 |nilf=>exact .nilf
 |nilm=>exact .nilm
 |agg cs vs hl h1 h ih=>exact .agg cs vs hl h1 ih
 |tup cs vs hl h ih=>exact .tup cs vs hl ih
 |fzNil b c=>exact .fzNil b c
 |fz rows blk off s cap f hb hs hc h1 hw h ih=>exact .fz rows blk off s cap f (hF _ hb) hs hc h1 (fun i r j p hi hj=>(hcell _ _ hb).trans (hw i r j p hi hj)) ih
 |fp cs blk o off f hb h1 hw h ih=>exact .fp cs blk o off f (hF _ hb) h1 (fun j p hj=>(hcell _ _ hb).trans (hw j p hj)) ih
 |fn f cs vs hl h ih=>exact .fn f cs vs hl ih
 |fm es es' r xs clock hK hb hw hl hk hv ik iv=>exact .fm es es' r xs clock hK (hF _ hb) ((hh _ hb).trans hw) hl ik iv
theorem zn.mono {w w':World} {F F':Nat→Prop} {m m':zR} {L L':Nat→Nat} (hh:∀ b,F b→w'.heap[b]?=w.heap[b]?) (hF:∀ b,F b→F' b)
  (hm:∀ id,m id≠.unk→m' id≠.unk∧L id≤L' id∧(L' id=L id→m' id=m id)) {p:PV} {v:Value} (h:zn w F m L p v):zn w' F' m' L' p v:=by
 induction h with
 |froz p v h=>exact .froz p v (h.mono hh hF)
 |agg cs vs hl h1 h ih=>exact .agg cs vs hl h1 ih
 |tup cs vs hl h ih=>exact .tup cs vs hl ih
 |fn f cs vs hl h ih=>exact .fn f cs vs hl ih
 |sl id off len tot blk o cap s b hm' hL ht hc hb=>
  obtain ⟨h1,h2,h3⟩:=hm id (by rw [hm'];simp)
  by_cases e:L' id=L id
  ·exact .sl id off len tot blk o cap s b ((h3 e).trans hm') (e.trans hL) ht hc hb
  ·exact .slOld id off len tot _ _ h1 (by omega) (by omega)
 |slVirt id hm' hL=>
  obtain ⟨h1,h2,h3⟩:=hm id (by rw [hm'];simp)
  by_cases e:L' id=L id
  ·exact .slVirt id ((h3 e).trans hm') (e.trans hL)
  ·exact .slOld id 0 0 0 _ _ h1 (by omega) (by omega)
 |slOld id off len tot b c hm' hL hc=>
  obtain ⟨h1,h2,h3⟩:=hm id hm'
  exact .slOld id off len tot b c h1 (by omega) hc
 |ptr id row off tot blk o cap s hm' hL=>
  obtain ⟨h1,h2,h3⟩:=hm id (by rw [hm'];simp)
  by_cases e:L' id=L id
  ·exact .ptr id row off tot blk o cap s ((h3 e).trans hm') (e.trans hL)
  ·exact .ptrOld id row off tot _ h1 (by omega)
 |ptrOld id row off tot a hm' hL=>
  obtain ⟨h1,h2,h3⟩:=hm id hm'
  exact .ptrOld id row off tot a h1 (by omega)
 |mp id blk hm' hL=>
  obtain ⟨h1,h2,h3⟩:=hm id (by rw [hm'];simp)
  by_cases e:L' id=L id
  ·exact .mp id blk ((h3 e).trans hm') (e.trans hL)
  ·exact .mpOld id _ h1 (by omega)
 |mpOld id r hm' hL=>
  obtain ⟨h1,h2,h3⟩:=hm id hm'
  exact .mpOld id r h1 (by omega)
def zR.put (m:zR) (id:Nat) (l:Loc):zR:=fun j=>if j=id then l else m j
theorem zR.put_same (m:zR) (id:Nat) (l:Loc):m.put id l id=l:=by simp [zR.put]
theorem zR.put_other (m:zR) {id j:Nat} (l:Loc) (h:j≠id):m.put id l j=m j:=by simp [zR.put,h]
theorem jX {H:zd} {id s:Nat} {rows:List (List PV)} (h:H[id]?=some (.cells s rows)):zr H id=rows.length:=by simp [zr,h]
theorem QI {H:zd} {id:Nat} {es:List (PV×PV)} (h:H[id]?=some (.map es)):zr H id=0:=by simp [zr,h]
theorem zic {H H':zd} {id:Nat} (h:H'[id]?=H[id]?):zr H' id=zr H id:=by simp [zr,h]
theorem uO.mono {w w':World} {R R':PV→Value→Prop} {blk o cap s:Nat} {rows:List (List PV)} (h:uO w R blk o cap s rows) (hw:w'.heap[blk]?=w.heap[blk]?) (hR:∀ p v,R p v→R' p v):uO w' R' blk o cap s rows:=by
 obtain ⟨h1,⟨cur,t,h2,h3,h4⟩,h5⟩:=h
 exact ⟨h1,⟨cur,t,hw.trans h2,h3,fun i r j p hi hj=>let ⟨v,e1,e2,e3⟩:=h4 i r j p hi hj;⟨v,e1,e2,hR _ _ e3⟩⟩,h5⟩
theorem zdf.mono {w w':World} {R R':PV→Value→Prop} {blk:Nat} {es:List (PV×PV)} (h:zdf w R blk es) (hw:w'.heap[blk]?=w.heap[blk]?) (hR:∀ p v,R p v→R' p v):zdf w' R' blk es:=by
 obtain ⟨⟨xs,clock,h2,h3,h4,h5⟩,hb⟩:=h
 exact ⟨⟨xs,clock,hw.trans h2,h3,fun i e x hi hj=>hR _ _ (h4 i e x hi hj),fun i e x hi hj=>hR _ _ (h5 i e x hi hj)⟩,fun ys c e=>hb ys c (hw.symm.trans e)⟩
theorem yl.heapF {G:Nat→Option (List PV)} {w:World} {F:Nat→Prop} {m:zR} {H:zd} (R:yl G w F m H) {w':World} {F':Nat→Prop} {m':zR} {K K':zd} (g:wo w F m K w' F' m' K') {b:Nat} (hb:F b):w'.heap[b]?=w.heap[b]?:=
 g.old b (R.ltF b hb) (fun h=>R.apart b h hb)
theorem zn.grow {G:Nat→Option (List PV)} {w:World} {F:Nat→Prop} {m:zR} {H:zd} (R:yl G w F m H) {w':World} {F':Nat→Prop} {m':zR} {H':zd} (g:wo w F m H w' F' m' H') {p:PV} {v:Value} (h:zn w F m (zr H) p v):zn w' F' m' (zr H') p v:=
 h.mono (fun b hb=>R.heapF g hb) g.sub g.locs
theorem RelF.grow {G:Nat→Option (List PV)} {w:World} {F:Nat→Prop} {m:zR} {H:zd} (R:yl G w F m H) {w':World} {F':Nat→Prop} {m':zR} {K K':zd} (g:wo w F m K w' F' m' K') {p:PV} {v:Value} (h:RelF w F p v):RelF w' F' p v:=
 h.mono (fun b hb=>R.heapF g hb) g.sub
theorem wo.refl (w:World) (F:Nat→Prop) (m:zR) (H:zd):wo w F m H w F m H:=
 ⟨Nat.le_refl _,fun _ h=>h,fun _ h=>.inl h,fun _ _ _=>rfl,fun _ h=>⟨h,Nat.le_refl _,fun _=>rfl⟩,fun _ h=>.inl h,rfl,rfl,rfl,fun _=>rfl,Nat.le_refl _,fun _ h1 h2=>absurd h1 h2⟩
theorem wo.trans {w w1 w2:World} {F F1 F2:Nat→Prop} {m m1 m2:zR} {H H1 H2:zd} (a:wo w F m H w1 F1 m1 H1) (b:wo w1 F1 m1 H1 w2 F2 m2 H2):wo w F m H w2 F2 m2 H2:=by
 refine ⟨Nat.le_trans a.heap b.heap,fun x h=>b.sub x (a.sub x h),fun x h=>?_,fun x h1 h2=>?_,fun id h=>?_,fun x h=>?_,b.os.trans a.os,b.tape.trans a.tape,b.output.trans a.output,fun x=>(b.froz x).trans (a.froz x),Nat.le_trans a.len b.len,fun id h1 h2=>?_⟩
 ·rcases b.new x h with h|h
  ·exact a.new x h
  ·exact .inr (Nat.le_trans a.heap h)
 ·refine (b.old x (Nat.lt_of_lt_of_le h1 a.heap) (fun h3=>?_)).trans (a.old x h1 h2)
  rcases a.img x h3 with h|h
  ·exact h2 h
  ·omega
 ·obtain ⟨h1,h2,h3⟩:=a.locs id h
  obtain ⟨k1,k2,k3⟩:=b.locs id h1
  exact ⟨k1,Nat.le_trans h2 k2,fun e=>(k3 (by omega)).trans (h3 (by omega))⟩
 ·rcases b.img x h with h|h
  ·exact a.img x h
  ·exact .inr (Nat.le_trans a.heap h)
 ·by_cases h3:m1 id=.unk
  ·exact Nat.le_trans a.len (b.fresh id h3 h2)
  ·exact a.fresh id h1 h3
theorem yl.put {G:Nat→Option (List PV)} {w:World} {F:Nat→Prop} {m:zR} {H:zd} (R:yl G w F m H) {w':World} {H':zd} (id blk o cap s:Nat) (b:yf)
  (hH:∀ j,j≠id→H'[j]?=H[j]?) (hid:H'[id]?=some b)
  (hw:∀ x,x≠blk→x<w.heap.size→w'.heap[x]?=w.heap[x]?) (hsz:w.heap.size≤w'.heap.size) (hlt:blk<w'.heap.size)
  (hblk:(∃ o' c' s',m id=.at_ blk o' c' s')∨w.heap.size≤blk) (hidU:m id=.unk→H.length≤id)
  (hL:m id≠.unk→zr H id≤zr H' id∧(zr H' id=zr H id→m id=.at_ blk o cap s))
  (hos:w'.os=w.os∧w'.tape=w.tape∧w'.output=w.output∧∀ a,w'.frozen? a=w.frozen? a)
  (hC:(∀ p v,zn w F m (zr H) p v→zn w' F (m.put id (.at_ blk o cap s)) (zr H') p v)→
   match b with
   |.cells z rows=>z=s∧uO w' (zn w' F (m.put id (.at_ blk o cap s)) (zr H')) blk o cap s rows
   |.map es=>o=0∧cap=0∧s=0∧zdf w' (zn w' F (m.put id (.at_ blk o cap s)) (zr H')) blk es):
  yl G w' F (m.put id (.at_ blk o cap s)) H'∧wo w F m H w' F (m.put id (.at_ blk o cap s)) H':=by
 have hblkF:∀ x,F x→x≠blk:=fun x hx e=>by
  subst e
  rcases hblk with ⟨o',c',s',h⟩|h
  ·exact R.apart x ⟨id,o',c',s',h⟩ hx
  ·have:=R.ltF x hx;omega
 have hl:∀ j,j≠id→zr H' j=zr H j:=fun j hj=>zic (hH j hj)
 have hlocs:∀ j,m j≠.unk→m.put id (.at_ blk o cap s) j≠.unk∧zr H j≤zr H' j∧(zr H' j=zr H j→m.put id (.at_ blk o cap s) j=m j):=by
  intro j hj
  by_cases e:j=id
  ·subst e
   rw [zR.put_same]
   exact ⟨by simp,(hL hj).1,fun e=>((hL hj).2 e).symm⟩
  ·rw [zR.put_other _ _ e,hl j e]
   exact ⟨hj,Nat.le_refl _,fun _=>rfl⟩
 have hmono:∀ p v,zn w F m (zr H) p v→zn w' F (m.put id (.at_ blk o cap s)) (zr H') p v:=fun p v h=>
  h.mono (fun x hx=>hw x (hblkF x hx) (R.ltF x hx)) (fun _ h=>h) hlocs
 have hother:∀ j x o' c' s',j≠id→m j=.at_ x o' c' s'→x≠blk:=by
  intro j x o' c' s' hj hx e
  subst e
  rcases hblk with ⟨o2,c2,s2,h⟩|h
  ·exact hj (R.inj _ _ _ _ _ _ _ _ _ hx h)
  ·have:=R.lt x ⟨j,o',c',s',hx⟩;omega
 have hC':=hC hmono
 constructor
 ·constructor
  ·intro j z rows hj
   by_cases e:j=id
   ·subst e
    rw [hid] at hj
    injection hj with hj
    subst hj
    obtain ⟨rfl,hc⟩:=hC'
    exact .inr (.inr ⟨blk,o,cap,by rw [zR.put_same],hc⟩)
   ·rw [hH j e] at hj
    rw [zR.put_other _ _ e]
    rcases R.cells j z rows hj with h|h|⟨x,o',c',h1,h2⟩
    ·exact .inl h
    ·exact .inr (.inl h)
    ·exact .inr (.inr ⟨x,o',c',h1,h2.mono (hw x (hother j x _ _ _ e h1) (R.lt x ⟨j,o',c',z,h1⟩)) hmono⟩)
  ·intro j es hj
   by_cases e:j=id
   ·subst e
    rw [hid] at hj
    injection hj with hj
    subst hj
    obtain ⟨rfl,rfl,rfl,hc⟩:=hC'
    exact .inr ⟨blk,by rw [zR.put_same],hc⟩
   ·rw [hH j e] at hj
    rw [zR.put_other _ _ e]
    rcases R.maps j es hj with h|⟨x,h1,h2⟩
    ·exact .inl h
    ·exact .inr ⟨x,h1,h2.mono (hw x (hother j x _ _ _ e h1) (R.lt x ⟨j,0,0,0,h1⟩)) hmono⟩
  ·intro j hj
   have hne:j≠id:=by
    intro e
    subst e
    rw [List.getElem?_eq_none hj] at hid
    cases hid
   rw [zR.put_other _ _ hne]
   apply R.fresh
   by_cases h:j<H.length
   ·have:=hH j hne
    rw [List.getElem?_eq_none hj,List.getElem?_eq_getElem h] at this
    cases this
   ·omega
  ·intro j j' x o1 c1 s1 o2 c2 s2 h1 h2
   by_cases e:j=id<;>by_cases e':j'=id
   ·rw [e,e']
   ·subst e
    rw [zR.put_same] at h1
    rw [zR.put_other _ _ e'] at h2
    injection h1 with h1
    exact absurd h1.symm (hother j' x _ _ _ e' h2)
   ·subst e'
    rw [zR.put_same] at h2
    rw [zR.put_other _ _ e] at h1
    injection h2 with h2
    exact absurd h2.symm (hother j x _ _ _ e h1)
   ·rw [zR.put_other _ _ e] at h1
    rw [zR.put_other _ _ e'] at h2
    exact R.inj _ _ _ _ _ _ _ _ _ h1 h2
  ·rintro x ⟨j,o',c',s',h⟩
   by_cases e:j=id
   ·subst e
    rw [zR.put_same] at h
    injection h with h
    omega
   ·rw [zR.put_other _ _ e] at h
    have:=R.lt x ⟨j,o',c',s',h⟩
    omega
  ·intro x hx
   have:=R.ltF x hx
   omega
  ·rintro x ⟨j,o',c',s',h⟩ hx
   by_cases e:j=id
   ·subst e
    rw [zR.put_same] at h
    injection h with h
    exact hblkF x hx h.symm
   ·rw [zR.put_other _ _ e] at h
    exact R.apart x ⟨j,o',c',s',h⟩ hx
  ·exact fun g cs hg=>(R.glob g cs hg).mono (fun x hx=>hw x (hblkF x hx) (R.ltF x hx)) fun _ h=>h
 ·refine ⟨hsz,fun _ h=>h,fun _ h=>.inl h,fun x h1 h2=>hw x (fun e=>?_) h1,hlocs,fun x hx=>?_,hos.1,hos.2.1,hos.2.2.1,hos.2.2.2,?_,fun j h1 h2=>?_⟩
  ·subst e
   rcases hblk with ⟨o',c',s',h⟩|h
   ·exact h2 ⟨id,o',c',s',h⟩
   ·omega
  ·obtain ⟨j,o',c',s',h⟩:=hx
   by_cases e:j=id
   ·subst e
    rw [zR.put_same] at h
    injection h with h
    subst h
    rcases hblk with ⟨o2,c2,s2,h⟩|h
    ·exact .inl ⟨_,_,_,_,h⟩
    ·exact .inr h
   ·rw [zR.put_other _ _ e] at h
    exact .inl ⟨j,o',c',s',h⟩
  ·rcases Nat.lt_or_ge H'.length H.length with hlt|hge
   ·by_cases e:H'.length=id
    ·rw [←e,List.getElem?_eq_none (Nat.le_refl _)] at hid
     cases hid
    ·have:=hH _ e
     rw [List.getElem?_eq_none (Nat.le_refl _),List.getElem?_eq_getElem hlt] at this
     cases this
   ·exact hge
  ·by_cases e:j=id
   ·subst e
    exact hidU h1
   ·rw [zR.put_other _ _ e] at h2
    exact absurd h1 h2
theorem yl.alloc {G:Nat→Option (List PV)} {w:World} {F:Nat→Prop} {m:zR} {H:zd} (R:yl G w F m H) (cap s:Nat) (obj:Obj) (b:yf) (hfr:∀ a,(w.alloc obj).frozen? a=w.frozen? a)
  (hC:(∀ p v,zn w F m (zr H) p v→zn (w.alloc obj) F (m.put H.length (.at_ w.heap.size 0 cap s)) (zr (H++[b])) p v)→
   match b with
   |.cells z rows=>z=s∧uO (w.alloc obj) (zn (w.alloc obj) F (m.put H.length (.at_ w.heap.size 0 cap s)) (zr (H++[b]))) w.heap.size 0 cap s rows
   |.map es=>cap=0∧s=0∧zdf (w.alloc obj) (zn (w.alloc obj) F (m.put H.length (.at_ w.heap.size 0 cap s)) (zr (H++[b]))) w.heap.size es):
  yl G (w.alloc obj) F (m.put H.length (.at_ w.heap.size 0 cap s)) (H++[b])∧wo w F m H (w.alloc obj) F (m.put H.length (.at_ w.heap.size 0 cap s)) (H++[b]):=by
 refine R.put (w':=w.alloc obj) (H':=H++[b]) H.length w.heap.size 0 cap s b (fun j hj=>?_) (by simp) (fun x h1 h2=>?_) (show w.heap.size≤(w.heap.push obj).size by simp) (show w.heap.size<(w.heap.push obj).size by simp) (.inr (Nat.le_refl _)) (fun _=>Nat.le_refl _) (fun h=>absurd (R.fresh _ (Nat.le_refl _)) h) ⟨rfl,rfl,rfl,hfr⟩ (fun h=>?_)
 ·rcases Nat.lt_or_ge j H.length with h|h
  ·rw [List.getElem?_append_left h]
  ·rw [List.getElem?_eq_none (by simp;omega),List.getElem?_eq_none h]
 ·show (w.heap.push obj)[x]?=w.heap[x]?
  simp [Array.getElem?_push,Nat.ne_of_lt h2]
 ·have:=hC h
  cases b with
  |cells z rows=>exact this
  |map es=>exact ⟨rfl,this.1,this.2.1,this.2.2⟩
section
def yP (R:PV→Value→Prop) (ps:List PV) (vs:List Value):Prop:=vs.length=ps.length∧∀ (i:Nat) (p:PV) (v:Value),ps[i]?=some p→vs[i]?=some v→R p v
section
variable {R:PV→Value→Prop}
theorem yP.nil:yP R [] []:=⟨rfl,fun i p v h=>by simp at h⟩
theorem yP.cons {p:PV} {v:Value} {ps:List PV} {vs:List Value} (h:R p v) (t:yP R ps vs):yP R (p::ps) (v::vs):=by
 refine ⟨by simp [t.1],fun i q u h1 h2=>?_⟩
 cases i with
 |zero=>simp at h1 h2;subst h1;subst h2;exact h
 |succ i=>simp at h1 h2;exact t.2 i q u h1 h2
theorem yP.head {p:PV} {ps:List PV} {vs:List Value} (t:yP R (p::ps) vs):∃ v us,vs=v::us∧R p v∧yP R ps us:=by
 cases vs with
 |nil=>have:=t.1;simp at this
 |cons v us=>exact ⟨v,us,rfl,t.2 0 p v rfl rfl,by have:=t.1;simpa using this,fun i q u h1 h2=>t.2 (i+1) q u (by simpa using h1) (by simpa using h2)⟩
theorem yP.append {ps qs:List PV} {vs us:List Value} (h:yP R ps vs) (t:yP R qs us):yP R (ps++qs) (vs++us):=by
 refine ⟨by simp [h.1,t.1],fun i q u h1 h2=>?_⟩
 by_cases hi:i<ps.length
 ·rw [List.getElem?_append_left hi] at h1
  rw [List.getElem?_append_left (by rw [h.1];exact hi)] at h2
  exact h.2 i q u h1 h2
 ·rw [List.getElem?_append_right (by omega)] at h1
  rw [List.getElem?_append_right (by rw [h.1];omega),h.1] at h2
  exact t.2 _ q u h1 h2
theorem yP.take {ps:List PV} {vs:List Value} (h:yP R ps vs) (n:Nat):yP R (ps.take n) (vs.take n):=by
 refine ⟨by simp [h.1],fun i q u h1 h2=>?_⟩
 rw [List.getElem?_take] at h1 h2
 split at h1
 ·rename_i hi
  rw [if_pos hi] at h2
  exact h.2 i q u h1 h2
 ·cases h1
theorem yP.drop {ps:List PV} {vs:List Value} (h:yP R ps vs) (n:Nat):yP R (ps.drop n) (vs.drop n):=by
 refine ⟨by simp [h.1],fun i q u h1 h2=>?_⟩
 rw [List.getElem?_drop] at h1 h2
 exact h.2 _ q u h1 h2
theorem yP.mono {R':PV→Value→Prop} {ps:List PV} {vs:List Value} (h:yP R ps vs) (hr:∀ p v,R p v→R' p v):yP R' ps vs:=⟨h.1,fun i p v h1 h2=>hr _ _ (h.2 i p v h1 h2)⟩
theorem yP.get {ps:List PV} {vs:List Value} (h:yP R ps vs) {i:Nat} {p:PV} (hp:ps[i]?=some p):∃ v,vs[i]?=some v∧R p v:=by
 have hi:i<vs.length:=by rw [h.1];exact (List.getElem?_eq_some_iff.1 hp).1
 exact ⟨vs[i],List.getElem?_eq_getElem hi,h.2 i p _ hp (List.getElem?_eq_getElem hi)⟩
theorem yP.map {α:Type} {f:α→PV} {g:α→Value}:∀ {l:List α},(∀ x∈l,R (f x) (g x))→yP R (l.map f) (l.map g)
 |[],_=>yP.nil
 |x::l,h=>yP.cons (h x (by simp)) (yP.map fun y hy=>h y (by simp [hy]))
end
section
variable {w:World} {F:Nat→Prop} {m:zR} {L:Nat→Nat}
theorem zn.int_inv {k:IntKind} {n:Int} {v:Value} (h:zn w F m L (.int k n) v):v=.int k n:=by cases h with|froz _ _ h=>cases h;rfl
theorem zn.bool_inv {b:Bool} {v:Value} (h:zn w F m L (.bool b) v):v=.bool b:=by cases h with|froz _ _ h=>cases h;rfl
theorem zn.str_inv {s:ByteArray} {v:Value} (h:zn w F m L (.str s) v):v=.string s:=by cases h with|froz _ _ h=>cases h;rfl
theorem zn.flt_inv {k:FloatKind} {n:Nat} {v:Value} (h:zn w F m L (.flt k n) v):v=.float k n:=by cases h with|froz _ _ h=>cases h;rfl
theorem zn.und_inv {v:Value} (h:zn w F m L .und v):v=undef:=by cases h with|froz _ _ h=>cases h;rfl
theorem zn.nils_inv {v:Value} (h:zn w F m L .nils v):v=.slice none 0 0:=by cases h with|froz _ _ h=>cases h;rfl
theorem zn.nilm_inv {v:Value} (h:zn w F m L .nilm v):v=.map none:=by cases h with|froz _ _ h=>cases h;rfl
theorem zn.agg_inv {cs:List PV} {v:Value} (h:zn w F m L (.agg cs) v):∃ vs:List Value,v=.agg vs.toArray∧yP (zn w F m L) cs vs∧∀ u∈vs,u.oneCell'=true:=by
 cases h with
 |froz _ _ h=>cases h with|agg _ vs hl h1 h=>exact ⟨vs,rfl,⟨hl,fun i p u a b=>.froz _ _ (h i p u a b)⟩,h1⟩
 |agg _ vs hl h1 h=>exact ⟨vs,rfl,⟨hl,h⟩,h1⟩
theorem zn.tup_inv {cs:List PV} {v:Value} (h:zn w F m L (.tup cs) v):∃ vs:List Value,v=.tuple vs.toArray∧yP (zn w F m L) cs vs:=by
 cases h with
 |froz _ _ h=>cases h with|tup _ vs hl h=>exact ⟨vs,rfl,⟨hl,fun i p u a b=>.froz _ _ (h i p u a b)⟩⟩
 |tup _ vs hl h=>exact ⟨vs,rfl,⟨hl,h⟩⟩
theorem zn.fn_inv {f:Nat} {cs:List PV} {v:Value} (h:zn w F m L (.fn f cs) v):∃ vs:List Value,v=.func (.func f) #[] vs.toArray∧yP (zn w F m L) cs vs:=by
 cases h with
 |froz _ _ h=>cases h with|fn _ _ vs hl h=>exact ⟨vs,rfl,⟨hl,fun i p u a b=>.froz _ _ (h i p u a b)⟩⟩
 |fn _ _ vs hl h=>exact ⟨vs,rfl,⟨hl,h⟩⟩
theorem RelF.leaf {p:PV} {v:Value} (h:RelF w F p v) (hp:zH p=true):v.oneCell'=true:=by
 cases h<;>first|rfl|(simp [zH] at hp)
theorem zn.leaf {p:PV} {v:Value} (h:zn w F m L p v) (hp:zH p=true):v.oneCell'=true:=by
 cases h with
 |froz _ _ h=>exact h.leaf hp
 |_=>first|rfl|(simp [zH] at hp)
theorem zrf {v:Value} (h:v.oneCell'=true):v.cells=#[v]:=by cases v<;>first|rfl|(simp [Value.oneCell'] at h)
theorem zn.cells {x:PV} {v:Value} (h:zn w F m L x v) (hl:(cellsOf x).all zH=true):yP (zn w F m L) (cellsOf x) v.cells.toList∧∀ u∈v.cells.toList,u.oneCell'=true:=by
 have plain:∀ {x:PV},cellsOf x=[x]→zH x=true→zn w F m L x v→yP (zn w F m L) (cellsOf x) v.cells.toList∧∀ u∈v.cells.toList,u.oneCell'=true:=by
  intro x e hx h
  have h1:=h.leaf hx
  rw [e,zrf h1]
  exact ⟨yP.cons h yP.nil,by simpa using h1⟩
 cases x with
 |agg cs=>
  obtain ⟨vs,rfl,h1,h2⟩:=h.agg_inv
  exact ⟨h1,h2⟩
 |_=>exact plain rfl (by simpa [cellsOf] using hl) h
end
def ZB (w:World) (R:PV→Value→Prop) (blk o:Nat) (cs:List PV):Prop:=
 ∃ f:Nat→Value,∀ (j:Nat) (p:PV),cs[j]?=some p→w.cell? ⟨blk,o+j,none⟩=some (f j)∧(f j).oneCell'=true∧R p (f j)
theorem zbm {w:World} {blk:Nat} {cur:Array Value} {t:TypeId} (h:w.heap[blk]?=some (.cells cur t (0,0))) (o:Nat):w.cell? ⟨blk,o,none⟩=cur[o]?:=by simp [World.cell?,h]
theorem uO.lies {w:World} {R:PV→Value→Prop} {blk o cap s:Nat} {rows:List (List PV)} (h:uO w R blk o cap s rows) {i:Nat} {r:List PV} (hi:rows[i]?=some r):ZB w R blk (o+i*s) r:=by
 obtain ⟨cur,t,h2,h3,h4⟩:=h.cur
 refine ⟨fun j=>cur.getD (o+i*s+j) undef,fun j p hj=>?_⟩
 obtain ⟨v,e1,e2,e3⟩:=h4 i r j p hi hj
 have:cur.getD (o+i*s+j) undef=v:=by simp [e1]
 dsimp only
 rw [zbm h2,this]
 exact ⟨e1,e2,e3⟩
theorem ZB.drop {w:World} {R:PV→Value→Prop} {blk o:Nat} {cs:List PV} (h:ZB w R blk o cs) (n:Nat):ZB w R blk (o+n) (cs.drop n):=by
 obtain ⟨f,hf⟩:=h
 refine ⟨fun j=>f (n+j),fun j p hj=>?_⟩
 rw [List.getElem?_drop] at hj
 have:=hf (n+j) p hj
 rwa [←Nat.add_assoc] at this
theorem ZB.all2 {w:World} {R:PV→Value→Prop} {blk o:Nat} {cs:List PV} (h:ZB w R blk o cs):∃ vs:List Value,yP R cs vs∧(∀ u∈vs,u.oneCell'=true)∧∀ (j:Nat) (v:Value),vs[j]?=some v→w.cell? ⟨blk,o+j,none⟩=some v:=by
 obtain ⟨f,hf⟩:=h
 refine ⟨(List.range cs.length).map f,⟨by simp,fun i p v h1 h2=>?_⟩,fun u hu=>?_,fun j v hj=>?_⟩
 ·have hi:i<cs.length:=(List.getElem?_eq_some_iff.1 h1).1
  simp [hi] at h2
  subst h2
  exact (hf i p h1).2.2
 ·simp at hu
  obtain ⟨j,hj,rfl⟩:=hu
  exact (hf j _ (List.getElem?_eq_getElem hj)).2.1
 ·have hj':j<cs.length:=by
   have:=(List.getElem?_eq_some_iff.1 hj).1
   simpa using this
  simp [hj'] at hj
  subst hj
  exact (hf j _ (List.getElem?_eq_getElem hj')).1
section
variable {G:Nat→Option (List PV)} {w:World} {F:Nat→Prop} {m:zR} {H:zd}
theorem zn.fp_inv {L:Nat→Nat} {cs:List PV} {off:Nat} {v:Value} (h:zn w F m L (.fp cs off) v):∃ blk o,v=.pointer (some ⟨blk,o+off,none⟩)∧F blk∧ZB w (zn w F m L) blk o cs:=by
 cases h with
 |froz _ _ h=>cases h with
  |fp _ blk o _ f hF h1 hw h=>exact ⟨blk,o,rfl,hF,f,fun j p hj=>⟨hw j p hj,h1 j p hj,.froz _ _ (h j p hj)⟩⟩
theorem yl.block (R:yl G w F m H) {id s:Nat} {rows:List (List PV)} (hH:H[id]?=some (.cells s rows)) {blk o cap s':Nat} (hm:m id=.at_ blk o cap s'):s'=s∧uO w (zn w F m (zr H)) blk o cap s rows:=by
 rcases R.cells id s rows hH with h|⟨h,_⟩|⟨b,o',c,h,hc⟩
 ·rw [hm] at h;cases h
 ·rw [hm] at h;cases h
 ·rw [hm] at h
  injection h with h1 h2 h3 h4
  subst h1;subst h2;subst h3;subst h4
  exact ⟨rfl,hc⟩
theorem yl.ptr (R:yl G w F m H) {id row off tot s:Nat} {rows:List (List PV)} (hH:H[id]?=some (.cells s rows)) (ht:tot=rows.length) {v:Value} (h:zn w F m (zr H) (.ptr id row off tot) v):
  ∃ blk o cap,v=.pointer (some ⟨blk,o+row*s+off,none⟩)∧m id=.at_ blk o cap s∧uO w (zn w F m (zr H)) blk o cap s rows:=by
 have hl:=jX hH
 cases h with
 |froz _ _ h=>cases h
 |ptr _ _ _ _ blk o cap s' hm hL=>
  obtain ⟨rfl,hc⟩:=R.block hH hm
  exact ⟨blk,o,cap,rfl,hm,hc⟩
 |ptrOld _ _ _ _ a hm hL=>omega
theorem yl.cellsAt (R:yl G w F m H) {p:PV} {cs:List PV} (hc:Av.cellsAt H p=some cs) {v:Value} (h:zn w F m (zr H) p v):
  ∃ blk o,v=.pointer (some ⟨blk,o,none⟩)∧ZB w (zn w F m (zr H)) blk o cs:=by
 cases p with
 |fp cells off=>
  simp only [Av.cellsAt,Option.some.injEq] at hc
  subst hc
  obtain ⟨blk,o,rfl,_,hl⟩:=h.fp_inv
  exact ⟨blk,o+off,rfl,hl.drop off⟩
 |ptr id row off tot=>
  simp only [Av.cellsAt] at hc
  split at hc
  ·rename_i s rows hH
   split at hc
   ·rename_i r h1 h2
    injection hc with hc
    subst hc
    obtain ⟨blk,o,cap,rfl,_,hc⟩:=R.ptr hH (by simpa using h1) h
    exact ⟨blk,_,rfl,(hc.lies h2).drop off⟩
   ·cases hc
  ·cases hc
 |_=>simp [Av.cellsAt] at hc
end
end
def uX:Value→Option PV
 |.bool b=>some (.bool b)
 |.int k n=>some (.int k n)
 |.float k n=>some (.flt k n)
 |.string s=>some (.str s)
 |.pointer a=>match a with|none=>some .nilp|some _=>none
 |.slice a l c=>match a,l,c with|none,0,0=>some .nils|_,_,_=>none
 |.map r=>match r with|none=>some .nilm|some _=>none
 |.nilFunc=>some .nilf
 |_=>none
def jW:List Value→Option (List PV)
 |[]=>some []
 |v::vs=>match uX v,jW vs with
  |some p,some ps=>some (p::ps)
  |_,_=>none
structure ye where
 keep:Nat
 shared:Nat
 gone:Nat
 still:Nat
 lend:Nat:=0
 fresh:Nat:=0
 fix:Nat→Bool:=fun _=>false
def zb' (m n:Nat):Bool:=Nat.beq ((m >>> n)%2) 1
def ye.S (T:ye) (d:Option Nat):Bool:=match d with|some n=>zb' T.still n|none=>false
def ye.K (T:ye) (n:Nat):Bool:=zb' T.keep n
def ye.md (T:ye) (d:Option Nat):Kt:=match d with|some n=>(match zb' T.fresh n with|true=>.fresh|false=>match zb' T.lend n with|true=>.lend|false=>(match zb' T.shared n with|true=>.shared|false=>.pure))|none=>.pure
def ye.isGone (T:ye):Operand→Bool
 |.tmp n=>zb' T.gone n
 |_=>false
def z9 (T:ye):Operand→Option zx
 |.tmp n=>some (match T.K n with|true=>.per n|false=>.reg n)
 |.const v=>match uX v with|some p=>some (.const p)|none=>none
 |.global g=>some (.glob g)
 |.func f=>some (.const (.fn f []))
def uL (T:ye):List Operand→Option (List zx)
 |[]=>some []
 |x::xs=>match z9 T x,uL T xs with
  |some y,some ys=>some (y::ys)
  |_,_=>none
def J2 (P:Program) (t:TypeId):Option Bool:=
 match P.underlying t with
 |some (.struct _)=>some true
 |some (.array _ _)=>some true
 |some _=>some false
 |none=>none
def vO (P:Program) (t:TypeId):Option Nat:=match P.info? t with|some i=>some i.size|none=>none
def kH (P:Program) (t:TypeId):Option (List PV):=match P.info? t with|some i=>(match i.zero with|some z=>jW z.cells.toList|none=>none)|none=>none
def zf4:Value→Option PV
 |.agg cs=>match jW cs.toList with|some ps=>some (.agg ps)|none=>none
 |v=>uX v
def Qh (P:Program) (t:TypeId):Option PV:=match P.info? t with|some i=>(match i.zero with|some z=>zf4 z|none=>none)|none=>none
def jS (P:Program) (t:TypeId):Option (TypeId×Nat×Nat):=
 match P.underlying t with
 |some (.slice e)=>match P.info? e with|some i=>(match Nat.beq i.size 0||Nat.beq i.bytes 0 with|true=>none|false=>some (e,i.size,i.bytes))|none=>none
 |_=>none
def ZH (P:Program):List Field→Option (List (Nat×Nat))
 |[]=>some []
 |f::fs=>match P.info? f.type,ZH P fs with
  |some i,some ps=>some ((f.offset,i.size)::ps)
  |_,_=>none
def Yo (T:ye) (place:Nat→Option (Nat×Nat)):List (Nat×Operand)→Option (List (Nat×Nat×zx))
 |[]=>some []
 |(i,x)::ps=>match place i,z9 T x,Yo T place ps with
  |some (off,sz),some y,some qs=>some ((off,sz,y)::qs)
  |_,_,_=>none
def Vl (T:ye):List (Nat×Operand)→Option (List (Nat×zx))
 |[]=>some []
 |(i,x)::ps=>match z9 T x,Vl T ps with
  |some y,some qs=>some ((i,y)::qs)
  |_,_=>none
def zli (P:Program) (t:TypeId):Bool:=
 match P.underlying t with
 |some (.int _)|some .string|some (.float _)=>true
 |_=>false
def zhH (P:Program) (t:TypeId):Bool:=
 match P.underlying t with
 |some .bool=>true
 |_=>false
def Vr (P:Program) (t:TypeId):Option Nat:=
 match P.underlying t with
 |some (.int _)=>some 0
 |some .bool=>some 1
 |some .string=>some 2
 |_=>none
def zfa (P:Program):Nat→List Field→Option (List Nat)
 |_,[]=>some []
 |i,f::fs=>match Vr P f.type,Nat.beq f.offset i&& !(f.name== "_"),zfa P (i+1) fs with
  |some t,true,some ts=>some (t::ts)
  |_,_,_=>none
def Wq (P:Program) (t:TypeId):Option (List Nat):=
 match P.underlying t with
 |some (.struct fields)=>match P.stoodInHeld t||P.eqGuardType P.depth t with
  |true=>none
  |false=>zfa P 0 fields.toList
 |_=>none
def zf':BinOp→Option Bool
 |.eql=>some false
 |.neq=>some true
 |_=>none
def XX (P:Program) (f:FuncId):Bool:=
 match P.funcs[f]? with
 |some fn=>fn.body.isSome&& !(fn.name== "runtime.NumGoroutine")
 |none=>false
def QG (P:Program) (f:FuncId):Bool:=
 match P.funcs[f]? with
 |some fn=>fn.body.isNone&&fn.name== "math.Float64bits" &&(Extern.findNext fn).isNone
 |none=>false
def zhG:Bool→List zx→Option uD
 |true,[y]=>some (.prim .fbits y)
 |_,_=>none
def zfo:List zx→Bool→Option uD
 |[x,y],mx=>some (.minmax mx x y)
 |_,_=>none
def zjH:Operand→Option FuncId
 |.func g=>some g
 |_=>none
def kG (P:Program) (T:ye) (dst:Option Nat) (c:Call):Option uD:=
 match c.callee with
 |.value f=>match zjH f with
  |some g=>match XX P g,uL T c.args.toList with
   |true,some xs=>some (.call (T.md dst) g xs)
   |false,some xs=>zhG (QG P g) xs
   |_,none=>none
  |none=>match z9 T f,uL T c.args.toList with
   |some y,some xs=>some (.callv (T.md dst) y xs)
   |_,_=>none
 |.builtin b=>match b with
  |.len=>match c.argTypes.toList,c.args.toList with
   |[t],[x]=>match P.underlying t with
    |some (.slice _)=>match z9 T x with|some y=>some (.len y)|none=>none
    |some .string=>match z9 T x with|some y=>some (.lenS y)|none=>none
    |some (.array n _)=>some (.copy (.const (.int .i64 n)))
    |_=>none
   |_,_=>none
  |.append=>match c.argTypes.toList,c.args.toList with
   |[t,u],[x,y]=>match jS P t,Nat.beq u t,z9 T x,z9 T y with
    |some (e,sz,by'),true,some x',some y'=>match kH P e with
     |some z=>match Nat.beq z.length sz with|true=>some (.append sz by' x' y')|false=>none
     |none=>none
    |_,_,_,_=>none
   |_,_=>none
  |.copy=>match c.argTypes.toList,c.args.toList with
   |[t,u],[x,y]=>match jS P t,z9 T x,z9 T y with
    |some (_,sz,_),some x',some y'=>some (.copyS sz x' y')
    |_,_,_=>none
   |_,_=>none
  |.max=>match uL T c.args.toList with|some xs=>zfo xs true|none=>none
  |.min=>match uL T c.args.toList with|some xs=>zfo xs false|none=>none
  |_=>none
 |_=>none
def km (T:ye):Option Operand→Option (Option zx)
 |none=>some none
 |some o=>match z9 T o with|some y=>some (some y)|none=>none
def W5 (P:Program) (T:ye) (dst:Option Nat):Op→Option uD
 |.move x=>match z9 T x with|some y=>some (.copy y)|none=>none
 |.assign x=>match z9 T x with|some y=>some (.copy y)|none=>none
 |.pick c a b=>match z9 T c,z9 T a,z9 T b with|some c',some a',some b'=>some (.pick c' a' b')|_,_,_=>none
 |.alloc t=>match kH P t with|some z=>some (.alloc z)|none=>none
 |.box t x=>match z9 T x with|some y=>some (.box y)|none=>none
 |.build t parts=>match kH P t,P.underlying t with
  |some z,some (.struct fields)=>match ZH P fields.toList with
   |some places=>match Yo T (places[·]?) parts.toList with|some ps=>some (.build z ps)|none=>none
   |none=>none
  |some z,some (.array _ e)=>match vO P e with
   |some sz=>match Yo T (fun i=>some (i*sz,sz)) parts.toList with|some ps=>some (.build z ps)|none=>none
   |none=>none
  |_,_=>none
 |.buildSlice t len parts=>match jS P t with
  |some (e,sz,_)=>match kH P e,Vl T parts.toList,Nat.ble (len*sz) 16777216 with
   |some z,some ps,true=>match Nat.beq z.length sz with|true=>some (.buildSlice sz len z ps)|false=>none
   |_,_,_=>none
  |none=>none
 |.load t a=>match J2 P t,vO P t,z9 T a with|some g,some sz,some y=>some (.load g sz y)|_,_,_=>none
 |.store t a x=>match vO P t,z9 T a,z9 T x with|some sz,some y,some z=>some (.store sz y z)|_,_,_=>none
 |.nilCheck x=>match z9 T x with|some y=>some (.nilCheck y)|none=>none
 |.binOp op t x y _=>match z9 T x,z9 T y with
  |some x',some y'=>match zli P t with
   |true=>some (.bin op x' y')
   |false=>match zf' op with
    |some neg=>match zhH P t with
     |true=>some (.eqB neg x' y')
     |false=>match Wq P t with
      |some tags=>some (.eqS neg tags x' y')
      |none=>none
    |none=>none
  |_,_=>none
 |.unOp op _ x=>match z9 T x with|some y=>some (.un op y)|none=>none
 |.convert s d x=>match P.underlying s,P.underlying d,z9 T x with
  |some (.int _),some (.int k),some y=>some (.conv k y)
  |some (.int _),some (.float .f64),some y=>some (.prim .i2f y)
  |some (.slice e),some .string,some y=>match P.underlying e with|some (.int .u8)=>some (.bstr y)|_=>none
  |_,_,_=>none
 |.makeFunc fn first captured=>match fn,first.toList,uL T captured.toList with
  |.func f,[],some xs=>some (.mkfn f xs)
  |_,_,_=>none
 |.makeSlice t l c=>match jS P t with
  |some (e,sz,by')=>match kH P e,z9 T l,z9 T c with
   |some z,some l',some c'=>match Nat.beq z.length sz with|true=>some (.mkslice sz by' z l' c')|false=>none
   |_,_,_=>none
  |none=>none
 |.slice t x lo hi mx=>match mx with
  |some _=>none
  |none=>
   match P.underlying t with
   |some .string=>match z9 T x,km T lo,km T hi with
    |some x',some l',some h'=>some (.sliceS x' l' h')
    |_,_,_=>none
   |some (.slice e)=>match vO P e,z9 T x,km T lo,km T hi with
    |some sz,some x',some l',some h'=>some (.slice sz x' l' h')
    |_,_,_,_=>none
   |_=>none
 |.fieldAddr t x k=>match P.underlying t with
  |some (.struct fields)=>match fields[k]? with
   |some f=>match vO P f.type,z9 T x with
    |some sz,some y=>match Nat.beq sz 0 with|true=>none|false=>some (.fieldA f.offset y)
    |_,_=>none
   |none=>none
  |_=>none
 |.field t x k=>match P.underlying t with
  |some (.struct fields)=>match fields[k]? with
   |some f=>match J2 P f.type,vO P f.type,z9 T x with
    |some g,some sz,some y=>some (.field g f.offset sz y)
    |_,_,_=>none
   |none=>none
  |_=>none
 |.indexAddr t x i=>match jS P t,z9 T x,z9 T i with
  |some (_,sz,_),some x',some i'=>some (.indexA sz x' i')
  |none,some x',some i'=>match P.underlying t with
   |some (.array n e)=>match vO P e with
    |some sz=>some (.indexP n sz x' i')
    |none=>none
   |_=>none
  |_,_,_=>none
 |.index t x i=>match P.underlying t with
  |some (.array n e)=>match J2 P e,vO P e,z9 T x,z9 T i with
   |some g,some sz,some x',some i'=>some (.indexV n g sz x' i')
   |_,_,_,_=>none
  |_=>none
 |.extract x i=>match z9 T x with|some y=>some (.extract y i)|none=>none
 |.makeMap _ r=>match r with|none=>some .mkmap|some _=>none
 |.lookup t x i ok=>match P.underlying t with
  |some (.map k e)=>match Vr P k,Qh P e,z9 T x,z9 T i with
   |some tag,some z,some x',some i'=>some (.lookup tag z ok x' i')
   |_,_,_,_=>none
  |_=>none
 |.insert t mp k x=>match P.underlying t with
  |some (.map kt _)=>match Vr P kt,z9 T mp,z9 T k,z9 T x with
   |some tag,some m',some k',some x'=>some (.insert tag m' k' x')
   |_,_,_,_=>none
  |_=>none
 |.mapUpdate t mp k x=>match P.underlying t with
  |some (.map kt _)=>match Vr P kt,z9 T mp,z9 T k,z9 T x with
   |some tag,some m',some k',some x'=>some (.insert tag m' k' x')
   |_,_,_,_=>none
  |_=>none
 |.call c=>kG P T dst c
 |.range t _=>match P.underlying t with|some (.map _ _)=>some .fail|_=>none
 |.next _ s=>match s with|false=>some .fail|true=>none
 |.entry _=>some .fail
 |_=>none
def Yn (P:Program) (T:ye) (nt:Nat) (ops:Array Oper) (o:Oper):Option zC:=
 let g:Option (Option (zx×Bool)):=match o.guard with
  |none=>some none
  |some (j,want)=>match ops[j]? with
   |some oj=>match oj.dst with
    |some d=>match Nat.blt d nt with
     |true=>some (some (match T.K d with|true=>.per d|false=>.reg d,want))
     |false=>none
    |none=>none
   |none=>none
 match g,W5 P T o.dst o.op with
 |some g',some op=>match o.dst with
  |none=>some ⟨none,op,g',false,[]⟩
  |some d=>match Nat.blt d nt&& !T.fix d with
   |true=>some ⟨some (T.K d,d),op,g',T.S (some d),[]⟩
   |false=>none
 |_,_=>none
def wl (P:Program) (T:ye) (nt:Nat) (ops:Array Oper):List Oper→Option (List zC)
 |[]=>some []
 |o::os=>match Yn P T nt ops o,wl P T nt ops os with
  |some a,some as=>some (a::as)
  |_,_=>none
def Vt:Kt→Bool
 |.pure=>true
 |.shared=>false
 |.lend=>false
 |.fresh=>true
def wy:uD→Bool
 |.store .. |.append .. |.copyS .. |.insert .. =>false
 |.call m _ _=>Vt m
 |.callv m _ _=>Vt m
 |_=>true
def QR:uD→Bool
 |.copy _|.pick .. |.bin .. |.eqB .. |.eqS .. |.un .. |.conv .. |.mkfn .. |.fieldA .. |.field .. |.indexV .. |.prim .. |.minmax .. |.indexP .. |.len _|.lenS _|.sliceS .. |.extract .. |.nilCheck _|.build .. =>true
 |_=>false
def zdo:uD→Bool
 |.load .. |.slice .. |.indexA .. |.lookup .. =>true
 |.call m _ _=>Vt m
 |.callv m _ _=>Vt m
 |_=>false
def loadAt:uD→Option zx
 |.load _ _ x=>some x
 |_=>none
def XW:zx→Option Nat
 |.per n|.reg n=>some n
 |_=>none
def ze1:zx→Bool
 |.const v=>(refs v).isEmpty
 |_=>true
def zdQ:uD→Bool
 |.build z _=>(zt z).isEmpty
 |_=>true
def zC.opds (o:zC):List zx:=match o.guard with|none=>xq o.op|some (g,_)=>g::xq o.op
def zC.reads (o:zC):List Nat:=o.opds.filterMap XW
def zC.writes (o:zC):Option Nat:=match o.dst with|some (_,d)=>some d|none=>none
def w7 (n:Nat) (l:List Nat):Bool:=l.any (Nat.beq n)
def U1 (o:zC):Bool:=QR o.op||(o.still&&zdo o.op)
def bits (acc:List Nat) (o:Oper):Nat:=o.after.toList.foldl (fun s e=>match Region.binds .any e with|true=>s ||| (1 <<< e.on ||| acc.getD e.on 0)|false=>s) 0
def Xo:List Oper→List Nat→List Nat
 |[],acc=>acc
 |o::os,acc=>Xo os (acc++[bits acc o])
def zbj (d:Option Nat) (l:List Nat):Bool:=match d with|some d=> !(w7 d l)|none=>true
def ze4 (a b:Option Nat):Bool:=match a,b with|some x,some y=> !(Nat.beq x y)|_,_=>true
def zeZ (x y:zC):Bool:=zbj x.writes y.reads&&zbj y.writes x.reads
def zjX:zx→zx→Bool
 |.per a,.per b=>Nat.beq a b
 |.reg a,.reg b=>Nat.beq a b
 |.glob a,.glob b=>Nat.beq a b
 |_,_=>false
def zii (x:zx) (l:List zC):Bool:=match XW x with|some d=>l.all fun o=>ze4 o.writes (some d)|none=>true
def U5 (wait:Bool) (x:zC) (mid:List zC) (y:zC):Bool:=
 ze4 x.writes y.writes&&(wait||(zeZ x y&&(wy x.op||U1 y)&&
  (wy y.op||U1 x||match loadAt x.op with|some a=>y.clear.any (zjX a)&&zii a (x::mid)|none=>false)))
def Kg (ms:List Nat) (as:List zC) (i:Nat) (y:zC):Nat→List zC→Bool
 |_,[]=>true
 |j,x::xs=>match Nat.blt j i with
  |true=>U5 ((ms.getD i 0).testBit j) x ((as.take i).drop (j+1)) y&&Kg ms as i y (j+1) xs
  |false=>true
def zik (ms:List Nat) (as:List zC):Nat→List zC→Bool
 |_,[]=>true
 |i,y::ys=>Kg ms as i y 0 as&&zik ms as (i+1) ys
def zan:Nat→List Oper→Bool
 |_,[]=>true
 |i,o::os=>(o.after.toList.all fun e=>match Region.binds .any e with|true=>Nat.blt e.on i|false=>true)&&zan (i+1) os
def zdI (ops:Array Oper) (as:List zC):Bool:=
 zan 0 ops.toList&&zik (Xo ops.toList []) as 0 as&&as.all fun o=>o.opds.all ze1&&zdQ o.op
def zhK (ms:List Nat) (as:List zC) (i:Nat) (y:zC):Nat→List zC→List zx
 |_,[]=>[]
 |j,x::xs=>match Nat.blt j i&& !((ms.getD i 0).testBit j)&& !(U1 x)&& !(wy y.op) with
  |true=>match loadAt x.op with|some a=>a::zhK ms as i y (j+1) xs|none=>zhK ms as i y (j+1) xs
  |false=>zhK ms as i y (j+1) xs
def jh (ms:List Nat) (as:List zC):Nat→List zC→List zC
 |_,[]=>[]
 |i,y::ys=>{ y with clear:=zhK ms as i y 0 as }::jh ms as (i+1) ys
def Uy {α:Type}:List α→Option (List α×α)
 |[]=>none
 |x::xs=>match Uy xs with|some (l,y)=>some (x::l,y)|none=>some ([],x)
def wI:Code→List Nat
 |.region _ ops _=>ops.toList.filterMap (·.dst)
 |.seq a b|.cond _ a b=>wI a++wI b
 |.block _ b|.loop b=>wI b
 |_=>[]
structure ue where
 it:Nat
 nx:Nat
 more:Nat
 pk:Nat
 x:Nat
 pre:List Oper
 nxt:Nat
 id3:Nat
 ops3:Array Oper
 rest:List Oper
 code:Code
def kZ (T:ye) (a b:Code):Option ue:=
 match a,b with
 |.region _ ops1 false,.block out (.loop (.seq (.region _ ops2 false) (.seq (.cond (.tmp m) .skip (.exit out2)) (.block nxt (.seq (.region id3 ops3 false) code)))))=>
  match Uy ops1.toList,ops2.toList,ops3.toList with
  |some (pre,⟨some it,.range _ (.tmp x),_,_,_,none⟩),[⟨some n1,.next (.tmp it1) false,_,_,_,none⟩,⟨some m1,.extract (.tmp n2) 0,_,_,_,none⟩],⟨some pk,.entry (.tmp it2),_,_,_,none⟩::rest=>
   match Nat.beq it1 it&&Nat.beq it2 it&&Nat.beq n2 n1&&Nat.beq m1 m&&Nat.beq out2 out&& !T.K it&& !T.K n1&& !T.K m1&&T.K pk&&T.K x&& !T.fix it&& !T.fix n1&& !T.fix m1&& !T.fix pk&&
    !(w7 it (n1::m1::pk::(rest.filterMap (·.dst)++wI code))) with
   |true=>some ⟨it,n1,m1,pk,x,pre,nxt,id3,ops3,rest,code⟩
   |false=>none
  |_,_,_=>none
 |_,_=>none
def ue.W (r:ue):List Nat:=r.pk::(r.rest.filterMap (·.dst)++wI r.code)
def XS (T:ye) (a b:Code):Option ue:=
 match kZ T a b with
 |some r=>match kZ T (.region r.id3 r.ops3 false) r.code with
  |none=>some r
  |some _=>none
 |none=>none
def kl (T:ye) (a b:Code) (x y:AC):Option AC:=
 match XS T a b,x,y with
 |some r,.region _ as1,.block _ (.loop (.seq _ (.seq _ (.block _ (.seq (.region _ as3) ab)))))=>match Uy as1,as3 with
  |some (pas,_),_::ras=>some (.seq (.region false pas) (.mrange (.per r.x) r.W r.pk (.block r.nxt (.seq (.region false ras) ab))))
  |_,_=>none
 |_,_,_=>none
def yW (P:Program) (T:ye) (nt:Nat):Code→Option AC
 |.skip=>some .skip
 |.region _ ops draw=>match wl P T nt ops ops.toList with
  |some as=>match draw with
   |false=>some (.region false as)
   |true=>match zdI ops (jh (Xo ops.toList []) as 0 as) with|true=>some (.region true (jh (Xo ops.toList []) as 0 as))|false=>none
  |none=>none
 |.seq a b=>match yW P T nt a,yW P T nt b with|some x,some y=>some (match kl T a b x y with|some r=>r|none=>.seq x y)|_,_=>none
 |.cond c a b=>match z9 T c,yW P T nt a,yW P T nt b with|some c',some x,some y=>some (.cond (T.isGone c) c' x y)|_,_,_=>none
 |.block id b=>match yW P T nt b with|some x=>some (.block id x)|none=>none
 |.loop b=>match yW P T nt b with|some x=>some (.loop x)|none=>none
 |.exit id=>some (.exit id)
 |.ret=>some .ret
 |_=>none
def YE (P:Program) (T:ye):List ResultVar→Option (List jd)
 |[]=>some []
 |.tmp t::rs=>match T.K t,YE P T rs with|true,some xs=>some (.tmp t::xs)|_,_=>none
 |.cell a t::rs=>match T.K a,J2 P t,vO P t,YE P T rs with|true,some g,some sz,some xs=>some (.cell a g sz::xs)|_,_,_,_=>none
def zgz (T:ye) (n:Nat):Bool:=(List.range n).all T.K
def zj2 (P:Program) (T:ye) (fn:Func):Option zJ:=
 match fn.body with
 |some c=>match yW P T fn.ntmps c,YE P T fn.results.toList with
  |some x,some rs=>match zgz T (fn.params.size+fn.nfree)&&Nat.ble (fn.params.size+fn.nfree) fn.ntmps with
   |true=>some ⟨fn.params.size+fn.nfree,x,rs⟩
   |false=>none
  |_,_=>none
 |none=>none
section
structure vP (T:ye) (nt:Nat) (R:PV→Value→Prop) (st:St) (a:Act):Prop where
 size:a.tmps.size=nt
 per:∀ n,R (st.per.get n) (a.tmps.getD n undef)
 reg:∀ n,R (st.reg.get n) (a.tmps.getD n undef)
 perK:∀ n,T.K n=false→st.per.get n=.unk
 regK:∀ n,T.K n=true→st.reg.get n=.unk
theorem Kz {w:World} {F:Nat→Prop} {v:Value} {p:PV} (h:uX v=some p):RelF w F p v∧v.oneCell'=true∧zH p=true:=by
 cases v with
 |bool b=>simp only [uX,Option.some.injEq] at h;subst h;exact ⟨.bool b,rfl,rfl⟩
 |int k n=>simp only [uX,Option.some.injEq] at h;subst h;exact ⟨.int k n,rfl,rfl⟩
 |float k n=>simp only [uX,Option.some.injEq] at h;subst h;exact ⟨.flt k n,rfl,rfl⟩
 |string s=>simp only [uX,Option.some.injEq] at h;subst h;exact ⟨.str s,rfl,rfl⟩
 |pointer a=>
  cases a with
  |none=>simp only [uX,Option.some.injEq] at h;subst h;exact ⟨.nilp,rfl,rfl⟩
  |some a=>simp [uX] at h
 |slice a l c=>
  simp only [uX] at h
  split at h
  ·injection h with h;subst h;exact ⟨.nils,rfl,rfl⟩
  ·cases h
 |map r=>
  cases r with
  |none=>simp only [uX,Option.some.injEq] at h;subst h;exact ⟨.nilm,rfl,rfl⟩
  |some a=>simp [uX] at h
 |nilFunc=>simp only [uX,Option.some.injEq] at h;subst h;exact ⟨.nilf,rfl,rfl⟩
 |_=>simp [uX] at h
theorem vt {w:World} {F:Nat→Prop}:∀ {vs:List Value} {ps:List PV},jW vs=some ps→yP (RelF w F) ps vs∧(∀ v∈vs,v.oneCell'=true)∧∀ p∈ps,zH p=true
 |[],ps,h=>by simp only [jW,Option.some.injEq] at h;subst h;exact ⟨yP.nil,by simp,by simp⟩
 |v::vs,ps,h=>by
  simp only [jW] at h
  split at h
  ·rename_i p qs h1 h2
   injection h with h
   subst h
   obtain ⟨a,b,c⟩:=Kz (w:=w) (F:=F) h1
   obtain ⟨d,e,f⟩:=vt (w:=w) (F:=F) h2
   exact ⟨yP.cons a d,by simpa using ⟨b,e⟩,by simpa using ⟨c,f⟩⟩
  ·cases h
section
variable {P:Program} {G:Nat→Option (List PV)} {T:ye} {nt:Nat} {w:World} {F:Nat→Prop} {m:zR} {st:St} {a:Act}
theorem yd (R:yl G w F m st.H) (E:vP T nt (zn w F m (zr st.H)) st a) {x:Operand} {y:zx} (h:z9 T x=some y):zn w F m (zr st.H) (y.get G st) (a.eval x):=by
 cases x with
 |tmp t=>
  simp only [z9,Option.some.injEq] at h
  subst h
  cases T.K t
  ·exact E.reg t
  ·exact E.per t
 |const v=>
  simp only [z9] at h
  split at h
  ·rename_i p hp
   injection h with h
   subst h
   exact .froz _ _ (Kz hp).1
  ·cases h
 |global g=>
  simp only [z9,Option.some.injEq] at h
  subst h
  simp only [zx.get,Act.eval]
  cases hg:G g with
  |none=>exact .froz _ _ (.unk _)
  |some cs=>exact .froz _ _ (R.glob g cs hg)
 |func f=>
  simp only [z9,Option.some.injEq] at h
  subst h
  exact .froz _ _ (.fn f [] [] rfl fun i p v h=>by simp at h)
theorem Wl (R:yl G w F m st.H) (E:vP T nt (zn w F m (zr st.H)) st a):∀ {xs:List Operand} {ys:List zx},uL T xs=some ys→yP (zn w F m (zr st.H)) (ys.map (zx.get G st)) (xs.map a.eval)
 |[],ys,h=>by simp only [uL,Option.some.injEq] at h;subst h;exact yP.nil
 |x::xs,ys,h=>by
  simp only [uL] at h
  split at h
  ·rename_i y zs h1 h2
   injection h with h
   subst h
   exact yP.cons (yd R E h1) (Wl R E h2)
  ·cases h
end
structure UK (w:World) (m:zR) (H:zd) (w':World) (m':zR) (H':zd):Prop where
 heap:∀ b,b<w.heap.size→w'.heap[b]?=w.heap[b]?
 map:∀ id,id<H.length→m' id=m id
 ext:∃ X,H'=H++X
def ya (P:Program) (G:Nat→Option (List PV)) (o:Oper) (a:Act) (w:World) (F:Nat→Prop) (m:zR) (H:zd) (v:PV) (H':zd) (q:Bool):Prop:=
 ∀ (K:Act→World→Prop) (Q:Exit→Act→World→Prop),
  (∀ cv w' F' m',yl G w' F' m' H'→wo w F m H w' F' m' H'→zn w' F' m' (zr H') v cv→(q=true→UK w m H w' m' H')→K (a.put o.dst cv) w')→o.wp P a w K Q
section
variable {P:Program} {G:Nat→Option (List PV)} {w:World} {F:Nat→Prop} {m:zR} {H:zd} {o:Oper} {a:Act} {v:PV} {q:Bool}
theorem UK.refl (w:World) (m:zR) (H:zd):UK w m H w m H:=⟨fun _ _=>rfl,fun _ _=>rfl,[],by simp⟩
theorem ya.same {cv:Value} (R:yl G w F m H) (hr:(execOp a.eval o).run P w=.ok (.value cv) w) (hv:zn w F m (zr H) v cv):ya P G o a w F m H v H q:=by
 intro K Q h
 unfold Oper.wp
 rw [hr]
 exact h cv w F m R (wo.refl ..) hv fun _=>UK.refl ..
theorem ya.of {cv:Value} {w':World} {F':Nat→Prop} {m':zR} {H':zd} (hr:(execOp a.eval o).run P w=.ok (.value cv) w') (R:yl G w' F' m' H') (g:wo w F m H w' F' m' H')
  (hv:zn w' F' m' (zr H') v cv) (hq:q=true→UK w m H w' m' H'):ya P G o a w F m H v H' q:=by
 intro K Q h
 unfold Oper.wp
 rw [hr]
 exact h cv w' F' m' R g hv hq
theorem ya.skip {w':World} {F':Nat→Prop} {m':zR} {H':zd} (hr:(execOp a.eval o).run P w=.ok .skip w') (R:yl G w' F' m' H') (g:wo w F m H w' F' m' H')
  (hq:q=true→UK w m H w' m' H'):ya P G o a w F m H .und H' q:=by
 intro K Q h
 unfold Oper.wp
 rw [hr]
 exact h undef w' F' m' R g (.froz _ _ .und) hq
theorem ya.alloc {cv:Value} {cap s:Nat} {rows:List (List PV)} {cur:Array Value} {t:TypeId} (R:yl G w F m H) (hr:(execOp a.eval o).run P w=.ok (.value cv) (w.alloc (.cells cur t (0,0))))
  (h1:rows.length≤cap) (h2:cap*s≤cur.size) (h3:∀ (i:Nat) (r:List PV),rows[i]?=some r→r.length=s)
  (h4:∀ (i:Nat) (r:List PV) (j:Nat) (p:PV),rows[i]?=some r→r[j]?=some p→∃ u,cur[i*s+j]?=some u∧u.oneCell'=true∧zn w F m (zr H) p u)
  (hv:∀ m',m' H.length=.at_ w.heap.size 0 cap s→zn (w.alloc (.cells cur t (0,0))) F m' (zr (H++[.cells s rows])) v cv):ya P G o a w F m H v (H++[.cells s rows]) q:=by
 obtain ⟨R',g⟩:=R.alloc cap s (.cells cur t (0,0)) (.cells s rows) (RowKit.frozen?_alloc_cells w cur t) (fun hm=>⟨rfl,h1,⟨cur,t,by show (w.heap.push _)[_]?=_;simp,by omega,fun i r j p hi hj=>by
  obtain ⟨u,e1,e2,e3⟩:=h4 i r j p hi hj
  exact ⟨u,by rw [Nat.zero_add];exact e1,e2,hm _ _ e3⟩⟩,h3⟩)
 refine ya.of hr R' g (hv _ (zR.put_same ..)) fun _=>⟨fun b hb=>?_,fun id hid=>zR.put_other _ _ (by omega),_,rfl⟩
 show (w.heap.push _)[b]?=_
 simp [Array.getElem?_push,Nat.ne_of_lt hb]
end
theorem j9 {P:Program} {t e:TypeId} {s b:Nat} (h:jS P t=some (e,s,b)):P.underlying t=some (.slice e)∧∃ i,P.info? e=some i∧i.size=s∧i.bytes=b∧s≠0∧b≠0:=by
 unfold jS at h
 split at h
 ·rename_i e' hu
  split at h
  ·rename_i i hi
   split at h
   ·cases h
   ·rename_i hz
    injection h with h
    injection h with h1 h2
    injection h2 with h2 h3
    subst h1;subst h2;subst h3
    exact ⟨hu,i,hi,rfl,rfl,by intro e;simp [e] at hz,by intro e;simp [e] at hz⟩
  ·cases h
 ·cases h
theorem Qa {P:Program} {t:TypeId} {g:Bool} (h:J2 P t=some g) (w:World):(isAgg t).run P w=.ok g w:=by
 unfold J2 at h
 split at h
 ·rename_i hu;injection h with h;subst h;simp [isAgg,run_underlying hu]
 ·rename_i hu;injection h with h;subst h;simp [isAgg,run_underlying hu]
 ·rename_i d hu h1 h2
  injection h with h
  subst h
  cases d<;>first|(simp [isAgg,run_underlying h2];done)|(exact absurd rfl (hu _))|(exact absurd rfl (h1 _ _))|skip
  all_goals simp_all [isAgg,run_underlying]
 ·cases h
theorem ui {P:Program} {t:TypeId} {s:Nat} (h:vO P t=some s):∃ i,P.info? t=some i∧i.size=s:=by
 unfold vO at h
 split at h
 ·rename_i i hi;injection h with h;exact ⟨i,hi,h⟩
 ·cases h
theorem Xf {P:Program} {t:TypeId} {ps:List PV} (h:kH P t=some ps):∃ i z,P.info? t=some i∧i.zero=some z∧jW z.cells.toList=some ps:=by
 unfold kH at h
 split at h
 ·rename_i i hi
  split at h
  ·rename_i z hz;exact ⟨i,z,hi,hz,h⟩
  ·cases h
 ·cases h
end
section
theorem RelF.sub {w:World} {F F':Nat→Prop} (h:∀ b,F b→F' b) {p:PV} {v:Value} (r:RelF w F p v):RelF w F' p v:=r.mono (fun _ _=>rfl) h
theorem uO.frz {w:World} {R:PV→Value→Prop} {blk o cap s:Nat} {rows:List (List PV)} (h:uO w R blk o cap s rows) {F:Nat→Prop} (hF:F blk) (g:PV→PV) (hg:∀ p v,R p v→RelF w F (g p) v)
  {off len c:Nat} (hl:off+len≤rows.length) (hc:len≤c):RelF w F (.fz (((rows.drop off).take len).map (·.map g))) (.slice (some ⟨blk,o+off*s,none⟩) len c):=by
 have hlen:(((rows.drop off).take len).map (·.map g)).length=len:=by simp;omega
 have hat:∀ (i:Nat) (r:List PV),(((rows.drop off).take len).map (·.map g))[i]?=some r→∃ r',rows[off+i]?=some r'∧r=r'.map g:=by
  intro i r hi
  rw [List.getElem?_map,List.getElem?_take] at hi
  split at hi
  ·rw [List.getElem?_drop] at hi
   cases hr:rows[off+i]? with
   |none=>simp [hr] at hi
   |some r'=>simp [hr] at hi;exact ⟨r',rfl,hi.symm⟩
  ·simp at hi
 have key:∀ (i:Nat) (r:List PV) (j:Nat) (p:PV),(((rows.drop off).take len).map (·.map g))[i]?=some r→r[j]?=some p→
   ∃ u,w.cell? ⟨blk,o+off*s+i*s+j,none⟩=some u∧u.oneCell'=true∧RelF w F p u:=by
  intro i r j p hi hj
  obtain ⟨r',hr',rfl⟩:=hat i r hi
  rw [List.getElem?_map] at hj
  cases hp:r'[j]? with
  |none=>simp [hp] at hj
  |some p'=>
   simp [hp] at hj
   subst hj
   obtain ⟨cur,t,h2,h3,h4⟩:=h.cur
   obtain ⟨u,e1,e2,e3⟩:=h4 (off+i) r' j p' hr' hp
   refine ⟨u,?_,e2,hg _ _ e3⟩
   rw [zbm h2]
   rw [show o+off*s+i*s+j=o+(off+i)*s+j by rw [Nat.add_mul];omega]
   exact e1
 have e:=RelF.fz (w:=w) (F:=F) (((rows.drop off).take len).map (·.map g)) blk (o+off*s) s c (fun i j=>(w.cell? ⟨blk,o+off*s+i*s+j,none⟩).getD undef) hF
  (fun i r hi=>by obtain ⟨r',hr',rfl⟩:=hat i r hi;rw [List.length_map];exact h.size _ _ hr') (by rw [hlen];exact hc)
  (fun i r j p hi hj=>by obtain ⟨u,e1,e2,e3⟩:=key i r j p hi hj;rw [e1];exact e2)
  (fun i r j p hi hj=>by obtain ⟨u,e1,e2,e3⟩:=key i r j p hi hj;rw [e1];rfl)
  (fun i r j p hi hj=>by obtain ⟨u,e1,e2,e3⟩:=key i r j p hi hj;rw [e1];exact e3)
 rw [hlen] at e
 exact e
section
variable {G:Nat→Option (List PV)} {w:World} {F:Nat→Prop} {m:zR} {H:zd}
theorem yP.toRelF {F:Nat→Prop} {g:PV→PV} {R:PV→Value→Prop} {ps:List PV} {vs:List Value} (h:yP R ps vs) (hg:∀ p v,p∈ps→R p v→RelF w F (g p) v):yP (RelF w F) (ps.map g) vs:=by
 refine ⟨by simp [h.1],fun i p v h1 h2=>?_⟩
 rw [List.getElem?_map] at h1
 cases hp:ps[i]? with
 |none=>simp [hp] at h1
 |some q=>simp [hp] at h1;subst h1;exact hg _ _ (List.mem_of_getElem? hp) (h.2 i q v hp h2)
theorem XQ (R:yl G w F m H):∀ (d:Nat) {p:PV} {v:Value},zn w F m (zr H) p v→RelF w (fun b=>F b∨m.has b) (frz d H p) v
 |0,p,v,_=>.unk v
 |d+1,p,v,h=>by
  have ih:=fun {p:PV} {v:Value} (h:zn w F m (zr H) p v)=>XQ R d h
  have hs:∀ b,F b→(F b∨m.has b):=fun b hb=>.inl hb
  have same:∀ {p:PV},frz (d+1) H p=p→RelF w F p v→RelF w (fun b=>F b∨m.has b) (frz (d+1) H p) v:=fun e h=>by rw [e];exact h.sub hs
  cases p with
  |unk=>exact .unk v
  |agg cs=>
   obtain ⟨vs,rfl,h1,h2⟩:=h.agg_inv
   have:=h1.toRelF (g:=frz d H) (fun p v _ hp=>ih hp)
   exact .agg _ vs this.1 h2 this.2
  |tup cs=>
   obtain ⟨vs,rfl,h1⟩:=h.tup_inv
   have:=h1.toRelF (g:=frz d H) (fun p v _ hp=>ih hp)
   exact .tup _ vs this.1 this.2
  |fn f cs=>
   obtain ⟨vs,rfl,h1⟩:=h.fn_inv
   have:=h1.toRelF (g:=frz d H) (fun p v _ hp=>ih hp)
   exact .fn f _ vs this.1 this.2
  |sl id off len tot=>
   simp only [frz]
   split
   ·rename_i s rows hH
    split
    ·rename_i hb
     simp only [Bool.and_eq_true,beq_iff_eq,decide_eq_true_eq] at hb
     have hl:=jX hH
     cases h with
     |froz _ _ h=>cases h
     |sl _ _ _ _ blk o cap s' b hm hL ht hc hb'=>
      obtain ⟨rfl,hca⟩:=R.block hH hm
      rcases hb' with e|rfl
      ·have e0:len=0:=by omega
       subst e0
       rw [show ((rows.drop off).take 0).map (·.map (frz d H))=[] by simp,show cap-off=0 by omega]
       exact .fzNil _ _
      ·exact hca.frz (F:=fun b=>F b∨m.has b) (.inr ⟨_,_,_,_,hm⟩) (frz d H) (fun p v hp=>ih hp) (by omega) (by omega)
     |slVirt _ hm hL=>
      rw [show ((rows.drop 0).take 0).map (·.map (frz d H))=[] by simp]
      exact .fzNil _ _
     |slOld _ _ _ _ b c hm hL hc=>omega
    ·exact .unk v
   ·exact .unk v
  |ptr id row off tot=>
   simp only [frz]
   split
   ·rename_i s rows hH
    split
    ·rename_i cs hb hr
     obtain ⟨blk,o,cap,rfl,hm,hca⟩:=R.ptr hH (by simpa using hb) h
     obtain ⟨f,hf⟩:=hca.lies hr
     have hat:∀ (j:Nat) (p:PV),(cs.map (frz d H))[j]?=some p→∃ q,cs[j]?=some q∧p=frz d H q:=by
      intro j p hj
      rw [List.getElem?_map] at hj
      cases hq:cs[j]? with
      |none=>simp [hq] at hj
      |some q=>simp [hq] at hj;exact ⟨q,rfl,hj.symm⟩
     exact .fp _ blk (o+row*s) off f (.inr ⟨_,_,_,_,hm⟩) (fun j p hj=>by obtain ⟨q,hq,rfl⟩:=hat j p hj;exact (hf j q hq).2.1)
      (fun j p hj=>by obtain ⟨q,hq,rfl⟩:=hat j p hj;exact (hf j q hq).1) (fun j p hj=>by obtain ⟨q,hq,rfl⟩:=hat j p hj;exact ih (hf j q hq).2.2)
    ·exact .unk v
   ·exact .unk v
  |mp id=>
   simp only [frz]
   split
   ·rename_i es hH
    cases h with
    |froz _ _ h=>cases h
    |mp _ blk hm hL=>
     rcases R.maps id es hH with h|⟨b,h,hc⟩
     ·rw [hm] at h;cases h
     ·rw [hm] at h
      injection h with h
      subst h
      obtain ⟨xs,clock,h1,h2,h3,h4⟩:=hc.cur
      refine .fm _ _ blk xs clock (fun _ _ _ h=>h) (.inr ⟨_,_,_,_,hm⟩) h1 (by simpa using h2) (fun i e x he hx=>?_) (fun i e x he hx=>?_)
      ·rw [List.getElem?_map] at he
       cases hq:es[i]? with
       |none=>simp [hq] at he
       |some q=>simp [hq] at he;subst he;exact ih (h3 i q x hq hx)
      ·rw [List.getElem?_map] at he
       cases hq:es[i]? with
       |none=>simp [hq] at he
       |some q=>simp [hq] at he;subst he;exact ih (h4 i q x hq hx)
    |mpOld _ r hm hL=>rw [QI hH] at hL;omega
   ·exact .unk v
  |_=>
   cases h with
   |froz _ _ h=>exact same rfl h
mutual
theorem zl_:∀ (d:Nat) {p:PV} {v:Value},refs p=[]→zn w F m (zr H) p v→RelF w F (frz d H p) v
 |0,p,v,_,_=>.unk v
 |d+1,p,v,hr,h=>by
  have ih:=fun {p:PV} {v:Value} (hr:refs p=[]) (h:zn w F m (zr H) p v)=>zl_ d hr h
  have hl:∀ {cs:List PV},zt cs=[]→∀ p∈cs,refs p=[]:=by
   intro cs
   induction cs with
   |nil=>intro _ p hp;cases hp
   |cons c cs ihc=>
    intro h p hp
    simp only [zt,List.append_eq_nil_iff] at h
    cases hp with
    |head=>exact h.1
    |tail _ hp=>exact ihc h.2 p hp
  cases p with
  |unk=>exact .unk v
  |agg cs=>
   obtain ⟨vs,rfl,h1,h2⟩:=h.agg_inv
   have:=h1.toRelF (F:=F) (g:=frz d H) (fun p v hp hR=>ih (hl (by simpa [refs] using hr) p hp) hR)
   exact .agg _ vs this.1 h2 this.2
  |tup cs=>
   obtain ⟨vs,rfl,h1⟩:=h.tup_inv
   have:=h1.toRelF (F:=F) (g:=frz d H) (fun p v hp hR=>ih (hl (by simpa [refs] using hr) p hp) hR)
   exact .tup _ vs this.1 this.2
  |fn f cs=>
   obtain ⟨vs,rfl,h1⟩:=h.fn_inv
   have:=h1.toRelF (F:=F) (g:=frz d H) (fun p v hp hR=>ih (hl (by simpa [refs] using hr) p hp) hR)
   exact .fn f _ vs this.1 this.2
  |sl id off len tot=>simp [refs] at hr
  |ptr id row off tot=>simp [refs] at hr
  |mp id=>simp [refs] at hr
  |_=>cases h with|froz _ _ h=>exact h
end
end
theorem zdJ {w w':World} {F F':Nat→Prop} {p:PV} {v:Value} (hp:V5 p=true) (h:RelF w F p v):RelF w' F' p v:=by
 cases h<;>first|(simp [V5] at hp;done)|constructor
theorem zr_ {w w':World} {F F':Nat→Prop} {p:PV} {v:Value} (hp:uZ p=true) (h:RelF w F p v):RelF w' F' p v:=by
 have hagg:∀ {cs:List PV} {v:Value},cs.all V5=true→RelF w F (.agg cs) v→RelF w' F' (.agg cs) v:=by
  intro cs v hc h
  cases h with
  |agg _ vs hl h1 h=>exact .agg cs vs hl h1 fun i p u a b=>zdJ (List.all_eq_true.1 hc p (List.mem_of_getElem? a)) (h i p u a b)
 cases p with
 |agg cs=>exact hagg hp h
 |tup vs=>
  cases h with
  |tup _ us hl h=>
   refine .tup vs us hl fun i p u a b=>?_
   have:=List.all_eq_true.1 hp p (List.mem_of_getElem? a)
   cases p with
   |agg cs=>exact hagg this (h i _ u a b)
   |_=>exact zdJ this (h i _ u a b)
 |_=>exact zdJ hp h
def kM:yf→List Nat
 |.cells _ rows=>rows.flatMap zt
 |.map es=>es.flatMap fun e=>refs e.1++refs e.2
def ZT (m':zR) (H H':zd) (ed:zV):Prop:=∀ id b r,m' id≠.unk→H'[id]?=some b→r∈kM b→id<r→(∃ b0,H[id]?=some b0∧r∈kM b0)∨(id,r)∈ed
structure VW (P:Program) (G:Nat→Option (List PV)) (C:Cl):Prop where
 bodyP:∀ f args v,C.p f args=some v→XX P f=true
 bodyS:∀ f args H v,C.s f args H=some v→XX P f=true
 pure:∀ f args v,C.p f args=some v→∀ (w:World) (F:Nat→Prop) (us:List Value),yP (RelF w F) args us→(∀ b,F b→b<w.heap.size)→
  (∀ g cs,G g=some cs→RelF w F (.fp cs 0) (.pointer (some ⟨g,0,none⟩)))→
  Calls P f us.toArray w fun e w'=>∃ cv,e=.returned cv∧w.heap.size≤w'.heap.size∧(∀ b,b<w.heap.size→w'.heap[b]?=w.heap[b]?)∧(w'.os=w.os∧w'.tape=w.tape∧w'.output=w.output∧∀ a,w'.frozen? a=w.frozen? a)∧
   ∃ F',(∀ b,F b→F' b)∧(∀ b,F' b→F b∨w.heap.size≤b)∧(∀ b,F' b→b<w'.heap.size)∧RelF w' F' v cv
 shared:∀ f args H v H' ed,C.s f args H=some (v,H',ed)→∀ (w:World) (F:Nat→Prop) (m:zR) (us:List Value),yl G w F m H→yP (zn w F m (zr H)) args us→
  Calls P f us.toArray w fun e w'=>∃ cv F' m',e=.returned cv∧yl G w' F' m' H'∧wo w F m H w' F' m' H'∧zn w' F' m' (zr H') v cv∧ZT m' H H' ed
section
variable {P:Program} {G:Nat→Option (List PV)} {w:World} {F:Nat→Prop} {m:zR} {H:zd} {o:Oper} {a:Act}
theorem yl.world (R:yl G w F m H) {w':World} {F':Nat→Prop} (hsz:w.heap.size≤w'.heap.size) (hh:∀ b,b<w.heap.size→w'.heap[b]?=w.heap[b]?) (hos:w'.os=w.os∧w'.tape=w.tape∧w'.output=w.output∧∀ a,w'.frozen? a=w.frozen? a)
  (h1:∀ b,F b→F' b) (h2:∀ b,F' b→F b∨w.heap.size≤b) (h3:∀ b,F' b→b<w'.heap.size):yl G w' F' m H∧wo w F m H w' F' m H∧UK w m H w' m H:=by
 have hm:∀ p v,zn w F m (zr H) p v→zn w' F' m (zr H) p v:=fun p v h=>h.mono (fun b hb=>hh b (R.ltF b hb)) h1 fun id hid=>⟨hid,Nat.le_refl _,fun _=>rfl⟩
 refine ⟨⟨fun id s rows hj=>?_,fun id es hj=>?_,R.fresh,R.inj,fun b hb=>Nat.lt_of_lt_of_le (R.lt b hb) hsz,h3,fun b hb hb'=>?_,fun g cs hg=>(R.glob g cs hg).mono (fun b hb=>hh b (R.ltF b hb)) h1⟩,
  ⟨hsz,h1,h2,fun b hb _=>hh b hb,fun id hid=>⟨hid,Nat.le_refl _,fun _=>rfl⟩,fun b hb=>.inl hb,hos.1,hos.2.1,hos.2.2.1,hos.2.2.2,Nat.le_refl _,fun _ h1 h2=>absurd h1 h2⟩,⟨hh,fun _ _=>rfl,[],by simp⟩⟩
 ·rcases R.cells id s rows hj with h|h|⟨x,o',c',k1,k2⟩
  ·exact .inl h
  ·exact .inr (.inl h)
  ·exact .inr (.inr ⟨x,o',c',k1,k2.mono (hh x (R.lt x ⟨id,o',c',s,k1⟩)) hm⟩)
 ·rcases R.maps id es hj with h|⟨x,k1,k2⟩
  ·exact .inl h
  ·exact .inr ⟨x,k1,k2.mono (hh x (R.lt x ⟨id,0,0,0,k1⟩)) hm⟩
 ·rcases h2 b hb' with h|h
  ·exact R.apart b hb h
  ·have:=R.lt b hb;omega
theorem Zr (k:Nat):∀ cs:List PV,xG k cs=cs.map (zQ k)
 |[]=>rfl
 |c::cs=>by rw [xG,List.map_cons,Zr k cs]
theorem zzg {w:World} {F F':Nat→Prop} {p:PV} {v:Value} (h:RelF w F p v) (k:Nat):RelF w F' (zQ k p) v:=by
 induction h with
 |unk v=>exact .unk v
 |und=>exact .und
 |int k n=>exact .int k n
 |bool b=>exact .bool b
 |str s=>exact .str s
 |flt k n=>exact .flt k n
 |nils=>exact .nils
 |nilp=>exact .nilp
 |nilf=>exact .nilf
 |nilm=>exact .nilm
 |agg cs vs hl h1 h ih=>
  rw [zQ,Zr]
  refine .agg _ vs (by simpa using hl) h1 fun i p v hp hv=>?_
  rw [List.getElem?_map] at hp
  cases hq:cs[i]? with
  |none=>simp [hq] at hp
  |some q=>simp [hq] at hp;subst hp;exact ih i q v hq hv
 |tup cs vs hl h ih=>
  rw [zQ,Zr]
  refine .tup _ vs (by simpa using hl) fun i p v hp hv=>?_
  rw [List.getElem?_map] at hp
  cases hq:cs[i]? with
  |none=>simp [hq] at hp
  |some q=>simp [hq] at hp;subst hp;exact ih i q v hq hv
 |fzNil b c=>exact .fzNil b c
 |fz rows blk off s cap f hF hs hc h1 hw h ih=>
  cases rows with
  |nil=>exact .fzNil _ _
  |cons r rs=>exact .unk _
 |fp cs blk o off f hF h1 hw h ih=>exact .unk _
 |fn f cs vs hl h ih=>
  rw [zQ,Zr]
  refine .fn f _ vs (by simpa using hl) fun i p v hp hv=>?_
  rw [List.getElem?_map] at hp
  cases hq:cs[i]? with
  |none=>simp [hq] at hp
  |some q=>simp [hq] at hp;subst hp;exact ih i q v hq hv
 |fm es es' r xs clock hK hF hw hl hk hv ik iv=>exact .unk _
theorem zn1 {w:World} {F F':Nat→Prop} {m M:zR} {L LL:Nat→Nat} {k:Nat} (hM:∀ id,m id≠.unk→M (k+id)=m id∧LL (k+id)=L id) {p:PV} {v:Value} (h:zn w F m L p v):zn w F' M LL (zQ k p) v:=by
 induction h with
 |froz p v h=>exact .froz _ v (zzg h k)
 |agg cs vs hl h1 h ih=>
  rw [zQ,Zr]
  refine .agg _ vs (by simpa using hl) h1 fun i p v hp hv=>?_
  rw [List.getElem?_map] at hp
  cases hq:cs[i]? with
  |none=>simp [hq] at hp
  |some q=>simp [hq] at hp;subst hp;exact ih i q v hq hv
 |tup cs vs hl h ih=>
  rw [zQ,Zr]
  refine .tup _ vs (by simpa using hl) fun i p v hp hv=>?_
  rw [List.getElem?_map] at hp
  cases hq:cs[i]? with
  |none=>simp [hq] at hp
  |some q=>simp [hq] at hp;subst hp;exact ih i q v hq hv
 |fn f cs vs hl h ih=>
  rw [zQ,Zr]
  refine .fn f _ vs (by simpa using hl) fun i p v hp hv=>?_
  rw [List.getElem?_map] at hp
  cases hq:cs[i]? with
  |none=>simp [hq] at hp
  |some q=>simp [hq] at hp;subst hp;exact ih i q v hq hv
 |sl id off len tot blk o cap s b hm hL ht hc hb=>
  obtain ⟨h1,h2⟩:=hM id (by rw [hm];simp)
  exact .sl _ off len tot blk o cap s b (h1.trans hm) (h2.trans hL) ht hc hb
 |slVirt id hm hL=>
  obtain ⟨h1,h2⟩:=hM id (by rw [hm];simp)
  exact .slVirt _ (h1.trans hm) (h2.trans hL)
 |slOld id off len tot b c hm hL hc=>
  obtain ⟨h1,h2⟩:=hM id hm
  exact .slOld _ off len tot b c (by rw [h1];exact hm) (by omega) hc
 |ptr id row off tot blk o cap s hm hL=>
  obtain ⟨h1,h2⟩:=hM id (by rw [hm];simp)
  exact .ptr _ row off tot blk o cap s (h1.trans hm) (h2.trans hL)
 |ptrOld id row off tot a hm hL=>
  obtain ⟨h1,h2⟩:=hM id hm
  exact .ptrOld _ row off tot a (by rw [h1];exact hm) (by omega)
 |mp id blk hm hL=>
  obtain ⟨h1,h2⟩:=hM id (by rw [hm];simp)
  exact .mp _ blk (h1.trans hm) (h2.trans hL)
 |mpOld id r hm hL=>
  obtain ⟨h1,h2⟩:=hM id hm
  exact .mpOld _ r (by rw [h1];exact hm) (by omega)
mutual
theorem Wm (k:Nat):∀ (p:PV) (r:Nat),r∈Go.Av.refs (zQ k p)→∃ r',r=k+r'∧r'∈Go.Av.refs p
 |.sl id _ _ _,r,h=>by simp only [zQ,refs,List.mem_singleton] at h ⊢;exact ⟨id,h,rfl⟩
 |.ptr id _ _ _,r,h=>by simp only [zQ,refs,List.mem_singleton] at h ⊢;exact ⟨id,h,rfl⟩
 |.mp id,r,h=>by simp only [zQ,refs,List.mem_singleton] at h ⊢;exact ⟨id,h,rfl⟩
 |.agg cs,r,h=>by simp only [zQ,refs] at h ⊢;exact U8 k cs r h
 |.tup cs,r,h=>by simp only [zQ,refs] at h ⊢;exact U8 k cs r h
 |.fn _ cs,r,h=>by simp only [zQ,refs] at h ⊢;exact U8 k cs r h
 |.fz rows,r,h=>by cases rows<;>simp [zQ,refs] at h
 |.fp _ _,r,h=>by simp [zQ,refs] at h
 |.fm _,r,h=>by simp [zQ,refs] at h
 |.und,r,h=>by simp [zQ,refs] at h
 |.unk,r,h=>by simp [zQ,refs] at h
 |.int _ _,r,h=>by simp [zQ,refs] at h
 |.bool _,r,h=>by simp [zQ,refs] at h
 |.str _,r,h=>by simp [zQ,refs] at h
 |.flt _ _,r,h=>by simp [zQ,refs] at h
 |.nils,r,h=>by simp [zQ,refs] at h
 |.nilp,r,h=>by simp [zQ,refs] at h
 |.nilf,r,h=>by simp [zQ,refs] at h
 |.nilm,r,h=>by simp [zQ,refs] at h
theorem U8 (k:Nat):∀ (cs:List PV) (r:Nat),r∈zt (xG k cs)→∃ r',r=k+r'∧r'∈zt cs
 |[],r,h=>by simp [xG,zt] at h
 |c::cs,r,h=>by
  simp only [xG,zt,List.mem_append] at h ⊢
  rcases h with h|h
  ·obtain ⟨r',e,h1⟩:=Wm k c r h
   exact ⟨r',e,.inl h1⟩
  ·obtain ⟨r',e,h1⟩:=U8 k cs r h
   exact ⟨r',e,.inr h1⟩
end
theorem zph (k:Nat) (b:yf) (r:Nat) (h:r∈kM (yX k b)):∃ r',r=k+r'∧r'∈kM b:=by
 cases b with
 |cells s rows=>
  simp only [yX,kM,List.mem_flatMap,List.mem_map] at h ⊢
  obtain ⟨_,⟨row,h1,rfl⟩,h2⟩:=h
  obtain ⟨r',e,h3⟩:=U8 k row r h2
  exact ⟨r',e,row,h1,h3⟩
 |map es=>
  simp only [yX,kM,List.mem_flatMap,List.mem_map,List.mem_append] at h ⊢
  obtain ⟨_,⟨e0,h1,rfl⟩,h2⟩:=h
  rcases h2 with h2|h2
  ·obtain ⟨r',e,h3⟩:=Wm k e0.1 r h2
   exact ⟨r',e,e0,h1,.inl h3⟩
  ·obtain ⟨r',e,h3⟩:=Wm k e0.2 r h2
   exact ⟨r',e,e0,h1,.inr h3⟩
theorem Y7 (H X:zd) (id:Nat):(H++X.map (yX H.length))[H.length+id]?=(X[id]?).map (yX H.length):=by
 rw [List.getElem?_append_right (by omega),show H.length+id-H.length=id by omega,List.getElem?_map]
theorem zr0 (H X:zd) (id:Nat):zr (H++X.map (yX H.length)) (H.length+id)=zr X id:=by
 simp only [zr,Y7]
 cases X[id]? with
 |none=>rfl
 |some b=>cases b<;>simp [yX]
theorem yl.lend (R:yl G w F m H) {F1:Nat→Prop} {w':World} {F':Nat→Prop} {m':zR} {X:zd} {ed:zV} (R':yl G w' F' m' X) (g:wo w F1 (fun _=>.unk) [] w' F' m' X) (hf:ZT m' [] X ed):
  ∃ M:zR,yl G w' F M (H++X.map (yX H.length))∧wo w F m H w' F M (H++X.map (yX H.length))∧(∀ p v,zn w' F' m' (zr X) p v→zn w' F M (zr (H++X.map (yX H.length))) (zQ H.length p) v)∧
   ZT M H (H++X.map (yX H.length)) (ed.map fun e=>(H.length+e.1,H.length+e.2)):=by
 have hold:∀ b,b<w.heap.size→w'.heap[b]?=w.heap[b]?:=fun b hb=>g.old b hb (by rintro ⟨_,_,_,_,h⟩;cases h)
 let M:zR:=fun id=>if id<H.length then m id else m' (id-H.length)
 have M1:∀ id,id<H.length→M id=m id:=fun id h=>by simp only [M,if_pos h]
 have M2:∀ id,M (H.length+id)=m' id:=fun id=>by simp only [M];rw [if_neg (by omega),show H.length+id-H.length=id by omega]
 have hl:∀ id,id<H.length→zr (H++X.map (yX H.length)) id=zr H id:=fun id h=>zic (List.getElem?_append_left h)
 have hV:∀ p v,zn w' F' m' (zr X) p v→zn w' F M (zr (H++X.map (yX H.length))) (zQ H.length p) v:=fun p v h=>zn1 (fun id _=>⟨M2 id,zr0 H X id⟩) h
 have hlt:∀ id,m id≠.unk→id<H.length:=fun id h=>by
  rcases Nat.lt_or_ge id H.length with h1|h1
  ·exact h1
  ·exact absurd (R.fresh id h1) h
 have hO:∀ p v,zn w F m (zr H) p v→zn w' F M (zr (H++X.map (yX H.length))) p v:=fun p v h=>h.mono (fun b hb=>hold b (R.ltF b hb)) (fun _ h=>h) fun id hid=>by
  have:=hlt id hid
  rw [M1 id this,hl id this]
  exact ⟨hid,Nat.le_refl _,fun _=>rfl⟩
 have hhas:∀ b,M.has b→m.has b∨m'.has b:=by
  rintro b ⟨id,o,c,s,h⟩
  by_cases hi:id<H.length
  ·rw [M1 id hi] at h;exact .inl ⟨id,o,c,s,h⟩
  ·simp only [M,if_neg hi] at h;exact .inr ⟨_,o,c,s,h⟩
 have hnew:∀ b,m'.has b→w.heap.size≤b:=fun b h=>by
  rcases g.img b h with ⟨_,_,_,_,h⟩|h
  ·cases h
  ·exact h
 refine ⟨M,⟨fun id s rows hj=>?_,fun id es hj=>?_,fun id hid=>?_,fun id id' b o c s o' c' s' h1 h2=>?_,fun b hb=>?_,fun b hb=>Nat.lt_of_lt_of_le (R.ltF b hb) g.heap,fun b hb hF=>?_,fun gg cs hg=>(R.glob gg cs hg).mono (fun b hb=>hold b (R.ltF b hb)) fun _ h=>h⟩,
  ⟨g.heap,fun _ h=>h,fun _ h=>.inl h,fun b hb _=>hold b hb,fun id hid=>?_,fun b hb=>?_,g.os,g.tape,g.output,g.froz,by simp,fun id h1 h2=>?_⟩,hV,fun id b r hid hb hr hlt'=>?_⟩
 ·by_cases hi:id<H.length
  ·rw [List.getElem?_append_left hi] at hj
   rw [M1 id hi]
   rcases R.cells id s rows hj with h|h|⟨x,o',c',k1,k2⟩
   ·exact .inl h
   ·exact .inr (.inl h)
   ·exact .inr (.inr ⟨x,o',c',k1,k2.mono (hold x (R.lt x ⟨id,o',c',s,k1⟩)) hO⟩)
  ·obtain ⟨j,rfl⟩:∃ j,id=H.length+j:=⟨id-H.length,by omega⟩
   rw [Y7] at hj
   rw [M2]
   cases hX:X[j]? with
   |none=>rw [hX] at hj;cases hj
   |some b=>
    rw [hX] at hj
    cases b with
    |map es=>simp [yX] at hj
    |cells s0 rows0=>
     simp only [Option.map_some,yX,Option.some.injEq,yf.cells.injEq] at hj
     obtain ⟨rfl,rfl⟩:=hj
     rcases R'.cells j s0 rows0 hX with h|⟨h,rfl⟩|⟨x,o',c',k1,k2⟩
     ·exact .inl h
     ·exact .inr (.inl ⟨h,rfl⟩)
     ·refine .inr (.inr ⟨x,o',c',k1,⟨by simpa using k2.room,?_,fun i r hr=>?_⟩⟩)
      ·obtain ⟨cur,t,c1,c2,c3⟩:=k2.cur
       refine ⟨cur,t,c1,c2,fun i r j p hr hp=>?_⟩
       rw [List.getElem?_map] at hr
       cases hq:rows0[i]? with
       |none=>simp [hq] at hr
       |some r0=>
        simp only [hq,Option.map_some,Option.some.injEq] at hr
        subst hr
        rw [Zr,List.getElem?_map] at hp
        cases hq2:r0[j]? with
        |none=>simp [hq2] at hp
        |some p0=>
         simp only [hq2,Option.map_some,Option.some.injEq] at hp
         subst hp
         obtain ⟨v,v1,v2,v3⟩:=c3 i r0 j p0 hq hq2
         exact ⟨v,v1,v2,hV _ _ v3⟩
      ·rw [List.getElem?_map] at hr
       cases hq:rows0[i]? with
       |none=>simp [hq] at hr
       |some r0=>
        simp only [hq,Option.map_some,Option.some.injEq] at hr
        subst hr
        rw [Zr,List.length_map]
        exact k2.size i r0 hq
 ·by_cases hi:id<H.length
  ·rw [List.getElem?_append_left hi] at hj
   rw [M1 id hi]
   rcases R.maps id es hj with h|⟨x,k1,k2⟩
   ·exact .inl h
   ·exact .inr ⟨x,k1,k2.mono (hold x (R.lt x ⟨id,0,0,0,k1⟩)) hO⟩
  ·obtain ⟨j,rfl⟩:∃ j,id=H.length+j:=⟨id-H.length,by omega⟩
   rw [Y7] at hj
   rw [M2]
   cases hX:X[j]? with
   |none=>rw [hX] at hj;cases hj
   |some b=>
    rw [hX] at hj
    cases b with
    |cells s0 rows0=>simp [yX] at hj
    |map es0=>
     simp only [Option.map_some,yX,Option.some.injEq,yf.map.injEq] at hj
     subst hj
     rcases R'.maps j es0 hX with h|⟨x,k1,k2⟩
     ·exact .inl h
     ·refine .inr ⟨x,k1,?_⟩
      obtain ⟨xs,clock,c1,c2,c3,c4⟩:=k2.cur
      refine ⟨⟨xs,clock,c1,by simpa using c2,fun i e y he hy=>?_,fun i e y he hy=>?_⟩,k2.born⟩
      all_goals
       rw [List.getElem?_map] at he
       cases hq:es0[i]? with
       |none=>simp [hq] at he
       |some e0=>
        simp only [hq,Option.map_some,Option.some.injEq] at he
        subst he
        first|exact hV _ _ (c3 i e0 y hq hy)|exact hV _ _ (c4 i e0 y hq hy)
 ·simp only [List.length_append,List.length_map] at hid
  obtain ⟨j,rfl⟩:∃ j,id=H.length+j:=⟨id-H.length,by omega⟩
  rw [M2];exact R'.fresh j (by omega)
 ·by_cases hi:id<H.length
  ·by_cases hi':id'<H.length
   ·rw [M1 id hi] at h1;rw [M1 id' hi'] at h2
    exact R.inj _ _ _ _ _ _ _ _ _ h1 h2
   ·rw [M1 id hi] at h1
    simp only [M,if_neg hi'] at h2
    have:=R.lt b ⟨id,o,c,s,h1⟩
    have:=hnew b ⟨_,o',c',s',h2⟩
    omega
  ·by_cases hi':id'<H.length
   ·rw [M1 id' hi'] at h2
    simp only [M,if_neg hi] at h1
    have:=R.lt b ⟨id',o',c',s',h2⟩
    have:=hnew b ⟨_,o,c,s,h1⟩
    omega
   ·simp only [M,if_neg hi] at h1
    simp only [M,if_neg hi'] at h2
    have:=R'.inj _ _ _ _ _ _ _ _ _ h1 h2
    omega
 ·rcases hhas b hb with h|h
  ·exact Nat.lt_of_lt_of_le (R.lt b h) g.heap
  ·exact R'.lt b h
 ·rcases hhas b hb with h|h
  ·exact R.apart b h hF
  ·have:=hnew b h;have:=R.ltF b hF;omega
 ·have:=hlt id hid
  rw [M1 id this,hl id this]
  exact ⟨hid,Nat.le_refl _,fun _=>rfl⟩
 ·rcases hhas b hb with h|h
  ·exact .inl h
  ·exact .inr (hnew b h)
 ·rcases Nat.lt_or_ge id H.length with h3|h3
  ·rw [M1 id h3] at h2;exact absurd h1 h2
  ·exact h3
 ·by_cases hi:id<H.length
  ·rw [List.getElem?_append_left hi] at hb
   exact .inl ⟨b,hb,hr⟩
  ·obtain ⟨j,rfl⟩:∃ j,id=H.length+j:=⟨id-H.length,by omega⟩
   rw [Y7] at hb
   rw [M2] at hid
   cases hX:X[j]? with
   |none=>rw [hX] at hb;cases hb
   |some b0=>
    rw [hX] at hb
    simp only [Option.map_some,Option.some.injEq] at hb
    subst hb
    obtain ⟨r',rfl,hr'⟩:=zph _ _ _ hr
    rcases hf j b0 r' hid hX hr' (by omega) with ⟨b1,h1,_⟩|h1
    ·simp at h1
    ·exact .inr (List.mem_map.2 ⟨_,h1,rfl⟩)
def zae (P:Program) (G:Nat→Option (List PV)) (o:Oper) (a:Act) (w:World) (F:Nat→Prop) (m:zR) (H:zd) (v:PV) (H':zd) (ed:zV) (q:Bool):Prop:=
 ∀ (K:Act→World→Prop) (Q:Exit→Act→World→Prop),
  (∀ cv w' F' m',yl G w' F' m' H'→wo w F m H w' F' m' H'→zn w' F' m' (zr H') v cv→(q=true→UK w m H w' m' H')→(q=false→ZT m' H H' ed)→K (a.put o.dst cv) w')→o.wp P a w K Q
theorem zae.ok {v:PV} {H':zd} {ed:zV} {q:Bool} (h:zae P G o a w F m H v H' ed q):ya P G o a w F m H v H' q:=fun K Q hk=>h K Q fun cv w' F' m' h1 h2 h3 h4 _=>hk cv w' F' m' h1 h2 h3 h4
theorem zae.call {C:Cl} (hC:VW P G C) (R:yl G w F m H) {md:Kt} {f:Nat} {args:List PV} {us:List Value} (hargs:yP (zn w F m (zr H)) args us) {v:PV} {H':zd} {ed:zV} (he:xJ C H md f args=some (v,H',ed))
  (hr:(execOp a.eval o).run P w=.ok (.enter f us.toArray) w):zae P G o a w F m H v H' ed (Vt md):=by
 intro K Q h
 unfold Oper.wp
 rw [hr,Oper.upon_enter]
 cases md with
 |pure=>
  unfold xJ at he
  simp only at he
  split at he
  ·rename_i v' hp
   split at he
   ·rename_i hb
    injection he with he
    injection he with e1 e2
    injection e2 with e2 e3
    subst e1;subst e2;subst e3
    have kP:∀ (F1:Nat→Prop),(∀ b,F b→F1 b)→(∀ b,F1 b→b<w.heap.size)→yP (RelF w F1) (args.map (frz 8 H)) us→(uZ v'=true∨F1=F)→
      Calls P f us.toArray w fun
       |.returned v,w''=>K (a.put o.dst v) w''
       |.panicked chain,w''=>Q (.panic chain) a w''
       |.outgrown,_=>LetsOut Q:=by
     intro F1 k1 k2 k3 k4
     refine (hC.pure f _ v' hp w F1 us k3 k2 (fun g cs hg=>(R.glob g cs hg).sub k1)).mono ?_
     rintro e w' ⟨cv,rfl,q1,q2,q3,F',q4,q5,q6,q7⟩
     rcases k4 with k4|rfl
     ·obtain ⟨R',g',qq⟩:=R.world (F':=F) q1 q2 q3 (fun _ h=>h) (fun _ h=>.inl h) (fun b hb=>Nat.lt_of_lt_of_le (R.ltF b hb) q1)
      exact h cv w' F m R' g' (.froz _ _ (zr_ k4 q7)) (fun _=>qq) fun h=>by cases h
     ·obtain ⟨R',g',qq⟩:=R.world (F':=F') q1 q2 q3 q4 q5 q6
      exact h cv w' F' m R' g' (.froz _ _ q7) (fun _=>qq) fun h=>by cases h
    by_cases hp':uZ v'=true
    ·exact kP (fun b=>F b∨m.has b) (fun b hb=>.inl hb) (fun b hb=>hb.elim (R.ltF b) (R.lt b)) (hargs.toRelF fun p v _ hv=>XQ R 8 hv) (.inl hp')
    ·have hn:zt args=[]:=by simpa [hp'] using hb
     have hl:∀ {cs:List PV},zt cs=[]→∀ p∈cs,refs p=[]:=by
      intro cs
      induction cs with
      |nil=>intro _ p hp;cases hp
      |cons c cs ihc=>
       intro h p hp
       simp only [zt,List.append_eq_nil_iff] at h
       cases hp with
       |head=>exact h.1
       |tail _ hp=>exact ihc h.2 p hp
     exact kP F (fun b hb=>hb) R.ltF (hargs.toRelF fun p v hp hv=>zl_ 8 (hl hn p hp) hv) (.inr rfl)
   ·cases he
  ·cases he
 |shared=>
  refine (hC.shared f args H v H' ed he w F m us R hargs).mono ?_
  rintro e w' ⟨cv,F',m',rfl,R',g',hv,hf⟩
  exact h cv w' F' m' R' g' hv (fun h=>by simp [Vt] at h) fun _=>hf
 |lend=>
  unfold xJ at he
  simp only at he
  split at he
  ·rename_i v' X ed' hp
   injection he with he
   injection he with e1 e2
   injection e2 with e2 e3
   subst e1;subst e2;subst e3
   have hF1:∀ b,(F b∨m.has b)→b<w.heap.size:=fun b hb=>hb.elim (R.ltF b) (R.lt b)
   have R0:yl G w (fun b=>F b∨m.has b) (fun _=>.unk) []:=⟨fun id s rows h=>by simp at h,fun id es h=>by simp at h,fun _ _=>rfl,fun id id' b o c s o' c' s' h1 _=>(by cases h1),fun b hb=>(by obtain ⟨_,_,_,_,h⟩:=hb;cases h),hF1,fun b hb _=>(by obtain ⟨_,_,_,_,h⟩:=hb;cases h),fun g cs hg=>(R.glob g cs hg).sub fun b hb=>.inl hb⟩
   refine (hC.shared f _ [] v' X ed' hp w (fun b=>F b∨m.has b) (fun _=>.unk) us R0 ((hargs.toRelF (g:=frz 8 H) fun p v _ hv=>XQ R 8 hv).mono fun p v h=>.froz p v h)).mono ?_
   rintro e w' ⟨cv,F',m',rfl,R',g',hv,hf⟩
   obtain ⟨M,k1,k2,k3,k4⟩:=R.lend R' g' hf
   exact h cv w' F M k1 k2 (k3 _ _ hv) (fun h=>by simp [Vt] at h) fun _=>k4
  ·cases he
 |fresh=>
  unfold xJ at he
  simp only at he
  split at he
  ·rename_i v' X ed' hp
   injection he with he
   injection he with e1 e2
   injection e2 with e2 e3
   subst e1;subst e2;subst e3
   have hF1:∀ b,(F b∨m.has b)→b<w.heap.size:=fun b hb=>hb.elim (R.ltF b) (R.lt b)
   have R0:yl G w (fun b=>F b∨m.has b) (fun _=>.unk) []:=⟨fun id s rows h=>by simp at h,fun id es h=>by simp at h,fun _ _=>rfl,fun id id' b o c s o' c' s' h1 _=>(by cases h1),fun b hb=>(by obtain ⟨_,_,_,_,h⟩:=hb;cases h),hF1,fun b hb _=>(by obtain ⟨_,_,_,_,h⟩:=hb;cases h),fun g cs hg=>(R.glob g cs hg).sub fun b hb=>.inl hb⟩
   refine (hC.shared f _ [] v' X ed' hp w (fun b=>F b∨m.has b) (fun _=>.unk) us R0 ((hargs.toRelF (g:=frz 8 H) fun p v _ hv=>XQ R 8 hv).mono fun p v h=>.froz p v h)).mono ?_
   rintro e w' ⟨cv,F',m',rfl,R',g',hv,hf⟩
   have R00:yl G w F (fun _=>.unk) []:=⟨fun id s rows h=>by simp at h,fun id es h=>by simp at h,fun _ _=>rfl,fun id id' b o c s o' c' s' h1 _=>(by cases h1),fun b hb=>(by obtain ⟨_,_,_,_,h⟩:=hb;cases h),R.ltF,fun b hb _=>(by obtain ⟨_,_,_,_,h⟩:=hb;cases h),fun g cs hg=>R.glob g cs hg⟩
   obtain ⟨M,k1,k2,k3,k4⟩:=R00.lend R' g' hf
   have hvv:=XQ k1 8 (k3 _ _ hv)
   have hM:∀ b,M.has b→w.heap.size≤b:=fun b hb=>by
    rcases k2.img b hb with ⟨_,_,_,_,h⟩|h
    ·cases h
    ·exact h
   obtain ⟨R2,g2,qq⟩:=R.world (F':=fun b=>F b∨M.has b) k2.heap (fun b hb=>k2.old b hb (by rintro ⟨_,_,_,_,h⟩;cases h)) ⟨k2.os,k2.tape,k2.output,k2.froz⟩ (fun _ h=>.inl h) (fun b h=>h.elim .inl fun h=>.inr (hM b h)) (fun b hb=>hb.elim (fun h=>Nat.lt_of_lt_of_le (R.ltF b h) k2.heap) fun h=>k1.lt b h)
   exact h cv w' _ m R2 g2 (.froz _ _ hvv) (fun _=>qq) fun h=>by cases h
  ·cases he
end
end
section
section
variable {P:Program} {G:Nat→Option (List PV)} {T:ye} {nt:Nat} {w:World} {F:Nat→Prop} {m:zR} {st:St} {a:Act} {o:Oper}
theorem um (blk o n:Nat):(⟨blk,o,none⟩:Addr).add n=⟨blk,o+n,none⟩:=by unfold Addr.add;split<;>simp_all
theorem Jb {R:PV→Value→Prop} {cs:List PV} {g:Bool} {sz:Nat} {v:PV} (h:xb g sz cs=some v):
  (g=true∧sz≤cs.length∧v=.agg (cs.take sz))∨(g=false∧cs[0]?=some v):=by
 cases g with
 |true=>
  simp only [xb] at h
  split at h
  ·rename_i hb
   injection h with h
   exact .inl ⟨rfl,Nat.le_of_ble_eq_true hb,h.symm⟩
  ·cases h
 |false=>
  simp only [xb] at h
  exact .inr ⟨rfl,by cases cs<;>simp_all⟩
theorem zyu (R:yl G w F m st.H) {t:TypeId} {x:Operand} (ho:o.op=.load t x) {g:Bool} {sz:Nat} (hg:J2 P t=some g) (hs:vO P t=some sz) {y:PV} (hy:zn w F m (zr st.H) y (a.eval x))
  {cs:List PV} (hc:cellsAt st.H y=some cs) {v:PV} (hv:xb g sz cs=some v):ya P G o a w F m st.H v st.H true:=by
 obtain ⟨blk,off,hx,hl⟩:=R.cellsAt hc hy
 obtain ⟨i,hi,hi2⟩:=ui hs
 have ha:=Qa hg w
 obtain ⟨vs,h1,h2,h3⟩:=hl.all2
 rcases Jb (R:=zn w F m (zr st.H)) hv with ⟨rfl,hle,rfl⟩|⟨rfl,h0⟩
 ·have hlc:=run_loadCells_list (P:=P) w ⟨blk,off,none⟩ (vs.take sz) (fun j v hj=>by
   rw [um]
   rw [List.getElem?_take] at hj
   split at hj
   ·exact h3 j v hj
   ·cases hj)
  rw [List.length_take,Nat.min_eq_left (by rw [h1.1];exact hle)] at hlc
  refine ya.same (cv:=.agg (vs.take sz).toArray) R ?_ (.agg _ _ (h1.take sz).1 (fun u hu=>h2 u (List.mem_of_mem_take hu)) (h1.take sz).2)
  simp [execOp,ho,Instr.loadAt,Instr.sureAddr,hx,loadVar,ha,sizeOf,typeInfo,hi,hi2,hlc]
 ·obtain ⟨u,hu,hr⟩:=h1.get h0
  have:=h3 0 u hu
  rw [Nat.add_zero] at this
  refine ya.same (cv:=u) R ?_ hr
  simp [execOp,ho,Instr.loadAt,Instr.sureAddr,hx,loadVar,ha,this]
theorem zw8 (R:yl G w F m st.H) {t:TypeId} {x:Operand} {k:Nat} (ho:o.op=.field t x k) {fields:Array Field} (hu:P.underlying t=some (.struct fields)) {f:Field} (hf:fields[k]?=some f) {g:Bool} {sz:Nat}
  (hg:J2 P f.type=some g) (hs:vO P f.type=some sz) {cs:List PV} (hy:zn w F m (zr st.H) (.agg cs) (a.eval x)) {v:PV} (hv:xb g sz (cs.drop f.offset)=some v):ya P G o a w F m st.H v st.H true:=by
 obtain ⟨vs,hx,h1,h2⟩:=hy.agg_inv
 obtain ⟨i,hi,hi2⟩:=ui hs
 have ha:=Qa hg w
 rcases Jb (R:=zn w F m (zr st.H)) hv with ⟨rfl,hle,rfl⟩|⟨rfl,h0⟩
 ·have h3:=(h1.drop f.offset).take sz
  refine ya.same (cv:=.agg ((vs.drop f.offset).take sz).toArray) R ?_ (.agg _ _ h3.1 (fun u hu=>h2 u (List.mem_of_mem_drop (List.mem_of_mem_take hu))) h3.2)
  have he:vs.toArray.extract f.offset (f.offset+sz)=((vs.drop f.offset).take sz).toArray:=by
   simp [List.extract_eq_take_drop]
  simp only [execOp,ho,Instr.field,run_underlying hu,hx,asAgg,part,ha,sizeOf,typeInfo,hi,hi2,hf,Sem.run_bind,Sem.run_pure,Result.andThen_ok,program,Sem.run,if_true,he]
 ·obtain ⟨u,hu',hr⟩:=(h1.drop f.offset).get h0
  have h4:vs[f.offset]?=some u:=by rw [List.getElem?_drop] at hu';simpa using hu'
  refine ya.same (cv:=u) R ?_ hr
  simp [execOp,ho,Instr.field,run_underlying hu,hx,asAgg,part,ha,hf,h4]
theorem zuR (R:yl G w F m st.H) {t e:TypeId} {x i:Operand} (ho:o.op=.index t x i) {n:Nat} (hu:P.underlying t=some (.array n e)) {g:Bool} {sz:Nat}
  (hg:J2 P e=some g) (hs:vO P e=some sz) {cs:List PV} (hy:zn w F m (zr st.H) (.agg cs) (a.eval x)) {k:IntKind} {j:Int} (hi':a.eval i=.int k j) (h0:0≤j) (hn:j<n) {v:PV} (hv:xb g sz (cs.drop (j.toNat*sz))=some v):ya P G o a w F m st.H v st.H true:=by
 obtain ⟨vs,hx,h1,h2⟩:=hy.agg_inv
 obtain ⟨ie,hi,hi2⟩:=ui hs
 have ha:=Qa hg w
 rcases Jb (R:=zn w F m (zr st.H)) hv with ⟨rfl,hle,rfl⟩|⟨rfl,h0'⟩
 ·have h3:=(h1.drop (j.toNat*sz)).take sz
  refine ya.same (cv:=.agg ((vs.drop (j.toNat*sz)).take sz).toArray) R ?_ (.agg _ _ h3.1 (fun u hu=>h2 u (List.mem_of_mem_drop (List.mem_of_mem_take hu))) h3.2)
  have he:vs.toArray.extract (j.toNat*sz) (j.toNat*sz+sz)=((vs.drop (j.toNat*sz)).take sz).toArray:=by
   simp [List.extract_eq_take_drop]
  simp only [execOp,ho,Instr.index,run_underlying hu,hx,hi',asIntOf,part,ha,sizeOf,typeInfo,hi,hi2,Sem.run_bind,Sem.run_pure,Result.andThen_ok,program,Sem.run,if_pos (And.intro h0 hn),if_true,he]
 ·obtain ⟨u,hu',hr⟩:=(h1.drop (j.toNat*sz)).get h0'
  have h4:vs[j.toNat*sz]?=some u:=by rw [List.getElem?_drop] at hu';simpa using hu'
  refine ya.same (cv:=u) R ?_ hr
  simp [execOp,ho,Instr.index,run_underlying hu,hx,hi',asIntOf,part,ha,sizeOf,typeInfo,hi,hi2,h0,hn,h4]
theorem zq8 {op:BinOp} {t:TypeId} (ht:zli P t=true) {x y:PV} {u v:Value} {L:Nat→Nat} (hx:zn w F m L x u) (hy:zn w F m L y v) {z:PV} (h:bin op x y=some z):
  ∃ cv,(binOp op t u v).run P w=.ok cv w∧RelF w F z cv∧∀ w:World,(eqGuard op t (.const .nilFunc) (.const .nilFunc) u v).run P w=.ok () w:=by
 cases x<;>cases y<;>simp only [bin] at h<;>try (cases h;done)
 case int.int k a k' b=>
  split at h
  ·rename_i hk
   have hk:k=k':=by simpa using hk
   subst hk
   rw [hx.int_inv,hy.int_inv]
   cases op<;>simp only [kw] at h<;>first
    |(injection h with h;subst h;exact ⟨_,by simp [binOp,Op.intArith,Op.intCmp];rfl,by constructor,fun w=>by simp [eqGuard]⟩)
    |(split at h
      ·cases h
      ·rename_i h0
       injection h with h
       subst h
       exact ⟨_,by simp [binOp,Op.intDiv,h0];rfl,by constructor,fun w=>by simp [eqGuard]⟩)
    |(cases h;done)
  ·cases h
 case flt.flt k a k' b=>
  split at h
  ·rename_i hk
   have hk:k=k':=by simpa using hk
   subst hk
   rw [hx.flt_inv,hy.flt_inv]
   cases op<;>simp only [UX] at h<;>first
    |(injection h with h;subst h;exact ⟨_,by simp [binOp,Op.floatCmp];rfl,by constructor,fun w=>by simp [eqGuard]⟩)
    |(split at h
      ·rename_i r hr
       injection h with h
       subst h
       exact ⟨_,by simp [binOp,Op.floatArith,hr];rfl,by constructor,fun w=>by simp [eqGuard]⟩
      ·cases h)
    |(cases h;done)
  ·cases h
 case str.str a b=>
  rw [hx.str_inv,hy.str_inv]
  cases op<;>simp only [zbP] at h<;>first
   |(injection h with h;subst h;exact ⟨_,by simp [binOp,Op.stringOp];rfl,by constructor,fun w=>by simp [eqGuard]⟩)
   |(split at h
     ·rename_i h0
      injection h with h
      subst h
      exact ⟨_,by simp [binOp,Op.stringOp,IntKind.max,IntKind.signed,IntKind.bits];omega,.str _,fun w=>by simp [eqGuard]⟩
     ·cases h)
   |(cases h;done)
theorem zha (op:BinOp) (t:TypeId) (x y:Operand) (u v:Value) (hu:u≠.nilIface):eqGuard op t x y u v=eqGuard op t (.const .nilFunc) (.const .nilFunc) u v:=by
 unfold eqGuard
 cases u<;>first|(exact absurd rfl hu)|(cases v<;>rfl)
theorem zz_ (R:yl G w F m st.H) {op:BinOp} {t t':TypeId} {x y:Operand} (ho:o.op=.binOp op t x y t') (ht:zli P t=true) {px py z:PV} (hx:zn w F m (zr st.H) px (a.eval x)) (hy:zn w F m (zr st.H) py (a.eval y))
  (h:bin op px py=some z):ya P G o a w F m st.H z st.H true:=by
 obtain ⟨cv,h1,h2,h3⟩:=zq8 ht hx hy h
 have hne:a.eval x≠.nilIface:=by
  intro e
  rw [e] at hx
  cases hx with
  |froz _ _ h'=>cases h'<;>simp [bin] at h
 refine ya.same (cv:=cv) R ?_ (.froz _ _ h2)
 simp only [execOp,ho,zha op t x y _ _ hne,Sem.run_bind,h3,h1,Result.andThen_ok,Sem.run_pure]
theorem zhn {w:World} {t:TypeId} (hu:P.underlying t=some .bool) (d:Nat) (p q:Bool):(Op.equalIn (d+1) t (.bool p) (.bool q)).run P w=.ok (p==q) w:=by
 simp [Op.equalIn,run_underlying hu]
theorem zAa (R:yl G w F m st.H) {op:BinOp} {t t':TypeId} {x y:Operand} (ho:o.op=.binOp op t x y t') (ht:zhH P t=true) {neg:Bool} (hn:zf' op=some neg) {p q:Bool} (hx:a.eval x=.bool p) (hy:a.eval y=.bool q):
  ya P G o a w F m st.H (.bool (V6 neg (p==q))) st.H true:=by
 have hu:P.underlying t=some .bool:=by
  unfold zhH at ht
  split at ht
  ·assumption
  ·cases ht
 have hg:∀ op,(eqGuard op t x y (.bool p) (.bool q)).run P w=.ok () w:=fun op=>by cases op<;>rfl
 have he:(Op.equal t (.bool p) (.bool q)).run P w=.ok (p==q) w:=zhn hu 9999 p q
 refine ya.same (cv:=.bool (V6 neg (p==q))) R ?_ (.froz _ _ (.bool _))
 cases op<;>simp only [zf'] at hn<;>first
  |(cases hn;done)
  |(injection hn with hn
    subst hn
    simp only [execOp,ho,hx,hy,Sem.run_bind,hg,binOp,he,Result.andThen_ok,Sem.run_pure,V6])
theorem zvg (k:IntKind) (n:Int):k.wrap ((BitVec.ofInt k.bits (-1) ^^^ BitVec.ofInt k.bits n).toNat:Int)=k.wrap (-1-n):=by
 have h1:BitVec.ofInt k.bits (-1)=BitVec.allOnes k.bits:=by cases k<;>rfl
 rw [h1,BitVec.allOnes_xor,BitVec.toNat_not,BitVec.toNat_ofInt]
 have e:((2 ^ k.bits-1-(n%((2 ^ k.bits:Nat):Int)).toNat:Nat):Int)%(2 ^ k.bits:Int)=(-1-n)%(2 ^ k.bits:Int):=by
  have hM:(2 ^ k.bits:Int)=((2 ^ k.bits:Nat):Int):=by simp
  rw [hM]
  have hp:0<2 ^ k.bits:=Nat.two_pow_pos _
  generalize 2 ^ k.bits=M at *
  have r0:=Int.emod_nonneg n (show (M:Int)≠0 by omega)
  have r1:=Int.emod_lt_of_pos n (show (0:Int)<M by omega)
  have e1:((M-1-(n%(M:Int)).toNat:Nat):Int)=(-1-n%(M:Int))+M*1:=by omega
  rw [e1,Int.add_mul_emod_self_left,Int.sub_emod,Int.emod_emod_of_dvd _ (Int.dvd_refl _), ←Int.sub_emod]
 simp only [IntKind.wrap,e]
theorem zBp (R:yl G w F m st.H) {op:UnOp} {t:TypeId} {x:Operand} (ho:o.op=.unOp op t x) {px z:PV} (hx:zn w F m (zr st.H) px (a.eval x)) (h:un op px=some z):ya P G o a w F m st.H z st.H true:=by
 cases px<;>simp only [un] at h<;>try (cases h;done)
 case int k n=>
  have hv:=hx.int_inv
  cases op<;>simp only at h<;>try (cases h;done)
  case neg=>
   injection h with h
   subst h
   exact ya.same (cv:=.int k (k.wrap (0-n))) R (by simp [execOp,ho,hv,Op.unary,Op.intArith]) (.froz _ _ (.int _ _))
  case xor=>
   split at h
   ·rename_i hs
    injection h with h
    subst h
    refine ya.same (cv:=.int k (k.wrap (-1-n))) R ?_ (.froz _ _ (.int _ _))
    simp only [execOp,ho,hv,Op.unary,hs,if_true,Sem.run_bind,Op.intBits,zvg,Sem.run_pure,Result.andThen_ok]
   ·cases h
 case bool b=>
  have hv:=hx.bool_inv
  cases op<;>simp only at h<;>try (cases h;done)
  injection h with h
  subst h
  exact ya.same (cv:=.bool (!b)) R (by simp [execOp,ho,hv,Op.unary]) (.froz _ _ (.bool _))
theorem zyr (R:yl G w F m st.H) {s d:TypeId} {x:Operand} (ho:o.op=.convert s d x) {k0 k k':IntKind} (hs:P.underlying s=some (.int k0)) (hd:P.underlying d=some (.int k)) {n:Int} (hx:a.eval x=.int k' n):
  ya P G o a w F m st.H (.int k (k.wrap n)) st.H true:=
 ya.same (cv:=.int k (k.wrap n)) R (by simp [execOp,ho,hx,convert,run_underlying hs,run_underlying hd,Conv.intToInt]) (.froz _ _ (.int _ _))
theorem zAc (R:yl G w F m st.H) {s d:TypeId} {x:Operand} (ho:o.op=.convert s d x) {k0 k':IntKind} (hs:P.underlying s=some (.int k0)) (hd:P.underlying d=some (.float .f64)) {n:Int} (hx:a.eval x=.int k' n):
  ya P G o a w F m st.H (.flt .f64 (FloatKind.f64.nearest n)) st.H true:=
 ya.same (cv:=.float .f64 (FloatKind.f64.nearest n)) R (by simp [execOp,ho,hx,convert,run_underlying hs,run_underlying hd,Conv.intToFloat]) (.froz _ _ (.flt _ _))
theorem zz' (R:yl G w F m st.H) {t:TypeId} {x:Operand} (ho:o.op=.box t x) {y:PV} (hy:zn w F m (zr st.H) y (a.eval x)) (hl:(cellsOf y).all zH=true):
  ya P G o a w F m st.H (.ptr st.H.length 0 0 1) (st.H++[.cells (cellsOf y).length [cellsOf y]]) true:=by
 obtain ⟨h1,h2⟩:=hy.cells hl
 refine ya.alloc (cv:=.pointer (some ⟨w.heap.size,0,none⟩)) (cap:=1) (s:=(cellsOf y).length) (rows:=[cellsOf y]) (cur:=(a.eval x).cells) (t:=t) R ?_ (by simp) ?_ ?_ ?_ ?_
 ·simp [execOp,ho,Instr.box,newVar,newRow,newObj];rfl
 ·have:=h1.1;simp at this;omega
 ·intro i r hi;cases i<;>simp at hi;subst hi;rfl
 ·intro i r j p hi hj
  cases i<;>simp at hi
  subst hi
  obtain ⟨u,hu,hr⟩:=h1.get hj
  exact ⟨u,by simpa using hu,h2 u (List.mem_of_getElem? hu),hr⟩
 ·intro m' hm
  have:=zn.ptr (w:=w.alloc (.cells (a.eval x).cells t (0,0))) (F:=F) (L:=zr (st.H++[.cells (cellsOf y).length [cellsOf y]])) st.H.length 0 0 1 w.heap.size 0 1 (cellsOf y).length hm (by simp [zr])
  simpa using this
theorem zw7 (R:yl G w F m st.H) {t:TypeId} (ho:o.op=.alloc t) {z:List PV} (hz:kH P t=some z):ya P G o a w F m st.H (.ptr st.H.length 0 0 1) (st.H++[.cells z.length [z]]) true:=by
 obtain ⟨i,zv,hi,hzv,hc⟩:=Xf hz
 obtain ⟨h1,h2,h3⟩:=vt (w:=w) (F:=F) hc
 refine ya.alloc (cv:=.pointer (some ⟨w.heap.size,0,none⟩)) (cap:=1) (s:=z.length) (rows:=[z]) (cur:=zv.cells) (t:=t) R ?_ (by simp) ?_ ?_ ?_ ?_
 ·simp [execOp,ho,Instr.alloc,zeroValue,typeInfo,hi,hzv,newVar,newRow,newObj];rfl
 ·have:=h1.1;simp at this;omega
 ·intro i r hi;cases i<;>simp at hi;subst hi;rfl
 ·intro i r j p hi hj
  cases i<;>simp at hi
  subst hi
  obtain ⟨u,hu,hr⟩:=h1.get hj
  exact ⟨u,by simpa using hu,h2 u (List.mem_of_getElem? hu),.froz _ _ hr⟩
 ·intro m' hm
  have:=zn.ptr (w:=w.alloc (.cells zv.cells t (0,0))) (F:=F) (L:=zr (st.H++[.cells z.length [z]])) st.H.length 0 0 1 w.heap.size 0 1 z.length hm (by simp [zr])
  simpa using this
theorem zuP (R:yl G w F m st.H) {t:TypeId} {x:Operand} {k:Nat} (ho:o.op=.fieldAddr t x k) {fields:Array Field} (hu:P.underlying t=some (.struct fields)) {f:Field} (hf:fields[k]?=some f) {sz:Nat} (hs:vO P f.type=some sz) (h0:sz≠0)
  {y z:PV} (hy:zn w F m (zr st.H) y (a.eval x)) (hz:(match y with|.ptr id row off tot=>some (.ptr id row (off+f.offset) tot)|.fp cs off=>some (.fp cs (off+f.offset))|_=>none)=some z):ya P G o a w F m st.H z st.H true:=by
 obtain ⟨i,hi,hi2⟩:=ui hs
 have hrun':∀ ad,a.eval x=.pointer (some ad)→(execOp a.eval o).run P w=.ok (.value (.pointer (some (ad.add f.offset)))) w:=by
  intro ad hx
  have:i.size≠0:=by omega
  simp [execOp,ho,Instr.fieldAt,run_underlying hu,hf,hx,Instr.sureAddr,fieldPlace,sizeOf,typeInfo,hi,this]
 have hrun:∀ blk off,a.eval x=.pointer (some ⟨blk,off,none⟩)→(execOp a.eval o).run P w=.ok (.value (.pointer (some ⟨blk,off+f.offset,none⟩))) w:=by
  intro blk off hx
  rw [←um]
  exact hrun' _ hx
 cases y<;>simp only at hz<;>try (cases hz;done)
 case fp cs off=>
  injection hz with hz
  subst hz
  cases hy with
  |froz _ _ h=>
   generalize hx:a.eval x=v at h
   cases h with
   |fp _ blk o' _ f' hF h1 hw h=>
    refine ya.same R (hrun blk (o'+off) hx) (.froz _ _ ?_)
    rw [Nat.add_assoc]
    exact .fp cs blk o' (off+f.offset) f' hF h1 hw h
 case ptr id row off tot=>
  injection hz with hz
  subst hz
  generalize hx:a.eval x=v at hy
  cases hy with
  |froz _ _ h=>cases h
  |ptr _ _ _ _ blk o' cap s hm hL=>
   refine ya.same R (hrun blk (o'+row*s+off) hx) ?_
   rw [Nat.add_assoc]
   exact .ptr id row (off+f.offset) tot blk o' cap s hm hL
  |ptrOld _ _ _ _ ad hm hL=>exact ya.same R (hrun' ad hx) (.ptrOld id row (off+f.offset) tot _ hm hL)
end
end
section
section
variable {P:Program} {G:Nat→Option (List PV)} {T:ye} {nt:Nat} {w:World} {F:Nat→Prop} {m:zR} {st:St} {a:Act} {o:Oper}
theorem zko (cells:List Value):∀ (vs:List Value) (off k:Nat) (cs:Array Value),off+k+vs.length≤cs.size→
  ((vs.zipIdx k).foldl (fun (cs:Array Value) (x:Value×Nat)=>cs.setIfInBounds (off+x.2) x.1) cs).toList=cs.toList.take (off+k)++vs++cs.toList.drop (off+k+vs.length)
 |[],off,k,cs,h=>by simp
 |v::vs,off,k,cs,h=>by
  simp only [List.length_cons] at h
  rw [List.zipIdx_cons,List.foldl_cons,zko cells vs off (k+1) _ (by simp;omega)]
  simp only [Array.toList_setIfInBounds,List.length_cons]
  have hk:off+k<cs.toList.length:=by simp;omega
  have hlen:cs.toList.length=cs.size:=by simp
  rw [List.take_set,show off+(k+1)=off+k+1 by omega,List.drop_set]
  rw [if_pos (by omega)]
  have ht:(cs.toList.take (off+k+1)).set (off+k) v=cs.toList.take (off+k)++[v]:=by
   rw [List.take_succ_eq_append_getElem hk,List.set_append]
   rw [if_neg (by simp;omega)]
   simp [show off+k-min (off+k) cs.size=0 by omega]
  rw [ht,show off+k+1+vs.length=off+k+(vs.length+1) by omega]
  simp
theorem zkm (place:Nat→Option (Nat×Nat)) (cells:Array Value) (i off sz:Nat) (v:Value) (rest:List (Nat×Value)) (hp:place i=some (off,sz)) (hs:v.cells.size=sz) (hf:off+sz≤cells.size):
  Instr.fill place cells ((i,v)::rest)=Instr.fill place (cells.toList.take off++v.cells.toList++cells.toList.drop (off+sz)).toArray rest:=by
 simp only [Instr.fill,hp]
 rw [if_neg (by simp [hs];omega)]
 congr 1
 apply Array.ext'
 have:=zko [] v.cells.toList off 0 cells (by simp [hs];omega)
 simp only [Nat.add_zero] at this
 rw [←Array.foldl_toList,Array.toList_zipIdx]
 rw [this]
 simp [hs]
theorem zd5 {R:PV→Value→Prop} {place:Nat→Option (Nat×Nat)}:∀ {ps:List (Nat×Nat×PV)} {parts:List (Nat×Value)} {cs:List PV} {cells:List Value} {out:List PV},
  ps.length=parts.length→(∀ (i:Nat) p x,ps[i]?=some p→parts[i]?=some x→place x.1=some (p.1,p.2.1)∧(cellsOf p.2.2).length=p.2.1∧((cellsOf p.2.2).all zH=true→yP R (cellsOf p.2.2) x.2.cells.toList∧∀ u∈x.2.cells.toList,u.oneCell'=true))→
  yP R cs cells→(∀ u∈cells,u.oneCell'=true)→vY cs (ps.map fun p=>(p.1,cellsOf p.2.2))=some out→
  ∃ res:List Value,Instr.fill place cells.toArray parts=some res.toArray∧yP R out res∧∀ u∈res,u.oneCell'=true
 |[],[],cs,cells,out,_,_,h1,h2,h=>by
  simp only [List.map_nil,vY,Option.some.injEq] at h
  subst h
  exact ⟨cells,rfl,h1,h2⟩
 |[],_::_,_,_,_,h,_,_,_,_=>by simp at h
 |_::_,[],_,_,_,h,_,_,_,_=>by simp at h
 |(off,sz,p)::ps,(i,v)::parts,cs,cells,out,hl,hp,h1,h2,h=>by
  simp only [List.map_cons,vY] at h
  split at h
  ·rename_i hb
   simp only [Bool.and_eq_true,Nat.ble_eq] at hb
   obtain ⟨k1,k2,k3⟩:=hp 0 _ _ rfl rfl
   obtain ⟨k4,k5⟩:=k3 hb.2
   have k2:(cellsOf p).length=sz:=k2
   have hsz:v.cells.size=sz:=by have:=k4.1;simp at this;omega
   have hfit:off+sz≤cells.toArray.size:=by have:=h1.1;simp at *; omega
   rw [zkm place cells.toArray i off sz v parts k1 hsz hfit]
   have e1:yP R (cs.take off++cellsOf p++cs.drop (off+(cellsOf p).length)) (cells.take off++v.cells.toList++cells.drop (off+sz)):=by
    have:=((h1.take off).append k4).append (h1.drop (off+(cellsOf p).length))
    rw [show (cellsOf p).length=sz from k2] at this ⊢
    exact this
   have e2:∀ u∈cells.take off++v.cells.toList++cells.drop (off+sz),u.oneCell'=true:=by
    intro u hu
    simp only [List.mem_append] at hu
    rcases hu with (hu|hu)|hu
    ·exact h2 u (List.mem_of_mem_take hu)
    ·exact k5 u hu
    ·exact h2 u (List.mem_of_mem_drop hu)
   exact zd5 (by simpa using hl) (fun j q x hq hx=>hp (j+1) q x (by simpa using hq) (by simpa using hx)) e1 e2 h
  ·cases h
theorem KH (R:yl G w F m st.H) (E:vP T nt (zn w F m (zr st.H)) st a) {place:Nat→Option (Nat×Nat)}:∀ {parts:List (Nat×Operand)} {ps:List (Nat×Nat×zx)},Yo T place parts=some ps→
  ps.length=parts.length∧∀ (i:Nat) p x,ps[i]?=some p→parts[i]?=some x→place x.1=some (p.1,p.2.1)∧zn w F m (zr st.H) (p.2.2.get G st) (a.eval x.2)
 |[],ps,h=>by simp only [Yo,Option.some.injEq] at h;subst h;exact ⟨rfl,fun i p x h=>by simp at h⟩
 |(i,x)::parts,ps,h=>by
  simp only [Yo] at h
  split at h
  ·rename_i off sz y qs h1 h2 h3
   injection h with h
   subst h
   obtain ⟨k1,k2⟩:=KH R E h3
   refine ⟨by simp [k1],fun j p z hp hz=>?_⟩
   cases j with
   |zero=>simp at hp hz;subst hp;subst hz;exact ⟨h1,yd R E h2⟩
   |succ j=>simp at hp hz;exact k2 j p z hp hz
  ·cases h
theorem zcE:∀ {fs:List Field} {ps:List (Nat×Nat)},ZH P fs=some ps→fs.mapM (fun f=>(P.info? f.type).map fun i=>(f.offset,i.size))=some ps
 |[],ps,h=>by simp only [ZH,Option.some.injEq] at h;subst h;rfl
 |f::fs,ps,h=>by
  simp only [ZH] at h
  split at h
  ·rename_i i qs h1 h2
   injection h with h
   subst h
   simp [List.mapM_cons,h1,zcE h2]
  ·cases h
theorem zoT (R:yl G w F m st.H) {t:TypeId} {parts:Array (Nat×Operand)} (ho:o.op=.build t parts) {z:List PV} (hz:kH P t=some z) {place:Nat→Option (Nat×Nat)} {ps:List (Nat×Nat×zx)}
  (hpl:∀ (xs:List (Nat×Value)) (zv:Value) (i:TypeInfo) (cells:Array Value),P.info? t=some i→i.zero=some zv→Instr.fill place zv.cells xs=some cells→P.built t xs=some cells)
  (hps:ps.length=parts.toList.length∧∀ (i:Nat) p x,ps[i]?=some p→parts.toList[i]?=some x→place x.1=some (p.1,p.2.1)∧zn w F m (zr st.H) (p.2.2.get G st) (a.eval x.2))
  (hall:(ps.all fun p=>(cellsOf (p.2.2.get G st)).length==p.2.1)=true) {cs:List PV} (hf:vY z (ps.map fun p=>(p.1,cellsOf (p.2.2.get G st)))=some cs):ya P G o a w F m st.H (.agg cs) st.H true:=by
 obtain ⟨i,zv,hi,hzv,hc⟩:=Xf hz
 obtain ⟨h1,h2,h3⟩:=vt (w:=w) (F:=F) hc
 have key:=zd5 (R:=zn w F m (zr st.H)) (place:=place) (ps:=ps.map fun p=>(p.1,p.2.1,p.2.2.get G st)) (parts:=parts.toList.map fun x=>(x.1,a.eval x.2)) (cs:=z) (cells:=zv.cells.toList) (out:=cs)
  (by simp [hps.1]) (fun j p x hp hx=>by
   rw [List.getElem?_map] at hp hx
   cases hp':ps[j]? with
   |none=>simp [hp'] at hp
   |some p'=>
    cases hx':parts.toList[j]? with
    |none=>rw [hx'] at hx;simp at hx
    |some x'=>
     simp [hp'] at hp
     rw [hx'] at hx
     simp at hx
     subst hp;subst hx
     obtain ⟨k1,k2⟩:=hps.2 j p' x' hp' hx'
     refine ⟨k1,?_,fun hl=>k2.cells hl⟩
     have:=List.all_eq_true.1 hall p' (List.mem_of_getElem? hp')
     simpa using this)
  (h1.mono fun p v h=>.froz _ _ h) h2 (by simpa [List.map_map,Function.comp_def] using hf)
 obtain ⟨res,e1,e2,e3⟩:=key
 have hb:=run_build (P:=P) w t (parts.map fun (i,x)=>(i,a.eval x)) res.toArray (hpl _ zv i _ hi hzv (by simpa [Array.toList_map] using e1))
 refine ya.same (cv:=.agg res.toArray) R ?_ (.agg _ _ e2.1 e3 e2.2)
 simp only [execOp,ho,Sem.run_bind,hb,Result.andThen_ok,Sem.run_pure]
theorem zsr (R:yl G w F m st.H) {t e:TypeId} {l c:Operand} (ho:o.op=.makeSlice t l c) {sz by':Nat} (he:jS P t=some (e,sz,by')) {z:List PV} (hz:kH P e=some z) (hzl:z.length=sz)
  {n:Int} (hl:a.eval l=.int .i64 n) (hc:a.eval c=.int .i64 n) (h0:0≤n) (hb:n*by'≤35184372088832) (hn:n<9223372036854775808):
  ya P G o a w F m st.H (.sl st.H.length 0 n.toNat n.toNat) (st.H++[.cells sz (List.replicate n.toNat z)]) true:=by
 obtain ⟨hu,i,hi,hi2,hi3,hs0,hb0⟩:=j9 he
 obtain ⟨i',zv,hi',hzv,hcz⟩:=Xf hz
 rw [hi] at hi'
 injection hi' with hi'
 subst hi'
 obtain ⟨h1,h2,h3⟩:=vt (w:=w) (F:=F) hcz
 have hzs:zv.cells.size=sz:=by have:=h1.1;simp at this;omega
 have hw:IntKind.i64.wrap n=n:=by
  have e1:n%(2 ^ 64:Int)=n:=Int.emod_eq_of_lt h0 (by omega)
  simp only [IntKind.wrap,IntKind.bits,IntKind.signed,e1]
  rw [if_neg (by simp;omega)]
 have hroom:¬ (n.toNat*by'>roomBytes):=by
  unfold roomBytes
  have:((n.toNat*by':Nat):Int)=n*by':=by rw [Int.natCast_mul,Int.toNat_of_nonneg h0]
  omega
 have hlarge:¬ ((by':Int)*n>2 ^ 48):=by
  rw [Int.mul_comm]
  omega
 refine ya.alloc (cv:=.slice (some ⟨w.heap.size,0,none⟩) n.toNat n.toNat) (cap:=n.toNat) (s:=sz) (rows:=List.replicate n.toNat z) (cur:=(Array.range (n.toNat*sz)).map fun k=>zv.cells[k%zv.cells.size]!) (t:=e) R ?_ (by simp) (by simp) ?_ ?_ ?_
 ·by_cases hz':n.toNat*sz=0
  ·have hn0:n.toNat=0:=by rcases Nat.mul_eq_zero.1 hz' with h|h<;>omega
   have hn0':n=0:=by omega
   subst hn0'
   have hr0:Array.range 0=#[]:=rfl
   simp [execOp,ho,Instr.makeSlice,run_underlying hu,hl,hc,asInt,asIntOf,typeInfo,hi,hw,sizeOf,askRoom,roomBytes,newRow,newObj,hr0,Sem.run]
  ·simp [execOp,ho,Instr.makeSlice,run_underlying hu,hl,hc,asInt,asIntOf,typeInfo,hi,hi2,hi3,hw,sizeOf,askRoom,hroom,hlarge,newRow,newObj,hz',zeroValue,hzv,Sem.run]
   intro hx
   exfalso
   have hl':¬ (281474976710656<(by':Int)*n):=by simpa using hlarge
   omega
 ·intro j r hj
  rw [List.getElem?_replicate] at hj
  split at hj
  ·injection hj with hj;subst hj;exact hzl
  ·cases hj
 ·intro j r k p hj hk
  rw [List.getElem?_replicate] at hj
  split at hj
  ·rename_i hjn
   injection hj with hj
   subst hj
   obtain ⟨u,hu',hr⟩:=h1.get hk
   have hks:k<sz:=by have:=(List.getElem?_eq_some_iff.1 hk).1;omega
   refine ⟨u,?_,h2 u (List.mem_of_getElem? hu'),.froz _ _ hr⟩
   have hlt:j*sz+k<n.toNat*sz:=by
    calc j*sz+k<j*sz+sz:=by omega
     _=(j+1)*sz:=by rw [Nat.add_mul];omega
     _≤n.toNat*sz:=Nat.mul_le_mul_right _ hjn
   rw [Array.getElem?_map,Array.getElem?_range,if_pos hlt]
   simp only [Option.map_some]
   have hmod:(j*sz+k)%zv.cells.size=k:=by rw [hzs,Nat.add_comm,Nat.add_mul_mod_self_right,Nat.mod_eq_of_lt hks]
   rw [hmod]
   have hk':k<zv.cells.size:=by omega
   rw [getElem!_pos zv.cells k hk']
   rw [Array.getElem?_toList] at hu'
   rw [Array.getElem?_eq_getElem hk'] at hu'
   exact hu'
  ·cases hj
 ·intro m' hm
  have:=zn.sl (w:=w.alloc (.cells ((Array.range (n.toNat*sz)).map fun k=>zv.cells[k%zv.cells.size]!) e (0,0))) (F:=F) (L:=zr (st.H++[.cells sz (List.replicate n.toNat z)])) st.H.length 0 n.toNat n.toNat w.heap.size 0 n.toNat sz ⟨w.heap.size,0,none⟩ hm (by simp [zr]) (by omega) (Nat.le_refl _) (.inr (by simp))
  simpa using this
theorem zmO (R:yl G w F m st.H) (E:vP T nt (zn w F m (zr st.H)) st a) {t e:TypeId} {len:Nat} {parts:Array (Nat×Operand)} (ho:o.op=.buildSlice t len parts) {sz by':Nat} (he:jS P t=some (e,sz,by')) {z:List PV} (hz:kH P e=some z) (hzl:z.length=sz)
  {ps:List (Nat×zx)} (hps:Vl T parts.toList=some ps) (hbig:len*sz≤16777216) {rows:List (List PV)} (hf:zT (List.replicate len z) (ps.map fun p=>(p.1,cellsOf (p.2.get G st)))=some rows):
  ya P G o a w F m st.H (.sl st.H.length 0 len len) (st.H++[.cells sz rows]) true:=by
 obtain ⟨hu,i,hi,hi2,hi3,hs0,hb0⟩:=j9 he
 obtain ⟨i',zv,hi',hzv,hcz⟩:=Xf hz
 rw [hi] at hi'
 injection hi' with hi'
 subst hi'
 obtain ⟨h1,h2,h3⟩:=vt (w:=w) (F:=F) hcz
 have hzs:zv.cells.size=sz:=by have:=h1.1;simp at this;omega
 have key:∀ (qs:List (Nat×zx)) (xs:List (Nat×Operand)),Vl T xs=some qs→∀ (rs:List (List PV)) (cells:Array Value) (out:List (List PV)),(∀ r∈rs,r.length=sz)→cells.size=rs.length*sz→
   (∀ (i:Nat) (r:List PV) (j:Nat) (p:PV),rs[i]?=some r→r[j]?=some p→∃ u,cells[i*sz+j]?=some u∧u.oneCell'=true∧zn w F m (zr st.H) p u)→
   zT rs (qs.map fun p=>(p.1,cellsOf (p.2.get G st)))=some out→
   ∃ cells',Instr.fill (fun i=>some (i*sz,sz)) cells (xs.map fun x=>(x.1,a.eval x.2))=some cells'∧out.length=rs.length∧(∀ r∈out,r.length=sz)∧cells'.size=rs.length*sz∧
    ∀ (i:Nat) (r:List PV) (j:Nat) (p:PV),out[i]?=some r→r[j]?=some p→∃ u,cells'[i*sz+j]?=some u∧u.oneCell'=true∧zn w F m (zr st.H) p u:=by
  intro qs xs
  induction xs generalizing qs with
  |nil=>
   intro hq rs cells out k1 k2 k3 hfr
   simp only [Vl,Option.some.injEq] at hq
   subst hq
   simp only [List.map_nil,zT,Option.some.injEq] at hfr
   subst hfr
   exact ⟨cells,rfl,rfl,k1,k2,k3⟩
  |cons x xs ih=>
   intro hq rs cells out k1 k2 k3 hfr
   obtain ⟨ix,x⟩:=x
   simp only [Vl] at hq
   split at hq
   ·rename_i y qs' e1 e2
    injection hq with hq
    subst hq
    simp only [List.map_cons,zT] at hfr
    split at hfr
    ·rename_i r0 hr0
     split at hfr
     ·rename_i hb
      simp only [Bool.and_eq_true,beq_iff_eq] at hb
      have hv:=yd R E e1
      obtain ⟨c1,c2⟩:=hv.cells hb.2
      have hlen0:r0.length=sz:=k1 r0 (List.mem_of_getElem? hr0)
      have hvs:(a.eval x).cells.size=sz:=by have:=c1.1;simp at this;omega
      have hix:ix<rs.length:=(List.getElem?_eq_some_iff.1 hr0).1
      have hfit:ix*sz+sz≤cells.size:=by
       rw [k2]
       calc ix*sz+sz=(ix+1)*sz:=by rw [Nat.add_mul];omega
        _≤rs.length*sz:=Nat.mul_le_mul_right _ hix
      rw [List.map_cons,zkm (fun i=>some (i*sz,sz)) cells ix (ix*sz) sz (a.eval x) _ rfl hvs hfit]
      have hts:(cells.toList.take (ix*sz)).length=ix*sz:=by simp;omega
      have hsz':(cells.toList.take (ix*sz)++(a.eval x).cells.toList++cells.toList.drop (ix*sz+sz)).toArray.size=rs.length*sz:=by simp;omega
      obtain ⟨cells',g1,g2,g3,g4,g5⟩:=ih qs' e2 (rs.set ix (cellsOf (y.get G st))) _ out (fun r hr=>by
       rcases List.mem_or_eq_of_mem_set hr with h|h
       ·exact k1 r h
       ·subst h;omega) (by rw [hsz',List.length_set]) (fun i' r j p hi' hj=>by
       by_cases e:i'=ix
       ·subst e
        rw [List.getElem?_set_self hix] at hi'
        injection hi' with hi'
        subst hi'
        obtain ⟨u,hu',hr⟩:=c1.get hj
        refine ⟨u,?_,c2 u (List.mem_of_getElem? hu'),hr⟩
        have hj':j<(a.eval x).cells.toList.length:=(List.getElem?_eq_some_iff.1 hu').1
        rw [List.getElem?_toArray,List.append_assoc,List.getElem?_append_right (by rw [hts];omega),hts,Nat.add_sub_cancel_left,List.getElem?_append_left hj']
        exact hu'
       ·rw [List.getElem?_set_ne (Ne.symm e)] at hi'
        obtain ⟨u,hu',hone,hr⟩:=k3 i' r j p hi' hj
        refine ⟨u,?_,hone,hr⟩
        have hjs:j<sz:=by
         have:=(List.getElem?_eq_some_iff.1 hj).1
         have:=k1 r (List.mem_of_getElem? hi')
         omega
        have hu2:cells.toList[i'*sz+j]?=some u:=by rw [Array.getElem?_toList];exact hu'
        rw [List.getElem?_toArray]
        rcases Nat.lt_or_gt_of_ne e with hlt|hgt
        ·have:i'*sz+j<ix*sz:=by
          calc i'*sz+j<i'*sz+sz:=by omega
           _=(i'+1)*sz:=by rw [Nat.add_mul];omega
           _≤ix*sz:=Nat.mul_le_mul_right _ hlt
         rw [List.append_assoc,List.getElem?_append_left (by rw [hts];exact this),List.getElem?_take,if_pos this]
         exact hu2
        ·have h7:ix*sz+sz≤i'*sz:=by
          calc ix*sz+sz=(ix+1)*sz:=by rw [Nat.add_mul];omega
           _≤i'*sz:=Nat.mul_le_mul_right _ hgt
         rw [List.getElem?_append_right (by simp;omega),List.getElem?_drop]
         rw [show (ix*sz+sz+(i'*sz+j-(cells.toList.take (ix*sz)++(a.eval x).cells.toList).length))=i'*sz+j by simp;omega]
         exact hu2) hfr
      refine ⟨cells',g1,by rw [g2,List.length_set],g3,by rw [g4,List.length_set],g5⟩
     ·cases hfr
    ·cases hfr
   ·cases hq
 obtain ⟨cells',g1,g2,g3,g4,g5⟩:=key ps parts.toList hps (List.replicate len z) ((Array.range (len*sz)).map fun k=>zv.cells[k%zv.cells.size]!) rows
  (fun r hr=>by rw [List.mem_replicate] at hr;rw [hr.2];exact hzl) (by simp) (fun j r k p hj hk=>by
   rw [List.getElem?_replicate] at hj
   split at hj
   ·rename_i hjn
    injection hj with hj
    subst hj
    obtain ⟨u,hu',hr⟩:=h1.get hk
    have hks:k<sz:=by have:=(List.getElem?_eq_some_iff.1 hk).1;omega
    refine ⟨u,?_,h2 u (List.mem_of_getElem? hu'),.froz _ _ hr⟩
    have hlt:j*sz+k<len*sz:=by
     calc j*sz+k<j*sz+sz:=by omega
      _=(j+1)*sz:=by rw [Nat.add_mul];omega
      _≤len*sz:=Nat.mul_le_mul_right _ hjn
    rw [Array.getElem?_map,Array.getElem?_range,if_pos hlt]
    simp only [Option.map_some]
    have hmod:(j*sz+k)%zv.cells.size=k:=by rw [hzs,Nat.add_comm,Nat.add_mul_mod_self_right,Nat.mod_eq_of_lt hks]
    rw [hmod]
    have hk':k<zv.cells.size:=by omega
    rw [getElem!_pos zv.cells k hk']
    rw [Array.getElem?_toList] at hu'
    rw [Array.getElem?_eq_getElem hk'] at hu'
    exact hu'
   ·cases hj) hf
 rw [List.length_replicate] at g2 g4
 refine ya.alloc (cv:=.slice (some ⟨w.heap.size,0,none⟩) len len) (cap:=len) (s:=sz) (rows:=rows) (cur:=cells') (t:=e) R ?_ (by omega) (by omega) (fun i r hi=>g3 r (List.mem_of_getElem? hi)) (fun i r j p hi hj=>g5 i r j p hi hj) ?_
 ·have g1':Instr.fill (fun i=>some (i*sz,sz)) ((Array.range (len*sz)).map fun k=>zv.cells[k%zv.cells.size]!) (parts.map fun (i,x)=>(i,a.eval x)).toList=some cells':=by
   rw [Array.toList_map];exact g1
  have hb':¬ (2 ^ 24<len*sz):=by omega
  by_cases hz':len*sz=0
  ·have hl0:len=0:=by rcases Nat.mul_eq_zero.1 hz' with h|h<;>omega
   subst hl0
   have hr0:Array.range 0=#[]:=rfl
   have hc0:(Array.range (0*sz)).map (fun k=>zv.cells[k%zv.cells.size]!)=#[]:=by simp [hr0]
   rw [hc0] at g1
   simp only [execOp,ho,Instr.buildSlice,run_underlying hu,sizeOf,typeInfo,hi,hi2,Sem.run_bind,Result.andThen_ok,Sem.run_pure,program,Sem.run,Nat.zero_mul,hr0,hb']
   simp
   rw [g1]
   simp [newRow,newObj,Sem.run]
  ·simp only [execOp,ho,Instr.buildSlice,run_underlying hu,sizeOf,typeInfo,hi,hi2,Sem.run_bind,Result.andThen_ok,Sem.run_pure,program,Sem.run,hz',hb',zeroValue,hzv,if_false]
   simp [newRow,newObj,Sem.run]
   rw [g1]
   simp [newRow,newObj,Sem.run]
 ·intro m' hm
  have:=zn.sl (w:=w.alloc (.cells cells' e (0,0))) (F:=F) (L:=zr (st.H++[.cells sz rows])) st.H.length 0 len len w.heap.size 0 len sz ⟨w.heap.size,0,none⟩ hm (by simp [zr,g2]) (by omega) (Nat.le_refl _) (.inr (by simp))
  simpa using this
end
end
section
section
variable {P:Program} {G:Nat→Option (List PV)} {T:ye} {nt:Nat} {w:World} {F:Nat→Prop} {m:zR} {st:St} {a:Act} {o:Oper}
theorem ziF (b:Bool) (len cap:Nat) (lo hi:Option Value) (l h:Int) (hlo:(lo=none∧l=0)∨∃ k,lo=some (.int k l)) (hhi:(hi=none∧h=len)∨∃ k,hi=some (.int k h))
  (h0:0≤l) (h1:l≤h) (h2:h≤cap):(Instr.sliceBounds b len cap lo hi none).run P w=.ok (l.toNat,h.toNat,cap) w:=by
 have e1:(h.toNat:Int)=h:=Int.toNat_of_nonneg (by omega)
 rcases hlo with ⟨rfl,rfl⟩|⟨k,rfl⟩<;>rcases hhi with ⟨rfl,rfl⟩|⟨k',rfl⟩
 ·simp [Instr.sliceBounds]
 ·simp [Instr.sliceBounds,Instr.sliceBound,asIntOf,h2,show 0≤h by omega]
 ·simp [Instr.sliceBounds,Instr.sliceBound,asIntOf,h0,h1]
 ·simp [Instr.sliceBounds,Instr.sliceBound,asIntOf,h0,h1,h2,show 0≤h by omega,e1]
theorem jR {t e:TypeId} (hu:P.underlying t=some (.slice e)) {i:TypeInfo} (hi:P.info? e=some i) (b:Option Addr) (len cap:Nat) (lo hi':Option Value) (l h:Int) (hlo:(lo=none∧l=0)∨∃ k,lo=some (.int k l)) (hhi:(hi'=none∧h=len)∨∃ k,hi'=some (.int k h))
  (h0:0≤l) (h1:l≤h) (h2:h≤cap):(Instr.sliceAt t (.slice b len cap) lo hi' none).run P w=.ok (.slice (if cap=l.toNat then b else b.map (·.add (l.toNat*i.size))) (h.toNat-l.toNat) (cap-l.toNat)) w:=by
 simp [Instr.sliceAt,Instr.slice,run_underlying hu,ziF true len cap lo hi' l h hlo hhi h0 h1 h2,sizeOf,typeInfo,hi]
theorem zfH {t:TypeId} (hu:P.underlying t=some .string) (s:ByteArray) (lo hi':Option Value) (l h:Int) (hlo:(lo=none∧l=0)∨∃ k,lo=some (.int k l)) (hhi:(hi'=none∧h=s.size)∨∃ k,hi'=some (.int k h))
  (h0:0≤l) (h1:l≤h) (h2:h≤s.size):(Instr.sliceAt t (.string s) lo hi' none).run P w=.ok (.string (s.extract l.toNat h.toNat)) w:=by
 simp [Instr.sliceAt,Instr.slice,run_underlying hu,ziF false s.size s.size lo hi' l h hlo hhi h0 h1 h2]
theorem Xb (R:yl G w F m st.H) (E:vP T nt (zn w F m (zr st.H)) st a) {lo:Option Operand} {lo':Option zx} (ht:km T lo=some lo') {d:Int} {l:Int} (hl:kL G st d lo'=some l):((lo.map a.eval)=none∧l=d)∨∃ k,lo.map a.eval=some (.int k l):=by
 cases lo with
 |none=>
  injection ht with ht
  subst ht
  injection hl with hl
  exact .inl ⟨rfl,hl.symm⟩
 |some x=>
  simp only [km] at ht
  split at ht
  ·rename_i y hy
   injection ht with ht
   subst ht
   simp only [kL] at hl
   split at hl
   ·rename_i k n hn
    injection hl with hl
    subst hl
    have:=yd R E hy
    rw [hn] at this
    exact .inr ⟨k,by rw [Option.map_some,this.int_inv]⟩
   ·cases hl
  ·cases ht
theorem zod (R:yl G w F m st.H) {t:TypeId} {x:Operand} {lo hi:Option Operand} (ho:o.op=.slice t x lo hi none) (hu:P.underlying t=some .string) {s:ByteArray} (hx:a.eval x=.string s) {l h:Int}
  (hlo:((lo.map a.eval)=none∧l=0)∨∃ k,lo.map a.eval=some (.int k l)) (hhi:((hi.map a.eval)=none∧h=s.size)∨∃ k,hi.map a.eval=some (.int k h)) (h0:0≤l) (h1:l≤h) (h2:h≤s.size):
  ya P G o a w F m st.H (.str (s.extract l.toNat h.toNat)) st.H true:=by
 refine ya.same (cv:=.string (s.extract l.toNat h.toNat)) R ?_ (.froz _ _ (.str _))
 simp only [execOp,ho,Option.map_none,hx,Sem.run_bind,zfH hu s _ _ l h hlo hhi h0 h1 h2,Result.andThen_ok,Sem.run_pure]
theorem zqv (R:yl G w F m st.H) {t e:TypeId} {x:Operand} {lo hi:Option Operand} (ho:o.op=.slice t x lo hi none) (hu:P.underlying t=some (.slice e)) {sz:Nat} (hs:vO P e=some sz) {rows:List (List PV)} (hx:zn w F m (zr st.H) (.fz rows) (a.eval x)) {l h:Int}
  (hlo:((lo.map a.eval)=none∧l=0)∨∃ k,lo.map a.eval=some (.int k l)) (hhi:((hi.map a.eval)=none∧h=rows.length)∨∃ k,hi.map a.eval=some (.int k h)) (h0:0≤l) (h1:l≤h) (h2:h≤rows.length) (hr:(rows.all fun r=>r.length==sz)=true):
  ya P G o a w F m st.H (.fz ((rows.drop l.toNat).take (h.toNat-l.toNat))) st.H true:=by
 obtain ⟨i,hi',hi2⟩:=ui hs
 generalize hv:a.eval x=v at hx
 cases hx with
 |froz _ _ hx=>
  cases hx with
  |fzNil b c=>
   refine ya.same R (cv:=.slice (if c=l.toNat then b else b.map (·.add (l.toNat*i.size))) (h.toNat-l.toNat) (c-l.toNat)) ?_ (.froz _ _ ?_)
   ·simp only [execOp,ho,Option.map_none,hv,Sem.run_bind,jR hu hi' b 0 c _ _ l h hlo hhi h0 h1 (by simp at h2;omega),Result.andThen_ok,Sem.run_pure]
   ·simp at h2
    have e1:h.toNat-l.toNat=0:=by omega
    rw [e1]
    simp
    exact .fzNil _ _
  |fz _ blk off s cap f hF hs' hc h1' hw hh=>
   refine ya.same R (cv:=.slice (if cap=l.toNat then some ⟨blk,off,none⟩ else (some ⟨blk,off,none⟩:Option Addr).map (·.add (l.toNat*i.size))) (h.toNat-l.toNat) (cap-l.toNat)) ?_ (.froz _ _ ?_)
   ·simp only [execOp,ho,Option.map_none,hv,Sem.run_bind,jR hu hi' (some ⟨blk,off,none⟩) rows.length cap _ _ l h hlo hhi h0 h1 (by omega),Result.andThen_ok,Sem.run_pure]
   ·by_cases e0:h.toNat-l.toNat=0
    ·rw [e0]
     simp only [List.take_zero]
     exact .fzNil _ _
    ·rw [if_neg (by omega)]
     simp only [Option.map_some,um]
     have hlen:((rows.drop l.toNat).take (h.toNat-l.toNat)).length=h.toNat-l.toNat:=by simp;omega
     have hs2:s=i.size:=by
      have h3:l.toNat<rows.length:=by omega
      have h4:=hs' l.toNat rows[l.toNat] (List.getElem?_eq_getElem h3)
      have h5:=List.all_eq_true.1 hr rows[l.toNat] (List.getElem_mem h3)
      simp at h5
      omega
     subst hs2
     have hat:∀ (k:Nat) (r:List PV),((rows.drop l.toNat).take (h.toNat-l.toNat))[k]?=some r→rows[l.toNat+k]?=some r:=by
      intro k r hk
      rw [List.getElem?_take] at hk
      split at hk
      ·rw [List.getElem?_drop] at hk;exact hk
      ·cases hk
     have e:=RelF.fz (w:=w) (F:=F) ((rows.drop l.toNat).take (h.toNat-l.toNat)) blk (off+l.toNat*i.size) i.size (cap-l.toNat) (fun k j=>f (l.toNat+k) j) hF (fun k r hk=>hs' _ _ (hat k r hk)) (by rw [hlen];omega)
      (fun k r j p hk hj=>h1' _ _ _ _ (hat k r hk) hj) (fun k r j p hk hj=>by
       have:=hw _ _ _ _ (hat k r hk) hj
       rw [Nat.add_mul] at this
       rw [show off+l.toNat*i.size+k*i.size+j=off+(l.toNat*i.size+k*i.size)+j by omega]
       exact this) (fun k r j p hk hj=>hh _ _ _ _ (hat k r hk) hj)
     rw [hlen] at e
     exact e
theorem zqw (R:yl G w F m st.H) {t e:TypeId} {x:Operand} {lo hi:Option Operand} (ho:o.op=.slice t x lo hi none) (hu:P.underlying t=some (.slice e)) {sz:Nat} (hs:vO P e=some sz) {id off len tot:Nat} (hx:zn w F m (zr st.H) (.sl id off len tot) (a.eval x)) {l h:Int}
  (hlo:((lo.map a.eval)=none∧l=0)∨∃ k,lo.map a.eval=some (.int k l)) (hhi:((hi.map a.eval)=none∧h=len)∨∃ k,hi.map a.eval=some (.int k h)) (h0:0≤l) (h1:l≤h) (h2:h≤len) (hr:xS st.H sz (.sl id off len tot)=true):
  ya P G o a w F m st.H (.sl id (off+l.toNat) (h.toNat-l.toNat) tot) st.H true:=by
 obtain ⟨i,hi',hi2⟩:=ui hs
 have hsz:∀ blk o' cap s,m id=.at_ blk o' cap s→s=i.size:=by
  intro blk o' cap s hm
  simp only [xS] at hr
  split at hr
  ·rename_i s' rows hH
   obtain ⟨e1,_⟩:=R.block hH hm
   have:s'=sz:=by simpa using hr
   omega
  ·cases hr
 generalize hv:a.eval x=v at hx
 cases hx with
 |froz _ _ hx=>cases hx
 |sl _ _ _ _ blk o' cap s b hm hL ht hc hb=>
  refine ya.same R (cv:=.slice (if cap-off=l.toNat then some b else (some b:Option Addr).map (·.add (l.toNat*i.size))) (h.toNat-l.toNat) (cap-off-l.toNat)) ?_ ?_
  ·simp only [execOp,ho,Option.map_none,hv,Sem.run_bind,jR hu hi' (some b) len (cap-off) _ _ l h hlo hhi h0 h1 (by omega),Result.andThen_ok,Sem.run_pure]
  ·have hs':=hsz _ _ _ _ hm
   rw [show cap-off-l.toNat=cap-(off+l.toNat) by omega]
   by_cases e0:cap-off=l.toNat
   ·rw [if_pos e0]
    exact .sl id (off+l.toNat) (h.toNat-l.toNat) tot blk o' cap s b hm hL (by omega) hc (.inl (by omega))
   ·rw [if_neg e0]
    refine .sl id (off+l.toNat) (h.toNat-l.toNat) tot blk o' cap s _ hm hL (by omega) hc (.inr ?_)
    rcases hb with hb|rfl
    ·omega
    ·dsimp only
     rw [um,Nat.add_mul,hs',Nat.add_assoc]
 |slVirt _ hm hL=>
  refine ya.same R (cv:=.slice (if 0=l.toNat then none else (none:Option Addr).map (·.add (l.toNat*i.size))) (h.toNat-l.toNat) (0-l.toNat)) ?_ ?_
  ·simp only [execOp,ho,Option.map_none,hv,Sem.run_bind,jR hu hi' none 0 0 _ _ l h hlo hhi h0 h1 (by omega),Result.andThen_ok,Sem.run_pure]
  ·have e1:l.toNat=0:=by omega
   have e2:h.toNat=0:=by omega
   rw [e1,e2]
   exact .slVirt id hm hL
 |slOld _ _ _ _ b c hm hL hc=>
  refine ya.same R (cv:=.slice (if c=l.toNat then b else b.map (·.add (l.toNat*i.size))) (h.toNat-l.toNat) (c-l.toNat)) ?_ (.slOld _ _ _ _ _ _ hm hL (by omega))
  simp only [execOp,ho,Option.map_none,hv,Sem.run_bind,jR hu hi' b len c _ _ l h hlo hhi h0 h1 (by omega),Result.andThen_ok,Sem.run_pure]
theorem zgM {t e:TypeId} (hu:P.underlying t=some (.slice e)) {i:TypeInfo} (hi:P.info? e=some i) (b:Addr) (len cap:Nat) (k:IntKind) (n:Int) (h0:0≤n) (h1:n<len):
  (Instr.indexAt t (.slice (some b) len cap) (.int k n)).run P w=.ok (.pointer (some (b.add (n.toNat*i.size)))) w:=by
 simp [Instr.indexAt,asIntOf,run_underlying hu,h0,h1,sizeOf,typeInfo,hi]
theorem zqt (R:yl G w F m st.H) {t e:TypeId} {x y:Operand} (ho:o.op=.indexAddr t x y) {sz by':Nat} (he:jS P t=some (e,sz,by')) {rows:List (List PV)} (hx:zn w F m (zr st.H) (.fz rows) (a.eval x)) {k:IntKind} {n:Int} (hy:a.eval y=.int k n) (h0:0≤n)
  {r:List PV} (hr:rows[n.toNat]?=some r) (hrs:r.length=sz):ya P G o a w F m st.H (.fp r 0) st.H true:=by
 obtain ⟨hu,i,hi,hi2,_,_,_⟩:=j9 he
 have hlt:n.toNat<rows.length:=(List.getElem?_eq_some_iff.1 hr).1
 generalize hv:a.eval x=v at hx
 cases hx with
 |froz _ _ hx=>
  cases hx with
  |fzNil b c=>simp at hlt
  |fz _ blk off s cap f hF hs' hc h1' hw hh=>
   have hs2:s=i.size:=by have:=hs' _ _ hr;omega
   subst hs2
   refine ya.same R (cv:=.pointer (some ⟨blk,off+n.toNat*i.size+0,none⟩)) ?_ (.froz _ _ (.fp r blk (off+n.toNat*i.size) 0 (fun j=>f n.toNat j) hF (fun j p hj=>h1' _ _ _ _ hr hj) (fun j p hj=>hw _ _ _ _ hr hj) fun j p hj=>hh _ _ _ _ hr hj))
   simp only [execOp,ho,hv,hy,Sem.run_bind,zgM hu hi ⟨blk,off,none⟩ rows.length cap k n h0 (by omega),um,Result.andThen_ok,Sem.run_pure,Nat.add_zero]
theorem zqu (R:yl G w F m st.H) {t e:TypeId} {x y:Operand} (ho:o.op=.indexAddr t x y) {sz by':Nat} (he:jS P t=some (e,sz,by')) {id off len tot:Nat} (hx:zn w F m (zr st.H) (.sl id off len tot) (a.eval x)) {k:IntKind} {n:Int} (hy:a.eval y=.int k n) (h0:0≤n)
  {s:Nat} {rows:List (List PV)} (hH:st.H[id]?=some (.cells s rows)) (hs:s=sz) (ht:tot=rows.length) (hn:n<len):ya P G o a w F m st.H (.ptr id (off+n.toNat) 0 tot) st.H true:=by
 obtain ⟨hu,i,hi,hi2,_,_,_⟩:=j9 he
 have hl:=jX hH
 generalize hv:a.eval x=v at hx
 cases hx with
 |froz _ _ hx=>cases hx
 |sl _ _ _ _ blk o' cap s' b hm hL ht' hc hb=>
  obtain ⟨e1,_⟩:=R.block hH hm
  have hs2:s'=i.size:=by omega
  subst hs2
  have hb':b=⟨blk,o'+off*i.size,none⟩:=by
   rcases hb with hb|hb
   ·omega
   ·exact hb
  subst hb'
  have:=zn.ptr (w:=w) (F:=F) (L:=zr st.H) id (off+n.toNat) 0 tot blk o' cap i.size hm hL
  rw [Nat.add_zero] at this
  refine ya.same R (cv:=.pointer (some ⟨blk,o'+(off+n.toNat)*i.size,none⟩)) ?_ this
  simp only [execOp,ho,hv,hy,Sem.run_bind,zgM hu hi ⟨blk,o'+off*i.size,none⟩ len (cap-off) k n h0 hn,um,Result.andThen_ok,Sem.run_pure,Nat.add_mul,Nat.add_assoc]
 |slVirt _ hm hL=>omega
 |slOld _ _ _ _ b c hm hL hc=>omega
theorem zpS {L:Nat→Nat} {n sz:Nat} {x i v:PV} {cv iv:Value} (hx:zn w F m L x cv) (hi:zn w F m L i iv) (h:QD n sz x i=some v):
  ∃ k j b,iv=.int k j∧0≤j∧j<n∧cv=.pointer (some b)∧zn w F m L v (.pointer (some (b.add (j.toNat*sz)))):=by
 unfold QD at h
 split at h
 ·rename_i k j
  split at h
  ·rename_i hb
   simp only [Bool.and_eq_true,decide_eq_true_eq] at hb
   cases x<;>simp only at h<;>try (cases h;done)
   case fp cs off=>
    injection h with h;subst h
    cases hx with
    |froz _ _ hx=>cases hx with
     |fp _ blk o _ f hF h1 hw h=>exact ⟨k,j,⟨blk,o+off,none⟩,hi.int_inv,hb.1,hb.2,rfl,by rw [um,Nat.add_assoc];exact .froz _ _ (.fp cs blk o (off+j.toNat*sz) f hF h1 hw h)⟩
   case ptr id row off tot=>
    injection h with h;subst h
    cases hx with
    |froz _ _ hx=>cases hx
    |ptr _ _ _ _ blk o cap s hm hL=>exact ⟨k,j,⟨blk,o+row*s+off,none⟩,hi.int_inv,hb.1,hb.2,rfl,by rw [um,Nat.add_assoc];exact .ptr id row (off+j.toNat*sz) tot blk o cap s hm hL⟩
    |ptrOld _ _ _ _ b hm hL=>exact ⟨k,j,b,hi.int_inv,hb.1,hb.2,rfl,.ptrOld id row _ tot _ hm hL⟩
  ·cases h
 ·cases h
theorem zuQ (R:yl G w F m st.H) {t e:TypeId} {x y:Operand} (ho:o.op=.indexAddr t x y) {n sz:Nat} (hu:P.underlying t=some (.array n e)) (hs:vO P e=some sz) {px pi v:PV} (hx:zn w F m (zr st.H) px (a.eval x)) (hy:zn w F m (zr st.H) pi (a.eval y)) (h:QD n sz px pi=some v):ya P G o a w F m st.H v st.H true:=by
 obtain ⟨k,j,b,e1,h0,h1,e2,hv⟩:=zpS hx hy h
 obtain ⟨i,hi,hi2⟩:=ui hs
 subst hi2
 refine ya.same R ?_ hv
 simp [execOp,ho,Instr.indexAt,asIntOf,Instr.sureAddr,run_underlying hu,e1,e2,h0,h1,sizeOf,typeInfo,hi]
theorem zjW {t:TypeId} {x:Operand} {c:Call} (ho:o.op=.call c) (hc:c.callee=.builtin .len) (hat:c.argTypes.toList=[t]) (har:c.args.toList=[x]):
  (execOp a.eval o).run P w=((Builtin.len_ #[t] o.type #[a.eval x]).run P w).andThen fun v w'=>.ok (.value v) w':=by
 obtain ⟨callee,args,argTypes⟩:=c
 simp only at hc hat har
 subst hc
 have hargs:args=#[x]:=by rw [←Array.toArray_toList (xs:=args),har]
 have hats:argTypes=#[t]:=by rw [←Array.toArray_toList (xs:=argTypes),hat]
 subst hargs;subst hats
 simp [execOp,ho,resolve,invoke,builtin]
theorem zAd (R:yl G w F m st.H) {t e:TypeId} {x:Operand} {c:Call} (ho:o.op=.call c) (hc:c.callee=.builtin .len) (hat:c.argTypes.toList=[t]) (har:c.args.toList=[x]) (hu:P.underlying t=some (.slice e)) {y v:PV}
  (hv:(match y with|.fz rows=>some (.int .i64 rows.length)|.sl _ _ n _=>some (.int .i64 n)|.nils=>some (.int .i64 0)|_=>none)=some v) (hy:zn w F m (zr st.H) y (a.eval x)):ya P G o a w F m st.H v st.H true:=by
 have hr:=zjW (P:=P) (w:=w) (a:=a) ho hc hat har
 have run_sl:∀ (b:Option Addr) (n c:Nat),a.eval x=.slice b n c→(execOp a.eval o).run P w=.ok (.value (.int .i64 n)) w:=by
  intro b n c hx
  rw [hr,hx]
  simp [Builtin.len_,run_underlying hu,goInt]
 generalize hx:a.eval x=u at hy
 cases y<;>simp only at hv<;>try (cases hv;done)
 case fz rows=>
  injection hv with hv
  subst hv
  cases hy with
  |froz _ _ hy=>
   cases hy with
   |fzNil b c=>exact ya.same R (run_sl _ _ _ hx) (.froz _ _ (.int _ _))
   |fz _ blk off s cap f hF hs' hc h1' hw hh=>exact ya.same R (run_sl _ _ _ hx) (.froz _ _ (.int _ _))
 case sl id off len tot=>
  injection hv with hv
  subst hv
  cases hy with
  |froz _ _ hy=>cases hy
  |sl=>exact ya.same R (run_sl _ _ _ hx) (.froz _ _ (.int _ _))
  |slVirt=>exact ya.same R (run_sl _ _ _ hx) (.froz _ _ (.int _ _))
  |slOld=>exact ya.same R (run_sl _ _ _ hx) (.froz _ _ (.int _ _))
 case nils=>
  injection hv with hv
  subst hv
  have:=hy.nils_inv
  subst this
  exact ya.same R (run_sl _ _ _ hx) (.froz _ _ (.int _ _))
theorem zyt (R:yl G w F m st.H) {t:TypeId} {x:Operand} {c:Call} (ho:o.op=.call c) (hc:c.callee=.builtin .len) (hat:c.argTypes.toList=[t]) (har:c.args.toList=[x]) (hu:P.underlying t=some .string) {s:ByteArray} (hx:a.eval x=.string s):
  ya P G o a w F m st.H (.int .i64 s.size) st.H true:=by
 refine ya.same R (cv:=.int .i64 s.size) ?_ (.froz _ _ (.int _ _))
 rw [zjW (P:=P) (w:=w) (a:=a) ho hc hat har,hx]
 simp [Builtin.len_,run_underlying hu,goInt]
theorem zw9 (R:yl G w F m st.H) {t:TypeId} (ho:o.op=.makeMap t none):ya P G o a w F m st.H (.mp st.H.length) (st.H++[.map []]) true:=by
 obtain ⟨R',g⟩:=R.alloc 0 0 (.map #[] 0) (.map []) (zgf w _ _) (fun _=>⟨rfl,rfl,⟨[],0,by show (w.heap.push _)[_]?=_;simp,rfl,by simp,by simp⟩,fun xs c h=>by
  have h:(w.heap.push (Obj.map #[] 0))[w.heap.size]?=some (.map xs c):=h
  simp at h
  obtain ⟨rfl,rfl⟩:=h
  simp⟩)
 refine ya.of (cv:=.map (some w.heap.size)) ?_ R' g (.mp _ _ (zR.put_same ..) (by simp [zr])) fun _=>⟨fun b hb=>?_,fun id hid=>zR.put_other _ _ (by omega),_,rfl⟩
 ·simp [execOp,ho,Instr.makeMap,newObj,Sem.run]
 ·show (w.heap.push _)[b]?=_
  simp [Array.getElem?_push,Nat.ne_of_lt hb]
theorem Wh {t:TypeId} {tag:Nat} (h:Vr P t=some tag):(tag=0∧∃ k,P.underlying t=some (.int k))∨(tag=1∧P.underlying t=some .bool)∨(tag=2∧P.underlying t=some .string):=by
 unfold Vr at h
 split at h
 ·rename_i k hu;injection h with h;exact .inl ⟨h.symm,k,hu⟩
 ·rename_i hu;injection h with h;exact .inr (.inl ⟨h.symm,hu⟩)
 ·rename_i hu;injection h with h;exact .inr (.inr ⟨h.symm,hu⟩)
 ·cases h
theorem QV {t:TypeId} {tag:Nat} (h:Vr P t=some tag) (b:Bool) (n:Nat) (v:Value):(Instr.checkKey b (n+1) t v).run P w=.ok () w:=by
 rcases Wh h with ⟨_,k,hu⟩|⟨_,hu⟩|⟨_,hu⟩
 ·simp [Instr.checkKey,run_underlying hu]
 ·simp [Instr.checkKey,run_underlying hu]
 ·simp [Instr.checkKey,run_underlying hu]
def zf6 (R:PV→Value→Prop):Prop:=∀ p v,R p v→(∀ k n,p=.int k n→v=.int k n)∧(∀ b,p=.bool b→v=.bool b)∧(∀ s,p=.str s→v=.string s)
theorem zn.keyLike (w:World) (F:Nat→Prop) (m:zR) (L:Nat→Nat):zf6 (zn w F m L):=fun p v h=>⟨fun k n e=>by subst e;exact h.int_inv,fun b e=>by subst e;exact h.bool_inv,fun s e=>by subst e;exact h.str_inv⟩
theorem zei {R:PV→Value→Prop} (hR:zf6 R) {t:TypeId} {tag:Nat} (h:Vr P t=some tag) {d:TypeDesc} (hd:P.underlying t=some d) {p q:PV} {u v:Value} (hp:R p u) (hq:R q v) {b:Bool} (he:jl tag p q=some b):Instr.sameNow d u v=some b:=by
 obtain ⟨p1,p2,p3⟩:=hR p u hp
 obtain ⟨q1,q2,q3⟩:=hR q v hq
 rcases Wh h with ⟨rfl,k,hu⟩|⟨rfl,hu⟩|⟨rfl,hu⟩
 ·rw [hd] at hu
  injection hu with hu
  subst hu
  cases p<;>cases q<;>simp only [jl] at he<;>try (cases he;done)
  rw [p1 _ _ rfl,q1 _ _ rfl]
  split at he
  ·rename_i hk
   have hk:_=_:=of_decide_eq_true hk
   subst hk
   simpa [Instr.sameNow] using he
  ·cases he
 ·rw [hd] at hu
  injection hu with hu
  subst hu
  cases p<;>cases q<;>simp only [jl] at he<;>try (cases he;done)
  rw [p2 _ rfl,q2 _ rfl]
  exact he
 ·rw [hd] at hu
  injection hu with hu
  subst hu
  cases p<;>cases q<;>simp only [jl] at he<;>try (cases he;done)
  rw [p3 _ rfl,q3 _ rfl]
  exact he
theorem KA {R:PV→Value→Prop} (hR:zf6 R) {t:TypeId} {tag:Nat} (h:Vr P t=some tag) {d:TypeDesc} (hd:P.underlying t=some d) {k:PV} {kv:Value} (hk:R k kv):
  ∀ {es:List (PV×PV)} {xs:List MapEntry} {r:Option PV} (n:Nat),xs.length=es.length→(∀ (i:Nat) (e:PV×PV) (x:MapEntry),es[i]?=some e→xs[i]?=some x→R e.1 x.key)→findKey tag k es=some r→
  match r with
  |none=>Instr.findNow d kv xs n=some none
  |some p=>∃ (j:Nat) (e:PV×PV) (x:MapEntry),es[j]?=some e∧xs[j]?=some x∧e.2=p∧Instr.findNow d kv xs n=some (some (n+j,x.val))
 |[],[],r,n,_,_,hf=>by simp only [findKey,Option.some.injEq] at hf;subst hf;rfl
 |[],_::_,_,_,hl,_,_=>by simp at hl
 |_::_,[],_,_,hl,_,_=>by simp at hl
 |e::es,x::xs,r,n,hl,hkeys,hf=>by
  simp only [findKey] at hf
  have hx:=hkeys 0 e x rfl rfl
  split at hf
  ·rename_i hq
   injection hf with hf
   subst hf
   refine ⟨0,e,x,rfl,rfl,rfl,?_⟩
   simp only [Instr.findNow,zei hR h hd hk hx hq,Nat.add_zero]
  ·rename_i hq
   have ih:=KA hR h hd hk (es:=es) (xs:=xs) (r:=r) (n+1) (by simpa using hl) (fun i e x he hx=>hkeys (i+1) e x (by simpa using he) (by simpa using hx)) hf
   have hstep:Instr.findNow d kv (x::xs) n=Instr.findNow d kv xs (n+1):=by simp only [Instr.findNow,zei hR h hd hk hx hq]
   cases r with
   |none=>rw [hstep];exact ih
   |some p=>
    obtain ⟨j,e',x',k1,k2,k3,k4⟩:=ih
    exact ⟨j+1,e',x',by simpa using k1,by simpa using k2,k3,by rw [hstep,k4];congr 3;omega⟩
  ·cases hf
theorem zm3 {t:TypeId} {z:PV} (h:Qh P t=some z):∃ i zv,P.info? t=some i∧i.zero=some zv∧RelF w F z zv:=by
 unfold Qh at h
 split at h
 ·rename_i i hi
  split at h
  ·rename_i zv hz
   refine ⟨i,zv,hi,hz,?_⟩
   cases zv with
   |agg cs=>
    simp only [zf4] at h
    split at h
    ·rename_i ps hps
     injection h with h
     subst h
     obtain ⟨h1,h2,h3⟩:=vt (w:=w) (F:=F) hps
     have:=RelF.agg ps cs.toList h1.1 h2 h1.2
     simpa using this
    ·cases h
   |_=>simp only [zf4] at h;exact (Kz h).1
  ·cases h
 ·cases h
theorem zuS (R:yl G w F m st.H) {t kt et:TypeId} {x y:Operand} {ok:Bool} (ho:o.op=.lookup t x y ok) (hu:P.underlying t=some (.map kt et)) {tag:Nat} (hk:Vr P kt=some tag) {z':PV} (hz:Qh P et=some z') {mp key:PV} {es:List (PV×PV)}
  (hes:Yu st.H mp=some es) (hm:zn w F m (zr st.H) mp (a.eval x)) (hkey:zn w F m (zr st.H) key (a.eval y)) {r:Option PV} (hf:findKey tag key es=some r):
  ya P G o a w F m st.H (zjM z' ok r) st.H true:=by
 obtain ⟨i,zv,hi,hzv,hz2⟩:=zm3 (w:=w) (F:=F) hz
 have hzr:zn w F m (zr st.H) z' zv:=.froz _ _ hz2
 have hkd:∃ d,P.underlying kt=some d:=by
  rcases Wh hk with ⟨_,k,hu⟩|⟨_,hu⟩|⟨_,hu⟩<;>exact ⟨_,hu⟩
 obtain ⟨d,hd⟩:=hkd
 have hent:∃ (es:List (PV×PV)) (xs:List MapEntry),findKey tag key es=some r∧xs.length=es.length∧(∀ (i:Nat) (e:PV×PV) (x:MapEntry),es[i]?=some e→xs[i]?=some x→zn w F m (zr st.H) e.1 x.key)∧
   (∀ (i:Nat) (e:PV×PV) (x:MapEntry),es[i]?=some e→xs[i]?=some x→zn w F m (zr st.H) e.2 x.val)∧
   (a.eval x=.map none∧xs=[]∨∃ rr clock,a.eval x=.map (some rr)∧w.heap[rr]?=some (.map xs.toArray clock)):=by
  generalize hx:a.eval x=u at hm
  cases mp<;>simp only [Yu] at hes<;>try (cases hes;done)
  case nilm=>
   injection hes with hes
   subst hes
   exact ⟨[],[],hf,rfl,by simp,by simp,.inl ⟨hm.nilm_inv,rfl⟩⟩
  case fm es'=>
   injection hes with hes
   subst hes
   cases hm with
   |froz _ _ hm=>
    cases hm with
    |fm _ es2 rr xs clock hK hF hw hl hk' hv=>exact ⟨es2,xs,hK _ _ _ hf,hl,fun i e x he hx=>.froz _ _ (hk' i e x he hx),fun i e x he hx=>.froz _ _ (hv i e x he hx),.inr ⟨rr,clock,rfl,hw⟩⟩
  case mp id=>
   split at hes
   ·rename_i es' hH
    injection hes with hes
    subst hes
    cases hm with
    |froz _ _ hm=>cases hm
    |mp _ blk hm' hL=>
     rcases R.maps id _ hH with h|⟨b,h,hc⟩
     ·rw [hm'] at h;cases h
     ·rw [hm'] at h
      injection h with h
      subst h
      obtain ⟨xs,clock,k1,k2,k3,k4⟩:=hc.cur
      exact ⟨_,xs,hf,k2,k3,k4,.inr ⟨blk,clock,rfl,k1⟩⟩
    |mpOld _ rr hm' hL=>rw [QI hH] at hL;omega
   ·cases hes
 clear hes hf es
 obtain ⟨es,xs,hf,e1,e2,e3,e4⟩:=hent
 have hrun:∀ (res:Option (Nat×Value)),Instr.findNow d (a.eval y) xs 0=some res→(execOp a.eval o).run P w=.ok (.value (match res with|some (_,v)=>(if ok then .tuple #[v,.bool true] else v)|none=>(if ok then .tuple #[zv,.bool false] else zv))) w:=by
  intro res hres
  have hck:∀ b,(Instr.checkKey b 10000 kt (a.eval y)).run P w=.ok () w:=fun b=>QV hk b 9999 _
  have hfk:(Instr.findKey kt (a.eval y) xs).run P w=.ok res w:=by simp [Instr.findKey,run_underlying hd,hres]
  rcases e4 with ⟨hx,rfl⟩|⟨rr,clock,hx,hw⟩
  ·cases res with
   |none=>simp [execOp,ho,Instr.lookup,run_underlying hu,hx,hck,hfk,zeroValue,typeInfo,hi,hzv]
   |some q=>simp [execOp,ho,Instr.lookup,run_underlying hu,hx,hck,hfk]
  ·have hgo:(getObj rr).run P w=.ok (.map xs.toArray clock) w:=by simp [getObj,Sem.run,hw]
   cases res with
   |none=>simp [execOp,ho,Instr.lookup,run_underlying hu,hx,hgo,hck,hfk,zeroValue,typeInfo,hi,hzv]
   |some q=>simp [execOp,ho,Instr.lookup,run_underlying hu,hx,hgo,hck,hfk]
 have:=KA (zn.keyLike w F m (zr st.H)) hk hd hkey 0 e1 e2 hf
 cases r with
 |none=>
  simp only at this
  refine ya.same R (hrun none this) ?_
  cases ok with
  |true=>exact .tup [z',.bool false] [zv,.bool false] rfl (yP.cons hzr (yP.cons (.froz _ _ (.bool _)) yP.nil)).2
  |false=>exact hzr
 |some p=>
  obtain ⟨j,e,x',k1,k2,k3,k4⟩:=this
  subst k3
  have hv:=e3 j e x' k1 k2
  refine ya.same R (hrun _ k4) ?_
  cases ok with
  |true=>exact .tup [e.2,.bool true] [x'.val,.bool true] rfl (yP.cons hv (yP.cons (.froz _ _ (.bool _)) yP.nil)).2
  |false=>exact hv
end
end
section
theorem U2 (cur:List Value) (vs:List Value) (X y:Nat) (h:X+vs.length≤cur.length):
  (cur.take X++vs++cur.drop (X+vs.length))[y]?=if y<X then cur[y]? else if y<X+vs.length then vs[y-X]? else cur[y]?:=by
 have hl:(cur.take X).length=X:=by simp;omega
 by_cases h1:y<X
 ·rw [if_pos h1,List.append_assoc,List.getElem?_append_left (by omega),List.getElem?_take,if_pos h1]
 ·rw [if_neg h1]
  by_cases h2:y<X+vs.length
  ·rw [if_pos h2,List.append_assoc,List.getElem?_append_right (by omega),hl,List.getElem?_append_left (by omega)]
  ·rw [if_neg h2,List.getElem?_append_right (by simp;omega),List.getElem?_drop]
   congr 1
   simp
   omega
section
variable {P:Program} {G:Nat→Option (List PV)} {T:ye} {nt:Nat} {w:World} {F:Nat→Prop} {m:zR} {H:zd} {st:St} {a:Act} {o:Oper}
theorem zdz {id s:Nat} {rows rows':List (List PV)} (hH:H[id]?=some (.cells s rows)):zr (H.set id (.cells s rows')) id=rows'.length:=by
 have:id<H.length:=(List.getElem?_eq_some_iff.1 hH).1
 simp [zr,this]
theorem yl.splice (R:yl G w F m H) {id s:Nat} {rows rows':List (List PV)} (hH:H[id]?=some (.cells s rows)) {blk o' cap:Nat} (hm:m id=.at_ blk o' cap s) {cur:Array Value} {t:TypeId} (hcur:w.heap[blk]?=some (.cells cur t (0,0))) (hfit:o'+cap*s≤cur.size)
  (X:Nat) (vs:List Value) (hX:X+vs.length≤cur.size) (hlen:rows.length≤rows'.length) (hcap:rows'.length≤cap) (hs:∀ (i:Nat) (r:List PV),rows'[i]?=some r→r.length=s)
  (hc:(∀ p v,zn w F m (zr H) p v→zn (w.setRow blk (cur.toList.take X++vs++cur.toList.drop (X+vs.length)).toArray) F m (zr (H.set id (.cells s rows'))) p v)→
   ∀ (i:Nat) (r:List PV) (j:Nat) (p:PV),rows'[i]?=some r→r[j]?=some p→∃ v,(cur.toList.take X++vs++cur.toList.drop (X+vs.length))[o'+i*s+j]?=some v∧v.oneCell'=true∧
    zn (w.setRow blk (cur.toList.take X++vs++cur.toList.drop (X+vs.length)).toArray) F m (zr (H.set id (.cells s rows'))) p v):
  yl G (w.setRow blk (cur.toList.take X++vs++cur.toList.drop (X+vs.length)).toArray) F m (H.set id (.cells s rows'))∧
  wo w F m H (w.setRow blk (cur.toList.take X++vs++cur.toList.drop (X+vs.length)).toArray) F m (H.set id (.cells s rows')):=by
 have hid:id<H.length:=(List.getElem?_eq_some_iff.1 hH).1
 have hblk:blk<w.heap.size:=R.lt blk ⟨id,o',cap,s,hm⟩
 have hmm:m.put id (.at_ blk o' cap s)=m:=by
  funext j
  by_cases e:j=id
  ·subst e;rw [zR.put_same,hm]
  ·rw [zR.put_other _ _ e]
 have hfrz:∀ a,(w.setRow blk (cur.toList.take X++vs++cur.toList.drop (X+vs.length)).toArray).frozen? a=w.frozen? a:=zjE w blk _
 have key:=R.put (w':=w.setRow blk (cur.toList.take X++vs++cur.toList.drop (X+vs.length)).toArray) (H':=H.set id (.cells s rows')) id blk o' cap s (.cells s rows')
  (fun j hj=>List.getElem?_set_ne (Ne.symm hj)) (List.getElem?_set_self hid) (fun x h1 _=>setRow_other w blk x _ h1) (by simp) (by simpa using hblk) (.inl ⟨_,_,_,hm⟩) (fun h=>by rw [hm] at h;cases h)
  (fun _=>⟨by rw [jX hH,zdz hH];exact hlen,fun _=>hm⟩) ⟨rfl,rfl,rfl,hfrz⟩
  (fun hmono=>⟨rfl,hcap,⟨_,t,setRow_heap w blk cur _ t (0,0) hcur,by simp;omega,fun i r j p hi hj=>by
   have:=hc (fun p v h=>by have:=hmono p v h;rwa [hmm] at this) i r j p hi hj
   rw [hmm]
   simpa using this⟩,hs⟩)
 rwa [hmm] at key
theorem zw_ (R:yl G w F m st.H) {t:TypeId} {x y:Operand} (ho:o.op=.store t x y) {sz:Nat} (hs:vO P t=some sz) {px py:PV} (hx:zn w F m (zr st.H) px (a.eval x)) (hy:zn w F m (zr st.H) py (a.eval y))
  {H':zd} {ed:zV} (h:storeAt st.H sz px py=some (H',ed)):ya P G o a w F m st.H .und H' false:=by
 obtain ⟨i,hi,hi2⟩:=ui hs
 cases px<;>simp only [storeAt] at h<;>try (cases h;done)
 case ptr id row off tot=>
  split at h
  ·rename_i s rows hH
   split at h
   ·rename_i cs ht hr
    split at h
    ·rename_i hb
     simp only [Bool.and_eq_true,beq_iff_eq,Nat.ble_eq] at hb
     obtain ⟨⟨hb1,hb2⟩,hb3⟩:=hb
     injection h with h
     injection h with h1 h2
     subst h1
     obtain ⟨blk,o',cap,hxv,hm,hca⟩:=R.ptr hH (by simpa using ht) hx
     obtain ⟨c1,c2⟩:=hy.cells hb3
     obtain ⟨cur,t',e1,e2,e3⟩:=hca.cur
     have hrow:row<rows.length:=(List.getElem?_eq_some_iff.1 hr).1
     have hcs:cs.length=s:=hca.size _ _ hr
     have hvl:(a.eval y).cells.toList.length=sz:=by rw [c1.1,hb1]
     have hroom:o'+row*s+off+sz≤cur.size:=by
      have:row*s+s≤cap*s:=by
       calc row*s+s=(row+1)*s:=by rw [Nat.add_mul];omega
        _≤cap*s:=Nat.mul_le_mul_right _ (by have:=hca.room;omega)
      omega
     have hsp:=R.splice hH hm e1 e2 (o'+row*s+off) (a.eval y).cells.toList (rows':=rows.set row (cs.take off++cellsOf py++cs.drop (off+sz))) (by rw [hvl];exact hroom) (by simp) (by simpa using hca.room)
      (fun k r hk=>by
       by_cases e:k=row
       ·subst e
        rw [List.getElem?_set_self hrow] at hk
        injection hk with hk
        subst hk
        simp [hb1]
        omega
       ·rw [List.getElem?_set_ne (Ne.symm e)] at hk
        exact hca.size _ _ hk)
      (fun hmono k r j p hk hj=>by
       rw [hvl] at hmono
       rw [U2 _ _ _ _ (by rw [hvl];simpa using hroom),hvl]
       by_cases e:k=row
       ·subst e
        rw [List.getElem?_set_self hrow] at hk
        injection hk with hk
        subst hk
        by_cases g1:j<off
        ·rw [if_pos (by omega)]
         rw [List.append_assoc,List.getElem?_append_left (by simp;omega),List.getElem?_take,if_pos g1] at hj
         obtain ⟨v,q1,q2,q3⟩:=e3 k cs j p hr hj
         exact ⟨v,by rw [Array.getElem?_toList];exact q1,q2,hmono _ _ q3⟩
        ·rw [if_neg (by omega)]
         have hl1:(cs.take off).length=off:=by simp;omega
         by_cases g2:j<off+sz
         ·rw [if_pos (by omega)]
          rw [List.append_assoc,List.getElem?_append_right (by omega),hl1,List.getElem?_append_left (by omega)] at hj
          obtain ⟨v,q1,q2⟩:=c1.get hj
          refine ⟨v,?_,c2 v (List.mem_of_getElem? q1),hmono _ _ q2⟩
          rw [show o'+k*s+j-(o'+k*s+off)=j-off by omega]
          exact q1
         ·rw [if_neg (by omega)]
          rw [List.getElem?_append_right (by simp;omega),List.getElem?_drop] at hj
          rw [show off+sz+(j-(cs.take off++cellsOf py).length)=j by simp;omega] at hj
          obtain ⟨v,q1,q2,q3⟩:=e3 k cs j p hr hj
          exact ⟨v,by rw [Array.getElem?_toList];exact q1,q2,hmono _ _ q3⟩
       ·rw [List.getElem?_set_ne (Ne.symm e)] at hk
        obtain ⟨v,q1,q2,q3⟩:=e3 k r j p hk hj
        have hjs:j<s:=by
         have:=(List.getElem?_eq_some_iff.1 hj).1
         have:=hca.size _ _ hk
         omega
        have hout:o'+k*s+j<o'+row*s+off∨o'+row*s+off+sz≤o'+k*s+j:=by
         rcases Nat.lt_or_gt_of_ne e with hlt|hgt
         ·left
          have:k*s+s≤row*s:=by
           calc k*s+s=(k+1)*s:=by rw [Nat.add_mul];omega
            _≤row*s:=Nat.mul_le_mul_right _ hlt
          omega
         ·right
          have:row*s+s≤k*s:=by
           calc row*s+s=(row+1)*s:=by rw [Nat.add_mul];omega
            _≤k*s:=Nat.mul_le_mul_right _ hgt
          omega
        refine ⟨v,?_,q2,hmono _ _ q3⟩
        rw [←Array.getElem?_toList] at q1
        rcases hout with g|g
        ·rw [if_pos g];exact q1
        ·rw [if_neg (by omega),if_neg (by omega)];exact q1)
     have hst:=run_storeCells_at P blk (o'+row*s+off) t' (a.eval y).cells.toList 0 cur w e1 (by rw [Nat.add_zero,hvl];exact hroom) c2
     simp only [Nat.add_zero] at hst
     refine ya.skip ?_ hsp.1 hsp.2 (by simp)
     have hsz2:(a.eval y).cells.size=i.size:=by simp at hvl;omega
     simp [execOp,ho,Instr.storeAt,hxv,Instr.sureAddr,storeVar,sizeOf,typeInfo,hi,hsz2,hst]
    ·cases h
   ·cases h
  ·cases h
theorem zmP (R:yl G w F m st.H) {t kt et:TypeId} {x y z:Operand} (ho:o.op=.insert t x y z∨o.op=.mapUpdate t x y z) (hu:P.underlying t=some (.map kt et)) {tag:Nat} (hk:Vr P kt=some tag) {id:Nat} {key val:PV}
  (hx:zn w F m (zr st.H) (.mp id) (a.eval x)) (hkey:zn w F m (zr st.H) key (a.eval y)) (hval:zn w F m (zr st.H) val (a.eval z)) {es:List (PV×PV)} (hH:st.H[id]?=some (.map es)) (hf:findKey tag key es=some none):
  ya P G o a w F m st.H .und (st.H.set id (.map (es++[(key,val)]))) false:=by
 have hkd:∃ d,P.underlying kt=some d:=by
  rcases Wh hk with ⟨_,k,hu⟩|⟨_,hu⟩|⟨_,hu⟩<;>exact ⟨_,hu⟩
 obtain ⟨d,hd⟩:=hkd
 have hid:id<st.H.length:=(List.getElem?_eq_some_iff.1 hH).1
 generalize hxv:a.eval x=u at hx
 cases hx with
 |froz _ _ h=>cases h
 |mpOld _ r hm hL=>rw [QI hH] at hL;omega
 |mp _ blk hm hL=>
  rcases R.maps id es hH with h|⟨b,h,hc⟩
  ·rw [hm] at h;cases h
  rw [hm] at h
  injection h with h
  subst h
  obtain ⟨xs,clock,e1,e2,e3,e4⟩:=hc.cur
  have hblk:blk<w.heap.size:=R.lt blk ⟨id,0,0,0,hm⟩
  have hfn:=KA (zn.keyLike w F m (zr st.H)) hk hd hkey 0 e2 e3 hf
  simp only at hfn
  have hmm:m.put id (.at_ blk 0 0 0)=m:=by
   funext j
   by_cases e:j=id
   ·subst e;rw [zR.put_same,hm]
   ·rw [zR.put_other _ _ e]
  have hlens:zr (st.H.set id (.map (es++[(key,val)]))) id=0:=by simp [zr,hid]
  have key':=R.put (w':={ w with heap:=w.heap.setIfInBounds blk (.map (xs.toArray.push { key:=a.eval y,val:=a.eval z,born:=clock }) (clock+1)) }) (H':=st.H.set id (.map (es++[(key,val)]))) id blk 0 0 0 (.map (es++[(key,val)]))
   (fun j hj=>List.getElem?_set_ne (Ne.symm hj)) (List.getElem?_set_self hid) (fun x h1 _=>Array.getElem?_setIfInBounds_ne (Ne.symm h1)) (by simp) (by simpa using hblk) (.inl ⟨_,_,_,hm⟩) (fun h=>by rw [hm] at h;cases h)
   (fun _=>⟨by rw [QI hH,hlens];exact Nat.le_refl _,fun _=>hm⟩) ⟨rfl,rfl,rfl,zjD w blk _ _ e1⟩
   (fun hmono=>⟨rfl,rfl,rfl,⟨xs++[{ key:=a.eval y,val:=a.eval z,born:=clock }],clock+1,by simp [hblk],by simp [e2],fun i e x he hx=>by
    by_cases hi:i<es.length
    ·rw [List.getElem?_append_left hi] at he
     rw [List.getElem?_append_left (by omega)] at hx
     exact hmono _ _ (e3 i e x he hx)
    ·rw [List.getElem?_append_right (by omega)] at he
     rw [List.getElem?_append_right (by omega),e2] at hx
     have h0:i-es.length=0:=by have:=(List.getElem?_eq_some_iff.1 he).1;simp at this;omega
     rw [h0] at he hx
     simp at he hx
     subst he;subst hx
     exact hmono _ _ hkey,fun i e x he hx=>by
    by_cases hi:i<es.length
    ·rw [List.getElem?_append_left hi] at he
     rw [List.getElem?_append_left (by omega)] at hx
     exact hmono _ _ (e4 i e x he hx)
    ·rw [List.getElem?_append_right (by omega)] at he
     rw [List.getElem?_append_right (by omega),e2] at hx
     have h0:i-es.length=0:=by have:=(List.getElem?_eq_some_iff.1 he).1;simp at this;omega
     rw [h0] at he hx
     simp at he hx
     subst he;subst hx
     exact hmono _ _ hval⟩,fun ys c h=>by
    have h:(w.heap.setIfInBounds blk (.map (xs.toArray.push { key:=a.eval y,val:=a.eval z,born:=clock }) (clock+1)))[blk]?=some (.map ys c):=h
    simp [hblk] at h
    obtain ⟨rfl,rfl⟩:=h
    obtain ⟨b1,b2⟩:=hc.born _ _ e1
    simp only [List.toList_toArray] at b1 b2
    refine ⟨?_,fun x hx=>?_⟩
    ·simp only [Array.toList_push,List.toList_toArray,List.map_append,List.map_cons,List.map_nil]
     refine List.nodup_append.2 ⟨b1,by simp,fun p hp q hq=>?_⟩
     obtain ⟨x,hx,rfl⟩:=List.mem_map.1 hp
     simp only [List.mem_singleton] at hq
     have:=b2 x hx
     omega
    ·simp only [Array.toList_push,List.toList_toArray,List.mem_append,List.mem_singleton] at hx
     rcases hx with hx|rfl
     ·have:=b2 x hx;omega
     ·exact Nat.lt_succ_self _⟩)
  rw [hmm] at key'
  have hup:(Instr.mapUpdate t (a.eval x) (a.eval y) (a.eval z)).run P w=.ok () { w with heap:=w.heap.setIfInBounds blk (.map (xs.toArray.push { key:=a.eval y,val:=a.eval z,born:=clock }) (clock+1)) }:=by
   have hgo:(getObj blk).run P w=.ok (.map xs.toArray clock) w:=by simp [getObj,Sem.run,e1]
   have hck:∀ b,(Instr.checkKey b 10000 kt (a.eval y)).run P w=.ok () w:=fun b=>QV hk b 9999 _
   have hfk:(Instr.findKey kt (a.eval y) xs).run P w=.ok none w:=by simp [Instr.findKey,run_underlying hd,hfn]
   simp [Instr.mapUpdate,run_underlying hu,hxv,hgo,hck,hfk,setObj,Sem.run,e1]
  refine ya.skip ?_ key'.1 key'.2 (by simp)
  rcases ho with ho|ho<;>simp [execOp,ho,hup]
end
end
section
structure kQ (R:PV→Value→Prop) (s:Nat) (rows:List (List PV)) (zf:List Value):Prop where
 len:zf.length=rows.length*s
 one:∀ u∈zf,u.oneCell'=true
 size:∀ r∈rows,r.length=s
 rel:∀ (i:Nat) (r:List PV) (j:Nat) (p:PV),rows[i]?=some r→r[j]?=some p→∃ u,zf[i*s+j]?=some u∧R p u
theorem kQ.nil {R:PV→Value→Prop} {s:Nat}:kQ R s [] []:=⟨by simp,by simp,by simp,fun i r j p h=>by simp at h⟩
theorem kQ.append {R:PV→Value→Prop} {s:Nat} {rows rows':List (List PV)} {zf vals':List Value} (h:kQ R s rows zf) (h':kQ R s rows' vals'):kQ R s (rows++rows') (zf++vals'):=by
 refine ⟨by simp [h.len,h'.len,Nat.add_mul],fun u hu=>?_,fun r hr=>?_,fun i r j p hi hj=>?_⟩
 ·rcases List.mem_append.1 hu with hu|hu
  ·exact h.one u hu
  ·exact h'.one u hu
 ·rcases List.mem_append.1 hr with hr|hr
  ·exact h.size r hr
  ·exact h'.size r hr
 ·by_cases hlt:i<rows.length
  ·rw [List.getElem?_append_left hlt] at hi
   obtain ⟨u,e1,e2⟩:=h.rel i r j p hi hj
   exact ⟨u,by rw [List.getElem?_append_left (List.getElem?_eq_some_iff.1 e1).1];exact e1,e2⟩
  ·rw [List.getElem?_append_right (by omega)] at hi
   obtain ⟨u,e1,e2⟩:=h'.rel _ r j p hi hj
   have hm:rows.length*s≤i*s:=Nat.mul_le_mul_right _ (by omega)
   refine ⟨u,?_,e2⟩
   rw [List.getElem?_append_right (by rw [h.len];omega),h.len]
   rw [show i*s+j-rows.length*s=(i-rows.length)*s+j by rw [Nat.sub_mul];omega]
   exact e1
theorem kQ.mono {R R':PV→Value→Prop} {s:Nat} {rows:List (List PV)} {zf:List Value} (h:kQ R s rows zf) (hR:∀ p v,R p v→R' p v):kQ R' s rows zf:=
 ⟨h.len,h.one,h.size,fun i r j p hi hj=>let ⟨u,e1,e2⟩:=h.rel i r j p hi hj;⟨u,e1,hR _ _ e2⟩⟩
theorem kQ.of {R:PV→Value→Prop} {s:Nat} (hs:s≠0) {rows:List (List PV)} (f:Nat→Nat→Value) (hz:∀ r∈rows,r.length=s) (h1:∀ (i:Nat) (r:List PV) (j:Nat) (p:PV),rows[i]?=some r→r[j]?=some p→(f i j).oneCell'=true∧R p (f i j)):
  kQ R s rows ((List.range (rows.length*s)).map fun k=>f (k/s) (k%s)):=by
 have at_:∀ k,k<rows.length*s→∃ r p,rows[k/s]?=some r∧r[k%s]?=some p:=by
  intro k hk
  have h1:k/s<rows.length:=Nat.div_lt_of_lt_mul (by rw [Nat.mul_comm];exact hk)
  have h2:k%s<rows[k/s].length:=by rw [hz _ (List.getElem_mem h1)];exact Nat.mod_lt _ (by omega)
  exact ⟨rows[k/s],rows[k/s][k%s],List.getElem?_eq_getElem h1,List.getElem?_eq_getElem h2⟩
 refine ⟨by simp,fun u hu=>?_,hz,fun i r j p hi hj=>?_⟩
 ·simp only [List.mem_map,List.mem_range] at hu
  obtain ⟨k,hk,rfl⟩:=hu
  obtain ⟨r,p,e1,e2⟩:=at_ k hk
  exact (h1 _ _ _ _ e1 e2).1
 ·have hj':j<s:=by
   have:=(List.getElem?_eq_some_iff.1 hj).1
   rw [hz r (List.mem_of_getElem? hi)] at this
   exact this
  have hi':i<rows.length:=(List.getElem?_eq_some_iff.1 hi).1
  have hk:i*s+j<rows.length*s:=by
   calc i*s+j<i*s+s:=by omega
    _=(i+1)*s:=by rw [Nat.add_mul];omega
    _≤rows.length*s:=Nat.mul_le_mul_right _ hi'
  refine ⟨f i j,?_,(h1 i r j p hi hj).2⟩
  rw [List.getElem?_map,List.getElem?_range hk]
  simp only [Option.map_some]
  rw [Nat.add_comm,Nat.add_mul_div_right _ _ (by omega),Nat.add_mul_mod_self_right,Nat.mod_eq_of_lt hj',Nat.div_eq_of_lt hj',Nat.zero_add]
theorem uO.flat {w:World} {R:PV→Value→Prop} {blk o cap s:Nat} {rows:List (List PV)} (h:uO w R blk o cap s rows) (hs:s≠0) {off len:Nat} (hl:off+len≤rows.length):
  ∃ zf:List Value,kQ R s ((rows.drop off).take len) zf∧∀ (k:Nat) (u:Value),zf[k]?=some u→w.cell? ⟨blk,o+off*s+k,none⟩=some u:=by
 obtain ⟨cur,t,h2,h3,h4⟩:=h.cur
 have hat:∀ (i:Nat) (r:List PV),((rows.drop off).take len)[i]?=some r→rows[off+i]?=some r:=by
  intro i r hi
  rw [List.getElem?_take] at hi
  split at hi
  ·rw [List.getElem?_drop] at hi;exact hi
  ·cases hi
 have hlen:((rows.drop off).take len).length=len:=by simp;omega
 have f:=kQ.of (R:=R) hs (rows:=(rows.drop off).take len) (fun i j=>cur.getD (o+(off+i)*s+j) undef) (fun r hr=>by
   obtain ⟨i,hi,rfl⟩:=List.getElem_of_mem hr
   exact h.size _ _ (hat i _ (List.getElem?_eq_getElem hi))) (fun i r j p hi hj=>by
   obtain ⟨v,e1,e2,e3⟩:=h4 _ r j p (hat i r hi) hj
   have:cur.getD (o+(off+i)*s+j) undef=v:=by simp [e1]
   rw [this]
   exact ⟨e2,e3⟩)
 refine ⟨_,f,fun k u hk=>?_⟩
 rw [hlen] at hk
 have hk':k<len*s:=by have:=(List.getElem?_eq_some_iff.1 hk).1;simpa using this
 rw [List.getElem?_map,List.getElem?_range hk'] at hk
 simp only [Option.map_some,Option.some.injEq] at hk
 have hks:k/s<len:=Nat.div_lt_of_lt_mul (by rw [Nat.mul_comm];exact hk')
 have hb:o+off*s+k<cur.size:=by
  have:=h.room
  have h5:(off+len)*s≤cap*s:=Nat.mul_le_mul_right _ (by omega)
  rw [Nat.add_mul] at h5
  omega
 have hidx:o+(off+k/s)*s+k%s=o+off*s+k:=by
  have:=Nat.div_add_mod k s
  rw [Nat.mul_comm] at this
  rw [Nat.add_mul]
  omega
 rw [hidx] at hk
 rw [zbm h2]
 rw [Array.getElem?_eq_getElem hb]
 simp [Array.getD,hb] at hk
 rw [hk]
theorem kQ.cellsAt {w:World} {R:PV→Value→Prop} {blk cap s:Nat} {rows:List (List PV)} {zf:List Value} (h:kQ R s rows zf) {cur:Array Value} {t:TypeId} (hcur:w.heap[blk]?=some (.cells cur t (0,0))) (hc:rows.length≤cap) (hsz:cap*s≤cur.size)
  (hv:∀ (k:Nat) (u:Value),zf[k]?=some u→cur[k]?=some u):uO w R blk 0 cap s rows:=by
 refine ⟨hc,⟨cur,t,hcur,by omega,fun i r j p hi hj=>?_⟩,fun i r hi=>h.size r (List.mem_of_getElem? hi)⟩
 obtain ⟨u,e1,e2⟩:=h.rel i r j p hi hj
 exact ⟨u,by rw [Nat.zero_add];exact hv _ _ e1,h.one u (List.mem_of_getElem? e1),e2⟩
section
variable {P:Program} {G:Nat→Option (List PV)} {T:ye} {nt:Nat} {w:World} {F:Nat→Prop} {m:zR} {H:zd} {st:St} {a:Act} {o:Oper}
theorem JZ (R:yl G w F m H) {y:PV} {v:Value} (hv:zn w F m (zr H) y v) {new:List (List PV)} (h:uh H y=some new) {sz:Nat} (hs:xS H sz y=true) (hz:sz≠0):
  ∃ (b:Option Addr) (c:Nat) (news:List Value),v=.slice b new.length c∧kQ (zn w F m (zr H)) sz new news∧(new=[]∨∃ ad:Addr,b=some ad∧∀ (k:Nat) (u:Value),news[k]?=some u→w.cell? (ad.add k)=some u):=by
 cases y<;>simp only [uh] at h<;>try (cases h;done)
 case fz rows=>
  injection h with h
  subst h
  have hall:∀ r∈rows,r.length=sz:=fun r hr=>by have:=List.all_eq_true.1 hs r hr;simpa using this
  cases hv with
  |froz _ _ hv=>
   cases hv with
   |fzNil b c=>exact ⟨b,c,[],rfl,kQ.nil,.inl rfl⟩
   |fz _ blk off s cap f hF hs' hc h1' hw hh=>
    cases hr:rows with
    |nil=>exact ⟨some ⟨blk,off,none⟩,cap,[],by simp,kQ.nil,.inl rfl⟩
    |cons r0 rs=>
     rw [←hr]
     have hs2:s=sz:=by
      have:=hs' 0 r0 (by rw [hr];rfl)
      have:=hall r0 (by rw [hr];simp)
      omega
     subst hs2
     have fl:=kQ.of (R:=zn w F m (zr H)) hz (rows:=rows) f hall fun i r j p hi hj=>⟨h1' i r j p hi hj,.froz _ _ (hh i r j p hi hj)⟩
     refine ⟨_,cap,_,rfl,fl,.inr ⟨_,rfl,fun k u hk=>?_⟩⟩
     rw [um]
     have hk':k<rows.length*s:=by have:=(List.getElem?_eq_some_iff.1 hk).1;simpa using this
     rw [List.getElem?_map,List.getElem?_range hk'] at hk
     simp only [Option.map_some,Option.some.injEq] at hk
     have hks:k/s<rows.length:=Nat.div_lt_of_lt_mul (by rw [Nat.mul_comm];exact hk')
     have hkr:k%s<rows[k/s].length:=by rw [hall _ (List.getElem_mem hks)];exact Nat.mod_lt _ (by omega)
     have:=hw _ _ _ _ (List.getElem?_eq_getElem hks) (List.getElem?_eq_getElem hkr)
     have hd:=Nat.div_add_mod k s
     rw [Nat.mul_comm] at hd
     rw [show off+k/s*s+k%s=off+k by omega,hk] at this
     exact this
 case nils=>
  injection h with h
  subst h
  exact ⟨none,0,[],hv.nils_inv,kQ.nil,.inl rfl⟩
 case sl id off len tot=>
  split at h
  ·rename_i s rows hH
   split at h
   ·rename_i hb
    injection h with h
    subst h
    simp only [Bool.and_eq_true,beq_iff_eq,decide_eq_true_eq] at hb
    have hl:=jX hH
    have hs2:s=sz:=by simp only [xS,hH] at hs;simpa using hs
    subst hs2
    have hlen:((rows.drop off).take len).length=len:=by simp;omega
    cases hv with
    |froz _ _ hv=>cases hv
    |sl _ _ _ _ blk o' cap s' b hm hL ht hc hb'=>
     obtain ⟨e1,hca⟩:=R.block hH hm
     subst e1
     obtain ⟨zf,f1,f2⟩:=hca.flat hz (off:=off) (len:=len) (by omega)
     by_cases h0:len=0
     ·subst h0
      refine ⟨some b,cap-off,[],by simp,?_,.inl (by simp)⟩
      rw [List.take_zero]
      exact kQ.nil
     ·rcases hb' with e|e
      ·omega
      ·subst e
       refine ⟨_,cap-off,zf,by rw [hlen],f1,.inr ⟨_,rfl,fun k u hk=>?_⟩⟩
       rw [um]
       exact f2 k u hk
    |slVirt _ hm hL=>exact ⟨none,0,[],by simp,by simp only [List.drop_zero,List.take_zero];exact kQ.nil,.inl (by simp)⟩
    |slOld _ _ _ _ b c hm hL hc=>omega
   ·cases h
  ·cases h
theorem ze2:∀ {rows:List (List PV)} {bs:List UInt8},zbT rows=some bs→∃ ns:List Int,rows=ns.map (fun n=>[PV.int .u8 n])∧bs=ns.map fun n=>UInt8.ofNat n.toNat
 |[],bs,h=>by simp only [zbT,Option.some.injEq] at h;subst h;exact ⟨[],rfl,rfl⟩
 |r::rs,bs,h=>by
  unfold zbT at h
  split at h
  ·rename_i heq;cases heq
  ·rename_i n rs' heq
   cases heq
   split at h
   ·rename_i bs' hb
    injection h with h;subst h
    obtain ⟨ns,h1,h2⟩:=ze2 hb
    exact ⟨n::ns,by rw [h1];rfl,by rw [h2];rfl⟩
   ·cases h
  ·cases h
theorem zyp (R:yl G w F m st.H) {s d e:TypeId} {x:Operand} (ho:o.op=.convert s d x) (hs:P.underlying s=some (.slice e)) (he:P.underlying e=some (.int .u8)) (hd:P.underlying d=some .string) {y v:PV} (hy:zn w F m (zr st.H) y (a.eval x)) (hv:zpi st.H y=some v):
  ya P G o a w F m st.H v st.H true:=by
 unfold zpi at hv
 split at hv
 ·rename_i rows h1 h2
  split at hv
  ·rename_i bs hb
   injection hv with hv;subst hv
   obtain ⟨ns,rfl,rfl⟩:=ze2 hb
   obtain ⟨b,c,news,hx,hf,hc⟩:=JZ R hy h1 h2 (by decide)
   have hn:news=ns.map (Value.int .u8):=by
    have hl:=hf.len
    simp only [List.length_map,Nat.mul_one] at hl
    refine List.ext_getElem? fun i=>?_
    rcases Nat.lt_or_ge i ns.length with h|h
    ·obtain ⟨u,k1,k2⟩:=hf.rel i [PV.int .u8 ns[i]] 0 (.int .u8 ns[i]) (by simp [h]) rfl
     simp only [Nat.mul_one,Nat.add_zero] at k1
     rw [k1,k2.int_inv]
     simp [h]
    ·rw [List.getElem?_eq_none (by omega),List.getElem?_eq_none (by simpa using h)]
   subst hn
   refine ya.same (cv:=.string ⟨(ns.map fun n=>UInt8.ofNat n.toNat).toArray⟩) R ?_ (.froz _ _ (.str _))
   have key:(convert s d (.slice b ns.length c)).run P w=.ok (.string ⟨(ns.map fun n=>UInt8.ofNat n.toNat).toArray⟩) w:=by
    rw [run_convert_bytes_string w s d e b _ c hs he hd]
    rcases hc with h0|⟨ad,rfl,hcell⟩
    ·have h0:ns=[]:=by simpa using h0
     subst h0
     cases b with
     |none=>simp [Conv.bytesToString,ByteArray.empty,ByteArray.emptyWithCapacity];rfl
     |some ad=>
      have:=run_bytesToString (P:=P) w ad 0 c [] (by simp [loadCells,loadCellsFrom])
      exact this
    ·have hl:=run_loadCells_list (P:=P) w ad (ns.map (Value.int .u8)) (fun j v hj=>hcell j v hj)
     rw [List.length_map] at hl
     rw [run_bytesToString w ad _ c ns hl,foldl_push_bytes]
     simp [ByteArray.empty,ByteArray.emptyWithCapacity]
     rfl
   rw [List.length_map] at hx
   simp only [execOp,ho,hx,Sem.run_bind,key,Result.andThen_ok,Sem.run_pure]
  ·cases hv
 ·cases hv
theorem yl.drew (R:yl G w F m H):yl G w.drew F m H∧wo w F m H w.drew F m H:=by
 obtain ⟨h1,h2,_⟩:=R.world (w':=w.drew) (F':=F) (Nat.le_refl _) (fun _ _=>rfl) ⟨rfl,rfl,rfl,fun _=>rfl⟩ (fun _ h=>h) (fun _ h=>.inl h) R.ltF
 exact ⟨h1,h2⟩
theorem yl.virt (R:yl G w F m H) (s:Nat):yl G w F (m.put H.length .virt) (H++[.cells s []])∧wo w F m H w F (m.put H.length .virt) (H++[.cells s []]):=by
 have hl:∀ j,zr (H++[.cells s []]) j=zr H j:=by
  intro j
  unfold zr
  rcases Nat.lt_trichotomy j H.length with h|h|h
  ·rw [List.getElem?_append_left h]
  ·subst h;simp
  ·rw [List.getElem?_eq_none (by simp;omega),List.getElem?_eq_none (by omega)]
 have hloc:∀ id,m id≠.unk→m.put H.length .virt id≠.unk∧zr H id≤zr (H++[.cells s []]) id∧(zr (H++[.cells s []]) id=zr H id→m.put H.length .virt id=m id):=by
  intro id hid
  have:id≠H.length:=fun e=>hid (R.fresh id (by omega))
  rw [zR.put_other _ _ this,hl]
  exact ⟨hid,Nat.le_refl _,fun _=>rfl⟩
 have hm:∀ p v,zn w F m (zr H) p v→zn w F (m.put H.length .virt) (zr (H++[.cells s []])) p v:=fun p v h=>h.mono (fun _ _=>rfl) (fun _ h=>h) hloc
 have hne:∀ id b o' c s',m.put H.length .virt id=.at_ b o' c s'→m id=.at_ b o' c s':=by
  intro id b o' c s' h
  by_cases e:id=H.length
  ·subst e;rw [zR.put_same] at h;cases h
  ·rwa [zR.put_other _ _ e] at h
 refine ⟨⟨fun id z rows hj=>?_,fun id es hj=>?_,fun id hid=>?_,fun id id' b o' c s' o2 c2 s2 h1 h2=>R.inj _ _ _ _ _ _ _ _ _ (hne _ _ _ _ _ h1) (hne _ _ _ _ _ h2),fun b ⟨id,o',c,s',h⟩=>R.lt b ⟨id,o',c,s',hne _ _ _ _ _ h⟩,R.ltF,
  fun b ⟨id,o',c,s',h⟩=>R.apart b ⟨id,o',c,s',hne _ _ _ _ _ h⟩,R.glob⟩,
  ⟨Nat.le_refl _,fun _ h=>h,fun _ h=>.inl h,fun _ _ _=>rfl,hloc,fun b ⟨id,o',c,s',h⟩=>.inl ⟨id,o',c,s',hne _ _ _ _ _ h⟩,rfl,rfl,rfl,fun _=>rfl,by simp,fun id h1 h2=>by
   by_cases e:id=H.length
   ·omega
   ·rw [zR.put_other _ _ e] at h2;exact absurd h1 h2⟩⟩
 ·by_cases e:id=H.length
  ·subst e
   simp at hj
   exact .inr (.inl ⟨zR.put_same ..,hj.2⟩)
  ·have hlt:id<H.length:=by have:=(List.getElem?_eq_some_iff.1 hj).1;simp at this;omega
   rw [List.getElem?_append_left hlt] at hj
   rw [zR.put_other _ _ e]
   rcases R.cells id z rows hj with h|h|⟨x,o',c',k1,k2⟩
   ·exact .inl h
   ·exact .inr (.inl h)
   ·exact .inr (.inr ⟨x,o',c',k1,k2.mono rfl hm⟩)
 ·have e:id≠H.length:=by intro e;subst e;simp at hj
  have hlt:id<H.length:=by have:=(List.getElem?_eq_some_iff.1 hj).1;simp at this;omega
  rw [List.getElem?_append_left hlt] at hj
  rw [zR.put_other _ _ e]
  rcases R.maps id es hj with h|⟨x,k1,k2⟩
  ·exact .inl h
  ·exact .inr ⟨x,k1,k2.mono rfl hm⟩
 ·simp at hid
  rw [zR.put_other _ _ (by omega)]
  exact R.fresh id (by omega)
theorem ziE {t:TypeId} {x y:Operand} {c:Call} (ho:o.op=.call c) (hc:c.callee=.builtin .append) (hat:c.argTypes.toList=[t,t]) (har:c.args.toList=[x,y]):
  (execOp a.eval o).run P w=((Builtin.append_ #[t,t] o.type #[a.eval x,a.eval y]).run P w).andThen fun v w'=>.ok (.value v) w':=by
 obtain ⟨callee,args,argTypes⟩:=c
 simp only at hc hat har
 subst hc
 have hargs:args=#[x,y]:=by rw [←Array.toArray_toList (xs:=args),har]
 have hats:argTypes=#[t,t]:=by rw [←Array.toArray_toList (xs:=argTypes),hat]
 subst hargs;subst hats
 simp [execOp,ho,resolve,invoke,builtin]
theorem U_ {t e ty:TypeId} (hu:P.underlying t=some (.slice e)) {i:TypeInfo} (hi:P.info? e=some i) (b:Option Addr) (l c:Nat) (h:l≤c) (b':Option Addr) (c':Nat):
  (Builtin.append_ #[t,t] ty #[.slice b l c,.slice b' 0 c']).run P w=.ok (.slice b l c) w:=by
 have hf:(Builtin.firstCells i.size 0 (.slice b' 0 c')).run P w=.ok #[] w:=by
  cases b' with
  |none=>simp [Builtin.firstCells]
  |some ad=>exact run_firstCells_some (P:=P) w i.size 0 ad 0 c' [] (by simp) (by simp)
 cases b with
 |none=>simp [Builtin.append_,run_underlying hu,sizeOf,typeInfo,hi,Builtin.lenOf,h,hf]
 |some ad=>simp [Builtin.append_,run_underlying hu,sizeOf,typeInfo,hi,Builtin.lenOf,h,hf,storeCells]
theorem zfj (w:World) (need old:Nat) (e:TypeId):need≤grownCap w need old e:=by
 unfold grownCap
 simp only [Question.cut]
 omega
theorem zfI (R:yl G w F m st.H) {t e:TypeId} {x y:Operand} {c:Call} (ho:o.op=.call c) (hc:c.callee=.builtin .append) (hat:c.argTypes.toList=[t,t]) (har:c.args.toList=[x,y]) {sz by':Nat} (he:jS P t=some (e,sz,by')) {z:List PV} (hz:kH P e=some z) (hzl:z.length=sz)
  (hx:a.eval x=.slice none 0 0) {py:PV} (hy:zn w F m (zr st.H) py (a.eval y)) {new:List (List PV)} (hn:uh st.H py=some new) (hsz:xS st.H sz py=true) (hb:new.length*by'≤35184372088832) {id:Nat} {H':zd} (hH':∀ j,j≠id→H'[j]?=st.H[j]?) (hid:H'[id]?=some (.cells sz new))
  (hcase:(id=st.H.length∧H'=st.H++[.cells sz new])∨(m id=.virt∧zr st.H id=0∧(new=[]→H'=st.H))):ya P G o a w F m st.H (.sl id 0 new.length new.length) H' false:=by
 obtain ⟨hu,i,hi,hi2,hi3,hs0,hb0⟩:=j9 he
 obtain ⟨i',zv,hi',hzv,hcz⟩:=Xf hz
 rw [hi] at hi'
 injection hi' with hi'
 subst hi'
 have hzs:zv.cells.size=i.size:=by have:=(vt (w:=w) (F:=F) hcz).1.1;simp at this;omega
 subst hi2
 subst hi3
 obtain ⟨b,c',news,hyv,hfl,hsrc⟩:=JZ R hy hn hsz hs0
 have hr:=ziE (P:=P) (w:=w) (a:=a) ho hc hat har
 rw [hx,hyv] at hr
 cases hnew:new with
 |nil=>
  rw [hnew] at hr
  simp only [List.length_nil] at hr
  rw [U_ hu hi none 0 0 (Nat.le_refl _) b c'] at hr
  rcases hcase with ⟨h1,h2⟩|⟨h1,h2,h3⟩
  ·subst h1
   rw [hnew] at h2
   subst h2
   obtain ⟨R',g⟩:=R.virt i.size
   exact ya.of hr R' g (.slVirt _ (zR.put_same ..) (by simp [zr])) (by simp)
  ·have:=h3 hnew
   subst this
   refine ya.of hr R (wo.refl ..) (.slVirt _ h1 h2) (by simp)
 |cons r0 rs=>
  rw [←hnew]
  have hpos:0<new.length:=by rw [hnew];simp
  rcases hsrc with h0|⟨ad,rfl,hcell⟩
  ·rw [h0] at hpos;simp at hpos
  have hb2:new.length≤35184372088832:=by
   calc new.length=new.length*1:=by omega
    _≤new.length*i.bytes:=Nat.mul_le_mul_left _ (by omega)
    _≤_:=hb
  have hrun:=run_append_nil (P:=P) w t o.type e i zv hu hi hzv ad new.length c' news hfl.len hcell hpos (by omega) (by omega)
  rw [hrun] at hr
  obtain ⟨R1,g1⟩:=R.drew
  have hge:=zfj w new.length 0 e
  have hcur:((w.drew.alloc (.cells (news.toArray++Builtin.zeroCells zv.cells (grownCap w new.length 0 e-new.length)) e)).heap)[w.heap.size]?=some (.cells (news.toArray++Builtin.zeroCells zv.cells (grownCap w new.length 0 e-new.length)) e (0,0)):=by
   show (w.heap.push _)[_]?=_
   simp
  have hids:id≤st.H.length:=by
   rcases hcase with ⟨h1,_⟩|⟨h1,h2,_⟩
   ·omega
   ·rcases Nat.lt_or_ge id st.H.length with h|h
    ·omega
    ·rw [R.fresh id h] at h1;cases h1
  obtain ⟨R',g⟩:=R1.put (w':=w.drew.alloc (.cells (news.toArray++Builtin.zeroCells zv.cells (grownCap w new.length 0 e-new.length)) e)) (H':=H') id w.heap.size 0 (grownCap w new.length 0 e) i.size (.cells i.size new)
   hH' hid (fun x h1 h2=>by show (w.heap.push _)[x]?=w.heap[x]?;simp [Array.getElem?_push];intro e;exact absurd e h1) (by show w.heap.size≤(w.heap.push _).size;simp) (by show w.heap.size<(w.heap.push _).size;simp) (.inr (Nat.le_refl _))
   (fun h=>by
    rcases hcase with ⟨h1,_⟩|⟨h1,_,_⟩
    ·omega
    ·rw [h1] at h;cases h)
   (fun h=>by
    rcases hcase with ⟨h1,_⟩|⟨h1,h2,_⟩
    ·exact absurd (R.fresh id (by omega)) h
    ·rw [h2,jX hid]
     exact ⟨by omega,fun h=>by omega⟩) ⟨rfl,rfl,rfl,RowKit.frozen?_alloc_cells w.drew _ _⟩
   (fun hmono=>⟨rfl,(hfl.mono fun p v h=>hmono p v (zn.grow R g1 h)).cellsAt hcur hge (by
    simp only [Array.size_append,List.size_toArray,size_zeroCells,hzs,hfl.len, ←Nat.add_mul]
    exact Nat.le_of_eq (by congr 1;omega)) fun k u hk=>by
     have:=(List.getElem?_eq_some_iff.1 hk).1
     rw [Array.getElem?_append_left (by simpa using this)]
     simpa using hk⟩)
  refine ya.of hr R' (g1.trans g) ?_ (by simp)
  have:=zn.sl (w:=w.drew.alloc (.cells (news.toArray++Builtin.zeroCells zv.cells (grownCap w new.length 0 e-new.length)) e)) (F:=F) (m:=m.put id (.at_ w.heap.size 0 (grownCap w new.length 0 e) i.size)) (L:=zr H') id 0 new.length new.length w.heap.size 0 (grownCap w new.length 0 e) i.size ⟨w.heap.size,0,none⟩ (zR.put_same ..) (jX hid) (by omega) hge (.inr (by simp))
  simpa using this
theorem zob (R:yl G w F m st.H) {t e:TypeId} {x y:Operand} {c:Call} (ho:o.op=.call c) (hc:c.callee=.builtin .append) (hat:c.argTypes.toList=[t,t]) (har:c.args.toList=[x,y]) {sz by':Nat} (he:jS P t=some (e,sz,by')) {z:List PV} (hz:kH P e=some z) (hzl:z.length=sz)
  {id off len tot:Nat} (hx:zn w F m (zr st.H) (.sl id off len tot) (a.eval x)) {py:PV} (hy:zn w F m (zr st.H) py (a.eval y)) {new:List (List PV)} (hn:uh st.H py=some new) (hsz:xS st.H sz py=true)
  {rows:List (List PV)} (hH:st.H[id]?=some (.cells sz rows)) (htot:tot=rows.length) (hle:off+len≤tot) (hb:(off+len+new.length)*by'≤35184372088832):
  (off+len+new.length≤tot→ya P G o a w F m st.H (.sl id off (len+new.length) tot) (st.H.set id (.cells sz (rows.take (off+len)++new++rows.drop (off+len+new.length)))) false)∧
  (tot<off+len+new.length→off=0→ya P G o a w F m st.H (.sl id 0 (len+new.length) (len+new.length)) (st.H.set id (.cells sz (rows.take len++new))) false):=by
 obtain ⟨hu,i,hi,hi2,hi3,hs0,hb0⟩:=j9 he
 have hlens:=jX hH
 have hidl:id<st.H.length:=(List.getElem?_eq_some_iff.1 hH).1
 obtain ⟨b',c',news,hyv,hfl,hsrc⟩:=JZ R hy hn hsz hs0
 have hr:=ziE (P:=P) (w:=w) (a:=a) ho hc hat har
 rw [hyv] at hr
 have hset:∀ n,st.H.set id (.cells sz (rows.take n++[]++rows.drop (n+0)))=st.H:=by
  intro n
  rw [List.append_nil,Nat.add_zero,List.take_append_drop]
  apply List.ext_getElem?
  intro j
  by_cases e:j=id
  ·subst e;rw [List.getElem?_set_self hidl,hH]
  ·rw [List.getElem?_set_ne (Ne.symm e)]
 generalize hxv:a.eval x=u at hx
 rw [hxv] at hr
 cases hx with
 |froz _ _ hx=>cases hx
 |slOld _ _ _ _ b c hm hL hc=>omega
 |slVirt _ hm hL=>
  have hr0:rows=[]:=by rw [hlens] at hL;exact List.length_eq_zero_iff.1 hL
  constructor
  ·intro h
   have hn0:new=[]:=by apply List.length_eq_zero_iff.1;omega
   subst hn0
   rw [List.length_nil,U_ hu hi none 0 0 (Nat.le_refl _) b' c'] at hr
   rw [show (0+0+([]:List (List PV)).length)=(0+0)+0 by simp,hset]
   exact ya.of hr R (wo.refl ..) (.slVirt _ hm hL) (by simp)
  ·intro h _
   rw [Nat.zero_add]
   refine zfI R ho hc hat har he hz hzl hxv hy hn hsz (by simpa using hb) (fun j hj=>List.getElem?_set_ne (Ne.symm hj)) (by rw [List.getElem?_set_self hidl,hr0];rfl) (.inr ⟨hm,hL,fun hn0=>?_⟩)
   subst hn0
   simp at h
 |sl _ _ _ _ blk o' cap s b hm hL ht hcp hbb=>
  obtain ⟨e1,hca⟩:=R.block hH hm
  subst e1
  subst hi2
  subst hi3
  by_cases hn0:new=[]
  ·subst hn0
   rw [List.length_nil,U_ hu hi (some b) len (cap-off) (by omega) b' c'] at hr
   constructor
   ·intro _
    rw [show (off+len+([]:List (List PV)).length)=(off+len)+0 by simp,hset]
    exact ya.of hr R (wo.refl ..) (.sl _ _ _ _ blk o' cap i.size b hm hL ht hcp hbb) (by simp)
   ·intro h _;simp at h;omega
  ·have hpos:0<new.length:=by
    cases new with
    |nil=>exact absurd rfl hn0
    |cons _ _=>simp
   rcases hsrc with h0|⟨ad,rfl,hcell⟩
   ·exact absurd h0 hn0
   obtain ⟨cur,t',c1,c2,c3⟩:=hca.cur
   have inplace:∀ (rows':List (List PV)),len+new.length≤cap-off→rows.length≤rows'.length→rows'.length≤cap→(∀ (k:Nat) (r:List PV),rows'[k]?=some r→(k<off+len∨off+len+new.length≤k)∧rows[k]?=some r∨off+len≤k∧k<off+len+new.length∧new[k-(off+len)]?=some r)→
     (∀ (v:PV) (tot':Nat),tot'=rows'.length→v=.sl id off (len+new.length) tot'→off+(len+new.length)≤tot'→ya P G o a w F m st.H v (st.H.set id (.cells i.size rows')) false):=by
    intro rows' hroom h1 h2 h3 v tot' htot' hv hle'
    have hbs:b=⟨blk,o'+off*i.size,none⟩:=by
     rcases hbb with h|h
     ·omega
     ·exact h
    subst hbs
    have hX:o'+(off+len)*i.size+news.length≤cur.size:=by
     rw [hfl.len]
     have:(off+len)*i.size+new.length*i.size≤cap*i.size:=by rw [←Nat.add_mul];exact Nat.mul_le_mul_right _ (by omega)
     omega
    have hsp:=R.splice hH hm c1 c2 (o'+(off+len)*i.size) news hX h1 h2 (fun k r hk=>by
      rcases h3 k r hk with ⟨_,h⟩|⟨_,_,h⟩
      ·exact hca.size _ _ h
      ·exact hfl.size r (List.mem_of_getElem? h))
     (fun hmono k r j p hk hj=>by
      rw [hfl.len] at hmono
      rw [U2 _ _ _ _ (by simpa using hX),hfl.len]
      have hjs:j<i.size:=by
       have h5:=(List.getElem?_eq_some_iff.1 hj).1
       rcases h3 k r hk with ⟨_,h⟩|⟨_,_,h⟩
       ·rw [hca.size _ _ h] at h5;exact h5
       ·rw [hfl.size r (List.mem_of_getElem? h)] at h5;exact h5
      rcases h3 k r hk with ⟨h4,h⟩|⟨h4,h5,h⟩
      ·obtain ⟨v,q1,q2,q3⟩:=c3 k r j p h hj
       refine ⟨v,?_,q2,hmono _ _ q3⟩
       rw [←Array.getElem?_toList] at q1
       rcases h4 with h4|h4
       ·have:k*i.size+i.size≤(off+len)*i.size:=by
         calc k*i.size+i.size=(k+1)*i.size:=by rw [Nat.add_mul];omega
          _≤(off+len)*i.size:=Nat.mul_le_mul_right _ h4
        rw [if_pos (by omega)]
        exact q1
       ·have:(off+len)*i.size+new.length*i.size≤k*i.size:=by rw [←Nat.add_mul];exact Nat.mul_le_mul_right _ h4
        rw [if_neg (by omega),if_neg (by omega)]
        exact q1
      ·obtain ⟨v,q1,q2⟩:=hfl.rel _ r j p h hj
       refine ⟨v,?_,hfl.one v (List.mem_of_getElem? q1),hmono _ _ q2⟩
       have h6:(k-(off+len))*i.size=k*i.size-(off+len)*i.size:=Nat.sub_mul ..
       have h7:(off+len)*i.size≤k*i.size:=Nat.mul_le_mul_right _ h4
       have h8:(off+len)*i.size+new.length*i.size≥k*i.size+i.size:=by
        calc k*i.size+i.size=(k+1)*i.size:=by rw [Nat.add_mul];omega
         _≤(off+len+new.length)*i.size:=Nat.mul_le_mul_right _ h5
         _=_:=by rw [Nat.add_mul]
       rw [if_neg (by omega),if_pos (by omega)]
       rw [show o'+k*i.size+j-(o'+(off+len)*i.size)=(k-(off+len))*i.size+j by omega]
       exact q1)
    have hfc:=run_firstCells_some (P:=P) w i.size new.length ad new.length c' news hfl.len hcell
    have hst:=run_storeCells_at P blk (o'+(off+len)*i.size) t' news 0 cur w c1 (by rw [Nat.add_zero];exact hX) hfl.one
    simp only [Nat.add_zero] at hst
    have hadd:(⟨blk,o'+off*i.size,none⟩:Addr).add (len*i.size)=⟨blk,o'+(off+len)*i.size,none⟩:=by rw [um,Nat.add_mul,Nat.add_assoc]
    have hrun:(Builtin.append_ #[t,t] o.type #[.slice (some ⟨blk,o'+off*i.size,none⟩) len (cap-off),.slice (some ad) new.length c']).run P w=
      .ok (.slice (some ⟨blk,o'+off*i.size,none⟩) (len+new.length) (cap-off)) (w.setRow blk (cur.toList.take (o'+(off+len)*i.size)++news++cur.toList.drop (o'+(off+len)*i.size+news.length)).toArray):=by
     simp [Builtin.append_,run_underlying hu,sizeOf,typeInfo,hi,Builtin.lenOf,hroom,hfc,hadd,hst]
    rw [hrun] at hr
    subst hv
    refine ya.of hr hsp.1 hsp.2 (.sl id off (len+new.length) tot' blk o' cap i.size _ hm (by rw [zdz hH];exact htot'.symm) hle' (by omega) (.inr rfl)) (by simp)
   constructor
   ·intro h
    have hl:(rows.take (off+len)++new++rows.drop (off+len+new.length)).length=rows.length:=by simp;omega
    refine inplace _ (by omega) (by omega) (by rw [hl];exact hca.room) (fun k r hk=>?_) _ tot (by omega) rfl (by omega)
    have hl1:(rows.take (off+len)).length=off+len:=by simp;omega
    by_cases g1:k<off+len
    ·rw [List.append_assoc,List.getElem?_append_left (by omega),List.getElem?_take,if_pos g1] at hk
     exact .inl ⟨.inl g1,hk⟩
    ·by_cases g2:k<off+len+new.length
     ·rw [List.append_assoc,List.getElem?_append_right (by omega),hl1,List.getElem?_append_left (by omega)] at hk
      exact .inr ⟨by omega,g2,hk⟩
     ·rw [List.getElem?_append_right (by simp;omega),List.getElem?_drop] at hk
      rw [show off+len+new.length+(k-(rows.take (off+len)++new).length)=k by simp;omega] at hk
      exact .inl ⟨.inr (by omega),hk⟩
   ·intro h hoff
    subst hoff
    have hl:(rows.take len++new).length=len+new.length:=by simp;omega
    have hl1:(rows.take len).length=len:=by simp;omega
    by_cases hroom:len+new.length≤cap
    ·refine inplace _ (by omega) (by omega) (by omega) (fun k r hk=>?_) _ (len+new.length) (by omega) rfl (by omega)
     by_cases g1:k<len
     ·rw [List.getElem?_append_left (by omega),List.getElem?_take,if_pos g1] at hk
      exact .inl ⟨.inl (by omega),hk⟩
     ·have hk2:=(List.getElem?_eq_some_iff.1 hk).1
      rw [List.getElem?_append_right (by omega),hl1] at hk
      exact .inr ⟨by omega,by omega,by simpa using hk⟩
    ·obtain ⟨i',zv,hi',hzv,hcz⟩:=Xf hz
     rw [hi] at hi'
     injection hi' with hi'
     subst hi'
     have hzs:zv.cells.size=i.size:=by have:=(vt (w:=w) (F:=F) hcz).1.1;simp at this;omega
     obtain ⟨olds,f1,f2⟩:=hca.flat hs0 (off:=0) (len:=len) (by omega)
     rw [List.drop_zero] at f1
     have hbs:len=0∨b=⟨blk,o',none⟩:=by
      rcases hbb with h|h
      ·left;omega
      ·right;simpa using h
     have holds:∀ (k:Nat) (u:Value),olds[k]?=some u→w.cell? (b.add k)=some u:=by
      intro k u hk
      rcases hbs with h|h
      ·have h5:=f1.len
       rw [h] at h5
       simp at h5
       subst h5
       simp at hk
      ·subst h
       rw [um]
       have:=f2 k u hk
       simpa using this
     have hlen2:len+new.length≤35184372088832:=by
      calc len+new.length=(0+len+new.length)*1:=by omega
       _≤(0+len+new.length)*i.bytes:=Nat.mul_le_mul_left _ (by omega)
       _≤_:=hb
     have hfit:Builtin.nextslicecap (len+new.length) cap*i.bytes≤281474976710656:=growslice_fits (by omega) (by have:=hb;rw [Nat.zero_add] at this;omega)
     have holen:olds.length=len*i.size:=by rw [f1.len];congr 1
     have hrun:=run_append_grow (P:=P) w t o.type e i zv hu hi hzv b len cap olds holen holds ad new.length c' news hfl.len hcell (by omega) (by omega) hfit
     rw [Nat.sub_zero,hrun] at hr
     obtain ⟨R1,g1⟩:=R.drew
     have hge:=zfj w (len+new.length) cap e
     have hfa:=f1.append hfl
     have hcur:((w.drew.alloc (.cells (olds.toArray++news.toArray++Builtin.zeroCells zv.cells (grownCap w (len+new.length) cap e-(len+new.length))) e)).heap)[w.heap.size]?=some (.cells (olds.toArray++news.toArray++Builtin.zeroCells zv.cells (grownCap w (len+new.length) cap e-(len+new.length))) e (0,0)):=by
      show (w.heap.push _)[_]?=_
      simp
     obtain ⟨R',g⟩:=R1.put (w':=w.drew.alloc (.cells (olds.toArray++news.toArray++Builtin.zeroCells zv.cells (grownCap w (len+new.length) cap e-(len+new.length))) e)) (H':=st.H.set id (.cells i.size (rows.take len++new))) id w.heap.size 0 (grownCap w (len+new.length) cap e) i.size (.cells i.size (rows.take len++new))
      (fun j hj=>List.getElem?_set_ne (Ne.symm hj)) (List.getElem?_set_self hidl) (fun x h1 h2=>by show (w.heap.push _)[x]?=w.heap[x]?;simp [Array.getElem?_push];intro e;exact absurd e h1) (by show w.heap.size≤(w.heap.push _).size;simp) (by show w.heap.size<(w.heap.push _).size;simp) (.inr (Nat.le_refl _))
      (fun h=>by rw [hm] at h;cases h)
      (fun _=>by rw [hlens,zdz hH];exact ⟨by omega,fun h=>by omega⟩) ⟨rfl,rfl,rfl,RowKit.frozen?_alloc_cells w.drew _ _⟩
      (fun hmono=>⟨rfl,(hfa.mono fun p v h=>hmono p v (zn.grow R g1 h)).cellsAt hcur (by rw [hl];exact hge) (by
       simp only [Array.size_append,List.size_toArray,size_zeroCells,hzs,hfl.len,holen, ←Nat.add_mul]
       exact Nat.le_of_eq (by congr 1;omega)) fun k u hk=>by
        have h5:=(List.getElem?_eq_some_iff.1 hk).1
        have e5:olds.toArray++news.toArray=(olds++news).toArray:=by simp
        rw [e5,Array.getElem?_append_left (by simpa using h5)]
        simpa using hk⟩)
     refine ya.of hr R' (g1.trans g) ?_ (by simp)
     have:=zn.sl (w:=w.drew.alloc (.cells (olds.toArray++news.toArray++Builtin.zeroCells zv.cells (grownCap w (len+new.length) cap e-(len+new.length))) e)) (F:=F) (m:=m.put id (.at_ w.heap.size 0 (grownCap w (len+new.length) cap e) i.size)) (L:=zr (st.H.set id (.cells i.size (rows.take len++new)))) id 0 (len+new.length) (len+new.length) w.heap.size 0 (grownCap w (len+new.length) cap e) i.size ⟨w.heap.size,0,none⟩ (zR.put_same ..) (by rw [zdz hH,hl]) (by omega) hge (.inr (by simp))
     simpa using this
end
end
section
section
variable {P:Program} {G:Nat→Option (List PV)} {T:ye} {nt:Nat} {w:World} {F:Nat→Prop} {m:zR} {st:St} {a:Act} {o:Oper}
theorem zgQ {f:FuncId} (h:XX P f=true) (us:Array Value):(callFunc f us).run P w=.ok (.enter f us) w:=by
 unfold XX at h
 split at h
 ·rename_i fn hf
  simp only [Bool.and_eq_true,Bool.not_eq_true'] at h
  have hb:fn.body≠none:=by intro e;simp [e] at h
  have hne:fn.name≠ "runtime.NumGoroutine" :=by simpa using h.2
  simp [callFunc,hf,hne,hb]
 ·cases h
theorem zdA (xs:Array Operand):(xs.map a.eval)=(xs.toList.map a.eval).toArray:=by apply Array.ext';simp
theorem zuO {t u:TypeId} {x y:Operand} {c:Call} (ho:o.op=.call c) (hc:c.callee=.builtin .copy) (hat:c.argTypes.toList=[t,u]) (har:c.args.toList=[x,y]):
  (execOp a.eval o).run P w=((Builtin.copy_ #[t,u] o.type #[a.eval x,a.eval y]).run P w).andThen fun v w'=>.ok (.value v) w':=by
 obtain ⟨callee,args,argTypes⟩:=c
 simp only at hc hat har
 subst hc
 have hargs:args=#[x,y]:=by rw [←Array.toArray_toList (xs:=args),har]
 have hats:argTypes=#[t,u]:=by rw [←Array.toArray_toList (xs:=argTypes),hat]
 subst hargs;subst hats
 simp [execOp,ho,resolve,invoke,builtin]
theorem zys (R:yl G w F m st.H) {t u e:TypeId} {x y:Operand} {c:Call} (ho:o.op=.call c) (hc:c.callee=.builtin .copy) (hat:c.argTypes.toList=[t,u]) (har:c.args.toList=[x,y]) {sz by':Nat} (he:jS P t=some (e,sz,by')) {C:Cl}
  {x' y':zx} (hx:zn w F m (zr st.H) (x'.get G st) (a.eval x)) (hy:zn w F m (zr st.H) (y'.get G st) (a.eval y)) {v:PV} {H':zd} {ed:zV} (hev:zq G C st (.copyS sz x' y')=some (v,H',ed)):ya P G o a w F m st.H v H' false:=by
 obtain ⟨hu,i,hi,hi2,hi3,hs0,hb0⟩:=j9 he
 simp only [zq] at hev
 split at hev
 ·rename_i id off len tot new hpx hn
  split at hev
  ·rename_i s rows hH
   split at hev
   ·rename_i hb
    simp only [Bool.and_eq_true,beq_iff_eq,decide_eq_true_eq] at hb
    obtain ⟨⟨⟨b1,b2⟩,b3⟩,b4⟩:=hb
    subst b3
    injection hev with hev
    injection hev with e1 e2
    injection e2 with e2 e3
    subst e1;subst e2
    subst hi2
    rw [hpx] at hx
    have hlens:=jX hH
    have hidl:id<st.H.length:=(List.getElem?_eq_some_iff.1 hH).1
    obtain ⟨b',c',news,hyv,hfl,hsrc⟩:=JZ R hy hn b4 hs0
    have hr:=zuO (P:=P) (w:=w) (a:=a) ho hc hat har
    rw [hyv] at hr
    have none_:∀ (b:Option Addr) (c2:Nat),a.eval x=.slice b len c2→min new.length len=0→ya P G o a w F m st.H (.int .i64 (min new.length len:Nat)) (st.H.set id (.cells i.size (rows.take off++new.take len++rows.drop (off+min new.length len)))) false:=by
     intro b c2 hxv h0
     have hf:(Builtin.firstCells i.size 0 (.slice b' new.length c')).run P w=.ok #[] w:=by
      cases b' with
      |none=>simp [Builtin.firstCells]
      |some ad=>exact run_firstCells_some (P:=P) w i.size 0 ad new.length c' [] (by simp) (by simp)
     have hrun:(Builtin.copy_ #[t,u] o.type #[.slice b len c2,.slice b' new.length c']).run P w=.ok (goInt 0) w:=by
      cases b with
      |none=>simp [Builtin.copy_,run_underlying hu,Builtin.lenOf,h0,sizeOf,typeInfo,hi,hf]
      |some ad=>simp [Builtin.copy_,run_underlying hu,Builtin.lenOf,h0,sizeOf,typeInfo,hi,hf,storeCells]
     rw [hxv,hrun] at hr
     have hnt:new.take len=[]:=by
      apply List.length_eq_zero_iff.1
      rw [List.length_take]
      omega
     rw [hnt,h0,Nat.add_zero,List.append_nil,List.take_append_drop]
     have hset:st.H.set id (.cells i.size rows)=st.H:=by
      apply List.ext_getElem?
      intro j
      by_cases e:j=id
      ·subst e;rw [List.getElem?_set_self hidl,hH]
      ·rw [List.getElem?_set_ne (Ne.symm e)]
     rw [hset]
     exact ya.of hr R (wo.refl ..) (.froz _ _ (.int _ _)) (by simp)
    generalize hxv:a.eval x=xv at hx
    cases hx with
    |froz _ _ hx=>cases hx
    |slVirt _ hm hL=>exact none_ none 0 hxv (by omega)
    |slOld _ _ _ _ b c hm hL hc=>omega
    |sl _ _ _ _ blk o' cap s' b hm hL ht hcp hbb=>
     obtain ⟨e1,hca⟩:=R.block hH hm
     subst e1
     by_cases h0:min new.length len=0
     ·exact none_ (some b) (cap-off) hxv h0
     ·have hbs:b=⟨blk,o'+off*i.size,none⟩:=by
       rcases hbb with h|h
       ·omega
       ·exact h
      subst hbs
      rcases hsrc with hn0|⟨ad,rfl,hcell⟩
      ·rw [hn0] at h0;simp at h0
      obtain ⟨cur,t',c1,c2,c3⟩:=hca.cur
      have hvl:(news.take (min new.length len*i.size)).length=min new.length len*i.size:=by
       rw [List.length_take,hfl.len]
       exact Nat.min_eq_left (Nat.mul_le_mul_right _ (Nat.min_le_left _ _))
      have hX:o'+off*i.size+(news.take (min new.length len*i.size)).length≤cur.size:=by
       rw [hvl]
       have:off*i.size+min new.length len*i.size≤cap*i.size:=by rw [←Nat.add_mul];exact Nat.mul_le_mul_right _ (by omega)
       omega
      have hl:(rows.take off++new.take len++rows.drop (off+min new.length len)).length=rows.length:=by simp;omega
      have hrow:∀ (k:Nat) (r:List PV),(rows.take off++new.take len++rows.drop (off+min new.length len))[k]?=some r→(k<off∨off+min new.length len≤k)∧rows[k]?=some r∨off≤k∧k<off+min new.length len∧new[k-off]?=some r:=by
       intro k r hk
       have hl1:(rows.take off).length=off:=by simp;omega
       have hl2:(new.take len).length=min new.length len:=by simp;omega
       by_cases g1:k<off
       ·rw [List.append_assoc,List.getElem?_append_left (by omega),List.getElem?_take,if_pos g1] at hk
        exact .inl ⟨.inl g1,hk⟩
       ·by_cases g2:k<off+min new.length len
        ·rw [List.append_assoc,List.getElem?_append_right (by omega),hl1,List.getElem?_append_left (by omega),List.getElem?_take] at hk
         split at hk
         ·exact .inr ⟨by omega,g2,hk⟩
         ·cases hk
        ·rw [List.getElem?_append_right (by rw [List.length_append];omega),List.getElem?_drop,List.length_append,hl1,hl2] at hk
         rw [show off+min new.length len+(k-(off+min new.length len))=k by omega] at hk
         exact .inl ⟨.inr (by omega),hk⟩
      have hsp:=R.splice hH hm c1 c2 (o'+off*i.size) (news.take (min new.length len*i.size)) hX (rows':=rows.take off++new.take len++rows.drop (off+min new.length len)) (by omega) (by rw [hl];exact hca.room) (fun k r hk=>by
        rcases hrow k r hk with ⟨_,h⟩|⟨_,_,h⟩
        ·exact hca.size _ _ h
        ·exact hfl.size r (List.mem_of_getElem? h))
       (fun hmono k r j p hk hj=>by
        rw [hvl] at hmono
        rw [U2 _ _ _ _ (by simpa using hX),hvl]
        have hjs:j<i.size:=by
         have h5:=(List.getElem?_eq_some_iff.1 hj).1
         rcases hrow k r hk with ⟨_,h⟩|⟨_,_,h⟩
         ·rw [hca.size _ _ h] at h5;exact h5
         ·rw [hfl.size r (List.mem_of_getElem? h)] at h5;exact h5
        rcases hrow k r hk with ⟨h4,h⟩|⟨h4,h5,h⟩
        ·obtain ⟨v,q1,q2,q3⟩:=c3 k r j p h hj
         refine ⟨v,?_,q2,hmono _ _ q3⟩
         rw [←Array.getElem?_toList] at q1
         rcases h4 with h4|h4
         ·have:k*i.size+i.size≤off*i.size:=by
           calc k*i.size+i.size=(k+1)*i.size:=by rw [Nat.add_mul];omega
            _≤off*i.size:=Nat.mul_le_mul_right _ h4
          rw [if_pos (by omega)]
          exact q1
         ·have:off*i.size+min new.length len*i.size≤k*i.size:=by rw [←Nat.add_mul];exact Nat.mul_le_mul_right _ h4
          rw [if_neg (by omega),if_neg (by omega)]
          exact q1
        ·obtain ⟨v,q1,q2⟩:=hfl.rel _ r j p h hj
         refine ⟨v,?_,hfl.one v (List.mem_of_getElem? q1),hmono _ _ q2⟩
         have h6:(k-off)*i.size=k*i.size-off*i.size:=Nat.sub_mul ..
         have h7:off*i.size≤k*i.size:=Nat.mul_le_mul_right _ h4
         have h8:off*i.size+min new.length len*i.size≥k*i.size+i.size:=by
          calc k*i.size+i.size=(k+1)*i.size:=by rw [Nat.add_mul];omega
           _≤(off+min new.length len)*i.size:=Nat.mul_le_mul_right _ h5
           _=_:=by rw [Nat.add_mul]
         rw [if_neg (by omega),if_pos (by omega)]
         rw [show o'+k*i.size+j-(o'+off*i.size)=(k-off)*i.size+j by omega,List.getElem?_take,if_pos (by omega)]
         exact q1)
      have hfc:=run_firstCells_some (P:=P) w i.size (min new.length len) ad new.length c' (news.take (min new.length len*i.size)) hvl (fun j v hj=>by
       rw [List.getElem?_take] at hj
       split at hj
       ·exact hcell j v hj
       ·cases hj)
      have hst:=run_storeCells_at P blk (o'+off*i.size) t' (news.take (min new.length len*i.size)) 0 cur w c1 (by rw [Nat.add_zero];exact hX) (fun v hv=>hfl.one v (List.mem_of_mem_take hv))
      simp only [Nat.add_zero] at hst
      have hrun:(Builtin.copy_ #[t,u] o.type #[.slice (some ⟨blk,o'+off*i.size,none⟩) len (cap-off),.slice (some ad) new.length c']).run P w=
        .ok (goInt (min new.length len:Nat)) (w.setRow blk (cur.toList.take (o'+off*i.size)++news.take (min new.length len*i.size)++cur.toList.drop (o'+off*i.size+(news.take (min new.length len*i.size)).length)).toArray):=by
       have hm':Nat.min new.length len=min new.length len:=rfl
       have hsz:(sizeOf e).run P w=.ok i.size w:=by simp [sizeOf,typeInfo,hi]
       have ha0:(#[t,u]:Array TypeId)[0]?=some t:=rfl
       have ha1:∀ (p q:Value),(#[p,q]:Array Value)[0]?=some p:=fun _ _=>rfl
       have ha2:∀ (p q:Value),(#[p,q]:Array Value)[1]?=some q:=fun _ _=>rfl
       simp only [Builtin.copy_,ha0,ha1,ha2,Sem.run_bind,run_underlying hu,Result.andThen_ok,Builtin.lenOf,Sem.run_pure,hsz,hm',hfc,hst]
      rw [hxv,hrun] at hr
      exact ya.of hr hsp.1 hsp.2 (.froz _ _ (.int _ _)) (by simp)
   ·cases hev
  ·cases hev
 ·cases hev
theorem zq9 {fn:Func} (h:fn.name= "math.Float64bits"):Extern.find fn=some Extern.MathFloatBits.float64bits:=by
 unfold Extern.find
 simp only [h]
 kernel_rfl
theorem zuN {f:FuncId} (h:QG P f=true) (n:Nat):(callFunc f #[.float .f64 n]).run P w=.ok (.value (.int .u64 n)) w:=by
 unfold QG at h
 split at h
 ·rename_i fn hf
  simp only [Bool.and_eq_true,beq_iff_eq,Option.isNone_iff_eq_none] at h
  obtain ⟨⟨hb,hn⟩,hx⟩:=h
  have he:Extern.MathFloatBits.float64bits #[.float .f64 n]=pure (.int .u64 n):=rfl
  simp [callFunc,hf,hn,hb,hx,zq9 hn,he]
 ·cases h
theorem ziG {x y:Operand} {c:Call} (ho:o.op=.call c) {mx:Bool} (hc:c.callee=.builtin (match mx with|true=>.max|false=>.min)) (har:c.args.toList=[x,y]) {k k':IntKind} {p q:Int} (hx:a.eval x=.int k p) (hy:a.eval y=.int k' q):
  (execOp a.eval o).run P w=.ok (.value (.int k (match mx with|true=>if q>p then q else p|false=>if q<p then q else p))) w:=by
 obtain ⟨callee,args,argTypes⟩:=c
 simp only at hc har
 subst hc
 have hargs:args=#[x,y]:=by rw [←Array.toArray_toList (xs:=args),har]
 subst hargs
 cases mx<;>simp [execOp,ho,resolve,invoke,builtin,Builtin.max_,Builtin.min_,Builtin.max2,Builtin.min2,hx,hy]
theorem ya.toC {v:PV} {H H':zd} {ed:zV} (h:ya P G o a w F m H v H' true):zae P G o a w F m H v H' ed true:=fun K Q hk=>h K Q fun cv w' F' m' h1 h2 h3 h4=>hk cv w' F' m' h1 h2 h3 h4 (fun h=>by cases h)
theorem zoU {C:Cl} (hC:VW P G C) (R:yl G w F m st.H) (E:vP T nt (zn w F m (zr st.H)) st a) {c:Call} (ho:o.op=.call c) {f:Operand} (hcal:c.callee=.value f) {ao:uD} (ht:kG P T o.dst c=some ao) {v:PV} {H':zd} {ed:zV} (he:zq G C st ao=some (v,H',ed))
  :zae P G o a w F m st.H v H' ed (wy ao):=by
 unfold kG at ht
 simp only [hcal] at ht
 ·split at ht
  ·rename_i g hg
   have hfg:f=.func g:=by
    unfold zjH at hg
    split at hg
    ·injection hg with hg;rw [hg]
    ·cases hg
   subst hfg
   split at ht
   ·rename_i xs hb hx
    injection ht with ht
    subst ht
    have hargs:=Wl R E hx
    refine zae.call hC R hargs (f:=g) (md:=T.md o.dst) he ?_
    simp only [execOp,ho,resolve,hcal,Act.eval,Deferred.ofValue,invoke,Sem.run_bind,Sem.run_pure,Result.andThen_ok]
    rw [show (#[]:Array Value)++c.args.map a.eval++#[]=(c.args.toList.map a.eval).toArray by rw [zdA];simp]
    exact zgQ hb _
   ·rename_i xs hb hx
    unfold zhG at ht
    split at ht
    ·rename_i y hbits
     injection ht with ht
     subst ht
     have hargs:=Wl R E hx
     simp only [zq] at he
     split at he
     ·rename_i v' hv'
      simp only [Option.some.injEq,Prod.mk.injEq] at he
      obtain ⟨rfl,rfl,rfl⟩:=he
      simp only [List.map_cons,List.map_nil] at hargs
      obtain ⟨u,us,hus,hu,hnil⟩:=hargs.head
      have hus':us=[]:=by have:=hnil.1;simpa using this
      subst hus'
      generalize y.get G st=py at hv' hu
      cases py<;>simp only [Vx] at hv'<;>try (cases hv';done)
      rename_i k n
      cases k<;>simp only [Vx] at hv'<;>try (cases hv';done)
      injection hv' with hv'
      subst hv'
      have hu:=hu.flt_inv
      subst hu
      refine ya.toC (ya.same R (cv:=.int .u64 n) ?_ (.froz _ _ (.int _ _)))
      simp only [execOp,ho,resolve,hcal,Act.eval,Deferred.ofValue,invoke,Sem.run_bind,Sem.run_pure,Result.andThen_ok]
      rw [show (#[]:Array Value)++c.args.map a.eval++#[]=(c.args.toList.map a.eval).toArray by rw [zdA];simp,hus]
      exact zuN hbits n
     ·cases he
    ·cases ht
   ·cases ht
  ·rename_i hne
   split at ht
   ·rename_i y xs hy hx
    injection ht with ht
    subst ht
    have hargs:=Wl R E hx
    have hf:=yd R E hy
    rw [Zl] at he
    split at he
    ·rename_i f caps hfc
     rw [hfc] at hf
     obtain ⟨cvs,hfv,hcaps⟩:=hf.fn_inv
     have hall:=hargs.append hcaps
     have hbody:XX P f=true:=by
      unfold xJ at he
      split at he
      ·split at he
       ·rename_i v' hp;exact hC.bodyP _ _ _ hp
       ·cases he
      ·exact hC.bodyS _ _ _ _ he
      ·split at he
       ·rename_i v' X' ed' hp;exact hC.bodyS _ _ _ _ hp
       ·cases he
      ·split at he
       ·rename_i v' X' ed' hp;exact hC.bodyS _ _ _ _ hp
       ·cases he
     refine zae.call hC R hall (f:=f) (md:=T.md o.dst) he ?_
     simp only [execOp,ho,resolve,hcal,hfv,Deferred.ofValue,invoke,Sem.run_bind,Sem.run_pure,Result.andThen_ok]
     rw [show (#[]:Array Value)++c.args.map a.eval++cvs.toArray=(c.args.toList.map a.eval++cvs).toArray by rw [zdA];simp]
     exact zgQ hbody _
    ·cases he
   ·cases ht
theorem zyv {C:Cl} (R:yl G w F m st.H) (E:vP T nt (zn w F m (zr st.H)) st a) {c:Call} (ho:o.op=.call c) {mx:Bool} (hc:c.callee=.builtin (match mx with|true=>.max|false=>.min)) {ao:uD}
  (ht:(match uL T c.args.toList with|some xs=>zfo xs mx|none=>none)=some ao) {v:PV} {H':zd} {ed:zV} (he:zq G C st ao=some (v,H',ed)):ya P G o a w F m st.H v H' (wy ao):=by
 split at ht
 ·rename_i xs hx
  have hargs:=Wl R E hx
  match xs,hargs,ht with
  |[x,y],hargs,ht=>
   simp only [zfo] at ht
   injection ht with ht
   subst ht
   simp only [zq] at he
   split at he
   ·rename_i v' hv'
    simp only [Option.some.injEq,Prod.mk.injEq] at he
    obtain ⟨rfl,rfl,rfl⟩:=he
    simp only [List.map_cons,List.map_nil] at hargs
    obtain ⟨u,us,hus,hu,h2⟩:=hargs.head
    obtain ⟨u2,us2,hus2,hu2,hnil⟩:=h2.head
    have hus':us2=[]:=by have:=hnil.1;simpa using this
    subst hus'
    subst hus2
    obtain ⟨ax,ay,har,hax,hay⟩:∃ ax ay,c.args.toList=[ax,ay]∧a.eval ax=u∧a.eval ay=u2:=by
     match hl:c.args.toList,hus with
     |[ax,ay],hus=>simp only [List.map_cons,List.map_nil,List.cons.injEq,and_true] at hus;exact ⟨ax,ay,rfl,hus.1,hus.2⟩
    generalize x.get G st=px at hv' hu
    generalize y.get G st=py at hv' hu2
    cases mx<;>cases px<;>simp only [mmV] at hv'<;>try (cases hv';done)
    all_goals
     cases py<;>simp only [mmV] at hv'<;>try (cases hv';done)
     injection hv' with hv'
     subst hv'
     have e1:=hu.int_inv
     have e2:=hu2.int_inv
     subst e1;subst e2
    ·exact ya.same R (ziG ho (mx:=false) hc har hax hay) (.froz _ _ (.int _ _))
    ·exact ya.same R (ziG ho (mx:=true) hc har hax hay) (.froz _ _ (.int _ _))
   ·cases he
 ·cases ht
theorem zyq {C:Cl} (hC:VW P G C) (R:yl G w F m st.H) (E:vP T nt (zn w F m (zr st.H)) st a) {c:Call} (ho:o.op=.call c) {ao:uD} (ht:kG P T o.dst c=some ao) {v:PV} {H':zd} {ed:zV} (he:zq G C st ao=some (v,H',ed))
  :ya P G o a w F m st.H v H' (wy ao):=by
 unfold kG at ht
 split at ht
 ·rename_i f hcal
  exact (zoU hC R E ho hcal (by unfold kG;simp only [hcal];exact ht) he).ok
 ·rename_i b hcal
  split at ht
  ·split at ht
   ·rename_i t x hat har
    split at ht
    ·rename_i e hu
     split at ht
     ·rename_i y hy
      injection ht with ht
      subst ht
      have hv:=yd R E hy
      simp only [zq] at he
      cases hq:y.get G st<;>rw [hq] at he hv<;>simp only at he<;>try (cases he;done)
      all_goals
       injection he with he
       injection he with e1 e2
       injection e2 with e2 e3
       subst e1;subst e2
       exact zAd R ho hcal hat har hu rfl hv
     ·cases ht
    ·rename_i hu
     split at ht
     ·rename_i y hy
      injection ht with ht
      subst ht
      have hv:=yd R E hy
      simp only [zq] at he
      cases hq:y.get G st<;>rw [hq] at he hv<;>simp only at he<;>try (cases he;done)
      injection he with he
      injection he with e1 e2
      injection e2 with e2 e3
      subst e1;subst e2
      exact zyt R ho hcal hat har hu hv.str_inv
     ·cases ht
    ·rename_i n e hu
     injection ht with ht
     subst ht
     simp only [zq,zx.get,Option.some.injEq,Prod.mk.injEq] at he
     obtain ⟨rfl,rfl,_⟩:=he
     refine ya.same R (cv:=.int .i64 n) ?_ (.froz _ _ (.int _ _))
     rw [zjW (P:=P) (w:=w) (a:=a) ho hcal hat har]
     simp [Builtin.len_,run_underlying hu,goInt]
    ·cases ht
   ·cases ht
  ·split at ht
   ·rename_i t u x y hat har
    split at ht
    ·rename_i e sz by' x' y' he' hut hx hy
     split at ht
     ·rename_i z hz
      split at ht
      ·rename_i hzl
       injection ht with ht
       subst ht
       have hut':u=t:=Nat.eq_of_beq_eq_true hut
       subst hut'
       have hzl':z.length=sz:=Nat.eq_of_beq_eq_true hzl
       have hvx:=yd R E hx
       have hvy:=yd R E hy
       simp only [zq] at he
       split at he
       ·rename_i new hn hsz
        generalize hpx:x'.get G st=px at he hvx
        cases px<;>simp only [xe] at he<;>try (cases he;done)
        case nils=>
         split at he
         ·rename_i hb
          injection he with he
          injection he with e1 e2
          injection e2 with e2 e3
          subst e1;subst e2
          exact zfI R ho hcal hat har he' hz hzl' hvx.nils_inv hvy hn hsz (of_decide_eq_true hb) (fun j hj=>by
           rcases Nat.lt_or_ge j st.H.length with h|h
           ·rw [List.getElem?_append_left h]
           ·rw [List.getElem?_eq_none (by simp;omega),List.getElem?_eq_none h]) (by simp) (.inl ⟨rfl,rfl⟩)
         ·cases he
        case sl id off len tot=>
         split at he
         ·rename_i s rows hH
          split at he
          ·rename_i hb
           simp only [Bool.and_eq_true,beq_iff_eq,decide_eq_true_eq] at hb
           obtain ⟨⟨⟨b1,b2⟩,b3⟩,b4⟩:=hb
           subst b2
           obtain ⟨k1,k2⟩:=zob R ho hcal hat har he' hz hzl' hvx hvy hn hsz hH b1 b3 b4
           split at he
           ·rename_i hd
            injection he with he
            injection he with e1 e2
            injection e2 with e2 e3
            subst e1;subst e2
            exact k1 (of_decide_eq_true hd)
           ·rename_i hd
            have hd':tot<off+len+new.length:=by have:=of_decide_eq_false hd;omega
            split at he
            ·injection he with he
             injection he with e1 e2
             injection e2 with e2 e3
             subst e1;subst e2
             exact k2 hd' rfl
            ·cases he
          ·cases he
         ·cases he
       ·cases he
      ·cases ht
     ·cases ht
    ·cases ht
   ·cases ht
  ·split at ht
   ·rename_i t u x y hat har
    split at ht
    ·rename_i e sz by' x' y' hq hx hy
     injection ht with ht
     subst ht
     exact zys R ho hcal hat har hq (yd R E hx) (yd R E hy) he
    ·cases ht
   ·cases ht
  ·exact zyv R E ho (mx:=true) hcal ht he
  ·exact zyv R E ho (mx:=false) hcal ht he
  ·cases ht
 ·cases ht
theorem zb3 {R:PV→Value→Prop} (hR:zf6 R) (d:Nat) (xs ys:Array Value):∀ (fs:List Field) (i:Nat) (tags:List Nat) (ps qs:List PV) (b:Bool),zfa P i fs=some tags→kk tags ps qs=some b→
  (∀ (k:Nat) (p:PV),ps[k]?=some p→∃ v,xs[i+k]?=some v∧R p v)→(∀ (k:Nat) (p:PV),qs[k]?=some p→∃ v,ys[i+k]?=some v∧R p v)→(Op.eqFields (d+1) xs ys fs).run P w=.ok b w
 |[],i,tags,ps,qs,b,h1,h2,_,_=>by
  simp only [zfa,Option.some.injEq] at h1
  subst h1
  cases ps<;>cases qs<;>simp only [kk] at h2<;>try (cases h2;done)
  injection h2 with h2
  subst h2
  rfl
 |f::fs,i,tags,ps,qs,b,h1,h2,hx,hy=>by
  simp only [zfa] at h1
  split at h1
  ·rename_i t ts e1 e2 e3
   injection h1 with h1
   subst h1
   simp only [Bool.and_eq_true,Nat.beq_eq_true_eq,Bool.not_eq_true',beq_eq_false_iff_ne] at e2
   cases ps with
   |nil=>simp [kk] at h2
   |cons p ps=>
    cases qs with
    |nil=>simp [kk] at h2
    |cons q qs=>
     simp only [kk] at h2
     split at h2
     ·rename_i b1 b2 c1 c2
      injection h2 with h2
      subst h2
      obtain ⟨v,v1,v2⟩:=hx 0 p rfl
      obtain ⟨u,u1,u2⟩:=hy 0 q rfl
      rw [Nat.add_zero] at v1 u1
      have hoff:f.offset=i:=Nat.eq_of_beq_eq_true e2.1
      have ih:=zb3 hR d xs ys fs (i+1) ts ps qs b2 e3 c2 (fun k r hk=>by have:=hx (k+1) r (by simpa using hk);rwa [show i+(k+1)=i+1+k by omega] at this) (fun k r hk=>by have:=hy (k+1) r (by simpa using hk);rwa [show i+(k+1)=i+1+k by omega] at this)
      have hag:(isAgg f.type).run P w=.ok false w:=by
       rcases Wh e1 with ⟨_,k,hu⟩|⟨_,hu⟩|⟨_,hu⟩<;>simp [isAgg,run_underlying hu]
      have hp1:(part f.type xs f.offset).run P w=.ok v w:=by simp [part,hag,hoff,v1]
      have hp2:(part f.type ys f.offset).run P w=.ok u w:=by simp [part,hag,hoff,u1]
      have heq:(Op.equalIn (d+1) f.type v u).run P w=.ok b1 w:=by
       obtain ⟨k1,k2,k3⟩:=hR p v v2
       obtain ⟨l1,l2,l3⟩:=hR q u u2
       rcases Wh e1 with ⟨rfl,k,hu⟩|⟨rfl,hu⟩|⟨rfl,hu⟩
       ·cases p<;>cases q<;>simp only [jl] at c1<;>try (cases c1;done)
        rw [k1 _ _ rfl,l1 _ _ rfl]
        split at c1
        ·rename_i hk
         have hk:_=_:=of_decide_eq_true hk
         subst hk
         injection c1 with c1
         subst c1
         simp [Op.equalIn,run_underlying hu]
        ·cases c1
       ·cases p<;>cases q<;>simp only [jl] at c1<;>try (cases c1;done)
        rw [k2 _ rfl,l2 _ rfl]
        injection c1 with c1
        subst c1
        simp [Op.equalIn,run_underlying hu]
       ·cases p<;>cases q<;>simp only [jl] at c1<;>try (cases c1;done)
        rw [k3 _ rfl,l3 _ rfl]
        injection c1 with c1
        subst c1
        simp [Op.equalIn,run_underlying hu]
      simp only [Op.eqFields,ne_eq,e2.2,not_false_eq_true,if_true,Sem.run_bind,hp1,hp2,heq,Result.andThen_ok]
      cases b1
      ·simp
      ·simp [ih]
     ·cases h2
  ·cases h1
theorem zAb (R:yl G w F m st.H) {op:BinOp} {t t':TypeId} {x y:Operand} (ho:o.op=.binOp op t x y t') {tags:List Nat} (ht:Wq P t=some tags) {neg:Bool} (hn:zf' op=some neg) {ps qs:List PV} (hx:zn w F m (zr st.H) (.agg ps) (a.eval x)) (hy:zn w F m (zr st.H) (.agg qs) (a.eval y)) {b:Bool} (hb:kk tags ps qs=some b):
  ya P G o a w F m st.H (.bool (V6 neg b)) st.H true:=by
 unfold Wq at ht
 split at ht
 ·rename_i fields hu
  split at ht
  ·cases ht
  ·rename_i hg
   simp only [Bool.or_eq_false_iff] at hg
   obtain ⟨xs,hxv,x1,x2⟩:=hx.agg_inv
   obtain ⟨ys,hyv,y1,y2⟩:=hy.agg_inv
   have hfo:P.fieldsOf t=fields:=by simp [Program.fieldsOf,hu]
   have heq:(Op.equal t (.agg xs.toArray) (.agg ys.toArray)).run P w=.ok b w:=by
    have:=run_equalIn_struct (P:=P) w 9999 t xs.toArray ys.toArray (by rw [hfo];exact hu) hg.1
    rw [hfo] at this
    refine this.trans ?_
    exact zb3 (w:=w) (zn.keyLike w F m (zr st.H)) 9998 xs.toArray ys.toArray fields.toList 0 tags ps qs b ht hb (fun k p hk=>by obtain ⟨v,v1,v2⟩:=x1.get hk;exact ⟨v,by simpa using v1,v2⟩) (fun k p hk=>by obtain ⟨v,v1,v2⟩:=y1.get hk;exact ⟨v,by simpa using v1,v2⟩)
   have hgd:∀ op,(eqGuard op t x y (.agg xs.toArray) (.agg ys.toArray)).run P w=.ok () w:=by
    intro op
    cases op<;>simp [eqGuard,run_program,hg.2]
   refine ya.same (cv:=.bool (V6 neg b)) R ?_ (.froz _ _ (.bool _))
   cases op<;>simp only [zf'] at hn<;>first
    |(cases hn;done)
    |(injection hn with hn
      subst hn
      simp only [execOp,ho,hxv,hyv,Sem.run_bind,hgd,binOp,heq,Result.andThen_ok,Sem.run_pure,V6])
 ·cases ht
end
end
section
section
variable {P:Program} {G:Nat→Option (List PV)} {T:ye} {nt:Nat} {w:World} {F:Nat→Prop} {m:zR} {st:St} {a:Act} {o:Oper}
theorem zlH {t:TypeId} {fields:Array Field} (hu:P.underlying t=some (.struct fields)) {places:List (Nat×Nat)} (hp:ZH P fields.toList=some places) (xs:List (Nat×Value)) (zv:Value) (i:TypeInfo) (cells:Array Value)
  (hi:P.info? t=some i) (hz:i.zero=some zv) (hf:Instr.fill (fun k=>places[k]?) zv.cells xs=some cells):P.built t xs=some cells:=by
 have hp':=zcE hp
 simp only [Program.built,hi,hu,hz]
 rw [hp']
 simpa using hf
theorem zno {t e:TypeId} {n:Nat} (hu:P.underlying t=some (.array n e)) {sz:Nat} (hs:vO P e=some sz) (xs:List (Nat×Value)) (zv:Value) (i:TypeInfo) (cells:Array Value)
  (hi:P.info? t=some i) (hz:i.zero=some zv) (hf:Instr.fill (fun k=>some (k*sz,sz)) zv.cells xs=some cells):P.built t xs=some cells:=by
 obtain ⟨ie,hie,hie2⟩:=ui hs
 subst hie2
 simp only [Program.built,hi,hu,hz,hie]
 exact hf
theorem zug {C:Cl} (hC:VW P G C) (R:yl G w F m st.H) (E:vP T nt (zn w F m (zr st.H)) st a) {ao:uD} (ht:W5 P T o.dst o.op=some ao) {v:PV} {H':zd} {ed:zV} (he:zq G C st ao=some (v,H',ed)):ya P G o a w F m st.H v H' (wy ao):=by
 cases ho:o.op<;>rw [ho] at ht<;>simp only [W5] at ht<;>try (cases ht;done)
 case move x=>
  split at ht
  ·rename_i y hy
   injection ht with ht;subst ht
   simp only [zq,Option.some.injEq,Prod.mk.injEq] at he
   obtain ⟨rfl,rfl,_⟩:=he
   exact ya.same R (by simp [execOp,ho]) (yd R E hy)
  ·cases ht
 case assign x=>
  split at ht
  ·rename_i y hy
   injection ht with ht;subst ht
   simp only [zq,Option.some.injEq,Prod.mk.injEq] at he
   obtain ⟨rfl,rfl,_⟩:=he
   exact ya.same R (by simp [execOp,ho]) (yd R E hy)
  ·cases ht
 case pick c x y=>
  split at ht
  ·rename_i c' x' y' h1 h2 h3
   injection ht with ht;subst ht
   simp only [zq] at he
   have hc:=yd R E h1
   split at he
   ·rename_i t hct
    rw [hct] at hc
    have hcv:=hc.bool_inv
    cases t with
    |true=>
     simp only [Option.some.injEq,Prod.mk.injEq] at he
     obtain ⟨rfl,rfl,_⟩:=he
     exact ya.same R (by simp [execOp,ho,hcv,asBool]) (yd R E h2)
    |false=>
     simp only [Option.some.injEq,Prod.mk.injEq] at he
     obtain ⟨rfl,rfl,_⟩:=he
     exact ya.same R (by simp [execOp,ho,hcv,asBool]) (yd R E h3)
   ·cases he
  ·cases ht
 case alloc t=>
  split at ht
  ·rename_i z hz
   injection ht with ht;subst ht
   simp only [zq,Option.some.injEq,Prod.mk.injEq] at he
   obtain ⟨rfl,rfl,_⟩:=he
   exact zw7 R ho hz
  ·cases ht
 case box t x=>
  split at ht
  ·rename_i y hy
   injection ht with ht;subst ht
   simp only [zq] at he
   split at he
   ·rename_i hl
    simp only [Option.some.injEq,Prod.mk.injEq] at he
    obtain ⟨rfl,rfl,_⟩:=he
    exact zz' R ho (yd R E hy) hl
   ·cases he
  ·cases ht
 case build t parts=>
  split at ht
  ·rename_i z fields hz hu
   split at ht
   ·rename_i places hp
    split at ht
    ·rename_i ps hps
     injection ht with ht;subst ht
     simp only [zq] at he
     split at he
     ·rename_i hall
      split at he
      ·rename_i cs hcs
       simp only [Option.some.injEq,Prod.mk.injEq] at he
       obtain ⟨rfl,rfl,_⟩:=he
       exact zoT R ho hz (zlH hu hp) (KH R E hps) hall hcs
      ·cases he
     ·cases he
    ·cases ht
   ·cases ht
  ·rename_i z n e hz hu
   split at ht
   ·rename_i sz hs
    split at ht
    ·rename_i ps hps
     injection ht with ht;subst ht
     simp only [zq] at he
     split at he
     ·rename_i hall
      split at he
      ·rename_i cs hcs
       simp only [Option.some.injEq,Prod.mk.injEq] at he
       obtain ⟨rfl,rfl,_⟩:=he
       exact zoT R ho hz (zno hu hs) (KH R E hps) hall hcs
      ·cases he
     ·cases he
    ·cases ht
   ·cases ht
  ·cases ht
 case buildSlice t len parts=>
  split at ht
  ·rename_i e sz by' hel
   split at ht
   ·rename_i z ps hz hps hb
    split at ht
    ·rename_i hzl
     injection ht with ht;subst ht
     simp only [zq] at he
     split at he
     ·rename_i rows hr
      simp only [Option.some.injEq,Prod.mk.injEq] at he
      obtain ⟨rfl,rfl,_⟩:=he
      exact zmO R E ho hel hz (Nat.eq_of_beq_eq_true hzl) hps (Nat.le_of_ble_eq_true hb) hr
     ·cases he
    ·cases ht
   ·cases ht
  ·cases ht
 case load t x=>
  split at ht
  ·rename_i g sz y h1 h2 h3
   injection ht with ht;subst ht
   simp only [zq] at he
   split at he
   ·rename_i cs hcs
    split at he
    ·rename_i v' hv
     simp only [Option.some.injEq,Prod.mk.injEq] at he
     obtain ⟨rfl,rfl,_⟩:=he
     exact zyu R ho h1 h2 (yd R E h3) hcs hv
    ·cases he
   ·cases he
  ·cases ht
 case store t x y=>
  split at ht
  ·rename_i sz x' y' h1 h2 h3
   injection ht with ht;subst ht
   simp only [zq] at he
   split at he
   ·rename_i H1 ed1 hs
    simp only [Option.some.injEq,Prod.mk.injEq] at he
    obtain ⟨rfl,rfl,_⟩:=he
    exact zw_ R ho h1 (yd R E h2) (yd R E h3) hs
   ·cases he
  ·cases ht
 case nilCheck x=>
  split at ht
  ·rename_i y hy
   injection ht with ht;subst ht
   simp only [zq] at he
   have hv:=yd R E hy
   generalize hq:y.get G st=q at he hv
   generalize hx:a.eval x=u at hv
   cases q<;>simp only at he<;>try (cases he;done)
   case ptr id row off tot=>
    simp only [Option.some.injEq,Prod.mk.injEq] at he
    obtain ⟨rfl,rfl,_⟩:=he
    have:∃ ad,u=.pointer (some ad):=by
     cases hv with
     |froz _ _ h=>cases h
     |ptr=>exact ⟨_,rfl⟩
     |ptrOld=>exact ⟨_,rfl⟩
    obtain ⟨ad,rfl⟩:=this
    exact ya.same R (by simp [execOp,ho,hx]) hv
   case fp cs off=>
    simp only [Option.some.injEq,Prod.mk.injEq] at he
    obtain ⟨rfl,rfl,_⟩:=he
    obtain ⟨blk,o',rfl,_⟩:=hv.fp_inv
    exact ya.same R (by simp [execOp,ho,hx]) hv
  ·cases ht
 case binOp op t x y t'=>
  split at ht
  ·rename_i x' y' h1 h2
   have hx:=yd R E h1
   have hy:=yd R E h2
   split at ht
   ·rename_i hb
    injection ht with ht;subst ht
    simp only [zq] at he
    split at he
    ·rename_i v' hv
     simp only [Option.some.injEq,Prod.mk.injEq] at he
     obtain ⟨rfl,rfl,_⟩:=he
     exact zz_ R ho hb hx hy hv
    ·cases he
   ·split at ht
    ·rename_i neg hn
     split at ht
     ·rename_i hb
      injection ht with ht;subst ht
      simp only [zq] at he
      split at he
      ·rename_i p q hp hq
       simp only [Option.some.injEq,Prod.mk.injEq] at he
       obtain ⟨rfl,rfl,_⟩:=he
       rw [hp] at hx
       rw [hq] at hy
       exact zAa R ho hb hn hx.bool_inv hy.bool_inv
      ·cases he
     ·split at ht
      ·rename_i tags htg
       injection ht with ht;subst ht
       simp only [zq] at he
       split at he
       ·rename_i ps qs hp hq
        split at he
        ·rename_i b hb
         simp only [Option.some.injEq,Prod.mk.injEq] at he
         obtain ⟨rfl,rfl,_⟩:=he
         rw [hp] at hx
         rw [hq] at hy
         exact zAb R ho htg hn hx hy hb
        ·cases he
       ·cases he
      ·cases ht
    ·cases ht
  ·cases ht
 case unOp op t x=>
  split at ht
  ·rename_i y hy
   injection ht with ht;subst ht
   simp only [zq] at he
   split at he
   ·rename_i v' hv
    simp only [Option.some.injEq,Prod.mk.injEq] at he
    obtain ⟨rfl,rfl,_⟩:=he
    exact zBp R ho (yd R E hy) hv
   ·cases he
  ·cases ht
 case convert s d x=>
  split at ht
  ·rename_i k0 k y h1 h2 h3
   injection ht with ht;subst ht
   simp only [zq] at he
   split at he
   ·rename_i k' n hn
    simp only [Option.some.injEq,Prod.mk.injEq] at he
    obtain ⟨rfl,rfl,_⟩:=he
    have:=yd R E h3
    rw [hn] at this
    exact zyr R ho h1 h2 this.int_inv
   ·cases he
  ·rename_i k0 y h1 h2 h3
   injection ht with ht;subst ht
   simp only [zq] at he
   split at he
   ·rename_i v' hv'
    simp only [Option.some.injEq,Prod.mk.injEq] at he
    obtain ⟨rfl,rfl,_⟩:=he
    have:=yd R E h3
    generalize y.get G st=py at hv' this
    cases py<;>simp only [Vx] at hv'<;>try (cases hv';done)
    injection hv' with hv'
    subst hv'
    exact zAc R ho h1 h2 this.int_inv
   ·cases he
  ·rename_i e y h1 h2 h3
   split at ht
   ·rename_i h4
    injection ht with ht;subst ht
    simp only [zq] at he
    split at he
    ·rename_i v' hv'
     simp only [Option.some.injEq,Prod.mk.injEq] at he
     obtain ⟨rfl,rfl,_⟩:=he
     exact zyp R ho h1 h4 h2 (yd R E h3) hv'
    ·cases he
   ·cases ht
  ·cases ht
 case makeFunc fn first captured=>
  split at ht
  ·rename_i f xs hfirst hxs
   injection ht with ht;subst ht
   simp only [zq] at he
   split at he
   ·simp only [Option.some.injEq,Prod.mk.injEq] at he
    obtain ⟨rfl,rfl,_⟩:=he
    have h1:=Wl R E hxs
    have hf:first=#[]:=by rw [←Array.toArray_toList (xs:=first),hfirst]
    subst hf
    refine ya.same (cv:=.func (.func f) #[] (captured.toList.map a.eval).toArray) R ?_ (.fn f _ _ h1.1 h1.2)
    simp only [execOp,ho,Instr.makeFunc,Sem.run_bind,Sem.run_pure,Result.andThen_ok,zdA]
    simp
   ·cases he
  ·cases ht
 case makeSlice t l c=>
  split at ht
  ·rename_i e sz by' hel
   split at ht
   ·rename_i z l' c' hz hl hc
    split at ht
    ·rename_i hzl
     injection ht with ht;subst ht
     simp only [zq] at he
     split at he
     ·rename_i n n2 hln hcn
      split at he
      ·rename_i hb
       simp only [Bool.and_eq_true,decide_eq_true_eq] at hb
       obtain ⟨⟨b1,b2⟩,b3⟩:=hb
       simp only [Option.some.injEq,Prod.mk.injEq] at he
       obtain ⟨rfl,rfl,_⟩:=he
       subst b2
       have hl1:=yd R E hl
       have hc1:=yd R E hc
       rw [hln] at hl1
       rw [hcn] at hc1
       obtain ⟨_,i,_,_,hby,_,hb0⟩:=j9 hel
       have hn:n<9223372036854775808:=by
        have:n*1≤n*(by':Int):=Int.mul_le_mul_of_nonneg_left (by omega) b1
        omega
       exact zsr R ho hel hz (Nat.eq_of_beq_eq_true hzl) hl1.int_inv hc1.int_inv b1 b3 hn
      ·cases he
     ·cases he
    ·cases ht
   ·cases ht
  ·cases ht
 case slice t x lo hi mx=>
  split at ht
  ·cases ht
  ·split at ht
   ·rename_i hu
    split at ht
    ·rename_i x' l' h' hx hlo hhi
     injection ht with ht;subst ht
     simp only [zq] at he
     have hv:=yd R E hx
     split at he
     ·rename_i s l hs hl
      split at he
      ·rename_i h hh
       split at he
       ·rename_i hb
        simp only [Bool.and_eq_true,decide_eq_true_eq] at hb
        obtain ⟨⟨b1,b2⟩,b3⟩:=hb
        simp only [Option.some.injEq,Prod.mk.injEq] at he
        obtain ⟨rfl,rfl,_⟩:=he
        rw [hs] at hv
        exact zod R ho hu hv.str_inv (Xb R E hlo hl) (Xb R E hhi hh) b1 b2 b3
       ·cases he
      ·cases he
     ·cases he
    ·cases ht
   ·rename_i e hu
    split at ht
    ·rename_i sz x' l' h' hsz hx hlo hhi
     injection ht with ht;subst ht
     simp only [zq] at he
     have hv:=yd R E hx
     split at he
     ·rename_i rows l hs hl
      split at he
      ·rename_i h hh
       split at he
       ·rename_i hb
        simp only [Bool.and_eq_true,decide_eq_true_eq] at hb
        obtain ⟨⟨⟨b1,b2⟩,b3⟩,b4⟩:=hb
        simp only [Option.some.injEq,Prod.mk.injEq] at he
        obtain ⟨rfl,rfl,_⟩:=he
        rw [hs] at hv
        exact zqv R ho hu hsz hv (Xb R E hlo hl) (Xb R E hhi hh) b1 b2 b3 b4
       ·cases he
      ·cases he
     ·rename_i id off len tot l hs hl
      split at he
      ·rename_i h hh
       split at he
       ·rename_i hb
        simp only [Bool.and_eq_true,decide_eq_true_eq] at hb
        obtain ⟨⟨⟨b1,b2⟩,b3⟩,b4⟩:=hb
        simp only [Option.some.injEq,Prod.mk.injEq] at he
        obtain ⟨rfl,rfl,_⟩:=he
        rw [hs] at hv
        exact zqw R ho hu hsz hv (Xb R E hlo hl) (Xb R E hhi hh) b1 b2 b3 b4
       ·cases he
      ·cases he
     ·cases he
    ·cases ht
   ·cases ht
 case fieldAddr t x k=>
  split at ht
  ·rename_i fields hu
   split at ht
   ·rename_i f hf
    split at ht
    ·rename_i sz y hs hy
     split at ht
     ·cases ht
     ·rename_i hz
      injection ht with ht;subst ht
      have h0:sz≠0:=by intro e;subst e;simp at hz
      have hv:=yd R E hy
      simp only [zq] at he
      generalize hq:y.get G st=q at he hv
      cases q<;>simp only at he<;>try (cases he;done)
      all_goals
       simp only [Option.some.injEq,Prod.mk.injEq] at he
       obtain ⟨rfl,rfl,_⟩:=he
       exact zuP R ho hu hf hs h0 hv rfl
    ·cases ht
   ·cases ht
  ·cases ht
 case field t x k=>
  split at ht
  ·rename_i fields hu
   split at ht
   ·rename_i f hf
    split at ht
    ·rename_i g sz y hg hs hy
     injection ht with ht;subst ht
     have hv:=yd R E hy
     simp only [zq] at he
     split at he
     ·rename_i cs hcs
      split at he
      ·rename_i v' hv'
       simp only [Option.some.injEq,Prod.mk.injEq] at he
       obtain ⟨rfl,rfl,_⟩:=he
       rw [hcs] at hv
       exact zw8 R ho hu hf hg hs hv hv'
      ·cases he
     ·cases he
    ·cases ht
   ·cases ht
  ·cases ht
 case indexAddr t x i=>
  split at ht
  ·rename_i e sz by' x' i' hel hx hi
   injection ht with ht;subst ht
   have hvx:=yd R E hx
   have hvi:=yd R E hi
   simp only [zq] at he
   split at he
   ·rename_i k n hn
    rw [hn] at hvi
    split at he
    ·rename_i h0
     have h0:=of_decide_eq_true h0
     split at he
     ·rename_i rows hr
      split at he
      ·rename_i r hrr
       split at he
       ·rename_i hl
        simp only [Option.some.injEq,Prod.mk.injEq] at he
        obtain ⟨rfl,rfl,_⟩:=he
        rw [hr] at hvx
        exact zqt R ho hel hvx hvi.int_inv h0 hrr (by simpa using hl)
       ·cases he
      ·cases he
     ·rename_i id off len tot hr
      split at he
      ·rename_i s rows hH
       split at he
       ·rename_i hb
        simp only [Bool.and_eq_true,beq_iff_eq,decide_eq_true_eq] at hb
        obtain ⟨⟨⟨b1,b2⟩,b3⟩,b4⟩:=hb
        simp only [Option.some.injEq,Prod.mk.injEq] at he
        obtain ⟨rfl,rfl,_⟩:=he
        rw [hr] at hvx
        exact zqu R ho hel hvx hvi.int_inv h0 hH b1 b2 b3
       ·cases he
      ·cases he
     ·cases he
    ·cases he
   ·cases he
  ·rename_i x' i' hel hx hi
   split at ht
   ·rename_i n e hu
    split at ht
    ·rename_i sz hs
     injection ht with ht;subst ht
     simp only [zq] at he
     split at he
     ·rename_i v' hv'
      simp only [Option.some.injEq,Prod.mk.injEq] at he
      obtain ⟨rfl,rfl,_⟩:=he
      exact zuQ R ho hu hs (yd R E hx) (yd R E hi) hv'
     ·cases he
    ·cases ht
   ·cases ht
  ·cases ht
 case index t x i=>
  split at ht
  ·rename_i n e hu
   split at ht
   ·rename_i g sz x' i' hg hs hx hi
    injection ht with ht;subst ht
    have hvx:=yd R E hx
    have hvi:=yd R E hi
    simp only [zq] at he
    split at he
    ·rename_i cs k j hcs hj
     split at he
     ·rename_i hb
      simp only [Bool.and_eq_true,decide_eq_true_eq] at hb
      split at he
      ·rename_i v' hv'
       simp only [Option.some.injEq,Prod.mk.injEq] at he
       obtain ⟨rfl,rfl,_⟩:=he
       rw [hcs] at hvx
       rw [hj] at hvi
       exact zuR R ho hu hg hs hvx hvi.int_inv hb.1 hb.2 hv'
      ·cases he
     ·cases he
    ·cases he
   ·cases ht
  ·cases ht
 case extract x i=>
  split at ht
  ·rename_i y hy
   injection ht with ht;subst ht
   have hv:=yd R E hy
   simp only [zq] at he
   split at he
   ·rename_i vs hvs
    split at he
    ·rename_i v' hv'
     simp only [Option.some.injEq,Prod.mk.injEq] at he
     obtain ⟨rfl,rfl,_⟩:=he
     rw [hvs] at hv
     obtain ⟨us,hu,h1⟩:=hv.tup_inv
     obtain ⟨u,u1,u2⟩:=h1.get hv'
     exact ya.same (cv:=u) R (by simp [execOp,ho,Instr.extract,hu,u1]) u2
    ·cases he
   ·cases he
  ·cases ht
 case makeMap t r=>
  split at ht
  ·injection ht with ht;subst ht
   simp only [zq,Option.some.injEq,Prod.mk.injEq] at he
   obtain ⟨rfl,rfl,_⟩:=he
   exact zw9 R ho
  ·cases ht
 case lookup t x i ok=>
  split at ht
  ·rename_i kt et hu
   split at ht
   ·rename_i tag z x' i' hk hz hx hi
    injection ht with ht;subst ht
    have hvx:=yd R E hx
    have hvi:=yd R E hi
    simp only [zq] at he
    split at he
    ·rename_i es hes
     split at he
     ·rename_i p hp
      simp only [Option.some.injEq,Prod.mk.injEq] at he
      obtain ⟨rfl,rfl,_⟩:=he
      exact zuS R ho hu hk hz hes hvx hvi hp
     ·cases he
    ·cases he
   ·cases ht
  ·cases ht
 case insert t mp k x=>
  split at ht
  ·rename_i kt et hu
   split at ht
   ·rename_i tag m' k' x' hk h1 h2 h3
    injection ht with ht;subst ht
    have hv1:=yd R E h1
    simp only [zq] at he
    split at he
    ·rename_i id hid
     split at he
     ·rename_i es hH
      split at he
      ·rename_i hf
       simp only [Option.some.injEq,Prod.mk.injEq] at he
       obtain ⟨rfl,rfl,_⟩:=he
       rw [hid] at hv1
       exact zmP R (.inl ho) hu hk hv1 (yd R E h2) (yd R E h3) hH hf
      ·cases he
     ·cases he
    ·cases he
   ·cases ht
  ·cases ht
 case mapUpdate t mp k x=>
  split at ht
  ·rename_i kt et hu
   split at ht
   ·rename_i tag m' k' x' hk h1 h2 h3
    injection ht with ht;subst ht
    have hv1:=yd R E h1
    simp only [zq] at he
    split at he
    ·rename_i id hid
     split at he
     ·rename_i es hH
      split at he
      ·rename_i hf
       simp only [Option.some.injEq,Prod.mk.injEq] at he
       obtain ⟨rfl,rfl,_⟩:=he
       rw [hid] at hv1
       exact zmP R (.inr ho) hu hk hv1 (yd R E h2) (yd R E h3) hH hf
      ·cases he
     ·cases he
    ·cases he
   ·cases ht
  ·cases ht
 case call c=>exact zyq hC R E ho ht he
 case range t x=>
  split at ht
  ·injection ht with ht;subst ht;cases he
  ·cases ht
 case entry x=>injection ht with ht;subst ht;cases he
 case next x s=>
  cases s with
  |false=>injection ht with ht;subst ht;cases he
  |true=>cases ht
end
end
end Go.Av
end

/- The evaluator -/
import Derived.ArgAppend
import Derived.Laws.AppendOwn
import Derived.Laws.BytesArg
import Derived.Laws.Cells
import Derived.Laws.CopyRow
import Derived.Laws.StructEq
import Derived.Laws.Tables
import Derived.Orders
import Derived.RowKit3
import Derived.Still
set_option linter.all false
namespace Go.Av
def aA:=@List.nil_append.{0}
def aB:=@List.cons_append.{0}
def aC:=@Option.some.injEq.{0}
def aD:=@List.getElem?_append_left.{0}
def aE:=@List.getElem?_eq_getElem.{0}
def aF:=@List.getElem?_eq_some_iff.{0}
def aG:=@Prod.mk.injEq.{0,0}
def aH:=@List.getElem?_set_ne.{0}
def aI:=@List.getElem?_append_right.{0}
def aJ:=@List.mem_of_getElem?.{0}
def aK:=@List.getElem?_set_self.{0}
def aL:=@Int.lt_irrefl
def aM:=@List.map_cons.{0,0}
def aN:=@List.getElem?_map.{0,0}
def aO:=@List.mem_singleton.{0}
def aP:=@Classical.not_not
def aQ:=@List.length_append.{0}
def aR:=@ite_congr.{0}
def aS:=@Nat.le_refl
def aT:=@Nat.eq_of_beq_eq_true
def aU:=@Bool.and_eq_true
def aV:=@List.not_mem_nil.{0}
def aW:=@Option.bind_some.{0,0}
def aX:=@List.mem_append.{0}
def aY:=@List.append_assoc.{0}
def aZ:=@List.all_eq_true.{0}
def bA:=@List.map_nil.{0,0}
def bB:=@List.getElem?_eq_none.{0}
def bC:=@List.length_cons.{0}
def bD:=@Option.bind_none.{0,0}
def bE:=@List.length_nil.{0}
def bF:=@Nat.mul_le_mul_right
def bG:=@Bool.false_eq_true
def bI:=@List.length_set.{0}
def bJ:=@Nat.lt_of_lt_of_le
def bK:=@List.length_singleton.{0}
def bL:=@List.mem_cons_of_mem.{0}
def bM:=@List.map_congr_left.{0,0}
def bN:=@Option.ne_none_iff_exists'.{0}
def bO:=@Nat.zero_add
def bP:=@Bool.eq_iff_iff
def bQ:=@List.mem_append_left.{0}
def bR:=@List.getElem?_take.{0}
def bS:=@Nat.lt_or_ge
def bT:=@List.length_eq_zero_iff.{0}
def bU:=@List.mem_map.{0,0}
def bV:=@Array.getElem?_eq_getElem.{0}
def bW:=@List.getElem?_cons_zero.{0}
def bY:=@List.append_nil.{0}
def bZ:=@Nat.add_assoc
def cA:=@Option.map_some.{0,0}
def cB:=@Int.toNat_natCast
def cC:=@decide_eq_true_eq
def cD:=@Classical.byContradiction
def cE:=@List.getElem?_replicate.{0}
def cF:=@List.length_map.{0,0}
def cH:=@Nat.add_mul
def cJ:=@List.mem_append_right.{0}
def cK:=@List.getD_eq_getElem?_getD.{0}
def cL:=@false_and
def cM:=@List.mem_cons_self.{0}
def cN:=@Nat.add_zero
def cO:=@Array.getElem?_eq_some_iff.{0}
def cP:=@List.mem_of_mem_take.{0}
def cQ:=@Int.zero_sub
def cR:=@Option.getD_some.{0}
def cS:=@Array.getElem?_toList.{0}
def cT:=@List.getElem?_drop.{0}
def cU:=@Array.getElem?_setIfInBounds_ne.{0}
def cV:=@List.mem_of_mem_drop.{0}
def cW:=@Nat.add_sub_cancel_left
def cX:=@List.getElem?_of_mem.{0}
def cY:=@Array.getD_eq_getD_getElem?.{0}
def cZ:=@List.map_map.{0,0,0}
def dA:=@List.getElem_mem.{0}
def dB:=@Array.toArray_toList.{0}
def dC:=@List.mem_or_eq_of_mem_set.{0}
def dD:=@Option.some.inj.{0}
def dE:=@List.mem_cons.{0}
def dF:=@List.getElem?_cons_succ.{0}
def dG:=@List.length_take.{0}
def dH:=@List.take_of_length_le.{0}
def dI:=@Nat.le_trans
def dJ:=@Array.getElem?_push.{0}
def dK:=@List.getElem?_range
def dL:=@List.set_append_right.{0}
def dM:=@Nat.zero_le
def dN:=@List.ext_getElem?.{0}
def dO:=@List.drop_eq_getElem_cons.{0}
def dP:=@Nat.le_of_ble_eq_true
def dQ:=@List.filter_cons.{0}
def dR:=@List.set_set.{0}
def dS:=@false_implies
def dT:=@List.cons.injEq.{0}
def dU:=@List.map_append.{0,0}
def dV:=@decide_eq_false
def dW:=@Array.length_toList.{0}
def dX:=@List.filter_eq_self.{0}
def dY:=@true_implies
def dZ:=@List.drop_zero.{0}
def d5:=@List.map_replicate.{0,0}
def d6:=@List.set_cons_zero.{0}
def d7:=@Bool.or_eq_true
def d8:=@Nat.min_eq_left
def d9:=@List.getElem?_set.{0}
def eA:=@of_decide_eq_true
def eB:=@Bool.or_false
end Go.Av
section
namespace Go.Av
open Go
section
inductive PV where
 |und
 |unk
 |int (k:IntKind) (n:Int)
 |bool (b:Bool)
 |str (s:ByteArray)
 |flt (k:FloatKind) (n:Nat)
 |agg (cs:List PV)
 |tup (vs:List PV)
 |fz (rows:List (List PV))
 |fp (cells:List PV) (off:Nat)
 |sl (id off len tot:Nat)
 |ptr (id row off tot:Nat)
 |nils
 |nilp
 |nilf
 |nilm
 |fn (f:Nat) (caps:List PV)
 |fm (es:List (PV×PV))
 |mp (id:Nat)
 deriving Inhabited
inductive zZ where
 |cells (sz:Nat) (rows:List (List PV))
 |map (es:List (PV×PV))
 deriving Inhabited
abbrev zd:=List zZ
abbrev zI:=List (Nat×Nat)
abbrev zk:=List (Nat×PV)
def zk.get:zk->Nat->PV
 |[],_=>.unk
 |(k,v)::e,n=>match Nat.beq k n with|true=>v|false=>zk.get e n
def zk.put:zk->Nat->PV->zk
 |[],n,v=>[(n,v)]
 |(k,x)::e,n,v=>match Nat.beq k n with|true=>(k,v)::e|false=>(k,x)::zk.put e n v
def zk.erase:zk->Nat->zk
 |[],_=>[]
 |(k,x)::e,n=>match Nat.beq k n with|true=>zk.erase e n|false=>(k,x)::zk.erase e n
structure St where
 per:zk
 reg:zk
 H:zd
 ed:zI
inductive zy where
 |per (n:Nat)
 |reg (n:Nat)
 |const (v:PV)
 |glob (g:Nat)
 deriving Inhabited
inductive zaF where
 |pure|shared|lend|fresh
 deriving DecidableEq,Inhabited
inductive zoP where
 |fbits
 |i2f
 deriving DecidableEq,Inhabited
inductive uU where
 |copy (x:zy)
 |pick (c a b:zy)
 |alloc (cells:List PV)
 |box (x:zy)
 |build (zero:List PV) (parts:List (Nat×Nat×zy))
 |buildSlice (sz len:Nat) (zero:List PV) (parts:List (Nat×zy))
 |load (agg:Bool) (sz:Nat) (a:zy)
 |store (sz:Nat) (a x:zy)
 |nilCheck (x:zy)
 |bin (op:BinOp) (x y:zy)
 |eqB (neg:Bool) (x y:zy)
 |eqS (neg:Bool) (tags:List Nat) (x y:zy)
 |un (op:UnOp) (x:zy)
 |conv (k:IntKind) (x:zy)
 |mkfn (f:Nat) (caps:List zy)
 |mkslice (sz bytes:Nat) (zero:List PV) (len cap:zy)
 |slice (sz:Nat) (x:zy) (lo hi:Option zy)
 |sliceS (x:zy) (lo hi:Option zy)
 |fieldA (off:Nat) (x:zy)
 |field (agg:Bool) (off sz:Nat) (x:zy)
 |indexA (sz:Nat) (x i:zy)
 |indexV (n:Nat) (agg:Bool) (sz:Nat) (x i:zy)
 |len (x:zy)
 |lenS (x:zy)
 |append (sz bytes:Nat) (x y:zy)
 |copyS (sz:Nat) (x y:zy)
 |call (m:zaF) (f:Nat) (args:List zy)
 |callv (m:zaF) (x:zy) (args:List zy)
 |extract (x:zy) (i:Nat)
 |mkmap
 |insert (tag:Nat) (m k v:zy)
 |lookup (tag:Nat) (zero:PV) (ok:Bool) (m k:zy)
 |prim (k:zoP) (x:zy)
 |bstr (x:zy)
 |minmax (mx:Bool) (x y:zy)
 |indexP (n sz:Nat) (x i:zy)
 |fail
 deriving Inhabited
structure zD where
 dst:Option (Bool×Nat)
 op:uU
 guard:Option (zy×Bool)
 still:Bool:=false
 clear:List zy:=[]
 deriving Inhabited
inductive AC where
 |skip
 |region (draw:Bool) (ops:List zD)
 |seq (a b:AC)
 |cond (gone:Bool) (c:zy) (thn els:AC)
 |block (id:Nat) (body:AC)
 |loop (body:AC)
 |exit (id:Nat)
 |ret
 |mrange (x:zy) (W:List Nat) (pk:Nat) (body:AC)
 deriving Inhabited
inductive jw where
 |tmp (n:Nat)
 |cell (n:Nat) (agg:Bool) (sz:Nat)
 deriving Inhabited
structure zL where
 np:Nat
 code:AC
 res:List jw
 deriving Inhabited
structure xn where
 fn:Nat->Option zL
 glob:Nat->Option (List PV)
mutual
def refs:PV->List Nat
 |.sl id _ _ _=>[id]
 |.ptr id _ _ _=>[id]
 |.mp id=>[id]
 |.agg cs=>zn cs
 |.tup vs=>zn vs
 |.fn _ caps=>zn caps
 |_=>[]
def zn:List PV->List Nat
 |[]=>[]
 |v::vs=>refs v++zn vs
end
mutual
def zC (k:Nat):PV->PV
 |.sl id off len tot=>.sl (k+id) off len tot
 |.ptr id row off tot=>.ptr (k+id) row off tot
 |.mp id=>.mp (k+id)
 |.agg cs=>.agg (yR k cs)
 |.tup vs=>.tup (yR k vs)
 |.fn f caps=>.fn f (yR k caps)
 |.fz []=>.fz []
 |.fz (_::_)=>.unk
 |.fp _ _=>.unk
 |.fm _=>.unk
 |.und=>.und
 |.unk=>.unk
 |.int k n=>.int k n
 |.bool b=>.bool b
 |.str s=>.str s
 |.flt k n=>.flt k n
 |.nils=>.nils
 |.nilp=>.nilp
 |.nilf=>.nilf
 |.nilm=>.nilm
def yR (k:Nat):List PV->List PV
 |[]=>[]
 |v::vs=>zC k v::yR k vs
end
def zX (k:Nat):zZ->zZ
 |.cells s rows=>.cells s (rows.map (yR k))
 |.map es=>.map (es.map λ e=>(zC k e.1,zC k e.2))
def zH:PV->Bool
 |.und|.unk|.agg _|.tup _=>false
 |_=>true
def cellsOf:PV->List PV
 |.agg cs=>cs
 |v=>[v]
def frz:Nat->zd->PV->PV
 |0,_,_=>.unk
 |d+1,H,v=>match v with
  |.sl id off len tot=>match H[id]? with
   |some (.cells _ rows)=>match tot==rows.length&&decide (off+len<=tot) with
    |true=>.fz (((rows.drop off).take len).map (·.map (frz d H)))
    |false=>.unk
   |_=>.unk
  |.ptr id row off tot=>match H[id]? with
   |some (.cells _ rows)=>match tot==rows.length,rows[row]? with
    |true,some cs=>.fp (cs.map (frz d H)) off
    |_,_=>.unk
   |_=>.unk
  |.mp id=>match H[id]? with
   |some (.map es)=>.fm (es.map λ e=>(frz d H e.1,frz d H e.2))
   |_=>.unk
  |.agg cs=>.agg (cs.map (frz d H))
  |.tup vs=>.tup (vs.map (frz d H))
  |.fn f caps=>.fn f (caps.map (frz d H))
  |v=>v
def Zj (op:BinOp) (k:IntKind) (x y:Int):Option PV:=
 match op with
 |.add=>some (.int k (k.wrap (x+y)))
 |.sub=>some (.int k (k.wrap (x-y)))
 |.mul=>some (.int k (k.wrap (x*y)))
 |.quo=>if y=0 then none else some (.int k (k.wrap (x.tdiv y)))
 |.rem=>if y=0 then none else some (.int k (x.tmod y))
 |.eql=>some (.bool (x==y))
 |.neq=>some (.bool (x != y))
 |.lss=>some (.bool (decide (x<y)))
 |.leq=>some (.bool (decide (x<=y)))
 |.gtr=>some (.bool (decide (x>y)))
 |.geq=>some (.bool (decide (x≥y)))
 |_=>none
def KS (op:BinOp) (k:FloatKind) (x y:Nat):Option PV:=
 match op with
 |.quo=>match k.format.div x y with|some r=>some (.flt k r)|none=>none
 |.eql=>some (.bool (k.format.order x y==some .eq))
 |.neq=>some (.bool (k.format.order x y != some .eq))
 |.lss=>some (.bool (k.format.order x y==some .lt))
 |.gtr=>some (.bool (k.format.order x y==some .gt))
 |_=>none
def zbK (op:BinOp) (x y:ByteArray):Option PV:=
 match op with
 |.add=>if x.size+y.size<=4294967296 then some (.str (x++y)) else none
 |.eql=>some (.bool (x.toList==y.toList))
 |.neq=>some (.bool !(x.toList==y.toList))
 |_=>none
def bin (op:BinOp):PV->PV->Option PV
 |.int k x,.int k' y=>match decide (k=k') with|true=>Zj op k x y|false=>none
 |.flt k x,.flt k' y=>match decide (k=k') with|true=>KS op k x y|false=>none
 |.str x,.str y=>zbK op x y
 |_,_=>none
def jC:Nat->PV->PV->Option Bool
 |0,.int k x,.int k' y=>match decide (k=k') with|true=>some (x==y)|false=>none
 |1,.bool x,.bool y=>some (x==y)
 |2,.str x,.str y=>some (x==y)
 |_,_,_=>none
def Za:List Nat->List PV->List PV->Option Bool
 |[],[],[]=>some true
 |t::ts,p::ps,q::qs=>match jC t p q,Za ts ps qs with
  |some a,some b=>some (a&&b)
  |_,_=>none
 |_,_,_=>none
def un (op:UnOp):PV->Option PV
 |.int k n=>match op with
  |.neg=>some (.int k (k.wrap (0-n)))
  |.xor=>match k.signed with|true=>some (.int k (k.wrap (-1-n)))|false=>none
  |_=>none
 |.bool b=>match op with|.not=>some (.bool !b)|_=>none
 |_=>none
def uu (H:zd):PV->Option (List (List PV))
 |.fz rows=>some rows
 |.nils=>some []
 |.sl id off len tot=>match H[id]? with
  |some (.cells _ rows)=>match tot==rows.length&&decide (off+len<=tot) with
   |true=>some ((rows.drop off).take len)
   |false=>none
  |_=>none
 |_=>none
def xU (H:zd) (sz:Nat):PV->Bool
 |.fz rows=>rows.all λ r=>r.length==sz
 |.nils=>true
 |.sl id _ _ _=>match H[id]? with|some (.cells s _)=>s==sz|_=>false
 |_=>false
def cellsAt (H:zd):PV->Option (List PV)
 |.fp cs off=>some (cs.drop off)
 |.ptr id row off tot=>match H[id]? with
  |some (.cells _ rows)=>match tot==rows.length,rows[row]? with
   |true,some cs=>some (cs.drop off)
   |_,_=>none
  |_=>none
 |_=>none
def yp (agg:Bool) (sz:Nat) (cs:List PV):Option PV:=
 match agg with
 |true=>match Nat.ble sz cs.length with|true=>some (.agg (cs.take sz))|false=>none
 |false=>cs.head?
def wG (id:Nat) (cs:List PV):zI:=((zn cs).filter λ r=>decide (id<r)).map λ r=>(id,r)
def storeAt (H:zd) (sz:Nat) (a x:PV):Option (zd×zI):=
 match a with
 |.ptr id row off tot=>match H[id]? with
  |some (.cells s rows)=>match tot==rows.length,rows[row]? with
   |true,some cs=>
    match (cellsOf x).length==sz&&Nat.ble (off+sz) cs.length&&(cellsOf x).all zH with
    |true=>some (H.set id (.cells s (rows.set row (cs.take off++cellsOf x++cs.drop (off+sz)))),wG id (cellsOf x))
    |false=>none
   |_,_=>none
  |_=>none
 |_=>none
def findKey (tag:Nat) (k:PV):List (PV×PV)->Option (Option PV)
 |[]=>some none
 |e::es=>match jC tag k e.1 with
  |some true=>some (some e.2)
  |some false=>findKey tag k es
  |none=>none
def Xt (H:zd):PV->Option (List (PV×PV))
 |.nilm=>some []
 |.fm es=>some es
 |.mp id=>match H[id]? with|some (.map es)=>some es|_=>none
 |_=>none
def zmI (zero:PV):Bool->Option PV->PV
 |true,some v=>.tup [v,.bool true]
 |false,some v=>v
 |true,none=>.tup [zero,.bool false]
 |false,none=>zero
structure Cl where
 p:Nat->List PV->Option PV
 s:Nat->List PV->zd->Option (PV×zd×zI)
def zy.get (G:Nat->Option (List PV)) (st:St):zy->PV
 |.per n=>st.per.get n
 |.reg n=>st.reg.get n
 |.const v=>v
 |.glob g=>match G g with|some cs=>.fp cs 0|none=>.unk
def xe (H:zd) (sz bytes:Nat) (x:PV) (new:List (List PV)):Option (PV×zd×zI):=
 match x with
 |.nils=>match decide (new.length*bytes<=35184372088832) with
  |true=>some (.sl H.length 0 new.length new.length,H++[.cells sz new],[])
  |false=>none
 |.sl id off len tot=>match H[id]? with
  |some (.cells s rows)=>match tot==rows.length&&s==sz&&decide (off+len<=tot)&&decide ((off+len+new.length)*bytes<=35184372088832) with
   |true=>match decide (off+len+new.length<=tot) with
    |true=>some (.sl id off (len+new.length) tot,H.set id (.cells s (rows.take (off+len)++new++rows.drop (off+len+new.length))),(new.map (wG id)).flatten)
    |false=>match off with
     |0=>some (.sl id 0 (len+new.length) (len+new.length),H.set id (.cells s (rows.take len++new)),(new.map (wG id)).flatten)
     |_+1=>none
   |false=>none
  |_=>none
 |_=>none
def uc:List PV->List (Nat×List PV)->Option (List PV)
 |cs,[]=>some cs
 |cs,(off,new)::ps=>match Nat.ble (off+new.length) cs.length&&new.all zH with
  |true=>uc (cs.take off++new++cs.drop (off+new.length)) ps
  |false=>none
def zS:List (List PV)->List (Nat×List PV)->Option (List (List PV))
 |rows,[]=>some rows
 |rows,(i,new)::ps=>match rows[i]? with
  |some r=>match r.length==new.length&&new.all zH with
   |true=>zS (rows.set i new) ps
   |false=>none
  |none=>none
def JO:PV->Bool
 |.int .. |.bool _|.str _|.flt .. =>true
 |_=>false
def jn:PV->Bool
 |.agg cs=>cs.all JO
 |.tup vs=>vs.all λ v=>match v with|.agg cs=>cs.all JO|v=>JO v
 |v=>JO v
def xH (C:Cl) (H:zd) (m:zaF) (f:Nat) (args:List PV):Option (PV×zd×zI):=
 match m with
 |.pure=>match C.p f (args.map (frz 8 H)) with
  |some v=>match (zn args).isEmpty||jn v with
   |true=>some (v,H,[])
   |false=>none
  |none=>none
 |.shared=>C.s f args H
 |.lend=>match C.s f (args.map (frz 8 H)) [] with
  |some (v,H',ed)=>some (zC H.length v,H++H'.map (zX H.length),ed.map λ e=>(H.length+e.1,H.length+e.2))
  |none=>none
 |.fresh=>match C.s f (args.map (frz 8 H)) [] with
  |some (v,H',_)=>some (frz 8 (H'.map (zX 0)) (zC 0 v),H,[])
  |none=>none
def Jg:zoP->PV->Option PV
 |.fbits,.flt .f64 n=>some (.int .u64 n)
 |.i2f,.int _ n=>some (.flt .f64 (FloatKind.f64.nearest n))
 |_,_=>none
def mmV:Bool->PV->PV->Option PV
 |true,.int k x,.int _ y=>some (.int k (if y>x then y else x))
 |false,.int k x,.int _ y=>some (.int k (if y<x then y else x))
 |_,_,_=>none
def zbW (n sz:Nat):PV->PV->Option PV
 |x,.int _ j=>match decide (0<=j)&&decide (j<n) with
  |true=>match x with
   |.ptr id row off tot=>some (.ptr id row (off+j.toNat*sz) tot)
   |.fp cs off=>some (.fp cs (off+j.toNat*sz))
   |_=>none
  |false=>none
 |_,_=>none
def JP:Bool->Bool->Bool
 |true,b=> !b
 |false,b=>b
def zeh:List (List PV)->Option (List UInt8)
 |[]=>some []
 |[.int .u8 n]::rs=>match zeh rs with|some bs=>some (UInt8.ofNat n.toNat::bs)|none=>none
 |_=>none
def zow (H:zd) (x:PV):Option PV:=
 match uu H x,xU H 1 x with
 |some rows,true=>match zeh rows with|some bs=>some (.str ⟨bs.toArray⟩)|none=>none
 |_,_=>none
def ZB (G:Nat->Option (List PV)) (st:St) (d:Int):Option zy->Option Int
 |none=>some d
 |some x=>match x.get G st with|.int _ n=>some n|_=>none
def zt (G:Nat->Option (List PV)) (C:Cl) (st:St):uU->Option (PV×zd×zI)
 |.copy x=>some (x.get G st,st.H,[])
 |.pick c a b=>match c.get G st with
  |.bool t=>match t with|true=>some (a.get G st,st.H,[])|false=>some (b.get G st,st.H,[])
  |_=>none
 |.alloc cells=>some (.ptr st.H.length 0 0 1,st.H++[.cells cells.length [cells]],[])
 |.box x=>match (cellsOf (x.get G st)).all zH with
  |true=>some (.ptr st.H.length 0 0 1,st.H++[.cells (cellsOf (x.get G st)).length [cellsOf (x.get G st)]],[])
  |false=>none
 |.build zero parts=>match parts.all λ p=>(cellsOf (p.2.2.get G st)).length==p.2.1 with
  |true=>match uc zero (parts.map λ p=>(p.1,cellsOf (p.2.2.get G st))) with
   |some cs=>some (.agg cs,st.H,[])
   |none=>none
  |false=>none
 |.buildSlice sz len zero parts=>match zS (List.replicate len zero) (parts.map λ p=>(p.1,cellsOf (p.2.get G st))) with
  |some rows=>some (.sl st.H.length 0 len len,st.H++[.cells sz rows],[])
  |none=>none
 |.load agg sz a=>match cellsAt st.H (a.get G st) with
  |some cs=>match yp agg sz cs with
   |some v=>some (v,st.H,[])
   |none=>none
  |none=>none
 |.store sz a x=>match storeAt st.H sz (a.get G st) (x.get G st) with
  |some (H,ed)=>some (.und,H,ed)
  |none=>none
 |.nilCheck x=>match x.get G st with
  |.ptr a b c d=>some (.ptr a b c d,st.H,[])
  |.fp a b=>some (.fp a b,st.H,[])
  |_=>none
 |.bin op x y=>match bin op (x.get G st) (y.get G st) with
  |some v=>some (v,st.H,[])
  |none=>none
 |.eqB neg x y=>match x.get G st,y.get G st with
  |.bool p,.bool q=>some (.bool (JP neg (p==q)),st.H,[])
  |_,_=>none
 |.eqS neg tags x y=>match x.get G st,y.get G st with
  |.agg ps,.agg qs=>match Za tags ps qs with
   |some b=>some (.bool (JP neg b),st.H,[])
   |none=>none
  |_,_=>none
 |.un op x=>match un op (x.get G st) with
  |some v=>some (v,st.H,[])
  |none=>none
 |.conv k x=>match x.get G st with
  |.int _ n=>some (.int k (k.wrap n),st.H,[])
  |_=>none
 |.mkfn f caps=>match (caps.map (zy.get G st)).all zH with
  |true=>some (.fn f (caps.map (zy.get G st)),st.H,[])
  |false=>none
 |.mkslice sz bytes zero len cap=>match len.get G st,cap.get G st with
  |.int .i64 n,.int .i64 c=>match decide (0<=n)&&decide (n=c)&&decide (n*bytes<=35184372088832) with
   |true=>some (.sl st.H.length 0 n.toNat n.toNat,st.H++[.cells sz (List.replicate n.toNat zero)],[])
   |false=>none
  |_,_=>none
 |.sliceS x lo hi=>match x.get G st,ZB G st 0 lo with
  |.str s,some l=>match ZB G st s.size hi with
   |some h=>match decide (0<=l)&&decide (l<=h)&&decide (h<=s.size) with
    |true=>some (.str (s.extract l.toNat h.toNat),st.H,[])
    |false=>none
   |none=>none
  |_,_=>none
 |.slice sz x lo hi=>match x.get G st,ZB G st 0 lo with
  |.fz rows,some l=>match ZB G st rows.length hi with
   |some h=>match decide (0<=l)&&decide (l<=h)&&decide (h<=rows.length)&&rows.all (λ r=>r.length==sz) with
    |true=>some (.fz ((rows.drop l.toNat).take (h.toNat-l.toNat)),st.H,[])
    |false=>none
   |none=>none
  |.sl id off len tot,some l=>match ZB G st len hi with
   |some h=>match decide (0<=l)&&decide (l<=h)&&decide (h<=len)&&xU st.H sz (.sl id off len tot) with
    |true=>some (.sl id (off+l.toNat) (h.toNat-l.toNat) tot,st.H,[])
    |false=>none
   |none=>none
  |_,_=>none
 |.fieldA o x=>match x.get G st with
  |.ptr id row off tot=>some (.ptr id row (off+o) tot,st.H,[])
  |.fp cs off=>some (.fp cs (off+o),st.H,[])
  |_=>none
 |.field agg off sz x=>match x.get G st with
  |.agg cs=>match yp agg sz (cs.drop off) with
   |some v=>some (v,st.H,[])
   |none=>none
  |_=>none
 |.indexA sz x i=>match i.get G st with
  |.int _ n=>match decide (0<=n) with
   |true=>match x.get G st with
    |.fz rows=>match rows[n.toNat]? with
     |some r=>match r.length==sz with|true=>some (.fp r 0,st.H,[])|false=>none
     |none=>none
    |.sl id off len tot=>match st.H[id]? with
     |some (.cells s rows)=>match s==sz&&tot==rows.length&&decide (n<len)&&decide (off+len<=tot) with
      |true=>some (.ptr id (off+n.toNat) 0 tot,st.H,[])
      |false=>none
     |_=>none
    |_=>none
   |false=>none
  |_=>none
 |.indexV n agg sz x i=>match x.get G st,i.get G st with
  |.agg cs,.int _ j=>match decide (0<=j)&&decide (j<n) with
   |true=>match yp agg sz (cs.drop (j.toNat*sz)) with
    |some v=>some (v,st.H,[])
    |none=>none
   |false=>none
  |_,_=>none
 |.len x=>match x.get G st with
  |.fz rows=>some (.int .i64 rows.length,st.H,[])
  |.sl _ _ n _=>some (.int .i64 n,st.H,[])
  |.nils=>some (.int .i64 0,st.H,[])
  |_=>none
 |.lenS x=>match x.get G st with
  |.str s=>some (.int .i64 s.size,st.H,[])
  |_=>none
 |.append sz bytes x y=>match uu st.H (y.get G st),xU st.H sz (y.get G st) with
  |some new,true=>xe st.H sz bytes (x.get G st) new
  |_,_=>none
 |.copyS sz x y=>match x.get G st,uu st.H (y.get G st) with
  |.sl id off len tot,some new=>match st.H[id]? with
   |some (.cells s rows)=>match tot==rows.length&&decide (off+len<=tot)&&s==sz&&xU st.H sz (y.get G st) with
    |true=>some (.int .i64 (min new.length len:Nat),st.H.set id (.cells s (rows.take off++new.take len++rows.drop (off+min new.length len))),((new.take len).map (wG id)).flatten)
    |false=>none
   |_=>none
  |_,_=>none
 |.call m f args=>xH C st.H m f (args.map (zy.get G st))
 |.callv m x args=>match x.get G st with
  |.fn f caps=>xH C st.H m f (args.map (zy.get G st)++caps)
  |_=>none
 |.extract x i=>match x.get G st with
  |.tup vs=>match vs[i]? with|some v=>some (v,st.H,[])|none=>none
  |_=>none
 |.mkmap=>some (.mp st.H.length,st.H++[.map []],[])
 |.insert tag m k v=>match m.get G st with
  |.mp id=>match st.H[id]? with
   |some (.map es)=>match findKey tag (k.get G st) es with
    |some none=>some (.und,st.H.set id (.map (es++[(k.get G st,v.get G st)])),wG id [k.get G st,v.get G st])
    |_=>none
   |_=>none
  |_=>none
 |.lookup tag zero ok m k=>match Xt st.H (m.get G st) with
  |some es=>match findKey tag (k.get G st) es with
   |some r=>some (zmI zero ok r,st.H,[])
   |none=>none
  |none=>none
 |.prim k x=>match Jg k (x.get G st) with
  |some v=>some (v,st.H,[])
  |none=>none
 |.bstr x=>match zow st.H (x.get G st) with
  |some v=>some (v,st.H,[])
  |none=>none
 |.minmax mx x y=>match mmV mx (x.get G st) (y.get G st) with
  |some v=>some (v,st.H,[])
  |none=>none
 |.indexP n sz x i=>match zbW n sz (x.get G st) (i.get G st) with
  |some v=>some (v,st.H,[])
  |none=>none
 |.fail=>none
def St.put (st:St) (d:Option (Bool×Nat)) (v:PV):St:=
 match d with
 |none=>st
 |some (true,n)=>{ st with per:=st.per.put n v }
 |some (false,n)=>{ st with reg:=st.reg.put n v }
def wanted (G:Nat->Option (List PV)) (st:St) (o:zD):Option Bool:=
 match o.guard with
 |none=>some true
 |some (g,want)=>match g.get G st with
  |.bool b=>some (b==want)
  |.und=>some false
  |_=>none
def zk5:Option zy->List zy
 |none=>[]
 |some x=>[x]
def xq:uU->List zy
 |.copy x|.box x|.load _ _ x|.nilCheck x|.un _ x|.conv _ x|.prim _ x|.bstr x|.fieldA _ x|.field _ _ _ x|.len x|.lenS x|.extract x _=>[x]
 |.pick c a b=>[c,a,b]
 |.alloc _|.mkmap|.fail=>[]
 |.build _ parts=>parts.map (·.2.2)
 |.buildSlice _ _ _ parts=>parts.map (·.2)
 |.store _ a x|.bin _ a x|.eqB _ a x|.eqS _ _ a x|.mkslice _ _ _ a x|.indexA _ a x|.indexP _ _ a x|.minmax _ a x|.indexV _ _ _ a x|.append _ _ a x|.copyS _ a x|.lookup _ _ _ a x=>[a,x]
 |.mkfn _ caps=>caps
 |.slice _ x lo hi|.sliceS x lo hi=>x::(zk5 lo++zk5 hi)
 |.call _ _ args=>args
 |.callv _ x args=>x::args
 |.insert _ m k v=>[m,k,v]
def Ye (G:Nat->Option (List PV)) (st:St):uU->Option (Option Nat)
 |.store _ a _=>match a.get G st with|.ptr id _ _ _=>some (some id)|_=>none
 |.append _ _ x _=>match x.get G st with|.sl id _ _ _=>some (some id)|.nils=>some none|_=>none
 |.copyS _ x _=>match x.get G st with|.sl id _ _ _=>some (some id)|_=>none
 |.insert _ m _ _=>match m.get G st with|.mp id=>some (some id)|_=>none
 |.call m _ _=>match m with|.lend=>some none|_=>none
 |_=>none
def Wt:Option (Option Nat)->PV->Bool
 |some none,_=>true
 |some (some _),.fp _ _=>true
 |some (some t),.ptr id _ _ _=> !(Nat.beq t id)
 |_,_=>false
def XB (G:Nat->Option (List PV)) (st:St) (o:zD):Bool:=
 (!o.still||(xq o.op).all λ x=>(refs (x.get G st)).isEmpty)&&o.clear.all λ x=>Wt (Ye G st o.op) (x.get G st)
def vB (G:Nat->Option (List PV)) (C:Cl) (st:St) (o:zD):Option (PV×zd×zI):=
 match o.still,o.clear with
 |false,[]=>zt G C st o.op
 |s,_=>match XB G st o with
  |true=>match zt G C st o.op with
   |some r=>match !s||(refs r.1).isEmpty with|true=>some r|false=>none
   |none=>none
  |false=>none
def vP (G:Nat->Option (List PV)) (C:Cl):List zD->St->Option St
 |[],st=>some st
 |o::os,st=>match wanted G st o with
  |some true=>match vB G C st o with
   |some (v,H,ed)=>vP G C os (St.put { st with H:=H,ed:=ed++st.ed } o.dst v)
   |none=>none
  |some false=>vP G C os (st.put o.dst .und)
  |none=>none
inductive zp where
 |normal
 |exit (id:Nat)
 |ret
 deriving DecidableEq
def bare (n:Nat) (l:List Nat):Bool:=l.all λ r=>decide (r<n)
def trim (n:Nat) (roots:List PV) (H:zd) (ed:zI):zd×zI:=
 match bare n (zn roots)&&ed.all (λ e=>decide (n<=e.1)||decide (e.2<n)) with
 |true=>(H.take n,ed.filter λ e=>decide (e.2<n))
 |false=>(H,ed)
def St.next (st0 st:St):St:=
 let per:=st.per.take st0.per.length
 let t:=trim st0.H.length (per.map (·.2)) st.H st.ed
 { per:=per,reg:=[],H:=t.1,ed:=t.2 }
def jw.get (st:St):jw->Option PV
 |.tmp n=>some (st.per.get n)
 |.cell n agg sz=>match cellsAt st.H (st.per.get n) with
  |some cs=>yp agg sz cs
  |none=>none
def results (st:St):List jw->Option (List PV)
 |[]=>some []
 |r::rs=>match r.get st,results st rs with
  |some v,some vs=>some (v::vs)
  |_,_=>none
def jG:List PV->PV
 |[v]=>v
 |vs=>.tup vs
def params:Nat->List PV->zk
 |_,[]=>[]
 |n,v::vs=>(n,v)::params (n+1) vs
def Wu (F:zL):Option (zp×St)->Option PV
 |some (.normal,st)|some (.ret,st)=>match results st F.res with
  |some vs=>some (frz 8 st.H (jG vs))
  |none=>none
 |_=>none
def kN (n:Nat) (F:zL):Option (zp×St)->Option (PV×zd×zI)
 |some (.normal,st)|some (.ret,st)=>match results st F.res with
  |some vs=>
   let t:=trim n vs st.H st.ed
   some (jG vs,t.1,t.2)
  |none=>none
 |_=>none
def jE (gone:Bool) (c:zy) (st:St):St:=
 match gone with
 |true=>match c with
  |.per k=>{ st with per:=st.per.erase k }
  |_=>st
 |false=>st
def K5 (H:zd):PV->Option (List (PV×PV))
 |.mp id=>match H[id]? with|some (.map es)=>some es|_=>none
 |_=>none
def vc (pk:Nat) (st:St) (e:PV×PV):St:=
 { per:=zk.put (st.per.map λ p=>(p.1,frz 8 st.H p.2)) pk (.tup [frz 8 st.H e.1,frz 8 st.H e.2]),reg:=[],H:=[],ed:=[] }
def QP:PV->Bool
 |.int .. |.bool _|.str _|.flt .. |.nils|.nilp|.nilf|.nilm=>true
 |_=>false
def Zi (W:List Nat) (st:St):Option (zp×St)->Prop
 |some (.normal,s')=>∀ d∈W,st.per.get d=.unk\/(QP (st.per.get d)=true/\s'.per.get d=st.per.get d)
 |_=>False
def Ki (W:List Nat) (s':St) (n:Nat) (v:PV):PV:=match W.any (Nat.beq n) with
 |true=>match QP (s'.per.get n) with|true=>s'.per.get n|false=>.unk
 |false=>v
def zey (W:List Nat) (st s':St):St:={ st with per:=st.per.map λ p=>(p.1,Ki W s' p.1 p.2),reg:=[] }
def zah (W:List Nat) (st:St) (q:zp×St):Option (zp×St)->Prop
 |some (.ret,s')=>q=(.ret,zey W st s')
 |_=>False
open Classical in
noncomputable def ko (W:List Nat) (st:St) (rs:List (Option (zp×St))):Option (zp×St):=
 if ∀ r∈rs,Zi W st r then some (.normal,{ st with reg:=[] })
 else if h:∃ q,∀ r∈rs,Zi W st r\/zah W st q r then some h.choose
 else none
mutual
noncomputable def ev (P:xn):Nat->AC->St->Option (zp×St)
 |0,_,_=>none
 |n+1,c,st=>match c with
  |.skip=>some (.normal,st)
  |.region _ ops=>match vP P.glob ⟨Z7 P n,Z8 P n⟩ ops { st with reg:=[] } with
   |some st'=>some (.normal,{ st' with reg:=[] })
   |none=>none
  |.seq a b=>match ev P n a st with
   |some (.normal,st')=>ev P n b st'
   |r=>r
  |.cond gone c a b=>match c.get P.glob st with
   |.bool t=>match t with
    |true=>ev P n a (jE gone c st)
    |false=>ev P n b (jE gone c st)
   |_=>none
  |.block id b=>match ev P n b st with
   |some (.exit id',st')=>match Nat.beq id' id with|true=>some (.normal,st')|false=>some (.exit id',st')
   |r=>r
  |.loop b=>match ev P n b st with
   |some (.normal,st')=>ev P n (.loop b) (st.next st')
   |r=>r
  |.exit id=>some (.exit id,st)
  |.ret=>some (.ret,st)
  |.mrange x W pk body=>match K5 st.H (x.get P.glob st) with
   |some es=>ko W st (es.map λ e=>ev P n body (vc pk st e))
   |none=>none
noncomputable def Z7 (P:xn):Nat->Nat->List PV->Option PV
 |0,_,_=>none
 |n+1,f,args=>match P.fn f with
  |none=>none
  |some F=>match F.np==args.length with
   |true=>Wu F (ev P n F.code { per:=params 0 args,reg:=[],H:=[],ed:=[] })
   |false=>none
noncomputable def Z8 (P:xn):Nat->Nat->List PV->zd->Option (PV×zd×zI)
 |0,_,_,_=>none
 |n+1,f,args,H=>match P.fn f with
  |none=>none
  |some F=>match F.np==args.length with
   |true=>kN H.length F (ev P n F.code { per:=params 0 args,reg:=[],H:=H,ed:=[] })
   |false=>none
end
end
section
def Cl.le (C D:Cl):Prop:=(∀ f a v,C.p f a=some v->D.p f a=some v)/\(∀ f a H v,C.s f a H=some v->D.s f a H=some v)
theorem zi8 {C D:Cl} (h:C.le D) {H:zd} {m:zaF} {f:Nat} {args:List PV} {r:PV×zd×zI} (e:xH C H m f args=some r):xH D H m f args=some r:=by
 cases m with
 |pure=>
  unfold xH at *
  cases hc:C.p f (args.map (frz 8 H)) with
  |none=>simp [hc] at e
  |some v=>simp only [hc] at e;simp only [h.1 _ _ _ hc];exact e
 |shared=>exact h.2 _ _ _ _ e
 |lend=>
  unfold xH at *
  cases hc:C.s f (args.map (frz 8 H)) [] with
  |none=>simp [hc] at e
  |some v=>simp only [hc] at e;simp only [h.2 _ _ _ _ hc];exact e
 |fresh=>
  unfold xH at *
  cases hc:C.s f (args.map (frz 8 H)) [] with
  |none=>simp [hc] at e
  |some v=>simp only [hc] at e;simp only [h.2 _ _ _ _ hc];exact e
theorem Z6 (G:Nat->Option (List PV)) (C:Cl) (st:St) (m:zaF) (x:zy) (args:List zy):zt G C st (.callv m x args)=match x.get G st with
  |.fn f caps=>xH C st.H m f (args.map (zy.get G st)++caps)
  |_=>none:=rfl
theorem zuV {G:Nat->Option (List PV)} {C D:Cl} (h:C.le D) {st:St} {op:uU} {r:PV×zd×zI} (e:zt G C st op=some r):zt G D st op=some r:=by
 cases op with
 |call m f args=>exact zi8 h e
 |callv m x args=>
  rw [Z6] at e ⊢
  split at e
  ·exact zi8 h e
  ·cases e
 |_=>exact e
theorem Yp {G:Nat->Option (List PV)} {C:Cl} {st:St} {o:zD} {r:PV×zd×zI}:vB G C st o=some r↔zt G C st o.op=some r/\XB G st o=true/\(o.still=true->refs r.1=[]):=by
 have gen:(match XB G st o with
   |true=>(match zt G C st o.op with
    |some r=>(match !o.still||(refs r.1).isEmpty with|true=>some r|false=>none)
    |none=>none)
   |false=>none)=some r↔zt G C st o.op=some r/\XB G st o=true/\(o.still=true->refs r.1=[]):=by
  cases hok:XB G st o with
  |false=>simp
  |true=>
   cases he:zt G C st o.op with
   |none=>simp
   |some r'=>
    simp only [true_and]
    constructor
    ·intro h
     split at h
     ·rename_i h3
      injection h with h;subst h
      exact ⟨rfl,λ e=>by simpa [e] using h3⟩
     ·cases h
    ·rintro ⟨h3,h4⟩
     injection h3 with h3;subst h3
     split
     ·rfl
     ·rename_i h5
      simp only [Bool.or_eq_false_iff,Bool.not_eq_false'] at h5
      rw [h4 h5.1] at h5
      simp at h5
 obtain ⟨dst,op,guard,still,clear⟩:=o
 cases still
 ·cases clear with
  |nil=>simp [vB,XB]
  |cons c cs=>exact gen
 ·exact gen
theorem zi9 {G:Nat->Option (List PV)} {C D:Cl} (h:C.le D) {st:St} {o:zD} {r:PV×zd×zI} (e:vB G C st o=some r):vB G D st o=some r:=by
 rw [Yp] at *
 exact ⟨zuV h e.1,e.2⟩
theorem Xy {G:Nat->Option (List PV)} {C D:Cl} (h:C.le D):∀ {ops:List zD} {st:St} {r:St},vP G C ops st=some r->vP G D ops st=some r
 |[],_,_,e=>e
 |o::os,st,r,e=>by
  simp only [vP] at e ⊢
  split at e
  ·rename_i hw
   split at e
   ·rename_i v H ed ho
    simp only [zi9 h ho]
    exact Xy h e
   ·cases e
  ·exact Xy h e
  ·cases e
section
variable (P:xn) (n:Nat) (st:St)
theorem zzZ:ev P (n+1) .skip st=some (.normal,st):=rfl
theorem Vh (d:Bool) (ops:List zD):ev P (n+1) (.region d ops) st=match vP P.glob ⟨Z7 P n,Z8 P n⟩ ops { st with reg:=[] } with|some st'=>some (.normal,{ st' with reg:=[] })|none=>none:=rfl
theorem zbS (a b:AC):ev P (n+1) (.seq a b) st=match ev P n a st with|some (.normal,st')=>ev P n b st'|r=>r:=rfl
theorem zer (gone:Bool) (c:zy) (a b:AC):ev P (n+1) (.cond gone c a b) st=match c.get P.glob st with|.bool t=>(match t with|true=>ev P n a (jE gone c st)|false=>ev P n b (jE gone c st))|_=>none:=rfl
theorem zbR (id:Nat) (b:AC):ev P (n+1) (.block id b) st=match ev P n b st with|some (.exit id',st')=>(match Nat.beq id' id with|true=>some (.normal,st')|false=>some (.exit id',st'))|r=>r:=rfl
theorem zes (b:AC):ev P (n+1) (.loop b) st=match ev P n b st with|some (.normal,st')=>ev P n (.loop b) (st.next st')|r=>r:=rfl
theorem zcL (x:zy) (W:List Nat) (pk:Nat) (b:AC):ev P (n+1) (.mrange x W pk b) st=match K5 st.H (x.get P.glob st) with|some es=>ko W st (es.map λ e=>ev P n b (vc pk st e))|none=>none:=rfl
theorem zbP (f:Nat) (args:List PV):Z7 P (n+1) f args=match P.fn f with|none=>none|some F=>(match F.np==args.length with|true=>Wu F (ev P n F.code { per:=params 0 args,reg:=[],H:=[],ed:=[] })|false=>none):=rfl
theorem zbQ (f:Nat) (args:List PV) (H:zd):Z8 P (n+1) f args H=match P.fn f with|none=>none|some F=>(match F.np==args.length with|true=>kN H.length F (ev P n F.code { per:=params 0 args,reg:=[],H:=H,ed:=[] })|false=>none):=rfl
end
theorem Jh {W:List Nat} {st:St} {rs:List (Option (zp×St))} {q:zp×St} (h:ko W st rs=some q):∀ r∈rs,∃ x,r=some x:=by
 have k1:∀ r,Zi W st r->∃ x,r=some x:=λ r hr=>by cases r with|none=>exact hr.elim|some x=>exact ⟨x,rfl⟩
 have k2:∀ q r,zah W st q r->∃ x,r=some x:=λ q r hr=>by cases r with|none=>exact hr.elim|some x=>exact ⟨x,rfl⟩
 unfold ko at h
 split at h
 ·rename_i h1;exact λ r hr=>k1 r (h1 r hr)
 ·split at h
  ·rename_i h2;exact λ r hr=>(h2.choose_spec r hr).elim (k1 r) (k2 _ r)
  ·cases h
theorem zob {W:List Nat} {st:St} {rs:List (Option (zp×St))} {q:zp×St} (h:ko W st rs=some q):((∀ r∈rs,Zi W st r)/\q=(.normal,{ st with reg:=[] }))\/((¬∀ r∈rs,Zi W st r)/\∀ r∈rs,Zi W st r\/zah W st q r):=by
 unfold ko at h
 split at h
 ·rename_i h1;injection h with h;exact .inl ⟨h1,h.symm⟩
 ·rename_i h1
  split at h
  ·rename_i h2;injection h with h;subst h;exact .inr ⟨h1,h2.choose_spec⟩
  ·cases h
theorem zpN {W:List Nat} {st:St} {rs:List (Option (zp×St))} (h:∀ r∈rs,Zi W st r):ko W st rs=some (.normal,{ st with reg:=[] }):=by
 unfold ko;rw [if_pos h]
theorem zpO {W:List Nat} {st:St} {rs:List (Option (zp×St))} {q:zp×St} {r0:Option (zp×St)} (h0:r0∈rs) (h1:zah W st q r0) (h:∀ r∈rs,Zi W st r\/zah W st q r):ko W st rs=some q:=by
 have hn:¬Zi W st r0:=λ hp=>by
  match r0,h1,hp with
  |some (.ret,_),_,hp=>exact hp.elim
 have hx:∃ q,∀ r∈rs,Zi W st r\/zah W st q r:=⟨q,h⟩
 unfold ko
 rw [if_neg λ ha=>hn (ha r0 h0),dif_pos hx]
 have h2:=(hx.choose_spec r0 h0).resolve_left hn
 generalize hx.choose=q' at h2
 match r0,h1,h2 with
 |some (.ret,_),h1,h2=>rw [show q'=q from h2.trans h1.symm]
theorem zpH {α β:Type} {f g:α->Option β} {l:List α} (h:∀ a b,f a=some b->g a=some b) (hs:∀ r∈l.map f,∃ x,r=some x):l.map g=l.map f:=
 bM λ a ha=>by
  obtain ⟨x,hx⟩:=hs (f a) (bU.2 ⟨a,ha,rfl⟩)
  rw [hx];exact h a x hx
theorem UV (P:xn):∀ n,(∀ c st r,ev P n c st=some r->ev P (n+1) c st=some r)/\(∀ f a v,Z7 P n f a=some v->Z7 P (n+1) f a=some v)/\
  (∀ f a H v,Z8 P n f a H=some v->Z8 P (n+1) f a H=some v):=by
 intro n
 induction n with
 |zero=>exact ⟨λ _ _ _ h=>by simp [ev] at h,λ _ _ _ h=>by simp [Z7] at h,λ _ _ _ _ h=>by simp [Z8] at h⟩
 |succ n ih=>
  obtain ⟨i1,i2,i3⟩:=ih
  refine ⟨?_,?_,?_⟩
  ·intro c st r h
   cases c with
   |skip=>exact h
   |region d ops=>
    rw [Vh] at h ⊢
    split at h
    ·rename_i st' hs
     simp only [Xy (D:=⟨Z7 P (n+1),Z8 P (n+1)⟩) ⟨i2,i3⟩ hs]
     exact h
    ·cases h
   |seq a b=>
    rw [zbS] at h ⊢
    cases ha:ev P n a st with
    |none=>simp [ha] at h
    |some x=>
     obtain ⟨e,st'⟩:=x
     rw [i1 _ _ _ ha]
     simp only [ha] at h
     cases e with
     |normal=>exact i1 _ _ _ h
     |_=>exact h
   |cond g x a b=>
    rw [zer] at h ⊢
    split at h
    ·rename_i t ht
     cases t with
     |true=>exact i1 _ _ _ h
     |false=>exact i1 _ _ _ h
    ·cases h
   |block id b=>
    rw [zbR] at h ⊢
    cases hb:ev P n b st with
    |none=>simp [hb] at h
    |some x=>
     obtain ⟨e,st'⟩:=x
     rw [i1 _ _ _ hb]
     simp only [hb] at h
     exact h
   |loop b=>
    rw [zes] at h ⊢
    cases hb:ev P n b st with
    |none=>simp [hb] at h
    |some x=>
     obtain ⟨e,st'⟩:=x
     rw [i1 _ _ _ hb]
     simp only [hb] at h
     cases e with
     |normal=>exact i1 _ _ _ h
     |_=>exact h
   |exit id=>exact h
   |ret=>exact h
   |mrange x W pk b=>
    rw [zcL] at h ⊢
    split at h
    ·rename_i es he
     rw [zpH (λ e r hr=>i1 _ _ _ hr) (Jh h)]
     exact h
    ·cases h
  ·intro f a v h
   rw [zbP] at h ⊢
   cases hf:P.fn f with
   |none=>simp [hf] at h
   |some F=>
    simp only [hf] at h ⊢
    split at h
    ·rename_i hn
     cases hb:ev P n F.code { per:=params 0 a,reg:=[],H:=[],ed:=[] } with
     |none=>simp [hb,Wu] at h
     |some x=>rw [i1 _ _ _ hb];rw [hb] at h;exact h
    ·cases h
  ·intro f a H v h
   rw [zbQ] at h ⊢
   cases hf:P.fn f with
   |none=>simp [hf] at h
   |some F=>
    simp only [hf] at h ⊢
    split at h
    ·rename_i hn
     cases hb:ev P n F.code { per:=params 0 a,reg:=[],H:=H,ed:=[] } with
     |none=>simp [hb,kN] at h
     |some x=>rw [i1 _ _ _ hb];rw [hb] at h;exact h
    ·cases h
theorem zam {α:Type} {f:Nat->Option α} (h:∀ n r,f n=some r->f (n+1)=some r) {n m:Nat} (hnm:n<=m) {r:α} (e:f n=some r):f m=some r:=by
 induction hnm with
 |refl=>exact e
 |step _ ih=>exact h _ _ ih
open Classical in
noncomputable def lim {α:Type} (f:Nat->Option α):Option α:=if h:∃ n r,f n=some r then f h.choose else none
theorem zmH {α:Type} {f:Nat->Option α} (h:∀ n r,f n=some r->f (n+1)=some r) (r:α):lim f=some r↔∃ n,f n=some r:=by
 unfold lim
 constructor
 ·intro e
  split at e
  ·exact ⟨_,e⟩
  ·cases e
 ·rintro ⟨n,hn⟩
  have hx:∃ n r,f n=some r:=⟨n,r,hn⟩
  rw [dif_pos hx]
  obtain ⟨r',hr'⟩:=hx.choose_spec
  rw [hr']
  have h1:=zam h (Nat.le_max_left n hx.choose) hn
  have h2:=zam h (Nat.le_max_right n hx.choose) hr'
  rw [h1] at h2
  exact h2.symm
noncomputable def EV (P:xn) (c:AC) (st:St):Option (zp×St):=lim λ n=>ev P n c st
noncomputable def EP (P:xn) (f:Nat) (args:List PV):Option PV:=lim λ n=>Z7 P n f args
noncomputable def ES (P:xn) (f:Nat) (args:List PV) (H:zd):Option (PV×zd×zI):=lim λ n=>Z8 P n f args H
noncomputable def CL (P:xn):Cl:=⟨EP P,ES P⟩
section
variable {P:xn}
theorem zyX {n:Nat} {c:AC} {st:St} (r:zp×St) (h:ev P n c st=some r):ev P (n+1) c st=some r:=(UV P n).1 _ _ _ h
theorem xO (c:AC) (st:St) (r:zp×St):EV P c st=some r↔∃ n,ev P n c st=some r:=zmH (f:=λ n=>ev P n c st) (λ _ r h=>zyX r h) r
theorem zhg (f:Nat) (a:List PV) (r:PV):EP P f a=some r↔∃ n,Z7 P n f a=some r:=zmH (f:=λ n=>Z7 P n f a) (λ n r h=>(UV P n).2.1 _ _ _ h) r
theorem zdS (f:Nat) (a:List PV) (H:zd) (r:PV×zd×zI):ES P f a H=some r↔∃ n,Z8 P n f a H=some r:=zmH (f:=λ n=>Z8 P n f a H) (λ n r h=>(UV P n).2.2 _ _ _ _ h) r
theorem zcK {n m:Nat} (h:n<=m) {c:AC} {st:St} {r:zp×St} (e:ev P n c st=some r):ev P m c st=some r:=zam (f:=λ n=>ev P n c st) (λ _ r h=>zyX r h) h e
theorem zwM (n:Nat):Cl.le ⟨Z7 P n,Z8 P n⟩ (CL P):=⟨λ _ _ _ h=>(zhg _ _ _).2 ⟨n,h⟩,λ _ _ _ _ h=>(zdS _ _ _ _).2 ⟨n,h⟩⟩
theorem zox {n m:Nat} (h:n<=m):Cl.le ⟨Z7 P n,Z8 P n⟩ ⟨Z7 P m,Z8 P m⟩:=
 ⟨λ f a v e=>zam (f:=λ n=>Z7 P n f a) (λ n r h=>(UV P n).2.1 _ _ _ h) h e,λ f a H v e=>zam (f:=λ n=>Z8 P n f a H) (λ n r h=>(UV P n).2.2 _ _ _ _ h) h e⟩
theorem zi7 {H:zd} {m:zaF} {f:Nat} {args:List PV} {r:PV×zd×zI} (e:xH (CL P) H m f args=some r):∃ n,xH ⟨Z7 P n,Z8 P n⟩ H m f args=some r:=by
 cases m with
 |pure=>
  unfold xH at *
  cases hc:(CL P).p f (args.map (frz 8 H)) with
  |none=>simp [hc] at e
  |some v=>
   obtain ⟨n,hn⟩:=(zhg _ _ _).1 hc
   refine ⟨n,?_⟩
   simp only [hc] at e
   simp only [hn]
   exact e
 |shared=>exact (zdS _ _ _ _).1 e
 |lend=>
  unfold xH at *
  cases hc:(CL P).s f (args.map (frz 8 H)) [] with
  |none=>simp [hc] at e
  |some v=>
   obtain ⟨n,hn⟩:=(zdS _ _ _ _).1 hc
   refine ⟨n,?_⟩
   simp only [hc] at e
   simp only [hn]
   exact e
 |fresh=>
  unfold xH at *
  cases hc:(CL P).s f (args.map (frz 8 H)) [] with
  |none=>simp [hc] at e
  |some v=>
   obtain ⟨n,hn⟩:=(zdS _ _ _ _).1 hc
   refine ⟨n,?_⟩
   simp only [hc] at e
   simp only [hn]
   exact e
theorem zuU {G:Nat->Option (List PV)} {st:St} {op:uU} {r:PV×zd×zI} (e:zt G (CL P) st op=some r):∃ n,zt G ⟨Z7 P n,Z8 P n⟩ st op=some r:=by
 cases op with
 |call m f args=>exact zi7 e
 |callv m x args=>
  rw [Z6] at e
  simp only [Z6]
  split at e
  ·exact zi7 e
  ·cases e
 |_=>exact ⟨0,e⟩
theorem zq5 {G:Nat->Option (List PV)} {st:St} {o:zD} {r:PV×zd×zI} (e:vB G (CL P) st o=some r):∃ n,vB G ⟨Z7 P n,Z8 P n⟩ st o=some r:=by
 rw [Yp] at e
 obtain ⟨n,hn⟩:=zuU e.1
 exact ⟨n,Yp.2 ⟨hn,e.2⟩⟩
theorem zfT {G:Nat->Option (List PV)}:∀ {ops:List zD} {st:St} {r:St},vP G (CL P) ops st=some r->∃ n,vP G ⟨Z7 P n,Z8 P n⟩ ops st=some r
 |[],_,_,e=>⟨0,e⟩
 |o::os,st,r,e=>by
  simp only [vP] at e ⊢
  split at e
  ·rename_i hw
   split at e
   ·rename_i v H ed ho
    obtain ⟨n,hn⟩:=zq5 ho
    obtain ⟨m,hm⟩:=zfT e
    refine ⟨max n m,?_⟩
    simp only [zi9 (zox (Nat.le_max_left n m)) hn]
    exact Xy (zox (Nat.le_max_right n m)) hm
   ·cases e
  ·exact zfT e
  ·cases e
theorem Kh {α:Type} {a b:Option α} (h1:∀ r,a=some r->b=some r) (h2:∀ r,b=some r->a=some r):a=b:=by
 cases a with
 |none=>cases b with
  |none=>rfl
  |some y=>exact h2 y rfl
 |some x=>exact (h1 x rfl).symm
theorem zzb (st:St):EV P .skip st=some (.normal,st):=(xO _ _ _).2 ⟨1,rfl⟩
theorem zza (id:Nat) (st:St):EV P (.exit id) st=some (.exit id,st):=(xO _ _ _).2 ⟨1,rfl⟩
theorem zBi (st:St):EV P .ret st=some (.ret,st):=(xO _ _ _).2 ⟨1,rfl⟩
theorem zt2 (d:Bool) (ops:List zD) (st:St):EV P (.region d ops) st=match vP P.glob (CL P) ops { st with reg:=[] } with|some st'=>some (.normal,{ st' with reg:=[] })|none=>none:=by
 refine Kh (λ r h=>?_) (λ r h=>?_)
 ·obtain ⟨n,hn⟩:=(xO _ _ _).1 h
  cases n with
  |zero=>simp [ev] at hn
  |succ n=>
   rw [Vh] at hn
   split at hn
   ·rename_i st' hs
    rw [Xy (zwM n) hs]
    exact hn
   ·cases hn
 ·split at h
  ·rename_i st' hs
   obtain ⟨n,hn⟩:=zfT hs
   refine (xO _ _ _).2 ⟨n+1,?_⟩
   rw [Vh];simp only [hn]
   exact h
  ·cases h
theorem zBj (a b:AC) (st:St):EV P (.seq a b) st=match EV P a st with|some (.normal,st')=>EV P b st'|r=>r:=by
 refine Kh (λ r h=>?_) (λ r h=>?_)
 ·obtain ⟨n,hn⟩:=(xO _ _ _).1 h
  cases n with
  |zero=>simp [ev] at hn
  |succ n=>
   rw [zbS] at hn
   cases ha:ev P n a st with
   |none=>simp [ha] at hn
   |some x=>
    obtain ⟨e,st'⟩:=x
    rw [(xO _ _ _).2 ⟨n,ha⟩]
    simp only [ha] at hn
    cases e with
    |normal=>exact (xO _ _ _).2 ⟨n,hn⟩
    |_=>exact hn
 ·cases ha:EV P a st with
  |none=>simp [ha] at h
  |some x=>
   obtain ⟨e,st'⟩:=x
   obtain ⟨n,hn⟩:=(xO _ _ _).1 ha
   simp only [ha] at h
   cases e with
   |normal=>
    obtain ⟨m,hm⟩:=(xO _ _ _).1 h
    refine (xO _ _ _).2 ⟨max n m+1,?_⟩
    rw [zbS];simp only [zcK (Nat.le_max_left n m) hn]
    exact zcK (Nat.le_max_right n m) hm
   |_=>
    refine (xO _ _ _).2 ⟨n+1,?_⟩
    rw [zbS];simp only [hn]
    exact h
theorem zy' (gone:Bool) (c:zy) (a b:AC) (st:St):EV P (.cond gone c a b) st=match c.get P.glob st with|.bool t=>(match t with|true=>EV P a (jE gone c st)|false=>EV P b (jE gone c st))|_=>none:=by
 refine Kh (λ r h=>?_) (λ r h=>?_)
 ·obtain ⟨n,hn⟩:=(xO _ _ _).1 h
  cases n with
  |zero=>simp [ev] at hn
  |succ n=>
   rw [zer] at hn
   split at hn
   ·rename_i t ht
    cases t with
    |true=>exact (xO _ _ _).2 ⟨n,hn⟩
    |false=>exact (xO _ _ _).2 ⟨n,hn⟩
   ·cases hn
 ·split at h
  ·rename_i t ht
   cases t with
   |true=>
    obtain ⟨n,hn⟩:=(xO _ _ _).1 h
    refine (xO _ _ _).2 ⟨n+1,?_⟩
    rw [zer];simp only [ht]
    exact hn
   |false=>
    obtain ⟨n,hn⟩:=(xO _ _ _).1 h
    refine (xO _ _ _).2 ⟨n+1,?_⟩
    rw [zer];simp only [ht]
    exact hn
  ·cases h
theorem zwk (id:Nat) (b:AC) (st:St):EV P (.block id b) st=match EV P b st with|some (.exit id',st')=>(match Nat.beq id' id with|true=>some (.normal,st')|false=>some (.exit id',st'))|r=>r:=by
 refine Kh (λ r h=>?_) (λ r h=>?_)
 ·obtain ⟨n,hn⟩:=(xO _ _ _).1 h
  cases n with
  |zero=>simp [ev] at hn
  |succ n=>
   rw [zbR] at hn
   cases ha:ev P n b st with
   |none=>simp [ha] at hn
   |some x=>
    rw [(xO _ _ _).2 ⟨n,ha⟩]
    simp only [ha] at hn
    exact hn
 ·cases ha:EV P b st with
  |none=>simp [ha] at h
  |some x=>
   obtain ⟨n,hn⟩:=(xO _ _ _).1 ha
   simp only [ha] at h
   refine (xO _ _ _).2 ⟨n+1,?_⟩
   rw [zbR];simp only [hn]
   exact h
theorem zt1 (x:zy) (W:List Nat) (pk:Nat) (b:AC) (st:St):EV P (.mrange x W pk b) st=match K5 st.H (x.get P.glob st) with|some es=>ko W st (es.map λ e=>EV P b (vc pk st e))|none=>none:=by
 have lift:∀ (es:List (PV×PV)),(∀ r∈es.map (λ e=>EV P b (vc pk st e)),∃ x,r=some x)->∃ n,es.map (λ e=>ev P n b (vc pk st e))=es.map (λ e=>EV P b (vc pk st e)):=by
  intro es
  induction es with
  |nil=>exact λ _=>⟨0,rfl⟩
  |cons e es ih=>
   intro h
   obtain ⟨n,hn⟩:=ih λ r hr=>h r (bL _ hr)
   obtain ⟨q,hq⟩:=h (EV P b (vc pk st e)) (by simp)
   obtain ⟨m,hm⟩:=(xO _ _ _).1 hq
   refine ⟨max n m,?_⟩
   rw [aM,aM,hq,zcK (Nat.le_max_right n m) hm]
   congr 1
   have hs:∀ r∈es.map (λ e=>ev P n b (vc pk st e)),∃ x,r=some x:=λ r hr=>by
    rw [hn] at hr
    exact h r (bL _ hr)
   rw [<-hn]
   exact zpH (λ e r hr=>zcK (Nat.le_max_left n m) hr) hs
 refine Kh (λ r h=>?_) (λ r h=>?_)
 ·obtain ⟨n,hn⟩:=(xO _ _ _).1 h
  cases n with
  |zero=>simp [ev] at hn
  |succ n=>
   rw [zcL] at hn
   split at hn
   ·rename_i es he
    try simp only [he]
    rw [zpH (λ e r hr=>(xO _ _ _).2 ⟨n,hr⟩) (Jh hn)]
    exact hn
   ·cases hn
 ·split at h
  ·rename_i es he
   obtain ⟨n,hn⟩:=lift es (Jh h)
   refine (xO _ _ _).2 ⟨n+1,?_⟩
   rw [zcL]
   simp only [he]
   rw [hn];exact h
  ·cases h
theorem uK (b:AC) (st:St):EV P (.loop b) st=match EV P b st with|some (.normal,st')=>EV P (.loop b) (st.next st')|r=>r:=by
 refine Kh (λ r h=>?_) (λ r h=>?_)
 ·obtain ⟨n,hn⟩:=(xO _ _ _).1 h
  cases n with
  |zero=>simp [ev] at hn
  |succ n=>
   rw [zes] at hn
   cases ha:ev P n b st with
   |none=>simp [ha] at hn
   |some x=>
    obtain ⟨e,st'⟩:=x
    rw [(xO _ _ _).2 ⟨n,ha⟩]
    simp only [ha] at hn
    cases e with
    |normal=>exact (xO _ _ _).2 ⟨n,hn⟩
    |_=>exact hn
 ·cases ha:EV P b st with
  |none=>simp [ha] at h
  |some x=>
   obtain ⟨e,st'⟩:=x
   obtain ⟨n,hn⟩:=(xO _ _ _).1 ha
   simp only [ha] at h
   cases e with
   |normal=>
    obtain ⟨m,hm⟩:=(xO _ _ _).1 h
    refine (xO _ _ _).2 ⟨max n m+1,?_⟩
    rw [zes];simp only [zcK (Nat.le_max_left n m) hn]
    exact zcK (Nat.le_max_right n m) hm
   |_=>
    refine (xO _ _ _).2 ⟨n+1,?_⟩
    rw [zes];simp only [hn]
    exact h
theorem zCW {f:Nat} {args:List PV} {F:zL} (hf:P.fn f=some F) (hn:F.np=args.length):EP P f args=Wu F (EV P F.code { per:=params 0 args,reg:=[],H:=[],ed:=[] }):=by
 refine Kh (λ r h=>?_) (λ r h=>?_)
 ·obtain ⟨n,hn'⟩:=(zhg _ _ _).1 h
  cases n with
  |zero=>simp [Z7] at hn'
  |succ n=>
   rw [zbP] at hn';simp only [hf,hn,beq_self_eq_true] at hn'
   cases hb:ev P n F.code { per:=params 0 args,reg:=[],H:=[],ed:=[] } with
   |none=>simp [hb,Wu] at hn'
   |some x=>rw [(xO _ _ _).2 ⟨n,hb⟩];rw [hb] at hn';exact hn'
 ·cases hb:EV P F.code { per:=params 0 args,reg:=[],H:=[],ed:=[] } with
  |none=>simp [hb,Wu] at h
  |some x=>
   obtain ⟨n,hn'⟩:=(xO _ _ _).1 hb
   refine (zhg _ _ _).2 ⟨n+1,?_⟩
   rw [zbP];simp only [hf,hn,beq_self_eq_true,hn']
   rw [hb] at h
   exact h
theorem zCX {f:Nat} {args:List PV} {H:zd} {F:zL} (hf:P.fn f=some F) (hn:F.np=args.length):ES P f args H=kN H.length F (EV P F.code { per:=params 0 args,reg:=[],H:=H,ed:=[] }):=by
 refine Kh (λ r h=>?_) (λ r h=>?_)
 ·obtain ⟨n,hn'⟩:=(zdS _ _ _ _).1 h
  cases n with
  |zero=>simp [Z8] at hn'
  |succ n=>
   rw [zbQ] at hn';simp only [hf,hn,beq_self_eq_true] at hn'
   cases hb:ev P n F.code { per:=params 0 args,reg:=[],H:=H,ed:=[] } with
   |none=>simp [hb,kN] at hn'
   |some x=>rw [(xO _ _ _).2 ⟨n,hb⟩];rw [hb] at hn';exact hn'
 ·cases hb:EV P F.code { per:=params 0 args,reg:=[],H:=H,ed:=[] } with
  |none=>simp [hb,kN] at h
  |some x=>
   obtain ⟨n,hn'⟩:=(xO _ _ _).1 hb
   refine (zdS _ _ _ _).2 ⟨n+1,?_⟩
   rw [zbQ];simp only [hf,hn,beq_self_eq_true,hn']
   rw [hb] at h
   exact h
end
end
theorem zbo {w w':World} (a:Addr) (h:w'.heap[a.block]?=w.heap[a.block]?):w'.frozen? a=w.frozen? a:=by simp only [World.frozen?,h]
theorem zmB (w:World) (g:Nat) (cs:Array Value) (a:Addr):(w.setRow g cs).frozen? a=w.frozen? a:=by
 simp only [World.frozen?,World.setRow,Array.getElem?_modify]
 by_cases h:g=a.block
 ·subst h
  rw [if_pos rfl]
  cases hh:w.heap[a.block]? with
  |none=>rfl
  |some o=>cases o<;>rfl
 ·rw [if_neg h]
theorem zmA (w:World) (g:Nat) (es:Array MapEntry) (clock:Nat) {es0:Array MapEntry} {c0:Nat} (hg:w.heap[g]?=some (.map es0 c0)) (a:Addr):({ w with heap:=w.heap.setIfInBounds g (.map es clock) }:World).frozen? a=w.frozen? a:=by
 by_cases h:g=a.block
 ·subst h
  have hlt:=(cO.1 hg).1
  simp [World.frozen?,hlt,hg]
  have:=(cO.1 hg).2
  simp [this]
 ·exact zbo a (cU h)
theorem ziM (w:World) (es:Array MapEntry) (clock:Nat) (a:Addr):(w.alloc (.map es clock)).frozen? a=w.frozen? a:=by
 by_cases h:a.block=w.heap.size
 ·have e1:(w.alloc (.map es clock)).heap[a.block]?=some (.map es clock):=by show (w.heap.push _)[_]?=_;rw [h];simp
  have e2:w.heap[a.block]?=none:=by rw [h];simp
  simp [World.frozen?,e1,e2]
 ·exact zbo a (by show (w.heap.push _)[_]?=_;simp [dJ,h])
inductive Loc where
 |unk
 |virt
 |at_ (blk off cap sz:Nat)
abbrev zR:=Nat->Loc
def zu (H:zd) (id:Nat):Nat:=match H[id]? with|some (.cells _ rows)=>rows.length|_=>0
inductive RelF (w:World) (F:Nat->Prop):PV->Value->Prop
 |unk (v:Value):RelF w F .unk v
 |und:RelF w F .und undef
 |int (k:IntKind) (n:Int):RelF w F (.int k n) (.int k n)
 |bool (b:Bool):RelF w F (.bool b) (.bool b)
 |str (s:ByteArray):RelF w F (.str s) (.string s)
 |flt (k:FloatKind) (n:Nat):RelF w F (.flt k n) (.float k n)
 |nils:RelF w F .nils (.slice none 0 0)
 |nilp:RelF w F .nilp (.pointer none)
 |nilf:RelF w F .nilf .nilFunc
 |nilm:RelF w F .nilm (.map none)
 |agg (cs:List PV) (vs:List Value) (hl:vs.length=cs.length) (h1:∀ v∈vs,v.oneCell'=true) (h:∀ (i:Nat) (p:PV) (v:Value),cs[i]?=some p->vs[i]?=some v->RelF w F p v):RelF w F (.agg cs) (.agg vs.toArray)
 |tup (cs:List PV) (vs:List Value) (hl:vs.length=cs.length) (h:∀ (i:Nat) (p:PV) (v:Value),cs[i]?=some p->vs[i]?=some v->RelF w F p v):RelF w F (.tup cs) (.tuple vs.toArray)
 |fzNil (b:Option Addr) (c:Nat):RelF w F (.fz []) (.slice b 0 c)
 |fz (rows:List (List PV)) (blk off s cap:Nat) (f:Nat->Nat->Value) (hF:F blk) (hs:∀ (i:Nat) (r:List PV),rows[i]?=some r->r.length=s) (hc:rows.length<=cap)
   (h1:∀ (i:Nat) (r:List PV) (j:Nat) (p:PV),rows[i]?=some r->r[j]?=some p->(f i j).oneCell'=true) (hw:∀ (i:Nat) (r:List PV) (j:Nat) (p:PV),rows[i]?=some r->r[j]?=some p->w.cell? ⟨blk,off+i*s+j,none⟩=some (f i j))
   (h:∀ (i:Nat) (r:List PV) (j:Nat) (p:PV),rows[i]?=some r->r[j]?=some p->RelF w F p (f i j)):RelF w F (.fz rows) (.slice (some ⟨blk,off,none⟩) rows.length cap)
 |fp (cs:List PV) (blk o off:Nat) (f:Nat->Value) (hF:F blk) (h1:∀ (j:Nat) (p:PV),cs[j]?=some p->(f j).oneCell'=true) (hw:∀ (j:Nat) (p:PV),cs[j]?=some p->w.cell? ⟨blk,o+j,none⟩=some (f j))
   (h:∀ (j:Nat) (p:PV),cs[j]?=some p->RelF w F p (f j)):RelF w F (.fp cs off) (.pointer (some ⟨blk,o+off,none⟩))
 |fn (f:Nat) (cs:List PV) (vs:List Value) (hl:vs.length=cs.length) (h:∀ (i:Nat) (p:PV) (v:Value),cs[i]?=some p->vs[i]?=some v->RelF w F p v):RelF w F (.fn f cs) (.func (.func f) #[] vs.toArray)
 |fm (es es':List (PV×PV)) (r:Nat) (xs:List MapEntry) (clock:Nat) (hK:∀ (tag:Nat) (k:PV) (q:Option PV),findKey tag k es=some q->findKey tag k es'=some q) (hF:F r) (hw:w.heap[r]?=some (.map xs.toArray clock)) (hl:xs.length=es'.length)
   (hk:∀ (i:Nat) (e:PV×PV) (x:MapEntry),es'[i]?=some e->xs[i]?=some x->RelF w F e.1 x.key) (hv:∀ (i:Nat) (e:PV×PV) (x:MapEntry),es'[i]?=some e->xs[i]?=some x->RelF w F e.2 x.val):RelF w F (.fm es) (.map (some r))
inductive zo (w:World) (F:Nat->Prop) (m:zR) (L:Nat->Nat):PV->Value->Prop
 |froz (p:PV) (v:Value) (h:RelF w F p v):zo w F m L p v
 |agg (cs:List PV) (vs:List Value) (hl:vs.length=cs.length) (h1:∀ v∈vs,v.oneCell'=true) (h:∀ (i:Nat) (p:PV) (v:Value),cs[i]?=some p->vs[i]?=some v->zo w F m L p v):zo w F m L (.agg cs) (.agg vs.toArray)
 |tup (cs:List PV) (vs:List Value) (hl:vs.length=cs.length) (h:∀ (i:Nat) (p:PV) (v:Value),cs[i]?=some p->vs[i]?=some v->zo w F m L p v):zo w F m L (.tup cs) (.tuple vs.toArray)
 |fn (f:Nat) (cs:List PV) (vs:List Value) (hl:vs.length=cs.length) (h:∀ (i:Nat) (p:PV) (v:Value),cs[i]?=some p->vs[i]?=some v->zo w F m L p v):zo w F m L (.fn f cs) (.func (.func f) #[] vs.toArray)
 |sl (id off len tot blk o cap s:Nat) (b:Addr) (hm:m id=.at_ blk o cap s) (hL:L id=tot) (ht:off+len<=tot) (hc:tot<=cap) (hb:cap=off\/b=⟨blk,o+off*s,none⟩):
   zo w F m L (.sl id off len tot) (.slice (some b) len (cap-off))
 |slVirt (id:Nat) (hm:m id=.virt) (hL:L id=0):zo w F m L (.sl id 0 0 0) (.slice none 0 0)
 |slOld (id off len tot:Nat) (b:Option Addr) (c:Nat) (hm:m id≠.unk) (hL:tot<L id) (hc:len<=c):zo w F m L (.sl id off len tot) (.slice b len c)
 |ptr (id row off tot blk o cap s:Nat) (hm:m id=.at_ blk o cap s) (hL:L id=tot):zo w F m L (.ptr id row off tot) (.pointer (some ⟨blk,o+row*s+off,none⟩))
 |ptrOld (id row off tot:Nat) (a:Addr) (hm:m id≠.unk) (hL:tot<L id):zo w F m L (.ptr id row off tot) (.pointer (some a))
 |mp (id blk:Nat) (hm:m id=.at_ blk 0 0 0) (hL:L id=0):zo w F m L (.mp id) (.map (some blk))
 |mpOld (id:Nat) (r:Option Nat) (hm:m id≠.unk) (hL:0<L id):zo w F m L (.mp id) (.map r)
structure u9 (w:World) (R:PV->Value->Prop) (blk o cap s:Nat) (rows:List (List PV)):Prop where
 room:rows.length<=cap
 cur:∃ (cur:Array Value) (t:TypeId),w.heap[blk]?=some (.cells cur t (0,0))/\o+cap*s<=cur.size/\
  ∀ (i:Nat) (r:List PV) (j:Nat) (p:PV),rows[i]?=some r->r[j]?=some p->∃ v,cur[o+i*s+j]?=some v/\v.oneCell'=true/\R p v
 size:∀ (i:Nat) (r:List PV),rows[i]?=some r->r.length=s
structure zfE (w:World) (R:PV->Value->Prop) (blk:Nat) (es:List (PV×PV)):Prop where
 cur:∃ (xs:List MapEntry) (clock:Nat),w.heap[blk]?=some (.map xs.toArray clock)/\xs.length=es.length/\
  (∀ (i:Nat) (e:PV×PV) (x:MapEntry),es[i]?=some e->xs[i]?=some x->R e.1 x.key)/\(∀ (i:Nat) (e:PV×PV) (x:MapEntry),es[i]?=some e->xs[i]?=some x->R e.2 x.val)
 born:∀ (xs:Array MapEntry) (clock:Nat),w.heap[blk]?=some (.map xs clock)->(xs.toList.map (·.born)).Nodup/\∀ x∈xs.toList,x.born<clock
def zR.has (m:zR) (b:Nat):Prop:=∃ id o c s,m id=.at_ b o c s
structure yl (G:Nat->Option (List PV)) (w:World) (F:Nat->Prop) (m:zR) (H:zd):Prop where
 cells:∀ id s rows,H[id]?=some (.cells s rows)->m id=.unk\/(m id=.virt/\rows=[])\/∃ blk o cap,m id=.at_ blk o cap s/\u9 w (zo w F m (zu H)) blk o cap s rows
 maps:∀ id es,H[id]?=some (.map es)->m id=.unk\/∃ blk,m id=.at_ blk 0 0 0/\zfE w (zo w F m (zu H)) blk es
 fresh:∀ id,H.length<=id->m id=.unk
 inj:∀ id id' b o c s o' c' s',m id=.at_ b o c s->m id'=.at_ b o' c' s'->id=id'
 lt:∀ b,m.has b->b<w.heap.size
 ltF:∀ b,F b->b<w.heap.size
 apart:∀ b,m.has b->¬ F b
 glob:∀ g cs,G g=some cs->RelF w F (.fp cs 0) (.pointer (some ⟨g,0,none⟩))
structure wq (w:World) (F:Nat->Prop) (m:zR) (H:zd) (w':World) (F':Nat->Prop) (m':zR) (H':zd):Prop where
 heap:w.heap.size<=w'.heap.size
 sub:∀ b,F b->F' b
 new:∀ b,F' b->F b\/w.heap.size<=b
 old:∀ b,b<w.heap.size->¬ m.has b->w'.heap[b]?=w.heap[b]?
 locs:∀ id,m id≠.unk->m' id≠.unk/\zu H id<=zu H' id/\(zu H' id=zu H id->m' id=m id)
 img:∀ b,m'.has b->m.has b\/w.heap.size<=b
 os:w'.os=w.os
 tape:w'.tape=w.tape
 output:w'.output=w.output
 froz:∀ a,w'.frozen? a=w.frozen? a
 len:H.length<=H'.length
 fresh:∀ id,m id=.unk->m' id≠.unk->H.length<=id
theorem RelF.mono {w w':World} {F F':Nat->Prop} (hh:∀ b,F b->w'.heap[b]?=w.heap[b]?) (hF:∀ b,F b->F' b) {p:PV} {v:Value} (h:RelF w F p v):RelF w' F' p v:=by
 have hcell:∀ b o,F b->w'.cell? ⟨b,o,none⟩=w.cell? ⟨b,o,none⟩:=λ b o hb=>by simp only [World.cell?,hh b hb]
 induction h with
 |unk v=>exact .unk v
 |und=>exact .und
 |int k n=>exact .int k n
 |bool b=>exact .bool b
 |str s=>exact .str s
 |flt k n=>exact .flt k n
 |nils=>exact .nils
 |nilp=>exact .nilp
 |nilf=>exact .nilf
 |nilm=>exact .nilm
 |agg cs vs hl h1 h ih=>exact .agg cs vs hl h1 ih
 |tup cs vs hl h ih=>exact .tup cs vs hl ih
 |fzNil b c=>exact .fzNil b c
 |fz rows blk off s cap f hb hs hc h1 hw h ih=>exact .fz rows blk off s cap f (hF _ hb) hs hc h1 (λ i r j p hi hj=>(hcell _ _ hb).trans (hw i r j p hi hj)) ih
 |fp cs blk o off f hb h1 hw h ih=>exact .fp cs blk o off f (hF _ hb) h1 (λ j p hj=>(hcell _ _ hb).trans (hw j p hj)) ih
 |fn f cs vs hl h ih=>exact .fn f cs vs hl ih
 |fm es es' r xs clock hK hb hw hl hk hv ik iv=>exact .fm es es' r xs clock hK (hF _ hb) ((hh _ hb).trans hw) hl ik iv
theorem zo.mono {w w':World} {F F':Nat->Prop} {m m':zR} {L L':Nat->Nat} (hh:∀ b,F b->w'.heap[b]?=w.heap[b]?) (hF:∀ b,F b->F' b)
  (hm:∀ id,m id≠.unk->m' id≠.unk/\L id<=L' id/\(L' id=L id->m' id=m id)) {p:PV} {v:Value} (h:zo w F m L p v):zo w' F' m' L' p v:=by
 induction h with
 |froz p v h=>exact .froz p v (h.mono hh hF)
 |agg cs vs hl h1 h ih=>exact .agg cs vs hl h1 ih
 |tup cs vs hl h ih=>exact .tup cs vs hl ih
 |fn f cs vs hl h ih=>exact .fn f cs vs hl ih
 |sl id off len tot blk o cap s b hm' hL ht hc hb=>
  obtain ⟨h1,h2,h3⟩:=hm id (by rw [hm'];simp)
  by_cases e:L' id=L id
  ·exact .sl id off len tot blk o cap s b ((h3 e).trans hm') (e.trans hL) ht hc hb
  ·exact .slOld id off len tot _ _ h1 (by omega) (by omega)
 |slVirt id hm' hL=>
  obtain ⟨h1,h2,h3⟩:=hm id (by rw [hm'];simp)
  by_cases e:L' id=L id
  ·exact .slVirt id ((h3 e).trans hm') (e.trans hL)
  ·exact .slOld id 0 0 0 _ _ h1 (by omega) (by omega)
 |slOld id off len tot b c hm' hL hc=>
  obtain ⟨h1,h2,h3⟩:=hm id hm'
  exact .slOld id off len tot b c h1 (by omega) hc
 |ptr id row off tot blk o cap s hm' hL=>
  obtain ⟨h1,h2,h3⟩:=hm id (by rw [hm'];simp)
  by_cases e:L' id=L id
  ·exact .ptr id row off tot blk o cap s ((h3 e).trans hm') (e.trans hL)
  ·exact .ptrOld id row off tot _ h1 (by omega)
 |ptrOld id row off tot a hm' hL=>
  obtain ⟨h1,h2,h3⟩:=hm id hm'
  exact .ptrOld id row off tot a h1 (by omega)
 |mp id blk hm' hL=>
  obtain ⟨h1,h2,h3⟩:=hm id (by rw [hm'];simp)
  by_cases e:L' id=L id
  ·exact .mp id blk ((h3 e).trans hm') (e.trans hL)
  ·exact .mpOld id _ h1 (by omega)
 |mpOld id r hm' hL=>
  obtain ⟨h1,h2,h3⟩:=hm id hm'
  exact .mpOld id r h1 (by omega)
def zR.put (m:zR) (id:Nat) (l:Loc):zR:=λ j=>if j=id then l else m j
theorem zR.put_same (m:zR) (id:Nat) (l:Loc):m.put id l id=l:=by simp [zR.put]
theorem zR.put_other (m:zR) {id j:Nat} (l:Loc) (h:j≠id):m.put id l j=m j:=by simp [zR.put,h]
theorem kI {H:zd} {id s:Nat} {rows:List (List PV)} (h:H[id]?=some (.cells s rows)):zu H id=rows.length:=by simp [zu,h]
theorem zbZ {H:zd} {id:Nat} {es:List (PV×PV)} (h:H[id]?=some (.map es)):zu H id=0:=by simp [zu,h]
theorem zkV {H H':zd} {id:Nat} (h:H'[id]?=H[id]?):zu H' id=zu H id:=by simp [zu,h]
theorem u9.mono {w w':World} {R R':PV->Value->Prop} {blk o cap s:Nat} {rows:List (List PV)} (h:u9 w R blk o cap s rows) (hw:w'.heap[blk]?=w.heap[blk]?) (hR:∀ p v,R p v->R' p v):u9 w' R' blk o cap s rows:=by
 obtain ⟨h1,⟨cur,t,h2,h3,h4⟩,h5⟩:=h
 exact ⟨h1,⟨cur,t,hw.trans h2,h3,λ i r j p hi hj=>let ⟨v,e1,e2,e3⟩:=h4 i r j p hi hj;⟨v,e1,e2,hR _ _ e3⟩⟩,h5⟩
theorem zfE.mono {w w':World} {R R':PV->Value->Prop} {blk:Nat} {es:List (PV×PV)} (h:zfE w R blk es) (hw:w'.heap[blk]?=w.heap[blk]?) (hR:∀ p v,R p v->R' p v):zfE w' R' blk es:=by
 obtain ⟨⟨xs,clock,h2,h3,h4,h5⟩,hb⟩:=h
 exact ⟨⟨xs,clock,hw.trans h2,h3,λ i e x hi hj=>hR _ _ (h4 i e x hi hj),λ i e x hi hj=>hR _ _ (h5 i e x hi hj)⟩,λ ys c e=>hb ys c (hw.symm.trans e)⟩
theorem yl.heapF {G:Nat->Option (List PV)} {w:World} {F:Nat->Prop} {m:zR} {H:zd} (R:yl G w F m H) {w':World} {F':Nat->Prop} {m':zR} {K K':zd} (g:wq w F m K w' F' m' K') {b:Nat} (hb:F b):w'.heap[b]?=w.heap[b]?:=
 g.old b (R.ltF b hb) (λ h=>R.apart b h hb)
theorem zo.grow {G:Nat->Option (List PV)} {w:World} {F:Nat->Prop} {m:zR} {H:zd} (R:yl G w F m H) {w':World} {F':Nat->Prop} {m':zR} {H':zd} (g:wq w F m H w' F' m' H') {p:PV} {v:Value} (h:zo w F m (zu H) p v):zo w' F' m' (zu H') p v:=
 h.mono (λ b hb=>R.heapF g hb) g.sub g.locs
theorem RelF.grow {G:Nat->Option (List PV)} {w:World} {F:Nat->Prop} {m:zR} {H:zd} (R:yl G w F m H) {w':World} {F':Nat->Prop} {m':zR} {K K':zd} (g:wq w F m K w' F' m' K') {p:PV} {v:Value} (h:RelF w F p v):RelF w' F' p v:=
 h.mono (λ b hb=>R.heapF g hb) g.sub
theorem wq.refl (w:World) (F:Nat->Prop) (m:zR) (H:zd):wq w F m H w F m H:=
 ⟨aS _,λ _ h=>h,λ _ h=>.inl h,λ _ _ _=>rfl,λ _ h=>⟨h,aS _,λ _=>rfl⟩,λ _ h=>.inl h,rfl,rfl,rfl,λ _=>rfl,aS _,λ _ h1 h2=>absurd h1 h2⟩
theorem wq.trans {w w1 w2:World} {F F1 F2:Nat->Prop} {m m1 m2:zR} {H H1 H2:zd} (a:wq w F m H w1 F1 m1 H1) (b:wq w1 F1 m1 H1 w2 F2 m2 H2):wq w F m H w2 F2 m2 H2:=by
 refine ⟨dI a.heap b.heap,λ x h=>b.sub x (a.sub x h),λ x h=>?_,λ x h1 h2=>?_,λ id h=>?_,λ x h=>?_,b.os.trans a.os,b.tape.trans a.tape,b.output.trans a.output,λ x=>(b.froz x).trans (a.froz x),dI a.len b.len,λ id h1 h2=>?_⟩
 ·rcases b.new x h with h|h
  ·exact a.new x h
  ·exact .inr (dI a.heap h)
 ·refine (b.old x (bJ h1 a.heap) (λ h3=>?_)).trans (a.old x h1 h2)
  rcases a.img x h3 with h|h
  ·exact h2 h
  ·omega
 ·obtain ⟨h1,h2,h3⟩:=a.locs id h
  obtain ⟨k1,k2,k3⟩:=b.locs id h1
  exact ⟨k1,dI h2 k2,λ e=>(k3 (by omega)).trans (h3 (by omega))⟩
 ·rcases b.img x h with h|h
  ·exact a.img x h
  ·exact .inr (dI a.heap h)
 ·by_cases h3:m1 id=.unk
  ·exact dI a.len (b.fresh id h3 h2)
  ·exact a.fresh id h1 h3
theorem yl.put {G:Nat->Option (List PV)} {w:World} {F:Nat->Prop} {m:zR} {H:zd} (R:yl G w F m H) {w':World} {H':zd} (id blk o cap s:Nat) (b:zZ)
  (hH:∀ j,j≠id->H'[j]?=H[j]?) (hid:H'[id]?=some b)
  (hw:∀ x,x≠blk->x<w.heap.size->w'.heap[x]?=w.heap[x]?) (hsz:w.heap.size<=w'.heap.size) (hlt:blk<w'.heap.size)
  (hblk:(∃ o' c' s',m id=.at_ blk o' c' s')\/w.heap.size<=blk) (hidU:m id=.unk->H.length<=id)
  (hL:m id≠.unk->zu H id<=zu H' id/\(zu H' id=zu H id->m id=.at_ blk o cap s))
  (hos:w'.os=w.os/\w'.tape=w.tape/\w'.output=w.output/\∀ a,w'.frozen? a=w.frozen? a)
  (hC:(∀ p v,zo w F m (zu H) p v->zo w' F (m.put id (.at_ blk o cap s)) (zu H') p v)->
   match b with
   |.cells z rows=>z=s/\u9 w' (zo w' F (m.put id (.at_ blk o cap s)) (zu H')) blk o cap s rows
   |.map es=>o=0/\cap=0/\s=0/\zfE w' (zo w' F (m.put id (.at_ blk o cap s)) (zu H')) blk es):
  yl G w' F (m.put id (.at_ blk o cap s)) H'/\wq w F m H w' F (m.put id (.at_ blk o cap s)) H':=by
 have hblkF:∀ x,F x->x≠blk:=λ x hx e=>by
  subst e
  rcases hblk with ⟨o',c',s',h⟩|h
  ·exact R.apart x ⟨id,o',c',s',h⟩ hx
  ·have:=R.ltF x hx;omega
 have hl:∀ j,j≠id->zu H' j=zu H j:=λ j hj=>zkV (hH j hj)
 have hlocs:∀ j,m j≠.unk->m.put id (.at_ blk o cap s) j≠.unk/\zu H j<=zu H' j/\(zu H' j=zu H j->m.put id (.at_ blk o cap s) j=m j):=by
  intro j hj
  by_cases e:j=id
  ·subst e
   rw [zR.put_same]
   exact ⟨by simp,(hL hj).1,λ e=>((hL hj).2 e).symm⟩
  ·rw [zR.put_other _ _ e,hl j e]
   exact ⟨hj,aS _,λ _=>rfl⟩
 have hmono:∀ p v,zo w F m (zu H) p v->zo w' F (m.put id (.at_ blk o cap s)) (zu H') p v:=λ p v h=>
  h.mono (λ x hx=>hw x (hblkF x hx) (R.ltF x hx)) (λ _ h=>h) hlocs
 have hother:∀ j x o' c' s',j≠id->m j=.at_ x o' c' s'->x≠blk:=by
  intro j x o' c' s' hj hx e
  subst e
  rcases hblk with ⟨o2,c2,s2,h⟩|h
  ·exact hj (R.inj _ _ _ _ _ _ _ _ _ hx h)
  ·have:=R.lt x ⟨j,o',c',s',hx⟩;omega
 have hC':=hC hmono
 constructor
 ·constructor
  ·intro j z rows hj
   by_cases e:j=id
   ·subst e
    rw [hid] at hj
    injection hj with hj
    subst hj
    obtain ⟨rfl,hc⟩:=hC'
    exact .inr (.inr ⟨blk,o,cap,by rw [zR.put_same],hc⟩)
   ·rw [hH j e] at hj
    rw [zR.put_other _ _ e]
    rcases R.cells j z rows hj with h|h|⟨x,o',c',h1,h2⟩
    ·exact .inl h
    ·exact .inr (.inl h)
    ·exact .inr (.inr ⟨x,o',c',h1,h2.mono (hw x (hother j x _ _ _ e h1) (R.lt x ⟨j,o',c',z,h1⟩)) hmono⟩)
  ·intro j es hj
   by_cases e:j=id
   ·subst e
    rw [hid] at hj
    injection hj with hj
    subst hj
    obtain ⟨rfl,rfl,rfl,hc⟩:=hC'
    exact .inr ⟨blk,by rw [zR.put_same],hc⟩
   ·rw [hH j e] at hj
    rw [zR.put_other _ _ e]
    rcases R.maps j es hj with h|⟨x,h1,h2⟩
    ·exact .inl h
    ·exact .inr ⟨x,h1,h2.mono (hw x (hother j x _ _ _ e h1) (R.lt x ⟨j,0,0,0,h1⟩)) hmono⟩
  ·intro j hj
   have hne:j≠id:=by
    intro e
    subst e
    rw [bB hj] at hid
    cases hid
   rw [zR.put_other _ _ hne]
   apply R.fresh
   by_cases h:j<H.length
   ·have:=hH j hne
    rw [bB hj,aE h] at this
    cases this
   ·omega
  ·intro j j' x o1 c1 s1 o2 c2 s2 h1 h2
   by_cases e:j=id<;>by_cases e':j'=id
   ·rw [e,e']
   ·subst e
    rw [zR.put_same] at h1
    rw [zR.put_other _ _ e'] at h2
    injection h1 with h1
    exact absurd h1.symm (hother j' x _ _ _ e' h2)
   ·subst e'
    rw [zR.put_same] at h2
    rw [zR.put_other _ _ e] at h1
    injection h2 with h2
    exact absurd h2.symm (hother j x _ _ _ e h1)
   ·rw [zR.put_other _ _ e] at h1
    rw [zR.put_other _ _ e'] at h2
    exact R.inj _ _ _ _ _ _ _ _ _ h1 h2
  ·rintro x ⟨j,o',c',s',h⟩
   by_cases e:j=id
   ·subst e
    rw [zR.put_same] at h
    injection h with h
    omega
   ·rw [zR.put_other _ _ e] at h
    have:=R.lt x ⟨j,o',c',s',h⟩
    omega
  ·intro x hx
   have:=R.ltF x hx
   omega
  ·rintro x ⟨j,o',c',s',h⟩ hx
   by_cases e:j=id
   ·subst e
    rw [zR.put_same] at h
    injection h with h
    exact hblkF x hx h.symm
   ·rw [zR.put_other _ _ e] at h
    exact R.apart x ⟨j,o',c',s',h⟩ hx
  ·exact λ g cs hg=>(R.glob g cs hg).mono (λ x hx=>hw x (hblkF x hx) (R.ltF x hx)) λ _ h=>h
 ·refine ⟨hsz,λ _ h=>h,λ _ h=>.inl h,λ x h1 h2=>hw x (λ e=>?_) h1,hlocs,λ x hx=>?_,hos.1,hos.2.1,hos.2.2.1,hos.2.2.2,?_,λ j h1 h2=>?_⟩
  ·subst e
   rcases hblk with ⟨o',c',s',h⟩|h
   ·exact h2 ⟨id,o',c',s',h⟩
   ·omega
  ·obtain ⟨j,o',c',s',h⟩:=hx
   by_cases e:j=id
   ·subst e
    rw [zR.put_same] at h
    injection h with h
    subst h
    rcases hblk with ⟨o2,c2,s2,h⟩|h
    ·exact .inl ⟨_,_,_,_,h⟩
    ·exact .inr h
   ·rw [zR.put_other _ _ e] at h
    exact .inl ⟨j,o',c',s',h⟩
  ·rcases bS H'.length H.length with hlt|hge
   ·by_cases e:H'.length=id
    ·rw [<-e,bB (aS _)] at hid
     cases hid
    ·have:=hH _ e
     rw [bB (aS _),aE hlt] at this
     cases this
   ·exact hge
  ·by_cases e:j=id
   ·subst e
    exact hidU h1
   ·rw [zR.put_other _ _ e] at h2
    exact absurd h1 h2
theorem yl.alloc {G:Nat->Option (List PV)} {w:World} {F:Nat->Prop} {m:zR} {H:zd} (R:yl G w F m H) (cap s:Nat) (obj:Obj) (b:zZ) (hfr:∀ a,(w.alloc obj).frozen? a=w.frozen? a)
  (hC:(∀ p v,zo w F m (zu H) p v->zo (w.alloc obj) F (m.put H.length (.at_ w.heap.size 0 cap s)) (zu (H++[b])) p v)->
   match b with
   |.cells z rows=>z=s/\u9 (w.alloc obj) (zo (w.alloc obj) F (m.put H.length (.at_ w.heap.size 0 cap s)) (zu (H++[b]))) w.heap.size 0 cap s rows
   |.map es=>cap=0/\s=0/\zfE (w.alloc obj) (zo (w.alloc obj) F (m.put H.length (.at_ w.heap.size 0 cap s)) (zu (H++[b]))) w.heap.size es):
  yl G (w.alloc obj) F (m.put H.length (.at_ w.heap.size 0 cap s)) (H++[b])/\wq w F m H (w.alloc obj) F (m.put H.length (.at_ w.heap.size 0 cap s)) (H++[b]):=by
 refine R.put (w':=w.alloc obj) (H':=H++[b]) H.length w.heap.size 0 cap s b (λ j hj=>?_) (by simp) (λ x h1 h2=>?_) (show w.heap.size<=(w.heap.push obj).size by simp) (show w.heap.size<(w.heap.push obj).size by simp) (.inr (aS _)) (λ _=>aS _) (λ h=>absurd (R.fresh _ (aS _)) h) ⟨rfl,rfl,rfl,hfr⟩ (λ h=>?_)
 ·rcases bS j H.length with h|h
  ·rw [aD h]
  ·rw [bB (by simp;omega),bB h]
 ·show (w.heap.push obj)[x]?=w.heap[x]?
  simp [dJ,Nat.ne_of_lt h2]
 ·have:=hC h
  cases b with
  |cells z rows=>exact this
  |map es=>exact ⟨rfl,this.1,this.2.1,this.2.2⟩
section
def yS (R:PV->Value->Prop) (ps:List PV) (vs:List Value):Prop:=vs.length=ps.length/\∀ (i:Nat) (p:PV) (v:Value),ps[i]?=some p->vs[i]?=some v->R p v
section
variable {R:PV->Value->Prop}
theorem yS.nil:yS R [] []:=⟨rfl,λ i p v h=>by simp at h⟩
theorem yS.cons {p:PV} {v:Value} {ps:List PV} {vs:List Value} (h:R p v) (t:yS R ps vs):yS R (p::ps) (v::vs):=by
 refine ⟨by simp [t.1],λ i q u h1 h2=>?_⟩
 cases i with
 |zero=>simp at h1 h2;subst h1;subst h2;exact h
 |succ i=>simp at h1 h2;exact t.2 i q u h1 h2
theorem yS.head {p:PV} {ps:List PV} {vs:List Value} (t:yS R (p::ps) vs):∃ v us,vs=v::us/\R p v/\yS R ps us:=by
 cases vs with
 |nil=>have:=t.1;simp at this
 |cons v us=>exact ⟨v,us,rfl,t.2 0 p v rfl rfl,by have:=t.1;simpa using this,λ i q u h1 h2=>t.2 (i+1) q u (by simpa using h1) (by simpa using h2)⟩
theorem yS.append {ps qs:List PV} {vs us:List Value} (h:yS R ps vs) (t:yS R qs us):yS R (ps++qs) (vs++us):=by
 refine ⟨by simp [h.1,t.1],λ i q u h1 h2=>?_⟩
 by_cases hi:i<ps.length
 ·rw [aD hi] at h1
  rw [aD (by rw [h.1];exact hi)] at h2
  exact h.2 i q u h1 h2
 ·rw [aI (by omega)] at h1
  rw [aI (by rw [h.1];omega),h.1] at h2
  exact t.2 _ q u h1 h2
theorem yS.take {ps:List PV} {vs:List Value} (h:yS R ps vs) (n:Nat):yS R (ps.take n) (vs.take n):=by
 refine ⟨by simp [h.1],λ i q u h1 h2=>?_⟩
 rw [bR] at h1 h2
 split at h1
 ·rename_i hi
  rw [if_pos hi] at h2
  exact h.2 i q u h1 h2
 ·cases h1
theorem yS.drop {ps:List PV} {vs:List Value} (h:yS R ps vs) (n:Nat):yS R (ps.drop n) (vs.drop n):=by
 refine ⟨by simp [h.1],λ i q u h1 h2=>?_⟩
 rw [cT] at h1 h2
 exact h.2 _ q u h1 h2
theorem yS.mono {R':PV->Value->Prop} {ps:List PV} {vs:List Value} (h:yS R ps vs) (hr:∀ p v,R p v->R' p v):yS R' ps vs:=⟨h.1,λ i p v h1 h2=>hr _ _ (h.2 i p v h1 h2)⟩
theorem yS.get {ps:List PV} {vs:List Value} (h:yS R ps vs) {i:Nat} {p:PV} (hp:ps[i]?=some p):∃ v,vs[i]?=some v/\R p v:=by
 have hi:i<vs.length:=by rw [h.1];exact (aF.1 hp).1
 exact ⟨vs[i],aE hi,h.2 i p _ hp (aE hi)⟩
theorem yS.map {α:Type} {f:α->PV} {g:α->Value}:∀ {l:List α},(∀ x∈l,R (f x) (g x))->yS R (l.map f) (l.map g)
 |[],_=>yS.nil
 |x::l,h=>yS.cons (h x (by simp)) (yS.map λ y hy=>h y (by simp [hy]))
end
section
variable {w:World} {F:Nat->Prop} {m:zR} {L:Nat->Nat}
theorem zo.int_inv {k:IntKind} {n:Int} {v:Value} (h:zo w F m L (.int k n) v):v=.int k n:=by cases h with|froz _ _ h=>cases h;rfl
theorem zo.bool_inv {b:Bool} {v:Value} (h:zo w F m L (.bool b) v):v=.bool b:=by cases h with|froz _ _ h=>cases h;rfl
theorem zo.str_inv {s:ByteArray} {v:Value} (h:zo w F m L (.str s) v):v=.string s:=by cases h with|froz _ _ h=>cases h;rfl
theorem zo.flt_inv {k:FloatKind} {n:Nat} {v:Value} (h:zo w F m L (.flt k n) v):v=.float k n:=by cases h with|froz _ _ h=>cases h;rfl
theorem zo.und_inv {v:Value} (h:zo w F m L .und v):v=undef:=by cases h with|froz _ _ h=>cases h;rfl
theorem zo.nils_inv {v:Value} (h:zo w F m L .nils v):v=.slice none 0 0:=by cases h with|froz _ _ h=>cases h;rfl
theorem zo.nilm_inv {v:Value} (h:zo w F m L .nilm v):v=.map none:=by cases h with|froz _ _ h=>cases h;rfl
theorem zo.agg_inv {cs:List PV} {v:Value} (h:zo w F m L (.agg cs) v):∃ vs:List Value,v=.agg vs.toArray/\yS (zo w F m L) cs vs/\∀ u∈vs,u.oneCell'=true:=by
 cases h with
 |froz _ _ h=>cases h with|agg _ vs hl h1 h=>exact ⟨vs,rfl,⟨hl,λ i p u a b=>.froz _ _ (h i p u a b)⟩,h1⟩
 |agg _ vs hl h1 h=>exact ⟨vs,rfl,⟨hl,h⟩,h1⟩
theorem zo.tup_inv {cs:List PV} {v:Value} (h:zo w F m L (.tup cs) v):∃ vs:List Value,v=.tuple vs.toArray/\yS (zo w F m L) cs vs:=by
 cases h with
 |froz _ _ h=>cases h with|tup _ vs hl h=>exact ⟨vs,rfl,⟨hl,λ i p u a b=>.froz _ _ (h i p u a b)⟩⟩
 |tup _ vs hl h=>exact ⟨vs,rfl,⟨hl,h⟩⟩
theorem zo.fn_inv {f:Nat} {cs:List PV} {v:Value} (h:zo w F m L (.fn f cs) v):∃ vs:List Value,v=.func (.func f) #[] vs.toArray/\yS (zo w F m L) cs vs:=by
 cases h with
 |froz _ _ h=>cases h with|fn _ _ vs hl h=>exact ⟨vs,rfl,⟨hl,λ i p u a b=>.froz _ _ (h i p u a b)⟩⟩
 |fn _ _ vs hl h=>exact ⟨vs,rfl,⟨hl,h⟩⟩
theorem RelF.leaf {p:PV} {v:Value} (h:RelF w F p v) (hp:zH p=true):v.oneCell'=true:=by
 cases h<;>first|rfl|(simp [zH] at hp)
theorem zo.leaf {p:PV} {v:Value} (h:zo w F m L p v) (hp:zH p=true):v.oneCell'=true:=by
 cases h with
 |froz _ _ h=>exact h.leaf hp
 |_=>first|rfl|(simp [zH] at hp)
theorem zuu {v:Value} (h:v.oneCell'=true):v.cells=#[v]:=by cases v<;>first|rfl|(simp [Value.oneCell'] at h)
theorem zo.cells {x:PV} {v:Value} (h:zo w F m L x v) (hl:(cellsOf x).all zH=true):yS (zo w F m L) (cellsOf x) v.cells.toList/\∀ u∈v.cells.toList,u.oneCell'=true:=by
 have zoC:∀ {x:PV},cellsOf x=[x]->zH x=true->zo w F m L x v->yS (zo w F m L) (cellsOf x) v.cells.toList/\∀ u∈v.cells.toList,u.oneCell'=true:=by
  intro x e hx h
  have h1:=h.leaf hx
  rw [e,zuu h1]
  exact ⟨yS.cons h yS.nil,by simpa using h1⟩
 cases x with
 |agg cs=>
  obtain ⟨vs,rfl,h1,h2⟩:=h.agg_inv
  exact ⟨h1,h2⟩
 |_=>exact zoC rfl (by simpa [cellsOf] using hl) h
end
def Yl (w:World) (R:PV->Value->Prop) (blk o:Nat) (cs:List PV):Prop:=
 ∃ f:Nat->Value,∀ (j:Nat) (p:PV),cs[j]?=some p->w.cell? ⟨blk,o+j,none⟩=some (f j)/\(f j).oneCell'=true/\R p (f j)
theorem zdK {w:World} {blk:Nat} {cur:Array Value} {t:TypeId} (h:w.heap[blk]?=some (.cells cur t (0,0))) (o:Nat):w.cell? ⟨blk,o,none⟩=cur[o]?:=by simp [World.cell?,h]
theorem u9.lies {w:World} {R:PV->Value->Prop} {blk o cap s:Nat} {rows:List (List PV)} (h:u9 w R blk o cap s rows) {i:Nat} {r:List PV} (hi:rows[i]?=some r):Yl w R blk (o+i*s) r:=by
 obtain ⟨cur,t,h2,h3,h4⟩:=h.cur
 refine ⟨λ j=>cur.getD (o+i*s+j) undef,λ j p hj=>?_⟩
 obtain ⟨v,e1,e2,e3⟩:=h4 i r j p hi hj
 have:cur.getD (o+i*s+j) undef=v:=by simp [e1]
 dsimp only
 rw [zdK h2,this]
 exact ⟨e1,e2,e3⟩
theorem Yl.drop {w:World} {R:PV->Value->Prop} {blk o:Nat} {cs:List PV} (h:Yl w R blk o cs) (n:Nat):Yl w R blk (o+n) (cs.drop n):=by
 obtain ⟨f,hf⟩:=h
 refine ⟨λ j=>f (n+j),λ j p hj=>?_⟩
 rw [cT] at hj
 have:=hf (n+j) p hj
 rwa [<-bZ] at this
theorem Yl.all2 {w:World} {R:PV->Value->Prop} {blk o:Nat} {cs:List PV} (h:Yl w R blk o cs):∃ vs:List Value,yS R cs vs/\(∀ u∈vs,u.oneCell'=true)/\∀ (j:Nat) (v:Value),vs[j]?=some v->w.cell? ⟨blk,o+j,none⟩=some v:=by
 obtain ⟨f,hf⟩:=h
 refine ⟨(List.range cs.length).map f,⟨by simp,λ i p v h1 h2=>?_⟩,λ u hu=>?_,λ j v hj=>?_⟩
 ·have hi:i<cs.length:=(aF.1 h1).1
  simp [hi] at h2
  subst h2
  exact (hf i p h1).2.2
 ·simp at hu
  obtain ⟨j,hj,rfl⟩:=hu
  exact (hf j _ (aE hj)).2.1
 ·have hj':j<cs.length:=by
   have:=(aF.1 hj).1
   simpa using this
  simp [hj'] at hj
  subst hj
  exact (hf j _ (aE hj')).1
section
variable {G:Nat->Option (List PV)} {w:World} {F:Nat->Prop} {m:zR} {H:zd}
theorem zo.fp_inv {L:Nat->Nat} {cs:List PV} {off:Nat} {v:Value} (h:zo w F m L (.fp cs off) v):∃ blk o,v=.pointer (some ⟨blk,o+off,none⟩)/\F blk/\Yl w (zo w F m L) blk o cs:=by
 cases h with
 |froz _ _ h=>cases h with
  |fp _ blk o _ f hF h1 hw h=>exact ⟨blk,o,rfl,hF,f,λ j p hj=>⟨hw j p hj,h1 j p hj,.froz _ _ (h j p hj)⟩⟩
theorem yl.block (R:yl G w F m H) {id s:Nat} {rows:List (List PV)} (hH:H[id]?=some (.cells s rows)) {blk o cap s':Nat} (hm:m id=.at_ blk o cap s'):s'=s/\u9 w (zo w F m (zu H)) blk o cap s rows:=by
 rcases R.cells id s rows hH with h|⟨h,_⟩|⟨b,o',c,h,hc⟩
 ·rw [hm] at h;cases h
 ·rw [hm] at h;cases h
 ·rw [hm] at h
  injection h with h1 h2 h3 h4
  subst h1;subst h2;subst h3;subst h4
  exact ⟨rfl,hc⟩
theorem yl.ptr (R:yl G w F m H) {id row off tot s:Nat} {rows:List (List PV)} (hH:H[id]?=some (.cells s rows)) (ht:tot=rows.length) {v:Value} (h:zo w F m (zu H) (.ptr id row off tot) v):
  ∃ blk o cap,v=.pointer (some ⟨blk,o+row*s+off,none⟩)/\m id=.at_ blk o cap s/\u9 w (zo w F m (zu H)) blk o cap s rows:=by
 have hl:=kI hH
 cases h with
 |froz _ _ h=>cases h
 |ptr _ _ _ _ blk o cap s' hm hL=>
  obtain ⟨rfl,hc⟩:=R.block hH hm
  exact ⟨blk,o,cap,rfl,hm,hc⟩
 |ptrOld _ _ _ _ a hm hL=>omega
theorem yl.cellsAt (R:yl G w F m H) {p:PV} {cs:List PV} (hc:Av.cellsAt H p=some cs) {v:Value} (h:zo w F m (zu H) p v):
  ∃ blk o,v=.pointer (some ⟨blk,o,none⟩)/\Yl w (zo w F m (zu H)) blk o cs:=by
 cases p with
 |fp cells off=>
  simp only [Av.cellsAt,aC] at hc
  subst hc
  obtain ⟨blk,o,rfl,_,hl⟩:=h.fp_inv
  exact ⟨blk,o+off,rfl,hl.drop off⟩
 |ptr id row off tot=>
  simp only [Av.cellsAt] at hc
  split at hc
  ·rename_i s rows hH
   split at hc
   ·rename_i r h1 h2
    injection hc with hc
    subst hc
    obtain ⟨blk,o,cap,rfl,_,hc⟩:=R.ptr hH (by simpa using h1) h
    exact ⟨blk,_,rfl,(hc.lies h2).drop off⟩
   ·cases hc
  ·cases hc
 |_=>simp [Av.cellsAt] at hc
end
end
def ji:Value->Option PV
 |.bool b=>some (.bool b)
 |.int k n=>some (.int k n)
 |.float k n=>some (.flt k n)
 |.string s=>some (.str s)
 |.pointer a=>match a with|none=>some .nilp|some _=>none
 |.slice a l c=>match a,l,c with|none,0,0=>some .nils|_,_,_=>none
 |.map r=>match r with|none=>some .nilm|some _=>none
 |.nilFunc=>some .nilf
 |_=>none
def kG:List Value->Option (List PV)
 |[]=>some []
 |v::vs=>match ji v,kG vs with
  |some p,some ps=>some (p::ps)
  |_,_=>none
structure yh where
 keep:Nat
 shared:Nat
 gone:Nat
 still:Nat
 lend:Nat:=0
 fresh:Nat:=0
 fix:Nat->Bool:=λ _=>false
def zex (m n:Nat):Bool:=Nat.beq ((m >>> n)%2) 1
def yh.S (T:yh) (d:Option Nat):Bool:=match d with|some n=>zex T.still n|none=>false
def yh.K (T:yh) (n:Nat):Bool:=zex T.keep n
def yh.md (T:yh) (d:Option Nat):zaF:=match d with|some n=>(match zex T.fresh n with|true=>.fresh|false=>match zex T.lend n with|true=>.lend|false=>(match zex T.shared n with|true=>.shared|false=>.pure))|none=>.pure
def yh.isGone (T:yh):Operand->Bool
 |.tmp n=>zex T.gone n
 |_=>false
def z_ (T:yh):Operand->Option zy
 |.tmp n=>some (match T.K n with|true=>.per n|false=>.reg n)
 |.const v=>match ji v with|some p=>some (.const p)|none=>none
 |.global g=>some (.glob g)
 |.func f=>some (.const (.fn f []))
def uZ (T:yh):List Operand->Option (List zy)
 |[]=>some []
 |x::xs=>match z_ T x,uZ T xs with
  |some y,some ys=>some (y::ys)
  |_,_=>none
def zab (P:Program) (t:TypeId):Option Bool:=
 match P.underlying t with
 |some (.struct _)=>some true
 |some (.array _ _)=>some true
 |some _=>some false
 |none=>none
def vW (P:Program) (t:TypeId):Option Nat:=match P.info? t with|some i=>some i.size|none=>none
def Zx (P:Program) (t:TypeId):Option (List PV):=match P.info? t with|some i=>(match i.zero with|some z=>kG z.cells.toList|none=>none)|none=>none
def zix:Value->Option PV
 |.agg cs=>match kG cs.toList with|some ps=>some (.agg ps)|none=>none
 |v=>ji v
def zby (P:Program) (t:TypeId):Option PV:=match P.info? t with|some i=>(match i.zero with|some z=>zix z|none=>none)|none=>none
def kC (P:Program) (t:TypeId):Option (TypeId×Nat×Nat):=
 match P.underlying t with
 |some (.slice e)=>match P.info? e with|some i=>(match Nat.beq i.size 0||Nat.beq i.bytes 0 with|true=>none|false=>some (e,i.size,i.bytes))|none=>none
 |_=>none
def Yt (P:Program):List Field->Option (List (Nat×Nat))
 |[]=>some []
 |f::fs=>match P.info? f.type,Yt P fs with
  |some i,some ps=>some ((f.offset,i.size)::ps)
  |_,_=>none
def Xm (T:yh) (place:Nat->Option (Nat×Nat)):List (Nat×Operand)->Option (List (Nat×Nat×zy))
 |[]=>some []
 |(i,x)::ps=>match place i,z_ T x,Xm T place ps with
  |some (off,sz),some y,some qs=>some ((off,sz,y)::qs)
  |_,_,_=>none
def U0 (T:yh):List (Nat×Operand)->Option (List (Nat×zy))
 |[]=>some []
 |(i,x)::ps=>match z_ T x,U0 T ps with
  |some y,some qs=>some ((i,y)::qs)
  |_,_=>none
def zov (P:Program) (t:TypeId):Bool:=
 match P.underlying t with
 |some (.int _)|some .string|some (.float _)=>true
 |_=>false
def zkp (P:Program) (t:TypeId):Bool:=
 match P.underlying t with
 |some .bool=>true
 |_=>false
def U' (P:Program) (t:TypeId):Option Nat:=
 match P.underlying t with
 |some (.int _)=>some 0
 |some .bool=>some 1
 |some .string=>some 2
 |_=>none
def zhF (P:Program):Nat->List Field->Option (List Nat)
 |_,[]=>some []
 |i,f::fs=>match U' P f.type,Nat.beq f.offset i&& !(f.name== "_"),zhF P (i+1) fs with
  |some t,true,some ts=>some (t::ts)
  |_,_,_=>none
def VX (P:Program) (t:TypeId):Option (List Nat):=
 match P.underlying t with
 |some (.struct fields)=>match P.stoodInHeld t||P.eqGuardType P.depth t with
  |true=>none
  |false=>zhF P 0 fields.toList
 |_=>none
def ziF:BinOp->Option Bool
 |.eql=>some false
 |.neq=>some true
 |_=>none
def Vt (P:Program) (f:FuncId):Bool:=
 match P.funcs[f]? with
 |some fn=>fn.body.isSome&& !(fn.name== "runtime.NumGoroutine")
 |none=>false
def zbY (P:Program) (f:FuncId):Bool:=
 match P.funcs[f]? with
 |some fn=>fn.body.isNone&&fn.name== "math.Float64bits" &&(Extern.findNext fn).isNone
 |none=>false
def zko:Bool->List zy->Option uU
 |true,[y]=>some (.prim .fbits y)
 |_,_=>none
def zhU:List zy->Bool->Option uU
 |[x,y],mx=>some (.minmax mx x y)
 |_,_=>none
def zmC:Operand->Option FuncId
 |.func g=>some g
 |_=>none
def Zw (P:Program) (T:yh) (dst:Option Nat) (c:Call):Option uU:=
 match c.callee with
 |.value f=>match zmC f with
  |some g=>match Vt P g,uZ T c.args.toList with
   |true,some xs=>some (.call (T.md dst) g xs)
   |false,some xs=>zko (zbY P g) xs
   |_,none=>none
  |none=>match z_ T f,uZ T c.args.toList with
   |some y,some xs=>some (.callv (T.md dst) y xs)
   |_,_=>none
 |.builtin b=>match b with
  |.len=>match c.argTypes.toList,c.args.toList with
   |[t],[x]=>match P.underlying t with
    |some (.slice _)=>match z_ T x with|some y=>some (.len y)|none=>none
    |some .string=>match z_ T x with|some y=>some (.lenS y)|none=>none
    |some (.array n _)=>some (.copy (.const (.int .i64 n)))
    |_=>none
   |_,_=>none
  |.append=>match c.argTypes.toList,c.args.toList with
   |[t,u],[x,y]=>match kC P t,Nat.beq u t,z_ T x,z_ T y with
    |some (e,sz,by'),true,some x',some y'=>match Zx P e with
     |some z=>match Nat.beq z.length sz with|true=>some (.append sz by' x' y')|false=>none
     |none=>none
    |_,_,_,_=>none
   |_,_=>none
  |.copy=>match c.argTypes.toList,c.args.toList with
   |[t,u],[x,y]=>match kC P t,z_ T x,z_ T y with
    |some (_,sz,_),some x',some y'=>some (.copyS sz x' y')
    |_,_,_=>none
   |_,_=>none
  |.max=>match uZ T c.args.toList with|some xs=>zhU xs true|none=>none
  |.min=>match uZ T c.args.toList with|some xs=>zhU xs false|none=>none
  |_=>none
 |_=>none
def Zd (T:yh):Option Operand->Option (Option zy)
 |none=>some none
 |some o=>match z_ T o with|some y=>some (some y)|none=>none
def UI (P:Program) (T:yh) (dst:Option Nat):Op->Option uU
 |.move x=>match z_ T x with|some y=>some (.copy y)|none=>none
 |.assign x=>match z_ T x with|some y=>some (.copy y)|none=>none
 |.pick c a b=>match z_ T c,z_ T a,z_ T b with|some c',some a',some b'=>some (.pick c' a' b')|_,_,_=>none
 |.alloc t=>match Zx P t with|some z=>some (.alloc z)|none=>none
 |.box t x=>match z_ T x with|some y=>some (.box y)|none=>none
 |.build t parts=>match Zx P t,P.underlying t with
  |some z,some (.struct fields)=>match Yt P fields.toList with
   |some places=>match Xm T (places[·]?) parts.toList with|some ps=>some (.build z ps)|none=>none
   |none=>none
  |some z,some (.array _ e)=>match vW P e with
   |some sz=>match Xm T (λ i=>some (i*sz,sz)) parts.toList with|some ps=>some (.build z ps)|none=>none
   |none=>none
  |_,_=>none
 |.buildSlice t len parts=>match kC P t with
  |some (e,sz,_)=>match Zx P e,U0 T parts.toList,Nat.ble (len*sz) 16777216 with
   |some z,some ps,true=>match Nat.beq z.length sz with|true=>some (.buildSlice sz len z ps)|false=>none
   |_,_,_=>none
  |none=>none
 |.load t a=>match zab P t,vW P t,z_ T a with|some g,some sz,some y=>some (.load g sz y)|_,_,_=>none
 |.store t a x=>match vW P t,z_ T a,z_ T x with|some sz,some y,some z=>some (.store sz y z)|_,_,_=>none
 |.nilCheck x=>match z_ T x with|some y=>some (.nilCheck y)|none=>none
 |.binOp op t x y _=>match z_ T x,z_ T y with
  |some x',some y'=>match zov P t with
   |true=>some (.bin op x' y')
   |false=>match ziF op with
    |some neg=>match zkp P t with
     |true=>some (.eqB neg x' y')
     |false=>match VX P t with
      |some tags=>some (.eqS neg tags x' y')
      |none=>none
    |none=>none
  |_,_=>none
 |.unOp op _ x=>match z_ T x with|some y=>some (.un op y)|none=>none
 |.convert s d x=>match P.underlying s,P.underlying d,z_ T x with
  |some (.int _),some (.int k),some y=>some (.conv k y)
  |some (.int _),some (.float .f64),some y=>some (.prim .i2f y)
  |some (.slice e),some .string,some y=>match P.underlying e with|some (.int .u8)=>some (.bstr y)|_=>none
  |_,_,_=>none
 |.makeFunc fn first captured=>match fn,first.toList,uZ T captured.toList with
  |.func f,[],some xs=>some (.mkfn f xs)
  |_,_,_=>none
 |.makeSlice t l c=>match kC P t with
  |some (e,sz,by')=>match Zx P e,z_ T l,z_ T c with
   |some z,some l',some c'=>match Nat.beq z.length sz with|true=>some (.mkslice sz by' z l' c')|false=>none
   |_,_,_=>none
  |none=>none
 |.slice t x lo hi mx=>match mx with
  |some _=>none
  |none=>
   match P.underlying t with
   |some .string=>match z_ T x,Zd T lo,Zd T hi with
    |some x',some l',some h'=>some (.sliceS x' l' h')
    |_,_,_=>none
   |some (.slice e)=>match vW P e,z_ T x,Zd T lo,Zd T hi with
    |some sz,some x',some l',some h'=>some (.slice sz x' l' h')
    |_,_,_,_=>none
   |_=>none
 |.fieldAddr t x k=>match P.underlying t with
  |some (.struct fields)=>match fields[k]? with
   |some f=>match vW P f.type,z_ T x with
    |some sz,some y=>match Nat.beq sz 0 with|true=>none|false=>some (.fieldA f.offset y)
    |_,_=>none
   |none=>none
  |_=>none
 |.field t x k=>match P.underlying t with
  |some (.struct fields)=>match fields[k]? with
   |some f=>match zab P f.type,vW P f.type,z_ T x with
    |some g,some sz,some y=>some (.field g f.offset sz y)
    |_,_,_=>none
   |none=>none
  |_=>none
 |.indexAddr t x i=>match kC P t,z_ T x,z_ T i with
  |some (_,sz,_),some x',some i'=>some (.indexA sz x' i')
  |none,some x',some i'=>match P.underlying t with
   |some (.array n e)=>match vW P e with
    |some sz=>some (.indexP n sz x' i')
    |none=>none
   |_=>none
  |_,_,_=>none
 |.index t x i=>match P.underlying t with
  |some (.array n e)=>match zab P e,vW P e,z_ T x,z_ T i with
   |some g,some sz,some x',some i'=>some (.indexV n g sz x' i')
   |_,_,_,_=>none
  |_=>none
 |.extract x i=>match z_ T x with|some y=>some (.extract y i)|none=>none
 |.makeMap _ r=>match r with|none=>some .mkmap|some _=>none
 |.lookup t x i ok=>match P.underlying t with
  |some (.map k e)=>match U' P k,zby P e,z_ T x,z_ T i with
   |some tag,some z,some x',some i'=>some (.lookup tag z ok x' i')
   |_,_,_,_=>none
  |_=>none
 |.insert t mp k x=>match P.underlying t with
  |some (.map kt _)=>match U' P kt,z_ T mp,z_ T k,z_ T x with
   |some tag,some m',some k',some x'=>some (.insert tag m' k' x')
   |_,_,_,_=>none
  |_=>none
 |.mapUpdate t mp k x=>match P.underlying t with
  |some (.map kt _)=>match U' P kt,z_ T mp,z_ T k,z_ T x with
   |some tag,some m',some k',some x'=>some (.insert tag m' k' x')
   |_,_,_,_=>none
  |_=>none
 |.call c=>Zw P T dst c
 |.range t _=>match P.underlying t with|some (.map _ _)=>some .fail|_=>none
 |.next _ s=>match s with|false=>some .fail|true=>none
 |.entry _=>some .fail
 |_=>none
def Xl (P:Program) (T:yh) (nt:Nat) (ops:Array Oper) (o:Oper):Option zD:=
 let g:Option (Option (zy×Bool)):=match o.guard with
  |none=>some none
  |some (j,want)=>match ops[j]? with
   |some oj=>match oj.dst with
    |some d=>match Nat.blt d nt with
     |true=>some (some (match T.K d with|true=>.per d|false=>.reg d,want))
     |false=>none
    |none=>none
   |none=>none
 match g,UI P T o.dst o.op with
 |some g',some op=>match o.dst with
  |none=>some ⟨none,op,g',false,[]⟩
  |some d=>match Nat.blt d nt&& !T.fix d with
   |true=>some ⟨some (T.K d,d),op,g',T.S (some d),[]⟩
   |false=>none
 |_,_=>none
def wm (P:Program) (T:yh) (nt:Nat) (ops:Array Oper):List Oper->Option (List zD)
 |[]=>some []
 |o::os=>match Xl P T nt ops o,wm P T nt ops os with
  |some a,some as=>some (a::as)
  |_,_=>none
def Jb:zaF->Bool
 |.pure=>true
 |.shared=>false
 |.lend=>false
 |.fresh=>true
def wy:uU->Bool
 |.store .. |.append .. |.copyS .. |.insert .. =>false
 |.call m _ _=>Jb m
 |.callv m _ _=>Jb m
 |_=>true
def zb8:uU->Bool
 |.copy _|.pick .. |.bin .. |.eqB .. |.eqS .. |.un .. |.conv .. |.mkfn .. |.fieldA .. |.field .. |.indexV .. |.prim .. |.minmax .. |.indexP .. |.len _|.lenS _|.sliceS .. |.extract .. |.nilCheck _|.build .. =>true
 |_=>false
def zfN:uU->Bool
 |.load .. |.slice .. |.indexA .. |.lookup .. =>true
 |.call m _ _=>Jb m
 |.callv m _ _=>Jb m
 |_=>false
def loadAt:uU->Option zy
 |.load _ _ x=>some x
 |_=>none
def Vq:zy->Option Nat
 |.per n|.reg n=>some n
 |_=>none
def zhu:zy->Bool
 |.const v=>(refs v).isEmpty
 |_=>true
def zgh:uU->Bool
 |.build z _=>(zn z).isEmpty
 |_=>true
def zD.opds (o:zD):List zy:=match o.guard with|none=>xq o.op|some (g,_)=>g::xq o.op
def zD.reads (o:zD):List Nat:=o.opds.filterMap Vq
def zD.writes (o:zD):Option Nat:=match o.dst with|some (_,d)=>some d|none=>none
def vf (n:Nat) (l:List Nat):Bool:=l.any (Nat.beq n)
def KW (o:zD):Bool:=zb8 o.op||(o.still&&zfN o.op)
def bits (acc:List Nat) (o:Oper):Nat:=o.after.toList.foldl (λ s e=>match Region.binds .any e with|true=>s ||| (1 <<< e.on ||| acc.getD e.on 0)|false=>s) 0
def WM:List Oper->List Nat->List Nat
 |[],acc=>acc
 |o::os,acc=>WM os (acc++[bits acc o])
def zdH (d:Option Nat) (l:List Nat):Bool:=match d with|some d=> !(vf d l)|none=>true
def zhx (a b:Option Nat):Bool:=match a,b with|some x,some y=> !(Nat.beq x y)|_,_=>true
def zhs (x y:zD):Bool:=zdH x.writes y.reads&&zdH y.writes x.reads
def zmW:zy->zy->Bool
 |.per a,.per b=>Nat.beq a b
 |.reg a,.reg b=>Nat.beq a b
 |.glob a,.glob b=>Nat.beq a b
 |_,_=>false
def zk1 (x:zy) (l:List zD):Bool:=match Vq x with|some d=>l.all λ o=>zhx o.writes (some d)|none=>true
def K4 (wait:Bool) (x:zD) (mid:List zD) (y:zD):Bool:=
 zhx x.writes y.writes&&(wait||(zhs x y&&(wy x.op||KW y)&&
  (wy y.op||KW x||match loadAt x.op with|some a=>y.clear.any (zmW a)&&zk1 a (x::mid)|none=>false)))
def zap (ms:List Nat) (as:List zD) (i:Nat) (y:zD):Nat->List zD->Bool
 |_,[]=>true
 |j,x::xs=>match Nat.blt j i with
  |true=>K4 ((ms.getD i 0).testBit j) x ((as.take i).drop (j+1)) y&&zap ms as i y (j+1) xs
  |false=>true
def zk3 (ms:List Nat) (as:List zD):Nat->List zD->Bool
 |_,[]=>true
 |i,y::ys=>zap ms as i y 0 as&&zk3 ms as (i+1) ys
def zcH:Nat->List Oper->Bool
 |_,[]=>true
 |i,o::os=>(o.after.toList.all λ e=>match Region.binds .any e with|true=>Nat.blt e.on i|false=>true)&&zcH (i+1) os
def zf7 (ops:Array Oper) (as:List zD):Bool:=
 zcH 0 ops.toList&&zk3 (WM ops.toList []) as 0 as&&as.all λ o=>o.opds.all zhu&&zgh o.op
def zks (ms:List Nat) (as:List zD) (i:Nat) (y:zD):Nat->List zD->List zy
 |_,[]=>[]
 |j,x::xs=>match Nat.blt j i&& !((ms.getD i 0).testBit j)&& !(KW x)&& !(wy y.op) with
  |true=>match loadAt x.op with|some a=>a::zks ms as i y (j+1) xs|none=>zks ms as i y (j+1) xs
  |false=>zks ms as i y (j+1) xs
def jz (ms:List Nat) (as:List zD):Nat->List zD->List zD
 |_,[]=>[]
 |i,y::ys=>{ y with clear:=zks ms as i y 0 as }::jz ms as (i+1) ys
def Kj {α:Type}:List α->Option (List α×α)
 |[]=>none
 |x::xs=>match Kj xs with|some (l,y)=>some (x::l,y)|none=>some ([],x)
def wM:Code->List Nat
 |.region _ ops _=>ops.toList.filterMap (·.dst)
 |.seq a b|.cond _ a b=>wM a++wM b
 |.block _ b|.loop b=>wM b
 |_=>[]
structure uq where
 it:Nat
 nx:Nat
 more:Nat
 pk:Nat
 x:Nat
 pre:List Oper
 nxt:Nat
 id3:Nat
 ops3:Array Oper
 rest:List Oper
 code:Code
def ZR (T:yh) (a b:Code):Option uq:=
 match a,b with
 |.region _ ops1 false,.block out (.loop (.seq (.region _ ops2 false) (.seq (.cond (.tmp m) .skip (.exit out2)) (.block nxt (.seq (.region id3 ops3 false) code)))))=>
  match Kj ops1.toList,ops2.toList,ops3.toList with
  |some (pre,⟨some it,.range _ (.tmp x),_,_,_,none⟩),[⟨some n1,.next (.tmp it1) false,_,_,_,none⟩,⟨some m1,.extract (.tmp n2) 0,_,_,_,none⟩],⟨some pk,.entry (.tmp it2),_,_,_,none⟩::rest=>
   match Nat.beq it1 it&&Nat.beq it2 it&&Nat.beq n2 n1&&Nat.beq m1 m&&Nat.beq out2 out&& !T.K it&& !T.K n1&& !T.K m1&&T.K pk&&T.K x&& !T.fix it&& !T.fix n1&& !T.fix m1&& !T.fix pk&&
    !(vf it (n1::m1::pk::(rest.filterMap (·.dst)++wM code))) with
   |true=>some ⟨it,n1,m1,pk,x,pre,nxt,id3,ops3,rest,code⟩
   |false=>none
  |_,_,_=>none
 |_,_=>none
def uq.W (r:uq):List Nat:=r.pk::(r.rest.filterMap (·.dst)++wM r.code)
def Vk (T:yh) (a b:Code):Option uq:=
 match ZR T a b with
 |some r=>match ZR T (.region r.id3 r.ops3 false) r.code with
  |none=>some r
  |some _=>none
 |none=>none
def Zc (T:yh) (a b:Code) (x y:AC):Option AC:=
 match Vk T a b,x,y with
 |some r,.region _ as1,.block _ (.loop (.seq _ (.seq _ (.block _ (.seq (.region _ as3) ab)))))=>match Kj as1,as3 with
  |some (pas,_),_::ras=>some (.seq (.region false pas) (.mrange (.per r.x) r.W r.pk (.block r.nxt (.seq (.region false ras) ab))))
  |_,_=>none
 |_,_,_=>none
def y7 (P:Program) (T:yh) (nt:Nat):Code->Option AC
 |.skip=>some .skip
 |.region _ ops draw=>match wm P T nt ops ops.toList with
  |some as=>match draw with
   |false=>some (.region false as)
   |true=>match zf7 ops (jz (WM ops.toList []) as 0 as) with|true=>some (.region true (jz (WM ops.toList []) as 0 as))|false=>none
  |none=>none
 |.seq a b=>match y7 P T nt a,y7 P T nt b with|some x,some y=>some (match Zc T a b x y with|some r=>r|none=>.seq x y)|_,_=>none
 |.cond c a b=>match z_ T c,y7 P T nt a,y7 P T nt b with|some c',some x,some y=>some (.cond (T.isGone c) c' x y)|_,_,_=>none
 |.block id b=>match y7 P T nt b with|some x=>some (.block id x)|none=>none
 |.loop b=>match y7 P T nt b with|some x=>some (.loop x)|none=>none
 |.exit id=>some (.exit id)
 |.ret=>some .ret
 |_=>none
def XF (P:Program) (T:yh):List ResultVar->Option (List jw)
 |[]=>some []
 |.tmp t::rs=>match T.K t,XF P T rs with|true,some xs=>some (.tmp t::xs)|_,_=>none
 |.cell a t::rs=>match T.K a,zab P t,vW P t,XF P T rs with|true,some g,some sz,some xs=>some (.cell a g sz::xs)|_,_,_,_=>none
def zje (T:yh) (n:Nat):Bool:=(List.range n).all T.K
def zm2 (P:Program) (T:yh) (fn:Func):Option zL:=
 match fn.body with
 |some c=>match y7 P T fn.ntmps c,XF P T fn.results.toList with
  |some x,some rs=>match zje T (fn.params.size+fn.nfree)&&Nat.ble (fn.params.size+fn.nfree) fn.ntmps with
   |true=>some ⟨fn.params.size+fn.nfree,x,rs⟩
   |false=>none
  |_,_=>none
 |none=>none
section
structure vX (T:yh) (nt:Nat) (R:PV->Value->Prop) (st:St) (a:Act):Prop where
 size:a.tmps.size=nt
 per:∀ n,R (st.per.get n) (a.tmps.getD n undef)
 reg:∀ n,R (st.reg.get n) (a.tmps.getD n undef)
 perK:∀ n,T.K n=false->st.per.get n=.unk
 regK:∀ n,T.K n=true->st.reg.get n=.unk
theorem zaL {w:World} {F:Nat->Prop} {v:Value} {p:PV} (h:ji v=some p):RelF w F p v/\v.oneCell'=true/\zH p=true:=by
 cases v with
 |bool b=>simp only [ji,aC] at h;subst h;exact ⟨.bool b,rfl,rfl⟩
 |int k n=>simp only [ji,aC] at h;subst h;exact ⟨.int k n,rfl,rfl⟩
 |float k n=>simp only [ji,aC] at h;subst h;exact ⟨.flt k n,rfl,rfl⟩
 |string s=>simp only [ji,aC] at h;subst h;exact ⟨.str s,rfl,rfl⟩
 |pointer a=>
  cases a with
  |none=>simp only [ji,aC] at h;subst h;exact ⟨.nilp,rfl,rfl⟩
  |some a=>simp [ji] at h
 |slice a l c=>
  simp only [ji] at h
  split at h
  ·injection h with h;subst h;exact ⟨.nils,rfl,rfl⟩
  ·cases h
 |map r=>
  cases r with
  |none=>simp only [ji,aC] at h;subst h;exact ⟨.nilm,rfl,rfl⟩
  |some a=>simp [ji] at h
 |nilFunc=>simp only [ji,aC] at h;subst h;exact ⟨.nilf,rfl,rfl⟩
 |_=>simp [ji] at h
theorem vA {w:World} {F:Nat->Prop}:∀ {vs:List Value} {ps:List PV},kG vs=some ps->yS (RelF w F) ps vs/\(∀ v∈vs,v.oneCell'=true)/\∀ p∈ps,zH p=true
 |[],ps,h=>by simp only [kG,aC] at h;subst h;exact ⟨yS.nil,by simp,by simp⟩
 |v::vs,ps,h=>by
  simp only [kG] at h
  split at h
  ·rename_i p qs h1 h2
   injection h with h
   subst h
   obtain ⟨a,b,c⟩:=zaL (w:=w) (F:=F) h1
   obtain ⟨d,e,f⟩:=vA (w:=w) (F:=F) h2
   exact ⟨yS.cons a d,by simpa using ⟨b,e⟩,by simpa using ⟨c,f⟩⟩
  ·cases h
section
variable {P:Program} {G:Nat->Option (List PV)} {T:yh} {nt:Nat} {w:World} {F:Nat->Prop} {m:zR} {st:St} {a:Act}
theorem yg (R:yl G w F m st.H) (E:vX T nt (zo w F m (zu st.H)) st a) {x:Operand} {y:zy} (h:z_ T x=some y):zo w F m (zu st.H) (y.get G st) (a.eval x):=by
 cases x with
 |tmp t=>
  simp only [z_,aC] at h
  subst h
  cases T.K t
  ·exact E.reg t
  ·exact E.per t
 |const v=>
  simp only [z_] at h
  split at h
  ·rename_i p hp
   injection h with h
   subst h
   exact .froz _ _ (zaL hp).1
  ·cases h
 |global g=>
  simp only [z_,aC] at h
  subst h
  simp only [zy.get,Act.eval]
  cases hg:G g with
  |none=>exact .froz _ _ (.unk _)
  |some cs=>exact .froz _ _ (R.glob g cs hg)
 |func f=>
  simp only [z_,aC] at h
  subst h
  exact .froz _ _ (.fn f [] [] rfl λ i p v h=>by simp at h)
theorem VQ (R:yl G w F m st.H) (E:vX T nt (zo w F m (zu st.H)) st a):∀ {xs:List Operand} {ys:List zy},uZ T xs=some ys->yS (zo w F m (zu st.H)) (ys.map (zy.get G st)) (xs.map a.eval)
 |[],ys,h=>by simp only [uZ,aC] at h;subst h;exact yS.nil
 |x::xs,ys,h=>by
  simp only [uZ] at h
  split at h
  ·rename_i y zs h1 h2
   injection h with h
   subst h
   exact yS.cons (yg R E h1) (VQ R E h2)
  ·cases h
end
structure Kw (w:World) (m:zR) (H:zd) (w':World) (m':zR) (H':zd):Prop where
 heap:∀ b,b<w.heap.size->w'.heap[b]?=w.heap[b]?
 map:∀ id,id<H.length->m' id=m id
 ext:∃ X,H'=H++X
def yd (P:Program) (G:Nat->Option (List PV)) (o:Oper) (a:Act) (w:World) (F:Nat->Prop) (m:zR) (H:zd) (v:PV) (H':zd) (q:Bool):Prop:=
 ∀ (K:Act->World->Prop) (Q:Exit->Act->World->Prop),
  (∀ cv w' F' m',yl G w' F' m' H'->wq w F m H w' F' m' H'->zo w' F' m' (zu H') v cv->(q=true->Kw w m H w' m' H')->K (a.put o.dst cv) w')->o.wp P a w K Q
section
variable {P:Program} {G:Nat->Option (List PV)} {w:World} {F:Nat->Prop} {m:zR} {H:zd} {o:Oper} {a:Act} {v:PV} {q:Bool}
theorem Kw.refl (w:World) (m:zR) (H:zd):Kw w m H w m H:=⟨λ _ _=>rfl,λ _ _=>rfl,[],by simp⟩
theorem yd.same {cv:Value} (R:yl G w F m H) (hr:(execOp a.eval o).run P w=.ok (.value cv) w) (hv:zo w F m (zu H) v cv):yd P G o a w F m H v H q:=by
 intro K Q h
 unfold Oper.wp
 rw [hr]
 exact h cv w F m R (wq.refl ..) hv λ _=>Kw.refl ..
theorem yd.of {cv:Value} {w':World} {F':Nat->Prop} {m':zR} {H':zd} (hr:(execOp a.eval o).run P w=.ok (.value cv) w') (R:yl G w' F' m' H') (g:wq w F m H w' F' m' H')
  (hv:zo w' F' m' (zu H') v cv) (hq:q=true->Kw w m H w' m' H'):yd P G o a w F m H v H' q:=by
 intro K Q h
 unfold Oper.wp
 rw [hr]
 exact h cv w' F' m' R g hv hq
theorem yd.skip {w':World} {F':Nat->Prop} {m':zR} {H':zd} (hr:(execOp a.eval o).run P w=.ok .skip w') (R:yl G w' F' m' H') (g:wq w F m H w' F' m' H')
  (hq:q=true->Kw w m H w' m' H'):yd P G o a w F m H .und H' q:=by
 intro K Q h
 unfold Oper.wp
 rw [hr]
 exact h undef w' F' m' R g (.froz _ _ .und) hq
theorem yd.alloc {cv:Value} {cap s:Nat} {rows:List (List PV)} {cur:Array Value} {t:TypeId} (R:yl G w F m H) (hr:(execOp a.eval o).run P w=.ok (.value cv) (w.alloc (.cells cur t (0,0))))
  (h1:rows.length<=cap) (h2:cap*s<=cur.size) (h3:∀ (i:Nat) (r:List PV),rows[i]?=some r->r.length=s)
  (h4:∀ (i:Nat) (r:List PV) (j:Nat) (p:PV),rows[i]?=some r->r[j]?=some p->∃ u,cur[i*s+j]?=some u/\u.oneCell'=true/\zo w F m (zu H) p u)
  (hv:∀ m',m' H.length=.at_ w.heap.size 0 cap s->zo (w.alloc (.cells cur t (0,0))) F m' (zu (H++[.cells s rows])) v cv):yd P G o a w F m H v (H++[.cells s rows]) q:=by
 obtain ⟨R',g⟩:=R.alloc cap s (.cells cur t (0,0)) (.cells s rows) (RowKit.frozen?_alloc_cells w cur t) (λ hm=>⟨rfl,h1,⟨cur,t,by show (w.heap.push _)[_]?=_;simp,by omega,λ i r j p hi hj=>by
  obtain ⟨u,e1,e2,e3⟩:=h4 i r j p hi hj
  exact ⟨u,by rw [bO];exact e1,e2,hm _ _ e3⟩⟩,h3⟩)
 refine yd.of hr R' g (hv _ (zR.put_same ..)) λ _=>⟨λ b hb=>?_,λ id hid=>zR.put_other _ _ (by omega),_,rfl⟩
 show (w.heap.push _)[b]?=_
 simp [dJ,Nat.ne_of_lt hb]
end
theorem kR {P:Program} {t e:TypeId} {s b:Nat} (h:kC P t=some (e,s,b)):P.underlying t=some (.slice e)/\∃ i,P.info? e=some i/\i.size=s/\i.bytes=b/\s≠0/\b≠0:=by
 unfold kC at h
 split at h
 ·rename_i e' hu
  split at h
  ·rename_i i hi
   split at h
   ·cases h
   ·rename_i hz
    injection h with h
    injection h with h1 h2
    injection h2 with h2 h3
    subst h1;subst h2;subst h3
    exact ⟨hu,i,hi,rfl,rfl,by intro e;simp [e] at hz,by intro e;simp [e] at hz⟩
  ·cases h
 ·cases h
theorem zbp {P:Program} {t:TypeId} {g:Bool} (h:zab P t=some g) (w:World):(isAgg t).run P w=.ok g w:=by
 unfold zab at h
 split at h
 ·rename_i hu;injection h with h;subst h;simp [isAgg,run_underlying hu]
 ·rename_i hu;injection h with h;subst h;simp [isAgg,run_underlying hu]
 ·rename_i d hu h1 h2
  injection h with h
  subst h
  cases d<;>first|(simp [isAgg,run_underlying h2];done)|(exact absurd rfl (hu _))|(exact absurd rfl (h1 _ _))|skip
  all_goals simp_all [isAgg,run_underlying]
 ·cases h
theorem uv {P:Program} {t:TypeId} {s:Nat} (h:vW P t=some s):∃ i,P.info? t=some i/\i.size=s:=by
 unfold vW at h
 split at h
 ·rename_i i hi;injection h with h;exact ⟨i,hi,h⟩
 ·cases h
theorem Wy {P:Program} {t:TypeId} {ps:List PV} (h:Zx P t=some ps):∃ i z,P.info? t=some i/\i.zero=some z/\kG z.cells.toList=some ps:=by
 unfold Zx at h
 split at h
 ·rename_i i hi
  split at h
  ·rename_i z hz;exact ⟨i,z,hi,hz,h⟩
  ·cases h
 ·cases h
end
section
theorem RelF.sub {w:World} {F F':Nat->Prop} (h:∀ b,F b->F' b) {p:PV} {v:Value} (r:RelF w F p v):RelF w F' p v:=r.mono (λ _ _=>rfl) h
theorem u9.frz {w:World} {R:PV->Value->Prop} {blk o cap s:Nat} {rows:List (List PV)} (h:u9 w R blk o cap s rows) {F:Nat->Prop} (hF:F blk) (g:PV->PV) (hg:∀ p v,R p v->RelF w F (g p) v)
  {off len c:Nat} (hl:off+len<=rows.length) (hc:len<=c):RelF w F (.fz (((rows.drop off).take len).map (·.map g))) (.slice (some ⟨blk,o+off*s,none⟩) len c):=by
 have hlen:(((rows.drop off).take len).map (·.map g)).length=len:=by simp;omega
 have hat:∀ (i:Nat) (r:List PV),(((rows.drop off).take len).map (·.map g))[i]?=some r->∃ r',rows[off+i]?=some r'/\r=r'.map g:=by
  intro i r hi
  rw [aN,bR] at hi
  split at hi
  ·rw [cT] at hi
   cases hr:rows[off+i]? with
   |none=>simp [hr] at hi
   |some r'=>simp [hr] at hi;exact ⟨r',rfl,hi.symm⟩
  ·simp at hi
 have key:∀ (i:Nat) (r:List PV) (j:Nat) (p:PV),(((rows.drop off).take len).map (·.map g))[i]?=some r->r[j]?=some p->
   ∃ u,w.cell? ⟨blk,o+off*s+i*s+j,none⟩=some u/\u.oneCell'=true/\RelF w F p u:=by
  intro i r j p hi hj
  obtain ⟨r',hr',rfl⟩:=hat i r hi
  rw [aN] at hj
  cases hp:r'[j]? with
  |none=>simp [hp] at hj
  |some p'=>
   simp [hp] at hj
   subst hj
   obtain ⟨cur,t,h2,h3,h4⟩:=h.cur
   obtain ⟨u,e1,e2,e3⟩:=h4 (off+i) r' j p' hr' hp
   refine ⟨u,?_,e2,hg _ _ e3⟩
   rw [zdK h2]
   rw [show o+off*s+i*s+j=o+(off+i)*s+j by rw [cH];omega]
   exact e1
 have e:=RelF.fz (w:=w) (F:=F) (((rows.drop off).take len).map (·.map g)) blk (o+off*s) s c (λ i j=>(w.cell? ⟨blk,o+off*s+i*s+j,none⟩).getD undef) hF
  (λ i r hi=>by obtain ⟨r',hr',rfl⟩:=hat i r hi;rw [cF];exact h.size _ _ hr') (by rw [hlen];exact hc)
  (λ i r j p hi hj=>by obtain ⟨u,e1,e2,e3⟩:=key i r j p hi hj;rw [e1];exact e2)
  (λ i r j p hi hj=>by obtain ⟨u,e1,e2,e3⟩:=key i r j p hi hj;rw [e1];rfl)
  (λ i r j p hi hj=>by obtain ⟨u,e1,e2,e3⟩:=key i r j p hi hj;rw [e1];exact e3)
 rw [hlen] at e
 exact e
section
variable {G:Nat->Option (List PV)} {w:World} {F:Nat->Prop} {m:zR} {H:zd}
theorem yS.toRelF {F:Nat->Prop} {g:PV->PV} {R:PV->Value->Prop} {ps:List PV} {vs:List Value} (h:yS R ps vs) (hg:∀ p v,p∈ps->R p v->RelF w F (g p) v):yS (RelF w F) (ps.map g) vs:=by
 refine ⟨by simp [h.1],λ i p v h1 h2=>?_⟩
 rw [aN] at h1
 cases hp:ps[i]? with
 |none=>simp [hp] at h1
 |some q=>simp [hp] at h1;subst h1;exact hg _ _ (aJ hp) (h.2 i q v hp h2)
theorem Vi (R:yl G w F m H):∀ (d:Nat) {p:PV} {v:Value},zo w F m (zu H) p v->RelF w (λ b=>F b\/m.has b) (frz d H p) v
 |0,p,v,_=>.unk v
 |d+1,p,v,h=>by
  have ih:=λ {p:PV} {v:Value} (h:zo w F m (zu H) p v)=>Vi R d h
  have hs:∀ b,F b->(F b\/m.has b):=λ b hb=>.inl hb
  have same:∀ {p:PV},frz (d+1) H p=p->RelF w F p v->RelF w (λ b=>F b\/m.has b) (frz (d+1) H p) v:=λ e h=>by rw [e];exact h.sub hs
  cases p with
  |unk=>exact .unk v
  |agg cs=>
   obtain ⟨vs,rfl,h1,h2⟩:=h.agg_inv
   have:=h1.toRelF (g:=frz d H) (λ p v _ hp=>ih hp)
   exact .agg _ vs this.1 h2 this.2
  |tup cs=>
   obtain ⟨vs,rfl,h1⟩:=h.tup_inv
   have:=h1.toRelF (g:=frz d H) (λ p v _ hp=>ih hp)
   exact .tup _ vs this.1 this.2
  |fn f cs=>
   obtain ⟨vs,rfl,h1⟩:=h.fn_inv
   have:=h1.toRelF (g:=frz d H) (λ p v _ hp=>ih hp)
   exact .fn f _ vs this.1 this.2
  |sl id off len tot=>
   simp only [frz]
   split
   ·rename_i s rows hH
    split
    ·rename_i hb
     simp only [aU,beq_iff_eq,cC] at hb
     have hl:=kI hH
     cases h with
     |froz _ _ h=>cases h
     |sl _ _ _ _ blk o cap s' b hm hL ht hc hb'=>
      obtain ⟨rfl,hca⟩:=R.block hH hm
      rcases hb' with e|rfl
      ·have e0:len=0:=by omega
       subst e0
       rw [show ((rows.drop off).take 0).map (·.map (frz d H))=[] by simp,show cap-off=0 by omega]
       exact .fzNil _ _
      ·exact hca.frz (F:=λ b=>F b\/m.has b) (.inr ⟨_,_,_,_,hm⟩) (frz d H) (λ p v hp=>ih hp) (by omega) (by omega)
     |slVirt _ hm hL=>
      rw [show ((rows.drop 0).take 0).map (·.map (frz d H))=[] by simp]
      exact .fzNil _ _
     |slOld _ _ _ _ b c hm hL hc=>omega
    ·exact .unk v
   ·exact .unk v
  |ptr id row off tot=>
   simp only [frz]
   split
   ·rename_i s rows hH
    split
    ·rename_i cs hb hr
     obtain ⟨blk,o,cap,rfl,hm,hca⟩:=R.ptr hH (by simpa using hb) h
     obtain ⟨f,hf⟩:=hca.lies hr
     have hat:∀ (j:Nat) (p:PV),(cs.map (frz d H))[j]?=some p->∃ q,cs[j]?=some q/\p=frz d H q:=by
      intro j p hj
      rw [aN] at hj
      cases hq:cs[j]? with
      |none=>simp [hq] at hj
      |some q=>simp [hq] at hj;exact ⟨q,rfl,hj.symm⟩
     exact .fp _ blk (o+row*s) off f (.inr ⟨_,_,_,_,hm⟩) (λ j p hj=>by obtain ⟨q,hq,rfl⟩:=hat j p hj;exact (hf j q hq).2.1)
      (λ j p hj=>by obtain ⟨q,hq,rfl⟩:=hat j p hj;exact (hf j q hq).1) (λ j p hj=>by obtain ⟨q,hq,rfl⟩:=hat j p hj;exact ih (hf j q hq).2.2)
    ·exact .unk v
   ·exact .unk v
  |mp id=>
   simp only [frz]
   split
   ·rename_i es hH
    cases h with
    |froz _ _ h=>cases h
    |mp _ blk hm hL=>
     rcases R.maps id es hH with h|⟨b,h,hc⟩
     ·rw [hm] at h;cases h
     ·rw [hm] at h
      injection h with h
      subst h
      obtain ⟨xs,clock,h1,h2,h3,h4⟩:=hc.cur
      refine .fm _ _ blk xs clock (λ _ _ _ h=>h) (.inr ⟨_,_,_,_,hm⟩) h1 (by simpa using h2) (λ i e x he hx=>?_) (λ i e x he hx=>?_)
      ·rw [aN] at he
       cases hq:es[i]? with
       |none=>simp [hq] at he
       |some q=>simp [hq] at he;subst he;exact ih (h3 i q x hq hx)
      ·rw [aN] at he
       cases hq:es[i]? with
       |none=>simp [hq] at he
       |some q=>simp [hq] at he;subst he;exact ih (h4 i q x hq hx)
    |mpOld _ r hm hL=>rw [zbZ hH] at hL;omega
   ·exact .unk v
  |_=>
   cases h with
   |froz _ _ h=>exact same rfl h
mutual
theorem zpq:∀ (d:Nat) {p:PV} {v:Value},refs p=[]->zo w F m (zu H) p v->RelF w F (frz d H p) v
 |0,p,v,_,_=>.unk v
 |d+1,p,v,hr,h=>by
  have ih:=λ {p:PV} {v:Value} (hr:refs p=[]) (h:zo w F m (zu H) p v)=>zpq d hr h
  have hl:∀ {cs:List PV},zn cs=[]->∀ p∈cs,refs p=[]:=by
   intro cs
   induction cs with
   |nil=>intro _ p hp;cases hp
   |cons c cs ihc=>
    intro h p hp
    simp only [zn,List.append_eq_nil_iff] at h
    cases hp with
    |head=>exact h.1
    |tail _ hp=>exact ihc h.2 p hp
  cases p with
  |unk=>exact .unk v
  |agg cs=>
   obtain ⟨vs,rfl,h1,h2⟩:=h.agg_inv
   have:=h1.toRelF (F:=F) (g:=frz d H) (λ p v hp hR=>ih (hl (by simpa [refs] using hr) p hp) hR)
   exact .agg _ vs this.1 h2 this.2
  |tup cs=>
   obtain ⟨vs,rfl,h1⟩:=h.tup_inv
   have:=h1.toRelF (F:=F) (g:=frz d H) (λ p v hp hR=>ih (hl (by simpa [refs] using hr) p hp) hR)
   exact .tup _ vs this.1 this.2
  |fn f cs=>
   obtain ⟨vs,rfl,h1⟩:=h.fn_inv
   have:=h1.toRelF (F:=F) (g:=frz d H) (λ p v hp hR=>ih (hl (by simpa [refs] using hr) p hp) hR)
   exact .fn f _ vs this.1 this.2
  |sl id off len tot=>simp [refs] at hr
  |ptr id row off tot=>simp [refs] at hr
  |mp id=>simp [refs] at hr
  |_=>cases h with|froz _ _ h=>exact h
end
end
theorem zf_ {w w':World} {F F':Nat->Prop} {p:PV} {v:Value} (hp:JO p=true) (h:RelF w F p v):RelF w' F' p v:=by
 cases h<;>first|(simp [JO] at hp;done)|constructor
theorem zvB {w w':World} {F F':Nat->Prop} {p:PV} {v:Value} (hp:jn p=true) (h:RelF w F p v):RelF w' F' p v:=by
 have hagg:∀ {cs:List PV} {v:Value},cs.all JO=true->RelF w F (.agg cs) v->RelF w' F' (.agg cs) v:=by
  intro cs v hc h
  cases h with
  |agg _ vs hl h1 h=>exact .agg cs vs hl h1 λ i p u a b=>zf_ (aZ.1 hc p (aJ a)) (h i p u a b)
 cases p with
 |agg cs=>exact hagg hp h
 |tup vs=>
  cases h with
  |tup _ us hl h=>
   refine .tup vs us hl λ i p u a b=>?_
   have:=aZ.1 hp p (aJ a)
   cases p with
   |agg cs=>exact hagg this (h i _ u a b)
   |_=>exact zf_ this (h i _ u a b)
 |_=>exact zf_ hp h
def ZC:zZ->List Nat
 |.cells _ rows=>rows.flatMap zn
 |.map es=>es.flatMap λ e=>refs e.1++refs e.2
def YQ (m':zR) (H H':zd) (ed:zI):Prop:=∀ id b r,m' id≠.unk->H'[id]?=some b->r∈ZC b->id<r->(∃ b0,H[id]?=some b0/\r∈ZC b0)\/(id,r)∈ed
structure JG (P:Program) (G:Nat->Option (List PV)) (C:Cl):Prop where
 bodyP:∀ f args v,C.p f args=some v->Vt P f=true
 bodyS:∀ f args H v,C.s f args H=some v->Vt P f=true
 pure:∀ f args v,C.p f args=some v->∀ (w:World) (F:Nat->Prop) (us:List Value),yS (RelF w F) args us->(∀ b,F b->b<w.heap.size)->
  (∀ g cs,G g=some cs->RelF w F (.fp cs 0) (.pointer (some ⟨g,0,none⟩)))->
  Calls P f us.toArray w λ e w'=>∃ cv,e=.returned cv/\w.heap.size<=w'.heap.size/\(∀ b,b<w.heap.size->w'.heap[b]?=w.heap[b]?)/\(w'.os=w.os/\w'.tape=w.tape/\w'.output=w.output/\∀ a,w'.frozen? a=w.frozen? a)/\
   ∃ F',(∀ b,F b->F' b)/\(∀ b,F' b->F b\/w.heap.size<=b)/\(∀ b,F' b->b<w'.heap.size)/\RelF w' F' v cv
 shared:∀ f args H v H' ed,C.s f args H=some (v,H',ed)->∀ (w:World) (F:Nat->Prop) (m:zR) (us:List Value),yl G w F m H->yS (zo w F m (zu H)) args us->
  Calls P f us.toArray w λ e w'=>∃ cv F' m',e=.returned cv/\yl G w' F' m' H'/\wq w F m H w' F' m' H'/\zo w' F' m' (zu H') v cv/\YQ m' H H' ed
section
variable {P:Program} {G:Nat->Option (List PV)} {w:World} {F:Nat->Prop} {m:zR} {H:zd} {o:Oper} {a:Act}
theorem yl.world (R:yl G w F m H) {w':World} {F':Nat->Prop} (hsz:w.heap.size<=w'.heap.size) (hh:∀ b,b<w.heap.size->w'.heap[b]?=w.heap[b]?) (hos:w'.os=w.os/\w'.tape=w.tape/\w'.output=w.output/\∀ a,w'.frozen? a=w.frozen? a)
  (h1:∀ b,F b->F' b) (h2:∀ b,F' b->F b\/w.heap.size<=b) (h3:∀ b,F' b->b<w'.heap.size):yl G w' F' m H/\wq w F m H w' F' m H/\Kw w m H w' m H:=by
 have hm:∀ p v,zo w F m (zu H) p v->zo w' F' m (zu H) p v:=λ p v h=>h.mono (λ b hb=>hh b (R.ltF b hb)) h1 λ id hid=>⟨hid,aS _,λ _=>rfl⟩
 refine ⟨⟨λ id s rows hj=>?_,λ id es hj=>?_,R.fresh,R.inj,λ b hb=>bJ (R.lt b hb) hsz,h3,λ b hb hb'=>?_,λ g cs hg=>(R.glob g cs hg).mono (λ b hb=>hh b (R.ltF b hb)) h1⟩,
  ⟨hsz,h1,h2,λ b hb _=>hh b hb,λ id hid=>⟨hid,aS _,λ _=>rfl⟩,λ b hb=>.inl hb,hos.1,hos.2.1,hos.2.2.1,hos.2.2.2,aS _,λ _ h1 h2=>absurd h1 h2⟩,⟨hh,λ _ _=>rfl,[],by simp⟩⟩
 ·rcases R.cells id s rows hj with h|h|⟨x,o',c',k1,k2⟩
  ·exact .inl h
  ·exact .inr (.inl h)
  ·exact .inr (.inr ⟨x,o',c',k1,k2.mono (hh x (R.lt x ⟨id,o',c',s,k1⟩)) hm⟩)
 ·rcases R.maps id es hj with h|⟨x,k1,k2⟩
  ·exact .inl h
  ·exact .inr ⟨x,k1,k2.mono (hh x (R.lt x ⟨id,0,0,0,k1⟩)) hm⟩
 ·rcases h2 b hb' with h|h
  ·exact R.apart b hb h
  ·have:=R.lt b hb;omega
theorem Z' (k:Nat):∀ cs:List PV,yR k cs=cs.map (zC k)
 |[]=>rfl
 |c::cs=>by rw [yR,aM,Z' k cs]
theorem zDi {w:World} {F F':Nat->Prop} {p:PV} {v:Value} (h:RelF w F p v) (k:Nat):RelF w F' (zC k p) v:=by
 induction h with
 |unk v=>exact .unk v
 |und=>exact .und
 |int k n=>exact .int k n
 |bool b=>exact .bool b
 |str s=>exact .str s
 |flt k n=>exact .flt k n
 |nils=>exact .nils
 |nilp=>exact .nilp
 |nilf=>exact .nilf
 |nilm=>exact .nilm
 |agg cs vs hl h1 h ih=>
  rw [zC,Z']
  refine .agg _ vs (by simpa using hl) h1 λ i p v hp hv=>?_
  rw [aN] at hp
  cases hq:cs[i]? with
  |none=>simp [hq] at hp
  |some q=>simp [hq] at hp;subst hp;exact ih i q v hq hv
 |tup cs vs hl h ih=>
  rw [zC,Z']
  refine .tup _ vs (by simpa using hl) λ i p v hp hv=>?_
  rw [aN] at hp
  cases hq:cs[i]? with
  |none=>simp [hq] at hp
  |some q=>simp [hq] at hp;subst hp;exact ih i q v hq hv
 |fzNil b c=>exact .fzNil b c
 |fz rows blk off s cap f hF hs hc h1 hw h ih=>
  cases rows with
  |nil=>exact .fzNil _ _
  |cons r rs=>exact .unk _
 |fp cs blk o off f hF h1 hw h ih=>exact .unk _
 |fn f cs vs hl h ih=>
  rw [zC,Z']
  refine .fn f _ vs (by simpa using hl) λ i p v hp hv=>?_
  rw [aN] at hp
  cases hq:cs[i]? with
  |none=>simp [hq] at hp
  |some q=>simp [hq] at hp;subst hp;exact ih i q v hq hv
 |fm es es' r xs clock hK hF hw hl hk hv ik iv=>exact .unk _
theorem zre {w:World} {F F':Nat->Prop} {m M:zR} {L LL:Nat->Nat} {k:Nat} (hM:∀ id,m id≠.unk->M (k+id)=m id/\LL (k+id)=L id) {p:PV} {v:Value} (h:zo w F m L p v):zo w F' M LL (zC k p) v:=by
 induction h with
 |froz p v h=>exact .froz _ v (zDi h k)
 |agg cs vs hl h1 h ih=>
  rw [zC,Z']
  refine .agg _ vs (by simpa using hl) h1 λ i p v hp hv=>?_
  rw [aN] at hp
  cases hq:cs[i]? with
  |none=>simp [hq] at hp
  |some q=>simp [hq] at hp;subst hp;exact ih i q v hq hv
 |tup cs vs hl h ih=>
  rw [zC,Z']
  refine .tup _ vs (by simpa using hl) λ i p v hp hv=>?_
  rw [aN] at hp
  cases hq:cs[i]? with
  |none=>simp [hq] at hp
  |some q=>simp [hq] at hp;subst hp;exact ih i q v hq hv
 |fn f cs vs hl h ih=>
  rw [zC,Z']
  refine .fn f _ vs (by simpa using hl) λ i p v hp hv=>?_
  rw [aN] at hp
  cases hq:cs[i]? with
  |none=>simp [hq] at hp
  |some q=>simp [hq] at hp;subst hp;exact ih i q v hq hv
 |sl id off len tot blk o cap s b hm hL ht hc hb=>
  obtain ⟨h1,h2⟩:=hM id (by rw [hm];simp)
  exact .sl _ off len tot blk o cap s b (h1.trans hm) (h2.trans hL) ht hc hb
 |slVirt id hm hL=>
  obtain ⟨h1,h2⟩:=hM id (by rw [hm];simp)
  exact .slVirt _ (h1.trans hm) (h2.trans hL)
 |slOld id off len tot b c hm hL hc=>
  obtain ⟨h1,h2⟩:=hM id hm
  exact .slOld _ off len tot b c (by rw [h1];exact hm) (by omega) hc
 |ptr id row off tot blk o cap s hm hL=>
  obtain ⟨h1,h2⟩:=hM id (by rw [hm];simp)
  exact .ptr _ row off tot blk o cap s (h1.trans hm) (h2.trans hL)
 |ptrOld id row off tot a hm hL=>
  obtain ⟨h1,h2⟩:=hM id hm
  exact .ptrOld _ row off tot a (by rw [h1];exact hm) (by omega)
 |mp id blk hm hL=>
  obtain ⟨h1,h2⟩:=hM id (by rw [hm];simp)
  exact .mp _ blk (h1.trans hm) (h2.trans hL)
 |mpOld id r hm hL=>
  obtain ⟨h1,h2⟩:=hM id hm
  exact .mpOld _ r (by rw [h1];exact hm) (by omega)
mutual
theorem VS (k:Nat):∀ (p:PV) (r:Nat),r∈Go.Av.refs (zC k p)->∃ r',r=k+r'/\r'∈Go.Av.refs p
 |.sl id _ _ _,r,h=>by simp only [zC,refs,aO] at h ⊢;exact ⟨id,h,rfl⟩
 |.ptr id _ _ _,r,h=>by simp only [zC,refs,aO] at h ⊢;exact ⟨id,h,rfl⟩
 |.mp id,r,h=>by simp only [zC,refs,aO] at h ⊢;exact ⟨id,h,rfl⟩
 |.agg cs,r,h=>by simp only [zC,refs] at h ⊢;exact K7 k cs r h
 |.tup cs,r,h=>by simp only [zC,refs] at h ⊢;exact K7 k cs r h
 |.fn _ cs,r,h=>by simp only [zC,refs] at h ⊢;exact K7 k cs r h
 |.fz rows,r,h=>by cases rows<;>simp [zC,refs] at h
 |.fp _ _,r,h=>by simp [zC,refs] at h
 |.fm _,r,h=>by simp [zC,refs] at h
 |.und,r,h=>by simp [zC,refs] at h
 |.unk,r,h=>by simp [zC,refs] at h
 |.int _ _,r,h=>by simp [zC,refs] at h
 |.bool _,r,h=>by simp [zC,refs] at h
 |.str _,r,h=>by simp [zC,refs] at h
 |.flt _ _,r,h=>by simp [zC,refs] at h
 |.nils,r,h=>by simp [zC,refs] at h
 |.nilp,r,h=>by simp [zC,refs] at h
 |.nilf,r,h=>by simp [zC,refs] at h
 |.nilm,r,h=>by simp [zC,refs] at h
theorem K7 (k:Nat):∀ (cs:List PV) (r:Nat),r∈zn (yR k cs)->∃ r',r=k+r'/\r'∈zn cs
 |[],r,h=>by simp [yR,zn] at h
 |c::cs,r,h=>by
  simp only [yR,zn,aX] at h ⊢
  rcases h with h|h
  ·obtain ⟨r',e,h1⟩:=VS k c r h
   exact ⟨r',e,.inl h1⟩
  ·obtain ⟨r',e,h1⟩:=K7 k cs r h
   exact ⟨r',e,.inr h1⟩
end
theorem zsA (k:Nat) (b:zZ) (r:Nat) (h:r∈ZC (zX k b)):∃ r',r=k+r'/\r'∈ZC b:=by
 cases b with
 |cells s rows=>
  simp only [zX,ZC,List.mem_flatMap,bU] at h ⊢
  obtain ⟨_,⟨row,h1,rfl⟩,h2⟩:=h
  obtain ⟨r',e,h3⟩:=K7 k row r h2
  exact ⟨r',e,row,h1,h3⟩
 |map es=>
  simp only [zX,ZC,List.mem_flatMap,bU,aX] at h ⊢
  obtain ⟨_,⟨e0,h1,rfl⟩,h2⟩:=h
  rcases h2 with h2|h2
  ·obtain ⟨r',e,h3⟩:=VS k e0.1 r h2
   exact ⟨r',e,e0,h1,.inl h3⟩
  ·obtain ⟨r',e,h3⟩:=VS k e0.2 r h2
   exact ⟨r',e,e0,h1,.inr h3⟩
theorem Wi (H X:zd) (id:Nat):(H++X.map (zX H.length))[H.length+id]?=(X[id]?).map (zX H.length):=by
 rw [aI (by omega),show H.length+id-H.length=id by omega,aN]
theorem zvk (H X:zd) (id:Nat):zu (H++X.map (zX H.length)) (H.length+id)=zu X id:=by
 simp only [zu,Wi]
 cases X[id]? with
 |none=>rfl
 |some b=>cases b<;>simp [zX]
theorem yl.lend (R:yl G w F m H) {F1:Nat->Prop} {w':World} {F':Nat->Prop} {m':zR} {X:zd} {ed:zI} (R':yl G w' F' m' X) (g:wq w F1 (λ _=>.unk) [] w' F' m' X) (hf:YQ m' [] X ed):
  ∃ M:zR,yl G w' F M (H++X.map (zX H.length))/\wq w F m H w' F M (H++X.map (zX H.length))/\(∀ p v,zo w' F' m' (zu X) p v->zo w' F M (zu (H++X.map (zX H.length))) (zC H.length p) v)/\
   YQ M H (H++X.map (zX H.length)) (ed.map λ e=>(H.length+e.1,H.length+e.2)):=by
 have hold:∀ b,b<w.heap.size->w'.heap[b]?=w.heap[b]?:=λ b hb=>g.old b hb (by rintro ⟨_,_,_,_,h⟩;cases h)
 let M:zR:=λ id=>if id<H.length then m id else m' (id-H.length)
 have M1:∀ id,id<H.length->M id=m id:=λ id h=>by simp only [M,if_pos h]
 have M2:∀ id,M (H.length+id)=m' id:=λ id=>by simp only [M];rw [if_neg (by omega),show H.length+id-H.length=id by omega]
 have hl:∀ id,id<H.length->zu (H++X.map (zX H.length)) id=zu H id:=λ id h=>zkV (aD h)
 have hV:∀ p v,zo w' F' m' (zu X) p v->zo w' F M (zu (H++X.map (zX H.length))) (zC H.length p) v:=λ p v h=>zre (λ id _=>⟨M2 id,zvk H X id⟩) h
 have hlt:∀ id,m id≠.unk->id<H.length:=λ id h=>by
  rcases bS id H.length with h1|h1
  ·exact h1
  ·exact absurd (R.fresh id h1) h
 have hO:∀ p v,zo w F m (zu H) p v->zo w' F M (zu (H++X.map (zX H.length))) p v:=λ p v h=>h.mono (λ b hb=>hold b (R.ltF b hb)) (λ _ h=>h) λ id hid=>by
  have:=hlt id hid
  rw [M1 id this,hl id this]
  exact ⟨hid,aS _,λ _=>rfl⟩
 have hhas:∀ b,M.has b->m.has b\/m'.has b:=by
  rintro b ⟨id,o,c,s,h⟩
  by_cases hi:id<H.length
  ·rw [M1 id hi] at h;exact .inl ⟨id,o,c,s,h⟩
  ·simp only [M,if_neg hi] at h;exact .inr ⟨_,o,c,s,h⟩
 have hnew:∀ b,m'.has b->w.heap.size<=b:=λ b h=>by
  rcases g.img b h with ⟨_,_,_,_,h⟩|h
  ·cases h
  ·exact h
 refine ⟨M,⟨λ id s rows hj=>?_,λ id es hj=>?_,λ id hid=>?_,λ id id' b o c s o' c' s' h1 h2=>?_,λ b hb=>?_,λ b hb=>bJ (R.ltF b hb) g.heap,λ b hb hF=>?_,λ gg cs hg=>(R.glob gg cs hg).mono (λ b hb=>hold b (R.ltF b hb)) λ _ h=>h⟩,
  ⟨g.heap,λ _ h=>h,λ _ h=>.inl h,λ b hb _=>hold b hb,λ id hid=>?_,λ b hb=>?_,g.os,g.tape,g.output,g.froz,by simp,λ id h1 h2=>?_⟩,hV,λ id b r hid hb hr hlt'=>?_⟩
 ·by_cases hi:id<H.length
  ·rw [aD hi] at hj
   rw [M1 id hi]
   rcases R.cells id s rows hj with h|h|⟨x,o',c',k1,k2⟩
   ·exact .inl h
   ·exact .inr (.inl h)
   ·exact .inr (.inr ⟨x,o',c',k1,k2.mono (hold x (R.lt x ⟨id,o',c',s,k1⟩)) hO⟩)
  ·obtain ⟨j,rfl⟩:∃ j,id=H.length+j:=⟨id-H.length,by omega⟩
   rw [Wi] at hj
   rw [M2]
   cases hX:X[j]? with
   |none=>rw [hX] at hj;cases hj
   |some b=>
    rw [hX] at hj
    cases b with
    |map es=>simp [zX] at hj
    |cells s0 rows0=>
     simp only [cA,zX,aC,zZ.cells.injEq] at hj
     obtain ⟨rfl,rfl⟩:=hj
     rcases R'.cells j s0 rows0 hX with h|⟨h,rfl⟩|⟨x,o',c',k1,k2⟩
     ·exact .inl h
     ·exact .inr (.inl ⟨h,rfl⟩)
     ·refine .inr (.inr ⟨x,o',c',k1,⟨by simpa using k2.room,?_,λ i r hr=>?_⟩⟩)
      ·obtain ⟨cur,t,c1,c2,c3⟩:=k2.cur
       refine ⟨cur,t,c1,c2,λ i r j p hr hp=>?_⟩
       rw [aN] at hr
       cases hq:rows0[i]? with
       |none=>simp [hq] at hr
       |some r0=>
        simp only [hq,cA,aC] at hr
        subst hr
        rw [Z',aN] at hp
        cases hq2:r0[j]? with
        |none=>simp [hq2] at hp
        |some p0=>
         simp only [hq2,cA,aC] at hp
         subst hp
         obtain ⟨v,v1,v2,v3⟩:=c3 i r0 j p0 hq hq2
         exact ⟨v,v1,v2,hV _ _ v3⟩
      ·rw [aN] at hr
       cases hq:rows0[i]? with
       |none=>simp [hq] at hr
       |some r0=>
        simp only [hq,cA,aC] at hr
        subst hr
        rw [Z',cF]
        exact k2.size i r0 hq
 ·by_cases hi:id<H.length
  ·rw [aD hi] at hj
   rw [M1 id hi]
   rcases R.maps id es hj with h|⟨x,k1,k2⟩
   ·exact .inl h
   ·exact .inr ⟨x,k1,k2.mono (hold x (R.lt x ⟨id,0,0,0,k1⟩)) hO⟩
  ·obtain ⟨j,rfl⟩:∃ j,id=H.length+j:=⟨id-H.length,by omega⟩
   rw [Wi] at hj
   rw [M2]
   cases hX:X[j]? with
   |none=>rw [hX] at hj;cases hj
   |some b=>
    rw [hX] at hj
    cases b with
    |cells s0 rows0=>simp [zX] at hj
    |map es0=>
     simp only [cA,zX,aC,zZ.map.injEq] at hj
     subst hj
     rcases R'.maps j es0 hX with h|⟨x,k1,k2⟩
     ·exact .inl h
     ·refine .inr ⟨x,k1,?_⟩
      obtain ⟨xs,clock,c1,c2,c3,c4⟩:=k2.cur
      refine ⟨⟨xs,clock,c1,by simpa using c2,λ i e y he hy=>?_,λ i e y he hy=>?_⟩,k2.born⟩
      all_goals
       rw [aN] at he
       cases hq:es0[i]? with
       |none=>simp [hq] at he
       |some e0=>
        simp only [hq,cA,aC] at he
        subst he
        first|exact hV _ _ (c3 i e0 y hq hy)|exact hV _ _ (c4 i e0 y hq hy)
 ·simp only [aQ,cF] at hid
  obtain ⟨j,rfl⟩:∃ j,id=H.length+j:=⟨id-H.length,by omega⟩
  rw [M2];exact R'.fresh j (by omega)
 ·by_cases hi:id<H.length
  ·by_cases hi':id'<H.length
   ·rw [M1 id hi] at h1;rw [M1 id' hi'] at h2
    exact R.inj _ _ _ _ _ _ _ _ _ h1 h2
   ·rw [M1 id hi] at h1
    simp only [M,if_neg hi'] at h2
    have:=R.lt b ⟨id,o,c,s,h1⟩
    have:=hnew b ⟨_,o',c',s',h2⟩
    omega
  ·by_cases hi':id'<H.length
   ·rw [M1 id' hi'] at h2
    simp only [M,if_neg hi] at h1
    have:=R.lt b ⟨id',o',c',s',h2⟩
    have:=hnew b ⟨_,o,c,s,h1⟩
    omega
   ·simp only [M,if_neg hi] at h1
    simp only [M,if_neg hi'] at h2
    have:=R'.inj _ _ _ _ _ _ _ _ _ h1 h2
    omega
 ·rcases hhas b hb with h|h
  ·exact bJ (R.lt b h) g.heap
  ·exact R'.lt b h
 ·rcases hhas b hb with h|h
  ·exact R.apart b h hF
  ·have:=hnew b h;have:=R.ltF b hF;omega
 ·have:=hlt id hid
  rw [M1 id this,hl id this]
  exact ⟨hid,aS _,λ _=>rfl⟩
 ·rcases hhas b hb with h|h
  ·exact .inl h
  ·exact .inr (hnew b h)
 ·rcases bS id H.length with h3|h3
  ·rw [M1 id h3] at h2;exact absurd h1 h2
  ·exact h3
 ·by_cases hi:id<H.length
  ·rw [aD hi] at hb
   exact .inl ⟨b,hb,hr⟩
  ·obtain ⟨j,rfl⟩:∃ j,id=H.length+j:=⟨id-H.length,by omega⟩
   rw [Wi] at hb
   rw [M2] at hid
   cases hX:X[j]? with
   |none=>rw [hX] at hb;cases hb
   |some b0=>
    rw [hX] at hb
    simp only [cA,aC] at hb
    subst hb
    obtain ⟨r',rfl,hr'⟩:=zsA _ _ _ hr
    rcases hf j b0 r' hid hX hr' (by omega) with ⟨b1,h1,_⟩|h1
    ·simp at h1
    ·exact .inr (bU.2 ⟨_,h1,rfl⟩)
def zcw (P:Program) (G:Nat->Option (List PV)) (o:Oper) (a:Act) (w:World) (F:Nat->Prop) (m:zR) (H:zd) (v:PV) (H':zd) (ed:zI) (q:Bool):Prop:=
 ∀ (K:Act->World->Prop) (Q:Exit->Act->World->Prop),
  (∀ cv w' F' m',yl G w' F' m' H'->wq w F m H w' F' m' H'->zo w' F' m' (zu H') v cv->(q=true->Kw w m H w' m' H')->(q=false->YQ m' H H' ed)->K (a.put o.dst cv) w')->o.wp P a w K Q
theorem zcw.ok {v:PV} {H':zd} {ed:zI} {q:Bool} (h:zcw P G o a w F m H v H' ed q):yd P G o a w F m H v H' q:=λ K Q hk=>h K Q λ cv w' F' m' h1 h2 h3 h4 _=>hk cv w' F' m' h1 h2 h3 h4
theorem zcw.call {C:Cl} (hC:JG P G C) (R:yl G w F m H) {md:zaF} {f:Nat} {args:List PV} {us:List Value} (hargs:yS (zo w F m (zu H)) args us) {v:PV} {H':zd} {ed:zI} (he:xH C H md f args=some (v,H',ed))
  (hr:(execOp a.eval o).run P w=.ok (.enter f us.toArray) w):zcw P G o a w F m H v H' ed (Jb md):=by
 intro K Q h
 unfold Oper.wp
 rw [hr,Oper.upon_enter]
 cases md with
 |pure=>
  unfold xH at he
  simp only at he
  split at he
  ·rename_i v' hp
   split at he
   ·rename_i hb
    injection he with he
    injection he with e1 e2
    injection e2 with e2 e3
    subst e1;subst e2;subst e3
    have Zq:∀ (F1:Nat->Prop),(∀ b,F b->F1 b)->(∀ b,F1 b->b<w.heap.size)->yS (RelF w F1) (args.map (frz 8 H)) us->(jn v'=true\/F1=F)->
      Calls P f us.toArray w fun
       |.returned v,w''=>K (a.put o.dst v) w''
       |.panicked chain,w''=>Q (.panic chain) a w''
       |.outgrown,_=>LetsOut Q:=by
     intro F1 k1 k2 k3 k4
     refine (hC.pure f _ v' hp w F1 us k3 k2 (λ g cs hg=>(R.glob g cs hg).sub k1)).mono ?_
     rintro e w' ⟨cv,rfl,q1,q2,q3,F',q4,q5,q6,q7⟩
     rcases k4 with k4|rfl
     ·obtain ⟨R',g',qq⟩:=R.world (F':=F) q1 q2 q3 (λ _ h=>h) (λ _ h=>.inl h) (λ b hb=>bJ (R.ltF b hb) q1)
      exact h cv w' F m R' g' (.froz _ _ (zvB k4 q7)) (λ _=>qq) λ h=>by cases h
     ·obtain ⟨R',g',qq⟩:=R.world (F':=F') q1 q2 q3 q4 q5 q6
      exact h cv w' F' m R' g' (.froz _ _ q7) (λ _=>qq) λ h=>by cases h
    by_cases hp':jn v'=true
    ·exact Zq (λ b=>F b\/m.has b) (λ b hb=>.inl hb) (λ b hb=>hb.elim (R.ltF b) (R.lt b)) (hargs.toRelF λ p v _ hv=>Vi R 8 hv) (.inl hp')
    ·have hn:zn args=[]:=by simpa [hp'] using hb
     have hl:∀ {cs:List PV},zn cs=[]->∀ p∈cs,refs p=[]:=by
      intro cs
      induction cs with
      |nil=>intro _ p hp;cases hp
      |cons c cs ihc=>
       intro h p hp
       simp only [zn,List.append_eq_nil_iff] at h
       cases hp with
       |head=>exact h.1
       |tail _ hp=>exact ihc h.2 p hp
     exact Zq F (λ b hb=>hb) R.ltF (hargs.toRelF λ p v hp hv=>zpq 8 (hl hn p hp) hv) (.inr rfl)
   ·cases he
  ·cases he
 |shared=>
  refine (hC.shared f args H v H' ed he w F m us R hargs).mono ?_
  rintro e w' ⟨cv,F',m',rfl,R',g',hv,hf⟩
  exact h cv w' F' m' R' g' hv (λ h=>by simp [Jb] at h) λ _=>hf
 |lend=>
  unfold xH at he
  simp only at he
  split at he
  ·rename_i v' X ed' hp
   injection he with he
   injection he with e1 e2
   injection e2 with e2 e3
   subst e1;subst e2;subst e3
   have hF1:∀ b,(F b\/m.has b)->b<w.heap.size:=λ b hb=>hb.elim (R.ltF b) (R.lt b)
   have R0:yl G w (λ b=>F b\/m.has b) (λ _=>.unk) []:=⟨λ id s rows h=>by simp at h,λ id es h=>by simp at h,λ _ _=>rfl,λ id id' b o c s o' c' s' h1 _=>(by cases h1),λ b hb=>(by obtain ⟨_,_,_,_,h⟩:=hb;cases h),hF1,λ b hb _=>(by obtain ⟨_,_,_,_,h⟩:=hb;cases h),λ g cs hg=>(R.glob g cs hg).sub λ b hb=>.inl hb⟩
   refine (hC.shared f _ [] v' X ed' hp w (λ b=>F b\/m.has b) (λ _=>.unk) us R0 ((hargs.toRelF (g:=frz 8 H) λ p v _ hv=>Vi R 8 hv).mono λ p v h=>.froz p v h)).mono ?_
   rintro e w' ⟨cv,F',m',rfl,R',g',hv,hf⟩
   obtain ⟨M,k1,k2,k3,k4⟩:=R.lend R' g' hf
   exact h cv w' F M k1 k2 (k3 _ _ hv) (λ h=>by simp [Jb] at h) λ _=>k4
  ·cases he
 |fresh=>
  unfold xH at he
  simp only at he
  split at he
  ·rename_i v' X ed' hp
   injection he with he
   injection he with e1 e2
   injection e2 with e2 e3
   subst e1;subst e2;subst e3
   have hF1:∀ b,(F b\/m.has b)->b<w.heap.size:=λ b hb=>hb.elim (R.ltF b) (R.lt b)
   have R0:yl G w (λ b=>F b\/m.has b) (λ _=>.unk) []:=⟨λ id s rows h=>by simp at h,λ id es h=>by simp at h,λ _ _=>rfl,λ id id' b o c s o' c' s' h1 _=>(by cases h1),λ b hb=>(by obtain ⟨_,_,_,_,h⟩:=hb;cases h),hF1,λ b hb _=>(by obtain ⟨_,_,_,_,h⟩:=hb;cases h),λ g cs hg=>(R.glob g cs hg).sub λ b hb=>.inl hb⟩
   refine (hC.shared f _ [] v' X ed' hp w (λ b=>F b\/m.has b) (λ _=>.unk) us R0 ((hargs.toRelF (g:=frz 8 H) λ p v _ hv=>Vi R 8 hv).mono λ p v h=>.froz p v h)).mono ?_
   rintro e w' ⟨cv,F',m',rfl,R',g',hv,hf⟩
   have R00:yl G w F (λ _=>.unk) []:=⟨λ id s rows h=>by simp at h,λ id es h=>by simp at h,λ _ _=>rfl,λ id id' b o c s o' c' s' h1 _=>(by cases h1),λ b hb=>(by obtain ⟨_,_,_,_,h⟩:=hb;cases h),R.ltF,λ b hb _=>(by obtain ⟨_,_,_,_,h⟩:=hb;cases h),λ g cs hg=>R.glob g cs hg⟩
   obtain ⟨M,k1,k2,k3,k4⟩:=R00.lend R' g' hf
   have hvv:=Vi k1 8 (k3 _ _ hv)
   have hM:∀ b,M.has b->w.heap.size<=b:=λ b hb=>by
    rcases k2.img b hb with ⟨_,_,_,_,h⟩|h
    ·cases h
    ·exact h
   obtain ⟨R2,g2,qq⟩:=R.world (F':=λ b=>F b\/M.has b) k2.heap (λ b hb=>k2.old b hb (by rintro ⟨_,_,_,_,h⟩;cases h)) ⟨k2.os,k2.tape,k2.output,k2.froz⟩ (λ _ h=>.inl h) (λ b h=>h.elim .inl λ h=>.inr (hM b h)) (λ b hb=>hb.elim (λ h=>bJ (R.ltF b h) k2.heap) λ h=>k1.lt b h)
   exact h cv w' _ m R2 g2 (.froz _ _ hvv) (λ _=>qq) λ h=>by cases h
  ·cases he
end
end
section
section
variable {P:Program} {G:Nat->Option (List PV)} {T:yh} {nt:Nat} {w:World} {F:Nat->Prop} {m:zR} {st:St} {a:Act} {o:Oper}
theorem uy (blk o n:Nat):(⟨blk,o,none⟩:Addr).add n=⟨blk,o+n,none⟩:=by unfold Addr.add;split<;>simp_all
theorem Qb {R:PV->Value->Prop} {cs:List PV} {g:Bool} {sz:Nat} {v:PV} (h:yp g sz cs=some v):
  (g=true/\sz<=cs.length/\v=.agg (cs.take sz))\/(g=false/\cs[0]?=some v):=by
 cases g with
 |true=>
  simp only [yp] at h
  split at h
  ·rename_i hb
   injection h with h
   exact .inl ⟨rfl,dP hb,h.symm⟩
  ·cases h
 |false=>
  simp only [yp] at h
  exact .inr ⟨rfl,by cases cs<;>simp_all⟩
theorem zCw (R:yl G w F m st.H) {t:TypeId} {x:Operand} (ho:o.op=.load t x) {g:Bool} {sz:Nat} (hg:zab P t=some g) (hs:vW P t=some sz) {y:PV} (hy:zo w F m (zu st.H) y (a.eval x))
  {cs:List PV} (hc:cellsAt st.H y=some cs) {v:PV} (hv:yp g sz cs=some v):yd P G o a w F m st.H v st.H true:=by
 obtain ⟨blk,off,hx,hl⟩:=R.cellsAt hc hy
 obtain ⟨i,hi,hi2⟩:=uv hs
 have ha:=zbp hg w
 obtain ⟨vs,h1,h2,h3⟩:=hl.all2
 rcases Qb (R:=zo w F m (zu st.H)) hv with ⟨rfl,hle,rfl⟩|⟨rfl,h0⟩
 ·have hlc:=run_loadCells_list (P:=P) w ⟨blk,off,none⟩ (vs.take sz) (λ j v hj=>by
   rw [uy]
   rw [bR] at hj
   split at hj
   ·exact h3 j v hj
   ·cases hj)
  rw [dG,d8 (by rw [h1.1];exact hle)] at hlc
  refine yd.same (cv:=.agg (vs.take sz).toArray) R ?_ (.agg _ _ (h1.take sz).1 (λ u hu=>h2 u (cP hu)) (h1.take sz).2)
  simp [execOp,ho,Instr.loadAt,Instr.sureAddr,hx,loadVar,ha,sizeOf,typeInfo,hi,hi2,hlc]
 ·obtain ⟨u,hu,hr⟩:=h1.get h0
  have:=h3 0 u hu
  rw [cN] at this
  refine yd.same (cv:=u) R ?_ hr
  simp [execOp,ho,Instr.loadAt,Instr.sureAddr,hx,loadVar,ha,this]
theorem zA0 (R:yl G w F m st.H) {t:TypeId} {x:Operand} {k:Nat} (ho:o.op=.field t x k) {fields:Array Field} (hu:P.underlying t=some (.struct fields)) {f:Field} (hf:fields[k]?=some f) {g:Bool} {sz:Nat}
  (hg:zab P f.type=some g) (hs:vW P f.type=some sz) {cs:List PV} (hy:zo w F m (zu st.H) (.agg cs) (a.eval x)) {v:PV} (hv:yp g sz (cs.drop f.offset)=some v):yd P G o a w F m st.H v st.H true:=by
 obtain ⟨vs,hx,h1,h2⟩:=hy.agg_inv
 obtain ⟨i,hi,hi2⟩:=uv hs
 have ha:=zbp hg w
 rcases Qb (R:=zo w F m (zu st.H)) hv with ⟨rfl,hle,rfl⟩|⟨rfl,h0⟩
 ·have h3:=(h1.drop f.offset).take sz
  refine yd.same (cv:=.agg ((vs.drop f.offset).take sz).toArray) R ?_ (.agg _ _ h3.1 (λ u hu=>h2 u (cV (cP hu))) h3.2)
  have he:vs.toArray.extract f.offset (f.offset+sz)=((vs.drop f.offset).take sz).toArray:=by
   simp [List.extract_eq_take_drop]
  simp only [execOp,ho,Instr.field,run_underlying hu,hx,asAgg,part,ha,sizeOf,typeInfo,hi,hi2,hf,Sem.run_bind,Sem.run_pure,Result.andThen_ok,program,Sem.run,if_true,he]
 ·obtain ⟨u,hu',hr⟩:=(h1.drop f.offset).get h0
  have h4:vs[f.offset]?=some u:=by rw [cT] at hu';simpa using hu'
  refine yd.same (cv:=u) R ?_ hr
  simp [execOp,ho,Instr.field,run_underlying hu,hx,asAgg,part,ha,hf,h4]
theorem zyo (R:yl G w F m st.H) {t e:TypeId} {x i:Operand} (ho:o.op=.index t x i) {n:Nat} (hu:P.underlying t=some (.array n e)) {g:Bool} {sz:Nat}
  (hg:zab P e=some g) (hs:vW P e=some sz) {cs:List PV} (hy:zo w F m (zu st.H) (.agg cs) (a.eval x)) {k:IntKind} {j:Int} (hi':a.eval i=.int k j) (h0:0<=j) (hn:j<n) {v:PV} (hv:yp g sz (cs.drop (j.toNat*sz))=some v):yd P G o a w F m st.H v st.H true:=by
 obtain ⟨vs,hx,h1,h2⟩:=hy.agg_inv
 obtain ⟨ie,hi,hi2⟩:=uv hs
 have ha:=zbp hg w
 rcases Qb (R:=zo w F m (zu st.H)) hv with ⟨rfl,hle,rfl⟩|⟨rfl,h0'⟩
 ·have h3:=(h1.drop (j.toNat*sz)).take sz
  refine yd.same (cv:=.agg ((vs.drop (j.toNat*sz)).take sz).toArray) R ?_ (.agg _ _ h3.1 (λ u hu=>h2 u (cV (cP hu))) h3.2)
  have he:vs.toArray.extract (j.toNat*sz) (j.toNat*sz+sz)=((vs.drop (j.toNat*sz)).take sz).toArray:=by
   simp [List.extract_eq_take_drop]
  simp only [execOp,ho,Instr.index,run_underlying hu,hx,hi',asIntOf,part,ha,sizeOf,typeInfo,hi,hi2,Sem.run_bind,Sem.run_pure,Result.andThen_ok,program,Sem.run,if_pos (And.intro h0 hn),if_true,he]
 ·obtain ⟨u,hu',hr⟩:=(h1.drop (j.toNat*sz)).get h0'
  have h4:vs[j.toNat*sz]?=some u:=by rw [cT] at hu';simpa using hu'
  refine yd.same (cv:=u) R ?_ hr
  simp [execOp,ho,Instr.index,run_underlying hu,hx,hi',asIntOf,part,ha,sizeOf,typeInfo,hi,hi2,h0,hn,h4]
theorem zul {op:BinOp} {t:TypeId} (ht:zov P t=true) {x y:PV} {u v:Value} {L:Nat->Nat} (hx:zo w F m L x u) (hy:zo w F m L y v) {z:PV} (h:bin op x y=some z):
  ∃ cv,(binOp op t u v).run P w=.ok cv w/\RelF w F z cv/\∀ w:World,(eqGuard op t (.const .nilFunc) (.const .nilFunc) u v).run P w=.ok () w:=by
 cases x<;>cases y<;>simp only [bin] at h<;>try (cases h;done)
 case int.int k a k' b=>
  split at h
  ·rename_i hk
   have hk:k=k':=by simpa using hk
   subst hk
   rw [hx.int_inv,hy.int_inv]
   cases op<;>simp only [Zj] at h<;>first
    |(injection h with h;subst h;exact ⟨_,by simp [binOp,Op.intArith,Op.intCmp];rfl,by constructor,λ w=>by simp [eqGuard]⟩)
    |(split at h
      ·cases h
      ·rename_i h0
       injection h with h
       subst h
       exact ⟨_,by simp [binOp,Op.intDiv,h0];rfl,by constructor,λ w=>by simp [eqGuard]⟩)
    |(cases h;done)
  ·cases h
 case flt.flt k a k' b=>
  split at h
  ·rename_i hk
   have hk:k=k':=by simpa using hk
   subst hk
   rw [hx.flt_inv,hy.flt_inv]
   cases op<;>simp only [KS] at h<;>first
    |(injection h with h;subst h;exact ⟨_,by simp [binOp,Op.floatCmp];rfl,by constructor,λ w=>by simp [eqGuard]⟩)
    |(split at h
      ·rename_i r hr
       injection h with h
       subst h
       exact ⟨_,by simp [binOp,Op.floatArith,hr];rfl,by constructor,λ w=>by simp [eqGuard]⟩
      ·cases h)
    |(cases h;done)
  ·cases h
 case str.str a b=>
  rw [hx.str_inv,hy.str_inv]
  cases op<;>simp only [zbK] at h<;>first
   |(injection h with h;subst h;exact ⟨_,by simp [binOp,Op.stringOp];rfl,by constructor,λ w=>by simp [eqGuard]⟩)
   |(split at h
     ·rename_i h0
      injection h with h
      subst h
      exact ⟨_,by simp [binOp,Op.stringOp,IntKind.max,IntKind.signed,IntKind.bits];omega,.str _,λ w=>by simp [eqGuard]⟩
     ·cases h)
   |(cases h;done)
theorem zjS (op:BinOp) (t:TypeId) (x y:Operand) (u v:Value) (hu:u≠.nilIface):eqGuard op t x y u v=eqGuard op t (.const .nilFunc) (.const .nilFunc) u v:=by
 unfold eqGuard
 cases u<;>first|(exact absurd rfl hu)|(cases v<;>rfl)
theorem zDF (R:yl G w F m st.H) {op:BinOp} {t t':TypeId} {x y:Operand} (ho:o.op=.binOp op t x y t') (ht:zov P t=true) {px py z:PV} (hx:zo w F m (zu st.H) px (a.eval x)) (hy:zo w F m (zu st.H) py (a.eval y))
  (h:bin op px py=some z):yd P G o a w F m st.H z st.H true:=by
 obtain ⟨cv,h1,h2,h3⟩:=zul ht hx hy h
 have hne:a.eval x≠.nilIface:=by
  intro e
  rw [e] at hx
  cases hx with
  |froz _ _ h'=>cases h'<;>simp [bin] at h
 refine yd.same (cv:=cv) R ?_ (.froz _ _ h2)
 simp only [execOp,ho,zjS op t x y _ _ hne,Sem.run_bind,h3,h1,Result.andThen_ok,Sem.run_pure]
theorem zj8 {w:World} {t:TypeId} (hu:P.underlying t=some .bool) (d:Nat) (p q:Bool):(Op.equalIn (d+1) t (.bool p) (.bool q)).run P w=.ok (p==q) w:=by
 simp [Op.equalIn,run_underlying hu]
theorem zDH (R:yl G w F m st.H) {op:BinOp} {t t':TypeId} {x y:Operand} (ho:o.op=.binOp op t x y t') (ht:zkp P t=true) {neg:Bool} (hn:ziF op=some neg) {p q:Bool} (hx:a.eval x=.bool p) (hy:a.eval y=.bool q):
  yd P G o a w F m st.H (.bool (JP neg (p==q))) st.H true:=by
 have hu:P.underlying t=some .bool:=by
  unfold zkp at ht
  split at ht
  ·assumption
  ·cases ht
 have hg:∀ op,(eqGuard op t x y (.bool p) (.bool q)).run P w=.ok () w:=λ op=>by cases op<;>rfl
 have he:(Op.equal t (.bool p) (.bool q)).run P w=.ok (p==q) w:=zj8 hu 9999 p q
 refine yd.same (cv:=.bool (JP neg (p==q))) R ?_ (.froz _ _ (.bool _))
 cases op<;>simp only [ziF] at hn<;>first
  |(cases hn;done)
  |(injection hn with hn
    subst hn
    simp only [execOp,ho,hx,hy,Sem.run_bind,hg,binOp,he,Result.andThen_ok,Sem.run_pure,JP])
theorem zyR (k:IntKind) (n:Int):k.wrap ((BitVec.ofInt k.bits (-1) ^^^ BitVec.ofInt k.bits n).toNat:Int)=k.wrap (-1-n):=by
 have h1:BitVec.ofInt k.bits (-1)=BitVec.allOnes k.bits:=by cases k<;>rfl
 rw [h1,BitVec.allOnes_xor,BitVec.toNat_not,BitVec.toNat_ofInt]
 have e:((2 ^ k.bits-1-(n%((2 ^ k.bits:Nat):Int)).toNat:Nat):Int)%(2 ^ k.bits:Int)=(-1-n)%(2 ^ k.bits:Int):=by
  have hM:(2 ^ k.bits:Int)=((2 ^ k.bits:Nat):Int):=by simp
  rw [hM]
  have hp:0<2 ^ k.bits:=Nat.two_pow_pos _
  generalize 2 ^ k.bits=M at *
  have r0:=Int.emod_nonneg n (show (M:Int)≠0 by omega)
  have r1:=Int.emod_lt_of_pos n (show (0:Int)<M by omega)
  have e1:((M-1-(n%(M:Int)).toNat:Nat):Int)=(-1-n%(M:Int))+M*1:=by omega
  rw [e1,Int.add_mul_emod_self_left,Int.sub_emod,Int.emod_emod_of_dvd _ (Int.dvd_refl _), <-Int.sub_emod]
 simp only [IntKind.wrap,e]
theorem zEg (R:yl G w F m st.H) {op:UnOp} {t:TypeId} {x:Operand} (ho:o.op=.unOp op t x) {px z:PV} (hx:zo w F m (zu st.H) px (a.eval x)) (h:un op px=some z):yd P G o a w F m st.H z st.H true:=by
 cases px<;>simp only [un] at h<;>try (cases h;done)
 case int k n=>
  have hv:=hx.int_inv
  cases op<;>simp only at h<;>try (cases h;done)
  case neg=>
   injection h with h
   subst h
   exact yd.same (cv:=.int k (k.wrap (0-n))) R (by simp [execOp,ho,hv,Op.unary,Op.intArith]) (.froz _ _ (.int _ _))
  case xor=>
   split at h
   ·rename_i hs
    injection h with h
    subst h
    refine yd.same (cv:=.int k (k.wrap (-1-n))) R ?_ (.froz _ _ (.int _ _))
    simp only [execOp,ho,hv,Op.unary,hs,if_true,Sem.run_bind,Op.intBits,zyR,Sem.run_pure,Result.andThen_ok]
   ·cases h
 case bool b=>
  have hv:=hx.bool_inv
  cases op<;>simp only at h<;>try (cases h;done)
  injection h with h
  subst h
  exact yd.same (cv:=.bool (!b)) R (by simp [execOp,ho,hv,Op.unary]) (.froz _ _ (.bool _))
theorem zCt (R:yl G w F m st.H) {s d:TypeId} {x:Operand} (ho:o.op=.convert s d x) {k0 k k':IntKind} (hs:P.underlying s=some (.int k0)) (hd:P.underlying d=some (.int k)) {n:Int} (hx:a.eval x=.int k' n):
  yd P G o a w F m st.H (.int k (k.wrap n)) st.H true:=
 yd.same (cv:=.int k (k.wrap n)) R (by simp [execOp,ho,hx,convert,run_underlying hs,run_underlying hd,Conv.intToInt]) (.froz _ _ (.int _ _))
theorem zDJ (R:yl G w F m st.H) {s d:TypeId} {x:Operand} (ho:o.op=.convert s d x) {k0 k':IntKind} (hs:P.underlying s=some (.int k0)) (hd:P.underlying d=some (.float .f64)) {n:Int} (hx:a.eval x=.int k' n):
  yd P G o a w F m st.H (.flt .f64 (FloatKind.f64.nearest n)) st.H true:=
 yd.same (cv:=.float .f64 (FloatKind.f64.nearest n)) R (by simp [execOp,ho,hx,convert,run_underlying hs,run_underlying hd,Conv.intToFloat]) (.froz _ _ (.flt _ _))
theorem zDG (R:yl G w F m st.H) {t:TypeId} {x:Operand} (ho:o.op=.box t x) {y:PV} (hy:zo w F m (zu st.H) y (a.eval x)) (hl:(cellsOf y).all zH=true):
  yd P G o a w F m st.H (.ptr st.H.length 0 0 1) (st.H++[.cells (cellsOf y).length [cellsOf y]]) true:=by
 obtain ⟨h1,h2⟩:=hy.cells hl
 refine yd.alloc (cv:=.pointer (some ⟨w.heap.size,0,none⟩)) (cap:=1) (s:=(cellsOf y).length) (rows:=[cellsOf y]) (cur:=(a.eval x).cells) (t:=t) R ?_ (by simp) ?_ ?_ ?_ ?_
 ·simp [execOp,ho,Instr.box,newVar,newRow,newObj];rfl
 ·have:=h1.1;simp at this;omega
 ·intro i r hi;cases i<;>simp at hi;subst hi;rfl
 ·intro i r j p hi hj
  cases i<;>simp at hi
  subst hi
  obtain ⟨u,hu,hr⟩:=h1.get hj
  exact ⟨u,by simpa using hu,h2 u (aJ hu),hr⟩
 ·intro m' hm
  have:=zo.ptr (w:=w.alloc (.cells (a.eval x).cells t (0,0))) (F:=F) (L:=zu (st.H++[.cells (cellsOf y).length [cellsOf y]])) st.H.length 0 0 1 w.heap.size 0 1 (cellsOf y).length hm (by simp [zu])
  simpa using this
theorem zAZ (R:yl G w F m st.H) {t:TypeId} (ho:o.op=.alloc t) {z:List PV} (hz:Zx P t=some z):yd P G o a w F m st.H (.ptr st.H.length 0 0 1) (st.H++[.cells z.length [z]]) true:=by
 obtain ⟨i,zv,hi,hzv,hc⟩:=Wy hz
 obtain ⟨h1,h2,h3⟩:=vA (w:=w) (F:=F) hc
 refine yd.alloc (cv:=.pointer (some ⟨w.heap.size,0,none⟩)) (cap:=1) (s:=z.length) (rows:=[z]) (cur:=zv.cells) (t:=t) R ?_ (by simp) ?_ ?_ ?_ ?_
 ·simp [execOp,ho,Instr.alloc,zeroValue,typeInfo,hi,hzv,newVar,newRow,newObj];rfl
 ·have:=h1.1;simp at this;omega
 ·intro i r hi;cases i<;>simp at hi;subst hi;rfl
 ·intro i r j p hi hj
  cases i<;>simp at hi
  subst hi
  obtain ⟨u,hu,hr⟩:=h1.get hj
  exact ⟨u,by simpa using hu,h2 u (aJ hu),.froz _ _ hr⟩
 ·intro m' hm
  have:=zo.ptr (w:=w.alloc (.cells zv.cells t (0,0))) (F:=F) (L:=zu (st.H++[.cells z.length [z]])) st.H.length 0 0 1 w.heap.size 0 1 z.length hm (by simp [zu])
  simpa using this
theorem zym (R:yl G w F m st.H) {t:TypeId} {x:Operand} {k:Nat} (ho:o.op=.fieldAddr t x k) {fields:Array Field} (hu:P.underlying t=some (.struct fields)) {f:Field} (hf:fields[k]?=some f) {sz:Nat} (hs:vW P f.type=some sz) (h0:sz≠0)
  {y z:PV} (hy:zo w F m (zu st.H) y (a.eval x)) (hz:(match y with|.ptr id row off tot=>some (.ptr id row (off+f.offset) tot)|.fp cs off=>some (.fp cs (off+f.offset))|_=>none)=some z):yd P G o a w F m st.H z st.H true:=by
 obtain ⟨i,hi,hi2⟩:=uv hs
 have hrun':∀ ad,a.eval x=.pointer (some ad)->(execOp a.eval o).run P w=.ok (.value (.pointer (some (ad.add f.offset)))) w:=by
  intro ad hx
  have:i.size≠0:=by omega
  simp [execOp,ho,Instr.fieldAt,run_underlying hu,hf,hx,Instr.sureAddr,fieldPlace,sizeOf,typeInfo,hi,this]
 have hrun:∀ blk off,a.eval x=.pointer (some ⟨blk,off,none⟩)->(execOp a.eval o).run P w=.ok (.value (.pointer (some ⟨blk,off+f.offset,none⟩))) w:=by
  intro blk off hx
  rw [<-uy]
  exact hrun' _ hx
 cases y<;>simp only at hz<;>try (cases hz;done)
 case fp cs off=>
  injection hz with hz
  subst hz
  cases hy with
  |froz _ _ h=>
   generalize hx:a.eval x=v at h
   cases h with
   |fp _ blk o' _ f' hF h1 hw h=>
    refine yd.same R (hrun blk (o'+off) hx) (.froz _ _ ?_)
    rw [bZ]
    exact .fp cs blk o' (off+f.offset) f' hF h1 hw h
 case ptr id row off tot=>
  injection hz with hz
  subst hz
  generalize hx:a.eval x=v at hy
  cases hy with
  |froz _ _ h=>cases h
  |ptr _ _ _ _ blk o' cap s hm hL=>
   refine yd.same R (hrun blk (o'+row*s+off) hx) ?_
   rw [bZ]
   exact .ptr id row (off+f.offset) tot blk o' cap s hm hL
  |ptrOld _ _ _ _ ad hm hL=>exact yd.same R (hrun' ad hx) (.ptrOld id row (off+f.offset) tot _ hm hL)
end
end
section
section
variable {P:Program} {G:Nat->Option (List PV)} {T:yh} {nt:Nat} {w:World} {F:Nat->Prop} {m:zR} {st:St} {a:Act} {o:Oper}
theorem znt (cells:List Value):∀ (vs:List Value) (off k:Nat) (cs:Array Value),off+k+vs.length<=cs.size->
  ((vs.zipIdx k).foldl (λ (cs:Array Value) (x:Value×Nat)=>cs.setIfInBounds (off+x.2) x.1) cs).toList=cs.toList.take (off+k)++vs++cs.toList.drop (off+k+vs.length)
 |[],off,k,cs,h=>by simp
 |v::vs,off,k,cs,h=>by
  simp only [bC] at h
  rw [List.zipIdx_cons,List.foldl_cons,znt cells vs off (k+1) _ (by simp;omega)]
  simp only [Array.toList_setIfInBounds,bC]
  have hk:off+k<cs.toList.length:=by simp;omega
  have hlen:cs.toList.length=cs.size:=by simp
  rw [List.take_set,show off+(k+1)=off+k+1 by omega,List.drop_set]
  rw [if_pos (by omega)]
  have ht:(cs.toList.take (off+k+1)).set (off+k) v=cs.toList.take (off+k)++[v]:=by
   rw [List.take_succ_eq_append_getElem hk,List.set_append]
   rw [if_neg (by simp;omega)]
   simp [show off+k-min (off+k) cs.size=0 by omega]
  rw [ht,show off+k+1+vs.length=off+k+(vs.length+1) by omega]
  simp
theorem znr (place:Nat->Option (Nat×Nat)) (cells:Array Value) (i off sz:Nat) (v:Value) (rest:List (Nat×Value)) (hp:place i=some (off,sz)) (hs:v.cells.size=sz) (hf:off+sz<=cells.size):
  Instr.fill place cells ((i,v)::rest)=Instr.fill place (cells.toList.take off++v.cells.toList++cells.toList.drop (off+sz)).toArray rest:=by
 simp only [Instr.fill,hp]
 rw [if_neg (by simp [hs];omega)]
 congr 1
 apply Array.ext'
 have:=znt [] v.cells.toList off 0 cells (by simp [hs];omega)
 simp only [cN] at this
 rw [<-Array.foldl_toList,Array.toList_zipIdx]
 rw [this]
 simp [hs]
theorem zgy {R:PV->Value->Prop} {place:Nat->Option (Nat×Nat)}:∀ {ps:List (Nat×Nat×PV)} {parts:List (Nat×Value)} {cs:List PV} {cells:List Value} {out:List PV},
  ps.length=parts.length->(∀ (i:Nat) p x,ps[i]?=some p->parts[i]?=some x->place x.1=some (p.1,p.2.1)/\(cellsOf p.2.2).length=p.2.1/\((cellsOf p.2.2).all zH=true->yS R (cellsOf p.2.2) x.2.cells.toList/\∀ u∈x.2.cells.toList,u.oneCell'=true))->
  yS R cs cells->(∀ u∈cells,u.oneCell'=true)->uc cs (ps.map λ p=>(p.1,cellsOf p.2.2))=some out->
  ∃ res:List Value,Instr.fill place cells.toArray parts=some res.toArray/\yS R out res/\∀ u∈res,u.oneCell'=true
 |[],[],cs,cells,out,_,_,h1,h2,h=>by
  simp only [bA,uc,aC] at h
  subst h
  exact ⟨cells,rfl,h1,h2⟩
 |[],_::_,_,_,_,h,_,_,_,_=>by simp at h
 |_::_,[],_,_,_,h,_,_,_,_=>by simp at h
 |(off,sz,p)::ps,(i,v)::parts,cs,cells,out,hl,hp,h1,h2,h=>by
  simp only [aM,uc] at h
  split at h
  ·rename_i hb
   simp only [aU,Nat.ble_eq] at hb
   obtain ⟨k1,k2,k3⟩:=hp 0 _ _ rfl rfl
   obtain ⟨k4,k5⟩:=k3 hb.2
   have k2:(cellsOf p).length=sz:=k2
   have hsz:v.cells.size=sz:=by have:=k4.1;simp at this;omega
   have hfit:off+sz<=cells.toArray.size:=by have:=h1.1;simp at *; omega
   rw [znr place cells.toArray i off sz v parts k1 hsz hfit]
   have e1:yS R (cs.take off++cellsOf p++cs.drop (off+(cellsOf p).length)) (cells.take off++v.cells.toList++cells.drop (off+sz)):=by
    have:=((h1.take off).append k4).append (h1.drop (off+(cellsOf p).length))
    rw [show (cellsOf p).length=sz from k2] at this ⊢
    exact this
   have e2:∀ u∈cells.take off++v.cells.toList++cells.drop (off+sz),u.oneCell'=true:=by
    intro u hu
    simp only [aX] at hu
    rcases hu with (hu|hu)|hu
    ·exact h2 u (cP hu)
    ·exact k5 u hu
    ·exact h2 u (cV hu)
   exact zgy (by simpa using hl) (λ j q x hq hx=>hp (j+1) q x (by simpa using hq) (by simpa using hx)) e1 e2 h
  ·cases h
theorem zaT (R:yl G w F m st.H) (E:vX T nt (zo w F m (zu st.H)) st a) {place:Nat->Option (Nat×Nat)}:∀ {parts:List (Nat×Operand)} {ps:List (Nat×Nat×zy)},Xm T place parts=some ps->
  ps.length=parts.length/\∀ (i:Nat) p x,ps[i]?=some p->parts[i]?=some x->place x.1=some (p.1,p.2.1)/\zo w F m (zu st.H) (p.2.2.get G st) (a.eval x.2)
 |[],ps,h=>by simp only [Xm,aC] at h;subst h;exact ⟨rfl,λ i p x h=>by simp at h⟩
 |(i,x)::parts,ps,h=>by
  simp only [Xm] at h
  split at h
  ·rename_i off sz y qs h1 h2 h3
   injection h with h
   subst h
   obtain ⟨k1,k2⟩:=zaT R E h3
   refine ⟨by simp [k1],λ j p z hp hz=>?_⟩
   cases j with
   |zero=>simp at hp hz;subst hp;subst hz;exact ⟨h1,yg R E h2⟩
   |succ j=>simp at hp hz;exact k2 j p z hp hz
  ·cases h
theorem ze5:∀ {fs:List Field} {ps:List (Nat×Nat)},Yt P fs=some ps->fs.mapM (λ f=>(P.info? f.type).map λ i=>(f.offset,i.size))=some ps
 |[],ps,h=>by simp only [Yt,aC] at h;subst h;rfl
 |f::fs,ps,h=>by
  simp only [Yt] at h
  split at h
  ·rename_i i qs h1 h2
   injection h with h
   subst h
   simp [List.mapM_cons,h1,ze5 h2]
  ·cases h
theorem zsa (R:yl G w F m st.H) {t:TypeId} {parts:Array (Nat×Operand)} (ho:o.op=.build t parts) {z:List PV} (hz:Zx P t=some z) {place:Nat->Option (Nat×Nat)} {ps:List (Nat×Nat×zy)}
  (hpl:∀ (xs:List (Nat×Value)) (zv:Value) (i:TypeInfo) (cells:Array Value),P.info? t=some i->i.zero=some zv->Instr.fill place zv.cells xs=some cells->P.built t xs=some cells)
  (hps:ps.length=parts.toList.length/\∀ (i:Nat) p x,ps[i]?=some p->parts.toList[i]?=some x->place x.1=some (p.1,p.2.1)/\zo w F m (zu st.H) (p.2.2.get G st) (a.eval x.2))
  (hall:(ps.all λ p=>(cellsOf (p.2.2.get G st)).length==p.2.1)=true) {cs:List PV} (hf:uc z (ps.map λ p=>(p.1,cellsOf (p.2.2.get G st)))=some cs):yd P G o a w F m st.H (.agg cs) st.H true:=by
 obtain ⟨i,zv,hi,hzv,hc⟩:=Wy hz
 obtain ⟨h1,h2,h3⟩:=vA (w:=w) (F:=F) hc
 have key:=zgy (R:=zo w F m (zu st.H)) (place:=place) (ps:=ps.map λ p=>(p.1,p.2.1,p.2.2.get G st)) (parts:=parts.toList.map λ x=>(x.1,a.eval x.2)) (cs:=z) (cells:=zv.cells.toList) (out:=cs)
  (by simp [hps.1]) (λ j p x hp hx=>by
   rw [aN] at hp hx
   cases hp':ps[j]? with
   |none=>simp [hp'] at hp
   |some p'=>
    cases hx':parts.toList[j]? with
    |none=>rw [hx'] at hx;simp at hx
    |some x'=>
     simp [hp'] at hp
     rw [hx'] at hx
     simp at hx
     subst hp;subst hx
     obtain ⟨k1,k2⟩:=hps.2 j p' x' hp' hx'
     refine ⟨k1,?_,λ hl=>k2.cells hl⟩
     have:=aZ.1 hall p' (aJ hp')
     simpa using this)
  (h1.mono λ p v h=>.froz _ _ h) h2 (by simpa [cZ,Function.comp_def] using hf)
 obtain ⟨res,e1,e2,e3⟩:=key
 have hb:=run_build (P:=P) w t (parts.map λ (i,x)=>(i,a.eval x)) res.toArray (hpl _ zv i _ hi hzv (by simpa [Array.toList_map] using e1))
 refine yd.same (cv:=.agg res.toArray) R ?_ (.agg _ _ e2.1 e3 e2.2)
 simp only [execOp,ho,Sem.run_bind,hb,Result.andThen_ok,Sem.run_pure]
theorem zvU (R:yl G w F m st.H) {t e:TypeId} {l c:Operand} (ho:o.op=.makeSlice t l c) {sz by':Nat} (he:kC P t=some (e,sz,by')) {z:List PV} (hz:Zx P e=some z) (hzl:z.length=sz)
  {n:Int} (hl:a.eval l=.int .i64 n) (hc:a.eval c=.int .i64 n) (h0:0<=n) (hb:n*by'<=35184372088832) (hn:n<9223372036854775808):
  yd P G o a w F m st.H (.sl st.H.length 0 n.toNat n.toNat) (st.H++[.cells sz (List.replicate n.toNat z)]) true:=by
 obtain ⟨hu,i,hi,hi2,hi3,hs0,hb0⟩:=kR he
 obtain ⟨i',zv,hi',hzv,hcz⟩:=Wy hz
 rw [hi] at hi'
 injection hi' with hi'
 subst hi'
 obtain ⟨h1,h2,h3⟩:=vA (w:=w) (F:=F) hcz
 have hzs:zv.cells.size=sz:=by have:=h1.1;simp at this;omega
 have hw:IntKind.i64.wrap n=n:=by
  have e1:n%(2 ^ 64:Int)=n:=Int.emod_eq_of_lt h0 (by omega)
  simp only [IntKind.wrap,IntKind.bits,IntKind.signed,e1]
  rw [if_neg (by simp;omega)]
 have hroom:¬ (n.toNat*by'>roomBytes):=by
  unfold roomBytes
  have:((n.toNat*by':Nat):Int)=n*by':=by rw [Int.natCast_mul,Int.toNat_of_nonneg h0]
  omega
 have hlarge:¬ ((by':Int)*n>2 ^ 48):=by
  rw [Int.mul_comm]
  omega
 refine yd.alloc (cv:=.slice (some ⟨w.heap.size,0,none⟩) n.toNat n.toNat) (cap:=n.toNat) (s:=sz) (rows:=List.replicate n.toNat z) (cur:=(Array.range (n.toNat*sz)).map λ k=>zv.cells[k%zv.cells.size]!) (t:=e) R ?_ (by simp) (by simp) ?_ ?_ ?_
 ·by_cases hz':n.toNat*sz=0
  ·have hn0:n.toNat=0:=by rcases Nat.mul_eq_zero.1 hz' with h|h<;>omega
   have hn0':n=0:=by omega
   subst hn0'
   have hr0:Array.range 0=#[]:=rfl
   simp [execOp,ho,Instr.makeSlice,run_underlying hu,hl,hc,asInt,asIntOf,typeInfo,hi,hw,sizeOf,askRoom,roomBytes,newRow,newObj,hr0,Sem.run]
  ·simp [execOp,ho,Instr.makeSlice,run_underlying hu,hl,hc,asInt,asIntOf,typeInfo,hi,hi2,hi3,hw,sizeOf,askRoom,hroom,hlarge,newRow,newObj,hz',zeroValue,hzv,Sem.run]
   intro hx
   exfalso
   have hl':¬ (281474976710656<(by':Int)*n):=by simpa using hlarge
   omega
 ·intro j r hj
  rw [cE] at hj
  split at hj
  ·injection hj with hj;subst hj;exact hzl
  ·cases hj
 ·intro j r k p hj hk
  rw [cE] at hj
  split at hj
  ·rename_i hjn
   injection hj with hj
   subst hj
   obtain ⟨u,hu',hr⟩:=h1.get hk
   have hks:k<sz:=by have:=(aF.1 hk).1;omega
   refine ⟨u,?_,h2 u (aJ hu'),.froz _ _ hr⟩
   have hlt:j*sz+k<n.toNat*sz:=by
    calc j*sz+k<j*sz+sz:=by omega
     _=(j+1)*sz:=by rw [cH];omega
     _<=n.toNat*sz:=bF _ hjn
   rw [Array.getElem?_map,Array.getElem?_range,if_pos hlt]
   simp only [cA]
   have hmod:(j*sz+k)%zv.cells.size=k:=by rw [hzs,Nat.add_comm,Nat.add_mul_mod_self_right,Nat.mod_eq_of_lt hks]
   rw [hmod]
   have hk':k<zv.cells.size:=by omega
   rw [getElem!_pos zv.cells k hk']
   rw [cS] at hu'
   rw [bV hk'] at hu'
   exact hu'
  ·cases hj
 ·intro m' hm
  have:=zo.sl (w:=w.alloc (.cells ((Array.range (n.toNat*sz)).map λ k=>zv.cells[k%zv.cells.size]!) e (0,0))) (F:=F) (L:=zu (st.H++[.cells sz (List.replicate n.toNat z)])) st.H.length 0 n.toNat n.toNat w.heap.size 0 n.toNat sz ⟨w.heap.size,0,none⟩ hm (by simp [zu]) (by omega) (aS _) (.inr (by simp))
  simpa using this
theorem zp1 (R:yl G w F m st.H) (E:vX T nt (zo w F m (zu st.H)) st a) {t e:TypeId} {len:Nat} {parts:Array (Nat×Operand)} (ho:o.op=.buildSlice t len parts) {sz by':Nat} (he:kC P t=some (e,sz,by')) {z:List PV} (hz:Zx P e=some z) (hzl:z.length=sz)
  {ps:List (Nat×zy)} (hps:U0 T parts.toList=some ps) (hbig:len*sz<=16777216) {rows:List (List PV)} (hf:zS (List.replicate len z) (ps.map λ p=>(p.1,cellsOf (p.2.get G st)))=some rows):
  yd P G o a w F m st.H (.sl st.H.length 0 len len) (st.H++[.cells sz rows]) true:=by
 obtain ⟨hu,i,hi,hi2,hi3,hs0,hb0⟩:=kR he
 obtain ⟨i',zv,hi',hzv,hcz⟩:=Wy hz
 rw [hi] at hi'
 injection hi' with hi'
 subst hi'
 obtain ⟨h1,h2,h3⟩:=vA (w:=w) (F:=F) hcz
 have hzs:zv.cells.size=sz:=by have:=h1.1;simp at this;omega
 have key:∀ (qs:List (Nat×zy)) (xs:List (Nat×Operand)),U0 T xs=some qs->∀ (rs:List (List PV)) (cells:Array Value) (out:List (List PV)),(∀ r∈rs,r.length=sz)->cells.size=rs.length*sz->
   (∀ (i:Nat) (r:List PV) (j:Nat) (p:PV),rs[i]?=some r->r[j]?=some p->∃ u,cells[i*sz+j]?=some u/\u.oneCell'=true/\zo w F m (zu st.H) p u)->
   zS rs (qs.map λ p=>(p.1,cellsOf (p.2.get G st)))=some out->
   ∃ cells',Instr.fill (λ i=>some (i*sz,sz)) cells (xs.map λ x=>(x.1,a.eval x.2))=some cells'/\out.length=rs.length/\(∀ r∈out,r.length=sz)/\cells'.size=rs.length*sz/\
    ∀ (i:Nat) (r:List PV) (j:Nat) (p:PV),out[i]?=some r->r[j]?=some p->∃ u,cells'[i*sz+j]?=some u/\u.oneCell'=true/\zo w F m (zu st.H) p u:=by
  intro qs xs
  induction xs generalizing qs with
  |nil=>
   intro hq rs cells out k1 k2 k3 hfr
   simp only [U0,aC] at hq
   subst hq
   simp only [bA,zS,aC] at hfr
   subst hfr
   exact ⟨cells,rfl,rfl,k1,k2,k3⟩
  |cons x xs ih=>
   intro hq rs cells out k1 k2 k3 hfr
   obtain ⟨ix,x⟩:=x
   simp only [U0] at hq
   split at hq
   ·rename_i y qs' e1 e2
    injection hq with hq
    subst hq
    simp only [aM,zS] at hfr
    split at hfr
    ·rename_i r0 hr0
     split at hfr
     ·rename_i hb
      simp only [aU,beq_iff_eq] at hb
      have hv:=yg R E e1
      obtain ⟨c1,c2⟩:=hv.cells hb.2
      have hlen0:r0.length=sz:=k1 r0 (aJ hr0)
      have hvs:(a.eval x).cells.size=sz:=by have:=c1.1;simp at this;omega
      have hix:ix<rs.length:=(aF.1 hr0).1
      have hfit:ix*sz+sz<=cells.size:=by
       rw [k2]
       calc ix*sz+sz=(ix+1)*sz:=by rw [cH];omega
        _<=rs.length*sz:=bF _ hix
      rw [aM,znr (λ i=>some (i*sz,sz)) cells ix (ix*sz) sz (a.eval x) _ rfl hvs hfit]
      have hts:(cells.toList.take (ix*sz)).length=ix*sz:=by simp;omega
      have hsz':(cells.toList.take (ix*sz)++(a.eval x).cells.toList++cells.toList.drop (ix*sz+sz)).toArray.size=rs.length*sz:=by simp;omega
      obtain ⟨cells',g1,g2,g3,g4,g5⟩:=ih qs' e2 (rs.set ix (cellsOf (y.get G st))) _ out (λ r hr=>by
       rcases dC hr with h|h
       ·exact k1 r h
       ·subst h;omega) (by rw [hsz',bI]) (λ i' r j p hi' hj=>by
       by_cases e:i'=ix
       ·subst e
        rw [aK hix] at hi'
        injection hi' with hi'
        subst hi'
        obtain ⟨u,hu',hr⟩:=c1.get hj
        refine ⟨u,?_,c2 u (aJ hu'),hr⟩
        have hj':j<(a.eval x).cells.toList.length:=(aF.1 hu').1
        rw [List.getElem?_toArray,aY,aI (by rw [hts];omega),hts,cW,aD hj']
        exact hu'
       ·rw [aH (Ne.symm e)] at hi'
        obtain ⟨u,hu',hone,hr⟩:=k3 i' r j p hi' hj
        refine ⟨u,?_,hone,hr⟩
        have hjs:j<sz:=by
         have:=(aF.1 hj).1
         have:=k1 r (aJ hi')
         omega
        have hu2:cells.toList[i'*sz+j]?=some u:=by rw [cS];exact hu'
        rw [List.getElem?_toArray]
        rcases Nat.lt_or_gt_of_ne e with hlt|hgt
        ·have:i'*sz+j<ix*sz:=by
          calc i'*sz+j<i'*sz+sz:=by omega
           _=(i'+1)*sz:=by rw [cH];omega
           _<=ix*sz:=bF _ hlt
         rw [aY,aD (by rw [hts];exact this),bR,if_pos this]
         exact hu2
        ·have h7:ix*sz+sz<=i'*sz:=by
          calc ix*sz+sz=(ix+1)*sz:=by rw [cH];omega
           _<=i'*sz:=bF _ hgt
         rw [aI (by simp;omega),cT]
         rw [show (ix*sz+sz+(i'*sz+j-(cells.toList.take (ix*sz)++(a.eval x).cells.toList).length))=i'*sz+j by simp;omega]
         exact hu2) hfr
      refine ⟨cells',g1,by rw [g2,bI],g3,by rw [g4,bI],g5⟩
     ·cases hfr
    ·cases hfr
   ·cases hq
 obtain ⟨cells',g1,g2,g3,g4,g5⟩:=key ps parts.toList hps (List.replicate len z) ((Array.range (len*sz)).map λ k=>zv.cells[k%zv.cells.size]!) rows
  (λ r hr=>by rw [List.mem_replicate] at hr;rw [hr.2];exact hzl) (by simp) (λ j r k p hj hk=>by
   rw [cE] at hj
   split at hj
   ·rename_i hjn
    injection hj with hj
    subst hj
    obtain ⟨u,hu',hr⟩:=h1.get hk
    have hks:k<sz:=by have:=(aF.1 hk).1;omega
    refine ⟨u,?_,h2 u (aJ hu'),.froz _ _ hr⟩
    have hlt:j*sz+k<len*sz:=by
     calc j*sz+k<j*sz+sz:=by omega
      _=(j+1)*sz:=by rw [cH];omega
      _<=len*sz:=bF _ hjn
    rw [Array.getElem?_map,Array.getElem?_range,if_pos hlt]
    simp only [cA]
    have hmod:(j*sz+k)%zv.cells.size=k:=by rw [hzs,Nat.add_comm,Nat.add_mul_mod_self_right,Nat.mod_eq_of_lt hks]
    rw [hmod]
    have hk':k<zv.cells.size:=by omega
    rw [getElem!_pos zv.cells k hk']
    rw [cS] at hu'
    rw [bV hk'] at hu'
    exact hu'
   ·cases hj) hf
 rw [List.length_replicate] at g2 g4
 refine yd.alloc (cv:=.slice (some ⟨w.heap.size,0,none⟩) len len) (cap:=len) (s:=sz) (rows:=rows) (cur:=cells') (t:=e) R ?_ (by omega) (by omega) (λ i r hi=>g3 r (aJ hi)) (λ i r j p hi hj=>g5 i r j p hi hj) ?_
 ·have g1':Instr.fill (λ i=>some (i*sz,sz)) ((Array.range (len*sz)).map λ k=>zv.cells[k%zv.cells.size]!) (parts.map λ (i,x)=>(i,a.eval x)).toList=some cells':=by
   rw [Array.toList_map];exact g1
  have hb':¬ (2 ^ 24<len*sz):=by omega
  by_cases hz':len*sz=0
  ·have hl0:len=0:=by rcases Nat.mul_eq_zero.1 hz' with h|h<;>omega
   subst hl0
   have hr0:Array.range 0=#[]:=rfl
   have hc0:(Array.range (0*sz)).map (λ k=>zv.cells[k%zv.cells.size]!)=#[]:=by simp [hr0]
   rw [hc0] at g1
   simp only [execOp,ho,Instr.buildSlice,run_underlying hu,sizeOf,typeInfo,hi,hi2,Sem.run_bind,Result.andThen_ok,Sem.run_pure,program,Sem.run,Nat.zero_mul,hr0,hb']
   simp
   rw [g1]
   simp [newRow,newObj,Sem.run]
  ·simp only [execOp,ho,Instr.buildSlice,run_underlying hu,sizeOf,typeInfo,hi,hi2,Sem.run_bind,Result.andThen_ok,Sem.run_pure,program,Sem.run,hz',hb',zeroValue,hzv,if_false]
   simp [newRow,newObj,Sem.run]
   rw [g1]
   simp [newRow,newObj,Sem.run]
 ·intro m' hm
  have:=zo.sl (w:=w.alloc (.cells cells' e (0,0))) (F:=F) (L:=zu (st.H++[.cells sz rows])) st.H.length 0 len len w.heap.size 0 len sz ⟨w.heap.size,0,none⟩ hm (by simp [zu,g2]) (by omega) (aS _) (.inr (by simp))
  simpa using this
end
end
section
section
variable {P:Program} {G:Nat->Option (List PV)} {T:yh} {nt:Nat} {w:World} {F:Nat->Prop} {m:zR} {st:St} {a:Act} {o:Oper}
theorem zlp (b:Bool) (len cap:Nat) (lo hi:Option Value) (l h:Int) (hlo:(lo=none/\l=0)\/∃ k,lo=some (.int k l)) (hhi:(hi=none/\h=len)\/∃ k,hi=some (.int k h))
  (h0:0<=l) (h1:l<=h) (h2:h<=cap):(Instr.sliceBounds b len cap lo hi none).run P w=.ok (l.toNat,h.toNat,cap) w:=by
 have e1:(h.toNat:Int)=h:=Int.toNat_of_nonneg (by omega)
 rcases hlo with ⟨rfl,rfl⟩|⟨k,rfl⟩<;>rcases hhi with ⟨rfl,rfl⟩|⟨k',rfl⟩
 ·simp [Instr.sliceBounds]
 ·simp [Instr.sliceBounds,Instr.sliceBound,asIntOf,h2,show 0<=h by omega]
 ·simp [Instr.sliceBounds,Instr.sliceBound,asIntOf,h0,h1]
 ·simp [Instr.sliceBounds,Instr.sliceBound,asIntOf,h0,h1,h2,show 0<=h by omega,e1]
theorem kB {t e:TypeId} (hu:P.underlying t=some (.slice e)) {i:TypeInfo} (hi:P.info? e=some i) (b:Option Addr) (len cap:Nat) (lo hi':Option Value) (l h:Int) (hlo:(lo=none/\l=0)\/∃ k,lo=some (.int k l)) (hhi:(hi'=none/\h=len)\/∃ k,hi'=some (.int k h))
  (h0:0<=l) (h1:l<=h) (h2:h<=cap):(Instr.sliceAt t (.slice b len cap) lo hi' none).run P w=.ok (.slice (if cap=l.toNat then b else b.map (·.add (l.toNat*i.size))) (h.toNat-l.toNat) (cap-l.toNat)) w:=by
 simp [Instr.sliceAt,Instr.slice,run_underlying hu,zlp true len cap lo hi' l h hlo hhi h0 h1 h2,sizeOf,typeInfo,hi]
theorem zh' {t:TypeId} (hu:P.underlying t=some .string) (s:ByteArray) (lo hi':Option Value) (l h:Int) (hlo:(lo=none/\l=0)\/∃ k,lo=some (.int k l)) (hhi:(hi'=none/\h=s.size)\/∃ k,hi'=some (.int k h))
  (h0:0<=l) (h1:l<=h) (h2:h<=s.size):(Instr.sliceAt t (.string s) lo hi' none).run P w=.ok (.string (s.extract l.toNat h.toNat)) w:=by
 simp [Instr.sliceAt,Instr.slice,run_underlying hu,zlp false s.size s.size lo hi' l h hlo hhi h0 h1 h2]
theorem Wr (R:yl G w F m st.H) (E:vX T nt (zo w F m (zu st.H)) st a) {lo:Option Operand} {lo':Option zy} (ht:Zd T lo=some lo') {d:Int} {l:Int} (hl:ZB G st d lo'=some l):((lo.map a.eval)=none/\l=d)\/∃ k,lo.map a.eval=some (.int k l):=by
 cases lo with
 |none=>
  injection ht with ht
  subst ht
  injection hl with hl
  exact .inl ⟨rfl,hl.symm⟩
 |some x=>
  simp only [Zd] at ht
  split at ht
  ·rename_i y hy
   injection ht with ht
   subst ht
   simp only [ZB] at hl
   split at hl
   ·rename_i k n hn
    injection hl with hl
    subst hl
    have:=yg R E hy
    rw [hn] at this
    exact .inr ⟨k,by rw [cA,this.int_inv]⟩
   ·cases hl
  ·cases ht
theorem zrt (R:yl G w F m st.H) {t:TypeId} {x:Operand} {lo hi:Option Operand} (ho:o.op=.slice t x lo hi none) (hu:P.underlying t=some .string) {s:ByteArray} (hx:a.eval x=.string s) {l h:Int}
  (hlo:((lo.map a.eval)=none/\l=0)\/∃ k,lo.map a.eval=some (.int k l)) (hhi:((hi.map a.eval)=none/\h=s.size)\/∃ k,hi.map a.eval=some (.int k h)) (h0:0<=l) (h1:l<=h) (h2:h<=s.size):
  yd P G o a w F m st.H (.str (s.extract l.toNat h.toNat)) st.H true:=by
 refine yd.same (cv:=.string (s.extract l.toNat h.toNat)) R ?_ (.froz _ _ (.str _))
 simp only [execOp,ho,Option.map_none,hx,Sem.run_bind,zh' hu s _ _ l h hlo hhi h0 h1 h2,Result.andThen_ok,Sem.run_pure]
theorem ztK (R:yl G w F m st.H) {t e:TypeId} {x:Operand} {lo hi:Option Operand} (ho:o.op=.slice t x lo hi none) (hu:P.underlying t=some (.slice e)) {sz:Nat} (hs:vW P e=some sz) {rows:List (List PV)} (hx:zo w F m (zu st.H) (.fz rows) (a.eval x)) {l h:Int}
  (hlo:((lo.map a.eval)=none/\l=0)\/∃ k,lo.map a.eval=some (.int k l)) (hhi:((hi.map a.eval)=none/\h=rows.length)\/∃ k,hi.map a.eval=some (.int k h)) (h0:0<=l) (h1:l<=h) (h2:h<=rows.length) (hr:(rows.all λ r=>r.length==sz)=true):
  yd P G o a w F m st.H (.fz ((rows.drop l.toNat).take (h.toNat-l.toNat))) st.H true:=by
 obtain ⟨i,hi',hi2⟩:=uv hs
 generalize hv:a.eval x=v at hx
 cases hx with
 |froz _ _ hx=>
  cases hx with
  |fzNil b c=>
   refine yd.same R (cv:=.slice (if c=l.toNat then b else b.map (·.add (l.toNat*i.size))) (h.toNat-l.toNat) (c-l.toNat)) ?_ (.froz _ _ ?_)
   ·simp only [execOp,ho,Option.map_none,hv,Sem.run_bind,kB hu hi' b 0 c _ _ l h hlo hhi h0 h1 (by simp at h2;omega),Result.andThen_ok,Sem.run_pure]
   ·simp at h2
    have e1:h.toNat-l.toNat=0:=by omega
    rw [e1]
    simp
    exact .fzNil _ _
  |fz _ blk off s cap f hF hs' hc h1' hw hh=>
   refine yd.same R (cv:=.slice (if cap=l.toNat then some ⟨blk,off,none⟩ else (some ⟨blk,off,none⟩:Option Addr).map (·.add (l.toNat*i.size))) (h.toNat-l.toNat) (cap-l.toNat)) ?_ (.froz _ _ ?_)
   ·simp only [execOp,ho,Option.map_none,hv,Sem.run_bind,kB hu hi' (some ⟨blk,off,none⟩) rows.length cap _ _ l h hlo hhi h0 h1 (by omega),Result.andThen_ok,Sem.run_pure]
   ·by_cases e0:h.toNat-l.toNat=0
    ·rw [e0]
     simp only [List.take_zero]
     exact .fzNil _ _
    ·rw [if_neg (by omega)]
     simp only [cA,uy]
     have hlen:((rows.drop l.toNat).take (h.toNat-l.toNat)).length=h.toNat-l.toNat:=by simp;omega
     have hs2:s=i.size:=by
      have h3:l.toNat<rows.length:=by omega
      have h4:=hs' l.toNat rows[l.toNat] (aE h3)
      have h5:=aZ.1 hr rows[l.toNat] (dA h3)
      simp at h5
      omega
     subst hs2
     have hat:∀ (k:Nat) (r:List PV),((rows.drop l.toNat).take (h.toNat-l.toNat))[k]?=some r->rows[l.toNat+k]?=some r:=by
      intro k r hk
      rw [bR] at hk
      split at hk
      ·rw [cT] at hk;exact hk
      ·cases hk
     have e:=RelF.fz (w:=w) (F:=F) ((rows.drop l.toNat).take (h.toNat-l.toNat)) blk (off+l.toNat*i.size) i.size (cap-l.toNat) (λ k j=>f (l.toNat+k) j) hF (λ k r hk=>hs' _ _ (hat k r hk)) (by rw [hlen];omega)
      (λ k r j p hk hj=>h1' _ _ _ _ (hat k r hk) hj) (λ k r j p hk hj=>by
       have:=hw _ _ _ _ (hat k r hk) hj
       rw [cH] at this
       rw [show off+l.toNat*i.size+k*i.size+j=off+(l.toNat*i.size+k*i.size)+j by omega]
       exact this) (λ k r j p hk hj=>hh _ _ _ _ (hat k r hk) hj)
     rw [hlen] at e
     exact e
theorem ztL (R:yl G w F m st.H) {t e:TypeId} {x:Operand} {lo hi:Option Operand} (ho:o.op=.slice t x lo hi none) (hu:P.underlying t=some (.slice e)) {sz:Nat} (hs:vW P e=some sz) {id off len tot:Nat} (hx:zo w F m (zu st.H) (.sl id off len tot) (a.eval x)) {l h:Int}
  (hlo:((lo.map a.eval)=none/\l=0)\/∃ k,lo.map a.eval=some (.int k l)) (hhi:((hi.map a.eval)=none/\h=len)\/∃ k,hi.map a.eval=some (.int k h)) (h0:0<=l) (h1:l<=h) (h2:h<=len) (hr:xU st.H sz (.sl id off len tot)=true):
  yd P G o a w F m st.H (.sl id (off+l.toNat) (h.toNat-l.toNat) tot) st.H true:=by
 obtain ⟨i,hi',hi2⟩:=uv hs
 have hsz:∀ blk o' cap s,m id=.at_ blk o' cap s->s=i.size:=by
  intro blk o' cap s hm
  simp only [xU] at hr
  split at hr
  ·rename_i s' rows hH
   obtain ⟨e1,_⟩:=R.block hH hm
   have:s'=sz:=by simpa using hr
   omega
  ·cases hr
 generalize hv:a.eval x=v at hx
 cases hx with
 |froz _ _ hx=>cases hx
 |sl _ _ _ _ blk o' cap s b hm hL ht hc hb=>
  refine yd.same R (cv:=.slice (if cap-off=l.toNat then some b else (some b:Option Addr).map (·.add (l.toNat*i.size))) (h.toNat-l.toNat) (cap-off-l.toNat)) ?_ ?_
  ·simp only [execOp,ho,Option.map_none,hv,Sem.run_bind,kB hu hi' (some b) len (cap-off) _ _ l h hlo hhi h0 h1 (by omega),Result.andThen_ok,Sem.run_pure]
  ·have hs':=hsz _ _ _ _ hm
   rw [show cap-off-l.toNat=cap-(off+l.toNat) by omega]
   by_cases e0:cap-off=l.toNat
   ·rw [if_pos e0]
    exact .sl id (off+l.toNat) (h.toNat-l.toNat) tot blk o' cap s b hm hL (by omega) hc (.inl (by omega))
   ·rw [if_neg e0]
    refine .sl id (off+l.toNat) (h.toNat-l.toNat) tot blk o' cap s _ hm hL (by omega) hc (.inr ?_)
    rcases hb with hb|rfl
    ·omega
    ·dsimp only
     rw [uy,cH,hs',bZ]
 |slVirt _ hm hL=>
  refine yd.same R (cv:=.slice (if 0=l.toNat then none else (none:Option Addr).map (·.add (l.toNat*i.size))) (h.toNat-l.toNat) (0-l.toNat)) ?_ ?_
  ·simp only [execOp,ho,Option.map_none,hv,Sem.run_bind,kB hu hi' none 0 0 _ _ l h hlo hhi h0 h1 (by omega),Result.andThen_ok,Sem.run_pure]
  ·have e1:l.toNat=0:=by omega
   have e2:h.toNat=0:=by omega
   rw [e1,e2]
   exact .slVirt id hm hL
 |slOld _ _ _ _ b c hm hL hc=>
  refine yd.same R (cv:=.slice (if c=l.toNat then b else b.map (·.add (l.toNat*i.size))) (h.toNat-l.toNat) (c-l.toNat)) ?_ (.slOld _ _ _ _ _ _ hm hL (by omega))
  simp only [execOp,ho,Option.map_none,hv,Sem.run_bind,kB hu hi' b len c _ _ l h hlo hhi h0 h1 (by omega),Result.andThen_ok,Sem.run_pure]
theorem zjr {t e:TypeId} (hu:P.underlying t=some (.slice e)) {i:TypeInfo} (hi:P.info? e=some i) (b:Addr) (len cap:Nat) (k:IntKind) (n:Int) (h0:0<=n) (h1:n<len):
  (Instr.indexAt t (.slice (some b) len cap) (.int k n)).run P w=.ok (.pointer (some (b.add (n.toNat*i.size)))) w:=by
 simp [Instr.indexAt,asIntOf,run_underlying hu,h0,h1,sizeOf,typeInfo,hi]
theorem ztI (R:yl G w F m st.H) {t e:TypeId} {x y:Operand} (ho:o.op=.indexAddr t x y) {sz by':Nat} (he:kC P t=some (e,sz,by')) {rows:List (List PV)} (hx:zo w F m (zu st.H) (.fz rows) (a.eval x)) {k:IntKind} {n:Int} (hy:a.eval y=.int k n) (h0:0<=n)
  {r:List PV} (hr:rows[n.toNat]?=some r) (hrs:r.length=sz):yd P G o a w F m st.H (.fp r 0) st.H true:=by
 obtain ⟨hu,i,hi,hi2,_,_,_⟩:=kR he
 have hlt:n.toNat<rows.length:=(aF.1 hr).1
 generalize hv:a.eval x=v at hx
 cases hx with
 |froz _ _ hx=>
  cases hx with
  |fzNil b c=>simp at hlt
  |fz _ blk off s cap f hF hs' hc h1' hw hh=>
   have hs2:s=i.size:=by have:=hs' _ _ hr;omega
   subst hs2
   refine yd.same R (cv:=.pointer (some ⟨blk,off+n.toNat*i.size+0,none⟩)) ?_ (.froz _ _ (.fp r blk (off+n.toNat*i.size) 0 (λ j=>f n.toNat j) hF (λ j p hj=>h1' _ _ _ _ hr hj) (λ j p hj=>hw _ _ _ _ hr hj) λ j p hj=>hh _ _ _ _ hr hj))
   simp only [execOp,ho,hv,hy,Sem.run_bind,zjr hu hi ⟨blk,off,none⟩ rows.length cap k n h0 (by omega),uy,Result.andThen_ok,Sem.run_pure,cN]
theorem ztJ (R:yl G w F m st.H) {t e:TypeId} {x y:Operand} (ho:o.op=.indexAddr t x y) {sz by':Nat} (he:kC P t=some (e,sz,by')) {id off len tot:Nat} (hx:zo w F m (zu st.H) (.sl id off len tot) (a.eval x)) {k:IntKind} {n:Int} (hy:a.eval y=.int k n) (h0:0<=n)
  {s:Nat} {rows:List (List PV)} (hH:st.H[id]?=some (.cells s rows)) (hs:s=sz) (ht:tot=rows.length) (hn:n<len):yd P G o a w F m st.H (.ptr id (off+n.toNat) 0 tot) st.H true:=by
 obtain ⟨hu,i,hi,hi2,_,_,_⟩:=kR he
 have hl:=kI hH
 generalize hv:a.eval x=v at hx
 cases hx with
 |froz _ _ hx=>cases hx
 |sl _ _ _ _ blk o' cap s' b hm hL ht' hc hb=>
  obtain ⟨e1,_⟩:=R.block hH hm
  have hs2:s'=i.size:=by omega
  subst hs2
  have hb':b=⟨blk,o'+off*i.size,none⟩:=by
   rcases hb with hb|hb
   ·omega
   ·exact hb
  subst hb'
  have:=zo.ptr (w:=w) (F:=F) (L:=zu st.H) id (off+n.toNat) 0 tot blk o' cap i.size hm hL
  rw [cN] at this
  refine yd.same R (cv:=.pointer (some ⟨blk,o'+(off+n.toNat)*i.size,none⟩)) ?_ this
  simp only [execOp,ho,hv,hy,Sem.run_bind,zjr hu hi ⟨blk,o'+off*i.size,none⟩ len (cap-off) k n h0 hn,uy,Result.andThen_ok,Sem.run_pure,cH,bZ]
 |slVirt _ hm hL=>omega
 |slOld _ _ _ _ b c hm hL hc=>omega
theorem zs8 {L:Nat->Nat} {n sz:Nat} {x i v:PV} {cv iv:Value} (hx:zo w F m L x cv) (hi:zo w F m L i iv) (h:zbW n sz x i=some v):
  ∃ k j b,iv=.int k j/\0<=j/\j<n/\cv=.pointer (some b)/\zo w F m L v (.pointer (some (b.add (j.toNat*sz)))):=by
 unfold zbW at h
 split at h
 ·rename_i k j
  split at h
  ·rename_i hb
   simp only [aU,cC] at hb
   cases x<;>simp only at h<;>try (cases h;done)
   case fp cs off=>
    injection h with h;subst h
    cases hx with
    |froz _ _ hx=>cases hx with
     |fp _ blk o _ f hF h1 hw h=>exact ⟨k,j,⟨blk,o+off,none⟩,hi.int_inv,hb.1,hb.2,rfl,by rw [uy,bZ];exact .froz _ _ (.fp cs blk o (off+j.toNat*sz) f hF h1 hw h)⟩
   case ptr id row off tot=>
    injection h with h;subst h
    cases hx with
    |froz _ _ hx=>cases hx
    |ptr _ _ _ _ blk o cap s hm hL=>exact ⟨k,j,⟨blk,o+row*s+off,none⟩,hi.int_inv,hb.1,hb.2,rfl,by rw [uy,bZ];exact .ptr id row (off+j.toNat*sz) tot blk o cap s hm hL⟩
    |ptrOld _ _ _ _ b hm hL=>exact ⟨k,j,b,hi.int_inv,hb.1,hb.2,rfl,.ptrOld id row _ tot _ hm hL⟩
  ·cases h
 ·cases h
theorem zyn (R:yl G w F m st.H) {t e:TypeId} {x y:Operand} (ho:o.op=.indexAddr t x y) {n sz:Nat} (hu:P.underlying t=some (.array n e)) (hs:vW P e=some sz) {px pi v:PV} (hx:zo w F m (zu st.H) px (a.eval x)) (hy:zo w F m (zu st.H) pi (a.eval y)) (h:zbW n sz px pi=some v):yd P G o a w F m st.H v st.H true:=by
 obtain ⟨k,j,b,e1,h0,h1,e2,hv⟩:=zs8 hx hy h
 obtain ⟨i,hi,hi2⟩:=uv hs
 subst hi2
 refine yd.same R ?_ hv
 simp [execOp,ho,Instr.indexAt,asIntOf,Instr.sureAddr,run_underlying hu,e1,e2,h0,h1,sizeOf,typeInfo,hi]
theorem zmT {t:TypeId} {x:Operand} {c:Call} (ho:o.op=.call c) (hc:c.callee=.builtin .len) (hat:c.argTypes.toList=[t]) (har:c.args.toList=[x]):
  (execOp a.eval o).run P w=((Builtin.len_ #[t] o.type #[a.eval x]).run P w).andThen λ v w'=>.ok (.value v) w':=by
 obtain ⟨callee,args,argTypes⟩:=c
 simp only at hc hat har
 subst hc
 have hargs:args=#[x]:=by rw [<-dB (xs:=args),har]
 have hats:argTypes=#[t]:=by rw [<-dB (xs:=argTypes),hat]
 subst hargs;subst hats
 simp [execOp,ho,resolve,invoke,builtin]
theorem zDK (R:yl G w F m st.H) {t e:TypeId} {x:Operand} {c:Call} (ho:o.op=.call c) (hc:c.callee=.builtin .len) (hat:c.argTypes.toList=[t]) (har:c.args.toList=[x]) (hu:P.underlying t=some (.slice e)) {y v:PV}
  (hv:(match y with|.fz rows=>some (.int .i64 rows.length)|.sl _ _ n _=>some (.int .i64 n)|.nils=>some (.int .i64 0)|_=>none)=some v) (hy:zo w F m (zu st.H) y (a.eval x)):yd P G o a w F m st.H v st.H true:=by
 have hr:=zmT (P:=P) (w:=w) (a:=a) ho hc hat har
 have run_sl:∀ (b:Option Addr) (n c:Nat),a.eval x=.slice b n c->(execOp a.eval o).run P w=.ok (.value (.int .i64 n)) w:=by
  intro b n c hx
  rw [hr,hx]
  simp [Builtin.len_,run_underlying hu,goInt]
 generalize hx:a.eval x=u at hy
 cases y<;>simp only at hv<;>try (cases hv;done)
 case fz rows=>
  injection hv with hv
  subst hv
  cases hy with
  |froz _ _ hy=>
   cases hy with
   |fzNil b c=>exact yd.same R (run_sl _ _ _ hx) (.froz _ _ (.int _ _))
   |fz _ blk off s cap f hF hs' hc h1' hw hh=>exact yd.same R (run_sl _ _ _ hx) (.froz _ _ (.int _ _))
 case sl id off len tot=>
  injection hv with hv
  subst hv
  cases hy with
  |froz _ _ hy=>cases hy
  |sl=>exact yd.same R (run_sl _ _ _ hx) (.froz _ _ (.int _ _))
  |slVirt=>exact yd.same R (run_sl _ _ _ hx) (.froz _ _ (.int _ _))
  |slOld=>exact yd.same R (run_sl _ _ _ hx) (.froz _ _ (.int _ _))
 case nils=>
  injection hv with hv
  subst hv
  have:=hy.nils_inv
  subst this
  exact yd.same R (run_sl _ _ _ hx) (.froz _ _ (.int _ _))
theorem zCv (R:yl G w F m st.H) {t:TypeId} {x:Operand} {c:Call} (ho:o.op=.call c) (hc:c.callee=.builtin .len) (hat:c.argTypes.toList=[t]) (har:c.args.toList=[x]) (hu:P.underlying t=some .string) {s:ByteArray} (hx:a.eval x=.string s):
  yd P G o a w F m st.H (.int .i64 s.size) st.H true:=by
 refine yd.same R (cv:=.int .i64 s.size) ?_ (.froz _ _ (.int _ _))
 rw [zmT (P:=P) (w:=w) (a:=a) ho hc hat har,hx]
 simp [Builtin.len_,run_underlying hu,goInt]
theorem zA1 (R:yl G w F m st.H) {t:TypeId} (ho:o.op=.makeMap t none):yd P G o a w F m st.H (.mp st.H.length) (st.H++[.map []]) true:=by
 obtain ⟨R',g⟩:=R.alloc 0 0 (.map #[] 0) (.map []) (ziM w _ _) (λ _=>⟨rfl,rfl,⟨[],0,by show (w.heap.push _)[_]?=_;simp,rfl,by simp,by simp⟩,λ xs c h=>by
  have h:(w.heap.push (Obj.map #[] 0))[w.heap.size]?=some (.map xs c):=h
  simp at h
  obtain ⟨rfl,rfl⟩:=h
  simp⟩)
 refine yd.of (cv:=.map (some w.heap.size)) ?_ R' g (.mp _ _ (zR.put_same ..) (by simp [zu])) λ _=>⟨λ b hb=>?_,λ id hid=>zR.put_other _ _ (by omega),_,rfl⟩
 ·simp [execOp,ho,Instr.makeMap,newObj,Sem.run]
 ·show (w.heap.push _)[b]?=_
  simp [dJ,Nat.ne_of_lt hb]
theorem VN {t:TypeId} {tag:Nat} (h:U' P t=some tag):(tag=0/\∃ k,P.underlying t=some (.int k))\/(tag=1/\P.underlying t=some .bool)\/(tag=2/\P.underlying t=some .string):=by
 unfold U' at h
 split at h
 ·rename_i k hu;injection h with h;exact .inl ⟨h.symm,k,hu⟩
 ·rename_i hu;injection h with h;exact .inr (.inl ⟨h.symm,hu⟩)
 ·rename_i hu;injection h with h;exact .inr (.inr ⟨h.symm,hu⟩)
 ·cases h
theorem zca {t:TypeId} {tag:Nat} (h:U' P t=some tag) (b:Bool) (n:Nat) (v:Value):(Instr.checkKey b (n+1) t v).run P w=.ok () w:=by
 rcases VN h with ⟨_,k,hu⟩|⟨_,hu⟩|⟨_,hu⟩
 ·simp [Instr.checkKey,run_underlying hu]
 ·simp [Instr.checkKey,run_underlying hu]
 ·simp [Instr.checkKey,run_underlying hu]
def ziz (R:PV->Value->Prop):Prop:=∀ p v,R p v->(∀ k n,p=.int k n->v=.int k n)/\(∀ b,p=.bool b->v=.bool b)/\(∀ s,p=.str s->v=.string s)
theorem zo.keyLike (w:World) (F:Nat->Prop) (m:zR) (L:Nat->Nat):ziz (zo w F m L):=λ p v h=>⟨λ k n e=>by subst e;exact h.int_inv,λ b e=>by subst e;exact h.bool_inv,λ s e=>by subst e;exact h.str_inv⟩
theorem zgP {R:PV->Value->Prop} (hR:ziz R) {t:TypeId} {tag:Nat} (h:U' P t=some tag) {d:TypeDesc} (hd:P.underlying t=some d) {p q:PV} {u v:Value} (hp:R p u) (hq:R q v) {b:Bool} (he:jC tag p q=some b):Instr.sameNow d u v=some b:=by
 obtain ⟨p1,p2,p3⟩:=hR p u hp
 obtain ⟨q1,q2,q3⟩:=hR q v hq
 rcases VN h with ⟨rfl,k,hu⟩|⟨rfl,hu⟩|⟨rfl,hu⟩
 ·rw [hd] at hu
  injection hu with hu
  subst hu
  cases p<;>cases q<;>simp only [jC] at he<;>try (cases he;done)
  rw [p1 _ _ rfl,q1 _ _ rfl]
  split at he
  ·rename_i hk
   have hk:_=_:=eA hk
   subst hk
   simpa [Instr.sameNow] using he
  ·cases he
 ·rw [hd] at hu
  injection hu with hu
  subst hu
  cases p<;>cases q<;>simp only [jC] at he<;>try (cases he;done)
  rw [p2 _ rfl,q2 _ rfl]
  exact he
 ·rw [hd] at hu
  injection hu with hu
  subst hu
  cases p<;>cases q<;>simp only [jC] at he<;>try (cases he;done)
  rw [p3 _ rfl,q3 _ rfl]
  exact he
theorem zaM {R:PV->Value->Prop} (hR:ziz R) {t:TypeId} {tag:Nat} (h:U' P t=some tag) {d:TypeDesc} (hd:P.underlying t=some d) {k:PV} {kv:Value} (hk:R k kv):
  ∀ {es:List (PV×PV)} {xs:List MapEntry} {r:Option PV} (n:Nat),xs.length=es.length->(∀ (i:Nat) (e:PV×PV) (x:MapEntry),es[i]?=some e->xs[i]?=some x->R e.1 x.key)->findKey tag k es=some r->
  match r with
  |none=>Instr.findNow d kv xs n=some none
  |some p=>∃ (j:Nat) (e:PV×PV) (x:MapEntry),es[j]?=some e/\xs[j]?=some x/\e.2=p/\Instr.findNow d kv xs n=some (some (n+j,x.val))
 |[],[],r,n,_,_,hf=>by simp only [findKey,aC] at hf;subst hf;rfl
 |[],_::_,_,_,hl,_,_=>by simp at hl
 |_::_,[],_,_,hl,_,_=>by simp at hl
 |e::es,x::xs,r,n,hl,hkeys,hf=>by
  simp only [findKey] at hf
  have hx:=hkeys 0 e x rfl rfl
  split at hf
  ·rename_i hq
   injection hf with hf
   subst hf
   refine ⟨0,e,x,rfl,rfl,rfl,?_⟩
   simp only [Instr.findNow,zgP hR h hd hk hx hq,cN]
  ·rename_i hq
   have ih:=zaM hR h hd hk (es:=es) (xs:=xs) (r:=r) (n+1) (by simpa using hl) (λ i e x he hx=>hkeys (i+1) e x (by simpa using he) (by simpa using hx)) hf
   have hstep:Instr.findNow d kv (x::xs) n=Instr.findNow d kv xs (n+1):=by simp only [Instr.findNow,zgP hR h hd hk hx hq]
   cases r with
   |none=>rw [hstep];exact ih
   |some p=>
    obtain ⟨j,e',x',k1,k2,k3,k4⟩:=ih
    exact ⟨j+1,e',x',by simpa using k1,by simpa using k2,k3,by rw [hstep,k4];congr 3;omega⟩
  ·cases hf
theorem zqg {t:TypeId} {z:PV} (h:zby P t=some z):∃ i zv,P.info? t=some i/\i.zero=some zv/\RelF w F z zv:=by
 unfold zby at h
 split at h
 ·rename_i i hi
  split at h
  ·rename_i zv hz
   refine ⟨i,zv,hi,hz,?_⟩
   cases zv with
   |agg cs=>
    simp only [zix] at h
    split at h
    ·rename_i ps hps
     injection h with h
     subst h
     obtain ⟨h1,h2,h3⟩:=vA (w:=w) (F:=F) hps
     have:=RelF.agg ps cs.toList h1.1 h2 h1.2
     simpa using this
    ·cases h
   |_=>simp only [zix] at h;exact (zaL h).1
  ·cases h
 ·cases h
theorem zyp (R:yl G w F m st.H) {t kt et:TypeId} {x y:Operand} {ok:Bool} (ho:o.op=.lookup t x y ok) (hu:P.underlying t=some (.map kt et)) {tag:Nat} (hk:U' P kt=some tag) {z':PV} (hz:zby P et=some z') {mp key:PV} {es:List (PV×PV)}
  (hes:Xt st.H mp=some es) (hm:zo w F m (zu st.H) mp (a.eval x)) (hkey:zo w F m (zu st.H) key (a.eval y)) {r:Option PV} (hf:findKey tag key es=some r):
  yd P G o a w F m st.H (zmI z' ok r) st.H true:=by
 obtain ⟨i,zv,hi,hzv,hz2⟩:=zqg (w:=w) (F:=F) hz
 have hzr:zo w F m (zu st.H) z' zv:=.froz _ _ hz2
 have hkd:∃ d,P.underlying kt=some d:=by
  rcases VN hk with ⟨_,k,hu⟩|⟨_,hu⟩|⟨_,hu⟩<;>exact ⟨_,hu⟩
 obtain ⟨d,hd⟩:=hkd
 have hent:∃ (es:List (PV×PV)) (xs:List MapEntry),findKey tag key es=some r/\xs.length=es.length/\(∀ (i:Nat) (e:PV×PV) (x:MapEntry),es[i]?=some e->xs[i]?=some x->zo w F m (zu st.H) e.1 x.key)/\
   (∀ (i:Nat) (e:PV×PV) (x:MapEntry),es[i]?=some e->xs[i]?=some x->zo w F m (zu st.H) e.2 x.val)/\
   (a.eval x=.map none/\xs=[]\/∃ rr clock,a.eval x=.map (some rr)/\w.heap[rr]?=some (.map xs.toArray clock)):=by
  generalize hx:a.eval x=u at hm
  cases mp<;>simp only [Xt] at hes<;>try (cases hes;done)
  case nilm=>
   injection hes with hes
   subst hes
   exact ⟨[],[],hf,rfl,by simp,by simp,.inl ⟨hm.nilm_inv,rfl⟩⟩
  case fm es'=>
   injection hes with hes
   subst hes
   cases hm with
   |froz _ _ hm=>
    cases hm with
    |fm _ es2 rr xs clock hK hF hw hl hk' hv=>exact ⟨es2,xs,hK _ _ _ hf,hl,λ i e x he hx=>.froz _ _ (hk' i e x he hx),λ i e x he hx=>.froz _ _ (hv i e x he hx),.inr ⟨rr,clock,rfl,hw⟩⟩
  case mp id=>
   split at hes
   ·rename_i es' hH
    injection hes with hes
    subst hes
    cases hm with
    |froz _ _ hm=>cases hm
    |mp _ blk hm' hL=>
     rcases R.maps id _ hH with h|⟨b,h,hc⟩
     ·rw [hm'] at h;cases h
     ·rw [hm'] at h
      injection h with h
      subst h
      obtain ⟨xs,clock,k1,k2,k3,k4⟩:=hc.cur
      exact ⟨_,xs,hf,k2,k3,k4,.inr ⟨blk,clock,rfl,k1⟩⟩
    |mpOld _ rr hm' hL=>rw [zbZ hH] at hL;omega
   ·cases hes
 clear hes hf es
 obtain ⟨es,xs,hf,e1,e2,e3,e4⟩:=hent
 have hrun:∀ (res:Option (Nat×Value)),Instr.findNow d (a.eval y) xs 0=some res->(execOp a.eval o).run P w=.ok (.value (match res with|some (_,v)=>(if ok then .tuple #[v,.bool true] else v)|none=>(if ok then .tuple #[zv,.bool false] else zv))) w:=by
  intro res hres
  have hck:∀ b,(Instr.checkKey b 10000 kt (a.eval y)).run P w=.ok () w:=λ b=>zca hk b 9999 _
  have hfk:(Instr.findKey kt (a.eval y) xs).run P w=.ok res w:=by simp [Instr.findKey,run_underlying hd,hres]
  rcases e4 with ⟨hx,rfl⟩|⟨rr,clock,hx,hw⟩
  ·cases res with
   |none=>simp [execOp,ho,Instr.lookup,run_underlying hu,hx,hck,hfk,zeroValue,typeInfo,hi,hzv]
   |some q=>simp [execOp,ho,Instr.lookup,run_underlying hu,hx,hck,hfk]
  ·have hgo:(getObj rr).run P w=.ok (.map xs.toArray clock) w:=by simp [getObj,Sem.run,hw]
   cases res with
   |none=>simp [execOp,ho,Instr.lookup,run_underlying hu,hx,hgo,hck,hfk,zeroValue,typeInfo,hi,hzv]
   |some q=>simp [execOp,ho,Instr.lookup,run_underlying hu,hx,hgo,hck,hfk]
 have:=zaM (zo.keyLike w F m (zu st.H)) hk hd hkey 0 e1 e2 hf
 cases r with
 |none=>
  simp only at this
  refine yd.same R (hrun none this) ?_
  cases ok with
  |true=>exact .tup [z',.bool false] [zv,.bool false] rfl (yS.cons hzr (yS.cons (.froz _ _ (.bool _)) yS.nil)).2
  |false=>exact hzr
 |some p=>
  obtain ⟨j,e,x',k1,k2,k3,k4⟩:=this
  subst k3
  have hv:=e3 j e x' k1 k2
  refine yd.same R (hrun _ k4) ?_
  cases ok with
  |true=>exact .tup [e.2,.bool true] [x'.val,.bool true] rfl (yS.cons hv (yS.cons (.froz _ _ (.bool _)) yS.nil)).2
  |false=>exact hv
end
end
section
theorem KX (cur:List Value) (vs:List Value) (X y:Nat) (h:X+vs.length<=cur.length):
  (cur.take X++vs++cur.drop (X+vs.length))[y]?=if y<X then cur[y]? else if y<X+vs.length then vs[y-X]? else cur[y]?:=by
 have hl:(cur.take X).length=X:=by simp;omega
 by_cases h1:y<X
 ·rw [if_pos h1,aY,aD (by omega),bR,if_pos h1]
 ·rw [if_neg h1]
  by_cases h2:y<X+vs.length
  ·rw [if_pos h2,aY,aI (by omega),hl,aD (by omega)]
  ·rw [if_neg h2,aI (by simp;omega),cT]
   congr 1
   simp
   omega
section
variable {P:Program} {G:Nat->Option (List PV)} {T:yh} {nt:Nat} {w:World} {F:Nat->Prop} {m:zR} {H:zd} {st:St} {a:Act} {o:Oper}
theorem zfY {id s:Nat} {rows rows':List (List PV)} (hH:H[id]?=some (.cells s rows)):zu (H.set id (.cells s rows')) id=rows'.length:=by
 have:id<H.length:=(aF.1 hH).1
 simp [zu,this]
theorem yl.splice (R:yl G w F m H) {id s:Nat} {rows rows':List (List PV)} (hH:H[id]?=some (.cells s rows)) {blk o' cap:Nat} (hm:m id=.at_ blk o' cap s) {cur:Array Value} {t:TypeId} (hcur:w.heap[blk]?=some (.cells cur t (0,0))) (hfit:o'+cap*s<=cur.size)
  (X:Nat) (vs:List Value) (hX:X+vs.length<=cur.size) (hlen:rows.length<=rows'.length) (hcap:rows'.length<=cap) (hs:∀ (i:Nat) (r:List PV),rows'[i]?=some r->r.length=s)
  (hc:(∀ p v,zo w F m (zu H) p v->zo (w.setRow blk (cur.toList.take X++vs++cur.toList.drop (X+vs.length)).toArray) F m (zu (H.set id (.cells s rows'))) p v)->
   ∀ (i:Nat) (r:List PV) (j:Nat) (p:PV),rows'[i]?=some r->r[j]?=some p->∃ v,(cur.toList.take X++vs++cur.toList.drop (X+vs.length))[o'+i*s+j]?=some v/\v.oneCell'=true/\
    zo (w.setRow blk (cur.toList.take X++vs++cur.toList.drop (X+vs.length)).toArray) F m (zu (H.set id (.cells s rows'))) p v):
  yl G (w.setRow blk (cur.toList.take X++vs++cur.toList.drop (X+vs.length)).toArray) F m (H.set id (.cells s rows'))/\
  wq w F m H (w.setRow blk (cur.toList.take X++vs++cur.toList.drop (X+vs.length)).toArray) F m (H.set id (.cells s rows')):=by
 have hid:id<H.length:=(aF.1 hH).1
 have hblk:blk<w.heap.size:=R.lt blk ⟨id,o',cap,s,hm⟩
 have hmm:m.put id (.at_ blk o' cap s)=m:=by
  funext j
  by_cases e:j=id
  ·subst e;rw [zR.put_same,hm]
  ·rw [zR.put_other _ _ e]
 have hfrz:∀ a,(w.setRow blk (cur.toList.take X++vs++cur.toList.drop (X+vs.length)).toArray).frozen? a=w.frozen? a:=zmB w blk _
 have key:=R.put (w':=w.setRow blk (cur.toList.take X++vs++cur.toList.drop (X+vs.length)).toArray) (H':=H.set id (.cells s rows')) id blk o' cap s (.cells s rows')
  (λ j hj=>aH (Ne.symm hj)) (aK hid) (λ x h1 _=>setRow_other w blk x _ h1) (by simp) (by simpa using hblk) (.inl ⟨_,_,_,hm⟩) (λ h=>by rw [hm] at h;cases h)
  (λ _=>⟨by rw [kI hH,zfY hH];exact hlen,λ _=>hm⟩) ⟨rfl,rfl,rfl,hfrz⟩
  (λ hmono=>⟨rfl,hcap,⟨_,t,setRow_heap w blk cur _ t (0,0) hcur,by simp;omega,λ i r j p hi hj=>by
   have:=hc (λ p v h=>by have:=hmono p v h;rwa [hmm] at this) i r j p hi hj
   rw [hmm]
   simpa using this⟩,hs⟩)
 rwa [hmm] at key
theorem zA2 (R:yl G w F m st.H) {t:TypeId} {x y:Operand} (ho:o.op=.store t x y) {sz:Nat} (hs:vW P t=some sz) {px py:PV} (hx:zo w F m (zu st.H) px (a.eval x)) (hy:zo w F m (zu st.H) py (a.eval y))
  {H':zd} {ed:zI} (h:storeAt st.H sz px py=some (H',ed)):yd P G o a w F m st.H .und H' false:=by
 obtain ⟨i,hi,hi2⟩:=uv hs
 cases px<;>simp only [storeAt] at h<;>try (cases h;done)
 case ptr id row off tot=>
  split at h
  ·rename_i s rows hH
   split at h
   ·rename_i cs ht hr
    split at h
    ·rename_i hb
     simp only [aU,beq_iff_eq,Nat.ble_eq] at hb
     obtain ⟨⟨hb1,hb2⟩,hb3⟩:=hb
     injection h with h
     injection h with h1 h2
     subst h1
     obtain ⟨blk,o',cap,hxv,hm,hca⟩:=R.ptr hH (by simpa using ht) hx
     obtain ⟨c1,c2⟩:=hy.cells hb3
     obtain ⟨cur,t',e1,e2,e3⟩:=hca.cur
     have hrow:row<rows.length:=(aF.1 hr).1
     have hcs:cs.length=s:=hca.size _ _ hr
     have hvl:(a.eval y).cells.toList.length=sz:=by rw [c1.1,hb1]
     have hroom:o'+row*s+off+sz<=cur.size:=by
      have:row*s+s<=cap*s:=by
       calc row*s+s=(row+1)*s:=by rw [cH];omega
        _<=cap*s:=bF _ (by have:=hca.room;omega)
      omega
     have hsp:=R.splice hH hm e1 e2 (o'+row*s+off) (a.eval y).cells.toList (rows':=rows.set row (cs.take off++cellsOf py++cs.drop (off+sz))) (by rw [hvl];exact hroom) (by simp) (by simpa using hca.room)
      (λ k r hk=>by
       by_cases e:k=row
       ·subst e
        rw [aK hrow] at hk
        injection hk with hk
        subst hk
        simp [hb1]
        omega
       ·rw [aH (Ne.symm e)] at hk
        exact hca.size _ _ hk)
      (λ hmono k r j p hk hj=>by
       rw [hvl] at hmono
       rw [KX _ _ _ _ (by rw [hvl];simpa using hroom),hvl]
       by_cases e:k=row
       ·subst e
        rw [aK hrow] at hk
        injection hk with hk
        subst hk
        by_cases g1:j<off
        ·rw [if_pos (by omega)]
         rw [aY,aD (by simp;omega),bR,if_pos g1] at hj
         obtain ⟨v,q1,q2,q3⟩:=e3 k cs j p hr hj
         exact ⟨v,by rw [cS];exact q1,q2,hmono _ _ q3⟩
        ·rw [if_neg (by omega)]
         have hl1:(cs.take off).length=off:=by simp;omega
         by_cases g2:j<off+sz
         ·rw [if_pos (by omega)]
          rw [aY,aI (by omega),hl1,aD (by omega)] at hj
          obtain ⟨v,q1,q2⟩:=c1.get hj
          refine ⟨v,?_,c2 v (aJ q1),hmono _ _ q2⟩
          rw [show o'+k*s+j-(o'+k*s+off)=j-off by omega]
          exact q1
         ·rw [if_neg (by omega)]
          rw [aI (by simp;omega),cT] at hj
          rw [show off+sz+(j-(cs.take off++cellsOf py).length)=j by simp;omega] at hj
          obtain ⟨v,q1,q2,q3⟩:=e3 k cs j p hr hj
          exact ⟨v,by rw [cS];exact q1,q2,hmono _ _ q3⟩
       ·rw [aH (Ne.symm e)] at hk
        obtain ⟨v,q1,q2,q3⟩:=e3 k r j p hk hj
        have hjs:j<s:=by
         have:=(aF.1 hj).1
         have:=hca.size _ _ hk
         omega
        have hout:o'+k*s+j<o'+row*s+off\/o'+row*s+off+sz<=o'+k*s+j:=by
         rcases Nat.lt_or_gt_of_ne e with hlt|hgt
         ·left
          have:k*s+s<=row*s:=by
           calc k*s+s=(k+1)*s:=by rw [cH];omega
            _<=row*s:=bF _ hlt
          omega
         ·right
          have:row*s+s<=k*s:=by
           calc row*s+s=(row+1)*s:=by rw [cH];omega
            _<=k*s:=bF _ hgt
          omega
        refine ⟨v,?_,q2,hmono _ _ q3⟩
        rw [<-cS] at q1
        rcases hout with g|g
        ·rw [if_pos g];exact q1
        ·rw [if_neg (by omega),if_neg (by omega)];exact q1)
     have hst:=run_storeCells_at P blk (o'+row*s+off) t' (a.eval y).cells.toList 0 cur w e1 (by rw [cN,hvl];exact hroom) c2
     simp only [cN] at hst
     refine yd.skip ?_ hsp.1 hsp.2 (by simp)
     have hsz2:(a.eval y).cells.size=i.size:=by simp at hvl;omega
     simp [execOp,ho,Instr.storeAt,hxv,Instr.sureAddr,storeVar,sizeOf,typeInfo,hi,hsz2,hst]
    ·cases h
   ·cases h
  ·cases h
theorem zp2 (R:yl G w F m st.H) {t kt et:TypeId} {x y z:Operand} (ho:o.op=.insert t x y z\/o.op=.mapUpdate t x y z) (hu:P.underlying t=some (.map kt et)) {tag:Nat} (hk:U' P kt=some tag) {id:Nat} {key val:PV}
  (hx:zo w F m (zu st.H) (.mp id) (a.eval x)) (hkey:zo w F m (zu st.H) key (a.eval y)) (hval:zo w F m (zu st.H) val (a.eval z)) {es:List (PV×PV)} (hH:st.H[id]?=some (.map es)) (hf:findKey tag key es=some none):
  yd P G o a w F m st.H .und (st.H.set id (.map (es++[(key,val)]))) false:=by
 have hkd:∃ d,P.underlying kt=some d:=by
  rcases VN hk with ⟨_,k,hu⟩|⟨_,hu⟩|⟨_,hu⟩<;>exact ⟨_,hu⟩
 obtain ⟨d,hd⟩:=hkd
 have hid:id<st.H.length:=(aF.1 hH).1
 generalize hxv:a.eval x=u at hx
 cases hx with
 |froz _ _ h=>cases h
 |mpOld _ r hm hL=>rw [zbZ hH] at hL;omega
 |mp _ blk hm hL=>
  rcases R.maps id es hH with h|⟨b,h,hc⟩
  ·rw [hm] at h;cases h
  rw [hm] at h
  injection h with h
  subst h
  obtain ⟨xs,clock,e1,e2,e3,e4⟩:=hc.cur
  have hblk:blk<w.heap.size:=R.lt blk ⟨id,0,0,0,hm⟩
  have hfn:=zaM (zo.keyLike w F m (zu st.H)) hk hd hkey 0 e2 e3 hf
  simp only at hfn
  have hmm:m.put id (.at_ blk 0 0 0)=m:=by
   funext j
   by_cases e:j=id
   ·subst e;rw [zR.put_same,hm]
   ·rw [zR.put_other _ _ e]
  have hlens:zu (st.H.set id (.map (es++[(key,val)]))) id=0:=by simp [zu,hid]
  have key':=R.put (w':={ w with heap:=w.heap.setIfInBounds blk (.map (xs.toArray.push { key:=a.eval y,val:=a.eval z,born:=clock }) (clock+1)) }) (H':=st.H.set id (.map (es++[(key,val)]))) id blk 0 0 0 (.map (es++[(key,val)]))
   (λ j hj=>aH (Ne.symm hj)) (aK hid) (λ x h1 _=>cU (Ne.symm h1)) (by simp) (by simpa using hblk) (.inl ⟨_,_,_,hm⟩) (λ h=>by rw [hm] at h;cases h)
   (λ _=>⟨by rw [zbZ hH,hlens];exact aS _,λ _=>hm⟩) ⟨rfl,rfl,rfl,zmA w blk _ _ e1⟩
   (λ hmono=>⟨rfl,rfl,rfl,⟨xs++[{ key:=a.eval y,val:=a.eval z,born:=clock }],clock+1,by simp [hblk],by simp [e2],λ i e x he hx=>by
    by_cases hi:i<es.length
    ·rw [aD hi] at he
     rw [aD (by omega)] at hx
     exact hmono _ _ (e3 i e x he hx)
    ·rw [aI (by omega)] at he
     rw [aI (by omega),e2] at hx
     have h0:i-es.length=0:=by have:=(aF.1 he).1;simp at this;omega
     rw [h0] at he hx
     simp at he hx
     subst he;subst hx
     exact hmono _ _ hkey,λ i e x he hx=>by
    by_cases hi:i<es.length
    ·rw [aD hi] at he
     rw [aD (by omega)] at hx
     exact hmono _ _ (e4 i e x he hx)
    ·rw [aI (by omega)] at he
     rw [aI (by omega),e2] at hx
     have h0:i-es.length=0:=by have:=(aF.1 he).1;simp at this;omega
     rw [h0] at he hx
     simp at he hx
     subst he;subst hx
     exact hmono _ _ hval⟩,λ ys c h=>by
    have h:(w.heap.setIfInBounds blk (.map (xs.toArray.push { key:=a.eval y,val:=a.eval z,born:=clock }) (clock+1)))[blk]?=some (.map ys c):=h
    simp [hblk] at h
    obtain ⟨rfl,rfl⟩:=h
    obtain ⟨b1,b2⟩:=hc.born _ _ e1
    simp only [List.toList_toArray] at b1 b2
    refine ⟨?_,λ x hx=>?_⟩
    ·simp only [Array.toList_push,List.toList_toArray,dU,aM,bA]
     refine List.nodup_append.2 ⟨b1,by simp,λ p hp q hq=>?_⟩
     obtain ⟨x,hx,rfl⟩:=bU.1 hp
     simp only [aO] at hq
     have:=b2 x hx
     omega
    ·simp only [Array.toList_push,List.toList_toArray,aX,aO] at hx
     rcases hx with hx|rfl
     ·have:=b2 x hx;omega
     ·exact Nat.lt_succ_self _⟩)
  rw [hmm] at key'
  have hup:(Instr.mapUpdate t (a.eval x) (a.eval y) (a.eval z)).run P w=.ok () { w with heap:=w.heap.setIfInBounds blk (.map (xs.toArray.push { key:=a.eval y,val:=a.eval z,born:=clock }) (clock+1)) }:=by
   have hgo:(getObj blk).run P w=.ok (.map xs.toArray clock) w:=by simp [getObj,Sem.run,e1]
   have hck:∀ b,(Instr.checkKey b 10000 kt (a.eval y)).run P w=.ok () w:=λ b=>zca hk b 9999 _
   have hfk:(Instr.findKey kt (a.eval y) xs).run P w=.ok none w:=by simp [Instr.findKey,run_underlying hd,hfn]
   simp [Instr.mapUpdate,run_underlying hu,hxv,hgo,hck,hfk,setObj,Sem.run,e1]
  refine yd.skip ?_ key'.1 key'.2 (by simp)
  rcases ho with ho|ho<;>simp [execOp,ho,hup]
end
end
section
structure ZF (R:PV->Value->Prop) (s:Nat) (rows:List (List PV)) (ze:List Value):Prop where
 len:ze.length=rows.length*s
 one:∀ u∈ze,u.oneCell'=true
 size:∀ r∈rows,r.length=s
 rel:∀ (i:Nat) (r:List PV) (j:Nat) (p:PV),rows[i]?=some r->r[j]?=some p->∃ u,ze[i*s+j]?=some u/\R p u
theorem ZF.nil {R:PV->Value->Prop} {s:Nat}:ZF R s [] []:=⟨by simp,by simp,by simp,λ i r j p h=>by simp at h⟩
theorem ZF.append {R:PV->Value->Prop} {s:Nat} {rows rows':List (List PV)} {ze vals':List Value} (h:ZF R s rows ze) (h':ZF R s rows' vals'):ZF R s (rows++rows') (ze++vals'):=by
 refine ⟨by simp [h.len,h'.len,cH],λ u hu=>?_,λ r hr=>?_,λ i r j p hi hj=>?_⟩
 ·rcases aX.1 hu with hu|hu
  ·exact h.one u hu
  ·exact h'.one u hu
 ·rcases aX.1 hr with hr|hr
  ·exact h.size r hr
  ·exact h'.size r hr
 ·by_cases hlt:i<rows.length
  ·rw [aD hlt] at hi
   obtain ⟨u,e1,e2⟩:=h.rel i r j p hi hj
   exact ⟨u,by rw [aD (aF.1 e1).1];exact e1,e2⟩
  ·rw [aI (by omega)] at hi
   obtain ⟨u,e1,e2⟩:=h'.rel _ r j p hi hj
   have hm:rows.length*s<=i*s:=bF _ (by omega)
   refine ⟨u,?_,e2⟩
   rw [aI (by rw [h.len];omega),h.len]
   rw [show i*s+j-rows.length*s=(i-rows.length)*s+j by rw [Nat.sub_mul];omega]
   exact e1
theorem ZF.mono {R R':PV->Value->Prop} {s:Nat} {rows:List (List PV)} {ze:List Value} (h:ZF R s rows ze) (hR:∀ p v,R p v->R' p v):ZF R' s rows ze:=
 ⟨h.len,h.one,h.size,λ i r j p hi hj=>let ⟨u,e1,e2⟩:=h.rel i r j p hi hj;⟨u,e1,hR _ _ e2⟩⟩
theorem ZF.of {R:PV->Value->Prop} {s:Nat} (hs:s≠0) {rows:List (List PV)} (f:Nat->Nat->Value) (hz:∀ r∈rows,r.length=s) (h1:∀ (i:Nat) (r:List PV) (j:Nat) (p:PV),rows[i]?=some r->r[j]?=some p->(f i j).oneCell'=true/\R p (f i j)):
  ZF R s rows ((List.range (rows.length*s)).map λ k=>f (k/s) (k%s)):=by
 have at_:∀ k,k<rows.length*s->∃ r p,rows[k/s]?=some r/\r[k%s]?=some p:=by
  intro k hk
  have h1:k/s<rows.length:=Nat.div_lt_of_lt_mul (by rw [Nat.mul_comm];exact hk)
  have h2:k%s<rows[k/s].length:=by rw [hz _ (dA h1)];exact Nat.mod_lt _ (by omega)
  exact ⟨rows[k/s],rows[k/s][k%s],aE h1,aE h2⟩
 refine ⟨by simp,λ u hu=>?_,hz,λ i r j p hi hj=>?_⟩
 ·simp only [bU,List.mem_range] at hu
  obtain ⟨k,hk,rfl⟩:=hu
  obtain ⟨r,p,e1,e2⟩:=at_ k hk
  exact (h1 _ _ _ _ e1 e2).1
 ·have hj':j<s:=by
   have:=(aF.1 hj).1
   rw [hz r (aJ hi)] at this
   exact this
  have hi':i<rows.length:=(aF.1 hi).1
  have hk:i*s+j<rows.length*s:=by
   calc i*s+j<i*s+s:=by omega
    _=(i+1)*s:=by rw [cH];omega
    _<=rows.length*s:=bF _ hi'
  refine ⟨f i j,?_,(h1 i r j p hi hj).2⟩
  rw [aN,dK hk]
  simp only [cA]
  rw [Nat.add_comm,Nat.add_mul_div_right _ _ (by omega),Nat.add_mul_mod_self_right,Nat.mod_eq_of_lt hj',Nat.div_eq_of_lt hj',bO]
theorem u9.flat {w:World} {R:PV->Value->Prop} {blk o cap s:Nat} {rows:List (List PV)} (h:u9 w R blk o cap s rows) (hs:s≠0) {off len:Nat} (hl:off+len<=rows.length):
  ∃ ze:List Value,ZF R s ((rows.drop off).take len) ze/\∀ (k:Nat) (u:Value),ze[k]?=some u->w.cell? ⟨blk,o+off*s+k,none⟩=some u:=by
 obtain ⟨cur,t,h2,h3,h4⟩:=h.cur
 have hat:∀ (i:Nat) (r:List PV),((rows.drop off).take len)[i]?=some r->rows[off+i]?=some r:=by
  intro i r hi
  rw [bR] at hi
  split at hi
  ·rw [cT] at hi;exact hi
  ·cases hi
 have hlen:((rows.drop off).take len).length=len:=by simp;omega
 have f:=ZF.of (R:=R) hs (rows:=(rows.drop off).take len) (λ i j=>cur.getD (o+(off+i)*s+j) undef) (λ r hr=>by
   obtain ⟨i,hi,rfl⟩:=List.getElem_of_mem hr
   exact h.size _ _ (hat i _ (aE hi))) (λ i r j p hi hj=>by
   obtain ⟨v,e1,e2,e3⟩:=h4 _ r j p (hat i r hi) hj
   have:cur.getD (o+(off+i)*s+j) undef=v:=by simp [e1]
   rw [this]
   exact ⟨e2,e3⟩)
 refine ⟨_,f,λ k u hk=>?_⟩
 rw [hlen] at hk
 have hk':k<len*s:=by have:=(aF.1 hk).1;simpa using this
 rw [aN,dK hk'] at hk
 simp only [cA,aC] at hk
 have hks:k/s<len:=Nat.div_lt_of_lt_mul (by rw [Nat.mul_comm];exact hk')
 have hb:o+off*s+k<cur.size:=by
  have:=h.room
  have h5:(off+len)*s<=cap*s:=bF _ (by omega)
  rw [cH] at h5
  omega
 have hidx:o+(off+k/s)*s+k%s=o+off*s+k:=by
  have:=Nat.div_add_mod k s
  rw [Nat.mul_comm] at this
  rw [cH]
  omega
 rw [hidx] at hk
 rw [zdK h2]
 rw [bV hb]
 simp [Array.getD,hb] at hk
 rw [hk]
theorem ZF.cellsAt {w:World} {R:PV->Value->Prop} {blk cap s:Nat} {rows:List (List PV)} {ze:List Value} (h:ZF R s rows ze) {cur:Array Value} {t:TypeId} (hcur:w.heap[blk]?=some (.cells cur t (0,0))) (hc:rows.length<=cap) (hsz:cap*s<=cur.size)
  (hv:∀ (k:Nat) (u:Value),ze[k]?=some u->cur[k]?=some u):u9 w R blk 0 cap s rows:=by
 refine ⟨hc,⟨cur,t,hcur,by omega,λ i r j p hi hj=>?_⟩,λ i r hi=>h.size r (aJ hi)⟩
 obtain ⟨u,e1,e2⟩:=h.rel i r j p hi hj
 exact ⟨u,by rw [bO];exact hv _ _ e1,h.one u (aJ e1),e2⟩
section
variable {P:Program} {G:Nat->Option (List PV)} {T:yh} {nt:Nat} {w:World} {F:Nat->Prop} {m:zR} {H:zd} {st:St} {a:Act} {o:Oper}
theorem Q_ (R:yl G w F m H) {y:PV} {v:Value} (hv:zo w F m (zu H) y v) {new:List (List PV)} (h:uu H y=some new) {sz:Nat} (hs:xU H sz y=true) (hz:sz≠0):
  ∃ (b:Option Addr) (c:Nat) (news:List Value),v=.slice b new.length c/\ZF (zo w F m (zu H)) sz new news/\(new=[]\/∃ ad:Addr,b=some ad/\∀ (k:Nat) (u:Value),news[k]?=some u->w.cell? (ad.add k)=some u):=by
 cases y<;>simp only [uu] at h<;>try (cases h;done)
 case fz rows=>
  injection h with h
  subst h
  have hall:∀ r∈rows,r.length=sz:=λ r hr=>by have:=aZ.1 hs r hr;simpa using this
  cases hv with
  |froz _ _ hv=>
   cases hv with
   |fzNil b c=>exact ⟨b,c,[],rfl,ZF.nil,.inl rfl⟩
   |fz _ blk off s cap f hF hs' hc h1' hw hh=>
    cases hr:rows with
    |nil=>exact ⟨some ⟨blk,off,none⟩,cap,[],by simp,ZF.nil,.inl rfl⟩
    |cons r0 rs=>
     rw [<-hr]
     have hs2:s=sz:=by
      have:=hs' 0 r0 (by rw [hr];rfl)
      have:=hall r0 (by rw [hr];simp)
      omega
     subst hs2
     have fl:=ZF.of (R:=zo w F m (zu H)) hz (rows:=rows) f hall λ i r j p hi hj=>⟨h1' i r j p hi hj,.froz _ _ (hh i r j p hi hj)⟩
     refine ⟨_,cap,_,rfl,fl,.inr ⟨_,rfl,λ k u hk=>?_⟩⟩
     rw [uy]
     have hk':k<rows.length*s:=by have:=(aF.1 hk).1;simpa using this
     rw [aN,dK hk'] at hk
     simp only [cA,aC] at hk
     have hks:k/s<rows.length:=Nat.div_lt_of_lt_mul (by rw [Nat.mul_comm];exact hk')
     have hkr:k%s<rows[k/s].length:=by rw [hall _ (dA hks)];exact Nat.mod_lt _ (by omega)
     have:=hw _ _ _ _ (aE hks) (aE hkr)
     have hd:=Nat.div_add_mod k s
     rw [Nat.mul_comm] at hd
     rw [show off+k/s*s+k%s=off+k by omega,hk] at this
     exact this
 case nils=>
  injection h with h
  subst h
  exact ⟨none,0,[],hv.nils_inv,ZF.nil,.inl rfl⟩
 case sl id off len tot=>
  split at h
  ·rename_i s rows hH
   split at h
   ·rename_i hb
    injection h with h
    subst h
    simp only [aU,beq_iff_eq,cC] at hb
    have hl:=kI hH
    have hs2:s=sz:=by simp only [xU,hH] at hs;simpa using hs
    subst hs2
    have hlen:((rows.drop off).take len).length=len:=by simp;omega
    cases hv with
    |froz _ _ hv=>cases hv
    |sl _ _ _ _ blk o' cap s' b hm hL ht hc hb'=>
     obtain ⟨e1,hca⟩:=R.block hH hm
     subst e1
     obtain ⟨ze,f1,f2⟩:=hca.flat hz (off:=off) (len:=len) (by omega)
     by_cases h0:len=0
     ·subst h0
      refine ⟨some b,cap-off,[],by simp,?_,.inl (by simp)⟩
      rw [List.take_zero]
      exact ZF.nil
     ·rcases hb' with e|e
      ·omega
      ·subst e
       refine ⟨_,cap-off,ze,by rw [hlen],f1,.inr ⟨_,rfl,λ k u hk=>?_⟩⟩
       rw [uy]
       exact f2 k u hk
    |slVirt _ hm hL=>exact ⟨none,0,[],by simp,by simp only [dZ,List.take_zero];exact ZF.nil,.inl (by simp)⟩
    |slOld _ _ _ _ b c hm hL hc=>omega
   ·cases h
  ·cases h
theorem zhv:∀ {rows:List (List PV)} {bs:List UInt8},zeh rows=some bs->∃ ns:List Int,rows=ns.map (λ n=>[PV.int .u8 n])/\bs=ns.map λ n=>UInt8.ofNat n.toNat
 |[],bs,h=>by simp only [zeh,aC] at h;subst h;exact ⟨[],rfl,rfl⟩
 |r::rs,bs,h=>by
  unfold zeh at h
  split at h
  ·rename_i heq;cases heq
  ·rename_i n rs' heq
   cases heq
   split at h
   ·rename_i bs' hb
    injection h with h;subst h
    obtain ⟨ns,h1,h2⟩:=zhv hb
    exact ⟨n::ns,by rw [h1];rfl,by rw [h2];rfl⟩
   ·cases h
  ·cases h
theorem zCr (R:yl G w F m st.H) {s d e:TypeId} {x:Operand} (ho:o.op=.convert s d x) (hs:P.underlying s=some (.slice e)) (he:P.underlying e=some (.int .u8)) (hd:P.underlying d=some .string) {y v:PV} (hy:zo w F m (zu st.H) y (a.eval x)) (hv:zow st.H y=some v):
  yd P G o a w F m st.H v st.H true:=by
 unfold zow at hv
 split at hv
 ·rename_i rows h1 h2
  split at hv
  ·rename_i bs hb
   injection hv with hv;subst hv
   obtain ⟨ns,rfl,rfl⟩:=zhv hb
   obtain ⟨b,c,news,hx,hf,hc⟩:=Q_ R hy h1 h2 (by decide)
   have hn:news=ns.map (Value.int .u8):=by
    have hl:=hf.len
    simp only [cF,Nat.mul_one] at hl
    refine dN λ i=>?_
    rcases bS i ns.length with h|h
    ·obtain ⟨u,k1,k2⟩:=hf.rel i [PV.int .u8 ns[i]] 0 (.int .u8 ns[i]) (by simp [h]) rfl
     simp only [Nat.mul_one,cN] at k1
     rw [k1,k2.int_inv]
     simp [h]
    ·rw [bB (by omega),bB (by simpa using h)]
   subst hn
   refine yd.same (cv:=.string ⟨(ns.map λ n=>UInt8.ofNat n.toNat).toArray⟩) R ?_ (.froz _ _ (.str _))
   have key:(convert s d (.slice b ns.length c)).run P w=.ok (.string ⟨(ns.map λ n=>UInt8.ofNat n.toNat).toArray⟩) w:=by
    rw [run_convert_bytes_string w s d e b _ c hs he hd]
    rcases hc with h0|⟨ad,rfl,hcell⟩
    ·have h0:ns=[]:=by simpa using h0
     subst h0
     cases b with
     |none=>simp [Conv.bytesToString,ByteArray.empty,ByteArray.emptyWithCapacity];rfl
     |some ad=>
      have:=run_bytesToString (P:=P) w ad 0 c [] (by simp [loadCells,loadCellsFrom])
      exact this
    ·have hl:=run_loadCells_list (P:=P) w ad (ns.map (Value.int .u8)) (λ j v hj=>hcell j v hj)
     rw [cF] at hl
     rw [run_bytesToString w ad _ c ns hl,foldl_push_bytes]
     simp [ByteArray.empty,ByteArray.emptyWithCapacity]
     rfl
   rw [cF] at hx
   simp only [execOp,ho,hx,Sem.run_bind,key,Result.andThen_ok,Sem.run_pure]
  ·cases hv
 ·cases hv
theorem yl.drew (R:yl G w F m H):yl G w.drew F m H/\wq w F m H w.drew F m H:=by
 obtain ⟨h1,h2,_⟩:=R.world (w':=w.drew) (F':=F) (aS _) (λ _ _=>rfl) ⟨rfl,rfl,rfl,λ _=>rfl⟩ (λ _ h=>h) (λ _ h=>.inl h) R.ltF
 exact ⟨h1,h2⟩
theorem yl.virt (R:yl G w F m H) (s:Nat):yl G w F (m.put H.length .virt) (H++[.cells s []])/\wq w F m H w F (m.put H.length .virt) (H++[.cells s []]):=by
 have hl:∀ j,zu (H++[.cells s []]) j=zu H j:=by
  intro j
  unfold zu
  rcases Nat.lt_trichotomy j H.length with h|h|h
  ·rw [aD h]
  ·subst h;simp
  ·rw [bB (by simp;omega),bB (by omega)]
 have hloc:∀ id,m id≠.unk->m.put H.length .virt id≠.unk/\zu H id<=zu (H++[.cells s []]) id/\(zu (H++[.cells s []]) id=zu H id->m.put H.length .virt id=m id):=by
  intro id hid
  have:id≠H.length:=λ e=>hid (R.fresh id (by omega))
  rw [zR.put_other _ _ this,hl]
  exact ⟨hid,aS _,λ _=>rfl⟩
 have hm:∀ p v,zo w F m (zu H) p v->zo w F (m.put H.length .virt) (zu (H++[.cells s []])) p v:=λ p v h=>h.mono (λ _ _=>rfl) (λ _ h=>h) hloc
 have hne:∀ id b o' c s',m.put H.length .virt id=.at_ b o' c s'->m id=.at_ b o' c s':=by
  intro id b o' c s' h
  by_cases e:id=H.length
  ·subst e;rw [zR.put_same] at h;cases h
  ·rwa [zR.put_other _ _ e] at h
 refine ⟨⟨λ id z rows hj=>?_,λ id es hj=>?_,λ id hid=>?_,λ id id' b o' c s' o2 c2 s2 h1 h2=>R.inj _ _ _ _ _ _ _ _ _ (hne _ _ _ _ _ h1) (hne _ _ _ _ _ h2),λ b ⟨id,o',c,s',h⟩=>R.lt b ⟨id,o',c,s',hne _ _ _ _ _ h⟩,R.ltF,
  λ b ⟨id,o',c,s',h⟩=>R.apart b ⟨id,o',c,s',hne _ _ _ _ _ h⟩,R.glob⟩,
  ⟨aS _,λ _ h=>h,λ _ h=>.inl h,λ _ _ _=>rfl,hloc,λ b ⟨id,o',c,s',h⟩=>.inl ⟨id,o',c,s',hne _ _ _ _ _ h⟩,rfl,rfl,rfl,λ _=>rfl,by simp,λ id h1 h2=>by
   by_cases e:id=H.length
   ·omega
   ·rw [zR.put_other _ _ e] at h2;exact absurd h1 h2⟩⟩
 ·by_cases e:id=H.length
  ·subst e
   simp at hj
   exact .inr (.inl ⟨zR.put_same ..,hj.2⟩)
  ·have hlt:id<H.length:=by have:=(aF.1 hj).1;simp at this;omega
   rw [aD hlt] at hj
   rw [zR.put_other _ _ e]
   rcases R.cells id z rows hj with h|h|⟨x,o',c',k1,k2⟩
   ·exact .inl h
   ·exact .inr (.inl h)
   ·exact .inr (.inr ⟨x,o',c',k1,k2.mono rfl hm⟩)
 ·have e:id≠H.length:=by intro e;subst e;simp at hj
  have hlt:id<H.length:=by have:=(aF.1 hj).1;simp at this;omega
  rw [aD hlt] at hj
  rw [zR.put_other _ _ e]
  rcases R.maps id es hj with h|⟨x,k1,k2⟩
  ·exact .inl h
  ·exact .inr ⟨x,k1,k2.mono rfl hm⟩
 ·simp at hid
  rw [zR.put_other _ _ (by omega)]
  exact R.fresh id (by omega)
theorem zlo {t:TypeId} {x y:Operand} {c:Call} (ho:o.op=.call c) (hc:c.callee=.builtin .append) (hat:c.argTypes.toList=[t,t]) (har:c.args.toList=[x,y]):
  (execOp a.eval o).run P w=((Builtin.append_ #[t,t] o.type #[a.eval x,a.eval y]).run P w).andThen λ v w'=>.ok (.value v) w':=by
 obtain ⟨callee,args,argTypes⟩:=c
 simp only at hc hat har
 subst hc
 have hargs:args=#[x,y]:=by rw [<-dB (xs:=args),har]
 have hats:argTypes=#[t,t]:=by rw [<-dB (xs:=argTypes),hat]
 subst hargs;subst hats
 simp [execOp,ho,resolve,invoke,builtin]
theorem K9 {t e ty:TypeId} (hu:P.underlying t=some (.slice e)) {i:TypeInfo} (hi:P.info? e=some i) (b:Option Addr) (l c:Nat) (h:l<=c) (b':Option Addr) (c':Nat):
  (Builtin.append_ #[t,t] ty #[.slice b l c,.slice b' 0 c']).run P w=.ok (.slice b l c) w:=by
 have hf:(Builtin.firstCells i.size 0 (.slice b' 0 c')).run P w=.ok #[] w:=by
  cases b' with
  |none=>simp [Builtin.firstCells]
  |some ad=>exact run_firstCells_some (P:=P) w i.size 0 ad 0 c' [] (by simp) (by simp)
 cases b with
 |none=>simp [Builtin.append_,run_underlying hu,sizeOf,typeInfo,hi,Builtin.lenOf,h,hf]
 |some ad=>simp [Builtin.append_,run_underlying hu,sizeOf,typeInfo,hi,Builtin.lenOf,h,hf,storeCells]
theorem zhO (w:World) (need old:Nat) (e:TypeId):need<=grownCap w need old e:=by
 unfold grownCap
 simp only [Question.cut]
 omega
theorem zia (R:yl G w F m st.H) {t e:TypeId} {x y:Operand} {c:Call} (ho:o.op=.call c) (hc:c.callee=.builtin .append) (hat:c.argTypes.toList=[t,t]) (har:c.args.toList=[x,y]) {sz by':Nat} (he:kC P t=some (e,sz,by')) {z:List PV} (hz:Zx P e=some z) (hzl:z.length=sz)
  (hx:a.eval x=.slice none 0 0) {py:PV} (hy:zo w F m (zu st.H) py (a.eval y)) {new:List (List PV)} (hn:uu st.H py=some new) (hsz:xU st.H sz py=true) (hb:new.length*by'<=35184372088832) {id:Nat} {H':zd} (hH':∀ j,j≠id->H'[j]?=st.H[j]?) (hid:H'[id]?=some (.cells sz new))
  (hcase:(id=st.H.length/\H'=st.H++[.cells sz new])\/(m id=.virt/\zu st.H id=0/\(new=[]->H'=st.H))):yd P G o a w F m st.H (.sl id 0 new.length new.length) H' false:=by
 obtain ⟨hu,i,hi,hi2,hi3,hs0,hb0⟩:=kR he
 obtain ⟨i',zv,hi',hzv,hcz⟩:=Wy hz
 rw [hi] at hi'
 injection hi' with hi'
 subst hi'
 have hzs:zv.cells.size=i.size:=by have:=(vA (w:=w) (F:=F) hcz).1.1;simp at this;omega
 subst hi2
 subst hi3
 obtain ⟨b,c',news,hyv,hfl,hsrc⟩:=Q_ R hy hn hsz hs0
 have hr:=zlo (P:=P) (w:=w) (a:=a) ho hc hat har
 rw [hx,hyv] at hr
 cases hnew:new with
 |nil=>
  rw [hnew] at hr
  simp only [bE] at hr
  rw [K9 hu hi none 0 0 (aS _) b c'] at hr
  rcases hcase with ⟨h1,h2⟩|⟨h1,h2,h3⟩
  ·subst h1
   rw [hnew] at h2
   subst h2
   obtain ⟨R',g⟩:=R.virt i.size
   exact yd.of hr R' g (.slVirt _ (zR.put_same ..) (by simp [zu])) (by simp)
  ·have:=h3 hnew
   subst this
   refine yd.of hr R (wq.refl ..) (.slVirt _ h1 h2) (by simp)
 |cons r0 rs=>
  rw [<-hnew]
  have hpos:0<new.length:=by rw [hnew];simp
  rcases hsrc with h0|⟨ad,rfl,hcell⟩
  ·rw [h0] at hpos;simp at hpos
  have hb2:new.length<=35184372088832:=by
   calc new.length=new.length*1:=by omega
    _<=new.length*i.bytes:=Nat.mul_le_mul_left _ (by omega)
    _<=_:=hb
  have hrun:=run_append_nil (P:=P) w t o.type e i zv hu hi hzv ad new.length c' news hfl.len hcell hpos (by omega) (by omega)
  rw [hrun] at hr
  obtain ⟨R1,g1⟩:=R.drew
  have hge:=zhO w new.length 0 e
  have hcur:((w.drew.alloc (.cells (news.toArray++Builtin.zeroCells zv.cells (grownCap w new.length 0 e-new.length)) e)).heap)[w.heap.size]?=some (.cells (news.toArray++Builtin.zeroCells zv.cells (grownCap w new.length 0 e-new.length)) e (0,0)):=by
   show (w.heap.push _)[_]?=_
   simp
  have hids:id<=st.H.length:=by
   rcases hcase with ⟨h1,_⟩|⟨h1,h2,_⟩
   ·omega
   ·rcases bS id st.H.length with h|h
    ·omega
    ·rw [R.fresh id h] at h1;cases h1
  obtain ⟨R',g⟩:=R1.put (w':=w.drew.alloc (.cells (news.toArray++Builtin.zeroCells zv.cells (grownCap w new.length 0 e-new.length)) e)) (H':=H') id w.heap.size 0 (grownCap w new.length 0 e) i.size (.cells i.size new)
   hH' hid (λ x h1 h2=>by show (w.heap.push _)[x]?=w.heap[x]?;simp [dJ];intro e;exact absurd e h1) (by show w.heap.size<=(w.heap.push _).size;simp) (by show w.heap.size<(w.heap.push _).size;simp) (.inr (aS _))
   (λ h=>by
    rcases hcase with ⟨h1,_⟩|⟨h1,_,_⟩
    ·omega
    ·rw [h1] at h;cases h)
   (λ h=>by
    rcases hcase with ⟨h1,_⟩|⟨h1,h2,_⟩
    ·exact absurd (R.fresh id (by omega)) h
    ·rw [h2,kI hid]
     exact ⟨by omega,λ h=>by omega⟩) ⟨rfl,rfl,rfl,RowKit.frozen?_alloc_cells w.drew _ _⟩
   (λ hmono=>⟨rfl,(hfl.mono λ p v h=>hmono p v (zo.grow R g1 h)).cellsAt hcur hge (by
    simp only [Array.size_append,List.size_toArray,size_zeroCells,hzs,hfl.len, <-cH]
    exact Nat.le_of_eq (by congr 1;omega)) λ k u hk=>by
     have:=(aF.1 hk).1
     rw [Array.getElem?_append_left (by simpa using this)]
     simpa using hk⟩)
  refine yd.of hr R' (g1.trans g) ?_ (by simp)
  have:=zo.sl (w:=w.drew.alloc (.cells (news.toArray++Builtin.zeroCells zv.cells (grownCap w new.length 0 e-new.length)) e)) (F:=F) (m:=m.put id (.at_ w.heap.size 0 (grownCap w new.length 0 e) i.size)) (L:=zu H') id 0 new.length new.length w.heap.size 0 (grownCap w new.length 0 e) i.size ⟨w.heap.size,0,none⟩ (zR.put_same ..) (kI hid) (by omega) hge (.inr (by simp))
  simpa using this
theorem zrr (R:yl G w F m st.H) {t e:TypeId} {x y:Operand} {c:Call} (ho:o.op=.call c) (hc:c.callee=.builtin .append) (hat:c.argTypes.toList=[t,t]) (har:c.args.toList=[x,y]) {sz by':Nat} (he:kC P t=some (e,sz,by')) {z:List PV} (hz:Zx P e=some z) (hzl:z.length=sz)
  {id off len tot:Nat} (hx:zo w F m (zu st.H) (.sl id off len tot) (a.eval x)) {py:PV} (hy:zo w F m (zu st.H) py (a.eval y)) {new:List (List PV)} (hn:uu st.H py=some new) (hsz:xU st.H sz py=true)
  {rows:List (List PV)} (hH:st.H[id]?=some (.cells sz rows)) (htot:tot=rows.length) (hle:off+len<=tot) (hb:(off+len+new.length)*by'<=35184372088832):
  (off+len+new.length<=tot->yd P G o a w F m st.H (.sl id off (len+new.length) tot) (st.H.set id (.cells sz (rows.take (off+len)++new++rows.drop (off+len+new.length)))) false)/\
  (tot<off+len+new.length->off=0->yd P G o a w F m st.H (.sl id 0 (len+new.length) (len+new.length)) (st.H.set id (.cells sz (rows.take len++new))) false):=by
 obtain ⟨hu,i,hi,hi2,hi3,hs0,hb0⟩:=kR he
 have hlens:=kI hH
 have hidl:id<st.H.length:=(aF.1 hH).1
 obtain ⟨b',c',news,hyv,hfl,hsrc⟩:=Q_ R hy hn hsz hs0
 have hr:=zlo (P:=P) (w:=w) (a:=a) ho hc hat har
 rw [hyv] at hr
 have hset:∀ n,st.H.set id (.cells sz (rows.take n++[]++rows.drop (n+0)))=st.H:=by
  intro n
  rw [bY,cN,List.take_append_drop]
  apply dN
  intro j
  by_cases e:j=id
  ·subst e;rw [aK hidl,hH]
  ·rw [aH (Ne.symm e)]
 generalize hxv:a.eval x=u at hx
 rw [hxv] at hr
 cases hx with
 |froz _ _ hx=>cases hx
 |slOld _ _ _ _ b c hm hL hc=>omega
 |slVirt _ hm hL=>
  have hr0:rows=[]:=by rw [hlens] at hL;exact bT.1 hL
  constructor
  ·intro h
   have hn0:new=[]:=by apply bT.1;omega
   subst hn0
   rw [bE,K9 hu hi none 0 0 (aS _) b' c'] at hr
   rw [show (0+0+([]:List (List PV)).length)=(0+0)+0 by simp,hset]
   exact yd.of hr R (wq.refl ..) (.slVirt _ hm hL) (by simp)
  ·intro h _
   rw [bO]
   refine zia R ho hc hat har he hz hzl hxv hy hn hsz (by simpa using hb) (λ j hj=>aH (Ne.symm hj)) (by rw [aK hidl,hr0];rfl) (.inr ⟨hm,hL,λ hn0=>?_⟩)
   subst hn0
   simp at h
 |sl _ _ _ _ blk o' cap s b hm hL ht hcp hbb=>
  obtain ⟨e1,hca⟩:=R.block hH hm
  subst e1
  subst hi2
  subst hi3
  by_cases hn0:new=[]
  ·subst hn0
   rw [bE,K9 hu hi (some b) len (cap-off) (by omega) b' c'] at hr
   constructor
   ·intro _
    rw [show (off+len+([]:List (List PV)).length)=(off+len)+0 by simp,hset]
    exact yd.of hr R (wq.refl ..) (.sl _ _ _ _ blk o' cap i.size b hm hL ht hcp hbb) (by simp)
   ·intro h _;simp at h;omega
  ·have hpos:0<new.length:=by
    cases new with
    |nil=>exact absurd rfl hn0
    |cons _ _=>simp
   rcases hsrc with h0|⟨ad,rfl,hcell⟩
   ·exact absurd h0 hn0
   obtain ⟨cur,t',c1,c2,c3⟩:=hca.cur
   have inplace:∀ (rows':List (List PV)),len+new.length<=cap-off->rows.length<=rows'.length->rows'.length<=cap->(∀ (k:Nat) (r:List PV),rows'[k]?=some r->(k<off+len\/off+len+new.length<=k)/\rows[k]?=some r\/off+len<=k/\k<off+len+new.length/\new[k-(off+len)]?=some r)->
     (∀ (v:PV) (tot':Nat),tot'=rows'.length->v=.sl id off (len+new.length) tot'->off+(len+new.length)<=tot'->yd P G o a w F m st.H v (st.H.set id (.cells i.size rows')) false):=by
    intro rows' hroom h1 h2 h3 v tot' htot' hv hle'
    have hbs:b=⟨blk,o'+off*i.size,none⟩:=by
     rcases hbb with h|h
     ·omega
     ·exact h
    subst hbs
    have hX:o'+(off+len)*i.size+news.length<=cur.size:=by
     rw [hfl.len]
     have:(off+len)*i.size+new.length*i.size<=cap*i.size:=by rw [<-cH];exact bF _ (by omega)
     omega
    have hsp:=R.splice hH hm c1 c2 (o'+(off+len)*i.size) news hX h1 h2 (λ k r hk=>by
      rcases h3 k r hk with ⟨_,h⟩|⟨_,_,h⟩
      ·exact hca.size _ _ h
      ·exact hfl.size r (aJ h))
     (λ hmono k r j p hk hj=>by
      rw [hfl.len] at hmono
      rw [KX _ _ _ _ (by simpa using hX),hfl.len]
      have hjs:j<i.size:=by
       have h5:=(aF.1 hj).1
       rcases h3 k r hk with ⟨_,h⟩|⟨_,_,h⟩
       ·rw [hca.size _ _ h] at h5;exact h5
       ·rw [hfl.size r (aJ h)] at h5;exact h5
      rcases h3 k r hk with ⟨h4,h⟩|⟨h4,h5,h⟩
      ·obtain ⟨v,q1,q2,q3⟩:=c3 k r j p h hj
       refine ⟨v,?_,q2,hmono _ _ q3⟩
       rw [<-cS] at q1
       rcases h4 with h4|h4
       ·have:k*i.size+i.size<=(off+len)*i.size:=by
         calc k*i.size+i.size=(k+1)*i.size:=by rw [cH];omega
          _<=(off+len)*i.size:=bF _ h4
        rw [if_pos (by omega)]
        exact q1
       ·have:(off+len)*i.size+new.length*i.size<=k*i.size:=by rw [<-cH];exact bF _ h4
        rw [if_neg (by omega),if_neg (by omega)]
        exact q1
      ·obtain ⟨v,q1,q2⟩:=hfl.rel _ r j p h hj
       refine ⟨v,?_,hfl.one v (aJ q1),hmono _ _ q2⟩
       have h6:(k-(off+len))*i.size=k*i.size-(off+len)*i.size:=Nat.sub_mul ..
       have h7:(off+len)*i.size<=k*i.size:=bF _ h4
       have h8:(off+len)*i.size+new.length*i.size≥k*i.size+i.size:=by
        calc k*i.size+i.size=(k+1)*i.size:=by rw [cH];omega
         _<=(off+len+new.length)*i.size:=bF _ h5
         _=_:=by rw [cH]
       rw [if_neg (by omega),if_pos (by omega)]
       rw [show o'+k*i.size+j-(o'+(off+len)*i.size)=(k-(off+len))*i.size+j by omega]
       exact q1)
    have hfc:=run_firstCells_some (P:=P) w i.size new.length ad new.length c' news hfl.len hcell
    have hst:=run_storeCells_at P blk (o'+(off+len)*i.size) t' news 0 cur w c1 (by rw [cN];exact hX) hfl.one
    simp only [cN] at hst
    have hadd:(⟨blk,o'+off*i.size,none⟩:Addr).add (len*i.size)=⟨blk,o'+(off+len)*i.size,none⟩:=by rw [uy,cH,bZ]
    have hrun:(Builtin.append_ #[t,t] o.type #[.slice (some ⟨blk,o'+off*i.size,none⟩) len (cap-off),.slice (some ad) new.length c']).run P w=
      .ok (.slice (some ⟨blk,o'+off*i.size,none⟩) (len+new.length) (cap-off)) (w.setRow blk (cur.toList.take (o'+(off+len)*i.size)++news++cur.toList.drop (o'+(off+len)*i.size+news.length)).toArray):=by
     simp [Builtin.append_,run_underlying hu,sizeOf,typeInfo,hi,Builtin.lenOf,hroom,hfc,hadd,hst]
    rw [hrun] at hr
    subst hv
    refine yd.of hr hsp.1 hsp.2 (.sl id off (len+new.length) tot' blk o' cap i.size _ hm (by rw [zfY hH];exact htot'.symm) hle' (by omega) (.inr rfl)) (by simp)
   constructor
   ·intro h
    have hl:(rows.take (off+len)++new++rows.drop (off+len+new.length)).length=rows.length:=by simp;omega
    refine inplace _ (by omega) (by omega) (by rw [hl];exact hca.room) (λ k r hk=>?_) _ tot (by omega) rfl (by omega)
    have hl1:(rows.take (off+len)).length=off+len:=by simp;omega
    by_cases g1:k<off+len
    ·rw [aY,aD (by omega),bR,if_pos g1] at hk
     exact .inl ⟨.inl g1,hk⟩
    ·by_cases g2:k<off+len+new.length
     ·rw [aY,aI (by omega),hl1,aD (by omega)] at hk
      exact .inr ⟨by omega,g2,hk⟩
     ·rw [aI (by simp;omega),cT] at hk
      rw [show off+len+new.length+(k-(rows.take (off+len)++new).length)=k by simp;omega] at hk
      exact .inl ⟨.inr (by omega),hk⟩
   ·intro h hoff
    subst hoff
    have hl:(rows.take len++new).length=len+new.length:=by simp;omega
    have hl1:(rows.take len).length=len:=by simp;omega
    by_cases hroom:len+new.length<=cap
    ·refine inplace _ (by omega) (by omega) (by omega) (λ k r hk=>?_) _ (len+new.length) (by omega) rfl (by omega)
     by_cases g1:k<len
     ·rw [aD (by omega),bR,if_pos g1] at hk
      exact .inl ⟨.inl (by omega),hk⟩
     ·have hk2:=(aF.1 hk).1
      rw [aI (by omega),hl1] at hk
      exact .inr ⟨by omega,by omega,by simpa using hk⟩
    ·obtain ⟨i',zv,hi',hzv,hcz⟩:=Wy hz
     rw [hi] at hi'
     injection hi' with hi'
     subst hi'
     have hzs:zv.cells.size=i.size:=by have:=(vA (w:=w) (F:=F) hcz).1.1;simp at this;omega
     obtain ⟨olds,f1,f2⟩:=hca.flat hs0 (off:=0) (len:=len) (by omega)
     rw [dZ] at f1
     have hbs:len=0\/b=⟨blk,o',none⟩:=by
      rcases hbb with h|h
      ·left;omega
      ·right;simpa using h
     have holds:∀ (k:Nat) (u:Value),olds[k]?=some u->w.cell? (b.add k)=some u:=by
      intro k u hk
      rcases hbs with h|h
      ·have h5:=f1.len
       rw [h] at h5
       simp at h5
       subst h5
       simp at hk
      ·subst h
       rw [uy]
       have:=f2 k u hk
       simpa using this
     have hlen2:len+new.length<=35184372088832:=by
      calc len+new.length=(0+len+new.length)*1:=by omega
       _<=(0+len+new.length)*i.bytes:=Nat.mul_le_mul_left _ (by omega)
       _<=_:=hb
     have hfit:Builtin.nextslicecap (len+new.length) cap*i.bytes<=281474976710656:=growslice_fits (by omega) (by have:=hb;rw [bO] at this;omega)
     have holen:olds.length=len*i.size:=by rw [f1.len];congr 1
     have hrun:=run_append_grow (P:=P) w t o.type e i zv hu hi hzv b len cap olds holen holds ad new.length c' news hfl.len hcell (by omega) (by omega) hfit
     rw [Nat.sub_zero,hrun] at hr
     obtain ⟨R1,g1⟩:=R.drew
     have hge:=zhO w (len+new.length) cap e
     have hfa:=f1.append hfl
     have hcur:((w.drew.alloc (.cells (olds.toArray++news.toArray++Builtin.zeroCells zv.cells (grownCap w (len+new.length) cap e-(len+new.length))) e)).heap)[w.heap.size]?=some (.cells (olds.toArray++news.toArray++Builtin.zeroCells zv.cells (grownCap w (len+new.length) cap e-(len+new.length))) e (0,0)):=by
      show (w.heap.push _)[_]?=_
      simp
     obtain ⟨R',g⟩:=R1.put (w':=w.drew.alloc (.cells (olds.toArray++news.toArray++Builtin.zeroCells zv.cells (grownCap w (len+new.length) cap e-(len+new.length))) e)) (H':=st.H.set id (.cells i.size (rows.take len++new))) id w.heap.size 0 (grownCap w (len+new.length) cap e) i.size (.cells i.size (rows.take len++new))
      (λ j hj=>aH (Ne.symm hj)) (aK hidl) (λ x h1 h2=>by show (w.heap.push _)[x]?=w.heap[x]?;simp [dJ];intro e;exact absurd e h1) (by show w.heap.size<=(w.heap.push _).size;simp) (by show w.heap.size<(w.heap.push _).size;simp) (.inr (aS _))
      (λ h=>by rw [hm] at h;cases h)
      (λ _=>by rw [hlens,zfY hH];exact ⟨by omega,λ h=>by omega⟩) ⟨rfl,rfl,rfl,RowKit.frozen?_alloc_cells w.drew _ _⟩
      (λ hmono=>⟨rfl,(hfa.mono λ p v h=>hmono p v (zo.grow R g1 h)).cellsAt hcur (by rw [hl];exact hge) (by
       simp only [Array.size_append,List.size_toArray,size_zeroCells,hzs,hfl.len,holen, <-cH]
       exact Nat.le_of_eq (by congr 1;omega)) λ k u hk=>by
        have h5:=(aF.1 hk).1
        have e5:olds.toArray++news.toArray=(olds++news).toArray:=by simp
        rw [e5,Array.getElem?_append_left (by simpa using h5)]
        simpa using hk⟩)
     refine yd.of hr R' (g1.trans g) ?_ (by simp)
     have:=zo.sl (w:=w.drew.alloc (.cells (olds.toArray++news.toArray++Builtin.zeroCells zv.cells (grownCap w (len+new.length) cap e-(len+new.length))) e)) (F:=F) (m:=m.put id (.at_ w.heap.size 0 (grownCap w (len+new.length) cap e) i.size)) (L:=zu (st.H.set id (.cells i.size (rows.take len++new)))) id 0 (len+new.length) (len+new.length) w.heap.size 0 (grownCap w (len+new.length) cap e) i.size ⟨w.heap.size,0,none⟩ (zR.put_same ..) (by rw [zfY hH,hl]) (by omega) hge (.inr (by simp))
     simpa using this
end
end
section
section
variable {P:Program} {G:Nat->Option (List PV)} {T:yh} {nt:Nat} {w:World} {F:Nat->Prop} {m:zR} {st:St} {a:Act} {o:Oper}
theorem zjv {f:FuncId} (h:Vt P f=true) (us:Array Value):(callFunc f us).run P w=.ok (.enter f us) w:=by
 unfold Vt at h
 split at h
 ·rename_i fn hf
  simp only [aU,Bool.not_eq_true'] at h
  have hb:fn.body≠none:=by intro e;simp [e] at h
  have hne:fn.name≠ "runtime.NumGoroutine" :=by simpa using h.2
  simp [callFunc,hf,hne,hb]
 ·cases h
theorem zfZ (xs:Array Operand):(xs.map a.eval)=(xs.toList.map a.eval).toArray:=by apply Array.ext';simp
theorem zyl {t u:TypeId} {x y:Operand} {c:Call} (ho:o.op=.call c) (hc:c.callee=.builtin .copy) (hat:c.argTypes.toList=[t,u]) (har:c.args.toList=[x,y]):
  (execOp a.eval o).run P w=((Builtin.copy_ #[t,u] o.type #[a.eval x,a.eval y]).run P w).andThen λ v w'=>.ok (.value v) w':=by
 obtain ⟨callee,args,argTypes⟩:=c
 simp only at hc hat har
 subst hc
 have hargs:args=#[x,y]:=by rw [<-dB (xs:=args),har]
 have hats:argTypes=#[t,u]:=by rw [<-dB (xs:=argTypes),hat]
 subst hargs;subst hats
 simp [execOp,ho,resolve,invoke,builtin]
theorem zCu (R:yl G w F m st.H) {t u e:TypeId} {x y:Operand} {c:Call} (ho:o.op=.call c) (hc:c.callee=.builtin .copy) (hat:c.argTypes.toList=[t,u]) (har:c.args.toList=[x,y]) {sz by':Nat} (he:kC P t=some (e,sz,by')) {C:Cl}
  {x' y':zy} (hx:zo w F m (zu st.H) (x'.get G st) (a.eval x)) (hy:zo w F m (zu st.H) (y'.get G st) (a.eval y)) {v:PV} {H':zd} {ed:zI} (hev:zt G C st (.copyS sz x' y')=some (v,H',ed)):yd P G o a w F m st.H v H' false:=by
 obtain ⟨hu,i,hi,hi2,hi3,hs0,hb0⟩:=kR he
 simp only [zt] at hev
 split at hev
 ·rename_i id off len tot new hpx hn
  split at hev
  ·rename_i s rows hH
   split at hev
   ·rename_i hb
    simp only [aU,beq_iff_eq,cC] at hb
    obtain ⟨⟨⟨b1,b2⟩,b3⟩,b4⟩:=hb
    subst b3
    injection hev with hev
    injection hev with e1 e2
    injection e2 with e2 e3
    subst e1;subst e2
    subst hi2
    rw [hpx] at hx
    have hlens:=kI hH
    have hidl:id<st.H.length:=(aF.1 hH).1
    obtain ⟨b',c',news,hyv,hfl,hsrc⟩:=Q_ R hy hn b4 hs0
    have hr:=zyl (P:=P) (w:=w) (a:=a) ho hc hat har
    rw [hyv] at hr
    have none_:∀ (b:Option Addr) (c2:Nat),a.eval x=.slice b len c2->min new.length len=0->yd P G o a w F m st.H (.int .i64 (min new.length len:Nat)) (st.H.set id (.cells i.size (rows.take off++new.take len++rows.drop (off+min new.length len)))) false:=by
     intro b c2 hxv h0
     have hf:(Builtin.firstCells i.size 0 (.slice b' new.length c')).run P w=.ok #[] w:=by
      cases b' with
      |none=>simp [Builtin.firstCells]
      |some ad=>exact run_firstCells_some (P:=P) w i.size 0 ad new.length c' [] (by simp) (by simp)
     have hrun:(Builtin.copy_ #[t,u] o.type #[.slice b len c2,.slice b' new.length c']).run P w=.ok (goInt 0) w:=by
      cases b with
      |none=>simp [Builtin.copy_,run_underlying hu,Builtin.lenOf,h0,sizeOf,typeInfo,hi,hf]
      |some ad=>simp [Builtin.copy_,run_underlying hu,Builtin.lenOf,h0,sizeOf,typeInfo,hi,hf,storeCells]
     rw [hxv,hrun] at hr
     have hnt:new.take len=[]:=by
      apply bT.1
      rw [dG]
      omega
     rw [hnt,h0,cN,bY,List.take_append_drop]
     have hset:st.H.set id (.cells i.size rows)=st.H:=by
      apply dN
      intro j
      by_cases e:j=id
      ·subst e;rw [aK hidl,hH]
      ·rw [aH (Ne.symm e)]
     rw [hset]
     exact yd.of hr R (wq.refl ..) (.froz _ _ (.int _ _)) (by simp)
    generalize hxv:a.eval x=xv at hx
    cases hx with
    |froz _ _ hx=>cases hx
    |slVirt _ hm hL=>exact none_ none 0 hxv (by omega)
    |slOld _ _ _ _ b c hm hL hc=>omega
    |sl _ _ _ _ blk o' cap s' b hm hL ht hcp hbb=>
     obtain ⟨e1,hca⟩:=R.block hH hm
     subst e1
     by_cases h0:min new.length len=0
     ·exact none_ (some b) (cap-off) hxv h0
     ·have hbs:b=⟨blk,o'+off*i.size,none⟩:=by
       rcases hbb with h|h
       ·omega
       ·exact h
      subst hbs
      rcases hsrc with hn0|⟨ad,rfl,hcell⟩
      ·rw [hn0] at h0;simp at h0
      obtain ⟨cur,t',c1,c2,c3⟩:=hca.cur
      have hvl:(news.take (min new.length len*i.size)).length=min new.length len*i.size:=by
       rw [dG,hfl.len]
       exact d8 (bF _ (Nat.min_le_left _ _))
      have hX:o'+off*i.size+(news.take (min new.length len*i.size)).length<=cur.size:=by
       rw [hvl]
       have:off*i.size+min new.length len*i.size<=cap*i.size:=by rw [<-cH];exact bF _ (by omega)
       omega
      have hl:(rows.take off++new.take len++rows.drop (off+min new.length len)).length=rows.length:=by simp;omega
      have hrow:∀ (k:Nat) (r:List PV),(rows.take off++new.take len++rows.drop (off+min new.length len))[k]?=some r->(k<off\/off+min new.length len<=k)/\rows[k]?=some r\/off<=k/\k<off+min new.length len/\new[k-off]?=some r:=by
       intro k r hk
       have hl1:(rows.take off).length=off:=by simp;omega
       have hl2:(new.take len).length=min new.length len:=by simp;omega
       by_cases g1:k<off
       ·rw [aY,aD (by omega),bR,if_pos g1] at hk
        exact .inl ⟨.inl g1,hk⟩
       ·by_cases g2:k<off+min new.length len
        ·rw [aY,aI (by omega),hl1,aD (by omega),bR] at hk
         split at hk
         ·exact .inr ⟨by omega,g2,hk⟩
         ·cases hk
        ·rw [aI (by rw [aQ];omega),cT,aQ,hl1,hl2] at hk
         rw [show off+min new.length len+(k-(off+min new.length len))=k by omega] at hk
         exact .inl ⟨.inr (by omega),hk⟩
      have hsp:=R.splice hH hm c1 c2 (o'+off*i.size) (news.take (min new.length len*i.size)) hX (rows':=rows.take off++new.take len++rows.drop (off+min new.length len)) (by omega) (by rw [hl];exact hca.room) (λ k r hk=>by
        rcases hrow k r hk with ⟨_,h⟩|⟨_,_,h⟩
        ·exact hca.size _ _ h
        ·exact hfl.size r (aJ h))
       (λ hmono k r j p hk hj=>by
        rw [hvl] at hmono
        rw [KX _ _ _ _ (by simpa using hX),hvl]
        have hjs:j<i.size:=by
         have h5:=(aF.1 hj).1
         rcases hrow k r hk with ⟨_,h⟩|⟨_,_,h⟩
         ·rw [hca.size _ _ h] at h5;exact h5
         ·rw [hfl.size r (aJ h)] at h5;exact h5
        rcases hrow k r hk with ⟨h4,h⟩|⟨h4,h5,h⟩
        ·obtain ⟨v,q1,q2,q3⟩:=c3 k r j p h hj
         refine ⟨v,?_,q2,hmono _ _ q3⟩
         rw [<-cS] at q1
         rcases h4 with h4|h4
         ·have:k*i.size+i.size<=off*i.size:=by
           calc k*i.size+i.size=(k+1)*i.size:=by rw [cH];omega
            _<=off*i.size:=bF _ h4
          rw [if_pos (by omega)]
          exact q1
         ·have:off*i.size+min new.length len*i.size<=k*i.size:=by rw [<-cH];exact bF _ h4
          rw [if_neg (by omega),if_neg (by omega)]
          exact q1
        ·obtain ⟨v,q1,q2⟩:=hfl.rel _ r j p h hj
         refine ⟨v,?_,hfl.one v (aJ q1),hmono _ _ q2⟩
         have h6:(k-off)*i.size=k*i.size-off*i.size:=Nat.sub_mul ..
         have h7:off*i.size<=k*i.size:=bF _ h4
         have h8:off*i.size+min new.length len*i.size≥k*i.size+i.size:=by
          calc k*i.size+i.size=(k+1)*i.size:=by rw [cH];omega
           _<=(off+min new.length len)*i.size:=bF _ h5
           _=_:=by rw [cH]
         rw [if_neg (by omega),if_pos (by omega)]
         rw [show o'+k*i.size+j-(o'+off*i.size)=(k-off)*i.size+j by omega,bR,if_pos (by omega)]
         exact q1)
      have hfc:=run_firstCells_some (P:=P) w i.size (min new.length len) ad new.length c' (news.take (min new.length len*i.size)) hvl (λ j v hj=>by
       rw [bR] at hj
       split at hj
       ·exact hcell j v hj
       ·cases hj)
      have hst:=run_storeCells_at P blk (o'+off*i.size) t' (news.take (min new.length len*i.size)) 0 cur w c1 (by rw [cN];exact hX) (λ v hv=>hfl.one v (cP hv))
      simp only [cN] at hst
      have hrun:(Builtin.copy_ #[t,u] o.type #[.slice (some ⟨blk,o'+off*i.size,none⟩) len (cap-off),.slice (some ad) new.length c']).run P w=
        .ok (goInt (min new.length len:Nat)) (w.setRow blk (cur.toList.take (o'+off*i.size)++news.take (min new.length len*i.size)++cur.toList.drop (o'+off*i.size+(news.take (min new.length len*i.size)).length)).toArray):=by
       have hm':Nat.min new.length len=min new.length len:=rfl
       have hsz:(sizeOf e).run P w=.ok i.size w:=by simp [sizeOf,typeInfo,hi]
       have ha0:(#[t,u]:Array TypeId)[0]?=some t:=rfl
       have ha1:∀ (p q:Value),(#[p,q]:Array Value)[0]?=some p:=λ _ _=>rfl
       have ha2:∀ (p q:Value),(#[p,q]:Array Value)[1]?=some q:=λ _ _=>rfl
       simp only [Builtin.copy_,ha0,ha1,ha2,Sem.run_bind,run_underlying hu,Result.andThen_ok,Builtin.lenOf,Sem.run_pure,hsz,hm',hfc,hst]
      rw [hxv,hrun] at hr
      exact yd.of hr hsp.1 hsp.2 (.froz _ _ (.int _ _)) (by simp)
   ·cases hev
  ·cases hev
 ·cases hev
theorem zum {fn:Func} (h:fn.name= "math.Float64bits"):Extern.find fn=some Extern.MathFloatBits.float64bits:=by
 unfold Extern.find
 simp only [h]
 kernel_rfl
theorem zyk {f:FuncId} (h:zbY P f=true) (n:Nat):(callFunc f #[.float .f64 n]).run P w=.ok (.value (.int .u64 n)) w:=by
 unfold zbY at h
 split at h
 ·rename_i fn hf
  simp only [aU,beq_iff_eq,Option.isNone_iff_eq_none] at h
  obtain ⟨⟨hb,hn⟩,hx⟩:=h
  have he:Extern.MathFloatBits.float64bits #[.float .f64 n]=pure (.int .u64 n):=rfl
  simp [callFunc,hf,hn,hb,hx,zum hn,he]
 ·cases h
theorem zlq {x y:Operand} {c:Call} (ho:o.op=.call c) {mx:Bool} (hc:c.callee=.builtin (match mx with|true=>.max|false=>.min)) (har:c.args.toList=[x,y]) {k k':IntKind} {p q:Int} (hx:a.eval x=.int k p) (hy:a.eval y=.int k' q):
  (execOp a.eval o).run P w=.ok (.value (.int k (match mx with|true=>if q>p then q else p|false=>if q<p then q else p))) w:=by
 obtain ⟨callee,args,argTypes⟩:=c
 simp only at hc har
 subst hc
 have hargs:args=#[x,y]:=by rw [<-dB (xs:=args),har]
 subst hargs
 cases mx<;>simp [execOp,ho,resolve,invoke,builtin,Builtin.max_,Builtin.min_,Builtin.max2,Builtin.min2,hx,hy]
theorem yd.toC {v:PV} {H H':zd} {ed:zI} (h:yd P G o a w F m H v H' true):zcw P G o a w F m H v H' ed true:=λ K Q hk=>h K Q λ cv w' F' m' h1 h2 h3 h4=>hk cv w' F' m' h1 h2 h3 h4 (λ h=>by cases h)
theorem zsb {C:Cl} (hC:JG P G C) (R:yl G w F m st.H) (E:vX T nt (zo w F m (zu st.H)) st a) {c:Call} (ho:o.op=.call c) {f:Operand} (hcal:c.callee=.value f) {ao:uU} (ht:Zw P T o.dst c=some ao) {v:PV} {H':zd} {ed:zI} (he:zt G C st ao=some (v,H',ed))
  :zcw P G o a w F m st.H v H' ed (wy ao):=by
 unfold Zw at ht
 simp only [hcal] at ht
 ·split at ht
  ·rename_i g hg
   have hfg:f=.func g:=by
    unfold zmC at hg
    split at hg
    ·injection hg with hg;rw [hg]
    ·cases hg
   subst hfg
   split at ht
   ·rename_i xs hb hx
    injection ht with ht
    subst ht
    have hargs:=VQ R E hx
    refine zcw.call hC R hargs (f:=g) (md:=T.md o.dst) he ?_
    simp only [execOp,ho,resolve,hcal,Act.eval,Deferred.ofValue,invoke,Sem.run_bind,Sem.run_pure,Result.andThen_ok]
    rw [show (#[]:Array Value)++c.args.map a.eval++#[]=(c.args.toList.map a.eval).toArray by rw [zfZ];simp]
    exact zjv hb _
   ·rename_i xs hb hx
    unfold zko at ht
    split at ht
    ·rename_i y hbits
     injection ht with ht
     subst ht
     have hargs:=VQ R E hx
     simp only [zt] at he
     split at he
     ·rename_i v' hv'
      simp only [aC,aG] at he
      obtain ⟨rfl,rfl,rfl⟩:=he
      simp only [aM,bA] at hargs
      obtain ⟨u,us,hus,hu,hnil⟩:=hargs.head
      have hus':us=[]:=by have:=hnil.1;simpa using this
      subst hus'
      generalize y.get G st=py at hv' hu
      cases py<;>simp only [Jg] at hv'<;>try (cases hv';done)
      rename_i k n
      cases k<;>simp only [Jg] at hv'<;>try (cases hv';done)
      injection hv' with hv'
      subst hv'
      have hu:=hu.flt_inv
      subst hu
      refine yd.toC (yd.same R (cv:=.int .u64 n) ?_ (.froz _ _ (.int _ _)))
      simp only [execOp,ho,resolve,hcal,Act.eval,Deferred.ofValue,invoke,Sem.run_bind,Sem.run_pure,Result.andThen_ok]
      rw [show (#[]:Array Value)++c.args.map a.eval++#[]=(c.args.toList.map a.eval).toArray by rw [zfZ];simp,hus]
      exact zyk hbits n
     ·cases he
    ·cases ht
   ·cases ht
  ·rename_i hne
   split at ht
   ·rename_i y xs hy hx
    injection ht with ht
    subst ht
    have hargs:=VQ R E hx
    have hf:=yg R E hy
    rw [Z6] at he
    split at he
    ·rename_i f caps hfc
     rw [hfc] at hf
     obtain ⟨cvs,hfv,hcaps⟩:=hf.fn_inv
     have hall:=hargs.append hcaps
     have hbody:Vt P f=true:=by
      unfold xH at he
      split at he
      ·split at he
       ·rename_i v' hp;exact hC.bodyP _ _ _ hp
       ·cases he
      ·exact hC.bodyS _ _ _ _ he
      ·split at he
       ·rename_i v' X' ed' hp;exact hC.bodyS _ _ _ _ hp
       ·cases he
      ·split at he
       ·rename_i v' X' ed' hp;exact hC.bodyS _ _ _ _ hp
       ·cases he
     refine zcw.call hC R hall (f:=f) (md:=T.md o.dst) he ?_
     simp only [execOp,ho,resolve,hcal,hfv,Deferred.ofValue,invoke,Sem.run_bind,Sem.run_pure,Result.andThen_ok]
     rw [show (#[]:Array Value)++c.args.map a.eval++cvs.toArray=(c.args.toList.map a.eval++cvs).toArray by rw [zfZ];simp]
     exact zjv hbody _
    ·cases he
   ·cases ht
theorem zCx {C:Cl} (R:yl G w F m st.H) (E:vX T nt (zo w F m (zu st.H)) st a) {c:Call} (ho:o.op=.call c) {mx:Bool} (hc:c.callee=.builtin (match mx with|true=>.max|false=>.min)) {ao:uU}
  (ht:(match uZ T c.args.toList with|some xs=>zhU xs mx|none=>none)=some ao) {v:PV} {H':zd} {ed:zI} (he:zt G C st ao=some (v,H',ed)):yd P G o a w F m st.H v H' (wy ao):=by
 split at ht
 ·rename_i xs hx
  have hargs:=VQ R E hx
  match xs,hargs,ht with
  |[x,y],hargs,ht=>
   simp only [zhU] at ht
   injection ht with ht
   subst ht
   simp only [zt] at he
   split at he
   ·rename_i v' hv'
    simp only [aC,aG] at he
    obtain ⟨rfl,rfl,rfl⟩:=he
    simp only [aM,bA] at hargs
    obtain ⟨u,us,hus,hu,h2⟩:=hargs.head
    obtain ⟨u2,us2,hus2,hu2,hnil⟩:=h2.head
    have hus':us2=[]:=by have:=hnil.1;simpa using this
    subst hus'
    subst hus2
    obtain ⟨ax,ay,har,hax,hay⟩:∃ ax ay,c.args.toList=[ax,ay]/\a.eval ax=u/\a.eval ay=u2:=by
     match hl:c.args.toList,hus with
     |[ax,ay],hus=>simp only [aM,bA,dT,and_true] at hus;exact ⟨ax,ay,rfl,hus.1,hus.2⟩
    generalize x.get G st=px at hv' hu
    generalize y.get G st=py at hv' hu2
    cases mx<;>cases px<;>simp only [mmV] at hv'<;>try (cases hv';done)
    all_goals
     cases py<;>simp only [mmV] at hv'<;>try (cases hv';done)
     injection hv' with hv'
     subst hv'
     have e1:=hu.int_inv
     have e2:=hu2.int_inv
     subst e1;subst e2
    ·exact yd.same R (zlq ho (mx:=false) hc har hax hay) (.froz _ _ (.int _ _))
    ·exact yd.same R (zlq ho (mx:=true) hc har hax hay) (.froz _ _ (.int _ _))
   ·cases he
 ·cases ht
theorem zCs {C:Cl} (hC:JG P G C) (R:yl G w F m st.H) (E:vX T nt (zo w F m (zu st.H)) st a) {c:Call} (ho:o.op=.call c) {ao:uU} (ht:Zw P T o.dst c=some ao) {v:PV} {H':zd} {ed:zI} (he:zt G C st ao=some (v,H',ed))
  :yd P G o a w F m st.H v H' (wy ao):=by
 unfold Zw at ht
 split at ht
 ·rename_i f hcal
  exact (zsb hC R E ho hcal (by unfold Zw;simp only [hcal];exact ht) he).ok
 ·rename_i b hcal
  split at ht
  ·split at ht
   ·rename_i t x hat har
    split at ht
    ·rename_i e hu
     split at ht
     ·rename_i y hy
      injection ht with ht
      subst ht
      have hv:=yg R E hy
      simp only [zt] at he
      cases hq:y.get G st<;>rw [hq] at he hv<;>simp only at he<;>try (cases he;done)
      all_goals
       injection he with he
       injection he with e1 e2
       injection e2 with e2 e3
       subst e1;subst e2
       exact zDK R ho hcal hat har hu rfl hv
     ·cases ht
    ·rename_i hu
     split at ht
     ·rename_i y hy
      injection ht with ht
      subst ht
      have hv:=yg R E hy
      simp only [zt] at he
      cases hq:y.get G st<;>rw [hq] at he hv<;>simp only at he<;>try (cases he;done)
      injection he with he
      injection he with e1 e2
      injection e2 with e2 e3
      subst e1;subst e2
      exact zCv R ho hcal hat har hu hv.str_inv
     ·cases ht
    ·rename_i n e hu
     injection ht with ht
     subst ht
     simp only [zt,zy.get,aC,aG] at he
     obtain ⟨rfl,rfl,_⟩:=he
     refine yd.same R (cv:=.int .i64 n) ?_ (.froz _ _ (.int _ _))
     rw [zmT (P:=P) (w:=w) (a:=a) ho hcal hat har]
     simp [Builtin.len_,run_underlying hu,goInt]
    ·cases ht
   ·cases ht
  ·split at ht
   ·rename_i t u x y hat har
    split at ht
    ·rename_i e sz by' x' y' he' hut hx hy
     split at ht
     ·rename_i z hz
      split at ht
      ·rename_i hzl
       injection ht with ht
       subst ht
       have hut':u=t:=aT hut
       subst hut'
       have hzl':z.length=sz:=aT hzl
       have hvx:=yg R E hx
       have hvy:=yg R E hy
       simp only [zt] at he
       split at he
       ·rename_i new hn hsz
        generalize hpx:x'.get G st=px at he hvx
        cases px<;>simp only [xe] at he<;>try (cases he;done)
        case nils=>
         split at he
         ·rename_i hb
          injection he with he
          injection he with e1 e2
          injection e2 with e2 e3
          subst e1;subst e2
          exact zia R ho hcal hat har he' hz hzl' hvx.nils_inv hvy hn hsz (eA hb) (λ j hj=>by
           rcases bS j st.H.length with h|h
           ·rw [aD h]
           ·rw [bB (by simp;omega),bB h]) (by simp) (.inl ⟨rfl,rfl⟩)
         ·cases he
        case sl id off len tot=>
         split at he
         ·rename_i s rows hH
          split at he
          ·rename_i hb
           simp only [aU,beq_iff_eq,cC] at hb
           obtain ⟨⟨⟨b1,b2⟩,b3⟩,b4⟩:=hb
           subst b2
           obtain ⟨k1,k2⟩:=zrr R ho hcal hat har he' hz hzl' hvx hvy hn hsz hH b1 b3 b4
           split at he
           ·rename_i hd
            injection he with he
            injection he with e1 e2
            injection e2 with e2 e3
            subst e1;subst e2
            exact k1 (eA hd)
           ·rename_i hd
            have hd':tot<off+len+new.length:=by have:=of_decide_eq_false hd;omega
            split at he
            ·injection he with he
             injection he with e1 e2
             injection e2 with e2 e3
             subst e1;subst e2
             exact k2 hd' rfl
            ·cases he
          ·cases he
         ·cases he
       ·cases he
      ·cases ht
     ·cases ht
    ·cases ht
   ·cases ht
  ·split at ht
   ·rename_i t u x y hat har
    split at ht
    ·rename_i e sz by' x' y' hq hx hy
     injection ht with ht
     subst ht
     exact zCu R ho hcal hat har hq (yg R E hx) (yg R E hy) he
    ·cases ht
   ·cases ht
  ·exact zCx R E ho (mx:=true) hcal ht he
  ·exact zCx R E ho (mx:=false) hcal ht he
  ·cases ht
 ·cases ht
theorem zeq {R:PV->Value->Prop} (hR:ziz R) (d:Nat) (xs ys:Array Value):∀ (fs:List Field) (i:Nat) (tags:List Nat) (ps qs:List PV) (b:Bool),zhF P i fs=some tags->Za tags ps qs=some b->
  (∀ (k:Nat) (p:PV),ps[k]?=some p->∃ v,xs[i+k]?=some v/\R p v)->(∀ (k:Nat) (p:PV),qs[k]?=some p->∃ v,ys[i+k]?=some v/\R p v)->(Op.eqFields (d+1) xs ys fs).run P w=.ok b w
 |[],i,tags,ps,qs,b,h1,h2,_,_=>by
  simp only [zhF,aC] at h1
  subst h1
  cases ps<;>cases qs<;>simp only [Za] at h2<;>try (cases h2;done)
  injection h2 with h2
  subst h2
  rfl
 |f::fs,i,tags,ps,qs,b,h1,h2,hx,hy=>by
  simp only [zhF] at h1
  split at h1
  ·rename_i t ts e1 e2 e3
   injection h1 with h1
   subst h1
   simp only [aU,Nat.beq_eq_true_eq,Bool.not_eq_true',beq_eq_false_iff_ne] at e2
   cases ps with
   |nil=>simp [Za] at h2
   |cons p ps=>
    cases qs with
    |nil=>simp [Za] at h2
    |cons q qs=>
     simp only [Za] at h2
     split at h2
     ·rename_i b1 b2 c1 c2
      injection h2 with h2
      subst h2
      obtain ⟨v,v1,v2⟩:=hx 0 p rfl
      obtain ⟨u,u1,u2⟩:=hy 0 q rfl
      rw [cN] at v1 u1
      have hoff:f.offset=i:=aT e2.1
      have ih:=zeq hR d xs ys fs (i+1) ts ps qs b2 e3 c2 (λ k r hk=>by have:=hx (k+1) r (by simpa using hk);rwa [show i+(k+1)=i+1+k by omega] at this) (λ k r hk=>by have:=hy (k+1) r (by simpa using hk);rwa [show i+(k+1)=i+1+k by omega] at this)
      have hag:(isAgg f.type).run P w=.ok false w:=by
       rcases VN e1 with ⟨_,k,hu⟩|⟨_,hu⟩|⟨_,hu⟩<;>simp [isAgg,run_underlying hu]
      have hp1:(part f.type xs f.offset).run P w=.ok v w:=by simp [part,hag,hoff,v1]
      have hp2:(part f.type ys f.offset).run P w=.ok u w:=by simp [part,hag,hoff,u1]
      have heq:(Op.equalIn (d+1) f.type v u).run P w=.ok b1 w:=by
       obtain ⟨k1,k2,k3⟩:=hR p v v2
       obtain ⟨l1,l2,l3⟩:=hR q u u2
       rcases VN e1 with ⟨rfl,k,hu⟩|⟨rfl,hu⟩|⟨rfl,hu⟩
       ·cases p<;>cases q<;>simp only [jC] at c1<;>try (cases c1;done)
        rw [k1 _ _ rfl,l1 _ _ rfl]
        split at c1
        ·rename_i hk
         have hk:_=_:=eA hk
         subst hk
         injection c1 with c1
         subst c1
         simp [Op.equalIn,run_underlying hu]
        ·cases c1
       ·cases p<;>cases q<;>simp only [jC] at c1<;>try (cases c1;done)
        rw [k2 _ rfl,l2 _ rfl]
        injection c1 with c1
        subst c1
        simp [Op.equalIn,run_underlying hu]
       ·cases p<;>cases q<;>simp only [jC] at c1<;>try (cases c1;done)
        rw [k3 _ rfl,l3 _ rfl]
        injection c1 with c1
        subst c1
        simp [Op.equalIn,run_underlying hu]
      simp only [Op.eqFields,ne_eq,e2.2,not_false_eq_true,if_true,Sem.run_bind,hp1,hp2,heq,Result.andThen_ok]
      cases b1
      ·simp
      ·simp [ih]
     ·cases h2
  ·cases h1
theorem zDI (R:yl G w F m st.H) {op:BinOp} {t t':TypeId} {x y:Operand} (ho:o.op=.binOp op t x y t') {tags:List Nat} (ht:VX P t=some tags) {neg:Bool} (hn:ziF op=some neg) {ps qs:List PV} (hx:zo w F m (zu st.H) (.agg ps) (a.eval x)) (hy:zo w F m (zu st.H) (.agg qs) (a.eval y)) {b:Bool} (hb:Za tags ps qs=some b):
  yd P G o a w F m st.H (.bool (JP neg b)) st.H true:=by
 unfold VX at ht
 split at ht
 ·rename_i fields hu
  split at ht
  ·cases ht
  ·rename_i hg
   simp only [Bool.or_eq_false_iff] at hg
   obtain ⟨xs,hxv,x1,x2⟩:=hx.agg_inv
   obtain ⟨ys,hyv,y1,y2⟩:=hy.agg_inv
   have hfo:P.fieldsOf t=fields:=by simp [Program.fieldsOf,hu]
   have heq:(Op.equal t (.agg xs.toArray) (.agg ys.toArray)).run P w=.ok b w:=by
    have:=run_equalIn_struct (P:=P) w 9999 t xs.toArray ys.toArray (by rw [hfo];exact hu) hg.1
    rw [hfo] at this
    refine this.trans ?_
    exact zeq (w:=w) (zo.keyLike w F m (zu st.H)) 9998 xs.toArray ys.toArray fields.toList 0 tags ps qs b ht hb (λ k p hk=>by obtain ⟨v,v1,v2⟩:=x1.get hk;exact ⟨v,by simpa using v1,v2⟩) (λ k p hk=>by obtain ⟨v,v1,v2⟩:=y1.get hk;exact ⟨v,by simpa using v1,v2⟩)
   have hgd:∀ op,(eqGuard op t x y (.agg xs.toArray) (.agg ys.toArray)).run P w=.ok () w:=by
    intro op
    cases op<;>simp [eqGuard,run_program,hg.2]
   refine yd.same (cv:=.bool (JP neg b)) R ?_ (.froz _ _ (.bool _))
   cases op<;>simp only [ziF] at hn<;>first
    |(cases hn;done)
    |(injection hn with hn
      subst hn
      simp only [execOp,ho,hxv,hyv,Sem.run_bind,hgd,binOp,heq,Result.andThen_ok,Sem.run_pure,JP])
 ·cases ht
end
end
section
section
variable {P:Program} {G:Nat->Option (List PV)} {T:yh} {nt:Nat} {w:World} {F:Nat->Prop} {m:zR} {st:St} {a:Act} {o:Oper}
theorem zoX {t:TypeId} {fields:Array Field} (hu:P.underlying t=some (.struct fields)) {places:List (Nat×Nat)} (hp:Yt P fields.toList=some places) (xs:List (Nat×Value)) (zv:Value) (i:TypeInfo) (cells:Array Value)
  (hi:P.info? t=some i) (hz:i.zero=some zv) (hf:Instr.fill (λ k=>places[k]?) zv.cells xs=some cells):P.built t xs=some cells:=by
 have hp':=ze5 hp
 simp only [Program.built,hi,hu,hz]
 rw [hp']
 simpa using hf
theorem zqD {t e:TypeId} {n:Nat} (hu:P.underlying t=some (.array n e)) {sz:Nat} (hs:vW P e=some sz) (xs:List (Nat×Value)) (zv:Value) (i:TypeInfo) (cells:Array Value)
  (hi:P.info? t=some i) (hz:i.zero=some zv) (hf:Instr.fill (λ k=>some (k*sz,sz)) zv.cells xs=some cells):P.built t xs=some cells:=by
 obtain ⟨ie,hie,hie2⟩:=uv hs
 subst hie2
 simp only [Program.built,hi,hu,hz,hie]
 exact hf
theorem zxO {C:Cl} (hC:JG P G C) (R:yl G w F m st.H) (E:vX T nt (zo w F m (zu st.H)) st a) {ao:uU} (ht:UI P T o.dst o.op=some ao) {v:PV} {H':zd} {ed:zI} (he:zt G C st ao=some (v,H',ed)):yd P G o a w F m st.H v H' (wy ao):=by
 cases ho:o.op<;>rw [ho] at ht<;>simp only [UI] at ht<;>try (cases ht;done)
 case move x=>
  split at ht
  ·rename_i y hy
   injection ht with ht;subst ht
   simp only [zt,aC,aG] at he
   obtain ⟨rfl,rfl,_⟩:=he
   exact yd.same R (by simp [execOp,ho]) (yg R E hy)
  ·cases ht
 case assign x=>
  split at ht
  ·rename_i y hy
   injection ht with ht;subst ht
   simp only [zt,aC,aG] at he
   obtain ⟨rfl,rfl,_⟩:=he
   exact yd.same R (by simp [execOp,ho]) (yg R E hy)
  ·cases ht
 case pick c x y=>
  split at ht
  ·rename_i c' x' y' h1 h2 h3
   injection ht with ht;subst ht
   simp only [zt] at he
   have hc:=yg R E h1
   split at he
   ·rename_i t hct
    rw [hct] at hc
    have hcv:=hc.bool_inv
    cases t with
    |true=>
     simp only [aC,aG] at he
     obtain ⟨rfl,rfl,_⟩:=he
     exact yd.same R (by simp [execOp,ho,hcv,asBool]) (yg R E h2)
    |false=>
     simp only [aC,aG] at he
     obtain ⟨rfl,rfl,_⟩:=he
     exact yd.same R (by simp [execOp,ho,hcv,asBool]) (yg R E h3)
   ·cases he
  ·cases ht
 case alloc t=>
  split at ht
  ·rename_i z hz
   injection ht with ht;subst ht
   simp only [zt,aC,aG] at he
   obtain ⟨rfl,rfl,_⟩:=he
   exact zAZ R ho hz
  ·cases ht
 case box t x=>
  split at ht
  ·rename_i y hy
   injection ht with ht;subst ht
   simp only [zt] at he
   split at he
   ·rename_i hl
    simp only [aC,aG] at he
    obtain ⟨rfl,rfl,_⟩:=he
    exact zDG R ho (yg R E hy) hl
   ·cases he
  ·cases ht
 case build t parts=>
  split at ht
  ·rename_i z fields hz hu
   split at ht
   ·rename_i places hp
    split at ht
    ·rename_i ps hps
     injection ht with ht;subst ht
     simp only [zt] at he
     split at he
     ·rename_i hall
      split at he
      ·rename_i cs hcs
       simp only [aC,aG] at he
       obtain ⟨rfl,rfl,_⟩:=he
       exact zsa R ho hz (zoX hu hp) (zaT R E hps) hall hcs
      ·cases he
     ·cases he
    ·cases ht
   ·cases ht
  ·rename_i z n e hz hu
   split at ht
   ·rename_i sz hs
    split at ht
    ·rename_i ps hps
     injection ht with ht;subst ht
     simp only [zt] at he
     split at he
     ·rename_i hall
      split at he
      ·rename_i cs hcs
       simp only [aC,aG] at he
       obtain ⟨rfl,rfl,_⟩:=he
       exact zsa R ho hz (zqD hu hs) (zaT R E hps) hall hcs
      ·cases he
     ·cases he
    ·cases ht
   ·cases ht
  ·cases ht
 case buildSlice t len parts=>
  split at ht
  ·rename_i e sz by' hel
   split at ht
   ·rename_i z ps hz hps hb
    split at ht
    ·rename_i hzl
     injection ht with ht;subst ht
     simp only [zt] at he
     split at he
     ·rename_i rows hr
      simp only [aC,aG] at he
      obtain ⟨rfl,rfl,_⟩:=he
      exact zp1 R E ho hel hz (aT hzl) hps (dP hb) hr
     ·cases he
    ·cases ht
   ·cases ht
  ·cases ht
 case load t x=>
  split at ht
  ·rename_i g sz y h1 h2 h3
   injection ht with ht;subst ht
   simp only [zt] at he
   split at he
   ·rename_i cs hcs
    split at he
    ·rename_i v' hv
     simp only [aC,aG] at he
     obtain ⟨rfl,rfl,_⟩:=he
     exact zCw R ho h1 h2 (yg R E h3) hcs hv
    ·cases he
   ·cases he
  ·cases ht
 case store t x y=>
  split at ht
  ·rename_i sz x' y' h1 h2 h3
   injection ht with ht;subst ht
   simp only [zt] at he
   split at he
   ·rename_i H1 ed1 hs
    simp only [aC,aG] at he
    obtain ⟨rfl,rfl,_⟩:=he
    exact zA2 R ho h1 (yg R E h2) (yg R E h3) hs
   ·cases he
  ·cases ht
 case nilCheck x=>
  split at ht
  ·rename_i y hy
   injection ht with ht;subst ht
   simp only [zt] at he
   have hv:=yg R E hy
   generalize hq:y.get G st=q at he hv
   generalize hx:a.eval x=u at hv
   cases q<;>simp only at he<;>try (cases he;done)
   case ptr id row off tot=>
    simp only [aC,aG] at he
    obtain ⟨rfl,rfl,_⟩:=he
    have:∃ ad,u=.pointer (some ad):=by
     cases hv with
     |froz _ _ h=>cases h
     |ptr=>exact ⟨_,rfl⟩
     |ptrOld=>exact ⟨_,rfl⟩
    obtain ⟨ad,rfl⟩:=this
    exact yd.same R (by simp [execOp,ho,hx]) hv
   case fp cs off=>
    simp only [aC,aG] at he
    obtain ⟨rfl,rfl,_⟩:=he
    obtain ⟨blk,o',rfl,_⟩:=hv.fp_inv
    exact yd.same R (by simp [execOp,ho,hx]) hv
  ·cases ht
 case binOp op t x y t'=>
  split at ht
  ·rename_i x' y' h1 h2
   have hx:=yg R E h1
   have hy:=yg R E h2
   split at ht
   ·rename_i hb
    injection ht with ht;subst ht
    simp only [zt] at he
    split at he
    ·rename_i v' hv
     simp only [aC,aG] at he
     obtain ⟨rfl,rfl,_⟩:=he
     exact zDF R ho hb hx hy hv
    ·cases he
   ·split at ht
    ·rename_i neg hn
     split at ht
     ·rename_i hb
      injection ht with ht;subst ht
      simp only [zt] at he
      split at he
      ·rename_i p q hp hq
       simp only [aC,aG] at he
       obtain ⟨rfl,rfl,_⟩:=he
       rw [hp] at hx
       rw [hq] at hy
       exact zDH R ho hb hn hx.bool_inv hy.bool_inv
      ·cases he
     ·split at ht
      ·rename_i tags htg
       injection ht with ht;subst ht
       simp only [zt] at he
       split at he
       ·rename_i ps qs hp hq
        split at he
        ·rename_i b hb
         simp only [aC,aG] at he
         obtain ⟨rfl,rfl,_⟩:=he
         rw [hp] at hx
         rw [hq] at hy
         exact zDI R ho htg hn hx hy hb
        ·cases he
       ·cases he
      ·cases ht
    ·cases ht
  ·cases ht
 case unOp op t x=>
  split at ht
  ·rename_i y hy
   injection ht with ht;subst ht
   simp only [zt] at he
   split at he
   ·rename_i v' hv
    simp only [aC,aG] at he
    obtain ⟨rfl,rfl,_⟩:=he
    exact zEg R ho (yg R E hy) hv
   ·cases he
  ·cases ht
 case convert s d x=>
  split at ht
  ·rename_i k0 k y h1 h2 h3
   injection ht with ht;subst ht
   simp only [zt] at he
   split at he
   ·rename_i k' n hn
    simp only [aC,aG] at he
    obtain ⟨rfl,rfl,_⟩:=he
    have:=yg R E h3
    rw [hn] at this
    exact zCt R ho h1 h2 this.int_inv
   ·cases he
  ·rename_i k0 y h1 h2 h3
   injection ht with ht;subst ht
   simp only [zt] at he
   split at he
   ·rename_i v' hv'
    simp only [aC,aG] at he
    obtain ⟨rfl,rfl,_⟩:=he
    have:=yg R E h3
    generalize y.get G st=py at hv' this
    cases py<;>simp only [Jg] at hv'<;>try (cases hv';done)
    injection hv' with hv'
    subst hv'
    exact zDJ R ho h1 h2 this.int_inv
   ·cases he
  ·rename_i e y h1 h2 h3
   split at ht
   ·rename_i h4
    injection ht with ht;subst ht
    simp only [zt] at he
    split at he
    ·rename_i v' hv'
     simp only [aC,aG] at he
     obtain ⟨rfl,rfl,_⟩:=he
     exact zCr R ho h1 h4 h2 (yg R E h3) hv'
    ·cases he
   ·cases ht
  ·cases ht
 case makeFunc fn first captured=>
  split at ht
  ·rename_i f xs hfirst hxs
   injection ht with ht;subst ht
   simp only [zt] at he
   split at he
   ·simp only [aC,aG] at he
    obtain ⟨rfl,rfl,_⟩:=he
    have h1:=VQ R E hxs
    have hf:first=#[]:=by rw [<-dB (xs:=first),hfirst]
    subst hf
    refine yd.same (cv:=.func (.func f) #[] (captured.toList.map a.eval).toArray) R ?_ (.fn f _ _ h1.1 h1.2)
    simp only [execOp,ho,Instr.makeFunc,Sem.run_bind,Sem.run_pure,Result.andThen_ok,zfZ]
    simp
   ·cases he
  ·cases ht
 case makeSlice t l c=>
  split at ht
  ·rename_i e sz by' hel
   split at ht
   ·rename_i z l' c' hz hl hc
    split at ht
    ·rename_i hzl
     injection ht with ht;subst ht
     simp only [zt] at he
     split at he
     ·rename_i n n2 hln hcn
      split at he
      ·rename_i hb
       simp only [aU,cC] at hb
       obtain ⟨⟨b1,b2⟩,b3⟩:=hb
       simp only [aC,aG] at he
       obtain ⟨rfl,rfl,_⟩:=he
       subst b2
       have hl1:=yg R E hl
       have hc1:=yg R E hc
       rw [hln] at hl1
       rw [hcn] at hc1
       obtain ⟨_,i,_,_,hby,_,hb0⟩:=kR hel
       have hn:n<9223372036854775808:=by
        have:n*1<=n*(by':Int):=Int.mul_le_mul_of_nonneg_left (by omega) b1
        omega
       exact zvU R ho hel hz (aT hzl) hl1.int_inv hc1.int_inv b1 b3 hn
      ·cases he
     ·cases he
    ·cases ht
   ·cases ht
  ·cases ht
 case slice t x lo hi mx=>
  split at ht
  ·cases ht
  ·split at ht
   ·rename_i hu
    split at ht
    ·rename_i x' l' h' hx hlo hhi
     injection ht with ht;subst ht
     simp only [zt] at he
     have hv:=yg R E hx
     split at he
     ·rename_i s l hs hl
      split at he
      ·rename_i h hh
       split at he
       ·rename_i hb
        simp only [aU,cC] at hb
        obtain ⟨⟨b1,b2⟩,b3⟩:=hb
        simp only [aC,aG] at he
        obtain ⟨rfl,rfl,_⟩:=he
        rw [hs] at hv
        exact zrt R ho hu hv.str_inv (Wr R E hlo hl) (Wr R E hhi hh) b1 b2 b3
       ·cases he
      ·cases he
     ·cases he
    ·cases ht
   ·rename_i e hu
    split at ht
    ·rename_i sz x' l' h' hsz hx hlo hhi
     injection ht with ht;subst ht
     simp only [zt] at he
     have hv:=yg R E hx
     split at he
     ·rename_i rows l hs hl
      split at he
      ·rename_i h hh
       split at he
       ·rename_i hb
        simp only [aU,cC] at hb
        obtain ⟨⟨⟨b1,b2⟩,b3⟩,b4⟩:=hb
        simp only [aC,aG] at he
        obtain ⟨rfl,rfl,_⟩:=he
        rw [hs] at hv
        exact ztK R ho hu hsz hv (Wr R E hlo hl) (Wr R E hhi hh) b1 b2 b3 b4
       ·cases he
      ·cases he
     ·rename_i id off len tot l hs hl
      split at he
      ·rename_i h hh
       split at he
       ·rename_i hb
        simp only [aU,cC] at hb
        obtain ⟨⟨⟨b1,b2⟩,b3⟩,b4⟩:=hb
        simp only [aC,aG] at he
        obtain ⟨rfl,rfl,_⟩:=he
        rw [hs] at hv
        exact ztL R ho hu hsz hv (Wr R E hlo hl) (Wr R E hhi hh) b1 b2 b3 b4
       ·cases he
      ·cases he
     ·cases he
    ·cases ht
   ·cases ht
 case fieldAddr t x k=>
  split at ht
  ·rename_i fields hu
   split at ht
   ·rename_i f hf
    split at ht
    ·rename_i sz y hs hy
     split at ht
     ·cases ht
     ·rename_i hz
      injection ht with ht;subst ht
      have h0:sz≠0:=by intro e;subst e;simp at hz
      have hv:=yg R E hy
      simp only [zt] at he
      generalize hq:y.get G st=q at he hv
      cases q<;>simp only at he<;>try (cases he;done)
      all_goals
       simp only [aC,aG] at he
       obtain ⟨rfl,rfl,_⟩:=he
       exact zym R ho hu hf hs h0 hv rfl
    ·cases ht
   ·cases ht
  ·cases ht
 case field t x k=>
  split at ht
  ·rename_i fields hu
   split at ht
   ·rename_i f hf
    split at ht
    ·rename_i g sz y hg hs hy
     injection ht with ht;subst ht
     have hv:=yg R E hy
     simp only [zt] at he
     split at he
     ·rename_i cs hcs
      split at he
      ·rename_i v' hv'
       simp only [aC,aG] at he
       obtain ⟨rfl,rfl,_⟩:=he
       rw [hcs] at hv
       exact zA0 R ho hu hf hg hs hv hv'
      ·cases he
     ·cases he
    ·cases ht
   ·cases ht
  ·cases ht
 case indexAddr t x i=>
  split at ht
  ·rename_i e sz by' x' i' hel hx hi
   injection ht with ht;subst ht
   have hvx:=yg R E hx
   have hvi:=yg R E hi
   simp only [zt] at he
   split at he
   ·rename_i k n hn
    rw [hn] at hvi
    split at he
    ·rename_i h0
     have h0:=eA h0
     split at he
     ·rename_i rows hr
      split at he
      ·rename_i r hrr
       split at he
       ·rename_i hl
        simp only [aC,aG] at he
        obtain ⟨rfl,rfl,_⟩:=he
        rw [hr] at hvx
        exact ztI R ho hel hvx hvi.int_inv h0 hrr (by simpa using hl)
       ·cases he
      ·cases he
     ·rename_i id off len tot hr
      split at he
      ·rename_i s rows hH
       split at he
       ·rename_i hb
        simp only [aU,beq_iff_eq,cC] at hb
        obtain ⟨⟨⟨b1,b2⟩,b3⟩,b4⟩:=hb
        simp only [aC,aG] at he
        obtain ⟨rfl,rfl,_⟩:=he
        rw [hr] at hvx
        exact ztJ R ho hel hvx hvi.int_inv h0 hH b1 b2 b3
       ·cases he
      ·cases he
     ·cases he
    ·cases he
   ·cases he
  ·rename_i x' i' hel hx hi
   split at ht
   ·rename_i n e hu
    split at ht
    ·rename_i sz hs
     injection ht with ht;subst ht
     simp only [zt] at he
     split at he
     ·rename_i v' hv'
      simp only [aC,aG] at he
      obtain ⟨rfl,rfl,_⟩:=he
      exact zyn R ho hu hs (yg R E hx) (yg R E hi) hv'
     ·cases he
    ·cases ht
   ·cases ht
  ·cases ht
 case index t x i=>
  split at ht
  ·rename_i n e hu
   split at ht
   ·rename_i g sz x' i' hg hs hx hi
    injection ht with ht;subst ht
    have hvx:=yg R E hx
    have hvi:=yg R E hi
    simp only [zt] at he
    split at he
    ·rename_i cs k j hcs hj
     split at he
     ·rename_i hb
      simp only [aU,cC] at hb
      split at he
      ·rename_i v' hv'
       simp only [aC,aG] at he
       obtain ⟨rfl,rfl,_⟩:=he
       rw [hcs] at hvx
       rw [hj] at hvi
       exact zyo R ho hu hg hs hvx hvi.int_inv hb.1 hb.2 hv'
      ·cases he
     ·cases he
    ·cases he
   ·cases ht
  ·cases ht
 case extract x i=>
  split at ht
  ·rename_i y hy
   injection ht with ht;subst ht
   have hv:=yg R E hy
   simp only [zt] at he
   split at he
   ·rename_i vs hvs
    split at he
    ·rename_i v' hv'
     simp only [aC,aG] at he
     obtain ⟨rfl,rfl,_⟩:=he
     rw [hvs] at hv
     obtain ⟨us,hu,h1⟩:=hv.tup_inv
     obtain ⟨u,u1,u2⟩:=h1.get hv'
     exact yd.same (cv:=u) R (by simp [execOp,ho,Instr.extract,hu,u1]) u2
    ·cases he
   ·cases he
  ·cases ht
 case makeMap t r=>
  split at ht
  ·injection ht with ht;subst ht
   simp only [zt,aC,aG] at he
   obtain ⟨rfl,rfl,_⟩:=he
   exact zA1 R ho
  ·cases ht
 case lookup t x i ok=>
  split at ht
  ·rename_i kt et hu
   split at ht
   ·rename_i tag z x' i' hk hz hx hi
    injection ht with ht;subst ht
    have hvx:=yg R E hx
    have hvi:=yg R E hi
    simp only [zt] at he
    split at he
    ·rename_i es hes
     split at he
     ·rename_i p hp
      simp only [aC,aG] at he
      obtain ⟨rfl,rfl,_⟩:=he
      exact zyp R ho hu hk hz hes hvx hvi hp
     ·cases he
    ·cases he
   ·cases ht
  ·cases ht
 case insert t mp k x=>
  split at ht
  ·rename_i kt et hu
   split at ht
   ·rename_i tag m' k' x' hk h1 h2 h3
    injection ht with ht;subst ht
    have hv1:=yg R E h1
    simp only [zt] at he
    split at he
    ·rename_i id hid
     split at he
     ·rename_i es hH
      split at he
      ·rename_i hf
       simp only [aC,aG] at he
       obtain ⟨rfl,rfl,_⟩:=he
       rw [hid] at hv1
       exact zp2 R (.inl ho) hu hk hv1 (yg R E h2) (yg R E h3) hH hf
      ·cases he
     ·cases he
    ·cases he
   ·cases ht
  ·cases ht
 case mapUpdate t mp k x=>
  split at ht
  ·rename_i kt et hu
   split at ht
   ·rename_i tag m' k' x' hk h1 h2 h3
    injection ht with ht;subst ht
    have hv1:=yg R E h1
    simp only [zt] at he
    split at he
    ·rename_i id hid
     split at he
     ·rename_i es hH
      split at he
      ·rename_i hf
       simp only [aC,aG] at he
       obtain ⟨rfl,rfl,_⟩:=he
       rw [hid] at hv1
       exact zp2 R (.inr ho) hu hk hv1 (yg R E h2) (yg R E h3) hH hf
      ·cases he
     ·cases he
    ·cases he
   ·cases ht
  ·cases ht
 case call c=>exact zCs hC R E ho ht he
 case range t x=>
  split at ht
  ·injection ht with ht;subst ht;cases he
  ·cases ht
 case entry x=>injection ht with ht;subst ht;cases he
 case next x s=>
  cases s with
  |false=>injection ht with ht;subst ht;cases he
  |true=>cases ht
end
end
section
theorem wU {r:Nat}:∀ {cs:List PV},r∈zn cs↔∃ p∈cs,r∈refs p
 |[]=>by simp [zn]
 |c::cs=>by
  simp only [zn,aX,wU (cs:=cs),dE,exists_eq_or_imp]
theorem Yb {r s:Nat} {rows:List (List PV)}:r∈ZC (.cells s rows)↔∃ row∈rows,∃ p∈row,r∈refs p:=by
 simp only [ZC,List.mem_flatMap,wU]
theorem Ja {r:Nat} {es:List (PV×PV)}:r∈ZC (.map es)↔∃ e∈es,r∈refs e.1\/r∈refs e.2:=by
 simp only [ZC,List.mem_flatMap,aX]
theorem zvK {cs:List PV} (h:∀ p∈cs,refs p=[]):zn cs=[]:=by
 cases hr:zn cs with
 |nil=>rfl
 |cons r rs=>
  obtain ⟨p,hp,hq⟩:=wU.1 (hr▸cM:r∈zn cs)
  rw [h p hp] at hq;cases hq
theorem RelF.refs {w:World} {F:Nat->Prop} {p:PV} {v:Value} (h:RelF w F p v):Go.Av.refs p=[]:=by
 have hl:∀ {cs:List PV} {vs:List Value},vs.length=cs.length->(∀ (i:Nat) (p:PV) (v:Value),cs[i]?=some p->vs[i]?=some v->Go.Av.refs p=[])->zn cs=[]:=by
  intro cs vs hl h
  refine zvK λ p hp=>?_
  obtain ⟨i,hi⟩:=cX hp
  have hlt:i<vs.length:=by have:=(aF.1 hi).1;omega
  exact h i p _ hi (aE hlt)
 induction h<;>simp only [Go.Av.refs]
 ·rename_i h1 _ _ ih;exact hl h1 ih
 ·rename_i h1 _ ih;exact hl h1 ih
 ·rename_i h1 _ ih;exact hl h1 ih
theorem zo.refs_ne {w:World} {F:Nat->Prop} {m:zR} {L:Nat->Nat} {p:PV} {v:Value} (h:zo w F m L p v):∀ r∈refs p,m r≠.unk:=by
 have hl:∀ {cs:List PV} {vs:List Value},vs.length=cs.length->(∀ (i:Nat) (p:PV) (v:Value),cs[i]?=some p->vs[i]?=some v->∀ r∈refs p,m r≠.unk)->∀ r∈zn cs,m r≠.unk:=by
  intro cs vs hl h r hr
  obtain ⟨p,hp,hq⟩:=wU.1 hr
  obtain ⟨i,hi⟩:=cX hp
  have hlt:i<vs.length:=by have:=(aF.1 hi).1;omega
  exact h i p _ hi (aE hlt) r hq
 induction h with
 |froz p v h=>rw [h.refs];simp
 |agg cs vs h1 h2 h ih=>exact hl h1 ih
 |tup cs vs h1 h ih=>exact hl h1 ih
 |fn f cs vs h1 h ih=>exact hl h1 ih
 |sl id off len tot blk o cap s b hm hL ht hc hb=>intro r hr;simp [refs] at hr;subst hr;simp [hm]
 |slVirt id hm hL=>intro r hr;simp [refs] at hr;subst hr;simp [hm]
 |slOld id off len tot b c hm hL hc=>intro r hr;simp [refs] at hr;subst hr;exact hm
 |ptr id row off tot blk o cap s hm hL=>intro r hr;simp [refs] at hr;subst hr;simp [hm]
 |ptrOld id row off tot a hm hL=>intro r hr;simp [refs] at hr;subst hr;exact hm
 |mp id blk hm hL=>intro r hr;simp [refs] at hr;subst hr;simp [hm]
 |mpOld id r hm hL=>intro r' hr;simp [refs] at hr;subst hr;exact hm
theorem zo.at_ {w:World} {F:Nat->Prop} {m m':zR} {L L':Nat->Nat} {p:PV} {v:Value} (h:zo w F m L p v):(∀ r∈refs p,m' r=m r/\L' r=L r)->zo w F m' L' p v:=by
 induction h with
 |froz p v h=>intro _;exact .froz p v h
 |agg cs vs h1 h2 h ih=>intro hr;exact .agg cs vs h1 h2 λ i p v hi hv=>ih i p v hi hv λ r hq=>hr r (wU.2 ⟨p,aJ hi,hq⟩)
 |tup cs vs h1 h ih=>intro hr;exact .tup cs vs h1 λ i p v hi hv=>ih i p v hi hv λ r hq=>hr r (wU.2 ⟨p,aJ hi,hq⟩)
 |fn f cs vs h1 h ih=>intro hr;exact .fn f cs vs h1 λ i p v hi hv=>ih i p v hi hv λ r hq=>hr r (wU.2 ⟨p,aJ hi,hq⟩)
 |sl id off len tot blk o cap s b hm hL ht hc hb=>intro hr;obtain ⟨e1,e2⟩:=hr id (by simp [refs]);exact .sl id off len tot blk o cap s b (e1.trans hm) (e2.trans hL) ht hc hb
 |slVirt id hm hL=>intro hr;obtain ⟨e1,e2⟩:=hr id (by simp [refs]);exact .slVirt id (e1.trans hm) (e2.trans hL)
 |slOld id off len tot b c hm hL hc=>intro hr;obtain ⟨e1,e2⟩:=hr id (by simp [refs]);exact .slOld id off len tot b c (by rw [e1];exact hm) (by omega) hc
 |ptr id row off tot blk o cap s hm hL=>intro hr;obtain ⟨e1,e2⟩:=hr id (by simp [refs]);exact .ptr id row off tot blk o cap s (e1.trans hm) (e2.trans hL)
 |ptrOld id row off tot a hm hL=>intro hr;obtain ⟨e1,e2⟩:=hr id (by simp [refs]);exact .ptrOld id row off tot a (by rw [e1];exact hm) (by omega)
 |mp id blk hm hL=>intro hr;obtain ⟨e1,e2⟩:=hr id (by simp [refs]);exact .mp id blk (e1.trans hm) (e2.trans hL)
 |mpOld id r hm hL=>intro hr;obtain ⟨e1,e2⟩:=hr id (by simp [refs]);exact .mpOld id r (by rw [e1];exact hm) (by omega)
section
variable {G:Nat->Option (List PV)} {w:World} {F:Nat->Prop} {m:zR} {H:zd}
theorem yl.lt_of_ne (R:yl G w F m H) {id:Nat} (h:m id≠.unk):id<H.length:=by
 rcases bS id H.length with h1|h1
 ·exact h1
 ·exact absurd (R.fresh id h1) h
theorem yl.bnd (R:yl G w F m H) {p:PV} {v:Value} (h:zo w F m (zu H) p v):∀ r∈refs p,r<H.length:=λ r hr=>R.lt_of_ne (h.refs_ne r hr)
theorem yl.block_ne (R:yl G w F m H) {id:Nat} {b:zZ} (hb:H[id]?=some b) (hm:m id≠.unk):∀ r∈ZC b,m r≠.unk:=by
 intro r hr
 cases b with
 |cells s rows=>
  obtain ⟨row,h1,p,h2,h3⟩:=Yb.1 hr
  rcases R.cells id s rows hb with h|⟨_,h⟩|⟨blk,o,cap,h,hc⟩
  ·exact absurd h hm
  ·subst h;cases h1
  ·obtain ⟨cur,t,_,_,h4⟩:=hc.cur
   obtain ⟨i,hi⟩:=cX h1
   obtain ⟨j,hj⟩:=cX h2
   obtain ⟨v,_,_,hv⟩:=h4 i row j p hi hj
   exact hv.refs_ne r h3
 |map es=>
  obtain ⟨e,h1,h2⟩:=Ja.1 hr
  rcases R.maps id es hb with h|⟨blk,h,hc⟩
  ·exact absurd h hm
  ·obtain ⟨xs,clock,_,h3,h4,h5⟩:=hc.cur
   obtain ⟨i,hi⟩:=cX h1
   have hlt:i<xs.length:=by have:=(aF.1 hi).1;omega
   rcases h2 with h2|h2
   ·exact (h4 i e _ hi (aE hlt)).refs_ne r h2
   ·exact (h5 i e _ hi (aE hlt)).refs_ne r h2
theorem yl.block_lt (R:yl G w F m H) {id:Nat} {b:zZ} (hb:H[id]?=some b) (hm:m id≠.unk):∀ r∈ZC b,r<H.length:=λ r hr=>R.lt_of_ne (R.block_ne hb hm r hr)
end
def zR.restr (m:zR) (n:Nat):zR:=λ id=>if id<n then m id else .unk
theorem zR.restr_ne {m:zR} {n id:Nat} (h:m.restr n id≠.unk):id<n/\m id≠.unk/\m.restr n id=m id:=by
 unfold zR.restr at *
 by_cases hl:id<n
 ·simp only [hl,if_true] at *; exact ⟨trivial,h,trivial⟩
 ·simp [hl] at h
theorem zR.restr_lt (m:zR) {n id:Nat} (h:id<n):m.restr n id=m id:=by simp [zR.restr,h]
theorem znx (H:zd) {n id:Nat} (h:id<n):zu (H.take n) id=zu H id:=by
 simp [zu,h]
section
variable {G:Nat->Option (List PV)} {w:World} {F:Nat->Prop} {m:zR} {H:zd}
theorem zo.restr {p:PV} {v:Value} (h:zo w F m (zu H) p v) {n:Nat} (hr:∀ r∈refs p,r<n):zo w F (m.restr n) (zu (H.take n)) p v:=
 h.at_ λ r hq=>⟨zR.restr_lt m (hr r hq),znx H (hr r hq)⟩
theorem yl.restr (R:yl G w F m H) (n:Nat) (hc:∀ id b r,id<n->m id≠.unk->H[id]?=some b->r∈ZC b->r<n):yl G w F (m.restr n) (H.take n):=by
 have hat:∀ id b,(H.take n)[id]?=some b->id<n/\H[id]?=some b:=by
  intro id b h
  rw [bR] at h
  split at h
  ·exact ⟨by assumption,h⟩
  ·cases h
 refine ⟨λ id s rows h=>?_,λ id es h=>?_,λ id h=>?_,λ id id' b o c s o' c' s' h1 h2=>?_,λ b ⟨id,o,c,s,h⟩=>?_,R.ltF,λ b ⟨id,o,c,s,h⟩=>?_,R.glob⟩
 ·obtain ⟨hn,h⟩:=hat id _ h
  rw [zR.restr_lt m hn]
  rcases R.cells id s rows h with k|k|⟨blk,o,cap,k1,k2⟩
  ·exact .inl k
  ·exact .inr (.inl k)
  ·refine .inr (.inr ⟨blk,o,cap,k1,k2.room,?_,k2.size⟩)
   obtain ⟨cur,t,e1,e2,e3⟩:=k2.cur
   refine ⟨cur,t,e1,e2,λ i r j p hi hj=>?_⟩
   obtain ⟨v,q1,q2,q3⟩:=e3 i r j p hi hj
   exact ⟨v,q1,q2,q3.restr λ x hx=>hc id _ x hn (by rw [k1];simp) h (Yb.2 ⟨r,aJ hi,p,aJ hj,hx⟩)⟩
 ·obtain ⟨hn,h⟩:=hat id _ h
  rw [zR.restr_lt m hn]
  rcases R.maps id es h with k|⟨blk,k1,k2⟩
  ·exact .inl k
  ·obtain ⟨xs,clock,e1,e2,e3,e4⟩:=k2.cur
   have hb:∀ e∈es,∀ x,x∈refs e.1\/x∈refs e.2->x<n:=λ e he x hx=>hc id _ x hn (by rw [k1];simp) h (Ja.2 ⟨e,he,hx⟩)
   exact .inr ⟨blk,k1,⟨xs,clock,e1,e2,λ i e x hi hj=>(e3 i e x hi hj).restr λ r hr=>hb e (aJ hi) r (.inl hr),λ i e x hi hj=>(e4 i e x hi hj).restr λ r hr=>hb e (aJ hi) r (.inr hr)⟩,k2.born⟩
 ·simp only [dG] at h
  by_cases hl:id<n
  ·rw [zR.restr_lt m hl];exact R.fresh id (by omega)
  ·simp [zR.restr,hl]
 ·have k1:=zR.restr_ne (m:=m) (n:=n) (id:=id) (by rw [h1];simp)
  have k2:=zR.restr_ne (m:=m) (n:=n) (id:=id') (by rw [h2];simp)
  exact R.inj _ _ _ _ _ _ _ _ _ (k1.2.2▸h1) (k2.2.2▸h2)
 ·have k1:=zR.restr_ne (m:=m) (n:=n) (id:=id) (by rw [h];simp)
  exact R.lt b ⟨id,o,c,s,k1.2.2▸h⟩
 ·have k1:=zR.restr_ne (m:=m) (n:=n) (id:=id) (by rw [h];simp)
  exact R.apart b ⟨id,o,c,s,k1.2.2▸h⟩
end
theorem YQ.refl (m:zR) (H:zd):YQ m H H []:=λ id b r _ hb hr _=>.inl ⟨b,hb,hr⟩
theorem YQ.trans {w1 w2:World} {F1 F2:Nat->Prop} {m1 m2:zR} {H H1 H2:zd} {e1 e2:zI} (a:YQ m1 H H1 e1) (g:wq w1 F1 m1 H1 w2 F2 m2 H2) (b:YQ m2 H1 H2 e2):YQ m2 H H2 (e2++e1):=by
 intro id blk r hm hb hr hlt
 rcases b id blk r hm hb hr hlt with ⟨b1,h1,h2⟩|h
 ·have hne:m1 id≠.unk:=λ h=>by
   have:=g.fresh id h hm
   rw [bB this] at h1;cases h1
  rcases a id b1 r hne h1 h2 hlt with h|h
  ·exact .inl h
  ·exact .inr (cJ _ h)
 ·exact .inr (bQ _ h)
inductive Z1 (H:zd):zd->zI->Prop
 |same:Z1 H H []
 |new (b:zZ):Z1 H (H++[b]) []
 |set (id:Nat) (b0 b:zZ) (ed:zI) (h0:H[id]?=some b0) (h:∀ r∈ZC b,id<r->r∈ZC b0\/(id,r)∈ed):Z1 H (H.set id b) ed
def zcc:uU->Bool
 |.call m _ _=> !Jb m
 |.callv m _ _=> !Jb m
 |_=>false
theorem Q8 {id r:Nat} {cs:List PV} {p:PV} (hp:p∈cs) (hr:r∈refs p) (h:id<r):(id,r)∈wG id cs:=by
 unfold wG
 exact bU.2 ⟨r,List.mem_filter.2 ⟨wU.2 ⟨p,hp,hr⟩,by simpa using h⟩,rfl⟩
theorem zaN {id r:Nat} {new:List (List PV)} {row:List PV} {p:PV} (hrow:row∈new) (hp:p∈row) (hr:r∈refs p) (h:id<r):(id,r)∈(new.map (wG id)).flatten:=
 List.mem_flatten.2 ⟨_,bU.2 ⟨row,hrow,rfl⟩,Q8 hp hr h⟩
theorem Z1.rows {H:zd} {id s:Nat} {rows rows':List (List PV)} {ed:zI} (h0:H[id]?=some (.cells s rows))
  (h:∀ row∈rows',∀ p∈row,(∃ row0∈rows,p∈row0)\/∀ r∈refs p,id<r->(id,r)∈ed):Z1 H (H.set id (.cells s rows')) ed:=by
 refine .set id _ _ _ h0 λ r hr hlt=>?_
 obtain ⟨row,h1,p,h2,h3⟩:=Yb.1 hr
 rcases h row h1 p h2 with ⟨row0,h4,h5⟩|h
 ·exact .inl (Yb.2 ⟨row0,h4,p,h5,h3⟩)
 ·exact .inr (h r h3 hlt)
theorem zok {H H':zd} {ed:zI} {sz:Nat} {a x:PV} (h:storeAt H sz a x=some (H',ed)):Z1 H H' ed:=by
 unfold storeAt at h
 split at h
 ·split at h
  ·rename_i s rows hH
   split at h
   ·rename_i cs _ hr
    split at h
    ·simp only [aC,aG] at h
     obtain ⟨rfl,rfl⟩:=h
     refine Z1.rows hH λ row' h1 p hp=>?_
     rcases dC h1 with h1|rfl
     ·exact .inl ⟨row',h1,hp⟩
     ·rcases aX.1 hp with hp|hp
      ·rcases aX.1 hp with hp|hp
       ·exact .inl ⟨cs,aJ hr,cP hp⟩
       ·exact .inr λ r hr hlt=>Q8 hp hr hlt
      ·exact .inl ⟨cs,aJ hr,cV hp⟩
    ·cases h
   ·cases h
  ·cases h
 ·cases h
theorem zmj {H H':zd} {ed:zI} {sz bytes:Nat} {x v:PV} {new:List (List PV)} (h:xe H sz bytes x new=some (v,H',ed)):Z1 H H' ed:=by
 unfold xe at h
 split at h
 ·split at h
  ·simp only [aC,aG] at h
   obtain ⟨_,rfl,rfl⟩:=h
   exact .new _
  ·cases h
 ·split at h
  ·rename_i s rows hH
   split at h
   ·split at h
    ·simp only [aC,aG] at h
     obtain ⟨_,rfl,rfl⟩:=h
     refine Z1.rows hH λ row h1 p hp=>?_
     rcases aX.1 h1 with h1|h1
     ·rcases aX.1 h1 with h1|h1
      ·exact .inl ⟨row,cP h1,hp⟩
      ·exact .inr λ r hr hlt=>zaN h1 hp hr hlt
     ·exact .inl ⟨row,cV h1,hp⟩
    ·split at h
     ·simp only [aC,aG] at h
      obtain ⟨_,rfl,rfl⟩:=h
      refine Z1.rows hH λ row h1 p hp=>?_
      rcases aX.1 h1 with h1|h1
      ·exact .inl ⟨row,cP h1,hp⟩
      ·exact .inr λ r hr hlt=>zaN h1 hp hr hlt
     ·cases h
   ·cases h
  ·cases h
 ·cases h
theorem zsX {G:Nat->Option (List PV)} {C:Cl} {st:St} {op:uU} {v:PV} {H':zd} {ed:zI} (he:zt G C st op=some (v,H',ed)) (hs:zcc op=false):Z1 st.H H' ed:=by
 have call:∀ (md:zaF) (f:Nat) (args:List PV),Jb md=true->xH C st.H md f args=some (v,H',ed)->Z1 st.H H' ed:=by
  intro md f args hq he
  cases md with
  |shared=>cases hq
  |lend=>cases hq
  |fresh=>
   unfold xH at he
   simp only at he
   split at he
   ·simp only [aC,aG] at he
    obtain ⟨_,rfl,rfl⟩:=he
    exact .same
   ·cases he
  |pure=>
   unfold xH at he
   simp only at he
   split at he
   ·split at he
    ·simp only [aC,aG] at he
     obtain ⟨_,rfl,rfl⟩:=he
     exact .same
    ·cases he
   ·cases he
 cases op
 case alloc=>simp only [zt,aC,aG] at he;obtain ⟨_,rfl,rfl⟩:=he;exact .new _
 case box=>
  simp only [zt] at he;split at he
  ·simp only [aC,aG] at he;obtain ⟨_,rfl,rfl⟩:=he;exact .new _
  ·cases he
 case buildSlice=>
  simp only [zt] at he;split at he
  ·simp only [aC,aG] at he;obtain ⟨_,rfl,rfl⟩:=he;exact .new _
  ·cases he
 case mkslice=>
  simp only [zt] at he;split at he
  ·split at he
   ·simp only [aC,aG] at he;obtain ⟨_,rfl,rfl⟩:=he;exact .new _
   ·cases he
  ·cases he
 case mkmap=>simp only [zt,aC,aG] at he;obtain ⟨_,rfl,rfl⟩:=he;exact .new _
 case store=>
  simp only [zt] at he;split at he
  ·rename_i h;simp only [aC,aG] at he;obtain ⟨_,rfl,rfl⟩:=he;exact zok h
  ·cases he
 case append=>
  simp only [zt] at he;split at he
  ·exact zmj he
  ·cases he
 case copyS=>
  simp only [zt] at he;split at he
  ·split at he
   ·rename_i s rows hH
    split at he
    ·simp only [aC,aG] at he;obtain ⟨_,rfl,rfl⟩:=he
     refine Z1.rows hH λ row h1 p hp=>?_
     rcases aX.1 h1 with h1|h1
     ·rcases aX.1 h1 with h1|h1
      ·exact .inl ⟨row,cP h1,hp⟩
      ·exact .inr λ r hr hlt=>zaN h1 hp hr hlt
     ·exact .inl ⟨row,cV h1,hp⟩
    ·cases he
   ·cases he
  ·cases he
 case insert=>
  simp only [zt] at he;split at he
  ·split at he
   ·rename_i es hH
    split at he
    ·simp only [aC,aG] at he;obtain ⟨_,rfl,rfl⟩:=he
     refine .set _ _ _ _ hH λ r hr hlt=>?_
     obtain ⟨e,h1,h2⟩:=Ja.1 hr
     rcases aX.1 h1 with h1|h1
     ·exact .inl (Ja.2 ⟨e,h1,h2⟩)
     ·simp only [aO] at h1
      subst h1
      rcases h2 with h2|h2
      ·exact .inr (Q8 (cs:=[_,_]) (by simp) h2 hlt)
      ·exact .inr (Q8 (cs:=[_,_]) (bL _ cM) h2 hlt)
    ·cases he
   ·cases he
  ·cases he
 case call m f args=>exact call m f _ (by simpa [zcc] using hs) he
 case callv m x args=>
  rw [Z6] at he
  split at he
  ·exact call m _ _ (by simpa [zcc] using hs) he
  ·cases he
 all_goals
  simp only [zt] at he
  repeat' split at he
  all_goals first
   |(cases he;done)
   |(simp only [aC,aG] at he;obtain ⟨_,rfl,rfl⟩:=he;exact .same)
theorem Z1.fwd {G:Nat->Option (List PV)} {w:World} {F:Nat->Prop} {m:zR} {H H':zd} {ed:zI} (s:Z1 H H' ed) (R:yl G w F m H'):YQ m H H' ed:=by
 intro id b r hm hb hr hlt
 cases s with
 |same=>exact .inl ⟨b,hb,hr⟩
 |new b'=>
  have h1:=R.block_lt hb hm r hr
  have h2:=(aF.1 hb).1
  simp only [aQ,bK] at h1 h2
  rw [aD (by omega)] at hb
  exact .inl ⟨b,hb,hr⟩
 |set j b0 b' _ h0 h=>
  have hj:=(aF.1 h0).1
  by_cases e:id=j
  ·subst e
   rw [aK hj] at hb
   injection hb with hb;subst hb
   rcases h r hr hlt with h|h
   ·exact .inl ⟨b0,h0,h⟩
   ·exact .inr h
  ·rw [aH (Ne.symm e)] at hb
   exact .inl ⟨b,hb,hr⟩
theorem Z1.len {H H':zd} {ed:zI} (s:Z1 H H' ed):H.length<=H'.length:=by cases s<;>simp
end
end Go.Av
end

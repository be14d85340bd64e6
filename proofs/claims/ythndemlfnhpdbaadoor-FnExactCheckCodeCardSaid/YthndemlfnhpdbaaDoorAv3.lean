/- The evaluator -/
import Derived.Test.YthndemlfnhpdbaaDoorAv2
set_option linter.all false
section
set_option maxRecDepth 100000
namespace Go.Av
open Go Classical
theorem zuI:refs .und=[]:=rfl
theorem zuJ:refs .unk=[]:=rfl
theorem zuG (k:IntKind) (n:Int):refs (.int k n)=[]:=rfl
theorem zsi (b:Bool):refs (.bool b)=[]:=rfl
theorem zuH (s:ByteArray):refs (.str s)=[]:=rfl
theorem zuF (k:FloatKind) (n:Nat):refs (.flt k n)=[]:=rfl
theorem zw1 (l:List (List PV)):refs (.fz l)=[]:=rfl
theorem zw0 (l:List PV) (n:Nat):refs (.fp l n)=[]:=rfl
theorem zsm:refs .nils=[]:=rfl
theorem zsl:refs .nilp=[]:=rfl
theorem zsj:refs .nilf=[]:=rfl
theorem zsk:refs .nilm=[]:=rfl
theorem zwZ (es:List (PV×PV)):refs (.fm es)=[]:=rfl
theorem ztD (n:Nat) (st:St):jn true (.reg n) st=st:=rfl
theorem zpR (v:PV) (st:St):jn true (.const v) st=st:=rfl
theorem zrH (n:Nat) (st:St):jn true (.glob n) st=st:=rfl
def XD:=
 And.intro @zxB<|And.intro @zvE<|And.intro @zxH<|And.intro @zvI<|And.intro @zxF<|
 And.intro @zvG<|And.intro @zo'<|And.intro @zni<|And.intro @zyY<|And.intro @zxv<|
 And.intro @zyZ<|And.intro @zxw<|And.intro @zAU<|And.intro @zyW<|And.intro @zxA<|And.intro @zxI<|And.intro @zvJ<|And.intro @zs5<|And.intro @zqV<|And.intro @zs3<|And.intro @zqT<|
 And.intro @zvD<|And.intro @zxG<|And.intro @zvH<|And.intro @zs1<|And.intro @zqR<|
 And.intro @zvO<|And.intro @zsZ<|And.intro @zy0<|And.intro @zxx<|And.intro @zxE<|
 And.intro @zvF<|And.intro @zqY<|And.intro @zo_<|And.intro @zs2<|And.intro @zqS<|
 And.intro @zxz<|And.intro @zvC<|And.intro @zvM<|And.intro @zsY<|And.intro @zvL<|
 And.intro @zsX<|And.intro @zs4<|And.intro @zqU<|And.intro @zv'<|And.intro @zza<|
 And.intro @zv_<|@Go.Av.zrm
def XU:=
 And.intro @zuI<|And.intro @zuJ<|And.intro @zuG<|And.intro @zsi<|And.intro @zuH<|And.intro @zuF<|And.intro @zw1<|And.intro @zw0<|And.intro @zsm<|And.intro @zsl<|And.intro @zsj<|And.intro @zsk<|And.intro @zwZ<|And.intro @ztD<|And.intro @zpR<|And.intro @zrH<|
 And.intro @refs.eq_1<|And.intro @refs.eq_2<|And.intro @refs.eq_3<|And.intro @refs.eq_4<|And.intro @refs.eq_5<|And.intro @refs.eq_6<|And.intro @jn.eq_1<|And.intro @jn.eq_3<|And.intro @Nat.beq.eq_1<|And.intro @Nat.beq.eq_2<|And.intro @Nat.beq.eq_3<|And.intro @Nat.beq.eq_4<|And.intro @Nat.ble.eq_1<|And.intro @Nat.ble.eq_2<|And.intro @Nat.ble.eq_3<|And.intro @List.isEmpty_cons.{0}<|
 And.intro @zig.eq_1<|And.intro @zD.eq_1<|And.intro @wD.eq_1<|And.intro @zq.eq_1<|And.intro @zq.eq_2<|And.intro @zq.eq_3<|And.intro @zq.eq_4<|And.intro @zq.eq_5<|And.intro @zq.eq_6<|And.intro @zq.eq_7<|And.intro @zq.eq_8<|And.intro @zq.eq_9<|And.intro @zq.eq_10<|And.intro @zq.eq_11<|And.intro @zq.eq_12<|And.intro @zq.eq_13<|And.intro @zq.eq_14<|And.intro @zq.eq_15<|And.intro @zq.eq_16<|And.intro @zq.eq_17<|And.intro @zq.eq_18<|And.intro @zq.eq_19<|And.intro @zq.eq_20<|And.intro @zq.eq_21<|And.intro @zq.eq_22<|And.intro @zq.eq_23<|And.intro @zq.eq_24<|And.intro @zq.eq_25<|And.intro @zq.eq_26<|And.intro @zq.eq_27<|And.intro @zq.eq_28<|And.intro @zq.eq_29<|And.intro @zq.eq_30<|And.intro @zq.eq_31<|And.intro @zq.eq_32<|And.intro @zq.eq_33<|And.intro @zq.eq_34<|And.intro @zq.eq_35<|And.intro @zx.get.eq_1<|And.intro @zx.get.eq_2<|And.intro @zx.get.eq_3<|And.intro @zx.get.eq_4<|And.intro @St.put.eq_1<|And.intro @St.put.eq_2<|And.intro @St.put.eq_3<|And.intro @zk.get.eq_1<|And.intro @zk.get.eq_2<|And.intro @zk.put.eq_1<|And.intro @zk.put.eq_2<|And.intro @zk.erase.eq_1<|And.intro @zk.erase.eq_2<|And.intro @params.eq_1<|And.intro @params.eq_2<|And.intro @zt.eq_1<|And.intro @zt.eq_2<|And.intro @xJ.eq_1<|And.intro @xJ.eq_2<|And.intro @xJ.eq_3<|And.intro @zq.eq_36<|And.intro @yX.eq_1<|And.intro @yX.eq_2<|And.intro @xG.eq_1<|And.intro @xG.eq_2<|And.intro @zQ.eq_1<|And.intro @zQ.eq_2<|And.intro @zQ.eq_3<|And.intro @zQ.eq_4<|And.intro @zQ.eq_5<|And.intro @zQ.eq_6<|And.intro @zQ.eq_7<|And.intro @zQ.eq_8<|And.intro @zQ.eq_9<|And.intro @zQ.eq_10<|And.intro @zQ.eq_11<|And.intro @zQ.eq_12<|And.intro @zQ.eq_13<|And.intro @zQ.eq_14<|And.intro @zQ.eq_15<|And.intro @zQ.eq_16<|And.intro @zQ.eq_17<|And.intro @zQ.eq_18<|And.intro @zQ.eq_19<|And.intro @zQ.eq_20<|
 And.intro @zxy<|And.intro @zvK<|And.intro @zs0<|And.intro @zxm<|And.intro @zvy<|
 And.intro @zvx<|And.intro @zy1<|And.intro @zxD<|And.intro @List.foldl_cons.{0,0}<|And.intro @List.foldl_nil.{0,0}<|
 And.intro @zxi<|And.intro @zwr<|And.intro @zt0<|And.intro @zr4<|And.intro @zu9<|
 And.intro @zu8<|And.intro @zoF<|And.intro @zmd<|And.intro @wc<|And.intro @zsQ<|
 And.intro @zh9<|And.intro @zhf<|And.intro @ztf<|And.intro @zrd<|And.intro @zpj<|
 And.intro @zrc<|And.intro @zrb<|And.intro @znn<|And.intro @znS<|
 And.intro @zl8<|And.intro @zn2<|And.intro @zp2<|And.intro @zrI<|
 And.intro @zqc<|And.intro @zr9<|And.intro @zk2<|And.intro @zmu<|
 And.intro @zrz<|And.intro @zyd<|And.intro @zyc<|And.intro @zrj<|And.intro @zqe<|And.intro @zsc<|And.intro @zwH<|And.intro @zwI<|And.intro @ztF<|And.intro @znR<|
 And.intro @zpI<|And.intro @zpJ<|And.intro @zwz<|And.intro @zwA<|And.intro @zrZ<|
 And.intro @zrY<|And.intro @zl7<|And.intro @zvR<|And.intro @zv1<|And.intro @zvX<|
 And.intro @zv0<|And.intro @zvZ<|And.intro @zvS<|And.intro @zvY<|And.intro @zvW<|
 And.intro @zvV<|And.intro @zvU<|And.intro @zvT<|And.intro @zs7<|And.intro @zs_<|
 And.intro @zs9<|And.intro @zs8<|And.intro @ztb<|And.intro @ztc<|And.intro @zyR<|
 And.intro @zyQ<|And.intro @znp<|And.intro @znr<|And.intro @zlJ<|
 And.intro @znt<|And.intro @znq<|And.intro @zpn<|And.intro @zpm<|
 And.intro @zpp<|And.intro @zns<|And.intro @zlN<|And.intro @zlL<|
 And.intro @zlK<|And.intro @zlM<|And.intro @zpo<|And.intro @zpk<|
 And.intro @zpl<|And.intro @zpW<|And.intro @znV<|And.intro @zpY<|
 And.intro @zpV<|And.intro @zrM<|And.intro @zrL<|And.intro @zrO<|
 And.intro @zpX<|And.intro @znZ<|And.intro @znX<|And.intro @znW<|
 And.intro @znY<|And.intro @zrN<|And.intro @zrJ<|And.intro @zrK<|
 And.intro @zrt<|And.intro @ztp<|And.intro @znH<|And.intro @zsp<|
 And.intro @zoa<|And.intro @zmG<|And.intro @zhZ<|And.intro @zl4<|
 And.intro @znJ<|And.intro @ztq<|And.intro @zqp<|And.intro @zqo<|
 And.intro @zqq<|And.intro @zqd<|And.intro @zsa<|And.intro @zsb<|
 And.intro @zr'<|And.intro @zsz<|And.intro @zok<|And.intro @zkC<|
 And.intro @zmU<|And.intro @zub<|And.intro @List.append_assoc.{0}<|And.intro @List.length_append.{0}<|
 And.intro @xo<|And.intro @wC<|And.intro @uR<|And.intro @JC<|And.intro @List.set_cons_zero.{0}<|
 And.intro @List.set_cons_succ.{0}<|And.intro @List.filter_nil.{0}<|And.intro @List.filter_cons.{0}<|And.intro @Int.toNat_natCast<|
 And.intro @zw3<|And.intro @zuL<|And.intro @zxb<|And.intro @zuW<|And.intro @List.length_replicate.{0}<|
 And.intro @List.length_set.{0}<|And.intro @List.cons_append.{0}<|And.intro @List.take_zero.{0}<|And.intro @List.drop_zero.{0}<|And.intro @zqX<|
 And.intro @zow<|And.intro @zkp<|And.intro @zdB<|And.intro @zsR<|And.intro @zAT<|
 And.intro @zoe<|And.intro @zuV<|And.intro @zsu<|And.intro @zuU<|
 And.intro @znm<|And.intro @zte<|And.intro @zq_<|And.intro @ztd<|
 And.intro @zpq<|And.intro @zri<|And.intro @zr8<|And.intro @zuh<|And.intro @zse<|
 And.intro @zsO<|And.intro @zqK<|And.intro @zsP<|And.intro @zsn<|And.intro @zuK<|
 And.intro @zrQ<|And.intro @zrR<|And.intro @zrT<|And.intro @ztP<|And.intro @zxY<|
 And.intro @zww<|And.intro @ztO<|And.intro @zwx<|And.intro @zwu<|And.intro @zrP<|
 And.intro @ztN<|And.intro @zwv<|And.intro @ztQ<|And.intro @zrS<|And.intro @Bool.if_true_left<|
 And.intro @Bool.if_false_left<|And.intro @Bool.if_true_right<|And.intro @Bool.if_false_right<|And.intro @Bool.decide_eq_true<|
 And.intro @Bool.or_false<|And.intro @Bool.and_false<|And.intro @Bool.false_and<|And.intro @Bool.false_or<|And.intro @ztM<|
 And.intro @znK<|And.intro @znL<|And.intro @zk0<|And.intro @zto<|
 And.intro @zwn<|And.intro @zy4<|And.intro @zy3<|And.intro @zAW<|And.intro @zye<|
 And.intro @zwJ<|And.intro @Classical.not_not<|And.intro @not_false_eq_true<|And.intro @not_true_eq_false<|And.intro @and_self<|
 And.intro @or_self<|And.intro @zn'<|And.intro @JG<|And.intro @QC<|And.intro @zoD<|
 And.intro @zwk<|And.intro @zh6<|And.intro @zxU<|And.intro @zdw<|And.intro @zwj<|
 And.intro @zxT<|And.intro @ztA<|And.intro @ztB<|And.intro @ztC<|And.intro @zpP<|
 And.intro @zpO<|And.intro @zjG<|And.intro @ztw<|And.intro @zrG<|And.intro @zty<|
 And.intro @zwo<|And.intro @List.append_nil.{0}<|And.intro @List.nil_append.{0}<|And.intro @List.all_cons.{0}<|And.intro @List.all_nil.{0}<|
 And.intro @Bool.and_true<|And.intro @Bool.true_and<|And.intro @List.length_cons.{0}<|And.intro @List.length_nil.{0}<|
 And.intro @List.take_succ_cons.{0}<|And.intro @List.take_nil.{0}<|And.intro @List.drop_succ_cons.{0}<|And.intro @List.drop_nil.{0}<|
 And.intro @List.getElem?_cons_zero.{0}<|And.intro @List.getElem?_cons_succ.{0}<|And.intro @List.isEmpty_nil.{0}<|And.intro @Bool.true_or<|
 And.intro @List.map_cons.{0,0}<|And.intro @List.map_nil.{0,0}<|And.intro @decide_eq_true_eq<|And.intro @Bool.false_eq_true<|And.intro @beq_iff_eq.{0}<|
 And.intro @if_true.{1}<|And.intro @if_false.{1}<|And.intro @ite_self.{1}<|And.intro @decide_true<|And.intro @decide_false<|And.intro @Bool.not_true<|
 And.intro @Bool.not_false<|And.intro @beq_self_eq_true.{0}<|And.intro @Nat.zero_add<|And.intro @Nat.add_zero<|And.intro @decide_not<|
 And.intro @Nat.le_refl<|And.intro @true_and<|And.intro @and_true<|And.intro @Bool.or_true<|And.intro @Option.map_some.{0,0}<|
 And.intro @List.getElem?_map.{0,0}<|And.intro @Bool.or_eq_true<|And.intro @Bool.and_eq_true<|And.intro @Bool.decide_or<|
 And.intro @Bool.decide_and<|And.intro @List.length_map.{0,0}<|And.intro @or_true<|And.intro @true_or<|And.intro @or_false<|And.intro @false_or<|
 And.intro @and_false<|@false_and
end Go.Av
end
section
namespace Go.Av
open Go
section
structure TI where
 size:Nat
 bytes:Nat
 zero:Option Value
structure vR where
 und:TypeId→Option TypeDesc
 info:TypeId→Option TI
 tags:TypeId→Option (List Nat)
 body:FuncId→Bool
 bits:FuncId→Bool
def Ud (P:Program) (t:TypeId):Option TI:=match P.info? t with|some i=>some ⟨i.size,i.bytes,i.zero⟩|none=>none
def vR.of (P:Program):vR:=⟨P.underlying,Ud P,Wq P,XX P,QG P⟩
def zfS (Q:vR) (t:TypeId):Option Bool:=
 match Q.und t with
 |some (.struct _)=>some true
 |some (.array _ _)=>some true
 |some _=>some false
 |none=>none
def Xe (Q:vR) (t:TypeId):Option Nat:=match Q.info t with|some i=>some i.size|none=>none
def Qg (Q:vR) (t:TypeId):Option (List PV):=match Q.info t with|some i=>(match i.zero with|some z=>jW z.cells.toList|none=>none)|none=>none
def zm2 (Q:vR) (t:TypeId):Option PV:=match Q.info t with|some i=>(match i.zero with|some z=>zf4 z|none=>none)|none=>none
def JN (Q:vR) (t:TypeId):Option (TypeId×Nat×Nat):=
 match Q.und t with
 |some (.slice e)=>match Q.info e with|some i=>(match Nat.beq i.size 0||Nat.beq i.bytes 0 with|true=>none|false=>some (e,i.size,i.bytes))|none=>none
 |_=>none
def zaP (Q:vR):List Field→Option (List (Nat×Nat))
 |[]=>some []
 |f::fs=>match Q.info f.type,zaP Q fs with
  |some i,some ps=>some ((f.offset,i.size)::ps)
  |_,_=>none
def zq6 (Q:vR) (t:TypeId):Bool:=
 match Q.und t with
 |some (.int _)|some .string|some (.float _)=>true
 |_=>false
def zoy (Q:vR) (t:TypeId):Bool:=
 match Q.und t with
 |some .bool=>true
 |_=>false
def zh3 (Q:vR) (t:TypeId):Option Nat:=
 match Q.und t with
 |some (.int _)=>some 0
 |some .bool=>some 1
 |some .string=>some 2
 |_=>none
def zj1 (Q:vR) (T:ye) (dst:Option Nat) (c:Call):Option uD:=
 match c.callee with
 |.value f=>match zjH f with
  |some g=>match Q.body g,uL T c.args.toList with
   |true,some xs=>some (.call (T.md dst) g xs)
   |false,some xs=>zhG (Q.bits g) xs
   |_,none=>none
  |none=>match z9 T f,uL T c.args.toList with
   |some y,some xs=>some (.callv (T.md dst) y xs)
   |_,_=>none
 |.builtin b=>match b with
  |.len=>match c.argTypes.toList,c.args.toList with
   |[t],[x]=>match Q.und t with
    |some (.slice _)=>match z9 T x with|some y=>some (.len y)|none=>none
    |some .string=>match z9 T x with|some y=>some (.lenS y)|none=>none
    |some (.array n _)=>some (.copy (.const (.int .i64 n)))
    |_=>none
   |_,_=>none
  |.append=>match c.argTypes.toList,c.args.toList with
   |[t,u],[x,y]=>match JN Q t,Nat.beq u t,z9 T x,z9 T y with
    |some (e,sz,by'),true,some x',some y'=>match Qg Q e with
     |some z=>match Nat.beq z.length sz with|true=>some (.append sz by' x' y')|false=>none
     |none=>none
    |_,_,_,_=>none
   |_,_=>none
  |.copy=>match c.argTypes.toList,c.args.toList with
   |[t,u],[x,y]=>match JN Q t,z9 T x,z9 T y with
    |some (_,sz,_),some x',some y'=>some (.copyS sz x' y')
    |_,_,_=>none
   |_,_=>none
  |.max=>match uL T c.args.toList with|some xs=>zfo xs true|none=>none
  |.min=>match uL T c.args.toList with|some xs=>zfo xs false|none=>none
  |_=>none
 |_=>none
def zqG (Q:vR) (T:ye) (dst:Option Nat):Op→Option uD
 |.move x=>match z9 T x with|some y=>some (.copy y)|none=>none
 |.assign x=>match z9 T x with|some y=>some (.copy y)|none=>none
 |.pick c a b=>match z9 T c,z9 T a,z9 T b with|some c',some a',some b'=>some (.pick c' a' b')|_,_,_=>none
 |.alloc t=>match Qg Q t with|some z=>some (.alloc z)|none=>none
 |.box t x=>match z9 T x with|some y=>some (.box y)|none=>none
 |.build t parts=>match Qg Q t,Q.und t with
  |some z,some (.struct fields)=>match zaP Q fields.toList with
   |some places=>match Yo T (places[·]?) parts.toList with|some ps=>some (.build z ps)|none=>none
   |none=>none
  |some z,some (.array _ e)=>match Xe Q e with
   |some sz=>match Yo T (fun i=>some (i*sz,sz)) parts.toList with|some ps=>some (.build z ps)|none=>none
   |none=>none
  |_,_=>none
 |.buildSlice t len parts=>match JN Q t with
  |some (e,sz,_)=>match Qg Q e,Vl T parts.toList,Nat.ble (len*sz) 16777216 with
   |some z,some ps,true=>match Nat.beq z.length sz with|true=>some (.buildSlice sz len z ps)|false=>none
   |_,_,_=>none
  |none=>none
 |.load t a=>match zfS Q t,Xe Q t,z9 T a with|some g,some sz,some y=>some (.load g sz y)|_,_,_=>none
 |.store t a x=>match Xe Q t,z9 T a,z9 T x with|some sz,some y,some z=>some (.store sz y z)|_,_,_=>none
 |.nilCheck x=>match z9 T x with|some y=>some (.nilCheck y)|none=>none
 |.binOp op t x y _=>match z9 T x,z9 T y with
  |some x',some y'=>match zq6 Q t with
   |true=>some (.bin op x' y')
   |false=>match zf' op with
    |some neg=>match zoy Q t with
     |true=>some (.eqB neg x' y')
     |false=>match Q.tags t with
      |some tags=>some (.eqS neg tags x' y')
      |none=>none
    |none=>none
  |_,_=>none
 |.unOp op _ x=>match z9 T x with|some y=>some (.un op y)|none=>none
 |.convert s d x=>match Q.und s,Q.und d,z9 T x with
  |some (.int _),some (.int k),some y=>some (.conv k y)
  |some (.int _),some (.float .f64),some y=>some (.prim .i2f y)
  |some (.slice e),some .string,some y=>match Q.und e with|some (.int .u8)=>some (.bstr y)|_=>none
  |_,_,_=>none
 |.makeFunc fn first captured=>match fn,first.toList,uL T captured.toList with
  |.func f,[],some xs=>some (.mkfn f xs)
  |_,_,_=>none
 |.makeSlice t l c=>match JN Q t with
  |some (e,sz,by')=>match Qg Q e,z9 T l,z9 T c with
   |some z,some l',some c'=>match Nat.beq z.length sz with|true=>some (.mkslice sz by' z l' c')|false=>none
   |_,_,_=>none
  |none=>none
 |.slice t x lo hi mx=>match mx with
  |some _=>none
  |none=>
   match Q.und t with
   |some .string=>match z9 T x,km T lo,km T hi with
    |some x',some l',some h'=>some (.sliceS x' l' h')
    |_,_,_=>none
   |some (.slice e)=>match Xe Q e,z9 T x,km T lo,km T hi with
    |some sz,some x',some l',some h'=>some (.slice sz x' l' h')
    |_,_,_,_=>none
   |_=>none
 |.fieldAddr t x k=>match Q.und t with
  |some (.struct fields)=>match fields[k]? with
   |some f=>match Xe Q f.type,z9 T x with
    |some sz,some y=>match Nat.beq sz 0 with|true=>none|false=>some (.fieldA f.offset y)
    |_,_=>none
   |none=>none
  |_=>none
 |.field t x k=>match Q.und t with
  |some (.struct fields)=>match fields[k]? with
   |some f=>match zfS Q f.type,Xe Q f.type,z9 T x with
    |some g,some sz,some y=>some (.field g f.offset sz y)
    |_,_,_=>none
   |none=>none
  |_=>none
 |.indexAddr t x i=>match JN Q t,z9 T x,z9 T i with
  |some (_,sz,_),some x',some i'=>some (.indexA sz x' i')
  |none,some x',some i'=>match Q.und t with
   |some (.array n e)=>match Xe Q e with
    |some sz=>some (.indexP n sz x' i')
    |none=>none
   |_=>none
  |_,_,_=>none
 |.index t x i=>match Q.und t with
  |some (.array n e)=>match zfS Q e,Xe Q e,z9 T x,z9 T i with
   |some g,some sz,some x',some i'=>some (.indexV n g sz x' i')
   |_,_,_,_=>none
  |_=>none
 |.extract x i=>match z9 T x with|some y=>some (.extract y i)|none=>none
 |.makeMap _ r=>match r with|none=>some .mkmap|some _=>none
 |.lookup t x i ok=>match Q.und t with
  |some (.map k e)=>match zh3 Q k,zm2 Q e,z9 T x,z9 T i with
   |some tag,some z,some x',some i'=>some (.lookup tag z ok x' i')
   |_,_,_,_=>none
  |_=>none
 |.insert t mp k x=>match Q.und t with
  |some (.map kt _)=>match zh3 Q kt,z9 T mp,z9 T k,z9 T x with
   |some tag,some m',some k',some x'=>some (.insert tag m' k' x')
   |_,_,_,_=>none
  |_=>none
 |.mapUpdate t mp k x=>match Q.und t with
  |some (.map kt _)=>match zh3 Q kt,z9 T mp,z9 T k,z9 T x with
   |some tag,some m',some k',some x'=>some (.insert tag m' k' x')
   |_,_,_,_=>none
  |_=>none
 |.call c=>zj1 Q T dst c
 |.range t _=>match Q.und t with|some (.map _ _)=>some .fail|_=>none
 |.next _ s=>match s with|false=>some .fail|true=>none
 |.entry _=>some .fail
 |_=>none
def zj3 (Q:vR) (T:ye) (nt:Nat) (ops:Array Oper) (o:Oper):Option zC:=
 let g:Option (Option (zx×Bool)):=match o.guard with
  |none=>some none
  |some (j,want)=>match ops[j]? with
   |some oj=>match oj.dst with
    |some d=>match Nat.blt d nt with
     |true=>some (some (match T.K d with|true=>.per d|false=>.reg d,want))
     |false=>none
    |none=>none
   |none=>none
 match g,zqG Q T o.dst o.op with
 |some g',some op=>match o.dst with
  |none=>some ⟨none,op,g',false,[]⟩
  |some d=>match Nat.blt d nt&& !T.fix d with
   |true=>some ⟨some (T.K d,d),op,g',T.S (some d),[]⟩
   |false=>none
 |_,_=>none
def zdP (Q:vR) (T:ye) (nt:Nat) (ops:Array Oper):List Oper→Option (List zC)
 |[]=>some []
 |o::os=>match zj3 Q T nt ops o,zdP Q T nt ops os with
  |some a,some as=>some (a::as)
  |_,_=>none
def zuT (T:ye) (a b:Code) (x y:AC):Option AC:=match XS T a b with|none=>some (.seq x y)|some _=>some (match kl T a b x y with|some r=>r|none=>.seq x y)
theorem zw' (T:ye) (a b:Code) (x y:AC):zuT T a b x y=some (match kl T a b x y with|some r=>r|none=>.seq x y):=by
 unfold zuT
 split
 ·rename_i h
  unfold kl
  rw [h]
 ·rfl
def Ws (Q:vR) (T:ye) (nt:Nat):Code→Option AC
 |.skip=>some .skip
 |.region _ ops draw=>match zdP Q T nt ops ops.toList with
  |some as=>match draw with
   |false=>some (.region false as)
   |true=>match zdI ops (jh (Xo ops.toList []) as 0 as) with|true=>some (.region true (jh (Xo ops.toList []) as 0 as))|false=>none
  |none=>none
 |.seq a b=>match Ws Q T nt a,Ws Q T nt b with|some x,some y=>zuT T a b x y|_,_=>none
 |.cond c a b=>match z9 T c,Ws Q T nt a,Ws Q T nt b with|some c',some x,some y=>some (.cond (T.isGone c) c' x y)|_,_,_=>none
 |.block id b=>match Ws Q T nt b with|some x=>some (.block id x)|none=>none
 |.loop b=>match Ws Q T nt b with|some x=>some (.loop x)|none=>none
 |.exit id=>some (.exit id)
 |.ret=>some .ret
 |_=>none
def zcF (Q:vR) (T:ye):List ResultVar→Option (List jd)
 |[]=>some []
 |.tmp t::rs=>match T.K t,zcF Q T rs with|true,some xs=>some (.tmp t::xs)|_,_=>none
 |.cell a t::rs=>match T.K a,zfS Q t,Xe Q t,zcF Q T rs with|true,some g,some sz,some xs=>some (.cell a g sz::xs)|_,_,_,_=>none
def zX (Q:vR) (T:ye) (fn:Func):Option zJ:=
 match fn.body with
 |some c=>match Ws Q T fn.ntmps c,zcF Q T fn.results.toList with
  |some x,some rs=>match zgz T (fn.params.size+fn.nfree)&&Nat.ble (fn.params.size+fn.nfree) fn.ntmps with
   |true=>some ⟨fn.params.size+fn.nfree,x,rs⟩
   |false=>none
  |_,_=>none
 |none=>none
section
variable (P:Program)
theorem zkG (t:TypeId):zfS (vR.of P) t=J2 P t:=rfl
theorem ziS (t:TypeId):Xe (vR.of P) t=vO P t:=by
 show (match Ud P t with|some i=>some i.size|none=>none)=_
 rw [Ud,vO];cases P.info? t<;>rfl
theorem ziT (t:TypeId):Qg (vR.of P) t=kH P t:=by
 show (match Ud P t with|some i=>(match i.zero with|some z=>jW z.cells.toList|none=>none)|none=>none)=_
 rw [Ud,kH];cases P.info? t<;>rfl
theorem zop (t:TypeId):zm2 (vR.of P) t=Qh P t:=by
 show (match Ud P t with|some i=>(match i.zero with|some z=>zf4 z|none=>none)|none=>none)=_
 rw [Ud,Qh];cases P.info? t<;>rfl
theorem ziR (t:TypeId):JN (vR.of P) t=jS P t:=by
 rw [JN,jS]
 show (match P.underlying t with|some (.slice e)=>(match Ud P e with|some i=>(match Nat.beq i.size 0||Nat.beq i.bytes 0 with|true=>none|false=>some (e,i.size,i.bytes))|none=>none)|_=>none)=_
 cases P.underlying t with
 |none=>rfl
 |some d=>
  cases d<;>first
   |rfl
   |(rename_i e
     show (match Ud P e with|some i=>(match Nat.beq i.size 0||Nat.beq i.bytes 0 with|true=>none|false=>some (e,i.size,i.bytes))|none=>none)=(match P.info? e with|some i=>(match Nat.beq i.size 0||Nat.beq i.bytes 0 with|true=>none|false=>some (e,i.size,i.bytes))|none=>none)
     rw [Ud];cases P.info? e<;>rfl)
theorem zfN:∀ fs,zaP (vR.of P) fs=ZH P fs
 |[]=>rfl
 |f::fs=>by
  rw [zaP,ZH,zfN fs]
  show (match Ud P f.type,ZH P fs with|some i,some ps=>some ((f.offset,i.size)::ps)|_,_=>none)=_
  rw [Ud];cases P.info? f.type<;>cases ZH P fs<;>rfl
theorem zq7 (t:TypeId):zq6 (vR.of P) t=zli P t:=rfl
theorem zpg (t:TypeId):zoy (vR.of P) t=zhH P t:=rfl
theorem zrA (t:TypeId):zh3 (vR.of P) t=Vr P t:=rfl
theorem zqD (T:ye) (d:Option Nat) (c:Call):zj1 (vR.of P) T d c=kG P T d c:=by
 unfold zj1 kG
 simp only [ziR,ziT]
 rfl
theorem zva (T:ye) (d:Option Nat) (o:Op):zqG (vR.of P) T d o=W5 P T d o:=by
 cases o<;>(unfold zqG W5;simp only [zkG,ziS,ziT,zop,ziR,zfN,zq7,zpg,zrA,zqD])<;>first|done|rfl
theorem zqH (T:ye) (nt:Nat) (ops:Array Oper) (o:Oper):zj3 (vR.of P) T nt ops o=Yn P T nt ops o:=by
 unfold zj3 Yn;simp only [zva];rfl
theorem zgR (T:ye) (nt:Nat) (ops:Array Oper):∀ os,zdP (vR.of P) T nt ops os=wl P T nt ops os
 |[]=>rfl
 |o::os=>by rw [zdP,wl,zqH,zgR T nt ops os];rfl
theorem zqF (T:ye) (nt:Nat):∀ c,Ws (vR.of P) T nt c=yW P T nt c:=by
 intro c
 induction c<;>(simp only [Ws,yW,zgR,zw'])<;>first|done|rfl|(simp only [*];done)|(simp only [*];rfl)
theorem zfO (T:ye):∀ rs,zcF (vR.of P) T rs=YE P T rs
 |[]=>rfl
 |.tmp t::rs=>by rw [zcF,YE,zfO T rs];rfl
 |.cell a t::rs=>by rw [zcF,YE,zfO T rs,zkG,ziS];rfl
theorem zu' (T:ye) (fn:Func):zX (vR.of P) T fn=zj2 P T fn:=by
 unfold zX zj2;simp only [zqF,zfO];rfl
end
def zjO {α:Type}:List (Option α)→Nat→Option α
 |[],_=>none
 |x::l,n=>match n with|0=>x|n+1=>zjO l n
def zjN:List Bool→Nat→Bool
 |[],_=>false
 |x::l,n=>match n with|0=>x|n+1=>zjN l n
theorem zoR {α:Type}:∀ (l:List (Option α)) n,zjO l n=(l[n]?).join
 |[],n=>rfl
 |x::l,0=>by cases x<;>rfl
 |x::l,n+1=>by rw [zjO,zoR l n];rfl
theorem zoQ:∀ (l:List Bool) n,zjN l n=(l[n]?).getD false
 |[],n=>rfl
 |x::l,0=>rfl
 |x::l,n+1=>by rw [zjN,zoQ l n];rfl
def zak {α:Type} (n:Nat) (f g:Nat→α) (t:Nat):α:=match Nat.blt t n with|true=>f t|false=>g t
theorem zxO {α:Type} {f:Nat→Option α} {n:Nat} {l:List (Option α)} (h:(List.range n).map f=l):zak n (zjO l) f=f:=by
 funext t
 subst h
 rw [zak]
 split
 ·rename_i ht
  have ht:t<n:=Nat.le_of_ble_eq_true ht
  rw [zoR,List.getElem?_map,List.getElem?_range ht];rfl
 ·rfl
theorem zxN {f:Nat→Bool} {n:Nat} {l:List Bool} (h:(List.range n).map f=l):zak n (zjN l) f=f:=by
 funext t
 subst h
 rw [zak]
 split
 ·rename_i ht
  have ht:t<n:=Nat.le_of_ble_eq_true ht
  rw [zoQ,List.getElem?_map,List.getElem?_range ht];rfl
 ·rfl
def zlp:List (Nat×List Nat)→(Nat→Option (List Nat))→Nat→Option (List Nat)
 |[],g,t=>g t
 |x::l,g,t=>match Nat.beq x.1 t with|true=>some x.2|false=>zlp l g t
theorem zmX {f:Nat→Option (List Nat)}:∀ l:List (Nat×List Nat),l.map (fun x=>f x.1)=l.map (fun x=>some x.2)→zlp l f=f
 |[],_=>rfl
 |x::l,h=>by
  rw [List.map_cons,List.map_cons,List.cons.injEq] at h
  funext t
  rw [zlp,zmX l h.2]
  split
  ·rename_i hb;rw [←Nat.eq_of_beq_eq_true hb,h.1]
  ·rfl
def vR.mk' (P:Program) (n k:Nat) (lU:List (Option TypeDesc)) (lI:List (Option TI)) (lT:List (Nat×List Nat)) (lB lS:List Bool):vR:=⟨zak n (zjO lU) P.underlying,zak n (zjO lI) (Ud P),zlp lT (Wq P),zak k (zjN lB) (XX P),zak k (zjN lS) (QG P)⟩
theorem zyP {P:Program} {n k:Nat} {lU:List (Option TypeDesc)} {lI:List (Option TI)} {lT:List (Nat×List Nat)} {lB lS:List Bool} (h1:(List.range n).map P.underlying=lU) (h2:(List.range n).map (Ud P)=lI) (h3:lT.map (fun x=>Wq P x.1)=lT.map (fun x=>some x.2)) (h4:(List.range k).map (XX P)=lB) (h5:(List.range k).map (QG P)=lS):vR.mk' P n k lU lI lT lB lS=vR.of P:=by
 rw [vR.mk',zxO h1,zxO h2,zmX lT h3,zxN h4,zxN h5];rfl
theorem yS {P:Program} {Q:vR} (hQ:Q=vR.of P) {T:ye} {fn:Func} {F:zJ} (h:zX Q T fn=some F):zj2 P T fn=some F:=by
 rw [←zu', ←hQ];exact h
def zpL (os:List zC):List Nat→Option (List Nat)
 |[]=>some []
 |k::ks=>match zpL os ks with
  |some r=>match Yt os k with|true=>some r|false=>some (k::r)
  |none=>none
def zpb:List zC→Option (List kq)
 |[]=>some []
 |[o]=>some [.op o]
 |o::o'::os=>match zpL (o'::os) (Qf o),zpb (o'::os) with
  |some ks,some r=>match ks with|[]=>some (.op o::r)|k::ks=>some (.op o::.kill (k::ks)::r)
  |_,_=>none
def zeY:List (List zC)→Option (List (List kq))
 |[]=>some []
 |os::l=>match zpb os,zeY l with|some r,some rs=>some (r::rs)|_,_=>none
theorem zoB (os:List zC):∀ ks,zpL os ks=some (ks.filter fun k=> !(Yt os k))
 |[]=>rfl
 |k::ks=>by rw [zpL,zoB os ks,List.filter_cons];cases Yt os k<;>rfl
theorem zox:∀ os,zpb os=some (ZI os)
 |[]=>rfl
 |[o]=>rfl
 |o::o'::os=>by
  rw [zpb,zoB,zox (o'::os),ZI]
  cases (Qf o).filter fun k=> !(Yt (o'::os) k)<;>rfl
theorem zkf:∀ l,zeY l=some (l.map ZI)
 |[]=>rfl
 |os::l=>by rw [zeY,zox,zkf l];rfl
def zo6 (P:xp) (R:Nat→List zC):Nat→List (List kq)→Prop
 |_,[]=>True
 |i,bs::l=>match l with
  |[]=>∀ d st,EV P (.region d (R i)) st=regK (xw P bs { per:=st.per,reg:=[],H:=st.H,ed:=st.ed })
  |_::_=>(∀ d st,EV P (.region d (R i)) st=regK (xw P bs { per:=st.per,reg:=[],H:=st.H,ed:=st.ed }))∧zo6 P R (i+1) l
theorem zkd {P:xp} {R:Nat→List zC}:∀ (l:List (List zC)) i,(∀ k,k<l.length→l[k]?=some (R (i+k)))→zo6 P R i (l.map ZI)
 |[],_,_=>trivial
 |os::l,i,h=>by
   have h0:∀ d st,EV P (.region d (R i)) st=regK (xw P (ZI os) { per:=st.per,reg:=[],H:=st.H,ed:=st.ed }):=fun d st=>by
    have:=h 0 (by simp)
    simp only [List.getElem?_cons_zero,Nat.add_zero,Option.some.injEq] at this
    exact rgA (by rw [this]) d st
   have h1:=zkd (P:=P) l (i+1) fun k hk=>by
    have:=h (k+1) (by simp;omega)
    rw [List.getElem?_cons_succ] at this
    rw [this];congr 2;omega
   cases l with
   |nil=>exact h0
   |cons x l=>exact ⟨h0,h1⟩
theorem zAV {P:xp} {c:AC} {R:Nat→List zC} {L:List (List kq)} (hR:R=yh c) (hL:zeY (jo c)=some L):zo6 P R 0 L:=by
 rw [zkf] at hL
 cases hL
 exact zkd _ 0 fun k hk=>by
  subst hR
  rw [List.getElem?_eq_getElem hk,Nat.zero_add,yh,List.getD_eq_getElem?_getD,List.getElem?_eq_getElem hk];rfl
theorem yK {P:xp} {c:AC} {R:Nat→List zC} {L L':List (List kq)} (hR:R=yh c) (hL:zeY (jo c)=some L) (hL':L=L') {p:xp→(Nat→List zC)→Prop} (h:∀ P R,zo6 P R 0 L'=p P R):p P R:=h P R▸hL'▸zAV hR hL
end
section
inductive Kin:PV→PV→Prop
 |same (p:PV):Kin p p
 |int (k:IntKind) (a b:Int):Kin (.int k a) (.int k b)
 |bool (a b:Bool):Kin (.bool a) (.bool b)
 |str (a b:ByteArray):Kin (.str a) (.str b)
 |flt (k:FloatKind) (a b:Nat):Kin (.flt k a) (.flt k b)
theorem Kin.trans {p q r:PV} (h:Kin p q) (h2:Kin q r):Kin p r:=by
 cases h with
 |same=>exact h2
 |int k a b=>cases h2<;>exact .int ..
 |bool a b=>cases h2<;>exact .bool ..
 |str a b=>cases h2<;>exact .str ..
 |flt k a b=>cases h2<;>exact .flt ..
def W0 (r r':List PV):Prop:=r.length=r'.length∧∀ (j:Nat) (p q:PV),r[j]?=some p→r'[j]?=some q→Kin p q
theorem W0.refl (r:List PV):W0 r r:=⟨rfl,fun j p q h1 h2=>by rw [h1] at h2;cases h2;exact .same p⟩
theorem W0.nil:W0 [] []:=.refl []
theorem W0.cons {p q:PV} {r r':List PV} (h:Kin p q) (t:W0 r r'):W0 (p::r) (q::r'):=⟨by simp [t.1],fun j a b h1 h2=>by
 cases j with
 |zero=>simp at h1 h2;subst h1;subst h2;exact h
 |succ j=>exact t.2 j a b (by simpa using h1) (by simpa using h2)⟩
theorem W0.trans {r s t:List PV} (h:W0 r s) (h2:W0 s t):W0 r t:=⟨h.1.trans h2.1,fun j p q k1 k2=>by
 have hj:=(List.getElem?_eq_some_iff.1 k1).1
 have h3:=List.getElem?_eq_getElem (show j<s.length by rw [←h.1];exact hj)
 exact (h.2 j _ _ k1 h3).trans (h2.2 j _ _ h3 k2)⟩
inductive zde:yf→yf→Prop
 |same (b:yf):zde b b
 |cells (s:Nat) (rows rows':List (List PV)) (hl:rows.length=rows'.length) (h:∀ (i:Nat) (r r':List PV),rows[i]?=some r→rows'[i]?=some r'→W0 r r'):zde (.cells s rows) (.cells s rows')
theorem zde.of_cells {s:Nat} {rows:List (List PV)} {b:yf} (h:zde (.cells s rows) b):∃ rows',b=.cells s rows'∧rows.length=rows'.length∧∀ (i:Nat) (r r':List PV),rows[i]?=some r→rows'[i]?=some r'→W0 r r':=by
 cases h with
 |same=>exact ⟨rows,rfl,rfl,fun i r r' h1 h2=>by rw [h1] at h2;cases h2;exact .refl r⟩
 |cells _ _ rows' hl h=>exact ⟨rows',rfl,hl,h⟩
theorem zde.trans {a b c:yf} (h:zde a b) (h2:zde b c):zde a c:=by
 cases h with
 |same=>exact h2
 |cells s rows rows' hl h=>
  obtain ⟨rows'',rfl,hl2,h3⟩:=h2.of_cells
  refine .cells s rows rows'' (hl.trans hl2) fun i r r' k1 k2=>?_
  have hi:=(List.getElem?_eq_some_iff.1 k1).1
  have k3:=List.getElem?_eq_getElem (show i<rows'.length by rw [←hl];exact hi)
  exact (h i _ _ k1 k3).trans (h3 i _ _ k3 k2)
def Ks (H H':zd):Prop:=H.length=H'.length∧∀ (i:Nat) (b b':yf),H[i]?=some b→H'[i]?=some b'→zde b b'
theorem Ks.refl (H:zd):Ks H H:=⟨rfl,fun i b b' h1 h2=>by rw [h1] at h2;cases h2;exact .same b⟩
theorem Ks.trans {A B C:zd} (h:Ks A B) (h2:Ks B C):Ks A C:=⟨h.1.trans h2.1,fun j p q k1 k2=>by
 have hj:=(List.getElem?_eq_some_iff.1 k1).1
 have h3:=List.getElem?_eq_getElem (show j<B.length by rw [←h.1];exact hj)
 exact (h.2 j _ _ k1 h3).trans (h2.2 j _ _ h3 k2)⟩
theorem Ks.at_ {H H':zd} (h:Ks H H') {id s:Nat} {rows:List (List PV)} (hH:H[id]?=some (.cells s rows)):∃ rows',H'[id]?=some (.cells s rows')∧rows.length=rows'.length∧∀ (i:Nat) (r:List PV),rows[i]?=some r→∃ r',rows'[i]?=some r'∧W0 r r':=by
 have hj:=(List.getElem?_eq_some_iff.1 hH).1
 have h3:=List.getElem?_eq_getElem (show id<H'.length by rw [←h.1];exact hj)
 obtain ⟨rows',e,hl,hr⟩:=(h.2 id _ _ hH h3).of_cells
 rw [e] at h3
 refine ⟨rows',h3,hl,fun i r k=>?_⟩
 have hi:=(List.getElem?_eq_some_iff.1 k).1
 have k3:=List.getElem?_eq_getElem (show i<rows'.length by rw [←hl];exact hi)
 exact ⟨_,k3,hr i _ _ k k3⟩
theorem Ks.set {H:zd} {id s i:Nat} {rows:List (List PV)} {r r':List PV} (hH:H[id]?=some (.cells s rows)) (hr:rows[i]?=some r) (h:W0 r r'):Ks H (H.set id (.cells s (rows.set i r'))):=by
 refine ⟨by simp,fun j b b' h1 h2=>?_⟩
 have hj:=(List.getElem?_eq_some_iff.1 hH).1
 by_cases e:id=j
 ·subst e
  rw [List.getElem?_set_self hj] at h2
  rw [hH] at h1
  cases h1;cases h2
  refine .cells s _ _ (by simp) fun a p q k1 k2=>?_
  have ha:=(List.getElem?_eq_some_iff.1 hr).1
  by_cases e2:i=a
  ·subst e2
   rw [List.getElem?_set_self ha] at k2
   rw [hr] at k1
   cases k1;cases k2;exact h
  ·rw [List.getElem?_set_ne e2,k1] at k2
   cases k2;exact .refl _
 ·rw [List.getElem?_set_ne e,h1] at h2
  cases h2;exact .same _
mutual
def WT (H:zd) (R:Nat→Prop):Sh→PV→Prop
 |.int k,p=>∃ n,p=.int k n
 |.bool,p=>∃ b,p=.bool b
 |.str,p=>∃ s,p=.str s
 |.flt k,p=>∃ n,p=.flt k n
 |.slice es,p=>∃ id n rows,p=.sl id 0 n n∧R id∧H[id]?=some (.cells es.length rows)∧rows.length=n∧n≤1048576∧∀ r∈rows,vF H R es r
def vF (H:zd) (R:Nat→Prop):List Sh→List PV→Prop
 |[],r=>r=[]
 |e::es,r=>∃ p ps,r=p::ps∧WT H R e p∧vF H R es ps
end
theorem vF.length {H:zd} {R:Nat→Prop}:∀ {es:List Sh} {r:List PV},vF H R es r→r.length=es.length
 |[],r,h=>by simp only [vF] at h;subst h;rfl
 |e::es,r,h=>by simp only [vF] at h;obtain ⟨p,ps,rfl,_,h⟩:=h;simp [h.length]
mutual
theorem WT.kin {H H':zd} {R:Nat→Prop} (hk:Ks H H'):∀ {e:Sh} {p q:PV},WT H R e p→Kin p q→WT H' R e q
 |.int k,p,q,h,hq=>by simp only [WT] at h ⊢;obtain ⟨n,rfl⟩:=h;cases hq<;>exact ⟨_,rfl⟩
 |.bool,p,q,h,hq=>by simp only [WT] at h ⊢;obtain ⟨n,rfl⟩:=h;cases hq<;>exact ⟨_,rfl⟩
 |.str,p,q,h,hq=>by simp only [WT] at h ⊢;obtain ⟨n,rfl⟩:=h;cases hq<;>exact ⟨_,rfl⟩
 |.flt k,p,q,h,hq=>by simp only [WT] at h ⊢;obtain ⟨n,rfl⟩:=h;cases hq<;>exact ⟨_,rfl⟩
 |.slice es,p,q,h,hq=>by
  simp only [WT] at h ⊢
  obtain ⟨id,n,rows,rfl,h1,h2,h3,h4,h5⟩:=h
  cases hq
  obtain ⟨rows',k1,k2,k3⟩:=hk.at_ h2
  refine ⟨id,n,rows',rfl,h1,k1,k2▸h3,h4,fun r' hr'=>?_⟩
  obtain ⟨i,hi,e⟩:=List.mem_iff_getElem.1 hr'
  have hi2:i<rows.length:=by rw [k2];exact hi
  obtain ⟨r2,m1,m2⟩:=k3 i _ (List.getElem?_eq_getElem hi2)
  rw [List.getElem?_eq_getElem hi,e] at m1
  cases m1
  exact vF.kin hk (h5 _ (List.getElem_mem hi2)) m2
theorem vF.kin {H H':zd} {R:Nat→Prop} (hk:Ks H H'):∀ {es:List Sh} {r r':List PV},vF H R es r→W0 r r'→vF H' R es r'
 |[],r,r',h,hr=>by
  simp only [vF] at h ⊢;subst h
  exact List.length_eq_zero_iff.1 hr.1.symm
 |e::es,r,r',h,hr=>by
  simp only [vF] at h ⊢
  obtain ⟨p,ps,rfl,h1,h2⟩:=h
  cases r' with
  |nil=>have:=hr.1;simp at this
  |cons q qs=>exact ⟨q,qs,rfl,WT.kin hk h1 (hr.2 0 p q rfl rfl),vF.kin hk h2 ⟨by simpa using hr.1,fun j a b k1 k2=>hr.2 (j+1) a b (by simpa using k1) (by simpa using k2)⟩⟩
end
mutual
theorem WT.frame {H H':zd} {R R':Nat→Prop} (hR:∀ id,R id→R' id∧H'[id]?=H[id]?):∀ {e:Sh} {p:PV},WT H R e p→WT H' R' e p
 |.int k,p,h=>by simp only [WT] at h ⊢;exact h
 |.bool,p,h=>by simp only [WT] at h ⊢;exact h
 |.str,p,h=>by simp only [WT] at h ⊢;exact h
 |.flt k,p,h=>by simp only [WT] at h ⊢;exact h
 |.slice es,p,h=>by
  simp only [WT] at h ⊢
  obtain ⟨id,n,rows,rfl,h1,h2,h3,h4,h5⟩:=h
  exact ⟨id,n,rows,rfl,(hR id h1).1,(hR id h1).2.trans h2,h3,h4,fun r hr=>vF.frame hR (h5 r hr)⟩
theorem vF.frame {H H':zd} {R R':Nat→Prop} (hR:∀ id,R id→R' id∧H'[id]?=H[id]?):∀ {es:List Sh} {r:List PV},vF H R es r→vF H' R' es r
 |[],r,h=>by simp only [vF] at h ⊢;exact h
 |e::es,r,h=>by
  simp only [vF] at h ⊢
  obtain ⟨p,ps,rfl,h1,h2⟩:=h
  exact ⟨p,ps,rfl,WT.frame hR h1,vF.frame hR h2⟩
end
mutual
theorem WT.lend {X G:zd} {R:Nat→Prop} {n:Nat} (hG:∀ id,R id→G[n+id]?=(X[id]?).map (yX n)):∀ {e:Sh} {p:PV},WT X R e p→WT G (fun j=>∃ id,j=n+id∧R id) e (zQ n p)
 |.int k,p,h=>by simp only [WT] at h ⊢;obtain ⟨m,rfl⟩:=h;exact ⟨m,by rw [zQ]⟩
 |.bool,p,h=>by simp only [WT] at h ⊢;obtain ⟨m,rfl⟩:=h;exact ⟨m,by rw [zQ]⟩
 |.str,p,h=>by simp only [WT] at h ⊢;obtain ⟨m,rfl⟩:=h;exact ⟨m,by rw [zQ]⟩
 |.flt k,p,h=>by simp only [WT] at h ⊢;obtain ⟨m,rfl⟩:=h;exact ⟨m,by rw [zQ]⟩
 |.slice es,p,h=>by
  simp only [WT] at h ⊢
  obtain ⟨id,m,rows,rfl,h1,h2,h3,h4,h5⟩:=h
  refine ⟨n+id,m,rows.map (xG n),by rw [zQ],⟨id,rfl,h1⟩,by rw [hG id h1,h2];rfl,by simpa using h3,h4,fun r hr=>?_⟩
  obtain ⟨r0,hr0,rfl⟩:=List.mem_map.1 hr
  exact vF.lend hG (h5 r0 hr0)
theorem vF.lend {X G:zd} {R:Nat→Prop} {n:Nat} (hG:∀ id,R id→G[n+id]?=(X[id]?).map (yX n)):∀ {es:List Sh} {r:List PV},vF X R es r→vF G (fun j=>∃ id,j=n+id∧R id) es (xG n r)
 |[],r,h=>by simp only [vF] at h ⊢;subst h;rw [xG]
 |e::es,r,h=>by
  simp only [vF] at h ⊢
  obtain ⟨p,ps,rfl,h1,h2⟩:=h
  exact ⟨_,_,by rw [xG],WT.lend hG h1,vF.lend hG h2⟩
end
theorem zar (d:Nat) {H:zd} {id n s:Nat} {rows:List (List PV)} (h:H[id]?=some (.cells s rows)) (hl:rows.length=n):frz (d+1) H (.sl id 0 n n)=.fz (rows.map (·.map (frz d H))):=by
 subst hl
 simp only [frz,h,beq_self_eq_true,Nat.zero_add,Nat.le_refl,decide_true,Bool.and_self,List.drop_zero,List.take_length]
mutual
theorem WT.frz_lend {X G:zd} {R:Nat→Prop} {n:Nat} (hG:∀ id,R id→G[n+id]?=(X[id]?).map (yX n)):∀ {e:Sh} {p:PV},WT X R e p→∀ d,frz d G (zQ n p)=frz d X p
 |.int k,p,h,d=>by simp only [WT] at h;obtain ⟨m,rfl⟩:=h;cases d<;>simp only [zQ,frz]
 |.bool,p,h,d=>by simp only [WT] at h;obtain ⟨m,rfl⟩:=h;cases d<;>simp only [zQ,frz]
 |.str,p,h,d=>by simp only [WT] at h;obtain ⟨m,rfl⟩:=h;cases d<;>simp only [zQ,frz]
 |.flt k,p,h,d=>by simp only [WT] at h;obtain ⟨m,rfl⟩:=h;cases d<;>simp only [zQ,frz]
 |.slice es,p,h,d=>by
  simp only [WT] at h
  obtain ⟨id,m,rows,rfl,h1,h2,h3,h4,h5⟩:=h
  cases d with
  |zero=>simp only [zQ,frz]
  |succ d=>
   rw [zQ,zar d h2 h3,zar d (show G[n+id]?=some (.cells es.length (rows.map (xG n))) by rw [hG id h1,h2];rfl) (by simpa using h3)]
   congr 1
   rw [List.map_map]
   exact List.map_congr_left fun r hr=>vF.frz_lend hG (h5 r hr) d
theorem vF.frz_lend {X G:zd} {R:Nat→Prop} {n:Nat} (hG:∀ id,R id→G[n+id]?=(X[id]?).map (yX n)):∀ {es:List Sh} {r:List PV},vF X R es r→∀ d,(xG n r).map (frz d G)=r.map (frz d X)
 |[],r,h,d=>by simp only [vF] at h;subst h;rw [xG];rfl
 |e::es,r,h,d=>by
  simp only [vF] at h
  obtain ⟨p,ps,rfl,h1,h2⟩:=h
  rw [xG,List.map_cons,List.map_cons,WT.frz_lend hG h1 d,vF.frz_lend hG h2 d]
end
mutual
theorem WT.frz_frame {X G:zd} {R:Nat→Prop} (hG:∀ id,R id→G[id]?=X[id]?):∀ {e:Sh} {p:PV},WT X R e p→∀ d,frz d G p=frz d X p
 |.int k,p,h,d=>by simp only [WT] at h;obtain ⟨m,rfl⟩:=h;cases d<;>simp only [frz]
 |.bool,p,h,d=>by simp only [WT] at h;obtain ⟨m,rfl⟩:=h;cases d<;>simp only [frz]
 |.str,p,h,d=>by simp only [WT] at h;obtain ⟨m,rfl⟩:=h;cases d<;>simp only [frz]
 |.flt k,p,h,d=>by simp only [WT] at h;obtain ⟨m,rfl⟩:=h;cases d<;>simp only [frz]
 |.slice es,p,h,d=>by
  simp only [WT] at h
  obtain ⟨id,m,rows,rfl,h1,h2,h3,h4,h5⟩:=h
  cases d with
  |zero=>simp only [frz]
  |succ d=>
   rw [zar d h2 h3,zar d (show G[id]?=some (.cells es.length rows) by rw [hG id h1,h2]) h3]
   congr 1
   exact List.map_congr_left fun r hr=>vF.frz_frame hG (h5 r hr) d
theorem vF.frz_frame {X G:zd} {R:Nat→Prop} (hG:∀ id,R id→G[id]?=X[id]?):∀ {es:List Sh} {r:List PV},vF X R es r→∀ d,r.map (frz d G)=r.map (frz d X)
 |[],r,h,d=>by simp only [vF] at h;subst h;rfl
 |e::es,r,h,d=>by
  simp only [vF] at h
  obtain ⟨p,ps,rfl,h1,h2⟩:=h
  rw [List.map_cons,List.map_cons,WT.frz_frame hG h1 d,vF.frz_frame hG h2 d]
end
mutual
theorem WT.inside {H:zd} {R:Nat→Prop}:∀ {e:Sh} {p:PV},WT H R e p→WT H (fun j=>R j∧j<H.length) e p
 |.int k,p,h=>by simp only [WT] at h ⊢;exact h
 |.bool,p,h=>by simp only [WT] at h ⊢;exact h
 |.str,p,h=>by simp only [WT] at h ⊢;exact h
 |.flt k,p,h=>by simp only [WT] at h ⊢;exact h
 |.slice es,p,h=>by
  simp only [WT] at h ⊢
  obtain ⟨id,n,rows,rfl,h1,h2,h3,h4,h5⟩:=h
  exact ⟨id,n,rows,rfl,⟨h1,(List.getElem?_eq_some_iff.1 h2).1⟩,h2,h3,h4,fun r hr=>vF.inside (h5 r hr)⟩
theorem vF.inside {H:zd} {R:Nat→Prop}:∀ {es:List Sh} {r:List PV},vF H R es r→vF H (fun j=>R j∧j<H.length) es r
 |[],r,h=>by simp only [vF] at h ⊢;exact h
 |e::es,r,h=>by
  simp only [vF] at h ⊢
  obtain ⟨p,ps,rfl,h1,h2⟩:=h
  exact ⟨p,ps,rfl,WT.inside h1,vF.inside h2⟩
end
section
variable {P:xp}
theorem zt1 {body:AC} {σ:Type} (S:Int→σ→St) (ok:Int→σ→Prop) (F:σ→zp×St) (lo n:Int)
  (hstep:∀ i a,lo≤i→i<n→ok i a→∃ st' a',EV P body (S i a)=some (.normal,st')∧(S i a).next st'=S (i+1) a'∧ok (i+1) a')
  (hend:∀ i a,lo≤i→i=n→ok i a→EV P body (S i a)=some (F a)∧(F a).1≠.normal):
  ∀ i a,lo≤i→i≤n→ok i a→∃ a',EV P (.loop body) (S i a)=some (F a')∧ok n a':=by
 intro i a h1 h2 h3
 generalize hm:(n-i).toNat=m
 induction m generalizing i a with
 |zero=>
  have:i=n:=by omega
  subst this
  obtain ⟨k1,k2⟩:=hend i a h1 rfl h3
  refine ⟨a,?_,h3⟩
  rw [Wa,k1]
  revert k2
  cases F a with
  |mk e st=>intro k2;cases e<;>first|rfl|exact absurd rfl k2
 |succ m ih=>
  obtain ⟨st',a',k1,k2,k3⟩:=hstep i a h1 (by omega) h3
  obtain ⟨a2,k4,k5⟩:=ih (i+1) a' (by omega) (by omega) k3 (by omega)
  refine ⟨a2,?_,k5⟩
  rw [Wa,k1]
  dsimp only
  rw [k2];exact k4
end
end
end Go.Av
end

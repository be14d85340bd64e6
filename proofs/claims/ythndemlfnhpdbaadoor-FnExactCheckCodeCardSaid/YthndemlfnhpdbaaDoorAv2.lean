/- The evaluator -/
import Derived.ChangeStays
import Derived.DataReads
import Derived.IntWalk
import Derived.Laws.Sem
import Derived.LoopN
import Derived.Maps.RangeRun
import Derived.OpenShut
import Derived.ProofKit
import Derived.WalkKit
import GoSem.ClaimChange
import Derived.Test.YthndemlfnhpdbaaDoorAv1
set_option linter.all false
section
namespace Go.Av
open Go
section
theorem wN {r:Nat}:∀ {cs:List PV},r∈zt cs↔∃ p∈cs,r∈refs p
 |[]=>by simp [zt]
 |c::cs=>by
  simp only [zt,List.mem_append,wN (cs:=cs),List.mem_cons,exists_eq_or_imp]
theorem Zt {r s:Nat} {rows:List (List PV)}:r∈kM (.cells s rows)↔∃ row∈rows,∃ p∈row,r∈refs p:=by
 simp only [kM,List.mem_flatMap,wN]
theorem Vs {r:Nat} {es:List (PV×PV)}:r∈kM (.map es)↔∃ e∈es,r∈refs e.1∨r∈refs e.2:=by
 simp only [kM,List.mem_flatMap,List.mem_append]
theorem zsh {cs:List PV} (h:∀ p∈cs,refs p=[]):zt cs=[]:=by
 cases hr:zt cs with
 |nil=>rfl
 |cons r rs=>
  obtain ⟨p,hp,hq⟩:=wN.1 (hr▸List.mem_cons_self:r∈zt cs)
  rw [h p hp] at hq;cases hq
theorem RelF.refs {w:World} {F:Nat→Prop} {p:PV} {v:Value} (h:RelF w F p v):Go.Av.refs p=[]:=by
 have hl:∀ {cs:List PV} {vs:List Value},vs.length=cs.length→(∀ (i:Nat) (p:PV) (v:Value),cs[i]?=some p→vs[i]?=some v→Go.Av.refs p=[])→zt cs=[]:=by
  intro cs vs hl h
  refine zsh fun p hp=>?_
  obtain ⟨i,hi⟩:=List.getElem?_of_mem hp
  have hlt:i<vs.length:=by have:=(List.getElem?_eq_some_iff.1 hi).1;omega
  exact h i p _ hi (List.getElem?_eq_getElem hlt)
 induction h<;>simp only [Go.Av.refs]
 ·rename_i h1 _ _ ih;exact hl h1 ih
 ·rename_i h1 _ ih;exact hl h1 ih
 ·rename_i h1 _ ih;exact hl h1 ih
theorem zn.refs_ne {w:World} {F:Nat→Prop} {m:zR} {L:Nat→Nat} {p:PV} {v:Value} (h:zn w F m L p v):∀ r∈refs p,m r≠.unk:=by
 have hl:∀ {cs:List PV} {vs:List Value},vs.length=cs.length→(∀ (i:Nat) (p:PV) (v:Value),cs[i]?=some p→vs[i]?=some v→∀ r∈refs p,m r≠.unk)→∀ r∈zt cs,m r≠.unk:=by
  intro cs vs hl h r hr
  obtain ⟨p,hp,hq⟩:=wN.1 hr
  obtain ⟨i,hi⟩:=List.getElem?_of_mem hp
  have hlt:i<vs.length:=by have:=(List.getElem?_eq_some_iff.1 hi).1;omega
  exact h i p _ hi (List.getElem?_eq_getElem hlt) r hq
 induction h with
 |froz p v h=>rw [h.refs];simp
 |agg cs vs h1 h2 h ih=>exact hl h1 ih
 |tup cs vs h1 h ih=>exact hl h1 ih
 |fn f cs vs h1 h ih=>exact hl h1 ih
 |sl id off len tot blk o cap s b hm hL ht hc hb=>intro r hr;simp [refs] at hr;subst hr;simp [hm]
 |slVirt id hm hL=>intro r hr;simp [refs] at hr;subst hr;simp [hm]
 |slOld id off len tot b c hm hL hc=>intro r hr;simp [refs] at hr;subst hr;exact hm
 |ptr id row off tot blk o cap s hm hL=>intro r hr;simp [refs] at hr;subst hr;simp [hm]
 |ptrOld id row off tot a hm hL=>intro r hr;simp [refs] at hr;subst hr;exact hm
 |mp id blk hm hL=>intro r hr;simp [refs] at hr;subst hr;simp [hm]
 |mpOld id r hm hL=>intro r' hr;simp [refs] at hr;subst hr;exact hm
theorem zn.at_ {w:World} {F:Nat→Prop} {m m':zR} {L L':Nat→Nat} {p:PV} {v:Value} (h:zn w F m L p v):(∀ r∈refs p,m' r=m r∧L' r=L r)→zn w F m' L' p v:=by
 induction h with
 |froz p v h=>intro _;exact .froz p v h
 |agg cs vs h1 h2 h ih=>intro hr;exact .agg cs vs h1 h2 fun i p v hi hv=>ih i p v hi hv fun r hq=>hr r (wN.2 ⟨p,List.mem_of_getElem? hi,hq⟩)
 |tup cs vs h1 h ih=>intro hr;exact .tup cs vs h1 fun i p v hi hv=>ih i p v hi hv fun r hq=>hr r (wN.2 ⟨p,List.mem_of_getElem? hi,hq⟩)
 |fn f cs vs h1 h ih=>intro hr;exact .fn f cs vs h1 fun i p v hi hv=>ih i p v hi hv fun r hq=>hr r (wN.2 ⟨p,List.mem_of_getElem? hi,hq⟩)
 |sl id off len tot blk o cap s b hm hL ht hc hb=>intro hr;obtain ⟨e1,e2⟩:=hr id (by simp [refs]);exact .sl id off len tot blk o cap s b (e1.trans hm) (e2.trans hL) ht hc hb
 |slVirt id hm hL=>intro hr;obtain ⟨e1,e2⟩:=hr id (by simp [refs]);exact .slVirt id (e1.trans hm) (e2.trans hL)
 |slOld id off len tot b c hm hL hc=>intro hr;obtain ⟨e1,e2⟩:=hr id (by simp [refs]);exact .slOld id off len tot b c (by rw [e1];exact hm) (by omega) hc
 |ptr id row off tot blk o cap s hm hL=>intro hr;obtain ⟨e1,e2⟩:=hr id (by simp [refs]);exact .ptr id row off tot blk o cap s (e1.trans hm) (e2.trans hL)
 |ptrOld id row off tot a hm hL=>intro hr;obtain ⟨e1,e2⟩:=hr id (by simp [refs]);exact .ptrOld id row off tot a (by rw [e1];exact hm) (by omega)
 |mp id blk hm hL=>intro hr;obtain ⟨e1,e2⟩:=hr id (by simp [refs]);exact .mp id blk (e1.trans hm) (e2.trans hL)
 |mpOld id r hm hL=>intro hr;obtain ⟨e1,e2⟩:=hr id (by simp [refs]);exact .mpOld id r (by rw [e1];exact hm) (by omega)
section
variable {G:Nat→Option (List PV)} {w:World} {F:Nat→Prop} {m:zR} {H:zd}
theorem yl.lt_of_ne (R:yl G w F m H) {id:Nat} (h:m id≠.unk):id<H.length:=by
 rcases Nat.lt_or_ge id H.length with h1|h1
 ·exact h1
 ·exact absurd (R.fresh id h1) h
theorem yl.bnd (R:yl G w F m H) {p:PV} {v:Value} (h:zn w F m (zr H) p v):∀ r∈refs p,r<H.length:=fun r hr=>R.lt_of_ne (h.refs_ne r hr)
theorem yl.block_ne (R:yl G w F m H) {id:Nat} {b:yf} (hb:H[id]?=some b) (hm:m id≠.unk):∀ r∈kM b,m r≠.unk:=by
 intro r hr
 cases b with
 |cells s rows=>
  obtain ⟨row,h1,p,h2,h3⟩:=Zt.1 hr
  rcases R.cells id s rows hb with h|⟨_,h⟩|⟨blk,o,cap,h,hc⟩
  ·exact absurd h hm
  ·subst h;cases h1
  ·obtain ⟨cur,t,_,_,h4⟩:=hc.cur
   obtain ⟨i,hi⟩:=List.getElem?_of_mem h1
   obtain ⟨j,hj⟩:=List.getElem?_of_mem h2
   obtain ⟨v,_,_,hv⟩:=h4 i row j p hi hj
   exact hv.refs_ne r h3
 |map es=>
  obtain ⟨e,h1,h2⟩:=Vs.1 hr
  rcases R.maps id es hb with h|⟨blk,h,hc⟩
  ·exact absurd h hm
  ·obtain ⟨xs,clock,_,h3,h4,h5⟩:=hc.cur
   obtain ⟨i,hi⟩:=List.getElem?_of_mem h1
   have hlt:i<xs.length:=by have:=(List.getElem?_eq_some_iff.1 hi).1;omega
   rcases h2 with h2|h2
   ·exact (h4 i e _ hi (List.getElem?_eq_getElem hlt)).refs_ne r h2
   ·exact (h5 i e _ hi (List.getElem?_eq_getElem hlt)).refs_ne r h2
theorem yl.block_lt (R:yl G w F m H) {id:Nat} {b:yf} (hb:H[id]?=some b) (hm:m id≠.unk):∀ r∈kM b,r<H.length:=fun r hr=>R.lt_of_ne (R.block_ne hb hm r hr)
end
def zR.restr (m:zR) (n:Nat):zR:=fun id=>if id<n then m id else .unk
theorem zR.restr_ne {m:zR} {n id:Nat} (h:m.restr n id≠.unk):id<n∧m id≠.unk∧m.restr n id=m id:=by
 unfold zR.restr at *
 by_cases hl:id<n
 ·simp only [hl,if_true] at *; exact ⟨trivial,h,trivial⟩
 ·simp [hl] at h
theorem zR.restr_lt (m:zR) {n id:Nat} (h:id<n):m.restr n id=m id:=by simp [zR.restr,h]
theorem zks (H:zd) {n id:Nat} (h:id<n):zr (H.take n) id=zr H id:=by
 simp [zr,h]
section
variable {G:Nat→Option (List PV)} {w:World} {F:Nat→Prop} {m:zR} {H:zd}
theorem zn.restr {p:PV} {v:Value} (h:zn w F m (zr H) p v) {n:Nat} (hr:∀ r∈refs p,r<n):zn w F (m.restr n) (zr (H.take n)) p v:=
 h.at_ fun r hq=>⟨zR.restr_lt m (hr r hq),zks H (hr r hq)⟩
theorem yl.restr (R:yl G w F m H) (n:Nat) (hc:∀ id b r,id<n→m id≠.unk→H[id]?=some b→r∈kM b→r<n):yl G w F (m.restr n) (H.take n):=by
 have hat:∀ id b,(H.take n)[id]?=some b→id<n∧H[id]?=some b:=by
  intro id b h
  rw [List.getElem?_take] at h
  split at h
  ·exact ⟨by assumption,h⟩
  ·cases h
 refine ⟨fun id s rows h=>?_,fun id es h=>?_,fun id h=>?_,fun id id' b o c s o' c' s' h1 h2=>?_,fun b ⟨id,o,c,s,h⟩=>?_,R.ltF,fun b ⟨id,o,c,s,h⟩=>?_,R.glob⟩
 ·obtain ⟨hn,h⟩:=hat id _ h
  rw [zR.restr_lt m hn]
  rcases R.cells id s rows h with k|k|⟨blk,o,cap,k1,k2⟩
  ·exact .inl k
  ·exact .inr (.inl k)
  ·refine .inr (.inr ⟨blk,o,cap,k1,k2.room,?_,k2.size⟩)
   obtain ⟨cur,t,e1,e2,e3⟩:=k2.cur
   refine ⟨cur,t,e1,e2,fun i r j p hi hj=>?_⟩
   obtain ⟨v,q1,q2,q3⟩:=e3 i r j p hi hj
   exact ⟨v,q1,q2,q3.restr fun x hx=>hc id _ x hn (by rw [k1];simp) h (Zt.2 ⟨r,List.mem_of_getElem? hi,p,List.mem_of_getElem? hj,hx⟩)⟩
 ·obtain ⟨hn,h⟩:=hat id _ h
  rw [zR.restr_lt m hn]
  rcases R.maps id es h with k|⟨blk,k1,k2⟩
  ·exact .inl k
  ·obtain ⟨xs,clock,e1,e2,e3,e4⟩:=k2.cur
   have hb:∀ e∈es,∀ x,x∈refs e.1∨x∈refs e.2→x<n:=fun e he x hx=>hc id _ x hn (by rw [k1];simp) h (Vs.2 ⟨e,he,hx⟩)
   exact .inr ⟨blk,k1,⟨xs,clock,e1,e2,fun i e x hi hj=>(e3 i e x hi hj).restr fun r hr=>hb e (List.mem_of_getElem? hi) r (.inl hr),fun i e x hi hj=>(e4 i e x hi hj).restr fun r hr=>hb e (List.mem_of_getElem? hi) r (.inr hr)⟩,k2.born⟩
 ·simp only [List.length_take] at h
  by_cases hl:id<n
  ·rw [zR.restr_lt m hl];exact R.fresh id (by omega)
  ·simp [zR.restr,hl]
 ·have k1:=zR.restr_ne (m:=m) (n:=n) (id:=id) (by rw [h1];simp)
  have k2:=zR.restr_ne (m:=m) (n:=n) (id:=id') (by rw [h2];simp)
  exact R.inj _ _ _ _ _ _ _ _ _ (k1.2.2▸h1) (k2.2.2▸h2)
 ·have k1:=zR.restr_ne (m:=m) (n:=n) (id:=id) (by rw [h];simp)
  exact R.lt b ⟨id,o,c,s,k1.2.2▸h⟩
 ·have k1:=zR.restr_ne (m:=m) (n:=n) (id:=id) (by rw [h];simp)
  exact R.apart b ⟨id,o,c,s,k1.2.2▸h⟩
end
theorem ZT.refl (m:zR) (H:zd):ZT m H H []:=fun id b r _ hb hr _=>.inl ⟨b,hb,hr⟩
theorem ZT.trans {w1 w2:World} {F1 F2:Nat→Prop} {m1 m2:zR} {H H1 H2:zd} {e1 e2:zV} (a:ZT m1 H H1 e1) (g:wo w1 F1 m1 H1 w2 F2 m2 H2) (b:ZT m2 H1 H2 e2):ZT m2 H H2 (e2++e1):=by
 intro id blk r hm hb hr hlt
 rcases b id blk r hm hb hr hlt with ⟨b1,h1,h2⟩|h
 ·have hne:m1 id≠.unk:=fun h=>by
   have:=g.fresh id h hm
   rw [List.getElem?_eq_none this] at h1;cases h1
  rcases a id b1 r hne h1 h2 hlt with h|h
  ·exact .inl h
  ·exact .inr (List.mem_append_right _ h)
 ·exact .inr (List.mem_append_left _ h)
inductive Zh (H:zd):zd→zV→Prop
 |same:Zh H H []
 |new (b:yf):Zh H (H++[b]) []
 |set (id:Nat) (b0 b:yf) (ed:zV) (h0:H[id]?=some b0) (h:∀ r∈kM b,id<r→r∈kM b0∨(id,r)∈ed):Zh H (H.set id b) ed
def QW:uD→Bool
 |.call m _ _=> !Vt m
 |.callv m _ _=> !Vt m
 |_=>false
theorem JX {id r:Nat} {cs:List PV} {p:PV} (hp:p∈cs) (hr:r∈refs p) (h:id<r):(id,r)∈wD id cs:=by
 unfold wD
 exact List.mem_map.2 ⟨r,List.mem_filter.2 ⟨wN.2 ⟨p,hp,hr⟩,by simpa using h⟩,rfl⟩
theorem KB {id r:Nat} {new:List (List PV)} {row:List PV} {p:PV} (hrow:row∈new) (hp:p∈row) (hr:r∈refs p) (h:id<r):(id,r)∈(new.map (wD id)).flatten:=
 List.mem_flatten.2 ⟨_,List.mem_map.2 ⟨row,hrow,rfl⟩,JX hp hr h⟩
theorem Zh.rows {H:zd} {id s:Nat} {rows rows':List (List PV)} {ed:zV} (h0:H[id]?=some (.cells s rows))
  (h:∀ row∈rows',∀ p∈row,(∃ row0∈rows,p∈row0)∨∀ r∈refs p,id<r→(id,r)∈ed):Zh H (H.set id (.cells s rows')) ed:=by
 refine .set id _ _ _ h0 fun r hr hlt=>?_
 obtain ⟨row,h1,p,h2,h3⟩:=Zt.1 hr
 rcases h row h1 p h2 with ⟨row0,h4,h5⟩|h
 ·exact .inl (Zt.2 ⟨row0,h4,p,h5,h3⟩)
 ·exact .inr (h r h3 hlt)
theorem zk_ {H H':zd} {ed:zV} {sz:Nat} {a x:PV} (h:storeAt H sz a x=some (H',ed)):Zh H H' ed:=by
 unfold storeAt at h
 split at h
 ·split at h
  ·rename_i s rows hH
   split at h
   ·rename_i cs _ hr
    split at h
    ·simp only [Option.some.injEq,Prod.mk.injEq] at h
     obtain ⟨rfl,rfl⟩:=h
     refine Zh.rows hH fun row' h1 p hp=>?_
     rcases List.mem_or_eq_of_mem_set h1 with h1|rfl
     ·exact .inl ⟨row',h1,hp⟩
     ·rcases List.mem_append.1 hp with hp|hp
      ·rcases List.mem_append.1 hp with hp|hp
       ·exact .inl ⟨cs,List.mem_of_getElem? hr,List.mem_of_mem_take hp⟩
       ·exact .inr fun r hr hlt=>JX hp hr hlt
      ·exact .inl ⟨cs,List.mem_of_getElem? hr,List.mem_of_mem_drop hp⟩
    ·cases h
   ·cases h
  ·cases h
 ·cases h
theorem zjm {H H':zd} {ed:zV} {sz bytes:Nat} {x v:PV} {new:List (List PV)} (h:xe H sz bytes x new=some (v,H',ed)):Zh H H' ed:=by
 unfold xe at h
 split at h
 ·split at h
  ·simp only [Option.some.injEq,Prod.mk.injEq] at h
   obtain ⟨_,rfl,rfl⟩:=h
   exact .new _
  ·cases h
 ·split at h
  ·rename_i s rows hH
   split at h
   ·split at h
    ·simp only [Option.some.injEq,Prod.mk.injEq] at h
     obtain ⟨_,rfl,rfl⟩:=h
     refine Zh.rows hH fun row h1 p hp=>?_
     rcases List.mem_append.1 h1 with h1|h1
     ·rcases List.mem_append.1 h1 with h1|h1
      ·exact .inl ⟨row,List.mem_of_mem_take h1,hp⟩
      ·exact .inr fun r hr hlt=>KB h1 hp hr hlt
     ·exact .inl ⟨row,List.mem_of_mem_drop h1,hp⟩
    ·split at h
     ·simp only [Option.some.injEq,Prod.mk.injEq] at h
      obtain ⟨_,rfl,rfl⟩:=h
      refine Zh.rows hH fun row h1 p hp=>?_
      rcases List.mem_append.1 h1 with h1|h1
      ·exact .inl ⟨row,List.mem_of_mem_take h1,hp⟩
      ·exact .inr fun r hr hlt=>KB h1 hp hr hlt
     ·cases h
   ·cases h
  ·cases h
 ·cases h
theorem zpH {G:Nat→Option (List PV)} {C:Cl} {st:St} {op:uD} {v:PV} {H':zd} {ed:zV} (he:zq G C st op=some (v,H',ed)) (hs:QW op=false):Zh st.H H' ed:=by
 have call:∀ (md:Kt) (f:Nat) (args:List PV),Vt md=true→xJ C st.H md f args=some (v,H',ed)→Zh st.H H' ed:=by
  intro md f args hq he
  cases md with
  |shared=>cases hq
  |lend=>cases hq
  |fresh=>
   unfold xJ at he
   simp only at he
   split at he
   ·simp only [Option.some.injEq,Prod.mk.injEq] at he
    obtain ⟨_,rfl,rfl⟩:=he
    exact .same
   ·cases he
  |pure=>
   unfold xJ at he
   simp only at he
   split at he
   ·split at he
    ·simp only [Option.some.injEq,Prod.mk.injEq] at he
     obtain ⟨_,rfl,rfl⟩:=he
     exact .same
    ·cases he
   ·cases he
 cases op
 case alloc=>simp only [zq,Option.some.injEq,Prod.mk.injEq] at he;obtain ⟨_,rfl,rfl⟩:=he;exact .new _
 case box=>
  simp only [zq] at he;split at he
  ·simp only [Option.some.injEq,Prod.mk.injEq] at he;obtain ⟨_,rfl,rfl⟩:=he;exact .new _
  ·cases he
 case buildSlice=>
  simp only [zq] at he;split at he
  ·simp only [Option.some.injEq,Prod.mk.injEq] at he;obtain ⟨_,rfl,rfl⟩:=he;exact .new _
  ·cases he
 case mkslice=>
  simp only [zq] at he;split at he
  ·split at he
   ·simp only [Option.some.injEq,Prod.mk.injEq] at he;obtain ⟨_,rfl,rfl⟩:=he;exact .new _
   ·cases he
  ·cases he
 case mkmap=>simp only [zq,Option.some.injEq,Prod.mk.injEq] at he;obtain ⟨_,rfl,rfl⟩:=he;exact .new _
 case store=>
  simp only [zq] at he;split at he
  ·rename_i h;simp only [Option.some.injEq,Prod.mk.injEq] at he;obtain ⟨_,rfl,rfl⟩:=he;exact zk_ h
  ·cases he
 case append=>
  simp only [zq] at he;split at he
  ·exact zjm he
  ·cases he
 case copyS=>
  simp only [zq] at he;split at he
  ·split at he
   ·rename_i s rows hH
    split at he
    ·simp only [Option.some.injEq,Prod.mk.injEq] at he;obtain ⟨_,rfl,rfl⟩:=he
     refine Zh.rows hH fun row h1 p hp=>?_
     rcases List.mem_append.1 h1 with h1|h1
     ·rcases List.mem_append.1 h1 with h1|h1
      ·exact .inl ⟨row,List.mem_of_mem_take h1,hp⟩
      ·exact .inr fun r hr hlt=>KB h1 hp hr hlt
     ·exact .inl ⟨row,List.mem_of_mem_drop h1,hp⟩
    ·cases he
   ·cases he
  ·cases he
 case insert=>
  simp only [zq] at he;split at he
  ·split at he
   ·rename_i es hH
    split at he
    ·simp only [Option.some.injEq,Prod.mk.injEq] at he;obtain ⟨_,rfl,rfl⟩:=he
     refine .set _ _ _ _ hH fun r hr hlt=>?_
     obtain ⟨e,h1,h2⟩:=Vs.1 hr
     rcases List.mem_append.1 h1 with h1|h1
     ·exact .inl (Vs.2 ⟨e,h1,h2⟩)
     ·simp only [List.mem_singleton] at h1
      subst h1
      rcases h2 with h2|h2
      ·exact .inr (JX (cs:=[_,_]) (by simp) h2 hlt)
      ·exact .inr (JX (cs:=[_,_]) (List.mem_cons_of_mem _ List.mem_cons_self) h2 hlt)
    ·cases he
   ·cases he
  ·cases he
 case call m f args=>exact call m f _ (by simpa [QW] using hs) he
 case callv m x args=>
  rw [Zl] at he
  split at he
  ·exact call m _ _ (by simpa [QW] using hs) he
  ·cases he
 all_goals
  simp only [zq] at he
  repeat' split at he
  all_goals first
   |(cases he;done)
   |(simp only [Option.some.injEq,Prod.mk.injEq] at he;obtain ⟨_,rfl,rfl⟩:=he;exact .same)
theorem Zh.fwd {G:Nat→Option (List PV)} {w:World} {F:Nat→Prop} {m:zR} {H H':zd} {ed:zV} (s:Zh H H' ed) (R:yl G w F m H'):ZT m H H' ed:=by
 intro id b r hm hb hr hlt
 cases s with
 |same=>exact .inl ⟨b,hb,hr⟩
 |new b'=>
  have h1:=R.block_lt hb hm r hr
  have h2:=(List.getElem?_eq_some_iff.1 hb).1
  simp only [List.length_append,List.length_singleton] at h1 h2
  rw [List.getElem?_append_left (by omega)] at hb
  exact .inl ⟨b,hb,hr⟩
 |set j b0 b' _ h0 h=>
  have hj:=(List.getElem?_eq_some_iff.1 h0).1
  by_cases e:id=j
  ·subst e
   rw [List.getElem?_set_self hj] at hb
   injection hb with hb;subst hb
   rcases h r hr hlt with h|h
   ·exact .inl ⟨b0,h0,h⟩
   ·exact .inr h
  ·rw [List.getElem?_set_ne (Ne.symm e)] at hb
   exact .inl ⟨b,hb,hr⟩
theorem Zh.len {H H':zd} {ed:zV} (s:Zh H H' ed):H.length≤H'.length:=by cases s<;>simp
end
section
theorem zfx {a b:Nat} (h:¬ a=b):Nat.beq a b=false:=Bool.eq_false_iff.2 fun h2=>h (Nat.eq_of_beq_eq_true h2)
theorem zk.get_put (e:zk) (n m:Nat) (v:PV):(e.put n v).get m=if m=n then v else e.get m:=by
 induction e with
 |nil=>
  simp only [zk.put,zk.get]
  by_cases h:n=m
  ·subst h;simp
  ·have:=zfx h
   rw [this];simp [Ne.symm h]
 |cons q e ih=>
  obtain ⟨k,x⟩:=q
  simp only [zk.put]
  by_cases hk:k=n
  ·subst hk
   rw [Nat.beq_refl]
   simp only [zk.get]
   by_cases h:k=m
   ·subst h;simp
   ·have:=zfx h
    rw [this];simp [Ne.symm h]
  ·have hb:=zfx hk
   rw [hb]
   simp only [zk.get]
   by_cases h:k=m
   ·subst h;simp [hk]
   ·have:=zfx h
    rw [this];exact ih
theorem vP.mono {T:ye} {nt:Nat} {R R':PV→Value→Prop} {st:St} {a:Act} (E:vP T nt R st a) (h:∀ p v,R p v→R' p v):vP T nt R' st a:=
 ⟨E.size,fun n=>h _ _ (E.per n),fun n=>h _ _ (E.reg n),E.perK,E.regK⟩
theorem vP.heap {T:ye} {nt:Nat} {R:PV→Value→Prop} {st:St} {a:Act} (E:vP T nt R st a) (H:zd) (ed:zV):vP T nt R { st with H:=H,ed:=ed } a:=⟨E.size,E.per,E.reg,E.perK,E.regK⟩
theorem vP.clear {T:ye} {nt:Nat} {R:PV→Value→Prop} {st:St} {a:Act} (E:vP T nt R st a) (hU:∀ x,R .unk x):vP T nt R { st with reg:=[] } a:=⟨E.size,E.per,fun n=>hU _,E.perK,fun n _=>rfl⟩
theorem zhd (t:Array Value) (d n:Nat) (v:Value) (h:d<t.size):(t.setIfInBounds d v).getD n undef=if n=d then v else t.getD n undef:=by
 by_cases e:n=d
 ·subst e;simp [h]
 ·simp [Array.getElem?_setIfInBounds_ne (Ne.symm e),e]
theorem vP.put {T:ye} {nt:Nat} {R:PV→Value→Prop} {st:St} {a:Act} (E:vP T nt R st a) (hU:∀ x,R .unk x) {d:Nat} (hd:d<nt) {v:PV} {cv:Value} (hv:R v cv):vP T nt R (st.put (some (T.K d,d)) v) (a.put (some d) cv):=by
 have hs:=E.size
 have hg:∀ n,(a.put (some d) cv).tmps.getD n undef=if n=d then cv else a.tmps.getD n undef:=fun n=>zhd a.tmps d n cv (by omega)
 cases hk:T.K d with
 |true=>
  refine ⟨by simp [Act.put,hs],fun n=>?_,fun n=>?_,fun n hn=>?_,fun n hn=>E.regK n hn⟩
  ·rw [hg];simp only [St.put];rw [zk.get_put]
   by_cases e:n=d
   ·subst e;simpa using hv
   ·simpa [e] using E.per n
  ·rw [hg]
   by_cases e:n=d
   ·subst e;show R (st.reg.get n) _;rw [E.regK n hk];exact hU _
   ·simpa [e,St.put] using E.reg n
  ·simp only [St.put];rw [zk.get_put]
   by_cases e:n=d
   ·subst e;rw [hk] at hn;cases hn
   ·simpa [e] using E.perK n hn
 |false=>
  refine ⟨by simp [Act.put,hs],fun n=>?_,fun n=>?_,fun n hn=>E.perK n hn,fun n hn=>?_⟩
  ·rw [hg]
   by_cases e:n=d
   ·subst e;show R (st.per.get n) _;rw [E.perK n hk];exact hU _
   ·simpa [e,St.put] using E.per n
  ·rw [hg];simp only [St.put];rw [zk.get_put]
   by_cases e:n=d
   ·subst e;simpa using hv
   ·simpa [e] using E.reg n
  ·simp only [St.put];rw [zk.get_put]
   by_cases e:n=d
   ·subst e;rw [hk] at hn;cases hn
   ·simpa [e] using E.regK n hn
structure Qs (P:Program) (T:ye) (nt:Nat) (ops:Array Oper) (o:Oper) (ao:zC):Prop where
 op:W5 P T o.dst o.op=some ao.op
 dst:(o.dst=none∧ao.dst=none)∨∃ d,o.dst=some d∧d<nt∧ao.dst=some (T.K d,d)
 guard:(o.guard=none∧ao.guard=none)∨∃ j want oj d,o.guard=some (j,want)∧ops[j]?=some oj∧oj.dst=some d∧d<nt∧ao.guard=some ((match T.K d with|true=>.per d|false=>.reg d),want)
 fix:∀ d,o.dst=some d→T.fix d=false
theorem J1 {P:Program} {T:ye} {nt:Nat} {ops:Array Oper} {o:Oper} {ao:zC} (h:Yn P T nt ops o=some ao):Qs P T nt ops o ao:=by
 unfold Yn at h
 simp only at h
 split at h
 ·rename_i g' op hg hop
  have hguard:∀ x:zC,x.guard=g'→(o.guard=none∧x.guard=none)∨∃ j want oj d,o.guard=some (j,want)∧ops[j]?=some oj∧oj.dst=some d∧d<nt∧x.guard=some ((match T.K d with|true=>.per d|false=>.reg d),want):=by
   intro x hx
   split at hg
   ·rename_i hn
    injection hg with hg
    exact .inl ⟨hn,hx.trans hg.symm⟩
   ·rename_i j want hs
    split at hg
    ·rename_i oj hj
     split at hg
     ·rename_i d hd
      split at hg
      ·rename_i hlt
       injection hg with hg
       exact .inr ⟨j,want,oj,d,hs,hj,hd,by simpa [Nat.blt_eq] using hlt,hx.trans hg.symm⟩
      ·cases hg
     ·cases hg
    ·cases hg
  split at h
  ·rename_i hd
   injection h with h
   subst h
   exact ⟨hop,.inl ⟨hd,rfl⟩,hguard _ rfl,fun d h=>by rw [hd] at h;cases h⟩
  ·rename_i d hd
   split at h
   ·rename_i hlt
    injection h with h
    subst h
    simp only [Bool.and_eq_true,Nat.blt_eq,Bool.not_eq_true'] at hlt
    exact ⟨hop,.inr ⟨d,hd,hlt.1,rfl⟩,hguard _ rfl,fun d' h=>by rw [hd] at h;cases h;exact hlt.2⟩
   ·cases h
 ·cases h
theorem zfM {P:Program} {T:ye} {nt:Nat} {ops:Array Oper}:∀ {os:List Oper} {as:List zC},wl P T nt ops os=some as→as.length=os.length∧∀ (i:Nat) (o:Oper) (ao:zC),os[i]?=some o→as[i]?=some ao→Qs P T nt ops o ao
 |[],as,h=>by simp only [wl,Option.some.injEq] at h;subst h;simp
 |o::os,as,h=>by
  simp only [wl] at h
  split at h
  ·rename_i a as' h1 h2
   injection h with h
   subst h
   obtain ⟨k1,k2⟩:=zfM h2
   refine ⟨by simp [k1],fun i o' ao hi ha=>?_⟩
   cases i with
   |zero=>
    simp only [List.getElem?_cons_zero,Option.some.injEq] at hi ha
    subst hi;subst ha
    exact J1 h1
   |succ i=>exact k2 i o' ao (by simpa using hi) (by simpa using ha)
  ·cases h
theorem St.put_H (st:St) (d:Option (Bool×Nat)) (v:PV):(st.put d v).H=st.H:=by
 match d with
 |none=>rfl
 |some (true,n)=>rfl
 |some (false,n)=>rfl
theorem St.put_ed (st:St) (d:Option (Bool×Nat)) (v:PV):(st.put d v).ed=st.ed:=by
 match d with
 |none=>rfl
 |some (true,n)=>rfl
 |some (false,n)=>rfl
structure jV where
 defers:List Deferred
 slots:Nat→Value
structure UW (T:ye) (d0:jV) (a:Act):Prop where
 defers:a.defers=d0.defers
 slots:∀ n,T.fix n=true→a.tmps.getD n undef=d0.slots n
theorem UW.put {T:ye} {d0:jV} {a:Act} (h:UW T d0 a) {d:Option Nat} (hd:∀ n,d=some n→T.fix n=false) (cv:Value):UW T d0 (a.put d cv):=by
 cases d with
 |none=>exact h
 |some d=>
  refine ⟨h.defers,fun n hn=>?_⟩
  have hne:n≠d:=fun e=>by subst e;rw [hd n rfl] at hn;cases hn
  rw [←h.slots n hn]
  show (a.tmps.setIfInBounds d cv).getD n undef=_
  simp only [Array.getD_eq_getD_getElem?,Array.getElem?_setIfInBounds_ne (Ne.symm hne)]
structure vE (G:Nat→Option (List PV)) (T:ye) (nt:Nat) (w0:World) (F0:Nat→Prop) (m0:zR) (H0:zd) (d0:jV) (st:St) (a:Act) (w:World) (F:Nat→Prop) (m:zR):Prop where
 rel:yl G w F m st.H
 env:vP T nt (zn w F m (zr st.H)) st a
 grow:wo w0 F0 m0 H0 w F m st.H
 fwd:ZT m H0 st.H st.ed
 defers:UW T d0 a
theorem zn.unk' {w:World} {F:Nat→Prop} {m:zR} {L:Nat→Nat} (x:Value):zn w F m L .unk x:=.froz _ _ (.unk x)
theorem Act.put_defers' (a:Act) (d:Option Nat) (v:Value):(a.put d v).defers=a.defers:=by cases d<;>rfl
section
variable {P:Program} {G:Nat→Option (List PV)} {T:ye} {nt:Nat} {ops:Array Oper} {o:Oper} {ao:zC} {w:World} {F:Nat→Prop} {m:zR} {st:St} {a:Act}
theorem bool_inv {w:World} {F:Nat→Prop} {m:zR} {L:Nat→Nat} {b:Bool} {v:Value} (h:zn w F m L (.bool b) v):v=.bool b:=by
 cases h with|froz _ _ h=>cases h;rfl
theorem und_inv {w:World} {F:Nat→Prop} {m:zR} {L:Nat→Nat} {v:Value} (h:zn w F m L .und v):v=undef:=by
 cases h with|froz _ _ h=>cases h;rfl
theorem zgx (t:Qs P T nt ops o ao) (hsz:a.tmps.size=nt) {R:PV→Value→Prop} (hRb:∀ b v,R (.bool b) v→v=.bool b) (hRu:∀ v,R .und v→v=undef)
  (hE:∀ d,R ((match T.K d with|true=>zx.per d|false=>zx.reg d).get G st) (a.tmps.getD d undef)∨∀ g w,ao.guard=some (g,w)→g≠(match T.K d with|true=>zx.per d|false=>zx.reg d)) {b:Bool} (h:wanted G st ao=some b):Region.wanted o (yielded ops a.tmps)=b:=by
 unfold wanted at h
 rcases t.guard with ⟨h1,h2⟩|⟨j,want,oj,d,h1,h2,h3,h4,h5⟩
 ·simp only [h2,Option.some.injEq] at h
  subst h
  simp [Region.wanted,h1]
 ·simp only [h5] at h
  have hlt:d<a.tmps.size:=by rw [hsz];exact h4
  have hd:a.tmps[d]?=some (a.tmps.getD d undef):=by rw [Array.getElem?_eq_getElem hlt];simp [Array.getD,hlt]
  have hE':=(hE d).resolve_right fun hne=>hne _ _ h5 rfl
  have hy:yielded ops a.tmps j=match a.tmps.getD d undef with|.bool b=>some b|_=>none:=by
   unfold yielded
   rw [h2]
   simp only [Option.bind_some,h3,hd]
   cases a.tmps.getD d undef<;>rfl
  unfold Region.wanted
  rw [h1]
  simp only
  rw [hy]
  split at h
  ·rename_i b' hb
   rw [hb] at hE'
   simp only [hRb _ _ hE']
   have h:=Option.some.inj h
   rw [←h]
   cases b'<;>cases want<;>rfl
  ·rename_i hu
   rw [hu] at hE'
   simp only [hRu _ hE']
   have h:=Option.some.inj h
   rw [←h]
   rfl
  ·cases h
theorem zwp (E:vP T nt (zn w F m (zr st.H)) st a) (d:Nat):zn w F m (zr st.H) ((match T.K d with|true=>zx.per d|false=>zx.reg d).get G st) (a.tmps.getD d undef):=by
 cases T.K d
 ·exact E.reg d
 ·exact E.per d
theorem zaJ {C:Cl} (hC:VW P G C) (R:yl G w F m st.H) (E:vP T nt (zn w F m (zr st.H)) st a) {aop:uD} (ht:W5 P T o.dst o.op=some aop) {v:PV} {H':zd} {ed:zV} (he:zq G C st aop=some (v,H',ed)) (K:Act→World→Prop) (Q:Exit→Act→World→Prop)
  (hK:∀ cv w' F' m',yl G w' F' m' H'→wo w F m st.H w' F' m' H'→zn w' F' m' (zr H') v cv→(wy aop=true→UK w m st.H w' m' H')→ZT m' st.H H' ed→K (a.put o.dst cv) w'):o.wp P a w K Q:=by
 cases hs:QW aop with
 |false=>exact zug hC R E ht he K Q fun cv w' F' m' h1 h2 h3 h4=>hK cv w' F' m' h1 h2 h3 h4 ((zpH he hs).fwd h1)
 |true=>
  have hq:wy aop=false:=by
   cases aop<;>simp [QW,wy] at hs ⊢ <;>exact hs
  have hcall:∃ c f,o.op=.call c∧c.callee=.value f∧kG P T o.dst c=some aop:=by
   cases ho:o.op<;>rw [ho] at ht
   case call c=>
    simp only [W5] at ht
    refine ⟨c,?_⟩
    cases hc:c.callee with
    |value f=>exact ⟨f,rfl,rfl,ht⟩
    |invoke=>unfold kG at ht;simp [hc] at ht
    |builtin b=>
     unfold kG at ht
     simp only [hc] at ht
     exfalso
     repeat' split at ht
     all_goals first
      |(cases ht;done)
      |(injection ht with ht;subst ht;cases hs;done)
      |(unfold zfo at ht;split at ht<;>first|(cases ht;done)|(injection ht with ht;subst ht;cases hs;done))
   all_goals
    exfalso
    simp only [W5] at ht
    repeat' split at ht
    all_goals first
     |(cases ht;done)
     |(injection ht with ht;subst ht;cases hs;done)
  obtain ⟨c,f,h1,h2,h3⟩:=hcall
  exact zoU hC R E h1 h2 h3 he K Q fun cv w' F' m' k1 k2 k3 k4 k5=>hK cv w' F' m' k1 k2 k3 k4 (k5 hq)
end
section
variable {P:Program} {G:Nat→Option (List PV)} {T:ye} {nt:Nat} {ops:Array Oper} {w0:World} {F0:Nat→Prop} {m0:zR} {H0:zd} {d0:jV}
theorem vE.und {st:St} {a:Act} {w:World} {F:Nat→Prop} {m:zR} (I:vE G T nt w0 F0 m0 H0 d0 st a w F m) {o:Oper} {ao:zC} (t:Qs P T nt ops o ao):vE G T nt w0 F0 m0 H0 d0 (st.put ao.dst .und) (a.put o.dst undef) w F m:=by
 rcases t.dst with ⟨h1,h2⟩|⟨d,h1,h2,h3⟩
 ·rw [h1,h2];exact I
 ·rw [h1,h3]
  have hE:=I.env.put zn.unk' h2 (v:=.und) (cv:=undef) (.froz _ _ .und)
  exact ⟨by rw [St.put_H];exact I.rel,by rw [St.put_H];exact hE,by rw [St.put_H];exact I.grow,by rw [St.put_H,St.put_ed];exact I.fwd,I.defers.put (fun n e=>t.fix n (h1.trans e)) _⟩
theorem vE.val {st:St} {a:Act} {w:World} {F:Nat→Prop} {m:zR} (I:vE G T nt w0 F0 m0 H0 d0 st a w F m) {o:Oper} {ao:zC} (t:Qs P T nt ops o ao) {v:PV} {H':zd} {ed:zV} {cv:Value} {w':World} {F':Nat→Prop} {m':zR}
  (R':yl G w' F' m' H') (g:wo w F m st.H w' F' m' H') (hv:zn w' F' m' (zr H') v cv) (hf:ZT m' st.H H' ed):vE G T nt w0 F0 m0 H0 d0 (St.put { st with H:=H',ed:=ed++st.ed } ao.dst v) (a.put o.dst cv) w' F' m':=by
 have hE:vP T nt (zn w' F' m' (zr H')) { st with H:=H',ed:=ed++st.ed } a:=(I.env.mono fun p v h=>h.grow I.rel g).heap _ _
 have hg:=I.grow.trans g
 have hfw:=ZT.trans I.fwd g hf
 rcases t.dst with ⟨h1,h2⟩|⟨d,h1,h2,h3⟩
 ·rw [h1,h2];exact ⟨R',hE,hg,hfw,I.defers⟩
 ·rw [h1,h3]
  have hE':=hE.put zn.unk' h2 hv
  exact ⟨by rw [St.put_H];exact R',by rw [St.put_H];exact hE',by rw [St.put_H];exact hg,by rw [St.put_H,St.put_ed];exact hfw,I.defers.put (fun n e=>t.fix n (h1.trans e)) _⟩
theorem zdD {C:Cl} (hC:VW P G C) {Q:Exit→Act→World→Prop} {js:List Nat}:∀ {os:List Oper} {as:List zC} {i:Nat} {st st':St} {a:Act} {w:World} {F:Nat→Prop} {m:zR},wl P T nt ops os=some as→(∀ k o,os[k]?=some o→ops[i+k]?=some o)→vH G C as st=some st'→vE G T nt w0 F0 m0 H0 d0 st a w F m→
  (∀ a1 w1 F1 m1,vE G T nt w0 F0 m0 H0 d0 st' a1 w1 F1 m1→wpOps P ops Q js a1 w1)→wpOps P ops Q (List.range' i os.length++js) a w
 |[],as,i,st,st',a,w,F,m,ht,_,he,I,hQ=>by
  simp only [wl,Option.some.injEq] at ht
  subst ht
  simp only [vH,Option.some.injEq] at he
  subst he
  exact hQ a w F m I
 |o::os,as,i,st,st',a,w,F,m,ht,hops,he,I,hQ=>by
  simp only [wl] at ht
  split at ht
  ·rename_i ao as' h1 h2
   injection ht with ht
   subst ht
   have t:=J1 h1
   have hi:ops[i]?=some o:=by simpa using hops 0 o rfl
   rw [show (o::os).length=os.length+1 from rfl,List.range'_succ,List.cons_append]
   have hrest:∀ {st1:St} {a1:Act} {w1:World} {F1:Nat→Prop} {m1:zR},vH G C as' st1=some st'→vE G T nt w0 F0 m0 H0 d0 st1 a1 w1 F1 m1→wpOps P ops Q (List.range' (i+1) os.length++js) a1 w1:=fun he' I'=>
    zdD hC h2 (fun k o' hk=>by have:=hops (k+1) o' (by simpa using hk);rwa [show i+(k+1)=i+1+k by omega] at this) he' I' hQ
   simp only [wpOps,hi]
   have hg:∀ {b:Bool},wanted G st ao=some b→Region.wanted o (yielded ops a.tmps)=b:=fun hb=>zgx (R:=zn w F m (zr st.H)) t I.env.size (fun _ _=>bool_inv) (fun _=>und_inv) (fun d=>.inl (zwp I.env d)) hb
   simp only [vH] at he
   split at he
   ·rename_i hw
    rw [hg hw]
    simp only [if_true]
    refine .inl ?_
    split at he
    ·rename_i v H' ed hop
     refine zaJ hC I.rel I.env t.op (ZE.1 hop).1 _ _ fun cv w' F' m' R' g hv _ hf=>?_
     exact hrest he (I.val t R' g hv hf)
    ·cases he
   ·rename_i hw
    rw [hg hw]
    simp only [Bool.false_eq_true,if_false]
    exact hrest he (I.und t)
   ·cases he
  ·cases ht
theorem zku {C:Cl} (hC:VW P G C) {Q:Exit→Act→World→Prop} {os:List Oper} {as:List zC} {i:Nat} {st st':St} {a:Act} {w:World} {F:Nat→Prop} {m:zR} (ht:wl P T nt ops os=some as) (hops:∀ k o,os[k]?=some o→ops[i+k]?=some o) (he:vH G C as st=some st') (I:vE G T nt w0 F0 m0 H0 d0 st a w F m)
  (hQ:∀ a1 w1 F1 m1,vE G T nt w0 F0 m0 H0 d0 st' a1 w1 F1 m1→Q .normal a1 w1):wpOps P ops Q (List.range' i os.length) a w:=by
 have:=zdD (js:=[]) hC ht hops he I fun a1 w1 F1 m1 I1=>hQ a1 w1 F1 m1 I1
 rwa [List.append_nil] at this
end
end
section
section
variable {G:Nat→Option (List PV)} {C:Cl}
theorem JS {s s':St} {d:Int} {x:Option zx} (h:∀ y∈zim x,y.get G s=y.get G s'):kL G s d x=kL G s' d x:=by
 cases x with
 |none=>rfl
 |some y=>simp only [kL,h y (by simp [zim])]
theorem zh4 {s s':St} {op:uD} (h:∀ x∈xq op,x.get G s=x.get G s') (hH:s.H=s'.H):zq G C s op=zq G C s' op:=by
 cases op
 case build zero parts=>
  simp only [xq,List.mem_map,forall_exists_index,and_imp,forall_apply_eq_imp_iff₂] at h
  simp only [zq,hH]
  rw [List.map_congr_left (g:=fun p=>(p.1,cellsOf (p.2.2.get G s'))) fun p hp=>by rw [h p hp]]
  have:(parts.all fun p=>(cellsOf (p.2.2.get G s)).length==p.2.1)=parts.all fun p=>(cellsOf (p.2.2.get G s')).length==p.2.1:=by
   rw [Bool.eq_iff_iff,List.all_eq_true,List.all_eq_true]
   exact ⟨fun k p hp=>by rw [←h p hp];exact k p hp,fun k p hp=>by rw [h p hp];exact k p hp⟩
  rw [this]
 case buildSlice sz len zero parts=>
  simp only [xq,List.mem_map,forall_exists_index,and_imp,forall_apply_eq_imp_iff₂] at h
  simp only [zq,hH]
  rw [List.map_congr_left (g:=fun p=>(p.1,cellsOf (p.2.get G s'))) fun p hp=>by rw [h p hp]]
 case mkfn f caps=>
  simp only [xq] at h
  simp only [zq,hH,List.map_congr_left h]
 case call m f args=>
  simp only [xq] at h
  simp only [zq,hH,List.map_congr_left h]
 case callv m x args=>
  simp only [xq,List.mem_cons,forall_eq_or_imp] at h
  simp only [Zl,hH,List.map_congr_left h.2,h.1]
 case slice sz x lo hi=>
  simp only [xq,List.mem_cons,forall_eq_or_imp,List.mem_append] at h
  have h1:=fun d=>JS (d:=d) (x:=lo) fun y hy=>h.2 y (.inl hy)
  have h2:=fun d=>JS (d:=d) (x:=hi) fun y hy=>h.2 y (.inr hy)
  simp only [zq,hH,h.1,h1,h2]
 case sliceS x lo hi=>
  simp only [xq,List.mem_cons,forall_eq_or_imp,List.mem_append] at h
  have h1:=fun d=>JS (d:=d) (x:=lo) fun y hy=>h.2 y (.inl hy)
  have h2:=fun d=>JS (d:=d) (x:=hi) fun y hy=>h.2 y (.inr hy)
  simp only [zq,hH,h.1,h1,h2]
 all_goals
  simp only [xq,List.mem_cons,List.not_mem_nil,or_false,forall_eq_or_imp,forall_eq] at h
  simp only [zq,hH,h]
theorem zmY {s s':St} {op:uD} (h:∀ x∈xq op,x.get G s=x.get G s'):Ym G s op=Ym G s' op:=by
 cases op<;>simp only [xq,List.mem_cons,List.not_mem_nil,or_false,forall_eq_or_imp,forall_eq] at h<;>simp only [Ym,h]
theorem ZF (s:St) (H:zd) (x:zx):x.get G { s with H:=H }=x.get G s:=by cases x<;>rfl
theorem zfh (s:St) (H:zd):zx.get G { s with H:=H }=zx.get G s:=funext fun x=>ZF s H x
theorem zhI (s:St) (H:zd) (d:Int) (x:Option zx):kL G { s with H:=H } d x=kL G s d x:=by cases x<;>simp only [kL,ZF]
theorem zp_ {s:St} {op:uD} (hn:QR op=true) {v:PV} {H':zd} {ed:zV} (he:zq G C s op=some (v,H',ed)) (H:zd):H'=s.H∧ed=[]∧zq G C { s with H:=H } op=some (v,H,[]):=by
 cases op<;>simp only [QR,Bool.false_eq_true] at hn
 all_goals
  simp only [zq,ZF,zfh,zhI] at he ⊢
  repeat' split at he
  all_goals first
   |(cases he;done)
   |(simp only [Option.some.injEq,Prod.mk.injEq] at he;obtain ⟨rfl,rfl,rfl⟩:=he;simp_all)
theorem QT {cs:List PV} (h:zt cs=[]):∀ p∈cs,refs p=[]:=by
 intro p hp
 cases hr:refs p with
 |nil=>rfl
 |cons r rs=>
  have:r∈zt cs:=wN.2 ⟨p,hp,by rw [hr];exact List.mem_cons_self⟩
  rw [h] at this;cases this
theorem QB:∀ (d:Nat) (v:PV) (H H':zd),refs v=[]→frz d H v=frz d H' v
 |0,_,_,_,_=>rfl
 |d+1,v,H,H',h=>by
  have hl:∀ {cs:List PV},zt cs=[]→cs.map (frz d H)=cs.map (frz d H'):=fun h=>List.map_congr_left fun p hp=>QB d p H H' (QT h p hp)
  cases v<;>simp only [refs] at h<;>simp only [frz]
  case agg cs=>rw [hl h]
  case tup cs=>rw [hl h]
  case fn f cs=>rw [hl h]
  all_goals cases h
theorem zsy {s:St} {op:uD} (hn:zdo op=true) (hb:∀ x∈xq op,refs (x.get G s)=[]) {v:PV} {H':zd} {ed:zV} (he:zq G C s op=some (v,H',ed)) (hv:refs v=[]) (H:zd):H'=s.H∧ed=[]∧zq G C { s with H:=H } op=some (v,H,[]):=by
 have hcall:∀ (md:Kt) (f:Nat) (args:List PV),Vt md=true→(∀ p∈args,refs p=[])→xJ C s.H md f args=some (v,H',ed)→H'=s.H∧ed=[]∧xJ C H md f args=some (v,H,[]):=by
  intro md f args hq ha he
  cases md with
  |shared=>cases hq
  |lend=>cases hq
  |fresh=>
   unfold xJ at he ⊢
   simp only at he ⊢
   rw [show args.map (frz 8 H)=args.map (frz 8 s.H) from List.map_congr_left fun p hp=>QB 8 p _ _ (ha p hp)]
   split at he
   ·rename_i v' X ed' hp
    simp only [Option.some.injEq,Prod.mk.injEq] at he
    obtain ⟨rfl,rfl,rfl⟩:=he
    simp
   ·cases he
  |pure=>
   unfold xJ at he ⊢
   simp only at he ⊢
   rw [show args.map (frz 8 H)=args.map (frz 8 s.H) from List.map_congr_left fun p hp=>QB 8 p _ _ (ha p hp)]
   split at he
   ·rename_i v' hp
    split at he
    ·rename_i hc
     simp only [Option.some.injEq,Prod.mk.injEq] at he
     obtain ⟨rfl,rfl,rfl⟩:=he
     simp [hc]
    ·cases he
   ·cases he
 cases op<;>simp only [zdo,Bool.false_eq_true] at hn
 case load g sz x=>
  have hx:=hb x (by simp [xq])
  simp only [zq,ZF] at he ⊢
  generalize x.get G s=u at *
  cases u<;>simp only [refs] at hx<;>simp only [cellsAt] at he ⊢ <;>try (cases hx;done)
  all_goals
   repeat' split at he
   all_goals first
    |(cases he;done)
    |(simp only [Option.some.injEq,Prod.mk.injEq] at he;obtain ⟨rfl,rfl,rfl⟩:=he;simp_all)
 case slice sz x lo hi=>
  have hx:=hb x (by simp [xq])
  simp only [zq,ZF,zhI] at he ⊢
  generalize x.get G s=u at *
  cases u<;>simp only [refs] at hx<;>try (cases hx;done)
  all_goals
   repeat' split at he
   all_goals first
    |(cases he;done)
    |(simp only [Option.some.injEq,Prod.mk.injEq] at he;obtain ⟨rfl,rfl,rfl⟩:=he;simp_all)
 case indexA sz x i=>
  have hx:=hb x (by simp [xq])
  simp only [zq,ZF] at he ⊢
  generalize x.get G s=u at *
  cases u<;>simp only [refs] at hx<;>try (cases hx;done)
  all_goals
   repeat' split at he
   all_goals first
    |(cases he;done)
    |(simp only [Option.some.injEq,Prod.mk.injEq] at he;obtain ⟨rfl,rfl,rfl⟩:=he;simp_all)
 case lookup tag z ok x i=>
  have hx:=hb x (by simp [xq])
  simp only [zq,ZF] at he ⊢
  generalize x.get G s=u at *
  cases u<;>simp only [refs] at hx<;>simp only [Yu] at he ⊢ <;>try (cases hx;done)
  all_goals
   repeat' split at he
   all_goals first
    |(cases he;done)
    |(simp only [Option.some.injEq,Prod.mk.injEq] at he;obtain ⟨rfl,rfl,rfl⟩:=he;simp_all)
 case call m f args=>
  have he:xJ C s.H m f (args.map (zx.get G s))=some (v,H',ed):=he
  show H'=s.H∧ed=[]∧xJ C H m f (args.map (zx.get G { s with H:=H }))=_
  rw [zfh]
  exact hcall m f _ hn (fun p hp=>by obtain ⟨x,hx,rfl⟩:=List.mem_map.1 hp;exact hb x (by simpa [xq] using hx)) he
 case callv m x args=>
  rw [Zl] at he ⊢
  rw [ZF,zfh]
  have hx:=hb x (by simp [xq])
  split at he
  ·rename_i f caps hf
   rw [hf] at hx
   simp only [hf]
   exact hcall m f _ hn (fun p hp=>by
    rcases List.mem_append.1 hp with hp|hp
    ·obtain ⟨y,hy,rfl⟩:=List.mem_map.1 hp;exact hb y (by simp [xq,hy])
    ·exact QT hx p hp) he
  ·cases he
theorem zfK {g:Bool} {sz:Nat} {cs:List PV} {v:PV} (h:xb g sz cs=some v):∀ r∈refs v,∃ p∈cs,r∈refs p:=by
 intro r hr
 rcases Jb (R:=fun _ _=>True) h with ⟨_,_,rfl⟩|⟨_,h0⟩
 ·obtain ⟨p,hp,hq⟩:=wN.1 (by simpa [refs] using hr)
  exact ⟨p,List.mem_of_mem_take hp,hq⟩
 ·exact ⟨v,List.mem_of_getElem? h0,hr⟩
theorem zgw:∀ {ps:List (Nat×List PV)} {cs cs':List PV},vY cs ps=some cs'→∀ p∈cs',p∈cs∨∃ q∈ps,p∈q.2
 |[],cs,cs',h,p,hp=>by simp only [vY,Option.some.injEq] at h;subst h;exact .inl hp
 |(off,new)::ps,cs,cs',h,p,hp=>by
  simp only [vY] at h
  split at h
  ·rcases zgw h p hp with h|⟨q,hq,h⟩
   ·rcases List.mem_append.1 h with h|h
    ·rcases List.mem_append.1 h with h|h
     ·exact .inl (List.mem_of_mem_take h)
     ·exact .inr ⟨_,List.mem_cons_self,h⟩
    ·exact .inl (List.mem_of_mem_drop h)
   ·exact .inr ⟨q,List.mem_cons_of_mem _ hq,h⟩
  ·cases h
theorem zlO {v:PV} {p:PV} (h:p∈cellsOf v):∀ r∈refs p,r∈refs v:=by
 intro r hr
 cases v<;>simp only [cellsOf,List.mem_singleton] at h<;>try (subst h;exact hr)
 simp only [refs]
 exact wN.2 ⟨p,h,hr⟩
theorem znk {op:BinOp} {k:IntKind} {x y:Int} {v:PV} (h:kw op k x y=some v):refs v=[]:=by
 unfold kw at h
 repeat' split at h
 all_goals first
  |(cases h;done)
  |(injection h with h;subst h;rfl)
theorem znj {op:BinOp} {k:FloatKind} {x y:Nat} {v:PV} (h:UX op k x y=some v):refs v=[]:=by
 unfold UX at h
 repeat' split at h
 all_goals first
  |(cases h;done)
  |(injection h with h;subst h;rfl)
theorem znl {op:BinOp} {x y:ByteArray} {v:PV} (h:zbP op x y=some v):refs v=[]:=by
 unfold zbP at h
 repeat' split at h
 all_goals first
  |(cases h;done)
  |(injection h with h;subst h;rfl)
theorem zta {op:BinOp} {x y v:PV} (h:bin op x y=some v):refs v=[]:=by
 unfold bin at h
 split at h
 ·split at h
  ·exact znk h
  ·cases h
 ·split at h
  ·exact znj h
  ·cases h
 ·exact znl h
 ·cases h
theorem zxh {op:UnOp} {x v:PV} (h:un op x=some v):refs v=[]:=by
 unfold un at h
 repeat' split at h
 all_goals first
  |(cases h;done)
  |(injection h with h;subst h;rfl)
theorem zn7 {s:St} {op:uD} (hn:QR op=true) (hz:zdQ op=true) {v:PV} {H':zd} {ed:zV} (he:zq G C s op=some (v,H',ed)):∀ r∈refs v,∃ x∈xq op,r∈refs (x.get G s):=by
 intro r hr
 cases op<;>simp only [QR,Bool.false_eq_true] at hn
 case copy x=>simp only [zq,Option.some.injEq,Prod.mk.injEq] at he;obtain ⟨rfl,_⟩:=he;exact ⟨x,by simp [xq],hr⟩
 case pick c a b=>
  simp only [zq] at he
  split at he
  ·split at he
   ·simp only [Option.some.injEq,Prod.mk.injEq] at he;obtain ⟨rfl,_⟩:=he;exact ⟨a,by simp [xq],hr⟩
   ·simp only [Option.some.injEq,Prod.mk.injEq] at he;obtain ⟨rfl,_⟩:=he;exact ⟨b,by simp [xq],hr⟩
  ·cases he
 case build zero parts=>
  simp only [zq] at he
  split at he
  ·split at he
   ·rename_i cs hf
    simp only [Option.some.injEq,Prod.mk.injEq] at he;obtain ⟨rfl,_⟩:=he
    obtain ⟨p,hp,hq⟩:=wN.1 (by simpa [refs] using hr)
    rcases zgw hf p hp with h|⟨q,hq2,h⟩
    ·have hz':zt zero=[]:=by simpa [zdQ] using hz
     rw [QT hz' p h] at hq;cases hq
    ·obtain ⟨q',hq',rfl⟩:=List.mem_map.1 hq2
     exact ⟨q'.2.2,by simp only [xq,List.mem_map];exact ⟨q',hq',rfl⟩,zlO h r hq⟩
   ·cases he
  ·cases he
 case nilCheck x=>
  simp only [zq] at he
  split at he
  ·rename_i h;simp only [Option.some.injEq,Prod.mk.injEq] at he;obtain ⟨rfl,_⟩:=he;exact ⟨x,by simp [xq],by rw [h];exact hr⟩
  ·rename_i h;simp only [Option.some.injEq,Prod.mk.injEq] at he;obtain ⟨rfl,_⟩:=he;exact ⟨x,by simp [xq],by rw [h];exact hr⟩
  ·cases he
 case bin op x y=>
  simp only [zq] at he
  split at he
  ·rename_i h;simp only [Option.some.injEq,Prod.mk.injEq] at he;obtain ⟨rfl,_⟩:=he;rw [zta h] at hr;cases hr
  ·cases he
 case un op x=>
  simp only [zq] at he
  split at he
  ·rename_i h;simp only [Option.some.injEq,Prod.mk.injEq] at he;obtain ⟨rfl,_⟩:=he;rw [zxh h] at hr;cases hr
  ·cases he
 case mkfn f caps=>
  simp only [zq] at he
  split at he
  ·simp only [Option.some.injEq,Prod.mk.injEq] at he;obtain ⟨rfl,_⟩:=he
   obtain ⟨p,hp,hq⟩:=wN.1 (by simpa [refs] using hr)
   obtain ⟨x,hx,rfl⟩:=List.mem_map.1 hp
   exact ⟨x,by simpa [xq] using hx,hq⟩
  ·cases he
 case fieldA o x=>
  simp only [zq] at he
  split at he
  ·rename_i h;simp only [Option.some.injEq,Prod.mk.injEq] at he;obtain ⟨rfl,_⟩:=he;exact ⟨x,by simp [xq],by rw [h];exact hr⟩
  ·rename_i h;simp only [Option.some.injEq,Prod.mk.injEq] at he;obtain ⟨rfl,_⟩:=he;simp [refs] at hr
  ·cases he
 case field g o sz x=>
  simp only [zq] at he
  split at he
  ·rename_i cs h
   split at he
   ·rename_i h2;simp only [Option.some.injEq,Prod.mk.injEq] at he;obtain ⟨rfl,_⟩:=he
    obtain ⟨p,hp,hq⟩:=zfK h2 r hr
    exact ⟨x,by simp [xq],by rw [h];exact wN.2 ⟨p,List.mem_of_mem_drop hp,hq⟩⟩
   ·cases he
  ·cases he
 case prim k x=>
  simp only [zq] at he
  split at he
  ·rename_i v' h
   simp only [Option.some.injEq,Prod.mk.injEq] at he;obtain ⟨rfl,_⟩:=he
   exfalso
   generalize x.get G s=u at h
   cases k<;>cases u<;>simp only [Vx] at h<;>try (cases h;done)
   ·rename_i k n;cases k<;>simp only [Vx] at h<;>first|(cases h;done)|(injection h with h;subst h;simp [refs] at hr)
   ·injection h with h;subst h;simp [refs] at hr
  ·cases he
 case minmax mx x y=>
  simp only [zq] at he
  split at he
  ·rename_i v' h
   simp only [Option.some.injEq,Prod.mk.injEq] at he;obtain ⟨rfl,_⟩:=he
   exfalso
   generalize x.get G s=u at h
   generalize y.get G s=u2 at h
   cases mx<;>cases u<;>cases u2<;>simp only [mmV] at h<;>first|(cases h;done)|(injection h with h;subst h;simp [refs] at hr)
  ·cases he
 case indexP n sz x i=>
  simp only [zq] at he
  split at he
  ·rename_i v' h
   simp only [Option.some.injEq,Prod.mk.injEq] at he;obtain ⟨rfl,_⟩:=he
   refine ⟨x,by simp [xq],?_⟩
   generalize x.get G s=u at h ⊢
   generalize i.get G s=u2 at h
   unfold QD at h
   split at h
   ·split at h
    ·cases u<;>simp only at h<;>first|(cases h;done)|(injection h with h;subst h;simpa [refs] using hr)
    ·cases h
   ·cases h
  ·cases he
 case indexV n g sz x i=>
  simp only [zq] at he
  split at he
  ·rename_i cs _ j h _
   split at he
   ·split at he
    ·rename_i h2;simp only [Option.some.injEq,Prod.mk.injEq] at he;obtain ⟨rfl,_⟩:=he
     obtain ⟨p,hp,hq⟩:=zfK h2 r hr
     exact ⟨x,by simp [xq],by rw [h];exact wN.2 ⟨p,List.mem_of_mem_drop hp,hq⟩⟩
    ·cases he
   ·cases he
  ·cases he
 case extract x i=>
  simp only [zq] at he
  split at he
  ·rename_i vs h
   split at he
   ·rename_i v' h2;simp only [Option.some.injEq,Prod.mk.injEq] at he;obtain ⟨rfl,_⟩:=he
    exact ⟨x,by simp [xq],by rw [h];exact wN.2 ⟨_,List.mem_of_getElem? h2,hr⟩⟩
   ·cases he
  ·cases he
 all_goals
  simp only [zq] at he
  repeat' split at he
  all_goals first
   |(cases he;done)
   |(simp only [Option.some.injEq,Prod.mk.injEq] at he;obtain ⟨rfl,_⟩:=he;simp [refs] at hr)
theorem zkx {s:St} {op:uD} (hq:wy op=true) {v:PV} {H':zd} {ed:zV} (he:zq G C s op=some (v,H',ed)):(∃ X,H'=s.H++X)∧ed=[]:=by
 have call:∀ (md:Kt) (f:Nat) (args:List PV),Vt md=true→xJ C s.H md f args=some (v,H',ed)→(∃ X,H'=s.H++X)∧ed=[]:=by
  intro md f args hq he
  cases md with
  |shared=>cases hq
  |lend=>cases hq
  |fresh=>
   unfold xJ at he
   simp only at he
   split at he
   ·simp only [Option.some.injEq,Prod.mk.injEq] at he
    obtain ⟨_,rfl,rfl⟩:=he
    exact ⟨⟨[],by simp⟩,rfl⟩
   ·cases he
  |pure=>
   unfold xJ at he
   simp only at he
   split at he
   ·split at he
    ·simp only [Option.some.injEq,Prod.mk.injEq] at he
     obtain ⟨_,rfl,rfl⟩:=he
     exact ⟨⟨[],by simp⟩,rfl⟩
    ·cases he
   ·cases he
 cases op<;>simp only [wy,Bool.false_eq_true] at hq
 case call m f args=>exact call m f _ hq he
 case callv m x args=>
  rw [Zl] at he
  split at he
  ·exact call m _ _ hq he
  ·cases he
 all_goals
  simp only [zq] at he
  repeat' split at he
  all_goals first
   |(cases he;done)
   |(simp only [Option.some.injEq,Prod.mk.injEq] at he;obtain ⟨_,rfl,rfl⟩:=he;exact ⟨⟨[],(List.append_nil _).symm⟩,rfl⟩)
   |(simp only [Option.some.injEq,Prod.mk.injEq] at he;obtain ⟨_,rfl,rfl⟩:=he;exact ⟨⟨[_],rfl⟩,rfl⟩)
theorem zol {s:St} {op:uD} {v:PV} {H':zd} {ed:zV} (he:zq G C s op=some (v,H',ed)) {t:Option Nat} (ht:Ym G s op=some t):(t=none∧∃ X,H'=s.H++X)∨∃ id,t=some id∧∀ j,j≠id→H'[j]?=s.H[j]?:=by
 cases op<;>simp only [Ym] at ht<;>try (cases ht;done)
 case store sz a x=>
  split at ht
  ·rename_i id row off tot ha
   injection ht with ht
   subst ht
   refine .inr ⟨id,rfl,fun j hj=>?_⟩
   simp only [zq,ha] at he
   split at he
   ·rename_i h
    simp only [Option.some.injEq,Prod.mk.injEq] at he;obtain ⟨_,rfl,_⟩:=he
    unfold storeAt at h
    simp only at h
    repeat' split at h
    all_goals first
     |(cases h;done)
     |(simp only [Option.some.injEq,Prod.mk.injEq] at h;obtain ⟨rfl,_⟩:=h;exact List.getElem?_set_ne (Ne.symm hj))
   ·cases he
  ·cases ht
 case append sz bytes x y=>
  split at ht
  ·rename_i id off len tot ha
   injection ht with ht
   subst ht
   refine .inr ⟨id,rfl,fun j hj=>?_⟩
   simp only [zq,ha] at he
   split at he
   ·unfold xe at he
    simp only at he
    repeat' split at he
    all_goals first
     |(cases he;done)
     |(simp only [Option.some.injEq,Prod.mk.injEq] at he;obtain ⟨_,rfl,_⟩:=he;exact List.getElem?_set_ne (Ne.symm hj))
   ·cases he
  ·rename_i ha
   injection ht with ht
   subst ht
   refine .inl ⟨rfl,?_⟩
   simp only [zq,ha] at he
   split at he
   ·unfold xe at he
    simp only at he
    repeat' split at he
    all_goals first
     |(cases he;done)
     |(simp only [Option.some.injEq,Prod.mk.injEq] at he;obtain ⟨_,rfl,_⟩:=he;exact ⟨_,rfl⟩)
   ·cases he
  ·cases ht
 case copyS sz x y=>
  split at ht
  ·rename_i id off len tot ha
   injection ht with ht
   subst ht
   refine .inr ⟨id,rfl,fun j hj=>?_⟩
   simp only [zq,ha] at he
   repeat' split at he
   all_goals first
    |(cases he;done)
    |skip
   all_goals
    rename_i h1 _ _ _ _ _ _ _
    simp only [Option.some.injEq,Prod.mk.injEq] at he
    obtain ⟨_,rfl,_⟩:=he
    cases h1
    exact List.getElem?_set_ne (Ne.symm hj)
  ·cases ht
 case insert tag m k x=>
  split at ht
  ·rename_i id ha
   injection ht with ht
   subst ht
   refine .inr ⟨id,rfl,fun j hj=>?_⟩
   simp only [zq,ha] at he
   repeat' split at he
   all_goals first
    |(cases he;done)
    |(simp only [Option.some.injEq,Prod.mk.injEq] at he;obtain ⟨_,rfl,_⟩:=he;exact List.getElem?_set_ne (Ne.symm hj))
  ·cases ht
theorem zbU {H X:zd} {v:PV} {cs:List PV} (h:cellsAt H v=some cs):cellsAt (H++X) v=some cs:=by
 unfold cellsAt at *
 split at h
 ·exact h
 ·rename_i id row off tot
  cases hH:H[id]? with
  |none=>simp [hH] at h
  |some b=>
   have hlt:=(List.getElem?_eq_some_iff.1 hH).1
   simp only [List.getElem?_append_left hlt,hH] at h ⊢
   exact h
 ·cases h
theorem zlI {H H':zd} {v:PV} (h:∀ id∈refs v,H'[id]?=H[id]?):cellsAt H' v=cellsAt H v:=by
 unfold cellsAt
 cases v<;>try rfl
 rename_i id row off tot
 simp only [h id (by simp [refs])]
end
end
theorem QY {acc:List Nat} {j:Nat}:∀ {l:List Edge} {s:Nat},(l.foldl (fun s e=>match Region.binds .any e with|true=>s ||| (1 <<< e.on ||| acc.getD e.on 0)|false=>s) s).testBit j=true→
  s.testBit j=true∨∃ e∈l,Region.binds .any e=true∧(j=e.on∨(acc.getD e.on 0).testBit j=true)
 |[],s,h=>.inl h
 |e::l,s,h=>by
  simp only [List.foldl_cons] at h
  rcases QY h with h|⟨e',h1,h2,h3⟩
  ·cases hb:Region.binds .any e with
   |true=>
    rw [hb] at h
    simp only [Nat.testBit_or,Bool.or_eq_true] at h
    rcases h with h|h|h
    ·exact .inl h
    ·refine .inr ⟨e,List.mem_cons_self,hb,.inl ?_⟩
     rw [Nat.one_shiftLeft,Nat.testBit_two_pow] at h
     simpa using (by simpa using h:e.on=j).symm
    ·exact .inr ⟨e,List.mem_cons_self,hb,.inr h⟩
   |false=>rw [hb] at h;exact .inl h
  ·exact .inr ⟨e',List.mem_cons_of_mem _ h1,h2,h3⟩
theorem QJ:∀ (os:List Oper) (acc:List Nat) (i:Nat),i<acc.length→(Xo os acc)[i]?=acc[i]?
 |[],acc,i,h=>rfl
 |o::os,acc,i,h=>by
  simp only [Xo]
  rw [QJ os _ i (by simp;omega),List.getElem?_append_left h]
theorem zhk:∀ (os:List Oper) (acc:List Nat) (k:Nat) (o:Oper),os[k]?=some o→∃ acc',acc'.length=acc.length+k∧(∀ j,j<acc'.length→(Xo os acc)[j]?=acc'[j]?)∧(Xo os acc)[acc.length+k]?=some (bits acc' o)
 |[],acc,k,o,h=>by simp at h
 |o'::os,acc,0,o,h=>by
  simp only [List.getElem?_cons_zero,Option.some.injEq] at h
  subst h
  refine ⟨acc,by simp,fun j hj=>QJ _ _ _ hj,?_⟩
  simp only [Xo,Nat.add_zero]
  rw [QJ _ _ _ (by simp)]
  simp
 |o'::os,acc,k+1,o,h=>by
  obtain ⟨acc',h1,h2,h3⟩:=zhk os (acc++[bits acc o']) k o (by simpa using h)
  simp only [List.length_append,List.length_singleton] at h1 h3
  exact ⟨acc',by omega,h2,by rw [show acc.length+(k+1)=acc.length+1+k by omega];exact h3⟩
def VV (ops:Array Oper) (i j:Nat):Bool:=((Xo ops.toList []).getD i 0).testBit j
def UI (ops:Array Oper) (S:Nat→Prop):Prop:=∀ i o,S i→ops[i]?=some o→∀ e∈o.after,Region.binds .any e=true→S e.on
theorem znc {ops:Array Oper} {S:Nat→Prop} (hS:UI ops S):∀ (n i:Nat),i≤n→∀ {o:Oper} {j:Nat},ops[i]?=some o→(∀ e∈o.after,Region.binds .any e=true→e.on<i∧S e.on)→(∀ i o,ops[i]?=some o→∀ e∈o.after,Region.binds .any e=true→e.on<i)→VV ops i j=true→S j:=by
 intro n
 induction n with
 |zero=>
  intro i hi o j ho he hb hw
  have:i=0:=by omega
  subst this
  obtain ⟨acc',h1,h2,h3⟩:=zhk ops.toList [] 0 o (by simpa using ho)
  unfold VV at hw
  rw [List.getD_eq_getElem?_getD,show (Xo ops.toList [])[0]?=_ by simpa using h3] at hw
  simp only [Option.getD_some] at hw
  rcases QY hw with h|⟨e,k1,k2,_⟩
  ·simp at h
  ·have:=(he e (by simpa using k1) k2).1;omega
 |succ n ih=>
  intro i hi o j ho he hb hw
  obtain ⟨acc',h1,h2,h3⟩:=zhk ops.toList [] i o (by simpa using ho)
  simp only [List.length_nil,Nat.zero_add] at h1 h3
  unfold VV at hw
  rw [List.getD_eq_getElem?_getD,h3] at hw
  simp only [Option.getD_some] at hw
  rcases QY hw with h|⟨e,k1,k2,k3⟩
  ·simp at h
  ·have hk:=he e (by simpa using k1) k2
   rcases k3 with rfl|k3
   ·exact hk.2
   ·have ho':∃ o',ops[e.on]?=some o':=by
     have:i<ops.size:=(Array.getElem?_eq_some_iff.1 ho).1
     exact ⟨_,Array.getElem?_eq_getElem (by omega)⟩
    obtain ⟨o',ho'⟩:=ho'
    refine ih e.on (by omega) ho' (fun e' h4 h5=>⟨hb _ _ ho' e' h4 h5,hS _ _ hk.2 ho' e' h4 h5⟩) hb ?_
    unfold VV
    rw [List.getD_eq_getElem?_getD,h2 e.on (by omega), ←List.getD_eq_getElem?_getD]
    exact k3
theorem zaa {ops:Array Oper} {S:Nat→Prop} (hS:UI ops S) (hb:∀ i o,ops[i]?=some o→∀ e∈o.after,Region.binds .any e=true→e.on<i) {i j:Nat} {o:Oper} (ho:ops[i]?=some o) (hi:S i) (hw:VV ops i j=true):S j:=
 znc hS i i (Nat.le_refl _) ho (fun e h1 h2=>⟨hb _ _ ho e h1 h2,hS _ _ hi ho e h1 h2⟩) hb hw
theorem zcC {ms:List Nat} {as:List zC} {i:Nat} {y:zC}:∀ {xs:List zC} {j:Nat},Kg ms as i y j xs=true→∀ (k:Nat) (x:zC),xs[k]?=some x→j+k<i→U5 ((ms.getD i 0).testBit (j+k)) x ((as.take i).drop (j+k+1)) y=true
 |[],j,h,k,x,hk,_=>by simp at hk
 |x'::xs,j,h,k,x,hk,hlt=>by
  simp only [Kg] at h
  split at h
  ·simp only [Bool.and_eq_true] at h
   cases k with
   |zero=>simp only [List.getElem?_cons_zero,Option.some.injEq] at hk;subst hk;exact h.1
   |succ k=>
    have:=zcC h.2 k x (by simpa using hk) (by omega)
    rwa [show j+1+k=j+(k+1) by omega] at this
  ·rename_i hb
   have:¬ j<i:=fun h=>by
    have h2:Nat.blt j i=true:=by rw [Nat.blt_eq];exact h
    rw [h2] at hb;cases hb
   omega
theorem zgG {ms:List Nat} {as:List zC}:∀ {ys:List zC} {i:Nat},zik ms as i ys=true→∀ (k:Nat) (y:zC),ys[k]?=some y→Kg ms as (i+k) y 0 as=true
 |[],i,h,k,y,hk=>by simp at hk
 |y'::ys,i,h,k,y,hk=>by
  simp only [zik,Bool.and_eq_true] at h
  cases k with
  |zero=>simp only [List.getElem?_cons_zero,Option.some.injEq] at hk;subst hk;exact h.1
  |succ k=>
   have:=zgG h.2 k y (by simpa using hk)
   rwa [show i+1+k=i+(k+1) by omega] at this
theorem zb2:∀ {os:List Oper} {i:Nat},zan i os=true→∀ (k:Nat) (o:Oper),os[k]?=some o→∀ e∈o.after,Region.binds .any e=true→e.on<i+k
 |[],i,h,k,o,hk=>by simp at hk
 |o'::os,i,h,k,o,hk=>by
  simp only [zan,Bool.and_eq_true] at h
  cases k with
  |zero=>
   simp only [List.getElem?_cons_zero,Option.some.injEq] at hk;subst hk
   intro e he hb
   have:=List.all_eq_true.1 h.1 e (by simpa using he)
   rw [hb] at this
   simpa [Nat.blt_eq] using this
  |succ k=>
   have:=zb2 h.2 k o (by simpa using hk)
   rwa [show i+1+k=i+(k+1) by omega] at this
def zhB (G:Nat→Option (List PV)) (C:Cl) (o:zC) (s s1:St) (v:PV):Prop:=
 (wanted G s o=some true∧∃ H ed,vu G C s o=some (v,H,ed)∧s1=St.put { s with H:=H,ed:=ed++s.ed } o.dst v)∨(wanted G s o=some false∧v=.und∧s1=s.put o.dst .und)
theorem zgu {G:Nat→Option (List PV)} {C:Cl}:∀ {as:List zC} {st st':St},vH G C as st=some st'→∃ (sts:Nat→St) (zf:Nat→PV),sts 0=st∧sts as.length=st'∧∀ i o,as[i]?=some o→zhB G C o (sts i) (sts (i+1)) (zf i)
 |[],st,st',h=>by
  simp only [vH,Option.some.injEq] at h
  exact ⟨fun _=>st,fun _=>.unk,rfl,h,by simp⟩
 |o::os,st,st',h=>by
  have key:∀ s1 v,zhB G C o st s1 v→vH G C os s1=some st'→∃ (sts:Nat→St) (zf:Nat→PV),sts 0=st∧sts (o::os).length=st'∧∀ i o',(o::os)[i]?=some o'→zhB G C o' (sts i) (sts (i+1)) (zf i):=by
   intro s1 v hs he
   obtain ⟨sts,zf,h1,h2,h3⟩:=zgu he
   refine ⟨fun i=>match i with|0=>st|i+1=>sts i,fun i=>match i with|0=>v|i+1=>zf i,rfl,h2,fun i o' hi=>?_⟩
   cases i with
   |zero=>
    simp only [List.getElem?_cons_zero,Option.some.injEq] at hi
    subst hi
    show zhB G C o st (sts 0) v
    rw [h1];exact hs
   |succ i=>exact h3 i o' (by simpa using hi)
  simp only [vH] at h
  split at h
  ·rename_i hw
   split at h
   ·rename_i v H ed ho
    exact key _ v (.inl ⟨hw,H,ed,ho,rfl⟩) h
   ·cases h
  ·rename_i hw
   exact key _ .und (.inr ⟨hw,rfl,rfl⟩) h
  ·cases h
def vl (T:ye) (s:St) (d:Nat):PV:=match T.K d with|true=>s.per.get d|false=>s.reg.get d
def KOk (T:ye) (s:St):Prop:=(∀ d,T.K d=false→s.per.get d=.unk)∧∀ d,T.K d=true→s.reg.get d=.unk
theorem zu0 {T:ye} {s:St} {d:Nat} {v:PV} (n:Nat):vl T (s.put (some (T.K d,d)) v) n=if n=d then v else vl T s n:=by
 unfold vl
 by_cases e:n=d
 ·subst e
  cases hk:T.K n<;>simp [St.put,zk.get_put]
 ·cases hk:T.K d<;>cases hn:T.K n<;>simp [St.put,zk.get_put,e]
theorem KOk.put {T:ye} {s:St} (h:KOk T s) (d:Nat) (v:PV):KOk T (s.put (some (T.K d,d)) v):=by
 cases hk:T.K d with
 |true=>
  refine ⟨fun n hn=>?_,h.2⟩
  simp only [St.put];rw [zk.get_put]
  have:n≠d:=fun e=>by subst e;rw [hk] at hn;cases hn
  simpa [this] using h.1 n hn
 |false=>
  refine ⟨h.1,fun n hn=>?_⟩
  simp only [St.put];rw [zk.get_put]
  have:n≠d:=fun e=>by subst e;rw [hk] at hn;cases hn
  simpa [this] using h.2 n hn
theorem zx.get_slot {G:Nat→Option (List PV)} {T:ye} {s:St} (h:KOk T s) {x:zx} {d:Nat} (hx:XW x=some d):x.get G s=vl T s d∨x.get G s=.unk:=by
 cases x<;>simp only [XW,Option.some.injEq] at hx<;>try (cases hx;done)
 all_goals
  subst hx
  unfold vl
  rename_i n
  cases hk:T.K n
  ·first
    |exact .inl rfl
    |exact .inr (h.1 n hk)
  ·first
    |exact .inl rfl
    |exact .inr (h.2 n hk)
section
structure kr (P:Program) (G:Nat→Option (List PV)) (T:ye) (nt:Nat) (C:Cl) (ops:Array Oper) (as:List zC) (sts:Nat→St) (zf:Nat→PV):Prop where
 len:as.length=ops.size
 tr:∀ (i:Nat) (o:Oper) (y:zC),ops[i]?=some o→as[i]?=some y→Qs P T nt ops o y
 step:∀ (i:Nat) (y:zC),as[i]?=some y→zhB G C y (sts i) (sts (i+1)) (zf i)
 pair:∀ (j i:Nat) (x y:zC),j<i→as[j]?=some x→as[i]?=some y→U5 (VV ops i j) x ((as.take i).drop (j+1)) y=true
 back:∀ (i:Nat) (o:Oper),ops[i]?=some o→∀ e∈o.after,Region.binds .any e=true→e.on<i
 bare:∀ (i:Nat) (y:zC),as[i]?=some y→(∀ x∈y.opds,ze1 x=true)∧zdQ y.op=true
 kok:KOk T (sts 0)
section
variable {P:Program} {G:Nat→Option (List PV)} {T:ye} {nt:Nat} {C:Cl} {ops:Array Oper} {as:List zC} {sts:Nat→St} {zf:Nat→PV}
theorem zdv {y:zC} (h:U1 y=true):wy y.op=true:=by
 unfold U1 at h
 cases hop:y.op<;>rw [hop] at h<;>simp [QR,zdo,wy] at h ⊢ <;>first|exact h.2|exact h
theorem kr.dst (c:kr P G T nt C ops as sts zf) {i:Nat} {y:zC} (hy:as[i]?=some y):(y.dst=none∧y.writes=none)∨∃ d,d<nt∧y.dst=some (T.K d,d)∧y.writes=some d:=by
 have hlt:i<ops.size:=by rw [←c.len];exact (List.getElem?_eq_some_iff.1 hy).1
 rcases (c.tr i _ y (Array.getElem?_eq_getElem hlt) hy).dst with ⟨h1,h2⟩|⟨d,h1,h2,h3⟩
 ·exact .inl ⟨h2,by simp [zC.writes,h2]⟩
 ·exact .inr ⟨d,h2,h3,by simp [zC.writes,h3]⟩
theorem kr.oper (c:kr P G T nt C ops as sts zf) {i:Nat} {y:zC} (hy:as[i]?=some y):∃ o,ops[i]?=some o:=by
 have hlt:i<ops.size:=by rw [←c.len];exact (List.getElem?_eq_some_iff.1 hy).1
 exact ⟨_,Array.getElem?_eq_getElem hlt⟩
theorem kr.at_ (c:kr P G T nt C ops as sts zf) {i:Nat} (h:i<as.length):∃ y,as[i]?=some y:=⟨_,List.getElem?_eq_getElem h⟩
theorem kr.slot1 (c:kr P G T nt C ops as sts zf) {i:Nat} {y:zC} (hy:as[i]?=some y) (hk:KOk T (sts i)):(∀ d,vl T (sts (i+1)) d=if y.writes=some d then zf i else vl T (sts i) d)∧KOk T (sts (i+1)):=by
 have key:∀ (s:St) (v:PV),(∀ d,vl T s d=vl T (sts i) d)→KOk T s→sts (i+1)=s.put y.dst v→v=zf i→(∀ d,vl T (sts (i+1)) d=if y.writes=some d then zf i else vl T (sts i) d)∧KOk T (sts (i+1)):=by
  intro s v h1 h2 h3 h4
  subst h4
  rw [h3]
  rcases c.dst hy with ⟨e1,e2⟩|⟨d,_,e1,e2⟩
  ·rw [e1,e2];exact ⟨fun d=>h1 d,h2⟩
  ·rw [e1,e2]
   refine ⟨fun n=>?_,h2.put d _⟩
   rw [zu0,h1]
   by_cases e:n=d
   ·simp [e]
   ·simp [e,Ne.symm e]
 rcases c.step i y hy with ⟨_,H,ed,_,h⟩|⟨_,h1,h⟩
 ·exact key { (sts i) with H:=H,ed:=ed++(sts i).ed } _ (fun d=>rfl) hk h rfl
 ·exact key (sts i) .und (fun _=>rfl) hk h h1.symm
theorem kr.kokAt (c:kr P G T nt C ops as sts zf):∀ i,i≤as.length→KOk T (sts i)
 |0,_=>c.kok
 |i+1,h=>by
  obtain ⟨y,hy⟩:=c.at_ (i:=i) (by omega)
  exact (c.slot1 hy (c.kokAt i (by omega))).2
theorem kr.slot_same (c:kr P G T nt C ops as sts zf) {d i:Nat}:∀ k,i≤k→k≤as.length→(∀ j y,i≤j→j<k→as[j]?=some y→y.writes≠some d)→vl T (sts k) d=vl T (sts i) d:=by
 intro k hk
 induction hk with
 |refl=>intro _ _;rfl
 |step hk ih=>
  rename_i k
  intro hl hn
  have hik:i≤k:=hk
  obtain ⟨y,hy⟩:=c.at_ (i:=k) (by omega)
  rw [(c.slot1 hy (c.kokAt k (by omega))).1,if_neg (hn k y hik (by omega) hy)]
  exact ih (by omega) fun j y h1 h2=>hn j y h1 (by omega)
theorem kr.writes_ne (c:kr P G T nt C ops as sts zf) {i j:Nat} {x y:zC} (hne:i≠j) (hi:as[i]?=some x) (hj:as[j]?=some y) {d:Nat} (hx:x.writes=some d):y.writes≠some d:=by
 intro hy
 have key:∀ (i j:Nat) (x y:zC),i<j→as[i]?=some x→as[j]?=some y→x.writes=some d→y.writes=some d→False:=by
  intro i j x y h hi hj hx hy
  have:=c.pair i j x y h hi hj
  simp [U5,ze4,hx,hy] at this
 rcases Nat.lt_or_ge i j with h|h
 ·exact key i j x y h hi hj hx hy
 ·exact key j i y x (by omega) hj hi hy hx
theorem kr.slot_written (c:kr P G T nt C ops as sts zf) {j i d:Nat} {y:zC} (hy:as[j]?=some y) (hd:y.writes=some d) (h:j<i) (hi:i≤as.length):vl T (sts i) d=zf j:=by
 rw [c.slot_same (i:=j+1) i (by omega) hi fun k x h1 h2 hx=>c.writes_ne (by omega) hy hx hd]
 rw [(c.slot1 hy (c.kokAt j (by omega))).1,if_pos hd]
theorem kr.heap1 (c:kr P G T nt C ops as sts zf) {i:Nat} {y:zC} (hy:as[i]?=some y) (hq:wy y.op=true):(∃ X,(sts (i+1)).H=(sts i).H++X)∧(sts (i+1)).ed=(sts i).ed:=by
 rcases c.step i y hy with ⟨_,H,ed,ho,h⟩|⟨_,_,h⟩
 ·obtain ⟨⟨X,h1⟩,h2⟩:=zkx hq (ZE.1 ho).1
  rw [h,St.put_H,St.put_ed]
  simp only
  exact ⟨⟨X,h1⟩,by rw [h2];rfl⟩
 ·rw [h,St.put_H,St.put_ed]
  exact ⟨⟨[],by simp⟩,rfl⟩
theorem kr.heaps (c:kr P G T nt C ops as sts zf) {i:Nat}:∀ k,i≤k→k≤as.length→(∀ j y,i≤j→j<k→as[j]?=some y→wy y.op=true)→(∃ X,(sts k).H=(sts i).H++X)∧(sts k).ed=(sts i).ed:=by
 intro k hk
 induction hk with
 |refl=>intro _ _;exact ⟨⟨[],by simp⟩,rfl⟩
 |step hk ih=>
  rename_i k
  have hik:i≤k:=hk
  intro hl hq
  obtain ⟨y,hy⟩:=c.at_ (i:=k) (by omega)
  obtain ⟨⟨X,h1⟩,h2⟩:=ih (by omega) fun j y h1 h2=>hq j y h1 (by omega)
  obtain ⟨⟨Y,h3⟩,h4⟩:=c.heap1 hy (hq k y hik (by omega) hy)
  exact ⟨⟨X++Y,by rw [h3,h1,List.append_assoc]⟩,h4.trans h2⟩
structure uP (P:Program) (G:Nat→Option (List PV)) (T:ye) (nt:Nat) (as:List zC) (sts:Nat→St) (zf:Nat→PV) (w0:World) (F0:Nat→Prop) (m0:zR) (H0:zd) (d0:jV) (S:Nat→Prop) (a:Act) (w:World) (B:Nat) (F:Nat→Prop) (m:zR):Prop where
 leB:B≤as.length
 mutd:∀ k y,k<B→as[k]?=some y→wy y.op=false→S k
 out:∀ k y,B≤k→as[k]?=some y→S k→U1 y=true
 rel:yl G w F m (sts B).H
 grow:wo w0 F0 m0 H0 w F m (sts B).H
 fwd:ZT m H0 (sts B).H (sts B).ed
 defers:UW T d0 a
 size:a.tmps.size=nt
 mono:∀ i,i<B→(sts i).H.length≤(sts (i+1)).H.length
 unex:∀ j,j<B→¬ S j→∀ id,(sts j).H.length≤id→id<(sts (j+1)).H.length→m id=.unk
 bnd:∀ i,i≤B→∀ id b r,id<(sts i).H.length→m id≠.unk→(sts i).H[id]?=some b→r∈kM b→r<(sts i).H.length
 wr:∀ j y d,S j→as[j]?=some y→y.writes=some d→zn w F m (zr (sts B).H) (zf j) (a.tmps.getD d undef)∧∀ r∈refs (zf j),r<(sts (min (j+1) B)).H.length
 nw:∀ d,(∀ j y,S j→as[j]?=some y→y.writes≠some d)→zn w F m (zr (sts B).H) (vl T (sts 0) d) (a.tmps.getD d undef)
 base:∀ d,∀ r∈refs (vl T (sts 0) d),r<(sts 0).H.length
end
end
section
theorem zk.get_filter (e:zk) (f:Nat→Bool) (d:Nat):zk.get (e.filter fun q=>f q.1) d=if f d then e.get d else .unk:=by
 induction e with
 |nil=>simp [zk.get]
 |cons q e ih=>
  obtain ⟨k,x⟩:=q
  rw [List.filter_cons]
  by_cases hk:k=d
  ·subst hk
   cases hf:f k
   ·rw [hf] at ih;simpa [hf] using ih
   ·simp [zk.get]
  ·cases hf:f k
   ·simpa [hf,zk.get,zfx hk] using ih
   ·simpa [hf,zk.get,zfx hk] using ih
theorem Wi (e:zk) (l:List Nat) (n:Nat):zk.get (e.filter fun q=>w7 q.1 l) n=if w7 n l then e.get n else .unk:=zk.get_filter e (fun k=>w7 k l) n
theorem ut {n:Nat} {l:List Nat}:w7 n l=true↔n∈l:=by
 unfold w7
 rw [List.any_eq_true]
 exact ⟨fun ⟨x,h1,h2⟩=>by rw [Nat.eq_of_beq_eq_true h2];exact h1,fun h=>⟨n,h,by simp⟩⟩
def St.only (s:St) (l:List Nat) (H:zd):St:={ per:=s.per.filter fun q=>w7 q.1 l,reg:=s.reg.filter fun q=>w7 q.1 l,H:=H,ed:=[] }
theorem zmw {G:Nat→Option (List PV)} {s:St} {l:List Nat} {H:zd} {x:zx} (h:∀ d,XW x=some d→d∈l):x.get G (s.only l H)=x.get G s:=by
 cases x with
 |per n=>show zk.get (s.per.filter fun q=>w7 q.1 l) n=_;rw [Wi,if_pos (ut.2 (h n rfl))];rfl
 |reg n=>show zk.get (s.reg.filter fun q=>w7 q.1 l) n=_;rw [Wi,if_pos (ut.2 (h n rfl))];rfl
 |const v=>rfl
 |glob g=>rfl
theorem zmx {T:ye} {nt:Nat} {R:PV→Value→Prop} {s:St} {l:List Nat} {H:zd} {a:Act} (hU:∀ x,R .unk x) (hsz:a.tmps.size=nt) (hk:KOk T s) (h:∀ d∈l,R (vl T s d) (a.tmps.getD d undef)):vP T nt R (s.only l H) a:=by
 refine ⟨hsz,fun n=>?_,fun n=>?_,fun n hn=>?_,fun n hn=>?_⟩
 ·show R (zk.get (s.per.filter fun q=>w7 q.1 l) n) _
  rw [Wi]
  split
  ·rename_i hl
   cases hn:T.K n with
   |true=>have:=h n (ut.1 hl);unfold vl at this;rw [hn] at this;exact this
   |false=>rw [hk.1 n hn];exact hU _
  ·exact hU _
 ·show R (zk.get (s.reg.filter fun q=>w7 q.1 l) n) _
  rw [Wi]
  split
  ·rename_i hl
   cases hn:T.K n with
   |false=>have:=h n (ut.1 hl);unfold vl at this;rw [hn] at this;exact this
   |true=>rw [hk.2 n hn];exact hU _
  ·exact hU _
 ·show zk.get (s.per.filter fun q=>w7 q.1 l) n=_
  rw [Wi];split
  ·exact hk.1 n hn
  ·rfl
 ·show zk.get (s.reg.filter fun q=>w7 q.1 l) n=_
  rw [Wi];split
  ·exact hk.2 n hn
  ·rfl
theorem zbo {H X:zd} {id:Nat} (h:id<H.length):zr (H++X) id=zr H id:=by simp [zr,List.getElem?_append_left h]
section
variable {G:Nat→Option (List PV)} {w:World} {F:Nat→Prop} {m:zR} {H:zd}
theorem zn.ext (R:yl G w F m H) (X:zd) {p:PV} {v:Value} (h:zn w F m (zr H) p v):zn w F m (zr (H++X)) p v:=
 h.at_ fun r hr=>⟨rfl,zbo (R.bnd h r hr)⟩
theorem yl.ext (R:yl G w F m H) (X:zd):yl G w F m (H++X):=by
 refine ⟨fun id s rows h=>?_,fun id es h=>?_,fun id h=>R.fresh id (by simp at h;omega),R.inj,R.lt,R.ltF,R.apart,R.glob⟩
 ·by_cases hm:m id=.unk
  ·exact .inl hm
  ·rw [List.getElem?_append_left (R.lt_of_ne hm)] at h
   rcases R.cells id s rows h with k|k|⟨blk,o,cap,k1,k2⟩
   ·exact .inl k
   ·exact .inr (.inl k)
   ·exact .inr (.inr ⟨blk,o,cap,k1,k2.mono rfl fun p v hv=>hv.ext R X⟩)
 ·by_cases hm:m id=.unk
  ·exact .inl hm
  ·rw [List.getElem?_append_left (R.lt_of_ne hm)] at h
   rcases R.maps id es h with k|⟨blk,k1,k2⟩
   ·exact .inl k
   ·exact .inr ⟨blk,k1,k2.mono rfl fun p v hv=>hv.ext R X⟩
theorem wo.ext {w0:World} {F0:Nat→Prop} {m0:zR} {H0:zd} (R:yl G w F m H) (g:wo w0 F0 m0 H0 w F m H) (X:zd):wo w0 F0 m0 H0 w F m (H++X):=by
 refine ⟨g.heap,g.sub,g.new,g.old,fun id hid=>?_,g.img,g.os,g.tape,g.output,g.froz,by have:=g.len;simp;omega,g.fresh⟩
 obtain ⟨k1,k2,k3⟩:=g.locs id hid
 rw [zbo (R.lt_of_ne k1)]
 exact ⟨k1,k2,k3⟩
theorem ZT.ext {H0:zd} {ed:zV} (R:yl G w F m H) (f:ZT m H0 H ed) (X:zd):ZT m H0 (H++X) ed:=by
 intro id b r hm hb
 rw [List.getElem?_append_left (R.lt_of_ne hm)] at hb
 exact f id b r hm hb
end
section
variable {P:Program} {G:Nat→Option (List PV)} {T:ye} {nt:Nat} {C:Cl} {ops:Array Oper} {as:List zC} {sts:Nat→St} {zf:Nat→PV} {w0:World} {F0:Nat→Prop} {m0:zR} {H0:zd} {d0:jV} {S:Nat→Prop} {a:Act} {w:World} {B:Nat} {F:Nat→Prop} {m:zR}
theorem uP.le (D:uP P G T nt as sts zf w0 F0 m0 H0 d0 S a w B F m) {i k:Nat} (h:i≤k):k≤B→(sts i).H.length≤(sts k).H.length:=by
 induction h with
 |refl=>intro _;exact Nat.le_refl _
 |step h ih=>intro hk;exact Nat.le_trans (ih (by omega)) (D.mono _ (by omega))
theorem uP.next (c:kr P G T nt C ops as sts zf) (D:uP P G T nt as sts zf w0 F0 m0 H0 d0 S a w B F m) {y:zC} (hy:as[B]?=some y) (hq:wy y.op=true):uP P G T nt as sts zf w0 F0 m0 H0 d0 S a w (B+1) F m:=by
 obtain ⟨⟨X,hX⟩,hed⟩:=c.heap1 hy hq
 have hlen:(sts B).H.length≤(sts (B+1)).H.length:=by rw [hX];simp
 have hext:∀ p v,zn w F m (zr (sts B).H) p v→zn w F m (zr (sts (B+1)).H) p v:=fun p v h=>by rw [hX];exact h.ext D.rel X
 refine ⟨(List.getElem?_eq_some_iff.1 hy).1,fun k z hk hz hm=>?_,fun k z hk hz hs=>D.out k z (by omega) hz hs,by rw [hX];exact D.rel.ext X,by rw [hX];exact D.grow.ext D.rel X,by rw [hX,hed];exact D.fwd.ext D.rel X,D.defers,D.size,fun i hi=>?_,fun j hj hs id h1 h2=>?_,fun i hi id b r h1 h2 h3 h4=>?_,fun j z d hs hz hd=>?_,fun d hd=>hext _ _ (D.nw d hd),D.base⟩
 ·rcases Nat.lt_or_ge k B with h|h
  ·exact D.mutd k z h hz hm
  ·have:k=B:=by omega
   subst this;rw [hy] at hz;injection hz with hz;subst hz;rw [hq] at hm;cases hm
 ·rcases Nat.lt_or_ge i B with h|h
  ·exact D.mono i h
  ·have:i=B:=by omega
   subst this;exact hlen
 ·rcases Nat.lt_or_ge j B with h|h
  ·exact D.unex j h hs id h1 h2
  ·have:j=B:=by omega
   subst this;exact D.rel.fresh id h1
 ·rcases Nat.lt_or_ge i (B+1) with h|h
  ·exact D.bnd i (by omega) id b r h1 h2 h3 h4
  ·have:i=B+1:=by omega
   subst this
   have hlt:=D.rel.lt_of_ne h2
   rw [hX,List.getElem?_append_left hlt] at h3
   have:=D.rel.block_lt h3 h2 r h4
   omega
 ·obtain ⟨k1,k2⟩:=D.wr j z d hs hz hd
  refine ⟨hext _ _ k1,fun r hr=>?_⟩
  have:=k2 r hr
  rcases Nat.lt_or_ge j B with h|h
  ·rw [Nat.min_eq_left (by omega)] at this ⊢;exact this
  ·rw [Nat.min_eq_right (by omega)] at this
   rw [Nat.min_eq_right (by omega)]
   omega
theorem uP.advance (c:kr P G T nt C ops as sts zf):∀ (n:Nat) {B:Nat},as.length≤B+n→uP P G T nt as sts zf w0 F0 m0 H0 d0 S a w B F m→∃ B',uP P G T nt as sts zf w0 F0 m0 H0 d0 S a w B' F m∧∀ y,as[B']?=some y→wy y.op=false
 |0,B,hn,D=>⟨B,D,fun y hy=>by have:=(List.getElem?_eq_some_iff.1 hy).1;omega⟩
 |n+1,B,hn,D=>by
  cases hy:as[B]? with
  |none=>exact ⟨B,D,fun y h=>by rw [hy] at h;cases h⟩
  |some y=>
   cases hq:wy y.op with
   |false=>exact ⟨B,D,fun z h=>by rw [hy] at h;injection h with h;subst h;exact hq⟩
   |true=>exact uP.advance c n (by omega) (D.next c hy hq)
theorem uP.done (c:kr P G T nt C ops as sts zf) (D:uP P G T nt as sts zf w0 F0 m0 H0 d0 S a w B F m) {i:Nat} {o:Oper} {y:zC} (ho:ops[i]?=some o) (hy:as[i]?=some y) (hni:¬ S i) {E:Nat} (hE:E=B∧i≠B∨i=B∧E=B+1)
  {w':World} {F':Nat→Prop} {m':zR} {cv:Value} (R':yl G w' F' m' (sts E).H) (g:wo w0 F0 m0 H0 w' F' m' (sts E).H) (hmono:∀ p v,zn w F m (zr (sts B).H) p v→zn w' F' m' (zr (sts E).H) p v) (hBE:(sts B).H.length≤(sts E).H.length) (hf:ZT m' H0 (sts E).H (sts E).ed) (hv:zn w' F' m' (zr (sts E).H) (zf i) cv)
  (hvb:∀ r∈refs (zf i),r<(sts (min (i+1) E)).H.length) (hout:B<i→U1 y=true)
  (hun:∀ id,m id=.unk→m' id≠.unk→i<E∧(sts i).H.length≤id∧id<(sts (i+1)).H.length)
  (hnew:∀ id,m id=.unk→m' id≠.unk→∀ k,k≤B→id<(sts k).H.length→∀ b r,(sts k).H[id]?=some b→r∈kM b→r<(sts k).H.length):
  uP P G T nt as sts zf w0 F0 m0 H0 d0 (fun k=>S k∨k=i) (a.put o.dst cv) w' E F' m':=by
 have hEle:B≤E:=by omega
 have hmn:∀ i,i<E→(sts i).H.length≤(sts (i+1)).H.length:=fun k hk=>by
  rcases Nat.lt_or_ge k B with h|h
  ·exact D.mono k h
  ·have h1:k=B:=by omega
   have h2:E=B+1:=by omega
   subst h1;rw [←h2];exact hBE
 have hle:∀ {i k:Nat},i≤k→k≤E→(sts i).H.length≤(sts k).H.length:=by
  intro i k h
  induction h with
  |refl=>intro _;exact Nat.le_refl _
  |step h ih=>intro hk;exact Nat.le_trans (ih (by omega)) (hmn _ (by omega))
 have hlen:i<as.length:=(List.getElem?_eq_some_iff.1 hy).1
 have hput:∀ d,(a.put o.dst cv).tmps.getD d undef=if y.writes=some d then cv else a.tmps.getD d undef:=by
  intro d
  rcases (c.tr i o y ho hy).dst with ⟨h1,h2⟩|⟨d',h1,h2,h3⟩
  ·rw [h1];simp [zC.writes,h2,Act.put]
  ·rw [h1,show y.writes=some d' by simp [zC.writes,h3]]
   have hlt:d'<a.tmps.size:=by rw [D.size];exact h2
   rw [show (a.put (some d') cv).tmps=a.tmps.setIfInBounds d' cv from rfl,zhd _ _ _ _ hlt]
   by_cases e:d=d'
   ·simp [e]
   ·simp [e,Ne.symm e]
 have hwb:∀ {j r:Nat},r<(sts (min (j+1) B)).H.length→r<(sts (min (j+1) E)).H.length:=fun {j r} h=>Nat.lt_of_lt_of_le h (hle (by omega) (by omega))
 refine ⟨by rcases hE with ⟨h,_⟩|⟨h1,h2⟩<;>have:=D.leB<;>omega,fun k z hk hz hm=>?_,fun k z hk hz hs=>?_,R',g,hf,D.defers.put (fun n e=>(c.tr i o y ho hy).fix n e) cv,by cases o.dst<;>simp [Act.put,D.size],hmn,fun j hj hs id h1 h2=>?_,fun k hk id b r h1 h2 h3 h4=>?_,fun j z d hs hz hd=>?_,fun d hd=>?_,D.base⟩
 ·rcases Nat.lt_or_ge k B with h|h
  ·exact .inl (D.mutd k z h hz hm)
  ·right;omega
 ·rcases hs with hs|rfl
  ·exact D.out k z (by omega) hz hs
  ·rw [hy] at hz;injection hz with hz;subst hz
   exact hout (by omega)
 ·have hji:j≠i:=fun e=>hs (.inr e)
  have hjB:j<B:=by omega
  have hmu:=D.unex j hjB (fun h=>hs (.inl h)) id h1 h2
  by_cases hm':m' id=.unk
  ·exact hm'
  ·obtain ⟨k1,k2,k3⟩:=hun id hmu hm'
   rcases Nat.lt_or_ge j i with h|h
   ·have:=hle (i:=j+1) (k:=i) (by omega) (by omega);omega
   ·have:=hle (i:=i+1) (k:=j) (by omega) (by omega);omega
 ·rcases Nat.lt_or_ge B k with h|h
  ·have:k=E:=by omega
   subst this
   exact R'.block_lt h3 h2 r h4
  ·by_cases hmu:m id=.unk
   ·exact hnew id hmu h2 k h h1 b r h3 h4
   ·exact D.bnd k h id b r h1 hmu h3 h4
 ·rw [hput]
  rcases hs with hs|rfl
  ·obtain ⟨k1,k2⟩:=D.wr j z d hs hz hd
   have hne:y.writes≠some d:=c.writes_ne (fun e=>by subst e;exact hni hs) hz hy hd
   rw [if_neg hne]
   exact ⟨hmono _ _ k1,fun r hr=>hwb (k2 r hr)⟩
  ·rw [hy] at hz;injection hz with hz;subst hz
   rw [if_pos hd]
   exact ⟨hv,hvb⟩
 ·rw [hput,if_neg (hd i y (.inr rfl) hy)]
  exact hmono _ _ (D.nw d fun j z hs hz=>hd j z (.inl hs) hz)
end
end
theorem yl.glue {G:Nat→Option (List PV)} {w w':World} {F F':Nat→Prop} {m m1:zR} {K Hn H1:zd} {n:Nat} {w0:World} {F0:Nat→Prop} {m0:zR} {H0:zd} (gs:wo w0 F0 m0 H0 w F m K) (hH0:H0.length≤n) (R:yl G w F m K) (hn:Hn.length=n) (h0:∃ X,K=Hn++X) (h1:∃ X,K=H1++X) (h2:∃ X,H1=Hn++X)
  (hu:∀ id,n≤id→id<H1.length→m id=.unk) (R1:yl G w' F' m1 H1) (g:wo w F (m.restr n) Hn w' F' m1 H1) (q:UK w (m.restr n) Hn w' m1 H1):
  ∃ m2,yl G w' F' m2 K∧wo w0 F0 m0 H0 w' F' m2 K∧(∀ p v,zn w' F' m1 (zr H1) p v→zn w' F' m2 (zr K) p v)∧(∀ p v,zn w F m (zr K) p v→zn w' F' m2 (zr K) p v)∧(∀ id,id<H1.length→m2 id=m1 id)∧(∀ id,m id=.unk→m2 id≠.unk→n≤id∧id<H1.length∧m1 id≠.unk):=by
 obtain ⟨X0,hX0⟩:=h0
 obtain ⟨X1,hX1⟩:=h1
 obtain ⟨X2,hX2⟩:=h2
 have hn1:n≤H1.length:=by rw [hX2];simp;omega
 have hlK:H1.length≤K.length:=by rw [hX1];simp
 let m2:zR:=fun id=>if id<n∨H1.length≤id then m id else m1 id
 have e1:∀ id,id<n∨H1.length≤id→m2 id=m id:=fun id h=>if_pos h
 have e2:∀ id,n≤id→id<H1.length→m2 id=m1 id:=fun id h h'=>if_neg (by omega)
 have e3:∀ id,id<H1.length→m2 id=m1 id:=fun id h=>by
  by_cases hid:id<n
  ·rw [e1 id (.inl hid)]
   have:=q.map id (by omega)
   rw [zR.restr_lt m hid] at this
   exact this.symm
  ·exact e2 id (by omega) h
 have hb:∀ b,b<w.heap.size→w'.heap[b]?=w.heap[b]?:=q.heap
 have hnew:∀ id blk o c s,n≤id→m1 id=.at_ blk o c s→w.heap.size≤blk:=by
  intro id blk o c s hid h
  rcases g.img blk ⟨id,o,c,s,h⟩ with ⟨id',o',c',s',h'⟩|h'
  ·obtain ⟨k1,_,k3⟩:=zR.restr_ne (m:=m) (n:=n) (id:=id') (by rw [h'];simp)
   have hq:=q.map id' (by omega)
   rw [h'] at hq
   have:=R1.inj _ _ _ _ _ _ _ _ _ h hq
   omega
  ·exact h'
 have key:∀ id,m2 id≠.unk→m2 id=m id∨(n≤id∧id<H1.length∧m2 id=m1 id):=by
  intro id h
  by_cases hid:id<n∨H1.length≤id
  ·exact .inl (e1 id hid)
  ·exact .inr ⟨by omega,by omega,e2 id (by omega) (by omega)⟩
 have hmono1:∀ p v,zn w' F' m1 (zr H1) p v→zn w' F' m2 (zr K) p v:=fun p v h=>h.at_ fun r hr=>by
  have:=R1.bnd h r hr
  exact ⟨e3 r this,by rw [hX1];exact zbo this⟩
 have hm2u:∀ id,m id≠.unk→m2 id=m id:=fun id h=>by
  by_cases hid:id<n∨H1.length≤id
  ·exact e1 id hid
  ·exact absurd (hu id (by omega) (by omega)) h
 have hmono:∀ p v,zn w F m (zr K) p v→zn w' F' m2 (zr K) p v:=fun p v h=>
  h.mono (fun b hF=>hb b (R.ltF b hF)) g.sub fun id hid=>⟨by rw [hm2u id hid];exact hid,Nat.le_refl _,fun _=>hm2u id hid⟩
 refine ⟨m2,⟨fun id s rows h=>?_,fun id es h=>?_,fun id h=>?_,fun id id' b o c s o' c' s' h1 h2=>?_,fun b ⟨id,o,c,s,h⟩=>?_,R1.ltF,fun b ⟨id,o,c,s,h⟩ hF=>?_,R1.glob⟩,
  ⟨Nat.le_trans gs.heap g.heap,fun b h=>g.sub b (gs.sub b h),fun b h=>?_,fun b h h2=>(hb b (Nat.lt_of_lt_of_le h gs.heap)).trans (gs.old b h h2),fun id hid=>?_,fun b ⟨id,o,c,s,h⟩=>?_,g.os.trans gs.os,g.tape.trans gs.tape,g.output.trans gs.output,fun x=>(g.froz x).trans (gs.froz x),gs.len,fun id h1 h2=>?_⟩,hmono1,hmono,e3,fun id h1 h2=>?_⟩
 ·by_cases hid:id<n∨H1.length≤id
  ·rw [e1 id hid]
   rcases R.cells id s rows h with k|k|⟨blk,o,cap,k1,k2⟩
   ·exact .inl k
   ·exact .inr (.inl k)
   ·exact .inr (.inr ⟨blk,o,cap,k1,k2.mono (hb blk (R.lt blk ⟨id,o,cap,s,k1⟩)) hmono⟩)
  ·rw [e2 id (by omega) (by omega)]
   rw [hX1,List.getElem?_append_left (by omega)] at h
   rcases R1.cells id s rows h with k|k|⟨blk,o,cap,k1,k2⟩
   ·exact .inl k
   ·exact .inr (.inl k)
   ·exact .inr (.inr ⟨blk,o,cap,k1,k2.mono rfl hmono1⟩)
 ·by_cases hid:id<n∨H1.length≤id
  ·rw [e1 id hid]
   rcases R.maps id es h with k|⟨blk,k1,k2⟩
   ·exact .inl k
   ·exact .inr ⟨blk,k1,k2.mono (hb blk (R.lt blk ⟨id,0,0,0,k1⟩)) hmono⟩
  ·rw [e2 id (by omega) (by omega)]
   rw [hX1,List.getElem?_append_left (by omega)] at h
   rcases R1.maps id es h with k|⟨blk,k1,k2⟩
   ·exact .inl k
   ·exact .inr ⟨blk,k1,k2.mono rfl hmono1⟩
 ·rw [e1 id (.inr (by omega))];exact R.fresh id h
 ·have k1:=key id (by rw [h1];simp)
  have k2:=key id' (by rw [h2];simp)
  rcases k1 with k1|⟨a1,a2,k1⟩<;>rcases k2 with k2|⟨b1,b2,k2⟩
  ·exact R.inj _ _ _ _ _ _ _ _ _ (k1▸h1) (k2▸h2)
  ·have:=hnew id' _ _ _ _ b1 (k2▸h2)
   have:=R.lt b ⟨id,o,c,s,k1▸h1⟩
   omega
  ·have:=hnew id _ _ _ _ a1 (k1▸h1)
   have:=R.lt b ⟨id',o',c',s',k2▸h2⟩
   omega
  ·exact R1.inj _ _ _ _ _ _ _ _ _ (k1▸h1) (k2▸h2)
 ·rcases key id (by rw [h];simp) with k|⟨_,_,k⟩
  ·exact Nat.lt_of_lt_of_le (R.lt b ⟨id,o,c,s,k▸h⟩) g.heap
  ·exact R1.lt b ⟨id,o,c,s,k▸h⟩
 ·rcases key id (by rw [h];simp) with k|⟨_,_,k⟩
  ·have hlt:=R.lt b ⟨id,o,c,s,k▸h⟩
   rcases g.new b hF with hF|hF
   ·exact R.apart b ⟨id,o,c,s,k▸h⟩ hF
   ·omega
  ·exact R1.apart b ⟨id,o,c,s,k▸h⟩ hF
 ·rcases g.new b h with h|h
  ·exact gs.new b h
  ·exact .inr (Nat.le_trans gs.heap h)
 ·obtain ⟨k1,k2,k3⟩:=gs.locs id hid
  rw [hm2u id k1]
  exact ⟨k1,k2,k3⟩
 ·rcases key id (by rw [h];simp) with k|⟨k0,_,k⟩
  ·exact gs.img b ⟨id,o,c,s,k▸h⟩
  ·exact .inr (Nat.le_trans gs.heap (hnew id _ _ _ _ k0 (k▸h)))
 ·rcases key id h2 with k|⟨k1,_,k⟩
  ·rw [k] at h2;exact gs.fresh id h1 h2
  ·omega
 ·rcases key id h2 with k|⟨k1,k2,k⟩
  ·rw [k] at h2;exact absurd h1 h2
  ·exact ⟨k1,k2,k▸h2⟩
section
section
variable {P:Program} {G:Nat→Option (List PV)} {T:ye} {nt:Nat} {C:Cl} {ops:Array Oper} {as:List zC} {sts:Nat→St} {zf:Nat→PV} {w0:World} {F0:Nat→Prop} {m0:zR} {H0:zd} {d0:jV} {S:Nat→Prop} {a:Act} {w:World} {B:Nat} {F:Nat→Prop} {m:zR}
theorem zgJ (c:kr P G T nt C ops as sts zf) (hS:UI ops S) {i j:Nat} {o:Oper} (ho:ops[i]?=some o) (hr:∀ e∈o.after,Region.binds .any e=true→S e.on) (hw:VV ops i j=true):S j:=
 znc hS i i (Nat.le_refl _) ho (fun e h1 h2=>⟨c.back i o ho e h1 h2,hr e h1 h2⟩) c.back hw
theorem zbk {d:Nat} {o:Option Nat} {l:List Nat} (ho:o=some d) (hd:d∈l):zbj o l=false:=by
 subst ho
 simp [zbj,ut.2 hd]
theorem uP.slotAt (c:kr P G T nt C ops as sts zf) (D:uP P G T nt as sts zf w0 F0 m0 H0 d0 S a w B F m) (hS:UI ops S) {i:Nat} {o:Oper} {y:zC} (ho:ops[i]?=some o) (hy:as[i]?=some y) (hni:¬ S i)
  (hr:∀ e∈o.after,Region.binds .any e=true→S e.on) {d:Nat} (hd:d∈y.reads):zn w F m (zr (sts B).H) (vl T (sts i) d) (a.tmps.getD d undef)∧(i≤B→∀ r∈refs (vl T (sts i) d),r<(sts i).H.length):=by
 have hlen:i<as.length:=(List.getElem?_eq_some_iff.1 hy).1
 by_cases hex:∃ (j:Nat) (x:zC),as[j]?=some x∧x.writes=some d
 ·obtain ⟨j,x,hx,hw⟩:=hex
  rcases Nat.lt_trichotomy j i with h|h|h
  ·
   have hp:=c.pair j i x y h hx hy
   have hap:zeZ x y=false:=by simp [zeZ,zbk hw hd]
   have hwt:VV ops i j=true:=by
    simp only [U5,hap,Bool.false_and,Bool.or_false,Bool.and_eq_true] at hp
    exact hp.2
   have hSj:=zgJ c hS ho hr hwt
   obtain ⟨k1,k2⟩:=D.wr j x d hSj hx hw
   rw [c.slot_written hx hw h (by omega)]
   refine ⟨k1,fun hiB r hq=>?_⟩
   have:=k2 r hq
   rw [Nat.min_eq_left (by omega)] at this
   exact Nat.lt_of_lt_of_le this (D.le (by omega) hiB)
  ·subst h
   have hs:vl T (sts j) d=vl T (sts 0) d:=c.slot_same j (Nat.zero_le _) (by omega) fun k z _ h2 hz=>c.writes_ne (by omega) hx hz hw
   rw [hs]
   refine ⟨D.nw d fun k z hk hz=>?_,fun hiB r hq=>Nat.lt_of_lt_of_le (D.base d r hq) (D.le (Nat.zero_le _) hiB)⟩
   by_cases e:j=k
   ·subst e;exact absurd hk hni
   ·exact c.writes_ne e hx hz hw
  ·
   have hp:=c.pair i j y x h hy hx
   have hap:zeZ y x=false:=by simp [zeZ,zbk hw hd]
   have hwt:VV ops j i=true:=by
    simp only [U5,hap,Bool.false_and,Bool.or_false,Bool.and_eq_true] at hp
    exact hp.2
   have hSj:¬ S j:=fun hSj=>by
    obtain ⟨oj,hoj⟩:=c.oper hx
    exact hni (zaa hS c.back hoj hSj hwt)
   have hs:vl T (sts i) d=vl T (sts 0) d:=c.slot_same i (Nat.zero_le _) (by omega) fun k z _ h2 hz=>c.writes_ne (by omega) hx hz hw
   rw [hs]
   refine ⟨D.nw d fun k z hk hz=>?_,fun hiB r hq=>Nat.lt_of_lt_of_le (D.base d r hq) (D.le (Nat.zero_le _) hiB)⟩
   by_cases e:j=k
   ·subst e;exact absurd hk hSj
   ·exact c.writes_ne e hx hz hw
 ·have hno:∀ (k:Nat) (z:zC),as[k]?=some z→z.writes≠some d:=fun k z hz hw=>hex ⟨k,z,hz,hw⟩
  have hs:vl T (sts i) d=vl T (sts 0) d:=c.slot_same i (Nat.zero_le _) (by omega) fun k z _ _ hz=>hno k z hz
  rw [hs]
  exact ⟨D.nw d fun k z _ hz=>hno k z hz,fun hiB r hq=>Nat.lt_of_lt_of_le (D.base d r hq) (D.le (Nat.zero_le _) hiB)⟩
theorem zhl {y:zC} {x:zx} (h:x∈xq y.op):x∈y.opds:=by
 unfold zC.opds
 split
 ·exact h
 ·exact List.mem_cons_of_mem _ h
theorem zax {y:zC} {x:zx} {d:Nat} (h:x∈y.opds) (hd:XW x=some d):d∈y.reads:=List.mem_filterMap.2 ⟨x,h,hd⟩
theorem uP.opdRefs (c:kr P G T nt C ops as sts zf) (D:uP P G T nt as sts zf w0 F0 m0 H0 d0 S a w B F m) (hS:UI ops S) {i:Nat} {o:Oper} {y:zC} (ho:ops[i]?=some o) (hy:as[i]?=some y) (hni:¬ S i)
  (hr:∀ e∈o.after,Region.binds .any e=true→S e.on) (hiB:i≤B) {x:zx} (hx:x∈y.opds):∀ r∈refs (x.get G (sts i)),r<(sts i).H.length:=by
 have hlen:i<as.length:=(List.getElem?_eq_some_iff.1 hy).1
 intro r hq
 have hsl:∀ d,XW x=some d→r<(sts i).H.length:=fun d hd=>by
  rcases zx.get_slot (G:=G) (c.kokAt i (by omega)) hd with h|h
  ·rw [h] at hq
   exact (D.slotAt c hS ho hy hni hr (zax hx hd)).2 hiB r hq
  ·rw [h] at hq;simp [refs] at hq
 cases x with
 |per n=>exact hsl n rfl
 |reg n=>exact hsl n rfl
 |const v=>
  have:=(c.bare i y hy).1 _ hx
  simp only [ze1,List.isEmpty_iff] at this
  simp only [zx.get,this] at hq;cases hq
 |glob g=>
  simp only [zx.get] at hq
  split at hq
  ·simp [refs] at hq
  ·simp [refs] at hq
theorem uP.before (c:kr P G T nt C ops as sts zf) (D:uP P G T nt as sts zf w0 F0 m0 H0 d0 S a w B F m) (hB:∀ y,as[B]?=some y→wy y.op=false) (hS:UI ops S) {i:Nat} {o:Oper} {y:zC} (ho:ops[i]?=some o) (hy:as[i]?=some y)
  (hr:∀ e∈o.after,Region.binds .any e=true→S e.on) (hf:U1 y=false):i≤B:=by
 rcases Nat.lt_or_ge B i with h|h
 ·have hlen:i<as.length:=(List.getElem?_eq_some_iff.1 hy).1
  obtain ⟨z,hz⟩:=c.at_ (i:=B) (by omega)
  have hp:=c.pair B i z y h hz hy
  have hzq:=hB z hz
  simp only [U5,hzq,hf,Bool.or_false,Bool.and_false,Bool.false_and,Bool.and_eq_true,Bool.or_eq_true,Bool.false_eq_true,or_false] at hp
  have:=D.out B z (Nat.le_refl _) hz (zgJ c hS ho hr hp.2)
  rw [zdv this] at hzq;cases hzq
 ·exact h
theorem zqx {x y:zx} (h:zjX x y=true):x=y:=by
 cases x<;>cases y<;>simp only [zjX,Bool.false_eq_true] at h<;>rw [Nat.eq_of_beq_eq_true h]
theorem uP.loadSame (c:kr P G T nt C ops as sts zf) (D:uP P G T nt as sts zf w0 F0 m0 H0 d0 S a w B F m) (hS:UI ops S) {i:Nat} {y:zC} (hy:as[i]?=some y) (hni:¬ S i) (hf:U1 y=false) {x:zx} (hl:loadAt y.op=some x) {cs:List PV} (hc:cellsAt (sts i).H (x.get G (sts i))=some cs):
  ∀ k,i≤k→k≤B→cellsAt (sts k).H (x.get G (sts i))=some cs:=by
 intro k hk
 induction hk with
 |refl=>intro _;exact hc
 |step hk ih=>
  rename_i k
  have hik:i≤k:=hk
  intro hkB
  have ih:=ih (by omega)
  have hkl:k<as.length:=by have:=D.leB;omega
  obtain ⟨z,hz⟩:=c.at_ hkl
  cases hq:wy z.op with
  |true=>
   obtain ⟨⟨X,hX⟩,_⟩:=c.heap1 hz hq
   rw [hX];exact zbU ih
  |false=>
   have hSk:=D.mutd k z (by omega) hz hq
   have hne:i≠k:=fun e=>by subst e;exact hni hSk
   have hnw:VV ops k i=false:=by
    cases hw:VV ops k i with
    |false=>rfl
    |true=>
     obtain ⟨oz,hoz⟩:=c.oper hz
     exact absurd (zaa hS c.back hoz hSk hw) hni
   have hp:=c.pair i k y z (by omega) hy hz
   simp only [U5,hnw,hq,hf,hl,Bool.false_or,Bool.and_eq_true] at hp
   obtain ⟨_,_,hcl,hnwr⟩:=hp
   have hget:x.get G (sts k)=x.get G (sts i):=by
    have hmid:∀ (j:Nat) (u:zC),i≤j→j<k→as[j]?=some u→∀ d,XW x=some d→u.writes≠some d:=by
     intro j u h1 h2 hu d hd hw
     unfold zii at hnwr
     rw [hd] at hnwr
     simp only [List.all_cons,Bool.and_eq_true] at hnwr
     have hdf:ze4 u.writes (some d)=true:=by
      rcases Nat.lt_or_ge i j with h|h
      ·have hm:u∈(as.take k).drop (i+1):=by
        refine List.mem_of_getElem? (i:=j-(i+1)) ?_
        rw [List.getElem?_drop,show i+1+(j-(i+1))=j by omega,List.getElem?_take,if_pos h2]
        exact hu
       exact List.all_eq_true.1 hnwr.2 u hm
      ·have:i=j:=by omega
       subst this;rw [hy] at hu;injection hu with hu;subst hu;exact hnwr.1
     rw [hw] at hdf
     simp [ze4] at hdf
    cases hsl:XW x with
    |none=>cases x<;>simp only [XW] at hsl<;>first|rfl|cases hsl
    |some d=>
     have hss:=c.slot_same (d:=d) (i:=i) k hik (by omega) fun j u h1 h2 hu=>hmid j u h1 h2 hu d hsl
     have hk1:=c.kokAt k (by omega)
     have hk2:=c.kokAt i (by omega)
     have hper:T.K d=true→(sts k).per.get d=(sts i).per.get d:=fun hT=>by simpa [vl,hT] using hss
     have hreg:T.K d=false→(sts k).reg.get d=(sts i).reg.get d:=fun hT=>by simpa [vl,hT] using hss
     cases x<;>simp only [XW,Option.some.injEq] at hsl<;>try (cases hsl;done)
     ·subst hsl
      simp only [zx.get]
      cases hT:T.K _ with
      |true=>exact hper hT
      |false=>rw [hk1.1 _ hT,hk2.1 _ hT]
     ·subst hsl
      simp only [zx.get]
      cases hT:T.K _ with
      |false=>exact hreg hT
      |true=>rw [hk1.2 _ hT,hk2.2 _ hT]
   rcases c.step k z hz with ⟨_,H,ed,hop,h⟩|⟨_,_,h⟩
   ·obtain ⟨hev,hok,_⟩:=ZE.1 hop
    rw [h,St.put_H]
    simp only
    simp only [YB,Bool.and_eq_true] at hok
    obtain ⟨x',hx',hsame⟩:=List.any_eq_true.1 hcl
    have:=zqx hsame
    subst this
    have hc2:=List.all_eq_true.1 hok.2 _ hx'
    rw [hget] at hc2
    cases ht:Ym G (sts k) z.op with
    |none=>rw [ht] at hc2;simp [We] at hc2
    |some t=>
     rcases zol hev ht with ⟨rfl,X,hX⟩|⟨id,rfl,hid⟩
     ·rw [hX];exact zbU ih
     ·rw [←ih]
      refine zlI fun j hj=>hid j fun e=>?_
      subst e
      rw [ht] at hc2
      generalize x.get G (sts i)=u at *
      cases u<;>simp only [We,Bool.false_eq_true] at hc2<;>simp [refs] at hj
      subst hj
      simp at hc2
   ·rw [h,St.put_H];exact ih
end
end
section
theorem zsE {P:Program} {T:ye} {dst:Option Nat} {op:Op} {g:Bool} {sz:Nat} {x:zx} (h:W5 P T dst op=some (.load g sz x)):∃ x0,z9 T x0=some x:=by
 cases op
 case load t a=>
  simp only [W5] at h
  split at h
  ·rename_i g' sz' y h1 h2 h3
   injection h with h
   injection h with _ _ h
   subst h
   exact ⟨a,h3⟩
  ·cases h
 all_goals
  exfalso
  simp only [W5,kG] at h
  repeat' split at h
  all_goals first
   |(cases h;done)
   |(injection h with h;cases h;done)
   |(unfold zfo at h;split at h<;>first|(cases h;done)|(injection h with h;cases h;done))
   |(unfold zhG at h;split at h<;>first|(cases h;done)|(injection h with h;cases h;done))
section
variable {P:Program} {G:Nat→Option (List PV)} {T:ye} {nt:Nat} {C:Cl} {ops:Array Oper} {as:List zC} {sts:Nat→St} {zf:Nat→PV} {w0:World} {F0:Nat→Prop} {m0:zR} {H0:zd} {d0:jV} {S:Nat→Prop} {a:Act} {w:World} {B:Nat} {F:Nat→Prop} {m:zR}
theorem zu7 (hC:VW P G C) (c:kr P G T nt C ops as sts zf) (h00:H0.length≤(sts 0).H.length) (D:uP P G T nt as sts zf w0 F0 m0 H0 d0 S a w B F m) (hB:∀ y,as[B]?=some y→wy y.op=false) (hS:UI ops S) {i:Nat} {o:Oper} {y:zC}
  (ho:ops[i]?=some o) (hy:as[i]?=some y) (hni:¬ S i) (hr:∀ e∈o.after,Region.binds .any e=true→S e.on) {K:Act→World→Prop} {Q:Exit→Act→World→Prop}
  (hK:∀ a1 w1 B1 F1 m1,uP P G T nt as sts zf w0 F0 m0 H0 d0 (fun k=>S k∨k=i) a1 w1 B1 F1 m1→K a1 w1):wpOp P ops Q i K a w:=by
 have t:=c.tr i o y ho hy
 have hlen:i<as.length:=(List.getElem?_eq_some_iff.1 hy).1
 have hk:=c.kokAt i (by omega)
 have hsl:=fun d hd=>D.slotAt c hS ho hy hni hr (d:=d) hd
 have E:=zmx (H:=(sts B).H) zn.unk' D.size hk fun d hd=>(hsl d hd).1
 have hbef:U1 y=false→i≤B:=D.before c hB hS ho hy hr
 have hout:B<i→U1 y=true:=fun h=>by
  cases hf:U1 y with
  |true=>rfl
  |false=>have:=hbef hf;omega
 have hcong:∀ (H:zd) {r:PV×zd×zV},zq G C { sts i with H:=H } y.op=some r→zq G C ((sts i).only y.reads H) y.op=some r:=fun H r h=>by
  rw [←h]
  refine zh4 (fun x hx=>?_) rfl
  rw [ZF]
  exact zmw fun d hd=>zax (zhl hx) hd
 have hguard:∀ {b:Bool},wanted G (sts i) y=some b→Region.wanted o (yielded ops a.tmps)=b:=fun hb=>by
  refine zgx (R:=zn w F m (zr (sts B).H)) t D.size (fun _ _=>bool_inv) (fun _=>und_inv) (fun d=>?_) hb
  by_cases hd:d∈y.reads
  ·left
   have:=(hsl d hd).1
   unfold vl at this
   cases hT:T.K d<;>rw [hT] at this<;>exact this
  ·right
   intro g w' hg e
   apply hd
   refine zax (x:=g) (by unfold zC.opds;rw [hg];exact List.mem_cons_self) ?_
   rw [e]
   cases T.K d<;>rfl
 unfold wpOp
 simp only [ho]
 rcases c.step i y hy with ⟨hw,H',ed,hop,hst⟩|⟨hw,hv0,hst⟩
 ·rw [hguard hw]
  simp only [if_true]
  refine .inl ?_
  obtain ⟨hev,hok,hres⟩:=ZE.1 hop
  have hH1:(sts (i+1)).H=H':=by rw [hst,St.put_H]
  have hed1:(sts (i+1)).ed=ed++(sts i).ed:=by rw [hst,St.put_ed]
  have mequal:∀ {w':World} {F':Nat→Prop} {m':zR} {HB:zd},yl G w' F' m' HB→wo w F m HB w' F' m' HB→m'=m:=by
   intro w' F' m' HB R' g
   funext id
   by_cases h:m id=.unk
   ·by_cases h2:m' id=.unk
    ·rw [h,h2]
    ·exact absurd (R'.fresh id (g.fresh id h h2)) h2
   ·exact (g.locs id h).2.2 rfl
  have whole:i≠B→zq G C { sts i with H:=(sts B).H } y.op=some (zf i,(sts B).H,[])→(i<B→∀ r∈refs (zf i),r<(sts (i+1)).H.length)→o.wp P a w K Q:=by
   intro hiB he hrf
   refine zaJ (st:=(sts i).only y.reads (sts B).H) hC D.rel E t.op (hcong _ he) K Q fun cv w' F' m' R' g hv _ _=>?_
   have hm:=mequal R' g
   subst hm
   refine hK _ _ B F' m' (D.done c ho hy hni (.inl ⟨rfl,hiB⟩) R' (D.grow.trans g) (fun p v h=>h.grow D.rel g) (Nat.le_refl _) D.fwd hv (fun r hr=>?_) hout (fun id h1 h2=>absurd h1 h2) fun id h1 h2=>absurd h1 h2)
   rcases Nat.lt_or_ge i B with h|h
   ·rw [Nat.min_eq_left (by omega)];exact hrf h r hr
   ·rw [Nat.min_eq_right (by omega)];exact R'.bnd hv r hr
  cases hf:U1 y with
  |true=>
   have hq:=zdv hf
   have hiB:i≠B:=fun e=>by subst e;rw [hB y hy] at hq;cases hq
   have hle:i<B→(sts i).H.length≤(sts (i+1)).H.length:=D.mono i
   unfold U1 at hf
   cases hn:QR y.op with
   |true=>
    refine whole hiB (zp_ hn hev _).2.2 fun h r hr'=>?_
    obtain ⟨x,hx,hq⟩:=zn7 hn (c.bare i y hy).2 hev r hr'
    exact Nat.lt_of_lt_of_le (D.opdRefs c hS ho hy hni hr (by omega) (zhl hx) r hq) (hle h)
   |false=>
    rw [hn] at hf
    simp only [Bool.false_or,Bool.and_eq_true] at hf
    have hb:∀ x∈xq y.op,refs (x.get G (sts i))=[]:=by
     simp only [YB,hf.1,Bool.not_true,Bool.false_or,Bool.and_eq_true] at hok
     intro x hx
     simpa using List.all_eq_true.1 hok.1 x hx
    have hr0:=hres hf.1
    refine whole hiB (zsy hf.2 hb hev hr0 _).2.2 fun h r hr'=>?_
    rw [hr0] at hr';cases hr'
  |false=>
   have hiB:=hbef hf
   cases hq:wy y.op with
   |false=>
    have:i=B:=by
     rcases Nat.lt_or_ge i B with h|h
     ·exact absurd (D.mutd i y h hy hq) hni
     ·omega
    subst this
    refine zaJ (st:=(sts i).only y.reads (sts i).H) hC D.rel E t.op (hcong _ hev) K Q fun cv w' F' m' R' g hv _ hfw=>?_
    have hg0:wo w F m (sts i).H w' F' m' H':=g
    rw [←hH1] at R' hv hfw hg0
    refine hK _ _ (i+1) F' m' (D.done c ho hy hni (.inr ⟨rfl,rfl⟩) R' (D.grow.trans hg0) (fun p v h=>h.grow D.rel hg0) hg0.len (by rw [hed1];exact ZT.trans D.fwd hg0 hfw) hv (fun r hr=>?_) hout (fun id h1 h2=>⟨by omega,hg0.fresh id h1 h2,R'.lt_of_ne h2⟩) fun id h1 h2 k hk hid=>?_)
    ·rw [Nat.min_self];exact R'.bnd hv r hr
    ·have:=hg0.fresh id h1 h2
     have:=D.le (i:=k) (k:=i) hk (Nat.le_refl _)
     omega
   |true=>
    have hiB':i≠B:=fun e=>by subst e;rw [hB y hy] at hq;cases hq
    have hlt:i<B:=by omega
    cases hl:loadAt y.op with
    |some x=>
     have hop:∃ g sz,y.op=.load g sz x:=by
      cases hyo:y.op<;>rw [hyo] at hl<;>simp only [loadAt] at hl<;>try (cases hl;done)
      injection hl with hl
      subst hl
      exact ⟨_,_,rfl⟩
     obtain ⟨g,sz,hop⟩:=hop
     rw [hop] at hev
     simp only [zq] at hev
     split at hev
     ·rename_i cs hcs
      split at hev
      ·rename_i v hv
       simp only [Option.some.injEq,Prod.mk.injEq] at hev
       obtain ⟨hev1,_,_⟩:=hev
       have hsame:=D.loadSame c hS hy hni hf hl hcs B (by omega) (Nat.le_refl _)
       refine whole hiB' ?_ fun _ r hr'=>?_
       ·rw [hop]
        simp only [zq,ZF,hsame,hv,hev1]
       ·rw [←hev1] at hr'
        obtain ⟨p,hp,hpr⟩:=zfK hv r hr'
        have htr:=t.op
        rw [hop] at htr
        obtain ⟨x0,hx0⟩:=zsE htr
        have hxv:=yd (st:=(sts i).only y.reads (sts B).H) D.rel E hx0
        have hxo:x∈y.opds:=zhl (by rw [hop];simp [xq])
        rw [zmw fun d hd=>zax hxo hd] at hxv
        have hrefs:=D.opdRefs c hS ho hy hni hr (by omega) hxo
        refine Nat.lt_of_lt_of_le ?_ (D.mono i hlt)
        generalize a.eval x0=cv0 at hxv
        generalize x.get G (sts i)=u at *
        cases u<;>simp only [cellsAt] at hcs<;>try (cases hcs;done)
        ·simp only [Option.some.injEq] at hcs
         subst hcs
         cases hxv with
         |froz _ _ hxv=>
          cases hxv with
          |fp _ blk o' off f _ _ _ hh=>
           obtain ⟨j,hj⟩:=List.getElem?_of_mem (List.mem_of_mem_drop hp)
           rw [(hh j p hj).refs] at hpr;cases hpr
        ·rename_i id row off tot
         split at hcs
         ·rename_i s rows hH
          split at hcs
          ·rename_i cs' _ hrow
           simp only [Option.some.injEq] at hcs
           subst hcs
           exact D.bnd i (by omega) id _ r (hrefs id (by simp [refs])) (hxv.refs_ne id (by simp [refs])) hH (Zt.2 ⟨cs',List.mem_of_getElem? hrow,p,List.mem_of_mem_drop hp,hpr⟩)
          ·cases hcs
         ·cases hcs
      ·cases hev
     ·cases hev
    |none=>
     have hquiet:∀ k z,i≤k→k<B→as[k]?=some z→wy z.op=true:=by
      intro k z h1 h2 hz
      cases hzq:wy z.op with
      |true=>rfl
      |false=>
       have hSk:=D.mutd k z h2 hz hzq
       have hne:i≠k:=fun e=>by subst e;exact hni hSk
       have hp:=c.pair i k y z (by omega) hy hz
       simp only [U5,hzq,hf,hl,Bool.or_false,Bool.and_false,Bool.false_or,Bool.and_eq_true] at hp
       obtain ⟨oz,hoz⟩:=c.oper hz
       exact absurd (zaa hS c.back hoz hSk hp.2) hni
     have hBl:=D.leB
     obtain ⟨X0,hX0⟩:=(c.heaps B (i:=i) (by omega) hBl hquiet).1
     obtain ⟨X1,hX1⟩:=(c.heaps B (i:=i+1) (by omega) hBl fun k z h1 h2 hz=>hquiet k z (by omega) h2 hz).1
     obtain ⟨⟨X2,hX2⟩,_⟩:=c.heap1 hy hq
     have htake:(sts B).H.take (sts i).H.length=(sts i).H:=by rw [hX0];simp
     have Rr:yl G w F (m.restr (sts i).H.length) (sts i).H:=by
      have:=D.rel.restr (sts i).H.length fun id b r h1 h2 h3 h4=>by
       rw [hX0,List.getElem?_append_left h1] at h3
       exact D.bnd i (by omega) id b r h1 h2 h3 h4
      rwa [htake] at this
     have Er:=zmx (T:=T) (nt:=nt) (R:=zn w F (m.restr (sts i).H.length) (zr (sts i).H)) (s:=sts i) (l:=y.reads) (H:=(sts i).H) (a:=a) zn.unk' D.size hk fun d hd=>by
      have:=(hsl d hd).1.restr (n:=(sts i).H.length) ((hsl d hd).2 (by omega))
      rwa [htake] at this
     refine zaJ (st:=(sts i).only y.reads (sts i).H) hC Rr Er t.op (hcong _ hev) K Q fun cv w' F' m1 R1 g1 hv hqq hfw=>?_
     have hg0:wo w F (m.restr (sts i).H.length) (sts i).H w' F' m1 H':=g1
     have hq0:UK w (m.restr (sts i).H.length) (sts i).H w' m1 H':=hqq hq
     have hed0:ed=[]:=(zkx hq hev).2
     have hfw0:ZT m1 (sts i).H H' ed:=hfw
     rw [←hH1] at R1 hv hg0 hq0 hfw0
     obtain ⟨m2,R2,g2,k1,k2,k3,k4⟩:=yl.glue (n:=(sts i).H.length) D.grow (Nat.le_trans h00 (D.le (Nat.zero_le _) (by omega))) D.rel rfl ⟨X0,hX0⟩ ⟨X1,hX1⟩ ⟨X2,hX2⟩ (D.unex i hlt hni) R1 hg0 hq0
     refine hK _ _ B F' m2 (D.done c ho hy hni (.inl ⟨rfl,hiB'⟩) R2 g2 k2 (Nat.le_refl _) (fun id b r hm hb hrr hlt'=>?_) (k1 _ _ hv) (fun r hr=>?_) hout (fun id h1 h2=>⟨hlt,(k4 id h1 h2).1,(k4 id h1 h2).2.1⟩) fun id h1 h2 k hkB hid b r hb hrr=>?_)
     ·by_cases hmu:m id=.unk
      ·obtain ⟨e1,e2,e3⟩:=k4 id hmu hm
       rw [hX1,List.getElem?_append_left e2] at hb
       rcases hfw0 id b r e3 hb hrr hlt' with ⟨b0,h1,_⟩|h
       ·rw [List.getElem?_eq_none e1] at h1;cases h1
       ·rw [hed0] at h;cases h
      ·exact D.fwd id b r hmu hb hrr hlt'
     ·rw [Nat.min_eq_left (by omega)];exact R1.bnd hv r hr
     ·obtain ⟨e1,e2,e3⟩:=k4 id h1 h2
      have hik:i+1≤k:=by
       rcases Nat.lt_or_ge i k with h|h
       ·exact h
       ·have:=D.le (i:=k) (k:=i) h (by omega);omega
      obtain ⟨Y,hY⟩:=(c.heaps k (i:=i+1) hik (by omega) fun j z q1 q2 hz=>hquiet j z (by omega) (by omega) hz).1
      rw [hY,List.getElem?_append_left e2] at hb
      have:=R1.block_lt hb e3 r hrr
      rw [hY];simp;omega
 ·rw [hguard hw]
  simp only [Bool.false_eq_true,if_false]
  have hH1:(sts (i+1)).H=(sts i).H:=by rw [hst,St.put_H]
  have hed1:(sts (i+1)).ed=(sts i).ed:=by rw [hst,St.put_ed]
  by_cases hiB:i=B
  ·subst hiB
   refine hK _ _ (i+1) F m (D.done c ho hy hni (.inr ⟨rfl,rfl⟩) (by rw [hH1];exact D.rel) (by rw [hH1];exact D.grow) (fun p v h=>by rw [hH1];exact h) (by rw [hH1];exact Nat.le_refl _) (by rw [hH1,hed1];exact D.fwd) (by rw [hv0];exact .froz _ _ .und) (fun r hr=>by rw [hv0] at hr;simp [refs] at hr) hout (fun id h1 h2=>absurd h1 h2) fun id h1 h2=>absurd h1 h2)
  ·refine hK _ _ B F m (D.done c ho hy hni (.inl ⟨rfl,hiB⟩) D.rel D.grow (fun p v h=>h) (Nat.le_refl _) D.fwd (by rw [hv0];exact .froz _ _ .und) (fun r hr=>by rw [hv0] at hr;simp [refs] at hr) hout (fun id h1 h2=>absurd h1 h2) fun id h1 h2=>absurd h1 h2)
end
end
section
def uj (listed:Array Bool) (i:Nat):Prop:=listed.getD i false=true
theorem zpZ {listed:Array Bool} {i:Nat} (hi:i<listed.size) (k:Nat):uj (listed.setIfInBounds i true) k↔uj listed k∨k=i:=by
 unfold uj
 by_cases h:k=i
 ·subst h;simp [hi]
 ·simp [Array.getElem?_setIfInBounds_ne (Ne.symm h),h]
theorem count_set {listed:Array Bool} {i:Nat} (hi:i<listed.size) (h:¬ uj listed i):(listed.setIfInBounds i true).toList.count false+1=listed.toList.count false:=by
 have hf:listed.toList[i]'(by simpa using hi)=false:=by
  unfold uj at h
  simpa [hi] using h
 rw [Array.toList_setIfInBounds,List.count_set (by simpa using hi)]
 have:0<listed.toList.count false:=List.count_pos_iff.2 (by rw [←hf];exact List.getElem_mem _)
 simp only [hf]
 simp
 have h3:0<Array.count false listed:=by simpa using this
 omega
section
variable {P:Program} {G:Nat→Option (List PV)} {T:ye} {nt:Nat} {C:Cl} {ops:Array Oper} {as:List zC} {sts:Nat→St} {zf:Nat→PV} {w0:World} {F0:Nat→Prop} {m0:zR} {H0:zd} {d0:jV}
theorem uP.congr {S S':Nat→Prop} {a:Act} {w:World} {B:Nat} {F:Nat→Prop} {m:zR} (D:uP P G T nt as sts zf w0 F0 m0 H0 d0 S a w B F m) (h:∀ k,S k↔S' k):uP P G T nt as sts zf w0 F0 m0 H0 d0 S' a w B F m:=by
 have:S=S':=funext fun k=>propext (h k)
 rw [←this];exact D
theorem zq1 (hC:VW P G C) (c:kr P G T nt C ops as sts zf) (h00:H0.length≤(sts 0).H.length) {Q:Exit→Act→World→Prop}
  (hQ:∀ a1 w1 F1 m1,vE G T nt w0 F0 m0 H0 d0 (sts as.length) a1 w1 F1 m1→Q .normal a1 w1):∀ (fuel:Nat) (listed:Array Bool) (a:Act) (w:World) (B:Nat) (F:Nat→Prop) (m:zR),listed.size=ops.size→listed.toList.count false=fuel→UI ops (uj listed)→
   uP P G T nt as sts zf w0 F0 m0 H0 d0 (uj listed) a w B F m→wpAny P .any ops Q fuel listed a w:=by
 intro fuel
 induction fuel with
 |zero=>
  intro listed a w B F m hsz hcnt hcl D
  have hall:∀ i,i<ops.size→uj listed i:=by
   intro i hi
   have:=List.count_eq_zero.1 hcnt
   have hm:listed[i]'(by omega)∈listed.toList:=by simp
   unfold uj
   simp only [Array.getD_eq_getD_getElem?,Array.getElem?_eq_getElem (show i<listed.size by omega),Option.getD_some]
   cases hx:listed[i]'(by omega) with
   |true=>rfl
   |false=>rw [hx] at hm;exact absurd hm this
  refine ⟨?_,?_⟩
  ·cases hr:Region.ready .any ops listed with
   |nil=>rfl
   |cons i rs=>
    have hi:i∈Region.ready .any ops listed:=by rw [hr];exact List.mem_cons_self
    obtain ⟨h1,o,ho,_⟩:=mem_ready.1 hi
    have hlt:i<ops.size:=(Array.getElem?_eq_some_iff.1 ho).1
    have:=hall i hlt
    unfold uj at this
    have hl:i<listed.size:=by omega
    simp only [Array.getD_eq_getD_getElem?,Array.getElem?_eq_getElem hl,Option.getD_some] at h1 this
    rw [h1] at this;cases this
  ·obtain ⟨B',D',hB'⟩:=D.advance c as.length (by omega)
   have hBn:B'=as.length:=by
    rcases Nat.lt_or_ge B' as.length with h|h
    ·obtain ⟨y,hy⟩:=c.at_ h
     have hf:=D'.out B' y (Nat.le_refl _) hy (hall B' (by rw [←c.len];exact h))
     have:=zdv hf
     rw [hB' y hy] at this;cases this
    ·have:=D'.leB;omega
   subst hBn
   refine hQ a w F m ⟨D'.rel,?_,D'.grow,D'.fwd,D'.defers⟩
   have hk:=c.kokAt as.length (Nat.le_refl _)
   have hs:∀ d,zn w F m (zr (sts as.length).H) (vl T (sts as.length) d) (a.tmps.getD d undef):=by
    intro d
    by_cases hex:∃ (j:Nat) (x:zC),as[j]?=some x∧x.writes=some d
    ·obtain ⟨j,x,hx,hw⟩:=hex
     have hj:j<as.length:=(List.getElem?_eq_some_iff.1 hx).1
     rw [c.slot_written hx hw hj (Nat.le_refl _)]
     exact (D'.wr j x d (hall j (by rw [←c.len];exact hj)) hx hw).1
    ·have hno:∀ (k:Nat) (z:zC),as[k]?=some z→z.writes≠some d:=fun k z hz hw=>hex ⟨k,z,hz,hw⟩
     rw [c.slot_same (i:=0) as.length (Nat.zero_le _) (Nat.le_refl _) fun k z _ _ hz=>hno k z hz]
     exact D'.nw d fun k z _ hz=>hno k z hz
   refine ⟨D'.size,fun n=>?_,fun n=>?_,hk.1,hk.2⟩
   ·cases hT:T.K n with
    |true=>have:=hs n;unfold vl at this;rw [hT] at this;exact this
    |false=>rw [hk.1 n hT];exact zn.unk' _
   ·cases hT:T.K n with
    |false=>have:=hs n;unfold vl at this;rw [hT] at this;exact this
    |true=>rw [hk.2 n hT];exact zn.unk' _
 |succ fuel ih=>
  intro listed a w B F m hsz hcnt hcl D
  refine ⟨fun hr=>?_,fun i hi=>?_⟩
  ·
   exfalso
   have hex:∃ i,i<ops.size∧¬ uj listed i:=by
    have:0<listed.toList.count false:=by omega
    have hm:=List.count_pos_iff.1 this
    obtain ⟨i,hi,he⟩:=List.getElem_of_mem hm
    have hi':i<listed.size:=by simpa using hi
    refine ⟨i,by omega,?_⟩
    unfold uj
    have he':listed[i]=false:=by simpa using he
    simp [Array.getD_eq_getD_getElem?,Array.getElem?_eq_getElem hi',he']
   have key:∀ n i,i<n→i<ops.size→¬ uj listed i→False:=by
    intro n
    induction n with
    |zero=>intro i h;omega
    |succ n ihn=>
     intro i hin hi hni
     have ho:ops[i]?=some ops[i]:=Array.getElem?_eq_getElem hi
     have:i∈Region.ready .any ops listed:=mem_ready.2 ⟨by
      have hl:i<listed.size:=by omega
      unfold uj at hni
      simpa [Array.getD_eq_getD_getElem?,Array.getElem?_eq_getElem hl] using hni,_,ho,fun e he hb=>by
       have hlt:=c.back i _ ho e he hb
       exact Classical.byContradiction fun hne=>ihn e.on (by omega) (by omega) hne⟩
     rw [hr] at this;cases this
   obtain ⟨i,h1,h2⟩:=hex
   exact key (i+1) i (by omega) h1 h2
  ·obtain ⟨h1,o,ho,h3⟩:=mem_ready.1 hi
   have hlt:i<ops.size:=(Array.getElem?_eq_some_iff.1 ho).1
   have hl:i<listed.size:=by omega
   have hni:¬ uj listed i:=by
    unfold uj
    simp only [Array.getD_eq_getD_getElem?,Array.getElem?_eq_getElem hl,Option.getD_some] at h1 ⊢
    rw [h1];simp
   obtain ⟨y,hy⟩:=c.at_ (i:=i) (by rw [c.len];exact hlt)
   obtain ⟨B',D',hB'⟩:=D.advance c as.length (by omega)
   refine zu7 hC c h00 D' hB' hcl ho hy hni h3 fun a1 w1 B1 F1 m1 D1=>?_
   have hset:=zpZ (listed:=listed) hl
   refine ih _ a1 w1 B1 F1 m1 (by simpa using hsz) (by have:=count_set hl hni;omega) (fun k ok hk hok e he hb=>?_) (D1.congr fun k=>(hset k).symm)
   rw [hset] at hk ⊢
   rcases hk with hk|rfl
   ·exact .inl (hcl k ok hk hok e he hb)
   ·rw [ho] at hok;injection hok with hok;subst hok
    exact .inl (h3 e he hb)
theorem zpr (hC:VW P G C) {Q:Exit→Act→World→Prop} {st st':St} {a:Act} {w:World} {F:Nat→Prop} {m:zR} (hlen:as.length=ops.size) (ht:∀ (i:Nat) (o:Oper) (ao:zC),ops[i]?=some o→as[i]?=some ao→Qs P T nt ops o ao) (hok:zdI ops as=true)
  (he:vH G C as st=some st') (I:vE G T nt w0 F0 m0 H0 d0 st a w F m) (hQ:∀ a1 w1 F1 m1,vE G T nt w0 F0 m0 H0 d0 st' a1 w1 F1 m1→Q .normal a1 w1):
  wpAny P .any ops Q ops.size (Array.replicate ops.size false) a w:=by
 obtain ⟨sts,zf,e1,e2,e3⟩:=zgu he
 simp only [zdI,Bool.and_eq_true] at hok
 obtain ⟨⟨h1,h2⟩,h3⟩:=hok
 have c:kr P G T nt C ops as sts zf:=⟨hlen,ht,e3,fun j i x y hji hx hy=>by
  have:=zcC (zgG h2 i y hy) j x hx (by omega)
  simpa [VV] using this,fun i o ho e he hb=>by
   have:=zb2 h1 i o (by simpa using ho) e he hb
   simpa using this,fun i y hy=>by
   have:=List.all_eq_true.1 h3 y (List.mem_of_getElem? hy)
   simp only [Bool.and_eq_true] at this
   exact ⟨fun x hx=>List.all_eq_true.1 this.1 x hx,this.2⟩,by rw [e1];exact ⟨I.env.perK,I.env.regK⟩⟩
 have hno:∀ k,¬ uj (Array.replicate ops.size false) k:=by
  intro k h
  unfold uj at h
  by_cases hk:k<ops.size<;>simp [hk] at h
 have hslot:∀ d,zn w F m (zr (sts 0).H) (vl T (sts 0) d) (a.tmps.getD d undef):=by
  intro d
  rw [e1]
  unfold vl
  cases T.K d
  ·exact I.env.reg d
  ·exact I.env.per d
 have hrel:yl G w F m (sts 0).H:=by rw [e1];exact I.rel
 have D0:uP P G T nt as sts zf w0 F0 m0 H0 d0 (uj (Array.replicate ops.size false)) a w 0 F m:=
  ⟨Nat.zero_le _,fun k y h=>by omega,fun k y _ _ h=>absurd h (hno k),hrel,by rw [e1];exact I.grow,by rw [e1];exact I.fwd,I.defers,I.env.size,fun i h=>by omega,fun j h=>by omega,
   fun i hi id b r h1 h2 h3 h4=>by
    have:i=0:=by omega
    subst this
    exact hrel.block_lt h3 h2 r h4,fun j y d h=>absurd h (hno j),fun d _=>hslot d,fun d r hr=>hrel.bnd (hslot d) r hr⟩
 refine zq1 hC c (by rw [e1];exact I.grow.len) (fun a1 w1 F1 m1 I1=>hQ a1 w1 F1 m1 (by rw [←e2];exact I1)) ops.size _ a w 0 F m (by simp) (by simp) (fun i o h=>absurd h (hno i)) D0
end
end
section
theorem XY (T:ye) (g:Nat→Bool) (x:Operand):z9 { T with fix:=g } x=z9 T x:=by cases x<;>rfl
theorem ziP (T:ye) (g:Nat→Bool) (xs:List Operand):uL { T with fix:=g } xs=uL T xs:=by
 induction xs with
 |nil=>rfl
 |cons x xs ih=>simp only [uL,XY,ih]
theorem zoo (T:ye) (g:Nat→Bool) (p:Nat→Option (Nat×Nat)) (xs:List (Nat×Operand)):Yo { T with fix:=g } p xs=Yo T p xs:=by
 induction xs with
 |nil=>rfl
 |cons x xs ih=>obtain ⟨i,x⟩:=x;simp only [Yo,XY,ih]
theorem zqJ (T:ye) (g:Nat→Bool) (xs:List (Nat×Operand)):Vl { T with fix:=g } xs=Vl T xs:=by
 induction xs with
 |nil=>rfl
 |cons x xs ih=>obtain ⟨i,x⟩:=x;simp only [Vl,XY,ih]
theorem zom (T:ye) (g:Nat→Bool) (x:Option Operand):km { T with fix:=g } x=km T x:=by
 cases x with
 |none=>rfl
 |some x=>simp only [km,XY]
theorem zya (T:ye) (g:Nat→Bool) (d:Option Nat):({ T with fix:=g }:ye).md d=T.md d:=rfl
theorem zqE (P:Program) (T:ye) (g:Nat→Bool) (d:Option Nat) (c:Call):kG P { T with fix:=g } d c=kG P T d c:=by
 unfold kG
 simp only [XY,ziP,zya]
theorem zvb (P:Program) (T:ye) (g:Nat→Bool) (d:Option Nat) (o:Op):W5 P { T with fix:=g } d o=W5 P T d o:=by
 cases o<;>simp only [W5,XY,ziP,zoo,zqJ,zom,zqE]
theorem zqI (P:Program) (T:ye) (g:Nat→Bool) (nt:Nat) (ops:Array Oper) (o:Oper) (h:∀ d,o.dst=some d→g d=T.fix d):Yn P { T with fix:=g } nt ops o=Yn P T nt ops o:=by
 unfold Yn
 simp only [zvb]
 cases hd:o.dst with
 |none=>rfl
 |some d=>
  have:=h d hd
  simp only [this]
  rfl
theorem zbq (P:Program) (T:ye) (g:Nat→Bool) (nt:Nat) (ops:Array Oper):∀ (os:List Oper),(∀ d∈os.filterMap (·.dst),g d=T.fix d)→wl P { T with fix:=g } nt ops os=wl P T nt ops os
 |[],_=>rfl
 |o::os,h=>by
  simp only [wl]
  rw [zqI P T g nt ops o fun d hd=>h d (List.mem_filterMap.2 ⟨o,List.mem_cons_self,hd⟩),zbq P T g nt ops os fun d hd=>h d (by
   obtain ⟨o',ho,e⟩:=List.mem_filterMap.1 hd
   exact List.mem_filterMap.2 ⟨o',List.mem_cons_of_mem _ ho,e⟩)]
theorem Wp {α:Type}:∀ {l p:List α} {x:α},Uy l=some (p,x)→l=p++[x]
 |[],_,_,h=>by cases h
 |y::ys,p,x,h=>by
  simp only [Uy] at h
  split at h
  ·rename_i l z hz
   simp only [Option.some.injEq,Prod.mk.injEq] at h
   obtain ⟨rfl,rfl⟩:=h
   rw [Wp hz];rfl
  ·rename_i hz
   simp only [Option.some.injEq,Prod.mk.injEq] at h
   obtain ⟨rfl,rfl⟩:=h
   cases ys with
   |nil=>rfl
   |cons z zs=>
    simp only [Uy] at hz
    split at hz<;>cases hz
theorem zgI (T:ye) (g:Nat→Bool) (a b:Code) (h:∀ d∈wI a++wI b,g d=T.fix d):kZ { T with fix:=g } a b=kZ T a b:=by
 unfold kZ
 split
 ·rename_i ops1 out ops2 m out2 nxt ops3 code
  split
  ·rename_i pre it xT x ty po af n1 it1 ty1 po1 af1 m1 n2 ty2 po2 af2 pk it2 ty3 po3 af3 rest h1 h2 h3
   have e1:=Wp h1
   simp only [wI] at h
   rw [e1,h2,h3] at h
   have k1:g it=T.fix it:=h it (by simp)
   have k2:g n1=T.fix n1:=h n1 (by simp)
   have k3:g m1=T.fix m1:=h m1 (by simp)
   have k4:g pk=T.fix pk:=h pk (by simp)
   simp only [k1,k2,k3,k4]
   rfl
  ·rfl
 ·rfl
structure zf8 (T:ye) (a b:Code) (r:ue) (id1 id2 out:Nat) (ops1 ops2:Array Oper) (ro nxo exo eno:Oper) (xT:TypeId):Prop where
 a:a=.region id1 ops1 false
 b:b=.block out (.loop (.seq (.region id2 ops2 false) (.seq (.cond (.tmp r.more) .skip (.exit out)) (.block r.nxt (.seq (.region r.id3 r.ops3 false) r.code)))))
 o1:ops1.toList=r.pre++[ro]
 o2:ops2.toList=[nxo,exo]
 o3:r.ops3.toList=eno::r.rest
 ro:ro.dst=some r.it∧ro.op=.range xT (.tmp r.x)∧ro.guard=none
 nxo:nxo.dst=some r.nx∧nxo.op=.next (.tmp r.it) false∧nxo.guard=none
 exo:exo.dst=some r.more∧exo.op=.extract (.tmp r.nx) 0∧exo.guard=none
 eno:eno.dst=some r.pk∧eno.op=.entry (.tmp r.it)∧eno.guard=none
 kit:T.K r.it=false
 knx:T.K r.nx=false
 kmore:T.K r.more=false
 kpk:T.K r.pk=true
 kx:T.K r.x=true
 fit:T.fix r.it=false
 fnx:T.fix r.nx=false
 fmore:T.fix r.more=false
 fpk:T.fix r.pk=false
 apart:w7 r.it (r.nx::r.more::r.pk::(r.rest.filterMap (·.dst)++wI r.code))=false
theorem zfz {T:ye} {a b:Code} {r:ue} (h:kZ T a b=some r):∃ id1 id2 out ops1 ops2 ro nxo exo eno xT,zf8 T a b r id1 id2 out ops1 ops2 ro nxo exo eno xT:=by
 unfold kZ at h
 split at h
 ·split at h
  ·rename_i h1 h2 h3
   split at h
   ·rename_i hb
    simp only [Bool.and_eq_true,Bool.not_eq_true'] at hb
    obtain ⟨⟨⟨⟨⟨⟨⟨⟨⟨⟨⟨⟨⟨⟨b1,b2⟩,b3⟩,b4⟩,b5⟩,b6⟩,b7⟩,b8⟩,b9⟩,b10⟩,b11⟩,b12⟩,b13⟩,b14⟩,b15⟩:=hb
    have b1:=Nat.eq_of_beq_eq_true b1
    have b2:=Nat.eq_of_beq_eq_true b2
    have b3:=Nat.eq_of_beq_eq_true b3
    have b4:=Nat.eq_of_beq_eq_true b4
    have b5:=Nat.eq_of_beq_eq_true b5
    injection h with h
    subst h
    subst b1;subst b2;subst b3;subst b4;subst b5
    exact ⟨_,_,_,_,_,_,_,_,_,_,rfl,rfl,Wp h1,h2,h3,⟨rfl,rfl,rfl⟩,⟨rfl,rfl,rfl⟩,⟨rfl,rfl,rfl⟩,⟨rfl,rfl,rfl⟩,b6,b7,b8,b9,b10,b11,b12,b13,b14,b15⟩
   ·cases h
  ·cases h
 ·cases h
theorem zk3 {T:ye} {a b:Code} {r:ue} (h:XS T a b=some r):kZ T a b=some r∧kZ T (.region r.id3 r.ops3 false) r.code=none:=by
 unfold XS at h
 split at h
 ·rename_i r' hr
  split at h
  ·rename_i hn;injection h with h;subst h;exact ⟨hr,hn⟩
  ·cases h
 ·cases h
theorem zmy (T:ye) (g:Nat→Bool) (a b:Code) (h:∀ d∈wI a++wI b,g d=T.fix d):XS { T with fix:=g } a b=XS T a b:=by
 unfold XS
 rw [zgI T g a b h]
 cases hr:kZ T a b with
 |none=>rfl
 |some r=>
  obtain ⟨id1,id2,out,ops1,ops2,ro,nxo,exo,eno,xT,S⟩:=zfz hr
  have:kZ { T with fix:=g } (.region r.id3 r.ops3 false) r.code=kZ T (.region r.id3 r.ops3 false) r.code:=zgI T g _ _ fun d hd=>h d (by
   rw [S.b]
   simp only [wI,List.mem_append] at hd ⊢
   rcases hd with hd|hd
   ·exact .inr (.inr (.inr (.inl hd)))
   ·exact .inr (.inr (.inr (.inr hd))))
  simp only [this]
theorem zn8 (T:ye) (g:Nat→Bool) (a b:Code) (x y:AC) (h:∀ d∈wI a++wI b,g d=T.fix d):kl { T with fix:=g } a b x y=kl T a b x y:=by
 unfold kl
 rw [zmy T g a b h]
theorem YD (P:Program) (T:ye) (g:Nat→Bool) (nt:Nat):∀ (c:Code),(∀ d∈wI c,g d=T.fix d)→yW P { T with fix:=g } nt c=yW P T nt c
 |.skip,_=>rfl
 |.exit _,_=>rfl
 |.ret,_=>rfl
 |.region _ ops dr,h=>by simp only [yW,zbq P T g nt ops ops.toList h]
 |.seq a b,h=>by
  have ha:=YD P T g nt a fun d hd=>h d (by simp only [wI];exact List.mem_append_left _ hd)
  have hb:=YD P T g nt b fun d hd=>h d (by simp only [wI];exact List.mem_append_right _ hd)
  simp only [yW,ha,hb]
  simp only [zn8 T g a b _ _ h]
 |.cond c a b,h=>by
  have ha:=YD P T g nt a fun d hd=>h d (by simp only [wI];exact List.mem_append_left _ hd)
  have hb:=YD P T g nt b fun d hd=>h d (by simp only [wI];exact List.mem_append_right _ hd)
  simp only [yW,ha,hb,XY]
  rfl
 |.block _ b,h=>by
  have hb:=YD P T g nt b h
  simp only [yW,hb]
 |.loop b,h=>by
  have hb:=YD P T g nt b h
  simp only [yW,hb]
 |.rangeFunc ..,_=>rfl
 |.scope _,_=>rfl
 |.label _,_=>rfl
 |.goto _,_=>rfl
 |.refuse _,_=>rfl
theorem zfL {P:Program} {T:ye} {nt:Nat} {ops:Array Oper}:∀ {os:List Oper} {o:Oper} {as:List zC},wl P T nt ops (os++[o])=some as→∃ bs z,wl P T nt ops os=some bs∧Yn P T nt ops o=some z∧as=bs++[z]
 |[],o,as,h=>by
  simp only [List.nil_append,wl] at h
  split at h
  ·rename_i a as' h1 h2
   injection h2 with h2
   injection h with h
   subst h2;subst h
   exact ⟨[],a,rfl,h1,rfl⟩
  ·cases h
 |p::os,o,as,h=>by
  simp only [List.cons_append,wl] at h
  split at h
  ·rename_i a as' h1 h2
   injection h with h
   subst h
   obtain ⟨bs,z,k1,k2,rfl⟩:=zfL h2
   exact ⟨a::bs,z,by simp only [wl,h1,k1],k2,rfl⟩
  ·cases h
section
variable {P:Program} {T:ye} {nt:Nat}
theorem zm0 {i:Nat} {b:Code} {y:AC} (h:yW P T nt (.block i b)=some y):∃ x,yW P T nt b=some x∧y=.block i x:=by
 simp only [yW] at h
 split at h
 ·rename_i x hx;injection h with h;exact ⟨x,hx,h.symm⟩
 ·cases h
theorem zxg {b:Code} {y:AC} (h:yW P T nt (.loop b)=some y):∃ x,yW P T nt b=some x∧y=.loop x:=by
 simp only [yW] at h
 split at h
 ·rename_i x hx;injection h with h;exact ⟨x,hx,h.symm⟩
 ·cases h
theorem zm1 {a b:Code} {y:AC} (h:yW P T nt (.seq a b)=some y) (hn:∀ u v,kl T a b u v=none):∃ u v,yW P T nt a=some u∧yW P T nt b=some v∧y=.seq u v:=by
 simp only [yW] at h
 split at h
 ·rename_i u v hu hv
  rw [hn u v] at h
  injection h with h
  exact ⟨u,v,hu,hv,h.symm⟩
 ·cases h
theorem zkF {i:Nat} {ops:Array Oper} {y:AC} (h:yW P T nt (.region i ops false)=some y):∃ as,wl P T nt ops ops.toList=some as∧y=.region false as:=by
 simp only [yW] at h
 split at h
 ·rename_i as has;injection h with h;exact ⟨as,has,h.symm⟩
 ·cases h
end
theorem zon {P:Program} {T:ye} {nt:Nat} {ops:Array Oper} {a b:Oper} {as:List zC} (h:wl P T nt ops [a,b]=some as):∃ x y,Yn P T nt ops a=some x∧Yn P T nt ops b=some y:=by
 simp only [wl] at h
 split at h
 ·rename_i x as' h1 h2
  split at h2
  ·rename_i y as'' h3 h4
   exact ⟨x,y,h1,h3⟩
  ·cases h2
 ·cases h
theorem zaO {P:Program} {T:ye} {nt:Nat} {ops:Array Oper} {o:Oper} {ao:zC} (h:Yn P T nt ops o=some ao) {d:Nat} (hd:o.dst=some d):d<nt:=by
 rcases (J1 h).dst with ⟨h1,_⟩|⟨d',h1,h2,_⟩
 ·rw [hd] at h1;cases h1
 ·rw [hd] at h1;injection h1 with h1;subst h1;exact h2
theorem zmZ {P:Program} {T:ye} {nt:Nat} {ops:Array Oper} {o:Oper} {ao:zC} (h:Yn P T nt ops o=some ao) {t:TypeId} {x:Operand} (ho:o.op=.range t x):∃ k e,P.underlying t=some (.map k e):=by
 have h1:=(J1 h).op
 rw [ho] at h1
 simp only [W5] at h1
 split at h1
 ·rename_i k e hu;exact ⟨k,e,hu⟩
 ·cases h1
structure zdg (P:Program) (nt:Nat) (q:ue) (xT:TypeId):Prop where
 it:q.it<nt
 nx:q.nx<nt
 more:q.more<nt
 pk:q.pk<nt
 ty:∃ k e,P.underlying xT=some (.map k e)
theorem zn9 {P:Program} {T:ye} {nt:Nat} {a b:Code} {x y r:AC} (hx:yW P T nt a=some x) (hy:yW P T nt b=some y) (hr:kl T a b x y=some r):∃ q id1 id2 out ops1 ops2 ro nxo exo eno xT pas ras ab,zf8 T a b q id1 id2 out ops1 ops2 ro nxo exo eno xT∧
  wl P T nt ops1 q.pre=some pas∧wl P T nt q.ops3 q.rest=some ras∧yW P T nt q.code=some ab∧zdg P nt q xT∧r=.seq (.region false pas) (.mrange (.per q.x) q.W q.pk (.block q.nxt (.seq (.region false ras) ab))):=by
 unfold kl at hr
 split at hr
 ·rename_i q dr as1 o2 l2 l3 o3 dr3 as3 ab hq
  obtain ⟨hq,hn3⟩:=zk3 hq
  obtain ⟨id1,id2,out,ops1,ops2,ro,nxo,exo,eno,xT,S⟩:=zfz hq
  split at hr
  ·rename_i pas z z3 ras h1
   ·injection hr with hr
    have ha:=S.a;have hb:=S.b
    subst ha;subst hb
    simp only [yW] at hx
    split at hx
    ·rename_i as1' hx1
     simp only [Option.some.injEq,AC.region.injEq] at hx
     obtain ⟨_,rfl⟩:=hx
     rw [S.o1] at hx1
     obtain ⟨bs,z',k1,k2,k3⟩:=zfL hx1
     have e1:=Wp h1
     rw [k3] at e1
     obtain ⟨e2,_⟩:=List.append_inj' e1 rfl
     subst e2
     obtain ⟨y1,g1,f1⟩:=zm0 hy
     obtain ⟨y2,g2,f2⟩:=zxg g1
     obtain ⟨u1,y3,g3,g4,f3⟩:=zm1 g2 fun u v=>rfl
     obtain ⟨u2,y4,g5,g6,f4⟩:=zm1 g4 fun u v=>rfl
     obtain ⟨y5,g7,f5⟩:=zm0 g6
     obtain ⟨u3,y6,g8,g9,f6⟩:=zm1 g7 fun u v=>by unfold kl XS;rw [hn3]
     obtain ⟨as3',g10,f7⟩:=zkF g8
     subst f7;subst f6;subst f5;subst f4;subst f3;subst f2
     simp only [AC.block.injEq,AC.loop.injEq,AC.seq.injEq,AC.region.injEq] at f1
     obtain ⟨_,_,_,_,⟨_,rfl⟩,rfl⟩:=f1
     rw [S.o3] at g10
     simp only [wl] at g10
     split at g10
     ·rename_i a' as' m1 m2
      injection g10 with g10
      injection g10 with _ g10
      subst g10
      obtain ⟨as2,n1,_⟩:=zkF g3
      rw [S.o2] at n1
      obtain ⟨z1,z2,n2,n3⟩:=zon n1
      exact ⟨q,id1,id2,out,ops1,ops2,ro,nxo,exo,eno,xT,bs,_,_,S,k1,m2,g9,⟨zaO k2 S.ro.1,zaO n2 S.nxo.1,zaO n3 S.exo.1,zaO m1 S.eno.1,zmZ k2 S.ro.2.1⟩,hr.symm⟩
     ·cases g10
    ·cases hx
  ·cases hr
 ·cases hr
end
section
theorem zk.get_take (e:zk) (k n:Nat):zk.get (e.take k) n=e.get n∨zk.get (e.take k) n=.unk:=by
 induction e generalizing k with
 |nil=>left;simp
 |cons q e ih=>
  obtain ⟨j,x⟩:=q
  cases k with
  |zero=>right;rfl
  |succ k=>
   simp only [List.take_succ_cons,zk.get]
   cases Nat.beq j n
   ·exact ih k
   ·left;rfl
theorem zk.get_erase (e:zk) (k n:Nat):(e.erase k).get n=e.get n∨(e.erase k).get n=.unk:=by
 by_cases hk:k=n
 ·subst hk
  right
  induction e with
  |nil=>rfl
  |cons q e ih=>
   obtain ⟨j,x⟩:=q
   simp only [zk.erase]
   cases h:Nat.beq j k
   ·simp only [zk.get,h];exact ih
   ·exact ih
 ·left
  induction e with
  |nil=>rfl
  |cons q e ih=>
   obtain ⟨j,x⟩:=q
   simp only [zk.erase]
   cases h:Nat.beq j k
   ·simp only [zk.get];cases Nat.beq j n
    ·exact ih
    ·rfl
   ·have:j=k:=Nat.eq_of_beq_eq_true h
    subst this
    simp only [zk.get,zfx hk];exact ih
theorem zk.mem_get {e:zk} {n:Nat} {v:PV} (h:e.get n=v):v=.unk∨v∈e.map (·.2):=by
 induction e with
 |nil=>left;exact h.symm
 |cons q e ih=>
  obtain ⟨j,x⟩:=q
  simp only [zk.get] at h
  cases hj:Nat.beq j n
  ·rw [hj] at h
   rcases ih h with h|h
   ·exact .inl h
   ·exact .inr (List.mem_cons_of_mem _ h)
  ·rw [hj] at h
   right;simp only at h;subst h;exact List.mem_cons_self
section
variable {P:Program} {G:Nat→Option (List PV)} {T:ye} {nt:Nat} {w0:World} {F0:Nat→Prop} {m0:zR} {H0:zd} {d0:jV}
structure zvB (G:Nat→Option (List PV)) (w0:World) (F0:Nat→Prop) (m0:zR) (H0:zd) (roots:List PV) (w:World) (F:Nat→Prop) (m:zR) (H H':zd) (ed:zV) (m':zR):Prop where
 rel:yl G w F m' H'
 grow:wo w0 F0 m0 H0 w F m' H'
 fwd:ZT m' H0 H' ed
 val:∀ p v,p∈roots→zn w F m (zr H) p v→zn w F m' (zr H') p v
theorem zua {n:Nat} {l:List Nat} (h:bare n l=true):∀ r∈l,r<n:=fun r hr=>by
 have:=List.all_eq_true.1 h r hr
 simpa using this
theorem ziQ {st:St} {a:Act} {w:World} {F:Nat→Prop} {m:zR} (R0:yl G w0 F0 m0 H0) (I:vE G T nt w0 F0 m0 H0 d0 st a w F m) {n:Nat} (hn:H0.length≤n) (roots:List PV):
  ∃ m',zvB G w0 F0 m0 H0 roots w F m st.H (trim n roots st.H st.ed).1 (trim n roots st.H st.ed).2 m':=by
 unfold trim
 split
 ·rename_i hb
  simp only [Bool.and_eq_true] at hb
  obtain ⟨hb1,hb2⟩:=hb
  have hed:∀ e∈st.ed,n≤e.1∨e.2<n:=fun e he=>by
   have:=List.all_eq_true.1 hb2 e he
   simpa using this
  have hc:∀ id b r,id<n→m id≠.unk→st.H[id]?=some b→r∈kM b→r<n:=by
   intro id b r hid hm hb hr
   by_cases hlt:id<r
   ·rcases I.fwd id b r hm hb hr hlt with ⟨b0,h1,h2⟩|h
    ·have h0:id<H0.length:=(List.getElem?_eq_some_iff.1 h1).1
     have hm0:m0 id≠.unk:=fun h=>by have:=I.grow.fresh id h hm;omega
     have:=R0.block_lt h1 hm0 r h2
     omega
    ·rcases hed _ h with h|h
     ·simp only at h;omega
     ·exact h
   ·omega
  refine ⟨m.restr n,I.rel.restr n hc,?_,?_,fun p v hp hv=>hv.restr fun r hr=>zua hb1 r (wN.2 ⟨p,hp,hr⟩)⟩
  ·have g:=I.grow
   refine ⟨g.heap,g.sub,g.new,g.old,fun id hid=>?_,fun b ⟨id,o,c,s,h⟩=>?_,g.os,g.tape,g.output,g.froz,?_,fun id h1 h2=>?_⟩
   ·have hl:id<n:=Nat.lt_of_lt_of_le (R0.lt_of_ne hid) hn
    obtain ⟨k1,k2,k3⟩:=g.locs id hid
    rw [zR.restr_lt m hl,zks _ hl]
    exact ⟨k1,k2,k3⟩
   ·have k1:=zR.restr_ne (m:=m) (n:=n) (id:=id) (by rw [h];simp)
    exact g.img b ⟨id,o,c,s,k1.2.2▸h⟩
   ·have:=g.len;simp only [List.length_take];omega
   ·exact g.fresh id h1 (zR.restr_ne h2).2.1
  ·intro id b r hm hb hr hlt
   obtain ⟨k1,k2,k3⟩:=zR.restr_ne hm
   simp only at hb
   rw [List.getElem?_take,if_pos k1] at hb
   rcases I.fwd id b r k2 hb hr hlt with h|h
   ·exact .inl h
   ·exact .inr (List.mem_filter.2 ⟨h,by simpa using hc id b r k1 k2 hb hr⟩)
 ·exact ⟨m,I.rel,I.grow,I.fwd,fun _ _ _ h=>h⟩
theorem zp9 {st st0:St} {a:Act} {w:World} {F:Nat→Prop} {m:zR} (R0:yl G w0 F0 m0 H0) (I:vE G T nt w0 F0 m0 H0 d0 st a w F m) (hn:H0.length≤st0.H.length):∃ m',vE G T nt w0 F0 m0 H0 d0 (st0.next st) a w F m':=by
 obtain ⟨m',t⟩:=ziQ R0 I hn ((st.per.take st0.per.length).map (·.2))
 refine ⟨m',t.rel,⟨I.env.size,fun n=>?_,fun n=>zn.unk' _,fun n hk=>?_,fun n _=>rfl⟩,t.grow,t.fwd,I.defers⟩
 ·show zn w F m' _ (zk.get (st.per.take st0.per.length) n) _
  rcases zk.mem_get (e:=st.per.take st0.per.length) (n:=n) rfl with h|h
  ·rw [h];exact zn.unk' _
  ·refine t.val _ _ h ?_
   rcases zk.get_take st.per st0.per.length n with h|h
   ·rw [h];exact I.env.per n
   ·rw [h];exact zn.unk' _
 ·show zk.get (st.per.take st0.per.length) n=_
  rcases zk.get_take st.per st0.per.length n with h|h
  ·rw [h];exact I.env.perK n hk
  ·exact h
theorem zh8 {gone:Bool} {c:zx} {st:St} {a:Act} {w:World} {F:Nat→Prop} {m:zR} (I:vE G T nt w0 F0 m0 H0 d0 st a w F m):vE G T nt w0 F0 m0 H0 d0 (jn gone c st) a w F m:=by
 unfold jn
 split
 ·split
  ·rename_i k
   refine ⟨I.rel,⟨I.env.size,fun n=>?_,I.env.reg,fun n hk=>?_,I.env.regK⟩,I.grow,I.fwd,I.defers⟩
   ·show zn w F m _ ((st.per.erase k).get n) _
    rcases zk.get_erase st.per k n with h|h
    ·rw [h];exact I.env.per n
    ·rw [h];exact zn.unk' _
   ·show (st.per.erase k).get n=_
    rcases zk.get_erase st.per k n with h|h
    ·rw [h];exact I.env.perK n hk
    ·exact h
  ·exact I
 ·exact I
def zp.up:zp→Exit
 |.normal=>.normal
 |.exit id=>.exit id
 |.ret=>.ret
theorem vE.clear {st:St} {a:Act} {w:World} {F:Nat→Prop} {m:zR} (I:vE G T nt w0 F0 m0 H0 d0 st a w F m):vE G T nt w0 F0 m0 H0 d0 { st with reg:=[] } a w F m:=
 ⟨I.rel,I.env.clear zn.unk',I.grow,I.fwd,I.defers⟩
theorem zbN {ms:List Nat} {as:List zC}:∀ {i:Nat} {ys:List zC},(jh ms as i ys).length=ys.length∧∀ (k:Nat) (y:zC),(jh ms as i ys)[k]?=some y→∃ x,ys[k]?=some x∧y.op=x.op∧y.dst=x.dst∧y.guard=x.guard
 |i,[]=>by simp [jh]
 |i,y::ys=>by
  obtain ⟨h1,h2⟩:=zbN (ms:=ms) (as:=as) (i:=i+1) (ys:=ys)
  refine ⟨by simp [jh,h1],fun k z hk=>?_⟩
  cases k with
  |zero=>simp only [jh,List.getElem?_cons_zero,Option.some.injEq] at hk;subst hk;exact ⟨y,rfl,rfl,rfl,rfl⟩
  |succ k=>exact h2 k z (by simpa [jh] using hk)
def YV (P:Program) (A:xp) (n:Nat):Prop:=
 ∀ (c:Code) (ac:AC) (st st':St) (ae:zp) (T:ye) (nt:Nat),yW P T nt c=some ac→ev A n ac st=some (ae,st')→
  ∀ (w0:World) (F0:Nat→Prop) (m0:zR) (H0:zd) (d0:jV) (a:Act) (w:World) (F:Nat→Prop) (m:zR),yl A.glob w0 F0 m0 H0→vE A.glob T nt w0 F0 m0 H0 d0 st a w F m→
   ∀ Q:Exit→Act→World→Prop,(∀ a1 w1 F1 m1,vE A.glob T nt w0 F0 m0 H0 d0 st' a1 w1 F1 m1→Q ae.up a1 w1)→c.wp P Q a w
def zhA (P:Program) (A:xp) (n:Nat):Prop:=
 ∀ (c:Code) (ac:AC) (st st':St) (ae:zp) (T:ye) (nt:Nat),yW P T nt c=some ac→ev A n (.loop ac) st=some (ae,st')→
  ∀ (w0:World) (F0:Nat→Prop) (m0:zR) (H0:zd) (d0:jV) (a:Act) (w:World) (F:Nat→Prop) (m:zR),yl A.glob w0 F0 m0 H0→vE A.glob T nt w0 F0 m0 H0 d0 st a w F m→
   ∀ Q:Exit→Act→World→Prop,(∀ a1 w1 F1 m1,vE A.glob T nt w0 F0 m0 H0 d0 st' a1 w1 F1 m1→Q ae.up a1 w1)→Code.rounds P c Q n a w
theorem zr5 {A:xp} {n:Nat} (hc:YV P A n) (hl:zhA P A n):zhA P A (n+1):=by
 intro c ac st st' ae T nt ht he w0 F0 m0 H0 d0 a w F m R0 I Q hQ
 rw [zb5] at he
 rw [rounds_succ]
 cases hb:ev A n ac st with
 |none=>simp [hb] at he
 |some x=>
  obtain ⟨e,st1⟩:=x
  refine hc c ac st st1 e T nt ht hb w0 F0 m0 H0 d0 a w F m R0 I _ fun a1 w1 F1 m1 I1=>?_
  rw [hb] at he
  cases e with
  |normal=>
   obtain ⟨m2,I2⟩:=zp9 (st0:=st) R0 I1 I.grow.len
   exact hl c ac _ st' ae T nt ht he w0 F0 m0 H0 d0 a1 w1 F1 m2 R0 I2 Q hQ
  |exit id=>simp only [Option.some.injEq,Prod.mk.injEq] at he;obtain ⟨rfl,rfl⟩:=he;exact hQ a1 w1 F1 m1 I1
  |ret=>simp only [Option.some.injEq,Prod.mk.injEq] at he;obtain ⟨rfl,rfl⟩:=he;exact hQ a1 w1 F1 m1 I1
end
end
end Go.Av
end
section
namespace Go.Av
open Go
open Go.ChangeMaps (setBlock)
section
theorem zkw {w w':World} {F F':Nat→Prop} {m m':zR} {L L':Nat→Nat} {p:PV} {v:Value} (hp:JI p=true) (h:zn w F m L p v):zn w' F' m' L' p v:=by
 cases h with
 |froz _ _ h=>cases h<;>first|(simp [JI] at hp;done)|(exact .froz _ _ (by constructor))
 |_=>simp [JI] at hp
theorem zk.get_mapk (f:Nat→PV→PV) (e:zk) (n:Nat):zk.get (e.map fun p=>(p.1,f p.1 p.2)) n=.unk∧e.get n=.unk∨zk.get (e.map fun p=>(p.1,f p.1 p.2)) n=f n (e.get n):=by
 induction e with
 |nil=>exact .inl ⟨rfl,rfl⟩
 |cons q e ih=>
  obtain ⟨j,x⟩:=q
  simp only [List.map_cons,zk.get]
  cases h:Nat.beq j n
  ·exact ih
  ·right
   have:=Nat.eq_of_beq_eq_true h
   subst this;rfl
theorem zk.get_frz (H:zd) (e:zk) (n:Nat):zk.get (e.map fun p=>(p.1,frz 8 H p.2)) n=frz 8 H (e.get n):=by
 rcases zk.get_mapk (fun _ v=>frz 8 H v) e n with ⟨h1,h2⟩|h
 ·rw [h1,h2];rfl
 ·exact h
theorem zif {es:Array MapEntry} {seen:Array Nat} {e:MapEntry}:e∈(leftOf es seen).toList↔e∈es.toList∧e.born∉seen.toList:=by
 simp [leftOf]
theorem zn0 {es:Array MapEntry} {seen:Array Nat} {e:MapEntry} (h:e∈(leftOf es seen).toList):(leftOf es (seen.push e.born)).size<(leftOf es seen).size:=by
 have h1:(leftOf es (seen.push e.born)).toList=(leftOf es seen).toList.filter fun x=> !(x.born==e.born):=by
  simp only [leftOf,Array.toList_filter,List.filter_filter]
  congr 1
  funext x
  simp only [Array.contains_eq_any_beq,Array.any_push]
  cases hc:(seen.any fun y=>x.born==y)<;>simp [Bool.and_comm]
 have h2:(leftOf es (seen.push e.born)).toList.length<(leftOf es seen).toList.length:=by
  rw [h1]
  exact List.length_filter_lt_length_iff_exists.2 ⟨e,h,by simp⟩
 simpa using h2
theorem zrW (es:Array MapEntry) (seen:Array Nat):(leftOf es seen).size≤es.size:=by
 simpa [leftOf] using Array.size_filter_le (p:=fun e:MapEntry=> !seen.contains e.born) (xs:=es)
theorem zfe (w:World) (m:Option Nat) (s:Nat) (seen:Array Nat) (c:Nat) (a:Addr):(w.alloc (.mapIter m s seen c)).frozen? a=w.frozen? a:=by
 by_cases h:a.block=w.heap.size
 ·have e1:(w.alloc (.mapIter m s seen c)).heap[a.block]?=some (.mapIter m s seen c):=by show (w.heap.push _)[_]?=_;rw [h];simp
  have e2:w.heap[a.block]?=none:=by rw [h];simp
  simp [World.frozen?,e1,e2]
 ·exact K9 a (by show (w.heap.push _)[_]?=_;simp [Array.getElem?_push,h])
theorem zb8 (w:World) (g:Nat) (m m':Option Nat) (s s':Nat) (seen seen':Array Nat) (c c':Nat) (hg:w.heap[g]?=some (.mapIter m s seen c)) (a:Addr):(setBlock w g (.mapIter m' s' seen' c')).frozen? a=w.frozen? a:=by
 by_cases h:a.block=g
 ·subst h
  have hlt:=(Array.getElem?_eq_some_iff.1 hg).1
  have e1:(setBlock w a.block (.mapIter m' s' seen' c')).heap[a.block]?=some (.mapIter m' s' seen' c'):=by simp [setBlock,hlt]
  simp [World.frozen?,e1,hg]
 ·exact K9 a (Array.getElem?_setIfInBounds_ne (Ne.symm h))
structure kR (w w':World):Prop where
 size:w.heap.size≤w'.heap.size
 heap:∀ b,b<w.heap.size→w'.heap[b]?=w.heap[b]?
 os:w'.os=w.os∧w'.tape=w.tape∧w'.output=w.output∧∀ a,w'.frozen? a=w.frozen? a
theorem kR.refl (w:World):kR w w:=⟨Nat.le_refl _,fun _ _=>rfl,rfl,rfl,rfl,fun _=>rfl⟩
theorem kR.trans {a b c:World} (h:kR a b) (k:kR b c):kR a c:=
 ⟨Nat.le_trans h.size k.size,fun x hx=>(k.heap x (Nat.lt_of_lt_of_le hx h.size)).trans (h.heap x hx),k.os.1.trans h.os.1,k.os.2.1.trans h.os.2.1,k.os.2.2.1.trans h.os.2.2.1,fun x=>(k.os.2.2.2 x).trans (h.os.2.2.2 x)⟩
theorem kR.alloc_iter (w:World) (m:Option Nat) (s:Nat) (seen:Array Nat) (c:Nat):kR w (w.alloc (.mapIter m s seen c)):=
 ⟨by show _≤(w.heap.push _).size;simp,fun b hb=>by show (w.heap.push _)[b]?=_;simp [Array.getElem?_push,Nat.ne_of_lt hb],rfl,rfl,rfl,zfe w m s seen c⟩
theorem kR.drew (w:World):kR w w.drew:=⟨Nat.le_refl _,fun _ _=>rfl,rfl,rfl,rfl,fun _=>rfl⟩
theorem kR.step {w w':World} (h:kR w w') {r:Nat} (hr:w.heap.size≤r) {m:Option Nat} {s:Nat} {seen:Array Nat} {c:Nat} (hg:w'.heap[r]?=some (.mapIter m s seen c)) (seen':Array Nat) (c':Nat):kR w (setBlock w' r (.mapIter m s seen' c')):=
 ⟨by show _≤(w'.heap.setIfInBounds _ _).size;simpa using h.size,fun b hb=>by
  show (w'.heap.setIfInBounds r _)[b]?=_
  rw [Array.getElem?_setIfInBounds_ne (by omega)]
  exact h.heap b hb,h.os.1,h.os.2.1,h.os.2.2.1,fun a=>(zb8 w' r m m s s seen seen' c c' hg a).trans (h.os.2.2.2 a)⟩
theorem UA {P:Program} {ops:Array Oper} {Q:Exit→Act→World→Prop} {i:Nat} {rest:List Nat} {o:Oper} {a:Act} {w w':World} {v:Value} (ho:ops[i]?=some o) (hg:o.guard=none) (hr:(execOp a.eval o).run P w=.ok (.value v) w')
  (h:wpOps P ops Q rest (a.put o.dst v) w'):wpOps P ops Q (i::rest) a w:=by
 simp only [wpOps,ho]
 have:Region.wanted o (yielded ops a.tmps)=true:=by simp [Region.wanted,hg]
 rw [if_pos this]
 left
 unfold Oper.wp
 rw [hr]
 exact h
section
variable {P:Program} {G:Nat→Option (List PV)} {T:ye} {nt:Nat} {w0:World} {F0:Nat→Prop} {m0:zR} {H0:zd} {d0:jV}
theorem JB {a:Act} {d n:Nat} {v:Value} (h:d<a.tmps.size):(a.put (some d) v).tmps.getD n undef=if n=d then v else a.tmps.getD n undef:=zhd a.tmps d n v h
theorem vP.putU {R:PV→Value→Prop} {st:St} {a:Act} (E:vP T nt R st a) (hU:∀ x,R .unk x) {d:Nat} (hd:d<nt) (hk:T.K d=false) (hreg:st.reg=[]) (v:Value):vP T nt R st (a.put (some d) v):=by
 have hs:=E.size
 refine ⟨by simp [Act.put,hs],fun n=>?_,fun n=>by rw [hreg];exact hU _,E.perK,E.regK⟩
 rw [JB (by omega)]
 split
 ·rename_i e;subst e;rw [E.perK n hk];exact hU _
 ·exact E.per n
structure zbl (T:ye) (nt:Nat) (d0:jV) (F:Nat→Prop) (m:zR) (s:St) (q:ue) (blk clock:Nat) (w1:World) (seen:Array Nat) (a:Act) (w:World):Prop where
 past:kR w1 w
 lt:w1.heap.size<w.heap.size
 iter:w.heap[w1.heap.size]?=some (.mapIter (some blk) clock seen clock)
 env:vP T nt (zn w1 F m (zr s.H)) s a
 st:UW T d0 a
 itv:a.tmps.getD q.it undef=.pointer (some ⟨w1.heap.size,0,none⟩)
theorem zbl.back {A:xp} {s:St} {q:ue} {blk clock:Nat} {w1:World} {F:Nat→Prop} {m:zR} {a1:Act} (I:vE A.glob T nt w0 F0 m0 H0 d0 s a1 w1 F m) {seen:Array Nat} {a:Act} {w:World} (h:zbl T nt d0 F m s q blk clock w1 seen a w):vE A.glob T nt w0 F0 m0 H0 d0 s a w F m:=by
 obtain ⟨R1,g1,_⟩:=I.rel.world (w':=w) (F':=F) h.past.size h.past.heap h.past.os (fun _ h=>h) (fun _ h=>.inl h) fun b hb=>Nat.lt_of_lt_of_le (I.rel.ltF b hb) h.past.size
 exact ⟨R1,h.env.mono fun p v k=>k.grow I.rel g1,I.grow.trans g1,I.fwd,h.st⟩
theorem yl.own {w:World} {F:Nat→Prop} {m:zR} {H:zd} (R:yl G w F m H) {w':World} (h:kR w w'):yl G w' (fun b=>F b∨m.has b) (fun _=>.unk) []:=
 ⟨fun id s rows h=>by simp at h,fun id es h=>by simp at h,fun _ _=>rfl,fun id id' b o c s o' c' s' h1 _=>(by cases h1),fun b hb=>(by obtain ⟨_,_,_,_,h⟩:=hb;cases h),fun b hb=>Nat.lt_of_lt_of_le (hb.elim (R.ltF b) (R.lt b)) h.size,fun b hb _=>(by obtain ⟨_,_,_,_,h⟩:=hb;cases h),
  fun g cs hg=>(R.glob g cs hg).mono (fun b hb=>h.heap b (R.ltF b hb)) fun _ h=>.inl h⟩
theorem YV.le {A:xp} {n k:Nat} (h:YV P A n) (hk:k≤n):YV P A k:=fun c ac st st' ae T nt ht he=>h c ac st st' ae T nt ht (zap hk he)
structure zf5 (T:ye) (nt:Nat) (d0:jV) (F:Nat→Prop) (m:zR) (s:St) (q:ue) (blk clock:Nat) (w1:World) (seen:Array Nat) (s2:St) (a:Act) (w:World):Prop where
 past:kR w1 w
 lt:w1.heap.size<w.heap.size
 iter:w.heap[w1.heap.size]?=some (.mapIter (some blk) clock seen clock)
 size:a.tmps.size=nt
 out:∀ n,w7 n q.W=false→zn w1 F m (zr s.H) (s.per.get n) (a.tmps.getD n undef)
 in_:∀ n,JI (s2.per.get n)=true→zn w1 F m (zr s.H) (s2.per.get n) (a.tmps.getD n undef)
 keep:∀ n,T.K n=false→s2.per.get n=.unk
 st:UW T d0 a
 itv:a.tmps.getD q.it undef=.pointer (some ⟨w1.heap.size,0,none⟩)
section
variable {F:Nat→Prop} {m:zR} {s:St} {q:ue} {blk clock:Nat} {w1:World} {seen:Array Nat} {a:Act} {w:World}
theorem zf5.pass {s2:St} (h:zf5 T nt d0 F m s q blk clock w1 seen s2 a w) (hK:∀ n,T.K n=false→s.per.get n=.unk) (hreg:s.reg=[]) (hp:∀ d∈q.W,s.per.get d=.unk∨(JI (s.per.get d)=true∧s2.per.get d=s.per.get d)):zbl T nt d0 F m s q blk clock w1 seen a w:=by
 refine ⟨h.past,h.lt,h.iter,⟨h.size,fun n=>?_,fun n=>by rw [hreg];exact zn.unk' _,hK,fun n _=>by rw [hreg];rfl⟩,h.st,h.itv⟩
 cases hn:w7 n q.W with
 |false=>exact h.out n hn
 |true=>
  rcases hp n (ut.1 hn) with e|⟨e1,e2⟩
  ·rw [e];exact zn.unk' _
  ·have:=h.in_ n (by rw [e2];exact e1)
   rwa [e2] at this
theorem zf5.left {A:xp} {a1:Act} (I:vE A.glob T nt w0 F0 m0 H0 d0 s a1 w1 F m) {s2:St} (h:zf5 T nt d0 F m s q blk clock w1 seen s2 a w):vE A.glob T nt w0 F0 m0 H0 d0 (zca q.W s s2) a w F m:=by
 obtain ⟨R1,g1,_⟩:=I.rel.world (w':=w) (F':=F) h.past.size h.past.heap h.past.os (fun _ h=>h) (fun _ h=>.inl h) fun b hb=>Nat.lt_of_lt_of_le (I.rel.ltF b hb) h.past.size
 have hW:∀ n,q.W.any (Nat.beq n)=w7 n q.W:=fun n=>rfl
 refine ⟨R1,⟨h.size,fun n=>?_,fun n=>zn.unk' _,fun n hn=>?_,fun n _=>rfl⟩,I.grow.trans g1,I.fwd,h.st⟩
 ·show zn w F m (zr s.H) (zk.get (s.per.map fun p=>(p.1,Ux q.W s2 p.1 p.2)) n) _
  rcases zk.get_mapk (Ux q.W s2) s.per n with ⟨e,_⟩|e
  ·rw [e];exact zn.unk' _
  ·rw [e]
   unfold Ux
   rw [hW]
   split
   ·split
    ·rename_i hp;exact zkw hp (h.in_ n hp)
    ·exact zn.unk' _
   ·rename_i hn;exact (h.out n hn).grow I.rel g1
 ·show zk.get (s.per.map fun p=>(p.1,Ux q.W s2 p.1 p.2)) n=.unk
  rcases zk.get_mapk (Ux q.W s2) s.per n with ⟨e,_⟩|e
  ·exact e
  ·rw [e]
   unfold Ux
   rw [h.keep n hn,I.env.perK n hn]
   split<;>rfl
theorem zqi {A:xp} {n:Nat} (hcl:VW P A.glob ⟨Zm A n,Zn A n⟩) (hc:YV P A n) {ca cb:Code} {id1 id2 out:Nat} {ops1 ops2:Array Oper} {ro nxo exo eno:Oper} {xT:TypeId} (S:zf8 T ca cb q id1 id2 out ops1 ops2 ro nxo exo eno xT) (sl:zdg P nt q xT)
  {ras:List zC} {ab:AC} (hras:wl P T nt q.ops3 q.rest=some ras) (hab:yW P T nt q.code=some ab) {a1:Act} (I:vE A.glob T nt w0 F0 m0 H0 d0 s a1 w1 F m) {es:List (PV×PV)} {xs:List MapEntry} (hblk:w1.heap[blk]?=some (.map xs.toArray clock))
  (hk:∀ (i:Nat) (e:PV×PV) (x:MapEntry),es[i]?=some e→xs[i]?=some x→zn w1 F m (zr s.H) e.1 x.key) (hv:∀ (i:Nat) (e:PV×PV) (x:MapEntry),es[i]?=some e→xs[i]?=some x→zn w1 F m (zr s.H) e.2 x.val) (hn:(xs.map (·.born)).Nodup)
  {i:Nat} {e:PV×PV} {x:MapEntry} (h1:es[i]?=some e) (h2:xs[i]?=some x) (r:zbl T nt d0 F m s q blk clock w1 (seen.push x.born) a w) {k:Nat} (hkn:k≤n) {ae:zp} {s2:St} (he:ev A k (.block q.nxt (.seq (.region false ras) ab)) (wX q.pk s e)=some (ae,s2))
  (Q:Exit→Act→World→Prop) (hQ:∀ a4 w4,zf5 T nt d0 F m s q blk clock w1 (seen.push x.born) s2 a4 w4→Q ae.up a4 w4):(Code.block q.nxt (.seq (.region q.id3 q.ops3 false) q.code)).wp P Q a w:=by
 have hbl:blk<w1.heap.size:=(Array.getElem?_eq_some_iff.1 hblk).1
 have hpk:q.pk<a.tmps.size:=by rw [r.env.size];exact sl.pk
 have hap:=S.apart
 have hit:∀ d,d∈q.nx::q.more::q.pk::(q.rest.filterMap (·.dst)++wI q.code)→q.it≠d:=fun d hd e=>by
  subst e
  rw [ut.2 hd] at hap;cases hap
 have hitpk:q.it≠q.pk:=hit _ (by simp)
 have hitW:w7 q.it q.W=false:=by
  cases h:w7 q.it q.W with
  |false=>rfl
  |true=>exact absurd rfl (hit _ (by have:=ut.1 h;simp only [ue.W] at this;exact List.mem_cons_of_mem _ (List.mem_cons_of_mem _ this)))
 have hpkW:w7 q.pk q.W=true:=ut.2 (by simp [ue.W])
 let T':ye:={ T with fix:=fun d=>T.fix d|| !w7 d q.W }
 have hfixW:∀ d,d∈q.W→(T.fix d|| !w7 d q.W)=T.fix d:=fun d hd=>by simp [ut.2 hd]
 have hras':wl P T' nt q.ops3 q.rest=some ras:=(zbq P T _ nt q.ops3 q.rest fun d hd=>hfixW d (by simp only [ue.W];exact List.mem_cons_of_mem _ (List.mem_append_left _ hd))).trans hras
 have hab':yW P T' nt q.code=some ab:=(YD P T _ nt q.code fun d hd=>hfixW d (by simp only [ue.W];exact List.mem_cons_of_mem _ (List.mem_append_right _ hd))).trans hab
 let a3:Act:=a.put (some q.pk) (.tuple #[x.key,x.val])
 let d0':jV:=⟨a3.defers,fun n=>a3.tmps.getD n undef⟩
 have hget:∀ n,a3.tmps.getD n undef=if n=q.pk then .tuple #[x.key,x.val] else a.tmps.getD n undef:=fun n=>JB hpk
 have hR:yl A.glob w (fun b=>F b∨m.has b) (fun _=>.unk) []:=I.rel.own r.past
 have up:∀ {p:PV} {v:Value},zn w1 F m (zr s.H) p v→RelF w (fun b=>F b∨m.has b) (frz 8 s.H p) v:=fun h=>(XQ I.rel 8 h).mono (fun b hb=>r.past.heap b (hb.elim (I.rel.ltF b) (I.rel.lt b))) fun _ h=>h
 have hI:vE A.glob T' nt w (fun b=>F b∨m.has b) (fun _=>.unk) [] d0' (wX q.pk s e) a3 w (fun b=>F b∨m.has b) (fun _=>.unk):=by
  refine ⟨hR,⟨?_,fun n=>?_,fun n=>zn.unk' _,fun n hn=>?_,fun n _=>rfl⟩,wo.refl ..,fun id b r h=>absurd rfl h,⟨rfl,fun _ _=>rfl⟩⟩
  ·show (a.tmps.setIfInBounds _ _).size=nt
   simpa using r.env.size
  ·rw [hget]
   show zn w _ _ _ (zk.get (zk.put (s.per.map fun p=>(p.1,frz 8 s.H p.2)) q.pk (.tup [frz 8 s.H e.1,frz 8 s.H e.2])) n) _
   rw [zk.get_put]
   split
   ·refine .froz _ _ (.tup [_,_] [x.key,x.val] rfl fun j p v hp hv'=>?_)
    match j with
    |0=>simp at hp hv';subst hp;subst hv';exact up (hk i e x h1 h2)
    |1=>simp at hp hv';subst hp;subst hv';exact up (hv i e x h1 h2)
    |j+2=>simp at hp
   ·rw [zk.get_frz]
    exact .froz _ _ (up (r.env.per n))
  ·show zk.get (zk.put (s.per.map fun p=>(p.1,frz 8 s.H p.2)) q.pk (.tup [frz 8 s.H e.1,frz 8 s.H e.2])) n=.unk
   have hne:n≠q.pk:=fun e=>by subst e;have:T.K q.pk=false:=hn;rw [S.kpk] at this;cases this
   rw [zk.get_put,if_neg hne,zk.get_frz,r.env.perK n hn];rfl
 have kP:∀ {a4:Act} {w4:World} {F4:Nat→Prop} {m4:zR},vE A.glob T' nt w (fun b=>F b∨m.has b) (fun _=>.unk) [] d0' s2 a4 w4 F4 m4→zf5 T nt d0 F m s q blk clock w1 (seen.push x.born) s2 a4 w4:=by
  intro a4 w4 F4 m4 I4
  have hno:∀ b,¬ zR.has (fun _=>Loc.unk) b:=by rintro b ⟨_,_,_,_,h⟩;cases h
  have g:=I4.grow
  have hp:kR w w4:=⟨g.heap,fun b hb=>g.old b hb (hno b),g.os,g.tape,g.output,g.froz⟩
  have hfix:∀ n,(T.fix n|| !w7 n q.W)=true→n≠q.pk→a4.tmps.getD n undef=a.tmps.getD n undef:=fun n h1 h2=>by
   have:=I4.defers.slots n h1
   rw [this]
   show a3.tmps.getD n undef=_
   rw [hget,if_neg h2]
  refine ⟨r.past.trans hp,Nat.lt_of_lt_of_le r.lt hp.size,(hp.heap _ r.lt).trans r.iter,I4.env.size,fun n hn=>?_,fun n hn=>zkw hn (I4.env.per n),fun n hn=>I4.env.perK n hn,⟨?_,fun n hn=>?_⟩,?_⟩
  ·rw [hfix n (by simp [hn]) fun e=>by subst e;rw [hpkW] at hn;cases hn]
   exact r.env.per n
  ·exact I4.defers.defers.trans ((Act.put_defers' a _ _).trans r.st.defers)
  ·rw [hfix n (by simp [hn]) fun e=>by subst e;rw [S.fpk] at hn;cases hn]
   exact r.st.slots n hn
  ·rw [hfix q.it (by simp [hitW]) hitpk]
   exact r.itv
 have hsz:q.ops3.size=q.rest.length+1:=by rw [←Array.length_toList,S.o3];rfl
 have hat:∀ j,q.ops3[j]?=(eno::q.rest)[j]?:=fun j=>by rw [←S.o3,Array.getElem?_toList]
 refine wp_block (wp_seq (wp_region ?_))
 rw [List.range_eq_range',hsz,List.range'_succ]
 refine UA (o:=eno) (v:=.tuple #[x.key,x.val]) (w':=w) (hat 0) S.eno.2.2 ?_ ?_
 ·have hev:a.eval (.tmp q.it)=.pointer (some ⟨w1.heap.size,0,none⟩):=r.itv
  have:=run_entry_at (P:=P) w w1.heap.size blk clock seen xs.toArray clock x r.iter ((r.past.heap blk hbl).trans hblk) (by simpa using List.mem_of_getElem? h2) (by simpa using hn)
  simp [execOp,S.eno.2.1,hev,this]
 rw [S.eno.1]
 cases k with
 |zero=>simp [ev] at he
 |succ k=>
  rw [Qy] at he
  cases hsq:ev A k (.seq (.region false ras) ab) (wX q.pk s e) with
  |none=>simp [hsq] at he
  |some y=>
   obtain ⟨e3,s3⟩:=y
   rw [hsq] at he
   have hQ':∀ a4 w4 F4 m4,vE A.glob T' nt w (fun b=>F b∨m.has b) (fun _=>.unk) [] d0' s3 a4 w4 F4 m4→Exit.inBlock q.nxt Q e3.up a4 w4:=by
    intro a4 w4 F4 m4 I4
    cases e3 with
    |normal=>simp only [Option.some.injEq,Prod.mk.injEq] at he;obtain ⟨rfl,rfl⟩:=he;exact hQ a4 w4 (kP I4)
    |ret=>simp only [Option.some.injEq,Prod.mk.injEq] at he;obtain ⟨rfl,rfl⟩:=he;exact hQ a4 w4 (kP I4)
    |exit id'=>
     simp only at he
     split at he
     ·rename_i hbq
      have:=Nat.eq_of_beq_eq_true hbq
      simp only [Option.some.injEq,Prod.mk.injEq] at he;obtain ⟨rfl,rfl⟩:=he
      simp only [zp.up,Exit.inBlock,this,if_true]
      exact hQ a4 w4 (kP I4)
     ·rename_i hbq
      have:id'≠q.nxt:=fun e=>by subst e;simp at hbq
      simp only [Option.some.injEq,Prod.mk.injEq] at he;obtain ⟨rfl,rfl⟩:=he
      simp only [zp.up,Exit.inBlock,this,if_false]
      exact hQ a4 w4 (kP I4)
   cases k with
   |zero=>simp [ev] at hsq
   |succ k=>
    rw [Qz] at hsq
    cases k with
    |zero=>simp [ev] at hsq
    |succ k=>
     rw [XP] at hsq
     cases hop:vH A.glob ⟨Zm A k,Zn A k⟩ ras { wX q.pk s e with reg:=[] } with
     |none=>rw [hop] at hsq;simp at hsq
     |some s4=>
      rw [hop] at hsq
      simp only at hsq
      refine zku (T:=T') (as:=ras) (st:=wX q.pk s e) hcl hras' (fun j o hj=>by rw [hat,show 0+1+j=j+1 by omega];exact hj) (Yy (zlj (show k≤n by omega)) hop) hI fun a5 w5 F5 m5 I5=>?_
      exact hc q.code ab _ s3 e3 T' nt hab' (zap (by omega) hsq) w _ _ [] d0' a5 w5 F5 m5 hR I5.clear _ hQ'
end
end
end
section
theorem zgL {P:Program} {o:Oper} {a:Act} {w:World} {x i:Nat} (ho:o.op=.extract (.tmp x) i) {vs:Array Value} (hx:a.tmps.getD x undef=.tuple vs) {v:Value} (hv:vs[i]?=some v):(execOp a.eval o).run P w=.ok (.value v) w:=by
 have:a.eval (.tmp x)=.tuple vs:=hx
 simp [execOp,ho,this,Instr.extract,hv]
section
variable {P:Program} {T:ye} {nt:Nat} {w0:World} {F0:Nat→Prop} {m0:zR} {H0:zd} {d0:jV}
variable {F:Nat→Prop} {m:zR} {s:St} {q:ue} {blk clock:Nat} {w1:World} {seen:Array Nat} {a:Act} {w:World}
theorem zbl.move {a':Act} {w':World} {seen':Array Nat} (r:zbl T nt d0 F m s q blk clock w1 seen a w) (hp:kR w1 w') (hl:w1.heap.size<w'.heap.size) (hi:w'.heap[w1.heap.size]?=some (.mapIter (some blk) clock seen' clock))
  (hE:vP T nt (zn w1 F m (zr s.H)) s a') (hS:UW T d0 a') (hv:a'.tmps.getD q.it undef=a.tmps.getD q.it undef):zbl T nt d0 F m s q blk clock w1 seen' a' w':=⟨hp,hl,hi,hE,hS,hv.trans r.itv⟩
theorem zmB {A:xp} {n:Nat} (hcl:VW P A.glob ⟨Zm A n,Zn A n⟩) (hc:YV P A n) {ca cb:Code} {id1 id2 out:Nat} {ops1 ops2:Array Oper} {ro nxo exo eno:Oper} {xT:TypeId} (S:zf8 T ca cb q id1 id2 out ops1 ops2 ro nxo exo eno xT) (sl:zdg P nt q xT)
  {ras:List zC} {ab:AC} (hras:wl P T nt q.ops3 q.rest=some ras) (hab:yW P T nt q.code=some ab) {a1:Act} (I:vE A.glob T nt w0 F0 m0 H0 d0 s a1 w1 F m) (hreg:s.reg=[]) {es:List (PV×PV)} {xs:List MapEntry} (hblk:w1.heap[blk]?=some (.map xs.toArray clock)) (hlen:xs.length=es.length)
  (hk:∀ (i:Nat) (e:PV×PV) (x:MapEntry),es[i]?=some e→xs[i]?=some x→zn w1 F m (zr s.H) e.1 x.key) (hv:∀ (i:Nat) (e:PV×PV) (x:MapEntry),es[i]?=some e→xs[i]?=some x→zn w1 F m (zr s.H) e.2 x.val) (hn:(xs.map (·.born)).Nodup) (hold:∀ x∈xs,x.born<clock)
  {j:Nat} (hjn:j≤n) {ae:zp} {st':St} (hres:jN q.W s (es.map fun e=>ev A j (.block q.nxt (.seq (.region false ras) ab)) (wX q.pk s e))=some (ae,st'))
  (Q:Exit→Act→World→Prop) (hQ:∀ a4 w4 F4 m4,vE A.glob T nt w0 F0 m0 H0 d0 st' a4 w4 F4 m4→Q ae.up a4 w4):
  ∀ (k:Nat) (seen:Array Nat) (a:Act) (w:World),zbl T nt d0 F m s q blk clock w1 seen a w→(leftOf xs.toArray seen).size<k→
   (∀ (i:Nat) (e:PV×PV) (x:MapEntry),es[i]?=some e→xs[i]?=some x→x.born∈seen.toList→ku q.W s (ev A j (.block q.nxt (.seq (.region false ras) ab)) (wX q.pk s e)))→
   Code.rounds P (.seq (.region id2 ops2 false) (.seq (.cond (.tmp q.more) .skip (.exit out)) (.block q.nxt (.seq (.region q.id3 q.ops3 false) q.code)))) (Exit.inBlock out Q) k a w:=by
 have hbl:blk<w1.heap.size:=(Array.getElem?_eq_some_iff.1 hblk).1
 have hap:=S.apart
 have hit:∀ d,d∈q.nx::q.more::q.pk::(q.rest.filterMap (·.dst)++wI q.code)→q.it≠d:=fun d hd e=>by
  subst e
  rw [ut.2 hd] at hap;cases hap
 have hnx:q.it≠q.nx:=hit _ (by simp)
 have hmore:q.it≠q.more:=hit _ (by simp)
 have hsz2:ops2.size=2:=by rw [←Array.length_toList,S.o2];rfl
 have hat2:∀ j,ops2[j]?=[nxo,exo][j]?:=fun j=>by rw [←S.o2,Array.getElem?_toList]
 have hspec:=zk4 hres
 intro k
 induction k with
 |zero=>intro seen a w _ h;omega
 |succ k ih=>
  intro seen a w r hlt hpass
  rw [rounds_succ]
  refine wp_seq (wp_region ?_)
  rw [hsz2,show List.range 2=[0,1] from rfl]
  have hit':a.eval (.tmp q.it)=.pointer (some ⟨w1.heap.size,0,none⟩):=r.itv
  have hblkw:w.heap[blk]?=some (.map xs.toArray clock):=(r.past.heap blk hbl).trans hblk
  have two:∀ (u v:Value),vP T nt (zn w1 F m (zr s.H)) s ((a.put (some q.nx) u).put (some q.more) v)∧UW T d0 ((a.put (some q.nx) u).put (some q.more) v)∧((a.put (some q.nx) u).put (some q.more) v).tmps.getD q.it undef=a.tmps.getD q.it undef∧
    (a.put (some q.nx) u).tmps.getD q.nx undef=u∧((a.put (some q.nx) u).put (some q.more) v).tmps.getD q.more undef=v:=by
   intro u v
   have e1:=r.env.putU zn.unk' sl.nx S.knx hreg u
   have z1:q.nx<a.tmps.size:=by rw [r.env.size];exact sl.nx
   have z2:q.more<(a.put (some q.nx) u).tmps.size:=by rw [e1.size];exact sl.more
   refine ⟨e1.putU zn.unk' sl.more S.kmore hreg v,(r.st.put (fun n e=>by cases e;exact S.fnx) u).put (fun n e=>by cases e;exact S.fmore) v,?_,?_,?_⟩
   ·rw [JB z2,if_neg hmore,JB z1,if_neg hnx]
   ·rw [JB z1,if_pos rfl]
   ·rw [JB z2,if_pos rfl]
  rcases run_next_at (P:=P) w nxo.type w1.heap.size blk clock clock seen xs.toArray clock r.iter hblkw (by simpa using hold) (Nat.le_refl _) with ⟨h0,hrun⟩|⟨x,hx,w',hw',hrun⟩
  ·
   obtain ⟨t1,t2,t3,t4,t5⟩:=two (.tuple #[.bool false]) (.bool false)
   refine UA (o:=nxo) (v:=.tuple #[.bool false]) (w':=w) (hat2 0) S.nxo.2.2 (by simp [execOp,S.nxo.2.1,hit',hrun]) ?_
   rw [S.nxo.1]
   refine UA (o:=exo) (v:=.bool false) (w':=w) (hat2 1) S.exo.2.2 (zgL S.exo.2.1 t4 rfl) ?_
   rw [S.exo.1]
   refine wp_seq (wp_cond_false t5 (wp_exit ?_))
   simp only [Exit.then,Exit.inBlock,if_true]
   have r':zbl T nt d0 F m s q blk clock w1 seen _ w:=r.move r.past r.lt r.iter t1 t2 t3
   rcases hspec with ⟨_,e⟩|⟨e,_⟩
   ·injection e with e1 e2
    subst e1
    have:st'=s:=by rw [e2];cases s;cases hreg;rfl
    subst this
    exact hQ _ _ _ _ (r'.back I)
   ·refine absurd (fun y hy=>?_) e
    obtain ⟨e0,he0,rfl⟩:=List.mem_map.1 hy
    obtain ⟨i,hi,hie⟩:=List.getElem_of_mem he0
    have hix:i<xs.length:=by omega
    have h2:xs[i]?=some xs[i]:=List.getElem?_eq_getElem hix
    refine hpass i e0 xs[i] (by rw [List.getElem?_eq_getElem hi,hie]) h2 (Classical.byContradiction fun hne=>?_)
    have:xs[i]∈(leftOf xs.toArray seen).toList:=zif.2 ⟨by simp,hne⟩
    have hp:=List.length_pos_of_mem this
    simp only [Array.length_toList] at hp
    omega
  ·
   obtain ⟨t1,t2,t3,t4,t5⟩:=two (.tuple #[.bool true,x.key,x.val]) (.bool true)
   refine UA (o:=nxo) (v:=.tuple #[.bool true,x.key,x.val]) (w':=setBlock w' w1.heap.size (.mapIter (some blk) clock (seen.push x.born) clock)) (hat2 0) S.nxo.2.2 (by simp [execOp,S.nxo.2.1,hit',hrun]) ?_
   rw [S.nxo.1]
   refine UA (o:=exo) (v:=.bool true) (w':=setBlock w' w1.heap.size (.mapIter (some blk) clock (seen.push x.born) clock)) (hat2 1) S.exo.2.2 (zgL S.exo.2.1 t4 rfl) ?_
   rw [S.exo.1]
   refine wp_seq (wp_cond_true t5 (wp_skip ?_))
   have hp':kR w w'∧w'.heap=w.heap:=by
    rcases hw' with rfl|rfl
    ·exact ⟨kR.refl _,rfl⟩
    ·exact ⟨kR.drew w,rfl⟩
   have hi':w'.heap[w1.heap.size]?=some (.mapIter (some blk) clock seen clock):=by rw [hp'.2];exact r.iter
   have hl':w1.heap.size<w'.heap.size:=by rw [hp'.2];exact r.lt
   have r':zbl T nt d0 F m s q blk clock w1 (seen.push x.born) ((a.put (some q.nx) (.tuple #[.bool true,x.key,x.val])).put (some q.more) (.bool true)) (setBlock w' w1.heap.size (.mapIter (some blk) clock (seen.push x.born) clock)):=
    r.move ((r.past.trans hp'.1).step (Nat.le_refl _) hi' _ _) (by show _<(w'.heap.setIfInBounds _ _).size;simpa using hl') (by show (w'.heap.setIfInBounds _ _)[_]?=_;simp [hl']) t1 t2 t3
   have hxl:x∈xs:=by simpa using (zif.1 hx).1
   obtain ⟨i,hi,hix⟩:=List.getElem_of_mem hxl
   have hie:i<es.length:=by omega
   have g1:es[i]?=some es[i]:=List.getElem?_eq_getElem hie
   have g2:xs[i]?=some x:=by rw [List.getElem?_eq_getElem hi,hix]
   have hmem:ev A j (.block q.nxt (.seq (.region false ras) ab)) (wX q.pk s es[i])∈es.map fun e=>ev A j (.block q.nxt (.seq (.region false ras) ab)) (wX q.pk s e):=List.mem_map.2 ⟨es[i],by simp,rfl⟩
   obtain ⟨⟨e2,s2⟩,hev⟩:=Vy hres _ hmem
   refine zqi hcl hc S sl hras hab I hblk hk hv hn g1 g2 r' hjn hev _ fun a4 w4 h4=>?_
   have hpl:ku q.W s (some (e2,s2))∨J8 q.W s (ae,st') (some (e2,s2)):=by
    rw [←hev]
    rcases hspec with ⟨h,_⟩|⟨_,h⟩
    ·exact .inl (h _ hmem)
    ·exact h _ hmem
   have hnew:∀ (i':Nat) (e':PV×PV) (x':MapEntry),es[i']?=some e'→xs[i']?=some x'→ku q.W s (some (e2,s2))→x'.born∈(seen.push x.born).toList→ku q.W s (ev A j (.block q.nxt (.seq (.region false ras) ab)) (wX q.pk s e')):=by
    intro i' e' x' k1 k2 hp hm
    simp only [Array.toList_push,List.mem_append,List.mem_singleton] at hm
    rcases hm with hm|hm
    ·exact hpass i' e' x' k1 k2 hm
    ·have hii:i'=i:=by
      have hi1:i'<xs.length:=(List.getElem?_eq_some_iff.1 k2).1
      have q1:(xs.map (·.born))[i']?=some x.born:=by rw [List.getElem?_map,k2];simp [hm]
      have q2:(xs.map (·.born))[i]?=some x.born:=by rw [List.getElem?_map,g2];rfl
      exact (List.getElem?_inj (by simpa using hi1) hn).1 (q1.trans q2.symm)
     subst hii
     rw [g1] at k1;injection k1 with k1;subst k1
     rw [hev];exact hp
   rcases hpl with hp|hp
   ·cases e2 with
    |normal=>exact ih _ a4 w4 (h4.pass I.env.perK hreg hp) (by have:=zn0 hx;omega) fun i' e' x' k1 k2 hm=>hnew i' e' x' k1 k2 hp hm
    |exit _=>exact hp.elim
    |ret=>exact hp.elim
   ·cases e2 with
    |ret=>
     have hp:(ae,st')=(.ret,zca q.W s s2):=hp
     injection hp with p1 p2
     subst p1;subst p2
     exact hQ _ _ _ _ (h4.left I)
    |exit _=>exact hp.elim
    |normal=>exact hp.elim
theorem zn_ {A:xp} {n:Nat} (hcl:VW P A.glob ⟨Zm A n,Zn A n⟩) (hc:YV P A n) {ca cb:Code} {x y r:AC} (hx:yW P T nt ca=some x) (hy:yW P T nt cb=some y) (hr:kl T ca cb x y=some r) {st st':St} {ae:zp} (he:ev A (n+1) r st=some (ae,st')) (R0:yl A.glob w0 F0 m0 H0)
  {a:Act} {w:World} {F:Nat→Prop} {m:zR} (I:vE A.glob T nt w0 F0 m0 H0 d0 st a w F m) (Q:Exit→Act→World→Prop) (hQ:∀ a1 w1 F1 m1,vE A.glob T nt w0 F0 m0 H0 d0 st' a1 w1 F1 m1→Q ae.up a1 w1):(Code.seq ca cb).wp P Q a w:=by
 obtain ⟨q,id1,id2,out,ops1,ops2,ro,nxo,exo,eno,xT,pas,ras,ab,S,hpas,hras,hab,sl,rfl⟩:=zn9 hx hy hr
 rw [S.a,S.b]
 rw [Qz] at he
 cases n with
 |zero=>simp [ev] at he
 |succ n=>
  rw [XP] at he
  cases hop:vH A.glob ⟨Zm A n,Zn A n⟩ pas { st with reg:=[] } with
  |none=>rw [hop] at he;simp at he
  |some s1=>
   rw [hop] at he
   simp only at he
   rw [zaq] at he
   split at he
   ·rename_i es hes
    have hsz1:ops1.size=q.pre.length+1:=by rw [←Array.length_toList,S.o1];simp
    have hat1:∀ j,ops1[j]?=(q.pre++[ro])[j]?:=fun j=>by rw [←S.o1,Array.getElem?_toList]
    refine wp_seq (wp_region ?_)
    rw [List.range_eq_range',hsz1,List.range'_concat]
    refine zdD (as:=pas) hcl hpas (fun k o hk=>by rw [hat1,Nat.zero_add,List.getElem?_append_left (List.getElem?_eq_some_iff.1 hk).1];exact hk) (Yy (zlj (Nat.le_succ n)) hop) I.clear fun a1 w1 F1 m1 I1'=>?_
    have I1:=I1'.clear
    have hmap:∃ id blk,s1.per.get q.x=.mp id∧s1.H[id]?=some (.map es)∧a1.tmps.getD q.x undef=.map (some blk)∧zdf w1 (zn w1 F1 m1 (zr s1.H)) blk es:=by
     have hxr:=I1.env.per q.x
     have hes:U6 s1.H (s1.per.get q.x)=some es:=hes
     simp only at hxr
     generalize a1.tmps.getD q.x undef=v0 at hxr ⊢
     cases hp:s1.per.get q.x with
     |mp id=>
      rw [hp] at hes hxr
      simp only [U6] at hes
      split at hes
      ·rename_i es' hH
       injection hes with hes;subst hes
       have hl:=QI hH
       cases hxr with
       |froz _ _ h=>cases h
       |mp _ blk hm hL=>
        refine ⟨id,blk,rfl,hH,rfl,?_⟩
        rcases I1.rel.maps id es' hH with h|⟨b,h1,h2⟩
        ·rw [hm] at h;cases h
        ·rw [hm] at h1;injection h1 with h1;subst h1;exact h2
       |mpOld _ r hm hL=>omega
      ·cases hes
     |_=>rw [hp] at hes;simp [U6] at hes
    obtain ⟨id,blk,hid,hH,hxv,hM⟩:=hmap
    obtain ⟨xs,clock,hblk,hlen,hk,hv⟩:=hM.cur
    obtain ⟨hn,hold⟩:=hM.born _ _ hblk
    obtain ⟨kt,et,hu⟩:=sl.ty
    have hev:a1.eval (.tmp q.x)=.map (some blk):=hxv
    refine UA (o:=ro) (v:=.pointer (some ⟨w1.heap.size,0,none⟩)) (w':=w1.alloc (.mapIter (some blk) clock #[] clock)) (by rw [hat1];simp) S.ro.2.2 (by simp [execOp,S.ro.2.1,hev,run_range_map w1 xT kt et blk xs.toArray clock hu hblk]) ?_
    rw [S.ro.1]
    refine wp_block (wp_loop_rounds (es.length+1) ?_)
    have hit:q.it<a1.tmps.size:=by rw [I1.env.size];exact sl.it
    refine zmB hcl hc S sl hras hab I1 rfl hblk hlen hk hv (by simpa using hn) (by simpa using hold) (Nat.le_succ n) he Q hQ (es.length+1) #[] _ _ ⟨kR.alloc_iter ..,by show _<(w1.heap.push _).size;simp,by show (w1.heap.push _)[_]?=_;simp,I1.env.putU zn.unk' sl.it S.kit rfl _,I1.defers.put (fun n e=>by cases e;exact S.fit) _,by rw [JB hit,if_pos rfl]⟩ (by have:=zrW xs.toArray #[];simp at this;simp;omega) fun i e x _ _ h=>by simp at h
   ·cases he
end
end
end Go.Av
end
section
namespace Go.Av
open Go
section
section
variable {P:Program} {G:Nat→Option (List PV)} {T:ye} {nt:Nat} {w0:World} {F0:Nat→Prop} {m0:zR} {H0:zd} {d0:jV}
theorem zrh (hm:P.follows .mixedOrders=true) {A:xp} {n:Nat} (hcl:VW P A.glob ⟨Zm A n,Zn A n⟩) (hc:YV P A n) (hl:zhA P A (n+1)):YV P A (n+1):=by
 intro c ac st st' ae T nt ht he w0 F0 m0 H0 d0 a w F m R0 I Q hQ
 cases c with
 |skip=>
  simp only [yW,Option.some.injEq] at ht;subst ht
  rw [zwe] at he
  simp only [Option.some.injEq,Prod.mk.injEq] at he;obtain ⟨rfl,rfl⟩:=he
  exact wp_skip (hQ a w F m I)
 |exit id=>
  simp only [yW,Option.some.injEq] at ht;subst ht
  simp only [ev,Option.some.injEq,Prod.mk.injEq] at he;obtain ⟨rfl,rfl⟩:=he
  exact wp_exit (hQ a w F m I)
 |ret=>
  simp only [yW,Option.some.injEq] at ht;subst ht
  simp only [ev,Option.some.injEq,Prod.mk.injEq] at he;obtain ⟨rfl,rfl⟩:=he
  exact wp_ret (hQ a w F m I)
 |region id ops draw=>
  simp only [yW] at ht
  split at ht
  ·rename_i as has
   obtain ⟨hlen,hops⟩:=zfM has
   cases draw with
   |false=>
    simp only [Option.some.injEq] at ht;subst ht
    rw [XP] at he
    split at he
    ·rename_i st1 h1
     simp only [Option.some.injEq,Prod.mk.injEq] at he;obtain ⟨rfl,rfl⟩:=he
     refine wp_region ?_
     rw [List.range_eq_range', ←Array.length_toList]
     exact zku hcl has (fun k o hk=>by simpa using hk) h1 I.clear fun a1 w1 F1 m1 I1=>hQ a1 w1 F1 m1 I1.clear
    ·cases he
   |true=>
    simp only at ht
    split at ht
    ·rename_i hok
     simp only [Option.some.injEq] at ht;subst ht
     rw [XP] at he
     split at he
     ·rename_i st1 h1
      simp only [Option.some.injEq,Prod.mk.injEq] at he;obtain ⟨rfl,rfl⟩:=he
      have hsp:=zbN (ms:=Xo ops.toList []) (as:=as) (i:=0) (ys:=as)
      refine wp_region_any hm (zpr hcl (by rw [hsp.1,hlen,Array.length_toList]) (fun i o ao hi ha=>?_) hok h1 (w:={ w with drawn:=w.drawn+1 }) (F:=F) (m:=m) ?_ fun a1 w1 F1 m1 I1=>hQ a1 w1 F1 m1 I1.clear)
      ·obtain ⟨x,k1,k2,k3,k4⟩:=hsp.2 i ao ha
       have:=hops i o x (by simpa using hi) k1
       exact ⟨by rw [k2];exact this.op,by rw [k3];exact this.dst,by rw [k4];exact this.guard,this.fix⟩
      ·obtain ⟨R1,g1,_⟩:=I.rel.world (w':={ w with drawn:=w.drawn+1 }) (F':=F) (Nat.le_refl _) (fun _ _=>rfl) ⟨rfl,rfl,rfl,fun _=>rfl⟩ (fun _ h=>h) (fun _ h=>.inl h) I.rel.ltF
       exact (⟨R1,I.env.mono fun p v h=>h.grow I.rel g1,I.grow.trans g1,I.fwd,I.defers⟩:vE A.glob T nt w0 F0 m0 H0 d0 st a _ F m).clear
     ·cases he
    ·cases ht
  ·cases ht
 |seq x y=>
  simp only [yW] at ht
  split at ht
  ·rename_i ax ay hx hy
   simp only [Option.some.injEq] at ht;subst ht
   cases hr:kl T x y ax ay with
   |some r=>rw [hr] at he;exact zn_ hcl hc hx hy hr he R0 I Q hQ
   |none=>
   rw [hr] at he
   simp only at he
   rw [Qz] at he
   cases ha:ev A n ax st with
   |none=>simp [ha] at he
   |some r=>
    obtain ⟨e,st1⟩:=r
    rw [ha] at he
    refine wp_seq (hc x ax st st1 e T nt hx ha w0 F0 m0 H0 d0 a w F m R0 I _ fun a1 w1 F1 m1 I1=>?_)
    cases e with
    |normal=>exact hc y ay st1 st' ae T nt hy he w0 F0 m0 H0 d0 a1 w1 F1 m1 R0 I1 Q hQ
    |exit id=>simp only [Option.some.injEq,Prod.mk.injEq] at he;obtain ⟨rfl,rfl⟩:=he;exact hQ a1 w1 F1 m1 I1
    |ret=>simp only [Option.some.injEq,Prod.mk.injEq] at he;obtain ⟨rfl,rfl⟩:=he;exact hQ a1 w1 F1 m1 I1
  ·cases ht
 |cond b x y=>
  simp only [yW] at ht
  split at ht
  ·rename_i b' ax ay hb hx hy
   simp only [Option.some.injEq] at ht;subst ht
   rw [zb4] at he
   split at he
   ·rename_i t hbt
    have hv:=yd I.rel I.env hb
    rw [hbt] at hv
    have hv:=bool_inv hv
    cases t with
    |true=>exact wp_cond_true hv (hc x ax _ st' ae T nt hx he w0 F0 m0 H0 d0 a w F m R0 (zh8 I) Q hQ)
    |false=>exact wp_cond_false hv (hc y ay _ st' ae T nt hy he w0 F0 m0 H0 d0 a w F m R0 (zh8 I) Q hQ)
   ·cases he
  ·cases ht
 |block id b=>
  simp only [yW] at ht
  split at ht
  ·rename_i ab hb
   simp only [Option.some.injEq] at ht;subst ht
   rw [Qy] at he
   cases ha:ev A n ab st with
   |none=>simp [ha] at he
   |some r=>
    obtain ⟨e,st1⟩:=r
    rw [ha] at he
    refine wp_block (hc b ab st st1 e T nt hb ha w0 F0 m0 H0 d0 a w F m R0 I _ fun a1 w1 F1 m1 I1=>?_)
    cases e with
    |normal=>simp only [Option.some.injEq,Prod.mk.injEq] at he;obtain ⟨rfl,rfl⟩:=he;exact hQ a1 w1 F1 m1 I1
    |ret=>simp only [Option.some.injEq,Prod.mk.injEq] at he;obtain ⟨rfl,rfl⟩:=he;exact hQ a1 w1 F1 m1 I1
    |exit id'=>
     simp only at he
     split at he
     ·rename_i hbq
      have:=Nat.eq_of_beq_eq_true hbq
      simp only [Option.some.injEq,Prod.mk.injEq] at he;obtain ⟨rfl,rfl⟩:=he
      simp only [zp.up,Exit.inBlock,this,if_true]
      exact hQ a1 w1 F1 m1 I1
     ·rename_i hbq
      have:id'≠id:=fun e=>by subst e;simp at hbq
      simp only [Option.some.injEq,Prod.mk.injEq] at he;obtain ⟨rfl,rfl⟩:=he
      simp only [zp.up,Exit.inBlock,this,if_false]
      exact hQ a1 w1 F1 m1 I1
  ·cases ht
 |loop b=>
  simp only [yW] at ht
  split at ht
  ·rename_i ab hb
   simp only [Option.some.injEq] at ht;subst ht
   exact wp_loop_rounds (n+1) (hl b ab st st' ae T nt hb he w0 F0 m0 H0 d0 a w F m R0 I Q hQ)
  ·cases ht
 |_=>simp [yW] at ht
end
end
section
section
variable {P:Program} {G:Nat→Option (List PV)} {T:ye} {nt:Nat} {w0:World} {F0:Nat→Prop} {m0:zR} {H0:zd} {d0:jV}
def QU (tmps:Array Value):ResultVar→Sem Value
 |.tmp t=>pure (tmps.getD t undef)
 |.cell a t=>do loadVar t (←asAddr (tmps.getD a undef))
theorem zqr (fn:Func) (tmps:Array Value):Go.results fn tmps=(do
  let vs←fn.results.mapM (QU tmps)
  pure (if h:vs.size=1 then vs[0] else .tuple vs)):=rfl
theorem zmN {w:World} {α:Type} {f:α→Sem Value}:∀ {l:List α} {vs:List Value},vs.length=l.length→(∀ (i:Nat) (x:α) (v:Value),l[i]?=some x→vs[i]?=some v→(f x).run P w=.ok v w)→(l.mapM f).run P w=.ok vs w
 |[],vs,hl,_=>by
  have:vs=[]:=by cases vs<;>simp_all
  subst this;simp
 |x::l,vs,hl,h=>by
  cases vs with
  |nil=>simp at hl
  |cons v vs=>
   have h0:=h 0 x v rfl rfl
   have hr:=zmN (l:=l) (vs:=vs) (by simpa using hl) fun i x v hi hv=>h (i+1) x v (by simpa using hi) (by simpa using hv)
   simp [List.mapM_cons,h0,hr]
theorem zw6 {st:St} {a:Act} {w:World} {F:Nat→Prop} {m:zR} (I:vE G T nt w0 F0 m0 H0 d0 st a w F m) {r:ResultVar} {rs:List ResultVar} {ar:jd} {ars:List jd} (ht:YE P T (r::rs)=some (ar::ars)) {v:PV} (hv:ar.get st=some v):
  YE P T rs=some ars∧∃ cv,(QU a.tmps r).run P w=.ok cv w∧zn w F m (zr st.H) v cv:=by
 cases r with
 |tmp t=>
  simp only [YE] at ht
  split at ht
  ·rename_i xs hk hx
   simp only [Option.some.injEq,List.cons.injEq] at ht
   obtain ⟨rfl,rfl⟩:=ht
   simp only [jd.get,Option.some.injEq] at hv
   subst hv
   exact ⟨hx,_,by simp [QU],I.env.per t⟩
  ·cases ht
 |cell n t=>
  simp only [YE] at ht
  split at ht
  ·rename_i g sz xs hk hg hs hx
   simp only [Option.some.injEq,List.cons.injEq] at ht
   obtain ⟨rfl,rfl⟩:=ht
   refine ⟨hx,?_⟩
   simp only [jd.get] at hv
   split at hv
   ·rename_i cs hc
    obtain ⟨blk,off,hxx,hl⟩:=I.rel.cellsAt hc (I.env.per n)
    obtain ⟨i,hi,hi2⟩:=ui hs
    have ha:=Qa hg w
    obtain ⟨vs,h1,h2,h3⟩:=hl.all2
    rcases Jb (R:=zn w F m (zr st.H)) hv with ⟨rfl,hle,rfl⟩|⟨rfl,h0⟩
    ·have hlc:=run_loadCells_list (P:=P) w ⟨blk,off,none⟩ (vs.take sz) (fun j v hj=>by
      rw [um]
      rw [List.getElem?_take] at hj
      split at hj
      ·exact h3 j v hj
      ·cases hj)
     rw [List.length_take,Nat.min_eq_left (by rw [h1.1];exact hle)] at hlc
     exact ⟨.agg (vs.take sz).toArray,by simp [QU,asAddr,hxx,loadVar,ha,sizeOf,typeInfo,hi,hi2,hlc],.agg _ _ (h1.take sz).1 (fun u hu=>h2 u (List.mem_of_mem_take hu)) (h1.take sz).2⟩
    ·obtain ⟨u,hu,hr⟩:=h1.get h0
     have:=h3 0 u hu
     rw [Nat.add_zero] at this
     exact ⟨u,by simp [QU,asAddr,hxx,loadVar,ha,this],hr⟩
   ·cases hv
  ·cases ht
theorem zgK {st:St} {a:Act} {w:World} {F:Nat→Prop} {m:zR} (I:vE G T nt w0 F0 m0 H0 d0 st a w F m):∀ {rs:List ResultVar} {ars:List jd} {vs:List PV},YE P T rs=some ars→results st ars=some vs→
  ∃ cvs:List Value,cvs.length=rs.length∧(∀ (i:Nat) (x:ResultVar) (v:Value),rs[i]?=some x→cvs[i]?=some v→(QU a.tmps x).run P w=.ok v w)∧yP (zn w F m (zr st.H)) vs cvs
 |[],ars,vs,ht,hv=>by
  simp only [YE,Option.some.injEq] at ht
  subst ht
  simp only [results,Option.some.injEq] at hv
  subst hv
  exact ⟨[],rfl,by simp,yP.nil⟩
 |r::rs,[],vs,ht,hv=>by
  cases r<;>simp only [YE] at ht<;>split at ht<;>cases ht
 |r::rs,ar::ars,vs,ht,hv=>by
  simp only [results] at hv
  split at hv
  ·rename_i v vs' h1 h2
   injection hv with hv
   subst hv
   obtain ⟨k1,cv,k2,k3⟩:=zw6 I ht h1
   obtain ⟨cvs,e1,e2,e3⟩:=zgK I k1 h2
   refine ⟨cv::cvs,by simp [e1],fun i x v hi hv=>?_,yP.cons k3 e3⟩
   cases i with
   |zero=>simp only [List.getElem?_cons_zero,Option.some.injEq] at hi hv;subst hi;subst hv;exact k2
   |succ i=>exact e2 i x v (by simpa using hi) (by simpa using hv)
  ·cases hv
theorem zeg {st:St} {a:Act} {w:World} {F:Nat→Prop} {m:zR} (I:vE G T nt w0 F0 m0 H0 d0 st a w F m) {fn:Func} {ars:List jd} {vs:List PV} (ht:YE P T fn.results.toList=some ars) (hv:results st ars=some vs):
  ∃ cv,(Go.results fn a.tmps).run P w=.ok cv w∧zn w F m (zr st.H) (jp vs) cv:=by
 obtain ⟨cvs,h1,h2,h3⟩:=zgK I ht hv
 have hm:(fn.results.mapM (QU a.tmps)).run P w=.ok cvs.toArray w:=by
  have:=zmN h1 h2
  rw [Array.mapM_eq_mapM_toList]
  simp [this]
 refine ⟨if h:cvs.toArray.size=1 then cvs.toArray[0] else .tuple cvs.toArray,by rw [zqr];simp [hm],?_⟩
 match vs,cvs,h3 with
 |[],[],h3=>exact .tup [] [] rfl h3.2
 |[v],[cv],h3=>simpa [jp] using h3.2 0 v cv rfl rfl
 |v::v'::vs,cv::cv'::cvs,h3=>exact .tup _ (cv::cv'::cvs) h3.1 h3.2
 |[],_::_,h3=>have:=h3.1;simp at this
 |[_],[],h3=>have:=h3.1;simp at this
 |[_],_::_::_,h3=>have:=h3.1;simp at this
 |_::_::_,[],h3=>have:=h3.1;simp at this
 |_::_::_,[_],h3=>have:=h3.1;simp at this
end
theorem zdx:∀ (k:Nat) (args:List PV) (n:Nat),(params k args).get n=if k≤n then (args[n-k]?).getD .unk else .unk
 |k,[],n=>by simp [params,zk.get]
 |k,v::vs,n=>by
  simp only [params,zk.get]
  by_cases h:k=n
  ·subst h;simp
  ·rw [zfx h]
   simp only
   rw [zdx (k+1) vs n]
   by_cases h2:k+1≤n
   ·rw [if_pos h2,if_pos (by omega),show n-k=(n-(k+1))+1 by omega];rfl
   ·rw [if_neg h2,if_neg (by omega)]
def zlx (P:Program) (A:xp):Prop:=∀ f F,A.fn f=some F→∃ fn T c,P.funcs[f]?=some fn∧fn.body=some c∧zj2 P T fn=some F∧XX P f=true
theorem zkE {P:Program} {T:ye} {fn:Func} {c:Code} {F:zJ} (hb:fn.body=some c) (h:zj2 P T fn=some F):yW P T fn.ntmps c=some F.code∧YE P T fn.results.toList=some F.res∧(∀ n,n<F.np→T.K n=true)∧F.np≤fn.ntmps:=by
 unfold zj2 at h
 rw [hb] at h
 simp only at h
 split at h
 ·rename_i x rs h1 h2
  split at h
  ·rename_i hk
   injection h with h
   subst h
   simp only [Bool.and_eq_true] at hk
   refine ⟨h1,h2,fun n hn=>?_,Nat.le_of_ble_eq_true hk.2⟩
   have:=List.all_eq_true.1 hk.1 n (by simpa using hn)
   exact this
  ·cases h
 ·cases h
section
variable {P:Program} {A:xp}
theorem zkD {T:ye} {nt np:Nat} {R:PV→Value→Prop} (hU:∀ x,R .unk x) {args:List PV} {us:List Value} (h:yP R args us) (hn:np=args.length) (hk:∀ n,n<np→T.K n=true) (hle:np≤nt) (H:zd):
  vP T nt R { per:=params 0 args,reg:=[],H:=H,ed:=[] } { tmps:=us.toArray++Array.replicate (nt-us.toArray.size) undef,defers:=[] }:=by
 have hus:us.length=np:=by rw [hn,h.1]
 refine ⟨by simp;omega,fun n=>?_,fun n=>hU _,fun n hn'=>?_,fun n _=>rfl⟩
 ·show R ((params 0 args).get n) _
  rw [zdx]
  simp only [Nat.zero_le,if_true,Nat.sub_zero]
  cases ha:args[n]? with
  |none=>exact hU _
  |some p=>
   have hlt:=(List.getElem?_eq_some_iff.1 ha).1
   obtain ⟨u,hu,hr⟩:=h.get ha
   have hg:(us.toArray++Array.replicate (nt-us.toArray.size) undef).getD n undef=u:=by
    have h1:n<us.length:=by omega
    simp only [Array.getD_eq_getD_getElem?,Array.getElem?_append,List.size_toArray,h1,if_true,List.getElem?_toArray,hu,Option.getD_some]
   rw [hg];exact hr
 ·show (params 0 args).get n=_
  rw [zdx]
  simp only [Nat.zero_le,if_true,Nat.sub_zero]
  cases ha:args[n]? with
  |none=>rfl
  |some p=>
   have hlt:=(List.getElem?_eq_some_iff.1 ha).1
   rw [hk n (by omega)] at hn'
   cases hn'
theorem zsd (hfit:zlx P A) {n:Nat} (hc:YV P A n) {f:Nat} {args:List PV} {v:PV} (he:Zm A (n+1) f args=some v) (w:World) (F:Nat→Prop) (us:List Value) (hargs:yP (RelF w F) args us) (hF:∀ b,F b→b<w.heap.size)
  (hG:∀ g cs,A.glob g=some cs→RelF w F (.fp cs 0) (.pointer (some ⟨g,0,none⟩))):
  Calls P f us.toArray w fun e w'=>∃ cv,e=.returned cv∧w.heap.size≤w'.heap.size∧(∀ b,b<w.heap.size→w'.heap[b]?=w.heap[b]?)∧(w'.os=w.os∧w'.tape=w.tape∧w'.output=w.output∧∀ a,w'.frozen? a=w.frozen? a)∧
   ∃ F',(∀ b,F b→F' b)∧(∀ b,F' b→F b∨w.heap.size≤b)∧(∀ b,F' b→b<w'.heap.size)∧RelF w' F' v cv:=by
 rw [Qw] at he
 split at he
 ·cases he
 ·rename_i AF hAF
  obtain ⟨fn,T,c,h1,h2,h3,h4⟩:=hfit f AF hAF
  obtain ⟨k1,k2,k3,k4⟩:=zkE h2 h3
  split at he
  ·rename_i hnp
   have hnp:AF.np=args.length:=by simpa using hnp
   refine calls_of_wp h1 h2 ?_
   have hno:∀ b,¬ zR.has (fun _=>Loc.unk) b:=by rintro b ⟨id,o,c,s,h⟩;cases h
   have R0:yl A.glob w F (fun _=>.unk) []:=⟨fun _ _ _ _=>.inl rfl,fun _ _ _=>.inl rfl,fun _ _=>rfl,fun _ _ _ _ _ _ _ _ _ h _=>(by cases h),fun b h=>absurd h (hno b),hF,fun b h=>absurd h (hno b),hG⟩
   have I0:vE A.glob T fn.ntmps w F (fun _=>.unk) [] ⟨[],fun n=>(us.toArray++Array.replicate (fn.ntmps-us.toArray.size) undef).getD n undef⟩ { per:=params 0 args,reg:=[],H:=[],ed:=[] } { tmps:=us.toArray++Array.replicate (fn.ntmps-us.toArray.size) undef,defers:=[] } w F (fun _=>.unk):=
    ⟨R0,zkD (R:=zn w F (fun _=>.unk) (zr [])) zn.unk' ⟨hargs.1,fun i p v a b=>.froz _ _ (hargs.2 i p v a b)⟩ hnp k3 k4 [],wo.refl ..,ZT.refl _ _,⟨rfl,fun _ _=>rfl⟩⟩
   have kP:∀ (st:St) (a1:Act) (w1:World) (F1:Nat→Prop) (m1:zR),vE A.glob T fn.ntmps w F (fun _=>.unk) [] ⟨[],fun n=>(us.toArray++Array.replicate (fn.ntmps-us.toArray.size) undef).getD n undef⟩ st a1 w1 F1 m1→(match results st AF.res with|some vs=>some (frz 8 st.H (jp vs))|none=>none)=some v→
     a1.defers=[]∧∃ cv,(Go.results fn a1.tmps).run P w1=.ok cv w1∧∃ cv',Ending.returned cv=.returned cv'∧w.heap.size≤w1.heap.size∧(∀ b,b<w.heap.size→w1.heap[b]?=w.heap[b]?)∧(w1.os=w.os∧w1.tape=w.tape∧w1.output=w.output∧∀ a,w1.frozen? a=w.frozen? a)∧
      ∃ F',(∀ b,F b→F' b)∧(∀ b,F' b→F b∨w.heap.size≤b)∧(∀ b,F' b→b<w1.heap.size)∧RelF w1 F' v cv':=by
    intro st a1 w1 F1 m1 I hv
    split at hv
    ·rename_i vs hvs
     injection hv with hv
     subst hv
     obtain ⟨cv,q1,q2⟩:=zeg (P:=P) I k2 hvs
     have g:=I.grow
     refine ⟨I.defers.defers,cv,q1,cv,rfl,g.heap,fun b hb=>g.old b hb (hno b),⟨g.os,g.tape,g.output,g.froz⟩,fun b=>F1 b∨m1.has b,fun b hb=>.inl (g.sub b hb),fun b hb=>?_,fun b hb=>?_,XQ I.rel 8 q2⟩
     ·rcases hb with hb|hb
      ·exact g.new b hb
      ·exact (g.img b hb).imp (fun h=>absurd h (hno b)) id
     ·rcases hb with hb|hb
      ·exact I.rel.ltF b hb
      ·exact I.rel.lt b hb
    ·cases hv
   cases hev:ev A n AF.code { per:=params 0 args,reg:=[],H:=[],ed:=[] } with
   |none=>rw [hev] at he;cases he
   |some x=>
    obtain ⟨e,st⟩:=x
    rw [hev] at he
    refine hc c AF.code _ st e T fn.ntmps k1 hev w F _ [] _ _ w F _ R0 I0 _ fun a1 w1 F1 m1 I1=>?_
    cases e with
    |normal=>exact kP st a1 w1 F1 m1 I1 he
    |ret=>exact kP st a1 w1 F1 m1 I1 he
    |exit id=>cases he
  ·cases he
theorem zog (hfit:zlx P A) {n:Nat} (hc:YV P A n) {f:Nat} {args:List PV} {H:zd} {v:PV} {H':zd} {ed:zV} (he:Zn A (n+1) f args H=some (v,H',ed)) (w:World) (F:Nat→Prop) (m:zR) (us:List Value) (R0:yl A.glob w F m H)
  (hargs:yP (zn w F m (zr H)) args us):
  Calls P f us.toArray w fun e w'=>∃ cv F' m',e=.returned cv∧yl A.glob w' F' m' H'∧wo w F m H w' F' m' H'∧zn w' F' m' (zr H') v cv∧ZT m' H H' ed:=by
 rw [Qx] at he
 split at he
 ·cases he
 ·rename_i AF hAF
  obtain ⟨fn,T,c,h1,h2,h3,h4⟩:=hfit f AF hAF
  obtain ⟨k1,k2,k3,k4⟩:=zkE h2 h3
  split at he
  ·rename_i hnp
   have hnp:AF.np=args.length:=by simpa using hnp
   refine calls_of_wp h1 h2 ?_
   have I0:vE A.glob T fn.ntmps w F m H ⟨[],fun n=>(us.toArray++Array.replicate (fn.ntmps-us.toArray.size) undef).getD n undef⟩ { per:=params 0 args,reg:=[],H:=H,ed:=[] } { tmps:=us.toArray++Array.replicate (fn.ntmps-us.toArray.size) undef,defers:=[] } w F m:=
    ⟨R0,zkD (R:=zn w F m (zr H)) zn.unk' hargs hnp k3 k4 H,wo.refl ..,ZT.refl _ _,⟨rfl,fun _ _=>rfl⟩⟩
   have kP:∀ (st:St) (a1:Act) (w1:World) (F1:Nat→Prop) (m1:zR),vE A.glob T fn.ntmps w F m H ⟨[],fun n=>(us.toArray++Array.replicate (fn.ntmps-us.toArray.size) undef).getD n undef⟩ st a1 w1 F1 m1→(match results st AF.res with|some vs=>some (jp vs,(trim H.length vs st.H st.ed).1,(trim H.length vs st.H st.ed).2)|none=>none)=some (v,H',ed)→
     a1.defers=[]∧∃ cv,(Go.results fn a1.tmps).run P w1=.ok cv w1∧∃ cv' F' m',Ending.returned cv=.returned cv'∧yl A.glob w1 F' m' H'∧wo w F m H w1 F' m' H'∧zn w1 F' m' (zr H') v cv'∧ZT m' H H' ed:=by
    intro st a1 w1 F1 m1 I hv
    split at hv
    ·rename_i vs hvs
     simp only [Option.some.injEq,Prod.mk.injEq] at hv
     obtain ⟨rfl,rfl,rfl⟩:=hv
     obtain ⟨cv,q1,q2⟩:=zeg (P:=P) I k2 hvs
     obtain ⟨m',t⟩:=ziQ R0 I (Nat.le_refl _) [jp vs]
     have e:∀ n H ed,trim n [jp vs] H ed=trim n vs H ed:=by
      intro n H ed
      have:zt [jp vs]=zt vs:=by
       match vs with
       |[]=>rfl
       |[v]=>rfl
       |v::v'::vs=>simp [zt,jp,refs]
      simp only [trim,this]
     rw [e] at t
     exact ⟨I.defers.defers,cv,q1,cv,F1,m',rfl,t.rel,t.grow,t.val _ _ (by simp) q2,t.fwd⟩
    ·cases hv
   cases hev:ev A n AF.code { per:=params 0 args,reg:=[],H:=H,ed:=[] } with
   |none=>rw [hev] at he;cases he
   |some x=>
    obtain ⟨e,st⟩:=x
    rw [hev] at he
    refine hc c AF.code _ st e T fn.ntmps k1 hev w F m H _ _ w F m R0 I0 _ fun a1 w1 F1 m1 I1=>?_
    cases e with
    |normal=>exact kP st a1 w1 F1 m1 I1 he
    |ret=>exact kP st a1 w1 F1 m1 I1 he
    |exit id=>cases he
  ·cases he
theorem zke (hm:P.follows .mixedOrders=true) (hfit:zlx P A):∀ n,YV P A n∧zhA P A n∧VW P A.glob ⟨Zm A n,Zn A n⟩
 |0=>⟨fun _ _ _ _ _ _ _ _ h=>by simp [ev] at h,fun _ _ _ _ _ _ _ _ h=>by simp [ev] at h,⟨fun _ _ _ h=>by simp [Zm] at h,fun _ _ _ _ h=>by simp [Zn] at h,fun _ _ _ h=>by simp [Zm] at h,fun _ _ _ _ _ _ h=>by simp [Zn] at h⟩⟩
 |n+1=>by
  obtain ⟨h1,h2,h3⟩:=zke hm hfit n
  have hl:=zr5 h1 h2
  refine ⟨zrh hm h3 h1 hl,hl,fun f args v he=>?_,fun f args H v he=>?_,fun f args v he w F us a b c=>zsd hfit h1 he w F us a b c,fun f args H v H' ed he w F m us a b=>zog hfit h1 he w F m us a b⟩
  ·simp only [Qw] at he
   split at he
   ·cases he
   ·rename_i AF hAF
    obtain ⟨_,_,_,_,_,_,h⟩:=hfit f AF hAF
    exact h
  ·simp only [Qx] at he
   split at he
   ·cases he
   ·rename_i AF hAF
    obtain ⟨_,_,_,_,_,_,h⟩:=hfit f AF hAF
    exact h
theorem zsS (hm:P.follows .mixedOrders=true) (hfit:zlx P A) {f:Nat} {args:List PV} {v:PV} (he:EP A f args=some v) (w:World) (F:Nat→Prop) (us:List Value) (hargs:yP (RelF w F) args us) (hF:∀ b,F b→b<w.heap.size)
  (hG:∀ g cs,A.glob g=some cs→RelF w F (.fp cs 0) (.pointer (some ⟨g,0,none⟩))):
  Calls P f us.toArray w fun e w'=>∃ cv,e=.returned cv∧w.heap.size≤w'.heap.size∧(∀ b,b<w.heap.size→w'.heap[b]?=w.heap[b]?)∧(w'.os=w.os∧w'.tape=w.tape∧w'.output=w.output∧∀ a,w'.frozen? a=w.frozen? a)∧
   ∃ F',(∀ b,F b→F' b)∧(∀ b,F' b→F b∨w.heap.size≤b)∧(∀ b,F' b→b<w'.heap.size)∧RelF w' F' v cv:=by
 obtain ⟨n,hn⟩:=(zeP _ _ _).1 he
 exact (zke hm hfit n).2.2.pure f args v hn w F us hargs hF hG
end
end
def Old (w:World) (b:Nat):Prop:=b<w.heap.size
theorem ztE {w w':World} (h1:w.heap.size≤w'.heap.size) (h2:∀ b,b<w.heap.size→w'.heap[b]?=w.heap[b]?) (h3:w'.os=w.os∧w'.tape=w.tape∧w'.output=w.output∧∀ a,w'.frozen? a=w.frozen? a):RowKit.Grown w w':=by
 refine ⟨⟨h3.1,h3.2.2.1,fun i hi=>?_⟩,h3.2.2.2,h1⟩
 rw [h2 i hi]
 cases hh:w.heap[i]? with
 |none=>rfl
 |some o=>
  cases o with
  |cells c t fr=>obtain ⟨lo,hi'⟩:=fr;exact ⟨rfl,rfl,rfl,fun _ _=>rfl⟩
  |map es clock=>exact .inr ⟨rfl,rfl⟩
  |_=>rfl
section
inductive Sh where
 |bool
 |int (k:IntKind)
 |flt (k:FloatKind)
 |str
 |slice (es:List Sh)
 deriving Inhabited
def XV (P:Program) (r:TypeId→Option (List Sh)):Nat→List Field→Option (List Sh)
 |_,[]=>some []
 |off,f::fs=>match r f.type with
  |some ss=>match Nat.beq f.offset off&&Nat.beq (P.cellsOf f.type) ss.length with
   |true=>match XV P r (off+ss.length) fs with
    |some rs=>some (ss++rs)
    |none=>none
   |false=>none
  |none=>none
def Yk (P:Program):Nat→TypeId→Option (List Sh)
 |0,_=>none
 |n+1,t=>match P.underlying t with
  |some .bool=>some [.bool]
  |some (.int k)=>some [.int k]
  |some (.float k)=>some [.flt k]
  |some .string=>some [.str]
  |some (.slice e)=>match Yk P n e with
   |some es=>match es with|[]=>none|s::es=>(match Nat.beq (P.cellsOf e) (es.length+1) with|true=>some [.slice (s::es)]|false=>none)
   |none=>none
  |some (.struct fs)=>match XV P (Yk P n) 0 fs.toList with
   |some ss=>match Nat.beq (P.cellsOf t) ss.length with|true=>some ss|false=>none
   |none=>none
  |_=>none
inductive Ok:Sh→PV→Prop
 |bool (b:Bool):Ok .bool (.bool b)
 |int (k:IntKind) (n:Int) (h:(Lit.int k n).wf=true):Ok (.int k) (.int k n)
 |flt (k:FloatKind) (b:Nat) (h:(Lit.float k b).wf=true):Ok (.flt k) (.flt k b)
 |str (s:ByteArray) (h:s.size≤maxLen):Ok .str (.str s)
 |nils (es:List Sh):Ok (.slice es) .nils
 |fz (es:List Sh) (rows:List (List PV)) (hl:rows.length≤maxLen) (hs:∀ r∈rows,r.length=es.length) (h:∀ r∈rows,∀ (i:Nat) (s:Sh) (p:PV),es[i]?=some s→r[i]?=some p→Ok s p):Ok (.slice es) (.fz rows)
def uk (ss:List Sh) (ps:List PV):Prop:=ps.length=ss.length∧∀ (i:Nat) (s:Sh) (p:PV),ss[i]?=some s→ps[i]?=some p→Ok s p
theorem uk.one {s:Sh} {p:PV} (h:Ok s p):uk [s] [p]:=⟨rfl,fun i s' p' h1 h2=>by cases i with|zero=>simp at h1 h2;subst h1;subst h2;exact h|succ i=>simp at h1⟩
theorem uk.append {ss rs:List Sh} {ps qs:List PV} (h:uk ss ps) (h2:uk rs qs):uk (ss++rs) (ps++qs):=by
 refine ⟨by simp [h.1,h2.1],fun i s p k1 k2=>?_⟩
 rcases Nat.lt_or_ge i ss.length with hi|hi
 ·rw [List.getElem?_append_left hi] at k1
  rw [List.getElem?_append_left (by rw [h.1];exact hi)] at k2
  exact h.2 i s p k1 k2
 ·rw [List.getElem?_append_right hi] at k1
  rw [List.getElem?_append_right (by rw [h.1];exact hi),h.1] at k2
  exact h2.2 _ s p k1 k2
theorem zaw {α β:Type} {f:α→Option β}:∀ {l:List α} {r:List β},l.mapM f=some r→r.length=l.length∧∀ (i:Nat) (x:α),l[i]?=some x→∃ y,r[i]?=some y∧f x=some y
 |[],r,h=>by
  simp at h;subst h;simp
 |x::l,r,h=>by
  rw [List.mapM_cons] at h
  cases hx:f x with
  |none=>simp [hx] at h
  |some y=>
   cases hl:l.mapM f with
   |none=>simp [hx,hl] at h
   |some ys=>
    simp [hx,hl] at h
    subst h
    obtain ⟨h1,h2⟩:=zaw hl
    refine ⟨by simp [h1],fun i z hz=>?_⟩
    cases i with
    |zero=>simp at hz;subst hz;exact ⟨y,rfl,hx⟩
    |succ i=>exact h2 i z (by simpa using hz)
theorem zlP {w:World} {base:Nat} {a:Addr} {n:Nat} {cs:List Value} (h:w.cells? base a n=some cs):cs.length=n∧∀ j,j<n→∃ v,cs[j]?=some v∧w.cell? (a.add j)=some v:=by
 unfold World.cells? at h
 split at h
 ·obtain ⟨h1,h2⟩:=zaw h
  refine ⟨by simpa using h1,fun j hj=>?_⟩
  obtain ⟨y,k1,k2⟩:=h2 j j (by simp [hj])
  exact ⟨y,k1,k2⟩
 ·cases h
theorem zre {w:World} {a:Addr} {v:Value} (h:w.cell? a=some v):a.spot=none∧a.block<w.heap.size:=by
 unfold World.cell? at h
 split at h
 ·rename_i c t f hh
  split at h
  ·cases h
  ·rename_i hs
   exact ⟨by simpa using hs,(Array.getElem?_eq_some_iff.1 hh).1⟩
 ·cases h
theorem zqZ (a:Addr) (n:Nat) (h:a.spot=none):a.add n=⟨a.block,a.off+n,none⟩:=by
 obtain ⟨b,o,s⟩:=a
 simp only at h
 subst h
 exact um b o n
section
variable {H:Type} {enc:TypeId×Value→H} {P:Program} {w:World} {base:Nat} {spare:Nat→Bool} {held:Bool}
def Xg (w:World) (ss:List Sh) (cs:List Value):Prop:=∃ ps,uk ss ps∧yP (RelF w (Old w)) ps cs∧∀ v∈cs,v.oneCell'=true
theorem Xg.one {s:Sh} {p:PV} {v:Value} (h:Ok s p) (hr:RelF w (Old w) p v) (h1:v.oneCell'=true):Xg w [s] [v]:=⟨[p],uk.one h,yP.cons hr yP.nil,by simpa using h1⟩
theorem yP.append' {α β:Type} {R:α→β→Prop} {as cs:List α} {bs ds:List β} (h:bs.length=as.length∧∀ (i:Nat) (p:α) (v:β),as[i]?=some p→bs[i]?=some v→R p v) (h2:ds.length=cs.length∧∀ (i:Nat) (p:α) (v:β),cs[i]?=some p→ds[i]?=some v→R p v):
  (bs++ds).length=(as++cs).length∧∀ (i:Nat) (p:α) (v:β),(as++cs)[i]?=some p→(bs++ds)[i]?=some v→R p v:=by
 refine ⟨by simp [h.1,h2.1],fun i p v k1 k2=>?_⟩
 rcases Nat.lt_or_ge i as.length with hi|hi
 ·rw [List.getElem?_append_left hi] at k1
  rw [List.getElem?_append_left (by rw [h.1];exact hi)] at k2
  exact h.2 i p v k1 k2
 ·rw [List.getElem?_append_right hi] at k1
  rw [List.getElem?_append_right (by rw [h.1];exact hi),h.1] at k2
  exact h2.2 _ p v k1 k2
theorem Xg.append {ss rs:List Sh} {cs ds:List Value} (h:Xg w ss cs) (h2:Xg w rs ds):Xg w (ss++rs) (cs++ds):=by
 obtain ⟨ps,a1,a2,a3⟩:=h
 obtain ⟨qs,b1,b2,b3⟩:=h2
 refine ⟨ps++qs,a1.append b1,yP.append' a2 b2,fun v hv=>?_⟩
 rcases List.mem_append.1 hv with hv|hv
 ·exact a3 v hv
 ·exact b3 v hv
theorem Xg.len {ss:List Sh} {cs:List Value} (h:Xg w ss cs):cs.length=ss.length:=by
 obtain ⟨ps,a1,a2,_⟩:=h
 rw [a2.1,a1.1]
theorem zgv {fuel:Nat} (ih:∀ (n:Nat) (t:TypeId) (cs:List Value) (y:DataW H×List MemPlace) (ss:List Sh),DataW.trod enc P w base spare held fuel t cs=some y→Yk P n t=some ss→Xg w ss cs) (cs:List Value):
  ∀ (n:Nat) (fs:List Field) (off:Nat) (ss:List Sh),XV P (Yk P n) off fs=some ss→(∀ (i:Nat) (f:Field),fs[i]?=some f→∃ y,DataW.trod enc P w base spare held fuel f.type ((cs.drop f.offset).take (P.cellsOf f.type))=some y)→Xg w ss ((cs.drop off).take ss.length)
 |n,[],off,ss,h,_=>by
  simp only [XV,Option.some.injEq] at h;subst h;exact ⟨[],⟨rfl,by simp⟩,by simpa using yP.nil,by simp⟩
 |n,f::fs,off,ss,h,hf=>by
  simp only [XV] at h
  split at h
  ·rename_i s1 h1
   split at h
   ·rename_i hb
    simp only [Bool.and_eq_true] at hb
    have e1:=Nat.eq_of_beq_eq_true hb.1
    have e2:=Nat.eq_of_beq_eq_true hb.2
    split at h
    ·rename_i rs h2
     injection h with h
     subst h
     obtain ⟨y,hy⟩:=hf 0 f rfl
     have r1:=ih n _ _ y s1 hy h1
     rw [e1,e2] at r1
     have r2:=zgv ih cs n fs (off+s1.length) rs h2 fun i g hg=>hf (i+1) g (by simpa using hg)
     have:=r1.append r2
     rw [List.length_append,List.take_add,List.drop_drop]
     exact this
    ·cases h
   ·cases h
  ·cases h
theorem zfR:∀ (fuel n:Nat) (t:TypeId) (cs:List Value) (y:DataW H×List MemPlace) (ss:List Sh),DataW.trod enc P w base spare held fuel t cs=some y→Yk P n t=some ss→Xg w ss cs
 |0,n,t,cs,y,ss,h,_=>by simp [DataW.trod] at h
 |fuel+1,0,t,cs,y,ss,h,hs=>by simp [Yk] at hs
 |fuel+1,n+1,t,cs,y,ss,h,hs=>by
  simp only [Yk] at hs
  split at hs
  ·rename_i hu
   injection hs with hs;subst hs
   unfold DataW.trod at h
   rw [hu] at h
   split at h<;>try (simp_all;done)
   rename_i b _
   exact Xg.one (.bool b) (.bool b) rfl
  ·rename_i k hu
   injection hs with hs;subst hs
   unfold DataW.trod at h
   rw [hu] at h
   split at h<;>try (simp_all;done)
   rename_i k2 k1 m e1
   injection e1 with e1;injection e1 with e1;subst e1
   split at h
   ·rename_i hc
    obtain ⟨rfl,hw⟩:=hc
    exact Xg.one (.int _ m hw) (.int _ m) rfl
   ·cases h
  ·rename_i k hu
   injection hs with hs;subst hs
   unfold DataW.trod at h
   rw [hu] at h
   split at h<;>try (simp_all;done)
   rename_i k2 k1 m e1
   injection e1 with e1;injection e1 with e1;subst e1
   split at h
   ·rename_i hc
    obtain ⟨rfl,hw⟩:=hc
    exact Xg.one (.flt _ m hw) (.flt _ m) rfl
   ·cases h
  ·rename_i hu
   injection hs with hs;subst hs
   unfold DataW.trod at h
   rw [hu] at h
   split at h<;>try (simp_all;done)
   rename_i s _
   split at h
   ·rename_i hc
    exact Xg.one (.str s hc) (.str s) rfl
   ·cases h
  ·rename_i e hu
   split at hs
   ·rename_i es he
    split at hs
    ·cases hs
    ·rename_i s0 es'
     split at hs
     ·rename_i hk
      have hk:=Nat.eq_of_beq_eq_true hk
      injection hs with hs;subst hs
      unfold DataW.trod at h
      rw [hu] at h
      split at h<;>try (simp_all;done)
      ·exact Xg.one (.nils _) .nils rfl
      ·rename_i e1 a len cap e2
       injection e2 with e2;injection e2 with e2;subst e2
       simp only at h
       split at h
       ·rename_i hc
        obtain ⟨_,hlc,hcm⟩:=hc
        cases hm:(List.range len).mapM fun i=>(w.cells? base (a.add (i*P.cellsOf e)) (P.cellsOf e)).bind (DataW.trod enc P w base spare held fuel e) with
        |none=>rw [hm] at h;simp at h
        |some elems=>
         obtain ⟨_,hel⟩:=zaw hm
         have hrow:∀ i,i<len→∃ row ps,w.cells? base (a.add (i*P.cellsOf e)) (P.cellsOf e)=some row∧uk (s0::es') ps∧yP (RelF w (Old w)) ps row∧∀ v∈row,v.oneCell'=true:=by
          intro i hi
          obtain ⟨y',_,k2⟩:=hel i i (by simp [hi])
          cases hr:w.cells? base (a.add (i*P.cellsOf e)) (P.cellsOf e) with
          |none=>simp [hr] at k2
          |some row=>
           simp only [hr,Option.bind_some] at k2
           obtain ⟨ps,q1,q2,q3⟩:=zfR fuel n e row y' (s0::es') k2 he
           exact ⟨row,ps,rfl,q1,q2,q3⟩
         by_cases h0:len=0
         ·subst h0
          exact Xg.one (.fz _ [] (Nat.zero_le _) (by simp) (by simp)) (.fzNil _ _) rfl
         ·let ch:Nat→List PV:=fun i=>if hi:i<len then (hrow i hi).choose_spec.choose else []
          let rw':Nat→List Value:=fun i=>if hi:i<len then (hrow i hi).choose else []
          have hch:∀ i,i<len→w.cells? base (a.add (i*P.cellsOf e)) (P.cellsOf e)=some (rw' i)∧uk (s0::es') (ch i)∧yP (RelF w (Old w)) (ch i) (rw' i)∧∀ v∈rw' i,v.oneCell'=true:=by
           intro i hi
           have:=(hrow i hi).choose_spec.choose_spec
           simp only [ch,rw',hi,dif_pos]
           exact this
          have hat:∀ (i:Nat) (r:List PV),((List.range len).map ch)[i]?=some r→i<len∧r=ch i:=by
           intro i r hi
           have hl:i<len:=by have:=(List.getElem?_eq_some_iff.1 hi).1;simpa using this
           rw [List.getElem?_map,List.getElem?_range hl] at hi
           simp at hi
           exact ⟨hl,hi.symm⟩
          have hkpos:0<P.cellsOf e:=by omega
          have hspot:a.spot=none∧a.block<w.heap.size:=by
           obtain ⟨k1,_⟩:=hch 0 (by omega)
           obtain ⟨_,k2⟩:=zlP k1
           obtain ⟨v,_,k3⟩:=k2 0 hkpos
           rw [show (a.add (0*P.cellsOf e)).add 0=a by simp [Addr.add]] at k3
           exact zre k3
          have hval:∀ (i:Nat) (r:List PV) (j:Nat) (p:PV),((List.range len).map ch)[i]?=some r→r[j]?=some p→∃ v,(rw' i)[j]?=some v∧w.cell? ⟨a.block,a.off+i*P.cellsOf e+j,none⟩=some v∧v.oneCell'=true∧RelF w (Old w) p v:=by
           intro i r j p hi hj
           obtain ⟨hl,rfl⟩:=hat i r hi
           obtain ⟨k1,k2,k3,k4⟩:=hch i hl
           obtain ⟨l1,l2⟩:=zlP k1
           have hjl:j<P.cellsOf e:=by
            have:=(List.getElem?_eq_some_iff.1 hj).1
            have h5:=k3.1
            omega
           obtain ⟨v,m1,m2⟩:=l2 j hjl
           have m2':w.cell? ⟨a.block,a.off+i*P.cellsOf e+j,none⟩=some v:=by
            rw [zqZ a _ hspot.1,zqZ _ _ rfl] at m2
            exact m2
           exact ⟨v,m1,m2',k4 v (List.mem_of_getElem? m1),k3.2 j p v hj m1⟩
          have hfz:=RelF.fz (w:=w) (F:=Old w) ((List.range len).map ch) a.block a.off (P.cellsOf e) cap (fun i j=>((rw' i)[j]?).getD undef) hspot.2
           (fun i r hi=>by
            obtain ⟨hl,rfl⟩:=hat i r hi
            have:=(hch i hl).2.1.1
            simp only [List.length_cons] at this
            omega) (by simpa using hlc)
           (fun i r j p hi hj=>by obtain ⟨v,q1,q2,q3,q4⟩:=hval i r j p hi hj;rw [q1];exact q3)
           (fun i r j p hi hj=>by obtain ⟨v,q1,q2,q3,q4⟩:=hval i r j p hi hj;rw [q1];exact q2)
           (fun i r j p hi hj=>by obtain ⟨v,q1,q2,q3,q4⟩:=hval i r j p hi hj;rw [q1];exact q4)
          rw [show ((List.range len).map ch).length=len by simp] at hfz
          have ha:a=⟨a.block,a.off,none⟩:=by obtain ⟨b,o,s⟩:=a;simp only at hspot;rw [hspot.1]
          rw [←ha] at hfz
          refine Xg.one (.fz _ _ (by simp;omega) (fun r hr=>?_) fun r hr=>?_) hfz rfl
          ·obtain ⟨i,hi⟩:=List.getElem?_of_mem hr
           obtain ⟨hl,rfl⟩:=hat i r hi
           exact (hch i hl).2.1.1
          ·obtain ⟨i,hi⟩:=List.getElem?_of_mem hr
           obtain ⟨hl,rfl⟩:=hat i r hi
           exact (hch i hl).2.1.2
       ·cases h
     ·cases hs
   ·cases hs
  ·rename_i fs hu
   split at hs
   ·rename_i ss' hf
    split at hs
    ·rename_i hb
     have hb:=Nat.eq_of_beq_eq_true hb
     injection hs with hs;subst hs
     unfold DataW.trod at h
     rw [hu] at h
     split at h<;>try (simp_all;done)
     rename_i cs _ _ fs' e1
     injection e1 with e1;injection e1 with e1;subst e1
     split at h
     ·rename_i hlen
      cases hm:fs.toList.mapM fun f=>DataW.trod enc P w base spare held fuel f.type ((cs.drop f.offset).take (P.cellsOf f.type)) with
      |none=>rw [hm] at h;simp at h
      |some xs=>
       obtain ⟨_,hx⟩:=zaw hm
       have:=zgv (fun n t cs y ss=>zfR fuel n t cs y ss) cs n fs.toList 0 ss' hf fun i f hif=>by
        obtain ⟨y,_,h2⟩:=hx i f hif
        exact ⟨y,h2⟩
       rw [List.drop_zero,List.take_of_length_le (by omega)] at this
       exact this
     ·cases h
    ·cases hs
   ·cases hs
  ·cases hs
end
end
end Go.Av
end
section
namespace Go.Av
open Go Go.ChangeShapes Go.WideShapes Go.ChangeAt Go.RowKit
section
def Shaped (P:Program) (t:TypeId):Prop:=∃ n ss,Yk P n t=some ss
theorem zej {P:Program}:∀ (n:Nat) (fs:List Field) (off:Nat) (ss:List Sh),XV P (Yk P n) off fs=some ss→(∀ f∈fs,Shaped P f.type)∧ss.length=(fs.map fun f=>P.cellsOf f.type).sum∧∀ (j:Nat) (f:Field),fs[j]?=some f→f.offset=off+((fs.take j).map fun f=>P.cellsOf f.type).sum
 |n,[],off,ss,h=>by
  simp only [XV,Option.some.injEq] at h;subst h;simp
 |n,f::fs,off,ss,h=>by
  simp only [XV] at h
  split at h
  ·rename_i s1 h1
   split at h
   ·rename_i hb
    simp only [Bool.and_eq_true] at hb
    have e1:=Nat.eq_of_beq_eq_true hb.1
    have e2:=Nat.eq_of_beq_eq_true hb.2
    split at h
    ·rename_i rs h2
     injection h with h
     subst h
     obtain ⟨k1,k2,k3⟩:=zej n fs _ rs h2
     refine ⟨fun g hg=>?_,by simp [k2,e2],fun j g hj=>?_⟩
     ·cases hg with
      |head=>exact ⟨n,s1,h1⟩
      |tail _ hg=>exact k1 g hg
     ·cases j with
      |zero=>simp at hj;subst hj;simpa using e1
      |succ j=>
       have:=k3 j g (by simpa using hj)
       simp only [List.take_succ_cons,List.map_cons,List.sum_cons]
       omega
    ·cases h
   ·cases h
  ·cases h
theorem zfJ {P:Program} {t e:TypeId} (h:Shaped P t) (hu:P.underlying t=some (.slice e)):Shaped P e∧0<P.cellsOf e:=by
 obtain ⟨n,ss,h⟩:=h
 cases n with
 |zero=>simp [Yk] at h
 |succ n=>
  simp only [Yk,hu] at h
  split at h
  ·rename_i es he
   split at h
   ·cases h
   ·split at h
    ·rename_i hk
     have:=Nat.eq_of_beq_eq_true hk
     exact ⟨⟨n,_,he⟩,by omega⟩
    ·cases h
  ·cases h
theorem zof (P:Program):Kids P (Shaped P):=by
 refine ⟨fun {t e} ⟨n,ss,h⟩ hu=>?_,fun h hu=>(zfJ h hu).1,fun {t e m} ⟨n,ss,h⟩ hu=>?_,fun {t fs} ⟨n,ss,h⟩ hu=>?_,fun {t k e} ⟨n,ss,h⟩ hu=>?_⟩
 ·cases n<;>simp [Yk,hu] at h
 ·cases n<;>simp [Yk,hu] at h
 ·cases n with
  |zero=>simp [Yk] at h
  |succ n=>
   simp only [Yk,hu] at h
   split at h
   ·rename_i ss' hf
    split at h
    ·rename_i hb
     have:=Nat.eq_of_beq_eq_true hb
     obtain ⟨k1,k2,k3⟩:=zej n _ _ _ hf
     exact ⟨k1,this.trans k2,fun j f hj=>by simpa using k3 j f hj⟩
    ·cases h
   ·cases h
 ·cases n<;>simp [Yk,hu] at h
section
variable {H:Type} {enc:TypeId×Value→H} {P:Program} {W W':World}
theorem zoV (hg:∀ b,b<W.heap.size→W'.heap[b]?=W.heap[b]?) {p:MemPlace} (hp:p.block<W.heap.size):W.sameAt W' p:=by
 cases p with
 |cell b off=>
  have h:W'.heap[b]?=W.heap[b]?:=hg b hp
  show W'.cell? ⟨b,off,none⟩=W.cell? ⟨b,off,none⟩
  simp only [World.cell?,h]
 |map b=>exact hg b hp
theorem zy2 {t:TypeId} (hs:Shaped P t) {v:Value} {d:DataW H} {ps:List MemPlace} (h:DataW.Trod enc P W 0 (fun _=>true) true t v d ps) (hg:∀ b,b<W.heap.size→W'.heap[b]?=W.heap[b]?) {sp:Nat→Bool} (hsp:∀ p∈ps,sp p.block=true):DataW.Trod enc P W' 0 sp true t v d ps:=by
 obtain ⟨fuel,h⟩:=h
 exact ⟨fuel,DataW.trod_stays (zof P) (fun h hu=>(zfJ h hu).2) (fun h=>by cases h) hs h (fun p hp=>zoV hg (DataW.trod_lt fuel _ _ _ h p hp)) hsp⟩
theorem zlF:∀ {ts:List TypeId} {vs:List Value} {ds:List (DataW H)} {ps:List MemPlace},(∀ t∈ts,Shaped P t)→DataW.TrodAll enc P W 0 (fun _=>true) true ts vs ds ps→(∀ b,b<W.heap.size→W'.heap[b]?=W.heap[b]?)→∀ {sp:Nat→Bool},(∀ p∈ps,sp p.block=true)→DataW.TrodAll enc P W' 0 sp true ts vs ds ps
 |[],[],[],ps,_,h,_,_,_=>h
 |t::ts,v::vs,d::ds,ps,hs,h,hg,sp,hsp=>by
  obtain ⟨p,q,h1,h2,rfl⟩:=h
  exact ⟨p,q,zy2 (hs t List.mem_cons_self) h1 hg fun x hx=>hsp x (List.mem_append_left _ hx),zlF (fun t ht=>hs t (List.mem_cons_of_mem _ ht)) h2 hg fun x hx=>hsp x (List.mem_append_right _ hx),rfl⟩
 |[],_::_,_,_,_,h,_,_,_=>h.elim
 |[],[],_::_,_,_,h,_,_,_=>h.elim
 |_::_,[],_,_,_,h,_,_,_=>h.elim
 |_::_,_::_,[],_,_,h,_,_,_=>h.elim
theorem zql {t:TypeId} {n:Nat} {ss:List Sh} (hs:Yk P n t=some ss) {v:Value} {cs:Array Value} (hv:v=.agg cs) {d:DataW H} {ps:List MemPlace} (h:DataW.Trod enc P W 0 (fun _=>true) true t v d ps):∃ qs,uk ss qs∧RelF W (Old W) (.agg qs) v:=by
 subst hv
 obtain ⟨fuel,h⟩:=h
 obtain ⟨qs,h1,h2,h3⟩:=zfR fuel n t _ _ ss h hs
 exact ⟨qs,h1,by
  have:=RelF.agg (w:=W) (F:=Old W) qs cs.toList h2.1 (fun v hv=>h3 v (by simpa [Value.cells] using hv)) h2.2
  simpa using this⟩
end
end
end Go.Av
end
section
namespace Go.Av
open Go
section
section
variable (d:Nat) (H:zd)
theorem JG (k:IntKind) (n:Int):frz (d+1) H (.int k n)=.int k n:=rfl
theorem QC (b:Bool):frz (d+1) H (.bool b)=.bool b:=rfl
theorem zoD (s:ByteArray):frz (d+1) H (.str s)=.str s:=rfl
theorem zwk (k:FloatKind) (n:Nat):frz (d+1) H (.flt k n)=.flt k n:=rfl
theorem zh6 (rows:List (List PV)):frz (d+1) H (.fz rows)=.fz rows:=rfl
theorem zxU (cs:List PV) (o:Nat):frz (d+1) H (.fp cs o)=.fp cs o:=rfl
theorem zdw:frz (d+1) H .nils=.nils:=rfl
theorem ztA:frz (d+1) H .nilf=.nilf:=rfl
theorem ztB:frz (d+1) H .nilm=.nilm:=rfl
theorem zwj (cs:List PV):frz (d+1) H (.agg cs)=.agg (cs.map (frz d H)):=rfl
theorem zwo (cs:List PV):frz (d+1) H (.tup cs)=.tup (cs.map (frz d H)):=rfl
theorem zxT (f:Nat) (cs:List PV):frz (d+1) H (.fn f cs)=.fn f (cs.map (frz d H)):=rfl
end
theorem zn' (st:St):Go.Av.results st []=some []:=rfl
theorem zfF (st:St) (r:jd) (rs:List jd):Go.Av.results st (r::rs)=match r.get st,Go.Av.results st rs with|some v,some vs=>some (v::vs)|_,_=>none:=rfl
end
section
inductive kq where
 |op (o:zC)
 |kill (ks:List Nat)
 deriving Inhabited
def Vw:List kq→List zC
 |[]=>[]
 |.op o::bs=>o::Vw bs
 |.kill _::bs=>Vw bs
def kO:zx→List Nat
 |.reg n=>[n]
 |_=>[]
def Qd (o:zC):List zx:=xq o.op++(match o.guard with|none=>[]|some (g,_)=>[g])++o.clear
def zso (o:zC):List Nat:=((Qd o).map kO).flatten
def Zv:List kq→Nat→Bool
 |[],_=>false
 |.op o::bs,k=>(zso o).any (Nat.beq k)||Zv bs k
 |.kill _::bs,k=>Zv bs k
def Vj:List kq→Bool
 |[]=>true
 |.op _::bs=>Vj bs
 |.kill ks::bs=>(ks.all fun k=> !Zv bs k)&&Vj bs
section
variable {G:Nat→Option (List PV)} {C:Cl}
def Y9 (G:Nat→Option (List PV)) (C:Cl):List kq→St→Option St
 |[],st=>some st
 |.op o::os,st=>match wanted G st o with
  |some true=>match vu G C st o with
   |some (v,H,ed)=>Y9 G C os (St.put { st with H:=H,ed:=ed++st.ed } o.dst v)
   |none=>none
  |some false=>Y9 G C os (st.put o.dst .und)
  |none=>none
 |.kill ks::os,st=>Y9 G C os { st with reg:=ks.foldl zk.erase st.reg }
theorem zl' (e:zk) (k n:Nat) (h:Nat.beq n k=false):(e.erase k).get n=e.get n:=by
 induction e with
 |nil=>rfl
 |cons p e ih=>
  obtain ⟨a,x⟩:=p
  rw [zk.erase]
  cases hb:Nat.beq a k with
  |true=>
   have:a=k:=Nat.eq_of_beq_eq_true hb
   subst this
   show (zk.erase e a).get n=_
   rw [ih,zk.get]
   have h2:Nat.beq a n=false:=by
    cases h3:Nat.beq a n with
    |false=>rfl
    |true=>rw [←Nat.eq_of_beq_eq_true h3] at h;rw [Nat.beq_refl] at h;cases h
   rw [h2]
  |false=>
   show zk.get ((a,x)::zk.erase e k) n=_
   rw [zk.get,zk.get,ih]
theorem zpQ (ks:List Nat):∀ (e:zk) (n:Nat),(∀ k∈ks,Nat.beq n k=false)→zk.get (ks.foldl zk.erase e) n=e.get n:=by
 induction ks with
 |nil=>intro e n _;rfl
 |cons k ks ih=>
  intro e n h
  rw [List.foldl_cons,ih _ _ (fun k hk=>h k (List.mem_cons_of_mem _ hk)),zl' _ _ _ (h k (List.mem_cons_self ..))]
def zhv (u:Nat→Bool) (s s':St):Prop:=s.per=s'.per∧s.H=s'.H∧s.ed=s'.ed∧∀ k,u k=true→s.reg.get k=s'.reg.get k
theorem zq0 {u:Nat→Bool} {s s':St} (h:zhv u s s') (x:zx) (hx:∀ k∈kO x,u k=true):x.get G s=x.get G s':=by
 cases x with
 |per n=>show s.per.get n=s'.per.get n;rw [h.1]
 |reg n=>exact h.2.2.2 n (hx n (by simp [kO]))
 |const v=>rfl
 |glob g=>rfl
theorem zkc {u u':Nat→Bool} {s s':St} (h:zhv u s s') (hu:∀ k,u' k=true→u k=true) (d:Option (Bool×Nat)) (v:PV) (H:zd) (ed:zV):zhv u' (St.put { s with H:=H,ed:=ed } d v) (St.put { s' with H:=H,ed:=ed } d v):=by
 match d with
 |none=>exact ⟨h.1,rfl,rfl,fun k hk=>h.2.2.2 k (hu k hk)⟩
 |some (true,n)=>exact ⟨by show s.per.put n v=s'.per.put n v;rw [h.1],rfl,rfl,fun k hk=>h.2.2.2 k (hu k hk)⟩
 |some (false,n)=>exact ⟨h.1,rfl,rfl,fun k hk=>by show (s.reg.put n v).get k=(s'.reg.put n v).get k;rw [zk.get_put,zk.get_put,h.2.2.2 k (hu k hk)]⟩
theorem zss {s s':St} (h1:s.per=s'.per) (h2:s.H=s'.H) (h3:s.ed=s'.ed):({ s with reg:=[] }:St)={ s' with reg:=[] }:=by
 cases s;cases s';simp at h1 h2 h3;simp [h1,h2,h3]
theorem zsq:∀ (bs:List kq) (s s':St),Vj bs=true→zhv (Zv bs) s s'→
  (vH G C (Vw bs) s).map (fun s=>({ s with reg:=[] }:St))=(Y9 G C bs s').map (fun s=>({ s with reg:=[] }:St)):=by
 intro bs
 induction bs with
 |nil=>intro s s' _ h;simp only [Vw,vH,Y9,Option.map_some];rw [zss h.1 h.2.1 h.2.2.1]
 |cons b bs ih=>
  intro s s' hk h
  cases b with
  |kill ks=>
   rw [Vj,Bool.and_eq_true] at hk
   rw [Vw,Y9]
   refine ih _ _ hk.2 ⟨h.1,h.2.1,h.2.2.1,fun k hu=>?_⟩
   show s.reg.get k=zk.get (ks.foldl zk.erase s'.reg) k
   rw [zpQ,h.2.2.2 k hu]
   intro j hj
   have:=(List.all_eq_true.1 hk.1) j hj
   cases hb:Nat.beq k j with
   |false=>rfl
   |true=>rw [←Nat.eq_of_beq_eq_true hb,hu] at this;cases this
  |op o=>
   rw [Vj] at hk
   have hr:∀ x∈Qd o,x.get G s=x.get G s':=fun x hx=>zq0 h x fun k hkx=>by
    rw [Zv,Bool.or_eq_true]
    refine .inl (List.any_eq_true.2 ⟨k,?_,Nat.beq_refl k⟩)
    exact List.mem_flatten.2 ⟨_,List.mem_map.2 ⟨x,hx,rfl⟩,hkx⟩
   have hu:∀ k,Zv bs k=true→Zv (.op o::bs) k=true:=fun k hk=>by rw [Zv,hk,Bool.or_true]
   have hw:wanted G s o=wanted G s' o:=by
    rw [wanted,wanted]
    cases hg:o.guard with
    |none=>rfl
    |some g=>
     obtain ⟨g,w⟩:=g
     have:=hr g (by simp [Qd,hg])
     simp only [this]
   have ho:∀ x∈xq o.op,x.get G s=x.get G s':=fun x hx=>hr x (by simp [Qd,hx])
   have hv:zq G C s o.op=zq G C s' o.op:=zh4 ho h.2.1
   have hn:YB G s o=YB G s' o:=by
    have h1:((xq o.op).all fun x=>(refs (x.get G s)).isEmpty)=(xq o.op).all fun x=>(refs (x.get G s')).isEmpty:=by
     rw [Bool.eq_iff_iff,List.all_eq_true,List.all_eq_true]
     exact ⟨fun q x hx=>by rw [←ho x hx];exact q x hx,fun q x hx=>by rw [ho x hx];exact q x hx⟩
    have h2:(o.clear.all fun x=>We (Ym G s o.op) (x.get G s))=o.clear.all fun x=>We (Ym G s' o.op) (x.get G s'):=by
     rw [zmY ho,Bool.eq_iff_iff,List.all_eq_true,List.all_eq_true]
     exact ⟨fun q x hx=>by rw [←hr x (by simp [Qd,hx])];exact q x hx,fun q x hx=>by rw [hr x (by simp [Qd,hx])];exact q x hx⟩
    rw [YB,YB,h1,h2]
   have he:vu G C s o=vu G C s' o:=by rw [vu.eq_def,vu.eq_def,hv,hn]
   rw [Vw,vH,Y9,hw,he]
   cases wanted G s' o with
   |none=>rfl
   |some b=>
    cases b with
    |true=>
     cases vu G C s' o with
     |none=>rfl
     |some r=>
      obtain ⟨v,H,ed⟩:=r
      dsimp only
      rw [h.2.2.1]
      exact ih _ _ hk (zkc h hu o.dst v H _)
    |false=>
     dsimp only
     have e1:s.put o.dst .und=St.put { s with H:=s'.H,ed:=s'.ed } o.dst .und:=by rw [←h.2.1, ←h.2.2.1]
     have:=zkc h hu o.dst .und s'.H s'.ed
     rw [←e1] at this
     exact ih _ _ hk this
theorem zpa (u:Nat→Bool) (s:St):zhv u s s:=⟨rfl,rfl,rfl,fun _ _=>rfl⟩
end
noncomputable def xw (P:xp):List kq→St→Option St:=Y9 P.glob (CL P)
end
section
section
variable (P:xp)
noncomputable def zdM:Option (zp×St)→AC→Option (zp×St)
 |some (.normal,st),b=>EV P b st
 |r,_=>r
def zdn:Option (zp×St)→Nat→Option (zp×St)
 |some (.exit id',st),id=>match Nat.beq id' id with|true=>some (.normal,st)|false=>some (.exit id',st)
 |r,_=>r
noncomputable def zdp:PV→Bool→zx→St→AC→AC→Option (zp×St)
 |.bool t,g,c,st,a,b=>if t=true then EV P a (jn g c st) else EV P b (jn g c st)
 |_,_,_,_,_,_=>none
def regK:Option St→Option (zp×St)
 |some st=>some (.normal,{ st with reg:=[] })
 |none=>none
noncomputable def zdC:Option St→List kq→Option St
 |some st,os=>xw P os st
 |none,_=>none
def zqh (st:St) (d:Option (Bool×Nat)):Option (PV×zd×zV)→Option St
 |some (v,H,ed)=>some (St.put { st with H:=H,ed:=ed++st.ed } d v)
 |none=>none
def wK:PV→Bool→Option Bool
 |.bool b,w=>some (b==w)
 |.und,_=>some false
 |_,_=>none
noncomputable def zhe:Option Bool→St→zC→Option St
 |some b,st,o=>if b=true then zqh st o.dst (vu P.glob (CL P) st o) else some (st.put o.dst .und)
 |none,_,_=>none
variable {P}
@[congr] theorem zAe {r r':Option (zp×St)} {b:AC} (h:r=r'):zdM P r b=zdM P r' b:=by rw [h]
@[congr] theorem zy5 {r r':Option (zp×St)} {b:Nat} (h:r=r'):zdn r b=zdn r' b:=by rw [h]
@[congr] theorem zzw {r r':Option St} {b:List kq} (h:r=r'):zdC P r b=zdC P r' b:=by rw [h]
@[congr] theorem zyT {v v':PV} {g:Bool} {c:zx} {st:St} {a b:AC} (h:v=v'):zdp P v g c st a b=zdp P v' g c st a b:=by rw [h]
@[congr] theorem zyX {c:AC} {st st':St} (h:st=st'):EV P c st=EV P c st':=by rw [h]
@[congr] theorem zxJ {os:List kq} {st st':St} (h:st=st'):xw P os st=xw P os st':=by rw [h]
@[congr] theorem zvN {o:zC} {st st':St} (h:st=st'):vu P.glob (CL P) st o=vu P.glob (CL P) st' o:=by rw [h]
@[congr] theorem zxC {o:uD} {st st':St} (h:st=st'):zq P.glob (CL P) st o=zq P.glob (CL P) st' o:=by rw [h]
@[congr] theorem zzf {r r':Option Bool} {st:St} {o:zC} (h:r=r'):zhe P r st o=zhe P r' st o:=by rw [h]
theorem zxy (a b:AC) (st:St):EV P (.seq a b) st=zdM P (EV P a st) b:=by
 rw [zxn];cases EV P a st with
 |none=>rfl
 |some r=>obtain ⟨e,s⟩:=r;cases e<;>rfl
theorem zs0 (id:Nat) (b:AC) (st:St):EV P (.block id b) st=zdn (EV P b st) id:=by
 rw [zsT];cases EV P b st with
 |none=>rfl
 |some r=>obtain ⟨e,s⟩:=r;cases e<;>rfl
theorem zvK (g:Bool) (c:zx) (a b:AC) (st:St):EV P (.cond g c a b) st=zdp P (c.get P.glob st) g c st a b:=by
 rw [zvw];cases c.get P.glob st<;>first|rfl|(rename_i t;cases t<;>rfl)
theorem zqW (d:Bool) (ops:List zC) (bs:List kq) (h:Vw bs=ops) (hk:Vj bs=true) (st:St):EV P (.region d ops) st=regK (xw P bs { per:=st.per,reg:=[],H:=st.H,ed:=st.ed }):=by
 subst h
 rw [zqN]
 have:=zsq (G:=P.glob) (C:=CL P) bs { st with reg:=[] } { st with reg:=[] } hk (zpa _ _)
 show _=regK (Y9 P.glob (CL P) bs { st with reg:=[] })
 cases h1:vH P.glob (CL P) (Vw bs) { st with reg:=[] }<;>cases h2:Y9 P.glob (CL P) bs { st with reg:=[] }<;>rw [h1,h2] at this
 ·rfl
 ·simp at this
 ·simp at this
 ·simp only [Option.map_some,Option.some.injEq] at this
  simp only [regK,this]
theorem zy1 (st:St):xw P [] st=some st:=rfl
theorem zxD (ks:List Nat) (os:List kq) (st:St):xw P (.kill ks::os) st=xw P os { per:=st.per,reg:=ks.foldl zk.erase st.reg,H:=st.H,ed:=st.ed }:=rfl
theorem zqX (d:Option (Bool×Nat)) (op:uD) (s:Bool) (cl:List zx) (os:List kq) (st:St):xw P (.op ⟨d,op,none,s,cl⟩::os) st=zdC P (zqh st d (vu P.glob (CL P) st ⟨d,op,none,s,cl⟩)) os:=by
 rw [xw,Y9];simp only [wanted];cases vu P.glob (CL P) st ⟨d,op,none,s,cl⟩<;>rfl
theorem zow (d:Option (Bool×Nat)) (op:uD) (g:zx) (w:Bool) (s:Bool) (cl:List zx) (os:List kq) (st:St):xw P (.op ⟨d,op,some (g,w),s,cl⟩::os) st=zdC P (zhe P (wK (g.get P.glob st) w) st ⟨d,op,some (g,w),s,cl⟩) os:=by
 rw [xw,Y9];simp only [wanted]
 cases g.get P.glob st with
 |bool b=>
  cases hb:b==w with
  |true=>
   rw [wK,hb,zhe,if_pos rfl];simp only [hb]
   cases vu P.glob (CL P) st ⟨d,op,some (g,w),s,cl⟩<;>rfl
  |false=>rw [wK,hb,zhe,if_neg (by simp)];simp only [hb];rfl
 |und=>rfl
 |_=>rfl
theorem zkp (b:Bool) (st:St) (d:Option (Bool×Nat)) (op:uD) (g:Option (zx×Bool)) (s:Bool) (cl:List zx):zhe P (some b) st ⟨d,op,g,s,cl⟩=if b=true then zqh st d (vu P.glob (CL P) st ⟨d,op,g,s,cl⟩) else some (st.put d .und):=rfl
theorem zdB (d:Option (Bool×Nat)) (op:uD) (g:Option (zx×Bool)) (st:St):vu P.glob (CL P) st ⟨d,op,g,false,[]⟩=zq P.glob (CL P) st op:=rfl
theorem zsR (f:Nat) (a:List PV):(CL P).p f a=EP P f a:=rfl
theorem zAT (f:Nat) (a:List PV) (H:zd):(CL P).s f a H=ES P f a H:=rfl
theorem zoe (st:St) (b:AC):zdM P (some (.normal,st)) b=EV P b st:=rfl
theorem zuV (st:St) (b:AC):zdM P (some (.ret,st)) b=some (.ret,st):=rfl
theorem zsu (i:Nat) (st:St) (b:AC):zdM P (some (.exit i,st)) b=some (.exit i,st):=rfl
theorem zuU {p:Prop} [Decidable p] (x y:Option (zp×St)) (b:AC):zdM P (if p then x else y) b=if p then zdM P x b else zdM P y b:=by by_cases h:p<;>simp only [h,if_true,if_false]
theorem znm (st:St) (i:Nat):zdn (some (.normal,st)) i=some (.normal,st):=rfl
theorem zte (st:St) (i:Nat):zdn (some (.ret,st)) i=some (.ret,st):=rfl
theorem zq_ (i j:Nat) (st:St):zdn (some (.exit j,st)) i=match Nat.beq j i with|true=>some (.normal,st)|false=>some (.exit j,st):=rfl
theorem ztd {p:Prop} [Decidable p] (x y:Option (zp×St)) (b:Nat):zdn (if p then x else y) b=if p then zdn x b else zdn y b:=by by_cases h:p<;>simp only [h,if_true,if_false]
theorem zpq (t g:Bool) (c:zx) (st:St) (a b:AC):zdp P (.bool t) g c st a b=if t=true then EV P a (jn g c st) else EV P b (jn g c st):=rfl
theorem zri {p:Prop} [Decidable p] (x y:PV) (g:Bool) (c:zx) (st:St) (a b:AC):zdp P (if p then x else y) g c st a b=if p then zdp P x g c st a b else zdp P y g c st a b:=by by_cases h:p<;>simp only [h,if_true,if_false]
theorem zr8 (st:St) (os:List kq):zdC P (some st) os=xw P os st:=rfl
theorem zuh {p:Prop} [Decidable p] (x y:Option St) (b:List kq):zdC P (if p then x else y) b=if p then zdC P x b else zdC P y b:=by by_cases h:p<;>simp only [h,if_true,if_false]
theorem zse (st:St) (d:Option (Bool×Nat)) (v:PV) (H:zd) (ed:zV):zqh st d (some (v,H,ed))=some (St.put { st with H:=H,ed:=ed++st.ed } d v):=rfl
theorem zsO {p:Prop} [Decidable p] (x y:PV) (w:Bool):wK (if p then x else y) w=if p then wK x w else wK y w:=by by_cases h:p<;>simp only [h,if_true,if_false]
theorem zqK (b w:Bool):wK (.bool b) w=some (b==w):=rfl
theorem zsP (w:Bool):wK .und w=some false:=rfl
theorem zsn (st:St):regK (some st)=some (.normal,{ st with reg:=[] }):=rfl
theorem zuK {p:Prop} [Decidable p] (x y:Option St):regK (if p then x else y)=if p then regK x else regK y:=by by_cases h:p<;>simp only [h,if_true,if_false]
def zz7:PV→PV→PV→zd→Option (PV×zd×zV)
 |.bool t,x,y,H=>some (if t=true then x else y,H,[])
 |_,_,_,_=>none
theorem zs6 (c a b:zx) (st:St):zq P.glob (CL P) st (.pick c a b)=zz7 (c.get P.glob st) (a.get P.glob st) (b.get P.glob st) st.H:=by
 simp only [zq];cases c.get P.glob st<;>first|rfl|(rename_i t;cases t<;>rfl)
theorem zrS {p:Prop} [Decidable p] (x y:PV) (H:zd) (e:zV):(if p then some (x,H,e) else some (y,H,e))=some (if p then x else y,H,e):=by by_cases h:p<;>simp only [h,if_true,if_false]
theorem ztM {α:Type} [DecidableEq α] (a b:α):(if a=b then b else a)=a:=by by_cases h:a=b<;>simp [h]
section
variable {p:Prop} [Decidable p]
theorem zrQ (x y:Bool):(if p then some x else some y)=some (if p then x else y):=by by_cases h:p<;>simp only [h,if_true,if_false]
theorem zrR (x y:St):(if p then some x else some y)=some (if p then x else y):=by by_cases h:p<;>simp only [h,if_true,if_false]
theorem zrT (x y:PV):(if p then some x else some y)=some (if p then x else y):=by by_cases h:p<;>simp only [h,if_true,if_false]
theorem ztP (e:zp) (x y:St):(if p then some (e,x) else some (e,y))=some (e,if p then x else y):=by by_cases h:p<;>simp only [h,if_true,if_false]
theorem zxY (a a':zk) (b b':zk) (c c':zd) (d d':zV):(if p then St.mk a b c d else St.mk a' b' c' d')=St.mk (if p then a else a') (if p then b else b') (if p then c else c') (if p then d else d'):=by by_cases h:p<;>simp only [h,if_true,if_false]
theorem zww (n:Nat) (a b:PV) (l m:zk):(if p then (n,a)::l else (n,b)::m)=(n,if p then a else b)::(if p then l else m):=by by_cases h:p<;>simp only [h,if_true,if_false]
theorem ztO (x y:Bool):(if p then PV.bool x else PV.bool y)=PV.bool (if p then x else y):=by by_cases h:p<;>simp only [h,if_true,if_false]
theorem zwx (k:IntKind) (x y:Int):(if p then PV.int k x else PV.int k y)=PV.int k (if p then x else y):=by by_cases h:p<;>simp only [h,if_true,if_false]
theorem zwu (x y:List PV):(if p then PV.agg x else PV.agg y)=PV.agg (if p then x else y):=by by_cases h:p<;>simp only [h,if_true,if_false]
theorem zrP (a b:PV) (l m:List PV):(if p then a::l else b::m)=(if p then a else b)::(if p then l else m):=by by_cases h:p<;>simp only [h,if_true,if_false]
theorem ztN (a b:yf) (l m:zd):(if p then a::l else b::m)=(if p then a else b)::(if p then l else m):=by by_cases h:p<;>simp only [h,if_true,if_false]
theorem zwv (s:Nat) (l m:List (List PV)):(if p then yf.cells s l else yf.cells s m)=yf.cells s (if p then l else m):=by by_cases h:p<;>simp only [h,if_true,if_false]
theorem ztQ (a b:List PV) (l m:List (List PV)):(if p then a::l else b::m)=(if p then a else b)::(if p then l else m):=by by_cases h:p<;>simp only [h,if_true,if_false]
theorem znK (l m:zk) (n:Nat):zk.get (if p then l else m) n=if p then zk.get l n else zk.get m n:=by by_cases h:p<;>simp only [h,if_true,if_false]
theorem znL (l m:zk) (n:Nat) (v:PV):zk.put (if p then l else m) n v=if p then zk.put l n v else zk.put m n v:=by by_cases h:p<;>simp only [h,if_true,if_false]
theorem zk0 (l m:zk) (n:Nat):zk.erase (if p then l else m) n=if p then zk.erase l n else zk.erase m n:=by by_cases h:p<;>simp only [h,if_true,if_false]
theorem zwn (d:Nat) (H:zd) (x y:PV):frz d H (if p then x else y)=if p then frz d H x else frz d H y:=by by_cases h:p<;>simp only [h,if_true,if_false]
end
theorem zy4 (b:Bool):(b==true)=b:=by cases b<;>rfl
theorem zy3 (b:Bool):(b==false)= !b:=by cases b<;>rfl
theorem zwJ {α:Type} {p:Prop} [Decidable p] (x y:α):(if ¬p then x else y)=if p then y else x:=by by_cases h:p<;>simp only [h,not_true,not_false_iff,if_true,if_false]
def za {α:Type} [Inhabited α] (l:List α) (i:Int):α:=l.getD i.toNat default
theorem wc {α:Type} [Inhabited α] {l:List α} {i:Int} (h0:0≤i) (h:i<l.length):l[i.toNat]?=some (za l i):=by
 have:i.toNat<l.length:=by omega
 simp [za,List.getD,this]
end
end
section
section
variable {P:xp}
def gv:Option Bool→Option PV→Option PV
 |some b,r=>if b=true then r else some .und
 |none,_=>none
noncomputable def vK (P:xp) (st:St) (d:Option (Bool×Nat)):Option PV→List kq→Option St
 |some v,os=>xw P os (st.put d v)
 |none,_=>none
@[congr] theorem zBw {st:St} {d:Option (Bool×Nat)} {r r':Option PV} {os:List kq} (h:r=r'):vK P st d r os=vK P st d r' os:=by rw [h]
theorem zxi (st:St) (d:Option (Bool×Nat)) (v:PV) (os:List kq):vK P st d (some v) os=xw P os (st.put d v):=rfl
theorem zwr (b:Bool) (r:Option PV):gv (some b) r=if b=true then r else some .und:=rfl
def zdF:PV→PV→PV→Option PV
 |.bool t,x,y=>some (if t=true then x else y)
 |_,_,_=>none
def ZK (agg:Bool) (sz:Nat) (a:PV) (H:zd):Option PV:=match cellsAt H a with|some cs=>xb agg sz cs|none=>none
def Kf:PV→Option PV
 |.ptr a b c d=>some (.ptr a b c d)
 |.fp a b=>some (.fp a b)
 |_=>none
def zpE (neg:Bool):PV→PV→Option PV
 |.bool p,.bool q=>some (.bool (V6 neg (p==q)))
 |_,_=>none
def zlk (k:IntKind):PV→Option PV
 |.int _ n=>some (.int k (k.wrap n))
 |_=>none
def zig (f:Nat) (caps:List PV):Option PV:=if caps.all zH=true then some (.fn f caps) else none
def zb6 (o:Nat):PV→Option PV
 |.ptr id row off tot=>some (.ptr id row (off+o) tot)
 |.fp cs off=>some (.fp cs (off+o))
 |_=>none
def zfc (agg:Bool) (off sz:Nat):PV→Option PV
 |.agg cs=>xb agg sz (cs.drop off)
 |_=>none
def kS:PV→Option PV
 |.fz rows=>some (.int .i64 rows.length)
 |.sl _ _ n _=>some (.int .i64 n)
 |.nils=>some (.int .i64 0)
 |_=>none
def zln:PV→Option PV
 |.str s=>some (.int .i64 s.size)
 |_=>none
def QA (i:Nat):PV→Option PV
 |.tup vs=>vs[i]?
 |_=>none
def wW (sz:Nat) (H:zd) (x i:PV):Option PV:=match i with
 |.int _ n=>if 0≤n then match x with
   |.fz rows=>match rows[n.toNat]? with
    |some r=>if r.length=sz then some (.fp r 0) else none
    |none=>none
   |.sl id off len tot=>match H[id]? with
    |some (.cells s rows)=>if s=sz∧tot=rows.length∧n<len∧off+len≤tot then some (.ptr id (off+n.toNat) 0 tot) else none
    |_=>none
   |_=>none
  else none
 |_=>none
noncomputable def K8 (P:xp) (H:zd) (f:Nat) (args:List PV):Option PV:=match EP P f (args.map (frz 8 H)) with
 |some v=>if (zt args).isEmpty||uZ v then some v else none
 |none=>none
noncomputable def ze3 (P:xp) (H:zd) (x:PV) (args:List PV):Option PV:=match x with
 |.fn f caps=>K8 P H f (args++caps)
 |_=>none
def zbS (zero:List PV) (parts:List (Nat×Nat×PV)):Option PV:=if (parts.all fun p=>(cellsOf p.2.2).length==p.2.1)=true then match vY zero (parts.map fun p=>(p.1,cellsOf p.2.2)) with
   |some cs=>some (.agg cs)
   |none=>none
  else none
def zav (tag:Nat) (zero:PV) (ok:Bool) (H:zd) (m k:PV):Option PV:=match Yu H m with
  |some es=>match findKey tag k es with
   |some r=>some (zjM zero ok r)
   |none=>none
  |none=>none
theorem wH (st:St) (d:Option (Bool×Nat)) (g:Option (zx×Bool)) (op:uD) (os:List kq) (r:Option PV) (h:zq P.glob (CL P) st op=r.map fun v=>(v,st.H,[])):
  xw P (.op ⟨d,op,g,false,[]⟩::os) st=vK P st d (match g with|none=>r|some (x,w)=>gv (wK (x.get P.glob st) w) r) os:=by
 cases g with
 |none=>
  rw [zqX,zdB,h];cases r<;>rfl
 |some g=>
  obtain ⟨x,w⟩:=g
  rw [zow]
  show zdC P (zhe P (wK (x.get P.glob st) w) st _) os=vK P st d (gv (wK (x.get P.glob st) w) r) os
  cases wK (x.get P.glob st) w with
  |none=>rfl
  |some b=>
   rw [zkp,zdB,h]
   cases b
   ·rfl
   ·cases r<;>rfl
variable (st:St) (d:Option (Bool×Nat)) (os:List kq)
section
variable (w:Bool) (q:zx)
theorem zsI (x:zx):zq P.glob (CL P) st (.copy x)=(some (x.get P.glob st)).map fun v=>(v,st.H,[]):=by rfl
theorem zsM (a b c:zx):zq P.glob (CL P) st (.pick a b c)=(zdF (a.get P.glob st) (b.get P.glob st) (c.get P.glob st)).map fun v=>(v,st.H,[]):=by rw [zs6];cases a.get P.glob st<;>rfl
theorem zsK (agg:Bool) (sz:Nat) (x:zx):zq P.glob (CL P) st (.load agg sz x)=(ZK agg sz (x.get P.glob st) st.H).map fun v=>(v,st.H,[]):=by simp only [zq,ZK];cases cellsAt st.H (x.get P.glob st) with|none=>rfl|some cs=>dsimp only;cases xb agg sz cs<;>rfl
theorem zi1 (x:zx):zq P.glob (CL P) st (.nilCheck x)=(Kf (x.get P.glob st)).map fun v=>(v,st.H,[]):=by simp only [zq];cases x.get P.glob st<;>rfl
theorem zvt (o:BinOp) (x y:zx):zq P.glob (CL P) st (.bin o x y)=(Av.bin o (x.get P.glob st) (y.get P.glob st)).map fun v=>(v,st.H,[]):=by simp only [zq];cases Av.bin o (x.get P.glob st) (y.get P.glob st)<;>rfl
theorem zvu (neg:Bool) (x y:zx):zq P.glob (CL P) st (.eqB neg x y)=(zpE neg (x.get P.glob st) (y.get P.glob st)).map fun v=>(v,st.H,[]):=by simp only [zq];cases x.get P.glob st<;>cases y.get P.glob st<;>rfl
theorem zyS (o:UnOp) (x:zx):zq P.glob (CL P) st (.un o x)=(Av.un o (x.get P.glob st)).map fun v=>(v,st.H,[]):=by simp only [zq];cases Av.un o (x.get P.glob st)<;>rfl
theorem zsN (k:zlB) (x:zx):zq P.glob (CL P) st (.prim k x)=(Vx k (x.get P.glob st)).map fun v=>(v,st.H,[]):=by simp only [zq];cases Vx k (x.get P.glob st)<;>rfl
theorem znb (k:Bool) (x y:zx):zq P.glob (CL P) st (.minmax k x y)=(mmV k (x.get P.glob st) (y.get P.glob st)).map fun v=>(v,st.H,[]):=by simp only [zq];cases mmV k (x.get P.glob st) (y.get P.glob st)<;>rfl
theorem zm' (n sz:Nat) (x y:zx):zq P.glob (CL P) st (.indexP n sz x y)=(QD n sz (x.get P.glob st) (y.get P.glob st)).map fun v=>(v,st.H,[]):=by simp only [zq];cases QD n sz (x.get P.glob st) (y.get P.glob st)<;>rfl
theorem zsH (k:IntKind) (x:zx):zq P.glob (CL P) st (.conv k x)=(zlk k (x.get P.glob st)).map fun v=>(v,st.H,[]):=by simp only [zq];cases x.get P.glob st<;>rfl
theorem zsL (f:Nat) (xs:List zx):zq P.glob (CL P) st (.mkfn f xs)=(zig f (xs.map (zx.get P.glob st))).map fun v=>(v,st.H,[]):=by simp only [zq,zig];cases (xs.map (zx.get P.glob st)).all zH<;>rfl
theorem zm9 (n:Nat) (x:zx):zq P.glob (CL P) st (.fieldA n x)=(zb6 n (x.get P.glob st)).map fun v=>(v,st.H,[]):=by simp only [zq];cases x.get P.glob st<;>rfl
theorem zo3 (agg:Bool) (n sz:Nat) (x:zx):zq P.glob (CL P) st (.field agg n sz x)=(zfc agg n sz (x.get P.glob st)).map fun v=>(v,st.H,[]):=by simp only [zq];cases x.get P.glob st with|agg cs=>dsimp only [zfc];cases xb agg sz (cs.drop n)<;>rfl|_=>rfl
theorem zvv (x:zx):zq P.glob (CL P) st (.len x)=(kS (x.get P.glob st)).map fun v=>(v,st.H,[]):=by simp only [zq];cases x.get P.glob st<;>rfl
theorem zsJ (x:zx):zq P.glob (CL P) st (.lenS x)=(zln (x.get P.glob st)).map fun v=>(v,st.H,[]):=by simp only [zq];cases x.get P.glob st<;>rfl
theorem zkH (x:zx) (n:Nat):zq P.glob (CL P) st (.extract x n)=(QA n (x.get P.glob st)).map fun v=>(v,st.H,[]):=by simp only [zq];cases x.get P.glob st with|tup vs=>dsimp only [QA];cases vs[n]?<;>rfl|_=>rfl
theorem zm_ (sz:Nat) (x y:zx):zq P.glob (CL P) st (.indexA sz x y)=(wW sz st.H (x.get P.glob st) (y.get P.glob st)).map fun v=>(v,st.H,[]):=by
 simp only [zq,wW]
 cases y.get P.glob st with
 |int k n=>
  by_cases h0:0≤n
  ·simp only [h0,decide_true,if_true]
   cases x.get P.glob st with
   |fz rows=>
    dsimp only
    cases rows[n.toNat]? with
    |none=>rfl
    |some r=>
     dsimp only
     have e:(r.length==sz)=decide (r.length=sz):=by rw [Bool.eq_iff_iff];simp
     rw [e]
     by_cases hc:r.length=sz
     ·rw [decide_eq_true hc,if_pos hc];rfl
     ·rw [decide_eq_false hc,if_neg hc];rfl
   |sl id off len tot=>
    dsimp only
    cases st.H[id]? with
    |none=>rfl
    |some b=>
     cases b with
     |cells s rows=>
      dsimp only
      have e:(s==sz&&tot==rows.length&&decide (n<len)&&decide (off+len≤tot))=decide (s=sz∧tot=rows.length∧n<len∧off+len≤tot):=by rw [Bool.eq_iff_iff];simp [and_assoc]
      rw [e]
      by_cases hc:s=sz∧tot=rows.length∧n<len∧off+len≤tot
      ·rw [decide_eq_true hc,if_pos hc];rfl
      ·rw [decide_eq_false hc,if_neg hc];rfl
     |map es=>rfl
   |_=>rfl
  ·simp [h0]
 |_=>rfl
theorem zsG (f:Nat) (xs:List zx):zq P.glob (CL P) st (.call .pure f xs)=(K8 P st.H f (xs.map (zx.get P.glob st))).map fun v=>(v,st.H,[]):=by
 show xJ (CL P) st.H .pure f (xs.map (zx.get P.glob st))=_
 simp only [xJ,K8,zsR]
 cases EP P f ((xs.map (zx.get P.glob st)).map (frz 8 st.H)) with
 |none=>rfl
 |some v=>dsimp only;cases (zt (xs.map (zx.get P.glob st))).isEmpty||uZ v<;>rfl
theorem zo2 (x:zx) (xs:List zx):zq P.glob (CL P) st (.callv .pure x xs)=(ze3 P st.H (x.get P.glob st) (xs.map (zx.get P.glob st))).map fun v=>(v,st.H,[]):=by
 simp only [zq]
 cases x.get P.glob st with
 |fn f caps=>
  show xJ (CL P) st.H .pure f (xs.map (zx.get P.glob st)++caps)=_
  simp only [xJ,ze3,K8,zsR]
  cases EP P f ((xs.map (zx.get P.glob st)++caps).map (frz 8 st.H)) with
  |none=>rfl
  |some v=>dsimp only;cases (zt (xs.map (zx.get P.glob st)++caps)).isEmpty||uZ v<;>rfl
 |_=>rfl
theorem zo1 (zero:List PV) (parts:List (Nat×Nat×zx)):zq P.glob (CL P) st (.build zero parts)=(zbS zero (parts.map fun p=>(p.1,p.2.1,p.2.2.get P.glob st))).map fun v=>(v,st.H,[]):=by
 simp only [zq,zbS,List.all_map,List.map_map]
 show (match parts.all fun p=>(cellsOf (p.2.2.get P.glob st)).length==p.2.1 with|true=>_|false=>_)=_
 have:(parts.all ((fun p:Nat×Nat×PV=>(cellsOf p.2.2).length==p.2.1) ∘ fun p:Nat×Nat×zx=>(p.1,p.2.1,p.2.2.get P.glob st)))=parts.all fun p=>(cellsOf (p.2.2.get P.glob st)).length==p.2.1:=rfl
 rw [this]
 cases parts.all fun p=>(cellsOf (p.2.2.get P.glob st)).length==p.2.1 with
 |false=>rfl
 |true=>
  dsimp only [if_true]
  have h2:((fun p:Nat×Nat×PV=>(p.1,cellsOf p.2.2)) ∘ fun p:Nat×Nat×zx=>(p.1,p.2.1,p.2.2.get P.glob st))=fun p=>(p.1,cellsOf (p.2.2.get P.glob st)):=rfl
  rw [h2]
  cases vY zero (parts.map fun p=>(p.1,cellsOf (p.2.2.get P.glob st)))<;>rfl
theorem zna (tag:Nat) (zero:PV) (ok:Bool) (x y:zx):zq P.glob (CL P) st (.lookup tag zero ok x y)=(zav tag zero ok st.H (x.get P.glob st) (y.get P.glob st)).map fun v=>(v,st.H,[]):=by
 simp only [zq,zav]
 cases Yu st.H (x.get P.glob st) with
 |none=>rfl
 |some es=>dsimp only;cases findKey tag (y.get P.glob st) es<;>rfl
theorem zxB (x:zx):xw P (.op ⟨d,.copy x,none,false,[]⟩::os) st=vK P st d (some (x.get P.glob st)) os:=wH st d none _ os _ (zsI st x)
theorem zvE (x:zx):xw P (.op ⟨d,.copy x,some (q,w),false,[]⟩::os) st=vK P st d (gv (wK (q.get P.glob st) w) (some (x.get P.glob st))) os:=wH st d (some (q,w)) _ os _ (zsI st x)
theorem zxH (a b c:zx):xw P (.op ⟨d,.pick a b c,none,false,[]⟩::os) st=vK P st d (zdF (a.get P.glob st) (b.get P.glob st) (c.get P.glob st)) os:=wH st d none _ os _ (zsM st a b c)
theorem zvI (a b c:zx):xw P (.op ⟨d,.pick a b c,some (q,w),false,[]⟩::os) st=vK P st d (gv (wK (q.get P.glob st) w) (zdF (a.get P.glob st) (b.get P.glob st) (c.get P.glob st))) os:=wH st d (some (q,w)) _ os _ (zsM st a b c)
theorem zxF (agg:Bool) (sz:Nat) (x:zx):xw P (.op ⟨d,.load agg sz x,none,false,[]⟩::os) st=vK P st d (ZK agg sz (x.get P.glob st) st.H) os:=wH st d none _ os _ (zsK st agg sz x)
theorem zvG (agg:Bool) (sz:Nat) (x:zx):xw P (.op ⟨d,.load agg sz x,some (q,w),false,[]⟩::os) st=vK P st d (gv (wK (q.get P.glob st) w) (ZK agg sz (x.get P.glob st) st.H)) os:=wH st d (some (q,w)) _ os _ (zsK st agg sz x)
theorem zo' (x:zx):xw P (.op ⟨d,.nilCheck x,none,false,[]⟩::os) st=vK P st d (Kf (x.get P.glob st)) os:=wH st d none _ os _ (zi1 st x)
theorem zni (x:zx):xw P (.op ⟨d,.nilCheck x,some (q,w),false,[]⟩::os) st=vK P st d (gv (wK (q.get P.glob st) w) (Kf (x.get P.glob st))) os:=wH st d (some (q,w)) _ os _ (zi1 st x)
theorem zyY (o:BinOp) (x y:zx):xw P (.op ⟨d,.bin o x y,none,false,[]⟩::os) st=vK P st d (Av.bin o (x.get P.glob st) (y.get P.glob st)) os:=wH st d none _ os _ (zvt st o x y)
theorem zxv (o:BinOp) (x y:zx):xw P (.op ⟨d,.bin o x y,some (q,w),false,[]⟩::os) st=vK P st d (gv (wK (q.get P.glob st) w) (Av.bin o (x.get P.glob st) (y.get P.glob st))) os:=wH st d (some (q,w)) _ os _ (zvt st o x y)
theorem zyZ (neg:Bool) (x y:zx):xw P (.op ⟨d,.eqB neg x y,none,false,[]⟩::os) st=vK P st d (zpE neg (x.get P.glob st) (y.get P.glob st)) os:=wH st d none _ os _ (zvu st neg x y)
theorem zxw (neg:Bool) (x y:zx):xw P (.op ⟨d,.eqB neg x y,some (q,w),false,[]⟩::os) st=vK P st d (gv (wK (q.get P.glob st) w) (zpE neg (x.get P.glob st) (y.get P.glob st))) os:=wH st d (some (q,w)) _ os _ (zvu st neg x y)
theorem zAU (o:UnOp) (x:zx):xw P (.op ⟨d,.un o x,none,false,[]⟩::os) st=vK P st d (Av.un o (x.get P.glob st)) os:=wH st d none _ os _ (zyS st o x)
theorem zyW (o:UnOp) (x:zx):xw P (.op ⟨d,.un o x,some (q,w),false,[]⟩::os) st=vK P st d (gv (wK (q.get P.glob st) w) (Av.un o (x.get P.glob st))) os:=wH st d (some (q,w)) _ os _ (zyS st o x)
theorem zxI (k:zlB) (x:zx):xw P (.op ⟨d,.prim k x,none,false,[]⟩::os) st=vK P st d (Vx k (x.get P.glob st)) os:=wH st d none _ os _ (zsN st k x)
theorem zvJ (k:zlB) (x:zx):xw P (.op ⟨d,.prim k x,some (q,w),false,[]⟩::os) st=vK P st d (gv (wK (q.get P.glob st) w) (Vx k (x.get P.glob st))) os:=wH st d (some (q,w)) _ os _ (zsN st k x)
theorem zs5 (k:Bool) (x y:zx):xw P (.op ⟨d,.minmax k x y,none,false,[]⟩::os) st=vK P st d (mmV k (x.get P.glob st) (y.get P.glob st)) os:=wH st d none _ os _ (znb st k x y)
theorem zqV (k:Bool) (x y:zx):xw P (.op ⟨d,.minmax k x y,some (q,w),false,[]⟩::os) st=vK P st d (gv (wK (q.get P.glob st) w) (mmV k (x.get P.glob st) (y.get P.glob st))) os:=wH st d (some (q,w)) _ os _ (znb st k x y)
theorem zs3 (n sz:Nat) (x y:zx):xw P (.op ⟨d,.indexP n sz x y,none,false,[]⟩::os) st=vK P st d (QD n sz (x.get P.glob st) (y.get P.glob st)) os:=wH st d none _ os _ (zm' st n sz x y)
theorem zqT (n sz:Nat) (x y:zx):xw P (.op ⟨d,.indexP n sz x y,some (q,w),false,[]⟩::os) st=vK P st d (gv (wK (q.get P.glob st) w) (QD n sz (x.get P.glob st) (y.get P.glob st))) os:=wH st d (some (q,w)) _ os _ (zm' st n sz x y)
theorem zxA (k:IntKind) (x:zx):xw P (.op ⟨d,.conv k x,none,false,[]⟩::os) st=vK P st d (zlk k (x.get P.glob st)) os:=wH st d none _ os _ (zsH st k x)
theorem zvD (k:IntKind) (x:zx):xw P (.op ⟨d,.conv k x,some (q,w),false,[]⟩::os) st=vK P st d (gv (wK (q.get P.glob st) w) (zlk k (x.get P.glob st))) os:=wH st d (some (q,w)) _ os _ (zsH st k x)
theorem zxG (f:Nat) (xs:List zx):xw P (.op ⟨d,.mkfn f xs,none,false,[]⟩::os) st=vK P st d (zig f (xs.map (zx.get P.glob st))) os:=wH st d none _ os _ (zsL st f xs)
theorem zvH (f:Nat) (xs:List zx):xw P (.op ⟨d,.mkfn f xs,some (q,w),false,[]⟩::os) st=vK P st d (gv (wK (q.get P.glob st) w) (zig f (xs.map (zx.get P.glob st)))) os:=wH st d (some (q,w)) _ os _ (zsL st f xs)
theorem zs1 (n:Nat) (x:zx):xw P (.op ⟨d,.fieldA n x,none,false,[]⟩::os) st=vK P st d (zb6 n (x.get P.glob st)) os:=wH st d none _ os _ (zm9 st n x)
theorem zqR (n:Nat) (x:zx):xw P (.op ⟨d,.fieldA n x,some (q,w),false,[]⟩::os) st=vK P st d (gv (wK (q.get P.glob st) w) (zb6 n (x.get P.glob st))) os:=wH st d (some (q,w)) _ os _ (zm9 st n x)
theorem zvO (agg:Bool) (n sz:Nat) (x:zx):xw P (.op ⟨d,.field agg n sz x,none,false,[]⟩::os) st=vK P st d (zfc agg n sz (x.get P.glob st)) os:=wH st d none _ os _ (zo3 st agg n sz x)
theorem zsZ (agg:Bool) (n sz:Nat) (x:zx):xw P (.op ⟨d,.field agg n sz x,some (q,w),false,[]⟩::os) st=vK P st d (gv (wK (q.get P.glob st) w) (zfc agg n sz (x.get P.glob st))) os:=wH st d (some (q,w)) _ os _ (zo3 st agg n sz x)
theorem zy0 (x:zx):xw P (.op ⟨d,.len x,none,false,[]⟩::os) st=vK P st d (kS (x.get P.glob st)) os:=wH st d none _ os _ (zvv st x)
theorem zxx (x:zx):xw P (.op ⟨d,.len x,some (q,w),false,[]⟩::os) st=vK P st d (gv (wK (q.get P.glob st) w) (kS (x.get P.glob st))) os:=wH st d (some (q,w)) _ os _ (zvv st x)
theorem zxE (x:zx):xw P (.op ⟨d,.lenS x,none,false,[]⟩::os) st=vK P st d (zln (x.get P.glob st)) os:=wH st d none _ os _ (zsJ st x)
theorem zvF (x:zx):xw P (.op ⟨d,.lenS x,some (q,w),false,[]⟩::os) st=vK P st d (gv (wK (q.get P.glob st) w) (zln (x.get P.glob st))) os:=wH st d (some (q,w)) _ os _ (zsJ st x)
theorem zqY (x:zx) (n:Nat):xw P (.op ⟨d,.extract x n,none,false,[]⟩::os) st=vK P st d (QA n (x.get P.glob st)) os:=wH st d none _ os _ (zkH st x n)
theorem zo_ (x:zx) (n:Nat):xw P (.op ⟨d,.extract x n,some (q,w),false,[]⟩::os) st=vK P st d (gv (wK (q.get P.glob st) w) (QA n (x.get P.glob st))) os:=wH st d (some (q,w)) _ os _ (zkH st x n)
theorem zs2 (sz:Nat) (x y:zx):xw P (.op ⟨d,.indexA sz x y,none,false,[]⟩::os) st=vK P st d (wW sz st.H (x.get P.glob st) (y.get P.glob st)) os:=wH st d none _ os _ (zm_ st sz x y)
theorem zqS (sz:Nat) (x y:zx):xw P (.op ⟨d,.indexA sz x y,some (q,w),false,[]⟩::os) st=vK P st d (gv (wK (q.get P.glob st) w) (wW sz st.H (x.get P.glob st) (y.get P.glob st))) os:=wH st d (some (q,w)) _ os _ (zm_ st sz x y)
theorem zxz (f:Nat) (xs:List zx):xw P (.op ⟨d,.call .pure f xs,none,false,[]⟩::os) st=vK P st d (K8 P st.H f (xs.map (zx.get P.glob st))) os:=wH st d none _ os _ (zsG st f xs)
theorem zvC (f:Nat) (xs:List zx):xw P (.op ⟨d,.call .pure f xs,some (q,w),false,[]⟩::os) st=vK P st d (gv (wK (q.get P.glob st) w) (K8 P st.H f (xs.map (zx.get P.glob st)))) os:=wH st d (some (q,w)) _ os _ (zsG st f xs)
theorem zvM (x:zx) (xs:List zx):xw P (.op ⟨d,.callv .pure x xs,none,false,[]⟩::os) st=vK P st d (ze3 P st.H (x.get P.glob st) (xs.map (zx.get P.glob st))) os:=wH st d none _ os _ (zo2 st x xs)
theorem zsY (x:zx) (xs:List zx):xw P (.op ⟨d,.callv .pure x xs,some (q,w),false,[]⟩::os) st=vK P st d (gv (wK (q.get P.glob st) w) (ze3 P st.H (x.get P.glob st) (xs.map (zx.get P.glob st)))) os:=wH st d (some (q,w)) _ os _ (zo2 st x xs)
theorem zvL (zero:List PV) (parts:List (Nat×Nat×zx)):xw P (.op ⟨d,.build zero parts,none,false,[]⟩::os) st=vK P st d (zbS zero (parts.map fun p=>(p.1,p.2.1,p.2.2.get P.glob st))) os:=wH st d none _ os _ (zo1 st zero parts)
theorem zsX (zero:List PV) (parts:List (Nat×Nat×zx)):xw P (.op ⟨d,.build zero parts,some (q,w),false,[]⟩::os) st=vK P st d (gv (wK (q.get P.glob st) w) (zbS zero (parts.map fun p=>(p.1,p.2.1,p.2.2.get P.glob st)))) os:=wH st d (some (q,w)) _ os _ (zo1 st zero parts)
theorem zs4 (tag:Nat) (zero:PV) (ok:Bool) (x y:zx):xw P (.op ⟨d,.lookup tag zero ok x y,none,false,[]⟩::os) st=vK P st d (zav tag zero ok st.H (x.get P.glob st) (y.get P.glob st)) os:=wH st d none _ os _ (zna st tag zero ok x y)
theorem zqU (tag:Nat) (zero:PV) (ok:Bool) (x y:zx):xw P (.op ⟨d,.lookup tag zero ok x y,some (q,w),false,[]⟩::os) st=vK P st d (gv (wK (q.get P.glob st) w) (zav tag zero ok st.H (x.get P.glob st) (y.get P.glob st))) os:=wH st d (some (q,w)) _ os _ (zna st tag zero ok x y)
end
end
end
section
section
variable {P:xp}
def zp1 (agg:Bool) (sz off:Nat):Bool→Option (List PV)→Option PV
 |true,some cs=>xb agg sz (cs.drop off)
 |_,_=>none
def zp0 (agg:Bool) (sz row off tot:Nat):Option yf→Option PV
 |some (.cells _ rows)=>zp1 agg sz off (decide (tot=rows.length)) rows[row]?
 |_=>none
theorem zt0 (agg:Bool) (sz:Nat) (cs:List PV) (off:Nat) (H:zd):ZK agg sz (.fp cs off) H=xb agg sz (cs.drop off):=rfl
theorem zr4 (agg:Bool) (sz id row off tot:Nat) (H:zd):ZK agg sz (.ptr id row off tot) H=zp0 agg sz row off tot H[id]?:=by
 simp only [ZK,cellsAt]
 cases H[id]? with
 |none=>rfl
 |some b=>
  cases b with
  |cells s rows=>
   simp only [zp0]
   have:(tot==rows.length)=decide (tot=rows.length):=by rw [Bool.eq_iff_iff];simp
   rw [this]
   cases decide (tot=rows.length)<;>cases rows[row]?<;>rfl
  |map es=>rfl
theorem zu9 (sz:Nat) (c:PV) (cs:List PV):xb false sz (c::cs)=some c:=rfl
theorem zu8 (sz:Nat) (cs:List PV):xb true sz cs=if sz≤cs.length then some (.agg (cs.take sz)) else none:=by
 rw [xb];cases h:Nat.ble sz cs.length with
 |true=>rw [if_pos (Nat.le_of_ble_eq_true h)]
 |false=>rw [if_neg (fun h2=>by rw [Nat.ble_eq_true_of_le h2] at h;cases h)]
def zxW (sz:Nat):Option (List PV)→Option PV
 |some r=>if r.length=sz then some (.fp r 0) else none
 |none=>none
def zmb (sz off len tot:Nat) (id:Nat) (n:Int):Option yf→Option PV
 |some (.cells s rows)=>if s=sz∧tot=rows.length∧n<len∧off+len≤tot then some (.ptr id (off+n.toNat) 0 tot) else none
 |_=>none
theorem zh_ (sz:Nat) (H:zd) (rows:List (List PV)) (k:IntKind) (n:Int):wW sz H (.fz rows) (.int k n)=if 0≤n then zxW sz rows[n.toNat]? else none:=by
 rw [wW];cases rows[n.toNat]?<;>rfl
theorem zpT (sz:Nat) (H:zd) (id off len tot:Nat) (k:IntKind) (n:Int):wW sz H (.sl id off len tot) (.int k n)=if 0≤n then zmb sz off len tot id n H[id]? else none:=by
 rw [wW];cases H[id]? with
 |none=>rfl
 |some b=>cases b<;>rfl
theorem zh9 (sz off len tot id:Nat) (n:Int) (s:Nat) (rows:List (List PV)) (h1:s=sz) (h2:tot=rows.length) (h3:n<len) (h4:off+len≤tot):zmb sz off len tot id n (some (.cells s rows))=some (.ptr id (off+n.toNat) 0 tot):=by
 rw [zmb,if_pos ⟨h1,h2,h3,h4⟩]
def zhJ (args:List PV):Option PV→Option PV
 |some v=>if ((zt args).isEmpty||uZ v)=true then some v else none
 |none=>none
theorem ztf (H:zd) (f:Nat) (args:List PV):K8 P H f args=zhJ args (EP P f (args.map (frz 8 H))):=by
 rw [K8];cases EP P f (args.map (frz 8 H))<;>rfl
theorem zrd (H:zd) (f:Nat) (caps args:List PV):ze3 P H (.fn f caps) args=K8 P H f (args++caps):=rfl
theorem zpj (args:List PV) (v:PV):zhJ args (some v)=if ((zt args).isEmpty||uZ v)=true then some v else none:=rfl
theorem zrc {p:Prop} [Decidable p] (args:List PV) (x y:Option PV):zhJ args (if p then x else y)=if p then zhJ args x else zhJ args y:=by by_cases h:p<;>simp only [h,if_true,if_false]
theorem zn2 (agg:Bool) (sz row off tot s:Nat) (rows:List (List PV)):zp0 agg sz row off tot (some (.cells s rows))=zp1 agg sz off (decide (tot=rows.length)) rows[row]?:=rfl
theorem zp2 (agg:Bool) (sz off:Nat) (cs:List PV):zp1 agg sz off true (some cs)=xb agg sz (cs.drop off):=rfl
theorem zrI (sz:Nat) (r:List PV):zxW sz (some r)=if r.length=sz then some (.fp r 0) else none:=rfl
theorem zqc (t:Bool) (x y:PV):zdF (.bool t) x y=some (if t=true then x else y):=rfl
theorem zr9 {p:Prop} [Decidable p] (a b x y:PV):zdF (if p then a else b) x y=if p then zdF a x y else zdF b x y:=by by_cases h:p<;>simp only [h,if_true,if_false]
theorem zk2 (a b c d:Nat):Kf (.ptr a b c d)=some (.ptr a b c d):=rfl
theorem zmu (a:List PV) (b:Nat):Kf (.fp a b)=some (.fp a b):=rfl
theorem zrz (neg p q:Bool):zpE neg (.bool p) (.bool q)=some (.bool (V6 neg (p==q))):=rfl
theorem zyd (b:Bool):V6 true b= !b:=rfl
theorem zyc (b:Bool):V6 false b=b:=rfl
theorem zqe (n:Nat):Vx .fbits (.flt .f64 n)=some (.int .u64 n):=rfl
theorem zsc (k:IntKind) (n:Int):Vx .i2f (.int k n)=some (.flt .f64 (FloatKind.f64.nearest n)):=rfl
theorem zwH (k k':IntKind) (x y:Int):mmV true (.int k x) (.int k' y)=some (.int k (if y>x then y else x)):=rfl
theorem zwI (k k':IntKind) (x y:Int):mmV false (.int k x) (.int k' y)=some (.int k (if y<x then y else x)):=rfl
theorem ztF (n sz a b c d:Nat) (k:IntKind) (j:Int) (h0:0≤j) (h1:j<n):QD n sz (.ptr a b c d) (.int k j)=some (.ptr a b (c+j.toNat*sz) d):=by
 have:(decide (0≤j)&&decide (j<(n:Int)))=true:=by simp [h0,h1]
 simp only [QD,this]
theorem zrj (k k':IntKind) (n:Int):zlk k (.int k' n)=some (.int k (k.wrap n)):=rfl
theorem znR (o a b c d:Nat):zb6 o (.ptr a b c d)=some (.ptr a b (c+o) d):=rfl
theorem zpI (o:Nat) (a:List PV) (b:Nat):zb6 o (.fp a b)=some (.fp a (b+o)):=rfl
theorem zpJ (agg:Bool) (o sz:Nat) (cs:List PV):zfc agg o sz (.agg cs)=xb agg sz (cs.drop o):=rfl
theorem zwz (rows:List (List PV)):kS (.fz rows)=some (.int .i64 rows.length):=rfl
theorem zwA (a b c d:Nat):kS (.sl a b c d)=some (.int .i64 c):=rfl
theorem zrZ:kS .nils=some (.int .i64 0):=rfl
theorem zrY (s:ByteArray):zln (.str s)=some (.int .i64 s.size):=rfl
theorem zl7 (i:Nat) (vs:List PV):QA i (.tup vs)=vs[i]?:=rfl
section
variable (k:IntKind) (x y:Int)
theorem zvR:Av.bin .add (.int k x) (.int k y)=some (.int k (k.wrap (x+y))):=by simp [Av.bin,kw]
theorem zv1:Av.bin .sub (.int k x) (.int k y)=some (.int k (k.wrap (x-y))):=by simp [Av.bin,kw]
theorem zvX:Av.bin .mul (.int k x) (.int k y)=some (.int k (k.wrap (x*y))):=by simp [Av.bin,kw]
theorem zv0 (h:y≠0):Av.bin .rem (.int k x) (.int k y)=some (.int k (x.tmod y)):=by simp [Av.bin,kw,h]
theorem zvZ (h:y≠0):Av.bin .quo (.int k x) (.int k y)=some (.int k (k.wrap (x.tdiv y))):=by simp [Av.bin,kw,h]
theorem zvS:Av.bin .eql (.int k x) (.int k y)=some (.bool (decide (x=y))):=by simp [Av.bin,kw];rw [Bool.eq_iff_iff];simp
theorem zvY:Av.bin .neq (.int k x) (.int k y)=some (.bool (!decide (x=y))):=by simp [Av.bin,kw];rw [Bool.eq_iff_iff];simp
theorem zvW:Av.bin .lss (.int k x) (.int k y)=some (.bool (decide (x<y))):=by simp [Av.bin,kw]
theorem zvV:Av.bin .leq (.int k x) (.int k y)=some (.bool (decide (x≤y))):=by simp [Av.bin,kw]
theorem zvU:Av.bin .gtr (.int k x) (.int k y)=some (.bool (decide (y<x))):=by simp [Av.bin,kw]
theorem zvT:Av.bin .geq (.int k x) (.int k y)=some (.bool (decide (y≤x))):=by simp [Av.bin,kw]
end
section
variable (k:FloatKind) (x y:Nat)
theorem zs7:Av.bin .eql (.flt k x) (.flt k y)=some (.bool (decide (k.format.order x y=some .eq))):=by simp [Av.bin,UX];rw [Bool.eq_iff_iff];simp
theorem zs_:Av.bin .neq (.flt k x) (.flt k y)=some (.bool (!decide (k.format.order x y=some .eq))):=by simp [Av.bin,UX];rw [Bool.eq_iff_iff];simp [bne]
theorem zs9:Av.bin .lss (.flt k x) (.flt k y)=some (.bool (decide (k.format.order x y=some .lt))):=by simp [Av.bin,UX];rw [Bool.eq_iff_iff];simp
theorem zs8:Av.bin .gtr (.flt k x) (.flt k y)=some (.bool (decide (k.format.order x y=some .gt))):=by simp [Av.bin,UX];rw [Bool.eq_iff_iff];simp
end
theorem ztb (x y:ByteArray):Av.bin .eql (.str x) (.str y)=some (.bool (decide (x.toList=y.toList))):=by simp [Av.bin,zbP];rw [Bool.eq_iff_iff];simp
theorem ztc (x y:ByteArray):Av.bin .neq (.str x) (.str y)=some (.bool (!decide (x.toList=y.toList))):=by simp [Av.bin,zbP];rw [Bool.eq_iff_iff];simp
theorem zyR (b:Bool):Av.un .not (.bool b)=some (.bool !b):=rfl
theorem zyQ (k:IntKind) (n:Int):Av.un .neg (.int k n)=some (.int k (k.wrap (0-n))):=rfl
theorem znp (cs:List PV):cellsOf (.agg cs)=cs:=rfl
theorem znr (k:IntKind) (n:Int):cellsOf (.int k n)=[.int k n]:=rfl
theorem zlJ (b:Bool):cellsOf (.bool b)=[.bool b]:=rfl
theorem znt (s:ByteArray):cellsOf (.str s)=[.str s]:=rfl
theorem znq (k:FloatKind) (n:Nat):cellsOf (.flt k n)=[.flt k n]:=rfl
theorem zpn (r:List (List PV)):cellsOf (.fz r)=[.fz r]:=rfl
theorem zpm (r:List PV) (o:Nat):cellsOf (.fp r o)=[.fp r o]:=rfl
theorem zpp (a b c d:Nat):cellsOf (.sl a b c d)=[.sl a b c d]:=rfl
theorem zns (a b c d:Nat):cellsOf (.ptr a b c d)=[.ptr a b c d]:=rfl
theorem zlN:cellsOf .nils=[.nils]:=rfl
theorem zlL:cellsOf .nilm=[.nilm]:=rfl
theorem zlK:cellsOf .nilf=[.nilf]:=rfl
theorem zlM:cellsOf .nilp=[.nilp]:=rfl
theorem zpo (a:Nat):cellsOf (.mp a)=[.mp a]:=rfl
theorem zpk (a:List (PV×PV)):cellsOf (.fm a)=[.fm a]:=rfl
theorem zpl (f:Nat) (c:List PV):cellsOf (.fn f c)=[.fn f c]:=rfl
theorem zpW (k:IntKind) (n:Int):zH (.int k n)=true:=rfl
theorem znV (b:Bool):zH (.bool b)=true:=rfl
theorem zpY (s:ByteArray):zH (.str s)=true:=rfl
theorem zpV (k:FloatKind) (n:Nat):zH (.flt k n)=true:=rfl
theorem zrM (r:List (List PV)):zH (.fz r)=true:=rfl
theorem zrL (r:List PV) (o:Nat):zH (.fp r o)=true:=rfl
theorem zrO (a b c d:Nat):zH (.sl a b c d)=true:=rfl
theorem zpX (a b c d:Nat):zH (.ptr a b c d)=true:=rfl
theorem znZ:zH .nils=true:=rfl
theorem znX:zH .nilm=true:=rfl
theorem znW:zH .nilf=true:=rfl
theorem znY:zH .nilp=true:=rfl
theorem zrN (a:Nat):zH (.mp a)=true:=rfl
theorem zrJ (a:List (PV×PV)):zH (.fm a)=true:=rfl
theorem zrK (f:Nat) (c:List PV):zH (.fn f c)=true:=rfl
def zg8 (H:zd):Option (List PV)→Option PV
 |some vs=>some (frz 8 H (jp vs))
 |none=>none
theorem zrt (H:zd) (vs:List PV):zg8 H (some vs)=some (frz 8 H (jp vs)):=rfl
theorem znI (F:zJ) (st:St):Xc F (some (.ret,st))=zg8 st.H (results st F.res):=by simp only [Xc];cases results st F.res<;>rfl
theorem zjA (F:zJ) (st:St):Xc F (some (.normal,st))=zg8 st.H (results st F.res):=by simp only [Xc];cases results st F.res<;>rfl
def yI (rs:List jd):Option (zp×St)→Option PV
 |some (.normal,st)=>zg8 st.H (Go.Av.results st rs)
 |some (.ret,st)=>zg8 st.H (Go.Av.results st rs)
 |_=>none
theorem ztp (rs:List jd) (st:St):yI rs (some (.ret,st))=zg8 st.H (Go.Av.results st rs):=rfl
theorem znH (rs:List jd) (st:St):yI rs (some (.normal,st))=zg8 st.H (Go.Av.results st rs):=rfl
theorem zto {p:Prop} [Decidable p] (rs:List jd) (x y:Option (zp×St)):yI rs (if p then x else y)=if p then yI rs x else yI rs y:=by by_cases h:p<;>simp only [h,if_true,if_false]
theorem yp {f:Nat} {args:List PV} {F:zJ} (hf:P.fn f=some F) (hn:F.np=args.length):EP P f args=yI F.res (EV P F.code { per:=params 0 args,reg:=[],H:=[],ed:=[] }):=by
 rw [zyU hf hn]
 cases EV P F.code { per:=params 0 args,reg:=[],H:=[],ed:=[] } with
 |none=>rfl
 |some r=>
  obtain ⟨e,st⟩:=r
  cases e with
  |normal=>exact zjA F st
  |ret=>exact znI F st
  |exit i=>rfl
def zuM:Option PV→Option (List PV)→Option (List PV)
 |some v,some vs=>some (v::vs)
 |_,_=>none
theorem zsp (v:PV) (vs:List PV):zuM (some v) (some vs)=some (v::vs):=rfl
theorem zoa (st:St) (n:Nat) (rs:List jd):Go.Av.results st (.tmp n::rs)=zuM (some (st.per.get n)) (Go.Av.results st rs):=by rw [zfF];simp only [jd.get];cases Go.Av.results st rs<;>rfl
theorem zmG (st:St) (n:Nat) (agg:Bool) (sz:Nat) (rs:List jd):Go.Av.results st (.cell n agg sz::rs)=zuM (ZK agg sz (st.per.get n) st.H) (Go.Av.results st rs):=by
 rw [zfF];simp only [jd.get,ZK]
 cases cellsAt st.H (st.per.get n) with
 |none=>rfl
 |some cs=>dsimp only;cases xb agg sz cs<;>cases Go.Av.results st rs<;>rfl
def zdq (n:Nat) (H:zd) (ed:zV):Option (List PV)→Option (PV×zd×zV)
 |some vs=>some (jp vs,(trim n vs H ed).1,(trim n vs H ed).2)
 |none=>none
theorem zhZ (n:Nat) (H:zd) (ed:zV) (vs:List PV):zdq n H ed (some vs)=some (jp vs,(trim n vs H ed).1,(trim n vs H ed).2):=rfl
theorem zkZ (n:Nat) (F:zJ) (st:St):j5 n F (some (.ret,st))=zdq n st.H st.ed (results st F.res):=by simp only [j5];cases results st F.res<;>rfl
theorem zg9 (n:Nat) (F:zJ) (st:St):j5 n F (some (.normal,st))=zdq n st.H st.ed (results st F.res):=by simp only [j5];cases results st F.res<;>rfl
def V2 (n:Nat) (rs:List jd):Option (zp×St)→Option (PV×zd×zV)
 |some (.normal,st)=>zdq n st.H st.ed (Go.Av.results st rs)
 |some (.ret,st)=>zdq n st.H st.ed (Go.Av.results st rs)
 |_=>none
theorem zl4 (n:Nat) (rs:List jd) (st:St):V2 n rs (some (.ret,st))=zdq n st.H st.ed (Go.Av.results st rs):=rfl
theorem znJ (n:Nat) (rs:List jd) (st:St):V2 n rs (some (.normal,st))=zdq n st.H st.ed (Go.Av.results st rs):=rfl
theorem ztq {p:Prop} [Decidable p] (n:Nat) (rs:List jd) (x y:Option (zp×St)):V2 n rs (if p then x else y)=if p then V2 n rs x else V2 n rs y:=by by_cases h:p<;>simp only [h,if_true,if_false]
theorem K_ {f:Nat} {args:List PV} {H:zd} {F:zJ} (hf:P.fn f=some F) (hn:F.np=args.length):ES P f args H=V2 H.length F.res (EV P F.code { per:=params 0 args,reg:=[],H:=H,ed:=[] }):=by
 rw [zyV hf hn]
 cases EV P F.code { per:=params 0 args,reg:=[],H:=H,ed:=[] } with
 |none=>rfl
 |some r=>
  obtain ⟨e,st⟩:=r
  cases e with
  |normal=>exact zg9 _ F st
  |ret=>exact zkZ _ F st
  |exit i=>rfl
theorem zqp (v:PV):jp [v]=v:=rfl
theorem zqo:jp []=.tup []:=rfl
theorem zqq (v w:PV) (l:List PV):jp (v::w::l)=.tup (v::w::l):=rfl
theorem zqd (b:Bool):uZ (.bool b)=true:=rfl
theorem zsa (k:IntKind) (b:Int):uZ (.int k b)=true:=rfl
theorem zsb (b:ByteArray):uZ (.str b)=true:=rfl
theorem zr' (k:FloatKind) (b:Nat):uZ (.flt k b)=true:=rfl
end
end
section
section
variable {α:Type} [Inhabited α]
theorem zoF (sz:Nat) (H:zd) (f:α→List PV) (l:List α) (k:IntKind) (i:Int) (h0:0≤i) (h:i<l.length):wW sz H (.fz (l.map f)) (.int k i)=if (f (za l i)).length=sz then some (.fp (f (za l i)) 0) else none:=by
 rw [zh_,if_pos h0,List.getElem?_map,wc h0 h];rfl
theorem zmd (sz:Nat) (H:zd) (id off len tot:Nat) (k:IntKind) (n:Int) (h:0≤n):wW sz H (.sl id off len tot) (.int k n)=zmb sz off len tot id n H[id]?:=by rw [zpT,if_pos h]
end
end
section
section
variable {P:xp}
theorem ZG {body:AC} {σ:Type} (S:σ→St) (ok:σ→Prop) (μ:σ→Nat) (Q:σ→zp×St→Prop)
  (h:∀ a,ok a→(∃ r,EV P body (S a)=some r∧r.1≠.normal∧Q a r)∨(∃ a' st',ok a'∧μ a'<μ a∧EV P body (S a)=some (.normal,st')∧(S a).next st'=S a'∧∀ r,Q a' r→Q a r)):
  ∀ a,ok a→∃ r,EV P (.loop body) (S a)=some r∧Q a r:=by
 suffices hs:∀ n a,ok a→μ a≤n→∃ r,EV P (.loop body) (S a)=some r∧Q a r from fun a ha=>hs (μ a) a ha (Nat.le_refl _)
 intro n
 induction n with
 |zero=>
  intro a ha hn
  rcases h a ha with ⟨r,he,hr,hq⟩|⟨a',st',_,hl,_⟩
  ·refine ⟨r,?_,hq⟩
   rw [Wa,he];obtain ⟨e,s⟩:=r;cases e<;>first|rfl|exact absurd rfl hr
  ·omega
 |succ n ih=>
  intro a ha hn
  rcases h a ha with ⟨r,he,hr,hq⟩|⟨a',st',ha',hl,he,hs,hq⟩
  ·refine ⟨r,?_,hq⟩
   rw [Wa,he];obtain ⟨e,s⟩:=r;cases e<;>first|rfl|exact absurd rfl hr
  ·obtain ⟨r,hr,hqr⟩:=ih a' ha' (by omega)
   refine ⟨r,?_,hq r hqr⟩
   rw [Wa,he];show EV P (.loop body) ((S a).next st')=_;rw [hs,hr]
theorem JJ {body:AC} {σ:Type} (S:σ→St) (ok:σ→Prop) (μ:σ→Nat) (R:σ→zp×St)
  (h:∀ a,ok a→(EV P body (S a)=some (R a)∧(R a).1≠.normal)∨(∃ a' st',ok a'∧μ a'<μ a∧EV P body (S a)=some (.normal,st')∧(S a).next st'=S a'∧R a'=R a)):
  ∀ a,ok a→EV P (.loop body) (S a)=some (R a):=by
 intro a ha
 obtain ⟨r,hr,hq⟩:=ZG S ok μ (fun a r=>r=R a) (fun a ha=>by
  rcases h a ha with ⟨he,hr⟩|⟨a',st',ha',hl,he,hs,hq⟩
  ·exact .inl ⟨_,he,hr,rfl⟩
  ·exact .inr ⟨a',st',ha',hl,he,hs,fun r h=>by rw [h,hq]⟩) a ha
 rw [hr,hq]
end
theorem zsQ {x:Int} (h1: -9223372036854775808≤x) (h2:x<9223372036854775808):IntKind.i64.wrap x=x:=by rw [IntKind.wrap_i64];omega
section
open Classical
noncomputable def zlo (p:Int→Prop):Nat→Int→Option Int
 |0,_=>none
 |m+1,i=>if p i then some i else zlo p m (i+1)
noncomputable def z8 (p:Int→Prop) (i n:Int):Option Int:=zlo p (n-i).toNat i
theorem zdK (p:Int→Prop) {i n:Int} (h:n≤i):z8 p i n=none:=by
 rw [z8,show (n-i).toNat=0 by omega];rfl
theorem zdL {p:Int→Prop} {i n:Int} (h:i<n) (hp:p i):z8 p i n=some i:=by
 rw [z8,show (n-i).toNat=(n-i-1).toNat+1 by omega,zlo,if_pos hp]
theorem Kh {p:Int→Prop} {i n:Int} (h:i<n) (hp:¬p i):z8 p i n=z8 p (i+1) n:=by
 rw [z8,show (n-i).toNat=(n-(i+1)).toNat+1 by omega,zlo,if_neg hp,z8]
theorem y7 {p:Int→Prop} {i n:Int}:z8 p i n=none↔∀ j,i≤j→j<n→¬p j:=by
 generalize hm:(n-i).toNat=m
 induction m generalizing i with
 |zero=>exact ⟨fun _ j h1 h2=>by omega,fun _=>zdK p (by omega)⟩
 |succ m ih=>
  by_cases hp:p i
  ·rw [zdL (by omega) hp]
   exact ⟨fun h=>(by cases h),fun h=>absurd hp (h i (Int.le_refl _) (by omega))⟩
  ·rw [Kh (by omega) hp,ih (by omega)]
   exact ⟨fun h j h1 h2=>if e:j=i then e▸hp else h j (by omega) h2,fun h j h1 h2=>h j (by omega) h2⟩
theorem xH {p:Int→Prop} {i n j:Int}:z8 p i n=some j↔i≤j∧j<n∧p j∧∀ k,i≤k→k<j→¬p k:=by
 generalize hm:(n-i).toNat=m
 induction m generalizing i with
 |zero=>rw [zdK p (by omega)];exact ⟨fun h=>(by cases h),fun h=>by omega⟩
 |succ m ih=>
  by_cases hp:p i
  ·rw [zdL (by omega) hp]
   constructor
   ·intro h;cases h;exact ⟨Int.le_refl _,by omega,hp,fun k h1 h2=>by omega⟩
   ·rintro ⟨h1,h2,h3,h4⟩
    by_cases e:i=j
    ·rw [e]
    ·exact absurd hp (h4 i (Int.le_refl _) (by omega))
  ·rw [Kh (by omega) hp,ih (by omega)]
   constructor
   ·rintro ⟨h1,h2,h3,h4⟩
    exact ⟨by omega,h2,h3,fun k h5 h6=>if e:k=i then e▸hp else h4 k (by omega) h6⟩
   ·rintro ⟨h1,h2,h3,h4⟩
    have:j≠i:=fun e=>hp (e▸h3)
    exact ⟨by omega,h2,h3,fun k h5 h6=>h4 k (by omega) h6⟩
theorem ziI {p q:Int→Prop} {i n:Int} (h:∀ j,i≤j→j<n→(p j↔q j)):z8 p i n=z8 q i n:=by
 cases hq:z8 q i n with
 |none=>exact y7.2 fun j h1 h2 hp=>y7.1 hq j h1 h2 ((h j h1 h2).1 hp)
 |some j=>
  obtain ⟨h1,h2,h3,h4⟩:=xH.1 hq
  exact xH.2 ⟨h1,h2,(h j h1 h2).2 h3,fun k h5 h6 hp=>h4 k h5 h6 ((h k h5 (by omega)).1 hp)⟩
end
end
section
section
variable {P:xp}
def zyK:Option (zd×zV)→Option (PV×zd×zV)
 |some (H,ed)=>some (.und,H,ed)
 |none=>none
theorem zsz (H:zd) (ed:zV):zyK (some (H,ed))=some (.und,H,ed):=rfl
theorem zv' (sz:Nat) (a x:zx) (st:St):zq P.glob (CL P) st (.store sz a x)=zyK (storeAt st.H sz (a.get P.glob st) (x.get P.glob st)):=by
 simp only [zq];cases storeAt st.H sz (a.get P.glob st) (x.get P.glob st)<;>rfl
def stR (H:zd) (id row off sz s:Nat) (rows:List (List PV)) (x:List PV):Bool→Option (List PV)→Option (zd×zV)
 |true,some cs=>if x.length=sz∧off+sz≤cs.length∧x.all zH=true then some (H.set id (.cells s (rows.set row (cs.take off++x++cs.drop (off+sz)))),wD id x) else none
 |_,_=>none
def stB (H:zd) (id row off sz tot:Nat) (x:List PV):Option yf→Option (zd×zV)
 |some (.cells s rows)=>stR H id row off sz s rows x (decide (tot=rows.length)) rows[row]?
 |_=>none
theorem zkC (H:zd) (id row off sz tot:Nat) (x:List PV) (s:Nat) (rows:List (List PV)):stB H id row off sz tot x (some (.cells s rows))=stR H id row off sz s rows x (decide (tot=rows.length)) rows[row]?:=rfl
theorem zmU (H:zd) (id row off sz s:Nat) (rows:List (List PV)) (x cs:List PV):stR H id row off sz s rows x true (some cs)=if x.length=sz∧off+sz≤cs.length∧x.all zH=true then some (H.set id (.cells s (rows.set row (cs.take off++x++cs.drop (off+sz)))),wD id x) else none:=rfl
theorem zok (H:zd) (sz id row off tot:Nat) (x:PV):storeAt H sz (.ptr id row off tot) x=stB H id row off sz tot (cellsOf x) H[id]?:=by
 simp only [storeAt]
 cases H[id]? with
 |none=>rfl
 |some b=>
  cases b with
  |map es=>rfl
  |cells s rows=>
   rw [zkC]
   have:(tot==rows.length)=decide (tot=rows.length):=by rw [Bool.eq_iff_iff];simp
   simp only [this]
   cases decide (tot=rows.length) with
   |false=>cases rows[row]?<;>rfl
   |true=>
    cases rows[row]? with
    |none=>rfl
    |some cs=>
     rw [zmU]
     have:((cellsOf x).length==sz&&Nat.ble (off+sz) cs.length&&(cellsOf x).all zH)=decide ((cellsOf x).length=sz∧off+sz≤cs.length∧(cellsOf x).all zH=true):=by
      rw [Bool.eq_iff_iff];simp [and_assoc]
     simp only [this]
     by_cases h:(cellsOf x).length=sz∧off+sz≤cs.length∧(cellsOf x).all zH=true
     ·rw [decide_eq_true h,if_pos h]
     ·rw [decide_eq_false h,if_neg h]
def zD (H:zd) (cs:List PV):Option (PV×zd×zV):=if cs.all zH=true then some (.ptr H.length 0 0 1,H++[.cells cs.length [cs]],[]) else none
theorem zza (x:zx) (st:St):zq P.glob (CL P) st (.box x)=zD st.H (cellsOf (x.get P.glob st)):=by
 simp only [zq,zD];cases (cellsOf (x.get P.glob st)).all zH<;>rfl
theorem zv_ (cells:List PV) (st:St):zq P.glob (CL P) st (.alloc cells)=some (.ptr st.H.length 0 0 1,st.H++[.cells cells.length [cells]],[]):=rfl
def zp8 (sz bytes:Nat) (zero:List PV) (H:zd):PV→PV→Option (PV×zd×zV)
 |.int .i64 n,.int .i64 c=>if 0≤n∧n=c∧n*bytes≤35184372088832 then some (.sl H.length 0 n.toNat n.toNat,H++[.cells sz (List.replicate n.toNat zero)],[]) else none
 |_,_=>none
theorem zub (sz bytes:Nat) (zero:List PV) (H:zd) (n:Int) (h1:0≤n) (h2:n*bytes≤35184372088832):zp8 sz bytes zero H (.int .i64 n) (.int .i64 n)=some (.sl H.length 0 n.toNat n.toNat,H++[.cells sz (List.replicate n.toNat zero)],[]):=by
 rw [zp8,if_pos ⟨h1,rfl,h2⟩]
theorem zrm (sz bytes:Nat) (zero:List PV) (a b:zx) (st:St):zq P.glob (CL P) st (.mkslice sz bytes zero a b)=zp8 sz bytes zero st.H (a.get P.glob st) (b.get P.glob st):=by
 simp only [zq]
 cases a.get P.glob st with
 |int k n=>
  cases b.get P.glob st with
  |int k' c=>
   cases k<;>cases k'<;>first|rfl|skip
   rw [zp8]
   have:(decide (0≤n)&&decide (n=c)&&decide (n*bytes≤35184372088832))=decide (0≤n∧n=c∧n*bytes≤35184372088832):=by rw [Bool.eq_iff_iff];simp [and_assoc]
   simp only [this]
   by_cases h:0≤n∧n=c∧n*bytes≤35184372088832
   ·rw [decide_eq_true h,if_pos h]
   ·rw [decide_eq_false h,if_neg h]
  |_=>cases k<;>rfl
 |_=>rfl
theorem zAW (b:Bool):(b=false)=¬(b=true):=by cases b<;>simp
theorem zye (b:Bool):((!b)=true)=¬(b=true):=by cases b<;>simp
theorem znS (cs:List PV):vY cs []=some cs:=rfl
theorem zl8 (cs:List PV) (off:Nat) (new:List PV) (ps:List (Nat×List PV)):vY cs ((off,new)::ps)=if off+new.length≤cs.length∧new.all zH=true then vY (cs.take off++new++cs.drop (off+new.length)) ps else none:=by
 rw [vY]
 have:(Nat.ble (off+new.length) cs.length&&new.all zH)=decide (off+new.length≤cs.length∧new.all zH=true):=by rw [Bool.eq_iff_iff];simp
 rw [this]
 by_cases h:off+new.length≤cs.length∧new.all zH=true
 ·rw [decide_eq_true h,if_pos h]
 ·rw [decide_eq_false h,if_neg h]
def zra:Bool→Option (List PV)→Option PV
 |true,some cs=>some (.agg cs)
 |_,_=>none
theorem znn (cs:List PV):zra true (some cs)=some (.agg cs):=rfl
theorem zrb (zero:List PV) (parts:List (Nat×Nat×PV)):zbS zero parts=zra (parts.all fun p=>decide ((cellsOf p.2.2).length=p.2.1)) (vY zero (parts.map fun p=>(p.1,cellsOf p.2.2))):=by
 have:(parts.all fun p=>(cellsOf p.2.2).length==p.2.1)=parts.all fun p=>decide ((cellsOf p.2.2).length=p.2.1):=by
  congr 1
 rw [zbS,this]
 cases parts.all fun p=>decide ((cellsOf p.2.2).length=p.2.1) with
 |false=>cases vY zero (parts.map fun p=>(p.1,cellsOf p.2.2))<;>rfl
 |true=>cases vY zero (parts.map fun p=>(p.1,cellsOf p.2.2))<;>rfl
section
variable (H l:zd)
theorem xo:(H++l)[H.length]?=l[0]?:=by rw [List.getElem?_append_right (Nat.le_refl _),Nat.sub_self]
theorem wC (k:Nat):(H++l)[H.length+k]?=l[k]?:=by rw [List.getElem?_append_right (by omega)];congr 1;omega
theorem zY {i:Nat} {b:yf} (h:H[i]?=some b):(H++l)[i]?=some b:=by
 have:i<H.length:=by rcases Nat.lt_or_ge i H.length with h1|h1;exact h1;rw [List.getElem?_eq_none h1] at h;cases h
 rw [List.getElem?_append_left this,h]
theorem uR (b:yf):(H++l).set H.length b=H++l.set 0 b:=by rw [List.set_append_right _ _ (Nat.le_refl _),Nat.sub_self]
theorem JC (k:Nat) (b:yf):(H++l).set (H.length+k) b=H++l.set k b:=by rw [List.set_append_right _ _ (by omega)];congr 2;omega
theorem zdl {i:Nat} (h:i<H.length) (b:yf):(H++l).set i b=H.set i b++l:=by rw [List.set_append_left _ _ h]
end
theorem zW (n:Nat) (H:zd) (roots:List PV) (h:H.length≤n):trim n roots H []=(H,[]):=by
 rw [trim];cases bare n (zt roots)&&([]:zV).all _<;>simp [List.take_of_length_le h]
end
end
section
section
variable {P:xp}
def iter {σ:Type} (g:Int→σ→σ):Nat→Int→σ→σ
 |0,_,a=>a
 |m+1,i,a=>iter g m (i+1) (g i a)
theorem vk {body:AC} {σ:Type} (S:Int→σ→St) (g:Int→σ→σ) (ok:Int→σ→Prop) (F:σ→zp×St) (lo n:Int)
  (hstep:∀ i a,lo≤i→i<n→ok i a→(∃ st',EV P body (S i a)=some (.normal,st')∧(S i a).next st'=S (i+1) (g i a))∧ok (i+1) (g i a))
  (hend:∀ i a,lo≤i→i=n→ok i a→EV P body (S i a)=some (F a)∧(F a).1≠.normal):
  ∀ i a,lo≤i→i≤n→ok i a→EV P (.loop body) (S i a)=some (F (iter g (n-i).toNat i a))∧ok n (iter g (n-i).toNat i a):=by
 intro i a h1 h2 h3
 refine ⟨JJ (fun x:Int×σ=>S x.1 x.2) (fun x=>lo≤x.1∧x.1≤n∧ok x.1 x.2) (fun x=>(n-x.1).toNat) (fun x=>F (iter g (n-x.1).toNat x.1 x.2)) ?_ (i,a) ⟨h1,h2,h3⟩,?_⟩
 ·rintro ⟨i,a⟩ ⟨h1,h2,h3⟩
  dsimp only at h1 h2 h3 ⊢
  by_cases hn:i=n
  ·left
   rw [show (n-i).toNat=0 by omega]
   exact hend i a h1 hn h3
  ·right
   obtain ⟨⟨st',h4,h5⟩,h6⟩:=hstep i a h1 (by omega) h3
   refine ⟨(i+1,g i a),st',⟨by dsimp only;omega,by dsimp only;omega,h6⟩,by dsimp only;omega,h4,h5,?_⟩
   dsimp only
   rw [show (n-i).toNat=(n-(i+1)).toNat+1 by omega];rfl
 ·generalize hm:(n-i).toNat=m
  induction m generalizing i a with
  |zero=>
   have:i=n:=by omega
   subst this;exact h3
  |succ m ih=>
   exact ih (i+1) (g i a) (by omega) (by omega) (hstep i a h1 (by omega) h3).2 (by omega)
def v8 {σ ρ:Type} (g:Int→σ→σ ⊕ ρ):Nat→Int→σ→σ ⊕ ρ
 |0,_,a=>.inl a
 |m+1,i,a=>match g i a with
  |.inl a'=>v8 g m (i+1) a'
  |.inr r=>.inr r
end
section
variable {α:Type} [Inhabited α]
theorem Yi {l:List α} {i j:Int} {v:α} (h0:0≤i) (h1:i<l.length) (h2:0≤j):za (l.set i.toNat v) j=if i=j then v else za l j:=by
 simp only [za,List.getD,List.getElem?_set]
 by_cases h:i=j
 ·subst h
  have:i.toNat<l.length:=by omega
  simp [this]
 ·have:i.toNat≠j.toNat:=by omega
  simp [this,h]
theorem zwL {l m:List α} (h:l.length=m.length) (hn:∀ j:Int,0≤j→j<l.length→za l j=za m j):l=m:=by
 refine List.ext_getElem h fun i h1 h2=>?_
 have:=hn i (by omega) (by omega)
 simpa [za,List.getD,h1,h2] using this
theorem zga {l:List α} {j:Int} (h0:0≤j) (h1:l.length≤j):za l j=default:=by
 have:l.length≤j.toNat:=by omega
 simp [za,List.getD,this]
end
theorem zhf {α:Type} (sz off len tot id:Nat) (n:Int) (s:Nat) (f:α→List PV) (xs:List α) (h1:s=sz) (h2:tot=xs.length) (h3:n<len) (h4:off+len≤tot):zmb sz off len tot id n (some (.cells s (xs.map f)))=some (.ptr id (off+n.toNat) 0 tot):=zh9 _ _ _ _ _ _ _ _ h1 (by rw [List.length_map,h2]) h3 h4
def xA (d:Nat) (H:zd) (off len tot:Nat):Option yf→PV
 |some (.cells _ rows)=>if tot=rows.length∧off+len≤tot then .fz (((rows.drop off).take len).map (·.map (frz d H))) else .unk
 |_=>.unk
theorem zjG (d:Nat) (H:zd) (id off len tot:Nat):frz (d+1) H (.sl id off len tot)=xA d H off len tot H[id]?:=by
 rw [frz]
 cases H[id]? with
 |none=>rfl
 |some b=>
  cases b with
  |map es=>rfl
  |cells s rows=>
   have:(tot==rows.length&&decide (off+len≤tot))=decide (tot=rows.length∧off+len≤tot):=by rw [Bool.eq_iff_iff];simp
   simp only [this,xA]
   by_cases h:tot=rows.length∧off+len≤tot
   ·rw [decide_eq_true h,if_pos h]
   ·rw [decide_eq_false h,if_neg h]
theorem Yz {α:Type} (f:α→List PV) (xs:List α) (d:Nat) (H:zd) (len tot s:Nat) (hf:∀ x∈xs,(f x).map (frz d H)=f x) (h1:len=xs.length) (h2:tot=xs.length):xA d H 0 len tot (some (.cells s (xs.map f)))=.fz (xs.map f):=by
 subst h1
 rw [xA,if_pos ⟨by simpa using h2,by omega⟩,List.drop_zero,List.take_of_length_le (by simp),List.map_map]
 congr 1
 exact List.map_congr_left fun x hx=>hf x hx
theorem ztw (xs:List Int) (d:Nat) (H:zd) (len tot s:Nat) (h1:len=xs.length) (h2:tot=xs.length):xA (d+1) H 0 len tot (some (.cells s (xs.map fun k=>[.int .i64 k])))=.fz (xs.map fun k=>[.int .i64 k]):=Yz _ xs _ H len tot s (fun _ _=>rfl) h1 h2
theorem zrG (xs:List Bool) (d:Nat) (H:zd) (len tot s:Nat) (h1:len=xs.length) (h2:tot=xs.length):xA (d+1) H 0 len tot (some (.cells s (xs.map fun k=>[.bool k])))=.fz (xs.map fun k=>[.bool k]):=Yz _ xs _ H len tot s (fun _ _=>rfl) h1 h2
theorem zty (xs:List ByteArray) (d:Nat) (H:zd) (len tot s:Nat) (h1:len=xs.length) (h2:tot=xs.length):xA (d+1) H 0 len tot (some (.cells s (xs.map fun k=>[.str k])))=.fz (xs.map fun k=>[.str k]):=Yz _ xs _ H len tot s (fun _ _=>rfl) h1 h2
theorem zw3 (n:Nat) (v:Int):List.replicate n [PV.int .i64 v]=(List.replicate n v).map fun k=>[.int .i64 k]:=by rw [List.map_replicate]
theorem zuL (n:Nat) (v:Bool):List.replicate n [PV.bool v]=(List.replicate n v).map fun b=>[.bool b]:=by rw [List.map_replicate]
theorem zxb (l:List Int) (i:Nat) (v:Int):(l.map fun k=>[PV.int .i64 k]).set i [.int .i64 v]=(l.set i v).map fun k=>[.int .i64 k]:=by rw [List.map_set]
theorem zuW (l:List Bool) (i:Nat) (v:Bool):(l.map fun b=>[PV.bool b]).set i [.bool v]=(l.set i v).map fun b=>[.bool b]:=by rw [List.map_set]
end
end Go.Av
end
section
namespace Go.Av
open Go Classical
theorem yt {P:xp} {body:AC} (S:Int→St) (bad:Int→Prop) (G:Int→St→Prop) (F:zp×St) (lo n:Int)
  (hstep:∀ i,lo≤i→i<n→¬bad i→∃ st',EV P body (S i)=some (.normal,st')∧(S i).next st'=S (i+1))
  (hbad:∀ i,lo≤i→i<n→bad i→∃ st,EV P body (S i)=some (.ret,st)∧G i st)
  (hend:∀ i,lo≤i→i=n→EV P body (S i)=some F∧F.1≠.normal) (i:Int) (h1:lo≤i) (h2:i≤n):
  match z8 bad i n with|some j=>∃ st,EV P (.loop body) (S i)=some (.ret,st)∧G j st|none=>EV P (.loop body) (S i)=some F:=by
 obtain ⟨r,hr,hq⟩:=ZG S (fun i=>lo≤i∧i≤n) (fun i=>(n-i).toNat) (fun i r=>match z8 bad i n with|some j=>∃ st,r=(.ret,st)∧G j st|none=>r=F) (by
  rintro i ⟨h1,h2⟩
  by_cases hn:i=n
  ·left
   rw [zdK bad (by omega)]
   exact ⟨F,(hend i h1 hn).1,(hend i h1 hn).2,rfl⟩
  ·by_cases hp:bad i
   ·left
    rw [zdL (by omega) hp]
    obtain ⟨st,h3,h4⟩:=hbad i h1 (by omega) hp
    exact ⟨_,h3,by simp,st,rfl,h4⟩
   ·right
    obtain ⟨st',h3,h4⟩:=hstep i h1 (by omega) hp
    exact ⟨i+1,st',⟨by omega,by omega⟩,by omega,h3,h4,fun r h=>by rw [Kh (by omega) hp];exact h⟩) i ⟨h1,h2⟩
 cases hs:z8 bad i n with
 |none=>rw [hs] at hq;dsimp only at hq ⊢;rw [hr,hq]
 |some j=>
  rw [hs] at hq
  obtain ⟨st,rfl,h⟩:=hq
  exact ⟨st,hr,h⟩
def zad {σ ρ:Type} (p:σ→Prop) (q:ρ→Prop):σ ⊕ ρ→Prop
 |.inl a=>p a
 |.inr r=>q r
theorem YA {P:xp} {body:AC} {σ ρ:Type} (S:Int→σ→St) (g:Int→σ→σ ⊕ ρ) (ok:Int→σ→Prop) (F:σ→zp×St) (G:ρ→St→Prop) (lo n:Int)
  (hstep:∀ i a,lo≤i→i<n→ok i a→match g i a with
   |.inl a'=>(∃ st',EV P body (S i a)=some (.normal,st')∧(S i a).next st'=S (i+1) a')∧ok (i+1) a'
   |.inr r=>∃ st,EV P body (S i a)=some (.ret,st)∧G r st)
  (hend:∀ i a,lo≤i→i=n→ok i a→EV P body (S i a)=some (F a)∧(F a).1≠.normal) (i:Int) (a:σ) (h1:lo≤i) (h2:i≤n) (h3:ok i a):
  zad (fun a'=>EV P (.loop body) (S i a)=some (F a')∧ok n a') (fun r=>∃ st,EV P (.loop body) (S i a)=some (.ret,st)∧G r st) (v8 g (n-i).toNat i a):=by
 generalize hm:(n-i).toNat=m
 induction m generalizing i a with
 |zero=>
  have e:i=n:=by omega
  obtain ⟨e1,e2⟩:=hend i a h1 e h3
  subst e
  refine ⟨?_,h3⟩
  rw [Wa,e1]
  generalize F a=r at e2
  obtain ⟨x,s⟩:=r
  cases x<;>first|rfl|exact absurd rfl e2
 |succ m ih=>
  have hs:=hstep i a h1 (by omega) h3
  rw [v8]
  cases hg:g i a with
  |inl a'=>
   rw [hg] at hs
   obtain ⟨⟨st',h4,h5⟩,h6⟩:=hs
   have:=ih (i+1) a' (by omega) (by omega) h6 (by omega)
   have e:EV P (.loop body) (S i a)=EV P (.loop body) (S (i+1) a'):=by rw [Wa,h4];show EV P (.loop body) ((S i a).next st')=_;rw [h5]
   rw [e];exact this
  |inr r=>
   rw [hg] at hs
   obtain ⟨st,h4,h5⟩:=hs
   exact ⟨st,by rw [Wa,h4],h5⟩
def zpN (d:Nat) (H:zd) (off:Nat):Bool→Option (List PV)→PV
 |true,some cs=>.fp (cs.map (frz d H)) off
 |_,_=>.unk
def ztu (d:Nat) (H:zd) (row off tot:Nat):Option yf→PV
 |some (.cells _ rows)=>zpN d H off (decide (tot=rows.length)) rows[row]?
 |_=>.unk
theorem zpO (d:Nat) (H:zd) (off:Nat) (cs:List PV):zpN d H off true (some cs)=.fp (cs.map (frz d H)) off:=rfl
theorem zpP (d:Nat) (H:zd) (row off tot s:Nat) (rows:List (List PV)):ztu d H row off tot (some (.cells s rows))=zpN d H off (decide (tot=rows.length)) rows[row]?:=rfl
theorem ztC (d:Nat) (H:zd) (id row off tot:Nat):frz (d+1) H (.ptr id row off tot)=ztu d H row off tot H[id]?:=by
 rw [frz]
 cases H[id]? with
 |none=>rfl
 |some b=>
  cases b with
  |map es=>rfl
  |cells s rows=>
   have:(tot==rows.length)=decide (tot=rows.length):=by rw [Bool.eq_iff_iff];simp
   simp only [this,ztu]
   cases decide (tot=rows.length)<;>cases rows[row]?<;>rfl
def yc (vl id sz:Nat) (cs:List PV) (st:St):Prop:=st.per.get vl=.ptr id 0 0 1∧st.H[id]?=some (.cells sz [cs])
end Go.Av
end
section
namespace Go.Av
open Go
def zxP (o:zC):List Nat:=match o.dst with|some (false,n)=>[n]|_=>[]
def Qf (o:zC):List Nat:=zso o++zxP o
def Yt:List zC→Nat→Bool
 |[],_=>false
 |o::os,k=>(Qf o).any (Nat.beq k)||Yt os k
def Kb:List Nat→List kq→List kq
 |[],bs=>bs
 |ks,bs=>.kill ks::bs
def ZI:List zC→List kq
 |[]=>[]
 |[o]=>[.op o]
 |o::o'::os=>.op o::Kb ((Qf o).filter fun k=> !(Yt (o'::os) k)) (ZI (o'::os))
theorem zil (ks:List Nat) (bs:List kq):Vw (Kb ks bs)=Vw bs:=by cases ks<;>rfl
theorem zhs (ks:List Nat) (bs:List kq) (k:Nat):Zv (Kb ks bs) k=Zv bs k:=by cases ks<;>rfl
theorem zgH:∀ os,Vw (ZI os)=os
 |[]=>rfl
 |[o]=>rfl
 |o::o'::os=>by rw [ZI,Vw,zil,zgH]
theorem zfV:∀ os k,Zv (ZI os) k=true→Yt os k=true
 |[],_,h=>h
 |[o],k,h=>by
  simp only [ZI,Zv,Bool.or_false] at h
  simp only [Yt,Qf,List.any_append,Bool.or_false,h,Bool.true_or]
 |o::o'::os,k,h=>by
  rw [ZI,Zv,Bool.or_eq_true,zhs] at h
  rw [Yt,Bool.or_eq_true]
  rcases h with h|h
  ·exact .inl (by simp only [Qf,List.any_append,h,Bool.true_or])
  ·exact .inr (zfV _ _ h)
theorem zfn:∀ os,Vj (ZI os)=true
 |[]=>rfl
 |[o]=>rfl
 |o::o'::os=>by
  rw [ZI,Vj]
  have ih:=zfn (o'::os)
  have:∀ ks:List Nat,(∀ k∈ks,Yt (o'::os) k=false)→Vj (Kb ks (ZI (o'::os)))=true:=by
   intro ks hks
   cases ks with
   |nil=>exact ih
   |cons k ks=>
    rw [Kb,Vj,ih,Bool.and_true,List.all_eq_true]
    ·intro j hj
     cases hu:Zv (ZI (o'::os)) j with
     |false=>rfl
     |true=>exact absurd (zfV _ _ hu) (by rw [hks j hj];exact Bool.false_ne_true)
    ·intro h;cases h
  refine this _ fun k hk=>?_
  have:=(List.mem_filter.1 hk).2
  cases hu:Yt (o'::os) k with
  |false=>rfl
  |true=>rw [hu] at this;cases this
theorem rgA {P:xp} {ops:List zC} {l:List kq} (h:ZI ops=l) (d:Bool) (st:St):EV P (.region d ops) st=regK (xw P l { per:=st.per,reg:=[],H:=st.H,ed:=st.ed }):=by
 subst h
 exact zqW d ops _ (zgH ops) (zfn ops) st
def nR:AC→Nat
 |.region _ _=>1
 |.seq a b=>nR a+nR b
 |.cond _ _ a b=>nR a+nR b
 |.block _ b=>nR b
 |.loop b=>nR b
 |.mrange _ _ _ b=>nR b
 |_=>0
def nB:AC→Nat
 |.seq a b=>nB a+nB b
 |.cond _ _ a b=>nB a+nB b
 |.block _ b=>nB b
 |.loop b=>nB b+1
 |.mrange _ _ _ b=>nB b+1
 |_=>0
def jo:AC→List (List zC)
 |.region _ os=>[os]
 |.seq a b=>jo a++jo b
 |.cond _ _ a b=>jo a++jo b
 |.block _ b=>jo b
 |.loop b=>jo b
 |.mrange _ _ _ b=>jo b
 |_=>[]
def wB:AC→Nat→Nat→List (AC×Nat×Nat)
 |.seq a b,i,j=>wB a i j++wB b (i+nR a) (j+nB a)
 |.cond _ _ a b,i,j=>wB a i j++wB b (i+nR a) (j+nB a)
 |.block _ b,i,j=>wB b i j
 |.loop b,i,j=>(b,i,j+1)::wB b i (j+1)
 |.mrange _ _ _ b,i,j=>(b,i,j+1)::wB b i (j+1)
 |_,_,_=>[]
def Uc (R:Nat→List zC) (B:Nat→AC):AC→Nat→Nat→AC
 |.region d _,i,_=>.region d (R i)
 |.seq a b,i,j=>.seq (Uc R B a i j) (Uc R B b (i+nR a) (j+nB a))
 |.cond g c a b,i,j=>.cond g c (Uc R B a i j) (Uc R B b (i+nR a) (j+nB a))
 |.block id b,i,j=>.block id (Uc R B b i j)
 |.loop _,_,j=>.loop (B j)
 |.mrange x W pk _,_,j=>.mrange x W pk (B j)
 |.skip,_,_=>.skip
 |.exit id,_,_=>.exit id
 |.ret,_,_=>.ret
theorem xR:∀ c,(jo c).length=nR c
 |.region _ _=>rfl
 |.seq a b=>by rw [jo,List.length_append,xR a,xR b,nR]
 |.cond _ _ a b=>by rw [jo,List.length_append,xR a,xR b,nR]
 |.block _ b=>xR b
 |.loop b=>xR b
 |.mrange _ _ _ b=>xR b
 |.skip=>rfl
 |.exit _=>rfl
 |.ret=>rfl
theorem xB:∀ c i j,(wB c i j).length=nB c
 |.region _ _,_,_=>rfl
 |.seq a b,i,j=>by rw [wB,List.length_append,xB a,xB b,nB]
 |.cond _ _ a b,i,j=>by rw [wB,List.length_append,xB a,xB b,nB]
 |.block _ b,i,j=>xB b i j
 |.loop b,i,j=>by rw [wB,List.length_cons,xB b,nB]
 |.mrange _ _ _ b,i,j=>by rw [wB,List.length_cons,xB b,nB]
 |.skip,_,_=>rfl
 |.exit _,_,_=>rfl
 |.ret,_,_=>rfl
theorem Qe (R:Nat→List zC) (B:Nat→AC):∀ c i j,(∀ k,k<nR c→(jo c)[k]?=some (R (i+k)))→(∀ k,k<nB c→((wB c i j)[k]?).map (·.1)=some (B (j+k)))→Uc R B c i j=c
 |.region d os,i,j,hR,_=>by
  have:=hR 0 (by rw [nR];omega)
  simp only [jo,List.getElem?_cons_zero,Nat.add_zero,Option.some.injEq] at this
  rw [Uc, ←this]
 |.seq a b,i,j,hR,hB=>by
  rw [Uc,Qe R B a i j,Qe R B b]
  ·intro k hk
   have:=hR (nR a+k) (by rw [nR];omega)
   rw [jo,List.getElem?_append_right (by rw [xR];omega),xR,Nat.add_sub_cancel_left] at this
   rw [this,Nat.add_assoc]
  ·intro k hk
   have:=hB (nB a+k) (by rw [nB];omega)
   rw [wB,List.getElem?_append_right (by rw [xB];omega),xB,Nat.add_sub_cancel_left] at this
   rw [this,Nat.add_assoc]
  ·intro k hk
   have:=hR k (by rw [nR];omega)
   rwa [jo,List.getElem?_append_left (by rw [xR];omega)] at this
  ·intro k hk
   have:=hB k (by rw [nB];omega)
   rwa [wB,List.getElem?_append_left (by rw [xB];omega)] at this
 |.cond g c a b,i,j,hR,hB=>by
  rw [Uc,Qe R B a i j,Qe R B b]
  ·intro k hk
   have:=hR (nR a+k) (by rw [nR];omega)
   rw [jo,List.getElem?_append_right (by rw [xR];omega),xR,Nat.add_sub_cancel_left] at this
   rw [this,Nat.add_assoc]
  ·intro k hk
   have:=hB (nB a+k) (by rw [nB];omega)
   rw [wB,List.getElem?_append_right (by rw [xB];omega),xB,Nat.add_sub_cancel_left] at this
   rw [this,Nat.add_assoc]
  ·intro k hk
   have:=hR k (by rw [nR];omega)
   rwa [jo,List.getElem?_append_left (by rw [xR];omega)] at this
  ·intro k hk
   have:=hB k (by rw [nB];omega)
   rwa [wB,List.getElem?_append_left (by rw [xB];omega)] at this
 |.block id b,i,j,hR,hB=>by rw [Uc,Qe R B b i j hR hB]
 |.loop b,i,j,_,hB=>by
  have:=hB 0 (by rw [nB];omega)
  simp only [wB,List.getElem?_cons_zero,Nat.add_zero,Option.map_some,Option.some.injEq] at this
  rw [Uc, ←this]
 |.mrange x W pk b,i,j,_,hB=>by
  have:=hB 0 (by rw [nB];omega)
  simp only [wB,List.getElem?_cons_zero,Nat.add_zero,Option.map_some,Option.some.injEq] at this
  rw [Uc, ←this]
 |.skip,_,_,_,_=>rfl
 |.exit _,_,_,_,_=>rfl
 |.ret,_,_,_,_=>rfl
def yh (c:AC) (i:Nat):List zC:=(jo c).getD i []
def zU (c:AC) (j:Nat):AC×Nat×Nat:=(wB c 0 0).getD j (.skip,0,0)
def zg4 (c b:AC) (i j:Nat):Prop:=(∀ k,k<nR b→(jo b)[k]?=(jo c)[i+k]?)∧(∀ k,k<nB b→(wB b i j)[k]?=(wB c 0 0)[j+k]?)∧i+nR b≤nR c∧j+nB b≤nB c
theorem zkv (c:AC):zg4 c c 0 0:=⟨fun k _=>by rw [Nat.zero_add],fun k _=>by rw [Nat.zero_add],by omega,by omega⟩
theorem zkB {c b:AC} {i j:Nat} (h:zg4 c b i j):Uc (yh c) (fun j=>(zU c j).1) b i j=b:=by
 refine Qe _ _ b i j (fun k hk=>?_) fun k hk=>?_
 ·have hl:i+k<(jo c).length:=by rw [xR];have:=h.2.2.1;omega
  rw [h.1 k hk,yh,List.getD_eq_getElem?_getD,List.getElem?_eq_getElem hl];rfl
 ·have hl:j+k<(wB c 0 0).length:=by rw [xB];have:=h.2.2.2;omega
  show _=some ((wB c 0 0).getD (j+k) _).1
  rw [h.2.1 k hk,List.getD_eq_getElem?_getD,List.getElem?_eq_getElem hl];rfl
theorem Zs:∀ (c b:AC) (i j:Nat),zg4 c b i j→∀ x i' j',(x,i',j')∈wB b i j→zg4 c x i' j'
 |c,.region _ _,i,j,_,x,i',j',hx=>by cases hx
 |c,.skip,i,j,_,x,i',j',hx=>by cases hx
 |c,.exit _,i,j,_,x,i',j',hx=>by cases hx
 |c,.ret,i,j,_,x,i',j',hx=>by cases hx
 |c,.block id b,i,j,h,x,i',j',hx=>Zs c b i j h x i' j' hx
 |c,.loop b,i,j,h,x,i',j',hx=>by
  have hb:zg4 c b i (j+1):=by
   refine ⟨h.1,fun k hk=>?_,h.2.2.1,by have:=h.2.2.2;simp only [nB] at this;omega⟩
   have:=h.2.1 (k+1) (by rw [nB];omega)
   rw [wB,List.getElem?_cons_succ] at this
   rw [this];congr 1;omega
  rw [wB,List.mem_cons] at hx
  rcases hx with hx|hx
  ·cases hx;exact hb
  ·exact Zs c b i (j+1) hb x i' j' hx
 |c,.mrange _ _ _ b,i,j,h,x,i',j',hx=>by
  have hb:zg4 c b i (j+1):=by
   refine ⟨h.1,fun k hk=>?_,h.2.2.1,by have:=h.2.2.2;simp only [nB] at this;omega⟩
   have:=h.2.1 (k+1) (by rw [nB];omega)
   rw [wB,List.getElem?_cons_succ] at this
   rw [this];congr 1;omega
  rw [wB,List.mem_cons] at hx
  rcases hx with hx|hx
  ·cases hx;exact hb
  ·exact Zs c b i (j+1) hb x i' j' hx
 |c,.seq a b,i,j,h,x,i',j',hx=>by
  rw [wB,List.mem_append] at hx
  have h3:=h.2.2.1
  have h4:=h.2.2.2
  simp only [nR,nB] at h3 h4
  rcases hx with hx|hx
  ·refine Zs c a i j ⟨fun k hk=>?_,fun k hk=>?_,by omega,by omega⟩ x i' j' hx
   ·have:=h.1 k (by rw [nR];omega)
    rwa [jo,List.getElem?_append_left (by rw [xR];omega)] at this
   ·have:=h.2.1 k (by rw [nB];omega)
    rwa [wB,List.getElem?_append_left (by rw [xB];omega)] at this
  ·refine Zs c b _ _ ⟨fun k hk=>?_,fun k hk=>?_,by omega,by omega⟩ x i' j' hx
   ·have:=h.1 (nR a+k) (by rw [nR];omega)
    rw [jo,List.getElem?_append_right (by rw [xR];omega),xR,Nat.add_sub_cancel_left] at this
    rw [this,Nat.add_assoc]
   ·have:=h.2.1 (nB a+k) (by rw [nB];omega)
    rw [wB,List.getElem?_append_right (by rw [xB];omega),xB,Nat.add_sub_cancel_left] at this
    rw [this,Nat.add_assoc]
 |c,.cond _ _ a b,i,j,h,x,i',j',hx=>by
  rw [wB,List.mem_append] at hx
  have h3:=h.2.2.1
  have h4:=h.2.2.2
  simp only [nR,nB] at h3 h4
  rcases hx with hx|hx
  ·refine Zs c a i j ⟨fun k hk=>?_,fun k hk=>?_,by omega,by omega⟩ x i' j' hx
   ·have:=h.1 k (by rw [nR];omega)
    rwa [jo,List.getElem?_append_left (by rw [xR];omega)] at this
   ·have:=h.2.1 k (by rw [nB];omega)
    rwa [wB,List.getElem?_append_left (by rw [xB];omega)] at this
  ·refine Zs c b _ _ ⟨fun k hk=>?_,fun k hk=>?_,by omega,by omega⟩ x i' j' hx
   ·have:=h.1 (nR a+k) (by rw [nR];omega)
    rw [jo,List.getElem?_append_right (by rw [xR];omega),xR,Nat.add_sub_cancel_left] at this
    rw [this,Nat.add_assoc]
   ·have:=h.2.1 (nB a+k) (by rw [nB];omega)
    rw [wB,List.getElem?_append_right (by rw [xB];omega),xB,Nat.add_sub_cancel_left] at this
    rw [this,Nat.add_assoc]
theorem xI {c:AC} {R:Nat→List zC} {B:Nat→AC} {s:(Nat→List zC)→(Nat→AC)→AC} (hR:R=yh c) (hB:B=fun j=>(zU c j).1) (h:∀ R B,Uc R B c 0 0=s R B):c=s R B:=by
 rw [hR,hB, ←h];exact (zkB (zkv c)).symm
theorem xN {c:AC} {R:Nat→List zC} {B:Nat→AC} {j:Nat} {s:(Nat→List zC)→(Nat→AC)→AC} (hR:R=yh c) (hB:B=fun j=>(zU c j).1) (h:∀ R B,Uc R B (zU c j).1 (zU c j).2.1 (zU c j).2.2=s R B):B j=s R B:=by
 have hp:zg4 c (zU c j).1 (zU c j).2.1 (zU c j).2.2:=by
  rw [zU,List.getD_eq_getElem?_getD]
  by_cases hj:j<(wB c 0 0).length
  ·rw [List.getElem?_eq_getElem hj]
   exact Zs c c 0 0 (zkv c) _ _ _ (List.getElem_mem hj)
  ·rw [List.getElem?_eq_none (by omega)]
   exact ⟨fun k hk=>absurd hk (Nat.not_lt_zero _),fun k hk=>absurd hk (Nat.not_lt_zero _),Nat.zero_le _,Nat.zero_le _⟩
 subst hR;subst hB
 rw [←h];exact (zkB hp).symm
end Go.Av
end

/- What the functions compute -/
import Derived.Test.YthndemlfnhpdbaaDoorAv2
import Derived.Test.YthndemlfnhpdbaaDoorEp1
import Derived.Test.YthndemlfnhpdbaaDoorEp2
set_option linter.all false
section
attribute [local congr] ite_congr
set_option maxRecDepth 10000
set_option maxHeartbeats 4000000
namespace Go.Proofs.Tryd.Av
open Go Go.Av Classical
section
structure zdh (ps:List zc) (f:zc) (nd:Ins) (p q:PV) (rl:List Int) (n:Nat):Prop where
 rl4:rl.length=4
 ro:ze nd.Op=some rl
 n1:n≤1048576
 nr:(n:Int)=f.Regs
 pn:ps.length≤1048576
 rp:refs p=[]
 rq:refs q=[]
 fit:∀ k:Int,0≤k→k<4→xO ps.length f (za rl k) (za [nd.A,nd.B,nd.C,nd.D] k)
 ups:∀ k:Int,0≤k→k<4→za rl k=11→(za ps (za [nd.A,nd.B,nd.C,nd.D] k)).Ups.length≤1048576∧∀ u∈(za ps (za [nd.A,nd.B,nd.C,nd.D] k)).Ups,u.Local=true→0≤u.Index∧u.Index<n
section
variable {ps:List zc} {f:zc} {nd:Ins} {p q:PV} {gs:List Gd} {at_:Int} {rl:List Int} {n:Nat}
theorem zAf (g:zdh ps f nd p q rl n) {H:zd} {tkp:PV} {a:List Int×List Int} {k:Int} (h:YY ps f nd p q gs n k H tkp a) (hk:k<4):vM ps f nd p q gs at_ rl n k H tkp a:=by
 have hf:=g.fit k h.k0 hk
 have hr:=g.nr
 by_cases e2:za rl k=2
 ·rw [e2] at hf;simp [xO] at hf;exact zAZ g.rl4 h hk g.ro g.n1 e2 (by split at hf<;>omega)
 by_cases e3:za rl k=3
 ·rw [e3] at hf;simp [xO] at hf;exact zA0 g.rl4 h hk g.ro g.n1 e3 (by split at hf<;>omega)
 by_cases e4:za rl k=4
 ·rw [e4] at hf;simp [xO] at hf;exact zA1 g.rl4 h hk g.ro g.n1 e4 (by omega)
 by_cases e5:za rl k=5
 ·rw [e5] at hf;simp [xO] at hf;exact zA2 g.rl4 h hk g.ro g.n1 e5 (by omega)
 by_cases e6:za rl k=6
 ·rw [e6] at hf;simp [xO] at hf;exact zA3 g.rl4 h hk g.ro g.n1 e6 (by omega)
 by_cases e11:za rl k=11
 ·obtain ⟨u1,u2⟩:=g.ups k h.k0 hk e11
  rw [e11] at hf;simp [xO] at hf;exact zzb g.rl4 h hk g.ro g.n1 g.pn g.rp g.rq e11 (by omega) u1 u2
 by_cases e18:za rl k=18
 ·rw [e18] at hf;simp [xO] at hf;exact zzc g.rl4 h hk g.ro g.n1 e18 (by omega)
 by_cases e19:za rl k=19
 ·rw [e19] at hf;simp [xO] at hf;exact zzd g.rl4 h hk g.ro g.n1 e19 (by omega)
 by_cases e20:za rl k=20
 ·rw [e20] at hf;simp [xO] at hf;exact zze g.rl4 h hk g.ro g.n1 e20 (by omega)
 exact zwq g.rl4 h hk g.ro e2 e3 e4 e5 e6 e11 e18 e19 e20
theorem QF {fs:List Int} {k:Int} {a b:List Int×List Int} (h:wY ps rl fs k a=some b):b.1.length=a.1.length∧b.2.length≤a.2.length+1:=by
 unfold wY at h
 repeat' split at h
 all_goals first|(cases h;done)|(cases h;simp)
theorem zxf (g:zdh ps f nd p q rl n) {H:zd} {ts:List Int} (h:wU ps f nd p q gs H ts .nils []) (hn:ts.length=n):
  ∃ r,EV A (.loop (z7 0)) ⟨zZ ps f at_ p q .nils++[(51,zL rl),(52,.int .i64 0)],[],H,v9⟩=some r∧zvi ps f at_ nd p q gs rl (Zq ps rl nd ts) r:=by
 rw [ztI]
 refine ZG (P:=A) (body:=(z7 0)) (fun (s:Int×zd×PV×(List Int×List Int))=>(⟨zZ ps f at_ p q s.2.2.1++[(51,zL rl),(52,.int .i64 s.1)],[],s.2.1,v9⟩:St)) (fun s=>YY ps f nd p q gs n s.1 s.2.1 s.2.2.1 s.2.2.2) (fun s=>(4-s.1).toNat) (fun s r=>zvi ps f at_ nd p q gs rl (zmi ps rl [nd.A,nd.B,nd.C,nd.D] (4-s.1).toNat s.1 s.2.2.2) r) ?_ (0,H,.nils,(ts,[])) ⟨by simp,by simp,h,hn,by simp⟩
 rintro ⟨k,H,tkp,a⟩ hok
 simp only at hok ⊢
 by_cases ck:k<4
 ·have hgo:=zAf (at_:=at_) g hok ck
  obtain ⟨m,hm⟩:∃ m,(4-k).toNat=m+1:=⟨(4-(k+1)).toNat,by omega⟩
  have hm2:(4-(k+1)).toNat=m:=by omega
  rw [hm,zmi]
  unfold vM at hgo
  cases hi:wY ps rl [nd.A,nd.B,nd.C,nd.D] k a with
  |none=>
   rw [hi] at hgo
   obtain ⟨st,e,g8,g9⟩:=hgo
   exact .inl ⟨_,e,by simp,st,rfl,g8,g9⟩
  |some a'=>
   rw [hi] at hgo
   obtain ⟨tkp',H',st',e1,e2,e3⟩:=hgo
   obtain ⟨l1,l2⟩:=QF hi
   refine .inr ⟨(k+1,H',tkp',a'),st',⟨by have:=hok.k0;simp only;omega,by simp only;omega,e3,by have:=hok.n;simp only;omega,by have:=hok.tk;simp only;omega⟩,by simp only;omega,e1,e2,fun r hr=>?_⟩
   simp only [hm2] at hr
   simp only [Option.bind_some]
   exact hr
 ·have:k=4:=by have:=hok.k1;omega
  subst this
  left
  refine ⟨_,by (simp -implicitDefEqProofs +contextual (disch:=omega) only [zB,zi,zZ,List.cons_append,List.nil_append, ↓XD,XU, ↓reduceIte,sevalprocAttr])<;>rfl,by simp,?_⟩
  exact ⟨tkp,H,rfl,hok.h⟩
end
end
def zg2 (E:zk):Prop:=E=[]∨E=[(233,.bool true)]∨∃ b,E=[(233,.bool false),(243,.bool b)]
abbrev yD (ps:List zc) (f:zc) (a:Int) (p q tkp:PV) (rl:List Int) (L:Nat) (m:Nat) (b:Bool) (o:Int) (E:zk):zk:=zZ ps f a p q tkp++[(51,zL rl),(52,.int .i64 4),(25,.ptr L 0 0 1),(26,.int .i64 m),(27,.bool b),(28,.fn 83 [.ptr 2 0 0 1]),(223,.int .i64 o)]++E
noncomputable def iw1 (nd:Ins) (rl:List Int) (k:Int) (ts:List Int):List Int:=if za rl k=1 then ts.set (za [nd.A,nd.B,nd.C,nd.D] k).toNat (if nd.Op=41 then 3 else yO nd.Op) else ts
noncomputable def Ka (nd:Ins) (rl:List Int):Nat→Int→List Int→List Int
 |0,_,ts=>ts
 |m+1,k,ts=>Ka nd rl m (k+1) (iw1 nd rl k ts)
theorem zwy (nd:Ins) (rl:List Int) (k:Int) (ts:List Int):(iw1 nd rl k ts).length=ts.length:=by unfold iw1;split<;>simp
theorem zjJ (nd:Ins) (rl:List Int):∀ (m:Nat) (k:Int) (ts:List Int),(Ka nd rl m k ts).length=ts.length
 |0,_,_=>rfl
 |m+1,k,ts=>by rw [Ka,zjJ nd rl m,zwy]
structure WrH (nd:Ins) (n:Nat) (gp:PV) (G:List Int→zd) (N:Nat) (ed:zV):Prop where
 c3:∀ t,(G t)[3]?=some (.cells 5 [nd.cells])
 c6:∀ t,(G t)[6]?=some (.cells 1 (yn t))
 c8:∀ t,(G t)[8]?=some (.cells 3 [[.bool true,.sl 6 0 n n,gp]])
 s6:∀ t t',(G t).set 6 (.cells 1 (yn t'))=G t'
 len:∀ t,(G t).length=N
 ed:∀ e∈ed,e.2<N
theorem ztZ {ps:List zc} {f:zc} {a:Int} {p q tkp:PV} {rl:List Int} {L m:Nat} {b:Bool} {E:zk} {nd:Ins} {n:Nat} {gp:PV} {G:List Int→zd} {N:Nat} {ed:zV} (hE:zg2 E) (hrl:rl.length=4) (h:WrH nd n gp G N ed) (hn:n≤1048576)
  (hfit:∀ k:Int,0≤k→k<4→za rl k=1→0≤za [nd.A,nd.B,nd.C,nd.D] k∧za [nd.A,nd.B,nd.C,nd.D] k<n) (ts:List Int) (htn:ts.length=n):
  EV A (.loop (z7 4)) ⟨yD ps f a p q tkp rl L m b nd.Op E++[(29,.ptr (L+5) 0 0 1),(284,zL rl),(285,.int .i64 0)],[],G ts,ed⟩=some (.exit 10,⟨yD ps f a p q tkp rl L m b nd.Op E++[(29,.ptr (L+5) 0 0 1),(284,zL rl),(285,.int .i64 4)],[],G (Ka nd rl 4 0 ts),ed⟩):=by
 have key:=JJ (P:=A) (body:=(z7 4)) (fun (s:Int×List Int)=>(⟨yD ps f a p q tkp rl L m b nd.Op E++[(29,.ptr (L+5) 0 0 1),(284,zL rl),(285,.int .i64 s.1)],[],G s.2,ed⟩:St)) (fun s=>(0≤s.1∧s.1≤4)∧s.2.length=n) (fun s=>(4-s.1).toNat)
  (fun s=>(.exit 10,(⟨yD ps f a p q tkp rl L m b nd.Op E++[(29,.ptr (L+5) 0 0 1),(284,zL rl),(285,.int .i64 4)],[],G (Ka nd rl (4-s.1).toNat s.1 s.2),ed⟩:St))) ?_ (0,ts) ⟨⟨by simp,by simp⟩,htn⟩
 ·exact key
 rintro ⟨k,ts⟩ ⟨⟨k0,k4⟩,hl⟩
 simp only at k0 k4 hl ⊢
 have htr:∀ t roots,trim N roots (G t) ed=(G t,ed):=fun t roots=>by rw [←h.len t];exact Zb (by rw [h.len t];exact h.ed) roots
 by_cases ck:k<4
 ·right
  obtain ⟨j,hj⟩:∃ j,(4-k).toNat=j+1:=⟨(4-(k+1)).toNat,by omega⟩
  have hj2:(4-(k+1)).toNat=j:=by omega
  have hfk:=hfit k k0 ck
  have t1:=wd k0 (by omega:k<rl.length)
  have t2:=wd (l:=[nd.A,nd.B,nd.C,nd.D]) k0 (by simpa using ck)
  obtain ⟨r,hr⟩:∃ r,za rl k=r:=⟨_,rfl⟩
  obtain ⟨x,hx⟩:∃ x,za [nd.A,nd.B,nd.C,nd.D] k=x:=⟨_,rfl⟩
  rw [hr] at t1 hfk
  rw [hx] at t2 hfk
  have hF:=vT nd
  have hg:=ztr nd.Op
  have c3:=h.c3
  have c6:=h.c6
  have c8:=h.c8
  have s6:=h.s6
  have hlen:=h.len
  simp only [Ins.cells,zL,List.map_cons,List.map_nil] at t1 t2 hF c3
  by_cases hr1:r=1
  ·obtain ⟨x0,x1⟩:=hfk hr1
   have x2:x<ts.length:=by omega
   subst hr1
   by_cases h41:nd.Op=41
   ·have hv:iw1 nd rl k ts=ts.set x.toNat 3:=by simp [iw1,hr,hx,h41]
    have hss:(ts.set x.toNat (yO nd.Op)).set x.toNat 3=ts.set x.toNat 3:=by simp
    have hsl:(ts.set x.toNat (yO nd.Op)).length=n:=by rw [List.length_set];exact hl
    obtain ⟨st',e1,e2⟩:∃ st',EV A (z7 4) ⟨yD ps f a p q tkp rl L m b nd.Op E++[(29,.ptr (L+5) 0 0 1),(284,zL rl),(285,.int .i64 k)],[],G ts,ed⟩=some (.normal,st')∧(⟨yD ps f a p q tkp rl L m b nd.Op E++[(29,.ptr (L+5) 0 0 1),(284,zL rl),(285,.int .i64 k)],[],G ts,ed⟩:St).next st'=⟨yD ps f a p q tkp rl L m b nd.Op E++[(29,.ptr (L+5) 0 0 1),(284,zL rl),(285,.int .i64 (k+1))],[],G (ts.set x.toNat 3),ed⟩:=by
     rcases hE with rfl|rfl|⟨b',rfl⟩<;>exact ⟨_,by (simp -implicitDefEqProofs +contextual (disch:=omega) only [Wv,zi,yD,zZ,List.cons_append,List.nil_append,zL,Ins.cells, ↓XD,XU, ↓reduceIte,sevalprocAttr,k0,ck,t1,t2,hF,hg,c3,c6,c8,s6,hl,x0,x1,x2,hss,hsl,eq_true h41])<;>rfl,by simp [St.next,htr,hlen,zL]⟩
    exact ⟨(k+1,ts.set x.toNat 3),st',⟨⟨by simp only;omega,by simp only;omega⟩,by simpa using hl⟩,by simp only;omega,e1,e2,by simp only [hj,hj2,Ka,hv]⟩
   ·have hv:iw1 nd rl k ts=ts.set x.toNat (yO nd.Op):=by simp [iw1,hr,hx,h41]
    obtain ⟨st',e1,e2⟩:∃ st',EV A (z7 4) ⟨yD ps f a p q tkp rl L m b nd.Op E++[(29,.ptr (L+5) 0 0 1),(284,zL rl),(285,.int .i64 k)],[],G ts,ed⟩=some (.normal,st')∧(⟨yD ps f a p q tkp rl L m b nd.Op E++[(29,.ptr (L+5) 0 0 1),(284,zL rl),(285,.int .i64 k)],[],G ts,ed⟩:St).next st'=⟨yD ps f a p q tkp rl L m b nd.Op E++[(29,.ptr (L+5) 0 0 1),(284,zL rl),(285,.int .i64 (k+1))],[],G (ts.set x.toNat (yO nd.Op)),ed⟩:=by
     rcases hE with rfl|rfl|⟨b',rfl⟩<;>exact ⟨_,by (simp -implicitDefEqProofs +contextual (disch:=omega) only [Wv,zi,yD,zZ,List.cons_append,List.nil_append,zL,Ins.cells, ↓XD,XU, ↓reduceIte,sevalprocAttr,k0,ck,t1,t2,hF,hg,c3,c6,c8,s6,hl,x0,x1,x2,eq_false h41])<;>rfl,by simp [St.next,htr,hlen,zL]⟩
    exact ⟨(k+1,ts.set x.toNat (yO nd.Op)),st',⟨⟨by simp only;omega,by simp only;omega⟩,by simpa using hl⟩,by simp only;omega,e1,e2,by simp only [hj,hj2,Ka,hv]⟩
  ·have hv:iw1 nd rl k ts=ts:=by simp [iw1,hr,hr1]
   obtain ⟨st',e1,e2⟩:∃ st',EV A (z7 4) ⟨yD ps f a p q tkp rl L m b nd.Op E++[(29,.ptr (L+5) 0 0 1),(284,zL rl),(285,.int .i64 k)],[],G ts,ed⟩=some (.normal,st')∧(⟨yD ps f a p q tkp rl L m b nd.Op E++[(29,.ptr (L+5) 0 0 1),(284,zL rl),(285,.int .i64 k)],[],G ts,ed⟩:St).next st'=⟨yD ps f a p q tkp rl L m b nd.Op E++[(29,.ptr (L+5) 0 0 1),(284,zL rl),(285,.int .i64 (k+1))],[],G (ts),ed⟩:=by
    rcases hE with rfl|rfl|⟨b',rfl⟩<;>exact ⟨_,by (simp -implicitDefEqProofs +contextual (disch:=omega) only [Wv,zi,yD,zZ,List.cons_append,List.nil_append,zL,Ins.cells, ↓XD,XU, ↓reduceIte,sevalprocAttr,k0,ck,t1,t2,hF,hg,c3,c6,c8,s6,hl,hr1])<;>rfl,by simp [St.next,htr,hlen,zL]⟩
   exact ⟨(k+1,ts),st',⟨⟨by simp only;omega,by simp only;omega⟩,hl⟩,by simp only;omega,e1,e2,by simp only [hj,hj2,Ka,hv]⟩
 ·left
  have:k=4:=by omega
  subst this
  refine ⟨?_,by simp⟩
  rcases hE with rfl|rfl|⟨b',rfl⟩<;>(simp -implicitDefEqProofs +contextual (disch:=omega) only [Wv,zi,yD,zZ,List.cons_append,List.nil_append, ↓XD,XU, ↓reduceIte,sevalprocAttr])<;>rfl
theorem zfQ {n:Nat} {roots:List PV} {H l:zd} {ed:zV} (hb:bare n (zt roots)=true) (hn:H.length=n) (he:∀ e∈ed,e.2<n):trim n roots (H++l) ed=(H,ed):=by
 subst hn
 have h1:(ed.all fun e=>decide (H.length≤e.1)||decide (e.2<H.length))=true:=by
  rw [List.all_eq_true];intro e h;simp [he e h]
 have h2:ed.filter (fun e=>decide (e.2<H.length))=ed:=List.filter_eq_self.2 (by intro e h;simpa using he e h)
 rw [trim,hb,h1,h2]
 simp
abbrev xy (ps:List zc) (f:zc) (a:Int) (p q tkp:PV) (rl:List Int) (L:Nat) (m:Nat) (b:Bool) (o:Int) (E:zk) (i:Int):zk:=yD ps f a p q tkp rl L m b o E++[(29,.ptr (L+5) 0 0 1),(284,zL rl),(285,.int .i64 4),(322,q),(323,.int .i64 m),(324,.int .i64 i)]
theorem zoO (ps:List zc) (f:zc) (a:Int) (p q tkp:PV) (rl:List Int) (L m:Nat) (b:Bool) (o:Int) (E:zk) (ii:Int) (hE:zg2 E) (N:Nat) (K:zd) (ed:zV) (he:∀ e∈ed,e.2<K.length) (tk:List Int) (hs:vm K tkp tk) (hb:tk.length≤1048576) (g:Gd) (hg:K[N]?=some (.cells 3 [g.cells])):match z8 (fun (j:Int)=>za tk j<g.Keep) 0 tk.length with|some j=>∃ st,EV A (.loop (z7 6)) (⟨xy ps f a p q tkp rl L m b o E ii++[(33,.ptr N 0 0 1),(331,tkp),(332,.int .i64 tk.length),(333,.int .i64 (0))],[],K,ed⟩:St)=some (.ret,st)∧st.per.get 8=.int .i64 12∧st.per.get 9=.nils|none=>EV A (.loop (z7 6)) (⟨xy ps f a p q tkp rl L m b o E ii++[(33,.ptr N 0 0 1),(331,tkp),(332,.int .i64 tk.length),(333,.int .i64 (0))],[],K,ed⟩:St)=some (zp.exit 14,(⟨xy ps f a p q tkp rl L m b o E ii++[(33,.ptr N 0 0 1),(331,tkp),(332,.int .i64 tk.length),(333,.int .i64 (tk.length))],[],K,ed⟩:St)):=by
 refine yt (fun i=>(⟨xy ps f a p q tkp rl L m b o E ii++[(33,.ptr N 0 0 1),(331,tkp),(332,.int .i64 tk.length),(333,.int .i64 i)],[],K,ed⟩:St)) (fun (j:Int)=>za tk j<g.Keep) (fun (j:Int) (st:St)=>st.per.get 8=.int .i64 12∧st.per.get 9=.nils) (zp.exit 14,(⟨xy ps f a p q tkp rl L m b o E ii++[(33,.ptr N 0 0 1),(331,tkp),(332,.int .i64 tk.length),(333,.int .i64 (tk.length))],[],K,ed⟩:St)) (0) (tk.length) ?_ ?_ ?_ (0) (by omega) (by omega)
 ·intro i hi hn hp
  obtain ⟨ad,ha,ha2⟩:=hs.idx hi hn;have htr:=fun roots=>Zb (H:=K) (ed:=ed) he roots;simp only [Gd.cells] at hg
  rcases hE with rfl|rfl|⟨b',rfl⟩<;>refine ⟨_,by (simp -implicitDefEqProofs +contextual (disch:=omega) only [JQ,zi,xy,yD,zZ,List.cons_append,List.nil_append, ↓XD,XU, ↓reduceIte,sevalprocAttr,ha,ha2,hg,hn,eq_false hp])<;>rfl,by simp [St.next,htr]⟩
 ·intro i hi hn hp
  obtain ⟨ad,ha,ha2⟩:=hs.idx hi hn;have htr:=fun roots=>Zb (H:=K) (ed:=ed) he roots;simp only [Gd.cells] at hg
  rcases hE with rfl|rfl|⟨b',rfl⟩<;>refine ⟨_,by (simp -implicitDefEqProofs +contextual (disch:=omega) only [JQ,zi,xy,yD,zZ,List.cons_append,List.nil_append, ↓XD,XU, ↓reduceIte,sevalprocAttr,ha,ha2,hg,hn,eq_true hp])<;>rfl,by simp [zk.get,zk.put],by simp [zk.get,zk.put]⟩
 ·rintro i hi rfl
  rcases hE with rfl|rfl|⟨b',rfl⟩<;>refine ⟨by (simp -implicitDefEqProofs +contextual (disch:=omega) only [JQ,zi,xy,yD,zZ,List.cons_append,List.nil_append, ↓XD,XU, ↓reduceIte,sevalprocAttr,Int.lt_irrefl]),by simp⟩
theorem zoN (ps:List zc) (f:zc) (a:Int) (p q tkp:PV) (rl:List Int) (L m:Nat) (b:Bool) (o:Int) (E:zk) (ii:Int) (hE:zg2 E) (N:Nat) (K:zd) (ed:zV) (he:∀ e∈ed,e.2<K.length) (nt:Nat) (bs ts:List Int) (t1:xU p bs) (hbl:bs.length=ts.length) (htl:ts.length≤1048576) (c2:K[2]?=some (.cells 3 [zo p q])) (c6:K[6]?=some (.cells 1 (yn ts))) (gp:PV) (c8:K[8]?=some (.cells 3 [[.bool true,.sl 6 0 ts.length ts.length,gp]])) (kp:Int) (k0:0≤kp) (k1:kp≤ts.length):match z8 (fun (j:Int)=>¬za ts j=za bs j) 0 kp with|some j=>∃ st,EV A (.loop (z7 7)) (⟨xy ps f a p q tkp rl L m b o E ii++[(33,.ptr N 0 0 1),(331,tkp),(332,.int .i64 nt),(333,.int .i64 nt),(343,.int .i64 kp),(344,.int .i64 (0))],[],K,ed⟩:St)=some (.ret,st)∧st.per.get 8=.int .i64 12∧st.per.get 9=.nils|none=>EV A (.loop (z7 7)) (⟨xy ps f a p q tkp rl L m b o E ii++[(33,.ptr N 0 0 1),(331,tkp),(332,.int .i64 nt),(333,.int .i64 nt),(343,.int .i64 kp),(344,.int .i64 (0))],[],K,ed⟩:St)=some (zp.exit 16,(⟨xy ps f a p q tkp rl L m b o E ii++[(33,.ptr N 0 0 1),(331,tkp),(332,.int .i64 nt),(333,.int .i64 nt),(343,.int .i64 kp),(344,.int .i64 (kp))],[],K,ed⟩:St)):=by
 refine yt (fun i=>(⟨xy ps f a p q tkp rl L m b o E ii++[(33,.ptr N 0 0 1),(331,tkp),(332,.int .i64 nt),(333,.int .i64 nt),(343,.int .i64 kp),(344,.int .i64 i)],[],K,ed⟩:St)) (fun (j:Int)=>¬za ts j=za bs j) (fun (j:Int) (st:St)=>st.per.get 8=.int .i64 12∧st.per.get 9=.nils) (zp.exit 16,(⟨xy ps f a p q tkp rl L m b o E ii++[(33,.ptr N 0 0 1),(331,tkp),(332,.int .i64 nt),(333,.int .i64 nt),(343,.int .i64 kp),(344,.int .i64 (kp))],[],K,ed⟩:St)) (0) (kp) ?_ ?_ ?_ (0) (by omega) (by omega)
 ·intro i hi hn hp
  have hx:=fun H=>ve t1 H .i64 i hi (by omega);have htr:=fun roots=>Zb (H:=K) (ed:=ed) he roots;have i1:i<ts.length:=(by omega);simp only [zo] at c2
  have hp':=Classical.not_not.1 hp
  rcases hE with rfl|rfl|⟨b',rfl⟩<;>refine ⟨_,by (simp -implicitDefEqProofs +contextual (disch:=omega) only [JR,zi,xy,yD,zZ,List.cons_append,List.nil_append, ↓XD,XU, ↓reduceIte,sevalprocAttr,hx,c2,c6,c8,hi,i1,hn,hp'])<;>rfl,by simp [St.next,htr]⟩
 ·intro i hi hn hp
  have hx:=fun H=>ve t1 H .i64 i hi (by omega);have htr:=fun roots=>Zb (H:=K) (ed:=ed) he roots;have i1:i<ts.length:=(by omega);simp only [zo] at c2
  rcases hE with rfl|rfl|⟨b',rfl⟩<;>refine ⟨_,by (simp -implicitDefEqProofs +contextual (disch:=omega) only [JR,zi,xy,yD,zZ,List.cons_append,List.nil_append, ↓XD,XU, ↓reduceIte,sevalprocAttr,hx,c2,c6,c8,hi,i1,hn,eq_false hp])<;>rfl,by simp [zk.get,zk.put],by simp [zk.get,zk.put]⟩
 ·rintro i hi rfl
  rcases hE with rfl|rfl|⟨b',rfl⟩<;>refine ⟨by (simp -implicitDefEqProofs +contextual (disch:=omega) only [JR,zi,xy,yD,zZ,List.cons_append,List.nil_append, ↓XD,XU, ↓reduceIte,sevalprocAttr,Int.lt_irrefl]),by simp⟩
def zf7 (tk bs ts:List Int) (g:Gd):Prop:=g.Try=true∧((∃ r∈tk,r<g.Keep)∨∃ r:Int,0≤r∧r<g.Keep∧¬za bs r=za ts r)
theorem zrX {E:zk} (h:zg2 E):∀ r∈zt (E.map fun e=>e.2),False:=by
 rcases h with rfl|rfl|⟨b,rfl⟩<;>(intro r hr;simp [zt,refs] at hr)
theorem zfE:∀ (a b:List PV),zt (a++b)=zt a++zt b
 |[],b=>rfl
 |x::a,b=>by rw [List.cons_append,zt,zt,zfE a b,List.append_assoc]
theorem zvl {ps:List zc} {f:zc} {a:Int} {p q tkp:PV} {rl:List Int} {L m:Nat} {b:Bool} {o:Int} {E:zk} {i:Int} {N:Nat} (hE:zg2 E) (rp:refs p=[]) (rq:refs q=[]) (ht:∀ r∈refs tkp,r<N) (hN:L+6≤N) (h9:9≤L):bare N (zt ((xy ps f a p q tkp rl L m b o E i).map fun e=>e.2))=true:=by
 refine List.all_eq_true.2 fun r hr=>?_
 have h5:∀ r∈refs (zL rl),r<N:=fun r hr=>by simp [refs,zdH] at hr
 have h6:=zrX hE
 simp only [xy,yD,zZ,List.map_append,zfE,List.map_cons,List.map_nil,zt,refs,rp,rq,List.append_nil,List.nil_append,List.mem_append,List.mem_cons,List.not_mem_nil,or_false,false_or] at hr
 simp only [decide_eq_true_eq]
 repeat' rcases hr with hr|hr
 all_goals first|exact ht r hr|exact h5 r hr|exact (h6 r hr).elim|omega|(exfalso;simp at hr)
theorem zwB (ps:List zc) (f:zc) (a:Int) (p q tkp:PV) (rl:List Int) (L:Nat) (b:Bool) (o:Int) (E:zk) (hE:zg2 E) (K:zd) (ed:zV) (he:∀ e∈ed,e.2<K.length) (tk:List Int) (hs:vm K tkp tk) (hb:tk.length≤1048576) (bs ts:List Int) (t1:xU p bs) (hbl:bs.length=ts.length) (htl:ts.length≤1048576) (gs:List Gd) (t2:xF q gs) (hgl:gs.length≤1048576) (hk:∀ x∈gs,0≤x.Keep∧x.Keep≤ts.length) (c2:K[2]?=some (.cells 3 [zo p q])) (c6:K[6]?=some (.cells 1 (yn ts))) (gp:PV) (c8:K[8]?=some (.cells 3 [[.bool true,.sl 6 0 ts.length ts.length,gp]])) (hN:L+6≤K.length) (h9:9≤L):match z8 (fun (j:Int)=>zf7 tk bs ts (za gs j)) 0 gs.length with|some j=>∃ st,EV A (.loop (z7 5)) (⟨xy ps f a p q tkp rl L gs.length b o E (0),[],K,ed⟩:St)=some (.ret,st)∧st.per.get 8=.int .i64 12∧st.per.get 9=.nils|none=>EV A (.loop (z7 5)) (⟨xy ps f a p q tkp rl L gs.length b o E (0),[],K,ed⟩:St)=some (zp.exit 12,(⟨xy ps f a p q tkp rl L gs.length b o E (gs.length),[],K,ed⟩:St)):=by
 refine yt (fun i=>(⟨xy ps f a p q tkp rl L gs.length b o E i,[],K,ed⟩:St)) (fun (j:Int)=>zf7 tk bs ts (za gs j)) (fun (j:Int) (st:St)=>st.per.get 8=.int .i64 12∧st.per.get 9=.nils) (zp.exit 12,(⟨xy ps f a p q tkp rl L gs.length b o E (gs.length),[],K,ed⟩:St)) (0) (gs.length) ?_ ?_ ?_ (0) (by omega) (by omega)
 ·intro i hi hn hp
  have hx:=fun H=>wg t2 H .i64 i hi hn;obtain ⟨g,hgd⟩:∃ g,za gs i=g:=⟨_,rfl⟩;have hkg:=hk g (hgd▸jc hi hn);rw [hgd] at hx hp;have he':∀ e∈ed,e.2<(K++[yf.cells 3 [g.cells]]).length:=fun e h=>(by have:=he e h;simp;omega);have hbare:=fun j=>zvl (ps:=ps) (f:=f) (a:=a) (rl:=rl) (m:=gs.length) (b:=b) (o:=o) (i:=j) hE (yM t1) (yL t2) hs.lt hN h9;have htr:=fun X j=>zfQ (l:=[X]) (hbare j) rfl he;have hta:=zoO ps f a p q tkp rl L gs.length b o E i hE K.length (K++[.cells 3 [g.cells]]) ed he' tk (hs.keep fun r hr=>List.getElem?_append_left (hs.lt r hr)) hb g (xo _ _);have hke:=zoN ps f a p q tkp rl L gs.length b o E i hE K.length (K++[.cells 3 [g.cells]]) ed he' tk.length bs ts t1 hbl htl (zY _ _ c2) (zY _ _ c6) gp (zY _ _ c8) g.Keep hkg.1 hkg.2;have hlt:=hs.len;have hgB:(K++[yf.cells 3 [g.cells]])[K.length]?=some (.cells 3 [g.cells]):=xo _ _;simp only [Gd.cells] at hta hke hx hgB htr
  simp only [xy,yD,zZ] at htr
  cases ht:g.Try with
  |false=>
   rw [ht] at hx hgB
   rcases hE with rfl|rfl|⟨b',rfl⟩<;>simp only [List.cons_append,List.nil_append,List.map_cons,List.map_nil] at htr<;>refine ⟨_,by (simp -implicitDefEqProofs +contextual (disch:=omega) only [Ys,zi,xy,yD,zZ,List.cons_append,List.nil_append, ↓XD,XU, ↓reduceIte,sevalprocAttr,hx,hn,ht,hgB])<;>rfl,by simp [St.next,htr]⟩
  |true=>
   rw [ht] at hx hgB hta hke
   have n1:z8 (fun j=>za tk j<g.Keep) 0 tk.length=none:=by
    cases h:z8 (fun j=>za tk j<g.Keep) 0 tk.length with
    |none=>rfl
    |some j=>obtain ⟨j0,j1,j2,_⟩:=xH.1 h;exact absurd ⟨ht,.inl ⟨_,jc j0 j1,j2⟩⟩ hp
   have n2:z8 (fun j=>¬za ts j=za bs j) 0 g.Keep=none:=by
    cases h:z8 (fun j=>¬za ts j=za bs j) 0 g.Keep with
    |none=>rfl
    |some j=>obtain ⟨j0,j1,j2,_⟩:=xH.1 h;exact absurd ⟨ht,.inr ⟨j,j0,j1,fun e=>j2 e.symm⟩⟩ hp
   rw [n1] at hta
   rw [n2] at hke
   simp only [xy,yD,zZ] at hta hke
   rcases hE with rfl|rfl|⟨b',rfl⟩<;>simp only [List.cons_append,List.nil_append,List.map_cons,List.map_nil] at htr hta hke<;>refine ⟨_,by (simp -implicitDefEqProofs +contextual (disch:=omega) only [Ys,zi,xy,yD,zZ,List.cons_append,List.nil_append, ↓XD,XU, ↓reduceIte,sevalprocAttr,hx,hn,ht,hgB,hlt,hta,hke])<;>rfl,by simp [St.next,htr]⟩
 ·intro i hi hn hp
  have hx:=fun H=>wg t2 H .i64 i hi hn;obtain ⟨g,hgd⟩:∃ g,za gs i=g:=⟨_,rfl⟩;have hkg:=hk g (hgd▸jc hi hn);rw [hgd] at hx hp;have he':∀ e∈ed,e.2<(K++[yf.cells 3 [g.cells]]).length:=fun e h=>(by have:=he e h;simp;omega);have hbare:=fun j=>zvl (ps:=ps) (f:=f) (a:=a) (rl:=rl) (m:=gs.length) (b:=b) (o:=o) (i:=j) hE (yM t1) (yL t2) hs.lt hN h9;have htr:=fun X j=>zfQ (l:=[X]) (hbare j) rfl he;have hta:=zoO ps f a p q tkp rl L gs.length b o E i hE K.length (K++[.cells 3 [g.cells]]) ed he' tk (hs.keep fun r hr=>List.getElem?_append_left (hs.lt r hr)) hb g (xo _ _);have hke:=zoN ps f a p q tkp rl L gs.length b o E i hE K.length (K++[.cells 3 [g.cells]]) ed he' tk.length bs ts t1 hbl htl (zY _ _ c2) (zY _ _ c6) gp (zY _ _ c8) g.Keep hkg.1 hkg.2;have hlt:=hs.len;have hgB:(K++[yf.cells 3 [g.cells]])[K.length]?=some (.cells 3 [g.cells]):=xo _ _;simp only [Gd.cells] at hta hke hx hgB htr
  obtain ⟨ht,hp⟩:=hp
  rw [ht] at hx hgB hta hke
  simp only [xy,yD,zZ] at hta hke
  cases h1:z8 (fun j=>za tk j<g.Keep) 0 tk.length with
  |some j=>
   rw [h1] at hta
   obtain ⟨st,hta,g8,g9⟩:=hta
   rcases hE with rfl|rfl|⟨b',rfl⟩<;>simp only [List.cons_append,List.nil_append] at hta<;>exact ⟨st,by (simp -implicitDefEqProofs +contextual (disch:=omega) only [Ys,zi,xy,yD,zZ,List.cons_append,List.nil_append, ↓XD,XU, ↓reduceIte,sevalprocAttr,hx,hn,ht,hgB,hlt,hta]),g8,g9⟩
  |none=>
   rw [h1] at hta
   cases h2:z8 (fun j=>¬za ts j=za bs j) 0 g.Keep with
   |some j=>
    rw [h2] at hke
    obtain ⟨st,hke,g8,g9⟩:=hke
    rcases hE with rfl|rfl|⟨b',rfl⟩<;>simp only [List.cons_append,List.nil_append] at hta hke<;>exact ⟨st,by (simp -implicitDefEqProofs +contextual (disch:=omega) only [Ys,zi,xy,yD,zZ,List.cons_append,List.nil_append, ↓XD,XU, ↓reduceIte,sevalprocAttr,hx,hn,ht,hgB,hlt,hta,hke]),g8,g9⟩
   |none=>
    exfalso
    rcases hp with ⟨r,hr,h3⟩|⟨r,r0,r1,h3⟩
    ·obtain ⟨j,j0,j1,rfl⟩:=Y' hr;exact y7.1 h1 j j0 j1 h3
    ·exact y7.1 h2 r r0 r1 fun e=>h3 e.symm
 ·rintro i hi rfl
  rcases hE with rfl|rfl|⟨b',rfl⟩<;>refine ⟨by (simp -implicitDefEqProofs +contextual (disch:=omega) only [Ys,zi,xy,yD,zZ,List.cons_append,List.nil_append, ↓XD,XU, ↓reduceIte,sevalprocAttr,Int.lt_irrefl]),by simp⟩
end Go.Proofs.Tryd.Av
end
section
set_option maxRecDepth 10000
set_option maxHeartbeats 4000000
namespace Go.Proofs.Tryd.Av
open Go Go.Av
def right:AC→AC
 |.seq _ b=>b
 |c=>c
noncomputable def Ja:AC:=right (right (right (right (right x_))))
noncomputable def J0:AC:=right (right (right (right (right (right (right Ja))))))
noncomputable def Xs:AC:=right (right (right (right J0)))
noncomputable def VB:AC:=right (right Xs)
theorem zo0:x_=(AC.seq (AC.region false (zw 0)) (AC.seq (AC.region false (zw 1)) (AC.seq (AC.region false (zw 2)) (AC.seq (AC.region false (zw 3)) (AC.seq ((AC.region false (zw 4)).seq (AC.block 0 (z7 0).loop)) Ja))))):=by unfold Ja;rw [Vm];rfl
theorem wE:Ja=(AC.seq ((AC.region false (zw 53)).seq (AC.cond true (zx.per 199) (AC.region false (zw 54)) AC.skip)) (AC.seq (AC.region false (zw 55)) (AC.seq ((AC.region false (zw 56)).seq ((AC.region false (zw 57)).seq (AC.cond true (zx.per 210) (AC.region false (zw 58)) AC.skip))) (AC.seq (AC.region false (zw 59)) (AC.seq (AC.region false (zw 60)) (AC.seq ((AC.region false (zw 61)).seq (AC.block 9 ((AC.region false (zw 62)).seq (AC.cond true (zx.per 224) ((AC.region false (zw 63)).seq (AC.cond true (zx.per 232) ((AC.region false (zw 64)).seq AC.ret) AC.skip)) (((AC.region false (zw 65)).seq (AC.cond false (zx.per 233) AC.skip ((AC.region false (zw 66)).seq (AC.cond false (zx.per 233) AC.skip (AC.region false (zw 67)))))).seq (AC.cond false (zx.per 233) ((AC.region false (zw 68)).seq (AC.cond true (zx.per 242) ((AC.region false (zw 69)).seq AC.ret) AC.skip)) (((AC.region false (zw 70)).seq (AC.cond false (zx.per 243) AC.skip (AC.region false (zw 71)))).seq (AC.cond false (zx.per 243) ((AC.region false (zw 72)).seq (AC.cond true (zx.per 249) ((AC.region false (zw 73)).seq AC.ret) AC.skip)) AC.skip)))))))) (AC.seq ((AC.region false (zw 74)).seq (AC.cond true (zx.per 278) ((AC.region false (zw 75)).seq AC.ret) AC.skip)) J0))))))):=by unfold J0 Ja;rw [Vm];rfl
theorem zgc:J0=(AC.seq (AC.region false (zw 76)) (AC.seq ((AC.region false (zw 77)).seq (AC.block 10 (z7 4).loop)) (AC.seq ((AC.region false (zw 85)).seq (AC.cond true (zx.per 314) (AC.region false (zw 86)) AC.skip)) (AC.seq ((AC.region false (zw 87)).seq (AC.block 12 (z7 5).loop)) Xs)))):=by unfold Xs J0 Ja;rw [Vm];rfl
theorem JO:Xs=(AC.seq (AC.region false (zw 104)) (AC.seq ((AC.region false (zw 105)).seq (AC.block 18 (((AC.region false (zw 106)).seq (AC.cond false (zx.per 366) AC.skip (AC.region false (zw 107)))).seq (AC.cond false (zx.per 366) (AC.region false (zw 108)) ((AC.region false (zw 109)).seq (AC.cond true (zx.per 374) (AC.region false (zw 110)) ((AC.region false (zw 111)).seq (AC.cond true (zx.per 383) (AC.region false (zw 112)) ((AC.region false (zw 113)).seq (AC.cond true (zx.per 393) (AC.region false (zw 114)) AC.skip)))))))))) VB)):=by unfold VB Xs J0 Ja;rw [Vm];rfl
theorem JP:VB=(AC.seq (AC.region false (zw 115)) (AC.seq ((AC.region false (zw 116)).seq (AC.cond true (zx.per 417) (AC.region false (zw 117)) AC.skip)) (AC.seq ((AC.region false (zw 118)).seq (AC.block 19 ((AC.region false (zw 119)).seq (AC.cond true (zx.per 427) (AC.region false (zw 120)) (((AC.region false (zw 121)).seq (AC.cond false (zx.per 436) AC.skip ((AC.region false (zw 122)).seq (AC.cond false (zx.per 436) AC.skip ((AC.region false (zw 123)).seq (AC.cond false (zx.per 436) AC.skip (AC.region false (zw 124)))))))).seq (AC.cond false (zx.per 436) (AC.region false (zw 125)) ((AC.region false (zw 126)).seq (AC.cond true (zx.per 448) (AC.region false (zw 127)) ((AC.region false (zw 128)).seq (AC.cond true (zx.per 457) ((AC.region false (zw 129)).seq (((AC.region false (zw 130)).seq (AC.block 20 (z7 8).loop)).seq ((AC.region true (zw 134)).seq (AC.region false (zw 135))))) AC.skip)))))))))) (AC.seq (AC.region false (zw 136)) AC.ret)))):=by unfold VB Xs J0 Ja;rw [Vm];rfl
end Go.Proofs.Tryd.Av
end
section
attribute [local congr] ite_congr
set_option maxRecDepth 10000
set_option maxHeartbeats 4000000
namespace Go.Proofs.Tryd.Av
open Go Go.Av Classical
abbrev zf_ (ps:List zc) (f:zc) (a:Int) (p q:PV):zk:=[(0,code ps),(1,.agg f.cells),(2,.int .i64 a),(3,.agg (zo p q))]
theorem zu6 {ps:List zc} {f:zc} {a:Int} {p q:PV} {s:yr} {nd:Ins} {rl:List Int} (g:zdh ps f nd p q rl s.Types.length) (t1:xU p s.Types) (t2:xF q s.Guards) (h2:s.Guards.length≤1048576) (a0:0≤a) (a1:a<f.Ins.length) (hb:f.Ins.length≤1048576) (hnd:za f.Ins a=nd):
  match Zq ps rl nd s.Types with
  |none=>∃ st,EV A x_ ⟨zf_ ps f a p q,[],[],[]⟩=some (.ret,st)∧st.per.get 8=.int .i64 10∧st.per.get 9=.nils
  |some x=>∃ tkp H,wU ps f nd p q s.Guards H x.1 tkp x.2∧EV A x_ ⟨zf_ ps f a p q,[],[],[]⟩=EV A Ja ⟨zZ ps f a p q tkp++[(51,zL rl),(52,.int .i64 4)],[],H,v9⟩:=by
 have hcp:=zfb (r:=true) t1 t2 g.n1 h2
 have c1:=uH t1
 have c2:=yN t2
 have k1:=jM t1
 have k2:=xf t2
 have rf1:=yM t1
 have rf2:=yL t2
 have z1:=fun d H=>uz t1 d H
 have z2:=fun d H=>ww t2 d H
 have hL:=fun z H=>w9 z H nd.Op
 simp only [g.ro] at hL
 have lv:=fun k=>Uu k s.Types
 have lg:=fun k=>Yh k s.Guards
 have hH:wU ps f nd p q s.Guards [.cells 1 [[zb ps]],.cells 9 [f.cells],.cells 3 [zo p q],.cells 5 [nd.cells],.cells 3 [[.bool true,.sl 6 0 s.Types.length s.Types.length,.sl 7 0 s.Guards.length s.Guards.length]],.cells 3 [[.bool true,.sl 6 0 s.Types.length s.Types.length,.sl 7 0 s.Guards.length s.Guards.length]],.cells 1 (yn s.Types),.cells 3 (vv s.Guards),.cells 3 [[.bool true,.sl 6 0 s.Types.length s.Types.length,.sl 7 0 s.Guards.length s.Guards.length]]] s.Types .nils []:=
  ⟨rfl,rfl,rfl,rfl,rfl,rfl,rfl,.inl ⟨rfl,rfl⟩,fun r hr=>by cases hr⟩
 obtain ⟨r,e,hq⟩:=zxf (at_:=a) g hH rfl
 simp only [zZ,code,zb,zo,zc.cells,ups,zf,zj,zm,Ins.cells,List.cons_append,List.nil_append,yn,vv] at e hcp lv lg
 cases hr:Zq ps rl nd s.Types with
 |none=>
  rw [hr] at hq
  obtain ⟨st,rfl,g8,g9⟩:=hq
  exact ⟨st,by simp -implicitDefEqProofs +contextual (disch:=omega) only [zo0,zi,zf_,jC,zo,zD,code,zb,zc.cells,ups,zf,zj,zm,Ins.cells, ↓XD,XU, ↓reduceIte,sevalprocAttr,c1,c2,k1,k2,rf1,rf2,hcp,hnd,a0,a1,hL,z1 6,z2 6,lv,lg,e],g8,g9⟩
 |some x=>
  rw [hr] at hq
  obtain ⟨tkp,H,rfl,hS⟩:=hq
  refine ⟨tkp,H,hS,?_⟩
  simp -implicitDefEqProofs +contextual (disch:=omega) only [zo0,zi,zf_,zZ,List.cons_append,List.nil_append,jC,zo,zD,code,zb,zc.cells,ups,zf,zj,zm,Ins.cells, ↓XD,XU, ↓reduceIte,sevalprocAttr,c1,c2,k1,k2,rf1,rf2,hcp,hnd,a0,a1,hL,z1 6,z2 6,lv,lg,e]
section
def wF (o:Int):zk:=if o=32 then [] else if o=34∨o=35∨o=36 then [(233,.bool true)] else [(233,.bool false),(243,.bool (decide (o=31∨o=33)))]
theorem zmm (o:Int):zg2 (wF o):=by
 unfold wF
 split
 ·exact .inl rfl
 ·split
  ·exact .inr (.inl rfl)
  ·exact .inr (.inr ⟨_,rfl⟩)
section
variable {ps:List zc} {f:zc} {nd:Ins} {p q:PV} {gs:List Gd} {H:zd} {ts:List Int} {tkp:PV} {tk:List Int} {a:Int} {rl:List Int}
theorem wU.more (h:wU ps f nd p q gs H ts tkp tk) (hb:tk.length≤1000) (y:Int):∃ p' H',xe H 1 8 tkp [[.int .i64 y]]=some (p',H',[])∧wU ps f nd p q gs H' ts p' (tk++[y]):=by
 have hH:=xd h.c8
 rcases h.tk with ⟨rfl,rfl⟩|⟨id,rfl,h1⟩
 ·refine ⟨_,_,xE H 1 8 [[.int .i64 y]] (by simp),?_⟩
  have:=h.app [.cells 1 [[.int .i64 y]]]
  exact ⟨this.c0,this.c1,this.c2,this.c3,this.c6,this.c7,this.c8,.inr ⟨H.length,rfl,by rw [xo];rfl⟩,fun r hr=>by simp [refs] at hr;omega⟩
 ·have hid:=h.far id (by simp [refs])
  have:=ZC (by':=8) (n:=tk.length) h1 (by simp) (by omega) [.int .i64 y] rfl
  refine ⟨_,_,this,?_⟩
  have kp:∀ j,j<9→(H.set id (.cells 1 (yn tk++[[.int .i64 y]])))[j]?=H[j]?:=fun j hj=>List.getElem?_set_ne (by omega)
  exact ⟨(kp 0 (by omega)).trans h.c0,(kp 1 (by omega)).trans h.c1,(kp 2 (by omega)).trans h.c2,(kp 3 (by omega)).trans h.c3,(kp 6 (by omega)).trans h.c6,(kp 7 (by omega)).trans h.c7,(kp 8 (by omega)).trans h.c8,.inr ⟨id,by simp,by rw [List.getElem?_set_self (xd h1)];simp⟩,fun r hr=>by simp [refs] at hr;subst hr;exact hid⟩
def jq (nd:Ins) (tk:List Int):List Int:=if nd.Op=40 then tk++[nd.A] else tk
def Xh (ps:List zc) (f:zc) (a:Int) (nd:Ins) (p q:PV) (gs:List Gd) (rl:List Int) (H:zd) (ts:List Int) (tkp:PV) (tk:List Int):Prop:=
 match change nd gs with
 |none=>∃ st,EV A Ja ⟨zZ ps f a p q tkp++[(51,zL rl),(52,.int .i64 4)],[],H,v9⟩=some (.ret,st)∧st.per.get 8=.int .i64 11∧st.per.get 9=.nils
 |some _=>∃ tkp' H' b g,wU ps f nd p q gs H' ts tkp' (jq nd tk)∧EV A Ja ⟨zZ ps f a p q tkp++[(51,zL rl),(52,.int .i64 4)],[],H,v9⟩=EV A J0 ⟨yD ps f a p q tkp' rl H'.length gs.length b nd.Op (wF nd.Op),[],H'++[.cells 3 [g]],v9⟩
theorem zu1 {bs:List Int} {o A' B' C' D':Int} (h:wU ps f ⟨o,A',B',C',D'⟩ p q gs H ts tkp tk) (htk:tk.length≤1000) (t1:xU p bs) (t2:xF q gs) (hgl:gs.length≤1048576) (n32:¬o=32) (n34:¬o=34) (n35:¬o=35) (n36:¬o=36) (n31:¬o=31) (n33:¬o=33) (n40:¬o=40):Xh ps f a ⟨o,A',B',C',D'⟩ p q gs rl H ts tkp tk:=by
 unfold Xh
 rw [show change ⟨o,A',B',C',D'⟩ gs=some gs by simp [change,n32,n34,n35,n36,n31,n33,n40]]
 have c2:=yN t2
 have k2:=xf t2
 have z1:=fun d H=>uz t1 d H
 have z2:=fun d H=>ww t2 d H
 have lg:=wx t2
 have p2:=h.c2
 have p3:=h.c3
 have qA:∀ X:yf,(H++[X])[2]?=some (.cells 3 [zo p q]):=fun X=>zY H [X] p2
 have qB:∀ X:yf,(H++[X])[3]?=some (.cells 5 [Ins.cells ⟨o,A',B',C',D'⟩]):=fun X=>zY H [X] p3
 have qD:∀ X:yf,(H++[X])[H.length]?=some X:=fun X=>xo _ _
 have qE:∀ X Y:yf,(H++[X]).set H.length Y=H++[Y]:=fun X Y=>uR _ _ _
 have lA:=fun r=>wO (r:=r) (p:=p) t2 A' (by omega)
 have lB:=fun r=>wO (r:=r) (p:=p) t2 B' (by omega)
 simp only [zo,Ins.cells] at p2 p3 qA qB
 have htq:jq ⟨o,A',B',C',D'⟩ tk=tk:=by simp [jq,n40]
 rw [htq]
 by_cases hp:(0:Int)<gs.length
 ·have hi2:=fun H=>wg t2 H .i64 ((gs.length:Int)-1) (by omega) (by omega)
  simp only [Gd.cells] at hi2
  refine ⟨tkp,H,true,(za gs ((gs.length:Int)-1)).cells,h,?_⟩
  simp -implicitDefEqProofs +contextual (disch:=omega) only [wE,zi,zZ,yD,wF,List.cons_append,List.nil_append,zo,zD,Ins.cells,Gd.cells, ↓XD,XU, ↓reduceIte,sevalprocAttr,c2,k2,p2,p3,qA,qB,qD,qE,lg,lA,lB,z1 6,z2 6,z1 5,z2 5,hi2,eq_true hp,n32,n34,n35,n36,n31,n33,n40]
 ·have hz:gs.length=0:=by omega
  refine ⟨tkp,H,false,[.bool false,.int .i64 0,.int .i64 0],h,?_⟩
  simp -implicitDefEqProofs +contextual (disch:=omega) only [wE,zi,zZ,yD,wF,List.cons_append,List.nil_append,zo,zD,Ins.cells,Gd.cells, ↓XD,XU, ↓reduceIte,sevalprocAttr,c2,k2,p2,p3,qA,qB,qD,qE,lg,lA,lB,z1 6,z2 6,z1 5,z2 5,hz,n32,n34,n35,n36,n31,n33,n40]
theorem zyy {bs:List Int} {A' B' C' D':Int} (h:wU ps f ⟨32,A',B',C',D'⟩ p q gs H ts tkp tk) (htk:tk.length≤1000) (t1:xU p bs) (t2:xF q gs) (hgl:gs.length≤1048576):Xh ps f a ⟨32,A',B',C',D'⟩ p q gs rl H ts tkp tk:=by
 unfold Xh
 have c2:=yN t2
 have k2:=xf t2
 have z1:=fun d H=>uz t1 d H
 have z2:=fun d H=>ww t2 d H
 have lg:=wx t2
 have p2:=h.c2
 have p3:=h.c3
 have qA:∀ X:yf,(H++[X])[2]?=some (.cells 3 [zo p q]):=fun X=>zY H [X] p2
 have qB:∀ X:yf,(H++[X])[3]?=some (.cells 5 [Ins.cells ⟨32,A',B',C',D'⟩]):=fun X=>zY H [X] p3
 have qD:∀ X:yf,(H++[X])[H.length]?=some X:=fun X=>xo _ _
 have qE:∀ X Y:yf,(H++[X]).set H.length Y=H++[Y]:=fun X Y=>uR _ _ _
 have lA:=fun r=>wO (r:=r) (p:=p) t2 A' (by omega)
 have lB:=fun r=>wO (r:=r) (p:=p) t2 B' (by omega)
 simp only [zo,Ins.cells] at p2 p3 qA qB
 by_cases hp:(0:Int)<gs.length
 ·have hi2:=fun H=>wg t2 H .i64 ((gs.length:Int)-1) (by omega) (by omega)
  have hne:¬gs=[]:=fun e=>by rw [e] at hp;simp at hp
  obtain ⟨gd,hgd⟩:∃ gd,za gs ((gs.length:Int)-1)=gd:=⟨_,rfl⟩
  rw [hgd] at hi2
  simp only [Gd.cells] at hi2
  cases ht:gd.Try with
  |false=>
   rw [ht] at hi2
   rw [show change ⟨32,A',B',C',D'⟩ gs=none by simp [change,hgd,ht]]
   refine ⟨_,by (simp -implicitDefEqProofs +contextual (disch:=omega) only [wE,zi,zZ,yD,wF,List.cons_append,List.nil_append,zo,zD,Ins.cells,Gd.cells, ↓XD,XU, ↓reduceIte,sevalprocAttr,c2,k2,p2,p3,qA,qB,qD,qE,lg,lA,lB,z1 6,z2 6,z1 5,z2 5,hi2,eq_true hp])<;>rfl,rfl,rfl⟩
  |true=>
   rw [ht] at hi2
   obtain ⟨gs',hch⟩:∃ x,change ⟨32,A',B',C',D'⟩ gs=some x:=⟨_,by simp [change,hne,hgd,ht];rfl⟩
   rw [hch]
   refine ⟨tkp,H,true,gd.cells,by simpa [jq] using h,?_⟩
   simp -implicitDefEqProofs +contextual (disch:=omega) only [wE,zi,zZ,yD,wF,List.cons_append,List.nil_append,zo,zD,Ins.cells,Gd.cells, ↓XD,XU, ↓reduceIte,sevalprocAttr,c2,k2,p2,p3,qA,qB,qD,qE,lg,lA,lB,z1 6,z2 6,z1 5,z2 5,hi2,eq_true hp,ht]
 ·have hz:gs.length=0:=by omega
  have he:gs=[]:=List.length_eq_zero_iff.1 hz
  rw [show change ⟨32,A',B',C',D'⟩ gs=none by simp [change,he]]
  refine ⟨_,by (simp -implicitDefEqProofs +contextual (disch:=omega) only [wE,zi,zZ,yD,wF,List.cons_append,List.nil_append,zo,zD,Ins.cells,Gd.cells, ↓XD,XU, ↓reduceIte,sevalprocAttr,c2,k2,p2,p3,qA,qB,qD,qE,lg,lA,lB,z1 6,z2 6,z1 5,z2 5,hz])<;>rfl,rfl,rfl⟩
theorem zyB {bs:List Int} {A' B' C' D':Int} (h:wU ps f ⟨35,A',B',C',D'⟩ p q gs H ts tkp tk) (htk:tk.length≤1000) (t1:xU p bs) (t2:xF q gs) (hgl:gs.length≤1048576):Xh ps f a ⟨35,A',B',C',D'⟩ p q gs rl H ts tkp tk:=by
 unfold Xh
 have c2:=yN t2
 have k2:=xf t2
 have z1:=fun d H=>uz t1 d H
 have z2:=fun d H=>ww t2 d H
 have lg:=wx t2
 have p2:=h.c2
 have p3:=h.c3
 have qA:∀ X:yf,(H++[X])[2]?=some (.cells 3 [zo p q]):=fun X=>zY H [X] p2
 have qB:∀ X:yf,(H++[X])[3]?=some (.cells 5 [Ins.cells ⟨35,A',B',C',D'⟩]):=fun X=>zY H [X] p3
 have qD:∀ X:yf,(H++[X])[H.length]?=some X:=fun X=>xo _ _
 have qE:∀ X Y:yf,(H++[X]).set H.length Y=H++[Y]:=fun X Y=>uR _ _ _
 have lA:=fun r=>wO (r:=r) (p:=p) t2 A' (by omega)
 have lB:=fun r=>wO (r:=r) (p:=p) t2 B' (by omega)
 simp only [zo,Ins.cells] at p2 p3 qA qB
 by_cases hp:(0:Int)<gs.length
 ·have hi2:=fun H=>wg t2 H .i64 ((gs.length:Int)-1) (by omega) (by omega)
  have hne:¬gs=[]:=fun e=>by rw [e] at hp;simp at hp
  obtain ⟨gd,hgd⟩:∃ gd,za gs ((gs.length:Int)-1)=gd:=⟨_,rfl⟩
  rw [hgd] at hi2
  simp only [Gd.cells] at hi2
  cases ht:gd.Try with
  |true=>
   rw [ht] at hi2
   rw [show change ⟨35,A',B',C',D'⟩ gs=none by simp [change,hgd,ht]]
   refine ⟨_,by (simp -implicitDefEqProofs +contextual (disch:=omega) only [wE,zi,zZ,yD,wF,List.cons_append,List.nil_append,zo,zD,Ins.cells,Gd.cells, ↓XD,XU, ↓reduceIte,sevalprocAttr,c2,k2,p2,p3,qA,qB,qD,qE,lg,lA,lB,z1 6,z2 6,z1 5,z2 5,hi2,eq_true hp])<;>rfl,rfl,rfl⟩
  |false=>
   rw [ht] at hi2
   obtain ⟨gs',hch⟩:∃ x,change ⟨35,A',B',C',D'⟩ gs=some x:=⟨_,by simp [change,hne,hgd,ht];rfl⟩
   rw [hch]
   refine ⟨tkp,H,true,gd.cells,by simpa [jq] using h,?_⟩
   simp -implicitDefEqProofs +contextual (disch:=omega) only [wE,zi,zZ,yD,wF,List.cons_append,List.nil_append,zo,zD,Ins.cells,Gd.cells, ↓XD,XU, ↓reduceIte,sevalprocAttr,c2,k2,p2,p3,qA,qB,qD,qE,lg,lA,lB,z1 6,z2 6,z1 5,z2 5,hi2,eq_true hp,ht]
 ·have hz:gs.length=0:=by omega
  have he:gs=[]:=List.length_eq_zero_iff.1 hz
  rw [show change ⟨35,A',B',C',D'⟩ gs=none by simp [change,he]]
  refine ⟨_,by (simp -implicitDefEqProofs +contextual (disch:=omega) only [wE,zi,zZ,yD,wF,List.cons_append,List.nil_append,zo,zD,Ins.cells,Gd.cells, ↓XD,XU, ↓reduceIte,sevalprocAttr,c2,k2,p2,p3,qA,qB,qD,qE,lg,lA,lB,z1 6,z2 6,z1 5,z2 5,hz])<;>rfl,rfl,rfl⟩
theorem zyC {bs:List Int} {A' B' C' D':Int} (h:wU ps f ⟨36,A',B',C',D'⟩ p q gs H ts tkp tk) (htk:tk.length≤1000) (t1:xU p bs) (t2:xF q gs) (hgl:gs.length≤1048576):Xh ps f a ⟨36,A',B',C',D'⟩ p q gs rl H ts tkp tk:=by
 unfold Xh
 have c2:=yN t2
 have k2:=xf t2
 have z1:=fun d H=>uz t1 d H
 have z2:=fun d H=>ww t2 d H
 have lg:=wx t2
 have p2:=h.c2
 have p3:=h.c3
 have qA:∀ X:yf,(H++[X])[2]?=some (.cells 3 [zo p q]):=fun X=>zY H [X] p2
 have qB:∀ X:yf,(H++[X])[3]?=some (.cells 5 [Ins.cells ⟨36,A',B',C',D'⟩]):=fun X=>zY H [X] p3
 have qD:∀ X:yf,(H++[X])[H.length]?=some X:=fun X=>xo _ _
 have qE:∀ X Y:yf,(H++[X]).set H.length Y=H++[Y]:=fun X Y=>uR _ _ _
 have lA:=fun r=>wO (r:=r) (p:=p) t2 A' (by omega)
 have lB:=fun r=>wO (r:=r) (p:=p) t2 B' (by omega)
 simp only [zo,Ins.cells] at p2 p3 qA qB
 by_cases hp:(0:Int)<gs.length
 ·have hi2:=fun H=>wg t2 H .i64 ((gs.length:Int)-1) (by omega) (by omega)
  have hne:¬gs=[]:=fun e=>by rw [e] at hp;simp at hp
  obtain ⟨gd,hgd⟩:∃ gd,za gs ((gs.length:Int)-1)=gd:=⟨_,rfl⟩
  rw [hgd] at hi2
  simp only [Gd.cells] at hi2
  cases ht:gd.Try with
  |true=>
   rw [ht] at hi2
   rw [show change ⟨36,A',B',C',D'⟩ gs=none by simp [change,hgd,ht]]
   refine ⟨_,by (simp -implicitDefEqProofs +contextual (disch:=omega) only [wE,zi,zZ,yD,wF,List.cons_append,List.nil_append,zo,zD,Ins.cells,Gd.cells, ↓XD,XU, ↓reduceIte,sevalprocAttr,c2,k2,p2,p3,qA,qB,qD,qE,lg,lA,lB,z1 6,z2 6,z1 5,z2 5,hi2,eq_true hp])<;>rfl,rfl,rfl⟩
  |false=>
   rw [ht] at hi2
   obtain ⟨gs',hch⟩:∃ x,change ⟨36,A',B',C',D'⟩ gs=some x:=⟨_,by simp [change,hne,hgd,ht];rfl⟩
   rw [hch]
   refine ⟨tkp,H,true,gd.cells,by simpa [jq] using h,?_⟩
   simp -implicitDefEqProofs +contextual (disch:=omega) only [wE,zi,zZ,yD,wF,List.cons_append,List.nil_append,zo,zD,Ins.cells,Gd.cells, ↓XD,XU, ↓reduceIte,sevalprocAttr,c2,k2,p2,p3,qA,qB,qD,qE,lg,lA,lB,z1 6,z2 6,z1 5,z2 5,hi2,eq_true hp,ht]
 ·have hz:gs.length=0:=by omega
  have he:gs=[]:=List.length_eq_zero_iff.1 hz
  rw [show change ⟨36,A',B',C',D'⟩ gs=none by simp [change,he]]
  refine ⟨_,by (simp -implicitDefEqProofs +contextual (disch:=omega) only [wE,zi,zZ,yD,wF,List.cons_append,List.nil_append,zo,zD,Ins.cells,Gd.cells, ↓XD,XU, ↓reduceIte,sevalprocAttr,c2,k2,p2,p3,qA,qB,qD,qE,lg,lA,lB,z1 6,z2 6,z1 5,z2 5,hz])<;>rfl,rfl,rfl⟩
theorem zyA {bs:List Int} {A' B' C' D':Int} (h:wU ps f ⟨34,A',B',C',D'⟩ p q gs H ts tkp tk) (htk:tk.length≤1000) (t1:xU p bs) (t2:xF q gs) (hgl:gs.length≤1048576):Xh ps f a ⟨34,A',B',C',D'⟩ p q gs rl H ts tkp tk:=by
 unfold Xh
 have c2:=yN t2
 have k2:=xf t2
 have z1:=fun d H=>uz t1 d H
 have z2:=fun d H=>ww t2 d H
 have lg:=wx t2
 have p2:=h.c2
 have p3:=h.c3
 have qA:∀ X:yf,(H++[X])[2]?=some (.cells 3 [zo p q]):=fun X=>zY H [X] p2
 have qB:∀ X:yf,(H++[X])[3]?=some (.cells 5 [Ins.cells ⟨34,A',B',C',D'⟩]):=fun X=>zY H [X] p3
 have qD:∀ X:yf,(H++[X])[H.length]?=some X:=fun X=>xo _ _
 have qE:∀ X Y:yf,(H++[X]).set H.length Y=H++[Y]:=fun X Y=>uR _ _ _
 have lA:=fun r=>wO (r:=r) (p:=p) t2 A' (by omega)
 have lB:=fun r=>wO (r:=r) (p:=p) t2 B' (by omega)
 simp only [zo,Ins.cells] at p2 p3 qA qB
 by_cases hp:(0:Int)<gs.length
 ·have hi2:=fun H=>wg t2 H .i64 ((gs.length:Int)-1) (by omega) (by omega)
  have hne:¬gs=[]:=fun e=>by rw [e] at hp;simp at hp
  obtain ⟨gd,hgd⟩:∃ gd,za gs ((gs.length:Int)-1)=gd:=⟨_,rfl⟩
  rw [hgd] at hi2
  simp only [Gd.cells] at hi2
  cases ht:gd.Try with
  |true=>
   rw [ht] at hi2
   rw [show change ⟨34,A',B',C',D'⟩ gs=none by simp [change,hgd,ht]]
   refine ⟨_,by (simp -implicitDefEqProofs +contextual (disch:=omega) only [wE,zi,zZ,yD,wF,List.cons_append,List.nil_append,zo,zD,Ins.cells,Gd.cells, ↓XD,XU, ↓reduceIte,sevalprocAttr,c2,k2,p2,p3,qA,qB,qD,qE,lg,lA,lB,z1 6,z2 6,z1 5,z2 5,hi2,eq_true hp])<;>rfl,rfl,rfl⟩
  |false=>
   rw [ht] at hi2
   by_cases ha:vZ gs A'
   ·obtain ⟨gs',hch⟩:∃ x,change ⟨34,A',B',C',D'⟩ gs=some x:=⟨_,by simp [change,hne,hgd,ht,ha];rfl⟩
    rw [hch]
    refine ⟨tkp,H,true,gd.cells,by simpa [jq] using h,?_⟩
    simp -implicitDefEqProofs +contextual (disch:=omega) only [wE,zi,zZ,yD,wF,List.cons_append,List.nil_append,zo,zD,Ins.cells,Gd.cells, ↓XD,XU, ↓reduceIte,sevalprocAttr,c2,k2,p2,p3,qA,qB,qD,qE,lg,lA,lB,z1 6,z2 6,z1 5,z2 5,hi2,eq_true hp,ht,ha]
   ·rw [show change ⟨34,A',B',C',D'⟩ gs=none by simp [change,hgd,ht,ha]]
    refine ⟨_,by (simp -implicitDefEqProofs +contextual (disch:=omega) only [wE,zi,zZ,yD,wF,List.cons_append,List.nil_append,zo,zD,Ins.cells,Gd.cells, ↓XD,XU, ↓reduceIte,sevalprocAttr,c2,k2,p2,p3,qA,qB,qD,qE,lg,lA,lB,z1 6,z2 6,z1 5,z2 5,hi2,eq_true hp,ha])<;>rfl,rfl,rfl⟩
 ·have hz:gs.length=0:=by omega
  have he:gs=[]:=List.length_eq_zero_iff.1 hz
  rw [show change ⟨34,A',B',C',D'⟩ gs=none by simp [change,he]]
  refine ⟨_,by (simp -implicitDefEqProofs +contextual (disch:=omega) only [wE,zi,zZ,yD,wF,List.cons_append,List.nil_append,zo,zD,Ins.cells,Gd.cells, ↓XD,XU, ↓reduceIte,sevalprocAttr,c2,k2,p2,p3,qA,qB,qD,qE,lg,lA,lB,z1 6,z2 6,z1 5,z2 5,hz])<;>rfl,rfl,rfl⟩
theorem zyx {bs:List Int} {A' B' C' D':Int} (h:wU ps f ⟨31,A',B',C',D'⟩ p q gs H ts tkp tk) (htk:tk.length≤1000) (t1:xU p bs) (t2:xF q gs) (hgl:gs.length≤1048576):Xh ps f a ⟨31,A',B',C',D'⟩ p q gs rl H ts tkp tk:=by
 unfold Xh
 have c2:=yN t2
 have k2:=xf t2
 have z1:=fun d H=>uz t1 d H
 have z2:=fun d H=>ww t2 d H
 have lg:=wx t2
 have p2:=h.c2
 have p3:=h.c3
 have qA:∀ X:yf,(H++[X])[2]?=some (.cells 3 [zo p q]):=fun X=>zY H [X] p2
 have qB:∀ X:yf,(H++[X])[3]?=some (.cells 5 [Ins.cells ⟨31,A',B',C',D'⟩]):=fun X=>zY H [X] p3
 have qD:∀ X:yf,(H++[X])[H.length]?=some X:=fun X=>xo _ _
 have qE:∀ X Y:yf,(H++[X]).set H.length Y=H++[Y]:=fun X Y=>uR _ _ _
 have lA:=fun r=>wO (r:=r) (p:=p) t2 A' (by omega)
 have lB:=fun r=>wO (r:=r) (p:=p) t2 B' (by omega)
 simp only [zo,Ins.cells] at p2 p3 qA qB
 by_cases hp:(0:Int)<gs.length
 ·have hi2:=fun H=>wg t2 H .i64 ((gs.length:Int)-1) (by omega) (by omega)
  have hne:¬gs=[]:=fun e=>by rw [e] at hp;simp at hp
  obtain ⟨gd,hgd⟩:∃ gd,za gs ((gs.length:Int)-1)=gd:=⟨_,rfl⟩
  rw [hgd] at hi2
  simp only [Gd.cells] at hi2
  by_cases h50:(gs.length:Int)<50
  ·have h51:¬(50:Int)≤gs.length:=by omega
   by_cases ha:vZ gs B'
   ·obtain ⟨gs',hch⟩:∃ x,change ⟨31,A',B',C',D'⟩ gs=some x:=⟨_,by simp [change,h50,ha];rfl⟩
    rw [hch]
    refine ⟨tkp,H,true,gd.cells,by simpa [jq] using h,?_⟩
    simp -implicitDefEqProofs +contextual (disch:=omega) only [wE,zi,zZ,yD,wF,List.cons_append,List.nil_append,zo,zD,Ins.cells,Gd.cells, ↓XD,XU, ↓reduceIte,sevalprocAttr,c2,k2,p2,p3,qA,qB,qD,qE,lg,lA,lB,z1 6,z2 6,z1 5,z2 5,hi2,eq_true hp,eq_false h51,ha]
   ·rw [show change ⟨31,A',B',C',D'⟩ gs=none by simp [change,h50,ha]]
    refine ⟨_,by (simp -implicitDefEqProofs +contextual (disch:=omega) only [wE,zi,zZ,yD,wF,List.cons_append,List.nil_append,zo,zD,Ins.cells,Gd.cells, ↓XD,XU, ↓reduceIte,sevalprocAttr,c2,k2,p2,p3,qA,qB,qD,qE,lg,lA,lB,z1 6,z2 6,z1 5,z2 5,hi2,eq_true hp,eq_false h51,ha])<;>rfl,rfl,rfl⟩
  ·have h51:(50:Int)≤gs.length:=by omega
   rw [show change ⟨31,A',B',C',D'⟩ gs=none by simp [change,h50]]
   refine ⟨_,by (simp -implicitDefEqProofs +contextual (disch:=omega) only [wE,zi,zZ,yD,wF,List.cons_append,List.nil_append,zo,zD,Ins.cells,Gd.cells, ↓XD,XU, ↓reduceIte,sevalprocAttr,c2,k2,p2,p3,qA,qB,qD,qE,lg,lA,lB,z1 6,z2 6,z1 5,z2 5,hi2,eq_true hp,eq_true h51])<;>rfl,rfl,rfl⟩
 ·have hz:gs.length=0:=by omega
  have he:gs=[]:=List.length_eq_zero_iff.1 hz
  have h51:¬(50:Int)≤0:=by omega
  have ha:vZ gs B':=fun g hg=>by rw [he] at hg;cases hg
  obtain ⟨gs',hch⟩:∃ x,change ⟨31,A',B',C',D'⟩ gs=some x:=⟨_,by simp [change,he,vZ];rfl⟩
  rw [hch]
  refine ⟨tkp,H,false,[.bool false,.int .i64 0,.int .i64 0],by simpa [jq] using h,?_⟩
  simp -implicitDefEqProofs +contextual (disch:=omega) only [wE,zi,zZ,yD,wF,List.cons_append,List.nil_append,zo,zD,Ins.cells,Gd.cells, ↓XD,XU, ↓reduceIte,sevalprocAttr,c2,k2,p2,p3,qA,qB,qD,qE,lg,lA,lB,z1 6,z2 6,z1 5,z2 5,hz,ha]
theorem zyz {bs:List Int} {A' B' C' D':Int} (h:wU ps f ⟨33,A',B',C',D'⟩ p q gs H ts tkp tk) (htk:tk.length≤1000) (t1:xU p bs) (t2:xF q gs) (hgl:gs.length≤1048576):Xh ps f a ⟨33,A',B',C',D'⟩ p q gs rl H ts tkp tk:=by
 unfold Xh
 have c2:=yN t2
 have k2:=xf t2
 have z1:=fun d H=>uz t1 d H
 have z2:=fun d H=>ww t2 d H
 have lg:=wx t2
 have p2:=h.c2
 have p3:=h.c3
 have qA:∀ X:yf,(H++[X])[2]?=some (.cells 3 [zo p q]):=fun X=>zY H [X] p2
 have qB:∀ X:yf,(H++[X])[3]?=some (.cells 5 [Ins.cells ⟨33,A',B',C',D'⟩]):=fun X=>zY H [X] p3
 have qD:∀ X:yf,(H++[X])[H.length]?=some X:=fun X=>xo _ _
 have qE:∀ X Y:yf,(H++[X]).set H.length Y=H++[Y]:=fun X Y=>uR _ _ _
 have lA:=fun r=>wO (r:=r) (p:=p) t2 A' (by omega)
 have lB:=fun r=>wO (r:=r) (p:=p) t2 B' (by omega)
 simp only [zo,Ins.cells] at p2 p3 qA qB
 by_cases hp:(0:Int)<gs.length
 ·have hi2:=fun H=>wg t2 H .i64 ((gs.length:Int)-1) (by omega) (by omega)
  have hne:¬gs=[]:=fun e=>by rw [e] at hp;simp at hp
  obtain ⟨gd,hgd⟩:∃ gd,za gs ((gs.length:Int)-1)=gd:=⟨_,rfl⟩
  rw [hgd] at hi2
  simp only [Gd.cells] at hi2
  by_cases h50:(gs.length:Int)<50
  ·have h51:¬(50:Int)≤gs.length:=by omega
   by_cases ha:vZ gs A'
   ·obtain ⟨gs',hch⟩:∃ x,change ⟨33,A',B',C',D'⟩ gs=some x:=⟨_,by simp [change,h50,ha];rfl⟩
    rw [hch]
    refine ⟨tkp,H,true,gd.cells,by simpa [jq] using h,?_⟩
    simp -implicitDefEqProofs +contextual (disch:=omega) only [wE,zi,zZ,yD,wF,List.cons_append,List.nil_append,zo,zD,Ins.cells,Gd.cells, ↓XD,XU, ↓reduceIte,sevalprocAttr,c2,k2,p2,p3,qA,qB,qD,qE,lg,lA,lB,z1 6,z2 6,z1 5,z2 5,hi2,eq_true hp,eq_false h51,ha]
   ·rw [show change ⟨33,A',B',C',D'⟩ gs=none by simp [change,h50,ha]]
    refine ⟨_,by (simp -implicitDefEqProofs +contextual (disch:=omega) only [wE,zi,zZ,yD,wF,List.cons_append,List.nil_append,zo,zD,Ins.cells,Gd.cells, ↓XD,XU, ↓reduceIte,sevalprocAttr,c2,k2,p2,p3,qA,qB,qD,qE,lg,lA,lB,z1 6,z2 6,z1 5,z2 5,hi2,eq_true hp,eq_false h51,ha])<;>rfl,rfl,rfl⟩
  ·have h51:(50:Int)≤gs.length:=by omega
   rw [show change ⟨33,A',B',C',D'⟩ gs=none by simp [change,h50]]
   refine ⟨_,by (simp -implicitDefEqProofs +contextual (disch:=omega) only [wE,zi,zZ,yD,wF,List.cons_append,List.nil_append,zo,zD,Ins.cells,Gd.cells, ↓XD,XU, ↓reduceIte,sevalprocAttr,c2,k2,p2,p3,qA,qB,qD,qE,lg,lA,lB,z1 6,z2 6,z1 5,z2 5,hi2,eq_true hp,eq_true h51])<;>rfl,rfl,rfl⟩
 ·have hz:gs.length=0:=by omega
  have he:gs=[]:=List.length_eq_zero_iff.1 hz
  have h51:¬(50:Int)≤0:=by omega
  have ha:vZ gs A':=fun g hg=>by rw [he] at hg;cases hg
  obtain ⟨gs',hch⟩:∃ x,change ⟨33,A',B',C',D'⟩ gs=some x:=⟨_,by simp [change,he,vZ];rfl⟩
  rw [hch]
  refine ⟨tkp,H,false,[.bool false,.int .i64 0,.int .i64 0],by simpa [jq] using h,?_⟩
  simp -implicitDefEqProofs +contextual (disch:=omega) only [wE,zi,zZ,yD,wF,List.cons_append,List.nil_append,zo,zD,Ins.cells,Gd.cells, ↓XD,XU, ↓reduceIte,sevalprocAttr,c2,k2,p2,p3,qA,qB,qD,qE,lg,lA,lB,z1 6,z2 6,z1 5,z2 5,hz,ha]
theorem zyD {bs:List Int} {A' B' C' D':Int} (h:wU ps f ⟨40,A',B',C',D'⟩ p q gs H ts tkp tk) (htk:tk.length≤1000) (t1:xU p bs) (t2:xF q gs) (hgl:gs.length≤1048576):Xh ps f a ⟨40,A',B',C',D'⟩ p q gs rl H ts tkp tk:=by
 unfold Xh
 have c2:=yN t2
 have k2:=xf t2
 have z1:=fun d H=>uz t1 d H
 have z2:=fun d H=>ww t2 d H
 have lg:=wx t2
 have p2:=h.c2
 have p3:=h.c3
 have qA:∀ X:yf,(H++[X])[2]?=some (.cells 3 [zo p q]):=fun X=>zY H [X] p2
 have qB:∀ X:yf,(H++[X])[3]?=some (.cells 5 [Ins.cells ⟨40,A',B',C',D'⟩]):=fun X=>zY H [X] p3
 have qD:∀ X:yf,(H++[X])[H.length]?=some X:=fun X=>xo _ _
 have qE:∀ X Y:yf,(H++[X]).set H.length Y=H++[Y]:=fun X Y=>uR _ _ _
 have lA:=fun r=>wO (r:=r) (p:=p) t2 A' (by omega)
 have lB:=fun r=>wO (r:=r) (p:=p) t2 B' (by omega)
 simp only [zo,Ins.cells] at p2 p3 qA qB
 have hET:=zl5 A'
 have r1:=fun H=>zdy (.inl rfl:xU (yq [A']) [A']) H
 obtain ⟨p',H',e1,hS⟩:=h.more htk A'
 have u2:=hS.c2
 have u3:=hS.c3
 have qA:∀ X:yf,(H'++[X])[2]?=some (.cells 3 [zo p q]):=fun X=>zY H' [X] u2
 have qB:∀ X:yf,(H'++[X])[3]?=some (.cells 5 [Ins.cells ⟨40,A',B',C',D'⟩]):=fun X=>zY H' [X] u3
 have qD:∀ X:yf,(H'++[X])[H'.length]?=some X:=fun X=>xo _ _
 have qE:∀ X Y:yf,(H'++[X]).set H'.length Y=H'++[Y]:=fun X Y=>uR _ _ _
 simp only [zo,Ins.cells,List.map_cons,List.map_nil,yq,yn] at u2 u3 qA qB r1 hET
 rw [show change ⟨40,A',B',C',D'⟩ gs=some gs by simp [change]]
 by_cases hp:(0:Int)<gs.length
 ·have hi2:=fun H=>wg t2 H .i64 ((gs.length:Int)-1) (by omega) (by omega)
  have hne:¬gs=[]:=fun e=>by rw [e] at hp;simp at hp
  obtain ⟨gd,hgd⟩:∃ gd,za gs ((gs.length:Int)-1)=gd:=⟨_,rfl⟩
  rw [hgd] at hi2
  simp only [Gd.cells] at hi2
  refine ⟨p',H',true,gd.cells,by simpa [jq] using hS,?_⟩
  simp -implicitDefEqProofs +contextual (disch:=omega) only [wE,zi,zZ,yD,wF,List.cons_append,List.nil_append,zo,zD,Ins.cells,Gd.cells, ↓XD,XU, ↓reduceIte,sevalprocAttr,c2,k2,p2,p3,qA,qB,qD,qE,lg,lA,lB,z1 6,z2 6,z1 5,z2 5, ↓zE,zz,hET,fun H=>(r1 H).1,fun H=>(r1 H).2,e1,u2,u3,hi2,eq_true hp]
 ·have hz:gs.length=0:=by omega
  have he:gs=[]:=List.length_eq_zero_iff.1 hz
  refine ⟨p',H',false,[.bool false,.int .i64 0,.int .i64 0],by simpa [jq] using hS,?_⟩
  simp -implicitDefEqProofs +contextual (disch:=omega) only [wE,zi,zZ,yD,wF,List.cons_append,List.nil_append,zo,zD,Ins.cells,Gd.cells, ↓XD,XU, ↓reduceIte,sevalprocAttr,c2,k2,p2,p3,qA,qB,qD,qE,lg,lA,lB,z1 6,z2 6,z1 5,z2 5, ↓zE,zz,hET,fun H=>(r1 H).1,fun H=>(r1 H).2,e1,u2,u3,hz]
theorem zBq {bs:List Int} (h:wU ps f nd p q gs H ts tkp tk) (htk:tk.length≤1000) (t1:xU p bs) (t2:xF q gs) (hgl:gs.length≤1048576):Xh ps f a nd p q gs rl H ts tkp tk:=by
 obtain ⟨o,A',B',C',D'⟩:=nd
 by_cases n32:o=32
 ·subst n32;exact zyy h htk t1 t2 hgl
 by_cases n34:o=34
 ·subst n34;exact zyA h htk t1 t2 hgl
 by_cases n35:o=35
 ·subst n35;exact zyB h htk t1 t2 hgl
 by_cases n36:o=36
 ·subst n36;exact zyC h htk t1 t2 hgl
 by_cases n31:o=31
 ·subst n31;exact zyx h htk t1 t2 hgl
 by_cases n33:o=33
 ·subst n33;exact zyz h htk t1 t2 hgl
 by_cases n40:o=40
 ·subst n40;exact zyD h htk t1 t2 hgl
 exact zu1 h htk t1 t2 hgl n32 n34 n35 n36 n31 n33 n40
end
end
section
abbrev Qt (n m L:Nat):yf:=.cells 3 [[.bool true,.sl (L+3) 0 n n,.sl (L+4) 0 m m]]
abbrev bX (g:List PV) (ts:List Int) (gs:List Gd) (L:Nat):zd:=[.cells 3 [g],Qt ts.length gs.length L,Qt ts.length gs.length L,.cells 1 (yn ts),.cells 3 (vv gs),Qt ts.length gs.length L]
def bH (H:zd) (g:List PV) (ts:List Int) (gs:List Gd) (t:List Int):zd:=(H++bX g ts gs H.length).set 6 (.cells 1 (yn t))
abbrev ed1 (L:Nat):zV:=(L+2,L+3)::(L+2,L+4)::(L+1,L+4)::(L+1,L+3)::v9
noncomputable def zA (nd:Ins) (rl:List Int) (ts:List Int):List Int:=if nd.Op=40 then (Ka nd rl 4 0 ts).set (nd.A+1).toNat 1 else Ka nd rl 4 0 ts
section
variable {ps:List zc} {f:zc} {nd:Ins} {p q:PV} {gs:List Gd} {H:zd} {ts:List Int} {tkp:PV} {tk:List Int} {a:Int} {rl:List Int}
theorem zvQ (h:wU ps f nd p q gs H ts tkp tk) (g:List PV):bH H g ts gs ts=H++bX g ts gs H.length:=zho (zY _ _ h.c6)
theorem zhF (g:List PV) (t:List Int):(bH H g ts gs t).length=H.length+6:=by simp [bH]
theorem zbO (g:List PV) (t:List Int) {j:Nat} (hj:j<H.length) (h6:¬j=6):(bH H g ts gs t)[j]?=H[j]?:=by
 rw [bH,List.getElem?_set_ne (Ne.symm h6),List.getElem?_append_left hj]
theorem zlG (g:List PV) (t:List Int) (h9:9≤H.length) (j:Nat):(bH H g ts gs t)[H.length+j]?=(bX g ts gs H.length)[j]?:=by
 rw [bH,List.getElem?_set_ne (by omega),wC]
theorem zvk (h:wU ps f nd p q gs H ts tkp tk) (g:List PV):WrH nd ts.length (.sl 7 0 gs.length gs.length) (bH H g ts gs) (H.length+6) (ed1 H.length):=by
 have hH:=xd h.c8
 refine ⟨fun t=>(zbO g t (by omega) (by decide)).trans h.c3,fun t=>?_,fun t=>(zbO g t (by omega) (by decide)).trans h.c8,fun t t'=>?_,fun t=>zhF g t,fun e he=>?_⟩
 ·rw [bH,List.getElem?_set_self (by simp;omega)]
 ·rw [bH,bH,List.set_set]
 ·simp at he;rcases he with rfl|rfl|rfl|rfl|rfl|rfl|rfl|rfl<;>simp<;>omega
theorem zBr (h:wU ps f nd p q gs H ts tkp tk) {bs:List Int} (t1:xU p bs) (t2:xF q gs) (hbl:bs.length=ts.length) (htl:ts.length≤1048576) (hgl:gs.length≤1048576) (htk:tk.length≤1048576) (hrl:rl.length=4) (hro:ze nd.Op=some rl) (g:List PV) (b:Bool)
  (hk:∀ x∈gs,0≤x.Keep∧x.Keep≤ts.length) (hfit:∀ k:Int,0≤k→k<4→za rl k=1→0≤za [nd.A,nd.B,nd.C,nd.D] k∧za [nd.A,nd.B,nd.C,nd.D] k<ts.length) (h40:nd.Op=40→0≤nd.A∧nd.A+1<ts.length):
  (JW gs tk bs (zA nd rl ts)→∃ st,EV A J0 ⟨yD ps f a p q tkp rl H.length gs.length b nd.Op (wF nd.Op),[],H++[.cells 3 [g]],v9⟩=some (.ret,st)∧st.per.get 8=.int .i64 12∧st.per.get 9=.nils)∧
  (¬JW gs tk bs (zA nd rl ts)→EV A J0 ⟨yD ps f a p q tkp rl H.length gs.length b nd.Op (wF nd.Op),[],H++[.cells 3 [g]],v9⟩=EV A Xs ⟨xy ps f a p q tkp rl H.length gs.length b nd.Op (wF nd.Op) gs.length,[],bH H g ts gs (zA nd rl ts),ed1 H.length⟩):=by
 have hE:=zmm nd.Op
 obtain ⟨E,hEE⟩:∃ E,wF nd.Op=E:=⟨_,rfl⟩
 rw [hEE] at hE ⊢
 have hH:=xd h.c8
 have h':=h.app [.cells 3 [g]]
 have hcp:=zfb (s:=⟨ts,gs⟩) (r:=true) (.inl rfl:xU (yq ts) ts) (.inl rfl:xF (gds gs) gs) htl hgl
 have e1:=uG (d:=4) h'.c6
 have e2:=Zo (d:=4) h'.c7
 have e3:=uG (d:=5) h'.c6
 have e4:=Zo (d:=5) h'.c7
 have hw:=zvk h g
 have l1:=fun k=>Uu k ts
 have l2:=fun k=>Yh k gs
 have hb4:=ztZ (ps:=ps) (f:=f) (a:=a) (p:=p) (q:=q) (tkp:=tkp) (L:=H.length) (m:=gs.length) (b:=b) (rl:=rl) hE hrl hw htl hfit ts rfl
 rw [zvQ h g] at hb4
 have n1:¬(H.length+5<H.length+3):=by omega
 have n2:¬(H.length+5<H.length+4):=by omega
 have lg:=wx t2
 have q3:∀ X:zd,(H++X)[3]?=some (.cells 5 [nd.cells]):=fun X=>zY H X h.c3
 have q8:=h'.c8
 have w3:=hw.c3
 have w6:=hw.c6
 have w8:=hw.c8
 have ws:=hw.s6
 have w2:∀ t,(bH H g ts gs t)[2]?=some (.cells 3 [zo p q]):=fun t=>(zbO g t (by omega) (by decide)).trans h.c2
 have hil:(Ka nd rl 4 0 ts).length=ts.length:=zjJ nd rl 4 0 ts
 have hlo:=zwB ps f a p q tkp rl H.length b nd.Op E hE (bH H g ts gs (zA nd rl ts)) (ed1 H.length) (by rw [zhF];exact hw.ed) tk ((h.tk.keep fun r hr=>by rw [zbO g _ (h.tk.lt r hr) (by have:=h.far r hr;omega)])) htk bs (zA nd rl ts) t1 (by rw [hbl];unfold zA;split<;>simp [hil]) (by unfold zA;split<;>simp [hil]<;>omega) gs t2 hgl (by intro x hx;have:=hk x hx;unfold zA;split<;>simp [hil]<;>omega) (w2 _) (w6 _) (.sl 7 0 gs.length gs.length) (by rw [w8];unfold zA;split<;>simp [hil]) (by rw [zhF];omega) (by omega)
 have hL2:=fun z H=>w9 z H nd.Op
 simp only [hro] at hL2
 obtain ⟨BB,hBB⟩:∃ BB,bH H g ts gs=BB:=⟨_,rfl⟩
 rw [hBB] at hlo w2 w3 w6 w8 ws hb4 ⊢
 simp only [xy,yD,zZ,code,zb,zo,zc.cells,ups,zf,zj,zm,Ins.cells,bX,Qt,ed1] at hcp hb4 hlo q3 w2 w3 l1 l2
 have hlos:(∃ j:Int,0≤j∧j<gs.length∧zf7 tk bs (zA nd rl ts) (za gs j))↔JW gs tk bs (zA nd rl ts):=by
  constructor
  ·rintro ⟨j,j0,j1,h1,h2⟩;exact ⟨_,jc j0 j1,h1,h2⟩
  ·rintro ⟨g,hg,h1,h2⟩;obtain ⟨j,j0,j1,rfl⟩:=Y' hg;exact ⟨j,j0,j1,h1,h2⟩
 refine ⟨fun hl=>?_,fun hl=>?_⟩
 ·obtain ⟨j,j0,j1,j2⟩:=hlos.2 hl
  cases hs:z8 (fun j=>zf7 tk bs (zA nd rl ts) (za gs j)) 0 gs.length with
  |none=>exact absurd j2 (y7.1 hs j j0 j1)
  |some i=>
   rw [hs] at hlo
   obtain ⟨st,hlo,g8,g9⟩:=hlo
   refine ⟨st,?_,g8,g9⟩
   by_cases c40:nd.Op=40
   ·obtain ⟨y0,y1⟩:=h40 c40
    have y2:0≤nd.A+1:=by omega
    have hiw:zA nd rl ts=(Ka nd rl 4 0 ts).set (nd.A+1).toNat 1:=by rw [zA,if_pos c40]
    rw [hiw] at hlo
    rcases hE with rfl|rfl|⟨b',rfl⟩<;>simp only [List.cons_append,List.nil_append] at hlo hb4<;>simp -implicitDefEqProofs +contextual (disch:=omega) only [zgc,zi,jC,xy,yD,zZ,List.cons_append,List.nil_append,zo,zD,code,zb,zc.cells,ups,zf,zj,zm,Ins.cells,bX,Qt,ed1,Nat.add_assoc,Nat.reduceAdd,eq_false n1,eq_false n2,List.map_nil, ↓XD,XU, ↓reduceIte,sevalprocAttr,lg,q3,q8,hcp,e1,e2,e3,e4,l1,l2,hL2,hb4,w2,w3,w6,w8,ws,hlo,hil,eq_true c40,y0,y1,y2]
   ·have hiw:zA nd rl ts=Ka nd rl 4 0 ts:=by rw [zA,if_neg c40]
    rw [hiw] at hlo
    rcases hE with rfl|rfl|⟨b',rfl⟩<;>simp only [List.cons_append,List.nil_append] at hlo hb4<;>simp -implicitDefEqProofs +contextual (disch:=omega) only [zgc,zi,jC,xy,yD,zZ,List.cons_append,List.nil_append,zo,zD,code,zb,zc.cells,ups,zf,zj,zm,Ins.cells,bX,Qt,ed1,Nat.add_assoc,Nat.reduceAdd,eq_false n1,eq_false n2,List.map_nil, ↓XD,XU, ↓reduceIte,sevalprocAttr,lg,q3,q8,hcp,e1,e2,e3,e4,l1,l2,hL2,hb4,w2,w3,w6,w8,ws,hlo,hil,eq_false c40]
 ·have hs:z8 (fun j=>zf7 tk bs (zA nd rl ts) (za gs j)) 0 gs.length=none:=by
   cases hs:z8 (fun j=>zf7 tk bs (zA nd rl ts) (za gs j)) 0 gs.length with
   |none=>rfl
   |some j=>obtain ⟨j0,j1,j2,_⟩:=xH.1 hs;exact absurd (hlos.1 ⟨j,j0,j1,j2⟩) hl
  rw [hs] at hlo
  by_cases c40:nd.Op=40
  ·obtain ⟨y0,y1⟩:=h40 c40
   have y2:0≤nd.A+1:=by omega
   have hiw:zA nd rl ts=(Ka nd rl 4 0 ts).set (nd.A+1).toNat 1:=by rw [zA,if_pos c40]
   rw [hiw] at hlo ⊢
   rcases hE with rfl|rfl|⟨b',rfl⟩<;>simp only [List.cons_append,List.nil_append] at hlo hb4<;>simp -implicitDefEqProofs +contextual (disch:=omega) only [zgc,zi,jC,xy,yD,zZ,List.cons_append,List.nil_append,zo,zD,code,zb,zc.cells,ups,zf,zj,zm,Ins.cells,bX,Qt,ed1,Nat.add_assoc,Nat.reduceAdd,eq_false n1,eq_false n2,List.map_nil, ↓XD,XU, ↓reduceIte,sevalprocAttr,lg,q3,q8,hcp,e1,e2,e3,e4,l1,l2,hL2,hb4,w2,w3,w6,w8,ws,hlo,hil,eq_true c40,y0,y1,y2]
  ·have hiw:zA nd rl ts=Ka nd rl 4 0 ts:=by rw [zA,if_neg c40]
   rw [hiw] at hlo ⊢
   rcases hE with rfl|rfl|⟨b',rfl⟩<;>simp only [List.cons_append,List.nil_append] at hlo hb4<;>simp -implicitDefEqProofs +contextual (disch:=omega) only [zgc,zi,jC,xy,yD,zZ,List.cons_append,List.nil_append,zo,zD,code,zb,zc.cells,ups,zf,zj,zm,Ins.cells,bX,Qt,ed1,Nat.add_assoc,Nat.reduceAdd,eq_false n1,eq_false n2,List.map_nil, ↓XD,XU, ↓reduceIte,sevalprocAttr,lg,q3,q8,hcp,e1,e2,e3,e4,l1,l2,hL2,hb4,w2,w3,w6,w8,ws,hlo,hil,eq_false c40]
end
end
section
theorem znU {d:Nat} {H:zd} {id k m:Nat} {l:List Gd} (h:H[id]?=some (.cells 3 (vv l))) (hm:l.length=m) (hk:k≤m):Go.Av.frz (d+2) H (.sl id 0 k m)=gds (l.take k):=by
 subst hm
 show (match H[id]? with
   |some (.cells _ rows)=>match l.length==rows.length&&decide (0+k≤l.length) with
    |true=>PV.fz (((rows.drop 0).take k).map fun r:List PV=>r.map (Go.Av.frz (d+1) H))
    |false=>.unk
   |_=>.unk)=_
 rw [h]
 have:(l.length==(vv l).length&&decide (0+k≤l.length))=true:=by simp [hk]
 simp only [this]
 simp [gds,Function.comp_def,List.map_take]
 rfl
structure KG (nd:Ins) (p q:PV) (n m:Nat) (t2 ts:List Int) (gs:List Gd) (L:Nat) (K:zd) (gp:PV) (gs':List Gd):Prop where
 c2:K[2]?=some (.cells 3 [zo p q])
 c3:K[3]?=some (.cells 5 [nd.cells])
 c6:K[6]?=some (.cells 1 (yn t2))
 c8:K[8]?=some (.cells 3 [[.bool true,.sl 6 0 n n,gp]])
 n3:K[L+3]?=some (.cells 1 (yn ts))
 n4:K[L+4]?=some (.cells 3 (vv gs))
 n5:K[L+5]?=some (Qt n m L)
 len:L+6≤K.length
 h9:9≤L
 gl:cellsOf gp=[gp]∧zH gp=true∧refs gp=[7]
 gf:∀ X d,xF (Go.Av.frz (d+2) (K++X) gp) gs'
theorem KG.start {ps:List zc} {f:zc} {nd:Ins} {p q:PV} {gs:List Gd} {H:zd} {ts:List Int} {tkp:PV} {tk:List Int} (h:wU ps f nd p q gs H ts tkp tk) (g:List PV) (t2:List Int):KG nd p q ts.length gs.length t2 ts gs H.length (bH H g ts gs t2) (.sl 7 0 gs.length gs.length) gs∧(bH H g ts gs t2)[7]?=some (.cells 3 (vv gs)):=by
 have hH:=xd h.c8
 have hw:=zvk h g
 have h7:(bH H g ts gs t2)[7]?=some (.cells 3 (vv gs)):=(zbO g t2 (by omega) (by decide)).trans h.c7
 exact ⟨⟨(zbO g t2 (by omega) (by decide)).trans h.c2,hw.c3 t2,hw.c6 t2,hw.c8 t2,zlG g t2 (by omega) 3,zlG g t2 (by omega) 4,zlG g t2 (by omega) 5,by rw [zhF];omega,by omega,⟨rfl,rfl,rfl⟩,fun X d=>.inl (Zo (zY _ X h7))⟩,h7⟩
abbrev jk (ps:List zc) (f:zc) (a:Int) (p q tkp:PV) (rl:List Int) (L:Nat) (m:Nat) (b:Bool) (o:Int):zk:=xy ps f a p q tkp rl L m b o (wF o) m++[(37,.int .i64 ((m:Int)-1)),(365,.int .i64 o),(366,.bool (decide (o=32∨o=36)))]
section
variable {ps:List zc} {f:zc} {p q tkp:PV} {gs:List Gd} {ts t2:List Int} {a:Int} {rl:List Int} {L n:Nat} {b:Bool} {K:zd} {ed:zV}
theorem zu2 {o A' B' C' D':Int} (k:KG ⟨o,A',B',C',D'⟩ p q n gs.length t2 ts gs L K (.sl 7 0 gs.length gs.length) gs) (tq:xF q gs) (hgl:gs.length≤1048576) (n32:¬o=32) (n34:¬o=34) (n36:¬o=36) (n31:¬o=31) (n33:¬o=33):
  EV A Xs ⟨xy ps f a p q tkp rl L gs.length b o (wF o) gs.length,[],K,ed⟩=EV A VB ⟨jk ps f a p q tkp rl L gs.length b o,[],K,ed⟩:=by
 have c2:=k.c2
 have c3:=k.c3
 have lg:=wx tq
 simp only [zo,Ins.cells] at c2 c3
 by_cases n5:o=35
 ·subst n5
  simp -implicitDefEqProofs +contextual (disch:=omega) only [JO,zi,jk,xy,yD,zZ,wF,List.cons_append,List.nil_append,zo,zD,Ins.cells,Gd.cells, ↓XD,XU, ↓reduceIte,sevalprocAttr,c2,c3,lg,n32,n34,n36,n31,n33]
 ·simp -implicitDefEqProofs +contextual (disch:=omega) only [JO,zi,jk,xy,yD,zZ,wF,List.cons_append,List.nil_append,zo,zD,Ins.cells,Gd.cells, ↓XD,XU, ↓reduceIte,sevalprocAttr,c2,c3,lg,n5,n32,n34,n36,n31,n33]
theorem KG.set8 {nd:Ins} {m:Nat} {gp gp':PV} {gs' gs2:List Gd} (k:KG nd p q n m t2 ts gs L K gp gs') (hg:cellsOf gp'=[gp']∧zH gp'=true∧refs gp'=[7]) (hf:∀ X d,xF (Go.Av.frz (d+2) (K.set 8 (.cells 3 [[.bool true,.sl 6 0 n n,gp']])++X) gp') gs2):KG nd p q n m t2 ts gs L (K.set 8 (.cells 3 [[.bool true,.sl 6 0 n n,gp']])) gp' gs2:=by
 have h9:=k.h9
 have hl:=k.len
 have kp:∀ j,¬j=8→(K.set 8 (.cells 3 [[.bool true,.sl 6 0 n n,gp']]))[j]?=K[j]?:=fun j hj=>List.getElem?_set_ne (Ne.symm hj)
 exact ⟨(kp 2 (by omega)).trans k.c2,(kp 3 (by omega)).trans k.c3,(kp 6 (by omega)).trans k.c6,List.getElem?_set_self (by omega),(kp _ (by omega)).trans k.n3,(kp _ (by omega)).trans k.n4,(kp _ (by omega)).trans k.n5,by simpa using hl,h9,hg,hf⟩
theorem KG.set7 {nd:Ins} {m:Nat} {gp:PV} {gs' gs2:List Gd} (k:KG nd p q n m t2 ts gs L K gp gs') (rows:List (List PV)) (hf:∀ X d,xF (Go.Av.frz (d+2) (K.set 7 (.cells 3 rows)++X) gp) gs2):KG nd p q n m t2 ts gs L (K.set 7 (.cells 3 rows)) gp gs2:=by
 have h9:=k.h9
 have hl:=k.len
 have kp:∀ j,¬j=7→(K.set 7 (.cells 3 rows))[j]?=K[j]?:=fun j hj=>List.getElem?_set_ne (Ne.symm hj)
 exact ⟨(kp 2 (by omega)).trans k.c2,(kp 3 (by omega)).trans k.c3,(kp 6 (by omega)).trans k.c6,(kp 8 (by omega)).trans k.c8,(kp _ (by omega)).trans k.n3,(kp _ (by omega)).trans k.n4,(kp _ (by omega)).trans k.n5,by simpa using hl,h9,k.gl,hf⟩
theorem zyF {A' B' C' D':Int} (k:KG ⟨32,A',B',C',D'⟩ p q n gs.length t2 ts gs L K (.sl 7 0 gs.length gs.length) gs) (h7:K[7]?=some (.cells 3 (vv gs))) (tq:xF q gs) (hgl:gs.length≤1048576) (h1:1≤gs.length):
  EV A Xs ⟨xy ps f a p q tkp rl L gs.length b 32 (wF 32) gs.length,[],K,ed⟩=EV A VB ⟨jk ps f a p q tkp rl L gs.length b 32,[],K.set 8 (.cells 3 [[.bool true,.sl 6 0 n n,.sl 7 0 (gs.length-1) gs.length]]),ed⟩:=by
 have c2:=k.c2
 have c3:=k.c3
 have c8:=k.c8
 have lg:=wx tq
 have hsz:xS K 3 (.sl 7 0 gs.length gs.length)=true:=by simp [xS,h7]
 have hsl:=zjZ (k:=.i64) (h:=(gs.length:Int)-1) (by omega) (by omega) hsz
 rw [show ((gs.length:Int)-1).toNat=gs.length-1 by omega] at hsl
 simp only [zo,Ins.cells] at c2 c3
 simp -implicitDefEqProofs +contextual (disch:=omega) only [JO,zi,jk,xy,yD,zZ,wF,List.cons_append,List.nil_append,zo,zD,Ins.cells,Gd.cells, ↓XD,XU, ↓reduceIte,sevalprocAttr,c2,c3,lg,c8, ↓zbX,hsl]
theorem zyI {A' B' C' D':Int} (k:KG ⟨36,A',B',C',D'⟩ p q n gs.length t2 ts gs L K (.sl 7 0 gs.length gs.length) gs) (h7:K[7]?=some (.cells 3 (vv gs))) (tq:xF q gs) (hgl:gs.length≤1048576) (h1:1≤gs.length):
  EV A Xs ⟨xy ps f a p q tkp rl L gs.length b 36 (wF 36) gs.length,[],K,ed⟩=EV A VB ⟨jk ps f a p q tkp rl L gs.length b 36,[],K.set 8 (.cells 3 [[.bool true,.sl 6 0 n n,.sl 7 0 (gs.length-1) gs.length]]),ed⟩:=by
 have c2:=k.c2
 have c3:=k.c3
 have c8:=k.c8
 have lg:=wx tq
 have hsz:xS K 3 (.sl 7 0 gs.length gs.length)=true:=by simp [xS,h7]
 have hsl:=zjZ (k:=.i64) (h:=(gs.length:Int)-1) (by omega) (by omega) hsz
 rw [show ((gs.length:Int)-1).toNat=gs.length-1 by omega] at hsl
 simp only [zo,Ins.cells] at c2 c3
 simp -implicitDefEqProofs +contextual (disch:=omega) only [JO,zi,jk,xy,yD,zZ,wF,List.cons_append,List.nil_append,zo,zD,Ins.cells,Gd.cells, ↓XD,XU, ↓reduceIte,sevalprocAttr,c2,c3,lg,c8, ↓zbX,hsl]
theorem zyH {A' B' C' D':Int} (k:KG ⟨34,A',B',C',D'⟩ p q n gs.length t2 ts gs L K (.sl 7 0 gs.length gs.length) gs) (h7:K[7]?=some (.cells 3 (vv gs))) (tq:xF q gs) (hgl:gs.length≤1048576) (h1:1≤gs.length):
  EV A Xs ⟨xy ps f a p q tkp rl L gs.length b 34 (wF 34) gs.length,[],K,ed⟩=EV A VB ⟨jk ps f a p q tkp rl L gs.length b 34,[],K.set 7 (.cells 3 ((vv gs).set (gs.length-1) { za gs (gs.length-1) with Keep:=A' }.cells)),ed⟩:=by
 have c2:=k.c2
 have c3:=k.c3
 have c8:=k.c8
 have lg:=wx tq
 have hm:((gs.length:Int)-1).toNat=gs.length-1:=by omega
 have hr:(vv gs)[gs.length-1]?=some (za gs ((gs.length:Int)-1)).cells:=by
  have:=wc (l:=gs) (i:=(gs.length:Int)-1) (by omega) (by omega)
  rw [hm] at this
  rw [List.getElem?_map,this];rfl
 have hgvl:(vv gs).length=gs.length:=by simp
 have p0:(0:Int)≤(gs.length:Int)-1:=by omega
 have p1:(gs.length:Int)-1<gs.length:=by omega
 obtain ⟨gv,hgv⟩:∃ gv,vv gs=gv:=⟨_,rfl⟩
 rw [hgv] at h7 hr hgvl ⊢
 simp only [zo,Ins.cells,Gd.cells] at c2 c3 hr
 simp -implicitDefEqProofs +contextual (disch:=omega) only [JO,zi,jk,xy,yD,zZ,wF,List.cons_append,List.nil_append,zo,zD,Ins.cells,Gd.cells, ↓XD,XU, ↓reduceIte,sevalprocAttr,c2,c3,lg,c8,h7,hr,hgvl,hm,p0,p1]
theorem zyE {A' B' C' D':Int} (k:KG ⟨31,A',B',C',D'⟩ p q n gs.length t2 ts gs L K (.sl 7 0 gs.length gs.length) gs) (h7:K[7]?=some (.cells 3 (vv gs))) (tq:xF q gs) (hgl:gs.length≤1048576):
  EV A Xs ⟨xy ps f a p q tkp rl L gs.length b 31 (wF 31) gs.length,[],K,ed⟩=EV A VB ⟨jk ps f a p q tkp rl L gs.length b 31,[],((K++[yf.cells 3 [([.bool true,.int .i64 B',.int .i64 A']:List PV)]]).set 7 (.cells 3 (vv gs++[([.bool true,.int .i64 B',.int .i64 A']:List PV)]))).set 8 (.cells 3 [[.bool true,.sl 6 0 n n,.sl 7 0 (gs.length+1) (gs.length+1)]]),ed⟩:=by
 have c2:=k.c2
 have c3:=k.c3
 have c8:=k.c8
 have lg:=wx tq
 have hb:=uT 3 [.bool false,.int .i64 0,.int .i64 0] ([.bool true,.int .i64 B',.int .i64 A']:List PV) K rfl
 have hr1:=jb K 3 ([.bool true,.int .i64 B',.int .i64 A']:List PV)
 have hap:=ZC (by':=24) (n:=gs.length) (zY K [.cells 3 [([.bool true,.int .i64 B',.int .i64 A']:List PV)]] h7) (by simp) (by omega) ([.bool true,.int .i64 B',.int .i64 A']:List PV) rfl
 have g8:((K++[yf.cells 3 [([.bool true,.int .i64 B',.int .i64 A']:List PV)]]).set 7 (.cells 3 (vv gs++[([.bool true,.int .i64 B',.int .i64 A']:List PV)])))[8]?=some (.cells 3 [[.bool true,.sl 6 0 n n,.sl 7 0 gs.length gs.length]]):=by
  rw [List.getElem?_set_ne (by decide)];exact zY _ _ c8
 obtain ⟨gv,hgv⟩:∃ gv,vv gs++[([.bool true,.int .i64 B',.int .i64 A']:List PV)]=gv:=⟨_,rfl⟩
 rw [hgv] at hap g8 ⊢
 simp only [zo,Ins.cells] at c2 c3
 simp -implicitDefEqProofs +contextual (disch:=omega) only [JO,zi,jk,xy,yD,zZ,wF,List.cons_append,List.nil_append,zo,zD,Ins.cells,Gd.cells, ↓XD,XU, ↓reduceIte,sevalprocAttr,c2,c3,lg,c8, ↓zy, ↓zE,zz,hb,hr1.1,hr1.2,hap,g8]
theorem zyG {A' B' C' D':Int} (k:KG ⟨33,A',B',C',D'⟩ p q n gs.length t2 ts gs L K (.sl 7 0 gs.length gs.length) gs) (h7:K[7]?=some (.cells 3 (vv gs))) (tq:xF q gs) (hgl:gs.length≤1048576):
  EV A Xs ⟨xy ps f a p q tkp rl L gs.length b 33 (wF 33) gs.length,[],K,ed⟩=EV A VB ⟨jk ps f a p q tkp rl L gs.length b 33,[],((K++[yf.cells 3 [([.bool false,.int .i64 A',.int .i64 0]:List PV)]]).set 7 (.cells 3 (vv gs++[([.bool false,.int .i64 A',.int .i64 0]:List PV)]))).set 8 (.cells 3 [[.bool true,.sl 6 0 n n,.sl 7 0 (gs.length+1) (gs.length+1)]]),ed⟩:=by
 have c2:=k.c2
 have c3:=k.c3
 have c8:=k.c8
 have lg:=wx tq
 have hb:=uT 3 [.bool false,.int .i64 0,.int .i64 0] ([.bool false,.int .i64 A',.int .i64 0]:List PV) K rfl
 have hr1:=jb K 3 ([.bool false,.int .i64 A',.int .i64 0]:List PV)
 have hap:=ZC (by':=24) (n:=gs.length) (zY K [.cells 3 [([.bool false,.int .i64 A',.int .i64 0]:List PV)]] h7) (by simp) (by omega) ([.bool false,.int .i64 A',.int .i64 0]:List PV) rfl
 have g8:((K++[yf.cells 3 [([.bool false,.int .i64 A',.int .i64 0]:List PV)]]).set 7 (.cells 3 (vv gs++[([.bool false,.int .i64 A',.int .i64 0]:List PV)])))[8]?=some (.cells 3 [[.bool true,.sl 6 0 n n,.sl 7 0 gs.length gs.length]]):=by
  rw [List.getElem?_set_ne (by decide)];exact zY _ _ c8
 obtain ⟨gv,hgv⟩:∃ gv,vv gs++[([.bool false,.int .i64 A',.int .i64 0]:List PV)]=gv:=⟨_,rfl⟩
 rw [hgv] at hap g8 ⊢
 simp only [zo,Ins.cells] at c2 c3
 simp -implicitDefEqProofs +contextual (disch:=omega) only [JO,zi,jk,xy,yD,zZ,wF,List.cons_append,List.nil_append,zo,zD,Ins.cells,Gd.cells, ↓XD,XU, ↓reduceIte,sevalprocAttr,c2,c3,lg,c8, ↓zy, ↓zE,zz,hb,hr1.1,hr1.2,hap,g8]
end
end
section
section
variable {ps:List zc} {f:zc} {nd:Ins} {p q tkp:PV} {gs:List Gd} {ts t2:List Int} {a:Int} {rl:List Int} {L n:Nat} {b:Bool} {K:zd} {ed:zV}
theorem KG.of {m:Nat} {gp gp':PV} {gs1 gs2:List Gd} (k:KG nd p q n m t2 ts gs L K gp gs1) {K2:zd} (hk:∀ j,j<K.length→¬j=7→¬j=8→K2[j]?=K[j]?) (hl:K.length≤K2.length) (h8:K2[8]?=some (.cells 3 [[.bool true,.sl 6 0 n n,gp']]))
  (hg:cellsOf gp'=[gp']∧zH gp'=true∧refs gp'=[7]) (hf:∀ X d,xF (Go.Av.frz (d+2) (K2++X) gp') gs2):KG nd p q n m t2 ts gs L K2 gp' gs2:=by
 have h9:=k.h9
 have hl2:=k.len
 exact ⟨(hk 2 (by omega) (by omega) (by omega)).trans k.c2,(hk 3 (by omega) (by omega) (by omega)).trans k.c3,(hk 6 (by omega) (by omega) (by omega)).trans k.c6,h8,(hk _ (by omega) (by omega) (by omega)).trans k.n3,(hk _ (by omega) (by omega) (by omega)).trans k.n4,(hk _ (by omega) (by omega) (by omega)).trans k.n5,by omega,h9,hg,hf⟩
theorem zxa (l:List Gd) (i:Nat) (g:Gd):(vv l).set i g.cells=vv (l.set i g):=by simp only [vv,List.map_set]
theorem zBs (k:KG nd p q n gs.length t2 ts gs L K (.sl 7 0 gs.length gs.length) gs) (h7:K[7]?=some (.cells 3 (vv gs))) (tq:xF q gs) (hgl:gs.length≤1048576) {gs':List Gd} (hch:change nd gs=some gs'):
  ∃ K' gp',KG nd p q n gs.length t2 ts gs L K' gp' gs'∧EV A Xs ⟨xy ps f a p q tkp rl L gs.length b nd.Op (wF nd.Op) gs.length,[],K,ed⟩=EV A VB ⟨jk ps f a p q tkp rl L gs.length b nd.Op,[],K',ed⟩:=by
 obtain ⟨o,A',B',C',D'⟩:=nd
 have hl:=k.len
 have h9:=k.h9
 have pos:¬gs=[]→1≤gs.length:=fun h=>by
  cases gs with
  |nil=>exact absurd rfl h
  |cons x l=>simp
 have cut:∀ (K2:zd),K2=K.set 8 (.cells 3 [[.bool true,.sl 6 0 n n,.sl 7 0 (gs.length-1) gs.length]])→∀ X d,xF (Go.Av.frz (d+2) (K2++X) (.sl 7 0 (gs.length-1) gs.length)) gs.dropLast:=fun K2 e X d=>by
  subst e
  left
  rw [List.dropLast_eq_take]
  exact znU (zY _ _ (by rw [List.getElem?_set_ne (by decide)];exact h7)) rfl (by omega)
 by_cases n32:o=32
 ·subst n32
  have hne:¬gs=[]:=fun e=>by simp [change,e] at hch
  have hg:gs'=gs.dropLast:=by
   simp only [change] at hch
   simp at hch
   exact hch.2.symm
  subst hg
  exact ⟨_,_,k.set8 ⟨rfl,rfl,rfl⟩ (cut _ rfl),zyF k h7 tq hgl (pos hne)⟩
 by_cases n36:o=36
 ·subst n36
  have hne:¬gs=[]:=fun e=>by simp [change,e] at hch
  have hg:gs'=gs.dropLast:=by
   simp only [change] at hch
   simp at hch
   exact hch.2.symm
  subst hg
  exact ⟨_,_,k.set8 ⟨rfl,rfl,rfl⟩ (cut _ rfl),zyI k h7 tq hgl (pos hne)⟩
 by_cases n34:o=34
 ·subst n34
  have hne:¬gs=[]:=fun e=>by simp [change,e] at hch
  have hg:gs'=gs.set (gs.length-1) { za gs (gs.length-1) with Keep:=A' }:=by
   simp only [change] at hch
   simp at hch
   exact hch.2.symm
  subst hg
  refine ⟨_,_,k.set7 _ fun X d=>?_,zyH k h7 tq hgl (pos hne)⟩
  left
  rw [zxa]
  have:=Zo (d:=d) (H:=K.set 7 (.cells 3 (vv (gs.set (gs.length-1) { za gs (gs.length-1) with Keep:=A' })))++X) (id:=7) (l:=gs.set (gs.length-1) { za gs (gs.length-1) with Keep:=A' }) (zY _ _ (List.getElem?_set_self (by omega)))
  rw [List.length_set] at this
  exact this
 have grow:∀ (g:Gd) (K2:zd),K2=((K++[yf.cells 3 [g.cells]]).set 7 (.cells 3 (vv gs++[g.cells]))).set 8 (.cells 3 [[.bool true,.sl 6 0 n n,.sl 7 0 (gs.length+1) (gs.length+1)]])→KG ⟨o,A',B',C',D'⟩ p q n gs.length t2 ts gs L K2 (.sl 7 0 (gs.length+1) (gs.length+1)) (gs++[g]):=fun g K2 e=>by
  subst e
  refine k.of (fun j hj j7 j8=>?_) (by simp) (List.getElem?_set_self (by simp;omega)) ⟨rfl,rfl,rfl⟩ fun X d=>?_
  ·rw [List.getElem?_set_ne (Ne.symm j8),List.getElem?_set_ne (Ne.symm j7),List.getElem?_append_left hj]
  ·left
   have:=Zo (d:=d) (H:=((K++[yf.cells 3 [g.cells]]).set 7 (.cells 3 (vv gs++[g.cells]))).set 8 (.cells 3 [[.bool true,.sl 6 0 n n,.sl 7 0 (gs.length+1) (gs.length+1)]])++X) (id:=7) (l:=gs++[g]) (zY _ _ (by rw [List.getElem?_set_ne (by decide),List.getElem?_set_self (by simp;omega)];simp [vv]))
   rw [List.length_append,List.length_singleton] at this
   exact this
 by_cases n31:o=31
 ·subst n31
  have hg:gs'=gs++[⟨true,B',A'⟩]:=by
   simp only [change] at hch
   simp at hch
   exact hch.2.symm
  subst hg
  exact ⟨_,_,grow ⟨true,B',A'⟩ _ rfl,zyE k h7 tq hgl⟩
 by_cases n33:o=33
 ·subst n33
  have hg:gs'=gs++[⟨false,A',0⟩]:=by
   simp only [change] at hch
   simp at hch
   exact hch.2.symm
  subst hg
  exact ⟨_,_,grow ⟨false,A',0⟩ _ rfl,zyG k h7 tq hgl⟩
 ·have hg:gs'=gs:=by
   simp only [change,n31,n33,n32,n34,n36,if_false] at hch
   by_cases n5:o=35
   ·simp [n5] at hch;exact hch.2.symm
   ·simp [n5] at hch;exact hch.symm
  subst hg
  exact ⟨_,_,k,zu2 k tq hgl n32 n34 n36 n31 n33⟩
end
end
section
def zeO (K:zd) (row:List PV) (x:Int×yr):Prop:=∃ pT pG,row=[.int .i64 x.1,.bool true,pT,pG]∧(¬refs pT=[]∧¬refs pG=[])∧(∀ d,xU (Go.Av.frz (d+2) K pT) x.2.Types)∧∀ d,xF (Go.Av.frz (d+2) K pG) x.2.Guards
def Jv (K:zd) (l:PV) (L:List (Int×yr)):Prop:=(l=.nils∧L=[])∨∃ id rows,l=.sl id 0 L.length L.length∧K[id]?=some (.cells 4 rows)∧rows.length=L.length∧∀ (i:Nat) (row:List PV) (x:Int×yr),rows[i]?=some row→L[i]?=some x→zeO K row x
theorem Jv.one {H:zd} {id:Nat} {row:List PV} {x:Int×yr} (h:H[id]?=some (.cells 4 [row])) (hr:zeO H row x):Jv H (.sl id 0 1 1) [x]:=
 .inr ⟨id,_,rfl,h,rfl,fun i r y h1 h2=>by
  cases i with
  |zero=>simp at h1 h2;subst h1;subst h2;exact hr
  |succ i=>simp at h1⟩
theorem Jv.two {H:zd} {id:Nat} {r1 r2:List PV} {x y:Int×yr} (h:H[id]?=some (.cells 4 [r1,r2])) (h1:zeO H r1 x) (h2:zeO H r2 y):Jv H (.sl id 0 2 2) [x,y]:=
 .inr ⟨id,_,rfl,h,rfl,fun i r z k1 k2=>by
  match i with
  |0=>simp at k1 k2;subst k1;subst k2;exact h1
  |1=>simp at k1 k2;subst k1;subst k2;exact h2
  |i+2=>simp at k1⟩
section
variable {ps:List zc} {f:zc} {p q tkp:PV} {gs gs':List Gd} {ts t2:List Int} {a:Int} {rl:List Int} {L n m:Nat} {b:Bool} {K:zd} {ed:zV} {gp:PV}
def zeX (ps:List zc) (f:zc) (p q tkp:PV) (a:Int) (rl:List Int) (L m:Nat) (b:Bool) (K:zd) (ed:zV) (o:Int) (res:List (Int×yr)):Prop:=
 ∃ st,EV A VB ⟨jk ps f a p q tkp rl L m b o,[],K,ed⟩=some (.ret,st)∧st.per.get 8=.int .i64 0∧Jv st.H (st.per.get 9) res
theorem KG.row {nd:Ins} (k:KG nd p q n m t2 ts gs L K gp gs') (hn:t2.length=n) (X:zd) (j:Int):zeO (K++X) [.int .i64 j,.bool true,.sl 6 0 n n,gp] (j,⟨t2,gs'⟩):=by
 subst hn
 exact ⟨_,_,rfl,⟨by simp [refs],by rw [k.gl.2.2];simp⟩,fun d=>.inl (uG (zY _ X k.c6)),fun d=>k.gf X d⟩
theorem zmT {o A' B' C' D':Int} (k:KG ⟨o,A',B',C',D'⟩ p q n m t2 ts gs L K gp gs') (ho:o=29∨o=30):zeX ps f p q tkp a rl L m b K ed o []:=by
 have c3:=k.c3
 simp only [Ins.cells] at c3
 rcases ho with rfl|rfl
 ·refine ⟨_,by (simp -implicitDefEqProofs +contextual (disch:=omega) only [JP,zi,jk,xy,yD,zZ,wF,List.cons_append,List.nil_append,zo,zD,Ins.cells, ↓XD,XU, ↓reduceIte,sevalprocAttr,c3])<;>rfl,rfl,.inl ⟨rfl,rfl⟩⟩
 ·refine ⟨_,by (simp -implicitDefEqProofs +contextual (disch:=omega) only [JP,zi,jk,xy,yD,zZ,wF,List.cons_append,List.nil_append,zo,zD,Ins.cells, ↓XD,XU, ↓reduceIte,sevalprocAttr,c3])<;>rfl,rfl,.inl ⟨rfl,rfl⟩⟩
theorem zu5 {o A' B' C' D':Int} (k:KG ⟨o,A',B',C',D'⟩ p q n m t2 ts gs L K gp gs') (hn:t2.length=n) (a0:0≤a) (a1:a<1048576) (n29:¬o=29) (n30:¬o=30) (n19:¬o=19) (n20:¬o=20) (n21:¬o=21) (n38:¬o=38) (n39:¬o=39) (n41:¬o=41) (n31:¬o=31):zeX ps f p q tkp a rl L m b K ed o [(a+1,⟨t2,gs'⟩)]:=by
 have c3:=k.c3
 have c8:=k.c8
 obtain ⟨g1,g2,g3⟩:=k.gl
 obtain ⟨row,hrow⟩:∃ row:List PV,[.int .i64 (a+1),.bool true,.sl 6 0 n n,gp]=row:=⟨_,rfl⟩
 have hb:=uT 4 [.int .i64 0,.bool false,.nils,.nils] row K (by rw [←hrow];show (true&&(true&&(true&&(true&&(zH gp&&true)))))=true;rw [g2];rfl)
 have hr1:=jb K 4 row
 have hap:=xE (K++[.cells 4 [row]]) 4 64 [row] (by simp)
 have q3:∀ X:zd,(K++X)[3]?=some (.cells 5 [Ins.cells ⟨o,A',B',C',D'⟩]):=fun X=>zY K X c3
 simp only [Ins.cells] at c3 q3
 simp only [List.length_append,List.length_singleton,List.append_assoc,List.cons_append,List.nil_append] at hap
 have hro:=k.row hn [.cells 4 [row],.cells 4 [row]] (a+1)
 rw [hrow] at hro
 have hE:=zmm o
 unfold zeX jk
 generalize wF o=E at hE ⊢
 generalize decide (o=32∨o=36)=b6
 rcases hE with rfl|rfl|⟨b',rfl⟩<;>refine ⟨_,by (simp -implicitDefEqProofs +contextual (disch:=omega) only [JP,zi,xy,yD,zZ,List.cons_append,List.nil_append,zo,zD,Ins.cells, ↓zy, ↓zE,zz, ↓XD,XU, ↓reduceIte,sevalprocAttr,c3,c8,q3,g1,g2,g3,a0,hrow,hb,hr1.1,hr1.2,hap,n29,n30,n19,n20,n21,n38,n39,n41,n31])<;>rfl,rfl,Jv.one (id:=K.length+1) (wC _ _ 1) hro⟩
theorem zu4 {A' B' C' D':Int} (k:KG ⟨19,A',B',C',D'⟩ p q n m t2 ts gs L K gp gs') (hn:t2.length=n):zeX ps f p q tkp a rl L m b K ed 19 [(A',⟨t2,gs'⟩)]:=by
 have c3:=k.c3
 have c8:=k.c8
 obtain ⟨g1,g2,g3⟩:=k.gl
 obtain ⟨row,hrow⟩:∃ row:List PV,[.int .i64 A',.bool true,.sl 6 0 n n,gp]=row:=⟨_,rfl⟩
 have hb:=uT 4 [.int .i64 0,.bool false,.nils,.nils] row K (by rw [←hrow];show (true&&(true&&(true&&(true&&(zH gp&&true)))))=true;rw [g2];rfl)
 have hr1:=jb K 4 row
 have hap:=xE (K++[.cells 4 [row]]) 4 64 [row] (by simp)
 have q3:∀ X:zd,(K++X)[3]?=some (.cells 5 [Ins.cells ⟨19,A',B',C',D'⟩]):=fun X=>zY K X c3
 simp only [Ins.cells] at c3 q3
 simp only [List.length_append,List.length_singleton,List.append_assoc,List.cons_append,List.nil_append] at hap
 have hro:=k.row hn [.cells 4 [row],.cells 4 [row]] A'
 rw [hrow] at hro
 refine ⟨_,by (simp -implicitDefEqProofs +contextual (disch:=omega) only [JP,zi,jk,xy,yD,zZ,wF,List.cons_append,List.nil_append,zo,zD,Ins.cells, ↓zy, ↓zE,zz, ↓XD,XU, ↓reduceIte,sevalprocAttr,c3,c8,q3,g1,g2,g3,hrow,hb,hr1.1,hr1.2,hap])<;>rfl,rfl,Jv.one (id:=K.length+1) (wC _ _ 1) hro⟩
end
end
section
theorem zq2 {H:zd} {id sz by':Nat} {rows:List (List PV)} {n:Nat} (h:H[id]?=some (.cells sz rows)) (hn:n=rows.length) (hb:(n+1)*by'≤35184372088832) (cs:List PV) (hr:wD id cs=[]):xe H sz by' (.sl id 0 n n) [cs]=some (.sl id 0 (n+1) (n+1),H.set id (.cells sz (rows++[cs])),[]):=by
 subst hn
 have c1:(rows.length==rows.length&&sz==sz&&decide (0+rows.length≤rows.length)&&decide ((0+rows.length+[cs].length)*by'≤35184372088832))=true:=by simp;exact hb
 have c2:decide (0+rows.length+[cs].length≤rows.length)=false:=by simp
 simp only [xe,h,c1,c2]
 simp [hr]
theorem zhD (K:zd) (r1 r2:List PV) (he:wD (K.length+1) r2=[]) (hb:bsK 4 [.int .i64 0,.bool false,.nils,.nils] r2 (K++[.cells 4 [r1],.cells 4 [r1]])=some (.sl (K++[yf.cells 4 [r1],.cells 4 [r1]]).length 0 1 1,(K++[.cells 4 [r1],.cells 4 [r1]])++[.cells 4 [r2]],[])):
  bsK 4 [.int .i64 0,.bool false,.nils,.nils] r2 (K++[.cells 4 [r1],.cells 4 [r1]])=some (.sl (K.length+2) 0 1 1,K++[.cells 4 [r1],.cells 4 [r1],.cells 4 [r2]],[])∧uh (K++[.cells 4 [r1],.cells 4 [r1],.cells 4 [r2]]) (.sl (K.length+2) 0 1 1)=some [r2]∧xS (K++[.cells 4 [r1],.cells 4 [r1],.cells 4 [r2]]) 4 (.sl (K.length+2) 0 1 1)=true∧
  xe (K++[.cells 4 [r1],.cells 4 [r1],.cells 4 [r2]]) 4 64 (.sl (K.length+1) 0 1 1) [r2]=some (.sl (K.length+1) 0 2 2,K++[.cells 4 [r1],.cells 4 [r1,r2],.cells 4 [r2]],[]):=by
 have e:K++[yf.cells 4 [r1],.cells 4 [r1],.cells 4 [r2]]=(K++[yf.cells 4 [r1],.cells 4 [r1]])++[.cells 4 [r2]]:=by simp
 have hl:K.length+2=(K++[yf.cells 4 [r1],.cells 4 [r1]]).length:=by simp
 refine ⟨?_,?_,?_,?_⟩
 ·rw [hb,hl,e]
 ·rw [e];exact (Yj _ _ hl 4 _).1
 ·rw [e];exact (Yj _ _ hl 4 _).2
 ·have h0:(K++[yf.cells 4 [r1],.cells 4 [r1],.cells 4 [r2]])[K.length+1]?=some (.cells 4 [r1]):=by rw [wC];rfl
  have:=zq2 (by':=64) (n:=1) h0 rfl (by omega) r2 he
  rw [this,JC];rfl
section
variable {ps:List zc} {f:zc} {p q tkp:PV} {gs gs':List Gd} {ts t2:List Int} {a:Int} {rl:List Int} {L n m:Nat} {b:Bool} {K:zd} {ed:zV} {gp:PV}
theorem KG.noedge {nd:Ins} (k:KG nd p q n m t2 ts gs L K gp gs') (j:Int) {id:Nat} (hid:K.length≤id):wD id [.int .i64 j,.bool true,.sl 6 0 n n,gp]=[]:=by
 have hl:=k.len
 have h9:=k.h9
 obtain ⟨g1,g2,g3⟩:=k.gl
 have:zt [.int .i64 j,.bool true,.sl 6 0 n n,gp]=[6,7]:=by simp [zt,refs,g3]
 rw [wD,this]
 have h6:¬id<6:=by omega
 have h7:¬id<7:=by omega
 simp [h6,h7]
theorem zxd {o A' B' C' D':Int} (k:KG ⟨o,A',B',C',D'⟩ p q n m t2 ts gs L K gp gs') (hn:t2.length=n) (a0:0≤a) (a1:a<1048576) (ho:o=20∨o=21∨o=38∨o=39):zeX ps f p q tkp a rl L m b K ed o [(a+1,⟨t2,gs'⟩),(B',⟨t2,gs'⟩)]:=by
 have c3:=k.c3
 have c8:=k.c8
 obtain ⟨g1,g2,g3⟩:=k.gl
 have hne:=k.noedge B' (Nat.le_succ K.length)
 obtain ⟨row,hrow⟩:∃ row:List PV,[.int .i64 (a+1),.bool true,.sl 6 0 n n,gp]=row:=⟨_,rfl⟩
 obtain ⟨r2,hr2⟩:∃ row:List PV,[.int .i64 B',.bool true,.sl 6 0 n n,gp]=row:=⟨_,rfl⟩
 rw [hr2] at hne
 have hb:=uT 4 [.int .i64 0,.bool false,.nils,.nils] row K (by rw [←hrow];show (true&&(true&&(true&&(true&&(zH gp&&true)))))=true;rw [g2];rfl)
 have hb2:=uT 4 [.int .i64 0,.bool false,.nils,.nils] r2 (K++[.cells 4 [row],.cells 4 [row]]) (by rw [←hr2];show (true&&(true&&(true&&(true&&(zH gp&&true)))))=true;rw [g2];rfl)
 obtain ⟨w1,w2,w3,w4⟩:=zhD K row r2 hne hb2
 have hr1:=jb K 4 row
 have hap:=xE (K++[.cells 4 [row]]) 4 64 [row] (by simp)
 have q3:∀ X:zd,(K++X)[3]?=some (.cells 5 [Ins.cells ⟨o,A',B',C',D'⟩]):=fun X=>zY K X c3
 have q8:∀ X:zd,(K++X)[8]?=some (.cells 3 [[.bool true,.sl 6 0 n n,gp]]):=fun X=>zY K X c8
 simp only [Ins.cells] at c3 q3
 simp only [List.length_append,List.length_singleton,List.append_assoc,List.cons_append,List.nil_append] at hap
 have hro:=k.row hn [.cells 4 [row],.cells 4 [row,r2],.cells 4 [r2]] (a+1)
 have hro2:=k.row hn [.cells 4 [row],.cells 4 [row,r2],.cells 4 [r2]] B'
 rw [hrow] at hro
 rw [hr2] at hro2
 rcases ho with rfl|rfl|rfl|rfl<;>refine ⟨_,by (simp -implicitDefEqProofs +contextual (disch:=omega) only [JP,zi,jk,xy,yD,zZ,wF,List.cons_append,List.nil_append,zo,zD,Ins.cells, ↓zy, ↓zE,zz, ↓XD,XU, ↓reduceIte,sevalprocAttr,c3,c8,q3,q8,g1,g2,g3,a0,hrow,hr2,hb,hr1.1,hr1.2,hap,w1,w2,w3,w4])<;>rfl,rfl,Jv.two (id:=K.length+1) (wC _ _ 1) hro hro2⟩
theorem zu3 {A' B' C' D':Int} (k:KG ⟨41,A',B',C',D'⟩ p q n gs.length t2 ts gs L K gp gs') (hn:t2.length=n) (hts:ts.length=n) (a0:0≤a) (a1:a<1048576):zeX ps f p q tkp a rl L gs.length b K ed 41 [(a+1,⟨t2,gs'⟩),(B',⟨ts,gs⟩)]:=by
 have c3:=k.c3
 have c8:=k.c8
 have n5:=k.n5
 have hl:=k.len
 obtain ⟨g1,g2,g3⟩:=k.gl
 obtain ⟨row,hrow⟩:∃ row:List PV,[.int .i64 (a+1),.bool true,.sl 6 0 n n,gp]=row:=⟨_,rfl⟩
 obtain ⟨r2,hr2⟩:∃ row:List PV,[.int .i64 B',.bool true,.sl (L+3) 0 n n,.sl (L+4) 0 gs.length gs.length]=row:=⟨_,rfl⟩
 have hne:wD (K.length+1) r2=[]:=by
  rw [←hr2,wD]
  have h6:¬K.length+1<L+3:=by omega
  have h7:¬K.length+1<L+4:=by omega
  simp [zt,refs,h6,h7]
 have hb:=uT 4 [.int .i64 0,.bool false,.nils,.nils] row K (by rw [←hrow];show (true&&(true&&(true&&(true&&(zH gp&&true)))))=true;rw [g2];rfl)
 have hb2:=uT 4 [.int .i64 0,.bool false,.nils,.nils] r2 (K++[.cells 4 [row],.cells 4 [row]]) (by rw [←hr2];rfl)
 obtain ⟨w1,w2,w3,w4⟩:=zhD K row r2 hne hb2
 have hr1:=jb K 4 row
 have hap:=xE (K++[.cells 4 [row]]) 4 64 [row] (by simp)
 have q3:∀ X:zd,(K++X)[3]?=some (.cells 5 [Ins.cells ⟨41,A',B',C',D'⟩]):=fun X=>zY K X c3
 have q8:∀ X:zd,(K++X)[8]?=some (.cells 3 [[.bool true,.sl 6 0 n n,gp]]):=fun X=>zY K X c8
 have q9:∀ X:zd,(K++X)[L+5]?=some (Qt n gs.length L):=fun X=>zY K X n5
 simp only [Ins.cells,Qt] at c3 q3 q9
 simp only [List.length_append,List.length_singleton,List.append_assoc,List.cons_append,List.nil_append] at hap
 have hro:=k.row hn [.cells 4 [row],.cells 4 [row,r2],.cells 4 [r2]] (a+1)
 have hro2:zeO (K++[.cells 4 [row],.cells 4 [row,r2],.cells 4 [r2]]) [.int .i64 B',.bool true,.sl (L+3) 0 n n,.sl (L+4) 0 gs.length gs.length] (B',⟨ts,gs⟩):=
  ⟨_,_,rfl,⟨by simp [refs],by simp [refs]⟩,fun d=>.inl (by rw [←hts];exact uG (zY _ _ k.n3)),fun d=>.inl (Zo (zY _ _ k.n4))⟩
 rw [hrow] at hro
 rw [hr2] at hro2
 refine ⟨_,by (simp -implicitDefEqProofs +contextual (disch:=omega) only [JP,zi,jk,xy,yD,zZ,wF,List.cons_append,List.nil_append,zo,zD,Ins.cells, ↓zy, ↓zE,zz, ↓XD,XU, ↓reduceIte,sevalprocAttr,c3,c8,q3,q8,q9,g1,g2,g3,a0,hrow,hr2,hb,hr1.1,hr1.2,hap,w1,w2,w3,w4])<;>rfl,rfl,Jv.two (id:=K.length+1) (wC _ _ 1) hro hro2⟩
end
end
abbrev zg_ (ps:List zc) (f:zc) (a:Int) (p q tkp:PV) (rl:List Int) (L m:Nat) (b:Bool) (M:Nat) (i:Int):zk:=jk ps f a p q tkp rl L m b 31++[(38,.sl (M+1) 0 1 1),(426,.int .i64 31),(436,.bool false),(39,.ptr (M+6) 0 0 1),(40,.int .i64 i)]
def jU (l:List Int) (B i:Nat):List Int:=l.take B++List.replicate (i-B) 0++l.drop i
theorem zqL {l:List Int} {B i:Nat} (h:B≤i) (hi:i<l.length):(jU l B i).set i 0=jU l B (i+1):=by
 unfold jU
 have e:(l.take B++List.replicate (i-B) (0:Int)).length=i:=by simp;omega
 rw [List.set_append_right _ _ (by omega),e,Nat.sub_self,List.drop_eq_getElem_cons hi,List.set_cons_zero,show i+1-B=(i-B)+1 by omega,List.replicate_succ',List.append_assoc,List.append_assoc,List.append_assoc]
 rfl
theorem zi3 {l:List Int} {B i:Nat} (h:B≤i) (hi:i≤l.length):(jU l B i).length=l.length:=by
 simp [jU];omega
theorem zwC {ps:List zc} {f:zc} {a:Int} {p q tkp:PV} {rl:List Int} {L m:Nat} {b:Bool} {M:Nat} {G:List Int→zd} {N:Nat} {ed:zV} {l:List Int} {B:Nat} {gp:PV} (hB:B≤l.length) (hl:l.length≤1048576) (h4:∀ t,(G t)[M+4]?=some (.cells 1 (yn t))) (h6:∀ t,(G t)[M+6]?=some (.cells 3 [[.bool true,.sl (M+4) 0 l.length l.length,gp]])) (hs:∀ t t',(G t).set (M+4) (.cells 1 (yn t'))=G t') (hlen:∀ t,(G t).length=N) (he:∀ e∈ed,e.2<N):
  EV A (.loop (z7 8)) ⟨zg_ ps f a p q tkp rl L m b M B,[],G l,ed⟩=some (.exit 20,⟨zg_ ps f a p q tkp rl L m b M l.length,[],G (jU l B l.length),ed⟩):=by
 have key:=JJ (P:=A) (body:=(z7 8)) (fun (i:Nat)=>(⟨zg_ ps f a p q tkp rl L m b M i,[],G (jU l B i),ed⟩:St)) (fun i=>B≤i∧i≤l.length) (fun i=>l.length-i) (fun i=>(.exit 20,(⟨zg_ ps f a p q tkp rl L m b M l.length,[],G (jU l B l.length),ed⟩:St))) ?_ B ⟨Nat.le_refl _,hB⟩
 ·have e:jU l B B=l:=by simp [jU]
  rw [e] at key;exact key
 rintro i ⟨i0,i1⟩
 have htr:∀ t roots,trim N roots (G t) ed=(G t,ed):=fun t roots=>by rw [←hlen t];exact Zb (by rw [hlen t];exact he) roots
 by_cases c:i<l.length
 ·right
  have hz:=zqL i0 c
  have hzl:=zi3 i0 i1
  have c1:(i:Int)<l.length:=by omega
  obtain ⟨z,hzz⟩:∃ z,jU l B i=z:=⟨_,rfl⟩
  rw [hzz] at hz hzl
  have hg:z[i]?=some (z[i]'(by omega)):=List.getElem?_eq_getElem (by omega)
  have hs2:(yn z).set i [.int .i64 0]=yn (jU l B (i+1)):=by rw [←hz];simp [yn]
  refine ⟨i+1,_,by omega,by omega,by (simp -implicitDefEqProofs +contextual (disch:=omega) only [zcL,zi,zg_,jk,xy,yD,zZ,wF,List.cons_append,List.nil_append, ↓XD,XU, ↓reduceIte,sevalprocAttr,h4,h6,hs,c1,hzz,hg,hs2,hzl,Int.toNat_natCast])<;>rfl,?_,rfl⟩
  simp [St.next,htr,hlen,wF]
 ·left
  have:i=l.length:=by omega
  subst this
  refine ⟨by (simp -implicitDefEqProofs +contextual (disch:=omega) only [zcL,zi,zg_,jk,xy,yD,zZ,wF,List.cons_append,List.nil_append, ↓XD,XU, ↓reduceIte,sevalprocAttr,h4,h6,Int.lt_irrefl]),by simp⟩
def tG (K:zd) (row:List PV) (n:Nat) (gs:List Gd) (t:List Int):zd:=K++[.cells 4 [row],.cells 4 [row],.cells 3 [[.bool true,.sl (K.length+4) 0 n n,.sl (K.length+5) 0 gs.length gs.length]],.cells 3 [[.bool true,.sl (K.length+4) 0 n n,.sl (K.length+5) 0 gs.length gs.length]],.cells 1 (yn t),.cells 3 (vv gs),.cells 3 [[.bool true,.sl (K.length+4) 0 n n,.sl (K.length+5) 0 gs.length gs.length]]]
theorem zBu (K:zd) (row:List PV) (n:Nat) (gs:List Gd) (t:List Int):(tG K row n gs t)[K.length+1]?=some (.cells 4 [row]):=by rw [tG,wC];rfl
theorem zyL (K:zd) (row:List PV) (n:Nat) (gs:List Gd) (t:List Int):(tG K row n gs t)[K.length+4]?=some (.cells 1 (yn t)):=by rw [tG,wC];rfl
theorem zBv (K:zd) (row:List PV) (n:Nat) (gs:List Gd) (t:List Int):(tG K row n gs t)[K.length+5]?=some (.cells 3 (vv gs)):=by rw [tG,wC];rfl
theorem zyM (K:zd) (row:List PV) (n:Nat) (gs:List Gd) (t:List Int):(tG K row n gs t)[K.length+6]?=some (.cells 3 [[.bool true,.sl (K.length+4) 0 n n,.sl (K.length+5) 0 gs.length gs.length]]):=by rw [tG,wC];rfl
theorem zyO (K:zd) (row:List PV) (n:Nat) (gs:List Gd) (t t':List Int):(tG K row n gs t).set (K.length+4) (.cells 1 (yn t'))=tG K row n gs t':=by rw [tG,JC];rfl
theorem zsC (K:zd) (row:List PV) (n:Nat) (gs:List Gd) (t:List Int):(tG K row n gs t).length=K.length+7:=by simp [tG]
theorem zyN (K:zd) (row:List PV) (n:Nat) (gs:List Gd) (t:List Int) {j:Nat} {b:yf} (h:K[j]?=some b):(tG K row n gs t)[j]?=some b:=zY _ _ h
theorem zrE {G:Nat→Option (List PV)} {C:Cl} {st:St} {dst:Option (Bool×Nat)} {op:uD} {g:Option (zx×Bool)} {x:zx} {l:List zx}:vu G C st ⟨dst,op,g,false,x::l⟩=if ((x::l).all fun x=>We (Ym G st op) (x.get G st))=true then zq G C st op else none:=by
 show (match YB G st ⟨dst,op,g,false,x::l⟩ with
  |true=>match zq G C st op with
   |some r=>match !false||(refs r.1).isEmpty with|true=>some r|false=>none
   |none=>none
  |false=>none)=_
 have:YB G st ⟨dst,op,g,false,x::l⟩=(x::l).all fun x=>We (Ym G st op) (x.get G st):=by simp [YB]
 rw [this]
 cases (x::l).all fun x=>We (Ym G st op) (x.get G st)
 ·rfl
 ·cases zq G C st op<;>rfl
theorem zq3 {H:zd} {id sz by':Nat} {rows:List (List PV)} {n:Nat} (h:H[id]?=some (.cells sz rows)) (hn:n=rows.length) (hb:(n+1)*by'≤35184372088832) (cs:List PV):xe H sz by' (.sl id 0 n n) [cs]=some (.sl id 0 (n+1) (n+1),H.set id (.cells sz (rows++[cs])),wD id cs):=by
 subst hn
 have c1:(rows.length==rows.length&&sz==sz&&decide (0+rows.length≤rows.length)&&decide ((0+rows.length+[cs].length)*by'≤35184372088832))=true:=by simp;exact hb
 have c2:decide (0+rows.length+[cs].length≤rows.length)=false:=by simp
 simp only [xe,h,c1,c2]
 simp
theorem zxc {ps:List zc} {f:zc} {p q tkp:PV} {gs gs':List Gd} {bs ts t2:List Int} {a:Int} {rl:List Int} {L n m:Nat} {b:Bool} {K:zd} {ed:zV} {gp:PV} {A' B' C' D':Int} (k:KG ⟨31,A',B',C',D'⟩ p q n gs.length t2 ts gs L K gp gs') (t1:xU p bs) (tq:xF q gs) (h1:bs.length≤1048576) {B:Nat} (hB:B+1<bs.length) (hBB:B'=B) (hed:∀ e∈ed,e.2<K.length) (h2:gs.length≤1048576) (hn:t2.length=n) (a0:0≤a) (a1:a<1048576):zeX ps f p q tkp a rl L gs.length b K ed 31 [(a+1,⟨t2,gs'⟩),(A',⟨((jU bs B bs.length).set B 1).set (B+1) 1,gs⟩)]:=by
 have c2:=k.c2
 have c3:=k.c3
 have c8:=k.c8
 obtain ⟨g1,g2,g3⟩:=k.gl
 have hcp:=zfb (s:=⟨bs,gs⟩) (r:=true) t1 tq h1 h2
 have y3:=fun d H=>uz t1 d H
 have y4:=fun d H=>ww tq d H
 have l1:=fun k=>Uu k bs
 have l2:=fun k=>Yh k gs
 have d1:=uH t1
 have d2:=yN tq
 have k1:=jM t1
 have k2:=xf tq
 obtain ⟨row,hrow⟩:∃ row:List PV,[.int .i64 (a+1),.bool true,.sl 6 0 n n,gp]=row:=⟨_,rfl⟩
 have hb:=uT 4 [.int .i64 0,.bool false,.nils,.nils] row K (by rw [←hrow];show (true&&(true&&(true&&(true&&(zH gp&&true)))))=true;rw [g2];rfl)
 have hr1:=jb K 4 row
 have hap:=xE (K++[.cells 4 [row]]) 4 64 [row] (by simp)
 have q2:∀ X:zd,(K++X)[2]?=some (.cells 3 [zo p q]):=fun X=>zY K X c2
 have q3:∀ X:zd,(K++X)[3]?=some (.cells 5 [Ins.cells ⟨31,A',B',C',D'⟩]):=fun X=>zY K X c3
 simp only [Ins.cells,zo] at c2 c3 q2 q3
 simp only [List.length_append,List.length_singleton,List.append_assoc,List.cons_append,List.nil_append] at hap
 subst hBB
 have n1:¬(K.length+6<K.length+4):=by omega
 have n2:¬(K.length+6<K.length+5):=by omega
 have hz:=zwC (ps:=ps) (f:=f) (a:=a) (p:=p) (q:=q) (tkp:=tkp) (rl:=rl) (L:=L) (m:=gs.length) (b:=b) (M:=K.length) (G:=tG K row bs.length gs) (N:=K.length+7) (ed:=(K.length+3,K.length+4)::(K.length+3,K.length+5)::(K.length+2,K.length+5)::(K.length+2,K.length+4)::ed) (l:=bs) (B:=B) (by omega) h1 (zyL K row _ gs) (zyM K row _ gs) (zyO K row _ gs) (zsC K row _ gs) (by intro e he;simp at he;rcases he with rfl|rfl|rfl|rfl|he<;>first|(simp;done)|(simp;omega)|(have:=hed e he;omega))
 have hb1:Nat.beq K.length (K.length+2)=false:=U4 (by omega)
 have hb2:Nat.beq (K.length+4) 3=false:=U4 (by have:=k.len;have:=k.h9;omega)
 have zl:=zi3 (l:=bs) (B:=B) (i:=bs.length) (by omega) (Nat.le_refl _)
 have y0:(B:Int)<bs.length:=by omega
 have y1:(B:Int)+1<bs.length:=by omega
 obtain ⟨z,hzz⟩:∃ z,jU bs B bs.length=z:=⟨_,rfl⟩
 rw [hzz] at zl
 rw [hzz]
 have hg0:z[B]?=some (z[B]'(by omega)):=List.getElem?_eq_getElem (by omega)
 have hs0:(yn z).set B [.int .i64 1]=yn (z.set B 1):=by simp [yn]
 obtain ⟨z1,hz1⟩:∃ z1,z.set B 1=z1:=⟨_,rfl⟩
 rw [hz1] at hs0 ⊢
 have zl1:z1.length=bs.length:=by rw [←hz1,List.length_set,zl]
 have hg1:z1[B+1]?=some (z1[B+1]'(by omega)):=List.getElem?_eq_getElem (by omega)
 have hs1:(yn z1).set (B+1) [.int .i64 1]=yn (z1.set (B+1) 1):=by simp [yn]
 obtain ⟨z2,hz2⟩:∃ z2,z1.set (B+1) 1=z2:=⟨_,rfl⟩
 rw [hz2] at hs1 ⊢
 have zl2:z2.length=bs.length:=by rw [←hz2,List.length_set,zl1]
 have hT:((B:Int)+1).toNat=B+1:=by omega
 obtain ⟨r2,hr2⟩:∃ row:List PV,[.int .i64 A',.bool true,.sl (K.length+4) 0 bs.length bs.length,.sl (K.length+5) 0 gs.length gs.length]=row:=⟨_,rfl⟩
 obtain ⟨G,hG⟩:∃ G,tG K row bs.length gs=G:=⟨_,rfl⟩
 have hG0:K++[.cells 4 [row],.cells 4 [row],.cells 3 [[.bool true,.sl (K.length+4) 0 bs.length bs.length,.sl (K.length+5) 0 gs.length gs.length]],.cells 3 [[.bool true,.sl (K.length+4) 0 bs.length bs.length,.sl (K.length+5) 0 gs.length gs.length]],.cells 1 (yn bs),.cells 3 (vv gs),.cells 3 [[.bool true,.sl (K.length+4) 0 bs.length bs.length,.sl (K.length+5) 0 gs.length gs.length]]]=G bs:=by rw [←hG];rfl
 have u3:∀ t,(G t)[3]?=some (.cells 5 [[.int .i64 31,.int .i64 A',.int .i64 B,.int .i64 C',.int .i64 D']]):=fun t=>by rw [←hG];exact zyN _ _ _ _ _ c3
 have u1:=zBu K row bs.length gs
 have u4:=zyL K row bs.length gs
 have u5:=zBv K row bs.length gs
 have u6:=zyM K row bs.length gs
 have us:=zyO K row bs.length gs
 have ul:=zsC K row bs.length gs
 rw [hG] at hz u1 u4 u5 u6 us ul
 rw [hzz] at hz
 have hb3:bsK 4 [.int .i64 0,.bool false,.nils,.nils] r2 (G z2)=some (.sl (K.length+7) 0 1 1,G z2++[.cells 4 [r2]],[]):=by
  have:=uT 4 [.int .i64 0,.bool false,.nils,.nils] r2 (G z2) (by rw [←hr2];rfl)
  rw [ul] at this;exact this
 have hr3:=Yj (G z2) (K.length+7) (ul z2).symm 4 r2
 have hap2:=zq3 (by':=64) (n:=1) (zY (G z2) [yf.cells 4 [r2]] (u1 z2)) rfl (by omega) r2
 obtain ⟨FH,hFH⟩:∃ FH,(G z2++[yf.cells 4 [r2]]).set (K.length+1) (yf.cells 4 ([row]++[r2]))=FH:=⟨_,rfl⟩
 rw [hFH] at hap2
 have hFK:FH=K++[.cells 4 [row],.cells 4 [row,r2],.cells 3 [[.bool true,.sl (K.length+4) 0 bs.length bs.length,.sl (K.length+5) 0 gs.length gs.length]],.cells 3 [[.bool true,.sl (K.length+4) 0 bs.length bs.length,.sl (K.length+5) 0 gs.length gs.length]],.cells 1 (yn z2),.cells 3 (vv gs),.cells 3 [[.bool true,.sl (K.length+4) 0 bs.length bs.length,.sl (K.length+5) 0 gs.length gs.length]],.cells 4 [r2]]:=by
  rw [←hFH, ←hG,tG,List.append_assoc,JC];rfl
 have f1:FH[K.length+1]?=some (.cells 4 [row,r2]):=by rw [hFK,wC];rfl
 have f4:FH[K.length+4]?=some (.cells 1 (yn z2)):=by rw [hFK,wC];rfl
 have f5:FH[K.length+5]?=some (.cells 3 (vv gs)):=by rw [hFK,wC];rfl
 have d1':zeO FH row (a+1,⟨t2,gs'⟩):=by rw [hFK, ←hrow];exact k.row hn _ _
 have d2':zeO FH r2 (A',⟨z2,gs⟩):=by
  rw [←hr2, ←zl2]
  exact ⟨_,_,rfl,⟨by simp [refs],by simp [refs]⟩,fun d=>.inl (uG f4),fun d=>.inl (Zo f5)⟩
 have hE31:wF 31=[(233,.bool false),(243,.bool true)]:=by simp [wF]
 have hD31:decide ((31:Int)=32∨(31:Int)=36)=false:=by decide
 simp only [zg_,jk,xy,yD,zZ,hE31,hD31,List.cons_append,List.nil_append,zo,vv] at hz hG0
 refine ⟨_,by (simp -implicitDefEqProofs +contextual (disch:=omega) only [JP,zi,jk,xy,yD,zZ,wF,List.cons_append,List.nil_append,zo,zD,Ins.cells,Nat.add_assoc,Nat.reduceAdd, ↓zy, ↓zE,zz, ↓XD,XU, ↓reduceIte,sevalprocAttr,c2,c3,c8,q2,q3,g1,g2,g3,a0,hrow,hb,hr1.1,hr1.2,hap,hcp,y3 6,y4 6,y3 5,y4 5,l1,l2,d1,d2,k1,k2,eq_false n1,eq_false n2,List.map_nil,hG0,hz,u3,u4,u6,us,zl,zl1,zl2,y0,y1,hT,hg0,hs0,hg1,hs1,zrE,Ym,We,List.all_cons,List.all_nil,hb1,hb2,Bool.not_false,Bool.and_self,hr2,hb3,hr3.1,hr3.2,hap2])<;>rfl,rfl,Jv.two (id:=K.length+1) f1 d1' d2'⟩
theorem zh6 {d:Nat} {H:zd} {p:PV} {rows:List (List PV)} (h:Go.Av.frz (d+1) H p=.fz rows) (hr:¬refs p=[]):∃ id off len tot s rs,p=.sl id off len tot∧H[id]?=some (.cells s rs)∧(tot==rs.length&&decide (off+len≤tot))=true∧((rs.drop off).take len).map (·.map (Go.Av.frz d H))=rows:=by
 cases p with
 |sl id off len tot=>
  rw [Go.Av.frz] at h
  cases hb:H[id]? with
  |none=>rw [hb] at h;cases h
  |some b=>cases b with
   |cells s rs=>
    rw [hb] at h
    cases hc:(tot==rs.length&&decide (off+len≤tot)) with
    |true=>simp only [hc] at h;injection h with h;exact ⟨_,_,_,_,_,_,rfl,hb,hc,h⟩
    |false=>simp only [hc] at h;cases h
   |map es=>rw [hb] at h;cases h
 |ptr id row off tot=>
  rw [Go.Av.frz] at h
  repeat' split at h
  all_goals cases h
 |mp id=>
  rw [Go.Av.frz] at h
  repeat' split at h
  all_goals cases h
 |_=>first|(simp [refs] at hr;done)|(rw [Go.Av.frz] at h;cases h;done)|(simp [Go.Av.frz] at h;done)
theorem zdw {d:Nat} {H:zd} {p:PV} (h:Go.Av.frz (d+1) H p=.nils) (hr:¬refs p=[]):False:=by
 cases p with
 |sl id off len tot=>
  rw [Go.Av.frz] at h
  repeat' split at h
  all_goals cases h
 |ptr id row off tot=>
  rw [Go.Av.frz] at h
  repeat' split at h
  all_goals cases h
 |mp id=>
  rw [Go.Av.frz] at h
  repeat' split at h
  all_goals cases h
 |_=>first|(simp [refs] at hr;done)|(rw [Go.Av.frz] at h;cases h;done)|(simp [Go.Av.frz] at h;done)
theorem JG {d:Nat} {H:zd} {c:PV} {k:IntKind} {x:Int} (h:Go.Av.frz (d+1) H c=.int k x):c=.int k x:=by
 cases c with
 |sl id off len tot=>
  rw [Go.Av.frz] at h
  repeat' split at h
  all_goals cases h
 |ptr id row off tot=>
  rw [Go.Av.frz] at h
  repeat' split at h
  all_goals cases h
 |mp id=>
  rw [Go.Av.frz] at h
  repeat' split at h
  all_goals cases h
 |_=>first|exact h|(rw [Go.Av.frz] at h;cases h;done)|(simp [Go.Av.frz] at h;done)
theorem QC {d:Nat} {H:zd} {c:PV} {x:Bool} (h:Go.Av.frz (d+1) H c=.bool x):c=.bool x:=by
 cases c with
 |sl id off len tot=>
  rw [Go.Av.frz] at h
  repeat' split at h
  all_goals cases h
 |ptr id row off tot=>
  rw [Go.Av.frz] at h
  repeat' split at h
  all_goals cases h
 |mp id=>
  rw [Go.Av.frz] at h
  repeat' split at h
  all_goals cases h
 |_=>first|exact h|(rw [Go.Av.frz] at h;cases h;done)|(simp [Go.Av.frz] at h;done)
theorem zie {d:Nat} {H:zd}:∀ {rs:List (List PV)} {l:List Int},rs.map (·.map (Go.Av.frz (d+1) H))=yn l→rs=yn l
 |[],[],_=>rfl
 |[],_::_,h=>by simp at h
 |_::_,[],h=>by simp at h
 |r::rs,x::l,h=>by
  simp only [yn,List.map_cons,List.cons.injEq] at h
  have h2:=zie (rs:=rs) (l:=l) h.2
  match r,h.1 with
  |[],h1=>simp at h1
  |[c],h1=>
   simp only [List.map_cons,List.map_nil,List.cons.injEq,and_true] at h1
   rw [JG h1,h2];rfl
  |_::_::_,h1=>simp at h1
theorem zid {d:Nat} {H:zd}:∀ {rs:List (List PV)} {l:List Gd},rs.map (·.map (Go.Av.frz (d+1) H))=vv l→rs=vv l
 |[],[],_=>rfl
 |[],_::_,h=>by simp at h
 |_::_,[],h=>by simp at h
 |r::rs,x::l,h=>by
  simp only [vv,Gd.cells,List.map_cons,List.cons.injEq] at h
  have h2:=zid (rs:=rs) (l:=l) h.2
  match r,h.1 with
  |[],h1=>simp at h1
  |[_],h1=>simp at h1
  |[_,_],h1=>simp at h1
  |[c1,c2,c3],h1=>
   simp only [List.map_cons,List.map_nil,List.cons.injEq,and_true] at h1
   rw [QC h1.1,JG h1.2.1,JG h1.2.2,h2];rfl
  |_::_::_::_::_,h1=>simp at h1
theorem zff {d:Nat} {H:zd} {id off len tot s:Nat} {rs rows:List (List PV)} (h:H[id]?=some (.cells s rs)) (hc:(tot==rs.length&&decide (off+len≤tot))=true) (e:(rs.drop off).take len=rows) (k:Nat) (hk:k=id):Go.Av.frz (d+1) H (.sl k off len tot)=.fz (rows.map (·.map (Go.Av.frz d H))):=by
 subst hk
 rw [Go.Av.frz,h]
 simp only [hc,e]
theorem zhj {H:zd} {id s:Nat} {rs:List (List PV)} (h:H[id]?=some (.cells s rs)):(H.map (yX 0))[id]?=some (.cells s (rs.map (xG 0))):=by
 rw [List.getElem?_map,h];rfl
theorem ztL {d:Nat} {H:zd} {p:PV} {l:List Int} (h:xU (Go.Av.frz (d+2) H p) l) (hr:¬refs p=[]):xU (Go.Av.frz (d+2) (H.map (yX 0)) (zQ 0 p)) l:=by
 rcases h with h|⟨h,_⟩
 ·obtain ⟨id,off,len,tot,s,rs,rfl,hb,hc,e⟩:=zh6 h hr
  have e:=zie e
  have e2:((rs.map (xG 0)).drop off).take len=yn l:=by rw [←List.map_drop, ←List.map_take,e,Uu]
  have:=zff (d:=d+1) (zhj hb) (by rw [List.length_map];exact hc) e2 (0+id) (by omega)
  refine .inl ?_
  rw [zQ,this,yq]
  simp [yn,Go.Av.frz]
 ·exact (zdw h hr).elim
theorem ztK {d:Nat} {H:zd} {p:PV} {l:List Gd} (h:xF (Go.Av.frz (d+2) H p) l) (hr:¬refs p=[]):xF (Go.Av.frz (d+2) (H.map (yX 0)) (zQ 0 p)) l:=by
 rcases h with h|⟨h,_⟩
 ·obtain ⟨id,off,len,tot,s,rs,rfl,hb,hc,e⟩:=zh6 h hr
  have e:=zid e
  have e2:((rs.map (xG 0)).drop off).take len=vv l:=by rw [←List.map_drop, ←List.map_take,e,Yh]
  have:=zff (d:=d+1) (zhj hb) (by rw [List.length_map];exact hc) e2 (0+id) (by omega)
  refine .inl ?_
  rw [zQ,this,gds]
  simp [vv,Go.Av.frz]
 ·exact (zdw h hr).elim
def zxo (row:List PV) (x:Int×yr):Prop:=∃ p q,row=[.int .i64 x.1,.bool true,p,q]∧xU p x.2.Types∧xF q x.2.Guards
def zly (v:PV) (L:List (Int×yr)):Prop:=(v=.nils∧L=[])∨∃ rows,v=.fz rows∧rows.length=L.length∧∀ (i:Nat) (row:List PV) (x:Int×yr),rows[i]?=some row→L[i]?=some x→zxo row x
theorem Jv.frz {K:zd} {l:PV} {L:List (Int×yr)} (h:Jv K l L):zly (Go.Av.frz 7 (K.map (yX 0)) (zQ 0 l)) L:=by
 rcases h with ⟨rfl,rfl⟩|⟨id,rows,rfl,hb,hl,hr⟩
 ·exact .inl ⟨rfl,rfl⟩
 ·have hc:(L.length==(rows.map (xG 0)).length&&decide (0+L.length≤L.length))=true:=by simp [hl]
  have e2:((rows.map (xG 0)).drop 0).take L.length=rows.map (xG 0):=by rw [List.drop_zero,List.take_of_length_le (by simp [hl])]
  refine .inr ⟨_,zff (d:=6) (zhj hb) hc e2 (0+id) (by omega),by simp [hl],fun i row x h1 h2=>?_⟩
  rw [List.map_map,List.getElem?_map] at h1
  cases hk:rows[i]? with
  |none=>rw [hk] at h1;cases h1
  |some r=>
   rw [hk] at h1
   injection h1 with h1
   obtain ⟨pT,pG,rfl,⟨n1,n2⟩,k1,k2⟩:=hr i r x hk h2
   exact ⟨_,_,h1.symm,ztL (k1 4) n1,ztK (k2 4) n2⟩
end Go.Proofs.Tryd.Av
end
section
set_option maxRecDepth 10000
set_option maxHeartbeats 4000000
namespace Go.Proofs.Tryd.Av
open Go Go.Av Classical
theorem zfy (a b c d:Int):za [a,b,c,d] 0=a∧za [a,b,c,d] (0+1)=b∧za [a,b,c,d] (0+1+1)=c∧za [a,b,c,d] (0+1+1+1)=d:=⟨rfl,rfl,rfl,rfl⟩
theorem wM (nd:Ins) (a b c d:Int) (ts:List Int):Ka nd [a,b,c,d] 4 0 ts=
  let v:=if nd.Op=41 then 3 else yO nd.Op
  let t1:=if a=1 then ts.set nd.A.toNat v else ts
  let t2:=if b=1 then t1.set nd.B.toNat v else t1
  let t3:=if c=1 then t2.set nd.C.toNat v else t2
  if d=1 then t3.set nd.D.toNat v else t3:=by
 simp only [Ka,iw1,(zfy a b c d).1,(zfy a b c d).2.1,(zfy a b c d).2.2.1,(zfy a b c d).2.2.2,(zfy nd.A nd.B nd.C nd.D).1,(zfy nd.A nd.B nd.C nd.D).2.1,(zfy nd.A nd.B nd.C nd.D).2.2.1,(zfy nd.A nd.B nd.C nd.D).2.2.2]
theorem zBx (nd:Ins) (h:nd.Op=1) {rl:List Int} (hro:ze nd.Op=some rl) (ts:List Int):zA nd rl ts=writes nd ts:=by
 have e:rl=[7,0,0,0]:=by
  have:ze 1=some [7,0,0,0]:=by decide +kernel
  rw [h,this] at hro;injection hro with hro;exact hro.symm
 subst e
 rw [zA,wM]
 simp [writes,yO,zh,za,h]
theorem zBy (nd:Ins) (h:nd.Op=2) {rl:List Int} (hro:ze nd.Op=some rl) (ts:List Int):zA nd rl ts=writes nd ts:=by
 have e:rl=[8,0,0,0]:=by
  have:ze 2=some [8,0,0,0]:=by decide +kernel
  rw [h,this] at hro;injection hro with hro;exact hro.symm
 subst e
 rw [zA,wM]
 simp [writes,yO,zh,za,h]
theorem zBz (nd:Ins) (h:nd.Op=3) {rl:List Int} (hro:ze nd.Op=some rl) (ts:List Int):zA nd rl ts=writes nd ts:=by
 have e:rl=[0,0,0,0]:=by
  have:ze 3=some [0,0,0,0]:=by decide +kernel
  rw [h,this] at hro;injection hro with hro;exact hro.symm
 subst e
 rw [zA,wM]
 simp [writes,yO,zh,za,h]
theorem zBA (nd:Ins) (h:nd.Op=4) {rl:List Int} (hro:ze nd.Op=some rl) (ts:List Int):zA nd rl ts=writes nd ts:=by
 have e:rl=[1,9,0,0]:=by
  have:ze 4=some [1,9,0,0]:=by decide +kernel
  rw [h,this] at hro;injection hro with hro;exact hro.symm
 subst e
 rw [zA,wM]
 simp [writes,yO,zh,za,h]
theorem zBB (nd:Ins) (h:nd.Op=5) {rl:List Int} (hro:ze nd.Op=some rl) (ts:List Int):zA nd rl ts=writes nd ts:=by
 have e:rl=[1,2,0,0]:=by
  have:ze 5=some [1,2,0,0]:=by decide +kernel
  rw [h,this] at hro;injection hro with hro;exact hro.symm
 subst e
 rw [zA,wM]
 simp [writes,yO,zh,za,h]
theorem zBC (nd:Ins) (h:nd.Op=6) {rl:List Int} (hro:ze nd.Op=some rl) (ts:List Int):zA nd rl ts=writes nd ts:=by
 have e:rl=[1,2,0,0]:=by
  have:ze 6=some [1,2,0,0]:=by decide +kernel
  rw [h,this] at hro;injection hro with hro;exact hro.symm
 subst e
 rw [zA,wM]
 simp [writes,yO,zh,za,h]
theorem zBD (nd:Ins) (h:nd.Op=7) {rl:List Int} (hro:ze nd.Op=some rl) (ts:List Int):zA nd rl ts=writes nd ts:=by
 have e:rl=[1,5,0,0]:=by
  have:ze 7=some [1,5,0,0]:=by decide +kernel
  rw [h,this] at hro;injection hro with hro;exact hro.symm
 subst e
 rw [zA,wM]
 simp [writes,yO,zh,za,h]
theorem zBE (nd:Ins) (h:nd.Op=8) {rl:List Int} (hro:ze nd.Op=some rl) (ts:List Int):zA nd rl ts=writes nd ts:=by
 have e:rl=[5,2,0,0]:=by
  have:ze 8=some [5,2,0,0]:=by decide +kernel
  rw [h,this] at hro;injection hro with hro;exact hro.symm
 subst e
 rw [zA,wM]
 simp [writes,yO,zh,za,h]
theorem zBF (nd:Ins) (h:nd.Op=9) {rl:List Int} (hro:ze nd.Op=some rl) (ts:List Int):zA nd rl ts=writes nd ts:=by
 have e:rl=[1,10,0,0]:=by
  have:ze 9=some [1,10,0,0]:=by decide +kernel
  rw [h,this] at hro;injection hro with hro;exact hro.symm
 subst e
 rw [zA,wM]
 simp [writes,yO,zh,za,h]
theorem zAh (nd:Ins) (h:nd.Op=10) {rl:List Int} (hro:ze nd.Op=some rl) (ts:List Int):zA nd rl ts=writes nd ts:=by
 have e:rl=[10,2,0,0]:=by
  have:ze 10=some [10,2,0,0]:=by decide +kernel
  rw [h,this] at hro;injection hro with hro;exact hro.symm
 subst e
 rw [zA,wM]
 simp [writes,yO,zh,za,h]
theorem zAi (nd:Ins) (h:nd.Op=11) {rl:List Int} (hro:ze nd.Op=some rl) (ts:List Int):zA nd rl ts=writes nd ts:=by
 have e:rl=[1,11,0,0]:=by
  have:ze 11=some [1,11,0,0]:=by decide +kernel
  rw [h,this] at hro;injection hro with hro;exact hro.symm
 subst e
 rw [zA,wM]
 simp [writes,yO,zh,za,h]
theorem zAj (nd:Ins) (h:nd.Op=12) {rl:List Int} (hro:ze nd.Op=some rl) (ts:List Int):zA nd rl ts=writes nd ts:=by
 have e:rl=[1,0,0,0]:=by
  have:ze 12=some [1,0,0,0]:=by decide +kernel
  rw [h,this] at hro;injection hro with hro;exact hro.symm
 subst e
 rw [zA,wM]
 simp [writes,yO,zh,za,h]
theorem zAk (nd:Ins) (h:nd.Op=13) {rl:List Int} (hro:ze nd.Op=some rl) (ts:List Int):zA nd rl ts=writes nd ts:=by
 have e:rl=[4,2,2,0]:=by
  have:ze 13=some [4,2,2,0]:=by decide +kernel
  rw [h,this] at hro;injection hro with hro;exact hro.symm
 subst e
 rw [zA,wM]
 simp [writes,yO,zh,za,h]
theorem zAl (nd:Ins) (h:nd.Op=14) {rl:List Int} (hro:ze nd.Op=some rl) (ts:List Int):zA nd rl ts=writes nd ts:=by
 have e:rl=[4,2,3,0]:=by
  have:ze 14=some [4,2,3,0]:=by decide +kernel
  rw [h,this] at hro;injection hro with hro;exact hro.symm
 subst e
 rw [zA,wM]
 simp [writes,yO,zh,za,h]
theorem zAm (nd:Ins) (h:nd.Op=15) {rl:List Int} (hro:ze nd.Op=some rl) (ts:List Int):zA nd rl ts=writes nd ts:=by
 have e:rl=[1,2,2,0]:=by
  have:ze 15=some [1,2,2,0]:=by decide +kernel
  rw [h,this] at hro;injection hro with hro;exact hro.symm
 subst e
 rw [zA,wM]
 simp [writes,yO,zh,za,h]
theorem zAn (nd:Ins) (h:nd.Op=16) {rl:List Int} (hro:ze nd.Op=some rl) (ts:List Int):zA nd rl ts=writes nd ts:=by
 have e:rl=[2,2,2,0]:=by
  have:ze 16=some [2,2,2,0]:=by decide +kernel
  rw [h,this] at hro;injection hro with hro;exact hro.symm
 subst e
 rw [zA,wM]
 simp [writes,yO,zh,za,h]
theorem zAo (nd:Ins) (h:nd.Op=17) {rl:List Int} (hro:ze nd.Op=some rl) (ts:List Int):zA nd rl ts=writes nd ts:=by
 have e:rl=[1,14,2,0]:=by
  have:ze 17=some [1,14,2,0]:=by decide +kernel
  rw [h,this] at hro;injection hro with hro;exact hro.symm
 subst e
 rw [zA,wM]
 simp [writes,yO,zh,za,h]
theorem zAp (nd:Ins) (h:nd.Op=18) {rl:List Int} (hro:ze nd.Op=some rl) (ts:List Int):zA nd rl ts=writes nd ts:=by
 have e:rl=[1,13,2,2]:=by
  have:ze 18=some [1,13,2,2]:=by decide +kernel
  rw [h,this] at hro;injection hro with hro;exact hro.symm
 subst e
 rw [zA,wM]
 simp [writes,yO,zh,za,h]
theorem zAq (nd:Ins) (h:nd.Op=19) {rl:List Int} (hro:ze nd.Op=some rl) (ts:List Int):zA nd rl ts=writes nd ts:=by
 have e:rl=[12,0,0,0]:=by
  have:ze 19=some [12,0,0,0]:=by decide +kernel
  rw [h,this] at hro;injection hro with hro;exact hro.symm
 subst e
 rw [zA,wM]
 simp [writes,yO,zh,za,h]
theorem zAr (nd:Ins) (h:nd.Op=20) {rl:List Int} (hro:ze nd.Op=some rl) (ts:List Int):zA nd rl ts=writes nd ts:=by
 have e:rl=[2,12,0,0]:=by
  have:ze 20=some [2,12,0,0]:=by decide +kernel
  rw [h,this] at hro;injection hro with hro;exact hro.symm
 subst e
 rw [zA,wM]
 simp [writes,yO,zh,za,h]
theorem zAs (nd:Ins) (h:nd.Op=21) {rl:List Int} (hro:ze nd.Op=some rl) (ts:List Int):zA nd rl ts=writes nd ts:=by
 have e:rl=[2,12,0,0]:=by
  have:ze 21=some [2,12,0,0]:=by decide +kernel
  rw [h,this] at hro;injection hro with hro;exact hro.symm
 subst e
 rw [zA,wM]
 simp [writes,yO,zh,za,h]
theorem zAt (nd:Ins) (h:nd.Op=22) {rl:List Int} (hro:ze nd.Op=some rl) (ts:List Int):zA nd rl ts=writes nd ts:=by
 have e:rl=[1,0,0,0]:=by
  have:ze 22=some [1,0,0,0]:=by decide +kernel
  rw [h,this] at hro;injection hro with hro;exact hro.symm
 subst e
 rw [zA,wM]
 simp [writes,yO,zh,za,h]
theorem zAu (nd:Ins) (h:nd.Op=23) {rl:List Int} (hro:ze nd.Op=some rl) (ts:List Int):zA nd rl ts=writes nd ts:=by
 have e:rl=[6,2,0,0]:=by
  have:ze 23=some [6,2,0,0]:=by decide +kernel
  rw [h,this] at hro;injection hro with hro;exact hro.symm
 subst e
 rw [zA,wM]
 simp [writes,yO,zh,za,h]
theorem zAv (nd:Ins) (h:nd.Op=24) {rl:List Int} (hro:ze nd.Op=some rl) (ts:List Int):zA nd rl ts=writes nd ts:=by
 have e:rl=[6,3,0,0]:=by
  have:ze 24=some [6,3,0,0]:=by decide +kernel
  rw [h,this] at hro;injection hro with hro;exact hro.symm
 subst e
 rw [zA,wM]
 simp [writes,yO,zh,za,h]
theorem zAw (nd:Ins) (h:nd.Op=25) {rl:List Int} (hro:ze nd.Op=some rl) (ts:List Int):zA nd rl ts=writes nd ts:=by
 have e:rl=[1,3,0,0]:=by
  have:ze 25=some [1,3,0,0]:=by decide +kernel
  rw [h,this] at hro;injection hro with hro;exact hro.symm
 subst e
 rw [zA,wM]
 simp [writes,yO,zh,za,h]
theorem zAx (nd:Ins) (h:nd.Op=26) {rl:List Int} (hro:ze nd.Op=some rl) (ts:List Int):zA nd rl ts=writes nd ts:=by
 have e:rl=[1,6,15,0]:=by
  have:ze 26=some [1,6,15,0]:=by decide +kernel
  rw [h,this] at hro;injection hro with hro;exact hro.symm
 subst e
 rw [zA,wM]
 simp [writes,yO,zh,za,h]
theorem zAy (nd:Ins) (h:nd.Op=27) {rl:List Int} (hro:ze nd.Op=some rl) (ts:List Int):zA nd rl ts=writes nd ts:=by
 have e:rl=[1,6,0,0]:=by
  have:ze 27=some [1,6,0,0]:=by decide +kernel
  rw [h,this] at hro;injection hro with hro;exact hro.symm
 subst e
 rw [zA,wM]
 simp [writes,yO,zh,za,h]
theorem zAz (nd:Ins) (h:nd.Op=28) {rl:List Int} (hro:ze nd.Op=some rl) (ts:List Int):zA nd rl ts=writes nd ts:=by
 have e:rl=[1,2,3,0]:=by
  have:ze 28=some [1,2,3,0]:=by decide +kernel
  rw [h,this] at hro;injection hro with hro;exact hro.symm
 subst e
 rw [zA,wM]
 simp [writes,yO,zh,za,h]
theorem zAA (nd:Ins) (h:nd.Op=29) {rl:List Int} (hro:ze nd.Op=some rl) (ts:List Int):zA nd rl ts=writes nd ts:=by
 have e:rl=[3,0,0,0]:=by
  have:ze 29=some [3,0,0,0]:=by decide +kernel
  rw [h,this] at hro;injection hro with hro;exact hro.symm
 subst e
 rw [zA,wM]
 simp [writes,yO,zh,za,h]
theorem zAB (nd:Ins) (h:nd.Op=30) {rl:List Int} (hro:ze nd.Op=some rl) (ts:List Int):zA nd rl ts=writes nd ts:=by
 have e:rl=[2,0,0,0]:=by
  have:ze 30=some [2,0,0,0]:=by decide +kernel
  rw [h,this] at hro;injection hro with hro;exact hro.symm
 subst e
 rw [zA,wM]
 simp [writes,yO,zh,za,h]
theorem zAC (nd:Ins) (h:nd.Op=31) {rl:List Int} (hro:ze nd.Op=some rl) (ts:List Int):zA nd rl ts=writes nd ts:=by
 have e:rl=[12,17,0,0]:=by
  have:ze 31=some [12,17,0,0]:=by decide +kernel
  rw [h,this] at hro;injection hro with hro;exact hro.symm
 subst e
 rw [zA,wM]
 simp [writes,yO,zh,za,h]
theorem zAD (nd:Ins) (h:nd.Op=32) {rl:List Int} (hro:ze nd.Op=some rl) (ts:List Int):zA nd rl ts=writes nd ts:=by
 have e:rl=[0,0,0,0]:=by
  have:ze 32=some [0,0,0,0]:=by decide +kernel
  rw [h,this] at hro;injection hro with hro;exact hro.symm
 subst e
 rw [zA,wM]
 simp [writes,yO,zh,za,h]
theorem zAE (nd:Ins) (h:nd.Op=33) {rl:List Int} (hro:ze nd.Op=some rl) (ts:List Int):zA nd rl ts=writes nd ts:=by
 have e:rl=[16,0,0,0]:=by
  have:ze 33=some [16,0,0,0]:=by decide +kernel
  rw [h,this] at hro;injection hro with hro;exact hro.symm
 subst e
 rw [zA,wM]
 simp [writes,yO,zh,za,h]
theorem zAF (nd:Ins) (h:nd.Op=34) {rl:List Int} (hro:ze nd.Op=some rl) (ts:List Int):zA nd rl ts=writes nd ts:=by
 have e:rl=[16,0,0,0]:=by
  have:ze 34=some [16,0,0,0]:=by decide +kernel
  rw [h,this] at hro;injection hro with hro;exact hro.symm
 subst e
 rw [zA,wM]
 simp [writes,yO,zh,za,h]
theorem zAG (nd:Ins) (h:nd.Op=35) {rl:List Int} (hro:ze nd.Op=some rl) (ts:List Int):zA nd rl ts=writes nd ts:=by
 have e:rl=[2,3,0,0]:=by
  have:ze 35=some [2,3,0,0]:=by decide +kernel
  rw [h,this] at hro;injection hro with hro;exact hro.symm
 subst e
 rw [zA,wM]
 simp [writes,yO,zh,za,h]
theorem zAH (nd:Ins) (h:nd.Op=36) {rl:List Int} (hro:ze nd.Op=some rl) (ts:List Int):zA nd rl ts=writes nd ts:=by
 have e:rl=[0,0,0,0]:=by
  have:ze 36=some [0,0,0,0]:=by decide +kernel
  rw [h,this] at hro;injection hro with hro;exact hro.symm
 subst e
 rw [zA,wM]
 simp [writes,yO,zh,za,h]
theorem zAI (nd:Ins) (h:nd.Op=37) {rl:List Int} (hro:ze nd.Op=some rl) (ts:List Int):zA nd rl ts=writes nd ts:=by
 have e:rl=[18,0,0,0]:=by
  have:ze 37=some [18,0,0,0]:=by decide +kernel
  rw [h,this] at hro;injection hro with hro;exact hro.symm
 subst e
 rw [zA,wM]
 simp [writes,yO,zh,za,h]
theorem zAJ (nd:Ins) (h:nd.Op=38) {rl:List Int} (hro:ze nd.Op=some rl) (ts:List Int):zA nd rl ts=writes nd ts:=by
 have e:rl=[18,12,0,0]:=by
  have:ze 38=some [18,12,0,0]:=by decide +kernel
  rw [h,this] at hro;injection hro with hro;exact hro.symm
 subst e
 rw [zA,wM]
 simp [writes,yO,zh,za,h]
theorem zAK (nd:Ins) (h:nd.Op=39) {rl:List Int} (hro:ze nd.Op=some rl) (ts:List Int):zA nd rl ts=writes nd ts:=by
 have e:rl=[18,12,0,0]:=by
  have:ze 39=some [18,12,0,0]:=by decide +kernel
  rw [h,this] at hro;injection hro with hro;exact hro.symm
 subst e
 rw [zA,wM]
 simp [writes,yO,zh,za,h]
theorem zAL (nd:Ins) (h:nd.Op=40) {rl:List Int} (hro:ze nd.Op=some rl) (ts:List Int):zA nd rl ts=writes nd ts:=by
 have e:rl=[19,0,0,0]:=by
  have:ze 40=some [19,0,0,0]:=by decide +kernel
  rw [h,this] at hro;injection hro with hro;exact hro.symm
 subst e
 rw [zA,wM]
 simp [writes,yO,zh,za,h]
theorem zAM (nd:Ins) (h:nd.Op=41) {rl:List Int} (hro:ze nd.Op=some rl) (ts:List Int):zA nd rl ts=writes nd ts:=by
 have e:rl=[20,12,1,0]:=by
  have:ze 41=some [20,12,1,0]:=by decide +kernel
  rw [h,this] at hro;injection hro with hro;exact hro.symm
 subst e
 rw [zA,wM]
 simp [writes,yO,zh,za,h]
theorem zAN (nd:Ins) (h:nd.Op=42) {rl:List Int} (hro:ze nd.Op=some rl) (ts:List Int):zA nd rl ts=writes nd ts:=by
 have e:rl=[1,0,0,0]:=by
  have:ze 42=some [1,0,0,0]:=by decide +kernel
  rw [h,this] at hro;injection hro with hro;exact hro.symm
 subst e
 rw [zA,wM]
 simp [writes,yO,zh,za,h]
theorem zfm (nd:Ins) {l:List Int} (hs:zh nd.Op=some l) {rl:List Int} (hro:ze nd.Op=some rl) (ts:List Int):zA nd rl ts=writes nd ts:=by
 by_cases h1:nd.Op=1
 ·exact zBx nd h1 hro ts
 by_cases h2:nd.Op=2
 ·exact zBy nd h2 hro ts
 by_cases h3:nd.Op=3
 ·exact zBz nd h3 hro ts
 by_cases h4:nd.Op=4
 ·exact zBA nd h4 hro ts
 by_cases h5:nd.Op=5
 ·exact zBB nd h5 hro ts
 by_cases h6:nd.Op=6
 ·exact zBC nd h6 hro ts
 by_cases h7:nd.Op=7
 ·exact zBD nd h7 hro ts
 by_cases h8:nd.Op=8
 ·exact zBE nd h8 hro ts
 by_cases h9:nd.Op=9
 ·exact zBF nd h9 hro ts
 by_cases h10:nd.Op=10
 ·exact zAh nd h10 hro ts
 by_cases h11:nd.Op=11
 ·exact zAi nd h11 hro ts
 by_cases h12:nd.Op=12
 ·exact zAj nd h12 hro ts
 by_cases h13:nd.Op=13
 ·exact zAk nd h13 hro ts
 by_cases h14:nd.Op=14
 ·exact zAl nd h14 hro ts
 by_cases h15:nd.Op=15
 ·exact zAm nd h15 hro ts
 by_cases h16:nd.Op=16
 ·exact zAn nd h16 hro ts
 by_cases h17:nd.Op=17
 ·exact zAo nd h17 hro ts
 by_cases h18:nd.Op=18
 ·exact zAp nd h18 hro ts
 by_cases h19:nd.Op=19
 ·exact zAq nd h19 hro ts
 by_cases h20:nd.Op=20
 ·exact zAr nd h20 hro ts
 by_cases h21:nd.Op=21
 ·exact zAs nd h21 hro ts
 by_cases h22:nd.Op=22
 ·exact zAt nd h22 hro ts
 by_cases h23:nd.Op=23
 ·exact zAu nd h23 hro ts
 by_cases h24:nd.Op=24
 ·exact zAv nd h24 hro ts
 by_cases h25:nd.Op=25
 ·exact zAw nd h25 hro ts
 by_cases h26:nd.Op=26
 ·exact zAx nd h26 hro ts
 by_cases h27:nd.Op=27
 ·exact zAy nd h27 hro ts
 by_cases h28:nd.Op=28
 ·exact zAz nd h28 hro ts
 by_cases h29:nd.Op=29
 ·exact zAA nd h29 hro ts
 by_cases h30:nd.Op=30
 ·exact zAB nd h30 hro ts
 by_cases h31:nd.Op=31
 ·exact zAC nd h31 hro ts
 by_cases h32:nd.Op=32
 ·exact zAD nd h32 hro ts
 by_cases h33:nd.Op=33
 ·exact zAE nd h33 hro ts
 by_cases h34:nd.Op=34
 ·exact zAF nd h34 hro ts
 by_cases h35:nd.Op=35
 ·exact zAG nd h35 hro ts
 by_cases h36:nd.Op=36
 ·exact zAH nd h36 hro ts
 by_cases h37:nd.Op=37
 ·exact zAI nd h37 hro ts
 by_cases h38:nd.Op=38
 ·exact zAJ nd h38 hro ts
 by_cases h39:nd.Op=39
 ·exact zAK nd h39 hro ts
 by_cases h40:nd.Op=40
 ·exact zAL nd h40 hro ts
 by_cases h41:nd.Op=41
 ·exact zAM nd h41 hro ts
 by_cases h42:nd.Op=42
 ·exact zAN nd h42 hro ts
 exfalso
 simp [zh,h1,h2,h3,h4,h5,h6,h7,h8,h9,h10,h11,h12,h13,h14,h15,h16,h17,h18,h19,h20,h21,h22,h23,h24,h25,h26,h27,h28,h29,h30,h31,h32,h33,h34,h35,h36,h37,h38,h39,h40,h41,h42] at hs
theorem zBd {o:Int} (h:o=1) {rl:List Int} (hro:ze o=some rl) {k:Int} (k0:0≤k) (k1:k<4) (hk:za rl k=11):o=11∧k=1:=by
 have e:rl=[7,0,0,0]:=by
  have:ze 1=some [7,0,0,0]:=by decide +kernel
  rw [h,this] at hro;injection hro with hro;exact hro.symm
 subst e
 rcases (show k=0∨k=1∨k=2∨k=3 by omega) with rfl|rfl|rfl|rfl<;>simp [za] at hk
theorem zBe {o:Int} (h:o=2) {rl:List Int} (hro:ze o=some rl) {k:Int} (k0:0≤k) (k1:k<4) (hk:za rl k=11):o=11∧k=1:=by
 have e:rl=[8,0,0,0]:=by
  have:ze 2=some [8,0,0,0]:=by decide +kernel
  rw [h,this] at hro;injection hro with hro;exact hro.symm
 subst e
 rcases (show k=0∨k=1∨k=2∨k=3 by omega) with rfl|rfl|rfl|rfl<;>simp [za] at hk
theorem zBf {o:Int} (h:o=3) {rl:List Int} (hro:ze o=some rl) {k:Int} (k0:0≤k) (k1:k<4) (hk:za rl k=11):o=11∧k=1:=by
 have e:rl=[0,0,0,0]:=by
  have:ze 3=some [0,0,0,0]:=by decide +kernel
  rw [h,this] at hro;injection hro with hro;exact hro.symm
 subst e
 rcases (show k=0∨k=1∨k=2∨k=3 by omega) with rfl|rfl|rfl|rfl<;>simp [za] at hk
theorem zBg {o:Int} (h:o=4) {rl:List Int} (hro:ze o=some rl) {k:Int} (k0:0≤k) (k1:k<4) (hk:za rl k=11):o=11∧k=1:=by
 have e:rl=[1,9,0,0]:=by
  have:ze 4=some [1,9,0,0]:=by decide +kernel
  rw [h,this] at hro;injection hro with hro;exact hro.symm
 subst e
 rcases (show k=0∨k=1∨k=2∨k=3 by omega) with rfl|rfl|rfl|rfl<;>simp [za] at hk
theorem zBh {o:Int} (h:o=5) {rl:List Int} (hro:ze o=some rl) {k:Int} (k0:0≤k) (k1:k<4) (hk:za rl k=11):o=11∧k=1:=by
 have e:rl=[1,2,0,0]:=by
  have:ze 5=some [1,2,0,0]:=by decide +kernel
  rw [h,this] at hro;injection hro with hro;exact hro.symm
 subst e
 rcases (show k=0∨k=1∨k=2∨k=3 by omega) with rfl|rfl|rfl|rfl<;>simp [za] at hk
theorem zBi {o:Int} (h:o=6) {rl:List Int} (hro:ze o=some rl) {k:Int} (k0:0≤k) (k1:k<4) (hk:za rl k=11):o=11∧k=1:=by
 have e:rl=[1,2,0,0]:=by
  have:ze 6=some [1,2,0,0]:=by decide +kernel
  rw [h,this] at hro;injection hro with hro;exact hro.symm
 subst e
 rcases (show k=0∨k=1∨k=2∨k=3 by omega) with rfl|rfl|rfl|rfl<;>simp [za] at hk
theorem zBj {o:Int} (h:o=7) {rl:List Int} (hro:ze o=some rl) {k:Int} (k0:0≤k) (k1:k<4) (hk:za rl k=11):o=11∧k=1:=by
 have e:rl=[1,5,0,0]:=by
  have:ze 7=some [1,5,0,0]:=by decide +kernel
  rw [h,this] at hro;injection hro with hro;exact hro.symm
 subst e
 rcases (show k=0∨k=1∨k=2∨k=3 by omega) with rfl|rfl|rfl|rfl<;>simp [za] at hk
theorem zBk {o:Int} (h:o=8) {rl:List Int} (hro:ze o=some rl) {k:Int} (k0:0≤k) (k1:k<4) (hk:za rl k=11):o=11∧k=1:=by
 have e:rl=[5,2,0,0]:=by
  have:ze 8=some [5,2,0,0]:=by decide +kernel
  rw [h,this] at hro;injection hro with hro;exact hro.symm
 subst e
 rcases (show k=0∨k=1∨k=2∨k=3 by omega) with rfl|rfl|rfl|rfl<;>simp [za] at hk
theorem zBl {o:Int} (h:o=9) {rl:List Int} (hro:ze o=some rl) {k:Int} (k0:0≤k) (k1:k<4) (hk:za rl k=11):o=11∧k=1:=by
 have e:rl=[1,10,0,0]:=by
  have:ze 9=some [1,10,0,0]:=by decide +kernel
  rw [h,this] at hro;injection hro with hro;exact hro.symm
 subst e
 rcases (show k=0∨k=1∨k=2∨k=3 by omega) with rfl|rfl|rfl|rfl<;>simp [za] at hk
theorem zzz {o:Int} (h:o=10) {rl:List Int} (hro:ze o=some rl) {k:Int} (k0:0≤k) (k1:k<4) (hk:za rl k=11):o=11∧k=1:=by
 have e:rl=[10,2,0,0]:=by
  have:ze 10=some [10,2,0,0]:=by decide +kernel
  rw [h,this] at hro;injection hro with hro;exact hro.symm
 subst e
 rcases (show k=0∨k=1∨k=2∨k=3 by omega) with rfl|rfl|rfl|rfl<;>simp [za] at hk
theorem zzA {o:Int} (h:o=11) {rl:List Int} (hro:ze o=some rl) {k:Int} (k0:0≤k) (k1:k<4) (hk:za rl k=11):o=11∧k=1:=by
 have e:rl=[1,11,0,0]:=by
  have:ze 11=some [1,11,0,0]:=by decide +kernel
  rw [h,this] at hro;injection hro with hro;exact hro.symm
 subst e
 rcases (show k=0∨k=1∨k=2∨k=3 by omega) with rfl|rfl|rfl|rfl
 ·simp [za] at hk
 ·exact ⟨h,rfl⟩
 ·simp [za] at hk
 ·simp [za] at hk
theorem zzB {o:Int} (h:o=12) {rl:List Int} (hro:ze o=some rl) {k:Int} (k0:0≤k) (k1:k<4) (hk:za rl k=11):o=11∧k=1:=by
 have e:rl=[1,0,0,0]:=by
  have:ze 12=some [1,0,0,0]:=by decide +kernel
  rw [h,this] at hro;injection hro with hro;exact hro.symm
 subst e
 rcases (show k=0∨k=1∨k=2∨k=3 by omega) with rfl|rfl|rfl|rfl<;>simp [za] at hk
theorem zzC {o:Int} (h:o=13) {rl:List Int} (hro:ze o=some rl) {k:Int} (k0:0≤k) (k1:k<4) (hk:za rl k=11):o=11∧k=1:=by
 have e:rl=[4,2,2,0]:=by
  have:ze 13=some [4,2,2,0]:=by decide +kernel
  rw [h,this] at hro;injection hro with hro;exact hro.symm
 subst e
 rcases (show k=0∨k=1∨k=2∨k=3 by omega) with rfl|rfl|rfl|rfl<;>simp [za] at hk
theorem zzD {o:Int} (h:o=14) {rl:List Int} (hro:ze o=some rl) {k:Int} (k0:0≤k) (k1:k<4) (hk:za rl k=11):o=11∧k=1:=by
 have e:rl=[4,2,3,0]:=by
  have:ze 14=some [4,2,3,0]:=by decide +kernel
  rw [h,this] at hro;injection hro with hro;exact hro.symm
 subst e
 rcases (show k=0∨k=1∨k=2∨k=3 by omega) with rfl|rfl|rfl|rfl<;>simp [za] at hk
theorem zzE {o:Int} (h:o=15) {rl:List Int} (hro:ze o=some rl) {k:Int} (k0:0≤k) (k1:k<4) (hk:za rl k=11):o=11∧k=1:=by
 have e:rl=[1,2,2,0]:=by
  have:ze 15=some [1,2,2,0]:=by decide +kernel
  rw [h,this] at hro;injection hro with hro;exact hro.symm
 subst e
 rcases (show k=0∨k=1∨k=2∨k=3 by omega) with rfl|rfl|rfl|rfl<;>simp [za] at hk
theorem zzF {o:Int} (h:o=16) {rl:List Int} (hro:ze o=some rl) {k:Int} (k0:0≤k) (k1:k<4) (hk:za rl k=11):o=11∧k=1:=by
 have e:rl=[2,2,2,0]:=by
  have:ze 16=some [2,2,2,0]:=by decide +kernel
  rw [h,this] at hro;injection hro with hro;exact hro.symm
 subst e
 rcases (show k=0∨k=1∨k=2∨k=3 by omega) with rfl|rfl|rfl|rfl<;>simp [za] at hk
theorem zzG {o:Int} (h:o=17) {rl:List Int} (hro:ze o=some rl) {k:Int} (k0:0≤k) (k1:k<4) (hk:za rl k=11):o=11∧k=1:=by
 have e:rl=[1,14,2,0]:=by
  have:ze 17=some [1,14,2,0]:=by decide +kernel
  rw [h,this] at hro;injection hro with hro;exact hro.symm
 subst e
 rcases (show k=0∨k=1∨k=2∨k=3 by omega) with rfl|rfl|rfl|rfl<;>simp [za] at hk
theorem zzH {o:Int} (h:o=18) {rl:List Int} (hro:ze o=some rl) {k:Int} (k0:0≤k) (k1:k<4) (hk:za rl k=11):o=11∧k=1:=by
 have e:rl=[1,13,2,2]:=by
  have:ze 18=some [1,13,2,2]:=by decide +kernel
  rw [h,this] at hro;injection hro with hro;exact hro.symm
 subst e
 rcases (show k=0∨k=1∨k=2∨k=3 by omega) with rfl|rfl|rfl|rfl<;>simp [za] at hk
theorem zzI {o:Int} (h:o=19) {rl:List Int} (hro:ze o=some rl) {k:Int} (k0:0≤k) (k1:k<4) (hk:za rl k=11):o=11∧k=1:=by
 have e:rl=[12,0,0,0]:=by
  have:ze 19=some [12,0,0,0]:=by decide +kernel
  rw [h,this] at hro;injection hro with hro;exact hro.symm
 subst e
 rcases (show k=0∨k=1∨k=2∨k=3 by omega) with rfl|rfl|rfl|rfl<;>simp [za] at hk
theorem zzJ {o:Int} (h:o=20) {rl:List Int} (hro:ze o=some rl) {k:Int} (k0:0≤k) (k1:k<4) (hk:za rl k=11):o=11∧k=1:=by
 have e:rl=[2,12,0,0]:=by
  have:ze 20=some [2,12,0,0]:=by decide +kernel
  rw [h,this] at hro;injection hro with hro;exact hro.symm
 subst e
 rcases (show k=0∨k=1∨k=2∨k=3 by omega) with rfl|rfl|rfl|rfl<;>simp [za] at hk
theorem zzK {o:Int} (h:o=21) {rl:List Int} (hro:ze o=some rl) {k:Int} (k0:0≤k) (k1:k<4) (hk:za rl k=11):o=11∧k=1:=by
 have e:rl=[2,12,0,0]:=by
  have:ze 21=some [2,12,0,0]:=by decide +kernel
  rw [h,this] at hro;injection hro with hro;exact hro.symm
 subst e
 rcases (show k=0∨k=1∨k=2∨k=3 by omega) with rfl|rfl|rfl|rfl<;>simp [za] at hk
theorem zzL {o:Int} (h:o=22) {rl:List Int} (hro:ze o=some rl) {k:Int} (k0:0≤k) (k1:k<4) (hk:za rl k=11):o=11∧k=1:=by
 have e:rl=[1,0,0,0]:=by
  have:ze 22=some [1,0,0,0]:=by decide +kernel
  rw [h,this] at hro;injection hro with hro;exact hro.symm
 subst e
 rcases (show k=0∨k=1∨k=2∨k=3 by omega) with rfl|rfl|rfl|rfl<;>simp [za] at hk
theorem zzM {o:Int} (h:o=23) {rl:List Int} (hro:ze o=some rl) {k:Int} (k0:0≤k) (k1:k<4) (hk:za rl k=11):o=11∧k=1:=by
 have e:rl=[6,2,0,0]:=by
  have:ze 23=some [6,2,0,0]:=by decide +kernel
  rw [h,this] at hro;injection hro with hro;exact hro.symm
 subst e
 rcases (show k=0∨k=1∨k=2∨k=3 by omega) with rfl|rfl|rfl|rfl<;>simp [za] at hk
theorem zzN {o:Int} (h:o=24) {rl:List Int} (hro:ze o=some rl) {k:Int} (k0:0≤k) (k1:k<4) (hk:za rl k=11):o=11∧k=1:=by
 have e:rl=[6,3,0,0]:=by
  have:ze 24=some [6,3,0,0]:=by decide +kernel
  rw [h,this] at hro;injection hro with hro;exact hro.symm
 subst e
 rcases (show k=0∨k=1∨k=2∨k=3 by omega) with rfl|rfl|rfl|rfl<;>simp [za] at hk
theorem zzO {o:Int} (h:o=25) {rl:List Int} (hro:ze o=some rl) {k:Int} (k0:0≤k) (k1:k<4) (hk:za rl k=11):o=11∧k=1:=by
 have e:rl=[1,3,0,0]:=by
  have:ze 25=some [1,3,0,0]:=by decide +kernel
  rw [h,this] at hro;injection hro with hro;exact hro.symm
 subst e
 rcases (show k=0∨k=1∨k=2∨k=3 by omega) with rfl|rfl|rfl|rfl<;>simp [za] at hk
theorem zzP {o:Int} (h:o=26) {rl:List Int} (hro:ze o=some rl) {k:Int} (k0:0≤k) (k1:k<4) (hk:za rl k=11):o=11∧k=1:=by
 have e:rl=[1,6,15,0]:=by
  have:ze 26=some [1,6,15,0]:=by decide +kernel
  rw [h,this] at hro;injection hro with hro;exact hro.symm
 subst e
 rcases (show k=0∨k=1∨k=2∨k=3 by omega) with rfl|rfl|rfl|rfl<;>simp [za] at hk
theorem zzQ {o:Int} (h:o=27) {rl:List Int} (hro:ze o=some rl) {k:Int} (k0:0≤k) (k1:k<4) (hk:za rl k=11):o=11∧k=1:=by
 have e:rl=[1,6,0,0]:=by
  have:ze 27=some [1,6,0,0]:=by decide +kernel
  rw [h,this] at hro;injection hro with hro;exact hro.symm
 subst e
 rcases (show k=0∨k=1∨k=2∨k=3 by omega) with rfl|rfl|rfl|rfl<;>simp [za] at hk
theorem zzR {o:Int} (h:o=28) {rl:List Int} (hro:ze o=some rl) {k:Int} (k0:0≤k) (k1:k<4) (hk:za rl k=11):o=11∧k=1:=by
 have e:rl=[1,2,3,0]:=by
  have:ze 28=some [1,2,3,0]:=by decide +kernel
  rw [h,this] at hro;injection hro with hro;exact hro.symm
 subst e
 rcases (show k=0∨k=1∨k=2∨k=3 by omega) with rfl|rfl|rfl|rfl<;>simp [za] at hk
theorem zzS {o:Int} (h:o=29) {rl:List Int} (hro:ze o=some rl) {k:Int} (k0:0≤k) (k1:k<4) (hk:za rl k=11):o=11∧k=1:=by
 have e:rl=[3,0,0,0]:=by
  have:ze 29=some [3,0,0,0]:=by decide +kernel
  rw [h,this] at hro;injection hro with hro;exact hro.symm
 subst e
 rcases (show k=0∨k=1∨k=2∨k=3 by omega) with rfl|rfl|rfl|rfl<;>simp [za] at hk
theorem zzT {o:Int} (h:o=30) {rl:List Int} (hro:ze o=some rl) {k:Int} (k0:0≤k) (k1:k<4) (hk:za rl k=11):o=11∧k=1:=by
 have e:rl=[2,0,0,0]:=by
  have:ze 30=some [2,0,0,0]:=by decide +kernel
  rw [h,this] at hro;injection hro with hro;exact hro.symm
 subst e
 rcases (show k=0∨k=1∨k=2∨k=3 by omega) with rfl|rfl|rfl|rfl<;>simp [za] at hk
theorem zzU {o:Int} (h:o=31) {rl:List Int} (hro:ze o=some rl) {k:Int} (k0:0≤k) (k1:k<4) (hk:za rl k=11):o=11∧k=1:=by
 have e:rl=[12,17,0,0]:=by
  have:ze 31=some [12,17,0,0]:=by decide +kernel
  rw [h,this] at hro;injection hro with hro;exact hro.symm
 subst e
 rcases (show k=0∨k=1∨k=2∨k=3 by omega) with rfl|rfl|rfl|rfl<;>simp [za] at hk
theorem zzV {o:Int} (h:o=32) {rl:List Int} (hro:ze o=some rl) {k:Int} (k0:0≤k) (k1:k<4) (hk:za rl k=11):o=11∧k=1:=by
 have e:rl=[0,0,0,0]:=by
  have:ze 32=some [0,0,0,0]:=by decide +kernel
  rw [h,this] at hro;injection hro with hro;exact hro.symm
 subst e
 rcases (show k=0∨k=1∨k=2∨k=3 by omega) with rfl|rfl|rfl|rfl<;>simp [za] at hk
theorem zzW {o:Int} (h:o=33) {rl:List Int} (hro:ze o=some rl) {k:Int} (k0:0≤k) (k1:k<4) (hk:za rl k=11):o=11∧k=1:=by
 have e:rl=[16,0,0,0]:=by
  have:ze 33=some [16,0,0,0]:=by decide +kernel
  rw [h,this] at hro;injection hro with hro;exact hro.symm
 subst e
 rcases (show k=0∨k=1∨k=2∨k=3 by omega) with rfl|rfl|rfl|rfl<;>simp [za] at hk
theorem zzX {o:Int} (h:o=34) {rl:List Int} (hro:ze o=some rl) {k:Int} (k0:0≤k) (k1:k<4) (hk:za rl k=11):o=11∧k=1:=by
 have e:rl=[16,0,0,0]:=by
  have:ze 34=some [16,0,0,0]:=by decide +kernel
  rw [h,this] at hro;injection hro with hro;exact hro.symm
 subst e
 rcases (show k=0∨k=1∨k=2∨k=3 by omega) with rfl|rfl|rfl|rfl<;>simp [za] at hk
theorem zzY {o:Int} (h:o=35) {rl:List Int} (hro:ze o=some rl) {k:Int} (k0:0≤k) (k1:k<4) (hk:za rl k=11):o=11∧k=1:=by
 have e:rl=[2,3,0,0]:=by
  have:ze 35=some [2,3,0,0]:=by decide +kernel
  rw [h,this] at hro;injection hro with hro;exact hro.symm
 subst e
 rcases (show k=0∨k=1∨k=2∨k=3 by omega) with rfl|rfl|rfl|rfl<;>simp [za] at hk
theorem zzZ {o:Int} (h:o=36) {rl:List Int} (hro:ze o=some rl) {k:Int} (k0:0≤k) (k1:k<4) (hk:za rl k=11):o=11∧k=1:=by
 have e:rl=[0,0,0,0]:=by
  have:ze 36=some [0,0,0,0]:=by decide +kernel
  rw [h,this] at hro;injection hro with hro;exact hro.symm
 subst e
 rcases (show k=0∨k=1∨k=2∨k=3 by omega) with rfl|rfl|rfl|rfl<;>simp [za] at hk
theorem zz0 {o:Int} (h:o=37) {rl:List Int} (hro:ze o=some rl) {k:Int} (k0:0≤k) (k1:k<4) (hk:za rl k=11):o=11∧k=1:=by
 have e:rl=[18,0,0,0]:=by
  have:ze 37=some [18,0,0,0]:=by decide +kernel
  rw [h,this] at hro;injection hro with hro;exact hro.symm
 subst e
 rcases (show k=0∨k=1∨k=2∨k=3 by omega) with rfl|rfl|rfl|rfl<;>simp [za] at hk
theorem zz1 {o:Int} (h:o=38) {rl:List Int} (hro:ze o=some rl) {k:Int} (k0:0≤k) (k1:k<4) (hk:za rl k=11):o=11∧k=1:=by
 have e:rl=[18,12,0,0]:=by
  have:ze 38=some [18,12,0,0]:=by decide +kernel
  rw [h,this] at hro;injection hro with hro;exact hro.symm
 subst e
 rcases (show k=0∨k=1∨k=2∨k=3 by omega) with rfl|rfl|rfl|rfl<;>simp [za] at hk
theorem zz2 {o:Int} (h:o=39) {rl:List Int} (hro:ze o=some rl) {k:Int} (k0:0≤k) (k1:k<4) (hk:za rl k=11):o=11∧k=1:=by
 have e:rl=[18,12,0,0]:=by
  have:ze 39=some [18,12,0,0]:=by decide +kernel
  rw [h,this] at hro;injection hro with hro;exact hro.symm
 subst e
 rcases (show k=0∨k=1∨k=2∨k=3 by omega) with rfl|rfl|rfl|rfl<;>simp [za] at hk
theorem zz3 {o:Int} (h:o=40) {rl:List Int} (hro:ze o=some rl) {k:Int} (k0:0≤k) (k1:k<4) (hk:za rl k=11):o=11∧k=1:=by
 have e:rl=[19,0,0,0]:=by
  have:ze 40=some [19,0,0,0]:=by decide +kernel
  rw [h,this] at hro;injection hro with hro;exact hro.symm
 subst e
 rcases (show k=0∨k=1∨k=2∨k=3 by omega) with rfl|rfl|rfl|rfl<;>simp [za] at hk
theorem zz4 {o:Int} (h:o=41) {rl:List Int} (hro:ze o=some rl) {k:Int} (k0:0≤k) (k1:k<4) (hk:za rl k=11):o=11∧k=1:=by
 have e:rl=[20,12,1,0]:=by
  have:ze 41=some [20,12,1,0]:=by decide +kernel
  rw [h,this] at hro;injection hro with hro;exact hro.symm
 subst e
 rcases (show k=0∨k=1∨k=2∨k=3 by omega) with rfl|rfl|rfl|rfl<;>simp [za] at hk
theorem zz5 {o:Int} (h:o=42) {rl:List Int} (hro:ze o=some rl) {k:Int} (k0:0≤k) (k1:k<4) (hk:za rl k=11):o=11∧k=1:=by
 have e:rl=[1,0,0,0]:=by
  have:ze 42=some [1,0,0,0]:=by decide +kernel
  rw [h,this] at hro;injection hro with hro;exact hro.symm
 subst e
 rcases (show k=0∨k=1∨k=2∨k=3 by omega) with rfl|rfl|rfl|rfl<;>simp [za] at hk
theorem zuf {o:Int} {l:List Int} (hs:zh o=some l) {rl:List Int} (hro:ze o=some rl) {k:Int} (k0:0≤k) (k1:k<4) (hk:za rl k=11):o=11∧k=1:=by
 by_cases h1:o=1
 ·exact zBd h1 hro k0 k1 hk
 by_cases h2:o=2
 ·exact zBe h2 hro k0 k1 hk
 by_cases h3:o=3
 ·exact zBf h3 hro k0 k1 hk
 by_cases h4:o=4
 ·exact zBg h4 hro k0 k1 hk
 by_cases h5:o=5
 ·exact zBh h5 hro k0 k1 hk
 by_cases h6:o=6
 ·exact zBi h6 hro k0 k1 hk
 by_cases h7:o=7
 ·exact zBj h7 hro k0 k1 hk
 by_cases h8:o=8
 ·exact zBk h8 hro k0 k1 hk
 by_cases h9:o=9
 ·exact zBl h9 hro k0 k1 hk
 by_cases h10:o=10
 ·exact zzz h10 hro k0 k1 hk
 by_cases h11:o=11
 ·exact zzA h11 hro k0 k1 hk
 by_cases h12:o=12
 ·exact zzB h12 hro k0 k1 hk
 by_cases h13:o=13
 ·exact zzC h13 hro k0 k1 hk
 by_cases h14:o=14
 ·exact zzD h14 hro k0 k1 hk
 by_cases h15:o=15
 ·exact zzE h15 hro k0 k1 hk
 by_cases h16:o=16
 ·exact zzF h16 hro k0 k1 hk
 by_cases h17:o=17
 ·exact zzG h17 hro k0 k1 hk
 by_cases h18:o=18
 ·exact zzH h18 hro k0 k1 hk
 by_cases h19:o=19
 ·exact zzI h19 hro k0 k1 hk
 by_cases h20:o=20
 ·exact zzJ h20 hro k0 k1 hk
 by_cases h21:o=21
 ·exact zzK h21 hro k0 k1 hk
 by_cases h22:o=22
 ·exact zzL h22 hro k0 k1 hk
 by_cases h23:o=23
 ·exact zzM h23 hro k0 k1 hk
 by_cases h24:o=24
 ·exact zzN h24 hro k0 k1 hk
 by_cases h25:o=25
 ·exact zzO h25 hro k0 k1 hk
 by_cases h26:o=26
 ·exact zzP h26 hro k0 k1 hk
 by_cases h27:o=27
 ·exact zzQ h27 hro k0 k1 hk
 by_cases h28:o=28
 ·exact zzR h28 hro k0 k1 hk
 by_cases h29:o=29
 ·exact zzS h29 hro k0 k1 hk
 by_cases h30:o=30
 ·exact zzT h30 hro k0 k1 hk
 by_cases h31:o=31
 ·exact zzU h31 hro k0 k1 hk
 by_cases h32:o=32
 ·exact zzV h32 hro k0 k1 hk
 by_cases h33:o=33
 ·exact zzW h33 hro k0 k1 hk
 by_cases h34:o=34
 ·exact zzX h34 hro k0 k1 hk
 by_cases h35:o=35
 ·exact zzY h35 hro k0 k1 hk
 by_cases h36:o=36
 ·exact zzZ h36 hro k0 k1 hk
 by_cases h37:o=37
 ·exact zz0 h37 hro k0 k1 hk
 by_cases h38:o=38
 ·exact zz1 h38 hro k0 k1 hk
 by_cases h39:o=39
 ·exact zz2 h39 hro k0 k1 hk
 by_cases h40:o=40
 ·exact zz3 h40 hro k0 k1 hk
 by_cases h41:o=41
 ·exact zz4 h41 hro k0 k1 hk
 by_cases h42:o=42
 ·exact zz5 h42 hro k0 k1 hk
 exfalso
 simp [zh,h1,h2,h3,h4,h5,h6,h7,h8,h9,h10,h11,h12,h13,h14,h15,h16,h17,h18,h19,h20,h21,h22,h23,h24,h25,h26,h27,h28,h29,h30,h31,h32,h33,h34,h35,h36,h37,h38,h39,h40,h41,h42] at hs
end Go.Proofs.Tryd.Av
end
section
attribute [local congr] ite_congr
set_option maxRecDepth 10000
set_option maxHeartbeats 4000000
namespace Go.Proofs.Tryd.Av
open Go Go.Av Classical
section
theorem zk9 {l:List Int} {i:Nat} {x:Int} (h:l[i]?=some x):l.set i x=l:=by
 have hi:=(List.getElem?_eq_some_iff.1 h).1
 refine List.ext_getElem? fun j=>?_
 by_cases e:i=j
 ·subst e;rw [List.getElem?_set_self hi,h]
 ·rw [List.getElem?_set_ne e]
theorem zat {ps:List zc} {rs fs:List Int} {k:Int} {a b:List Int×List Int} (h:wY ps rs fs k a=some b) (n2:¬za rs k=2) (n3:¬za rs k=3):b=a:=by
 unfold wY at h
 rw [if_neg (by simp [n2,n3])] at h
 split at h
 ·split at h
  ·cases h
  ·cases h;rfl
 ·split at h
  ·cases h
  ·cases h;rfl
theorem ztJ {ps:List zc} {nd:Ins} {ts:List Int} {x:List Int×List Int} (h:Zq ps [20,12,1,0] nd ts=some x):x.1=ts:=by
 unfold Zq at h
 split at h
 ·cases h
 ·rename_i a h0
  split at h
  ·cases h
  ·rename_i b h1
   split at h
   ·cases h
   ·rename_i c h2
    rw [zat h (by simp [za]) (by simp [za]),zat h2 (by simp [za]) (by simp [za]),zat h1 (by simp [za]) (by simp [za]),zat h0 (by simp [za]) (by simp [za])]
theorem zwt {ps:List zc} {rs:List Int} {nd:Ins} {ts:List Int} {x:List Int×List Int} (h:Zq ps rs nd ts=some x):x.1.length=ts.length∧x.2.length≤4:=by
 unfold Zq at h
 split at h
 ·cases h
 ·rename_i a h0
  split at h
  ·cases h
  ·rename_i b h1
   split at h
   ·cases h
   ·rename_i c h2
    have k0:=QF h0
    have k1:=QF h1
    have k2:=QF h2
    have k3:=QF h
    simp only [List.length_nil] at k0
    omega
section
variable {ps:List zc} {f:zc} {p q tkp:PV} {gs':List Gd} {ts t2:List Int} {a:Int} {rl:List Int} {L n:Nat} {b:Bool} {K:zd} {ed:zV} {gp:PV}
theorem zBt {nd:Ins} {s:yr} (k:KG nd p q n s.Guards.length t2 ts s.Guards L K gp gs') (hn:t2.length=n) (hts:ts.length=n) (a0:0≤a) (a1:a<1048576) (t1:xU p s.Types) (tq:xF q s.Guards) (hbl:s.Types.length=n) (h1:n≤1048576) (h2:s.Guards.length≤1048576)
  (hed:∀ e∈ed,e.2<K.length) (h31:nd.Op=31→0≤nd.B∧nd.B+1<n) (h41:nd.Op=41→ts=s.Types∧t2=s.Types.set nd.C.toNat 3∧0≤nd.C∧nd.C<n∧gs'=s.Guards):
  zeX ps f p q tkp a rl L s.Guards.length b K ed nd.Op (wL nd a s t2 gs'):=by
 obtain ⟨o,A',B',C',D'⟩:=nd
 simp only at h31 h41 ⊢
 by_cases n29:o=29
 ·rw [show wL ⟨o,A',B',C',D'⟩ a s t2 gs'=[] by simp [wL,n29]];exact zmT k (.inl n29)
 by_cases n30:o=30
 ·rw [show wL ⟨o,A',B',C',D'⟩ a s t2 gs'=[] by simp [wL,n30]];exact zmT k (.inr n30)
 by_cases n19:o=19
 ·subst n19
  rw [show wL ⟨19,A',B',C',D'⟩ a s t2 gs'=[(A',⟨t2,gs'⟩)] by simp [wL]];exact zu4 k hn
 by_cases n20:o=20∨o=21∨o=38∨o=39
 ·rw [show wL ⟨o,A',B',C',D'⟩ a s t2 gs'=[(a+1,⟨t2,gs'⟩),(B',⟨t2,gs'⟩)] by simp [wL,n29,n30,n19,n20]];exact zxd k hn a0 a1 n20
 by_cases n41:o=41
 ·obtain ⟨e1,e2,c0,c1,e3⟩:=h41 n41
  subst n41
  have e:t2.set C'.toNat (za s.Types C')=ts:=by
   have:=wc (l:=s.Types) c0 (by omega)
   rw [e1,e2,List.set_set]
   exact zk9 this
  rw [show wL ⟨41,A',B',C',D'⟩ a s t2 gs'=[(a+1,⟨t2,gs'⟩),(B',⟨t2.set C'.toNat (za s.Types C'),gs'⟩)] by simp [wL],e]
  have:=zu3 (ps:=ps) (f:=f) (tkp:=tkp) (rl:=rl) (b:=b) (ed:=ed) k hn hts a0 a1
  rw [←e3] at this ⊢
  exact this
 by_cases n31:o=31
 ·obtain ⟨b0,b1⟩:=h31 n31
  subst n31
  obtain ⟨B,hB⟩:∃ B:Nat,B'=B:=⟨B'.toNat,by omega⟩
  have e:wL ⟨31,A',B',C',D'⟩ a s t2 gs'=[(a+1,⟨t2,gs'⟩),(A',⟨((jU s.Types B s.Types.length).set B 1).set (B+1) 1,s.Guards⟩)]:=by
   have h3:((B:Int)+1).toNat=B+1:=by omega
   simp [wL,hB,jU,h3]
  rw [e]
  subst hbl
  exact zxc (m:=0) k t1 tq h1 (by omega) hB hed h2 hn a0 a1
 have e:wL ⟨o,A',B',C',D'⟩ a s t2 gs'=[(a+1,⟨t2,gs'⟩)]:=by simp [wL,n29,n30,n19,n20,n41,n31]
 rw [e]
 simp only [not_or] at n20
 exact zu5 k hn a0 a1 n29 n30 n19 n20.1 n20.2.1 n20.2.2.1 n20.2.2.2 n41 n31
end
def zvA (x:Int ⊕ List (Int×yr)) (st:St):Prop:=match x with
 |.inl c=>st.per.get 8=.int .i64 c∧st.per.get 9=.nils
 |.inr l=>st.per.get 8=.int .i64 0∧Jv st.H (st.per.get 9) l
theorem zxe {ps:List zc} (hS:Shaped ps) {i:Int} (p0:0≤i) (p1:i<ps.length) {f:zc} (hf:za ps i=f) {a:Int} (a0:0≤a) (a1:a<f.Ins.length) {s:yr} (hs:Ky f s) {p q:PV} (t1:xU p s.Types) (t2:xF q s.Guards):
  ∃ st,EV A x_ ⟨zf_ ps f a p q,[],[],[]⟩=some (.ret,st)∧zvA (kF ps (za f.Ins a) a s) st:=by
 have hPO:=hS.fine.ok i p0 p1
 have hins:=hS.fine.ins i p0 p1 a a0 (by rw [hf];exact a1)
 have hN:=hPO.i
 have hR0:=hPO.r0
 have hR1:=hPO.r1
 have hst:=hs.t
 have hsg:=hs.g
 have hTl:(s.Types.length:Int)=(za ps i).Regs:=by rw [hf];exact hst
 obtain ⟨s0,s1,s2,s3,hso⟩:=zjP hins
 have hii:=((zhg ps i a hPO).1 hins).1
 have hups:=fun ho=>zsF (hS.ups i p0 p1 a a0 (by rw [hf];exact a1) ho) hTl
 have hsz:=hS.size
 simp only [hf] at hN hR0 hR1 hTl hso hii hups
 obtain ⟨nd,hnd⟩:∃ nd,za f.Ins a=nd:=⟨_,rfl⟩
 simp only [hnd] at hso hii hups ⊢
 rw [zjj] at hii
 cases hro:ze nd.Op with
 |none=>simp only [hro] at hii
 |some rl=>
 simp only [hro] at hii
 have hrl:=zh' _ _ hro
 have hfit:∀ k:Int,0≤k→k<4→xO ps.length f (za rl k) (za [nd.A,nd.B,nd.C,nd.D] k):=fun k k0 k1=>Classical.byContradiction fun hc=>y7.1 hii k k0 k1 hc
 have g:zdh ps f nd p q rl s.Types.length:=⟨hrl,hro,by omega,hTl,hS.n,yM t1,yL t2,hfit,fun k k0 k1 hk=>?_⟩
 ·have h1:=zu6 (a:=a) g t1 t2 (by omega) a0 a1 hN hnd
  have hrs:=zqm ps nd s.Types hso
  unfold xK at hrs
  rw [hro,Option.getD_some] at hrs
  unfold kF
  rw [←hrs]
  cases hr:Zq ps rl nd s.Types with
  |none=>rw [hr] at h1;exact h1
  |some x=>
   rw [hr] at h1
   obtain ⟨tkp,H,hH,e1⟩:=h1
   obtain ⟨xl,xk⟩:=zwt hr
   have h2:=zBq (a:=a) (rl:=rl) hH (by omega) t1 t2 (by omega)
   unfold Xh at h2
   dsimp only
   rw [show (if nd.Op=40 then x.2++[nd.A] else x.2)=jq nd x.2 from rfl]
   cases hc:change nd s.Guards with
   |none=>
    rw [hc] at h2
    obtain ⟨st,e2,g8,g9⟩:=h2
    exact ⟨st,e1.trans e2,g8,g9⟩
   |some gs'=>
    rw [hc] at h2
    obtain ⟨tkp',H',b,g',hH',e2⟩:=h2
    have hH9:=xd hH'.c8
    have tkl:(jq nd x.2).length≤5:=by unfold jq;split<;>(try rw [List.length_append,List.length_singleton])<;>omega
    have h3:=zBr (a:=a) (rl:=rl) hH' t1 t2 xl.symm (by omega) (by omega) (by omega) hrl hro g' b (fun y hy=>by have:=hs.k y hy;omega) (fun k k0 k1 hk=>by
     have:=hfit k k0 k1
     rw [hk] at this;simp [xO] at this;omega) (fun ho=>by
     have e:ze 40=some [19,0,0,0]:=by decide +kernel
     rw [ho,e] at hro
     injection hro with hro
     have:=hfit 0 (by omega) (by omega)
     rw [←hro] at this
     simp [xO,za] at this;omega)
    rw [zfm nd hso hro] at h3
    dsimp only
    by_cases hl:JW s.Guards (jq nd x.2) s.Types (writes nd x.1)
    ·rw [if_pos hl]
     obtain ⟨st,e3,g8,g9⟩:=h3.1 hl
     exact ⟨st,(e1.trans e2).trans e3,g8,g9⟩
    ·rw [if_neg hl]
     have e3:=h3.2 hl
     obtain ⟨k,h7⟩:=KG.start hH' g' (writes nd x.1)
     obtain ⟨K',gp',k',e4⟩:=zBs (ps:=ps) (f:=f) (tkp:=tkp') (a:=a) (rl:=rl) (b:=b) (ed:=ed1 H'.length) k h7 t2 (by omega) hc
     have hwl:(writes nd x.1).length=x.1.length:=by rw [←zfm nd hso hro];unfold zA;split<;>simp [zjJ]
     have hkl:=k'.len
     have h5:=zBt (ps:=ps) (f:=f) (tkp:=tkp') (a:=a) (rl:=rl) (b:=b) (ed:=ed1 H'.length) k' hwl rfl a0 (by omega) t1 t2 (by omega) (by omega) (by omega) (fun e he=>by
      simp at he;rcases he with rfl|rfl|rfl|rfl|rfl|rfl|rfl|rfl<;>simp<;>omega) (fun ho=>by
      have e:ze 31=some [12,17,0,0]:=by decide +kernel
      rw [ho,e] at hro
      injection hro with hro
      have:=hfit 1 (by omega) (by omega)
      rw [←hro] at this
      simp [xO,za] at this;omega) (fun ho=>by
      have e:ze 41=some [20,12,1,0]:=by decide +kernel
      rw [ho,e] at hro
      injection hro with hro
      have:=hfit 2 (by omega) (by omega)
      rw [←hro] at this hr
      simp [xO,za] at this
      have hx:=ztJ hr
      refine ⟨hx,by rw [hx];simp [writes,ho],this.1,by omega,?_⟩
      have:change nd s.Guards=some s.Guards:=by simp [change,ho]
      rw [this] at hc;injection hc with hc;exact hc.symm)
     obtain ⟨st,e5,g8,g9⟩:=h5
     exact ⟨st,(((e1.trans e2).trans e3).trans e4).trans e5,g8,g9⟩
 ·refine ⟨(hsz _).u,?_⟩
  have h11:nd.Op=11∧k=1:=zuf hso hro k0 k1 hk
  obtain ⟨ho,rfl⟩:=h11
  exact hups ho
end
def zxq (x:Int ⊕ List (Int×yr)) (v:PV):Prop:=match x with
 |.inl c=>v=.tup [.int .i64 c,.nils]
 |.inr l=>∃ z,v=.tup [.int .i64 0,z]∧zly z l
theorem zwd {ps:List zc} (hS:Shaped ps) {i:Int} (p0:0≤i) (p1:i<ps.length) {f:zc} (hf:za ps i=f) {a:Int} (a0:0≤a) (a1:a<f.Ins.length) {s:yr} (hs:Ky f s) {p q:PV} (t1:xU p s.Types) (t2:xF q s.Guards):
  ∃ v H ed,ES A zbp [code ps,.agg f.cells,.int .i64 a,.agg (zo p q)] []=some (v,H,ed)∧zxq (kF ps (za f.Ins a) a s) (Go.Av.frz 8 (H.map (yX 0)) (zQ 0 v)):=by
 obtain ⟨st,e,hE⟩:=zxe hS p0 p1 hf a0 a1 hs t1 t2
 simp only [zf_] at e
 have e2:=zoc (code ps) (.agg f.cells) (.int .i64 a) (.agg (zo p q)) []
 rw [e,zl4] at e2
 rw [show Go.Av.results st _=some [st.per.get 8,st.per.get 9] by rfl,zhZ] at e2
 refine ⟨_,_,_,e2,?_⟩
 cases hx:kF ps (za f.Ins a) a s with
 |inl c=>
  rw [hx] at hE
  obtain ⟨g8,g9⟩:=hE
  rw [g8,g9]
  rfl
 |inr l=>
  rw [hx] at hE
  obtain ⟨g8,g9⟩:=hE
  rw [g8]
  have hd:=g9.frz
  rcases g9 with ⟨k1,k2⟩|⟨id,rows,k1,k2,k3,k4⟩
  ·rw [k1]
   exact ⟨.nils,rfl,.inl ⟨rfl,k2⟩⟩
  ·have ht:(trim ([]:zd).length [.int .i64 0,st.per.get 9] st.H st.ed).1=st.H:=by
    rw [k1];simp [trim,bare,zt,refs]
   rw [ht]
   exact ⟨_,rfl,hd⟩
def T3 (first:List Int) (p:PV) (l:List Int):Prop:=xU p l∨(p=.sl 3 0 first.length first.length∧l=first)
def zsW (first:List Int) (row:List PV) (o:Option yr):Prop:=match o with
 |none=>row=[.bool false,.nils,.nils]
 |some s=>∃ p q,row=zo p q∧T3 first p s.Types∧xF q s.Guards
structure Wc (first:List Int) (rows:List (List PV)) (S:List (Option yr)):Prop where
 len:rows.length=S.length
 row:∀ (i:Nat) (r:List PV) (o:Option yr),rows[i]?=some r→S[i]?=some o→zsW first r o
theorem Wc.at_ {first:List Int} {rows:List (List PV)} {S:List (Option yr)} (h:Wc first rows S) {i:Int} (i0:0≤i) (i1:i<S.length):∃ r,rows[i.toNat]?=some r∧zsW first r (za S i):=by
 have hl:=h.len
 have h1:rows[i.toNat]?=some (rows[i.toNat]'(by omega)):=List.getElem?_eq_getElem (by omega)
 exact ⟨_,h1,h.row _ _ _ h1 (wc i0 i1)⟩
theorem Wc.set {first:List Int} {rows:List (List PV)} {S:List (Option yr)} (h:Wc first rows S) (k:Nat) {r:List PV} {o:Option yr} (hr:zsW first r o):Wc first (rows.set k r) (S.set k o):=by
 refine ⟨by simpa using h.len,fun i r' o' h1 h2=>?_⟩
 rw [List.getElem?_set] at h1 h2
 by_cases e:k=i
 ·rw [if_pos e] at h1 h2
  split at h1
  ·split at h2
   ·cases h1;cases h2;exact hr
   ·cases h2
  ·cases h1
 ·rw [if_neg e] at h1 h2
  exact h.row i r' o' h1 h2
theorem T3.frz {first:List Int} {p:PV} {l:List Int} (h:T3 first p l) {H:zd} (h3:H[3]?=some (.cells 1 (yn first))) (d:Nat):xU (Go.Av.frz (d+2) H p) l:=by
 rcases h with h|⟨rfl,rfl⟩
 ·rw [uz h];exact h
 ·exact .inl (uG h3)
theorem T3.leaf {first:List Int} {p:PV} {l:List Int} (h:T3 first p l):zH p=true∧cellsOf p=[p]∧∀ r∈refs p,r=3:=by
 rcases h with h|⟨rfl,rfl⟩
 ·exact ⟨jM h,uH h,fun r hr=>by rw [yM h] at hr;cases hr⟩
 ·exact ⟨rfl,rfl,fun r hr=>by simpa [refs] using hr⟩
theorem Wc.frz {first:List Int} {rows:List (List PV)} {S:List (Option yr)} (h:Wc first rows S) {H:zd} (h3:H[3]?=some (.cells 1 (yn first))) (d:Nat):zaj (rows.map (·.map (Go.Av.frz (d+3) H))) S:=by
 refine ⟨by rw [List.length_map];exact h.len,fun i r o h1 h2=>?_⟩
 rw [List.getElem?_map] at h1
 cases hr:rows[i]? with
 |none=>rw [hr] at h1;cases h1
 |some r0=>
  rw [hr] at h1
  cases h1
  have:=h.row i r0 o hr h2
  cases o with
  |none=>
   have this:r0=[.bool false,.nils,.nils]:=this
   subst this;rfl
  |some s=>
   obtain ⟨p,q,rfl,hp,hq⟩:=this
   refine ⟨_,_,rfl,hp.frz h3 _,?_⟩
   rw [ww hq];exact hq
theorem zoj (f:zc):Wc (yY f) ((List.replicate f.Ins.length [PV.bool false,.nils,.nils]).set 0 (zo (.sl 3 0 (yY f).length (yY f).length) .nils)) (Vk f):=by
 refine Wc.set ⟨by simp,fun i r o h1 h2=>?_⟩ 0 ⟨_,_,rfl,.inr ⟨rfl,rfl⟩,.inr ⟨rfl,rfl⟩⟩
 rw [List.getElem?_replicate] at h1 h2
 split at h1
 ·rename_i q;rw [if_pos q] at h2;cases h1;cases h2;rfl
 ·cases h1
abbrev v6 (ps:List zc) (f:zc) (rows:List (List PV)) (due:List Bool) (first:List Int):zd:=[.cells 1 [[zb ps]],.cells 9 [f.cells],.cells 3 rows,.cells 1 (yn first),.cells 3 [zo (.sl 3 0 first.length first.length) .nils],.cells 1 (bl due)]
end Go.Proofs.Tryd.Av
end
section
attribute [local congr] ite_congr
set_option maxRecDepth 10000
set_option maxHeartbeats 8000000
namespace Go.Proofs.Tryd.Av
open Go Go.Av Classical
theorem zru {p q:PV} {s:yr} {r:Bool} (t1:xU p s.Types) (t2:xF q s.Guards) (h1:s.Types.length≤1048576) (h2:s.Guards.length≤1048576):EP A kN [.agg [.bool r,p,q]]=some (.agg [.bool r,yq s.Types,gds s.Guards]):=by
 have c1:=uH t1
 have c2:=yN t2
 have k1:=jM t1
 have k2:=xf t2
 have r1:=fun H=>zdy t1 H
 have r2:=fun H=>zmj t2 H
 have rf1:=yM t1
 have rf2:=yL t2
 have a1:=fun H=>xE H 1 8 (yn s.Types) (by simp;omega)
 have a2:=fun H=>xE H 3 24 (vv s.Guards) (by simp;omega)
 have f2:=fun H=>Yz Gd.cells s.Guards 6 H s.Guards.length s.Guards.length 3 (fun _ _=>rfl) rfl rfl
 simp -implicitDefEqProofs +contextual (disch:=omega) only [zeJ,Jt,U9,zD, ↓zE,zz, ↓XD,XU, ↓reduceIte,sevalprocAttr,c1,c2,k1,k2,rf1,rf2,fun H=>(r1 H).1,fun H=>(r1 H).2,fun H=>(r2 H).1,fun H=>(r2 H).2,a1,a2,f2]
abbrev V3 (ps:List zc) (i:Int) (N:Nat) (P:Int) (a:Int):zk:=[(0,code ps),(1,.int .i64 i),(2,.ptr 0 0 0 1),(4,.nils),(5,.int .i64 0),(6,.int .i64 0),(7,.ptr 1 0 0 1),(8,.sl 2 0 N N),(9,.ptr 4 0 0 1),(33,.int .i64 P),(34,.int .i64 P),(11,.sl 5 0 N N),(12,.int .i64 a)]
abbrev ze8 (ps:List zc) (i:Int) (N:Nat) (P:Int) (a:Int) (v:PV) (n:Nat) (m j:Int):zk:=V3 ps i N P a++[(13,.int .i64 0),(14,v),(15,.int .i64 m),(89,v),(90,.int .i64 n),(91,.int .i64 j)]
theorem zly.at_ {v:PV} {l:List (Int×yr)} (h:zly v l) {j:Int} (j0:0≤j) (j1:j<l.length):∃ rows row x,v=.fz rows∧rows.length=l.length∧rows[j.toNat]?=some row∧l[j.toNat]?=some x∧zxo row x:=by
 rcases h with ⟨_,rfl⟩|⟨rows,h1,h3,h4⟩
 ·simp at j1;omega
 ·have e1:rows[j.toNat]?=some (rows[j.toNat]'(by omega)):=List.getElem?_eq_getElem (by omega)
  have e2:l[j.toNat]?=some (l[j.toNat]'(by omega)):=List.getElem?_eq_getElem (by omega)
  exact ⟨rows,_,_,h1,h3,e1,e2,h4 _ _ _ e1 e2⟩
def zlv (due:List Bool) (m:Int):Prop:=∀ j:Int,0≤j→j<m→¬za due j=true
structure zxs (f:zc) (first:List Int) (l:List (Int×yr)) (j:Int) (rows:List (List PV)) (due:List Bool) (S:List (Option yr)) (m:Int):Prop where
 j0:0≤j
 j1:j≤l.length
 R:Wc first rows S
 n:S.length=f.Ins.length
 d:due.length=f.Ins.length
 ok:∀ i:Int,∀ s,za S i=some s→Ky f s
 m0:0≤m
 m1:m≤f.Ins.length
 calm:zlv due m
def VbQ (ps:List zc) (i:Int) (f:zc) (P a:Int) (v:PV) (first:List Int) (n:Nat) (res:Int ⊕ (List (Option yr)×List Bool)) (r:zp×St):Prop:=match res with
 |.inl j=>∃ st,r=(.ret,st)∧st.per.get 4=.nils∧st.per.get 5=.int .i64 13∧st.per.get 6=.int .i64 j
 |.inr (S',due')=>∃ rows' m',r=(.exit 4,(⟨ze8 ps i f.Ins.length P a v n m' n,[],v6 ps f rows' due' first,[(2,3)]⟩:St))∧Wc first rows' S'∧due'.length=f.Ins.length∧0≤m'∧m'≤f.Ins.length∧zlv due' m'
theorem zxk {ps:List zc} {i:Int} {f:zc} {P a:Int} {v:PV} {first:List Int} {l:List (Int×yr)} (hN:f.Ins.length≤1048576) (hR:f.Regs≤1048576) (hv:zly v l) (hl:∀ x∈l,(0≤x.1∧x.1<f.Ins.length)∧Ky f x.2) (hn:l.length≤2)
  {rows:List (List PV)} {due:List Bool} {S:List (Option yr)} {m:Int} (h:zxs f first l 0 rows due S m):∃ r,EV A (.loop (vB 2)) ⟨ze8 ps i f.Ins.length P a v l.length m 0,[],v6 ps f rows due first,[(2,3)]⟩=some r∧VbQ ps i f P a v first l.length (Zw l S due) r:=by
 have key:=ZG (P:=A) (body:=(vB 2)) (fun (s:Int×List (List PV)×List Bool×List (Option yr)×Int)=>(⟨ze8 ps i f.Ins.length P a v l.length s.2.2.2.2 s.1,[],v6 ps f s.2.1 s.2.2.1 first,[(2,3)]⟩:St)) (fun s=>zxs f first l s.1 s.2.1 s.2.2.1 s.2.2.2.1 s.2.2.2.2) (fun s=>((l.length:Int)-s.1).toNat) (fun s r=>VbQ ps i f P a v first l.length (Zw (l.drop s.1.toNat) s.2.2.2.1 s.2.2.1) r) ?_ (0,rows,due,S,m) h
 ·simpa using key
 rintro ⟨j,rows,due,S,m⟩ ⟨j0,j1,hR',hn',hd,hsz,m0,m1,hcalm⟩
 simp only at j0 j1 hR' hn' hd hsz m0 m1 hcalm ⊢
 have hrl:rows.length=f.Ins.length:=by rw [hR'.len,hn']
 have hvr:refs v=[]:=by rcases hv with ⟨rfl,_⟩|⟨_,rfl,_⟩<;>rfl
 obtain ⟨N,hNN⟩:∃ N,f.Ins.length=N:=⟨_,rfl⟩
 by_cases c:j<l.length
 ·obtain ⟨frows,row,x,rfl,hfr,hrow,hx,pp,qq,rfl,hpp,hqq⟩:=hv.at_ j0 c
  have hxm:=List.mem_of_getElem? hx
  obtain ⟨⟨x0,x1⟩,xs⟩:=hl x hxm
  have hdrop:l.drop j.toNat=x::l.drop (j+1).toNat:=by
   have hj:j.toNat<l.length:=by omega
   rw [List.drop_eq_getElem_cons hj,show (j+1).toNat=j.toNat+1 by omega]
   rw [List.getElem?_eq_getElem hj] at hx
   injection hx with hx;rw [hx]
  rw [hdrop]
  obtain ⟨xa,xst⟩:=x
  simp only at x0 x1 xs hpp hqq hrow
  rw [Zw]
  have hpl:=jM hpp
  have hpc:=uH hpp
  have hpr:=yM hpp
  have hgl:=xf hqq
  have hgc:=yN hqq
  have hgr:=yL hqq
  have hpf:=fun d H=>uz hpp d H
  have hqf:=fun d H=>ww hqq d H
  obtain ⟨srow,hs1,hs2⟩:=hR'.at_ x0 (by omega)
  have xt:=xs.t
  have xg:=xs.g
  have hix:∀ H,wW 4 H (.fz frows) (.int .i64 j)=some (.fp [.int .i64 xa,.bool true,pp,qq] 0):=fun H=>by rw [zh_,if_pos j0,hrow];rfl
  have hcp:=zru (r:=true) hpp hqq (by omega) (by omega)
  simp only [hNN] at x1 hrl hd hn' hN m1 ⊢
  cases hS:za S xa with
  |none=>
   rw [hS] at hs2
   have hs2:srow=[.bool false,.nils,.nils]:=hs2
   subst hs2
   have hdg:due[xa.toNat]?=some (due[xa.toNat]'(by omega)):=List.getElem?_eq_getElem (by omega)
   right
   refine ⟨(j+1,rows.set xa.toNat (zo (yq xst.Types) (gds xst.Guards)),due.set xa.toNat true,S.set xa.toNat (some xst),if xa<m then xa else m),_,⟨by simp only;omega,by simp only;omega,hR'.set _ ⟨_,_,rfl,.inl (.inl rfl),.inl rfl⟩,by simpa using hn'.trans hNN.symm,by simpa using hd.trans hNN.symm,fun i s hs=>?_,by simp only;split<;>omega,by simp only;split<;>omega,fun k k0 k1=>?_⟩,by simp only;omega,by (simp -implicitDefEqProofs +contextual (disch:=omega) only [YI,xC,ze8,V3,v6,List.cons_append,List.nil_append,code,zb,zc.cells,ups,zf,zj,zm, ↓XD,XU, ↓reduceIte,sevalprocAttr,c,j0,hfr,hix,hpl,hpc,hpr,hgl,hgc,hgr,hpf 6,hqf 6,hpf 7,hqf 7,x0,x1,hrl,hd,hs1,zo,hcp,hdg])<;>rfl,?_,fun r hr=>?_⟩
   ·rcases zgF (l:=S) (j:=i) (v:=some xst) x0 (by omega) with h|h
    ·simp only at hs;rw [h] at hs;cases hs;exact xs
    ·simp only at hs;rw [h] at hs;exact hsz i s hs
   ·simp only at k1 ⊢
    have hxk:¬k=xa:=by split at k1<;>omega
    rw [Yi x0 (by omega) k0,if_neg (fun h=>hxk h.symm)]
    exact hcalm k k0 (by split at k1<;>omega)
   ·simp [St.next,trim,bare,zt,refs,hpr,hgr]
   ·simp only at hr ⊢;exact hr
  |some s'=>
   rw [hS] at hs2
   obtain ⟨p',q',rfl,hp',hq'⟩:=hs2
   have hs2:=hsz xa s' hS
   have st2:=hs2.t
   have sg2:=hs2.g
   obtain ⟨l1,l2,l3⟩:=hp'.leaf
   have l4:=xf hq'
   have l5:=yN hq'
   have l6:=yL hq'
   have hq'f:=fun d H=>ww hq' d H
   obtain ⟨z,hz⟩:∃ z,∀ b2 b6:yf,Go.Av.frz 7 [.cells 1 [[zb ps]],.cells 9 [f.cells],b2,.cells 1 (yn first),.cells 3 [zo (.sl 3 0 first.length first.length) .nils],.cells 1 (bl due),b6] p'=z∧xU z s'.Types:=by
    rcases hp' with h|⟨rfl,rfl⟩
    ·exact ⟨p',fun _ _=>⟨uz h _ _,h⟩⟩
    ·exact ⟨_,fun _ _=>⟨uG rfl,.inl rfl⟩⟩
   have hz2:=fun b2 b6=>(hz b2 b6).1
   have hsm:=zl6 (hz (.cells 3 rows) (.cells 3 rows)).2 hq' hpp hqq (by omega) (by omega) (by omega) (by omega) (by omega)
   simp only [zo,code,zb,zc.cells,ups,zf,zj,zm,bl,yn] at hz2 hsm
   by_cases e:s'=xst
   ·right
    refine ⟨(j+1,rows,due,S,m),_,⟨by simp only;omega,by simp only;omega,hR',hn'.trans hNN.symm,hd.trans hNN.symm,hsz,m0,by simp only;omega,hcalm⟩,by simp only;omega,by (simp -implicitDefEqProofs +contextual (disch:=omega) only [YI,xC,ze8,V3,v6,List.cons_append,List.nil_append,code,zb,zc.cells,ups,zf,zj,zm, ↓XD,XU, ↓reduceIte,sevalprocAttr,c,j0,hfr,hix,hpl,hpc,hpr,hgl,hgc,hgr,hpf 6,hqf 6,hpf 7,hqf 7,x0,x1,hrl,hd,hs1,zo,l1,l2,l4,l5,hq'f 6,hz2,hsm,eq_true e])<;>rfl,?_,fun r hr=>?_⟩
    ·simp [St.next,trim,bare,zt,refs,hpr,hgr]
    ·simp only at hr ⊢;rw [if_pos e];exact hr
   ·left
    refine ⟨_,by (simp -implicitDefEqProofs +contextual (disch:=omega) only [YI,xC,ze8,V3,v6,List.cons_append,List.nil_append,code,zb,zc.cells,ups,zf,zj,zm, ↓XD,XU, ↓reduceIte,sevalprocAttr,c,j0,hfr,hix,hpl,hpc,hpr,hgl,hgc,hgr,hpf 6,hqf 6,hpf 7,hqf 7,x0,x1,hrl,hd,hs1,zo,l1,l2,l4,l5,hq'f 6,hz2,hsm,eq_false e])<;>rfl,by simp,?_⟩
    simp only [if_neg e]
    refine ⟨_,rfl,by simp [zk.get,zk.put],by simp [zk.get,zk.put],by simp [zk.get,zk.put]⟩
 ·left
  have hj:j=l.length:=by omega
  subst hj
  refine ⟨_,by (simp -implicitDefEqProofs +contextual (disch:=omega) only [YI,xC,ze8,V3,v6,List.cons_append,List.nil_append, ↓XD,XU, ↓reduceIte,sevalprocAttr,Int.lt_irrefl])<;>rfl,by simp,?_⟩
  simp only [Int.toNat_natCast,List.drop_length,Zw]
  exact ⟨rows,m,rfl,hR',hd,m0,m1,hcalm⟩
theorem ztS {due:List Bool} {a:Int} (a0:0≤a) (a1:a<due.length) (c:zlv due a) (h:za due a=true):Wj due=some a:=xH.2 ⟨a0,a1,h,fun k k0 k1=>c k k0 k1⟩
theorem ztT {due:List Bool} {a:Int} (a1:(due.length:Int)≤a) (c:zlv due a):Wj due=none:=y7.2 fun j j0 j1=>c j j0 (by omega)
structure zxr (f:zc) (first:List Int) (a:Int) (rows:List (List PV)) (due:List Bool) (S:List (Option yr)):Prop where
 a0:0≤a
 a1:a≤f.Ins.length
 R:Wc first rows S
 W:WOk f S due
 calm:zlv due a
def VaQ (ps:List zc) (i:Int) (f:zc) (P:Int) (first:List Int) (x:(Int×Int)×List (Option yr)) (r:zp×St):Prop:=
 (¬x.1.1=0→∃ st,r=(.ret,st)∧st.per.get 4=.nils∧st.per.get 5=.int .i64 x.1.1∧st.per.get 6=.int .i64 x.1.2)∧
 (x.1.1=0→∃ rows due,r=(.exit 2,(⟨V3 ps i f.Ins.length P f.Ins.length,[],v6 ps f rows due first,[(2,3)]⟩:St))∧Wc first rows x.2∧x.2.length=f.Ins.length)
theorem zxj {ps:List zc} (hS:Shaped ps) {i:Int} (p0:0≤i) (p1:i<ps.length) {f:zc} (hf:za ps i=f) {P:Int} {first:List Int}
  {rows:List (List PV)} {due:List Bool} {S:List (Option yr)} {a:Int} (h:zxr f first a rows due S):
  ∃ r,EV A (.loop (vB 1)) ⟨V3 ps i f.Ins.length P a,[],v6 ps f rows due first,[(2,3)]⟩=some r∧VaQ ps i f P first (X6 ps f S due) r:=by
 have hI:=hS.fine.ins i p0 p1
 have hPO:=hS.fine.ok i p0 p1
 have hr0:=hPO.r0
 have hr1:=hPO.r1
 have hN:=hPO.i
 have hrk:=fun {S due} (h:WOk (za ps i) S due) {a} (ha:Wj due=some a) {S' due'} (e:Wn ps (za ps i) S due a=.inr (S',due'))=>zmI hI hr0 h ha e
 have hstep:=fun {a:Int} (a0:0≤a) (a1:a<(za ps i).Ins.length) {s:yr} (hs:Ky (za ps i) s) {l} (e:kF ps (za (za ps i).Ins a) a s=.inr l)=>zj0 (hI a a0 a1) a0 a1 hr0 hs e
 simp only [hf] at hr0 hr1 hN hrk hstep
 refine ZG (P:=A) (body:=(vB 1)) (fun (s:Int×List (List PV)×List Bool×List (Option yr))=>(⟨V3 ps i f.Ins.length P s.1,[],v6 ps f s.2.1 s.2.2.1 first,[(2,3)]⟩:St)) (fun s=>zxr f first s.1 s.2.1 s.2.2.1 s.2.2.2) (fun s=>XR s.2.2.2 s.2.2.1*(f.Ins.length+1)+(f.Ins.length-s.1.toNat)) (fun s r=>VaQ ps i f P first (X6 ps f s.2.2.2 s.2.2.1) r) ?_ (a,rows,due,S) h
 rintro ⟨a,rows,due,S⟩ ⟨a0,a1,hR,hW,hc⟩
 simp only at a0 a1 hR hW hc ⊢
 have hSn:=hW.s
 have hDn:=hW.d
 have hrl:rows.length=f.Ins.length:=by rw [hR.len,hSn]
 by_cases ca:a<f.Ins.length
 ·have hdg:due[a.toNat]?=some (za due a):=wc a0 (by omega)
  by_cases hd:za due a=true
  ·
   have ha:=ztS a0 (by omega) hc hd
   obtain ⟨s,hs⟩:=hW.due a a0 ca hd
   have hsok:=hW.ok a a0 ca s hs
   obtain ⟨srow,hs1,hs2⟩:=hR.at_ a0 (by omega)
   rw [hs] at hs2
   obtain ⟨pp,qq,rfl,hp,hq⟩:=hs2
   obtain ⟨l1,l2,l3⟩:=hp.leaf
   have l4:=xf hq
   have l5:=yN hq
   have l6:=yL hq
   have hqf:=fun d H=>ww hq d H
   obtain ⟨due1,hdue1⟩:∃ d,due.set a.toNat false=d:=⟨_,rfl⟩
   have hd1:due1.length=f.Ins.length:=by rw [←hdue1,List.length_set];exact hDn
   have hbs:(bl due).set a.toNat [.bool false]=bl due1:=by rw [←hdue1];simp [bl]
   obtain ⟨z,hz1,hz⟩:∃ z,Go.Av.frz 7 (v6 ps f rows due1 first) pp=z∧xU z s.Types:=⟨_,rfl,hp.frz (H:=v6 ps f rows due1 first) rfl 5⟩
   obtain ⟨v,Hf,ed,e1,e2⟩:=zwd hS p0 p1 hf a0 ca hsok hz hq
   have e3:xJ (CL A) (v6 ps f rows due1 first) .fresh zbp [code ps,.agg f.cells,.int .i64 a,.agg (zo pp qq)]=some (Go.Av.frz 8 (Hf.map (yX 0)) (zQ 0 v),v6 ps f rows due1 first,[]):=by
    have ea:[code ps,.agg f.cells,.int .i64 a,.agg (zo pp qq)].map (Go.Av.frz 8 (v6 ps f rows due1 first))=[code ps,.agg f.cells,.int .i64 a,.agg (zo z qq)]:=by
     have k1:Go.Av.frz 8 (v6 ps f rows due1 first) (.agg (zo pp qq))=.agg (zo z qq):=by
      show PV.agg [.bool true,Go.Av.frz 7 (v6 ps f rows due1 first) pp,Go.Av.frz 7 (v6 ps f rows due1 first) qq]=_
      rw [hz1,hqf 6]
     rw [List.map_cons,List.map_cons,List.map_cons,List.map_cons,List.map_nil,k1];rfl
    rw [zf9,ea,e1]
   simp only [v6,zo,code,zb,zc.cells,ups,zf,zj,zm,bl,yn] at e3 hbs
   have hle:∀ j,0≤j→j<a+1→¬za due1 j=true:=fun j j0 j1=>by
    rw [←hdue1,Yi a0 (by omega) j0]
    split
    ·simp
    ·exact hc j j0 (by omega)
   have hro:Wn ps f S due a=(match kF ps (za f.Ins a) a s with
    |.inl c=>.inl (c,a)
    |.inr l=>match Zw l S due1 with
     |.inl j=>.inl (13,j)
     |.inr r=>.inr r):=by unfold Wn;rw [hs,hdue1];rfl
   obtain ⟨fv,hfv⟩:∃ fv,Go.Av.frz 8 (Hf.map (yX 0)) (zQ 0 v)=fv:=⟨_,rfl⟩
   rw [hfv] at e2 e3
   cases hst:kF ps (za f.Ins a) a s with
   |inl c=>
    rw [hst] at e2 hro
    dsimp only at hro
    have e2:fv=.tup [.int .i64 c,.nils]:=e2
    subst e2
    have hcz:¬c=0:=zit hro
    left
    refine ⟨_,by (simp -implicitDefEqProofs +contextual (disch:=omega) only [kJ,xC,V3,v6,List.cons_append,List.nil_append,code,zb,zc.cells,ups,zf,zj,zm, ↓XD,XU, ↓reduceIte,sevalprocAttr,ca,a0,hdg,hd,hDn,hrl,hs1,zo,l1,l2,l4,l5,hbs,e3,hcz])<;>rfl,by simp,?_⟩
    rw [zhu ha hro]
    exact ⟨fun _=>⟨_,rfl,by simp [zk.get,zk.put],by simp [zk.get,zk.put],by simp [zk.get,zk.put]⟩,fun h=>absurd h hcz⟩
   |inr l=>
    rw [hst] at e2 hro
    dsimp only at hro
    obtain ⟨zv,rfl,hzv⟩:=e2
    have hl:=hstep a0 ca hsok hst
    have hl2:l.length≤2:=by
     unfold kF at hst
     split at hst
     ·cases hst
     ·split at hst
      ·cases hst
      ·split at hst
       ·cases hst
       ·cases hst;exact zma _ _ _ _ _
    have hvr:refs zv=[]:=by rcases hzv with ⟨rfl,_⟩|⟨_,rfl,_⟩<;>rfl
    have hlen:kS zv=some (.int .i64 l.length):=by
     rcases hzv with ⟨rfl,rfl⟩|⟨r,rfl,h,_⟩
     ·rfl
     ·simp [kS,h]
    have hsz':∀ j:Int,∀ s',za S j=some s'→Ky f s':=fun j s' hj=>by
     by_cases hlt:j.toNat<f.Ins.length
     ·exact hW.ok (j.toNat:Int) (by omega) (by omega) s' (by show S.getD ((j.toNat:Int)).toNat default=_;rw [Int.toNat_natCast];exact hj)
     ·have:za S j=none:=by show S.getD j.toNat default=_;rw [List.getD_eq_getElem?_getD,List.getElem?_eq_none (by omega)];rfl
      rw [this] at hj;cases hj
    obtain ⟨rr,e4,q⟩:=zxk (ps:=ps) (i:=i) (P:=P) (a:=a) (v:=zv) (first:=first) (rows:=rows) (due:=due1) (S:=S) (m:=a+1) hN (by omega) hzv hl hl2 ⟨by omega,by omega,hR,hSn,hd1,hsz',by omega,by omega,hle⟩
    simp only [v6,ze8,V3,List.cons_append,List.nil_append,zo,code,zb,zc.cells,ups,zf,zj,zm,bl,yn] at e4
    cases hvi:Zw l S due1 with
    |inl j=>
     rw [hvi] at q hro
     dsimp only at hro
     obtain ⟨st,rfl,g4,g5,g6⟩:=q
     left
     refine ⟨_,by (simp -implicitDefEqProofs +contextual (disch:=omega) only [kJ,xC,V3,v6,List.cons_append,List.nil_append,code,zb,zc.cells,ups,zf,zj,zm, ↓XD,XU, ↓reduceIte,sevalprocAttr,ca,a0,hdg,hd,hDn,hrl,hs1,zo,l1,l2,l4,l5,hbs,e3,hvr,hlen,e4])<;>rfl,by simp,?_⟩
     rw [zhu ha hro]
     exact ⟨fun _=>⟨_,rfl,g4,g5,g6⟩,fun h=>absurd h (by simp)⟩
    |inr sd=>
     obtain ⟨S',due'⟩:=sd
     rw [hvi] at q hro
     dsimp only at hro
     obtain ⟨rows',m',rfl,q1,q2,q3,q4,q5⟩:=q
     obtain ⟨w1,w2⟩:=hrk hW ha hro
     right
     refine ⟨(m',rows',due',S'),_,⟨q3,q4,q1,w1,q5⟩,?_,by (simp -implicitDefEqProofs +contextual (disch:=omega) only [kJ,xC,V3,v6,List.cons_append,List.nil_append,code,zb,zc.cells,ups,zf,zj,zm, ↓XD,XU, ↓reduceIte,sevalprocAttr,ca,a0,hdg,hd,hDn,hrl,hs1,zo,l1,l2,l4,l5,hbs,e3,hvr,hlen,e4])<;>rfl,?_,fun r hr=>?_⟩
     ·simp only
      have:(XR S' due'+1)*(f.Ins.length+1)≤XR S due*(f.Ins.length+1):=Nat.mul_le_mul_right _ w2
      rw [Nat.add_mul] at this
      omega
     ·simp [St.next,trim,bare,zt,refs,hvr]
     ·simp only at hr ⊢;rw [zo5 ha hro w2];exact hr
  ·
   have hd':za due a=false:=by simpa using hd
   right
   refine ⟨(a+1,rows,due,S),_,⟨by simp only;omega,by simp only;omega,hR,hW,fun j j0 j1=>?_⟩,by simp only;omega,by (simp -implicitDefEqProofs +contextual (disch:=omega) only [kJ,xC,V3,v6,List.cons_append,List.nil_append, ↓XD,XU, ↓reduceIte,sevalprocAttr,ca,a0,hdg,hd',hDn])<;>rfl,?_,fun r hr=>hr⟩
   ·by_cases e:j=a
    ·subst e;exact hd
    ·exact hc j j0 (by simp only at j1;omega)
   ·simp [St.next,trim,bare,zt,refs]
 ·have:a=f.Ins.length:=by omega
  subst this
  left
  refine ⟨_,by (simp -implicitDefEqProofs +contextual (disch:=omega) only [kJ,xC,V3,v6,List.cons_append,List.nil_append, ↓XD,XU, ↓reduceIte,sevalprocAttr,hDn,Int.lt_irrefl])<;>rfl,by simp,?_⟩
  rw [znd (ztT (by omega) hc)]
  exact ⟨fun h=>absurd rfl h,fun _=>⟨rows,due,rfl,hR,hSn⟩⟩
abbrev zdr (ps:List zc) (p:Int) (N:Nat) (P i:Int):zk:=[(0,code ps),(1,.int .i64 p),(2,.ptr 0 0 0 1),(4,.nils),(5,.int .i64 0),(6,.int .i64 0),(7,.ptr 1 0 0 1),(8,.sl 2 0 N N),(9,.ptr 4 0 0 1),(33,.int .i64 P),(34,.int .i64 i)]
theorem zAg (ps:List zc) (f:zc) (p:Int) (N R P:Nat) (hP:P≤R) (hR:R≤1048576) (b1 b2:yf):
  EV A (.loop (vB 0)) ⟨zdr ps p N P 0,[],[.cells 1 [[zb ps]],b1,b2,.cells 1 (yn (vq R 0)),.cells 3 [zo (.sl 3 0 R R) .nils]],[]⟩=some (.exit 0,⟨zdr ps p N P P,[],[.cells 1 [[zb ps]],b1,b2,.cells 1 (yn (vq R P)),.cells 3 [zo (.sl 3 0 R R) .nils]],[]⟩):=by
 have key:=JJ (P:=A) (body:=(vB 0)) (fun (i:Nat)=>(⟨zdr ps p N P i,[],[.cells 1 [[zb ps]],b1,b2,.cells 1 (yn (vq R i)),.cells 3 [zo (.sl 3 0 R R) .nils]],[]⟩:St)) (fun i=>i≤P) (fun i=>P-i) (fun i=>(.exit 0,(⟨zdr ps p N P P,[],[.cells 1 [[zb ps]],b1,b2,.cells 1 (yn (vq R P)),.cells 3 [zo (.sl 3 0 R R) .nils]],[]⟩:St))) ?_ 0 (by omega)
 ·exact key
 intro i hi
 by_cases c:i<P
 ·right
  have hl:=QS (R:=R) (P:=i) (by omega)
  have hs:=zmv (R:=R) (P:=i) (by omega)
  obtain ⟨l,hlx⟩:∃ l,vq R i=l:=⟨_,rfl⟩
  rw [hlx] at hl hs
  have hs2:(yn l).set i [.int .i64 1]=yn (vq R (i+1)):=by rw [←hs];simp [yn]
  have hg:l[i]?=some (l[i]'(by omega)):=List.getElem?_eq_getElem (by omega)
  have hc1:(i:Int)<P:=by omega
  have hc2:(i:Int)<R:=by omega
  refine ⟨i+1,_,by omega,by omega,by (simp -implicitDefEqProofs +contextual (disch:=omega) only [Q0,xC,zdr,zo,zc.cells,ups,zf,zj,zm, ↓XD,XU, ↓reduceIte,sevalprocAttr,hc1,hc2,hl,hlx,hg,hs2,Int.toNat_natCast])<;>rfl,?_,rfl⟩
  simp [St.next,trim,bare,zt,refs]
 ·left
  have:i=P:=by omega
  subst this
  refine ⟨by (simp -implicitDefEqProofs +contextual (disch:=omega) only [Q0,xC,zdr,zc.cells,ups,zf,zj,zm, ↓XD,XU, ↓reduceIte,sevalprocAttr,Int.lt_irrefl]),by simp⟩
theorem zkh {ps:List zc} (hS:zhC ps) {p:Int} (p0:0≤p) (p1:p<ps.length):match uC ps p with
  |.inl c=>EP A Y8 [code ps,.int .i64 p]=some (.tup [.nils,.int .i64 c.1,.int .i64 c.2])
  |.inr S=>∃ rows,EP A Y8 [code ps,.int .i64 p]=some (.tup [.fz rows,.int .i64 0,.int .i64 0])∧zaj rows S:=by
 have hh:=hS.head p p0 p1
 have hone:=hS.one p p0 p1
 have hPO:=hS.fine.ok p p0 p1
 have hps:=hS.n
 have hfl:=zbn hh
 have hN:=hPO.i
 have hr0:=hPO.r0
 have hr1:=hPO.r1
 have hW:=zmV hh hone
 have hR:=zoj (za ps p)
 have hL:=zoL (hS.fine.ins p p0 p1)
 have hP:=hh.1.1.1.2
 have hPR:(za ps p).Params.toNat≤(za ps p).Regs.toNat:=by unfold uQ at hP;split at hP<;>omega
 have hpar:(za ps p).Params=((za ps p).Params.toNat:Int):=by omega
 obtain ⟨r,e,q⟩:=zxj hS.toShaped p0 p1 rfl (P:=(za ps p).Params) (a:=0) ⟨by omega,by omega,hR,hW,fun j j0 j1=>by omega⟩
 have hb0:=zAg ps (za ps p) p (za ps p).Ins.length (za ps p).Regs.toNat (za ps p).Params.toNat hPR (by omega) (.cells 9 [(za ps p).cells]) (.cells 3 (List.replicate (za ps p).Ins.length [.bool false,.nils,.nils]))
 rw [←hpar] at hb0
 have hrl:(yY (za ps p)).length=(za ps p).Regs.toNat:=by omega
 rw [hrl] at e hR
 have hwe:uC ps p=kP ps (za ps p) (Vk (za ps p)) (U' (za ps p)):=rfl
 unfold kP at hwe
 generalize hw:X6 ps (za ps p) (Vk (za ps p)) (U' (za ps p))=w at q hwe
 generalize hf:za ps p=f at hh hone hPO hfl hN hr0 hr1 hW hR e q hP hPR hpar hb0 hrl hL hwe hw
 have hfp:(List.map zc.cells ps)[p.toNat]?=some f.cells:=by
  rw [List.getElem?_map,wc p0 p1,hf];rfl
 have b3:vq f.Regs.toNat 0=List.replicate f.Regs.toNat 0:=by simp [vq]
 have hRl:((f.Regs.toNat:Nat):Int)=f.Regs:=by omega
 have hol:=QS hPR
 have hil:(yn (vq f.Regs.toNat f.Params.toNat)).length=f.Regs.toNat:=by simpa using hol
 rw [b3] at hb0
 simp only [V3,zdr,v6,zo,hrl,bl,yn,U',code,zb,zc.cells,ups,zf,zj,zm,Ins.cells] at hb0 e hfp
 have hR1:=hP
 have hR2:f.Rest=true→f.Params<f.Regs:=fun h=>by rw [uQ,if_pos h] at hP;omega
 obtain ⟨N,hNN⟩:∃ N,f.Ins.length=N:=⟨_,rfl⟩
 have hN1:N≤1048576:=by omega
 have hN0:0<N:=by omega
 have hk1:(List.replicate N [PV.bool false,PV.nils,PV.nils]).length=N:=by simp
 have hk2:(List.replicate N false).length=N:=by simp
 have hk3:(List.replicate N [PV.bool false,PV.nils,PV.nils])[0]?=some [PV.bool false,PV.nils,PV.nils]:=by rw [List.getElem?_replicate,if_pos hN0]
 have hk4:(List.replicate N false)[0]?=some false:=by rw [List.getElem?_replicate,if_pos hN0]
 have hk5:(List.replicate N [PV.bool false])[0]?=some [PV.bool false]:=by rw [List.getElem?_replicate,if_pos hN0]
 by_cases hz:w.1.1=0
 ·obtain ⟨rows,due,rfl,qR,qn⟩:=q.2 hz
  rw [if_pos hz] at hwe
  have hrl2:rows.length=N:=by rw [qR.len,qn,hNN]
  have hG3:(v6 ps f rows due (yY f))[3]?=some (.cells 1 (yn (yY f))):=rfl
  have hri:=zts (qR.frz hG3 4) qn hN hL
  have hfz:xA 7 (v6 ps f rows due (yY f)) 0 N N (some (.cells 3 rows))=.fz (rows.map (·.map (Go.Av.frz (4+3) (v6 ps f rows due (yY f))))):=(zjG 7 (v6 ps f rows due (yY f)) 2 0 N N).symm.trans (zjF rfl hrl2 7)
  have hfz2:xA 6 (v6 ps f rows due (yY f)) 0 N N (some (.cells 3 rows))=.fz (rows.map (·.map (Go.Av.frz (3+3) (v6 ps f rows due (yY f))))):=(zjG 6 (v6 ps f rows due (yY f)) 2 0 N N).symm.trans (zjF rfl hrl2 6)
  have hzr:=qR.frz hG3 3
  generalize rows.map (·.map (Go.Av.frz (4+3) (v6 ps f rows due (yY f))))=zr1 at hri hfz
  generalize rows.map (·.map (Go.Av.frz (3+3) (v6 ps f rows due (yY f))))=zr2 at hfz2 hzr
  unfold zmH at hri
  simp only [v6,zo,hrl,bl,yn,code,zb,zc.cells,ups,zf,zj,zm,Ins.cells,hNN] at hri
  cases hk:z8 (zdi f w.2) 0 f.Ins.length with
  |some j=>
   obtain ⟨j0,j1,_⟩:=xH.1 hk
   rw [hk] at hwe
   rw [hwe]
   rw [←hNN,hk,Option.getD_some] at hri
   simp only [hNN] at e hb0 hri
   show EP A Y8 [code ps,.int .i64 p]=some (.tup [.nils,.int .i64 14,.int .i64 j])
   cases hrest:f.Rest with
   |false=>
    have hfo:yY f=vq f.Regs.toNat f.Params.toNat:=by rw [yY,if_neg (by simp [hrest])]
    rw [hfo] at e hfz
    have hR2':=hR2
    simp only [hrest] at hb0 e hfp hR2' hri
    simp only [true_implies,reduceCtorEq,false_implies] at hR2'
    simp -implicitDefEqProofs +contextual (disch:=omega) only [kY,Zc,xC,zo,code,zb,zc.cells,ups,zf,zj,zm,Ins.cells, ↓XD,XU, ↓reduceIte,sevalprocAttr,p0,p1,hf,hNN,hrest,hb0,hr0,hRl,hk3,hk4,hk5,e,hR1.1,hR2',hol,hfp,hfz,hri,j0]
   |true=>
    have hfo:yY f=(vq f.Regs.toNat f.Params.toNat).set f.Params.toNat 3:=by rw [yY,if_pos hrest]
    rw [hfo] at e hfz
    have hR2':=hR2
    simp only [hrest] at hb0 e hfp hR2' hri
    simp only [true_implies,reduceCtorEq,false_implies] at hR2'
    simp -implicitDefEqProofs +contextual (disch:=omega) only [kY,Zc,xC,zo,code,zb,zc.cells,ups,zf,zj,zm,Ins.cells, ↓XD,XU, ↓reduceIte,sevalprocAttr,p0,p1,hf,hNN,hrest,hb0,hr0,hRl,hk3,hk4,hk5,e,hR1.1,hR2',hol,hfp,hfz,hri,j0]
  |none=>
   rw [hk] at hwe
   rw [hwe]
   rw [←hNN,hk,Option.getD_none] at hri
   simp only [hNN] at e hb0 hri
   refine ⟨zr2,?_,hzr⟩
   cases hrest:f.Rest with
   |false=>
    have hfo:yY f=vq f.Regs.toNat f.Params.toNat:=by rw [yY,if_neg (by simp [hrest])]
    rw [hfo] at e hfz hfz2
    have hR2':=hR2
    simp only [hrest] at hb0 e hfp hR2' hri
    simp only [true_implies,reduceCtorEq,false_implies] at hR2'
    simp -implicitDefEqProofs +contextual (disch:=omega) only [kY,Zc,xC,zo,code,zb,zc.cells,ups,zf,zj,zm,Ins.cells, ↓XD,XU, ↓reduceIte,sevalprocAttr,p0,p1,hf,hNN,hrest,hb0,hr0,hRl,hk3,hk4,hk5,e,hR1.1,hR2',hol,hfp,hfz,hfz2,hri]
   |true=>
    have hfo:yY f=(vq f.Regs.toNat f.Params.toNat).set f.Params.toNat 3:=by rw [yY,if_pos hrest]
    rw [hfo] at e hfz hfz2
    have hR2':=hR2
    simp only [hrest] at hb0 e hfp hR2' hri
    simp only [true_implies,reduceCtorEq,false_implies] at hR2'
    simp -implicitDefEqProofs +contextual (disch:=omega) only [kY,Zc,xC,zo,code,zb,zc.cells,ups,zf,zj,zm,Ins.cells, ↓XD,XU, ↓reduceIte,sevalprocAttr,p0,p1,hf,hNN,hrest,hb0,hr0,hRl,hk3,hk4,hk5,e,hR1.1,hR2',hol,hfp,hfz,hfz2,hri]
 ·obtain ⟨st,rfl,q1,q2,q3⟩:=q.1 hz
  rw [if_neg hz] at hwe
  rw [hwe]
  simp only [hNN] at e hb0
  show EP A Y8 [code ps,.int .i64 p]=some (.tup [.nils,.int .i64 w.1.1,.int .i64 w.1.2])
  cases hrest:f.Rest with
  |false=>
   have hfo:yY f=vq f.Regs.toNat f.Params.toNat:=by rw [yY,if_neg (by simp [hrest])]
   rw [hfo] at e
   have hR2':=hR2
   simp only [hrest] at hb0 e hfp hR2'
   simp only [true_implies,reduceCtorEq,false_implies] at hR2'
   simp -implicitDefEqProofs +contextual (disch:=omega) only [kY,Zc,xC,zo,code,zb,zc.cells,ups,zf,zj,zm,Ins.cells, ↓XD,XU, ↓reduceIte,sevalprocAttr,p0,p1,hf,hNN,hrest,hb0,hr0,hRl,hk3,hk4,hk5,e,hR1.1,hR2',hol,hfp,q1,q2,q3]
  |true=>
   have hfo:yY f=(vq f.Regs.toNat f.Params.toNat).set f.Params.toNat 3:=by rw [yY,if_pos hrest]
   rw [hfo] at e
   have hR2':=hR2
   simp only [hrest] at hb0 e hfp hR2'
   simp only [true_implies,reduceCtorEq,false_implies] at hR2'
   simp -implicitDefEqProofs +contextual (disch:=omega) only [kY,Zc,xC,zo,code,zb,zc.cells,ups,zf,zj,zm,Ins.cells, ↓XD,XU, ↓reduceIte,sevalprocAttr,p0,p1,hf,hNN,hrest,hb0,hr0,hRl,hk3,hk4,hk5,e,hR1.1,hR2',hol,hfp,q1,q2,q3]
end Go.Proofs.Tryd.Av
end
section
attribute [local congr] ite_congr
set_option maxRecDepth 10000
set_option maxHeartbeats 4000000
namespace Go.Proofs.Tryd.Av
open Go Go.Av Classical
theorem zA5 (ps:List zc) (hb:ps.length≤1048576) (ht:vr ps≤1048576) (a0:Int) (hok0:a0=wV ps ((0):Int).toNat):EV A (.loop (zK 0)) (⟨[(0,code ps),(1,.ptr 0 0 0 1),(2,.ptr 1 0 0 1),(3,.int .i64 a0),(31,zb ps),(32,.int .i64 ps.length),(33,.int .i64 (0))],[],hU ps,[]⟩:St)=some (zp.exit 0,(⟨[(0,code ps),(1,.ptr 0 0 0 1),(2,.ptr 1 0 0 1),(3,.int .i64 (iter (fun (i:Int) (a:Int)=>wV ps (i+1).toNat) ((ps.length:Int)-0).toNat (0) a0)),(31,zb ps),(32,.int .i64 ps.length),(33,.int .i64 (ps.length))],[],hU ps,[]⟩:St))∧(iter (fun (i:Int) (a:Int)=>wV ps (i+1).toNat) ((ps.length:Int)-0).toNat (0) a0)=wV ps ((ps.length):Int).toNat:=by
 refine vk (fun i (a:Int)=>(⟨[(0,code ps),(1,.ptr 0 0 0 1),(2,.ptr 1 0 0 1),(3,.int .i64 a),(31,zb ps),(32,.int .i64 ps.length),(33,.int .i64 i)],[],hU ps,[]⟩:St)) (fun (i:Int) (a:Int)=>wV ps (i+1).toNat) (fun i (a:Int)=>a=wV ps (i:Int).toNat) (fun a=>(zp.exit 0,(⟨[(0,code ps),(1,.ptr 0 0 0 1),(2,.ptr 1 0 0 1),(3,.int .i64 a),(31,zb ps),(32,.int .i64 ps.length),(33,.int .i64 (ps.length))],[],hU ps,[]⟩:St))) (0) (ps.length) ?_ ?_ (0) a0 (by omega) (by omega) hok0
 ·intro i a hi hn hok
  have hs:=zgP ps hi hn;have hs2:=zaN ps i.toNat;have hs3:=zaN ps (i+1).toNat
  refine ⟨⟨_,by simp -implicitDefEqProofs +contextual (disch:=omega) only [Jg,zg, ↓XD,XU, ↓reduceIte,sevalprocAttr,hU,code,zb,zc.cells,zj,hs,hn,hok];rfl,by first|(simp [St.next,zW];done)|(simp [St.next,zW];omega)|(simp [St.next,trim,bare,zt,refs];done)⟩,by rfl⟩
 ·rintro i a hi rfl hok
  refine ⟨by simp -implicitDefEqProofs +contextual (disch:=omega) only [Jg,zg, ↓XD,XU, ↓reduceIte,sevalprocAttr,hU,code,zb,zc.cells,zj,Int.lt_irrefl,hok],by simp⟩
theorem zA6 (ps:List zc) (t:Int) (hb:ps.length≤1048576) (hs:uK ps):match z8 (fun (j:Int)=>¬jr (za ps j) j) 0 ps.length with|some j=>∃ st,EV A (.loop (zK 1)) (⟨[(0,code ps),(1,.ptr 0 0 0 1),(2,.ptr 1 0 0 1),(3,.int .i64 t),(31,zb ps),(32,.int .i64 ps.length),(33,.int .i64 ps.length),(59,zb ps),(60,.int .i64 ps.length),(61,.int .i64 (0))],[],hU ps,[]⟩:St)=some (.ret,st)∧yc 2 1 3 (wu 2 j 0) st|none=>EV A (.loop (zK 1)) (⟨[(0,code ps),(1,.ptr 0 0 0 1),(2,.ptr 1 0 0 1),(3,.int .i64 t),(31,zb ps),(32,.int .i64 ps.length),(33,.int .i64 ps.length),(59,zb ps),(60,.int .i64 ps.length),(61,.int .i64 (0))],[],hU ps,[]⟩:St)=some (zp.exit 2,(⟨[(0,code ps),(1,.ptr 0 0 0 1),(2,.ptr 1 0 0 1),(3,.int .i64 t),(31,zb ps),(32,.int .i64 ps.length),(33,.int .i64 ps.length),(59,zb ps),(60,.int .i64 ps.length),(61,.int .i64 (ps.length))],[],hU ps,[]⟩:St)):=by
 refine yt (fun i=>(⟨[(0,code ps),(1,.ptr 0 0 0 1),(2,.ptr 1 0 0 1),(3,.int .i64 t),(31,zb ps),(32,.int .i64 ps.length),(33,.int .i64 ps.length),(59,zb ps),(60,.int .i64 ps.length),(61,.int .i64 i)],[],hU ps,[]⟩:St)) (fun (j:Int)=>¬jr (za ps j) j) (fun (j:Int) (st:St)=>yc 2 1 3 (wu 2 j 0) st) (zp.exit 2,(⟨[(0,code ps),(1,.ptr 0 0 0 1),(2,.ptr 1 0 0 1),(3,.int .i64 t),(31,zb ps),(32,.int .i64 ps.length),(33,.int .i64 ps.length),(59,zb ps),(60,.int .i64 ps.length),(61,.int .i64 (ps.length))],[],hU ps,[]⟩:St)) (0) (ps.length) ?_ ?_ ?_ (0) (by omega) (by omega)
 ·intro i hi hn hp
  simp only [Classical.not_not] at hp
  obtain ⟨⟨⟨⟨⟨⟨hN,hL⟩,hR⟩,hP'⟩,hUp⟩,hC⟩,hZ⟩:=hp
  have hN':¬(40:Int)<(za ps i).Name.size:=by omega
  have hUp':¬(250:Int)<(za ps i).Ups.length:=by omega
  have hC':¬(500:Int)<(za ps i).Consts.length:=by omega
  by_cases hr:(za ps i).Rest=true
  ·simp only [uQ,hr,if_true,if_false,Bool.false_eq_true] at hP'
   by_cases h0:i=0
   ·subst h0
    have hz:(za ps 0).Params=0∧(za ps 0).Ups.length=0:=by omega
    have hz1:¬0<(za ps 0).Params:=by omega
    have hz2:¬(0:Int)<(za ps 0).Ups.length:=by omega
    refine ⟨_,by (simp -implicitDefEqProofs +contextual (disch:=omega) only [yi,zg,hU,hP,code,zb,zc.cells,ups,zf,zj,zm,zN, ↓XD,XU, ↓reduceIte,sevalprocAttr,hn,hr,hN',hL,hR,hP',hUp',hC',hz1,hz2])<;>rfl,by simp [St.next,trim,bare,zt,refs]⟩
   ·refine ⟨_,by (simp -implicitDefEqProofs +contextual (disch:=omega) only [yi,zg,hU,hP,code,zb,zc.cells,ups,zf,zj,zm,zN, ↓XD,XU, ↓reduceIte,sevalprocAttr,hn,hr,hN',hL,hR,hP',hUp',hC',h0])<;>rfl,by simp [St.next,trim,bare,zt,refs]⟩
  ·simp only [uQ,hr,if_true,if_false,Bool.false_eq_true] at hP'
   by_cases h0:i=0
   ·subst h0
    have hz:(za ps 0).Params=0∧(za ps 0).Ups.length=0:=by omega
    have hz1:¬0<(za ps 0).Params:=by omega
    have hz2:¬(0:Int)<(za ps 0).Ups.length:=by omega
    refine ⟨_,by (simp -implicitDefEqProofs +contextual (disch:=omega) only [yi,zg,hU,hP,code,zb,zc.cells,ups,zf,zj,zm,zN, ↓XD,XU, ↓reduceIte,sevalprocAttr,hn,hr,hN',hL,hR,hP',hUp',hC',hz1,hz2])<;>rfl,by simp [St.next,trim,bare,zt,refs]⟩
   ·refine ⟨_,by (simp -implicitDefEqProofs +contextual (disch:=omega) only [yi,zg,hU,hP,code,zb,zc.cells,ups,zf,zj,zm,zN, ↓XD,XU, ↓reduceIte,sevalprocAttr,hn,hr,hN',hL,hR,hP',hUp',hC',h0])<;>rfl,by simp [St.next,trim,bare,zt,refs]⟩
 ·intro i hi hn hp
  have hu:=(hs i).u
  have hc:=(hs i).c
  by_cases hN:(40:Int)<(za ps i).Name.size
  ·skip
   by_cases hr:(za ps i).Rest=true
   ·refine ⟨_,by (simp -implicitDefEqProofs +contextual (disch:=omega) only [yi,zg,hU,hP,code,zb,zc.cells,ups,zf,zj,zm,zN, ↓XD,XU, ↓reduceIte,sevalprocAttr,hn,hr,hN])<;>rfl,by simp [yc,zk.get,zk.put]⟩
   ·refine ⟨_,by (simp -implicitDefEqProofs +contextual (disch:=omega) only [yi,zg,hU,hP,code,zb,zc.cells,ups,zf,zj,zm,zN, ↓XD,XU, ↓reduceIte,sevalprocAttr,hn,hr,hN])<;>rfl,by simp [yc,zk.get,zk.put]⟩
  by_cases hL:¬(0≤(za ps i).Line∧(za ps i).Line≤100000)
  ·skip
   by_cases hr:(za ps i).Rest=true
   ·refine ⟨_,by (simp -implicitDefEqProofs +contextual (disch:=omega) only [yi,zg,hU,hP,code,zb,zc.cells,ups,zf,zj,zm,zN, ↓XD,XU, ↓reduceIte,sevalprocAttr,hn,hr,hN,hL])<;>rfl,by simp [yc,zk.get,zk.put]⟩
   ·refine ⟨_,by (simp -implicitDefEqProofs +contextual (disch:=omega) only [yi,zg,hU,hP,code,zb,zc.cells,ups,zf,zj,zm,zN, ↓XD,XU, ↓reduceIte,sevalprocAttr,hn,hr,hN,hL])<;>rfl,by simp [yc,zk.get,zk.put]⟩
  replace hL:=Classical.not_not.1 hL
  by_cases hR:¬(0≤(za ps i).Regs∧(za ps i).Regs≤250)
  ·skip
   by_cases hr:(za ps i).Rest=true
   ·refine ⟨_,by (simp -implicitDefEqProofs +contextual (disch:=omega) only [yi,zg,hU,hP,code,zb,zc.cells,ups,zf,zj,zm,zN, ↓XD,XU, ↓reduceIte,sevalprocAttr,hn,hr,hN,hL,hR])<;>rfl,by simp [yc,zk.get,zk.put]⟩
   ·refine ⟨_,by (simp -implicitDefEqProofs +contextual (disch:=omega) only [yi,zg,hU,hP,code,zb,zc.cells,ups,zf,zj,zm,zN, ↓XD,XU, ↓reduceIte,sevalprocAttr,hn,hr,hN,hL,hR])<;>rfl,by simp [yc,zk.get,zk.put]⟩
  replace hR:=Classical.not_not.1 hR
  by_cases hM:¬(0≤(za ps i).Params∧(za ps i).Params≤uQ (za ps i))
  ·skip
   by_cases hr:(za ps i).Rest=true
   ·simp only [uQ,hr,if_true] at hM
    refine ⟨_,by (simp -implicitDefEqProofs +contextual (disch:=omega) only [yi,zg,hU,hP,code,zb,zc.cells,ups,zf,zj,zm,zN, ↓XD,XU, ↓reduceIte,sevalprocAttr,hn,hr,hN,hL,hR,hM])<;>rfl,by simp [yc,zk.get,zk.put]⟩
   ·simp only [uQ,hr,if_false,Bool.false_eq_true] at hM
    refine ⟨_,by (simp -implicitDefEqProofs +contextual (disch:=omega) only [yi,zg,hU,hP,code,zb,zc.cells,ups,zf,zj,zm,zN, ↓XD,XU, ↓reduceIte,sevalprocAttr,hn,hr,hN,hL,hR,hM])<;>rfl,by simp [yc,zk.get,zk.put]⟩
  replace hM:=Classical.not_not.1 hM
  by_cases hUp:(250:Int)<(za ps i).Ups.length
  ·skip
   by_cases hr:(za ps i).Rest=true
   ·simp only [uQ,hr,if_true] at hM
    refine ⟨_,by (simp -implicitDefEqProofs +contextual (disch:=omega) only [yi,zg,hU,hP,code,zb,zc.cells,ups,zf,zj,zm,zN, ↓XD,XU, ↓reduceIte,sevalprocAttr,hn,hr,hN,hL,hR,hM,hUp])<;>rfl,by simp [yc,zk.get,zk.put]⟩
   ·simp only [uQ,hr,if_false,Bool.false_eq_true] at hM
    refine ⟨_,by (simp -implicitDefEqProofs +contextual (disch:=omega) only [yi,zg,hU,hP,code,zb,zc.cells,ups,zf,zj,zm,zN, ↓XD,XU, ↓reduceIte,sevalprocAttr,hn,hr,hN,hL,hR,hM,hUp])<;>rfl,by simp [yc,zk.get,zk.put]⟩
  by_cases hC:(500:Int)<(za ps i).Consts.length
  ·skip
   by_cases hr:(za ps i).Rest=true
   ·simp only [uQ,hr,if_true] at hM
    refine ⟨_,by (simp -implicitDefEqProofs +contextual (disch:=omega) only [yi,zg,hU,hP,code,zb,zc.cells,ups,zf,zj,zm,zN, ↓XD,XU, ↓reduceIte,sevalprocAttr,hn,hr,hN,hL,hR,hM,hUp,hC])<;>rfl,by simp [yc,zk.get,zk.put]⟩
   ·simp only [uQ,hr,if_false,Bool.false_eq_true] at hM
    refine ⟨_,by (simp -implicitDefEqProofs +contextual (disch:=omega) only [yi,zg,hU,hP,code,zb,zc.cells,ups,zf,zj,zm,zN, ↓XD,XU, ↓reduceIte,sevalprocAttr,hn,hr,hN,hL,hR,hM,hUp,hC])<;>rfl,by simp [yc,zk.get,zk.put]⟩
  have h0:i=0:=by
   by_cases h0:i=0
   ·exact h0
   ·exact absurd ⟨⟨⟨⟨⟨⟨by omega,hL⟩,hR⟩,hM⟩,by omega⟩,by omega⟩,.inl (by omega)⟩ hp
  subst h0
  by_cases hz1:0<(za ps 0).Params
  ·skip
   by_cases hr:(za ps 0).Rest=true
   ·simp only [uQ,hr,if_true] at hM
    refine ⟨_,by (simp -implicitDefEqProofs +contextual (disch:=omega) only [yi,zg,hU,hP,code,zb,zc.cells,ups,zf,zj,zm,zN, ↓XD,XU, ↓reduceIte,sevalprocAttr,hn,hr,hN,hL,hR,hM,hUp,hC,hz1])<;>rfl,by simp [yc,zk.get,zk.put]⟩
   ·simp only [uQ,hr,if_false,Bool.false_eq_true] at hM
    refine ⟨_,by (simp -implicitDefEqProofs +contextual (disch:=omega) only [yi,zg,hU,hP,code,zb,zc.cells,ups,zf,zj,zm,zN, ↓XD,XU, ↓reduceIte,sevalprocAttr,hn,hr,hN,hL,hR,hM,hUp,hC,hz1])<;>rfl,by simp [yc,zk.get,zk.put]⟩
  have hz2:(0:Int)<(za ps 0).Ups.length:=by
   by_cases h0:(0:Int)<(za ps 0).Ups.length
   ·exact h0
   ·exact absurd ⟨⟨⟨⟨⟨⟨by omega,hL⟩,hR⟩,hM⟩,by omega⟩,by omega⟩,.inr ⟨by omega,by omega⟩⟩ hp
  by_cases hr:(za ps 0).Rest=true
  ·simp only [uQ,hr,if_true] at hM
   refine ⟨_,by (simp -implicitDefEqProofs +contextual (disch:=omega) only [yi,zg,hU,hP,code,zb,zc.cells,ups,zf,zj,zm,zN, ↓XD,XU, ↓reduceIte,sevalprocAttr,hn,hr,hN,hL,hR,hM,hUp,hC,hz1,hz2])<;>rfl,by simp [yc,zk.get,zk.put]⟩
  ·simp only [uQ,hr,if_false,Bool.false_eq_true] at hM
   refine ⟨_,by (simp -implicitDefEqProofs +contextual (disch:=omega) only [yi,zg,hU,hP,code,zb,zc.cells,ups,zf,zj,zm,zN, ↓XD,XU, ↓reduceIte,sevalprocAttr,hn,hr,hN,hL,hR,hM,hUp,hC,hz1,hz2])<;>rfl,by simp [yc,zk.get,zk.put]⟩
 ·rintro i hi rfl
  refine ⟨by simp -implicitDefEqProofs +contextual (disch:=omega) only [yi,zg, ↓XD,XU, ↓reduceIte,sevalprocAttr,hU,code,zb,Int.lt_irrefl],by simp⟩
theorem zxZ (ps:List zc) (t fi:Int) (f:zc) (hb:ps.length≤1048576) (hs:zdj f):match z8 (fun (j:Int)=>¬ZV (za f.Consts j)) 0 f.Consts.length with|some j=>∃ st,EV A (.loop (zK 3)) (⟨[(0,code ps),(1,.ptr 0 0 0 1),(2,.ptr 1 0 0 1),(3,.int .i64 t),(31,zb ps),(32,.int .i64 ps.length),(33,.int .i64 ps.length),(59,zb ps),(60,.int .i64 ps.length),(61,.int .i64 ps.length),(126,zb ps),(127,.int .i64 ps.length),(128,.int .i64 fi),(10,.ptr 2 0 0 1),(9,.int .i64 fi),(134,zf f.Consts),(135,.int .i64 f.Consts.length),(136,.int .i64 (0))],[],hP ps f,[]⟩:St)=some (.ret,st)∧yc 2 1 3 (wu 3 fi j) st|none=>EV A (.loop (zK 3)) (⟨[(0,code ps),(1,.ptr 0 0 0 1),(2,.ptr 1 0 0 1),(3,.int .i64 t),(31,zb ps),(32,.int .i64 ps.length),(33,.int .i64 ps.length),(59,zb ps),(60,.int .i64 ps.length),(61,.int .i64 ps.length),(126,zb ps),(127,.int .i64 ps.length),(128,.int .i64 fi),(10,.ptr 2 0 0 1),(9,.int .i64 fi),(134,zf f.Consts),(135,.int .i64 f.Consts.length),(136,.int .i64 (0))],[],hP ps f,[]⟩:St)=some (zp.exit 6,(⟨[(0,code ps),(1,.ptr 0 0 0 1),(2,.ptr 1 0 0 1),(3,.int .i64 t),(31,zb ps),(32,.int .i64 ps.length),(33,.int .i64 ps.length),(59,zb ps),(60,.int .i64 ps.length),(61,.int .i64 ps.length),(126,zb ps),(127,.int .i64 ps.length),(128,.int .i64 fi),(10,.ptr 2 0 0 1),(9,.int .i64 fi),(134,zf f.Consts),(135,.int .i64 f.Consts.length),(136,.int .i64 (f.Consts.length))],[],hP ps f,[]⟩:St)):=by
 refine yt (fun i=>(⟨[(0,code ps),(1,.ptr 0 0 0 1),(2,.ptr 1 0 0 1),(3,.int .i64 t),(31,zb ps),(32,.int .i64 ps.length),(33,.int .i64 ps.length),(59,zb ps),(60,.int .i64 ps.length),(61,.int .i64 ps.length),(126,zb ps),(127,.int .i64 ps.length),(128,.int .i64 fi),(10,.ptr 2 0 0 1),(9,.int .i64 fi),(134,zf f.Consts),(135,.int .i64 f.Consts.length),(136,.int .i64 i)],[],hP ps f,[]⟩:St)) (fun (j:Int)=>¬ZV (za f.Consts j)) (fun (j:Int) (st:St)=>yc 2 1 3 (wu 3 fi j) st) (zp.exit 6,(⟨[(0,code ps),(1,.ptr 0 0 0 1),(2,.ptr 1 0 0 1),(3,.int .i64 t),(31,zb ps),(32,.int .i64 ps.length),(33,.int .i64 ps.length),(59,zb ps),(60,.int .i64 ps.length),(61,.int .i64 ps.length),(126,zb ps),(127,.int .i64 ps.length),(128,.int .i64 fi),(10,.ptr 2 0 0 1),(9,.int .i64 fi),(134,zf f.Consts),(135,.int .i64 f.Consts.length),(136,.int .i64 (f.Consts.length))],[],hP ps f,[]⟩:St)) (0) (f.Consts.length) ?_ ?_ ?_ (0) (by omega) (by omega)
 ·intro i hi hn hp
  have hc:=hs.c;have hz:=zhW (za f.Consts i);simp only [yk.cells] at hz
  simp only [Classical.not_not] at hp
  obtain ⟨hv,h5,h6,h7,h3',h3n⟩:=hp
  by_cases h3:(za f.Consts i).Kind=3
  ·have ho:=h3' h3
   simp only [hv,h3] at hz
   refine ⟨_,by (simp -implicitDefEqProofs +contextual (disch:=omega) only [wm,zg,hU,hP,code,zb,zc.cells,ups,zf,zj,zm,yk.cells,zN, ↓XD,XU, ↓reduceIte,sevalprocAttr,hn,hz,hv,h3,ho])<;>rfl,by simp [St.next,trim,bare,zt,refs]⟩
  ·have ho:=h3n h3
   have hS:=zhU 0
   simp only [hv,ho] at hz
   refine ⟨_,by (simp -implicitDefEqProofs +contextual (disch:=omega) only [wm,zg,hU,hP,code,zb,zc.cells,ups,zf,zj,zm,yk.cells,zN, ↓XD,XU, ↓reduceIte,sevalprocAttr,hn,hz,hv,h3,h5,h6,h7,ho,hS,sb0])<;>rfl,by simp [St.next,trim,bare,zt,refs]⟩
 ·intro i hi hn hp
  have hc:=hs.c;have hz:=zhW (za f.Consts i);simp only [yk.cells] at hz
  have hS:=zhU 9223372036854775808
  by_cases hv:¬ZW (za f.Consts i)
  ·simp only [hv] at hz
   refine ⟨_,by (simp -implicitDefEqProofs +contextual (disch:=omega) only [wm,zg,hU,hP,code,zb,zc.cells,ups,zf,zj,zm,yk.cells,zN, ↓XD,XU, ↓reduceIte,sevalprocAttr,hn,hz,hv])<;>rfl,by simp [yc,zk.get,zk.put]⟩
  replace hv:=Classical.not_not.1 hv
  by_cases h5:(za f.Consts i).Kind=5
  ·simp only [hv,h5] at hz
   refine ⟨_,by (simp -implicitDefEqProofs +contextual (disch:=omega) only [wm,zg,hU,hP,code,zb,zc.cells,ups,zf,zj,zm,yk.cells,zN, ↓XD,XU, ↓reduceIte,sevalprocAttr,hn,hz,hv,h5])<;>rfl,by simp [yc,zk.get,zk.put]⟩
  by_cases h6:(za f.Consts i).Kind=6
  ·simp only [hv,h6] at hz
   refine ⟨_,by (simp -implicitDefEqProofs +contextual (disch:=omega) only [wm,zg,hU,hP,code,zb,zc.cells,ups,zf,zj,zm,yk.cells,zN, ↓XD,XU, ↓reduceIte,sevalprocAttr,hn,hz,hv,h6])<;>rfl,by simp [yc,zk.get,zk.put]⟩
  by_cases h7:(za f.Consts i).Kind=7
  ·simp only [hv,h7] at hz
   refine ⟨_,by (simp -implicitDefEqProofs +contextual (disch:=omega) only [wm,zg,hU,hP,code,zb,zc.cells,ups,zf,zj,zm,yk.cells,zN, ↓XD,XU, ↓reduceIte,sevalprocAttr,hn,hz,hv,h7])<;>rfl,by simp [yc,zk.get,zk.put]⟩
  by_cases h3:(za f.Consts i).Kind=3
  ·have ho:¬FloatKind.f64.format.order (za f.Consts i).Flt (za f.Consts i).Flt=some .eq:=fun ho=>hp ⟨hv,h5,h6,h7,fun _=>ho,fun h=>absurd h3 h⟩
   simp only [hv,h3] at hz
   refine ⟨_,by (simp -implicitDefEqProofs +contextual (disch:=omega) only [wm,zg,hU,hP,code,zb,zc.cells,ups,zf,zj,zm,yk.cells,zN, ↓XD,XU, ↓reduceIte,sevalprocAttr,hn,hz,hv,h3,ho])<;>rfl,by simp [yc,zk.get,zk.put]⟩
  have ho:(za f.Consts i).Flt=9223372036854775808:=by
   rcases (zin (hs.f i)).1 (zo4 hv h3) with h|h
   ·exact absurd ⟨hv,h5,h6,h7,fun h=>absurd h h3,fun _=>h⟩ hp
   ·exact h
  simp only [hv,ho] at hz
  refine ⟨_,by (simp -implicitDefEqProofs +contextual (disch:=omega) only [wm,zg,hU,hP,code,zb,zc.cells,ups,zf,zj,zm,yk.cells,zN, ↓XD,XU, ↓reduceIte,sevalprocAttr,hn,hz,hv,h3,h5,h6,h7,ho,hS,sb1])<;>rfl,by simp [yc,zk.get,zk.put]⟩
 ·rintro i hi rfl
  refine ⟨by simp -implicitDefEqProofs +contextual (disch:=omega) only [wm,zg, ↓XD,XU, ↓reduceIte,sevalprocAttr,hP,code,zb,zc.cells,zf,yk.cells,Int.lt_irrefl],by simp⟩
theorem zA7 (ps:List zc) (t:Int) (hb:ps.length≤1048576) (hs:uK ps):match z8 (fun (j:Int)=>uo ps j≠none) 0 ps.length with|some j=>∃ st,EV A (.loop (zK 2)) (⟨[(0,code ps),(1,.ptr 0 0 0 1),(2,.ptr 1 0 0 1),(3,.int .i64 t),(31,zb ps),(32,.int .i64 ps.length),(33,.int .i64 ps.length),(59,zb ps),(60,.int .i64 ps.length),(61,.int .i64 ps.length),(126,zb ps),(127,.int .i64 ps.length),(128,.int .i64 (0))],[],hU ps,[]⟩:St)=some (.ret,st)∧yc 2 1 3 (wu 3 j ((uo ps j).getD 0)) st|none=>EV A (.loop (zK 2)) (⟨[(0,code ps),(1,.ptr 0 0 0 1),(2,.ptr 1 0 0 1),(3,.int .i64 t),(31,zb ps),(32,.int .i64 ps.length),(33,.int .i64 ps.length),(59,zb ps),(60,.int .i64 ps.length),(61,.int .i64 ps.length),(126,zb ps),(127,.int .i64 ps.length),(128,.int .i64 (0))],[],hU ps,[]⟩:St)=some (zp.exit 4,(⟨[(0,code ps),(1,.ptr 0 0 0 1),(2,.ptr 1 0 0 1),(3,.int .i64 t),(31,zb ps),(32,.int .i64 ps.length),(33,.int .i64 ps.length),(59,zb ps),(60,.int .i64 ps.length),(61,.int .i64 ps.length),(126,zb ps),(127,.int .i64 ps.length),(128,.int .i64 (ps.length))],[],hU ps,[]⟩:St)):=by
 refine yt (fun i=>(⟨[(0,code ps),(1,.ptr 0 0 0 1),(2,.ptr 1 0 0 1),(3,.int .i64 t),(31,zb ps),(32,.int .i64 ps.length),(33,.int .i64 ps.length),(59,zb ps),(60,.int .i64 ps.length),(61,.int .i64 ps.length),(126,zb ps),(127,.int .i64 ps.length),(128,.int .i64 i)],[],hU ps,[]⟩:St)) (fun (j:Int)=>uo ps j≠none) (fun (j:Int) (st:St)=>yc 2 1 3 (wu 3 j ((uo ps j).getD 0)) st) (zp.exit 4,(⟨[(0,code ps),(1,.ptr 0 0 0 1),(2,.ptr 1 0 0 1),(3,.int .i64 t),(31,zb ps),(32,.int .i64 ps.length),(33,.int .i64 ps.length),(59,zb ps),(60,.int .i64 ps.length),(61,.int .i64 ps.length),(126,zb ps),(127,.int .i64 ps.length),(128,.int .i64 (ps.length))],[],hU ps,[]⟩:St)) (0) (ps.length) ?_ ?_ ?_ (0) (by omega) (by omega)
 ·intro i hi hn hp
  try simp only [Classical.not_not] at hp
  have hl:=zxZ ps t i (za ps i) hb (hs i)
  have hp':uo ps i=none:=(by simpa using hp);unfold uo at hp';rw [hp'] at hl
  refine ⟨_,by simp -implicitDefEqProofs +contextual (disch:=omega) only [YF,zg, ↓XD,XU, ↓reduceIte,sevalprocAttr,hU,hP,code,zb,zc.cells,zf,ups,zj,zm,hl,hn,hp];rfl,by first|(simp [St.next,zW];done)|(simp [St.next,zW];omega)|(simp [St.next,trim,bare,zt,refs];done)⟩
 ·intro i hi hn hp
  have hl:=zxZ ps t i (za ps i) hb (hs i)
  obtain ⟨k,hk⟩:=Option.ne_none_iff_exists'.1 hp;unfold uo at hk;rw [hk] at hl;obtain ⟨st,hl,hg⟩:=hl
  refine ⟨_,by simp -implicitDefEqProofs +contextual (disch:=omega) only [YF,zg, ↓XD,XU, ↓reduceIte,sevalprocAttr,hU,hP,code,zb,zc.cells,zf,ups,zj,zm,hl,hn,hp];rfl,by unfold uo;rw [hk];exact hg⟩
 ·rintro i hi rfl
  refine ⟨by simp -implicitDefEqProofs +contextual (disch:=omega) only [YF,zg, ↓XD,XU, ↓reduceIte,sevalprocAttr,hU,hP,code,zb,zc.cells,zf,ups,zj,zm,Int.lt_irrefl],by simp⟩
def zlA (p:zc) (n:xn) (i:Int):Prop:=((1≤(n.Name.size:Int)∧(n.Name.size:Int)≤40)∧(0≤n.Reg∧n.Reg≤p.Regs-1)∧0≤n.From∧n.From≤n.To∧n.To≤p.Ins.length)∧¬i=500
theorem zx0 (ps:List zc) (t fi:Int) (f:zc) (hb:ps.length≤1048576) (hs:Xn f):match z8 (fun (j:Int)=>¬zlA f (za f.Named j) j) 0 f.Named.length with|some j=>∃ st,EV A (.loop (zK 5)) (⟨[(0,code ps),(1,.ptr 0 0 0 1),(2,.ptr 1 0 0 1),(3,.int .i64 t),(31,zb ps),(32,.int .i64 ps.length),(33,.int .i64 ps.length),(59,zb ps),(60,.int .i64 ps.length),(61,.int .i64 ps.length),(126,zb ps),(127,.int .i64 ps.length),(128,.int .i64 ps.length),(187,zb ps),(188,.int .i64 ps.length),(189,.int .i64 fi),(14,.ptr 2 0 0 1),(13,.int .i64 fi),(195,zm f.Named),(196,.int .i64 f.Named.length),(197,.int .i64 (0))],[],hP ps f,[]⟩:St)=some (.ret,st)∧yc 2 1 3 (wu 4 fi j) st|none=>EV A (.loop (zK 5)) (⟨[(0,code ps),(1,.ptr 0 0 0 1),(2,.ptr 1 0 0 1),(3,.int .i64 t),(31,zb ps),(32,.int .i64 ps.length),(33,.int .i64 ps.length),(59,zb ps),(60,.int .i64 ps.length),(61,.int .i64 ps.length),(126,zb ps),(127,.int .i64 ps.length),(128,.int .i64 ps.length),(187,zb ps),(188,.int .i64 ps.length),(189,.int .i64 fi),(14,.ptr 2 0 0 1),(13,.int .i64 fi),(195,zm f.Named),(196,.int .i64 f.Named.length),(197,.int .i64 (0))],[],hP ps f,[]⟩:St)=some (zp.exit 10,(⟨[(0,code ps),(1,.ptr 0 0 0 1),(2,.ptr 1 0 0 1),(3,.int .i64 t),(31,zb ps),(32,.int .i64 ps.length),(33,.int .i64 ps.length),(59,zb ps),(60,.int .i64 ps.length),(61,.int .i64 ps.length),(126,zb ps),(127,.int .i64 ps.length),(128,.int .i64 ps.length),(187,zb ps),(188,.int .i64 ps.length),(189,.int .i64 fi),(14,.ptr 2 0 0 1),(13,.int .i64 fi),(195,zm f.Named),(196,.int .i64 f.Named.length),(197,.int .i64 (f.Named.length))],[],hP ps f,[]⟩:St)):=by
 refine yt (fun i=>(⟨[(0,code ps),(1,.ptr 0 0 0 1),(2,.ptr 1 0 0 1),(3,.int .i64 t),(31,zb ps),(32,.int .i64 ps.length),(33,.int .i64 ps.length),(59,zb ps),(60,.int .i64 ps.length),(61,.int .i64 ps.length),(126,zb ps),(127,.int .i64 ps.length),(128,.int .i64 ps.length),(187,zb ps),(188,.int .i64 ps.length),(189,.int .i64 fi),(14,.ptr 2 0 0 1),(13,.int .i64 fi),(195,zm f.Named),(196,.int .i64 f.Named.length),(197,.int .i64 i)],[],hP ps f,[]⟩:St)) (fun (j:Int)=>¬zlA f (za f.Named j) j) (fun (j:Int) (st:St)=>yc 2 1 3 (wu 4 fi j) st) (zp.exit 10,(⟨[(0,code ps),(1,.ptr 0 0 0 1),(2,.ptr 1 0 0 1),(3,.int .i64 t),(31,zb ps),(32,.int .i64 ps.length),(33,.int .i64 ps.length),(59,zb ps),(60,.int .i64 ps.length),(61,.int .i64 ps.length),(126,zb ps),(127,.int .i64 ps.length),(128,.int .i64 ps.length),(187,zb ps),(188,.int .i64 ps.length),(189,.int .i64 fi),(14,.ptr 2 0 0 1),(13,.int .i64 fi),(195,zm f.Named),(196,.int .i64 f.Named.length),(197,.int .i64 (f.Named.length))],[],hP ps f,[]⟩:St)) (0) (f.Named.length) ?_ ?_ ?_ (0) (by omega) (by omega)
 ·intro i hi hn hp
  have q1:=hs.r0;have q2:=hs.r1;have q3:=hs.n;have q4:=hs.i
  simp only [Classical.not_not] at hp
  obtain ⟨⟨⟨a1,a2⟩,a3,a4,a5,a6⟩,a7⟩:=hp
  have c1:¬(((za f.Named i).Name.size:Int)<1):=by omega
  have c2:¬((40:Int)<(za f.Named i).Name.size):=by omega
  have c3:(0≤(za f.Named i).Reg∧(za f.Named i).Reg≤f.Regs-1):=by omega
  have c4:¬((za f.Named i).From<0):=by omega
  have c5:¬((za f.Named i).To<(za f.Named i).From):=by omega
  have c6:¬((f.Ins.length:Int)<(za f.Named i).To):=by omega
  have c7:¬(i=500):=by omega
  refine ⟨_,by (simp -implicitDefEqProofs +contextual (disch:=omega) only [wn,zg,hU,hP,code,zb,zc.cells,ups,zf,zj,zm,xn.cells,zN, ↓XD,XU, ↓reduceIte,sevalprocAttr,hn,c1,c2,c3,c4,c5,c6,c7])<;>rfl,by simp [St.next,trim,bare,zt,refs]⟩
 ·intro i hi hn hp
  have q1:=hs.r0;have q2:=hs.r1;have q3:=hs.n;have q4:=hs.i
  by_cases c1:(((za f.Named i).Name.size:Int)<1)
  ·skip
   refine ⟨_,by (simp -implicitDefEqProofs +contextual (disch:=omega) only [wn,zg,hU,hP,code,zb,zc.cells,ups,zf,zj,zm,xn.cells,zN, ↓XD,XU, ↓reduceIte,sevalprocAttr,hn,c1])<;>rfl,by simp [yc,zk.get,zk.put]⟩
  by_cases c2:((40:Int)<(za f.Named i).Name.size)
  ·skip
   refine ⟨_,by (simp -implicitDefEqProofs +contextual (disch:=omega) only [wn,zg,hU,hP,code,zb,zc.cells,ups,zf,zj,zm,xn.cells,zN, ↓XD,XU, ↓reduceIte,sevalprocAttr,hn,c1,c2])<;>rfl,by simp [yc,zk.get,zk.put]⟩
  by_cases c3:¬(0≤(za f.Named i).Reg∧(za f.Named i).Reg≤f.Regs-1)
  ·skip
   refine ⟨_,by (simp -implicitDefEqProofs +contextual (disch:=omega) only [wn,zg,hU,hP,code,zb,zc.cells,ups,zf,zj,zm,xn.cells,zN, ↓XD,XU, ↓reduceIte,sevalprocAttr,hn,c1,c2,c3])<;>rfl,by simp [yc,zk.get,zk.put]⟩
  by_cases c4:((za f.Named i).From<0)
  ·skip
   refine ⟨_,by (simp -implicitDefEqProofs +contextual (disch:=omega) only [wn,zg,hU,hP,code,zb,zc.cells,ups,zf,zj,zm,xn.cells,zN, ↓XD,XU, ↓reduceIte,sevalprocAttr,hn,c1,c2,c3,c4])<;>rfl,by simp [yc,zk.get,zk.put]⟩
  by_cases c5:((za f.Named i).To<(za f.Named i).From)
  ·skip
   refine ⟨_,by (simp -implicitDefEqProofs +contextual (disch:=omega) only [wn,zg,hU,hP,code,zb,zc.cells,ups,zf,zj,zm,xn.cells,zN, ↓XD,XU, ↓reduceIte,sevalprocAttr,hn,c1,c2,c3,c4,c5])<;>rfl,by simp [yc,zk.get,zk.put]⟩
  by_cases c6:((f.Ins.length:Int)<(za f.Named i).To)
  ·skip
   refine ⟨_,by (simp -implicitDefEqProofs +contextual (disch:=omega) only [wn,zg,hU,hP,code,zb,zc.cells,ups,zf,zj,zm,xn.cells,zN, ↓XD,XU, ↓reduceIte,sevalprocAttr,hn,c1,c2,c3,c4,c5,c6])<;>rfl,by simp [yc,zk.get,zk.put]⟩
  have c7:i=500:=by
   by_cases c7:i=500
   ·exact c7
   ·exact absurd ⟨⟨⟨by omega,by omega⟩,Classical.not_not.1 c3,by omega,by omega,by omega⟩,c7⟩ hp
  subst c7
  refine ⟨_,by (simp -implicitDefEqProofs +contextual (disch:=omega) only [wn,zg,hU,hP,code,zb,zc.cells,ups,zf,zj,zm,xn.cells,zN, ↓XD,XU, ↓reduceIte,sevalprocAttr,hn,c1,c2,c3,c4,c5,c6])<;>rfl,by simp [yc,zk.get,zk.put]⟩
 ·rintro i hi rfl
  refine ⟨by simp -implicitDefEqProofs +contextual (disch:=omega) only [wn,zg, ↓XD,XU, ↓reduceIte,sevalprocAttr,hP,code,zb,zc.cells,zm,xn.cells,Int.lt_irrefl],by simp⟩
theorem zst {p q:Int→Prop} {n m:Int} (h1:∀ j,0≤j→j<n→j<m→(p j↔q j)) (m0:0≤m) (hp:m<n→p m) (hq:m<n→q m):z8 p 0 n=z8 q 0 n:=by
 have go:∀ {p q:Int→Prop},(∀ j,0≤j→j<n→j<m→(p j↔q j))→(m<n→p m)→(m<n→q m)→∀ k,z8 p 0 n=some k→z8 q 0 n=some k:=by
  intro p q h1 hp hq k hk
  obtain ⟨k0,k1,k2,k3⟩:=xH.1 hk
  have hkm:k≤m:=by
   by_cases h:k≤m
   ·exact h
   ·exact absurd (hp (by omega)) (k3 m m0 (by omega))
  refine xH.2 ⟨k0,k1,?_,fun j j0 j1=>?_⟩
  ·by_cases h:k<m
   ·exact (h1 k k0 k1 h).1 k2
   ·have:k=m:=by omega
    subst this;exact hq k1
  ·have:=k3 j j0 j1
   exact fun hj=>this ((h1 j j0 (by omega) (by omega)).2 hj)
 cases h:z8 p 0 n with
 |some k=>exact (go h1 hp hq k h).symm
 |none=>
  cases h2:z8 q 0 n with
  |none=>rfl
  |some k=>
   have:=go (fun j a b c=>(h1 j a b c).symm) hq hp k h2
   rw [h] at this;cases this
theorem zkg (ps:List zc) (p:Int):ji ps p=z8 (fun k=>¬zlA (za ps p) (za (za ps p).Named k) k) 0 (za ps p).Named.length:=by
 refine zst (m:=500) (fun j j0 j1 jm=>?_) (by omega) (fun h=>?_) (fun h=>?_)
 ·simp only [zg3,zlA]
  refine not_congr ⟨fun h=>⟨h.2,by omega⟩,fun h=>⟨by omega,h.1⟩⟩
 ·simp only [zg3];intro h;omega
 ·simp only [zlA];intro h;exact h.2 trivial
theorem zA8 (ps:List zc) (t:Int) (hb:ps.length≤1048576) (hs:∀ p:Int,0≤p→p<ps.length→Xn (za ps p)):match z8 (fun (j:Int)=>ji ps j≠none) 0 ps.length with|some j=>∃ st,EV A (.loop (zK 4)) (⟨[(0,code ps),(1,.ptr 0 0 0 1),(2,.ptr 1 0 0 1),(3,.int .i64 t),(31,zb ps),(32,.int .i64 ps.length),(33,.int .i64 ps.length),(59,zb ps),(60,.int .i64 ps.length),(61,.int .i64 ps.length),(126,zb ps),(127,.int .i64 ps.length),(128,.int .i64 ps.length),(187,zb ps),(188,.int .i64 ps.length),(189,.int .i64 (0))],[],hU ps,[]⟩:St)=some (.ret,st)∧yc 2 1 3 (wu 4 j ((ji ps j).getD 0)) st|none=>EV A (.loop (zK 4)) (⟨[(0,code ps),(1,.ptr 0 0 0 1),(2,.ptr 1 0 0 1),(3,.int .i64 t),(31,zb ps),(32,.int .i64 ps.length),(33,.int .i64 ps.length),(59,zb ps),(60,.int .i64 ps.length),(61,.int .i64 ps.length),(126,zb ps),(127,.int .i64 ps.length),(128,.int .i64 ps.length),(187,zb ps),(188,.int .i64 ps.length),(189,.int .i64 (0))],[],hU ps,[]⟩:St)=some (zp.exit 8,(⟨[(0,code ps),(1,.ptr 0 0 0 1),(2,.ptr 1 0 0 1),(3,.int .i64 t),(31,zb ps),(32,.int .i64 ps.length),(33,.int .i64 ps.length),(59,zb ps),(60,.int .i64 ps.length),(61,.int .i64 ps.length),(126,zb ps),(127,.int .i64 ps.length),(128,.int .i64 ps.length),(187,zb ps),(188,.int .i64 ps.length),(189,.int .i64 (ps.length))],[],hU ps,[]⟩:St)):=by
 refine yt (fun i=>(⟨[(0,code ps),(1,.ptr 0 0 0 1),(2,.ptr 1 0 0 1),(3,.int .i64 t),(31,zb ps),(32,.int .i64 ps.length),(33,.int .i64 ps.length),(59,zb ps),(60,.int .i64 ps.length),(61,.int .i64 ps.length),(126,zb ps),(127,.int .i64 ps.length),(128,.int .i64 ps.length),(187,zb ps),(188,.int .i64 ps.length),(189,.int .i64 i)],[],hU ps,[]⟩:St)) (fun (j:Int)=>ji ps j≠none) (fun (j:Int) (st:St)=>yc 2 1 3 (wu 4 j ((ji ps j).getD 0)) st) (zp.exit 8,(⟨[(0,code ps),(1,.ptr 0 0 0 1),(2,.ptr 1 0 0 1),(3,.int .i64 t),(31,zb ps),(32,.int .i64 ps.length),(33,.int .i64 ps.length),(59,zb ps),(60,.int .i64 ps.length),(61,.int .i64 ps.length),(126,zb ps),(127,.int .i64 ps.length),(128,.int .i64 ps.length),(187,zb ps),(188,.int .i64 ps.length),(189,.int .i64 (ps.length))],[],hU ps,[]⟩:St)) (0) (ps.length) ?_ ?_ ?_ (0) (by omega) (by omega)
 ·intro i hi hn hp
  try simp only [Classical.not_not] at hp
  have hl:=zx0 ps t i (za ps i) hb (hs i hi hn);rw [←zkg] at hl
  have hp':ji ps i=none:=(by simpa using hp);rw [hp'] at hl
  refine ⟨_,by simp -implicitDefEqProofs +contextual (disch:=omega) only [YG,zg, ↓XD,XU, ↓reduceIte,sevalprocAttr,hU,hP,code,zb,zc.cells,zf,ups,zj,zm,hl,hn,hp];rfl,by first|(simp [St.next,zW];done)|(simp [St.next,zW];omega)|(simp [St.next,trim,bare,zt,refs];done)⟩
 ·intro i hi hn hp
  have hl:=zx0 ps t i (za ps i) hb (hs i hi hn);rw [←zkg] at hl
  obtain ⟨k,hk⟩:=Option.ne_none_iff_exists'.1 hp;rw [hk] at hl;obtain ⟨st,hl,hg⟩:=hl
  refine ⟨_,by simp -implicitDefEqProofs +contextual (disch:=omega) only [YG,zg, ↓XD,XU, ↓reduceIte,sevalprocAttr,hU,hP,code,zb,zc.cells,zf,ups,zj,zm,hl,hn,hp];rfl,by rw [hk];exact hg⟩
 ·rintro i hi rfl
  refine ⟨by simp -implicitDefEqProofs +contextual (disch:=omega) only [YG,zg, ↓XD,XU, ↓reduceIte,sevalprocAttr,hU,hP,code,zb,zc.cells,zf,ups,zj,zm,Int.lt_irrefl],by simp⟩
theorem zx1 (ps:List zc) (t fi:Int) (f0:0≤fi) (f1:fi<ps.length) (hb:ps.length≤1048576) (hs:Xn (za ps fi)) (hS:zdj (za ps fi)):match z8 (fun (j:Int)=>¬jg ps fi j) 0 (za ps fi).Ins.length with|some j=>∃ st,EV A (.loop (zK 7)) (⟨[(0,code ps),(1,.ptr 0 0 0 1),(2,.ptr 1 0 0 1),(3,.int .i64 t),(31,zb ps),(32,.int .i64 ps.length),(33,.int .i64 ps.length),(59,zb ps),(60,.int .i64 ps.length),(61,.int .i64 ps.length),(126,zb ps),(127,.int .i64 ps.length),(128,.int .i64 ps.length),(187,zb ps),(188,.int .i64 ps.length),(189,.int .i64 ps.length),(251,zb ps),(252,.int .i64 ps.length),(253,.int .i64 fi),(18,.ptr 2 0 0 1),(17,.int .i64 fi),(265,zj (za ps fi).Ins),(266,.int .i64 (za ps fi).Ins.length),(267,.int .i64 (0))],[],hP ps (za ps fi),[]⟩:St)=some (.ret,st)∧yc 2 1 3 (wu 5 fi j) st|none=>EV A (.loop (zK 7)) (⟨[(0,code ps),(1,.ptr 0 0 0 1),(2,.ptr 1 0 0 1),(3,.int .i64 t),(31,zb ps),(32,.int .i64 ps.length),(33,.int .i64 ps.length),(59,zb ps),(60,.int .i64 ps.length),(61,.int .i64 ps.length),(126,zb ps),(127,.int .i64 ps.length),(128,.int .i64 ps.length),(187,zb ps),(188,.int .i64 ps.length),(189,.int .i64 ps.length),(251,zb ps),(252,.int .i64 ps.length),(253,.int .i64 fi),(18,.ptr 2 0 0 1),(17,.int .i64 fi),(265,zj (za ps fi).Ins),(266,.int .i64 (za ps fi).Ins.length),(267,.int .i64 (0))],[],hP ps (za ps fi),[]⟩:St)=some (zp.exit 14,(⟨[(0,code ps),(1,.ptr 0 0 0 1),(2,.ptr 1 0 0 1),(3,.int .i64 t),(31,zb ps),(32,.int .i64 ps.length),(33,.int .i64 ps.length),(59,zb ps),(60,.int .i64 ps.length),(61,.int .i64 ps.length),(126,zb ps),(127,.int .i64 ps.length),(128,.int .i64 ps.length),(187,zb ps),(188,.int .i64 ps.length),(189,.int .i64 ps.length),(251,zb ps),(252,.int .i64 ps.length),(253,.int .i64 fi),(18,.ptr 2 0 0 1),(17,.int .i64 fi),(265,zj (za ps fi).Ins),(266,.int .i64 (za ps fi).Ins.length),(267,.int .i64 ((za ps fi).Ins.length))],[],hP ps (za ps fi),[]⟩:St)):=by
 refine yt (fun i=>(⟨[(0,code ps),(1,.ptr 0 0 0 1),(2,.ptr 1 0 0 1),(3,.int .i64 t),(31,zb ps),(32,.int .i64 ps.length),(33,.int .i64 ps.length),(59,zb ps),(60,.int .i64 ps.length),(61,.int .i64 ps.length),(126,zb ps),(127,.int .i64 ps.length),(128,.int .i64 ps.length),(187,zb ps),(188,.int .i64 ps.length),(189,.int .i64 ps.length),(251,zb ps),(252,.int .i64 ps.length),(253,.int .i64 fi),(18,.ptr 2 0 0 1),(17,.int .i64 fi),(265,zj (za ps fi).Ins),(266,.int .i64 (za ps fi).Ins.length),(267,.int .i64 i)],[],hP ps (za ps fi),[]⟩:St)) (fun (j:Int)=>¬jg ps fi j) (fun (j:Int) (st:St)=>yc 2 1 3 (wu 5 fi j) st) (zp.exit 14,(⟨[(0,code ps),(1,.ptr 0 0 0 1),(2,.ptr 1 0 0 1),(3,.int .i64 t),(31,zb ps),(32,.int .i64 ps.length),(33,.int .i64 ps.length),(59,zb ps),(60,.int .i64 ps.length),(61,.int .i64 ps.length),(126,zb ps),(127,.int .i64 ps.length),(128,.int .i64 ps.length),(187,zb ps),(188,.int .i64 ps.length),(189,.int .i64 ps.length),(251,zb ps),(252,.int .i64 ps.length),(253,.int .i64 fi),(18,.ptr 2 0 0 1),(17,.int .i64 fi),(265,zj (za ps fi).Ins),(266,.int .i64 (za ps fi).Ins.length),(267,.int .i64 ((za ps fi).Ins.length))],[],hP ps (za ps fi),[]⟩:St)) (0) ((za ps fi).Ins.length) ?_ ?_ ?_ (0) (by omega) (by omega)
 ·intro i hi hn hp
  have hc:=hs.i;have hz:=zlY ps (za ps fi) (za (za ps fi).Ins i) (hS.x i) hb hs;simp only [code,zb,zc.cells,ups,zf,zj,zm,Ins.cells] at hz
  simp only [Classical.not_not] at hp
  obtain ⟨hI,hl⟩:=(zhg ps fi i hs).1 hp
  by_cases hL:i=((za ps fi).Ins.length:Int)-1
  ·subst hL
   by_cases h1:(za (za ps fi).Ins ((za ps fi).Ins.length-1)).Op=19
   ·simp only [hI,h1] at hz
    refine ⟨_,by (simp -implicitDefEqProofs +contextual (disch:=omega) only [wZ,zg,hU,hP,code,zb,zc.cells,ups,zf,zj,zm,Ins.cells,zN, ↓XD,XU, ↓reduceIte,sevalprocAttr,hn,hz,hI,h1])<;>rfl,by simp [St.next,trim,bare,zt,refs]⟩
   by_cases h2:(za (za ps fi).Ins ((za ps fi).Ins.length-1)).Op=29
   ·simp only [hI,h2] at hz
    refine ⟨_,by (simp -implicitDefEqProofs +contextual (disch:=omega) only [wZ,zg,hU,hP,code,zb,zc.cells,ups,zf,zj,zm,Ins.cells,zN, ↓XD,XU, ↓reduceIte,sevalprocAttr,hn,hz,hI,h2])<;>rfl,by simp [St.next,trim,bare,zt,refs]⟩
   have h3:(za (za ps fi).Ins ((za ps fi).Ins.length-1)).Op=30:=by
    rcases hl with h|h|h|h
    ·exact absurd rfl h
    ·exact absurd h h1
    ·exact absurd h h2
    ·exact h
   simp only [hI,h3] at hz
   refine ⟨_,by (simp -implicitDefEqProofs +contextual (disch:=omega) only [wZ,zg,hU,hP,code,zb,zc.cells,ups,zf,zj,zm,Ins.cells,zN, ↓XD,XU, ↓reduceIte,sevalprocAttr,hn,hz,hI,h3])<;>rfl,by simp [St.next,trim,bare,zt,refs]⟩
  ·skip
   refine ⟨_,by (simp -implicitDefEqProofs +contextual (disch:=omega) only [wZ,zg,hU,hP,code,zb,zc.cells,ups,zf,zj,zm,Ins.cells,zN, ↓XD,XU, ↓reduceIte,sevalprocAttr,hn,hz,hI,hL])<;>rfl,by simp [St.next,trim,bare,zt,refs]⟩
 ·intro i hi hn hp
  have hc:=hs.i;have hz:=zlY ps (za ps fi) (za (za ps fi).Ins i) (hS.x i) hb hs;simp only [code,zb,zc.cells,ups,zf,zj,zm,Ins.cells] at hz
  by_cases hI:¬zjj ps (za ps fi) (za (za ps fi).Ins i)
  ·skip
   refine ⟨_,by (simp -implicitDefEqProofs +contextual (disch:=omega) only [wZ,zg,hU,hP,code,zb,zc.cells,ups,zf,zj,zm,Ins.cells,zN, ↓XD,XU, ↓reduceIte,sevalprocAttr,hn,hz,hI])<;>rfl,by simp [yc,zk.get,zk.put]⟩
  replace hI:=Classical.not_not.1 hI
  have hA:i=((za ps fi).Ins.length:Int)-1∧¬(za (za ps fi).Ins i).Op=19∧¬(za (za ps fi).Ins i).Op=29∧¬(za (za ps fi).Ins i).Op=30:=by
   refine Classical.byContradiction fun hn'=>hp ((zhg ps fi i hs).2 ⟨hI,?_⟩)
   by_cases a1:i=((za ps fi).Ins.length:Int)-1
   ·by_cases a2:(za (za ps fi).Ins i).Op=19
    ·exact .inr (.inl a2)
    by_cases a3:(za (za ps fi).Ins i).Op=29
    ·exact .inr (.inr (.inl a3))
    by_cases a4:(za (za ps fi).Ins i).Op=30
    ·exact .inr (.inr (.inr a4))
    exact absurd ⟨a1,a2,a3,a4⟩ hn'
   ·exact .inl a1
  obtain ⟨hL,h1,h2,h3⟩:=hA
  subst hL
  refine ⟨_,by (simp -implicitDefEqProofs +contextual (disch:=omega) only [wZ,zg,hU,hP,code,zb,zc.cells,ups,zf,zj,zm,Ins.cells,zN, ↓XD,XU, ↓reduceIte,sevalprocAttr,hn,hz,hI,h1,h2,h3])<;>rfl,by simp [yc,zk.get,zk.put]⟩
 ·rintro i hi rfl
  refine ⟨by simp -implicitDefEqProofs +contextual (disch:=omega) only [wZ,zg, ↓XD,XU, ↓reduceIte,sevalprocAttr,hP,code,zb,zc.cells,zj,Ins.cells,Int.lt_irrefl],by simp⟩
theorem zA9 (ps:List zc) (t:Int) (hb:ps.length≤1048576) (hS:uK ps) (hs:∀ p:Int,0≤p→p<ps.length→Xn (za ps p)):match z8 (fun (j:Int)=>v4 ps j≠none) 0 ps.length with|some j=>∃ st,EV A (.loop (zK 6)) (⟨[(0,code ps),(1,.ptr 0 0 0 1),(2,.ptr 1 0 0 1),(3,.int .i64 t),(31,zb ps),(32,.int .i64 ps.length),(33,.int .i64 ps.length),(59,zb ps),(60,.int .i64 ps.length),(61,.int .i64 ps.length),(126,zb ps),(127,.int .i64 ps.length),(128,.int .i64 ps.length),(187,zb ps),(188,.int .i64 ps.length),(189,.int .i64 ps.length),(251,zb ps),(252,.int .i64 ps.length),(253,.int .i64 (0))],[],hU ps,[]⟩:St)=some (.ret,st)∧yc 2 1 3 (wu 5 j ((v4 ps j).getD 0)) st|none=>EV A (.loop (zK 6)) (⟨[(0,code ps),(1,.ptr 0 0 0 1),(2,.ptr 1 0 0 1),(3,.int .i64 t),(31,zb ps),(32,.int .i64 ps.length),(33,.int .i64 ps.length),(59,zb ps),(60,.int .i64 ps.length),(61,.int .i64 ps.length),(126,zb ps),(127,.int .i64 ps.length),(128,.int .i64 ps.length),(187,zb ps),(188,.int .i64 ps.length),(189,.int .i64 ps.length),(251,zb ps),(252,.int .i64 ps.length),(253,.int .i64 (0))],[],hU ps,[]⟩:St)=some (zp.exit 12,(⟨[(0,code ps),(1,.ptr 0 0 0 1),(2,.ptr 1 0 0 1),(3,.int .i64 t),(31,zb ps),(32,.int .i64 ps.length),(33,.int .i64 ps.length),(59,zb ps),(60,.int .i64 ps.length),(61,.int .i64 ps.length),(126,zb ps),(127,.int .i64 ps.length),(128,.int .i64 ps.length),(187,zb ps),(188,.int .i64 ps.length),(189,.int .i64 ps.length),(251,zb ps),(252,.int .i64 ps.length),(253,.int .i64 (ps.length))],[],hU ps,[]⟩:St)):=by
 refine yt (fun i=>(⟨[(0,code ps),(1,.ptr 0 0 0 1),(2,.ptr 1 0 0 1),(3,.int .i64 t),(31,zb ps),(32,.int .i64 ps.length),(33,.int .i64 ps.length),(59,zb ps),(60,.int .i64 ps.length),(61,.int .i64 ps.length),(126,zb ps),(127,.int .i64 ps.length),(128,.int .i64 ps.length),(187,zb ps),(188,.int .i64 ps.length),(189,.int .i64 ps.length),(251,zb ps),(252,.int .i64 ps.length),(253,.int .i64 i)],[],hU ps,[]⟩:St)) (fun (j:Int)=>v4 ps j≠none) (fun (j:Int) (st:St)=>yc 2 1 3 (wu 5 j ((v4 ps j).getD 0)) st) (zp.exit 12,(⟨[(0,code ps),(1,.ptr 0 0 0 1),(2,.ptr 1 0 0 1),(3,.int .i64 t),(31,zb ps),(32,.int .i64 ps.length),(33,.int .i64 ps.length),(59,zb ps),(60,.int .i64 ps.length),(61,.int .i64 ps.length),(126,zb ps),(127,.int .i64 ps.length),(128,.int .i64 ps.length),(187,zb ps),(188,.int .i64 ps.length),(189,.int .i64 ps.length),(251,zb ps),(252,.int .i64 ps.length),(253,.int .i64 (ps.length))],[],hU ps,[]⟩:St)) (0) (ps.length) ?_ ?_ ?_ (0) (by omega) (by omega)
 ·intro i hi hn hp
  have hl:=zx1 ps t i hi hn hb (hs i hi hn) (hS i);have e0:((za ps i).Ins.length:Int)=0↔(za ps i).Ins.length=0:=by omega
  have hp':v4 ps i=none:=(by simpa using hp)
  unfold v4 at hp'
  by_cases hz:(za ps i).Ins.length=0
  ·rw [if_pos hz] at hp';exact absurd hp' (by simp)
  ·rw [if_neg hz] at hp'
   rw [hp'] at hl
   refine ⟨_,by (simp -implicitDefEqProofs +contextual (disch:=omega) only [jY,zg,hU,hP,code,zb,zc.cells,ups,zf,zj,zm, ↓XD,XU, ↓reduceIte,sevalprocAttr,hn,hz,e0,hl])<;>rfl,by simp [St.next,trim,bare,zt,refs]⟩
 ·intro i hi hn hp
  have hl:=zx1 ps t i hi hn hb (hs i hi hn) (hS i);have e0:((za ps i).Ins.length:Int)=0↔(za ps i).Ins.length=0:=by omega
  obtain ⟨k,hk⟩:=Option.ne_none_iff_exists'.1 hp
  unfold v4 at hk
  by_cases hz:(za ps i).Ins.length=0
  ·refine ⟨_,by (simp -implicitDefEqProofs +contextual (disch:=omega) only [jY,zg,hU,hP,code,zb,zc.cells,ups,zf,zj,zm, ↓XD,XU, ↓reduceIte,sevalprocAttr,hn,hz,e0])<;>rfl,by unfold v4;rw [if_pos hz];simp [yc,zk.get,zk.put]⟩
  ·rw [if_neg hz] at hk
   rw [hk] at hl
   obtain ⟨st,hl,hg⟩:=hl
   refine ⟨_,by (simp -implicitDefEqProofs +contextual (disch:=omega) only [jY,zg,hU,hP,code,zb,zc.cells,ups,zf,zj,zm, ↓XD,XU, ↓reduceIte,sevalprocAttr,hn,hz,e0,hl])<;>rfl,by unfold v4;rw [if_neg hz,hk];exact hg⟩
 ·rintro i hi rfl
  refine ⟨by simp -implicitDefEqProofs +contextual (disch:=omega) only [jY,zg, ↓XD,XU, ↓reduceIte,sevalprocAttr,hU,code,zb,Int.lt_irrefl],by simp⟩
abbrev E8 (ps:List zc) (t i:Int):zk:=[(0,code ps),(1,.ptr 0 0 0 1),(2,.ptr 1 0 0 1),(3,.int .i64 t),(31,zb ps),(32,.int .i64 ps.length),(33,.int .i64 ps.length),(59,zb ps),(60,.int .i64 ps.length),(61,.int .i64 ps.length),(126,zb ps),(127,.int .i64 ps.length),(128,.int .i64 ps.length),(187,zb ps),(188,.int .i64 ps.length),(189,.int .i64 ps.length),(251,zb ps),(252,.int .i64 ps.length),(253,.int .i64 ps.length),(21,.sl 2 0 ps.length ps.length),(310,zb ps),(311,.int .i64 ps.length),(312,.int .i64 i)]
noncomputable abbrev WW (ps:List zc) (f:zc) (l:List Bool):zd:=[.cells 1 [[zb ps]],.cells 3 [[.int .i64 0,.int .i64 0,.int .i64 0]],.cells 1 (bl l),.cells 9 [f.cells]]
abbrev gUp (f:zc) (l:List Up) (i:Int) (b:Bool):Bool:=if (za l i).Local=true then (!decide (0≤(za l i).Index)|| !decide ((za l i).Index≤f.Regs-1)||b) else (!decide (0≤(za l i).Index)|| !decide ((za l i).Index≤(f.Ups.length:Int)-1)||b)
theorem zzh (ps:List zc) (f:zc) (nd:Ins) (l:List Up) (s:List Bool) (t p n:Int) (hf:Xn f) (hl:l.length≤1048576) (a0:Bool) (hok0:True):EV A (.loop (zK 10)) (⟨E8 ps t p++[(23,.ptr 3 0 0 1),(22,.int .i64 p),(318,zj f.Ins),(319,.int .i64 f.Ins.length),(320,.int .i64 n),(25,.ptr 4 0 0 1),(24,.int .i64 n),(26,.bool a0),(349,ups l),(350,.int .i64 l.length),(351,.int .i64 (0))],[],WW ps f s++[.cells 5 [nd.cells]],[]⟩:St)=some (zp.exit 20,(⟨E8 ps t p++[(23,.ptr 3 0 0 1),(22,.int .i64 p),(318,zj f.Ins),(319,.int .i64 f.Ins.length),(320,.int .i64 n),(25,.ptr 4 0 0 1),(24,.int .i64 n),(26,.bool (iter (fun (i:Int) (a:Bool)=>gUp f l i a) ((l.length:Int)-0).toNat (0) a0)),(349,ups l),(350,.int .i64 l.length),(351,.int .i64 (l.length))],[],WW ps f s++[.cells 5 [nd.cells]],[]⟩:St))∧True:=by
 refine vk (fun i (a:Bool)=>(⟨E8 ps t p++[(23,.ptr 3 0 0 1),(22,.int .i64 p),(318,zj f.Ins),(319,.int .i64 f.Ins.length),(320,.int .i64 n),(25,.ptr 4 0 0 1),(24,.int .i64 n),(26,.bool a),(349,ups l),(350,.int .i64 l.length),(351,.int .i64 i)],[],WW ps f s++[.cells 5 [nd.cells]],[]⟩:St)) (fun (i:Int) (a:Bool)=>gUp f l i a) (fun i (a:Bool)=>True) (fun a=>(zp.exit 20,(⟨E8 ps t p++[(23,.ptr 3 0 0 1),(22,.int .i64 p),(318,zj f.Ins),(319,.int .i64 f.Ins.length),(320,.int .i64 n),(25,.ptr 4 0 0 1),(24,.int .i64 n),(26,.bool a),(349,ups l),(350,.int .i64 l.length),(351,.int .i64 (l.length))],[],WW ps f s++[.cells 5 [nd.cells]],[]⟩:St))) (0) (l.length) ?_ ?_ (0) a0 (by omega) (by omega) hok0
 ·intro i a hi hn hok
  have q1:=hf.r0;have q2:=hf.r1;have q3:=hf.u
  by_cases hL:(za l i).Local=true
  ·refine ⟨⟨_,by simp -implicitDefEqProofs +contextual (disch:=omega) only [Yq,zg, ↓XD,XU, ↓reduceIte,sevalprocAttr,E8,WW,code,zb,zc.cells,ups,zf,zj,zm,Up.cells,Ins.cells,zN,List.cons_append,List.nil_append,hL,hn,hok];rfl,by first|(simp [St.next,zW,gUp,hL];done)|(simp [St.next,zW,gUp,hL];omega)|(simp [St.next,trim,bare,zt,refs,gUp,hL];done)⟩,by trivial⟩
  ·refine ⟨⟨_,by simp -implicitDefEqProofs +contextual (disch:=omega) only [Yq,zg, ↓XD,XU, ↓reduceIte,sevalprocAttr,E8,WW,code,zb,zc.cells,ups,zf,zj,zm,Up.cells,Ins.cells,zN,List.cons_append,List.nil_append,hL,hn,hok];rfl,by first|(simp [St.next,zW,gUp,hL];done)|(simp [St.next,zW,gUp,hL];omega)|(simp [St.next,trim,bare,zt,refs,gUp,hL];done)⟩,by trivial⟩
 ·rintro i a hi rfl hok
  refine ⟨by simp -implicitDefEqProofs +contextual (disch:=omega) only [Yq,zg, ↓XD,XU, ↓reduceIte,sevalprocAttr,E8,WW,code,zb,zc.cells,ups,zf,zj,zm,Up.cells,Ins.cells,zN,List.cons_append,List.nil_append,Int.lt_irrefl,hok],by simp⟩
theorem zxV (f:zc) (l:List Up) (i:Int) (b:Bool):gUp f l i b=(b||decide ¬J_ f (za l i)):=by
 rw [Bool.eq_iff_iff]
 simp only [gUp,J_]
 by_cases hL:(za l i).Local=true
 ·simp only [hL,if_true]
  cases b<;>simp<;>omega
 ·simp only [hL,if_false]
  cases b<;>simp<;>omega
theorem zmk (f:zc) (l:List Up):∀ (m:Nat) (i:Int) (b:Bool),i+m≤l.length→iter (gUp f l) m i b=(b||decide ¬(∀ j,i≤j→j<i+m→J_ f (za l j)))
 |0,i,b,h=>by
  rw [iter]
  have:∀ j,i≤j→j<i+(0:Nat)→J_ f (za l j):=fun j a c=>by omega
  rw [decide_eq_false (Classical.not_not.2 this),Bool.or_false]
 |m+1,i,b,h=>by
  rw [iter,zmk f l m (i+1) _ (by omega),zxV,Bool.or_assoc]
  congr 1
  rw [Bool.eq_iff_iff]
  simp only [Bool.or_eq_true,decide_eq_true_eq]
  constructor
  ·rintro (h1|h1) h2
   ·exact h1 (h2 i (by omega) (by omega))
   ·exact h1 fun j a c=>h2 j (by omega) (by omega)
  ·intro h1
   by_cases h2:J_ f (za l i)
   ·right;intro h3;refine h1 fun j a c=>?_
    by_cases e:j=i
    ·subst e;exact h2
    ·exact h3 j (by omega) (by omega)
   ·exact .inl h2
theorem ztR (f:zc) (l:List Up) (b:Bool):iter (fun (i:Int) (a:Bool)=>gUp f l i a) ((l.length:Int)-0).toNat 0 b=(b||decide ¬zdk f l):=by
 rw [show ((l.length:Int)-0).toNat=l.length by omega]
 rw [show (fun (i:Int) (a:Bool)=>gUp f l i a)=gUp f l from rfl,zmk f l _ _ _ (by omega)]
 congr 1
 rw [Bool.eq_iff_iff]
 simp only [decide_eq_true_eq,zdk,y7,Classical.not_not]
 exact not_congr ⟨fun h j a c=>h j a (by omega),fun h j a c=>h j a (by omega)⟩
theorem zA' (ps:List zc) (t p:Int) (p0:0≤p) (p1:p<ps.length) (hb:ps.length≤1048576) (hf:zg1 ps) (a0:List Bool) (hok0:a0.length=ps.length):zad (fun (a:List Bool)=>EV A (.loop (zK 9)) (⟨E8 ps t p++[(23,.ptr 3 0 0 1),(22,.int .i64 p),(318,zj (za ps p).Ins),(319,.int .i64 (za ps p).Ins.length),(320,.int .i64 (0))],[],WW ps (za ps p) a0,[]⟩:St)=some (zp.exit 18,(⟨E8 ps t p++[(23,.ptr 3 0 0 1),(22,.int .i64 p),(318,zj (za ps p).Ins),(319,.int .i64 (za ps p).Ins.length),(320,.int .i64 ((za ps p).Ins.length))],[],WW ps (za ps p) a,[]⟩:St))∧a.length=ps.length) (fun (r:Int)=>∃ st,EV A (.loop (zK 9)) (⟨E8 ps t p++[(23,.ptr 3 0 0 1),(22,.int .i64 p),(318,zj (za ps p).Ins),(319,.int .i64 (za ps p).Ins.length),(320,.int .i64 (0))],[],WW ps (za ps p) a0,[]⟩:St)=some (.ret,st)∧yc 2 1 3 (wu 6 p r) st) (v8 (fun (i:Int) (a:List Bool)=>JV ps p i a) (((za ps p).Ins.length:Int)-0).toNat (0) a0):=by
 have hb2:=(hf.ok p p0 p1).i
 refine YA (P:=A) (body:=(zK 9)) (fun i (a:List Bool)=>(⟨E8 ps t p++[(23,.ptr 3 0 0 1),(22,.int .i64 p),(318,zj (za ps p).Ins),(319,.int .i64 (za ps p).Ins.length),(320,.int .i64 i)],[],WW ps (za ps p) a,[]⟩:St)) (fun (i:Int) (a:List Bool)=>JV ps p i a) (fun i (a:List Bool)=>a.length=ps.length) (fun a=>(zp.exit 18,(⟨E8 ps t p++[(23,.ptr 3 0 0 1),(22,.int .i64 p),(318,zj (za ps p).Ins),(319,.int .i64 (za ps p).Ins.length),(320,.int .i64 ((za ps p).Ins.length))],[],WW ps (za ps p) a,[]⟩:St))) (fun (r:Int) (st:St)=>yc 2 1 3 (wu 6 p r) st) (0) ((za ps p).Ins.length) ?_ ?_ (0) a0 (by omega) (by omega) hok0
 ·intro i a hi hn hok
  have hk:=hf.ok p p0 p1
  have hb2:=hk.i
  rw [JV]
  by_cases h2:(za (za ps p).Ins i).Op=11
  ·rw [if_pos h2]
   have hg1:=ztt (hf.ins p p0 p1 i hi hn) h2
   have hu:=(hf.ok _ hg1.1 hg1.2).u
   have hl:=fun b s=>(zzh ps (za ps p) (za (za ps p).Ins i) (za ps (za (za ps p).Ins i).B).Ups s t p i hk hu b trivial).1
   simp only [ztR,E8,WW,List.cons_append,List.nil_append,bl,code,zb,zc.cells,ups,zf,zj,zm,Ins.cells,h2] at hl
   by_cases h3:(za (za ps p).Ins i).B≤p
   ·rw [if_pos (.inl (.inl h3))]
    refine ⟨_,by (simp -implicitDefEqProofs +contextual (disch:=omega) only [vL,zg,E8,WW,List.cons_append,List.nil_append,code,zb,zc.cells,ups,zf,zj,zm,Ins.cells, ↓XD,XU, ↓reduceIte,sevalprocAttr,hn,hok,h2,h3,hl])<;>rfl,by simp [yc,zk.get,zk.put]⟩
   ·by_cases h4:za a (za (za ps p).Ins i).B=true
    ·rw [if_pos (.inl (.inr h4))]
     refine ⟨_,by (simp -implicitDefEqProofs +contextual (disch:=omega) only [vL,zg,E8,WW,List.cons_append,List.nil_append,code,zb,zc.cells,ups,zf,zj,zm,Ins.cells, ↓XD,XU, ↓reduceIte,sevalprocAttr,hn,hok,h2,h3,h4,hl])<;>rfl,by simp [yc,zk.get,zk.put]⟩
    ·by_cases h5:zdk (za ps p) (za ps (za (za ps p).Ins i).B).Ups
     ·rw [if_neg (by rintro ((h|h)|h);exact h3 h;exact h4 h;exact h h5)]
      refine ⟨⟨_,by (simp -implicitDefEqProofs +contextual (disch:=omega) only [vL,zg,E8,WW,List.cons_append,List.nil_append,code,zb,zc.cells,ups,zf,zj,zm,Ins.cells, ↓XD,XU, ↓reduceIte,sevalprocAttr,hn,hok,h2,h3,h4,h5,hl])<;>rfl,by simp [St.next,trim,bare,zt,refs]⟩,by simpa using hok⟩
     ·rw [if_pos (.inr h5)]
      refine ⟨_,by (simp -implicitDefEqProofs +contextual (disch:=omega) only [vL,zg,E8,WW,List.cons_append,List.nil_append,code,zb,zc.cells,ups,zf,zj,zm,Ins.cells, ↓XD,XU, ↓reduceIte,sevalprocAttr,hn,hok,h2,h3,h4,h5,hl])<;>rfl,by simp [yc,zk.get,zk.put]⟩
  ·rw [if_neg h2]
   refine ⟨⟨_,by (simp -implicitDefEqProofs +contextual (disch:=omega) only [vL,zg,E8,WW,List.cons_append,List.nil_append,code,zb,zc.cells,ups,zf,zj,zm,Ins.cells, ↓XD,XU, ↓reduceIte,sevalprocAttr,hn,hok,h2])<;>rfl,by simp [St.next,trim,bare,zt,refs]⟩,hok⟩
 ·rintro i a hi rfl hok
  refine ⟨by simp -implicitDefEqProofs +contextual (disch:=omega) only [vL,zg, ↓XD,XU, ↓reduceIte,sevalprocAttr,E8,List.cons_append,List.nil_append,Int.lt_irrefl,hok],by simp⟩
theorem zA_ (ps:List zc) (t:Int) (hb:ps.length≤1048576) (hf:zg1 ps) (a0:List Bool) (hok0:a0.length=ps.length):zad (fun (a:List Bool)=>EV A (.loop (zK 8)) (⟨E8 ps t (0),[],[.cells 1 [[zb ps]],.cells 3 [[.int .i64 0,.int .i64 0,.int .i64 0]],.cells 1 (bl a0)],[]⟩:St)=some (zp.exit 16,(⟨E8 ps t (ps.length),[],[.cells 1 [[zb ps]],.cells 3 [[.int .i64 0,.int .i64 0,.int .i64 0]],.cells 1 (bl a)],[]⟩:St))∧a.length=ps.length) (fun (r:Int×Int)=>∃ st,EV A (.loop (zK 8)) (⟨E8 ps t (0),[],[.cells 1 [[zb ps]],.cells 3 [[.int .i64 0,.int .i64 0,.int .i64 0]],.cells 1 (bl a0)],[]⟩:St)=some (.ret,st)∧yc 2 1 3 (wu 6 r.1 r.2) st) (v8 (fun (i:Int) (a:List Bool)=>Vh ps i a) ((ps.length:Int)-0).toNat (0) a0):=by
 refine YA (P:=A) (body:=(zK 8)) (fun i (a:List Bool)=>(⟨E8 ps t i,[],[.cells 1 [[zb ps]],.cells 3 [[.int .i64 0,.int .i64 0,.int .i64 0]],.cells 1 (bl a)],[]⟩:St)) (fun (i:Int) (a:List Bool)=>Vh ps i a) (fun i (a:List Bool)=>a.length=ps.length) (fun a=>(zp.exit 16,(⟨E8 ps t (ps.length),[],[.cells 1 [[zb ps]],.cells 3 [[.int .i64 0,.int .i64 0,.int .i64 0]],.cells 1 (bl a)],[]⟩:St))) (fun (r:Int×Int) (st:St)=>yc 2 1 3 (wu 6 r.1 r.2) st) (0) (ps.length) ?_ ?_ (0) a0 (by omega) (by omega) hok0
 ·intro i a hi hn hok
  have h2:=zA' ps t i hi hn hb hf a hok
  have hI:zcb ps i a=v8 (fun (n:Int) (a:List Bool)=>JV ps i n a) (((za ps i).Ins.length:Int)-0).toNat 0 a:=rfl
  rw [←hI] at h2
  rw [Vh]
  cases hr:zcb ps i a with
  |inl s'=>
   rw [hr] at h2
   obtain ⟨h2,hs'⟩:=h2
   simp only [E8,WW,List.cons_append,List.nil_append,code,zb,zc.cells,ups,zf,zj,zm] at h2
   refine ⟨⟨_,by (simp -implicitDefEqProofs +contextual (disch:=omega) only [YH,zg,E8,WW,code,zb,zc.cells,ups,zf,zj,zm, ↓XD,XU, ↓reduceIte,sevalprocAttr,hn,h2,hok])<;>rfl,by simp [St.next,trim,bare,zt,refs]⟩,hs'⟩
  |inr n=>
   rw [hr] at h2
   obtain ⟨st,h2,hg2⟩:=h2
   simp only [E8,WW,List.cons_append,List.nil_append,code,zb,zc.cells,ups,zf,zj,zm] at h2
   exact ⟨_,by (simp -implicitDefEqProofs +contextual (disch:=omega) only [YH,zg,E8,WW,code,zb,zc.cells,ups,zf,zj,zm, ↓XD,XU, ↓reduceIte,sevalprocAttr,hn,h2,hok])<;>rfl,hg2⟩
 ·rintro i a hi rfl hok
  refine ⟨by simp -implicitDefEqProofs +contextual (disch:=omega) only [YH,zg, ↓XD,XU, ↓reduceIte,sevalprocAttr,E8,Int.lt_irrefl,hok],by simp⟩
theorem zzi (ps:List zc) (t:Int) (l:List Bool) (hb:ps.length≤1048576) (hl:l.length=ps.length):match z8 (fun (j:Int)=>0<j∧¬za l j=true) 0 ps.length with|some j=>∃ st,EV A (.loop (zK 11)) (⟨E8 ps t ps.length++[(390,.int .i64 ps.length),(391,.int .i64 (0))],[],[.cells 1 [[zb ps]],.cells 3 [[.int .i64 0,.int .i64 0,.int .i64 0]],.cells 1 (bl l)],[]⟩:St)=some (.ret,st)∧yc 2 1 3 (wu 7 j 0) st|none=>EV A (.loop (zK 11)) (⟨E8 ps t ps.length++[(390,.int .i64 ps.length),(391,.int .i64 (0))],[],[.cells 1 [[zb ps]],.cells 3 [[.int .i64 0,.int .i64 0,.int .i64 0]],.cells 1 (bl l)],[]⟩:St)=some (zp.exit 22,(⟨E8 ps t ps.length++[(390,.int .i64 ps.length),(391,.int .i64 (ps.length))],[],[.cells 1 [[zb ps]],.cells 3 [[.int .i64 0,.int .i64 0,.int .i64 0]],.cells 1 (bl l)],[]⟩:St)):=by
 refine yt (fun i=>(⟨E8 ps t ps.length++[(390,.int .i64 ps.length),(391,.int .i64 i)],[],[.cells 1 [[zb ps]],.cells 3 [[.int .i64 0,.int .i64 0,.int .i64 0]],.cells 1 (bl l)],[]⟩:St)) (fun (j:Int)=>0<j∧¬za l j=true) (fun (j:Int) (st:St)=>yc 2 1 3 (wu 7 j 0) st) (zp.exit 22,(⟨E8 ps t ps.length++[(390,.int .i64 ps.length),(391,.int .i64 (ps.length))],[],[.cells 1 [[zb ps]],.cells 3 [[.int .i64 0,.int .i64 0,.int .i64 0]],.cells 1 (bl l)],[]⟩:St)) (0) (ps.length) ?_ ?_ ?_ (0) (by omega) (by omega)
 ·intro i hi hn hp
  by_cases h0:0<i
  ·have h1:za l i=true:=Classical.byContradiction fun h=>hp ⟨h0,h⟩
   refine ⟨_,by (simp -implicitDefEqProofs +contextual (disch:=omega) only [jH,zg,E8,List.cons_append,List.nil_append,code,zb, ↓XD,XU, ↓reduceIte,sevalprocAttr,hn,h0,h1,hl])<;>rfl,by simp [St.next,zW]⟩
  ·refine ⟨_,by (simp -implicitDefEqProofs +contextual (disch:=omega) only [jH,zg,E8,List.cons_append,List.nil_append,code,zb, ↓XD,XU, ↓reduceIte,sevalprocAttr,hn,h0,hl])<;>rfl,by simp [St.next,zW]⟩
 ·intro i hi hn hp
  obtain ⟨h0,h1⟩:=hp
  refine ⟨_,by (simp -implicitDefEqProofs +contextual (disch:=omega) only [jH,zg,E8,List.cons_append,List.nil_append,code,zb, ↓XD,XU, ↓reduceIte,sevalprocAttr,hn,h0,h1,hl])<;>rfl,by simp [yc,zk.get,zk.put]⟩
 ·rintro i hi rfl
  refine ⟨by simp -implicitDefEqProofs +contextual (disch:=omega) only [jH,zg, ↓XD,XU, ↓reduceIte,sevalprocAttr,E8,List.cons_append,List.nil_append,code,zb,hl,Int.lt_irrefl],by simp⟩
theorem zqy (l:List Bool) {n:Int} (hn:1≤n):z8 (fun j=>0<j∧¬za l j=true) 0 n=z8 (fun j=>¬za l j=true) 1 n:=by
 rw [Kh (by omega) (by simp)]
 exact ziI fun j j0 j1=>⟨fun h=>h.2,fun h=>⟨by omega,h⟩⟩
theorem zkY (ps:List zc) (hb:ps.length≤1048576) (ht:vr ps≤1048576) (hs:uK ps):EP A KL [code ps]=some (fl3 (xW ps)):=by
 obtain ⟨e0,k0⟩:=zA5 ps hb ht 0 (by simp [wV])
 simp only [k0] at e0
 have hT:wV ps (ps.length:Int).toNat=vr ps:=by rw [wV,vr];simp
 rw [hT] at e0
 simp only [hU,code,zb] at e0
 have e1:=zA6 ps (vr ps) hb hs
 have e2:=zA7 ps (vr ps) hb hs
 simp only [hU,code,zb] at e1 e2
 by_cases hB:Big ps
 ·have hS:xW ps=(1,0,0):=by simp [xW,parts,hB]
  rw [hS]
  rw [Big] at hB
  by_cases z1:(ps.length:Int)<1
  ·simp -implicitDefEqProofs +contextual (disch:=omega) only [wz,wA,zg,code,zb, ↓XD,XU, ↓reduceIte,sevalprocAttr,e0,z1]
  ·by_cases z2:(200:Int)<ps.length
   ·simp -implicitDefEqProofs +contextual (disch:=omega) only [wz,wA,zg,code,zb, ↓XD,XU, ↓reduceIte,sevalprocAttr,e0,z1,z2]
   ·have z3:6000<vr ps:=by omega
    simp -implicitDefEqProofs +contextual (disch:=omega) only [wz,wA,zg,code,zb, ↓XD,XU, ↓reduceIte,sevalprocAttr,e0,z1,z2,z3]
 ·have hB':=hB
  rw [Big] at hB
  have z1:¬(ps.length:Int)<1:=by omega
  have z2:¬(200:Int)<ps.length:=by omega
  have z3:¬6000<vr ps:=by omega
  cases h1:uS ps with
  |some f=>
   have hS:xW ps=(2,f,0):=by simp [xW,parts,hB',h1]
   rw [hS]
   unfold uS at h1
   rw [h1] at e1
   obtain ⟨st,e1,g1,g2⟩:=e1
   simp -implicitDefEqProofs +contextual (disch:=omega) only [wz,wA,zg,code,zb, ↓XD,XU, ↓reduceIte,sevalprocAttr,e0,z1,z2,z3,e1,g1,g2]
  |none=>
   have hk:=zfk hs h1
   have e4:=zA8 ps (vr ps) hb hk
   have e6:=zA9 ps (vr ps) hb hs hk
   simp only [hU,code,zb] at e4 e6
   have h1':=h1
   unfold uS at h1
   rw [h1] at e1
   cases h2:j_ ps with
   |some f=>
    have hS:xW ps=(3,f,(uo ps f).getD 0):=by simp [xW,parts,hB',h1',h2]
    rw [hS]
    unfold j_ at h2
    rw [h2] at e2
    obtain ⟨st,e2,g1,g2⟩:=e2
    simp -implicitDefEqProofs +contextual (disch:=omega) only [wz,wA,zg,code,zb, ↓XD,XU, ↓reduceIte,sevalprocAttr,e0,z1,z2,z3,e1,e2,g1,g2]
   |none=>
    have h2':=h2
    unfold j_ at h2
    rw [h2] at e2
    cases h3:kU ps with
    |some f=>
     have hS:xW ps=(4,f,(ji ps f).getD 0):=by simp [xW,parts,hB',h1',h2',h3]
     rw [hS]
     unfold kU at h3
     rw [h3] at e4
     obtain ⟨st,e4,g1,g2⟩:=e4
     simp -implicitDefEqProofs +contextual (disch:=omega) only [wz,wA,zg,code,zb, ↓XD,XU, ↓reduceIte,sevalprocAttr,e0,z1,z2,z3,e1,e2,e4,g1,g2]
    |none=>
     have h3':=h3
     unfold kU at h3
     rw [h3] at e4
     cases h4:XJ ps with
     |some f=>
      have hS:xW ps=(5,f,(v4 ps f).getD 0):=by simp [xW,parts,hB',h1',h2',h3',h4]
      rw [hS]
      unfold XJ at h4
      rw [h4] at e6
      obtain ⟨st,e6,g1,g2⟩:=e6
      simp -implicitDefEqProofs +contextual (disch:=omega) only [wz,wA,zg,code,zb, ↓XD,XU, ↓reduceIte,sevalprocAttr,e0,z1,z2,z3,e1,e2,e4,e6,g1,g2]
     |none=>
      have hP:parts ps=(0,0,0):=by simp [parts,hB',h1',h2',h3',h4]
      have hf:zg1 ps:=zdE hs (by rw [hP])
      unfold XJ at h4
      rw [h4] at e6
      dsimp only at e0 e1 e2 e4 e6
      have e7:=zA_ ps (vr ps) hb hf (List.replicate ps.length false) (by simp)
      have hI:Qb ps=v8 (fun (f:Int) (a:List Bool)=>Vh ps f a) ((ps.length:Int)-0).toNat 0 (List.replicate ps.length false):=rfl
      rw [←hI] at e7
      rw [xW,hP,if_neg (by simp)]
      cases k7:Qb ps with
      |inr r=>
       rw [k7] at e7
       obtain ⟨st,e7,g1,g2⟩:=e7
       simp only [E8,bl,code,zb] at e7
       simp -implicitDefEqProofs +contextual (disch:=omega) only [wz,wA,zg,code,zb, ↓XD,XU, ↓reduceIte,sevalprocAttr,e0,z1,z2,z3,e1,e2,e4,e6,e7,g1,g2]
      |inl l=>
       rw [k7] at e7
       obtain ⟨e7,hl⟩:=e7
       simp only [E8,bl,code,zb] at e7
       have e8:=zzi ps (vr ps) l hb hl
       rw [zqy l (by omega)] at e8
       simp only [E8,List.cons_append,List.nil_append,bl,code,zb] at e8
       dsimp only
       cases k8:z8 (fun j=>¬za l j=true) 1 ps.length with
       |some f=>
        rw [k8] at e8
        obtain ⟨st,e8,g1,g2⟩:=e8
        simp -implicitDefEqProofs +contextual (disch:=omega) only [wz,wA,zg,code,zb, ↓XD,XU, ↓reduceIte,sevalprocAttr,e0,z1,z2,z3,e1,e2,e4,e6,e7,e8,g1,g2]
       |none=>
        rw [k8] at e8
        simp -implicitDefEqProofs +contextual (disch:=omega) only [wz,wA,zg,code,zb, ↓XD,XU, ↓reduceIte,sevalprocAttr,e0,z1,z2,z3,e1,e2,e4,e6,e7,e8]
theorem zx8 (ps:List zc) (hS:zhC ps):match z8 (fun (j:Int)=>(uC ps j).isLeft=true) 0 ps.length with|some j=>∃ st,EV A (.loop (Yv 0)) (⟨[(0,code ps),(1,.ptr 0 0 0 1),(2,.ptr 1 0 0 1),(3,.ptr 2 0 0 1),(16,.int .i64 ps.length),(17,.int .i64 (0))],[],[.cells 1 [[zb ps]],.cells 3 [[.int .i64 0,.int .i64 0,.int .i64 0]],.cells 3 [[.int .i64 0,.int .i64 0,.int .i64 0]]],[]⟩:St)=some (.ret,st)∧yc 2 1 3 (wu (vw ps j).1 (vw ps j).2.1 (vw ps j).2.2) st|none=>EV A (.loop (Yv 0)) (⟨[(0,code ps),(1,.ptr 0 0 0 1),(2,.ptr 1 0 0 1),(3,.ptr 2 0 0 1),(16,.int .i64 ps.length),(17,.int .i64 (0))],[],[.cells 1 [[zb ps]],.cells 3 [[.int .i64 0,.int .i64 0,.int .i64 0]],.cells 3 [[.int .i64 0,.int .i64 0,.int .i64 0]]],[]⟩:St)=some (zp.exit 0,(⟨[(0,code ps),(1,.ptr 0 0 0 1),(2,.ptr 1 0 0 1),(3,.ptr 2 0 0 1),(16,.int .i64 ps.length),(17,.int .i64 (ps.length))],[],[.cells 1 [[zb ps]],.cells 3 [[.int .i64 0,.int .i64 0,.int .i64 0]],.cells 3 [[.int .i64 0,.int .i64 0,.int .i64 0]]],[]⟩:St)):=by
 have hb:=hS.n
 refine yt (fun i=>(⟨[(0,code ps),(1,.ptr 0 0 0 1),(2,.ptr 1 0 0 1),(3,.ptr 2 0 0 1),(16,.int .i64 ps.length),(17,.int .i64 i)],[],[.cells 1 [[zb ps]],.cells 3 [[.int .i64 0,.int .i64 0,.int .i64 0]],.cells 3 [[.int .i64 0,.int .i64 0,.int .i64 0]]],[]⟩:St)) (fun (j:Int)=>(uC ps j).isLeft=true) (fun (j:Int) (st:St)=>yc 2 1 3 (wu (vw ps j).1 (vw ps j).2.1 (vw ps j).2.2) st) (zp.exit 0,(⟨[(0,code ps),(1,.ptr 0 0 0 1),(2,.ptr 1 0 0 1),(3,.ptr 2 0 0 1),(16,.int .i64 ps.length),(17,.int .i64 (ps.length))],[],[.cells 1 [[zb ps]],.cells 3 [[.int .i64 0,.int .i64 0,.int .i64 0]],.cells 3 [[.int .i64 0,.int .i64 0,.int .i64 0]]],[]⟩:St)) (0) (ps.length) ?_ ?_ ?_ (0) (by omega) (by omega)
 ·intro i hi hn hp
  have hw:=zkh hS hi hn
  cases hk:uC ps i with
  |inl c=>rw [hk] at hp;exact absurd rfl hp
  |inr S=>
   rw [hk] at hw
   obtain ⟨rows,hw,_⟩:=hw
   simp only [code,zb] at hw
   refine ⟨_,by (simp -implicitDefEqProofs +contextual (disch:=omega) only [Xi,uA,code,zb, ↓XD,XU, ↓reduceIte,sevalprocAttr,hn,hw])<;>rfl,by simp [St.next,trim,bare,zt,refs]⟩
 ·intro i hi hn hp
  have hw:=zkh hS hi hn
  cases hk:uC ps i with
  |inr S=>rw [hk] at hp;exact absurd hp (by simp)
  |inl c=>
   have hz:¬c.1=0:=zl9 hk
   rw [hk] at hw
   simp only [code,zb] at hw
   refine ⟨_,by (simp -implicitDefEqProofs +contextual (disch:=omega) only [Xi,uA,code,zb, ↓XD,XU, ↓reduceIte,sevalprocAttr,hn,hw,hz])<;>rfl,by simp [yc,zk.get,zk.put,vw,hk]⟩
 ·rintro i hi rfl
  refine ⟨by simp -implicitDefEqProofs +contextual (disch:=omega) only [Xi,uA, ↓XD,XU, ↓reduceIte,sevalprocAttr,zt,Int.lt_irrefl],by simp⟩
def zpF (neg:Bool) (tags:List Nat):PV→PV→Option PV
 |.agg ps,.agg qs=>match kk tags ps qs with
  |some b=>some (.bool (V6 neg b))
  |none=>none
 |_,_=>none
def zxQ (H:zd):Option PV→Option (PV×zd×zV)
 |some v=>some (v,H,[])
 |none=>none
theorem ze' (H:zd) (v:PV):zxQ H (some v)=some (v,H,[]):=rfl
theorem zps {P:xp} (neg:Bool) (tags:List Nat) (x y:zx) (st:St):zq P.glob (CL P) st (.eqS neg tags x y)=zxQ st.H (zpF neg tags (x.get P.glob st) (y.get P.glob st)):=by
 show (match x.get P.glob st,y.get P.glob st with
  |.agg ps,.agg qs=>match kk tags ps qs with
   |some b=>some (PV.bool (V6 neg b),st.H,[])
   |none=>none
  |_,_=>none)=_
 generalize x.get P.glob st=a
 generalize y.get P.glob st=b
 cases a<;>cases b<;>first|rfl|(simp only [zpF];split<;>rfl)
theorem zhb (a b c d e f:Int):zpF true [0,0,0] (.agg [.int .i64 a,.int .i64 b,.int .i64 c]) (.agg [.int .i64 d,.int .i64 e,.int .i64 f])=some (.bool (!decide (a=d∧b=e∧c=f))):=by
 have h:∀ x y:Int,(x==y)=decide (x=y):=fun x y=>rfl
 simp [zpF,kk,jl,V6,h,Bool.decide_and]
theorem zlX (ps:List zc) (hb:ps.length≤1048576) (ht:vr ps≤1048576) (hs:uK ps):EP A QK [code ps]=some (fl3 (XO ps)):=by
 have e1:=zkY ps hb ht hs
 rw [XO]
 by_cases h1:(xW ps).1=0
 ·have hS:=ziL hb hs h1
  have hz:xW ps=(0,0,0):=by
   revert h1;unfold xW;split
   ·intro h;rename_i h2;exact absurd h h2
   ·split
    ·intro h;simp at h
    ·split
     ·intro h;simp at h
     ·intro _;rfl
  rw [hz] at e1
  rw [if_neg (by simpa using h1)]
  have e2:=zx8 ps hS
  simp only [code,zb] at e1 e2
  cases h2:JD ps with
  |some p=>
   unfold JD at h2
   rw [h2] at e2
   obtain ⟨st,e2,g1,g2⟩:=e2
   simp -implicitDefEqProofs +contextual (disch:=omega) only [VZ,Ue,uA, ↓zps,ze',zhb,code,zb, ↓XD,XU, ↓reduceIte,sevalprocAttr,e1,e2,g1,g2]
  |none=>
   unfold JD at h2
   rw [h2] at e2
   simp -implicitDefEqProofs +contextual (disch:=omega) only [VZ,Ue,uA, ↓zps,ze',zhb,code,zb, ↓XD,XU, ↓reduceIte,sevalprocAttr,e1,e2]
 ·rw [if_pos (by simpa using h1)]
  simp only [code,zb] at e1
  simp -implicitDefEqProofs +contextual (disch:=omega) only [VZ,Ue,uA, ↓zps,ze',zhb,code,zb, ↓XD,XU, ↓reduceIte,sevalprocAttr,e1,h1]
theorem zpw (o:Option (List zG)) (hb:(ol o).length≤9223372036854775807) (hs:∀ i:Int,UJ (za (ol o) i)) (hg:∀ i:Int,zbv (za (ol o) i)):EP A WX [.agg (Vz o)]=some (.bool true):=by
 have g1:=zrp o hb hs
 by_cases c:(1048576:Int)<ja (ol o)
 ·rw [rest,if_pos c] at g1
  simp -implicitDefEqProofs +contextual (disch:=omega) only [WV,WY,XT,Vz,yu,xm,wP,vn,JT, ↓XD,XU, ↓reduceIte,sevalprocAttr,g1]
 ·rw [rest,if_neg c] at g1
  have hz:ja (ol o)≤1048576:=by omega
  have hl:=zmW hz
  have hS:=zsx hz hg
  have g2:=zrr o hl.1 (ziM hz)
  rw [zr7] at g2
  have hl2:((ol o).map zG.to).length≤1048576:=by simpa using hl.1
  have g3:=zg' _ hl2 hl.2 hS
  have g4:=zlX _ hl2 hl.2 hS
  have g5:=zjz (XO ((ol o).map zG.to)).1 (XO ((ol o).map zG.to)).2.1 (XO ((ol o).map zG.to)).2.2
  have g6:=zrn _ hl2 hS
  have e:¬1048576-ja (ol o)<0:=by omega
  simp only [code,zb] at g2 g3 g4 g6
  simp -implicitDefEqProofs +contextual (disch:=omega) only [WV,WY,XT,Vz,yu,xm,wP,vn,JT, ↓XD,XU, ↓reduceIte,sevalprocAttr,g1,g2,g3,g4,g5,g6,e]
end Go.Proofs.Tryd.Av
end
section
namespace Go.Proofs.Tryd.Av
open Go Go.Av Classical
theorem xi {s:Sh} {ss:List Sh} {r:List PV} (h:uk (s::ss) r):∃ p ps,r=p::ps∧Ok s p∧uk ss ps:=by
 obtain ⟨h1,h2⟩:=h
 cases r with
 |nil=>simp at h1
 |cons p ps=>exact ⟨p,ps,rfl,h2 0 s p rfl rfl,by simpa using h1,fun i s' p' e1 e2=>h2 (i+1) s' p' e1 e2⟩
theorem Uv {r:List PV} (h:uk [] r):r=[]:=List.length_eq_zero_iff.1 h.1
theorem J' {α:Type} (f:α→List PV) (good:α→Prop) (es:List Sh) (h:∀ r,uk es r→∃ x,r=f x∧good x) {p:PV} (hp:Ok (.slice es) p):∃ o:Option (List α),p=wb f o∧(ol o).length≤9223372036854775807∧∀ x∈ol o,good x:=by
 cases hp with
 |nils=>exact ⟨none,rfl,by simp,by simp⟩
 |fz _ rows hl hs hk=>
  have hm:(maxLen:Nat)=9223372036854775807:=by decide
  have:∀ rows:List (List PV),(∀ r∈rows,uk es r)→∃ l:List α,rows=l.map f∧∀ x∈l,good x:=by
   intro rows
   induction rows with
   |nil=>exact fun _=>⟨[],rfl,by simp⟩
   |cons r rows ih=>
    intro hr
    obtain ⟨l,e,hg⟩:=ih fun r hr'=>hr r (List.mem_cons_of_mem _ hr')
    obtain ⟨x,e2,hx⟩:=h r (hr r (List.mem_cons_self ..))
    exact ⟨x::l,by rw [List.map_cons,e,e2],by simpa using ⟨hx,hg⟩⟩
  obtain ⟨l,e,hg⟩:=this rows fun r hr=>⟨hs r hr,hk r hr⟩
  refine ⟨some l,by rw [e];rfl,?_,hg⟩
  have:rows.length=l.length:=by rw [e,List.length_map]
  show l.length≤_
  omega
theorem uY {p:PV} (h:Ok (.int .i64) p):∃ n,p=.int .i64 n∧ -9223372036854775808≤n∧n<9223372036854775808:=by
 cases h with
 |int k n h=>
  refine ⟨n,rfl,?_⟩
  simp only [Lit.wf,Bool.and_eq_true,decide_eq_true_eq] at h
  have h1:IntKind.i64.min= -9223372036854775808:=by decide
  have h2:IntKind.i64.max=9223372036854775807:=by decide
  omega
theorem zlR {p:PV} (h:Ok .bool p):∃ n,p=.bool n:=by cases h;exact ⟨_,rfl⟩
theorem zv4 {p:PV} (h:Ok (.flt .f64) p):∃ n,p=.flt .f64 n∧n<2 ^ 64:=by
 cases h with
 |flt k n h=>exact ⟨n,rfl,by simpa [Lit.wf] using h⟩
theorem zjo {p:PV} (h:Ok .str p):∃ s:ByteArray,p=.str s∧s.size≤9223372036854775807:=by
 cases h with
 |str s h=>exact ⟨s,rfl,h⟩
theorem zv7 {p:PV} (h:Ok (.slice [.bool,.int .i64]) p):∃ o:Option (List Up),p=wb Up.cells o∧(ol o).length≤9223372036854775807:=by
 obtain ⟨o,e,hl,_⟩:=J' Up.cells (fun _=>True) _ (fun r hr=>by
  obtain ⟨a,_,rfl,ha,k1⟩:=xi hr
  obtain ⟨b,_,rfl,hb,k2⟩:=xi k1
  obtain ⟨x,rfl⟩:=zlR ha
  obtain ⟨y,rfl,_⟩:=uY hb
  rw [Uv k2];exact ⟨⟨x,y⟩,rfl,trivial⟩) h
 exact ⟨o,e,hl⟩
def zqB:List Sh:=[.int .i64,.int .i64,.flt .f64,.str,.int .i64]
def zqz:List Sh:=[.int .i64,.int .i64,.int .i64,.int .i64,.int .i64]
def zqA:List Sh:=[.str,.int .i64,.int .i64,.int .i64]
def zjY:List Sh:=[.str,.int .i64,.int .i64,.bool,.int .i64,.slice [.bool,.int .i64],.slice zqB,.slice zqz,.slice zqA]
def zsw:List Sh:=[.slice zjY]
theorem zv8 {r:List PV} (hr:uk zqB r):∃ n:yk,r=n.cells∧n.Str.size≤9223372036854775807∧n.Flt<2 ^ 64:=by
 obtain ⟨a1,_,rfl,h1,k1⟩:=xi hr
 obtain ⟨a2,_,rfl,h2,k2⟩:=xi k1
 obtain ⟨a3,_,rfl,h3,k3⟩:=xi k2
 obtain ⟨a4,_,rfl,h4,k4⟩:=xi k3
 obtain ⟨a5,_,rfl,h5,k5⟩:=xi k4
 obtain ⟨x1,rfl,_⟩:=uY h1
 obtain ⟨x2,rfl,_⟩:=uY h2
 obtain ⟨x3,rfl,b3⟩:=zv4 h3
 obtain ⟨x4,rfl,b4⟩:=zjo h4
 obtain ⟨x5,rfl,_⟩:=uY h5
 rw [Uv k5]
 exact ⟨⟨x1,x2,x3,x4,x5⟩,rfl,b4,b3⟩
def zlz (n:Ins):Prop:=∀ j:Int, -9223372036854775808≤za [n.A,n.B,n.C,n.D] j∧za [n.A,n.B,n.C,n.D] j<9223372036854775808
theorem zoG {o a b c d:Int} (h1: -9223372036854775808≤a∧a<9223372036854775808) (h2: -9223372036854775808≤b∧b<9223372036854775808) (h3: -9223372036854775808≤c∧c<9223372036854775808) (h4: -9223372036854775808≤d∧d<9223372036854775808):zlz ⟨o,a,b,c,d⟩:=fun j=>
 Wd (l:=[a,b,c,d]) (p:=fun x:Int=> -9223372036854775808≤x∧x<9223372036854775808) (by decide) (fun i i0 i1=>by
  have:i=0∨i=1∨i=2∨i=3:=by simp at i1;omega
  rcases this with rfl|rfl|rfl|rfl
  ·exact h1
  ·exact h2
  ·exact h3
  ·exact h4) j
theorem zv5 {r:List PV} (hr:uk zqz r):∃ n:Ins,r=n.cells∧zlz n:=by
 obtain ⟨a1,_,rfl,h1,k1⟩:=xi hr
 obtain ⟨a2,_,rfl,h2,k2⟩:=xi k1
 obtain ⟨a3,_,rfl,h3,k3⟩:=xi k2
 obtain ⟨a4,_,rfl,h4,k4⟩:=xi k3
 obtain ⟨a5,_,rfl,h5,k5⟩:=xi k4
 obtain ⟨x1,rfl,_⟩:=uY h1
 obtain ⟨x2,rfl,b2⟩:=uY h2
 obtain ⟨x3,rfl,b3⟩:=uY h3
 obtain ⟨x4,rfl,b4⟩:=uY h4
 obtain ⟨x5,rfl,b5⟩:=uY h5
 rw [Uv k5]
 exact ⟨⟨x1,x2,x3,x4,x5⟩,rfl,zoG b2 b3 b4 b5⟩
theorem zv6 {r:List PV} (hr:uk zqA r):∃ n:xn,r=n.cells∧n.Name.size≤9223372036854775807:=by
 obtain ⟨a1,_,rfl,h1,k1⟩:=xi hr
 obtain ⟨a2,_,rfl,h2,k2⟩:=xi k1
 obtain ⟨a3,_,rfl,h3,k3⟩:=xi k2
 obtain ⟨a4,_,rfl,h4,k4⟩:=xi k3
 obtain ⟨x1,rfl,b1⟩:=zjo h1
 obtain ⟨x2,rfl,_⟩:=uY h2
 obtain ⟨x3,rfl,_⟩:=uY h3
 obtain ⟨x4,rfl,_⟩:=uY h4
 rw [Uv k4]
 exact ⟨⟨x1,x2,x3,x4⟩,rfl,b1⟩
theorem zme:zlz default:=zoG (by decide) (by decide) (by decide) (by decide)
theorem zrk {r:List PV} (hr:uk zjY r):∃ f:zG,r=f.cells∧UJ f∧zbv f:=by
 obtain ⟨a1,_,rfl,h1,k1⟩:=xi hr
 obtain ⟨a2,_,rfl,h2,k2⟩:=xi k1
 obtain ⟨a3,_,rfl,h3,k3⟩:=xi k2
 obtain ⟨a4,_,rfl,h4,k4⟩:=xi k3
 obtain ⟨a5,_,rfl,h5,k5⟩:=xi k4
 obtain ⟨a6,_,rfl,h6,k6⟩:=xi k5
 obtain ⟨a7,_,rfl,h7,k7⟩:=xi k6
 obtain ⟨a8,_,rfl,h8,k8⟩:=xi k7
 obtain ⟨a9,_,rfl,h9,k9⟩:=xi k8
 obtain ⟨x1,rfl,b1⟩:=zjo h1
 obtain ⟨x2,rfl,_⟩:=uY h2
 obtain ⟨x3,rfl,_⟩:=uY h3
 obtain ⟨x4,rfl⟩:=zlR h4
 obtain ⟨x5,rfl,_⟩:=uY h5
 obtain ⟨x6,rfl,b6⟩:=zv7 h6
 obtain ⟨x7,rfl,b7,c7⟩:=J' yk.cells (fun n=>n.Str.size≤9223372036854775807∧n.Flt<2 ^ 64) zqB (fun r hr=>zv8 hr) h7
 obtain ⟨x8,rfl,b8,c8⟩:=J' Ins.cells zlz zqz (fun r hr=>zv5 hr) h8
 obtain ⟨x9,rfl,b9,c9⟩:=J' xn.cells (fun n=>n.Name.size≤9223372036854775807) zqA (fun r hr=>zv6 hr) h9
 rw [Uv k9]
 have v7:∀ i:Int,(za (ol x7) i).Str.size≤9223372036854775807∧(za (ol x7) i).Flt<2 ^ 64:=Wd (p:=fun n:yk=>n.Str.size≤9223372036854775807∧n.Flt<2 ^ 64) (by decide) (fun i h0 h1=>c7 _ (zcB h0 h1))
 exact ⟨⟨x1,x2,x3,x4,x5,x6,x7,x8,x9⟩,rfl,⟨b1,b6,b7,fun i=>(v7 i).1,b8,b9,Wd (p:=fun n:xn=>n.Name.size≤9223372036854775807) (by decide) (fun i h0 h1=>c9 _ (zcB h0 h1))⟩,⟨fun i=>(v7 i).2,Wd (p:=zlz) zme (fun i h0 h1=>c8 _ (zcB h0 h1))⟩⟩
theorem zqf:UJ default:=⟨by decide,by decide,by decide,fun i=>by rw [show ol (default:zG).Consts=[] from rfl,Qc];decide,by decide,by decide,fun i=>by rw [show ol (default:zG).Named=[] from rfl,Qc];decide⟩
theorem zqg:zbv default:=⟨fun i=>by rw [show ol (default:zG).Consts=[] from rfl,Qc];decide,fun i=>by rw [show ol (default:zG).Ins=[] from rfl,Qc];exact zme⟩
theorem zti {r:List PV} (hr:uk zsw r):∃ o:Option (List zG),r=Vz o∧(ol o).length≤9223372036854775807∧(∀ i:Int,UJ (za (ol o) i))∧∀ i:Int,zbv (za (ol o) i):=by
 obtain ⟨a1,_,rfl,h1,k1⟩:=xi hr
 obtain ⟨x,rfl,b,c⟩:=J' zG.cells (fun f=>UJ f∧zbv f) zjY (fun r hr=>zrk hr) h1
 rw [Uv k1]
 exact ⟨x,rfl,b,Wd zqf (fun i h0 h1=>(c _ (zcB h0 h1)).1),Wd zqg (fun i h0 h1=>(c _ (zcB h0 h1)).2)⟩
end Go.Proofs.Tryd.Av
end

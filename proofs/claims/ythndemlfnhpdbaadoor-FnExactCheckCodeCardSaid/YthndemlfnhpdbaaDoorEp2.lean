/- What the functions compute -/
import Derived.Test.YthndemlfnhpdbaaDoorEp1
set_option linter.all false
section
attribute [local congr] ite_congr
set_option maxRecDepth 10000
set_option maxHeartbeats 4000000
namespace Go.Proofs.Tryd.Av
open Go Go.Av Classical
section
theorem Ty.frzApp {H:zd} {p:PV} {l:List Int} (h:Ty H p l):∃ p0,xU p0 l∧∀ X,Go.Av.frz 8 (H++X) p=p0:=by
 rcases h with h|⟨rfl,rfl⟩|⟨id,rfl,h⟩
 ·exact ⟨p,h,fun X=>uz h 7 _⟩
 ·exact ⟨.nils,.inr ⟨rfl,rfl⟩,fun X=>rfl⟩
 ·exact ⟨yq l,.inl rfl,fun X=>uG (d:=6) (zY H X h)⟩
theorem Ty.frzAppD {H:zd} {p:PV} {l:List Int} (h:Ty H p l) (d:Nat):∃ p0,xU p0 l∧∀ X,Go.Av.frz (d+2) (H++X) p=p0:=by
 rcases h with h|⟨rfl,rfl⟩|⟨id,rfl,h⟩
 ·exact ⟨p,h,fun X=>uz h (d+1) _⟩
 ·exact ⟨.nils,.inr ⟨rfl,rfl⟩,fun X=>rfl⟩
 ·exact ⟨yq l,.inl rfl,fun X=>uG (d:=d) (zY H X h)⟩
theorem Ty.idxApp {H:zd} {p:PV} {l:List Int} (h:Ty H p l) (k:IntKind) {i:Int} (i0:0≤i) (i1:i<l.length):∃ a,∀ X,wW 1 (H++X) p (.int k i)=some a∧ZK false 1 a (H++X)=some (.int .i64 (za l i)):=by
 rcases h with h|⟨rfl,rfl⟩|⟨id,rfl,h⟩
 ·exact ⟨_,fun X=>⟨ve h _ k i i0 i1,by simp [ZK,cellsAt,xb]⟩⟩
 ·simp at i1;omega
 ·refine ⟨.ptr id i.toNat 0 l.length,fun X=>⟨?_,?_⟩⟩
  ·rw [zmd _ _ _ _ _ _ _ _ i0,zY H X h]
   have:=zhf 1 0 l.length l.length id i 1 (fun k:Int=>[PV.int .i64 k]) l rfl rfl i1 (by omega)
   simpa using this
  ·have:=wc i0 i1
   simp [ZK,cellsAt,zY H X h,xb,List.getElem?_map,this]
theorem zbV {l:List Int} (h:0<l.length):Wf l.length=.sl 1 0 l.length l.length∧KK l l.length=[.cells 1 [[.int .i64 (za l 0)]],.cells 1 (yn l)]:=by
 have c:¬(l.length:Int)=0:=by omega
 rw [Uq c,JE c]
 simp
section
variable {f:zc} {at_:Int} {H:zd} {bp bq tp gp:PV} {s:yr} {ts:List Int} {gs:List Gd} (h:Jw f at_ H bp bq tp gp s ts gs) {A' B C D:Int}
include h
theorem zwf (hnd:za f.Ins at_=⟨41,A',B,C,D⟩) (hC:0≤C∧C<ts.length) (hl:s.Types.length=ts.length) (hb:ts.length≤1048576):zdd f at_ H bp bq tp gp [(at_+1,⟨ts,gs⟩),(B,⟨ts.set C.toNat (za s.Types C),gs⟩)]:=by
 obtain ⟨b1,b2⟩:=h.b.leaf
 obtain ⟨t1,t2⟩:=h.t.leaf
 have c1:=xf h.c
 have c2:=yN h.c
 have g1:=xf h.g
 have g2:=yN h.g
 have g3:=yL h.g
 have a0:=h.a0
 have a1:=h.a1
 have an:=h.n
 have he:=fun k=>h.ed k
 simp only [g3,List.append_nil] at he
 have hc0:=hC.1
 have hc1:=hC.2
 obtain ⟨p0,hp0,hf⟩:=h.t.frzApp
 have hcp:=zao hp0 hb
 rw [(zbV (by omega:0<ts.length)).1,(zbV (by omega:0<ts.length)).2] at hcp
 obtain ⟨a,ha⟩:=h.b.idxApp .i64 hc0 (by omega)
 have ha1:=fun X=>(ha X).1
 have ha2:=fun X=>(ha X).2
 have hk:=Uu (H.length+6) ts
 have hN:=zfd H [.cells 9 [f.cells],.cells 3 [zo bp bq],.cells 5 [Ins.cells ⟨41,A',B,C,D⟩],.cells 3 [zo tp gp]] (Ur (a:=at_+1) t1 g1)
 have hM:=zjC H [.cells 9 [f.cells],.cells 3 [zo bp bq],.cells 5 [Ins.cells ⟨41,A',B,C,D⟩],.cells 3 [zo tp gp],.cells 4 [fr (at_+1) tp gp]] [.cells 1 [[.int .i64 (za ts 0)]],.cells 1 (yn (ts.set C.toNat (za s.Types C)))] (r1:=fr (at_+1) tp gp) (Ur (a:=B) (p:=.sl (H.length+7) 0 ts.length ts.length) rfl g1)
 have hT:=fun (X:zd) ed=>Jc (n:=H.length) (v:=.sl (H.length+5) 0 2 2) (H:=X) (ed:=ed) (r:=H.length+5) (by simp [refs]) (by omega)
 simp only [zc.cells,ups,zf,zj,zm,Ins.cells,zo,fr,List.cons_append,List.nil_append,List.length_cons,List.length_nil,Nat.zero_add,Nat.reduceAdd] at hN hM
 refine ⟨_,_,_,by (simp -implicitDefEqProofs +contextual (disch:=omega) only [vy,vz,wv,zc.cells,ups,zf,zj,zm,Ins.cells,zo,zD, ↓zy, ↓zE,zz, ↓XD,XU, ↓reduceIte,sevalprocAttr,hnd,a0,a1,b1,b2,c1,c2,g1,g2,g3,t1,t2,he,hT,hf,hcp,zQ,yX,xG,hk,Nat.add_assoc,Nat.reduceAdd,ha1,ha2,hc0,hc1,hN.1,hN.2.1,hN.2.2.1,hN.2.2.2,hM.1,hM.2.1,hM.2.2.1,hM.2.2.2])<;>rfl,Uo.two ?_ ⟨tp,gp,rfl,h.t.app _,h.g⟩ ⟨.sl (H.length+7) 0 ts.length ts.length,gp,rfl,.inr (.inr ⟨H.length+7,by simp,?_⟩),h.g⟩,?_⟩
 ·rw [wC];rfl
 ·rw [wC];rfl
 ·simp
end
theorem zx7 (f:zc) (at_ B:Int) (bp bq tp gp h5 h7 h11 h12 h13:PV) (t n:Nat) (G:List Int→zd) (q1:∀ l,(G l)[t]?=some (.cells 1 (yn l))) (q2:∀ l v,(G l).set t (.cells 1 (yn v))=G v) (q3:∀ l v roots,trim (G l).length roots (G v) []=(G v,[])) (hb:n≤1048576) (hB0:0≤B) (hB1:B≤n) (a0:List Int) (hok0:a0.length=n):EV A (.loop (XH 0)) (⟨[(0,.agg f.cells),(1,.int .i64 at_),(2,.agg (zo bp bq)),(3,tp),(4,gp),(5,h5),(7,h7),(10,.nils),(11,h11),(12,h12),(13,h13),(46,.int .i64 31),(56,.bool false),(15,.sl t 0 n n),(16,.int .i64 (B))],[],G a0,[]⟩:St)=some (zp.exit 1,(⟨[(0,.agg f.cells),(1,.int .i64 at_),(2,.agg (zo bp bq)),(3,tp),(4,gp),(5,h5),(7,h7),(10,.nils),(11,h11),(12,h12),(13,h13),(46,.int .i64 31),(56,.bool false),(15,.sl t 0 n n),(16,.int .i64 (n))],[],G (iter (fun (i:Int) (a:List Int)=>a.set (i).toNat 0) ((n:Int)-B).toNat (B) a0),[]⟩:St))∧(iter (fun (i:Int) (a:List Int)=>a.set (i).toNat 0) ((n:Int)-B).toNat (B) a0).length=n:=by
 refine vk (fun i (a:List Int)=>(⟨[(0,.agg f.cells),(1,.int .i64 at_),(2,.agg (zo bp bq)),(3,tp),(4,gp),(5,h5),(7,h7),(10,.nils),(11,h11),(12,h12),(13,h13),(46,.int .i64 31),(56,.bool false),(15,.sl t 0 n n),(16,.int .i64 i)],[],G a,[]⟩:St)) (fun (i:Int) (a:List Int)=>a.set (i).toNat 0) (fun i (a:List Int)=>a.length=n) (fun a=>(zp.exit 1,(⟨[(0,.agg f.cells),(1,.int .i64 at_),(2,.agg (zo bp bq)),(3,tp),(4,gp),(5,h5),(7,h7),(10,.nils),(11,h11),(12,h12),(13,h13),(46,.int .i64 31),(56,.bool false),(15,.sl t 0 n n),(16,.int .i64 (n))],[],G a,[]⟩:St))) (B) (n) ?_ ?_ (B) a0 (by omega) (by omega) hok0
 ·intro i a hi hn hok
  refine ⟨⟨_,by simp -implicitDefEqProofs +contextual (disch:=omega) only [Uz,wv, ↓XD,XU, ↓reduceIte,sevalprocAttr,q1,q2,hn,hok];rfl,by first|(simp [St.next,zW,q3];done)|(simp [St.next,zW,q3];omega)|(simp [St.next,trim,bare,zt,refs,q3];done)⟩,by simpa using hok⟩
 ·rintro i a hi rfl hok
  refine ⟨by simp -implicitDefEqProofs +contextual (disch:=omega) only [Uz,wv, ↓XD,XU, ↓reduceIte,sevalprocAttr,q1,q2,Int.lt_irrefl,hok],by simp⟩
theorem zkq:∀ (m:Nat) (i:Int) (l:List Int),0≤i→i+m=l.length→iter (fun (i:Int) (a:List Int)=>a.set i.toNat 0) m i l=l.take i.toNat++List.replicate m 0
 |0,i,l,h0,h=>by
  rw [iter,List.take_of_length_le (by omega)];simp
 |m+1,i,l,h0,h=>by
  rw [iter,zkq m (i+1) _ (by omega) (by simp;omega)]
  have e:(i+1).toNat=i.toNat+1:=by omega
  rw [e,List.take_set,List.replicate_succ]
  have hl:i.toNat<l.length:=by omega
  rw [List.take_succ_eq_append_getElem hl,List.set_append_right _ _ (by rw [List.length_take];omega)]
  have:i.toNat-(l.take i.toNat).length=0:=by rw [List.length_take];omega
  rw [this];simp
noncomputable def zlq (B:Int) (l:List Int):List Int:=((l.take B.toNat++List.replicate (l.length-B.toNat) 0).set B.toNat 1).set (B+1).toNat 1
section
variable {f:zc} {at_:Int} {H:zd} {bp bq tp gp:PV} {s:yr} {ts:List Int} {gs:List Gd} (h:Jw f at_ H bp bq tp gp s ts gs) {A' B C D:Int}
include h
theorem zxR (hnd:za f.Ins at_=⟨31,A',B,C,D⟩) (hB:0≤B∧B+1<s.Types.length) (hb:s.Types.length≤1048576):zdd f at_ H bp bq tp gp [(at_+1,⟨ts,gs⟩),(A',⟨zlq B s.Types,s.Guards⟩)]:=by
 obtain ⟨b1,b2⟩:=h.b.leaf
 obtain ⟨t1,t2⟩:=h.t.leaf
 have c1:=xf h.c
 have c2:=yN h.c
 have c3:=yL h.c
 have g1:=xf h.g
 have g2:=yN h.g
 have g3:=yL h.g
 have a0:=h.a0
 have a1:=h.a1
 have an:=h.n
 have he:=fun k=>h.ed k
 simp only [g3,List.append_nil] at he
 have hB0:=hB.1
 have hB1:=hB.2
 obtain ⟨p0,hp0,hf⟩:=h.b.frzApp
 have hcp:=zao hp0 hb
 rw [(zbV (by omega:0<s.Types.length)).1,(zbV (by omega:0<s.Types.length)).2] at hcp
 have hk:=Uu (H.length+6) s.Types
 obtain ⟨z,hz⟩:∃ z,z=s.Types.take B.toNat++List.replicate (s.Types.length-B.toNat) 0:=⟨_,rfl⟩
 have hzl:z.length=s.Types.length:=by rw [hz];simp;omega
 have hz2:(z.set B.toNat 1).length=s.Types.length:=by rw [List.length_set];exact hzl
 have hlo:=zx7 f at_ B bp bq tp gp (.ptr H.length 0 0 1) (.ptr (H.length+1) 0 0 1) (.ptr (H.length+2) 0 0 1) (.sl (H.length+5) 0 1 1) (.ptr (H.length+3) 0 0 1) (H.length+7) s.Types.length (fun l=>H++[.cells 9 [f.cells],.cells 3 [zo bp bq],.cells 5 [Ins.cells ⟨31,A',B,C,D⟩],.cells 3 [zo tp gp],.cells 4 [fr (at_+1) tp gp],.cells 4 [fr (at_+1) tp gp],.cells 1 [[.int .i64 (za s.Types 0)]],.cells 1 (yn l)])
  (fun l=>by rw [wC];rfl) (fun l v=>by rw [JC];rfl) (fun l v roots=>zW _ _ _ (by simp)) hb hB0 (by omega) s.Types rfl
 obtain ⟨hlo,_⟩:=hlo
 have hit:=zkq (((s.Types.length:Int)-B).toNat) B s.Types hB0 (by omega)
 have e9:((s.Types.length:Int)-B).toNat=s.Types.length-B.toNat:=by omega
 rw [hit,e9, ←hz] at hlo
 have hN:=zfd H [.cells 9 [f.cells],.cells 3 [zo bp bq],.cells 5 [Ins.cells ⟨31,A',B,C,D⟩],.cells 3 [zo tp gp]] (Ur (a:=at_+1) t1 g1)
 have hM:=zjC H [.cells 9 [f.cells],.cells 3 [zo bp bq],.cells 5 [Ins.cells ⟨31,A',B,C,D⟩],.cells 3 [zo tp gp],.cells 4 [fr (at_+1) tp gp]] [.cells 1 [[.int .i64 (za s.Types 0)]],.cells 1 (yn ((z.set B.toNat 1).set (B+1).toNat 1))] (r1:=fr (at_+1) tp gp) (Ur (a:=A') (p:=.sl (H.length+7) 0 s.Types.length s.Types.length) rfl c1)
 have hT:=fun (X:zd) ed=>Jc (n:=H.length) (v:=.sl (H.length+5) 0 2 2) (H:=X) (ed:=ed) (r:=H.length+5) (by simp [refs]) (by omega)
 simp only [zc.cells,ups,zf,zj,zm,Ins.cells,zo,fr,List.cons_append,List.nil_append,List.length_cons,List.length_nil,Nat.zero_add,Nat.reduceAdd] at hN hM hlo
 refine ⟨_,_,_,by (simp -implicitDefEqProofs +contextual (disch:=omega) only [vy,vz,wv,zc.cells,ups,zf,zj,zm,Ins.cells,zo,zD, ↓zy, ↓zE,zz, ↓XD,XU, ↓reduceIte,sevalprocAttr,hnd,a0,a1,b1,b2,c1,c2,c3,g1,g2,g3,t1,t2,he,hT,hf,hcp,zQ,yX,xG,hk,Nat.add_assoc,Nat.reduceAdd,hB0,hB1,hlo,hzl,hN.1,hN.2.1,hN.2.2.1,hN.2.2.2,hM.1,hM.2.1,hM.2.2.1,hM.2.2.2])<;>rfl,Uo.two ?_ ⟨tp,gp,rfl,h.t.app _,h.g⟩ ⟨.sl (H.length+7) 0 s.Types.length s.Types.length,bq,rfl,.inr (.inr ⟨H.length+7,?_,?_⟩),h.c⟩,?_⟩
 ·rw [wC];rfl
 ·simp [zlq];omega
 ·rw [wC];simp [zlq,hz]
 ·simp
end
end
theorem zjB {f:zc} {at_:Int} {H:zd} {bp bq tp gp:PV} {s:yr} {ts:List Int} {gs:List Gd} (h:Jw f at_ H bp bq tp gp s ts gs) (hl:s.Types.length=ts.length) (hb:ts.length≤1048576)
  (h41:(za f.Ins at_).Op=41→0≤(za f.Ins at_).C∧(za f.Ins at_).C<ts.length) (h31:(za f.Ins at_).Op=31→0≤(za f.Ins at_).B∧(za f.Ins at_).B+1<ts.length):zdd f at_ H bp bq tp gp (wL (za f.Ins at_) at_ s ts gs):=by
 obtain ⟨nd,hnd⟩:∃ nd,za f.Ins at_=nd:=⟨_,rfl⟩
 rw [hnd] at h41 h31 ⊢
 obtain ⟨o,A',B,C,D⟩:=nd
 simp only at h41 h31
 by_cases g29:o=29
 ·have:=zoC h (.inl g29) hnd
  subst g29;simpa [wL] using this
 by_cases g30:o=30
 ·have:=zoC h (.inr g30) hnd
  subst g30;simpa [wL] using this
 by_cases g19:o=19
 ·subst g19
  have:=zwg h hnd
  simpa [wL] using this
 by_cases g41:o=41
 ·subst g41
  have:=zwf h hnd (h41 rfl) hl hb
  simpa [wL] using this
 by_cases g31:o=31
 ·subst g31
  have hB:=h31 rfl
  have:=zxR h hnd ⟨hB.1,by omega⟩ (by omega)
  simpa [wL,zlq] using this
 by_cases g:o=20∨o=21∨o=38∨o=39
 ·have:=zxS h g hnd
  rcases g with rfl|rfl|rfl|rfl<;>simpa [wL] using this
 ·have e20:¬o=20:=fun e=>g (.inl e)
  have e21:¬o=21:=fun e=>g (.inr (.inl e))
  have e38:¬o=38:=fun e=>g (.inr (.inr (.inl e)))
  have e39:¬o=39:=fun e=>g (.inr (.inr (.inr e)))
  have:=zwh h g19 g29 g30 e20 e21 e38 e39 g41 g31 hnd
  simpa [wL,g19,g29,g30,e20,e21,e38,e39,g41,g31] using this
theorem vm.push {H:zd} {p:PV} {l:List Int} (h:vm H p l) (hb:l.length≤4000000) (v:Int):∃ p' H',xe (H++[.cells 1 [[.int .i64 v]]]) 1 8 p [[.int .i64 v]]=some (p',H',[])∧vm H' p' (l++[v])∧H.length≤H'.length∧(∀ j,j<H.length→j∉refs p→H'[j]?=H[j]?)∧∀ r∈refs p',r∈refs p∨H.length≤r:=by
 rcases h with ⟨rfl,rfl⟩|⟨id,rfl,h1⟩
 ·have:=xE (H++[.cells 1 [[.int .i64 v]]]) 1 8 [[.int .i64 v]] (by simp)
  refine ⟨_,_,this,.inr ⟨(H++[yf.cells 1 [[PV.int .i64 v]]]).length,rfl,by rw [xo];rfl⟩,by simp,fun j hj _=>by rw [List.append_assoc,List.getElem?_append_left hj],fun r hr=>?_⟩
  simp [refs] at hr;subst hr;right;simp
 ·have h2:=zY H [.cells 1 [[.int .i64 v]]] h1
  have:=ZC (by':=8) (n:=l.length) h2 (by simp) (by omega) [.int .i64 v] rfl
  refine ⟨_,_,this,.inr ⟨id,by simp,?_⟩,by simp,fun j hj hn=>?_,fun r hr=>.inl (by simpa [refs] using hr)⟩
  ·rw [List.getElem?_set_self (xd h2)];simp [yn]
  ·rw [List.getElem?_set_ne (fun e=>hn (by simp [refs,e])),List.getElem?_append_left hj]
theorem vm.keep {H H':zd} {p:PV} {l:List Int} (h:vm H p l) (hk:∀ r∈refs p,H'[r]?=H[r]?):vm H' p l:=by
 rcases h with h|⟨id,rfl,h1⟩
 ·exact .inl h
 ·exact .inr ⟨id,rfl,by rw [hk id (by simp [refs])];exact h1⟩
theorem vm.lt {H:zd} {p:PV} {l:List Int} (h:vm H p l):∀ r∈refs p,r<H.length:=by
 rcases h with ⟨rfl,rfl⟩|⟨id,rfl,h⟩
 ·intro r hr;cases hr
 ·intro r hr;simp [refs] at hr;subst hr;exact xd h
theorem vm.trim {H:zd} {p:PV} {l:List Int} (h:vm H p l) {k:Nat} {roots:List PV} (hp:p∈roots) (ed:zV):vm (trim k roots H ed).1 p l:=
 h.keep fun r hr=>ux _ _ _ _ (.inr (JY hp hr))
structure KJ (b0 b1:yf) (H:zd) (t:PV) (K:zd) (tkp syp:PV) (a:Rd):Prop where
 len:H.length+2≤K.length
 old:∀ j,j<H.length→j∉refs t→K[j]?=H[j]?
 c:K[H.length]?=some b0
 n:K[H.length+1]?=some b1
 ty:vm K t a.ts
 tk:vm K tkp a.tk
 sy:vm K syp a.sy
 tin:∀ r∈refs t,r<H.length
 far1:∀ r∈refs tkp,H.length+2≤r
 far2:∀ r∈refs syp,H.length+2≤r
 apart:∀ r∈refs tkp,r∉refs syp
theorem KJ.trim {b0 b1:yf} {H:zd} {t:PV} {K:zd} {tkp syp:PV} {a:Rd} (h:KJ b0 b1 H t K tkp syp a) {k:Nat} (hk:H.length+2≤k) (hkl:k≤K.length) {roots:List PV} (h1:tkp∈roots) (h2:syp∈roots):KJ b0 b1 H t (trim k roots K []).1 tkp syp a:=by
 have kp:∀ j,j<k→(Go.Av.trim k roots K []).1[j]?=K[j]?:=fun j hj=>ux _ _ _ _ (.inl hj)
 refine ⟨?_,fun j h1 h2=>(kp j (by omega)).trans (h.old j h1 h2),(kp _ (by omega)).trans h.c,(kp _ (by omega)).trans h.n,h.ty.keep fun r hr=>kp r (by have:=h.tin r hr;omega),h.tk.trim h1 _,h.sy.trim h2 _,h.tin,h.far1,h.far2,h.apart⟩
 rw [Go.Av.trim]
 split
 ·simp;omega
 ·exact h.len
theorem KJ.take {b0 b1:yf} {H:zd} {K:zd} {tid:Nat} {tkp syp:PV} {a:Rd} (h:KJ b0 b1 H (.sl tid 0 a.ts.length a.ts.length) K tkp syp a) (q:Int) (hb:a.tk.length≤1000):∃ p' K',xe (K.set tid (.cells 1 (yn (a.ts.set q.toNat 0)))++[.cells 1 [[.int .i64 q]]]) 1 8 tkp [[.int .i64 q]]=some (p',K',[])∧KJ b0 b1 H (.sl tid 0 a.ts.length a.ts.length) K' p' syp ⟨a.ts.set q.toNat 0,a.tk++[q],a.sy⟩∧K.length≤K'.length:=by
 have ht:=h.tin tid (by simp [refs])
 have hl:=h.len
 have hset:∀ j,j≠tid→(K.set tid (.cells 1 (yn (a.ts.set q.toNat 0))))[j]?=K[j]?:=fun j hj=>List.getElem?_set_ne (Ne.symm hj)
 have hne1:∀ r∈refs tkp,r≠tid:=fun r hr e=>by have:=h.far1 r hr;omega
 have hne2:∀ r∈refs syp,r≠tid:=fun r hr e=>by have:=h.far2 r hr;omega
 have htk:vm (K.set tid (.cells 1 (yn (a.ts.set q.toNat 0)))) tkp a.tk:=h.tk.keep fun r hr=>hset r (hne1 r hr)
 obtain ⟨p',K',e1,e2,e3,e4,e5⟩:=htk.push (by omega) q
 simp only [List.length_set] at e3 e4 e5
 have old:∀ j,j<K.length→j∉refs tkp→j≠tid→K'[j]?=K[j]?:=fun j h1 h2 h3=>(e4 j h1 h2).trans (hset j h3)
 have nf:∀ j,j<H.length+2→j∉refs tkp:=fun j hj hr=>by have:=h.far1 j hr;omega
 refine ⟨p',K',e1,⟨by omega,fun j h1 h2=>?_,?_,?_,.inr ⟨tid,by simp,?_⟩,e2,h.sy.keep fun r hr=>?_,h.tin,fun r hr=>?_,h.far2,fun r hr hs=>?_⟩,e3⟩
 ·rw [old j (by omega) (nf j (by omega)) (fun e=>h2 (by simp [refs,e]))]
  exact h.old j h1 h2
 ·rw [old _ (by omega) (nf _ (by omega)) (by omega)];exact h.c
 ·rw [old _ (by omega) (nf _ (by omega)) (by omega)];exact h.n
 ·rw [e4 tid (by omega) (nf tid (by omega)),List.getElem?_set_self (by omega)]
 ·exact old r (h.sy.lt r hr) (fun h2=>h.apart r h2 hr) (hne2 r hr)
 ·rcases e5 r hr with h1|h1
  ·exact h.far1 r h1
  ·omega
 ·rcases e5 r hr with h1|h1
  ·exact h.apart r h1 hs
  ·have:=h.sy.lt r hs;omega
theorem KJ.stay {b0 b1:yf} {H:zd} {t:PV} {K:zd} {tkp syp:PV} {a:Rd} (h:KJ b0 b1 H t K tkp syp a) (q:Int) (hb:a.sy.length≤1000):∃ p' K',xe (K++[.cells 1 [[.int .i64 q]]]) 1 8 syp [[.int .i64 q]]=some (p',K',[])∧KJ b0 b1 H t K' tkp p' ⟨a.ts,a.tk,a.sy++[q]⟩∧K.length≤K'.length:=by
 have hl:=h.len
 obtain ⟨p',K',e1,e2,e3,e4,e5⟩:=h.sy.push (by omega) q
 have nf:∀ j,j<H.length+2→j∉refs syp:=fun j hj hr=>by have:=h.far2 j hr;omega
 refine ⟨p',K',e1,⟨by omega,fun j h1 h2=>(e4 j (by omega) (nf j (by omega))).trans (h.old j h1 h2),(e4 _ (by omega) (nf _ (by omega))).trans h.c,(e4 _ (by omega) (nf _ (by omega))).trans h.n,h.ty.keep fun r hr=>e4 r (by have:=h.tin r hr;omega) (nf r (by have:=h.tin r hr;omega)),h.tk.keep fun r hr=>e4 r (h.tk.lt r hr) (h.apart r hr),e2,h.tin,h.far1,fun r hr=>?_,fun r hr hs=>?_⟩,e3⟩
 ·rcases e5 r hr with h1|h1
  ·exact h.far2 r h1
  ·omega
 ·rcases e5 r hs with h1|h1
  ·exact h.apart r hr h1
  ·have:=h.tk.lt r hr;omega
theorem KJ.more {b0 b1:yf} {H:zd} {t:PV} {K:zd} {tkp syp:PV} {a:Rd} (h:KJ b0 b1 H t K tkp syp a) (q:Int) (hb:a.tk.length≤1000):∃ p' K',xe (K++[.cells 1 [[.int .i64 q]]]) 1 8 tkp [[.int .i64 q]]=some (p',K',[])∧KJ b0 b1 H t K' p' syp ⟨a.ts,a.tk++[q],a.sy⟩∧K.length≤K'.length:=by
 have hl:=h.len
 obtain ⟨p',K',e1,e2,e3,e4,e5⟩:=h.tk.push (by omega) q
 have nf:∀ j,j<H.length+2→j∉refs tkp:=fun j hj hr=>by have:=h.far1 j hr;omega
 refine ⟨p',K',e1,⟨by omega,fun j h1 h2=>(e4 j (by omega) (nf j (by omega))).trans (h.old j h1 h2),(e4 _ (by omega) (nf _ (by omega))).trans h.c,(e4 _ (by omega) (nf _ (by omega))).trans h.n,h.ty.keep fun r hr=>e4 r (by have:=h.tin r hr;omega) (nf r (by have:=h.tin r hr;omega)),e2,h.sy.keep fun r hr=>e4 r (h.sy.lt r hr) (fun h2=>h.apart r h2 hr),h.tin,fun r hr=>?_,h.far2,fun r hr hs=>?_⟩,e3⟩
 ·rcases e5 r hr with h1|h1
  ·exact h.far1 r h1
  ·omega
 ·rcases e5 r hr with h1|h1
  ·exact h.apart r h1 hs
  ·have:=h.sy.lt r hs;omega
end Go.Proofs.Tryd.Av
end
section
set_option maxRecDepth 10000
set_option maxHeartbeats 4000000
namespace Go.Proofs.Tryd.Av
open Go Go.Av Classical
section
def zau (r x:Int) (ts:List Int):Prop:=(r=4∧¬za ts x=1)∨(r=5∧¬za ts x=2)∨(r=6∧¬za ts x=3)∨(r=18∧(¬za ts x=1∨¬za ts (x+1)=1∨¬za ts (x+2)=1))∨(r=19∧(¬za ts x=1∨¬za ts (x+1)=0))∨(r=20∧(¬za ts x=1∨¬za ts (x+1)=1))
def zS (r:Int):Prop:=r=4∨r=5∨r=6
def zal (rs fs:List Int) (k q:Int):Prop:=(0<k∧zS (za rs 0)∧za fs 0=q)∨(1<k∧zS (za rs 1)∧za fs 1=q)∨(2<k∧zS (za rs 2)∧za fs 2=q)
noncomputable def wY (ps:List zc) (rs fs:List Int) (k:Int) (a:List Int×List Int):Option (List Int×List Int):=
 if za rs k=2∨za rs k=3 then
  if ¬za a.1 (if za fs k<0 then -1-za fs k else za fs k)=(if za rs k=3 then 3 else 1) then none
  else if za fs k<0 then
   if zal rs fs k (-1-za fs k) then none
   else some (a.1.set (-1-za fs k).toNat 0,a.2++[-1-za fs k])
  else some a
 else if za rs k=11 then if Q4 (za ps (za fs k)).Ups a.1 then none else some a
 else if zau (za rs k) (za fs k) a.1 then none else some a
noncomputable def Zq (ps:List zc) (rs:List Int) (n:Ins) (ts:List Int):Option (List Int×List Int):=
 match wY ps rs [n.A,n.B,n.C,n.D] 0 (ts,[]) with
 |none=>none
 |some a=>match wY ps rs [n.A,n.B,n.C,n.D] 1 a with
  |none=>none
  |some b=>match wY ps rs [n.A,n.B,n.C,n.D] 2 b with
   |none=>none
   |some c=>wY ps rs [n.A,n.B,n.C,n.D] 3 c
noncomputable def xK (ps:List zc) (n:Ins) (ts:List Int):Option (List Int×List Int):=
 match Zq ps ((ze n.Op).getD []) n ts with
 |none=>none
 |some a=>some (a.1,if n.Op=40 then a.2++[n.A] else a.2)
theorem yZ {α β:Type} (p:Prop) [Decidable p] (x y:Option α) (f:α→Option β):(if p then x else y).bind f=if p then x.bind f else y.bind f:=by split<;>rfl
theorem yo (rs:List Int) (n:Ins) (ts:List Int):U7 rs n ts=(wh (za rs 0) n.A ⟨ts,[],[]⟩).bind fun a=>(wh (za rs 1) n.B a).bind fun b=>(wh (za rs 2) n.C b).bind fun c=>wh (za rs 3) n.D c:=by
 unfold U7
 cases wh (za rs 0) n.A ⟨ts,[],[]⟩ with
 |none=>rfl
 |some a=>dsimp only [Option.bind];cases wh (za rs 1) n.B a with
  |none=>rfl
  |some b=>dsimp only [Option.bind];cases wh (za rs 2) n.C b<;>rfl
theorem yj (ps:List zc) (rs:List Int) (n:Ins) (ts:List Int):Zq ps rs n ts=(wY ps rs [n.A,n.B,n.C,n.D] 0 (ts,[])).bind fun a=>(wY ps rs [n.A,n.B,n.C,n.D] 1 a).bind fun b=>(wY ps rs [n.A,n.B,n.C,n.D] 2 b).bind fun c=>wY ps rs [n.A,n.B,n.C,n.D] 3 c:=by
 unfold Zq
 cases wY ps rs [n.A,n.B,n.C,n.D] 0 (ts,[]) with
 |none=>rfl
 |some a=>dsimp only [Option.bind];cases wY ps rs [n.A,n.B,n.C,n.D] 1 a with
  |none=>rfl
  |some b=>dsimp only [Option.bind];cases wY ps rs [n.A,n.B,n.C,n.D] 2 b<;>rfl
theorem yv (ps:List zc) (n:Ins) (ts:List Int):reads ps n ts=(U7 ((zh n.Op).getD []) n ts).bind fun a=>if n.Op=11∧Q4 (za ps n.B).Ups a.ts then none else some (a.ts,a.tk):=by
 unfold reads
 cases U7 ((zh n.Op).getD []) n ts<;>rfl
theorem ym (ps:List zc) (n:Ins) (ts:List Int):xK ps n ts=(Zq ps ((ze n.Op).getD []) n ts).bind fun a=>some (a.1,if n.Op=40 then a.2++[n.A] else a.2):=by
 unfold xK
 cases Zq ps ((ze n.Op).getD []) n ts<;>rfl
theorem YC (x:Int) (a:Rd):wh 2 x a=if x<0 then (if za a.ts (-1-x)=1 then (if -1-x∈a.sy then none else some ⟨a.ts.set (-1-x).toNat 0,a.tk++[-1-x],a.sy⟩) else none) else if za a.ts x=1 then some a else none:=by
 by_cases h:x<0
 ·by_cases h1:za a.ts (-1-x)=1<;>simp [wh,yT,wt,kO,h,h1]
 ·by_cases h1:za a.ts x=1<;>simp [wh,yT,wt,kO,h,h1]
theorem zdG (x:Int) (a:Rd):wh 3 x a=if x<0 then (if za a.ts (-1-x)=3 then (if -1-x∈a.sy then none else some ⟨a.ts.set (-1-x).toNat 0,a.tk++[-1-x],a.sy⟩) else none) else if za a.ts x=3 then some a else none:=by
 by_cases h:x<0
 ·by_cases h1:za a.ts (-1-x)=3<;>simp [wh,yT,wt,kO,h,h1]
 ·by_cases h1:za a.ts x=3<;>simp [wh,yT,wt,kO,h,h1]
theorem zqj (x:Int) (a:Rd):wh 4 x a=if za a.ts x=1 then some ⟨a.ts,a.tk,a.sy++[x]⟩ else none:=by
 by_cases h1:za a.ts x=1<;>simp [wh,yT,wt,kO,JK,h1]
theorem zqk (x:Int) (a:Rd):wh 5 x a=if za a.ts x=2 then some ⟨a.ts,a.tk,a.sy++[x]⟩ else none:=by
 by_cases h1:za a.ts x=2<;>simp [wh,yT,wt,kO,JK,h1]
theorem zir (x:Int) (a:Rd):wh 6 x a=if za a.ts x=3 then some ⟨a.ts,a.tk,a.sy++[x]⟩ else none:=by
 by_cases h1:za a.ts x=3<;>simp [wh,yT,wt,kO,JK,h1]
theorem zfB (x:Int) (a:Rd):wh 18 x a=if za a.ts x=1 then (if za a.ts (x+1)=1 then (if za a.ts (x+2)=1 then some ⟨a.ts,a.tk,a.sy++[x]⟩ else none) else none) else none:=by
 by_cases h1:za a.ts x=1<;>by_cases h2:za a.ts (x+1)=1<;>by_cases h3:za a.ts (x+2)=1<;>simp [wh,yT,wt,kO,JK,h1,h2,h3]
theorem zip (x:Int) (a:Rd):wh 19 x a=if za a.ts x=1 then (if za a.ts (x+1)=0 then some ⟨a.ts,a.tk++[x],a.sy++[x]⟩ else none) else none:=by
 by_cases h1:za a.ts x=1<;>by_cases h2:za a.ts (x+1)=0<;>simp [wh,yT,wt,kO,JK,h1,h2]
theorem ziq (x:Int) (a:Rd):wh 20 x a=if za a.ts x=1 then (if za a.ts (x+1)=1 then some ⟨a.ts,a.tk,a.sy++[x]⟩ else none) else none:=by
 by_cases h1:za a.ts x=1<;>by_cases h2:za a.ts (x+1)=1<;>simp [wh,yT,wt,kO,JK,h1,h2]
theorem wG (x:Int) (a:Rd):wh 0 x a=some a:=by simp [wh,yT]
theorem Xr (x:Int) (a:Rd):wh 1 x a=some a:=by simp [wh,yT]
theorem zz8 (x:Int) (a:Rd):wh 7 x a=some a:=by simp [wh,yT]
theorem zvr (x:Int) (a:Rd):wh 8 x a=some a:=by simp [wh,yT]
theorem zz9 (x:Int) (a:Rd):wh 9 x a=some a:=by simp [wh,yT]
theorem zfA (x:Int) (a:Rd):wh 10 x a=some a:=by simp [wh,yT]
theorem zyf (x:Int) (a:Rd):wh 11 x a=some a:=by simp [wh,yT]
theorem zyg (x:Int) (a:Rd):wh 12 x a=some a:=by simp [wh,yT]
theorem zyh (x:Int) (a:Rd):wh 13 x a=some a:=by simp [wh,yT]
theorem zyi (x:Int) (a:Rd):wh 14 x a=some a:=by simp [wh,yT]
theorem zyj (x:Int) (a:Rd):wh 15 x a=some a:=by simp [wh,yT]
theorem zyk (x:Int) (a:Rd):wh 16 x a=some a:=by simp [wh,yT]
theorem zyl (x:Int) (a:Rd):wh 17 x a=some a:=by simp [wh,yT]
theorem zym (x:Int) (a:Rd):wh 21 x a=some a:=by simp [wh,yT]
section
variable {ps:List zc} {rs fs:List Int} {k:Int} {a:List Int×List Int}
theorem ug (h:za rs k=2):wY ps rs fs k a=if za fs k<0 then (if za a.1 (-1-za fs k)=1 then (if zal rs fs k (-1-za fs k) then none else some (a.1.set (-1-za fs k).toNat 0,a.2++[-1-za fs k])) else none) else if za a.1 (za fs k)=1 then some a else none:=by
 unfold wY
 rw [h]
 by_cases c:za fs k<0
 ·by_cases h1:za a.1 (-1-za fs k)=1<;>simp [c,h1]
 ·by_cases h1:za a.1 (za fs k)=1<;>simp [c,h1]
theorem QE (h:za rs k=3):wY ps rs fs k a=if za fs k<0 then (if za a.1 (-1-za fs k)=3 then (if zal rs fs k (-1-za fs k) then none else some (a.1.set (-1-za fs k).toNat 0,a.2++[-1-za fs k])) else none) else if za a.1 (za fs k)=3 then some a else none:=by
 unfold wY
 rw [h]
 by_cases c:za fs k<0
 ·by_cases h1:za a.1 (-1-za fs k)=3<;>simp [c,h1]
 ·by_cases h1:za a.1 (za fs k)=3<;>simp [c,h1]
theorem zmg (h:za rs k=4):wY ps rs fs k a=if za a.1 (za fs k)=1 then some a else none:=by
 unfold wY;rw [h]
 by_cases h1:za a.1 (za fs k)=1<;>simp [zau,h1]
theorem zmh (h:za rs k=5):wY ps rs fs k a=if za a.1 (za fs k)=2 then some a else none:=by
 unfold wY;rw [h]
 by_cases h1:za a.1 (za fs k)=2<;>simp [zau,h1]
theorem zfl (h:za rs k=6):wY ps rs fs k a=if za a.1 (za fs k)=3 then some a else none:=by
 unfold wY;rw [h]
 by_cases h1:za a.1 (za fs k)=3<;>simp [zau,h1]
theorem zjI (h:za rs k=18):wY ps rs fs k a=if za a.1 (za fs k)=1 then (if za a.1 (za fs k+1)=1 then (if za a.1 (za fs k+2)=1 then some a else none) else none) else none:=by
 unfold wY;rw [h]
 by_cases h1:za a.1 (za fs k)=1<;>by_cases h2:za a.1 (za fs k+1)=1<;>by_cases h3:za a.1 (za fs k+2)=1<;>simp [zau,h1,h2,h3]
theorem zoI (h:za rs k=19):wY ps rs fs k a=if za a.1 (za fs k)=1 then (if za a.1 (za fs k+1)=0 then some a else none) else none:=by
 unfold wY;rw [h]
 by_cases h1:za a.1 (za fs k)=1<;>by_cases h2:za a.1 (za fs k+1)=0<;>simp [zau,h1,h2]
theorem zoJ (h:za rs k=20):wY ps rs fs k a=if za a.1 (za fs k)=1 then (if za a.1 (za fs k+1)=1 then some a else none) else none:=by
 unfold wY;rw [h]
 by_cases h1:za a.1 (za fs k)=1<;>by_cases h2:za a.1 (za fs k+1)=1<;>simp [zau,h1,h2]
theorem zoH (h:za rs k=11):wY ps rs fs k a=if Q4 (za ps (za fs k)).Ups a.1 then none else some a:=by
 unfold wY;rw [h];simp
theorem zM (h:¬za rs k=2) (h3:¬za rs k=3) (h4:¬za rs k=4) (h5:¬za rs k=5) (h6:¬za rs k=6) (h11:¬za rs k=11) (h18:¬za rs k=18) (h19:¬za rs k=19) (h20:¬za rs k=20):wY ps rs fs k a=some a:=by
 unfold wY;simp [zau,h,h3,h4,h5,h6,h11,h18,h19,h20]
theorem y_ (h0:¬zS (za rs 0)) (h1:¬zS (za rs 1)) (h2:¬zS (za rs 2)) (q:Int):zal rs fs k q=False:=by
 unfold zal;simp [h0,h1,h2]
theorem zb1 (h0:zS (za rs 0)) (h1:¬zS (za rs 1)) (h2:¬zS (za rs 2)) (hk:0<k) (q:Int):zal rs fs k q=(q=za fs 0):=by
 unfold zal;simp [h0,h1,h2,hk];exact eq_comm
end
theorem zu (a b c d:Int):za [a,b,c,d] 0=a∧za [a,b,c,d] 1=b∧za [a,b,c,d] 2=c∧za [a,b,c,d] 3=d:=⟨rfl,rfl,rfl,rfl⟩
theorem zwR (ps:List zc) (n:Ins) (ts:List Int) (hs:zh n.Op=some [11,0,0,0]) (hi:ze n.Op=some [7,0,0,0]) (h40:¬n.Op=40) (h11:¬n.Op=11):xK ps n ts=reads ps n ts:=by
 obtain ⟨f0,f1,f2,f3⟩:=zu n.A n.B n.C n.D
 obtain ⟨s0,s1,s2,s3⟩:=zu 11 0 0 0
 obtain ⟨i0,i1,i2,i3⟩:=zu 7 0 0 0
 have j0:=fun a=>zM (ps:=ps) (rs:=[7,0,0,0]) (fs:=[n.A,n.B,n.C,n.D]) (k:=0) (a:=a) (by rw [i0];decide) (by rw [i0];decide) (by rw [i0];decide) (by rw [i0];decide) (by rw [i0];decide) (by rw [i0];decide) (by rw [i0];decide) (by rw [i0];decide) (by rw [i0];decide)
 have j1:=fun a=>zM (ps:=ps) (rs:=[7,0,0,0]) (fs:=[n.A,n.B,n.C,n.D]) (k:=1) (a:=a) (by rw [i1];decide) (by rw [i1];decide) (by rw [i1];decide) (by rw [i1];decide) (by rw [i1];decide) (by rw [i1];decide) (by rw [i1];decide) (by rw [i1];decide) (by rw [i1];decide)
 have j2:=fun a=>zM (ps:=ps) (rs:=[7,0,0,0]) (fs:=[n.A,n.B,n.C,n.D]) (k:=2) (a:=a) (by rw [i2];decide) (by rw [i2];decide) (by rw [i2];decide) (by rw [i2];decide) (by rw [i2];decide) (by rw [i2];decide) (by rw [i2];decide) (by rw [i2];decide) (by rw [i2];decide)
 have j3:=fun a=>zM (ps:=ps) (rs:=[7,0,0,0]) (fs:=[n.A,n.B,n.C,n.D]) (k:=3) (a:=a) (by rw [i3];decide) (by rw [i3];decide) (by rw [i3];decide) (by rw [i3];decide) (by rw [i3];decide) (by rw [i3];decide) (by rw [i3];decide) (by rw [i3];decide) (by rw [i3];decide)
 have ea:=fun (k q:Int)=>y_ (rs:=[7,0,0,0]) (fs:=[n.A,n.B,n.C,n.D]) (k:=k) (by rw [i0];simp [zS]) (by rw [i1];simp [zS]) (by rw [i2];simp [zS]) q
 rw [yv,ym,yo,yj,hs,hi]
 simp only [Option.getD_some,s0,s1,s2,s3,wG,zyf,j0,j1,j2,j3,f0,f1,f2,f3,ea,yZ,Option.bind_some,Option.bind_none,h40,h11,(by decide:¬((11:Int)=40)),(by decide:¬((40:Int)=11)),if_true,if_false,true_and,false_and,List.not_mem_nil,List.mem_singleton,List.nil_append]
theorem zwS (ps:List zc) (n:Ins) (ts:List Int) (hs:zh n.Op=some [12,0,0,0]) (hi:ze n.Op=some [8,0,0,0]) (h40:¬n.Op=40) (h11:¬n.Op=11):xK ps n ts=reads ps n ts:=by
 obtain ⟨f0,f1,f2,f3⟩:=zu n.A n.B n.C n.D
 obtain ⟨s0,s1,s2,s3⟩:=zu 12 0 0 0
 obtain ⟨i0,i1,i2,i3⟩:=zu 8 0 0 0
 have j0:=fun a=>zM (ps:=ps) (rs:=[8,0,0,0]) (fs:=[n.A,n.B,n.C,n.D]) (k:=0) (a:=a) (by rw [i0];decide) (by rw [i0];decide) (by rw [i0];decide) (by rw [i0];decide) (by rw [i0];decide) (by rw [i0];decide) (by rw [i0];decide) (by rw [i0];decide) (by rw [i0];decide)
 have j1:=fun a=>zM (ps:=ps) (rs:=[8,0,0,0]) (fs:=[n.A,n.B,n.C,n.D]) (k:=1) (a:=a) (by rw [i1];decide) (by rw [i1];decide) (by rw [i1];decide) (by rw [i1];decide) (by rw [i1];decide) (by rw [i1];decide) (by rw [i1];decide) (by rw [i1];decide) (by rw [i1];decide)
 have j2:=fun a=>zM (ps:=ps) (rs:=[8,0,0,0]) (fs:=[n.A,n.B,n.C,n.D]) (k:=2) (a:=a) (by rw [i2];decide) (by rw [i2];decide) (by rw [i2];decide) (by rw [i2];decide) (by rw [i2];decide) (by rw [i2];decide) (by rw [i2];decide) (by rw [i2];decide) (by rw [i2];decide)
 have j3:=fun a=>zM (ps:=ps) (rs:=[8,0,0,0]) (fs:=[n.A,n.B,n.C,n.D]) (k:=3) (a:=a) (by rw [i3];decide) (by rw [i3];decide) (by rw [i3];decide) (by rw [i3];decide) (by rw [i3];decide) (by rw [i3];decide) (by rw [i3];decide) (by rw [i3];decide) (by rw [i3];decide)
 have ea:=fun (k q:Int)=>y_ (rs:=[8,0,0,0]) (fs:=[n.A,n.B,n.C,n.D]) (k:=k) (by rw [i0];simp [zS]) (by rw [i1];simp [zS]) (by rw [i2];simp [zS]) q
 rw [yv,ym,yo,yj,hs,hi]
 simp only [Option.getD_some,s0,s1,s2,s3,wG,zyg,j0,j1,j2,j3,f0,f1,f2,f3,ea,yZ,Option.bind_some,Option.bind_none,h40,h11,(by decide:¬((11:Int)=40)),(by decide:¬((40:Int)=11)),if_true,if_false,true_and,false_and,List.not_mem_nil,List.mem_singleton,List.nil_append]
theorem zjQ (ps:List zc) (n:Ins) (ts:List Int) (hs:zh n.Op=some [0,0,0,0]) (hi:ze n.Op=some [0,0,0,0]) (h40:¬n.Op=40) (h11:¬n.Op=11):xK ps n ts=reads ps n ts:=by
 obtain ⟨f0,f1,f2,f3⟩:=zu n.A n.B n.C n.D
 obtain ⟨s0,s1,s2,s3⟩:=zu 0 0 0 0
 obtain ⟨i0,i1,i2,i3⟩:=zu 0 0 0 0
 have j0:=fun a=>zM (ps:=ps) (rs:=[0,0,0,0]) (fs:=[n.A,n.B,n.C,n.D]) (k:=0) (a:=a) (by rw [i0];decide) (by rw [i0];decide) (by rw [i0];decide) (by rw [i0];decide) (by rw [i0];decide) (by rw [i0];decide) (by rw [i0];decide) (by rw [i0];decide) (by rw [i0];decide)
 have j1:=fun a=>zM (ps:=ps) (rs:=[0,0,0,0]) (fs:=[n.A,n.B,n.C,n.D]) (k:=1) (a:=a) (by rw [i1];decide) (by rw [i1];decide) (by rw [i1];decide) (by rw [i1];decide) (by rw [i1];decide) (by rw [i1];decide) (by rw [i1];decide) (by rw [i1];decide) (by rw [i1];decide)
 have j2:=fun a=>zM (ps:=ps) (rs:=[0,0,0,0]) (fs:=[n.A,n.B,n.C,n.D]) (k:=2) (a:=a) (by rw [i2];decide) (by rw [i2];decide) (by rw [i2];decide) (by rw [i2];decide) (by rw [i2];decide) (by rw [i2];decide) (by rw [i2];decide) (by rw [i2];decide) (by rw [i2];decide)
 have j3:=fun a=>zM (ps:=ps) (rs:=[0,0,0,0]) (fs:=[n.A,n.B,n.C,n.D]) (k:=3) (a:=a) (by rw [i3];decide) (by rw [i3];decide) (by rw [i3];decide) (by rw [i3];decide) (by rw [i3];decide) (by rw [i3];decide) (by rw [i3];decide) (by rw [i3];decide) (by rw [i3];decide)
 have ea:=fun (k q:Int)=>y_ (rs:=[0,0,0,0]) (fs:=[n.A,n.B,n.C,n.D]) (k:=k) (by rw [i0];simp [zS]) (by rw [i1];simp [zS]) (by rw [i2];simp [zS]) q
 rw [yv,ym,yo,yj,hs,hi]
 simp only [Option.getD_some,s0,s1,s2,s3,wG,j0,j1,j2,j3,f0,f1,f2,f3,ea,yZ,Option.bind_some,Option.bind_none,h40,h11,(by decide:¬((11:Int)=40)),(by decide:¬((40:Int)=11)),if_true,if_false,true_and,false_and,List.not_mem_nil,List.mem_singleton,List.nil_append]
theorem zwT (ps:List zc) (n:Ins) (ts:List Int) (hs:zh n.Op=some [1,7,0,0]) (hi:ze n.Op=some [1,9,0,0]) (h40:¬n.Op=40) (h11:¬n.Op=11):xK ps n ts=reads ps n ts:=by
 obtain ⟨f0,f1,f2,f3⟩:=zu n.A n.B n.C n.D
 obtain ⟨s0,s1,s2,s3⟩:=zu 1 7 0 0
 obtain ⟨i0,i1,i2,i3⟩:=zu 1 9 0 0
 have j0:=fun a=>zM (ps:=ps) (rs:=[1,9,0,0]) (fs:=[n.A,n.B,n.C,n.D]) (k:=0) (a:=a) (by rw [i0];decide) (by rw [i0];decide) (by rw [i0];decide) (by rw [i0];decide) (by rw [i0];decide) (by rw [i0];decide) (by rw [i0];decide) (by rw [i0];decide) (by rw [i0];decide)
 have j1:=fun a=>zM (ps:=ps) (rs:=[1,9,0,0]) (fs:=[n.A,n.B,n.C,n.D]) (k:=1) (a:=a) (by rw [i1];decide) (by rw [i1];decide) (by rw [i1];decide) (by rw [i1];decide) (by rw [i1];decide) (by rw [i1];decide) (by rw [i1];decide) (by rw [i1];decide) (by rw [i1];decide)
 have j2:=fun a=>zM (ps:=ps) (rs:=[1,9,0,0]) (fs:=[n.A,n.B,n.C,n.D]) (k:=2) (a:=a) (by rw [i2];decide) (by rw [i2];decide) (by rw [i2];decide) (by rw [i2];decide) (by rw [i2];decide) (by rw [i2];decide) (by rw [i2];decide) (by rw [i2];decide) (by rw [i2];decide)
 have j3:=fun a=>zM (ps:=ps) (rs:=[1,9,0,0]) (fs:=[n.A,n.B,n.C,n.D]) (k:=3) (a:=a) (by rw [i3];decide) (by rw [i3];decide) (by rw [i3];decide) (by rw [i3];decide) (by rw [i3];decide) (by rw [i3];decide) (by rw [i3];decide) (by rw [i3];decide) (by rw [i3];decide)
 have ea:=fun (k q:Int)=>y_ (rs:=[1,9,0,0]) (fs:=[n.A,n.B,n.C,n.D]) (k:=k) (by rw [i0];simp [zS]) (by rw [i1];simp [zS]) (by rw [i2];simp [zS]) q
 rw [yv,ym,yo,yj,hs,hi]
 simp only [Option.getD_some,s0,s1,s2,s3,wG,Xr,zz8,j0,j1,j2,j3,f0,f1,f2,f3,ea,yZ,Option.bind_some,Option.bind_none,h40,h11,(by decide:¬((11:Int)=40)),(by decide:¬((40:Int)=11)),if_true,if_false,true_and,false_and,List.not_mem_nil,List.mem_singleton,List.nil_append]
theorem zoS (ps:List zc) (n:Ins) (ts:List Int) (hs:zh n.Op=some [1,2,0,0]) (hi:ze n.Op=some [1,2,0,0]) (h40:¬n.Op=40) (h11:¬n.Op=11):xK ps n ts=reads ps n ts:=by
 obtain ⟨f0,f1,f2,f3⟩:=zu n.A n.B n.C n.D
 obtain ⟨s0,s1,s2,s3⟩:=zu 1 2 0 0
 obtain ⟨i0,i1,i2,i3⟩:=zu 1 2 0 0
 have j0:=fun a=>zM (ps:=ps) (rs:=[1,2,0,0]) (fs:=[n.A,n.B,n.C,n.D]) (k:=0) (a:=a) (by rw [i0];decide) (by rw [i0];decide) (by rw [i0];decide) (by rw [i0];decide) (by rw [i0];decide) (by rw [i0];decide) (by rw [i0];decide) (by rw [i0];decide) (by rw [i0];decide)
 have j1:=fun a=>ug (ps:=ps) (rs:=[1,2,0,0]) (fs:=[n.A,n.B,n.C,n.D]) (k:=1) (a:=a) i1
 have j2:=fun a=>zM (ps:=ps) (rs:=[1,2,0,0]) (fs:=[n.A,n.B,n.C,n.D]) (k:=2) (a:=a) (by rw [i2];decide) (by rw [i2];decide) (by rw [i2];decide) (by rw [i2];decide) (by rw [i2];decide) (by rw [i2];decide) (by rw [i2];decide) (by rw [i2];decide) (by rw [i2];decide)
 have j3:=fun a=>zM (ps:=ps) (rs:=[1,2,0,0]) (fs:=[n.A,n.B,n.C,n.D]) (k:=3) (a:=a) (by rw [i3];decide) (by rw [i3];decide) (by rw [i3];decide) (by rw [i3];decide) (by rw [i3];decide) (by rw [i3];decide) (by rw [i3];decide) (by rw [i3];decide) (by rw [i3];decide)
 have ea:=fun (k q:Int)=>y_ (rs:=[1,2,0,0]) (fs:=[n.A,n.B,n.C,n.D]) (k:=k) (by rw [i0];simp [zS]) (by rw [i1];simp [zS]) (by rw [i2];simp [zS]) q
 rw [yv,ym,yo,yj,hs,hi]
 simp only [Option.getD_some,s0,s1,s2,s3,wG,Xr,YC,j0,j1,j2,j3,f0,f1,f2,f3,ea,yZ,Option.bind_some,Option.bind_none,h40,h11,(by decide:¬((11:Int)=40)),(by decide:¬((40:Int)=11)),if_true,if_false,true_and,false_and,List.not_mem_nil,List.mem_singleton,List.nil_append]
theorem zwU (ps:List zc) (n:Ins) (ts:List Int) (hs:zh n.Op=some [1,5,0,0]) (hi:ze n.Op=some [1,5,0,0]) (h40:¬n.Op=40) (h11:¬n.Op=11):xK ps n ts=reads ps n ts:=by
 obtain ⟨f0,f1,f2,f3⟩:=zu n.A n.B n.C n.D
 obtain ⟨s0,s1,s2,s3⟩:=zu 1 5 0 0
 obtain ⟨i0,i1,i2,i3⟩:=zu 1 5 0 0
 have j0:=fun a=>zM (ps:=ps) (rs:=[1,5,0,0]) (fs:=[n.A,n.B,n.C,n.D]) (k:=0) (a:=a) (by rw [i0];decide) (by rw [i0];decide) (by rw [i0];decide) (by rw [i0];decide) (by rw [i0];decide) (by rw [i0];decide) (by rw [i0];decide) (by rw [i0];decide) (by rw [i0];decide)
 have j1:=fun a=>zmh (ps:=ps) (rs:=[1,5,0,0]) (fs:=[n.A,n.B,n.C,n.D]) (k:=1) (a:=a) i1
 have j2:=fun a=>zM (ps:=ps) (rs:=[1,5,0,0]) (fs:=[n.A,n.B,n.C,n.D]) (k:=2) (a:=a) (by rw [i2];decide) (by rw [i2];decide) (by rw [i2];decide) (by rw [i2];decide) (by rw [i2];decide) (by rw [i2];decide) (by rw [i2];decide) (by rw [i2];decide) (by rw [i2];decide)
 have j3:=fun a=>zM (ps:=ps) (rs:=[1,5,0,0]) (fs:=[n.A,n.B,n.C,n.D]) (k:=3) (a:=a) (by rw [i3];decide) (by rw [i3];decide) (by rw [i3];decide) (by rw [i3];decide) (by rw [i3];decide) (by rw [i3];decide) (by rw [i3];decide) (by rw [i3];decide) (by rw [i3];decide)
 rw [yv,ym,yo,yj,hs,hi]
 simp only [Option.getD_some,s0,s1,s2,s3,wG,Xr,zqk,j0,j1,j2,j3,f0,f1,f2,f3,yZ,Option.bind_some,Option.bind_none,h40,h11,(by decide:¬((11:Int)=40)),(by decide:¬((40:Int)=11)),if_true,if_false,true_and,false_and,List.not_mem_nil,List.mem_singleton,List.nil_append]
theorem zwV (ps:List zc) (n:Ins) (ts:List Int) (hs:zh n.Op=some [5,2,0,0]) (hi:ze n.Op=some [5,2,0,0]) (h40:¬n.Op=40) (h11:¬n.Op=11):xK ps n ts=reads ps n ts:=by
 obtain ⟨f0,f1,f2,f3⟩:=zu n.A n.B n.C n.D
 obtain ⟨s0,s1,s2,s3⟩:=zu 5 2 0 0
 obtain ⟨i0,i1,i2,i3⟩:=zu 5 2 0 0
 have j0:=fun a=>zmh (ps:=ps) (rs:=[5,2,0,0]) (fs:=[n.A,n.B,n.C,n.D]) (k:=0) (a:=a) i0
 have j1:=fun a=>ug (ps:=ps) (rs:=[5,2,0,0]) (fs:=[n.A,n.B,n.C,n.D]) (k:=1) (a:=a) i1
 have j2:=fun a=>zM (ps:=ps) (rs:=[5,2,0,0]) (fs:=[n.A,n.B,n.C,n.D]) (k:=2) (a:=a) (by rw [i2];decide) (by rw [i2];decide) (by rw [i2];decide) (by rw [i2];decide) (by rw [i2];decide) (by rw [i2];decide) (by rw [i2];decide) (by rw [i2];decide) (by rw [i2];decide)
 have j3:=fun a=>zM (ps:=ps) (rs:=[5,2,0,0]) (fs:=[n.A,n.B,n.C,n.D]) (k:=3) (a:=a) (by rw [i3];decide) (by rw [i3];decide) (by rw [i3];decide) (by rw [i3];decide) (by rw [i3];decide) (by rw [i3];decide) (by rw [i3];decide) (by rw [i3];decide) (by rw [i3];decide)
 have ea:=fun (k:Int) (hk:0<k) (q:Int)=>zb1 (rs:=[5,2,0,0]) (fs:=[n.A,n.B,n.C,n.D]) (by rw [i0];simp [zS]) (by rw [i1];simp [zS]) (by rw [i2];simp [zS]) hk q
 rw [yv,ym,yo,yj,hs,hi]
 simp only [Option.getD_some,s0,s1,s2,s3,wG,YC,zqk,j0,j1,j2,j3,f0,f1,f2,f3,ea 1 (by decide),ea 2 (by decide),ea 3 (by decide),yZ,Option.bind_some,Option.bind_none,h40,h11,(by decide:¬((11:Int)=40)),(by decide:¬((40:Int)=11)),if_true,if_false,true_and,false_and,List.not_mem_nil,List.mem_singleton,List.nil_append]
theorem zwW (ps:List zc) (n:Ins) (ts:List Int) (hs:zh n.Op=some [1,8,0,0]) (hi:ze n.Op=some [1,10,0,0]) (h40:¬n.Op=40) (h11:¬n.Op=11):xK ps n ts=reads ps n ts:=by
 obtain ⟨f0,f1,f2,f3⟩:=zu n.A n.B n.C n.D
 obtain ⟨s0,s1,s2,s3⟩:=zu 1 8 0 0
 obtain ⟨i0,i1,i2,i3⟩:=zu 1 10 0 0
 have j0:=fun a=>zM (ps:=ps) (rs:=[1,10,0,0]) (fs:=[n.A,n.B,n.C,n.D]) (k:=0) (a:=a) (by rw [i0];decide) (by rw [i0];decide) (by rw [i0];decide) (by rw [i0];decide) (by rw [i0];decide) (by rw [i0];decide) (by rw [i0];decide) (by rw [i0];decide) (by rw [i0];decide)
 have j1:=fun a=>zM (ps:=ps) (rs:=[1,10,0,0]) (fs:=[n.A,n.B,n.C,n.D]) (k:=1) (a:=a) (by rw [i1];decide) (by rw [i1];decide) (by rw [i1];decide) (by rw [i1];decide) (by rw [i1];decide) (by rw [i1];decide) (by rw [i1];decide) (by rw [i1];decide) (by rw [i1];decide)
 have j2:=fun a=>zM (ps:=ps) (rs:=[1,10,0,0]) (fs:=[n.A,n.B,n.C,n.D]) (k:=2) (a:=a) (by rw [i2];decide) (by rw [i2];decide) (by rw [i2];decide) (by rw [i2];decide) (by rw [i2];decide) (by rw [i2];decide) (by rw [i2];decide) (by rw [i2];decide) (by rw [i2];decide)
 have j3:=fun a=>zM (ps:=ps) (rs:=[1,10,0,0]) (fs:=[n.A,n.B,n.C,n.D]) (k:=3) (a:=a) (by rw [i3];decide) (by rw [i3];decide) (by rw [i3];decide) (by rw [i3];decide) (by rw [i3];decide) (by rw [i3];decide) (by rw [i3];decide) (by rw [i3];decide) (by rw [i3];decide)
 have ea:=fun (k q:Int)=>y_ (rs:=[1,10,0,0]) (fs:=[n.A,n.B,n.C,n.D]) (k:=k) (by rw [i0];simp [zS]) (by rw [i1];simp [zS]) (by rw [i2];simp [zS]) q
 rw [yv,ym,yo,yj,hs,hi]
 simp only [Option.getD_some,s0,s1,s2,s3,wG,Xr,zvr,j0,j1,j2,j3,f0,f1,f2,f3,ea,yZ,Option.bind_some,Option.bind_none,h40,h11,(by decide:¬((11:Int)=40)),(by decide:¬((40:Int)=11)),if_true,if_false,true_and,false_and,List.not_mem_nil,List.mem_singleton,List.nil_append]
theorem zwX (ps:List zc) (n:Ins) (ts:List Int) (hs:zh n.Op=some [8,2,0,0]) (hi:ze n.Op=some [10,2,0,0]) (h40:¬n.Op=40) (h11:¬n.Op=11):xK ps n ts=reads ps n ts:=by
 obtain ⟨f0,f1,f2,f3⟩:=zu n.A n.B n.C n.D
 obtain ⟨s0,s1,s2,s3⟩:=zu 8 2 0 0
 obtain ⟨i0,i1,i2,i3⟩:=zu 10 2 0 0
 have j0:=fun a=>zM (ps:=ps) (rs:=[10,2,0,0]) (fs:=[n.A,n.B,n.C,n.D]) (k:=0) (a:=a) (by rw [i0];decide) (by rw [i0];decide) (by rw [i0];decide) (by rw [i0];decide) (by rw [i0];decide) (by rw [i0];decide) (by rw [i0];decide) (by rw [i0];decide) (by rw [i0];decide)
 have j1:=fun a=>ug (ps:=ps) (rs:=[10,2,0,0]) (fs:=[n.A,n.B,n.C,n.D]) (k:=1) (a:=a) i1
 have j2:=fun a=>zM (ps:=ps) (rs:=[10,2,0,0]) (fs:=[n.A,n.B,n.C,n.D]) (k:=2) (a:=a) (by rw [i2];decide) (by rw [i2];decide) (by rw [i2];decide) (by rw [i2];decide) (by rw [i2];decide) (by rw [i2];decide) (by rw [i2];decide) (by rw [i2];decide) (by rw [i2];decide)
 have j3:=fun a=>zM (ps:=ps) (rs:=[10,2,0,0]) (fs:=[n.A,n.B,n.C,n.D]) (k:=3) (a:=a) (by rw [i3];decide) (by rw [i3];decide) (by rw [i3];decide) (by rw [i3];decide) (by rw [i3];decide) (by rw [i3];decide) (by rw [i3];decide) (by rw [i3];decide) (by rw [i3];decide)
 have ea:=fun (k q:Int)=>y_ (rs:=[10,2,0,0]) (fs:=[n.A,n.B,n.C,n.D]) (k:=k) (by rw [i0];simp [zS]) (by rw [i1];simp [zS]) (by rw [i2];simp [zS]) q
 rw [yv,ym,yo,yj,hs,hi]
 simp only [Option.getD_some,s0,s1,s2,s3,wG,YC,zvr,j0,j1,j2,j3,f0,f1,f2,f3,ea,yZ,Option.bind_some,Option.bind_none,h40,h11,(by decide:¬((11:Int)=40)),(by decide:¬((40:Int)=11)),if_true,if_false,true_and,false_and,List.not_mem_nil,List.mem_singleton,List.nil_append]
theorem zwY (ps:List zc) (n:Ins) (ts:List Int) (hs:zh n.Op=some [1,9,0,0]) (hi:ze n.Op=some [1,11,0,0]) (h40:¬n.Op=40) (h11:n.Op=11):xK ps n ts=reads ps n ts:=by
 obtain ⟨f0,f1,f2,f3⟩:=zu n.A n.B n.C n.D
 obtain ⟨s0,s1,s2,s3⟩:=zu 1 9 0 0
 obtain ⟨i0,i1,i2,i3⟩:=zu 1 11 0 0
 have j0:=fun a=>zM (ps:=ps) (rs:=[1,11,0,0]) (fs:=[n.A,n.B,n.C,n.D]) (k:=0) (a:=a) (by rw [i0];decide) (by rw [i0];decide) (by rw [i0];decide) (by rw [i0];decide) (by rw [i0];decide) (by rw [i0];decide) (by rw [i0];decide) (by rw [i0];decide) (by rw [i0];decide)
 have j1:=fun a=>zoH (ps:=ps) (rs:=[1,11,0,0]) (fs:=[n.A,n.B,n.C,n.D]) (k:=1) (a:=a) i1
 have j2:=fun a=>zM (ps:=ps) (rs:=[1,11,0,0]) (fs:=[n.A,n.B,n.C,n.D]) (k:=2) (a:=a) (by rw [i2];decide) (by rw [i2];decide) (by rw [i2];decide) (by rw [i2];decide) (by rw [i2];decide) (by rw [i2];decide) (by rw [i2];decide) (by rw [i2];decide) (by rw [i2];decide)
 have j3:=fun a=>zM (ps:=ps) (rs:=[1,11,0,0]) (fs:=[n.A,n.B,n.C,n.D]) (k:=3) (a:=a) (by rw [i3];decide) (by rw [i3];decide) (by rw [i3];decide) (by rw [i3];decide) (by rw [i3];decide) (by rw [i3];decide) (by rw [i3];decide) (by rw [i3];decide) (by rw [i3];decide)
 have ea:=fun (k q:Int)=>y_ (rs:=[1,11,0,0]) (fs:=[n.A,n.B,n.C,n.D]) (k:=k) (by rw [i0];simp [zS]) (by rw [i1];simp [zS]) (by rw [i2];simp [zS]) q
 rw [yv,ym,yo,yj,hs,hi]
 simp only [Option.getD_some,s0,s1,s2,s3,wG,Xr,zz9,j0,j1,j2,j3,f0,f1,f2,f3,ea,yZ,Option.bind_some,Option.bind_none,h40,h11,(by decide:¬((11:Int)=40)),(by decide:¬((40:Int)=11)),if_true,if_false,true_and,false_and,List.not_mem_nil,List.mem_singleton,List.nil_append]
theorem zmC (ps:List zc) (n:Ins) (ts:List Int) (hs:zh n.Op=some [1,0,0,0]) (hi:ze n.Op=some [1,0,0,0]) (h40:¬n.Op=40) (h11:¬n.Op=11):xK ps n ts=reads ps n ts:=by
 obtain ⟨f0,f1,f2,f3⟩:=zu n.A n.B n.C n.D
 obtain ⟨s0,s1,s2,s3⟩:=zu 1 0 0 0
 obtain ⟨i0,i1,i2,i3⟩:=zu 1 0 0 0
 have j0:=fun a=>zM (ps:=ps) (rs:=[1,0,0,0]) (fs:=[n.A,n.B,n.C,n.D]) (k:=0) (a:=a) (by rw [i0];decide) (by rw [i0];decide) (by rw [i0];decide) (by rw [i0];decide) (by rw [i0];decide) (by rw [i0];decide) (by rw [i0];decide) (by rw [i0];decide) (by rw [i0];decide)
 have j1:=fun a=>zM (ps:=ps) (rs:=[1,0,0,0]) (fs:=[n.A,n.B,n.C,n.D]) (k:=1) (a:=a) (by rw [i1];decide) (by rw [i1];decide) (by rw [i1];decide) (by rw [i1];decide) (by rw [i1];decide) (by rw [i1];decide) (by rw [i1];decide) (by rw [i1];decide) (by rw [i1];decide)
 have j2:=fun a=>zM (ps:=ps) (rs:=[1,0,0,0]) (fs:=[n.A,n.B,n.C,n.D]) (k:=2) (a:=a) (by rw [i2];decide) (by rw [i2];decide) (by rw [i2];decide) (by rw [i2];decide) (by rw [i2];decide) (by rw [i2];decide) (by rw [i2];decide) (by rw [i2];decide) (by rw [i2];decide)
 have j3:=fun a=>zM (ps:=ps) (rs:=[1,0,0,0]) (fs:=[n.A,n.B,n.C,n.D]) (k:=3) (a:=a) (by rw [i3];decide) (by rw [i3];decide) (by rw [i3];decide) (by rw [i3];decide) (by rw [i3];decide) (by rw [i3];decide) (by rw [i3];decide) (by rw [i3];decide) (by rw [i3];decide)
 have ea:=fun (k q:Int)=>y_ (rs:=[1,0,0,0]) (fs:=[n.A,n.B,n.C,n.D]) (k:=k) (by rw [i0];simp [zS]) (by rw [i1];simp [zS]) (by rw [i2];simp [zS]) q
 rw [yv,ym,yo,yj,hs,hi]
 simp only [Option.getD_some,s0,s1,s2,s3,wG,Xr,j0,j1,j2,j3,f0,f1,f2,f3,ea,yZ,Option.bind_some,Option.bind_none,h40,h11,(by decide:¬((11:Int)=40)),(by decide:¬((40:Int)=11)),if_true,if_false,true_and,false_and,List.not_mem_nil,List.mem_singleton,List.nil_append]
theorem zui (ps:List zc) (n:Ins) (ts:List Int) (hs:zh n.Op=some [4,2,2,0]) (hi:ze n.Op=some [4,2,2,0]) (h40:¬n.Op=40) (h11:¬n.Op=11):xK ps n ts=reads ps n ts:=by
 obtain ⟨f0,f1,f2,f3⟩:=zu n.A n.B n.C n.D
 obtain ⟨s0,s1,s2,s3⟩:=zu 4 2 2 0
 obtain ⟨i0,i1,i2,i3⟩:=zu 4 2 2 0
 have j0:=fun a=>zmg (ps:=ps) (rs:=[4,2,2,0]) (fs:=[n.A,n.B,n.C,n.D]) (k:=0) (a:=a) i0
 have j1:=fun a=>ug (ps:=ps) (rs:=[4,2,2,0]) (fs:=[n.A,n.B,n.C,n.D]) (k:=1) (a:=a) i1
 have j2:=fun a=>ug (ps:=ps) (rs:=[4,2,2,0]) (fs:=[n.A,n.B,n.C,n.D]) (k:=2) (a:=a) i2
 have j3:=fun a=>zM (ps:=ps) (rs:=[4,2,2,0]) (fs:=[n.A,n.B,n.C,n.D]) (k:=3) (a:=a) (by rw [i3];decide) (by rw [i3];decide) (by rw [i3];decide) (by rw [i3];decide) (by rw [i3];decide) (by rw [i3];decide) (by rw [i3];decide) (by rw [i3];decide) (by rw [i3];decide)
 have ea:=fun (k:Int) (hk:0<k) (q:Int)=>zb1 (rs:=[4,2,2,0]) (fs:=[n.A,n.B,n.C,n.D]) (by rw [i0];simp [zS]) (by rw [i1];simp [zS]) (by rw [i2];simp [zS]) hk q
 rw [yv,ym,yo,yj,hs,hi]
 simp only [Option.getD_some,s0,s1,s2,s3,wG,YC,zqj,j0,j1,j2,j3,f0,f1,f2,f3,ea 1 (by decide),ea 2 (by decide),ea 3 (by decide),yZ,Option.bind_some,Option.bind_none,h40,h11,(by decide:¬((11:Int)=40)),(by decide:¬((40:Int)=11)),if_true,if_false,true_and,false_and,List.not_mem_nil,List.mem_singleton,List.nil_append]
theorem zuj (ps:List zc) (n:Ins) (ts:List Int) (hs:zh n.Op=some [4,2,3,0]) (hi:ze n.Op=some [4,2,3,0]) (h40:¬n.Op=40) (h11:¬n.Op=11):xK ps n ts=reads ps n ts:=by
 obtain ⟨f0,f1,f2,f3⟩:=zu n.A n.B n.C n.D
 obtain ⟨s0,s1,s2,s3⟩:=zu 4 2 3 0
 obtain ⟨i0,i1,i2,i3⟩:=zu 4 2 3 0
 have j0:=fun a=>zmg (ps:=ps) (rs:=[4,2,3,0]) (fs:=[n.A,n.B,n.C,n.D]) (k:=0) (a:=a) i0
 have j1:=fun a=>ug (ps:=ps) (rs:=[4,2,3,0]) (fs:=[n.A,n.B,n.C,n.D]) (k:=1) (a:=a) i1
 have j2:=fun a=>QE (ps:=ps) (rs:=[4,2,3,0]) (fs:=[n.A,n.B,n.C,n.D]) (k:=2) (a:=a) i2
 have j3:=fun a=>zM (ps:=ps) (rs:=[4,2,3,0]) (fs:=[n.A,n.B,n.C,n.D]) (k:=3) (a:=a) (by rw [i3];decide) (by rw [i3];decide) (by rw [i3];decide) (by rw [i3];decide) (by rw [i3];decide) (by rw [i3];decide) (by rw [i3];decide) (by rw [i3];decide) (by rw [i3];decide)
 have ea:=fun (k:Int) (hk:0<k) (q:Int)=>zb1 (rs:=[4,2,3,0]) (fs:=[n.A,n.B,n.C,n.D]) (by rw [i0];simp [zS]) (by rw [i1];simp [zS]) (by rw [i2];simp [zS]) hk q
 rw [yv,ym,yo,yj,hs,hi]
 simp only [Option.getD_some,s0,s1,s2,s3,wG,YC,zdG,zqj,j0,j1,j2,j3,f0,f1,f2,f3,ea 1 (by decide),ea 2 (by decide),ea 3 (by decide),yZ,Option.bind_some,Option.bind_none,h40,h11,(by decide:¬((11:Int)=40)),(by decide:¬((40:Int)=11)),if_true,if_false,true_and,false_and,List.not_mem_nil,List.mem_singleton,List.nil_append]
theorem zuk (ps:List zc) (n:Ins) (ts:List Int) (hs:zh n.Op=some [1,2,2,0]) (hi:ze n.Op=some [1,2,2,0]) (h40:¬n.Op=40) (h11:¬n.Op=11):xK ps n ts=reads ps n ts:=by
 obtain ⟨f0,f1,f2,f3⟩:=zu n.A n.B n.C n.D
 obtain ⟨s0,s1,s2,s3⟩:=zu 1 2 2 0
 obtain ⟨i0,i1,i2,i3⟩:=zu 1 2 2 0
 have j0:=fun a=>zM (ps:=ps) (rs:=[1,2,2,0]) (fs:=[n.A,n.B,n.C,n.D]) (k:=0) (a:=a) (by rw [i0];decide) (by rw [i0];decide) (by rw [i0];decide) (by rw [i0];decide) (by rw [i0];decide) (by rw [i0];decide) (by rw [i0];decide) (by rw [i0];decide) (by rw [i0];decide)
 have j1:=fun a=>ug (ps:=ps) (rs:=[1,2,2,0]) (fs:=[n.A,n.B,n.C,n.D]) (k:=1) (a:=a) i1
 have j2:=fun a=>ug (ps:=ps) (rs:=[1,2,2,0]) (fs:=[n.A,n.B,n.C,n.D]) (k:=2) (a:=a) i2
 have j3:=fun a=>zM (ps:=ps) (rs:=[1,2,2,0]) (fs:=[n.A,n.B,n.C,n.D]) (k:=3) (a:=a) (by rw [i3];decide) (by rw [i3];decide) (by rw [i3];decide) (by rw [i3];decide) (by rw [i3];decide) (by rw [i3];decide) (by rw [i3];decide) (by rw [i3];decide) (by rw [i3];decide)
 have ea:=fun (k q:Int)=>y_ (rs:=[1,2,2,0]) (fs:=[n.A,n.B,n.C,n.D]) (k:=k) (by rw [i0];simp [zS]) (by rw [i1];simp [zS]) (by rw [i2];simp [zS]) q
 rw [yv,ym,yo,yj,hs,hi]
 simp only [Option.getD_some,s0,s1,s2,s3,wG,Xr,YC,j0,j1,j2,j3,f0,f1,f2,f3,ea,yZ,Option.bind_some,Option.bind_none,h40,h11,(by decide:¬((11:Int)=40)),(by decide:¬((40:Int)=11)),if_true,if_false,true_and,false_and,List.not_mem_nil,List.mem_singleton,List.nil_append]
theorem zul (ps:List zc) (n:Ins) (ts:List Int) (hs:zh n.Op=some [2,2,2,0]) (hi:ze n.Op=some [2,2,2,0]) (h40:¬n.Op=40) (h11:¬n.Op=11):xK ps n ts=reads ps n ts:=by
 obtain ⟨f0,f1,f2,f3⟩:=zu n.A n.B n.C n.D
 obtain ⟨s0,s1,s2,s3⟩:=zu 2 2 2 0
 obtain ⟨i0,i1,i2,i3⟩:=zu 2 2 2 0
 have j0:=fun a=>ug (ps:=ps) (rs:=[2,2,2,0]) (fs:=[n.A,n.B,n.C,n.D]) (k:=0) (a:=a) i0
 have j1:=fun a=>ug (ps:=ps) (rs:=[2,2,2,0]) (fs:=[n.A,n.B,n.C,n.D]) (k:=1) (a:=a) i1
 have j2:=fun a=>ug (ps:=ps) (rs:=[2,2,2,0]) (fs:=[n.A,n.B,n.C,n.D]) (k:=2) (a:=a) i2
 have j3:=fun a=>zM (ps:=ps) (rs:=[2,2,2,0]) (fs:=[n.A,n.B,n.C,n.D]) (k:=3) (a:=a) (by rw [i3];decide) (by rw [i3];decide) (by rw [i3];decide) (by rw [i3];decide) (by rw [i3];decide) (by rw [i3];decide) (by rw [i3];decide) (by rw [i3];decide) (by rw [i3];decide)
 have ea:=fun (k q:Int)=>y_ (rs:=[2,2,2,0]) (fs:=[n.A,n.B,n.C,n.D]) (k:=k) (by rw [i0];simp [zS]) (by rw [i1];simp [zS]) (by rw [i2];simp [zS]) q
 rw [yv,ym,yo,yj,hs,hi]
 simp only [Option.getD_some,s0,s1,s2,s3,wG,YC,j0,j1,j2,j3,f0,f1,f2,f3,ea,yZ,Option.bind_some,Option.bind_none,h40,h11,(by decide:¬((11:Int)=40)),(by decide:¬((40:Int)=11)),if_true,if_false,true_and,false_and,List.not_mem_nil,List.mem_singleton,List.nil_append]
theorem zum (ps:List zc) (n:Ins) (ts:List Int) (hs:zh n.Op=some [1,15,2,0]) (hi:ze n.Op=some [1,14,2,0]) (h40:¬n.Op=40) (h11:¬n.Op=11):xK ps n ts=reads ps n ts:=by
 obtain ⟨f0,f1,f2,f3⟩:=zu n.A n.B n.C n.D
 obtain ⟨s0,s1,s2,s3⟩:=zu 1 15 2 0
 obtain ⟨i0,i1,i2,i3⟩:=zu 1 14 2 0
 have j0:=fun a=>zM (ps:=ps) (rs:=[1,14,2,0]) (fs:=[n.A,n.B,n.C,n.D]) (k:=0) (a:=a) (by rw [i0];decide) (by rw [i0];decide) (by rw [i0];decide) (by rw [i0];decide) (by rw [i0];decide) (by rw [i0];decide) (by rw [i0];decide) (by rw [i0];decide) (by rw [i0];decide)
 have j1:=fun a=>zM (ps:=ps) (rs:=[1,14,2,0]) (fs:=[n.A,n.B,n.C,n.D]) (k:=1) (a:=a) (by rw [i1];decide) (by rw [i1];decide) (by rw [i1];decide) (by rw [i1];decide) (by rw [i1];decide) (by rw [i1];decide) (by rw [i1];decide) (by rw [i1];decide) (by rw [i1];decide)
 have j2:=fun a=>ug (ps:=ps) (rs:=[1,14,2,0]) (fs:=[n.A,n.B,n.C,n.D]) (k:=2) (a:=a) i2
 have j3:=fun a=>zM (ps:=ps) (rs:=[1,14,2,0]) (fs:=[n.A,n.B,n.C,n.D]) (k:=3) (a:=a) (by rw [i3];decide) (by rw [i3];decide) (by rw [i3];decide) (by rw [i3];decide) (by rw [i3];decide) (by rw [i3];decide) (by rw [i3];decide) (by rw [i3];decide) (by rw [i3];decide)
 have ea:=fun (k q:Int)=>y_ (rs:=[1,14,2,0]) (fs:=[n.A,n.B,n.C,n.D]) (k:=k) (by rw [i0];simp [zS]) (by rw [i1];simp [zS]) (by rw [i2];simp [zS]) q
 rw [yv,ym,yo,yj,hs,hi]
 simp only [Option.getD_some,s0,s1,s2,s3,wG,Xr,YC,zyj,j0,j1,j2,j3,f0,f1,f2,f3,ea,yZ,Option.bind_some,Option.bind_none,h40,h11,(by decide:¬((11:Int)=40)),(by decide:¬((40:Int)=11)),if_true,if_false,true_and,false_and,List.not_mem_nil,List.mem_singleton,List.nil_append]
theorem zun (ps:List zc) (n:Ins) (ts:List Int) (hs:zh n.Op=some [1,16,2,2]) (hi:ze n.Op=some [1,13,2,2]) (h40:¬n.Op=40) (h11:¬n.Op=11):xK ps n ts=reads ps n ts:=by
 obtain ⟨f0,f1,f2,f3⟩:=zu n.A n.B n.C n.D
 obtain ⟨s0,s1,s2,s3⟩:=zu 1 16 2 2
 obtain ⟨i0,i1,i2,i3⟩:=zu 1 13 2 2
 have j0:=fun a=>zM (ps:=ps) (rs:=[1,13,2,2]) (fs:=[n.A,n.B,n.C,n.D]) (k:=0) (a:=a) (by rw [i0];decide) (by rw [i0];decide) (by rw [i0];decide) (by rw [i0];decide) (by rw [i0];decide) (by rw [i0];decide) (by rw [i0];decide) (by rw [i0];decide) (by rw [i0];decide)
 have j1:=fun a=>zM (ps:=ps) (rs:=[1,13,2,2]) (fs:=[n.A,n.B,n.C,n.D]) (k:=1) (a:=a) (by rw [i1];decide) (by rw [i1];decide) (by rw [i1];decide) (by rw [i1];decide) (by rw [i1];decide) (by rw [i1];decide) (by rw [i1];decide) (by rw [i1];decide) (by rw [i1];decide)
 have j2:=fun a=>ug (ps:=ps) (rs:=[1,13,2,2]) (fs:=[n.A,n.B,n.C,n.D]) (k:=2) (a:=a) i2
 have j3:=fun a=>ug (ps:=ps) (rs:=[1,13,2,2]) (fs:=[n.A,n.B,n.C,n.D]) (k:=3) (a:=a) i3
 have ea:=fun (k q:Int)=>y_ (rs:=[1,13,2,2]) (fs:=[n.A,n.B,n.C,n.D]) (k:=k) (by rw [i0];simp [zS]) (by rw [i1];simp [zS]) (by rw [i2];simp [zS]) q
 rw [yv,ym,yo,yj,hs,hi]
 simp only [Option.getD_some,s0,s1,s2,s3,Xr,YC,zyk,j0,j1,j2,j3,f0,f1,f2,f3,ea,yZ,Option.bind_some,Option.bind_none,h40,h11,(by decide:¬((11:Int)=40)),(by decide:¬((40:Int)=11)),if_true,if_false,true_and,false_and,List.not_mem_nil,List.mem_singleton,List.nil_append]
theorem zuo (ps:List zc) (n:Ins) (ts:List Int) (hs:zh n.Op=some [10,0,0,0]) (hi:ze n.Op=some [12,0,0,0]) (h40:¬n.Op=40) (h11:¬n.Op=11):xK ps n ts=reads ps n ts:=by
 obtain ⟨f0,f1,f2,f3⟩:=zu n.A n.B n.C n.D
 obtain ⟨s0,s1,s2,s3⟩:=zu 10 0 0 0
 obtain ⟨i0,i1,i2,i3⟩:=zu 12 0 0 0
 have j0:=fun a=>zM (ps:=ps) (rs:=[12,0,0,0]) (fs:=[n.A,n.B,n.C,n.D]) (k:=0) (a:=a) (by rw [i0];decide) (by rw [i0];decide) (by rw [i0];decide) (by rw [i0];decide) (by rw [i0];decide) (by rw [i0];decide) (by rw [i0];decide) (by rw [i0];decide) (by rw [i0];decide)
 have j1:=fun a=>zM (ps:=ps) (rs:=[12,0,0,0]) (fs:=[n.A,n.B,n.C,n.D]) (k:=1) (a:=a) (by rw [i1];decide) (by rw [i1];decide) (by rw [i1];decide) (by rw [i1];decide) (by rw [i1];decide) (by rw [i1];decide) (by rw [i1];decide) (by rw [i1];decide) (by rw [i1];decide)
 have j2:=fun a=>zM (ps:=ps) (rs:=[12,0,0,0]) (fs:=[n.A,n.B,n.C,n.D]) (k:=2) (a:=a) (by rw [i2];decide) (by rw [i2];decide) (by rw [i2];decide) (by rw [i2];decide) (by rw [i2];decide) (by rw [i2];decide) (by rw [i2];decide) (by rw [i2];decide) (by rw [i2];decide)
 have j3:=fun a=>zM (ps:=ps) (rs:=[12,0,0,0]) (fs:=[n.A,n.B,n.C,n.D]) (k:=3) (a:=a) (by rw [i3];decide) (by rw [i3];decide) (by rw [i3];decide) (by rw [i3];decide) (by rw [i3];decide) (by rw [i3];decide) (by rw [i3];decide) (by rw [i3];decide) (by rw [i3];decide)
 have ea:=fun (k q:Int)=>y_ (rs:=[12,0,0,0]) (fs:=[n.A,n.B,n.C,n.D]) (k:=k) (by rw [i0];simp [zS]) (by rw [i1];simp [zS]) (by rw [i2];simp [zS]) q
 rw [yv,ym,yo,yj,hs,hi]
 simp only [Option.getD_some,s0,s1,s2,s3,wG,zfA,j0,j1,j2,j3,f0,f1,f2,f3,ea,yZ,Option.bind_some,Option.bind_none,h40,h11,(by decide:¬((11:Int)=40)),(by decide:¬((40:Int)=11)),if_true,if_false,true_and,false_and,List.not_mem_nil,List.mem_singleton,List.nil_append]
theorem zmD (ps:List zc) (n:Ins) (ts:List Int) (hs:zh n.Op=some [2,10,0,0]) (hi:ze n.Op=some [2,12,0,0]) (h40:¬n.Op=40) (h11:¬n.Op=11):xK ps n ts=reads ps n ts:=by
 obtain ⟨f0,f1,f2,f3⟩:=zu n.A n.B n.C n.D
 obtain ⟨s0,s1,s2,s3⟩:=zu 2 10 0 0
 obtain ⟨i0,i1,i2,i3⟩:=zu 2 12 0 0
 have j0:=fun a=>ug (ps:=ps) (rs:=[2,12,0,0]) (fs:=[n.A,n.B,n.C,n.D]) (k:=0) (a:=a) i0
 have j1:=fun a=>zM (ps:=ps) (rs:=[2,12,0,0]) (fs:=[n.A,n.B,n.C,n.D]) (k:=1) (a:=a) (by rw [i1];decide) (by rw [i1];decide) (by rw [i1];decide) (by rw [i1];decide) (by rw [i1];decide) (by rw [i1];decide) (by rw [i1];decide) (by rw [i1];decide) (by rw [i1];decide)
 have j2:=fun a=>zM (ps:=ps) (rs:=[2,12,0,0]) (fs:=[n.A,n.B,n.C,n.D]) (k:=2) (a:=a) (by rw [i2];decide) (by rw [i2];decide) (by rw [i2];decide) (by rw [i2];decide) (by rw [i2];decide) (by rw [i2];decide) (by rw [i2];decide) (by rw [i2];decide) (by rw [i2];decide)
 have j3:=fun a=>zM (ps:=ps) (rs:=[2,12,0,0]) (fs:=[n.A,n.B,n.C,n.D]) (k:=3) (a:=a) (by rw [i3];decide) (by rw [i3];decide) (by rw [i3];decide) (by rw [i3];decide) (by rw [i3];decide) (by rw [i3];decide) (by rw [i3];decide) (by rw [i3];decide) (by rw [i3];decide)
 have ea:=fun (k q:Int)=>y_ (rs:=[2,12,0,0]) (fs:=[n.A,n.B,n.C,n.D]) (k:=k) (by rw [i0];simp [zS]) (by rw [i1];simp [zS]) (by rw [i2];simp [zS]) q
 rw [yv,ym,yo,yj,hs,hi]
 simp only [Option.getD_some,s0,s1,s2,s3,wG,YC,zfA,j0,j1,j2,j3,f0,f1,f2,f3,ea,yZ,Option.bind_some,Option.bind_none,h40,h11,(by decide:¬((11:Int)=40)),(by decide:¬((40:Int)=11)),if_true,if_false,true_and,false_and,List.not_mem_nil,List.mem_singleton,List.nil_append]
theorem zup (ps:List zc) (n:Ins) (ts:List Int) (hs:zh n.Op=some [6,2,0,0]) (hi:ze n.Op=some [6,2,0,0]) (h40:¬n.Op=40) (h11:¬n.Op=11):xK ps n ts=reads ps n ts:=by
 obtain ⟨f0,f1,f2,f3⟩:=zu n.A n.B n.C n.D
 obtain ⟨s0,s1,s2,s3⟩:=zu 6 2 0 0
 obtain ⟨i0,i1,i2,i3⟩:=zu 6 2 0 0
 have j0:=fun a=>zfl (ps:=ps) (rs:=[6,2,0,0]) (fs:=[n.A,n.B,n.C,n.D]) (k:=0) (a:=a) i0
 have j1:=fun a=>ug (ps:=ps) (rs:=[6,2,0,0]) (fs:=[n.A,n.B,n.C,n.D]) (k:=1) (a:=a) i1
 have j2:=fun a=>zM (ps:=ps) (rs:=[6,2,0,0]) (fs:=[n.A,n.B,n.C,n.D]) (k:=2) (a:=a) (by rw [i2];decide) (by rw [i2];decide) (by rw [i2];decide) (by rw [i2];decide) (by rw [i2];decide) (by rw [i2];decide) (by rw [i2];decide) (by rw [i2];decide) (by rw [i2];decide)
 have j3:=fun a=>zM (ps:=ps) (rs:=[6,2,0,0]) (fs:=[n.A,n.B,n.C,n.D]) (k:=3) (a:=a) (by rw [i3];decide) (by rw [i3];decide) (by rw [i3];decide) (by rw [i3];decide) (by rw [i3];decide) (by rw [i3];decide) (by rw [i3];decide) (by rw [i3];decide) (by rw [i3];decide)
 have ea:=fun (k:Int) (hk:0<k) (q:Int)=>zb1 (rs:=[6,2,0,0]) (fs:=[n.A,n.B,n.C,n.D]) (by rw [i0];simp [zS]) (by rw [i1];simp [zS]) (by rw [i2];simp [zS]) hk q
 rw [yv,ym,yo,yj,hs,hi]
 simp only [Option.getD_some,s0,s1,s2,s3,wG,YC,zir,j0,j1,j2,j3,f0,f1,f2,f3,ea 1 (by decide),ea 2 (by decide),ea 3 (by decide),yZ,Option.bind_some,Option.bind_none,h40,h11,(by decide:¬((11:Int)=40)),(by decide:¬((40:Int)=11)),if_true,if_false,true_and,false_and,List.not_mem_nil,List.mem_singleton,List.nil_append]
theorem zuq (ps:List zc) (n:Ins) (ts:List Int) (hs:zh n.Op=some [6,3,0,0]) (hi:ze n.Op=some [6,3,0,0]) (h40:¬n.Op=40) (h11:¬n.Op=11):xK ps n ts=reads ps n ts:=by
 obtain ⟨f0,f1,f2,f3⟩:=zu n.A n.B n.C n.D
 obtain ⟨s0,s1,s2,s3⟩:=zu 6 3 0 0
 obtain ⟨i0,i1,i2,i3⟩:=zu 6 3 0 0
 have j0:=fun a=>zfl (ps:=ps) (rs:=[6,3,0,0]) (fs:=[n.A,n.B,n.C,n.D]) (k:=0) (a:=a) i0
 have j1:=fun a=>QE (ps:=ps) (rs:=[6,3,0,0]) (fs:=[n.A,n.B,n.C,n.D]) (k:=1) (a:=a) i1
 have j2:=fun a=>zM (ps:=ps) (rs:=[6,3,0,0]) (fs:=[n.A,n.B,n.C,n.D]) (k:=2) (a:=a) (by rw [i2];decide) (by rw [i2];decide) (by rw [i2];decide) (by rw [i2];decide) (by rw [i2];decide) (by rw [i2];decide) (by rw [i2];decide) (by rw [i2];decide) (by rw [i2];decide)
 have j3:=fun a=>zM (ps:=ps) (rs:=[6,3,0,0]) (fs:=[n.A,n.B,n.C,n.D]) (k:=3) (a:=a) (by rw [i3];decide) (by rw [i3];decide) (by rw [i3];decide) (by rw [i3];decide) (by rw [i3];decide) (by rw [i3];decide) (by rw [i3];decide) (by rw [i3];decide) (by rw [i3];decide)
 have ea:=fun (k:Int) (hk:0<k) (q:Int)=>zb1 (rs:=[6,3,0,0]) (fs:=[n.A,n.B,n.C,n.D]) (by rw [i0];simp [zS]) (by rw [i1];simp [zS]) (by rw [i2];simp [zS]) hk q
 rw [yv,ym,yo,yj,hs,hi]
 simp only [Option.getD_some,s0,s1,s2,s3,wG,zdG,zir,j0,j1,j2,j3,f0,f1,f2,f3,ea 1 (by decide),ea 2 (by decide),ea 3 (by decide),yZ,Option.bind_some,Option.bind_none,h40,h11,(by decide:¬((11:Int)=40)),(by decide:¬((40:Int)=11)),if_true,if_false,true_and,false_and,List.not_mem_nil,List.mem_singleton,List.nil_append]
theorem zur (ps:List zc) (n:Ins) (ts:List Int) (hs:zh n.Op=some [1,3,0,0]) (hi:ze n.Op=some [1,3,0,0]) (h40:¬n.Op=40) (h11:¬n.Op=11):xK ps n ts=reads ps n ts:=by
 obtain ⟨f0,f1,f2,f3⟩:=zu n.A n.B n.C n.D
 obtain ⟨s0,s1,s2,s3⟩:=zu 1 3 0 0
 obtain ⟨i0,i1,i2,i3⟩:=zu 1 3 0 0
 have j0:=fun a=>zM (ps:=ps) (rs:=[1,3,0,0]) (fs:=[n.A,n.B,n.C,n.D]) (k:=0) (a:=a) (by rw [i0];decide) (by rw [i0];decide) (by rw [i0];decide) (by rw [i0];decide) (by rw [i0];decide) (by rw [i0];decide) (by rw [i0];decide) (by rw [i0];decide) (by rw [i0];decide)
 have j1:=fun a=>QE (ps:=ps) (rs:=[1,3,0,0]) (fs:=[n.A,n.B,n.C,n.D]) (k:=1) (a:=a) i1
 have j2:=fun a=>zM (ps:=ps) (rs:=[1,3,0,0]) (fs:=[n.A,n.B,n.C,n.D]) (k:=2) (a:=a) (by rw [i2];decide) (by rw [i2];decide) (by rw [i2];decide) (by rw [i2];decide) (by rw [i2];decide) (by rw [i2];decide) (by rw [i2];decide) (by rw [i2];decide) (by rw [i2];decide)
 have j3:=fun a=>zM (ps:=ps) (rs:=[1,3,0,0]) (fs:=[n.A,n.B,n.C,n.D]) (k:=3) (a:=a) (by rw [i3];decide) (by rw [i3];decide) (by rw [i3];decide) (by rw [i3];decide) (by rw [i3];decide) (by rw [i3];decide) (by rw [i3];decide) (by rw [i3];decide) (by rw [i3];decide)
 have ea:=fun (k q:Int)=>y_ (rs:=[1,3,0,0]) (fs:=[n.A,n.B,n.C,n.D]) (k:=k) (by rw [i0];simp [zS]) (by rw [i1];simp [zS]) (by rw [i2];simp [zS]) q
 rw [yv,ym,yo,yj,hs,hi]
 simp only [Option.getD_some,s0,s1,s2,s3,wG,Xr,zdG,j0,j1,j2,j3,f0,f1,f2,f3,ea,yZ,Option.bind_some,Option.bind_none,h40,h11,(by decide:¬((11:Int)=40)),(by decide:¬((40:Int)=11)),if_true,if_false,true_and,false_and,List.not_mem_nil,List.mem_singleton,List.nil_append]
theorem zus (ps:List zc) (n:Ins) (ts:List Int) (hs:zh n.Op=some [1,6,17,0]) (hi:ze n.Op=some [1,6,15,0]) (h40:¬n.Op=40) (h11:¬n.Op=11):xK ps n ts=reads ps n ts:=by
 obtain ⟨f0,f1,f2,f3⟩:=zu n.A n.B n.C n.D
 obtain ⟨s0,s1,s2,s3⟩:=zu 1 6 17 0
 obtain ⟨i0,i1,i2,i3⟩:=zu 1 6 15 0
 have j0:=fun a=>zM (ps:=ps) (rs:=[1,6,15,0]) (fs:=[n.A,n.B,n.C,n.D]) (k:=0) (a:=a) (by rw [i0];decide) (by rw [i0];decide) (by rw [i0];decide) (by rw [i0];decide) (by rw [i0];decide) (by rw [i0];decide) (by rw [i0];decide) (by rw [i0];decide) (by rw [i0];decide)
 have j1:=fun a=>zfl (ps:=ps) (rs:=[1,6,15,0]) (fs:=[n.A,n.B,n.C,n.D]) (k:=1) (a:=a) i1
 have j2:=fun a=>zM (ps:=ps) (rs:=[1,6,15,0]) (fs:=[n.A,n.B,n.C,n.D]) (k:=2) (a:=a) (by rw [i2];decide) (by rw [i2];decide) (by rw [i2];decide) (by rw [i2];decide) (by rw [i2];decide) (by rw [i2];decide) (by rw [i2];decide) (by rw [i2];decide) (by rw [i2];decide)
 have j3:=fun a=>zM (ps:=ps) (rs:=[1,6,15,0]) (fs:=[n.A,n.B,n.C,n.D]) (k:=3) (a:=a) (by rw [i3];decide) (by rw [i3];decide) (by rw [i3];decide) (by rw [i3];decide) (by rw [i3];decide) (by rw [i3];decide) (by rw [i3];decide) (by rw [i3];decide) (by rw [i3];decide)
 rw [yv,ym,yo,yj,hs,hi]
 simp only [Option.getD_some,s0,s1,s2,s3,wG,Xr,zir,zyl,j0,j1,j2,j3,f0,f1,f2,f3,yZ,Option.bind_some,Option.bind_none,h40,h11,(by decide:¬((11:Int)=40)),(by decide:¬((40:Int)=11)),if_true,if_false,true_and,false_and,List.not_mem_nil,List.mem_singleton,List.nil_append]
theorem zut (ps:List zc) (n:Ins) (ts:List Int) (hs:zh n.Op=some [1,6,0,0]) (hi:ze n.Op=some [1,6,0,0]) (h40:¬n.Op=40) (h11:¬n.Op=11):xK ps n ts=reads ps n ts:=by
 obtain ⟨f0,f1,f2,f3⟩:=zu n.A n.B n.C n.D
 obtain ⟨s0,s1,s2,s3⟩:=zu 1 6 0 0
 obtain ⟨i0,i1,i2,i3⟩:=zu 1 6 0 0
 have j0:=fun a=>zM (ps:=ps) (rs:=[1,6,0,0]) (fs:=[n.A,n.B,n.C,n.D]) (k:=0) (a:=a) (by rw [i0];decide) (by rw [i0];decide) (by rw [i0];decide) (by rw [i0];decide) (by rw [i0];decide) (by rw [i0];decide) (by rw [i0];decide) (by rw [i0];decide) (by rw [i0];decide)
 have j1:=fun a=>zfl (ps:=ps) (rs:=[1,6,0,0]) (fs:=[n.A,n.B,n.C,n.D]) (k:=1) (a:=a) i1
 have j2:=fun a=>zM (ps:=ps) (rs:=[1,6,0,0]) (fs:=[n.A,n.B,n.C,n.D]) (k:=2) (a:=a) (by rw [i2];decide) (by rw [i2];decide) (by rw [i2];decide) (by rw [i2];decide) (by rw [i2];decide) (by rw [i2];decide) (by rw [i2];decide) (by rw [i2];decide) (by rw [i2];decide)
 have j3:=fun a=>zM (ps:=ps) (rs:=[1,6,0,0]) (fs:=[n.A,n.B,n.C,n.D]) (k:=3) (a:=a) (by rw [i3];decide) (by rw [i3];decide) (by rw [i3];decide) (by rw [i3];decide) (by rw [i3];decide) (by rw [i3];decide) (by rw [i3];decide) (by rw [i3];decide) (by rw [i3];decide)
 rw [yv,ym,yo,yj,hs,hi]
 simp only [Option.getD_some,s0,s1,s2,s3,wG,Xr,zir,j0,j1,j2,j3,f0,f1,f2,f3,yZ,Option.bind_some,Option.bind_none,h40,h11,(by decide:¬((11:Int)=40)),(by decide:¬((40:Int)=11)),if_true,if_false,true_and,false_and,List.not_mem_nil,List.mem_singleton,List.nil_append]
theorem zuu (ps:List zc) (n:Ins) (ts:List Int) (hs:zh n.Op=some [1,2,3,0]) (hi:ze n.Op=some [1,2,3,0]) (h40:¬n.Op=40) (h11:¬n.Op=11):xK ps n ts=reads ps n ts:=by
 obtain ⟨f0,f1,f2,f3⟩:=zu n.A n.B n.C n.D
 obtain ⟨s0,s1,s2,s3⟩:=zu 1 2 3 0
 obtain ⟨i0,i1,i2,i3⟩:=zu 1 2 3 0
 have j0:=fun a=>zM (ps:=ps) (rs:=[1,2,3,0]) (fs:=[n.A,n.B,n.C,n.D]) (k:=0) (a:=a) (by rw [i0];decide) (by rw [i0];decide) (by rw [i0];decide) (by rw [i0];decide) (by rw [i0];decide) (by rw [i0];decide) (by rw [i0];decide) (by rw [i0];decide) (by rw [i0];decide)
 have j1:=fun a=>ug (ps:=ps) (rs:=[1,2,3,0]) (fs:=[n.A,n.B,n.C,n.D]) (k:=1) (a:=a) i1
 have j2:=fun a=>QE (ps:=ps) (rs:=[1,2,3,0]) (fs:=[n.A,n.B,n.C,n.D]) (k:=2) (a:=a) i2
 have j3:=fun a=>zM (ps:=ps) (rs:=[1,2,3,0]) (fs:=[n.A,n.B,n.C,n.D]) (k:=3) (a:=a) (by rw [i3];decide) (by rw [i3];decide) (by rw [i3];decide) (by rw [i3];decide) (by rw [i3];decide) (by rw [i3];decide) (by rw [i3];decide) (by rw [i3];decide) (by rw [i3];decide)
 have ea:=fun (k q:Int)=>y_ (rs:=[1,2,3,0]) (fs:=[n.A,n.B,n.C,n.D]) (k:=k) (by rw [i0];simp [zS]) (by rw [i1];simp [zS]) (by rw [i2];simp [zS]) q
 rw [yv,ym,yo,yj,hs,hi]
 simp only [Option.getD_some,s0,s1,s2,s3,wG,Xr,YC,zdG,j0,j1,j2,j3,f0,f1,f2,f3,ea,yZ,Option.bind_some,Option.bind_none,h40,h11,(by decide:¬((11:Int)=40)),(by decide:¬((40:Int)=11)),if_true,if_false,true_and,false_and,List.not_mem_nil,List.mem_singleton,List.nil_append]
theorem zuv (ps:List zc) (n:Ins) (ts:List Int) (hs:zh n.Op=some [3,0,0,0]) (hi:ze n.Op=some [3,0,0,0]) (h40:¬n.Op=40) (h11:¬n.Op=11):xK ps n ts=reads ps n ts:=by
 obtain ⟨f0,f1,f2,f3⟩:=zu n.A n.B n.C n.D
 obtain ⟨s0,s1,s2,s3⟩:=zu 3 0 0 0
 obtain ⟨i0,i1,i2,i3⟩:=zu 3 0 0 0
 have j0:=fun a=>QE (ps:=ps) (rs:=[3,0,0,0]) (fs:=[n.A,n.B,n.C,n.D]) (k:=0) (a:=a) i0
 have j1:=fun a=>zM (ps:=ps) (rs:=[3,0,0,0]) (fs:=[n.A,n.B,n.C,n.D]) (k:=1) (a:=a) (by rw [i1];decide) (by rw [i1];decide) (by rw [i1];decide) (by rw [i1];decide) (by rw [i1];decide) (by rw [i1];decide) (by rw [i1];decide) (by rw [i1];decide) (by rw [i1];decide)
 have j2:=fun a=>zM (ps:=ps) (rs:=[3,0,0,0]) (fs:=[n.A,n.B,n.C,n.D]) (k:=2) (a:=a) (by rw [i2];decide) (by rw [i2];decide) (by rw [i2];decide) (by rw [i2];decide) (by rw [i2];decide) (by rw [i2];decide) (by rw [i2];decide) (by rw [i2];decide) (by rw [i2];decide)
 have j3:=fun a=>zM (ps:=ps) (rs:=[3,0,0,0]) (fs:=[n.A,n.B,n.C,n.D]) (k:=3) (a:=a) (by rw [i3];decide) (by rw [i3];decide) (by rw [i3];decide) (by rw [i3];decide) (by rw [i3];decide) (by rw [i3];decide) (by rw [i3];decide) (by rw [i3];decide) (by rw [i3];decide)
 have ea:=fun (k q:Int)=>y_ (rs:=[3,0,0,0]) (fs:=[n.A,n.B,n.C,n.D]) (k:=k) (by rw [i0];simp [zS]) (by rw [i1];simp [zS]) (by rw [i2];simp [zS]) q
 rw [yv,ym,yo,yj,hs,hi]
 simp only [Option.getD_some,s0,s1,s2,s3,wG,zdG,j0,j1,j2,j3,f0,f1,f2,f3,ea,yZ,Option.bind_some,Option.bind_none,h40,h11,(by decide:¬((11:Int)=40)),(by decide:¬((40:Int)=11)),if_true,if_false,true_and,false_and,List.not_mem_nil,List.mem_singleton,List.nil_append]
theorem zuw (ps:List zc) (n:Ins) (ts:List Int) (hs:zh n.Op=some [2,0,0,0]) (hi:ze n.Op=some [2,0,0,0]) (h40:¬n.Op=40) (h11:¬n.Op=11):xK ps n ts=reads ps n ts:=by
 obtain ⟨f0,f1,f2,f3⟩:=zu n.A n.B n.C n.D
 obtain ⟨s0,s1,s2,s3⟩:=zu 2 0 0 0
 obtain ⟨i0,i1,i2,i3⟩:=zu 2 0 0 0
 have j0:=fun a=>ug (ps:=ps) (rs:=[2,0,0,0]) (fs:=[n.A,n.B,n.C,n.D]) (k:=0) (a:=a) i0
 have j1:=fun a=>zM (ps:=ps) (rs:=[2,0,0,0]) (fs:=[n.A,n.B,n.C,n.D]) (k:=1) (a:=a) (by rw [i1];decide) (by rw [i1];decide) (by rw [i1];decide) (by rw [i1];decide) (by rw [i1];decide) (by rw [i1];decide) (by rw [i1];decide) (by rw [i1];decide) (by rw [i1];decide)
 have j2:=fun a=>zM (ps:=ps) (rs:=[2,0,0,0]) (fs:=[n.A,n.B,n.C,n.D]) (k:=2) (a:=a) (by rw [i2];decide) (by rw [i2];decide) (by rw [i2];decide) (by rw [i2];decide) (by rw [i2];decide) (by rw [i2];decide) (by rw [i2];decide) (by rw [i2];decide) (by rw [i2];decide)
 have j3:=fun a=>zM (ps:=ps) (rs:=[2,0,0,0]) (fs:=[n.A,n.B,n.C,n.D]) (k:=3) (a:=a) (by rw [i3];decide) (by rw [i3];decide) (by rw [i3];decide) (by rw [i3];decide) (by rw [i3];decide) (by rw [i3];decide) (by rw [i3];decide) (by rw [i3];decide) (by rw [i3];decide)
 have ea:=fun (k q:Int)=>y_ (rs:=[2,0,0,0]) (fs:=[n.A,n.B,n.C,n.D]) (k:=k) (by rw [i0];simp [zS]) (by rw [i1];simp [zS]) (by rw [i2];simp [zS]) q
 rw [yv,ym,yo,yj,hs,hi]
 simp only [Option.getD_some,s0,s1,s2,s3,wG,YC,j0,j1,j2,j3,f0,f1,f2,f3,ea,yZ,Option.bind_some,Option.bind_none,h40,h11,(by decide:¬((11:Int)=40)),(by decide:¬((40:Int)=11)),if_true,if_false,true_and,false_and,List.not_mem_nil,List.mem_singleton,List.nil_append]
theorem zux (ps:List zc) (n:Ins) (ts:List Int) (hs:zh n.Op=some [10,14,0,0]) (hi:ze n.Op=some [12,17,0,0]) (h40:¬n.Op=40) (h11:¬n.Op=11):xK ps n ts=reads ps n ts:=by
 obtain ⟨f0,f1,f2,f3⟩:=zu n.A n.B n.C n.D
 obtain ⟨s0,s1,s2,s3⟩:=zu 10 14 0 0
 obtain ⟨i0,i1,i2,i3⟩:=zu 12 17 0 0
 have j0:=fun a=>zM (ps:=ps) (rs:=[12,17,0,0]) (fs:=[n.A,n.B,n.C,n.D]) (k:=0) (a:=a) (by rw [i0];decide) (by rw [i0];decide) (by rw [i0];decide) (by rw [i0];decide) (by rw [i0];decide) (by rw [i0];decide) (by rw [i0];decide) (by rw [i0];decide) (by rw [i0];decide)
 have j1:=fun a=>zM (ps:=ps) (rs:=[12,17,0,0]) (fs:=[n.A,n.B,n.C,n.D]) (k:=1) (a:=a) (by rw [i1];decide) (by rw [i1];decide) (by rw [i1];decide) (by rw [i1];decide) (by rw [i1];decide) (by rw [i1];decide) (by rw [i1];decide) (by rw [i1];decide) (by rw [i1];decide)
 have j2:=fun a=>zM (ps:=ps) (rs:=[12,17,0,0]) (fs:=[n.A,n.B,n.C,n.D]) (k:=2) (a:=a) (by rw [i2];decide) (by rw [i2];decide) (by rw [i2];decide) (by rw [i2];decide) (by rw [i2];decide) (by rw [i2];decide) (by rw [i2];decide) (by rw [i2];decide) (by rw [i2];decide)
 have j3:=fun a=>zM (ps:=ps) (rs:=[12,17,0,0]) (fs:=[n.A,n.B,n.C,n.D]) (k:=3) (a:=a) (by rw [i3];decide) (by rw [i3];decide) (by rw [i3];decide) (by rw [i3];decide) (by rw [i3];decide) (by rw [i3];decide) (by rw [i3];decide) (by rw [i3];decide) (by rw [i3];decide)
 have ea:=fun (k q:Int)=>y_ (rs:=[12,17,0,0]) (fs:=[n.A,n.B,n.C,n.D]) (k:=k) (by rw [i0];simp [zS]) (by rw [i1];simp [zS]) (by rw [i2];simp [zS]) q
 rw [yv,ym,yo,yj,hs,hi]
 simp only [Option.getD_some,s0,s1,s2,s3,wG,zfA,zyi,j0,j1,j2,j3,f0,f1,f2,f3,ea,yZ,Option.bind_some,Option.bind_none,h40,h11,(by decide:¬((11:Int)=40)),(by decide:¬((40:Int)=11)),if_true,if_false,true_and,false_and,List.not_mem_nil,List.mem_singleton,List.nil_append]
theorem zmE (ps:List zc) (n:Ins) (ts:List Int) (hs:zh n.Op=some [13,0,0,0]) (hi:ze n.Op=some [16,0,0,0]) (h40:¬n.Op=40) (h11:¬n.Op=11):xK ps n ts=reads ps n ts:=by
 obtain ⟨f0,f1,f2,f3⟩:=zu n.A n.B n.C n.D
 obtain ⟨s0,s1,s2,s3⟩:=zu 13 0 0 0
 obtain ⟨i0,i1,i2,i3⟩:=zu 16 0 0 0
 have j0:=fun a=>zM (ps:=ps) (rs:=[16,0,0,0]) (fs:=[n.A,n.B,n.C,n.D]) (k:=0) (a:=a) (by rw [i0];decide) (by rw [i0];decide) (by rw [i0];decide) (by rw [i0];decide) (by rw [i0];decide) (by rw [i0];decide) (by rw [i0];decide) (by rw [i0];decide) (by rw [i0];decide)
 have j1:=fun a=>zM (ps:=ps) (rs:=[16,0,0,0]) (fs:=[n.A,n.B,n.C,n.D]) (k:=1) (a:=a) (by rw [i1];decide) (by rw [i1];decide) (by rw [i1];decide) (by rw [i1];decide) (by rw [i1];decide) (by rw [i1];decide) (by rw [i1];decide) (by rw [i1];decide) (by rw [i1];decide)
 have j2:=fun a=>zM (ps:=ps) (rs:=[16,0,0,0]) (fs:=[n.A,n.B,n.C,n.D]) (k:=2) (a:=a) (by rw [i2];decide) (by rw [i2];decide) (by rw [i2];decide) (by rw [i2];decide) (by rw [i2];decide) (by rw [i2];decide) (by rw [i2];decide) (by rw [i2];decide) (by rw [i2];decide)
 have j3:=fun a=>zM (ps:=ps) (rs:=[16,0,0,0]) (fs:=[n.A,n.B,n.C,n.D]) (k:=3) (a:=a) (by rw [i3];decide) (by rw [i3];decide) (by rw [i3];decide) (by rw [i3];decide) (by rw [i3];decide) (by rw [i3];decide) (by rw [i3];decide) (by rw [i3];decide) (by rw [i3];decide)
 have ea:=fun (k q:Int)=>y_ (rs:=[16,0,0,0]) (fs:=[n.A,n.B,n.C,n.D]) (k:=k) (by rw [i0];simp [zS]) (by rw [i1];simp [zS]) (by rw [i2];simp [zS]) q
 rw [yv,ym,yo,yj,hs,hi]
 simp only [Option.getD_some,s0,s1,s2,s3,wG,zyh,j0,j1,j2,j3,f0,f1,f2,f3,ea,yZ,Option.bind_some,Option.bind_none,h40,h11,(by decide:¬((11:Int)=40)),(by decide:¬((40:Int)=11)),if_true,if_false,true_and,false_and,List.not_mem_nil,List.mem_singleton,List.nil_append]
theorem zuy (ps:List zc) (n:Ins) (ts:List Int) (hs:zh n.Op=some [2,3,0,0]) (hi:ze n.Op=some [2,3,0,0]) (h40:¬n.Op=40) (h11:¬n.Op=11):xK ps n ts=reads ps n ts:=by
 obtain ⟨f0,f1,f2,f3⟩:=zu n.A n.B n.C n.D
 obtain ⟨s0,s1,s2,s3⟩:=zu 2 3 0 0
 obtain ⟨i0,i1,i2,i3⟩:=zu 2 3 0 0
 have j0:=fun a=>ug (ps:=ps) (rs:=[2,3,0,0]) (fs:=[n.A,n.B,n.C,n.D]) (k:=0) (a:=a) i0
 have j1:=fun a=>QE (ps:=ps) (rs:=[2,3,0,0]) (fs:=[n.A,n.B,n.C,n.D]) (k:=1) (a:=a) i1
 have j2:=fun a=>zM (ps:=ps) (rs:=[2,3,0,0]) (fs:=[n.A,n.B,n.C,n.D]) (k:=2) (a:=a) (by rw [i2];decide) (by rw [i2];decide) (by rw [i2];decide) (by rw [i2];decide) (by rw [i2];decide) (by rw [i2];decide) (by rw [i2];decide) (by rw [i2];decide) (by rw [i2];decide)
 have j3:=fun a=>zM (ps:=ps) (rs:=[2,3,0,0]) (fs:=[n.A,n.B,n.C,n.D]) (k:=3) (a:=a) (by rw [i3];decide) (by rw [i3];decide) (by rw [i3];decide) (by rw [i3];decide) (by rw [i3];decide) (by rw [i3];decide) (by rw [i3];decide) (by rw [i3];decide) (by rw [i3];decide)
 have ea:=fun (k q:Int)=>y_ (rs:=[2,3,0,0]) (fs:=[n.A,n.B,n.C,n.D]) (k:=k) (by rw [i0];simp [zS]) (by rw [i1];simp [zS]) (by rw [i2];simp [zS]) q
 rw [yv,ym,yo,yj,hs,hi]
 simp only [Option.getD_some,s0,s1,s2,s3,wG,YC,zdG,j0,j1,j2,j3,f0,f1,f2,f3,ea,yZ,Option.bind_some,Option.bind_none,h40,h11,(by decide:¬((11:Int)=40)),(by decide:¬((40:Int)=11)),if_true,if_false,true_and,false_and,List.not_mem_nil,List.mem_singleton,List.nil_append]
theorem zuz (ps:List zc) (n:Ins) (ts:List Int) (hs:zh n.Op=some [18,0,0,0]) (hi:ze n.Op=some [18,0,0,0]) (h40:¬n.Op=40) (h11:¬n.Op=11):xK ps n ts=reads ps n ts:=by
 obtain ⟨f0,f1,f2,f3⟩:=zu n.A n.B n.C n.D
 obtain ⟨s0,s1,s2,s3⟩:=zu 18 0 0 0
 obtain ⟨i0,i1,i2,i3⟩:=zu 18 0 0 0
 have j0:=fun a=>zjI (ps:=ps) (rs:=[18,0,0,0]) (fs:=[n.A,n.B,n.C,n.D]) (k:=0) (a:=a) i0
 have j1:=fun a=>zM (ps:=ps) (rs:=[18,0,0,0]) (fs:=[n.A,n.B,n.C,n.D]) (k:=1) (a:=a) (by rw [i1];decide) (by rw [i1];decide) (by rw [i1];decide) (by rw [i1];decide) (by rw [i1];decide) (by rw [i1];decide) (by rw [i1];decide) (by rw [i1];decide) (by rw [i1];decide)
 have j2:=fun a=>zM (ps:=ps) (rs:=[18,0,0,0]) (fs:=[n.A,n.B,n.C,n.D]) (k:=2) (a:=a) (by rw [i2];decide) (by rw [i2];decide) (by rw [i2];decide) (by rw [i2];decide) (by rw [i2];decide) (by rw [i2];decide) (by rw [i2];decide) (by rw [i2];decide) (by rw [i2];decide)
 have j3:=fun a=>zM (ps:=ps) (rs:=[18,0,0,0]) (fs:=[n.A,n.B,n.C,n.D]) (k:=3) (a:=a) (by rw [i3];decide) (by rw [i3];decide) (by rw [i3];decide) (by rw [i3];decide) (by rw [i3];decide) (by rw [i3];decide) (by rw [i3];decide) (by rw [i3];decide) (by rw [i3];decide)
 have ea:=fun (k q:Int)=>y_ (rs:=[18,0,0,0]) (fs:=[n.A,n.B,n.C,n.D]) (k:=k) (by rw [i0];simp [zS]) (by rw [i1];simp [zS]) (by rw [i2];simp [zS]) q
 rw [yv,ym,yo,yj,hs,hi]
 simp only [Option.getD_some,s0,s1,s2,s3,wG,zfB,j0,j1,j2,j3,f0,f1,f2,f3,ea,yZ,Option.bind_some,Option.bind_none,h40,h11,(by decide:¬((11:Int)=40)),(by decide:¬((40:Int)=11)),if_true,if_false,true_and,false_and,List.not_mem_nil,List.mem_singleton,List.nil_append]
theorem zmF (ps:List zc) (n:Ins) (ts:List Int) (hs:zh n.Op=some [18,10,0,0]) (hi:ze n.Op=some [18,12,0,0]) (h40:¬n.Op=40) (h11:¬n.Op=11):xK ps n ts=reads ps n ts:=by
 obtain ⟨f0,f1,f2,f3⟩:=zu n.A n.B n.C n.D
 obtain ⟨s0,s1,s2,s3⟩:=zu 18 10 0 0
 obtain ⟨i0,i1,i2,i3⟩:=zu 18 12 0 0
 have j0:=fun a=>zjI (ps:=ps) (rs:=[18,12,0,0]) (fs:=[n.A,n.B,n.C,n.D]) (k:=0) (a:=a) i0
 have j1:=fun a=>zM (ps:=ps) (rs:=[18,12,0,0]) (fs:=[n.A,n.B,n.C,n.D]) (k:=1) (a:=a) (by rw [i1];decide) (by rw [i1];decide) (by rw [i1];decide) (by rw [i1];decide) (by rw [i1];decide) (by rw [i1];decide) (by rw [i1];decide) (by rw [i1];decide) (by rw [i1];decide)
 have j2:=fun a=>zM (ps:=ps) (rs:=[18,12,0,0]) (fs:=[n.A,n.B,n.C,n.D]) (k:=2) (a:=a) (by rw [i2];decide) (by rw [i2];decide) (by rw [i2];decide) (by rw [i2];decide) (by rw [i2];decide) (by rw [i2];decide) (by rw [i2];decide) (by rw [i2];decide) (by rw [i2];decide)
 have j3:=fun a=>zM (ps:=ps) (rs:=[18,12,0,0]) (fs:=[n.A,n.B,n.C,n.D]) (k:=3) (a:=a) (by rw [i3];decide) (by rw [i3];decide) (by rw [i3];decide) (by rw [i3];decide) (by rw [i3];decide) (by rw [i3];decide) (by rw [i3];decide) (by rw [i3];decide) (by rw [i3];decide)
 have ea:=fun (k q:Int)=>y_ (rs:=[18,12,0,0]) (fs:=[n.A,n.B,n.C,n.D]) (k:=k) (by rw [i0];simp [zS]) (by rw [i1];simp [zS]) (by rw [i2];simp [zS]) q
 rw [yv,ym,yo,yj,hs,hi]
 simp only [Option.getD_some,s0,s1,s2,s3,wG,zfA,zfB,j0,j1,j2,j3,f0,f1,f2,f3,ea,yZ,Option.bind_some,Option.bind_none,h40,h11,(by decide:¬((11:Int)=40)),(by decide:¬((40:Int)=11)),if_true,if_false,true_and,false_and,List.not_mem_nil,List.mem_singleton,List.nil_append]
theorem zuA (ps:List zc) (n:Ins) (ts:List Int) (hs:zh n.Op=some [19,0,0,0]) (hi:ze n.Op=some [19,0,0,0]) (h40:n.Op=40) (h11:¬n.Op=11):xK ps n ts=reads ps n ts:=by
 obtain ⟨f0,f1,f2,f3⟩:=zu n.A n.B n.C n.D
 obtain ⟨s0,s1,s2,s3⟩:=zu 19 0 0 0
 obtain ⟨i0,i1,i2,i3⟩:=zu 19 0 0 0
 have j0:=fun a=>zoI (ps:=ps) (rs:=[19,0,0,0]) (fs:=[n.A,n.B,n.C,n.D]) (k:=0) (a:=a) i0
 have j1:=fun a=>zM (ps:=ps) (rs:=[19,0,0,0]) (fs:=[n.A,n.B,n.C,n.D]) (k:=1) (a:=a) (by rw [i1];decide) (by rw [i1];decide) (by rw [i1];decide) (by rw [i1];decide) (by rw [i1];decide) (by rw [i1];decide) (by rw [i1];decide) (by rw [i1];decide) (by rw [i1];decide)
 have j2:=fun a=>zM (ps:=ps) (rs:=[19,0,0,0]) (fs:=[n.A,n.B,n.C,n.D]) (k:=2) (a:=a) (by rw [i2];decide) (by rw [i2];decide) (by rw [i2];decide) (by rw [i2];decide) (by rw [i2];decide) (by rw [i2];decide) (by rw [i2];decide) (by rw [i2];decide) (by rw [i2];decide)
 have j3:=fun a=>zM (ps:=ps) (rs:=[19,0,0,0]) (fs:=[n.A,n.B,n.C,n.D]) (k:=3) (a:=a) (by rw [i3];decide) (by rw [i3];decide) (by rw [i3];decide) (by rw [i3];decide) (by rw [i3];decide) (by rw [i3];decide) (by rw [i3];decide) (by rw [i3];decide) (by rw [i3];decide)
 have ea:=fun (k q:Int)=>y_ (rs:=[19,0,0,0]) (fs:=[n.A,n.B,n.C,n.D]) (k:=k) (by rw [i0];simp [zS]) (by rw [i1];simp [zS]) (by rw [i2];simp [zS]) q
 rw [yv,ym,yo,yj,hs,hi]
 simp only [Option.getD_some,s0,s1,s2,s3,wG,zip,j0,j1,j2,j3,f0,f1,f2,f3,ea,yZ,Option.bind_some,Option.bind_none,h40,h11,(by decide:¬((11:Int)=40)),(by decide:¬((40:Int)=11)),if_true,if_false,true_and,false_and,List.not_mem_nil,List.mem_singleton,List.nil_append]
theorem zuB (ps:List zc) (n:Ins) (ts:List Int) (hs:zh n.Op=some [20,10,1,0]) (hi:ze n.Op=some [20,12,1,0]) (h40:¬n.Op=40) (h11:¬n.Op=11):xK ps n ts=reads ps n ts:=by
 obtain ⟨f0,f1,f2,f3⟩:=zu n.A n.B n.C n.D
 obtain ⟨s0,s1,s2,s3⟩:=zu 20 10 1 0
 obtain ⟨i0,i1,i2,i3⟩:=zu 20 12 1 0
 have j0:=fun a=>zoJ (ps:=ps) (rs:=[20,12,1,0]) (fs:=[n.A,n.B,n.C,n.D]) (k:=0) (a:=a) i0
 have j1:=fun a=>zM (ps:=ps) (rs:=[20,12,1,0]) (fs:=[n.A,n.B,n.C,n.D]) (k:=1) (a:=a) (by rw [i1];decide) (by rw [i1];decide) (by rw [i1];decide) (by rw [i1];decide) (by rw [i1];decide) (by rw [i1];decide) (by rw [i1];decide) (by rw [i1];decide) (by rw [i1];decide)
 have j2:=fun a=>zM (ps:=ps) (rs:=[20,12,1,0]) (fs:=[n.A,n.B,n.C,n.D]) (k:=2) (a:=a) (by rw [i2];decide) (by rw [i2];decide) (by rw [i2];decide) (by rw [i2];decide) (by rw [i2];decide) (by rw [i2];decide) (by rw [i2];decide) (by rw [i2];decide) (by rw [i2];decide)
 have j3:=fun a=>zM (ps:=ps) (rs:=[20,12,1,0]) (fs:=[n.A,n.B,n.C,n.D]) (k:=3) (a:=a) (by rw [i3];decide) (by rw [i3];decide) (by rw [i3];decide) (by rw [i3];decide) (by rw [i3];decide) (by rw [i3];decide) (by rw [i3];decide) (by rw [i3];decide) (by rw [i3];decide)
 have ea:=fun (k q:Int)=>y_ (rs:=[20,12,1,0]) (fs:=[n.A,n.B,n.C,n.D]) (k:=k) (by rw [i0];simp [zS]) (by rw [i1];simp [zS]) (by rw [i2];simp [zS]) q
 rw [yv,ym,yo,yj,hs,hi]
 simp only [Option.getD_some,s0,s1,s2,s3,wG,Xr,zfA,ziq,j0,j1,j2,j3,f0,f1,f2,f3,ea,yZ,Option.bind_some,Option.bind_none,h40,h11,(by decide:¬((11:Int)=40)),(by decide:¬((40:Int)=11)),if_true,if_false,true_and,false_and,List.not_mem_nil,List.mem_singleton,List.nil_append]
theorem zuC (ps:List zc) (n:Ins) (ts:List Int) (hs:zh n.Op=some [21,0,0,0]) (hi:ze n.Op=some [1,0,0,0]) (h40:¬n.Op=40) (h11:¬n.Op=11):xK ps n ts=reads ps n ts:=by
 obtain ⟨f0,f1,f2,f3⟩:=zu n.A n.B n.C n.D
 obtain ⟨s0,s1,s2,s3⟩:=zu 21 0 0 0
 obtain ⟨i0,i1,i2,i3⟩:=zu 1 0 0 0
 have j0:=fun a=>zM (ps:=ps) (rs:=[1,0,0,0]) (fs:=[n.A,n.B,n.C,n.D]) (k:=0) (a:=a) (by rw [i0];decide) (by rw [i0];decide) (by rw [i0];decide) (by rw [i0];decide) (by rw [i0];decide) (by rw [i0];decide) (by rw [i0];decide) (by rw [i0];decide) (by rw [i0];decide)
 have j1:=fun a=>zM (ps:=ps) (rs:=[1,0,0,0]) (fs:=[n.A,n.B,n.C,n.D]) (k:=1) (a:=a) (by rw [i1];decide) (by rw [i1];decide) (by rw [i1];decide) (by rw [i1];decide) (by rw [i1];decide) (by rw [i1];decide) (by rw [i1];decide) (by rw [i1];decide) (by rw [i1];decide)
 have j2:=fun a=>zM (ps:=ps) (rs:=[1,0,0,0]) (fs:=[n.A,n.B,n.C,n.D]) (k:=2) (a:=a) (by rw [i2];decide) (by rw [i2];decide) (by rw [i2];decide) (by rw [i2];decide) (by rw [i2];decide) (by rw [i2];decide) (by rw [i2];decide) (by rw [i2];decide) (by rw [i2];decide)
 have j3:=fun a=>zM (ps:=ps) (rs:=[1,0,0,0]) (fs:=[n.A,n.B,n.C,n.D]) (k:=3) (a:=a) (by rw [i3];decide) (by rw [i3];decide) (by rw [i3];decide) (by rw [i3];decide) (by rw [i3];decide) (by rw [i3];decide) (by rw [i3];decide) (by rw [i3];decide) (by rw [i3];decide)
 have ea:=fun (k q:Int)=>y_ (rs:=[1,0,0,0]) (fs:=[n.A,n.B,n.C,n.D]) (k:=k) (by rw [i0];simp [zS]) (by rw [i1];simp [zS]) (by rw [i2];simp [zS]) q
 rw [yv,ym,yo,yj,hs,hi]
 simp only [Option.getD_some,s0,s1,s2,s3,wG,zym,j0,j1,j2,j3,f0,f1,f2,f3,ea,yZ,Option.bind_some,Option.bind_none,h40,h11,(by decide:¬((11:Int)=40)),(by decide:¬((40:Int)=11)),if_true,if_false,true_and,false_and,List.not_mem_nil,List.mem_singleton,List.nil_append]
theorem zqm (ps:List zc) (n:Ins) (ts:List Int) {l:List Int} (hs:zh n.Op=some l):xK ps n ts=reads ps n ts:=by
 by_cases h1:n.Op=1
 ·exact zwR ps n ts (by rw [h1];simp [zh]) (by rw [h1];decide +kernel) (by omega) (by omega)
 by_cases h2:n.Op=2
 ·exact zwS ps n ts (by rw [h2];simp [zh]) (by rw [h2];decide +kernel) (by omega) (by omega)
 by_cases h3:n.Op=3
 ·exact zjQ ps n ts (by rw [h3];simp [zh]) (by rw [h3];decide +kernel) (by omega) (by omega)
 by_cases h32:n.Op=32
 ·exact zjQ ps n ts (by rw [h32];simp [zh]) (by rw [h32];decide +kernel) (by omega) (by omega)
 by_cases h36:n.Op=36
 ·exact zjQ ps n ts (by rw [h36];simp [zh]) (by rw [h36];decide +kernel) (by omega) (by omega)
 by_cases h4:n.Op=4
 ·exact zwT ps n ts (by rw [h4];simp [zh]) (by rw [h4];decide +kernel) (by omega) (by omega)
 by_cases h5:n.Op=5
 ·exact zoS ps n ts (by rw [h5];simp [zh]) (by rw [h5];decide +kernel) (by omega) (by omega)
 by_cases h6:n.Op=6
 ·exact zoS ps n ts (by rw [h6];simp [zh]) (by rw [h6];decide +kernel) (by omega) (by omega)
 by_cases h7:n.Op=7
 ·exact zwU ps n ts (by rw [h7];simp [zh]) (by rw [h7];decide +kernel) (by omega) (by omega)
 by_cases h8:n.Op=8
 ·exact zwV ps n ts (by rw [h8];simp [zh]) (by rw [h8];decide +kernel) (by omega) (by omega)
 by_cases h9:n.Op=9
 ·exact zwW ps n ts (by rw [h9];simp [zh]) (by rw [h9];decide +kernel) (by omega) (by omega)
 by_cases h10:n.Op=10
 ·exact zwX ps n ts (by rw [h10];simp [zh]) (by rw [h10];decide +kernel) (by omega) (by omega)
 by_cases h11:n.Op=11
 ·exact zwY ps n ts (by rw [h11];simp [zh]) (by rw [h11];decide +kernel) (by omega) (by omega)
 by_cases h12:n.Op=12
 ·exact zmC ps n ts (by rw [h12];simp [zh]) (by rw [h12];decide +kernel) (by omega) (by omega)
 by_cases h22:n.Op=22
 ·exact zmC ps n ts (by rw [h22];simp [zh]) (by rw [h22];decide +kernel) (by omega) (by omega)
 by_cases h13:n.Op=13
 ·exact zui ps n ts (by rw [h13];simp [zh]) (by rw [h13];decide +kernel) (by omega) (by omega)
 by_cases h14:n.Op=14
 ·exact zuj ps n ts (by rw [h14];simp [zh]) (by rw [h14];decide +kernel) (by omega) (by omega)
 by_cases h15:n.Op=15
 ·exact zuk ps n ts (by rw [h15];simp [zh]) (by rw [h15];decide +kernel) (by omega) (by omega)
 by_cases h16:n.Op=16
 ·exact zul ps n ts (by rw [h16];simp [zh]) (by rw [h16];decide +kernel) (by omega) (by omega)
 by_cases h17:n.Op=17
 ·exact zum ps n ts (by rw [h17];simp [zh]) (by rw [h17];decide +kernel) (by omega) (by omega)
 by_cases h18:n.Op=18
 ·exact zun ps n ts (by rw [h18];simp [zh]) (by rw [h18];decide +kernel) (by omega) (by omega)
 by_cases h19:n.Op=19
 ·exact zuo ps n ts (by rw [h19];simp [zh]) (by rw [h19];decide +kernel) (by omega) (by omega)
 by_cases h20:n.Op=20
 ·exact zmD ps n ts (by rw [h20];simp [zh]) (by rw [h20];decide +kernel) (by omega) (by omega)
 by_cases h21:n.Op=21
 ·exact zmD ps n ts (by rw [h21];simp [zh]) (by rw [h21];decide +kernel) (by omega) (by omega)
 by_cases h23:n.Op=23
 ·exact zup ps n ts (by rw [h23];simp [zh]) (by rw [h23];decide +kernel) (by omega) (by omega)
 by_cases h24:n.Op=24
 ·exact zuq ps n ts (by rw [h24];simp [zh]) (by rw [h24];decide +kernel) (by omega) (by omega)
 by_cases h25:n.Op=25
 ·exact zur ps n ts (by rw [h25];simp [zh]) (by rw [h25];decide +kernel) (by omega) (by omega)
 by_cases h26:n.Op=26
 ·exact zus ps n ts (by rw [h26];simp [zh]) (by rw [h26];decide +kernel) (by omega) (by omega)
 by_cases h27:n.Op=27
 ·exact zut ps n ts (by rw [h27];simp [zh]) (by rw [h27];decide +kernel) (by omega) (by omega)
 by_cases h28:n.Op=28
 ·exact zuu ps n ts (by rw [h28];simp [zh]) (by rw [h28];decide +kernel) (by omega) (by omega)
 by_cases h29:n.Op=29
 ·exact zuv ps n ts (by rw [h29];simp [zh]) (by rw [h29];decide +kernel) (by omega) (by omega)
 by_cases h30:n.Op=30
 ·exact zuw ps n ts (by rw [h30];simp [zh]) (by rw [h30];decide +kernel) (by omega) (by omega)
 by_cases h31:n.Op=31
 ·exact zux ps n ts (by rw [h31];simp [zh]) (by rw [h31];decide +kernel) (by omega) (by omega)
 by_cases h33:n.Op=33
 ·exact zmE ps n ts (by rw [h33];simp [zh]) (by rw [h33];decide +kernel) (by omega) (by omega)
 by_cases h34:n.Op=34
 ·exact zmE ps n ts (by rw [h34];simp [zh]) (by rw [h34];decide +kernel) (by omega) (by omega)
 by_cases h35:n.Op=35
 ·exact zuy ps n ts (by rw [h35];simp [zh]) (by rw [h35];decide +kernel) (by omega) (by omega)
 by_cases h37:n.Op=37
 ·exact zuz ps n ts (by rw [h37];simp [zh]) (by rw [h37];decide +kernel) (by omega) (by omega)
 by_cases h38:n.Op=38
 ·exact zmF ps n ts (by rw [h38];simp [zh]) (by rw [h38];decide +kernel) (by omega) (by omega)
 by_cases h39:n.Op=39
 ·exact zmF ps n ts (by rw [h39];simp [zh]) (by rw [h39];decide +kernel) (by omega) (by omega)
 by_cases h40:n.Op=40
 ·exact zuA ps n ts (by rw [h40];simp [zh]) (by rw [h40];decide +kernel) (by omega) (by omega)
 by_cases h41:n.Op=41
 ·exact zuB ps n ts (by rw [h41];simp [zh]) (by rw [h41];decide +kernel) (by omega) (by omega)
 by_cases h42:n.Op=42
 ·exact zuC ps n ts (by rw [h42];simp [zh]) (by rw [h42];decide +kernel) (by omega) (by omega)
 exfalso
 simp [zh,h1,h2,h3,h4,h5,h6,h7,h8,h9,h10,h11,h12,h13,h14,h15,h16,h17,h18,h19,h20,h21,h22,h23,h24,h25,h26,h27,h28,h29,h30,h31,h32,h33,h34,h35,h36,h37,h38,h39,h40,h41,h42] at hs
end
end Go.Proofs.Tryd.Av
end
section
attribute [local congr] ite_congr
set_option maxRecDepth 10000
set_option maxHeartbeats 4000000
namespace Go.Proofs.Tryd.Av
open Go Go.Av Classical
abbrev wa (ps:List zc) (p:Int) (nd:Ins) (t:PV) (L:Nat) (rs fs:List Int) (tkp syp:PV) (k:Int):zk:=[(0,code ps),(1,.int .i64 p),(2,.agg nd.cells),(3,t),(4,.ptr L 0 0 1),(6,.ptr (L+1) 0 0 1),(8,.nils),(9,.bool false),(10,tkp),(11,syp),(12,yq rs),(28,yq fs),(29,.int .i64 4),(30,.int .i64 k)]
theorem vm.idx {H:zd} {p:PV} {l:List Int} (h:vm H p l) {i:Int} (i0:0≤i) (i1:i<l.length):∃ a,wW 1 H p (.int .i64 i)=some a∧ZK false 1 a H=some (.int .i64 (za l i)):=Ty.idx (.inr h) .i64 i0 i1
theorem zwG (ps:List zc) (p:Int) (nd:Ins) (t:PV) (L:Nat) (rs fs:List Int) (tkp syp:PV) (k x w q:Int) (K:zd) (sy:List Int) (hs:vm K syp sy) (hb:sy.length≤1048576):match z8 (fun (j:Int)=>za sy j=q) 0 sy.length with|some j=>∃ st,EV A (.loop (xP 1)) (⟨wa ps p nd t L rs fs tkp syp k++[(13,.int .i64 k),(14,.int .i64 x),(15,.int .i64 w),(16,.bool true),(17,.int .i64 q),(64,syp),(65,.int .i64 sy.length),(66,.int .i64 (0))],[],K,[]⟩:St)=some (.ret,st)∧st.per.get 8=.nils∧st.per.get 9=.bool false∧st.ed=[]∧st.H=K|none=>EV A (.loop (xP 1)) (⟨wa ps p nd t L rs fs tkp syp k++[(13,.int .i64 k),(14,.int .i64 x),(15,.int .i64 w),(16,.bool true),(17,.int .i64 q),(64,syp),(65,.int .i64 sy.length),(66,.int .i64 (0))],[],K,[]⟩:St)=some (zp.exit 2,(⟨wa ps p nd t L rs fs tkp syp k++[(13,.int .i64 k),(14,.int .i64 x),(15,.int .i64 w),(16,.bool true),(17,.int .i64 q),(64,syp),(65,.int .i64 sy.length),(66,.int .i64 (sy.length))],[],K,[]⟩:St)):=by
 refine yt (fun i=>(⟨wa ps p nd t L rs fs tkp syp k++[(13,.int .i64 k),(14,.int .i64 x),(15,.int .i64 w),(16,.bool true),(17,.int .i64 q),(64,syp),(65,.int .i64 sy.length),(66,.int .i64 i)],[],K,[]⟩:St)) (fun (j:Int)=>za sy j=q) (fun (j:Int) (st:St)=>st.per.get 8=.nils∧st.per.get 9=.bool false∧st.ed=[]∧st.H=K) (zp.exit 2,(⟨wa ps p nd t L rs fs tkp syp k++[(13,.int .i64 k),(14,.int .i64 x),(15,.int .i64 w),(16,.bool true),(17,.int .i64 q),(64,syp),(65,.int .i64 sy.length),(66,.int .i64 (sy.length))],[],K,[]⟩:St)) (0) (sy.length) ?_ ?_ ?_ (0) (by omega) (by omega)
 ·intro i hi hn hp
  obtain ⟨a,ha,ha2⟩:=hs.idx hi hn
  refine ⟨_,by (simp -implicitDefEqProofs +contextual (disch:=omega) only [Uk,yb,wa, ↓XD,XU, ↓reduceIte,sevalprocAttr,ha,ha2,eq_false hp,hn])<;>rfl,by simp [St.next,zW]⟩
 ·intro i hi hn hp
  obtain ⟨a,ha,ha2⟩:=hs.idx hi hn
  refine ⟨_,by (simp -implicitDefEqProofs +contextual (disch:=omega) only [Uk,yb,wa, ↓XD,XU, ↓reduceIte,sevalprocAttr,ha,ha2,eq_true hp,hn])<;>rfl,by simp [zk.get,zk.put]⟩
 ·rintro i hi rfl
  refine ⟨by simp -implicitDefEqProofs +contextual (disch:=omega) only [Uk,yb, ↓XD,XU, ↓reduceIte,sevalprocAttr,wa,Int.lt_irrefl],by simp⟩
theorem zoP (ps:List zc) (p:Int) (nd:Ins) (t:PV) (L:Nat) (rs fs:List Int) (tkp syp:PV) (k x w q m:Int) (K:zd) (ts:List Int) (hs:vm K t ts) (hb:ts.length≤1048576) (q0:0≤q) (m0:0≤m) (m1:q+m<ts.length):match z8 (fun (j:Int)=>¬za ts (q+j)=1) 1 (m+1) with|some j=>∃ st,EV A (.loop (xP 2)) (⟨wa ps p nd t L rs fs tkp syp k++[(13,.int .i64 k),(14,.int .i64 x),(15,.int .i64 w),(16,.bool false),(17,.int .i64 q),(20,.int .i64 m),(21,.int .i64 (1))],[],K,[]⟩:St)=some (.ret,st)∧st.per.get 8=.nils∧st.per.get 9=.bool false∧st.ed=[]∧st.H=K|none=>EV A (.loop (xP 2)) (⟨wa ps p nd t L rs fs tkp syp k++[(13,.int .i64 k),(14,.int .i64 x),(15,.int .i64 w),(16,.bool false),(17,.int .i64 q),(20,.int .i64 m),(21,.int .i64 (1))],[],K,[]⟩:St)=some (zp.exit 4,(⟨wa ps p nd t L rs fs tkp syp k++[(13,.int .i64 k),(14,.int .i64 x),(15,.int .i64 w),(16,.bool false),(17,.int .i64 q),(20,.int .i64 m),(21,.int .i64 ((m+1)))],[],K,[]⟩:St)):=by
 refine yt (fun i=>(⟨wa ps p nd t L rs fs tkp syp k++[(13,.int .i64 k),(14,.int .i64 x),(15,.int .i64 w),(16,.bool false),(17,.int .i64 q),(20,.int .i64 m),(21,.int .i64 i)],[],K,[]⟩:St)) (fun (j:Int)=>¬za ts (q+j)=1) (fun (j:Int) (st:St)=>st.per.get 8=.nils∧st.per.get 9=.bool false∧st.ed=[]∧st.H=K) (zp.exit 4,(⟨wa ps p nd t L rs fs tkp syp k++[(13,.int .i64 k),(14,.int .i64 x),(15,.int .i64 w),(16,.bool false),(17,.int .i64 q),(20,.int .i64 m),(21,.int .i64 ((m+1)))],[],K,[]⟩:St)) (1) ((m+1)) ?_ ?_ ?_ (1) (by omega) (by omega)
 ·intro i hi hn hp
  obtain ⟨a,ha,ha2⟩:=hs.idx (i:=q+i) (by omega) (by omega)
  have hp':za ts (q+i)=1:=Classical.not_not.1 hp
  have hle:i≤m:=by omega
  refine ⟨_,by (simp -implicitDefEqProofs +contextual (disch:=omega) only [kK,yb,wa, ↓XD,XU, ↓reduceIte,sevalprocAttr,ha,ha2,eq_true hp',hle])<;>rfl,by simp [St.next,zW]⟩
 ·intro i hi hn hp
  obtain ⟨a,ha,ha2⟩:=hs.idx (i:=q+i) (by omega) (by omega)
  have hle:i≤m:=by omega
  refine ⟨_,by (simp -implicitDefEqProofs +contextual (disch:=omega) only [kK,yb,wa, ↓XD,XU, ↓reduceIte,sevalprocAttr,ha,ha2,eq_false hp,hle])<;>rfl,by simp [zk.get,zk.put]⟩
 ·rintro i hi rfl
  refine ⟨by simp -implicitDefEqProofs +contextual (disch:=omega) only [kK,yb, ↓XD,XU, ↓reduceIte,sevalprocAttr,wa,(show ¬(m+1≤m) by omega),Int.lt_irrefl],by simp⟩
section
theorem zmq {P:xp} {b:AC} {st:St} {id:Nat} (h:EV P b st=some (.exit id,st)):EV P (.loop b) st=some (.exit id,st):=by
 rw [Wa,h]
theorem zmr (ps:List zc) (p:Int) (nd:Ins) (t:PV) (L:Nat) (rs fs:List Int) (tkp syp:PV) (k x w q:Int) (K:zd) (b:Bool):EV A (.loop (xP 2)) ⟨wa ps p nd t L rs fs tkp syp k++[(13,.int .i64 k),(14,.int .i64 x),(15,.int .i64 w),(16,.bool b),(17,.int .i64 q),(20,.int .i64 0),(21,.int .i64 1)],[],K,[]⟩=some (.exit 4,⟨wa ps p nd t L rs fs tkp syp k++[(13,.int .i64 k),(14,.int .i64 x),(15,.int .i64 w),(16,.bool b),(17,.int .i64 q),(20,.int .i64 0),(21,.int .i64 1)],[],K,[]⟩):=by
 refine zmq ?_
 simp -implicitDefEqProofs +contextual (disch:=omega) only [kK,yb,wa, ↓XD,XU, ↓reduceIte,sevalprocAttr]
theorem zx9 (ps:List zc) (p:Int) (nd:Ins) (t:PV) (L:Nat) (rs fs:List Int) (tkp syp:PV) (k x w q:Int) (K:zd) (sp:PV) (n:Int):EV A (.loop (xP 2)) ⟨wa ps p nd t L rs fs tkp syp k++[(13,.int .i64 k),(14,.int .i64 x),(15,.int .i64 w),(16,.bool true),(17,.int .i64 q),(64,sp),(65,.int .i64 n),(66,.int .i64 n),(20,.int .i64 0),(21,.int .i64 1)],[],K,[]⟩=some (.exit 4,⟨wa ps p nd t L rs fs tkp syp k++[(13,.int .i64 k),(14,.int .i64 x),(15,.int .i64 w),(16,.bool true),(17,.int .i64 q),(64,sp),(65,.int .i64 n),(66,.int .i64 n),(20,.int .i64 0),(21,.int .i64 1)],[],K,[]⟩):=by
 refine zmq ?_
 simp -implicitDefEqProofs +contextual (disch:=omega) only [kK,yb,wa, ↓XD,XU, ↓reduceIte,sevalprocAttr]
noncomputable def rdN (rs fs:List Int):Nat→Int→Rd→Option Rd
 |0,_,a=>some a
 |m+1,k,a=>(wh (za rs k) (za fs k) a).bind (rdN rs fs m (k+1))
structure zlC (r x:Int) (n:Nat):Prop where
 op:wt r→x<n∧ -1-x<n
 pl:(r=4∨r=5∨r=6)→0≤x∧x<n
 t3:r=18→0≤x∧x+2<n
 t2:(r=19∨r=20)→0≤x∧x+1<n
def zo8 (ps:List zc) (p:Int) (nd:Ins) (t:PV) (H:zd) (rs fs:List Int) (b0 b1:yf) (res:Option Rd) (r:zp×St):Prop:=match res with
 |none=>∃ st,r=(.ret,st)∧st.per.get 8=.nils∧st.per.get 9=.bool false∧st.ed=[]∧(∀ j,j<H.length→j∉refs t→st.H[j]?=H[j]?)∧H.length≤st.H.length
 |some a=>∃ tkp syp K,r=(.exit 0,(⟨wa ps p nd t H.length rs fs tkp syp 4,[],K,[]⟩:St))∧KJ b0 b1 H t K tkp syp a
structure zlD (b0 b1:yf) (H:zd) (t:PV) (n:Nat) (k:Int) (K:zd) (tkp syp:PV) (a:Rd):Prop where
 k0:0≤k
 k1:k≤4
 h:KJ b0 b1 H t K tkp syp a
 n:a.ts.length=n
 tk:(a.tk.length:Int)≤k
 sy:(a.sy.length:Int)≤k
theorem zyn {r x:Int} {a:Rd} (h:yT r=0):wh r x a=some a:=by simp [wh,h]
theorem zfC {r x:Int} {a:Rd} (h:wt r):wh r x a=if x<0 then (if za a.ts (-1-x)=yT r then (if -1-x∈a.sy then none else some ⟨a.ts.set (-1-x).toNat 0,a.tk++[-1-x],a.sy⟩) else none) else if za a.ts x=yT r then some a else none:=by
 rcases h with rfl|rfl
 ·rw [YC];simp [yT]
 ·rw [zdG];simp [yT]
theorem zsf {r x:Int} {a:Rd} (h:r=4∨r=5∨r=6):wh r x a=if za a.ts x=yT r then some ⟨a.ts,a.tk,a.sy++[x]⟩ else none:=by
 rcases h with rfl|rfl|rfl
 ·rw [zqj];simp [yT]
 ·rw [zqk];simp [yT]
 ·rw [zir];simp [yT]
section
variable {ps:List zc} {p:Int} {nd:Ins} {t:PV} {H:zd} {rs fs:List Int} {b0 b1:yf} {n:Nat}
theorem zwQ (hfs:fs.length=4) (hrs:rs.length=4) (hn:n≤1048576) (hfit:∀ k:Int,0≤k→k<4→zlC (za rs k) (za fs k) n) (hx:∀ k:Int, -9223372036854775808≤za fs k∧za fs k<9223372036854775808) (k:Int) (K:zd) (tkp syp:PV) (a:Rd) (h:zlD b0 b1 H t n k K tkp syp a):
  (∃ r,EV A (xP 0) ⟨wa ps p nd t H.length rs fs tkp syp k,[],K,[]⟩=some r∧r.1≠.normal∧zo8 ps p nd t H rs fs b0 b1 (rdN rs fs (4-k).toNat k a) r)∨
  ∃ (K':zd) (tkp' syp':PV) (a':Rd) (st':St),zlD b0 b1 H t n (k+1) K' tkp' syp' a'∧k<4∧EV A (xP 0) ⟨wa ps p nd t H.length rs fs tkp syp k,[],K,[]⟩=some (.normal,st')∧(⟨wa ps p nd t H.length rs fs tkp syp k,[],K,[]⟩:St).next st'=⟨wa ps p nd t H.length rs fs tkp' syp' (k+1),[],K',[]⟩∧rdN rs fs (4-k).toNat k a=rdN rs fs (4-(k+1)).toNat (k+1) a':=by
 obtain ⟨k0,k1,hh,hN,htk,hsy⟩:=h
 by_cases ck:k<4
 ·obtain ⟨m,hm⟩:∃ m,(4-k).toNat=m+1:=⟨(4-(k+1)).toNat,by omega⟩
  have hm2:(4-(k+1)).toNat=m:=by omega
  rw [hm,hm2,rdN]
  obtain ⟨r,hr⟩:∃ r,za rs k=r:=⟨_,rfl⟩
  obtain ⟨x,hxx⟩:∃ x,za fs k=x:=⟨_,rfl⟩
  have hf:=hfit k k0 ck
  have hb:=hx k
  rw [hr,hxx] at hf
  rw [hxx] at hb
  rw [hr,hxx]
  have hwt:=zve r
  have nx:∀ {K':zd} {tkp' syp':PV} {a':Rd},KJ b0 b1 H t K' tkp' syp' a'→K.length≤K'.length→KJ b0 b1 H t (trim K.length ((wa ps p nd t H.length rs fs tkp' syp' (k+1)).map (fun e=>e.2)) K' []).1 tkp' syp' a':=fun h2 h3=>h2.trim hh.len h3 (by simp) (by simp)
  by_cases hw:yT r=0
  ·have ho:¬wt r:=fun e=>by rcases e with rfl|rfl<;>simp [yT] at hw
   rw [hw] at hwt
   right
   refine ⟨_,tkp,syp,a,_,⟨by omega,by omega,nx hh (Nat.le_refl _),hN,by omega,by omega⟩,ck,by (simp -implicitDefEqProofs +contextual (disch:=omega) only [xh,yb,wa, ↓XD,XU, ↓reduceIte,sevalprocAttr,ck,k0,hfs,hrs,hr,hxx,hwt,ho])<;>rfl,by simp [St.next,vV],by rw [zyn hw];rfl⟩
  ·obtain ⟨w,hwr⟩:∃ w,yT r=w:=⟨_,rfl⟩
   rw [hwr] at hw hwt
   have hsl:∀ i:Int,0≤i→i<n→∃ tid,t=.sl tid 0 a.ts.length a.ts.length∧K[tid]?=some (.cells 1 (yn a.ts)):=fun i i0 i1=>by
    rcases hh.ty with ⟨_,e⟩|h
    ·rw [e] at hN;simp at hN;omega
    ·exact h
   by_cases ho:wt r
   ·have e18:¬r=18:=fun e=>by subst e;rcases ho with h|h<;>cases h
    have e19:¬r=19:=fun e=>by subst e;rcases ho with h|h<;>cases h
    have e20:¬r=20:=fun e=>by subst e;rcases ho with h|h<;>cases h
    obtain ⟨o1,o2⟩:=hf.op ho
    by_cases cx:x<0
    ·obtain ⟨q,hq⟩:∃ q, -1-x=q:=⟨_,rfl⟩
     have q0:0≤q:=by omega
     have q1:q<n:=by omega
     obtain ⟨tid,rfl,hid⟩:=hsl q q0 q1
     have q2:q<a.ts.length:=by omega
     by_cases cw:za a.ts q=w
     ·have hst:=zwG ps p nd (.sl tid 0 a.ts.length a.ts.length) H.length rs fs tkp syp k x w q K a.sy hh.sy (by omega)
      have hly:=hh.sy.len
      simp only [wa,List.cons_append,List.nil_append] at hst
      cases hs:z8 (fun j=>za a.sy j=q) 0 a.sy.length with
      |some j=>
       rw [hs] at hst
       obtain ⟨st,hst,g8,g9,ge,gH⟩:=hst
       obtain ⟨j0,j1,j2,_⟩:=xH.1 hs
       have hmem:q∈a.sy:=j2▸jc j0 j1
       left
       refine ⟨_,by (simp -implicitDefEqProofs +contextual (disch:=omega) only [xh,yb,wa, ↓zy, ↓zE,yg,zz, ↓XD,XU, ↓reduceIte,sevalprocAttr,ck,k0,hfs,hrs,hr,hxx,hwt,eq_false hw,ho,eq_true cx,hq,hid,q0,q1,q2,eq_true cw,hly,hst])<;>rfl,by simp,?_⟩
       rw [zfC ho,hwr,hq,if_pos cx,if_pos cw,if_pos hmem]
       exact ⟨st,rfl,g8,g9,ge,by rw [gH];exact hh.old,by rw [gH];have:=hh.len;omega⟩
      |none=>
       rw [hs] at hst
       have hmem:¬q∈a.sy:=fun hm=>by
        obtain ⟨j,j0,j1,e⟩:=Y' hm
        exact y7.1 hs j j0 j1 e
       obtain ⟨p',K',e1,e2,e3⟩:=hh.take q (by omega)
       have hr1:=jb (K.set tid (.cells 1 (yn (a.ts.set q.toNat 0)))) 1 [.int .i64 q]
       have hno:=zx9 ps p nd (.sl tid 0 a.ts.length a.ts.length) H.length rs fs p' syp k x w q K' syp a.sy.length
       simp only [wa,List.cons_append,List.nil_append,List.length_set] at hno hr1
       have hls:(a.ts.set q.toNat 0).length=a.ts.length:=List.length_set
       have hNs:(⟨a.ts.set q.toNat 0,a.tk++[q],a.sy⟩:Rd).ts.length=n:=by simp only [List.length_set];exact hN
       right
       refine ⟨_,p',syp,⟨a.ts.set q.toNat 0,a.tk++[q],a.sy⟩,_,⟨by omega,by omega,nx e2 e3,hNs,by (try simp only [List.length_append,List.length_singleton]);omega,by (try simp only);omega⟩,ck,by (simp -implicitDefEqProofs +contextual (disch:=omega) only [xh,yb,wa, ↓zy, ↓zE,yg,zz, ↓XD,XU, ↓reduceIte,sevalprocAttr,ck,k0,hfs,hrs,hr,hxx,hwt,eq_false hw,ho,eq_true cx,hq,hid,q0,q1,q2,eq_true cw,hly,hst,hr1.1,hr1.2,e1,hno,e18,e19,e20])<;>rfl,by simp [St.next,vV],by rw [zfC ho,hwr,hq,if_pos cx,if_pos cw,if_neg hmem];rfl⟩
     ·left
      refine ⟨_,by (simp -implicitDefEqProofs +contextual (disch:=omega) only [xh,yb,wa, ↓zy, ↓zE,yg,zz, ↓XD,XU, ↓reduceIte,sevalprocAttr,ck,k0,hfs,hrs,hr,hxx,hwt,eq_false hw,ho,eq_true cx,hq,hid,q0,q1,q2,eq_false cw])<;>rfl,by simp,?_⟩
      rw [zfC ho,hwr,hq,if_pos cx,if_neg cw]
      exact ⟨_,rfl,by simp [zk.get,zk.put],by simp [zk.get,zk.put],rfl,hh.old,by have:=hh.len;simp only;omega⟩
    ·have x0:0≤x:=by omega
     obtain ⟨tid,rfl,hid⟩:=hsl x x0 o1
     have x1:x<a.ts.length:=by omega
     by_cases cw:za a.ts x=w
     ·have hno:=zmr ps p nd (.sl tid 0 a.ts.length a.ts.length) H.length rs fs tkp syp k x w x K true
      simp only [wa,List.cons_append,List.nil_append] at hno
      right
      refine ⟨_,tkp,syp,a,_,⟨by omega,by omega,nx hh (Nat.le_refl _),hN,by omega,by omega⟩,ck,by (simp -implicitDefEqProofs +contextual (disch:=omega) only [xh,yb,wa, ↓zy, ↓zE,yg,zz, ↓XD,XU, ↓reduceIte,sevalprocAttr,ck,k0,hfs,hrs,hr,hxx,hwt,eq_false hw,ho,eq_false cx,hid,x0,x1,eq_true cw,hno,e18,e19,e20])<;>rfl,by simp [St.next,vV],by rw [zfC ho,hwr,if_neg cx,if_pos cw];rfl⟩
     ·left
      refine ⟨_,by (simp -implicitDefEqProofs +contextual (disch:=omega) only [xh,yb,wa, ↓zy, ↓zE,yg,zz, ↓XD,XU, ↓reduceIte,sevalprocAttr,ck,k0,hfs,hrs,hr,hxx,hwt,eq_false hw,ho,eq_false cx,hid,x0,x1,eq_false cw])<;>rfl,by simp,?_⟩
      rw [zfC ho,hwr,if_neg cx,if_neg cw]
      exact ⟨_,rfl,by simp [zk.get,zk.put],by simp [zk.get,zk.put],rfl,hh.old,by have:=hh.len;simp only;omega⟩
   ·by_cases h3:r=4∨r=5∨r=6
    ·have e18:¬r=18:=fun e=>by subst e;simp at h3
     have e19:¬r=19:=fun e=>by subst e;simp at h3
     have e20:¬r=20:=fun e=>by subst e;simp at h3
     obtain ⟨x0,x1'⟩:=hf.pl h3
     obtain ⟨tid,rfl,hid⟩:=hsl x x0 x1'
     have x1:x<a.ts.length:=by omega
     by_cases cw:za a.ts x=w
     ·obtain ⟨p',K',e1,e2,e3⟩:=hh.stay x (by omega)
      have hr1:=jb K 1 [.int .i64 x]
      have hno:=zmr ps p nd (.sl tid 0 a.ts.length a.ts.length) H.length rs fs tkp p' k x w x K' false
      simp only [wa,List.cons_append,List.nil_append] at hno
      right
      refine ⟨_,tkp,p',⟨a.ts,a.tk,a.sy++[x]⟩,_,⟨by omega,by omega,nx e2 e3,hN,by (try simp only);omega,by (try simp only [List.length_append,List.length_singleton]);omega⟩,ck,by (simp -implicitDefEqProofs +contextual (disch:=omega) only [xh,yb,wa, ↓zy, ↓zE,yg,zz, ↓XD,XU, ↓reduceIte,sevalprocAttr,ck,k0,hfs,hrs,hr,hxx,hwt,eq_false hw,ho,hid,x0,x1,eq_true cw,hr1.1,hr1.2,e1,hno,e18,e19,e20])<;>rfl,by simp [St.next,vV],by rw [zsf h3,hwr,if_pos cw];rfl⟩
     ·left
      refine ⟨_,by (simp -implicitDefEqProofs +contextual (disch:=omega) only [xh,yb,wa, ↓zy, ↓zE,yg,zz, ↓XD,XU, ↓reduceIte,sevalprocAttr,ck,k0,hfs,hrs,hr,hxx,hwt,eq_false hw,ho,hid,x0,x1,eq_false cw])<;>rfl,by simp,?_⟩
      rw [zsf h3,hwr,if_neg cw]
      exact ⟨_,rfl,by simp [zk.get,zk.put],by simp [zk.get,zk.put],rfl,hh.old,by have:=hh.len;simp only;omega⟩
    ·have h4:r=18∨r=19∨r=20:=by
      by_cases q1:r=18
      ·exact .inl q1
      by_cases q2:r=19
      ·exact .inr (.inl q2)
      by_cases q3:r=20
      ·exact .inr (.inr q3)
      exfalso
      apply hw
      rw [←hwr]
      have n2:¬r=2:=fun e=>ho (.inl e)
      have n3:¬r=3:=fun e=>ho (.inr e)
      have n4:¬r=4:=fun e=>h3 (.inl e)
      have n5:¬r=5:=fun e=>h3 (.inr (.inl e))
      have n6:¬r=6:=fun e=>h3 (.inr (.inr e))
      simp [yT,n2,n3,n4,n5,n6,q1,q2,q3]
     have hw1:w=1:=by rw [←hwr];rcases h4 with rfl|rfl|rfl<;>simp [yT]
     subst hw1
     have hwz:¬((1:Int)=0):=by decide
     have hx':0≤x∧x+1<n:=by
      rcases h4 with h|h|h
      ·have:=hf.t3 h;omega
      ·exact hf.t2 (.inl h)
      ·exact hf.t2 (.inr h)
     obtain ⟨x0,x1'⟩:=hx'
     obtain ⟨tid,rfl,hid⟩:=hsl x x0 (by omega)
     have x1:x<a.ts.length:=by omega
     have x2:x+1<a.ts.length:=by omega
     have x3:0≤x+1:=by omega
     by_cases cw:za a.ts x=1
     ·obtain ⟨p',K',e1,e2,e3⟩:=hh.stay x (by omega)
      have hr1:=jb K 1 [.int .i64 x]
      have hid':K'[tid]?=some (.cells 1 (yn a.ts)):=by
       rcases e2.ty with ⟨e,_⟩|⟨id,e,h⟩
       ·cases e
       ·injection e with e _;subst e;exact h
      rcases h4 with rfl|rfl|rfl
      ·obtain ⟨y0,y1⟩:=hf.t3 rfl
       have hmo:=zoP ps p nd (.sl tid 0 a.ts.length a.ts.length) H.length rs fs tkp p' k x 1 x 2 K' a.ts e2.ty (by omega) x0 (by omega) (by omega)
       simp only [wa,List.cons_append,List.nil_append] at hmo
       cases hs:z8 (fun j=>¬za a.ts (x+j)=1) 1 (2+1) with
       |some j=>
        rw [hs] at hmo
        obtain ⟨st,hmo,g8,g9,ge,gH⟩:=hmo
        obtain ⟨j0,j1,j2,_⟩:=xH.1 hs
        have hnn:¬(za a.ts (x+1)=1∧za a.ts (x+2)=1):=fun e=>by
         have:j=1∨j=2:=by omega
         rcases this with rfl|rfl
         ·exact j2 e.1
         ·exact j2 e.2
        have hrd:wh 18 x a=none:=by
         rw [zfB,if_pos cw]
         by_cases q1:za a.ts (x+1)=1
         ·rw [if_pos q1,if_neg fun q2=>hnn ⟨q1,q2⟩]
         ·rw [if_neg q1]
        left
        refine ⟨_,by (simp -implicitDefEqProofs +contextual (disch:=omega) only [xh,yb,wa, ↓zy, ↓zE,yg,zz, ↓XD,XU, ↓reduceIte,sevalprocAttr,ck,k0,hfs,hrs,hr,hxx,hwt,hwz,ho,hid,x0,x1,eq_true cw,hr1.1,hr1.2,e1,hmo])<;>rfl,by simp,?_⟩
        rw [hrd]
        exact ⟨st,rfl,g8,g9,ge,by rw [gH];exact e2.old,by rw [gH];have:=e2.len;omega⟩
       |none=>
        rw [hs] at hmo
        have q1:=Classical.not_not.1 (y7.1 hs 1 (by omega) (by omega))
        have q2:=Classical.not_not.1 (y7.1 hs 2 (by omega) (by omega))
        right
        refine ⟨_,tkp,p',⟨a.ts,a.tk,a.sy++[x]⟩,_,⟨by omega,by omega,nx e2 e3,hN,by (try simp only [List.length_append,List.length_singleton]);omega,by (try simp only [List.length_append,List.length_singleton]);omega⟩,ck,by (simp -implicitDefEqProofs +contextual (disch:=omega) only [xh,yb,wa, ↓zy, ↓zE,yg,zz, ↓XD,XU, ↓reduceIte,sevalprocAttr,ck,k0,hfs,hrs,hr,hxx,hwt,hwz,ho,hid,x0,x1,eq_true cw,hr1.1,hr1.2,e1,hmo])<;>rfl,by simp [St.next,vV],by rw [zfB,if_pos cw,if_pos q1,if_pos q2];rfl⟩
      ·have hno:=zmr ps p nd (.sl tid 0 a.ts.length a.ts.length) H.length rs fs tkp p' k x 1 x K' false
       simp only [wa,List.cons_append,List.nil_append] at hno
       by_cases c1:za a.ts (x+1)=0
       ·obtain ⟨p2,K2,f1,f2,f3⟩:=e2.more x (by (try simp only);omega)
        have hr2:=jb K' 1 [.int .i64 x]
        right
        refine ⟨_,p2,p',⟨a.ts,a.tk++[x],a.sy++[x]⟩,_,⟨by omega,by omega,nx f2 (Nat.le_trans e3 f3),hN,by (try simp only [List.length_append,List.length_singleton]);omega,by (try simp only [List.length_append,List.length_singleton]);omega⟩,ck,by (simp -implicitDefEqProofs +contextual (disch:=omega) only [xh,yb,wa, ↓zy, ↓zE,yg,zz, ↓XD,XU, ↓reduceIte,sevalprocAttr,ck,k0,hfs,hrs,hr,hxx,hwt,hwz,ho,hid,hid',x0,x1,x2,x3,eq_true cw,eq_true c1,hr1.1,hr1.2,hr2.1,hr2.2,e1,f1,hno])<;>rfl,by simp [St.next,vV],by rw [zip,if_pos cw,if_pos c1];rfl⟩
       ·left
        refine ⟨_,by (simp -implicitDefEqProofs +contextual (disch:=omega) only [xh,yb,wa, ↓zy, ↓zE,yg,zz, ↓XD,XU, ↓reduceIte,sevalprocAttr,ck,k0,hfs,hrs,hr,hxx,hwt,hwz,ho,hid,hid',x0,x1,x2,x3,eq_true cw,eq_false c1,hr1.1,hr1.2,e1,hno])<;>rfl,by simp,?_⟩
        rw [zip,if_pos cw,if_neg c1]
        exact ⟨_,rfl,by simp [zk.get,zk.put],by simp [zk.get,zk.put],rfl,e2.old,by have:=e2.len;simp only;omega⟩
      ·have hmo:=zoP ps p nd (.sl tid 0 a.ts.length a.ts.length) H.length rs fs tkp p' k x 1 x 1 K' a.ts e2.ty (by omega) x0 (by omega) (by omega)
       simp only [wa,List.cons_append,List.nil_append] at hmo
       cases hs:z8 (fun j=>¬za a.ts (x+j)=1) 1 (1+1) with
       |some j=>
        rw [hs] at hmo
        obtain ⟨st,hmo,g8,g9,ge,gH⟩:=hmo
        obtain ⟨j0,j1,j2,_⟩:=xH.1 hs
        have:j=1:=by omega
        subst this
        left
        refine ⟨_,by (simp -implicitDefEqProofs +contextual (disch:=omega) only [xh,yb,wa, ↓zy, ↓zE,yg,zz, ↓XD,XU, ↓reduceIte,sevalprocAttr,ck,k0,hfs,hrs,hr,hxx,hwt,hwz,ho,hid,x0,x1,eq_true cw,hr1.1,hr1.2,e1,hmo])<;>rfl,by simp,?_⟩
        rw [ziq,if_pos cw,if_neg j2]
        exact ⟨st,rfl,g8,g9,ge,by rw [gH];exact e2.old,by rw [gH];have:=e2.len;omega⟩
       |none=>
        rw [hs] at hmo
        have q1:=Classical.not_not.1 (y7.1 hs 1 (by omega) (by omega))
        right
        refine ⟨_,tkp,p',⟨a.ts,a.tk,a.sy++[x]⟩,_,⟨by omega,by omega,nx e2 e3,hN,by (try simp only [List.length_append,List.length_singleton]);omega,by (try simp only [List.length_append,List.length_singleton]);omega⟩,ck,by (simp -implicitDefEqProofs +contextual (disch:=omega) only [xh,yb,wa, ↓zy, ↓zE,yg,zz, ↓XD,XU, ↓reduceIte,sevalprocAttr,ck,k0,hfs,hrs,hr,hxx,hwt,hwz,ho,hid,x0,x1,eq_true cw,hr1.1,hr1.2,e1,hmo])<;>rfl,by simp [St.next,vV],by rw [ziq,if_pos cw,if_pos q1];rfl⟩
     ·have hrd:wh r x a=none:=by
       rcases h4 with rfl|rfl|rfl
       ·rw [zfB,if_neg cw]
       ·rw [zip,if_neg cw]
       ·rw [ziq,if_neg cw]
      left
      refine ⟨_,by (simp -implicitDefEqProofs +contextual (disch:=omega) only [xh,yb,wa, ↓zy, ↓zE,yg,zz, ↓XD,XU, ↓reduceIte,sevalprocAttr,ck,k0,hfs,hrs,hr,hxx,hwt,hwz,ho,hid,x0,x1,eq_false cw])<;>rfl,by simp,?_⟩
      rw [hrd]
      exact ⟨_,rfl,by simp [zk.get,zk.put],by simp [zk.get,zk.put],rfl,hh.old,by have:=hh.len;simp only;omega⟩
 ·have:k=4:=by omega
  subst this
  left
  refine ⟨_,by (simp -implicitDefEqProofs +contextual (disch:=omega) only [xh,yb,wa, ↓XD,XU, ↓reduceIte,sevalprocAttr])<;>rfl,by simp,?_⟩
  exact ⟨tkp,syp,K,rfl,hh⟩
end
end
section
section
variable {ps:List zc} {p:Int} {nd:Ins} {t:PV} {H:zd} {rs fs:List Int} {b0 b1:yf} {n:Nat}
theorem zwP (hfs:fs.length=4) (hrs:rs.length=4) (hn:n≤1048576) (hfit:∀ k:Int,0≤k→k<4→zlC (za rs k) (za fs k) n) (hx:∀ k:Int, -9223372036854775808≤za fs k∧za fs k<9223372036854775808) {K:zd} {tkp syp:PV} {a:Rd} (h:zlD b0 b1 H t n 0 K tkp syp a):
  ∃ r,EV A (.loop (xP 0)) ⟨wa ps p nd t H.length rs fs tkp syp 0,[],K,[]⟩=some r∧zo8 ps p nd t H rs fs b0 b1 (rdN rs fs 4 0 a) r:=by
 refine ZG (P:=A) (body:=(xP 0)) (fun (s:Int×zd×PV×PV×Rd)=>(⟨wa ps p nd t H.length rs fs s.2.2.1 s.2.2.2.1 s.1,[],s.2.1,[]⟩:St)) (fun s=>zlD b0 b1 H t n s.1 s.2.1 s.2.2.1 s.2.2.2.1 s.2.2.2.2) (fun s=>(4-s.1).toNat) (fun s r=>zo8 ps p nd t H rs fs b0 b1 (rdN rs fs (4-s.1).toNat s.1 s.2.2.2.2) r) ?_ (0,K,tkp,syp,a) h
 rintro ⟨k,K,tkp,syp,a⟩ hok
 rcases zwQ hfs hrs hn hfit hx k K tkp syp a hok with ⟨r,h1,h2,h3⟩|⟨K',tkp',syp',a',st',h1,h2,h3,h4,h5⟩
 ·exact .inl ⟨r,h1,h2,h3⟩
 ·refine .inr ⟨(k+1,K',tkp',syp',a'),st',h1,by simp only;omega,h3,h4,fun r hr=>?_⟩
  simp only at hr ⊢
  rw [h5];exact hr
end
theorem zwO {rs:List Int} {nd:Ins} {ts:List Int}:U7 rs nd ts=rdN rs [nd.A,nd.B,nd.C,nd.D] 4 0 ⟨ts,[],[]⟩:=by
 rw [yo]
 obtain ⟨f0,f1,f2,f3⟩:=zu nd.A nd.B nd.C nd.D
 simp only [rdN,f0,f1,f2,f3,show (0:Int)+1=1 from rfl,show (1:Int)+1=2 from rfl,show (2:Int)+1=3 from rfl]
 congr 1;funext a;congr 1;funext b;congr 1;funext c
 cases wh (za rs 3) nd.D c<;>rfl
abbrev W1 (ps:List zc) (p:Int) (nd:Ins) (t:PV) (L:Nat) (rs fs:List Int) (tkp syp:PV):zk:=[(0,code ps),(1,.int .i64 p),(2,.agg nd.cells),(3,t),(4,.ptr L 0 0 1),(6,.ptr (L+1) 0 0 1),(8,.nils),(9,.bool false),(10,tkp),(11,syp),(12,yq rs),(28,yq fs),(29,.int .i64 4),(30,.int .i64 4)]
theorem zx' (ps:List zc) (p:Int) (nd:Ins) (t:PV) (L:Nat) (rs fs:List Int) (tkp syp:PV) (K:zd) (ts:List Int) (us:List Up) (hs:vm K t ts) (hb:us.length≤1048576) (hu:∀ u∈us,u.Local=true→0≤u.Index∧u.Index<ts.length) (hlt:bare K.length (zt ((W1 ps p nd t L rs fs tkp syp).map fun e=>e.2))=true):match z8 (fun (j:Int)=>(za us j).Local=true∧¬za ts (za us j).Index=2) 0 us.length with|some j=>∃ st,EV A (.loop (xP 3)) (⟨W1 ps p nd t L rs fs tkp syp++[(134,ups us),(135,.int .i64 us.length),(136,.int .i64 (0))],[],K,[]⟩:St)=some (.ret,st)∧st.per.get 8=.nils∧st.per.get 9=.bool false∧st.ed=[]∧∃ X,st.H=K++X|none=>EV A (.loop (xP 3)) (⟨W1 ps p nd t L rs fs tkp syp++[(134,ups us),(135,.int .i64 us.length),(136,.int .i64 (0))],[],K,[]⟩:St)=some (zp.exit 6,(⟨W1 ps p nd t L rs fs tkp syp++[(134,ups us),(135,.int .i64 us.length),(136,.int .i64 (us.length))],[],K,[]⟩:St)):=by
 refine yt (fun i=>(⟨W1 ps p nd t L rs fs tkp syp++[(134,ups us),(135,.int .i64 us.length),(136,.int .i64 i)],[],K,[]⟩:St)) (fun (j:Int)=>(za us j).Local=true∧¬za ts (za us j).Index=2) (fun (j:Int) (st:St)=>st.per.get 8=.nils∧st.per.get 9=.bool false∧st.ed=[]∧∃ X,st.H=K++X) (zp.exit 6,(⟨W1 ps p nd t L rs fs tkp syp++[(134,ups us),(135,.int .i64 us.length),(136,.int .i64 (us.length))],[],K,[]⟩:St)) (0) (us.length) ?_ ?_ ?_ (0) (by omega) (by omega)
 ·intro i hi hn hp
  have hu1:=hu _ (jc hi hn);have htr:∀ (X:zd) (v:Int),trim K.length (((W1 ps p nd t L rs fs tkp syp).map fun e=>e.2)++[ups us,.int .i64 us.length,.int .i64 v]) (K++X) []=(K,[]):=fun X v=>Xd (by rw [←hlt];simp [bare,zt,refs,List.all_append]) rfl;have hty:=Ty.app (.inr hs:Ty K t ts) [.cells 2 [[.bool (za us i).Local,.int .i64 (za us i).Index]]]
  simp only [W1,ups,Up.cells,List.map_cons,List.map_nil,List.cons_append,List.nil_append] at htr
  cases hL:(za us i).Local with
  |false=>
   refine ⟨_,by (simp -implicitDefEqProofs +contextual (disch:=omega) only [YL,yb,W1,ups,Up.cells, ↓XD,XU, ↓reduceIte,sevalprocAttr,hn,hL])<;>rfl,by simp [St.next,htr]⟩
  |true=>
   obtain ⟨u0,u1⟩:=hu1 hL
   rw [hL] at hty
   have hp':za ts (za us i).Index=2:=Classical.byContradiction fun h=>hp ⟨hL,h⟩
   obtain ⟨a,ha,ha2⟩:=hty.idx .i64 u0 u1
   refine ⟨_,by (simp -implicitDefEqProofs +contextual (disch:=omega) only [YL,yb,W1,ups,Up.cells, ↓XD,XU, ↓reduceIte,sevalprocAttr,hn,hL,ha,ha2,eq_true hp'])<;>rfl,by simp [St.next,htr]⟩
 ·intro i hi hn hp
  have hu1:=hu _ (jc hi hn);have htr:∀ (X:zd) (v:Int),trim K.length (((W1 ps p nd t L rs fs tkp syp).map fun e=>e.2)++[ups us,.int .i64 us.length,.int .i64 v]) (K++X) []=(K,[]):=fun X v=>Xd (by rw [←hlt];simp [bare,zt,refs,List.all_append]) rfl;have hty:=Ty.app (.inr hs:Ty K t ts) [.cells 2 [[.bool (za us i).Local,.int .i64 (za us i).Index]]]
  obtain ⟨hL,hp'⟩:=hp
  obtain ⟨u0,u1⟩:=hu1 hL
  rw [hL] at hty
  obtain ⟨a,ha,ha2⟩:=hty.idx .i64 u0 u1
  refine ⟨_,by (simp -implicitDefEqProofs +contextual (disch:=omega) only [YL,yb,W1,ups,Up.cells, ↓XD,XU, ↓reduceIte,sevalprocAttr,hn,hL,ha,ha2,eq_false hp'])<;>rfl,by simp [zk.get,zk.put],by simp [zk.get,zk.put],rfl,_,rfl⟩
 ·rintro i hi rfl
  refine ⟨by simp -implicitDefEqProofs +contextual (disch:=omega) only [YL,yb, ↓XD,XU, ↓reduceIte,sevalprocAttr,W1,ups,Up.cells,Int.lt_irrefl],by simp⟩
end
def zxp (ps:List zc) (p:Int) (nd:Ins) (H:zd) (t:PV) (res:Option (List Int×List Int)):Prop:=match res with
 |none=>∃ H',ES A KC [code ps,.int .i64 p,.agg nd.cells,t] H=some (.tup [.nils,.bool false],H',[])∧(∀ j,j<H.length→j∉refs t→H'[j]?=H[j]?)∧H.length≤H'.length
 |some (ts',tk)=>∃ tkp H',ES A KC [code ps,.int .i64 p,.agg nd.cells,t] H=some (.tup [tkp,.bool true],H',[])∧vm H' t ts'∧vm H' tkp tk∧(∀ j,j<H.length→j∉refs t→H'[j]?=H[j]?)∧H.length≤H'.length∧∀ r∈refs tkp,H.length≤r
theorem zbr (k:Nat) (roots:List PV) (H:zd) (ed:zV) (h:k≤H.length):k≤(trim k roots H ed).1.length:=by
 rw [trim]
 cases bare k (zt roots)&&ed.all fun e=>decide (k≤e.1)||decide (e.2<k) with
 |false=>exact h
 |true=>simp;omega
theorem zrB {ps:List zc} {p:Int} {nd:Ins} {H:zd} {t:PV} {ts rs:List Int} (hty:vm H t ts) (hr:zh nd.Op=some rs) (hrl:rs.length=4) (hps:ps.length≤1048576) (hn:ts.length≤1048576)
  (hfit:∀ k:Int,0≤k→k<4→zlC (za rs k) (za [nd.A,nd.B,nd.C,nd.D] k) ts.length) (hx:∀ k:Int, -9223372036854775808≤za [nd.A,nd.B,nd.C,nd.D] k∧za [nd.A,nd.B,nd.C,nd.D] k<9223372036854775808)
  (hB:nd.Op=11→(0≤nd.B∧nd.B<ps.length)∧(za ps nd.B).Ups.length≤1048576∧∀ u∈(za ps nd.B).Ups,u.Local=true→0≤u.Index∧u.Index<ts.length):zxp ps p nd H t (reads ps nd ts):=by
 have hroles:=zdt nd.Op
 have hfields:=zgp nd
 obtain ⟨fs,hfs⟩:∃ fs,[nd.A,nd.B,nd.C,nd.D]=fs:=⟨_,rfl⟩
 have hfl:fs.length=4:=by rw [←hfs];rfl
 have hlf:kS (yq fs)=some (.int .i64 4):=by simp [kS,hfl]
 have hre:yx (some rs)=yq rs:=rfl
 rw [hfs] at hfields hfit hx
 rw [hr,hre] at hroles
 have h0:zlD (.cells 1 [[zb ps]]) (.cells 5 [nd.cells]) H t ts.length 0 (H++[.cells 1 [[zb ps]],.cells 5 [nd.cells]]) .nils .nils ⟨ts,[],[]⟩:=
  ⟨by omega,by omega,⟨by simp,fun j hj _=>List.getElem?_append_left hj,by rw [xo];rfl,by rw [wC];rfl,hty.keep fun r hr=>List.getElem?_append_left (hty.lt r hr),.inl ⟨rfl,rfl⟩,.inl ⟨rfl,rfl⟩,hty.lt,fun r hr=>(by cases hr),fun r hr=>(by cases hr),fun r hr=>(by cases hr)⟩,rfl,by simp,by simp⟩
 obtain ⟨r,hl,hq⟩:=zwP (ps:=ps) (p:=p) (nd:=nd) hfl hrl hn hfit hx h0
 have hall:U7 ((zh nd.Op).getD []) nd ts=rdN rs fs 4 0 ⟨ts,[],[]⟩:=by rw [hr, ←hfs];exact zwO
 simp only [wa,code,zb,zc.cells,ups,zf,zj,zm,Ins.cells,yq] at hl hlf hroles hfields
 unfold reads
 rw [hall]
 cases hres:rdN rs fs 4 0 ⟨ts,[],[]⟩ with
 |none=>
  rw [hres] at hq
  obtain ⟨st,rfl,g8,g9,ge,go,gl⟩:=hq
  refine ⟨_,by (simp -implicitDefEqProofs +contextual (disch:=omega) only [VA,VE,yb,code,zb,zc.cells,ups,zf,zj,zm,Ins.cells,zD, ↓XD,XU, ↓reduceIte,sevalprocAttr,hroles,hfields,hlf,hl,g8,g9,ge,vV])<;>rfl,fun j hj hn=>?_,?_⟩
  ·rw [ux _ _ _ _ (.inl hj)];exact go j hj hn
  ·exact zbr _ _ _ _ gl
 |some a=>
  rw [hres] at hq
  obtain ⟨tkp,syp,K,rfl,hR⟩:=hq
  have hlen:a.ts.length=ts.length:=by
   have:=zkz (hall.trans hres);exact this
  have hKc:=hR.c
  have hKn:=hR.n
  simp only [zb,zc.cells,ups,zf,zj,zm,Ins.cells] at hKc hKn
  have kP:∀ (X:zd) roots,tkp∈roots→vm (trim H.length roots (K++X) []).1 t a.ts∧vm (trim H.length roots (K++X) []).1 tkp a.tk∧(∀ j,j<H.length→j∉refs t→(trim H.length roots (K++X) []).1[j]?=H[j]?)∧H.length≤(trim H.length roots (K++X) []).1.length:=fun X roots hroot=>by
   have e1:∀ j,j<K.length→(K++X)[j]?=K[j]?:=fun j hj=>List.getElem?_append_left hj
   refine ⟨hR.ty.keep fun r hr=>?_,?_,fun j hj hn=>?_,zbr _ _ _ _ (by have:=hR.len;simp;omega)⟩
   ·rw [ux _ _ _ _ (.inl (hR.tin r hr)),e1 r (hR.ty.lt r hr)]
   ·exact (hR.tk.keep fun r hr=>e1 r (hR.tk.lt r hr)).trim hroot _
   ·rw [ux _ _ _ _ (.inl hj),e1 j (by have:=hR.len;omega)];exact hR.old j hj hn
  have far:∀ r∈refs tkp,H.length≤r:=fun r hr=>by have:=hR.far1 r hr;omega
  by_cases c11:nd.Op=11
  ·obtain ⟨⟨B0,B1⟩,hub,hui⟩:=hB c11
   have hbare:bare K.length (zt ((W1 ps p nd t H.length rs fs tkp syp).map fun e=>e.2))=true:=by
    have h1:=hR.len
    have h2:=hR.ty.lt
    have h3:=hR.tk.lt
    have h4:=hR.sy.lt
    refine List.all_eq_true.2 fun r hr=>?_
    simp only [W1,List.map_cons,List.map_nil,zt,refs,List.append_nil,List.nil_append,List.mem_append,List.mem_cons,List.not_mem_nil,or_false,false_or] at hr
    simp only [decide_eq_true_eq]
    have h5:∀ r∈refs (code ps),r<K.length:=fun r hr=>by simp [refs,zt] at hr
    rcases hr with hr|hr|hr|hr|hr
    all_goals first|exact h2 _ hr|exact h3 _ hr|exact h4 _ hr|omega
   have hups:=zx' ps p nd t H.length rs fs tkp syp K a.ts (za ps nd.B).Ups hR.ty hub (by rw [hlen];exact hui) hbare
   simp only [W1,code,zb,zc.cells,ups,zf,zj,zm,Ins.cells,Up.cells,yq,List.cons_append,List.nil_append] at hups
   cases hs:z8 (fun j=>(za (za ps nd.B).Ups j).Local=true∧¬za a.ts (za (za ps nd.B).Ups j).Index=2) 0 (za ps nd.B).Ups.length with
   |some j=>
    rw [hs] at hups
    obtain ⟨st,hups,g8,g9,ge,X,gH⟩:=hups
    obtain ⟨j0,j1,⟨j2,j3⟩,_⟩:=xH.1 hs
    have hbad:nd.Op=11∧Q4 (za ps nd.B).Ups a.ts:=⟨c11,_,jc j0 j1,j2,j3⟩
    simp only [if_pos hbad]
    refine ⟨(trim H.length [.nils,.bool false] (K++X) []).1,?_,fun j hj hn=>?_,?_⟩
    ·simp -implicitDefEqProofs +contextual (disch:=omega) only [VA,VE,yb,code,zb,zc.cells,ups,zf,zj,zm,Ins.cells,Up.cells,zD, ↓XD,XU, ↓reduceIte,sevalprocAttr,hroles,hfields,hlf,hl,hKc,hKn,eq_true c11,B0,B1,hups,g8,g9,ge,gH,vV]
    ·rw [ux _ _ _ _ (.inl hj),List.getElem?_append_left (by have:=hR.len;omega)];exact hR.old j hj hn
    ·exact zbr _ _ _ _ (by have:=hR.len;simp;omega)
   |none=>
    rw [hs] at hups
    have hbad:¬(nd.Op=11∧Q4 (za ps nd.B).Ups a.ts):=by
     rintro ⟨_,u,hu,h1,h2⟩
     obtain ⟨j,j0,j1,rfl⟩:=Y' hu
     exact y7.1 hs j j0 j1 ⟨h1,h2⟩
    simp only [if_neg hbad]
    obtain ⟨f1,f2,f3,f4⟩:=kP [] [tkp,.bool true] (by simp)
    rw [List.append_nil] at f1 f2 f3 f4
    refine ⟨tkp,(trim H.length [tkp,.bool true] K []).1,?_,f1,f2,f3,f4,far⟩
    simp -implicitDefEqProofs +contextual (disch:=omega) only [VA,VE,yb,code,zb,zc.cells,ups,zf,zj,zm,Ins.cells,Up.cells,zD, ↓XD,XU, ↓reduceIte,sevalprocAttr,hroles,hfields,hlf,hl,hKc,hKn,eq_true c11,B0,B1,hups,vV]
  ·have hbad:¬(nd.Op=11∧Q4 (za ps nd.B).Ups a.ts):=fun h=>c11 h.1
   simp only [if_neg hbad]
   obtain ⟨f1,f2,f3,f4⟩:=kP [] [tkp,.bool true] (by simp)
   rw [List.append_nil] at f1 f2 f3 f4
   refine ⟨tkp,(trim H.length [tkp,.bool true] K []).1,?_,f1,f2,f3,f4,far⟩
   simp -implicitDefEqProofs +contextual (disch:=omega) only [VA,VE,yb,code,zb,zc.cells,ups,zf,zj,zm,Ins.cells,Up.cells,zD, ↓XD,XU, ↓reduceIte,sevalprocAttr,hroles,hfields,hlf,hl,hKc,hKn,eq_false c11,vV]
def T5 (first:List Int) (p:PV) (l:List Int):Prop:=xU p l∨(p=.sl 5 0 first.length first.length∧l=first)
def zsU (first:List Int) (row:List PV) (o:Option yr):Prop:=match o with
 |none=>row=[.bool false,.nils,.nils]
 |some s=>∃ p q,row=zo p q∧T5 first p s.Types∧xF q s.Guards
structure Zg (first:List Int) (rows:List (List PV)) (S:List (Option yr)):Prop where
 len:rows.length=S.length
 row:∀ (i:Nat) (r:List PV) (o:Option yr),rows[i]?=some r→S[i]?=some o→zsU first r o
theorem Zg.at_ {first:List Int} {rows:List (List PV)} {S:List (Option yr)} (h:Zg first rows S) {i:Int} (i0:0≤i) (i1:i<S.length):∃ r,rows[i.toNat]?=some r∧zsU first r (za S i):=by
 have hl:=h.len
 have h1:rows[i.toNat]?=some (rows[i.toNat]'(by omega)):=List.getElem?_eq_getElem (by omega)
 exact ⟨_,h1,h.row _ _ _ h1 (wc i0 i1)⟩
theorem Zg.set {first:List Int} {rows:List (List PV)} {S:List (Option yr)} (h:Zg first rows S) (k:Nat) {r:List PV} {o:Option yr} (hr:zsU first r o):Zg first (rows.set k r) (S.set k o):=by
 refine ⟨by simpa using h.len,fun i r' o' h1 h2=>?_⟩
 rw [List.getElem?_set] at h1 h2
 by_cases e:k=i
 ·rw [if_pos e] at h1 h2
  split at h1
  ·split at h2
   ·cases h1;cases h2;exact hr
   ·cases h2
  ·cases h1
 ·rw [if_neg e] at h1 h2
  exact h.row i r' o' h1 h2
theorem T5.ty {first:List Int} {p:PV} {l:List Int} (h:T5 first p l) {H:zd} (h5:H[5]?=some (.cells 1 (yn first))):Ty H p l:=by
 rcases h with h|⟨rfl,rfl⟩
 ·exact .inl h
 ·exact .inr (.inr ⟨5,rfl,h5⟩)
theorem T5.refs {first:List Int} {p:PV} {l:List Int} (h:T5 first p l):∀ r∈Go.Av.refs p,r=5:=by
 rcases h with h|⟨rfl,rfl⟩
 ·intro r hr;rw [yM h] at hr;cases hr
 ·intro r hr;simpa [Go.Av.refs] using hr
theorem Uo.at_ {H:zd} {p:PV} {l:List (Int×yr)} (h:Uo H p l) {j:Int} (j0:0≤j) (j1:j<l.length):∃ id rows row x,p=.sl id 0 l.length l.length∧H[id]?=some (.cells 4 rows)∧rows.length=l.length∧rows[j.toNat]?=some row∧l[j.toNat]?=some x∧zlw H row x:=by
 rcases h with ⟨_,rfl⟩|⟨id,rows,h1,h2,h3,h4⟩
 ·simp at j1;omega
 ·have e1:rows[j.toNat]?=some (rows[j.toNat]'(by omega)):=List.getElem?_eq_getElem (by omega)
  have e2:l[j.toNat]?=some (l[j.toNat]'(by omega)):=List.getElem?_eq_getElem (by omega)
  exact ⟨id,rows,_,_,h1,h2,h3,e1,e2,h4 _ _ _ e1 e2⟩
theorem Uo.len {H:zd} {p:PV} {l:List (Int×yr)} (h:Uo H p l):kS p=some (.int .i64 l.length):=by
 rcases h with ⟨rfl,rfl⟩|⟨id,rows,rfl,_⟩<;>simp [kS]
theorem zpM (l:List Int):frz 8 ((KK l l.length).map (yX 0)) (zQ 0 (Wf l.length))=cI l:=by
 rw [ztV]
 by_cases c:(l.length:Int)=0
 ·have:l=[]:=List.length_eq_zero_iff.1 (by omega)
  subst this
  simp [Wf,cI,zQ];rfl
 ·have e:l.take (l.length:Int).toNat=l:=by simp
  have:¬l=[]:=fun e=>by subst e;simp at c
  rw [Uq c,JE c,cI,if_neg this,e]
  have:=uG (d:=6) (H:=[.cells 1 [[.int .i64 (za l 0)]],.cells 1 (yn l)]) (id:=1) (l:=l) rfl
  simpa [zQ] using this
theorem zf9 {P:xp} (H:zd) (f:Nat) (args:List PV):xJ (CL P) H .fresh f args=match ES P f (args.map (frz 8 H)) [] with
  |some (v,H',_)=>some (frz 8 (H'.map (yX 0)) (zQ 0 v),H,[])
  |none=>none:=rfl
abbrev wi (ps:List zc) (p:Int) (N R:Nat) (P:Int):zk:=[(0,code ps),(1,.int .i64 p),(2,.ptr 0 0 0 1),(4,.nils),(5,.ptr 1 0 0 1),(6,.ptr 2 0 0 1),(7,.sl 3 0 N N),(8,.sl 4 0 N N),(9,.sl 5 0 R R),(10,.int .i64 P)]
abbrev W3 (ps:List zc) (p:Int) (N R:Nat) (P a:Int) (tp tkp gp fp:PV) (n:Nat) (j:Int):zk:=wi ps p N R P++[(11,.int .i64 a),(13,.ptr 6 0 0 1),(14,tp),(15,tkp),(16,.bool true),(17,gp),(166,fp),(167,.int .i64 n),(168,.int .i64 j)]
structure zvj (first:List Int) (N:Nat) (n0:Nat) (G:List (List PV)→List Bool→zd) (ed:zV) (fp:PV) (l:List (Int×yr)) (flt:List PV):Prop where
 g1:∀ r d,(G r d)[1]?=some (.cells 3 [flt])
 g3:∀ r d,(G r d)[3]?=some (.cells 3 r)
 g4:∀ r d,(G r d)[4]?=some (.cells 1 (bl d))
 g5:∀ r d,(G r d)[5]?=some (.cells 1 (yn first))
 s3:∀ r d r',(G r d).set 3 (.cells 3 r')=G r' d
 s4:∀ r d d',(G r d).set 4 (.cells 1 (bl d'))=G r d'
 len:∀ r d,(G r d).length=n0
 fol:∀ r d,Uo (G r d) fp l
 ed:∀ e∈ed,e.2<n0
def zxt (ps:List zc) (p:Int) (N R:Nat) (P a:Int) (tp tkp gp fp:PV) (first:List Int) (G:List (List PV)→List Bool→zd) (ed:zV) (n:Nat) (res:Int ⊕ (List (Option yr)×List Bool)) (r:zp×St):Prop:=match res with
 |.inl j=>∃ st,r=(.ret,st)∧st.per.get 4=.nils∧st.per.get 5=.ptr 1 0 0 1∧st.H[1]?=some (.cells 3 [[.int .i64 13,.int .i64 p,.int .i64 j]])
 |.inr (S',due')=>∃ rows',r=(.exit 8,(⟨W3 ps p N R P a tp tkp gp fp n n,[],G rows' due',ed⟩:St))∧Zg first rows' S'∧due'.length=N
structure zsV (s:yr):Prop where
 t:s.Types.length≤1048576
 g:s.Guards.length≤1048576
structure zo9 (first:List Int) (N:Nat) (l:List (Int×yr)) (j:Int) (rows:List (List PV)) (due:List Bool) (S:List (Option yr)):Prop where
 j0:0≤j
 j1:j≤l.length
 rows:Zg first rows S
 n:S.length=N
 d:due.length=N
 sz:∀ i s,za S i=some s→zsV s
theorem zga {α:Type} [Inhabited α] {l:List α} {i:Int} (h:¬i.toNat<l.length):za l i=default:=by
 simp [za,List.getD,List.getElem?_eq_none (show l.length≤i.toNat by omega)]
theorem zgF {α:Type} [Inhabited α] {l:List α} {i j:Int} {v:α} (h0:0≤i) (h1:i<l.length):za (l.set i.toNat v) j=v∨za (l.set i.toNat v) j=za l j:=by
 unfold za
 simp only [List.getD,List.getElem?_set]
 split
 ·split
  ·exact .inl rfl
  ·right;rename_i h;rw [List.getElem?_eq_none (by omega)]
 ·exact .inr rfl
theorem zvd {ps:List zc} {p:Int} {N R:Nat} {P a:Int} {tp tkp gp fp:PV} {first:List Int} {n0:Nat} {G:List (List PV)→List Bool→zd} {ed:zV} {l:List (Int×yr)} {flt:List PV} (hf3:flt.length=3) (hV:zvj first N n0 G ed fp l flt) (hN:N≤1048576) (hll:l.length≤1000) (hl:∀ x∈l,(0≤x.1∧x.1<N)∧zsV x.2) (hbare:bare n0 (zt ((W3 ps p N R P a tp tkp gp fp l.length 0).map fun e=>e.2))=true)
  {rows:List (List PV)} {due:List Bool} {S:List (Option yr)} (h:zo9 first N l 0 rows due S):∃ r,EV A (.loop (xD 4)) ⟨W3 ps p N R P a tp tkp gp fp l.length 0,[],G rows due,ed⟩=some r∧zxt ps p N R P a tp tkp gp fp first G ed l.length (Zw l S due) r:=by
 have key:=ZG (P:=A) (body:=(xD 4)) (fun (s:Int×List (List PV)×List Bool×List (Option yr))=>(⟨W3 ps p N R P a tp tkp gp fp l.length s.1,[],G s.2.1 s.2.2.1,ed⟩:St)) (fun s=>zo9 first N l s.1 s.2.1 s.2.2.1 s.2.2.2) (fun s=>((l.length:Int)-s.1).toNat) (fun s r=>zxt ps p N R P a tp tkp gp fp first G ed l.length (Zw (l.drop s.1.toNat) s.2.2.2 s.2.2.1) r) ?_ (0,rows,due,S) h
 ·simpa using key
 rintro ⟨j,rows,due,S⟩ ⟨j0,j1,hR,hn,hd,hsz⟩
 simp only at j0 j1 hR hn hd hsz ⊢
 have hfl:=fun r d=>(hV.fol r d).len
 have hrl:rows.length=N:=by rw [hR.len,hn]
 have htr:∀ r d X (j:Int),trim n0 ((W3 ps p N R P a tp tkp gp fp l.length j).map fun e=>e.2) (G r d++X) ed=(G r d,ed):=fun r d X j=>by
  have hb:bare n0 (zt ((W3 ps p N R P a tp tkp gp fp l.length j).map fun e=>e.2))=true:=hbare
  have h1:(ed.all fun e=>decide (n0≤e.1)||decide (e.2<n0))=true:=by
   rw [List.all_eq_true];intro e he;simp [hV.ed e he]
  have h2:(ed.filter fun e=>decide (e.2<n0))=ed:=List.filter_eq_self.2 (fun e he=>by simpa using hV.ed e he)
  rw [trim,hb,h1]
  show ((G r d++X).take n0,ed.filter fun e=>decide (e.2<n0))=_
  rw [h2,show (G r d++X).take n0=G r d by rw [←hV.len r d,List.take_left]]
 by_cases c:j<l.length
 ·obtain ⟨id,frows,row,x,rfl,hid,hfr,hrow,hx,pp,qq,rfl,hpp,hqq⟩:=(hV.fol rows due).at_ j0 c
  have hxm:=List.mem_of_getElem? hx
  obtain ⟨⟨x0,x1⟩,xs⟩:=hl x hxm
  have hdrop:l.drop j.toNat=x::l.drop (j+1).toNat:=by
   have hj:j.toNat<l.length:=by omega
   rw [List.drop_eq_getElem_cons hj,show (j+1).toNat=j.toNat+1 by omega]
   rw [List.getElem?_eq_getElem hj] at hx
   injection hx with hx;rw [hx]
  rw [hdrop]
  obtain ⟨xa,xst⟩:=x
  simp only at x0 x1 xs hpp hqq hrow
  rw [Zw]
  have hpl:=hpp.leaf
  have hgl:=xf hqq
  have hgc:=yN hqq
  have hgr:=yL hqq
  obtain ⟨xc,hxc⟩:∃ xc,yf.cells 4 [fr xa pp qq]=xc:=⟨_,rfl⟩
  have hlenG:=hV.len
  have hx0:∀ r d (X:yf),(G r d++[X])[n0]?=some X:=fun r d X=>by rw [←hV.len r d];exact xo _ _
  have hxs:∀ r d (X b:yf),(G r d++[X]).set n0 b=G r d++[b]:=fun r d X b=>by rw [←hV.len r d];exact uR _ _ _
  have hA1:∀ r d (X:yf),(G r d++[X])[1]?=some (.cells 3 [flt]):=fun r d X=>zY _ _ (hV.g1 r d)
  have hA3:∀ r d (X:yf),(G r d++[X])[3]?=some (.cells 3 r):=fun r d X=>zY _ _ (hV.g3 r d)
  have hA4:∀ r d (X:yf),(G r d++[X])[4]?=some (.cells 1 (bl d)):=fun r d X=>zY _ _ (hV.g4 r d)
  have hB3:∀ r d (X:yf) r',(G r d++[X]).set 3 (.cells 3 r')=G r' d++[X]:=fun r d X r'=>by rw [zdl _ _ (xd (hV.g3 r d)),hV.s3]
  have hB4:∀ r d (X:yf) d',(G r d++[X]).set 4 (.cells 1 (bl d'))=G r d'++[X]:=fun r d X d'=>by rw [zdl _ _ (xd (hV.g4 r d)),hV.s4]
  obtain ⟨srow,hs1,hs2⟩:=hR.at_ x0 (by omega)
  have hedx:List.filter (fun r=>decide (n0<r)) (refs pp++refs qq)=[]:=by
   rw [hgr,List.append_nil,List.filter_eq_nil_iff]
   intro r hr
   have:=hpp.lt r hr
   rw [hV.len] at this
   simp;omega
  have hedx2:List.filter (fun r=>decide (n0<r)) (refs pp)=[]:=by rw [hgr,List.append_nil] at hedx;exact hedx
  cases hS:za S xa with
  |none=>
   rw [hS] at hs2
   have hs2:srow=[.bool false,.nils,.nils]:=hs2
   subst hs2
   obtain ⟨p0,hp0,hf⟩:=hpp.frzApp
   have hcp:=zao hp0 xs.t
   have hfc:=zpM xst.Types
   have hgp:=znN hqq xs.g
   have hfq:=fun H=>ww hqq 7 H
   have k1:=jM (zlm xst.Types)
   have k2:=uH (zlm xst.Types)
   have k3:=yM (zlm xst.Types)
   have k4:=xf (zll xst.Guards)
   have k5:=yN (zll xst.Guards)
   have k6:=yL (zll xst.Guards)
   right
   refine ⟨(j+1,rows.set xa.toNat (zo (cI xst.Types) (cG xst.Guards)),due.set xa.toNat true,S.set xa.toNat (some xst)),_,⟨by simp only;omega,by simp only;omega,hR.set _ ⟨_,_,rfl,.inl (zlm _),zll _⟩,by simpa using hn,by simpa using hd,fun i s hs=>?_⟩,by simp only;omega,by (simp -implicitDefEqProofs +contextual (disch:=omega) only [YN,yA,W3,wi,List.cons_append,List.nil_append,code,zb,zc.cells,ups,zf,zj,zm, ↓zf9, ↓XD,XU, ↓reduceIte,sevalprocAttr,c,j0,hid,hfr,hrow,hlenG,hx0,hxs,hpl.1,hpl.2,hgl,hgc,hedx,hedx2,hA1,hA3,hA4,x0,x1,hrl,hd,hs1,hB3,hB4,hf,hcp,hfc,hgp,hfq,hgr,k1,k2,k3,k4,k5,k6])<;>rfl,?_,fun r hr=>?_⟩
   ·rcases zgF (l:=S) (j:=i) (v:=some xst) x0 (by omega) with h|h
    ·simp only at hs;rw [h] at hs;cases hs;exact xs
    ·simp only at hs;rw [h] at hs;exact hsz i s hs
   ·have:=htr (rows.set xa.toNat (zo (cI xst.Types) (cG xst.Guards))) (due.set xa.toNat true) [.cells 4 [fr xa pp qq]] (j+1)
    simp only [W3,wi,List.cons_append,List.nil_append,List.map_cons,List.map_nil,code,zb,zc.cells,ups,zf,zj,zm,zo,fr,bl] at this
    simp [St.next,this,hlenG]
   ·simp only at hr ⊢;exact hr
  |some s'=>
   rw [hS] at hs2
   obtain ⟨p',q',rfl,hp',hq'⟩:=hs2
   have hs2:=hsz xa s' hS
   obtain ⟨p0,hp0,hf⟩:=hpp.frzAppD 5
   obtain ⟨p1,hp1,hf1⟩:=(hp'.ty (hV.g5 rows due)).frzAppD 5
   have hfq:=fun H=>ww hqq 6 H
   have hfq':=fun H=>ww hq' 6 H
   have hsm:=zrx hp1 hq' hp0 hqq hs2.t hs2.g xs.t xs.g
   by_cases e:s'=xst
   ·right
    refine ⟨(j+1,rows,due,S),_,⟨by simp only;omega,by simp only;omega,hR,hn,hd,hsz⟩,by simp only;omega,by (simp -implicitDefEqProofs +contextual (disch:=omega) only [YN,yA,W3,wi,List.cons_append,List.nil_append,code,zb,zc.cells,ups,zf,zj,zm, ↓zf9, ↓XD,XU, ↓reduceIte,sevalprocAttr,c,j0,hid,hfr,hrow,hlenG,hx0,hxs,hpl.1,hpl.2,hgl,hgc,hedx,hedx2,hA1,hA3,hA4,x0,x1,hrl,hd,hs1,zo,hf,hf1,hfq,hfq',hsm,eq_true e])<;>rfl,?_,fun r hr=>?_⟩
    ·have:=htr rows due [.cells 4 [fr xa pp qq]] (j+1)
     simp only [W3,wi,List.cons_append,List.nil_append,List.map_cons,List.map_nil,code,zb,zc.cells,ups,zf,zj,zm,fr,bl] at this
     simp [St.next,this,hlenG]
    ·simp only at hr ⊢;rw [if_pos e];exact hr
   ·left
    have hfa:=yV 13 p xa
    refine ⟨_,by (simp -implicitDefEqProofs +contextual (disch:=omega) only [YN,yA,W3,wi,List.cons_append,List.nil_append,code,zb,zc.cells,ups,zf,zj,zm, ↓zf9, ↓XD,XU, ↓reduceIte,sevalprocAttr,c,j0,hid,hfr,hrow,hlenG,hx0,hxs,hpl.1,hpl.2,hgl,hgc,hedx,hedx2,hA1,hA3,hA4,x0,x1,hrl,hd,hs1,zo,hf,hf1,hfq,hfq',hsm,eq_false e,hfa,hf3])<;>rfl,by simp,?_⟩
    simp only [if_neg e]
    refine ⟨_,rfl,by simp [zk.get,zk.put],by simp [zk.get,zk.put],?_⟩
    rw [List.getElem?_set_self (by have:=xd (hV.g1 rows due);simp;omega),List.drop_eq_nil_of_le (by omega)]
 ·left
  have hj:j=l.length:=by omega
  subst hj
  refine ⟨_,by (simp -implicitDefEqProofs +contextual (disch:=omega) only [YN,yA,W3,wi,List.cons_append,List.nil_append, ↓XD,XU, ↓reduceIte,sevalprocAttr,Int.lt_irrefl])<;>rfl,by simp,?_⟩
  simp only [Int.toNat_natCast,List.drop_length,Zw]
  exact ⟨rows,rfl,hR,hd⟩
section
structure Shaped (ps:List zc):Prop where
 n:ps.length≤1048576
 fine:zg1 ps
 size:uK ps
 ups:∀ p:Int,0≤p→p<ps.length→∀ i:Int,0≤i→i<(za ps p).Ins.length→(za (za ps p).Ins i).Op=11→zdk (za ps p) (za ps (za (za ps p).Ins i).B).Ups
section
variable {ps:List zc} {p i:Int}
theorem zaL {r x:Int} {np:Nat} {f:zc} (h:yU np f r x) {n:Nat} (hn:(n:Int)=f.Regs):zlC r x n:=by
 refine ⟨fun ho=>?_,fun ho=>?_,fun ho=>?_,fun ho=>?_⟩
 ·rcases ho with rfl|rfl<;>(simp [yU] at h;omega)
 ·rcases ho with rfl|rfl|rfl<;>(simp [yU] at h;omega)
 ·subst ho;simp [yU] at h;omega
 ·rcases ho with rfl|rfl<;>(simp [yU] at h;omega)
theorem ztH (h:jg ps p i) {rs:List Int} (hr:zh (za (za ps p).Ins i).Op=some rs) {n:Nat} (hn:(n:Int)=(za ps p).Regs):rs.length=4∧∀ k:Int,0≤k→k<4→zlC (za rs k) (za [(za (za ps p).Ins i).A,(za (za ps p).Ins i).B,(za (za ps p).Ins i).C,(za (za ps p).Ins i).D] k) n:=by
 have hl:=zdO hr
 refine ⟨hl,fun k k0 k1=>?_⟩
 match rs,hl with
 |[s0,s1,s2,s3],_=>
  obtain ⟨h0,h1,h2,h3⟩:=wJ h hr
  have:k=0∨k=1∨k=2∨k=3:=by omega
  rcases this with rfl|rfl|rfl|rfl
  ·exact zaL h0 hn
  ·exact zaL h1 hn
  ·exact zaL h2 hn
  ·exact zaL h3 hn
theorem zxX (h:jg ps p i) {n:Nat} (hn:(n:Int)=(za ps p).Regs):zxu (za (za ps p).Ins i) n:=by
 refine ⟨fun ho=>?_,fun ho=>?_,fun ho=>?_⟩
 ·rcases ho with ho|ho|ho|ho|ho|ho
  ·have:=(wJ h (s0:=1) (s1:=2) (s2:=0) (s3:=0) (by rw [ho];simp [zh])).1
   simp [yU] at this;omega
  ·have:=(wJ h (s0:=1) (s1:=0) (s2:=0) (s3:=0) (by rw [ho];simp [zh])).1
   simp [yU] at this;omega
  ·have:=(wJ h (s0:=1) (s1:=6) (s2:=0) (s3:=0) (by rw [ho];simp [zh])).1
   simp [yU] at this;omega
  ·have:=(wJ h (s0:=1) (s1:=2) (s2:=3) (s3:=0) (by rw [ho];simp [zh])).1
   simp [yU] at this;omega
  ·have:=(wJ h (s0:=21) (s1:=0) (s2:=0) (s3:=0) (by rw [ho];simp [zh])).1
   simp [yU] at this;omega
  ·obtain ⟨s0,s1,s2,s3,hr⟩:=zjP h
   rw [hr] at ho
   have ho:s0=1:=ho
   subst ho
   have:=(wJ h hr).1
   simp [yU] at this;omega
 ·have:=(wJ h (s0:=19) (s1:=0) (s2:=0) (s3:=0) (by rw [ho];simp [zh])).1
  simp [yU] at this;omega
 ·have:=(wJ h (s0:=20) (s1:=10) (s2:=1) (s3:=0) (by rw [ho];simp [zh])).2.2.1
  simp [yU] at this;omega
theorem zws (h:jg ps p i) {n:Nat} (hn:(n:Int)=(za ps p).Regs) (ho:(za (za ps p).Ins i).Op=31):0≤(za (za ps p).Ins i).B∧(za (za ps p).Ins i).B+1<n:=by
 have:=(wJ h (s0:=10) (s1:=14) (s2:=0) (s3:=0) (by rw [ho];simp [zh])).2.1
 simp [yU] at this;omega
theorem zsg {nd:Ins} {ts ts' tk:List Int} (ho:nd.Op=32) (h:reads ps nd ts=some (ts',tk)):writes nd ts'=ts:=by
 have e:zh 32=some [0,0,0,0]:=by simp [zh]
 have e2:za [(0:Int),0,0,0] 0=0:=rfl
 have hw:writes nd ts'=ts':=by simp [writes,ho,e,e2]
 rw [hw]
 unfold reads at h
 rw [ho,e] at h
 have hall:U7 [0,0,0,0] nd ts=some ⟨ts,[],[]⟩:=by
  have e3:za [(0:Int),0,0,0] 1=0:=rfl
  have e4:za [(0:Int),0,0,0] 2=0:=rfl
  have e5:za [(0:Int),0,0,0] 3=0:=rfl
  rw [yo];simp [e2,e3,e4,e5,wG]
 simp only [Option.getD_some,hall] at h
 have:¬((32:Int)=11):=by decide
 simp [this] at h
 exact h.1.symm
theorem zsF {f:zc} {us:List Up} (h:zdk f us) {n:Nat} (hn:(n:Int)=f.Regs):∀ u∈us,u.Local=true→0≤u.Index∧u.Index<n:=by
 intro u hu hl
 obtain ⟨j,j0,j1,rfl⟩:=Y' hu
 have:=Classical.not_not.1 (y7.1 h j j0 j1)
 rw [J_,if_pos hl] at this
 omega
end
theorem Zb {H:zd} {ed:zV} (h:∀ e∈ed,e.2<H.length) (roots:List PV):trim H.length roots H ed=(H,ed):=by
 rw [trim]
 split
 ·rw [List.take_length,List.filter_eq_self.2 (fun e he=>by simpa using h e he)]
 ·rfl
abbrev h6 (ps:List zc) (f:zc) (flt:List PV) (rows:List (List PV)) (due:List Bool) (first:List Int):zd:=[.cells 1 [[zb ps]],.cells 3 [flt],.cells 9 [f.cells],.cells 3 rows,.cells 1 (bl due),.cells 1 (yn first)]
theorem zms {ps:List zc} {f:zc} {p:Int} {N R:Nat} {P:Int} {flt:List PV} {rows:List (List PV)} {due:List Bool} {first:List Int} (hd:due.length=N) (hN:N≤1048576):
  EV A (.loop (xD 2)) ⟨wi ps p N R P++[(11,.int .i64 0)],[],h6 ps f flt rows due first,[(3,5)]⟩=some (.exit 4,⟨wi ps p N R P++[(11,.int .i64 ((Wj due).getD N))],[],h6 ps f flt rows due first,[(3,5)]⟩):=by
 have key:=JJ (P:=A) (body:=(xD 2)) (fun (i:Int)=>(⟨wi ps p N R P++[(11,.int .i64 i)],[],h6 ps f flt rows due first,[(3,5)]⟩:St)) (fun i=>0≤i∧i≤N) (fun i=>((N:Int)-i).toNat)
  (fun i=>(.exit 4,(⟨wi ps p N R P++[(11,.int .i64 ((z8 (fun j=>za due j=true) i N).getD N))],[],h6 ps f flt rows due first,[(3,5)]⟩:St))) ?_ 0 ⟨by omega,by omega⟩
 ·unfold Wj;rw [hd];exact key
 ·rintro i ⟨i0,i1⟩
  by_cases c:i<N
  ·cases hx:za due i with
   |true=>
    left
    rw [zdL c hx]
    refine ⟨by simp -implicitDefEqProofs +contextual (disch:=omega) only [Un,yA,wi,h6,List.cons_append,List.nil_append, ↓XD,XU, ↓reduceIte,sevalprocAttr,c,i0,hd,hx,Option.getD_some],by simp⟩
   |false=>
    right
    refine ⟨i+1,_,⟨by omega,by omega⟩,by omega,by (simp -implicitDefEqProofs +contextual (disch:=omega) only [Un,yA,wi,h6,List.cons_append,List.nil_append, ↓XD,XU, ↓reduceIte,sevalprocAttr,c,i0,hd,hx])<;>rfl,?_,by rw [Kh (i:=i) c (by simp [hx])]⟩
    have:=fun roots=>Zb (H:=h6 ps f flt rows due first) (ed:=[(3,5)]) (by simp) roots
    simp only [h6,List.length_cons,List.length_nil,Nat.zero_add,Nat.reduceAdd] at this
    simp [St.next,this]
  ·left
   have:i=N:=by omega
   subst this
   rw [zdK _ (by omega)]
   refine ⟨by simp -implicitDefEqProofs +contextual (disch:=omega) only [Un,yA,wi,h6,List.cons_append,List.nil_append, ↓XD,XU, ↓reduceIte,sevalprocAttr,hd,Int.lt_irrefl,Option.getD_none],by simp⟩
end
def zbu (p c j:Int) (st:St):Prop:=st.per.get 4=.nils∧st.per.get 5=.ptr 1 0 0 1∧st.H[1]?=some (.cells 3 [[.int .i64 c,.int .i64 p,.int .i64 j]])
def zdi (f:zc) (S:List (Option yr)) (j:Int):Prop:=za S j≠none∧Kx f j
theorem zt_ (ps:List zc) (f:zc) (p:Int) (N R:Nat) (P a:Int) (flt:List PV) (hf3:flt.length=3) (rows:List (List PV)) (due:List Bool) (first:List Int) (S:List (Option yr)) (hR:Zg first rows S) (hS:S.length=N) (hf:f.Ins.length=N) (hN:N≤1048576) (hL:ZB f):match z8 (fun (j:Int)=>zdi f S j) 0 N with|some j=>∃ st,EV A (.loop (xD 3)) (⟨wi ps p N R P++[(11,.int .i64 a),(75,.int .i64 N),(76,.int .i64 (0))],[],h6 ps f flt rows due first,[(3,5)]⟩:St)=some (.ret,st)∧zbu p 14 j st|none=>EV A (.loop (xD 3)) (⟨wi ps p N R P++[(11,.int .i64 a),(75,.int .i64 N),(76,.int .i64 (0))],[],h6 ps f flt rows due first,[(3,5)]⟩:St)=some (zp.exit 6,(⟨wi ps p N R P++[(11,.int .i64 a),(75,.int .i64 N),(76,.int .i64 (N))],[],h6 ps f flt rows due first,[(3,5)]⟩:St)):=by
 have hrl:rows.length=N:=by rw [hR.len,hS]
 refine yt (fun i=>(⟨wi ps p N R P++[(11,.int .i64 a),(75,.int .i64 N),(76,.int .i64 i)],[],h6 ps f flt rows due first,[(3,5)]⟩:St)) (fun (j:Int)=>zdi f S j) (fun (j:Int) (st:St)=>zbu p 14 j st) (zp.exit 6,(⟨wi ps p N R P++[(11,.int .i64 a),(75,.int .i64 N),(76,.int .i64 (N))],[],h6 ps f flt rows due first,[(3,5)]⟩:St)) (0) (N) ?_ ?_ ?_ (0) (by omega) (by omega)
 ·intro i hi hn hp
  obtain ⟨row,hr1,hr2⟩:=hR.at_ hi (by omega);have hrd:=zh1 hL (by omega:f.Ins.length≤1048576) hi (by omega:i<f.Ins.length);have hfa:=yV 14 p i;have htr:=fun roots=>Zb (H:=h6 ps f flt rows due first) (ed:=[(3,5)]) (by simp) roots;simp only [h6,zc.cells,Go.Proofs.Tryd.Av.ups,zf,zj,zm,List.length_cons,List.length_nil,Nat.zero_add,Nat.reduceAdd] at hrd htr
  cases hs:za S i with
  |none=>
   rw [hs] at hr2
   have hr2:row=[.bool false,.nils,.nils]:=hr2
   subst hr2
   refine ⟨_,by (simp -implicitDefEqProofs +contextual (disch:=omega) only [YM,yA,wi,h6,zc.cells,Go.Proofs.Tryd.Av.ups,zf,zj,zm,List.cons_append,List.nil_append, ↓XD,XU, ↓reduceIte,sevalprocAttr,hr1,hrl,hn])<;>rfl,by simp [St.next,htr]⟩
  |some s=>
   rw [hs] at hr2
   obtain ⟨p',q',rfl,_,_⟩:=hr2
   have hnr:¬Kx f i:=fun h=>hp ⟨by rw [hs];simp,h⟩
   refine ⟨_,by (simp -implicitDefEqProofs +contextual (disch:=omega) only [YM,yA,wi,h6,zo,zc.cells,Go.Proofs.Tryd.Av.ups,zf,zj,zm,List.cons_append,List.nil_append, ↓XD,XU, ↓reduceIte,sevalprocAttr,hr1,hrl,hn,hrd,hnr])<;>rfl,by simp [St.next,htr]⟩
 ·intro i hi hn hp
  obtain ⟨row,hr1,hr2⟩:=hR.at_ hi (by omega);have hrd:=zh1 hL (by omega:f.Ins.length≤1048576) hi (by omega:i<f.Ins.length);have hfa:=yV 14 p i;have htr:=fun roots=>Zb (H:=h6 ps f flt rows due first) (ed:=[(3,5)]) (by simp) roots;simp only [h6,zc.cells,Go.Proofs.Tryd.Av.ups,zf,zj,zm,List.length_cons,List.length_nil,Nat.zero_add,Nat.reduceAdd] at hrd htr
  obtain ⟨hp1,hp2⟩:=hp
  obtain ⟨s,hs⟩:=Option.ne_none_iff_exists'.1 hp1
  rw [hs] at hr2
  obtain ⟨p',q',rfl,_,_⟩:=hr2
  refine ⟨_,by (simp -implicitDefEqProofs +contextual (disch:=omega) only [YM,yA,wi,h6,zo,zc.cells,Go.Proofs.Tryd.Av.ups,zf,zj,zm,List.cons_append,List.nil_append, ↓XD,XU, ↓reduceIte,sevalprocAttr,hr1,hrl,hn,hrd,hp2,hfa,hf3])<;>rfl,by simp [zk.get,zk.put],by simp [zk.get,zk.put],?_⟩
  rw [List.drop_eq_nil_of_le (by omega)];rfl
 ·rintro i hi rfl
  refine ⟨by simp -implicitDefEqProofs +contextual (disch:=omega) only [YM,yA, ↓XD,XU, ↓reduceIte,sevalprocAttr,wi,h6,Int.lt_irrefl],by simp⟩
end Go.Proofs.Tryd.Av
end
section
attribute [local congr] ite_congr
set_option maxRecDepth 10000
set_option maxHeartbeats 8000000
namespace Go.Proofs.Tryd.Av
open Go Go.Av Classical
theorem zxM (l:List Int):vm (KK l l.length) (Wf l.length) l:=by
 by_cases c:0<l.length
 ·obtain ⟨h1,h2⟩:=zbV c
  rw [h1,h2];exact .inr ⟨1,rfl,rfl⟩
 ·have:l=[]:=List.length_eq_zero_iff.1 (by omega)
  subst this
  exact .inl ⟨rfl,rfl⟩
theorem Ty.vset {Y:zd} {p:PV} {l:List Int} {rows:List (List PV)} {d:List Bool} (h:Ty Y p l) (h3:Y[3]?=some (.cells 3 rows)) (h4:Y[4]?=some (.cells 1 (bl d))) (hd:d≠[]) (r:List (List PV)) (d':List Bool):Ty ((Y.set 3 (.cells 3 r)).set 4 (.cells 1 (bl d'))) p l:=by
 rcases h with h|⟨rfl,rfl⟩|⟨id,rfl,h⟩
 ·exact .inl h
 ·exact .inr (.inl ⟨rfl,rfl⟩)
 ·have n3:id≠3:=fun e=>by rw [e,h3] at h;injection h with h;injection h with h _;cases h
  have n4:id≠4:=fun e=>by
   rw [e,h4] at h
   injection h with h
   injection h with _ h
   cases d with
   |nil=>exact hd rfl
   |cons b d=>
    cases l with
    |nil=>simp at h
    |cons x l=>simp at h
  exact .inr (.inr ⟨id,rfl,by rw [List.getElem?_set_ne (Ne.symm n4),List.getElem?_set_ne (Ne.symm n3)];exact h⟩)
theorem Uo.vset {Y:zd} {p:PV} {l:List (Int×yr)} {rows:List (List PV)} {d:List Bool} (h:Uo Y p l) (h3:Y[3]?=some (.cells 3 rows)) (h4:Y[4]?=some (.cells 1 (bl d))) (hd:d≠[]) (r:List (List PV)) (d':List Bool):Uo ((Y.set 3 (.cells 3 r)).set 4 (.cells 1 (bl d'))) p l:=by
 rcases h with ⟨rfl,rfl⟩|⟨id,frows,rfl,k1,k2,k3⟩
 ·exact .inl ⟨rfl,rfl⟩
 ·have n3:id≠3:=fun e=>by rw [e,h3] at k1;injection k1 with k1;injection k1 with k1 _;cases k1
  have n4:id≠4:=fun e=>by rw [e,h4] at k1;injection k1 with k1;injection k1 with k1 _;cases k1
  refine .inr ⟨id,frows,rfl,by rw [List.getElem?_set_ne (Ne.symm n4),List.getElem?_set_ne (Ne.symm n3)];exact k1,k2,fun i row x e1 e2=>?_⟩
  obtain ⟨p',q',e3,e4,e5⟩:=k3 i row x e1 e2
  exact ⟨p',q',e3,e4.vset h3 h4 hd r d',e5⟩
theorem zu_ {H:zd} {a b c d e f:yf} (h0:H[0]?=some a) (h1:H[1]?=some b) (h2:H[2]?=some c) (h3:H[3]?=some d) (h4:H[4]?=some e) (h5:H[5]?=some f):H.take 6=[a,b,c,d,e,f]:=by
 match H with
 |[]=>cases h0
 |[_]=>cases h1
 |[_,_]=>cases h2
 |[_,_,_]=>cases h3
 |[_,_,_,_]=>cases h4
 |[_,_,_,_,_]=>cases h5
 |x0::x1::x2::x3::x4::x5::H=>cases h0;cases h1;cases h2;cases h3;cases h4;cases h5;rfl
theorem zis {r x:Int} {a b:Rd} (h:wh r x a=some b):b.tk.length≤a.tk.length+1:=by
 unfold wh at h
 repeat' split at h
 all_goals first|(cases h;done)|(cases h;simp)
theorem zuD {ps:List zc} {nd:Ins} {ts t2 tk:List Int} (h:reads ps nd ts=some (t2,tk)):tk.length≤4:=by
 unfold reads at h
 split at h
 ·cases h
 ·rename_i a h1
  split at h
  ·cases h
  ·cases h
   unfold U7 at h1
   split at h1
   ·cases h1
   ·rename_i b1 k1
    split at h1
    ·cases h1
    ·rename_i b2 k2
     split at h1
     ·cases h1
     ·rename_i b3 k3
      have e1:=zis k1;have e2:=zis k2;have e3:=zis k3;have e4:=zis h1
      simp only [List.length_nil] at e1
      omega
theorem zho {H:zd} {i:Nat} {b:yf} (h:H[i]?=some b):H.set i b=H:=by
 have hi:=xd h
 refine List.ext_getElem? fun j=>?_
 by_cases e:i=j
 ·subst e;rw [List.getElem?_set_self hi,h]
 ·rw [List.getElem?_set_ne e]
theorem zma (n:Ins) (a:Int) (s:yr) (ts:List Int) (gs:List Gd):(wL n a s ts gs).length≤2:=by
 unfold wL
 repeat' split
 all_goals simp
theorem Uo.lt {H:zd} {p:PV} {l:List (Int×yr)} (h:Uo H p l):∀ r∈refs p,r<H.length:=by
 rcases h with ⟨rfl,_⟩|⟨id,rows,rfl,h,_⟩
 ·intro r hr;cases hr
 ·intro r hr;simp [refs] at hr;subst hr;exact xd h
def zvz (ps:List zc) (f:zc) (p:Int) (N R:Nat) (P:Int) (flt:List PV) (rows:List (List PV)) (due:List Bool) (first:List Int) (res:(Int×Int) ⊕ (List (Option yr)×List Bool)):Prop:=match res with
 |.inl (c,j)=>∃ st,EV A (xD 1) ⟨wi ps p N R P,[],h6 ps f flt rows due first,[(3,5)]⟩=some (.ret,st)∧zbu p c j st
 |.inr (S',due')=>∃ st' rows',EV A (xD 1) ⟨wi ps p N R P,[],h6 ps f flt rows due first,[(3,5)]⟩=some (.normal,st')∧(⟨wi ps p N R P,[],h6 ps f flt rows due first,[(3,5)]⟩:St).next st'=⟨wi ps p N R P,[],h6 ps f flt rows' due' first,[(3,5)]⟩∧Zg first rows' S'
theorem zvf {ps:List zc} {p:Int} (hS:Shaped ps) (p0:0≤p) (p1:p<ps.length) {P:Int} {flt:List PV} (hf3:flt.length=3) {rows:List (List PV)} {due:List Bool} {first:List Int} (hfl:(first.length:Int)=(za ps p).Regs) {S:List (Option yr)} (hW:WOk (za ps p) S due) (hR:Zg first rows S) {a:Int} (ha:Wj due=some a):
  zvz ps (za ps p) p (za ps p).Ins.length first.length P flt rows due first (Wn ps (za ps p) S due a):=by
 obtain ⟨⟨a0,a1⟩,a2,_⟩:=zib ha
 have hPO:=hS.fine.ok p p0 p1
 have hI:=hS.fine.ins p p0 p1
 have hN:=hPO.i
 have hR0:=hPO.r0
 have hR1:=hPO.r1
 have hps:=hS.n
 obtain ⟨f,hf⟩:∃ f,za ps p=f:=⟨_,rfl⟩
 have hSn:=hW.s
 have hDn:=hW.d
 obtain ⟨s,hs⟩:=hW.due a a0 (by omega) a2
 have hsok:=hW.ok a a0 (by omega) s hs
 have hins:=hI a a0 (by omega)
 have hst:=hsok.t
 have hsg:=hsok.g
 have hsT:s.Types.length≤1048576:=by omega
 have hTl:(s.Types.length:Int)=(za ps p).Regs:=hst
 have hTf:s.Types.length=first.length:=by omega
 obtain ⟨s0,s1,s2,s3,hro⟩:=zjP hins
 have hrf:=ztH hins hro hTl
 have hwr:=zxX hins hTl
 have hxx:=(hS.size p).x a
 have hB:(za (za ps p).Ins a).Op=11→(0≤(za (za ps p).Ins a).B∧(za (za ps p).Ins a).B<ps.length)∧(za ps (za (za ps p).Ins a).B).Ups.length≤1048576∧∀ u∈(za ps (za (za ps p).Ins a).B).Ups,u.Local=true→0≤u.Index∧u.Index<s.Types.length:=fun ho=>
  ⟨ztt hins ho,(hS.size _).u,zsF (hS.ups p p0 p1 a a0 (by omega) ho) hTl⟩
 have htry:=fun ho=>zws hins hTl (i:=a) ho
 have hall:=@zj0 ps p a hins a0 (by omega) hR0 s hsok
 obtain ⟨row,hrow,hr2⟩:=hR.at_ a0 (by omega)
 rw [hs] at hr2
 obtain ⟨pp,q,rfl,hpp,hq⟩:=hr2
 have hrl:rows.length=(za ps p).Ins.length:=by rw [hR.len,hSn]
 simp only [hf] at hro hrf hwr hxx hB htry hall hrl hfl hTl hSn hDn hN hR1 hR0 hst hsok hW ⊢
 obtain ⟨nd,hnd⟩:∃ nd,za f.Ins a=nd:=⟨_,rfl⟩
 simp only [hnd] at hro hrf hwr hxx hB htry hall
 obtain ⟨due1,hdue1⟩:∃ d,due.set a.toNat false=d:=⟨_,rfl⟩
 have hd1:due1.length=f.Ins.length:=by rw [←hdue1,List.length_set];exact hDn
 have hle:=zms (ps:=ps) (f:=f) (p:=p) (N:=f.Ins.length) (R:=first.length) (P:=P) (flt:=flt) (rows:=rows) (first:=first) hDn hN
 rw [ha] at hle
 obtain ⟨tp,htp⟩:∃ tp,zQ 7 (Wf s.Types.length)=tp:=⟨_,rfl⟩
 obtain ⟨X0,hX0⟩:∃ X0,(KK s.Types s.Types.length).map (yX 7)=X0:=⟨_,rfl⟩
 obtain ⟨H2,hH2⟩:∃ H2,[.cells 1 [[zb ps]],.cells 3 [flt],.cells 9 [f.cells],.cells 3 rows,.cells 1 (bl due1),.cells 1 (yn first),.cells 5 [nd.cells]]++X0=H2:=⟨_,rfl⟩
 have hl2:7≤H2.length:=by rw [←hH2];simp
 have hH1:([.cells 1 [[zb ps]],.cells 3 [flt],.cells 9 [f.cells],.cells 3 rows,.cells 1 (bl due1),.cells 1 (yn first),.cells 5 [nd.cells]]:zd)[5]?=some (.cells 1 (yn first)):=rfl
 have hp0:=(hpp.ty hH1).frz 6
 obtain ⟨pz,hpz⟩:∃ pz,frz 8 [.cells 1 [[zb ps]],.cells 3 [flt],.cells 9 [f.cells],.cells 3 rows,.cells 1 (bl due1),.cells 1 (yn first),.cells 5 [nd.cells]] pp=pz:=⟨_,rfl⟩
 rw [hpz] at hp0
 have hcp:=zao hp0 hsT
 have hsl2:vm H2 tp s.Types:=by
  have:=(zxM s.Types).lend [.cells 1 [[zb ps]],.cells 3 [flt],.cells 9 [f.cells],.cells 3 rows,.cells 1 (bl due1),.cells 1 (yn first),.cells 5 [nd.cells]]
  simp only [List.length_cons,List.length_nil,Nat.zero_add,Nat.reduceAdd,htp,hX0,hH2] at this
  exact this
 have hfar:∀ r∈refs tp,7≤r:=fun r hr=>by
  rw [←htp] at hr
  obtain ⟨r',e,_⟩:=Wm 7 _ r hr
  omega
 have hrd:=zrB (ps:=ps) (p:=p) (nd:=nd) hsl2 hro hrf.1 hps hsT hrf.2 hxx hB
 have b2:∀ k,k<7→H2[k]?=([.cells 1 [[zb ps]],.cells 3 [flt],.cells 9 [f.cells],.cells 3 rows,.cells 1 (bl due1),.cells 1 (yn first),.cells 5 [nd.cells]]:zd)[k]?:=fun k hk=>by rw [←hH2,List.getElem?_append_left (by simpa using hk)]
 have hcq:=yN hq
 have a1':a<f.Ins.length:=by omega
 have hane:¬a=f.Ins.length:=by omega
 have hgd:(za S a).getD default=s:=by rw [hs];rfl
 have u0:=b2 0 (by omega)
 have u1:=b2 1 (by omega)
 have u2:=b2 2 (by omega)
 have u3:=b2 3 (by omega)
 have u4:=b2 4 (by omega)
 have u5:=b2 5 (by omega)
 have u6:=b2 6 (by omega)
 simp only [wi,h6,List.cons_append,List.nil_append,code,zb,zc.cells,ups,zf,zj,zm,Ins.cells,Option.getD_some] at hle hpz hH2
 simp only [List.getElem?_cons_zero,List.getElem?_cons_succ] at u0 u1 u2 u3 u4 u5 u6
 have v0:=u0
 have v2:=u2
 have v6:=u6
 simp only [zb,zc.cells,ups,zf,zj,zm,Ins.cells] at v0 v2 v6
 unfold Wn
 rw [hgd,hdue1,hnd]
 unfold kF
 have faulted:∀ (H:zd) (c j:Int) (per:zk) (ed:zV),7≤H.length→H[1]?=some (.cells 3 [flt])→per.get 4=.nils→per.get 5=.ptr 1 0 0 1→zbu p c j ⟨per,[],H.set 1 (.cells 3 [[.int .i64 c,.int .i64 p,.int .i64 j]]),ed⟩:=fun H c j per ed h1 h2 h3 h4=>
  ⟨h3,h4,List.getElem?_set_self (by omega)⟩
 have hdf:List.drop 3 flt=[]:=List.drop_eq_nil_of_le (by omega)
 cases hre:reads ps nd s.Types with
 |none=>
  rw [hre] at hrd
  obtain ⟨H3,e1,e2,e3⟩:=hrd
  have x1:H3[1]?=some (.cells 3 [flt]):=(e2 1 (by omega) (fun h=>by have:=hfar 1 h;omega)).trans u1
  have hfa:=yV 10 p a
  simp only [code,zb,zc.cells,ups,zf,zj,zm,Ins.cells] at e1
  refine ⟨_,by (simp -implicitDefEqProofs +contextual (disch:=omega) only [ud,yA,wi,h6,zo,List.cons_append,List.nil_append,code,zb,zc.cells,ups,zf,zj,zm,Ins.cells, ↓XD,XU, ↓reduceIte,sevalprocAttr,hle,hdue1,hDn,hd1,hX0,htp,hnd,hpz,hcp,hH2,a0,a1',hane,hrl,hrow,v0,v6,e1,x1,hfa,hf3,hdf])<;>rfl,?_⟩
  exact faulted H3 10 a _ _ (by omega) x1 (by simp [zk.get,zk.put]) (by simp [zk.get,zk.put])
 |some r=>
  obtain ⟨ts,tk⟩:=r
  rw [hre] at hrd
  obtain ⟨tkp,H3,e1,e2,e3,e4,e5,e6⟩:=hrd
  simp only [code,zb,zc.cells,ups,zf,zj,zm,Ins.cells] at e1
  have nf:∀ k,k<7→k∉refs tp:=fun k hk h=>by have:=hfar k h;omega
  have y1:H3[1]?=some (.cells 3 [flt]):=(e4 1 (by omega) (nf 1 (by omega))).trans u1
  have y3:H3[3]?=some (.cells 3 rows):=(e4 3 (by omega) (nf 3 (by omega))).trans u3
  have y6:=(e4 6 (by omega) (nf 6 (by omega))).trans v6
  have hsl3:=e2
  have hkl:tk.length≤4∧ts.length=s.Types.length:=⟨zuD hre,zkA hre⟩
  obtain ⟨gp,b,hch,hchb,hchg⟩:=znM (nd:=nd) hq hsg
  have hfq:=fun H=>ww hq 7 H
  have hqr:=yL hq
  simp only [Ins.cells] at hch
  cases hcg:change nd s.Guards with
  |none=>
   have hbf:b=false:=by rw [hchb,hcg];rfl
   subst hbf
   have hfa:=yV 11 p a
   refine ⟨_,by (simp -implicitDefEqProofs +contextual (disch:=omega) only [ud,yA,wi,h6,zo,List.cons_append,List.nil_append,code,zb,zc.cells,ups,zf,zj,zm,Ins.cells, ↓XD,XU, ↓reduceIte,sevalprocAttr,hle,hdue1,hDn,hd1,hX0,htp,hnd,hpz,hcp,hH2,a0,a1',hane,hrl,hrow,v0,v6,e1,hf3,hdf,y1,y3,y6,hch,hfq,hqr,hfa])<;>rfl,?_⟩
   exact faulted H3 11 a _ _ (by omega) y1 (by simp [zk.get,zk.put]) (by simp [zk.get,zk.put])
  |some gs=>
   have hbt:b=true:=by rw [hchb,hcg];rfl
   subst hbt
   have hg:=hchg gs hcg
   obtain ⟨H4,w1,w2⟩:=zpG (nd:=nd) e2 hro (by rw [hkl.2];exact hwr) (by omega)
   simp only [Ins.cells] at w1
   have z1:H4[1]?=some (.cells 3 [flt]):=(w2.old 1 (nf 1 (by omega))).trans y1
   have z3:H4[3]?=some (.cells 3 rows):=(w2.old 3 (nf 3 (by omega))).trans y3
   have z6:=(w2.old 6 (nf 6 (by omega))).trans y6
   have z5:H4[5]?=some (.cells 1 (yn first)):=(w2.old 5 (nf 5 (by omega))).trans ((e4 5 (by omega) (nf 5 (by omega))).trans u5)
   have z4:H4[4]?=some (.cells 1 (bl due1)):=(w2.old 4 (nf 4 (by omega))).trans ((e4 4 (by omega) (nf 4 (by omega))).trans u4)
   have z2:H4[2]?=some (.cells 9 [f.cells]):=(w2.old 2 (nf 2 (by omega))).trans ((e4 2 (by omega) (nf 2 (by omega))).trans u2)
   have z0:=(w2.old 0 (nf 0 (by omega))).trans ((e4 0 (by omega) (nf 0 (by omega))).trans u0)
   have zl:=w2.len
   have z2':=z2
   simp only [zc.cells,ups,zf,zj,zm,Ins.cells] at z2'
   have t4:vm H4 tkp tk:=e3.keep fun r hr=>w2.old r fun h=>by
    have:=hsl2.lt r h
    have:=e6 r hr
    omega
   obtain ⟨ts',hts'⟩:∃ ts',writes nd ts=ts':=⟨_,rfl⟩
   rw [hts'] at w2
   have hwl:ts'.length=s.Types.length:=by rw [←hts',zi2,hkl.2]
   have hpp4:=hpp.ty z5
   obtain ⟨fk,hfk⟩:∃ x,frz 8 H4 tkp=x:=⟨_,rfl⟩
   obtain ⟨fp0,hfp0⟩:∃ x,frz 8 H4 pp=x:=⟨_,rfl⟩
   obtain ⟨ft,hft⟩:∃ x,frz 8 H4 tp=x:=⟨_,rfl⟩
   have i1:=t4.isI 6
   have i2:=hpp4.frz 6
   have i3:=w2.sl.isI 6
   rw [hfk] at i1
   rw [hfp0] at i2
   rw [hft] at i3
   have h32:nd.Op=32→s.Types=ts':=fun ho=>by rw [←hts'];exact (zsg ho hre).symm
   have hkp:=zrw (nd:=nd) hq i1 i2 i3 ⟨by omega,by omega,hsT,hwl,fun x hx=>by have:=hsok.k x hx;omega⟩ h32
   simp only [Ins.cells] at hkp
   by_cases hlo:JW s.Guards tk s.Types ts'
   ·have hfa:=yV 12 p a
    simp only [hts',if_pos hlo]
    refine ⟨_,by (simp -implicitDefEqProofs +contextual (disch:=omega) only [ud,yA,wi,h6,zo,List.cons_append,List.nil_append,code,zb,zc.cells,ups,zf,zj,zm,Ins.cells, ↓XD,XU, ↓reduceIte,sevalprocAttr,hle,hdue1,hDn,hd1,hX0,htp,hnd,hpz,hcp,hH2,a0,a1',hane,hrl,hrow,v0,v6,e1,hf3,hdf,y1,y3,y6,hch,hfq,hqr,w1,z1,z3,z6,hfk,hfp0,hft,hkp,hlo,hfa])<;>rfl,?_⟩
    exact faulted H4 12 a _ _ (by omega) z1 (by simp [zk.get,zk.put]) (by simp [zk.get,zk.put])
   ·simp only [hts',if_neg hlo]
    have FA:Jw f a H4 pp q tp gp s ts' gs:=⟨hpp4,hq,.inr w2.sl,hg,a0,a1',hN⟩
    obtain ⟨fp,X,ed,k1,k2,k3⟩:=zjB FA hwl.symm (by omega) (by rw [hnd,hwl];exact hwr.c) (by rw [hnd,hwl];exact htry)
    rw [hnd] at k2
    have hfl2:=k2.len
    obtain ⟨l,hlst⟩:∃ l,wL nd a s ts' gs=l:=⟨_,rfl⟩
    rw [hlst] at k2 hfl2 ⊢
    simp only [zo,zc.cells,ups,zf,zj,zm,Ins.cells] at k1
    have hY3:=zY H4 X z3
    have hY4:=zY H4 X z4
    have hd1n:due1≠[]:=fun e=>by rw [e] at hd1;simp at hd1;omega
    have hG0:((H4++X).set 3 (.cells 3 rows)).set 4 (.cells 1 (bl due1))=H4++X:=by rw [zho hY3,zho hY4]
    have hlY:H4.length≤(H4++X).length:=by simp
    have g0:∀ r d,(((H4++X).set 3 (.cells 3 r)).set 4 (.cells 1 (bl d)))[0]?=some (.cells 1 [[zb ps]]):=fun r d=>by rw [List.getElem?_set_ne (by decide),List.getElem?_set_ne (by decide)];exact zY H4 X z0
    have g1:∀ r d,(((H4++X).set 3 (.cells 3 r)).set 4 (.cells 1 (bl d)))[1]?=some (.cells 3 [flt]):=fun r d=>by rw [List.getElem?_set_ne (by decide),List.getElem?_set_ne (by decide)];exact zY H4 X z1
    have g2:∀ r d,(((H4++X).set 3 (.cells 3 r)).set 4 (.cells 1 (bl d)))[2]?=some (.cells 9 [f.cells]):=fun r d=>by rw [List.getElem?_set_ne (by decide),List.getElem?_set_ne (by decide)];exact zY H4 X z2
    have g3:∀ r d,(((H4++X).set 3 (.cells 3 r)).set 4 (.cells 1 (bl d)))[3]?=some (.cells 3 r):=fun r d=>by rw [List.getElem?_set_ne (by decide),List.getElem?_set_self (xd hY3)]
    have g4:∀ r d,(((H4++X).set 3 (.cells 3 r)).set 4 (.cells 1 (bl d)))[4]?=some (.cells 1 (bl d)):=fun r d=>by rw [List.getElem?_set_self (by rw [List.length_set];exact xd hY4)]
    have g5:∀ r d,(((H4++X).set 3 (.cells 3 r)).set 4 (.cells 1 (bl d)))[5]?=some (.cells 1 (yn first)):=fun r d=>by rw [List.getElem?_set_ne (by decide),List.getElem?_set_ne (by decide)];exact zY H4 X z5
    have hV:zvj first f.Ins.length (H4++X).length (fun r d=>((H4++X).set 3 (.cells 3 r)).set 4 (.cells 1 (bl d))) (ed++[(3,5)]) fp l flt:=
     ⟨g1,g3,g4,g5,fun r d r'=>by rw [List.set_comm _ _ (by decide),List.set_set],fun r d d'=>by rw [List.set_set],fun r d=>by simp,fun r d=>k2.vset hY3 hY4 hd1n r d,fun e he=>by
      rcases List.mem_append.1 he with he|he
      ·exact (k3 e he).2.2
      ·simp at he;subst he;simp only;omega⟩
    have hso:kF ps nd a s=.inr l:=by unfold kF;simp only [hre,hcg,hts',if_neg hlo,hlst]
    have hlx:=hall hso
    have hl2':l.length≤2:=by rw [←hlst];exact zma _ _ _ _ _
    have hsz:∀ {s:yr},Ky f s→zsV s:=fun h=>⟨by have:=h.t;omega,by have:=h.g;omega⟩
    have hbare:bare (H4++X).length (zt ((W3 ps p f.Ins.length first.length P a tp tkp gp fp l.length 0).map fun e=>e.2))=true:=by
     have h2:=w2.sl.lt
     have h3:=t4.lt
     have h4:=k2.lt
     refine List.all_eq_true.2 fun r hr=>?_
     simp only [W3,wi,List.cons_append,List.nil_append,List.map_cons,List.map_nil,zt,refs,yL hg,List.append_nil,List.nil_append,List.mem_append,List.mem_cons,List.not_mem_nil,or_false,false_or] at hr
     simp only [decide_eq_true_eq]
     rcases hr with hr|hr|hr|hr|hr|hr|hr|hr|hr|hr
     all_goals first|omega|exact Nat.lt_of_lt_of_le (h2 _ hr) hlY|exact Nat.lt_of_lt_of_le (h3 _ hr) hlY|exact h4 _ hr
    have hvo:zo9 first f.Ins.length l 0 rows due1 S:=⟨by omega,by omega,hR,hSn,hd1,fun i s' hs'=>hsz (hW.ok i.toNat (by omega) (by
     have:i.toNat<S.length:=Classical.byContradiction fun h=>by rw [zga h] at hs';cases hs'
     omega) s' (by show S.getD ((i.toNat:Int)).toNat default=_;rw [Int.toNat_natCast];exact hs'))⟩
    obtain ⟨r,hvis,hq⟩:=zvd (ps:=ps) (p:=p) (R:=first.length) (P:=P) (a:=a) (tp:=tp) (tkp:=tkp) (gp:=gp) hf3 hV hN (by omega) (fun x hx=>⟨(hlx x hx).1,hsz (hlx x hx).2⟩) hbare hvo
    simp only [hG0,W3,wi,List.cons_append,List.nil_append,code,zb,zc.cells,ups,zf,zj,zm,Ins.cells] at hvis
    cases hv:Zw l S due1 with
    |inl j=>
     rw [hv] at hq
     obtain ⟨st,rfl,q4,q5,q1⟩:=hq
     refine ⟨st,by simp -implicitDefEqProofs +contextual (disch:=omega) only [ud,yA,wi,h6,zo,List.cons_append,List.nil_append,code,zb,zc.cells,ups,zf,zj,zm,Ins.cells, ↓XD,XU, ↓reduceIte,sevalprocAttr,hle,hdue1,hDn,hd1,hX0,htp,hnd,hpz,hcp,hH2,a0,a1',hane,hrl,hrow,v0,v6,e1,hf3,hdf,y1,y3,y6,hch,hfq,hqr,w1,z1,z3,z6,z2',hfk,hfp0,hft,hkp,hlo,k1,hfl2,hvis],q4,q5,q1⟩
    |inr sd=>
     obtain ⟨S',due'⟩:=sd
     rw [hv] at hq
     obtain ⟨rows',rfl,hR',hd'⟩:=hq
     have hb6:bare 6 (zt ((wi ps p f.Ins.length first.length P).map fun e=>e.2))=true:=by
      simp [wi,bare,zt,refs]
     have ha6:((ed++[(3,5)]).all fun e=>decide (6≤e.1)||decide (e.2<6))=true:=by
      rw [List.all_eq_true]
      intro e he
      rcases List.mem_append.1 he with he|he
      ·have:=(k3 e he).1;simp;omega
      ·simp at he;subst he;rfl
     have hf6:((ed++[(3,5)]).filter fun e=>decide (e.2<6))=[(3,5)]:=by
      rw [List.filter_append,List.filter_eq_nil_iff.2 (fun e he=>by have:=(k3 e he).2.1;simp;omega)];rfl
     have ht6:trim 6 ((wi ps p f.Ins.length first.length P).map fun e=>e.2) (((H4++X).set 3 (.cells 3 rows')).set 4 (.cells 1 (bl due'))) (ed++[(3,5)])=(h6 ps f flt rows' due' first,[(3,5)]):=by
      rw [trim,hb6,ha6]
      simp only [Bool.and_self,hf6]
      rw [zu_ (g0 rows' due') (g1 rows' due') (g2 rows' due') (g3 rows' due') (g4 rows' due') (g5 rows' due')]
     simp only [wi,h6,List.map_cons,List.map_nil] at ht6
     refine ⟨_,rows',by (simp -implicitDefEqProofs +contextual (disch:=omega) only [ud,yA,wi,h6,zo,List.cons_append,List.nil_append,code,zb,zc.cells,ups,zf,zj,zm,Ins.cells, ↓XD,XU, ↓reduceIte,sevalprocAttr,hle,hdue1,hDn,hd1,hX0,htp,hnd,hpz,hcp,hH2,a0,a1',hane,hrl,hrow,v0,v6,e1,hf3,hdf,y1,y3,y6,hch,hfq,hqr,w1,z1,z3,z6,z2',hfk,hfp0,hft,hkp,hlo,k1,hfl2,hvis,W3])<;>rfl,?_,hR'⟩
     simp [St.next,ht6]
end Go.Proofs.Tryd.Av
end
section
attribute [local congr] ite_congr
set_option maxRecDepth 10000
set_option maxHeartbeats 4000000
namespace Go.Proofs.Tryd.Av
open Go Go.Av Classical
noncomputable def kP (ps:List zc) (f:zc) (S:List (Option yr)) (due:List Bool):(Int×Int) ⊕ List (Option yr):=
 if (X6 ps f S due).1.1=0 then match z8 (zdi f (X6 ps f S due).2) 0 f.Ins.length with
  |some j=>.inl (14,j)
  |none=>.inr (X6 ps f S due).2
 else .inl (X6 ps f S due).1
def zvh (f:zc) (p:Int) (first:List Int) (x:(Int×Int) ⊕ List (Option yr)) (r:zp×St):Prop:=r.1=.ret∧match x with
 |.inl c=>zbu p c.1 c.2 r.2
 |.inr S=>∃ rows,Zg first rows S∧rows.length=f.Ins.length∧r.2.per.get 4=.sl 3 0 f.Ins.length f.Ins.length∧r.2.per.get 5=.ptr 1 0 0 1∧r.2.H[1]?=some (.cells 3 [[.int .i64 0,.int .i64 0,.int .i64 0]])∧r.2.H[3]?=some (.cells 3 rows)∧r.2.H[5]?=some (.cells 1 (yn first))
theorem zit {ps:List zc} {f:zc} {S:List (Option yr)} {due:List Bool} {a:Int} {c:Int×Int} (h:Wn ps f S due a=.inl c):¬c.1=0:=by
 unfold Wn kF at h
 split at h
 ·rename_i c' hc
  cases h
  split at hc
  ·cases hc;simp
  ·split at hc
   ·cases hc;simp
   ·split at hc
    ·cases hc;simp
    ·cases hc
 ·split at h
  ·cases h;simp
  ·cases h
theorem zxl {ps:List zc} {p:Int} (hS:Shaped ps) (p0:0≤p) (p1:p<ps.length) {P:Int} {flt:List PV} (hf3:flt.length=3) {first:List Int} (hfl:(first.length:Int)=(za ps p).Regs)
  {rows:List (List PV)} {due:List Bool} {S:List (Option yr)} (hW:WOk (za ps p) S due) (hR:Zg first rows S):
  ∃ r,EV A (.loop (xD 1)) ⟨wi ps p (za ps p).Ins.length first.length P,[],h6 ps (za ps p) flt rows due first,[(3,5)]⟩=some r∧zvh (za ps p) p first (kP ps (za ps p) S due) r:=by
 have hI:=hS.fine.ins p p0 p1
 have hPO:=hS.fine.ok p p0 p1
 have hr:=hPO.r0
 have hN:=hPO.i
 have hL:=zoL hI
 refine ZG (P:=A) (body:=(xD 1)) (fun (s:List (List PV)×List Bool×List (Option yr))=>(⟨wi ps p (za ps p).Ins.length first.length P,[],h6 ps (za ps p) flt s.1 s.2.1 first,[(3,5)]⟩:St)) (fun s=>WOk (za ps p) s.2.2 s.2.1∧Zg first s.1 s.2.2) (fun s=>XR s.2.2 s.2.1) (fun s r=>zvh (za ps p) p first (kP ps (za ps p) s.2.2 s.2.1) r) ?_ (rows,due,S) ⟨hW,hR⟩
 rintro ⟨rows,due,S⟩ ⟨hW,hR⟩
 simp only at hW hR ⊢
 cases ha:Wj due with
 |some a=>
  have h:=zvf hS p0 p1 (P:=P) hf3 hfl hW hR ha
  cases hro:Wn ps (za ps p) S due a with
  |inl c=>
   obtain ⟨c,j⟩:=c
   rw [hro] at h
   obtain ⟨st,e,q⟩:=h
   refine .inl ⟨_,e,by simp,rfl,?_⟩
   have hz:=zit hro
   unfold kP
   rw [zhu ha hro,if_neg hz]
   exact q
  |inr sd=>
   obtain ⟨S',due'⟩:=sd
   rw [hro] at h
   obtain ⟨st',rows',e1,e2,e3⟩:=h
   obtain ⟨k1,k2⟩:=zmI hI hr hW ha hro
   refine .inr ⟨(rows',due',S'),st',⟨k1,e3⟩,k2,e1,e2,fun r hq=>?_⟩
   have:kP ps (za ps p) S due=kP ps (za ps p) S' due':=by unfold kP;rw [zo5 ha hro k2]
   rw [this];exact hq
 |none=>
  have hle:=zms (ps:=ps) (f:=za ps p) (p:=p) (N:=(za ps p).Ins.length) (R:=first.length) (P:=P) (flt:=flt) (rows:=rows) (first:=first) hW.d hN
  rw [ha] at hle
  have hri:=zt_ ps (za ps p) p (za ps p).Ins.length first.length P (za ps p).Ins.length flt hf3 rows due first S hR hW.s rfl hN hL
  have hrl:rows.length=(za ps p).Ins.length:=by rw [hR.len,hW.s]
  have hDn:=hW.d
  have hdf:List.drop 3 flt=[]:=List.drop_eq_nil_of_le (by omega)
  left
  unfold kP
  rw [znd ha]
  simp only [if_true]
  cases hk:z8 (zdi (za ps p) S) 0 (za ps p).Ins.length with
  |some j=>
   rw [hk] at hri
   obtain ⟨st,e,q⟩:=hri
   simp only [wi,h6,List.cons_append,List.nil_append,code,zb,zc.cells,ups,zf,zj,zm,Ins.cells,Option.getD_none] at hle e
   refine ⟨(.ret,st),by (simp -implicitDefEqProofs +contextual (disch:=omega) only [ud,yA,wi,h6,List.cons_append,List.nil_append,code,zb,zc.cells,ups,zf,zj,zm,Ins.cells, ↓XD,XU, ↓reduceIte,sevalprocAttr,hle,hDn,hrl,e]),by simp,rfl,q⟩
  |none=>
   rw [hk] at hri
   simp only [wi,h6,List.cons_append,List.nil_append,code,zb,zc.cells,ups,zf,zj,zm,Ins.cells,Option.getD_none] at hle hri
   refine ⟨_,by (simp -implicitDefEqProofs +contextual (disch:=omega) only [ud,yA,wi,h6,List.cons_append,List.nil_append,code,zb,zc.cells,ups,zf,zj,zm,Ins.cells, ↓XD,XU, ↓reduceIte,sevalprocAttr,hle,hDn,hrl,hri,hf3,hdf])<;>rfl,by simp,rfl,rows,hR,hrl,by simp [zk.get,zk.put],by simp [zk.get,zk.put],by simp,by simp,by simp⟩
structure zhC (ps:List zc):Prop extends Shaped ps where
 head:∀ p:Int,0≤p→p<ps.length→jr (za ps p) p
 one:∀ p:Int,0≤p→p<ps.length→1≤(za ps p).Ins.length
def vq (R P:Nat):List Int:=List.replicate P 1++List.replicate (R-P) 0
theorem QS {R P:Nat} (h:P≤R):(vq R P).length=R:=by simp [vq];omega
theorem zmv {R P:Nat} (h:P<R):(vq R P).set P 1=vq R (P+1):=by
 unfold vq
 rw [List.set_append_right _ _ (by simp),List.length_replicate,Nat.sub_self,show R-P=(R-(P+1))+1 by omega,List.replicate_succ,List.set_cons_zero,List.replicate_succ',List.append_assoc]
 rfl
def yY (f:zc):List Int:=if f.Rest then (vq f.Regs.toNat f.Params.toNat).set f.Params.toNat 3 else vq f.Regs.toNat f.Params.toNat
theorem zzu (ps:List zc) (f:zc) (p:Int) (N R P:Nat) (hP:P≤R) (hR:R≤1048576) (hfP:f.Params=P) (b1 b3 b4:yf):
  EV A (.loop (xD 0)) ⟨[(0,code ps),(1,.int .i64 p),(2,.ptr 0 0 0 1),(4,.nils),(5,.ptr 1 0 0 1),(6,.ptr 2 0 0 1),(7,.sl 3 0 N N),(8,.sl 4 0 N N),(9,.sl 5 0 R R),(10,.int .i64 0)],[],[.cells 1 [[zb ps]],b1,.cells 9 [f.cells],b3,b4,.cells 1 (yn (vq R 0))],[]⟩=some (.exit 0,⟨wi ps p N R P,[],[.cells 1 [[zb ps]],b1,.cells 9 [f.cells],b3,b4,.cells 1 (yn (vq R P))],[]⟩):=by
 have key:=JJ (P:=A) (body:=(xD 0)) (fun (i:Nat)=>(⟨wi ps p N R i,[],[.cells 1 [[zb ps]],b1,.cells 9 [f.cells],b3,b4,.cells 1 (yn (vq R i))],[]⟩:St)) (fun i=>i≤P) (fun i=>P-i) (fun i=>(.exit 0,(⟨wi ps p N R P,[],[.cells 1 [[zb ps]],b1,.cells 9 [f.cells],b3,b4,.cells 1 (yn (vq R P))],[]⟩:St))) ?_ 0 (by omega)
 ·exact key
 intro i hi
 by_cases c:i<P
 ·right
  have hl:=QS (R:=R) (P:=i) (by omega)
  have hs:=zmv (R:=R) (P:=i) (by omega)
  obtain ⟨l,hlx⟩:∃ l,vq R i=l:=⟨_,rfl⟩
  rw [hlx] at hl hs
  have hs2:(yn l).set i [.int .i64 1]=yn (vq R (i+1)):=by rw [←hs];simp [yn]
  have hg:l[i]?=some (l[i]'(by omega)):=List.getElem?_eq_getElem (by omega)
  have hc1:(i:Int)<P:=by omega
  have hc2:(i:Int)<R:=by omega
  refine ⟨i+1,_,by omega,by omega,by (simp -implicitDefEqProofs +contextual (disch:=omega) only [Q3,yA,wi,zc.cells,ups,zf,zj,zm, ↓XD,XU, ↓reduceIte,sevalprocAttr,hfP,hc1,hc2,hl,hlx,hg,hs2,Int.toNat_natCast])<;>rfl,?_,rfl⟩
  simp [St.next,trim,bare,zt,refs,hfP]
 ·left
  have:i=P:=by omega
  subst this
  refine ⟨by (simp -implicitDefEqProofs +contextual (disch:=omega) only [Q3,yA,wi,zc.cells,ups,zf,zj,zm, ↓XD,XU, ↓reduceIte,sevalprocAttr,hfP,Int.lt_irrefl]),by simp⟩
def zxK (row:List PV) (o:Option yr):Prop:=match o with
 |none=>row=[.bool false,.nils,.nils]
 |some s=>∃ p q,row=zo p q∧xU p s.Types∧xF q s.Guards
structure zaj (rows:List (List PV)) (S:List (Option yr)):Prop where
 len:rows.length=S.length
 row:∀ (i:Nat) (r:List PV) (o:Option yr),rows[i]?=some r→S[i]?=some o→zxK r o
theorem Zg.frz {first:List Int} {rows:List (List PV)} {S:List (Option yr)} (h:Zg first rows S) {H:zd} (h5:H[5]?=some (.cells 1 (yn first))) (d:Nat):zaj (rows.map (·.map (Go.Av.frz (d+3) H))) S:=by
 refine ⟨by rw [List.length_map];exact h.len,fun i r o h1 h2=>?_⟩
 rw [List.getElem?_map] at h1
 cases hr:rows[i]? with
 |none=>rw [hr] at h1;cases h1
 |some r0=>
  rw [hr] at h1
  cases h1
  have:=h.row i r0 o hr h2
  cases o with
  |none=>
   have this:r0=[.bool false,.nils,.nils]:=this
   subst this;rfl
  |some s=>
   obtain ⟨p,q,rfl,hp,hq⟩:=this
   refine ⟨_,_,rfl,(hp.ty h5).frz _,?_⟩
   rw [ww hq];exact hq
noncomputable def Vk (f:zc):List (Option yr):=(List.replicate f.Ins.length none).set 0 (some ⟨yY f,[]⟩)
def U' (f:zc):List Bool:=(List.replicate f.Ins.length false).set 0 true
noncomputable def uC (ps:List zc) (p:Int):(Int×Int) ⊕ List (Option yr):=kP ps (za ps p) (Vk (za ps p)) (U' (za ps p))
theorem zbn {f:zc} {p:Int} (h:jr f p):((yY f).length:Int)=f.Regs:=by
 have h1:=h.1.1.1.1.2;have h2:=h.1.1.1.2
 unfold uQ at h2
 unfold yY
 have:((vq f.Regs.toNat f.Params.toNat).length:Int)=f.Regs:=by
  rw [QS (by split at h2<;>omega)];omega
 split
 ·simpa using this
 ·exact this
theorem zmV {f:zc} {p:Int} (h:jr f p) (h1:1≤f.Ins.length):WOk f (Vk f) (U' f):=by
 have hl:=zbn h
 have h0:=h.1.1.1.1.2
 refine ⟨by simp [Vk],by simp [U'],fun i i0 i1 s hs=>?_,fun i i0 i1 hd=>?_⟩
 ·unfold Vk at hs
  rw [show (0:Nat)=(0:Int).toNat from rfl,Yi (by omega) (by simpa using by omega) i0] at hs
  split at hs
  ·cases hs;exact ⟨hl,by simp,fun x hx=>by cases hx⟩
  ·have:=wc (l:=List.replicate f.Ins.length (none:Option yr)) i0 (by simpa using i1)
   rw [List.getElem?_replicate,if_pos (by omega)] at this
   rw [hs] at this
   cases this
 ·unfold U' at hd
  unfold Vk
  rw [show (0:Nat)=(0:Int).toNat from rfl,Yi (by omega) (by simpa using by omega) i0] at hd ⊢
  split at hd
  ·rename_i e;rw [if_pos e];exact ⟨_,rfl⟩
  ·have:=wc (l:=List.replicate f.Ins.length false) i0 (by simpa using i1)
   rw [List.getElem?_replicate,if_pos (by omega),hd] at this
   cases this
theorem zqC (f:zc):Zg (yY f) ((List.replicate f.Ins.length [PV.bool false,.nils,.nils]).set 0 (zo (.sl 5 0 (yY f).length (yY f).length) .nils)) (Vk f):=by
 refine Zg.set ⟨by simp,fun i r o h1 h2=>?_⟩ 0 ⟨_,_,rfl,.inr ⟨rfl,rfl⟩,.inr ⟨rfl,rfl⟩⟩
 rw [List.getElem?_replicate] at h1 h2
 split at h1
 ·rename_i q;rw [if_pos q] at h2;cases h1;cases h2;rfl
 ·cases h1
theorem zjF {H:zd} {id s N:Nat} {rows:List (List PV)} (h:H[id]?=some (.cells s rows)) (hn:rows.length=N) (d:Nat):Go.Av.frz (d+1) H (.sl id 0 N N)=.fz (rows.map (·.map (Go.Av.frz d H))):=by
 subst hn
 unfold Go.Av.frz
 simp only [h,BEq.rfl,Nat.zero_add,Nat.le_refl,decide_true,Bool.and_self,List.drop_zero,List.take_length]
theorem zkj {ps:List zc} (hS:zhC ps) {p:Int} (p0:0≤p) (p1:p<ps.length):match uC ps p with
  |.inl c=>EP A Vv [code ps,.int .i64 p]=some (.tup [.nils,fl3 (c.1,p,c.2)])
  |.inr S=>∃ rows,EP A Vv [code ps,.int .i64 p]=some (.tup [.fz rows,fl3 (0,0,0)])∧zaj rows S:=by
 have hh:=hS.head p p0 p1
 have hone:=hS.one p p0 p1
 have hPO:=hS.fine.ok p p0 p1
 have hps:=hS.n
 have hfl:=zbn hh
 have hN:=hPO.i
 have hr0:=hPO.r0
 have hr1:=hPO.r1
 have hW:=zmV hh hone
 have hR:=zqC (za ps p)
 obtain ⟨r,e,q⟩:=zxl (P:=(za ps p).Params) (flt:=[.int .i64 0,.int .i64 0,.int .i64 0]) hS.toShaped p0 p1 rfl hfl hW hR
 have hP:=hh.1.1.1.2
 have hPR:(za ps p).Params.toNat≤(za ps p).Regs.toNat:=by unfold uQ at hP;split at hP<;>omega
 have hpar:(za ps p).Params=((za ps p).Params.toNat:Int):=by omega
 have hb0:=zzu ps (za ps p) p (za ps p).Ins.length (za ps p).Regs.toNat (za ps p).Params.toNat hPR (by omega) hpar (.cells 3 [[.int .i64 0,.int .i64 0,.int .i64 0]]) (.cells 3 (List.replicate (za ps p).Ins.length [.bool false,.nils,.nils])) (.cells 1 (bl (List.replicate (za ps p).Ins.length false)))
 rw [←hpar] at hb0
 have hrl:(yY (za ps p)).length=(za ps p).Regs.toNat:=by omega
 rw [hrl] at e hR
 change match uC ps p with
  |.inl c=>_
  |.inr S=>_
 have hwe:uC ps p=kP ps (za ps p) (Vk (za ps p)) (U' (za ps p)):=rfl
 rw [←hwe] at q
 generalize hf:za ps p=f at hh hone hPO hfl hN hr0 hr1 hW hR e q hP hPR hpar hb0 hrl
 have hfp:(List.map zc.cells ps)[p.toNat]?=some f.cells:=by
  rw [List.getElem?_map,wc p0 p1,hf];rfl
 have b3:vq f.Regs.toNat 0=List.replicate f.Regs.toNat 0:=by simp [vq]
 have hRl:((f.Regs.toNat:Nat):Int)=f.Regs:=by omega
 have hol:=QS hPR
 have hil:(yn (vq f.Regs.toNat f.Params.toNat)).length=f.Regs.toNat:=by simpa using hol
 rw [b3] at hb0
 simp only [wi,h6,bl,yn,U',code,zb,zc.cells,ups,zf,zj,zm,Ins.cells] at hb0 e hfp
 have hR1:=hP
 have hR2:f.Rest=true→f.Params<f.Regs:=fun h=>by rw [uQ,if_pos h] at hP;omega
 simp only [zo] at e
 obtain ⟨N,hNN⟩:∃ N,f.Ins.length=N:=⟨_,rfl⟩
 simp only [hNN] at e hb0 q hone
 have hN1:N≤1048576:=by omega
 have hN0:0<N:=by omega
 have hk1:(List.replicate N [PV.bool false,PV.nils,PV.nils]).length=N:=by simp
 have hk2:(List.replicate N false).length=N:=by simp
 have hk3:(List.replicate N [PV.bool false,PV.nils,PV.nils])[0]?=some [PV.bool false,PV.nils,PV.nils]:=by rw [List.getElem?_replicate,if_pos hN0]
 have hk4:(List.replicate N false)[0]?=some false:=by rw [List.getElem?_replicate,if_pos hN0]
 obtain ⟨x,st⟩:=r
 obtain ⟨rfl,q⟩:=q
 cases hw:uC ps p with
 |inl c=>
  rw [hw] at q
  obtain ⟨q1,q2,q3⟩:=q
  show EP A Vv [code ps,.int .i64 p]=some (.tup [.nils,fl3 (c.1,p,c.2)])
  cases hrest:f.Rest with
  |false=>
   have hfo:yY f=vq f.Regs.toNat f.Params.toNat:=by rw [yY,if_neg (by simp [hrest])]
   rw [hfo] at e
   have hR2':=hR2
   simp only [hrest] at hb0 e hfp hR2'
   simp only [true_implies,reduceCtorEq,false_implies] at hR2'
   have hfl':=hfl
   simp -implicitDefEqProofs +contextual (disch:=omega) only [Vq,VF,yA,zo,code,zb,zc.cells,ups,zf,zj,zm,Ins.cells, ↓XD,XU, ↓reduceIte,sevalprocAttr,p0,p1,hf,hNN,hrest,hb0,hr0,hRl,hk3,hk4,e,q1,q2,q3,hR1.1,hR2',hol,hfl']
  |true=>
   have hfo:yY f=(vq f.Regs.toNat f.Params.toNat).set f.Params.toNat 3:=by rw [yY,if_pos hrest]
   rw [hfo] at e
   have hR2':=hR2
   simp only [hrest] at hb0 e hfp hR2'
   simp only [true_implies,reduceCtorEq,false_implies] at hR2'
   have hfl':=hfl
   simp -implicitDefEqProofs +contextual (disch:=omega) only [Vq,VF,yA,zo,code,zb,zc.cells,ups,zf,zj,zm,Ins.cells, ↓XD,XU, ↓reduceIte,sevalprocAttr,p0,p1,hf,hNN,hrest,hb0,hr0,hRl,hk3,hk4,e,q1,q2,q3,hR1.1,hR2',hol,hfl']
 |inr S=>
  rw [hw] at q
  obtain ⟨rows,q0,hrn,q1,q2,q3,q4,q5⟩:=q
  simp only [hNN] at q1 q2 q3 q4 q5 hrn
  have hfz:Go.Av.frz 7 st.H (.sl 3 0 N N)=.fz (rows.map (·.map (Go.Av.frz (3+3) st.H))):=zjF q4 hrn 6
  have hfz8:Go.Av.frz 8 st.H (.tup [.sl 3 0 N N,.agg [.int .i64 0,.int .i64 0,.int .i64 0]])=.tup [.fz (rows.map (·.map (Go.Av.frz (3+3) st.H))),.agg [.int .i64 0,.int .i64 0,.int .i64 0]]:=by
   rw [←hfz];rfl
  refine ⟨rows.map (·.map (Go.Av.frz (3+3) st.H)),?_,q0.frz q5 3⟩
  cases hrest:f.Rest with
  |false=>
   have hfo:yY f=vq f.Regs.toNat f.Params.toNat:=by rw [yY,if_neg (by simp [hrest])]
   rw [hfo] at e
   have hR2':=hR2
   simp only [hrest] at hb0 e hfp hR2'
   simp only [true_implies,reduceCtorEq,false_implies] at hR2'
   have hfl':=hfl
   simp -implicitDefEqProofs +contextual (disch:=omega) only [Vq,VF,yA,zo,code,zb,zc.cells,ups,zf,zj,zm,Ins.cells, ↓XD,XU, ↓reduceIte,sevalprocAttr,p0,p1,hf,hNN,hrest,hb0,hr0,hRl,hk3,hk4,e,q1,q2,q3,hfz,hfz8,hR1.1,hR2',hol,hfl']
  |true=>
   have hfo:yY f=(vq f.Regs.toNat f.Params.toNat).set f.Params.toNat 3:=by rw [yY,if_pos hrest]
   rw [hfo] at e
   have hR2':=hR2
   simp only [hrest] at hb0 e hfp hR2'
   simp only [true_implies,reduceCtorEq,false_implies] at hR2'
   have hfl':=hfl
   simp -implicitDefEqProofs +contextual (disch:=omega) only [Vq,VF,yA,zo,code,zb,zc.cells,ups,zf,zj,zm,Ins.cells, ↓XD,XU, ↓reduceIte,sevalprocAttr,p0,p1,hf,hNN,hrest,hb0,hr0,hRl,hk3,hk4,e,q1,q2,q3,hfz,hfz8,hR1.1,hR2',hol,hfl']
theorem zhh {σ ρ:Type} {g:Int→σ→σ ⊕ ρ}:∀ (m:Nat) (i:Int) (a b:σ),v8 g m i a=.inl b→∀ k,i≤k→k<i+m→∃ s s',g k s=.inl s'
 |0,i,a,b,h,k,h1,h2=>by omega
 |m+1,i,a,b,h,k,h1,h2=>by
  rw [v8] at h
  cases hg:g i a with
  |inr r=>rw [hg] at h;cases h
  |inl a'=>
   rw [hg] at h
   by_cases e:k=i
   ·subst e;exact ⟨a,a',hg⟩
   ·exact zhh m (i+1) a' b h k (by omega) (by omega)
theorem zqa {ps:List zc} (h:(parts ps).1=0):(∀ p:Int,0≤p→p<ps.length→jr (za ps p) p)∧∀ p:Int,0≤p→p<ps.length→1≤(za ps p).Ins.length:=by
 rw [parts] at h
 by_cases hB:Big ps
 ·rw [if_pos hB] at h;exact absurd h (by decide)
 rw [if_neg hB] at h
 cases h1:uS ps with
 |some f=>rw [h1] at h;exact absurd h (by dsimp only;decide)
 |none=>
  rw [h1] at h
  cases h2:j_ ps with
  |some f=>rw [h2] at h;exact absurd h (by dsimp only;decide)
  |none=>
   rw [h2] at h
   cases h3:kU ps with
   |some f=>rw [h3] at h;exact absurd h (by dsimp only;decide)
   |none=>
    rw [h3] at h
    cases h4:XJ ps with
    |some f=>rw [h4] at h;exact absurd h (by dsimp only;decide)
    |none=>
     refine ⟨fun p p0 p1=>Classical.not_not.1 (y7.1 h1 p p0 p1),fun p p0 p1=>?_⟩
     have h5:v4 ps p=none:=Classical.not_not.1 (y7.1 h4 p p0 p1)
     unfold v4 at h5
     split at h5
     ·cases h5
     ·omega
theorem ziL {ps:List zc} (hb:ps.length≤1048576) (hs:uK ps) (h:(xW ps).1=0):zhC ps:=by
 rw [xW] at h
 by_cases h1:(parts ps).1=0
 ·rw [if_neg (by simpa using h1)] at h
  obtain ⟨m1,m2⟩:=zqa h1
  refine ⟨⟨hb,zdE hs h1,hs,fun p p0 p1 i i0 i1 ho=>?_⟩,m1,m2⟩
  cases hm:Qb ps with
  |inr r=>rw [hm] at h;exact absurd h (by simp)
  |inl l=>
   obtain ⟨s,s',e1⟩:=zhh _ _ _ _ hm p (by omega) (by omega)
   cases hi:zcb ps p s with
   |inr n=>simp only [Vh,hi] at e1;cases e1
   |inl s2=>
    obtain ⟨t,t',e2⟩:=zhh _ _ _ _ hi i (by omega) (by omega)
    simp only [JV,if_pos ho] at e2
    split at e2
    ·cases e2
    ·rename_i hn
     exact Classical.not_not.1 (fun hc=>hn (.inr hc))
 ·rw [if_pos (by simpa using h1)] at h
  exact absurd h h1
noncomputable def JD (ps:List zc):Option Int:=z8 (fun p=>(uC ps p).isLeft=true) 0 ps.length
noncomputable def vw (ps:List zc) (p:Int):Int×Int×Int:=match uC ps p with|.inl c=>(c.1,p,c.2)|.inr _=>(0,0,0)
noncomputable def XO (ps:List zc):Int×Int×Int:=if (xW ps).1≠0 then xW ps else match JD ps with
 |some p=>vw ps p
 |none=>(0,0,0)
theorem zl9 {ps:List zc} {f:zc} {S:List (Option yr)} {due:List Bool} {c:Int×Int} (h:kP ps f S due=.inl c):¬c.1=0:=by
 unfold kP at h
 split at h
 ·split at h
  ·cases h;simp
  ·cases h
 ·rename_i hz
  cases h;exact hz
theorem zzk (ps:List zc) (hS:zhC ps):match z8 (fun (j:Int)=>(uC ps j).isLeft=true) 0 ps.length with|some j=>∃ st,EV A (.loop (Yw 0)) (⟨[(0,code ps),(1,.ptr 0 0 0 1),(2,.ptr 1 0 0 1),(3,.ptr 2 0 0 1),(15,.int .i64 ps.length),(16,.int .i64 (0))],[],[.cells 1 [[zb ps]],.cells 3 [[.int .i64 0,.int .i64 0,.int .i64 0]],.cells 3 [[.int .i64 0,.int .i64 0,.int .i64 0]]],[]⟩:St)=some (.ret,st)∧yc 2 1 3 (wu (vw ps j).1 (vw ps j).2.1 (vw ps j).2.2) st|none=>EV A (.loop (Yw 0)) (⟨[(0,code ps),(1,.ptr 0 0 0 1),(2,.ptr 1 0 0 1),(3,.ptr 2 0 0 1),(15,.int .i64 ps.length),(16,.int .i64 (0))],[],[.cells 1 [[zb ps]],.cells 3 [[.int .i64 0,.int .i64 0,.int .i64 0]],.cells 3 [[.int .i64 0,.int .i64 0,.int .i64 0]]],[]⟩:St)=some (zp.exit 0,(⟨[(0,code ps),(1,.ptr 0 0 0 1),(2,.ptr 1 0 0 1),(3,.ptr 2 0 0 1),(15,.int .i64 ps.length),(16,.int .i64 (ps.length))],[],[.cells 1 [[zb ps]],.cells 3 [[.int .i64 0,.int .i64 0,.int .i64 0]],.cells 3 [[.int .i64 0,.int .i64 0,.int .i64 0]]],[]⟩:St)):=by
 have hb:=hS.n
 refine yt (fun i=>(⟨[(0,code ps),(1,.ptr 0 0 0 1),(2,.ptr 1 0 0 1),(3,.ptr 2 0 0 1),(15,.int .i64 ps.length),(16,.int .i64 i)],[],[.cells 1 [[zb ps]],.cells 3 [[.int .i64 0,.int .i64 0,.int .i64 0]],.cells 3 [[.int .i64 0,.int .i64 0,.int .i64 0]]],[]⟩:St)) (fun (j:Int)=>(uC ps j).isLeft=true) (fun (j:Int) (st:St)=>yc 2 1 3 (wu (vw ps j).1 (vw ps j).2.1 (vw ps j).2.2) st) (zp.exit 0,(⟨[(0,code ps),(1,.ptr 0 0 0 1),(2,.ptr 1 0 0 1),(3,.ptr 2 0 0 1),(15,.int .i64 ps.length),(16,.int .i64 (ps.length))],[],[.cells 1 [[zb ps]],.cells 3 [[.int .i64 0,.int .i64 0,.int .i64 0]],.cells 3 [[.int .i64 0,.int .i64 0,.int .i64 0]]],[]⟩:St)) (0) (ps.length) ?_ ?_ ?_ (0) (by omega) (by omega)
 ·intro i hi hn hp
  have hw:=zkj hS hi hn
  cases hk:uC ps i with
  |inl c=>rw [hk] at hp;exact absurd rfl hp
  |inr S=>
   rw [hk] at hw
   obtain ⟨rows,hw,_⟩:=hw
   simp only [code,zb] at hw
   refine ⟨_,by (simp -implicitDefEqProofs +contextual (disch:=omega) only [Xl,uB,code,zb, ↓XD,XU, ↓reduceIte,sevalprocAttr,hn,hw])<;>rfl,by simp [St.next,trim,bare,zt,refs]⟩
 ·intro i hi hn hp
  have hw:=zkj hS hi hn
  cases hk:uC ps i with
  |inr S=>rw [hk] at hp;exact absurd hp (by simp)
  |inl c=>
   have hz:¬c.1=0:=zl9 hk
   rw [hk] at hw
   simp only [code,zb] at hw
   refine ⟨_,by (simp -implicitDefEqProofs +contextual (disch:=omega) only [Xl,uB,code,zb, ↓XD,XU, ↓reduceIte,sevalprocAttr,hn,hw,hz])<;>rfl,by simp [yc,zk.get,zk.put,vw,hk]⟩
 ·rintro i hi rfl
  refine ⟨by simp -implicitDefEqProofs +contextual (disch:=omega) only [Xl,uB, ↓XD,XU, ↓reduceIte,sevalprocAttr,zt,Int.lt_irrefl],by simp⟩
theorem zg' (ps:List zc) (hb:ps.length≤1048576) (ht:vr ps≤1048576) (hs:uK ps):EP A QO [code ps]=some (fl3 (XO ps)):=by
 have e1:=zk1 ps hb ht hs
 rw [XO]
 by_cases h1:(xW ps).1=0
 ·have hS:=ziL hb hs h1
  have hz:xW ps=(0,0,0):=by
   revert h1;unfold xW;split
   ·intro h;rename_i h2;exact absurd h h2
   ·split
    ·intro h;simp at h
    ·split
     ·intro h;simp at h
     ·intro _;rfl
  rw [hz] at e1
  rw [if_neg (by simpa using h1)]
  have e2:=zzk ps hS
  simp only [code,zb] at e1 e2
  cases h2:JD ps with
  |some p=>
   unfold JD at h2
   rw [h2] at e2
   obtain ⟨st,e2,g1,g2⟩:=e2
   simp -implicitDefEqProofs +contextual (disch:=omega) only [V1,Ug,uB,code,zb, ↓XD,XU, ↓reduceIte,sevalprocAttr,e1,e2,g1,g2]
  |none=>
   unfold JD at h2
   rw [h2] at e2
   simp -implicitDefEqProofs +contextual (disch:=omega) only [V1,Ug,uB,code,zb, ↓XD,XU, ↓reduceIte,sevalprocAttr,e1,e2]
 ·rw [if_pos (by simpa using h1)]
  simp only [code,zb] at e1
  simp -implicitDefEqProofs +contextual (disch:=omega) only [V1,Ug,uB,code,zb, ↓XD,XU, ↓reduceIte,sevalprocAttr,e1,h1]
def yO (o:Int):Int:=if o=6 then 2 else if o=22∨o=27∨o=28 then 3 else if o=42 then 0 else 1
theorem ztr (o:Int):EP A zfp [.int .i64 o]=some (.int .i64 (yO o)):=by
 unfold yO
 by_cases h6:o=6
 ·subst h6;simp -implicitDefEqProofs +contextual (disch:=omega) only [Yf,Yp,k_, ↓XD,XU, ↓reduceIte,sevalprocAttr]
 by_cases h22:o=22
 ·subst h22;simp -implicitDefEqProofs +contextual (disch:=omega) only [Yf,Yp,k_, ↓XD,XU, ↓reduceIte,sevalprocAttr]
 by_cases h27:o=27
 ·subst h27;simp -implicitDefEqProofs +contextual (disch:=omega) only [Yf,Yp,k_, ↓XD,XU, ↓reduceIte,sevalprocAttr]
 by_cases h28:o=28
 ·subst h28;simp -implicitDefEqProofs +contextual (disch:=omega) only [Yf,Yp,k_, ↓XD,XU, ↓reduceIte,sevalprocAttr]
 by_cases h42:o=42
 ·subst h42;simp -implicitDefEqProofs +contextual (disch:=omega) only [Yf,Yp,k_, ↓XD,XU, ↓reduceIte,sevalprocAttr]
 simp -implicitDefEqProofs +contextual (disch:=omega) only [Yf,Yp,k_, ↓XD,XU, ↓reduceIte,sevalprocAttr,h6,h22,h27,h28,h42]
theorem zl5 (a:Int):EP A QL [.int .i64 a]=some (yq [a]):=by
 simp -implicitDefEqProofs +contextual (disch:=omega) only [zg5,zhq,zgg,yq,zT,zH,xA, ↓zy,yg, ↓XD,XU, ↓reduceIte,sevalprocAttr]
theorem zx5 (p q:PV) (gs:List Gd) (k:Int) (r:Bool) (h:xF q gs) (hb:gs.length≤1048576):match z8 (fun (j:Int)=>(za gs j).Try=true∧k<(za gs j).Keep) 0 gs.length with|some j=>∃ st,EV A (.loop (X7 0)) (⟨[(0,.int .i64 k),(1,.fp [.bool r,p,q] 0),(3,.bool false),(7,q),(8,.int .i64 gs.length),(9,.int .i64 (0))],[],[],[]⟩:St)=some (.ret,st)∧st.per.get 3=.bool false|none=>EV A (.loop (X7 0)) (⟨[(0,.int .i64 k),(1,.fp [.bool r,p,q] 0),(3,.bool false),(7,q),(8,.int .i64 gs.length),(9,.int .i64 (0))],[],[],[]⟩:St)=some (zp.exit 0,(⟨[(0,.int .i64 k),(1,.fp [.bool r,p,q] 0),(3,.bool false),(7,q),(8,.int .i64 gs.length),(9,.int .i64 (gs.length))],[],[],[]⟩:St)):=by
 refine yt (fun i=>(⟨[(0,.int .i64 k),(1,.fp [.bool r,p,q] 0),(3,.bool false),(7,q),(8,.int .i64 gs.length),(9,.int .i64 i)],[],[],[]⟩:St)) (fun (j:Int)=>(za gs j).Try=true∧k<(za gs j).Keep) (fun (j:Int) (st:St)=>st.per.get 3=.bool false) (zp.exit 0,(⟨[(0,.int .i64 k),(1,.fp [.bool r,p,q] 0),(3,.bool false),(7,q),(8,.int .i64 gs.length),(9,.int .i64 (gs.length))],[],[],[]⟩:St)) (0) (gs.length) ?_ ?_ ?_ (0) (by omega) (by omega)
 ·intro i hi hn hp
  have hi':=wg h [] .i64 i hi hn;have hi2:=fun H=>wg h H .i64 i hi hn;simp only [Gd.cells] at hi2
  by_cases c:(za gs i).Try=true
  ·have c2:¬k<(za gs i).Keep:=fun h2=>hp ⟨c,h2⟩
   refine ⟨_,by (simp -implicitDefEqProofs +contextual (disch:=omega) only [ZM,jE, ↓XD,XU, ↓reduceIte,sevalprocAttr,hi2,c,c2,hn])<;>rfl,by simp [St.next,trim,bare,zt,refs,yL h]⟩
  ·refine ⟨_,by (simp -implicitDefEqProofs +contextual (disch:=omega) only [ZM,jE, ↓XD,XU, ↓reduceIte,sevalprocAttr,hi2,c,hn])<;>rfl,by simp [St.next,trim,bare,zt,refs,yL h]⟩
 ·intro i hi hn hp
  have hi':=wg h [] .i64 i hi hn;have hi2:=fun H=>wg h H .i64 i hi hn;simp only [Gd.cells] at hi2
  obtain ⟨c,c2⟩:=hp
  refine ⟨_,by (simp -implicitDefEqProofs +contextual (disch:=omega) only [ZM,jE, ↓XD,XU, ↓reduceIte,sevalprocAttr,hi2,c,c2,hn])<;>rfl,by simp [zk.get,zk.put]⟩
 ·rintro i hi rfl
  refine ⟨by simp -implicitDefEqProofs +contextual (disch:=omega) only [ZM,jE, ↓XD,XU, ↓reduceIte,sevalprocAttr,yL h,Int.lt_irrefl],by simp⟩
theorem wO {p q:PV} {gs:List Gd} {r:Bool} (h:xF q gs) (k:Int) (hb:gs.length≤1048576):EP A zcd [.int .i64 k,.fp [.bool r,p,q] 0]=some (.bool (decide (vZ gs k))):=by
 have hl:=zx5 p q gs k r h hb
 have hlen:=wx h
 cases hs:z8 (fun j=>(za gs j).Try=true∧k<(za gs j).Keep) 0 gs.length with
 |none=>
  rw [hs] at hl
  have ha:vZ gs k:=fun g hg ht=>by
   obtain ⟨j,j0,j1,e⟩:=Y' hg
   have:=y7.1 hs j j0 j1
   rw [e] at this
   by_cases c:k<g.Keep
   ·exact absurd ⟨ht,c⟩ this
   ·omega
  simp -implicitDefEqProofs +contextual (disch:=omega) only [zbW,zcG,jE, ↓XD,XU, ↓reduceIte,sevalprocAttr,hlen,hl,ha]
 |some j=>
  rw [hs] at hl
  obtain ⟨st,hl,hg⟩:=hl
  obtain ⟨j0,j1,⟨ht,c⟩,_⟩:=xH.1 hs
  have ha:¬vZ gs k:=fun ha=>by
   have:=ha _ (jc j0 j1) ht
   omega
  simp -implicitDefEqProofs +contextual (disch:=omega) only [zbW,zcG,jE, ↓XD,XU, ↓reduceIte,sevalprocAttr,hlen,hl,hg,ha]
theorem zmp (p q p' q':PV) (s s':yr) (t1:xU p s.Types) (t2:xF q s.Guards) (t3:xU p' s'.Types) (t4:xF q' s'.Guards) (hb:s.Types.length≤1048576) (hl:s'.Types.length=s.Types.length):match z8 (fun (j:Int)=>¬za s.Types j=za s'.Types j) 0 s.Types.length with|some j=>∃ st,EV A (.loop (v_ 0)) (⟨[(0,.agg (zo p q)),(1,.agg (zo p' q')),(2,.ptr 0 0 0 1),(3,.ptr 1 0 0 1),(4,.bool false),(9,.int .i64 s.Types.length),(10,.int .i64 (0))],[],[.cells 3 [zo p q],.cells 3 [zo p' q']],[]⟩:St)=some (.ret,st)∧st.per.get 4=.bool false|none=>EV A (.loop (v_ 0)) (⟨[(0,.agg (zo p q)),(1,.agg (zo p' q')),(2,.ptr 0 0 0 1),(3,.ptr 1 0 0 1),(4,.bool false),(9,.int .i64 s.Types.length),(10,.int .i64 (0))],[],[.cells 3 [zo p q],.cells 3 [zo p' q']],[]⟩:St)=some (zp.exit 0,(⟨[(0,.agg (zo p q)),(1,.agg (zo p' q')),(2,.ptr 0 0 0 1),(3,.ptr 1 0 0 1),(4,.bool false),(9,.int .i64 s.Types.length),(10,.int .i64 (s.Types.length))],[],[.cells 3 [zo p q],.cells 3 [zo p' q']],[]⟩:St)):=by
 refine yt (fun i=>(⟨[(0,.agg (zo p q)),(1,.agg (zo p' q')),(2,.ptr 0 0 0 1),(3,.ptr 1 0 0 1),(4,.bool false),(9,.int .i64 s.Types.length),(10,.int .i64 i)],[],[.cells 3 [zo p q],.cells 3 [zo p' q']],[]⟩:St)) (fun (j:Int)=>¬za s.Types j=za s'.Types j) (fun (j:Int) (st:St)=>st.per.get 4=.bool false) (zp.exit 0,(⟨[(0,.agg (zo p q)),(1,.agg (zo p' q')),(2,.ptr 0 0 0 1),(3,.ptr 1 0 0 1),(4,.bool false),(9,.int .i64 s.Types.length),(10,.int .i64 (s.Types.length))],[],[.cells 3 [zo p q],.cells 3 [zo p' q']],[]⟩:St)) (0) (s.Types.length) ?_ ?_ ?_ (0) (by omega) (by omega)
 ·intro i hi hn hp
  have hi1:=fun H=>ve t1 H .i64 i hi hn;have hi2:=fun H=>ve t3 H .i64 i hi (by omega)
  refine ⟨_,by (simp -implicitDefEqProofs +contextual (disch:=omega) only [Xj,wk,zo, ↓XD,XU, ↓reduceIte,sevalprocAttr,hi1,hi2,hp,hn])<;>rfl,by simp [St.next,trim,bare,zt,refs,yM t1,yM t3,yL t2,yL t4]⟩
 ·intro i hi hn hp
  have hi1:=fun H=>ve t1 H .i64 i hi hn;have hi2:=fun H=>ve t3 H .i64 i hi (by omega)
  refine ⟨_,by (simp -implicitDefEqProofs +contextual (disch:=omega) only [Xj,wk,zo, ↓XD,XU, ↓reduceIte,sevalprocAttr,hi1,hi2,hp,hn])<;>rfl,by simp [zk.get,zk.put]⟩
 ·rintro i hi rfl
  refine ⟨by simp -implicitDefEqProofs +contextual (disch:=omega) only [Xj,wk, ↓XD,XU, ↓reduceIte,sevalprocAttr,zo,Int.lt_irrefl],by simp⟩
theorem ztY (p q p' q':PV) (s s':yr) (t1:xU p s.Types) (t2:xF q s.Guards) (t3:xU p' s'.Types) (t4:xF q' s'.Guards) (hb:s.Guards.length≤1048576) (hl:s'.Guards.length=s.Guards.length):match z8 (fun (j:Int)=>¬za s.Guards j=za s'.Guards j) 0 s.Guards.length with|some j=>∃ st,EV A (.loop (v_ 1)) (⟨[(0,.agg (zo p q)),(1,.agg (zo p' q')),(2,.ptr 0 0 0 1),(3,.ptr 1 0 0 1),(4,.bool false),(9,.int .i64 s.Types.length),(10,.int .i64 s.Types.length),(34,.int .i64 s.Guards.length),(35,.int .i64 (0))],[],[.cells 3 [zo p q],.cells 3 [zo p' q']],[]⟩:St)=some (.ret,st)∧st.per.get 4=.bool false|none=>EV A (.loop (v_ 1)) (⟨[(0,.agg (zo p q)),(1,.agg (zo p' q')),(2,.ptr 0 0 0 1),(3,.ptr 1 0 0 1),(4,.bool false),(9,.int .i64 s.Types.length),(10,.int .i64 s.Types.length),(34,.int .i64 s.Guards.length),(35,.int .i64 (0))],[],[.cells 3 [zo p q],.cells 3 [zo p' q']],[]⟩:St)=some (zp.exit 2,(⟨[(0,.agg (zo p q)),(1,.agg (zo p' q')),(2,.ptr 0 0 0 1),(3,.ptr 1 0 0 1),(4,.bool false),(9,.int .i64 s.Types.length),(10,.int .i64 s.Types.length),(34,.int .i64 s.Guards.length),(35,.int .i64 (s.Guards.length))],[],[.cells 3 [zo p q],.cells 3 [zo p' q']],[]⟩:St)):=by
 refine yt (fun i=>(⟨[(0,.agg (zo p q)),(1,.agg (zo p' q')),(2,.ptr 0 0 0 1),(3,.ptr 1 0 0 1),(4,.bool false),(9,.int .i64 s.Types.length),(10,.int .i64 s.Types.length),(34,.int .i64 s.Guards.length),(35,.int .i64 i)],[],[.cells 3 [zo p q],.cells 3 [zo p' q']],[]⟩:St)) (fun (j:Int)=>¬za s.Guards j=za s'.Guards j) (fun (j:Int) (st:St)=>st.per.get 4=.bool false) (zp.exit 2,(⟨[(0,.agg (zo p q)),(1,.agg (zo p' q')),(2,.ptr 0 0 0 1),(3,.ptr 1 0 0 1),(4,.bool false),(9,.int .i64 s.Types.length),(10,.int .i64 s.Types.length),(34,.int .i64 s.Guards.length),(35,.int .i64 (s.Guards.length))],[],[.cells 3 [zo p q],.cells 3 [zo p' q']],[]⟩:St)) (0) (s.Guards.length) ?_ ?_ ?_ (0) (by omega) (by omega)
 ·intro i hi hn hp
  have hi1:=fun H=>wg t2 H .i64 i hi hn;have hi2:=fun H=>wg t4 H .i64 i hi (by omega);have hq:=zh2 (za s.Guards i) (za s'.Guards i);simp only [Gd.cells] at hi1 hi2 hq
  refine ⟨_,by (simp -implicitDefEqProofs +contextual (disch:=omega) only [Xk,wk,zo, ↓XD,XU, ↓reduceIte,sevalprocAttr,hi1,hi2,hq,hp,hn])<;>rfl,by simp [St.next,trim,bare,zt,refs,yM t1,yM t3,yL t2,yL t4]⟩
 ·intro i hi hn hp
  have hi1:=fun H=>wg t2 H .i64 i hi hn;have hi2:=fun H=>wg t4 H .i64 i hi (by omega);have hq:=zh2 (za s.Guards i) (za s'.Guards i);simp only [Gd.cells] at hi1 hi2 hq
  refine ⟨_,by (simp -implicitDefEqProofs +contextual (disch:=omega) only [Xk,wk,zo, ↓XD,XU, ↓reduceIte,sevalprocAttr,hi1,hi2,hq,hp,hn])<;>rfl,by simp [zk.get,zk.put]⟩
 ·rintro i hi rfl
  refine ⟨by simp -implicitDefEqProofs +contextual (disch:=omega) only [Xk,wk, ↓XD,XU, ↓reduceIte,sevalprocAttr,zo,Int.lt_irrefl],by simp⟩
theorem zl6 {p q p' q':PV} {s s':yr} (t1:xU p s.Types) (t2:xF q s.Guards) (t3:xU p' s'.Types) (t4:xF q' s'.Guards) (h1:s.Types.length≤1048576) (h2:s.Guards.length≤1048576) (h3:s'.Types.length≤1048576) (h4:s'.Guards.length≤1048576) (e1':s'.Types.length=s.Types.length):EP A QM [.agg (zo p q),.agg (zo p' q')]=some (.bool (decide (s=s'))):=by
 have l1:=Ut t1
 have l2:=wx t2
 have l3:=Ut t3
 have l4:=wx t4
 have c1:=uH t1
 have c2:=yN t2
 have c3:=uH t3
 have c4:=yN t4
 have k1:=jM t1
 have k2:=xf t2
 have k3:=jM t3
 have k4:=xf t4
 have e1:(s.Types.length:Int)=s'.Types.length:=by omega
 by_cases e2:(s.Guards.length:Int)=s'.Guards.length
 ·have a0:=zmp p q p' q' s s' t1 t2 t3 t4 h1 (by omega)
  have a1:=ztY p q p' q' s s' t1 t2 t3 t4 h2 (by omega)
  have ext:∀ {α:Type} [Inhabited α] {l l':List α},(l.length:Int)=l'.length→z8 (fun j=>¬za l j=za l' j) 0 l.length=none→l=l':=by
   intro α _ l l' hl hs
   refine List.ext_getElem? fun k=>?_
   by_cases hk:k<l.length
   ·have:=Classical.not_not.1 (y7.1 hs k (by omega) (by omega))
    have u1:=wc (l:=l) (i:=(k:Int)) (by omega) (by omega)
    have u2:=wc (l:=l') (i:=(k:Int)) (by omega) (by omega)
    rw [Int.toNat_natCast] at u1 u2
    rw [u1,u2,this]
   ·rw [List.getElem?_eq_none (by omega),List.getElem?_eq_none (by omega)]
  cases s0:z8 (fun j=>¬za s.Types j=za s'.Types j) 0 s.Types.length with
  |some j=>
   rw [s0] at a0
   obtain ⟨st,a0,hg⟩:=a0
   have hne:¬s=s':=fun e=>by
    obtain ⟨_,_,h,_⟩:=xH.1 s0
    exact h (by rw [e])
   simp only [zo,e1,e2] at a0
   simp -implicitDefEqProofs +contextual (disch:=omega) only [kD,kI,wk,zo,zD, ↓XD,XU, ↓reduceIte,sevalprocAttr,l1,l2,l3,l4,c1,c2,c3,c4,k1,k2,k3,k4,e1,e2,a0,hg,hne]
  |none=>
   rw [s0] at a0
   have t0:=ext e1 s0
   cases s1:z8 (fun j=>¬za s.Guards j=za s'.Guards j) 0 s.Guards.length with
   |some j=>
    rw [s1] at a1
    obtain ⟨st,a1,hg⟩:=a1
    have hne:¬s=s':=fun e=>by
     obtain ⟨_,_,h,_⟩:=xH.1 s1
     exact h (by rw [e])
    simp only [zo,e1,e2] at a0 a1
    simp -implicitDefEqProofs +contextual (disch:=omega) only [kD,kI,wk,zo,zD, ↓XD,XU, ↓reduceIte,sevalprocAttr,l1,l2,l3,l4,c1,c2,c3,c4,k1,k2,k3,k4,e1,e2,a0,a1,hg,hne]
   |none=>
    rw [s1] at a1
    have t9:=ext e2 s1
    have he:s=s':=by cases s;cases s';simp only at t0 t9;rw [t0,t9]
    simp only [zo,e1,e2] at a0 a1
    simp -implicitDefEqProofs +contextual (disch:=omega) only [kD,kI,wk,zo,zD, ↓XD,XU, ↓reduceIte,sevalprocAttr,l1,l2,l3,l4,c1,c2,c3,c4,k1,k2,k3,k4,e1,e2,a0,a1,he]
 ·have hne:¬s=s':=fun e=>e2 (by rw [e])
  have a0:=zmp p q p' q' s s' t1 t2 t3 t4 h1 (by omega)
  cases s0:z8 (fun j=>¬za s.Types j=za s'.Types j) 0 s.Types.length with
  |some j=>
   rw [s0] at a0
   obtain ⟨st,a0,hg⟩:=a0
   simp only [zo,e1] at a0
   simp -implicitDefEqProofs +contextual (disch:=omega) only [kD,kI,wk,zo,zD, ↓XD,XU, ↓reduceIte,sevalprocAttr,l1,l2,l3,l4,c1,c2,c3,c4,k1,k2,k3,k4,e1,e2,a0,hg,hne]
  |none=>
   rw [s0] at a0
   simp only [zo,e1] at a0
   simp -implicitDefEqProofs +contextual (disch:=omega) only [kD,kI,wk,zo,zD, ↓XD,XU, ↓reduceIte,sevalprocAttr,l1,l2,l3,l4,c1,c2,c3,c4,k1,k2,k3,k4,e1,e2,a0,hne]
noncomputable def xr (n:Ins) (a:Int):List Int:=
 if n.Op=1∨n.Op=3∨n.Op=28∨n.Op=29∨n.Op=30∨(n.Op=18∧n.B=12) then []
 else if n.Op=19 then [n.A]
 else if n.Op=41 then [n.B]
 else if n.Op=20∨n.Op=21∨n.Op=38∨n.Op=39 then [a+1,n.B]
 else if n.Op=31 then [a+1,n.A]
 else [a+1]
theorem zaK (n:Ins) (a y:Int):y∈xr n a↔y∈xV n a:=by
 unfold xr xV
 repeat' split
 all_goals simp [or_comm]
theorem zio (n:Ins) (a:Int):(xr n a).length≤2:=by
 unfold xr
 repeat' split
 all_goals simp
theorem zh5 {nd:Ins} {a:Int} (a0:0≤a) (a1:a<1048576):∃ st,EV A jK ⟨[(0,.agg nd.cells),(1,.int .i64 a)],[],[],[]⟩=some (.ret,st)∧st.ed=[]∧vm st.H (st.per.get 4) (xr nd a):=by
 obtain ⟨o,A',B,C,D⟩:=nd
 by_cases g1:o=1
 ·subst g1
  refine ⟨_,by (simp -implicitDefEqProofs +contextual (disch:=omega) only [wj,xY,Ins.cells,zD,zT, ↓zy,yg, ↓XD,XU, ↓reduceIte,sevalprocAttr,a0])<;>rfl,rfl,.inl ⟨rfl,by simp [xr]⟩⟩
 by_cases g3:o=3
 ·subst g3
  refine ⟨_,by (simp -implicitDefEqProofs +contextual (disch:=omega) only [wj,xY,Ins.cells,zD,zT, ↓zy,yg, ↓XD,XU, ↓reduceIte,sevalprocAttr,a0])<;>rfl,rfl,.inl ⟨rfl,by simp [xr]⟩⟩
 by_cases g28:o=28
 ·subst g28
  refine ⟨_,by (simp -implicitDefEqProofs +contextual (disch:=omega) only [wj,xY,Ins.cells,zD,zT, ↓zy,yg, ↓XD,XU, ↓reduceIte,sevalprocAttr,a0])<;>rfl,rfl,.inl ⟨rfl,by simp [xr]⟩⟩
 by_cases g29:o=29
 ·subst g29
  refine ⟨_,by (simp -implicitDefEqProofs +contextual (disch:=omega) only [wj,xY,Ins.cells,zD,zT, ↓zy,yg, ↓XD,XU, ↓reduceIte,sevalprocAttr,a0])<;>rfl,rfl,.inl ⟨rfl,by simp [xr]⟩⟩
 by_cases g30:o=30
 ·subst g30
  refine ⟨_,by (simp -implicitDefEqProofs +contextual (disch:=omega) only [wj,xY,Ins.cells,zD,zT, ↓zy,yg, ↓XD,XU, ↓reduceIte,sevalprocAttr,a0])<;>rfl,rfl,.inl ⟨rfl,by simp [xr]⟩⟩
 by_cases g18:o=18
 ·subst g18
  by_cases hB:B=12
  ·subst hB
   refine ⟨_,by (simp -implicitDefEqProofs +contextual (disch:=omega) only [wj,xY,Ins.cells,zD,zT, ↓zy,yg, ↓XD,XU, ↓reduceIte,sevalprocAttr,a0])<;>rfl,rfl,.inl ⟨rfl,by simp [xr]⟩⟩
  ·refine ⟨_,by (simp -implicitDefEqProofs +contextual (disch:=omega) only [wj,xY,Ins.cells,zD,zT, ↓zy,yg, ↓XD,XU, ↓reduceIte,sevalprocAttr,a0,hB])<;>rfl,rfl,.inr ⟨1,by simp [xr,zk.get,zk.put,hB],by simp [xr,hB]⟩⟩
 by_cases g19:o=19
 ·subst g19
  refine ⟨_,by (simp -implicitDefEqProofs +contextual (disch:=omega) only [wj,xY,Ins.cells,zD,zT, ↓zy,yg, ↓XD,XU, ↓reduceIte,sevalprocAttr,a0])<;>rfl,rfl,.inr ⟨1,by simp [xr,zk.get,zk.put],by simp [xr]⟩⟩
 by_cases g41:o=41
 ·subst g41
  refine ⟨_,by (simp -implicitDefEqProofs +contextual (disch:=omega) only [wj,xY,Ins.cells,zD,zT, ↓zy,yg, ↓XD,XU, ↓reduceIte,sevalprocAttr,a0])<;>rfl,rfl,.inr ⟨1,by simp [xr,zk.get,zk.put],by simp [xr]⟩⟩
 by_cases g20:o=20
 ·subst g20
  refine ⟨_,by (simp -implicitDefEqProofs +contextual (disch:=omega) only [wj,xY,Ins.cells,zD,zT, ↓zy,yg, ↓XD,XU, ↓reduceIte,sevalprocAttr,a0])<;>rfl,rfl,.inr ⟨1,by simp [xr,zk.get,zk.put],by simp [xr]⟩⟩
 by_cases g21:o=21
 ·subst g21
  refine ⟨_,by (simp -implicitDefEqProofs +contextual (disch:=omega) only [wj,xY,Ins.cells,zD,zT, ↓zy,yg, ↓XD,XU, ↓reduceIte,sevalprocAttr,a0])<;>rfl,rfl,.inr ⟨1,by simp [xr,zk.get,zk.put],by simp [xr]⟩⟩
 by_cases g38:o=38
 ·subst g38
  refine ⟨_,by (simp -implicitDefEqProofs +contextual (disch:=omega) only [wj,xY,Ins.cells,zD,zT, ↓zy,yg, ↓XD,XU, ↓reduceIte,sevalprocAttr,a0])<;>rfl,rfl,.inr ⟨1,by simp [xr,zk.get,zk.put],by simp [xr]⟩⟩
 by_cases g39:o=39
 ·subst g39
  refine ⟨_,by (simp -implicitDefEqProofs +contextual (disch:=omega) only [wj,xY,Ins.cells,zD,zT, ↓zy,yg, ↓XD,XU, ↓reduceIte,sevalprocAttr,a0])<;>rfl,rfl,.inr ⟨1,by simp [xr,zk.get,zk.put],by simp [xr]⟩⟩
 by_cases g31:o=31
 ·subst g31
  refine ⟨_,by (simp -implicitDefEqProofs +contextual (disch:=omega) only [wj,xY,Ins.cells,zD,zT, ↓zy,yg, ↓XD,XU, ↓reduceIte,sevalprocAttr,a0])<;>rfl,rfl,.inr ⟨1,by simp [xr,zk.get,zk.put],by simp [xr]⟩⟩
 refine ⟨_,by (simp -implicitDefEqProofs +contextual (disch:=omega) only [wj,xY,Ins.cells,zD,zT, ↓zy,yg, ↓XD,XU, ↓reduceIte,sevalprocAttr,a0,g1,g3,g28,g29,g30,g18,g19,g41,g20,g21,g38,g39,g31])<;>rfl,rfl,.inr ⟨1,by simp [xr,zk.get,zk.put,g1,g3,g28,g29,g30,g18,g19,g41,g20,g21,g38,g39,g31],by simp [xr,g1,g3,g28,g29,g30,g18,g19,g41,g20,g21,g38,g39,g31]⟩⟩
theorem zkk {nd:Ins} {a:Int} (a0:0≤a) (a1:a<1048576):∃ p X,ES A Vu [.agg nd.cells,.int .i64 a] []=some (p,X,[])∧vm X p (xr nd a):=by
 obtain ⟨st,h1,h2,h3⟩:=zh5 (nd:=nd) a0 a1
 rcases h3 with ⟨h3,h4⟩|⟨id,h3,h4⟩
 ·refine ⟨.nils,[],?_,.inl ⟨rfl,h4⟩⟩
  rw [zeh,h1]
  simp -implicitDefEqProofs +contextual (disch:=omega) only [↓XD,XU, ↓reduceIte,sevalprocAttr,h2,h3]
  simp [trim,bare,zt,refs]
 ·refine ⟨_,st.H,?_,.inr ⟨id,rfl,h4⟩⟩
  rw [zeh,h1]
  simp -implicitDefEqProofs +contextual (disch:=omega) only [↓XD,XU, ↓reduceIte,sevalprocAttr,h2,h3]
  simp [trim,bare,zt,refs]
theorem zry {nd:Ins} {a:Int} (a0:0≤a) (a1:a<1048576):∃ p,EP A Vu [.agg nd.cells,.int .i64 a]=some p∧xU p (xr nd a):=by
 obtain ⟨st,h1,h2,h3⟩:=zh5 (nd:=nd) a0 a1
 refine ⟨frz 8 st.H (st.per.get 4),?_,h3.isI 6⟩
 rw [zkQ,h1]
 rfl
def zuZ (sz:Nat) (H:zd):PV→PV→Option (PV×zd×zV)
 |.fz rows,.int _ h=>match decide (0≤(0:Int))&&decide (0≤h)&&decide (h≤rows.length)&&rows.all (fun r=>r.length==sz) with
  |true=>some (.fz ((rows.drop (0:Int).toNat).take (h.toNat-(0:Int).toNat)),H,[])
  |false=>none
 |.sl id off len tot,.int _ h=>match decide (0≤(0:Int))&&decide (0≤h)&&decide (h≤len)&&xS H sz (.sl id off len tot) with
  |true=>some (.sl id (off+(0:Int).toNat) (h.toNat-(0:Int).toNat) tot,H,[])
  |false=>none
 |_,_=>none
theorem zbX {P:xp} (sz:Nat) (x h:zx) (st:St):zq P.glob (CL P) st (.slice sz x none (some h))=zuZ sz st.H (x.get P.glob st) (h.get P.glob st):=by
 show (match x.get P.glob st,kL P.glob st 0 none with
  |.fz rows,some l=>match kL P.glob st rows.length (some h) with
   |some h=>match decide (0≤l)&&decide (l≤h)&&decide (h≤rows.length)&&rows.all (fun r=>r.length==sz) with
    |true=>some (PV.fz ((rows.drop l.toNat).take (h.toNat-l.toNat)),st.H,[])
    |false=>none
   |none=>none
  |.sl id off len tot,some l=>match kL P.glob st len (some h) with
   |some h=>match decide (0≤l)&&decide (l≤h)&&decide (h≤len)&&xS st.H sz (.sl id off len tot) with
    |true=>some (PV.sl id (off+l.toNat) (h.toNat-l.toNat) tot,st.H,[])
    |false=>none
   |none=>none
  |_,_=>none)=_
 simp only [kL]
 cases x.get P.glob st<;>cases h.get P.glob st<;>rfl
theorem zjZ {sz:Nat} {H:zd} {id len tot:Nat} {k:IntKind} {h:Int} (h0:0≤h) (h1:h≤len) (hs:xS H sz (.sl id 0 len tot)=true):zuZ sz H (.sl id 0 len tot) (.int k h)=some (.sl id 0 h.toNat tot,H,[]):=by
 have:(decide (0≤(0:Int))&&decide (0≤h)&&decide (h≤len)&&xS H sz (.sl id 0 len tot))=true:=by simp [h0,h1,hs]
 simp only [zuZ,this]
 rfl
structure Stk (b0 b1:yf) (H:zd) (p:PV) (l:List Int):Prop where
 h0:H[0]?=some b0
 h1:H[1]?=some b1
 sl:(p=.nils∧l=[])∨∃ (id:Nat) (rest:List Int),p=.sl id 0 l.length (l.length+rest.length)∧H[id]?=some (.cells 1 (yn (l++rest)))∧2≤id
theorem Stk.len {b0 b1:yf} {H:zd} {p:PV} {l:List Int} (h:Stk b0 b1 H p l):kS p=some (.int .i64 l.length):=by
 rcases h.sl with ⟨rfl,rfl⟩|⟨id,rest,rfl,_,_⟩<;>simp [kS]
theorem zvP {H:zd} {id:Nat} {l rest q:List Int} (h:H[id]?=some (.cells 1 (yn (l++rest)))) (hb:l.length≤4000000) (hq:q.length≤2):
  ∃ rest',xe H 1 8 (.sl id 0 l.length (l.length+rest.length)) (yn q)=some (.sl id 0 (l.length+q.length) (l.length+q.length+rest'.length),H.set id (.cells 1 (yn (l++q++rest'))),[]):=by
 have he:∀ (m:Nat),((yn q).map (wD m)).flatten=[]:=fun m=>by
  rw [List.flatten_eq_nil_iff]
  intro x hx
  obtain ⟨r,hr,rfl⟩:=List.mem_map.1 hx
  simp [wD,zuE q r hr]
 have c1:(l.length+rest.length==(yn (l++rest)).length&&(1:Nat)==1&&decide (0+l.length≤l.length+rest.length)&&decide ((0+l.length+(yn q).length)*8≤35184372088832))=true:=by
  simp;omega
 by_cases c:0+l.length+(yn q).length≤l.length+rest.length
 ·have c2:decide (0+l.length+(yn q).length≤l.length+rest.length)=true:=by simpa using c
  simp only [List.length_map,Nat.zero_add] at c
  refine ⟨rest.drop q.length,?_⟩
  simp only [xe,h,c1,c2,he]
  have e1:(l++rest).take l.length=l:=List.take_left
  have e2:(l++rest).drop (l.length+q.length)=rest.drop q.length:=by rw [List.drop_append];simp
  simp only [Nat.zero_add,List.length_map, ←List.map_take, ←List.map_drop,e1,e2, ←List.map_append,List.length_drop]
  congr 3
  omega
 ·have c2:decide (0+l.length+(yn q).length≤l.length+rest.length)=false:=by simpa using c
  refine ⟨[],?_⟩
  simp only [xe,h,c1,c2,he]
  have e1:(l++rest).take l.length=l:=List.take_left
  simp only [List.length_map, ←List.map_take,e1, ←List.map_append,List.length_nil,Nat.add_zero,List.append_nil]
theorem zdy {p:PV} {l:List Int} (h:xU p l) (H:zd):uh H p=some (yn l)∧xS H 1 p=true:=by
 rcases h with rfl|⟨rfl,rfl⟩
 ·exact ⟨rfl,by simp [xS,yq]⟩
 ·exact ⟨rfl,rfl⟩
abbrev Qv (f:zc) (sv:PV) (N:Nat) (i:Int) (p:PV):zk:=[(0,.agg f.cells),(1,sv),(2,.ptr 0 0 0 1),(4,.int .i64 0),(11,.int .i64 N),(12,.int .i64 i),(5,.int .i64 i),(6,.sl 1 0 N N),(7,p)]
def zlE (f:zc) (sv:PV) (i:Int) (r:zp×St):Prop:=(∃ p H,r=(.exit 2,(⟨Qv f sv f.Ins.length i p,[],H,[]⟩:St))∧H[0]?=some (.cells 9 [f.cells])∧1≤H.length∧¬Kx f i)∨(∃ st,r=(.ret,st)∧st.per.get 4=.int .i64 i∧Kx f i)
structure zov (f:zc) (a:Int) (H:zd) (p:PV) (seen:List Bool) (l:List Int):Prop where
 stk:Stk (.cells 9 [f.cells]) (.cells 1 (bl seen)) H p l
 dfs:Dfs f a seen l
 few:l.length+3*JF seen≤3*f.Ins.length+2
theorem zzj {f:zc} {sv:PV} {a:Int} (hL:ZB f) (hb:f.Ins.length≤1048576) {H:zd} {p:PV} {seen:List Bool} {l:List Int} (h:zov f a H p seen l):
  ∃ r,EV A (.loop (je 1)) ⟨Qv f sv f.Ins.length a p,[],H,[]⟩=some r∧zlE f sv a r:=by
 refine ZG (P:=A) (body:=(je 1)) (fun (s:zd×PV×List Bool×List Int)=>(⟨Qv f sv f.Ins.length a s.2.1,[],s.1,[]⟩:St)) (fun s=>zov f a s.1 s.2.1 s.2.2.1 s.2.2.2) (fun s=>3*JF s.2.2.1+s.2.2.2.length) (fun _ r=>zlE f sv a r) ?_ (H,p,seen,l) h
 rintro ⟨H,p,seen,l⟩ ⟨ho,hB,hf⟩
 simp only at ho hB hf ⊢
 have hlen:=ho.len
 have g0:=ho.h0
 have g1:=ho.h1
 have hsn:=hB.n
 have hH:=xd g1
 have htr:∀ (H':zd),H'.length=H.length→∀ roots,trim H.length roots H' []=(H',[]):=fun H' e roots=>by rw [←e];exact Zb (by simp) roots
 rcases ho.sl with ⟨rfl,rfl⟩|⟨id,rest,rfl,hid,id2⟩
 ·left
  refine ⟨_,by (simp -implicitDefEqProofs +contextual (disch:=omega) only [Zu,w_,Qv, ↓XD,XU, ↓reduceIte,sevalprocAttr,hlen])<;>rfl,by simp,.inl ⟨.nils,H,rfl,g0,by omega,hB.end_⟩⟩
 ·rcases List.eq_nil_or_concat l with rfl|⟨l',k,rfl⟩
  ·left
   refine ⟨_,by (simp -implicitDefEqProofs +contextual (disch:=omega) only [Zu,w_,Qv, ↓XD,XU, ↓reduceIte,sevalprocAttr,hlen])<;>rfl,by simp,.inl ⟨_,H,rfl,g0,by omega,hB.end_⟩⟩
  ·rw [List.concat_eq_append] at *
   obtain ⟨m,hm⟩:∃ m,l'.length=m:=⟨_,rfl⟩
   have hn:(l'++[k]).length=m+1:=by simp [hm]
   obtain ⟨n,hn2⟩:∃ n,m+1=n:=⟨_,rfl⟩
   rw [hn2] at hn
   obtain ⟨L,hL2⟩:∃ L,l'++[k]++rest=L:=⟨_,rfl⟩
   have hLl:L.length=n+rest.length:=by rw [←hL2,List.length_append,hn]
   have hLk:za L m=k:=by
    rw [←hL2,za,List.getD,Int.toNat_natCast, ←hm]
    simp
   have hLm:L[m]?=some k:=by rw [←hL2, ←hm];simp
   have hm1:(n:Int)-1=m:=by omega
   have hml:(m:Int)<L.length:=by omega
   rw [hn] at hlen
   rw [hL2] at hid
   rw [hn] at hf ⊢
   obtain ⟨tot,htot⟩:∃ t,n+rest.length=t:=⟨_,rfl⟩
   rw [htot] at hLl ⊢
   have hszs:xS H 1 (.sl id 0 n tot)=true:=by simp [xS,hid]
   have hsl:=zjZ (k:=.i64) (h:=(m:Int)) (by omega) (by omega) hszs
   rw [Int.toNat_natCast] at hsl
   have hn0:0<(n:Int):=by omega
   obtain ⟨k0,k1⟩:=hB.rng k (by simp)
   have hpop:Stk (.cells 9 [f.cells]) (.cells 1 (bl seen)) H (.sl id 0 m tot) l':=⟨g0,g1,.inr ⟨id,k::rest,by rw [hm, ←htot, ←hn2,List.length_cons];congr 1;omega,by rw [hid, ←hL2];simp,id2⟩⟩
   have hw:IntKind.i64.wrap ((n:Int)-1)=m:=by rw [hm1];exact zsQ (by omega) (by omega)
   simp only [zc.cells,ups,zf,zj,zm] at g0
   by_cases e:k=a
   ·left
    refine ⟨_,by (simp -implicitDefEqProofs +contextual (disch:=omega) only [Zu,w_,Qv, ↓zbX, ↓XD,XU, ↓reduceIte,sevalprocAttr,hid,g0,g1,hn0,hm1,hml,hLm,hLl,hsl,eq_true e])<;>rfl,by simp,.inr ⟨_,rfl,by simp [zk.get,zk.put],hB.hit e⟩⟩
   ·have hfew:l'.length+3*JF seen≤3*f.Ins.length+2:=by omega
    right
    cases hs:za seen k with
    |true=>
     refine ⟨(H,.sl id 0 m tot,seen,l'),_,⟨hpop,hB.skip hs,hfew⟩,by simp only;omega,by (simp -implicitDefEqProofs +contextual (disch:=omega) only [Zu,w_,Qv, ↓zbX, ↓XD,XU, ↓reduceIte,sevalprocAttr,hid,g0,g1,hn0,hm1,hml,hLm,hLl,hsl,eq_false e,k0,k1,hsn,hs])<;>rfl,by simp [St.next,htr H rfl],fun _ h=>h⟩
    |false=>
     have hs2:¬za seen k=true:=by simp [hs]
     obtain ⟨q,e1,e2⟩:=zry (nd:=za f.Ins k) (a:=k) k0 (by omega)
     have h2:=zio (za f.Ins k) k
     obtain ⟨r1,r2⟩:=zdy e2 (H.set 1 (.cells 1 (bl (seen.set k.toNat true))))
     have hset:(H.set 1 (.cells 1 (bl (seen.set k.toNat true))))[id]?=H[id]?:=List.getElem?_set_ne (by omega)
     have hid':(H.set 1 (.cells 1 (bl (seen.set k.toNat true))))[id]?=some (.cells 1 (yn (l'++([k]++rest)))):=by rw [hset,hid, ←hL2,List.append_assoc]
     have hd:=zoz k0 (by omega) hs2
     obtain ⟨rest',hap⟩:=zvP hid' (by omega) h2
     have hlr:l'.length+([k]++rest).length=tot:=by rw [←htot, ←hn2, ←hm];simp;omega
     rw [hlr,hm] at hap
     have hm2:=hB.more hL e hs2 (xr (za f.Ins k) k) (zaK _ _)
     have hst:Stk (.cells 9 [f.cells]) (.cells 1 (bl (seen.set k.toNat true))) ((H.set 1 (.cells 1 (bl (seen.set k.toNat true)))).set id (.cells 1 (yn (l'++xr (za f.Ins k) k++rest')))) (.sl id 0 (m+(xr (za f.Ins k) k).length) (m+(xr (za f.Ins k) k).length+rest'.length)) (l'++xr (za f.Ins k) k):=by
      refine ⟨?_,?_,.inr ⟨id,rest',by rw [List.length_append,hm],?_,id2⟩⟩
      ·rw [List.getElem?_set_ne (by omega),List.getElem?_set_ne (by decide)];exact ho.h0
      ·rw [List.getElem?_set_ne (by omega),List.getElem?_set_self hH]
      ·rw [List.getElem?_set_self (by rw [List.length_set];exact xd hid)]
     have q0:(H.set 1 (.cells 1 (bl (seen.set k.toNat true))))[0]?=H[0]?:=List.getElem?_set_ne (by decide)
     rw [g0] at q0
     simp only [Ins.cells,bl] at e1 r1 r2 hap q0
     refine ⟨(_,_,seen.set k.toNat true,l'++xr (za f.Ins k) k),_,⟨hst,hm2,by simp only [List.length_append];omega⟩,by simp only [List.length_append];omega,by (simp -implicitDefEqProofs +contextual (disch:=omega) only [Zu,w_,Qv, ↓zbX, ↓zE,zz, ↓XD,XU, ↓reduceIte,sevalprocAttr,hid,g0,g1,hn0,hm1,hml,hLm,hLl,hsl,eq_false e,k0,k1,hsn,hs,q0,e1,r1,r2,hap])<;>rfl,?_,fun _ h=>h⟩
     simp [St.next,htr]
theorem zrl {f:zc} {a:Int} (hL:ZB f) (a0:0≤a) (a1:a<f.Ins.length):Dfs f a (List.replicate f.Ins.length false) (xr (za f.Ins a) a):=
 ⟨by simp,fun y hy=>.single ((zaK _ _ _).1 hy),fun y hy=>hL a a0 a1 y ((zaK _ _ _).1 hy),fun x x0 x1 hx=>(by rw [zij] at hx;cases hx),fun y hy=>.inl ((zaK _ _ _).2 hy)⟩
theorem zaj.at_ {rows:List (List PV)} {S:List (Option yr)} (h:zaj rows S) {i:Int} (i0:0≤i) (i1:i<S.length):∃ r,rows[i.toNat]?=some r∧zxK r (za S i):=by
 have hl:=h.len
 have h1:rows[i.toNat]?=some (rows[i.toNat]'(by omega)):=List.getElem?_eq_getElem (by omega)
 exact ⟨_,h1,h.row _ _ _ h1 (wc i0 i1)⟩
theorem zmc {sz:Nat} {H:zd} {rows:List (List PV)} {k:IntKind} {i:Int} {row:List PV} (h0:0≤i) (h:rows[i.toNat]?=some row) (hl:row.length=sz):wW sz H (.fz rows) (.int k i)=some (.fp row 0):=by
 subst hl
 simp [wW,h0,h]
theorem zoM {f:zc} {sv:PV} {a:Int} (hL:ZB f) (hb:f.Ins.length≤1048576) (a0:0≤a) (a1:a<f.Ins.length) {sp:PV} {X:zd} (h:vm X sp (xr (za f.Ins a) a)):
  ∃ r,EV A (.loop (je 1)) ⟨Qv f sv f.Ins.length a (zQ 2 sp),[],[.cells 9 [f.cells],.cells 1 (bl (List.replicate f.Ins.length false))]++X.map (yX 2),[]⟩=some r∧zlE f sv a r:=by
 refine zzj hL hb (l:=xr (za f.Ins a) a) ⟨⟨rfl,rfl,?_⟩,zrl hL a0 a1,by have:=zio (za f.Ins a) a;rw [zgn];omega⟩
 have h2:=h.lend [.cells 9 [f.cells],.cells 1 (bl (List.replicate f.Ins.length false))]
 have hfar:∀ r∈refs (zQ 2 sp),2≤r:=fun r hr=>by obtain ⟨r',e,_⟩:=Wm 2 sp r hr;omega
 rcases h2 with h2|⟨id,e1,e2⟩
 ·exact .inl h2
 ·have e1:zQ 2 sp=.sl id 0 (xr (za f.Ins a) a).length (xr (za f.Ins a) a).length:=e1
  exact .inr ⟨id,[],by rw [e1];rfl,by rw [List.append_nil];exact e2,hfar id (by rw [e1];simp [refs])⟩
theorem ztX (f:zc) (rows:List (List PV)) (S:List (Option yr)) (hR:zaj rows S) (hS:S.length=f.Ins.length) (hb:f.Ins.length≤1048576) (hL:ZB f):match z8 (fun (j:Int)=>zdi f S j) 0 f.Ins.length with|some j=>∃ st,EV A (.loop (je 0)) (⟨[(0,.agg f.cells),(1,.fz rows),(2,.ptr 0 0 0 1),(4,.int .i64 0),(11,.int .i64 f.Ins.length),(12,.int .i64 (0))],[],[.cells 9 [f.cells]],[]⟩:St)=some (.ret,st)∧st.per.get 4=.int .i64 j|none=>EV A (.loop (je 0)) (⟨[(0,.agg f.cells),(1,.fz rows),(2,.ptr 0 0 0 1),(4,.int .i64 0),(11,.int .i64 f.Ins.length),(12,.int .i64 (0))],[],[.cells 9 [f.cells]],[]⟩:St)=some (zp.exit 0,(⟨[(0,.agg f.cells),(1,.fz rows),(2,.ptr 0 0 0 1),(4,.int .i64 0),(11,.int .i64 f.Ins.length),(12,.int .i64 (f.Ins.length))],[],[.cells 9 [f.cells]],[]⟩:St)):=by
 have hrl:rows.length=f.Ins.length:=by rw [hR.len,hS]
 refine yt (fun i=>(⟨[(0,.agg f.cells),(1,.fz rows),(2,.ptr 0 0 0 1),(4,.int .i64 0),(11,.int .i64 f.Ins.length),(12,.int .i64 i)],[],[.cells 9 [f.cells]],[]⟩:St)) (fun (j:Int)=>zdi f S j) (fun (j:Int) (st:St)=>st.per.get 4=.int .i64 j) (zp.exit 0,(⟨[(0,.agg f.cells),(1,.fz rows),(2,.ptr 0 0 0 1),(4,.int .i64 0),(11,.int .i64 f.Ins.length),(12,.int .i64 (f.Ins.length))],[],[.cells 9 [f.cells]],[]⟩:St)) (0) (f.Ins.length) ?_ ?_ ?_ (0) (by omega) (by omega)
 ·intro i hi hn hp
  obtain ⟨row,hr1,hr2⟩:=hR.at_ hi (by omega);obtain ⟨sp,X,e1,h1⟩:=zkk (nd:=za f.Ins i) hi (by omega);simp only [Ins.cells] at e1;obtain ⟨r,e2,hq⟩:=zoM (sv:=.fz rows) hL hb hi (by omega:i<f.Ins.length) h1;simp only [Qv,bl,zc.cells,ups,zf,zj,zm,List.cons_append,List.nil_append] at e2
  cases hs:za S i with
  |none=>
   rw [hs] at hr2
   have hr2:row=[.bool false,.nils,.nils]:=hr2
   subst hr2
   have hx:=fun H=>zmc (H:=H) (k:=.i64) hi hr1 (by rfl:_=3)
   refine ⟨_,by (simp -implicitDefEqProofs +contextual (disch:=omega) only [Xt,w_,zc.cells,ups,zf,zj,zm, ↓XD,XU, ↓reduceIte,sevalprocAttr,hx,hrl,hn])<;>rfl,by simp [St.next,trim,bare,zt,refs]⟩
  |some s=>
   rw [hs] at hr2
   obtain ⟨p',q',rfl,_,_⟩:=hr2
   have hx:=fun H=>zmc (H:=H) (k:=.i64) hi hr1 (by rfl:_=3)
   simp only [zo] at hx
   have hnr:¬Kx f i:=fun h=>hp ⟨by rw [hs];simp,h⟩
   rcases hq with ⟨p',H',rfl,g0,g1,hq⟩|⟨st,rfl,hg,hq⟩
   ·have ht:H'.take 1=[.cells 9 [f.cells]]:=by
     cases H' with
     |nil=>cases g0
     |cons b H'=>cases g0;rfl
    refine ⟨_,by (simp -implicitDefEqProofs +contextual (disch:=omega) only [Xt,w_,zo,zD,zc.cells,ups,zf,zj,zm, ↓XD,XU, ↓reduceIte,sevalprocAttr,hx,hrl,hn,e1,e2])<;>rfl,by simp [St.next,trim,bare,zt,refs,ht]⟩
   ·exact absurd hq hnr
 ·intro i hi hn hp
  obtain ⟨row,hr1,hr2⟩:=hR.at_ hi (by omega);obtain ⟨sp,X,e1,h1⟩:=zkk (nd:=za f.Ins i) hi (by omega);simp only [Ins.cells] at e1;obtain ⟨r,e2,hq⟩:=zoM (sv:=.fz rows) hL hb hi (by omega:i<f.Ins.length) h1;simp only [Qv,bl,zc.cells,ups,zf,zj,zm,List.cons_append,List.nil_append] at e2
  obtain ⟨hp1,hp2⟩:=hp
  obtain ⟨s,hs⟩:=Option.ne_none_iff_exists'.1 hp1
  rw [hs] at hr2
  obtain ⟨p',q',rfl,_,_⟩:=hr2
  have hx:=fun H=>zmc (H:=H) (k:=.i64) hi hr1 (by rfl:_=3)
  simp only [zo] at hx
  rcases hq with ⟨p',H',rfl,g0,g1,hq⟩|⟨st,rfl,hg,hq⟩
  ·exact absurd hp2 hq
  ·refine ⟨_,by (simp -implicitDefEqProofs +contextual (disch:=omega) only [Xt,w_,zo,zD,zc.cells,ups,zf,zj,zm, ↓XD,XU, ↓reduceIte,sevalprocAttr,hx,hrl,hn,e1,e2])<;>rfl,hg⟩
 ·rintro i hi rfl
  refine ⟨by simp -implicitDefEqProofs +contextual (disch:=omega) only [Xt,w_, ↓XD,XU, ↓reduceIte,sevalprocAttr,zt,Int.lt_irrefl],by simp⟩
noncomputable def zmH (f:zc) (S:List (Option yr)):Int:=(z8 (zdi f S) 0 f.Ins.length).getD (-1)
theorem zts {f:zc} {rows:List (List PV)} {S:List (Option yr)} (hR:zaj rows S) (hS:S.length=f.Ins.length) (hb:f.Ins.length≤1048576) (hL:ZB f):EP A zfr [.agg f.cells,.fz rows]=some (.int .i64 (zmH f S)):=by
 have e:=ztX f rows S hR hS hb hL
 unfold zmH
 simp only [zc.cells,ups,zf,zj,zm] at e
 cases hk:z8 (zdi f S) 0 f.Ins.length with
 |some j=>
  rw [hk] at e
  obtain ⟨st,e,hg⟩:=e
  simp -implicitDefEqProofs +contextual (disch:=omega) only [ze5,zfT,w_,zD,zc.cells,ups,zf,zj,zm, ↓XD,XU, ↓reduceIte,sevalprocAttr,e,hg,Option.getD_some]
 |none=>
  rw [hk] at e
  simp -implicitDefEqProofs +contextual (disch:=omega) only [ze5,zfT,w_,zD,zc.cells,ups,zf,zj,zm, ↓XD,XU, ↓reduceIte,sevalprocAttr,e,Option.getD_none]
abbrev vv (l:List Gd):List (List PV):=l.map Gd.cells
theorem zmj {p:PV} {l:List Gd} (h:xF p l) (H:zd):uh H p=some (vv l)∧xS H 3 p=true:=by
 rcases h with rfl|⟨rfl,rfl⟩
 ·exact ⟨rfl,by simp [xS,gds]⟩
 ·exact ⟨rfl,rfl⟩
theorem zfb {p q:PV} {s:yr} {r:Bool} (t1:xU p s.Types) (t2:xF q s.Guards) (h1:s.Types.length≤1048576) (h2:s.Guards.length≤1048576):ES A kN [.agg [.bool r,p,q]] []=some (.agg [.bool r,.sl 2 0 s.Types.length s.Types.length,.sl 3 0 s.Guards.length s.Guards.length],[.cells 3 [[.bool r,.sl 2 0 s.Types.length s.Types.length,.sl 3 0 s.Guards.length s.Guards.length]],.cells 3 [[.bool r,.sl 2 0 s.Types.length s.Types.length,.sl 3 0 s.Guards.length s.Guards.length]],.cells 1 (yn s.Types),.cells 3 (vv s.Guards)],[(1,2),(1,3),(0,3),(0,2)]):=by
 have c1:=uH t1
 have c2:=yN t2
 have k1:=jM t1
 have k2:=xf t2
 have r1:=fun H=>zdy t1 H
 have r2:=fun H=>zmj t2 H
 have rf1:=yM t1
 have rf2:=yL t2
 have a1:=fun H=>xE H 1 8 (yn s.Types) (by simp;omega)
 have a2:=fun H=>xE H 3 24 (vv s.Guards) (by simp;omega)
 simp -implicitDefEqProofs +contextual (disch:=omega) only [zeL,Jt,U9,zD, ↓zE,zz, ↓XD,XU, ↓reduceIte,sevalprocAttr,c1,c2,k1,k2,rf1,rf2,fun H=>(r1 H).1,fun H=>(r1 H).2,fun H=>(r2 H).1,fun H=>(r2 H).2,a1,a2]
 simp [trim,bare,zt,refs]
theorem U4 {a b:Nat} (h:¬a=b):Nat.beq a b=false:=by
 cases hb:Nat.beq a b
 ·rfl
 ·exact absurd (Nat.eq_of_beq_eq_true hb) h
theorem zyb (a:Nat):Nat.beq a a=true:=by simp
theorem get_put (n m:Nat) (v:PV):∀ e:zk,zk.get (zk.put e n v) m=if n=m then v else zk.get e m
 |[]=>by
  show (match Nat.beq n m with|true=>v|false=>zk.get [] m)=_
  by_cases h:n=m
  ·subst h;simp
  ·have:Nat.beq n m=false:=U4 h
   rw [this,if_neg h]
 |(k,x)::e=>by
  rw [zk.put]
  by_cases h:k=n
  ·subst h
   have:Nat.beq k k=true:=by simp
   rw [this]
   by_cases h2:k=m
   ·subst h2;rw [if_pos rfl,zk.get,this]
   ·have h3:Nat.beq k m=false:=U4 h2
    rw [if_neg h2,zk.get,h3,zk.get,h3]
  ·have:Nat.beq k n=false:=U4 h
   rw [this]
   simp only [zk.get]
   rw [get_put n m v e]
   by_cases h2:k=m
   ·subst h2
    have h3:Nat.beq k k=true:=by simp
    simp only [h3];rw [if_neg (fun e=>h e.symm)]
   ·have h3:Nat.beq k m=false:=U4 h2
    simp only [h3]
theorem get_erase (n m:Nat) (h:¬n=m):∀ e:zk,zk.get (zk.erase e n) m=zk.get e m
 |[]=>rfl
 |(k,x)::e=>by
  rw [zk.erase]
  by_cases h1:k=n
  ·subst h1
   have h2:Nat.beq k k=true:=by simp
   have h3:Nat.beq k m=false:=U4 h
   rw [h2,zk.get,h3]
   exact get_erase k m h e
  ·have h2:Nat.beq k n=false:=U4 h1
   rw [h2]
   simp only [zk.get]
   rw [get_erase n m h e]
theorem zoE (g:PV→PV) (hg:g .unk=.unk) (n:Nat):∀ e:zk,zk.get (e.map fun p=>(p.1,g p.2)) n=g (zk.get e n)
 |[]=>hg.symm
 |(k,x)::e=>by
  rw [List.map_cons,zk.get,zk.get]
  cases Nat.beq k n
  ·exact zoE g hg n e
  ·rfl
def Wk:List Nat:=[186,187,188,23,24,189,190,191,192,193,194,195,8,9]
theorem zuc (per:zk) (q w:Int) (ts:List Int) (gz:PV) (q0:0≤q) (q1:q<ts.length) (h11:per.get 11=.fp [.bool true,yq ts,gz] 0):
  (za ts q=w→∃ s,EV A (z7 3) ⟨per.put 186 (.tup [.int .i64 q,.int .i64 w]),[],[],[]⟩=some (.normal,s)∧∀ d,d=8∨d=9→s.per.get d=per.get d)∧
  (¬za ts q=w→∃ s,EV A (z7 3) ⟨per.put 186 (.tup [.int .i64 q,.int .i64 w]),[],[],[]⟩=some (.ret,s)∧s.per.get 8=.int .i64 10∧s.per.get 9=.nils):=by
 have hx:=fun H=>ve (.inl rfl:xU (yq ts) ts) H .i64 q q0 q1
 refine ⟨fun h=>?_,fun h=>?_⟩
 ·refine ⟨_,by (simp -implicitDefEqProofs +contextual (disch:=omega) only [zcK,zi,get_put,get_erase, ↓XD,XU, ↓reduceIte,sevalprocAttr,h11,hx,h])<;>rfl,?_⟩
  rintro d (rfl|rfl)<;>simp [get_put,get_erase]
 ·refine ⟨_,by (simp -implicitDefEqProofs +contextual (disch:=omega) only [zcK,zi,get_put,get_erase, ↓XD,XU, ↓reduceIte,sevalprocAttr,h11,hx,h])<;>rfl,?_,?_⟩
  ·simp [get_put,get_erase]
  ·simp [get_put,get_erase]
def zcz (st:St):St:={ st with per:=st.per.map fun p=>(p.1,if p.1=8 then .int .i64 10 else if p.1=9 then .nils else p.2),reg:=[] }
theorem zih {st:St} {id:Nat} {es:List (Int×Int)} {ts:List Int} {gz:PV} (h182:st.per.get 182=.mp id) (hm:st.H[id]?=some (.map (es.map fun e=>(.int .i64 e.1,.int .i64 e.2)))) (h8:st.per.get 8=.int .i64 0) (h9:st.per.get 9=.nils)
  (hW:∀ p∈st.per,p.1∈Wk→p.1=8∨p.1=9) (hu:∀ d∈Wk,d=8∨d=9∨st.per.get d=.unk) (h11:frz 8 st.H (st.per.get 11)=.fp [.bool true,yq ts,gz] 0) (hes:∀ e∈es,0≤e.1∧e.1<ts.length):
  ((∀ e∈es,za ts e.1=e.2)→EV A (.mrange (.per 182) Wk 186 (z7 3)) st=some (.normal,{ st with reg:=[] }))∧
  ((¬∀ e∈es,za ts e.1=e.2)→EV A (.mrange (.per 182) Wk 186 (z7 3)) st=some (.ret,zcz st)):=by
 have hown:U6 st.H ((zx.per 182).get A.glob st)=some (es.map fun e=>(.int .i64 e.1,.int .i64 e.2)):=by
  show U6 st.H (st.per.get 182)=_
  rw [h182];simp only [U6,hm]
 have hfz:∀ n,zk.get (st.per.map fun p=>(p.1,frz 8 st.H p.2)) n=frz 8 st.H (st.per.get n):=fun n=>zoE (frz 8 st.H) rfl n _
 have one:∀ e∈es,(za ts e.1=e.2→ku Wk st (EV A (z7 3) (wX 186 st (.int .i64 e.1,.int .i64 e.2))))∧(¬za ts e.1=e.2→Go.Av.J8 Wk st (zp.ret,zcz st) (EV A (z7 3) (wX 186 st (.int .i64 e.1,.int .i64 e.2)))):=fun e he=>by
  obtain ⟨q0,q1⟩:=hes e he
  obtain ⟨k1,k2⟩:=zuc (st.per.map fun p=>(p.1,frz 8 st.H p.2)) e.1 e.2 ts gz q0 q1 (by rw [hfz];exact h11)
  have hst:wX 186 st (.int .i64 e.1,.int .i64 e.2)=⟨zk.put (st.per.map fun p=>(p.1,frz 8 st.H p.2)) 186 (.tup [.int .i64 e.1,.int .i64 e.2]),[],[],[]⟩:=rfl
  rw [hst]
  refine ⟨fun h=>?_,fun h=>?_⟩
  ·obtain ⟨s,e1,e2⟩:=k1 h
   rw [e1]
   intro d hd
   rcases hu d hd with rfl|rfl|h
   ·right;rw [h8];exact ⟨rfl,by rw [e2 8 (.inl rfl),hfz,h8];rfl⟩
   ·right;rw [h9];exact ⟨rfl,by rw [e2 9 (.inr rfl),hfz,h9];rfl⟩
   ·exact .inl h
  ·obtain ⟨s,e1,e2,e3⟩:=k2 h
   rw [e1]
   show (zp.ret,zcz st)=(.ret,zca Wk st s)
   congr 1
   unfold zcz zca
   congr 1
   refine List.map_congr_left fun p hp=>?_
   congr 1
   unfold Ux
   by_cases p8:p.1=8
   ·rw [if_pos p8,p8,e2];rfl
   ·by_cases p9:p.1=9
    ·rw [if_neg p8,if_pos p9,p9,e3];rfl
    ·rw [if_neg p8,if_neg p9]
     have hn:Wk.any (Nat.beq p.1)=false:=by
      cases ha:Wk.any (Nat.beq p.1) with
      |false=>rfl
      |true=>
       obtain ⟨d,hd,hb⟩:=List.any_eq_true.1 ha
       have hb:=Nat.eq_of_beq_eq_true hb
       rcases hW p hp (hb▸hd) with h|h
       ·exact absurd h p8
       ·exact absurd h p9
     rw [hn]
 rw [zqM,hown]
 refine ⟨fun h=>?_,fun h=>?_⟩
 ·refine zmz fun r hr=>?_
  rw [List.map_map] at hr
  obtain ⟨e,he,rfl⟩:=List.mem_map.1 hr
  exact (one e he).1 (h e he)
 ·obtain ⟨e0,he0,hne⟩:∃ e∈es,¬za ts e.1=e.2:=Classical.byContradiction fun hc=>h fun e he=>Classical.byContradiction fun h2=>hc ⟨e,he,h2⟩
  refine zmA (r0:=EV A (z7 3) (wX 186 st (.int .i64 e0.1,.int .i64 e0.2))) ?_ ((one e0 he0).2 hne) fun r hr=>?_
  ·rw [List.map_map];exact List.mem_map.2 ⟨e0,he0,rfl⟩
  ·rw [List.map_map] at hr
   obtain ⟨e,he,rfl⟩:=List.mem_map.1 hr
   by_cases c:za ts e.1=e.2
   ·exact .inl ((one e he).1 c)
   ·exact .inr ((one e he).2 c)
theorem we {P:xp} (st:St):zq P.glob (CL P) st .mkmap=some (.mp st.H.length,st.H++[.map []],[]):=rfl
def zpU (tag:Nat) (H:zd):PV→PV→PV→Option (PV×zd×zV)
 |.mp id,k,v=>match H[id]? with
   |some (.map es)=>match findKey tag k es with
    |some none=>some (.und,H.set id (.map (es++[(k,v)])),wD id [k,v])
    |_=>none
   |_=>none
 |_,_,_=>none
theorem xX {P:xp} (tag:Nat) (m k v:zx) (st:St):zq P.glob (CL P) st (.insert tag m k v)=zpU tag st.H (m.get P.glob st) (k.get P.glob st) (v.get P.glob st):=by
 show (match m.get P.glob st with
  |.mp id=>match st.H[id]? with
   |some (.map es)=>match findKey tag (k.get P.glob st) es with
    |some none=>some (PV.und,st.H.set id (.map (es++[(k.get P.glob st,v.get P.glob st)])),wD id [k.get P.glob st,v.get P.glob st])
    |_=>none
   |_=>none
  |_=>none)=_
 cases m.get P.glob st<;>rfl
theorem ztG {H:zd} {id:Nat} {es:List (PV×PV)} {q w:Int} (h:H[id]?=some (.map es)) (hf:findKey 0 (.int .i64 q) es=some none):zpU 0 H (.mp id) (.int .i64 q) (.int .i64 w)=some (.und,H.set id (.map (es++[(.int .i64 q,.int .i64 w)])),[]):=by
 simp [zpU,h,hf,wD,zt,refs]
theorem w9 (z:PV) (H:zd) (o:Int):zav 0 z false H (.fm (yJ.map fun e=>(.int .i64 e.1,zL e.2))) (.int .i64 o)=some (match ze o with|some r=>zL r|none=>z):=by
 simp only [zav,Yu,JU]
 rw [←ze]
 cases ze o<;>rfl
structure wU (ps:List zc) (f:zc) (nd:Ins) (p q:PV) (gs:List Gd) (H:zd) (ts:List Int) (tkp:PV) (tk:List Int):Prop where
 c0:H[0]?=some (.cells 1 [[zb ps]])
 c1:H[1]?=some (.cells 9 [f.cells])
 c2:H[2]?=some (.cells 3 [zo p q])
 c3:H[3]?=some (.cells 5 [nd.cells])
 c6:H[6]?=some (.cells 1 (yn ts))
 c7:H[7]?=some (.cells 3 (vv gs))
 c8:H[8]?=some (.cells 3 [[.bool true,.sl 6 0 ts.length ts.length,.sl 7 0 gs.length gs.length]])
 tk:vm H tkp tk
 far:∀ r∈refs tkp,9≤r
theorem wU.keep {ps:List zc} {f:zc} {nd:Ins} {p q:PV} {gs:List Gd} {H H':zd} {ts:List Int} {tkp:PV} {tk:List Int} (h:wU ps f nd p q gs H ts tkp tk) (h1:∀ j,j<9→H'[j]?=H[j]?) (h2:∀ r∈refs tkp,H'[r]?=H[r]?):wU ps f nd p q gs H' ts tkp tk:=
 ⟨(h1 0 (by omega)).trans h.c0,(h1 1 (by omega)).trans h.c1,(h1 2 (by omega)).trans h.c2,(h1 3 (by omega)).trans h.c3,(h1 6 (by omega)).trans h.c6,(h1 7 (by omega)).trans h.c7,(h1 8 (by omega)).trans h.c8,h.tk.keep h2,h.far⟩
theorem wU.trim {ps:List zc} {f:zc} {nd:Ins} {p q:PV} {gs:List Gd} {H:zd} {ts:List Int} {tkp:PV} {tk:List Int} (h:wU ps f nd p q gs H ts tkp tk) {k:Nat} (hk:9≤k) {roots:List PV} (hr:tkp∈roots) (ed:zV):wU ps f nd p q gs (trim k roots H ed).1 ts tkp tk:=
 h.keep (fun j hj=>ux _ _ _ _ (.inl (by omega))) (fun r hr2=>ux _ _ _ _ (.inr (JY hr hr2)))
theorem wU.app {ps:List zc} {f:zc} {nd:Ins} {p q:PV} {gs:List Gd} {H:zd} {ts:List Int} {tkp:PV} {tk:List Int} (h:wU ps f nd p q gs H ts tkp tk) (X:zd):wU ps f nd p q gs (H++X) ts tkp tk:=
 h.keep (fun j hj=>List.getElem?_append_left (by have:=xd h.c8;omega)) (fun r hr=>List.getElem?_append_left (h.tk.lt r hr))
abbrev v9:zV:=[(5,6),(5,7),(4,7),(4,6)]
theorem jO (k:Nat) (hk:9≤k) (roots:List PV) (H:zd):(trim k roots H v9).2=v9:=by
 rw [trim]
 have hf:v9.filter (fun e=>decide (e.2<k))=v9:=List.filter_eq_self.2 (by intro e he;simp at he;rcases he with rfl|rfl|rfl|rfl<;>simp<;>omega)
 rw [hf]
 cases bare k (zt roots)&&v9.all fun e=>decide (k≤e.1)||decide (e.2<k)<;>rfl
abbrev zZ (ps:List zc) (f:zc) (a:Int) (p q tkp:PV):zk:=[(0,code ps),(1,.agg f.cells),(2,.int .i64 a),(3,.agg (zo p q)),(4,.ptr 0 0 0 1),(5,.ptr 1 0 0 1),(7,.ptr 2 0 0 1),(8,.int .i64 0),(9,.nils),(10,.ptr 3 0 0 1),(11,.ptr 8 0 0 1),(12,tkp)]
theorem wd {l:List Int} {k:Int} (k0:0≤k) (k1:k<l.length):xb false 1 (List.drop (k.toNat*1) (l.map fun x=>PV.int .i64 x))=some (.int .i64 (za l k)):=by
 rw [Nat.mul_one, ←List.map_drop,List.drop_eq_getElem_cons (by omega:k.toNat<l.length)]
 have:=wc k0 k1
 rw [List.getElem?_eq_getElem (by omega)] at this
 injection this with this
 rw [this];rfl
theorem zmo (ps:List zc) (f:zc) (a:Int) (p q tkp:PV) (nd:Ins) (rl:List Int) (hrl:rl.length=4) (k r x w y:Int) (M:Nat) (K:zd) (k3:k<4) (c3:K[3]?=some (.cells 5 [nd.cells])) (hK:9≤K.length):match z8 (fun (j:Int)=>j<k∧zS (za rl j)∧za [nd.A,nd.B,nd.C,nd.D] j=y) 0 4 with|some j=>∃ st,EV A (.loop (z7 1)) (⟨zZ ps f a p q tkp++[(51,zL rl),(52,.int .i64 k),(13,.int .i64 k),(14,.int .i64 r),(15,.int .i64 x),(16,.mp M),(61,.int .i64 r),(62,.bool true),(17,.int .i64 w),(18,.int .i64 y),(84,zL rl),(85,.int .i64 (0))],[],K,v9⟩:St)=some (.ret,st)∧st.per.get 8=.int .i64 10∧st.per.get 9=.nils|none=>EV A (.loop (z7 1)) (⟨zZ ps f a p q tkp++[(51,zL rl),(52,.int .i64 k),(13,.int .i64 k),(14,.int .i64 r),(15,.int .i64 x),(16,.mp M),(61,.int .i64 r),(62,.bool true),(17,.int .i64 w),(18,.int .i64 y),(84,zL rl),(85,.int .i64 (0))],[],K,v9⟩:St)=some (zp.exit 3,(⟨zZ ps f a p q tkp++[(51,zL rl),(52,.int .i64 k),(13,.int .i64 k),(14,.int .i64 r),(15,.int .i64 x),(16,.mp M),(61,.int .i64 r),(62,.bool true),(17,.int .i64 w),(18,.int .i64 y),(84,zL rl),(85,.int .i64 (4))],[],K,v9⟩:St)):=by
 refine yt (fun i=>(⟨zZ ps f a p q tkp++[(51,zL rl),(52,.int .i64 k),(13,.int .i64 k),(14,.int .i64 r),(15,.int .i64 x),(16,.mp M),(61,.int .i64 r),(62,.bool true),(17,.int .i64 w),(18,.int .i64 y),(84,zL rl),(85,.int .i64 i)],[],K,v9⟩:St)) (fun (j:Int)=>j<k∧zS (za rl j)∧za [nd.A,nd.B,nd.C,nd.D] j=y) (fun (j:Int) (st:St)=>st.per.get 8=.int .i64 10∧st.per.get 9=.nils) (zp.exit 3,(⟨zZ ps f a p q tkp++[(51,zL rl),(52,.int .i64 k),(13,.int .i64 k),(14,.int .i64 r),(15,.int .i64 x),(16,.mp M),(61,.int .i64 r),(62,.bool true),(17,.int .i64 w),(18,.int .i64 y),(84,zL rl),(85,.int .i64 (4))],[],K,v9⟩:St)) (0) (4) ?_ ?_ ?_ (0) (by omega) (by omega)
 ·intro i hi hn hp
  have t1:=wd hi (by omega:i<rl.length);have t2:=wd (l:=[nd.A,nd.B,nd.C,nd.D]) hi (by simpa using hn);have hF:=vT nd;simp only [Ins.cells,zL,List.map_cons,List.map_nil] at t1 t2 hF c3;have htr:=fun roots=>Zb (H:=K) (ed:=v9) (by intro e he;simp at he;rcases he with rfl|rfl|rfl|rfl<;>simp<;>omega) roots
  by_cases g1:i<k
  ·by_cases g2:zS (za rl i)
   ·have g3:¬za [nd.A,nd.B,nd.C,nd.D] i=y:=fun h=>hp ⟨g1,g2,h⟩
    rcases g2 with e|e|e<;>refine ⟨_,by (simp -implicitDefEqProofs +contextual (disch:=omega) only [Yr,zi,zZ,List.cons_append,List.nil_append,zL,Ins.cells, ↓XD,XU, ↓reduceIte,sevalprocAttr,hn,hi,t1,t2,hF,c3,g1,e,eq_false g3])<;>rfl,?_⟩<;>simp [St.next,htr]
   ·have e4:¬za rl i=4:=fun e=>g2 (.inl e)
    have e5:¬za rl i=5:=fun e=>g2 (.inr (.inl e))
    have e6:¬za rl i=6:=fun e=>g2 (.inr (.inr e))
    refine ⟨_,by (simp -implicitDefEqProofs +contextual (disch:=omega) only [Yr,zi,zZ,List.cons_append,List.nil_append,zL,Ins.cells, ↓XD,XU, ↓reduceIte,sevalprocAttr,hn,hi,t1,t2,hF,c3,g1,e4,e5,e6])<;>rfl,by simp [St.next,htr]⟩
  ·refine ⟨_,by (simp -implicitDefEqProofs +contextual (disch:=omega) only [Yr,zi,zZ,List.cons_append,List.nil_append,zL,Ins.cells, ↓XD,XU, ↓reduceIte,sevalprocAttr,hn,hi,t1,t2,hF,c3,g1])<;>rfl,by simp [St.next,htr]⟩
 ·intro i hi hn hp
  have t1:=wd hi (by omega:i<rl.length);have t2:=wd (l:=[nd.A,nd.B,nd.C,nd.D]) hi (by simpa using hn);have hF:=vT nd;simp only [Ins.cells,zL,List.map_cons,List.map_nil] at t1 t2 hF c3;have htr:=fun roots=>Zb (H:=K) (ed:=v9) (by intro e he;simp at he;rcases he with rfl|rfl|rfl|rfl<;>simp<;>omega) roots
  obtain ⟨g1,g2,g3⟩:=hp
  rcases g2 with e|e|e<;>refine ⟨_,by (simp -implicitDefEqProofs +contextual (disch:=omega) only [Yr,zi,zZ,List.cons_append,List.nil_append,zL,Ins.cells, ↓XD,XU, ↓reduceIte,sevalprocAttr,hn,hi,t1,t2,hF,c3,g1,e,eq_true g3])<;>rfl,by simp [zk.get,zk.put],by simp [zk.get,zk.put]⟩
 ·rintro i hi rfl
  refine ⟨by simp -implicitDefEqProofs +contextual (disch:=omega) only [Yr,zi, ↓XD,XU, ↓reduceIte,sevalprocAttr,zZ,Int.lt_irrefl],by simp⟩
section
theorem zh7 (d:Nat):∀ e:zk,(∀ p∈e,¬p.1=d)→zk.get e d=.unk
 |[],_=>rfl
 |(k,x)::e,h=>by
  rw [zk.get,U4 (h (k,x) (by simp))]
  exact zh7 d e fun p hp=>h p (List.mem_cons_of_mem _ hp)
def zia (e:zk):Bool:=e.all fun p=> !(Wk.any (Nat.beq p.1))||Nat.beq p.1 8||Nat.beq p.1 9
theorem zhi {e:zk} (h:zia e=true):∀ p∈e,p.1∈Wk→p.1=8∨p.1=9:=fun p hp hm=>by
 have:=List.all_eq_true.1 h p hp
 have ha:Wk.any (Nat.beq p.1)=true:=List.any_eq_true.2 ⟨p.1,hm,zyb _⟩
 rw [ha] at this
 simp at this
 exact this
theorem zml {e:zk} (h:zia e=true):∀ d∈Wk,d=8∨d=9∨zk.get e d=.unk:=fun d hd=>by
 by_cases h8:d=8
 ·exact .inl h8
 by_cases h9:d=9
 ·exact .inr (.inl h9)
 ·refine .inr (.inr (zh7 d e fun p hp e2=>?_))
  rcases zhi h p hp (e2▸hd) with h|h
  ·exact h8 (e2▸h)
  ·exact h9 (e2▸h)
section
variable {per:zk} {H:zd} {ed:zV} {id:Nat} {es:List (Int×Int)} {ts:List Int} {gz:PV}
theorem uI (hm:H[id]?=some (.map (es.map fun e=>(.int .i64 e.1,.int .i64 e.2)))) (h11:frz 8 H (.ptr 8 0 0 1)=.fp [.bool true,yq ts,gz] 0) (hes:∀ e∈es,0≤e.1∧e.1<ts.length) (hall:∀ e∈es,za ts e.1=e.2)
  (g182:per.get 182=.mp id) (g8:per.get 8=.int .i64 0) (g9:per.get 9=.nils) (g11:per.get 11=.ptr 8 0 0 1) (gk:zia per=true):
  EV A (.mrange (.per 182) [186,187,188,23,24,189,190,191,192,193,194,195,8,9] 186 (z7 3)) ⟨per,[],H,ed⟩=some (.normal,⟨per,[],H,ed⟩):=
 (zih (st:=⟨per,[],H,ed⟩) g182 hm g8 g9 (zhi gk) (zml gk) (by rw [g11];exact h11) hes).1 hall
theorem j6 (hm:H[id]?=some (.map (es.map fun e=>(.int .i64 e.1,.int .i64 e.2)))) (h11:frz 8 H (.ptr 8 0 0 1)=.fp [.bool true,yq ts,gz] 0) (hes:∀ e∈es,0≤e.1∧e.1<ts.length) (hall:¬∀ e∈es,za ts e.1=e.2)
  (g182:per.get 182=.mp id) (g8:per.get 8=.int .i64 0) (g9:per.get 9=.nils) (g11:per.get 11=.ptr 8 0 0 1) (gk:zia per=true):
  EV A (.mrange (.per 182) [186,187,188,23,24,189,190,191,192,193,194,195,8,9] 186 (z7 3)) ⟨per,[],H,ed⟩=some (.ret,zcz ⟨per,[],H,ed⟩):=
 (zih (st:=⟨per,[],H,ed⟩) g182 hm g8 g9 (zhi gk) (zml gk) (by rw [g11];exact h11) hes).2 hall
end
noncomputable def zmi (ps:List zc) (rs fs:List Int):Nat→Int→List Int×List Int→Option (List Int×List Int)
 |0,_,a=>some a
 |m+1,k,a=>(wY ps rs fs k a).bind (zmi ps rs fs m (k+1))
theorem ztI {ps:List zc} {rs:List Int} {nd:Ins} {ts:List Int}:Zq ps rs nd ts=zmi ps rs [nd.A,nd.B,nd.C,nd.D] 4 0 (ts,[]):=by
 rw [yj]
 simp only [zmi,show (0:Int)+1=1 from rfl,show (1:Int)+1=2 from rfl,show (2:Int)+1=3 from rfl]
 congr 1;funext a;congr 1;funext b;congr 1;funext c
 cases wY ps rs [nd.A,nd.B,nd.C,nd.D] 3 c<;>rfl
section
variable {ps:List zc} {f:zc} {nd:Ins} {p q:PV} {gs:List Gd} {H:zd} {ts:List Int} {tkp:PV} {tk:List Int} {a:Int} {rl:List Int}
theorem wU.frz_o (h:wU ps f nd p q gs H ts tkp tk):frz 8 H (.ptr 8 0 0 1)=.fp [.bool true,yq ts,gds gs] 0:=by
 have e1:=uG (d:=5) h.c6
 have e2:=Zo (d:=5) h.c7
 show (match H[8]? with
   |some (.cells _ rows)=>match 1==rows.length,rows[0]? with
    |true,some cs=>PV.fp (cs.map (frz 7 H)) 0
    |_,_=>.unk
   |_=>.unk)=_
 rw [h.c8]
 show PV.fp [.bool true,frz 7 H (.sl 6 0 ts.length ts.length),frz 7 H (.sl 7 0 gs.length gs.length)] 0=_
 rw [e1,e2]
theorem wU.take (h:wU ps f nd p q gs H ts tkp tk) (y:Int) (hb:tk.length≤1000) (es:List (PV×PV)):∃ p' H',xe ((H++[yf.map es]).set 6 (.cells 1 (yn (ts.set y.toNat 0)))++[.cells 1 [[.int .i64 y]]]) 1 8 tkp [[.int .i64 y]]=some (p',H',[])∧wU ps f nd p q gs H' (ts.set y.toNat 0) p' (tk++[y])∧H'[H.length]?=some (yf.map es)∧H.length<H'.length:=by
 have hH:=xd h.c8
 have hset:∀ j,j≠6→((H++[yf.map es]).set 6 (.cells 1 (yn (ts.set y.toNat 0))))[j]?=(H++[yf.map es])[j]?:=fun j hj=>List.getElem?_set_ne (Ne.symm hj)
 have happ:=h.app [.map es]
 have htk:vm ((H++[yf.map es]).set 6 (.cells 1 (yn (ts.set y.toNat 0)))) tkp tk:=happ.tk.keep fun r hr=>hset r (by have:=h.far r hr;omega)
 obtain ⟨p',H',e1,e2,e3,e4,e5⟩:=htk.push (by omega) y
 simp only [List.length_set,List.length_append,List.length_singleton] at e3 e4 e5
 have nf:∀ j,j<9→j∉refs tkp:=fun j hj hr=>by have:=h.far j hr;omega
 have old:∀ j,j<9→j≠6→H'[j]?=H[j]?:=fun j hj h6=>by
  rw [e4 j (by omega) (nf j hj),hset j h6,List.getElem?_append_left (by omega)]
 have nl:H.length∉refs tkp:=fun hr=>by have:=h.tk.lt _ hr;omega
 refine ⟨p',H',e1,⟨(old 0 (by omega) (by omega)).trans h.c0,(old 1 (by omega) (by omega)).trans h.c1,(old 2 (by omega) (by omega)).trans h.c2,(old 3 (by omega) (by omega)).trans h.c3,?_,(old 7 (by omega) (by omega)).trans h.c7,?_,e2,fun r hr=>?_⟩,?_,by omega⟩
 ·rw [e4 6 (by omega) (nf 6 (by omega)),List.getElem?_set_self (by simp;omega)]
 ·rw [old 8 (by omega) (by omega),h.c8,List.length_set]
 ·rcases e5 r hr with h1|h1
  ·exact h.far r h1
  ·omega
 ·rw [e4 H.length (by omega) nl,hset _ (by omega),xo];rfl
def zvi (ps:List zc) (f:zc) (a:Int) (nd:Ins) (p q:PV) (gs:List Gd) (rl:List Int) (res:Option (List Int×List Int)) (r:zp×St):Prop:=match res with
 |none=>∃ st,r=(.ret,st)∧st.per.get 8=.int .i64 10∧st.per.get 9=.nils
 |some (ts,tk)=>∃ tkp H,r=(.exit 0,(⟨zZ ps f a p q tkp++[(51,zL rl),(52,.int .i64 4)],[],H,v9⟩:St))∧wU ps f nd p q gs H ts tkp tk
theorem Vi {H:zd} {es:List (PV×PV)} {q w:Int} (hf:findKey 0 (.int .i64 q) es=some none):zpU 0 (H++[yf.map es]) (.mp H.length) (.int .i64 q) (.int .i64 w)=some (.und,H++[.map (es++[(.int .i64 q,.int .i64 w)])],[]):=by
 rw [ztG (xo _ _) hf,uR];rfl
end
end
section
structure YY (ps:List zc) (f:zc) (nd:Ins) (p q:PV) (gs:List Gd) (n:Nat) (k:Int) (H:zd) (tkp:PV) (a:List Int×List Int):Prop where
 k0:0≤k
 k1:k≤4
 h:wU ps f nd p q gs H a.1 tkp a.2
 n:a.1.length=n
 tk:(a.2.length:Int)≤k
section
variable {ps:List zc} {f:zc} {nd:Ins} {p q:PV} {gs:List Gd} {at_:Int} {rl:List Int} {n:Nat}
def vM (ps:List zc) (f:zc) (nd:Ins) (p q:PV) (gs:List Gd) (at_:Int) (rl:List Int) (n:Nat) (k:Int) (H:zd) (tkp:PV) (a:List Int×List Int):Prop:=
 match wY ps rl [nd.A,nd.B,nd.C,nd.D] k a with
 |none=>∃ st,EV A (z7 0) ⟨zZ ps f at_ p q tkp++[(51,zL rl),(52,.int .i64 k)],[],H,v9⟩=some (.ret,st)∧st.per.get 8=.int .i64 10∧st.per.get 9=.nils
 |some a'=>∃ tkp' H' st',EV A (z7 0) ⟨zZ ps f at_ p q tkp++[(51,zL rl),(52,.int .i64 k)],[],H,v9⟩=some (.normal,st')∧
  (⟨zZ ps f at_ p q tkp++[(51,zL rl),(52,.int .i64 k)],[],H,v9⟩:St).next st'=⟨zZ ps f at_ p q tkp'++[(51,zL rl),(52,.int .i64 (k+1))],[],H',v9⟩∧wU ps f nd p q gs H' a'.1 tkp' a'.2
theorem wU.next {H H':zd} {tkp:PV} {ts tk:List Int} (h:wU ps f nd p q gs H' ts tkp tk) (hl:9≤H.length) (k:Int):
  wU ps f nd p q gs (Go.Av.trim H.length ((zZ ps f at_ p q tkp++[(51,zL rl),(52,PV.int .i64 k)]:zk).map fun e=>e.2) H' v9).1 ts tkp tk:=h.trim hl (by simp) v9
theorem zwq {H:zd} {tkp:PV} {a:List Int×List Int} {k:Int} (hrl:rl.length=4) (h:YY ps f nd p q gs n k H tkp a) (hk:k<4) (hro:ze nd.Op=some rl)
  (e2:¬za rl k=2) (e3:¬za rl k=3) (e4:¬za rl k=4) (e5:¬za rl k=5) (e6:¬za rl k=6) (e11:¬za rl k=11) (e18:¬za rl k=18) (e19:¬za rl k=19) (e20:¬za rl k=20):vM ps f nd p q gs at_ rl n k H tkp a:=by
 obtain ⟨k0,k1,h,hn,htk⟩:=h
 obtain ⟨ts,tk⟩:=a
 simp only at h hn htk
 unfold vM
 rw [zM e2 e3 e4 e5 e6 e11 e18 e19 e20]
 have hH:=xd h.c8
 have hL:=fun z H=>w9 z H nd.Op
 simp only [hro] at hL
 have hF:=vT nd
 have t1:=wd k0 (by omega:k<rl.length)
 have t2:=wd (l:=[nd.A,nd.B,nd.C,nd.D]) k0 (by simpa using hk)
 have h':=h.app [.map []]
 have q3:=h'.c3
 have p3:=h.c3
 simp only [Ins.cells,zL,List.map_cons,List.map_nil] at hF hL q3 p3 t1 t2
 have hm:(H++[yf.map []])[H.length]?=some (.map (([]:List (Int×Int)).map fun e=>(.int .i64 e.1,.int .i64 e.2))):=xo _ _
 refine ⟨tkp,_,_,by
  simp -implicitDefEqProofs +contextual (disch:=omega) only [zB,zi,zZ,List.cons_append,List.nil_append,zo,zD,code,zb,zc.cells,ups,zf,zj,zm,Ins.cells, ↓we, ↓xX, ↓zy, ↓zE,yg,zz, ↓XD,XU, ↓reduceIte,sevalprocAttr,k0,hk,hL,zL,hF,p3,q3,t1,t2,e2,e3,e4,e5,e6,e11,e18,e19,e20]
  rw [uI hm h'.frz_o (by simp) (by simp) rfl rfl rfl rfl rfl]
  (simp -implicitDefEqProofs +contextual (disch:=omega) only [zB,zi, ↓XD,XU, ↓reduceIte,sevalprocAttr,k0,hk])<;>rfl,?_,h'.next (H:=H) (at_:=at_) (rl:=rl) (by omega) (k+1)⟩
 simp [St.next,jO _ (show 9≤H.length by omega),zL]
end
end
section
theorem zb7 {z x:Int} {v:PV} {l:List (PV×PV)} (h:¬z=x):findKey 0 (.int .i64 z) ((.int .i64 x,v)::l)=findKey 0 (.int .i64 z) l:=by
 have:(z==x)=false:=by simpa using h
 have h2:jl 0 (.int .i64 z) (.int .i64 x)=some false:=by simp [jl,this]
 rw [findKey];simp only [h2]
section
variable {ps:List zc} {f:zc} {nd:Ins} {p q:PV} {gs:List Gd} {at_:Int} {rl:List Int} {n:Nat}
theorem zA1 {H:zd} {tkp:PV} {a:List Int×List Int} {k:Int} (hrl:rl.length=4) (h:YY ps f nd p q gs n k H tkp a) (hk:k<4) (hro:ze nd.Op=some rl) (hn1:n≤1048576)
  (hr:za rl k=4) (hx:0≤za [nd.A,nd.B,nd.C,nd.D] k∧za [nd.A,nd.B,nd.C,nd.D] k<n):vM ps f nd p q gs at_ rl n k H tkp a:=by
 obtain ⟨k0,k1,h,hn,htk⟩:=h
 obtain ⟨ts,tk⟩:=a
 simp only at h hn htk
 unfold vM
 rw [zmg hr]
 obtain ⟨x,hxx⟩:∃ x,za [nd.A,nd.B,nd.C,nd.D] k=x:=⟨_,rfl⟩
 rw [hxx] at hx ⊢
 obtain ⟨x0,x1⟩:=hx
 have hH:=xd h.c8
 have hL:=fun z H=>w9 z H nd.Op
 simp only [hro] at hL
 have hF:=vT nd
 have t1:=wd k0 (by omega:k<rl.length)
 have t2:=wd (l:=[nd.A,nd.B,nd.C,nd.D]) k0 (by simpa using hk)
 rw [hr] at t1
 rw [hxx] at t2
 have q3:=(h.app [.map []]).c3
 have p3:=h.c3
 simp only [Ins.cells,zL,List.map_cons,List.map_nil] at hF hL q3 p3 t1 t2
 have h':=h.app [.map [(.int .i64 (x),.int .i64 1)]]
 have hm:(H++[yf.map [(.int .i64 (x),.int .i64 1)]])[H.length]?=some (.map (([((x:Int),(1:Int))]).map fun e=>(.int .i64 e.1,.int .i64 e.2))):=xo _ _
 have hes:∀ e∈[((x:Int),(1:Int))],0≤e.1∧e.1<ts.length:=by simp;omega
 have i0:=Vi (H:=H) (es:=[]) (q:=x) (w:=1) (by rfl)
 simp only [List.nil_append] at i0
 by_cases c0:za ts (x)=1
 ·rw [if_pos c0]
  refine ⟨tkp,_,_,by
   simp -implicitDefEqProofs +contextual (disch:=omega) only [zB,zi,zZ,List.cons_append,List.nil_append,zo,zD,code,zb,zc.cells,ups,zf,zj,zm,Ins.cells, ↓we, ↓xX, ↓zy, ↓zE,yg,zz, ↓XD,XU, ↓reduceIte,sevalprocAttr,k0,hk,hL,zL,hF,p3,q3,t1,t2,i0]
   rw [uI hm h'.frz_o hes (by simp [c0]) rfl rfl rfl rfl rfl]
   (simp -implicitDefEqProofs +contextual (disch:=omega) only [zB,zi, ↓XD,XU, ↓reduceIte,sevalprocAttr,k0,hk])<;>rfl,?_,h'.next (H:=H) (at_:=at_) (rl:=rl) (by omega) (k+1)⟩
  simp [St.next,jO _ (show 9≤H.length by omega),zL]
 ·rw [if_neg c0]
  refine ⟨_,by
   simp -implicitDefEqProofs +contextual (disch:=omega) only [zB,zi,zZ,List.cons_append,List.nil_append,zo,zD,code,zb,zc.cells,ups,zf,zj,zm,Ins.cells, ↓we, ↓xX, ↓zy, ↓zE,yg,zz, ↓XD,XU, ↓reduceIte,sevalprocAttr,k0,hk,hL,zL,hF,p3,q3,t1,t2,i0]
   rw [j6 hm h'.frz_o hes (by simp [c0]) rfl rfl rfl rfl rfl]
   (simp -implicitDefEqProofs +contextual (disch:=omega) only [zB,zi, ↓XD,XU, ↓reduceIte,sevalprocAttr,k0,hk])<;>rfl,rfl,rfl⟩
theorem zA2 {H:zd} {tkp:PV} {a:List Int×List Int} {k:Int} (hrl:rl.length=4) (h:YY ps f nd p q gs n k H tkp a) (hk:k<4) (hro:ze nd.Op=some rl) (hn1:n≤1048576)
  (hr:za rl k=5) (hx:0≤za [nd.A,nd.B,nd.C,nd.D] k∧za [nd.A,nd.B,nd.C,nd.D] k<n):vM ps f nd p q gs at_ rl n k H tkp a:=by
 obtain ⟨k0,k1,h,hn,htk⟩:=h
 obtain ⟨ts,tk⟩:=a
 simp only at h hn htk
 unfold vM
 rw [zmh hr]
 obtain ⟨x,hxx⟩:∃ x,za [nd.A,nd.B,nd.C,nd.D] k=x:=⟨_,rfl⟩
 rw [hxx] at hx ⊢
 obtain ⟨x0,x1⟩:=hx
 have hH:=xd h.c8
 have hL:=fun z H=>w9 z H nd.Op
 simp only [hro] at hL
 have hF:=vT nd
 have t1:=wd k0 (by omega:k<rl.length)
 have t2:=wd (l:=[nd.A,nd.B,nd.C,nd.D]) k0 (by simpa using hk)
 rw [hr] at t1
 rw [hxx] at t2
 have q3:=(h.app [.map []]).c3
 have p3:=h.c3
 simp only [Ins.cells,zL,List.map_cons,List.map_nil] at hF hL q3 p3 t1 t2
 have h':=h.app [.map [(.int .i64 (x),.int .i64 2)]]
 have hm:(H++[yf.map [(.int .i64 (x),.int .i64 2)]])[H.length]?=some (.map (([((x:Int),(2:Int))]).map fun e=>(.int .i64 e.1,.int .i64 e.2))):=xo _ _
 have hes:∀ e∈[((x:Int),(2:Int))],0≤e.1∧e.1<ts.length:=by simp;omega
 have i0:=Vi (H:=H) (es:=[]) (q:=x) (w:=2) (by rfl)
 simp only [List.nil_append] at i0
 by_cases c0:za ts (x)=2
 ·rw [if_pos c0]
  refine ⟨tkp,_,_,by
   simp -implicitDefEqProofs +contextual (disch:=omega) only [zB,zi,zZ,List.cons_append,List.nil_append,zo,zD,code,zb,zc.cells,ups,zf,zj,zm,Ins.cells, ↓we, ↓xX, ↓zy, ↓zE,yg,zz, ↓XD,XU, ↓reduceIte,sevalprocAttr,k0,hk,hL,zL,hF,p3,q3,t1,t2,i0]
   rw [uI hm h'.frz_o hes (by simp [c0]) rfl rfl rfl rfl rfl]
   (simp -implicitDefEqProofs +contextual (disch:=omega) only [zB,zi, ↓XD,XU, ↓reduceIte,sevalprocAttr,k0,hk])<;>rfl,?_,h'.next (H:=H) (at_:=at_) (rl:=rl) (by omega) (k+1)⟩
  simp [St.next,jO _ (show 9≤H.length by omega),zL]
 ·rw [if_neg c0]
  refine ⟨_,by
   simp -implicitDefEqProofs +contextual (disch:=omega) only [zB,zi,zZ,List.cons_append,List.nil_append,zo,zD,code,zb,zc.cells,ups,zf,zj,zm,Ins.cells, ↓we, ↓xX, ↓zy, ↓zE,yg,zz, ↓XD,XU, ↓reduceIte,sevalprocAttr,k0,hk,hL,zL,hF,p3,q3,t1,t2,i0]
   rw [j6 hm h'.frz_o hes (by simp [c0]) rfl rfl rfl rfl rfl]
   (simp -implicitDefEqProofs +contextual (disch:=omega) only [zB,zi, ↓XD,XU, ↓reduceIte,sevalprocAttr,k0,hk])<;>rfl,rfl,rfl⟩
theorem zA3 {H:zd} {tkp:PV} {a:List Int×List Int} {k:Int} (hrl:rl.length=4) (h:YY ps f nd p q gs n k H tkp a) (hk:k<4) (hro:ze nd.Op=some rl) (hn1:n≤1048576)
  (hr:za rl k=6) (hx:0≤za [nd.A,nd.B,nd.C,nd.D] k∧za [nd.A,nd.B,nd.C,nd.D] k<n):vM ps f nd p q gs at_ rl n k H tkp a:=by
 obtain ⟨k0,k1,h,hn,htk⟩:=h
 obtain ⟨ts,tk⟩:=a
 simp only at h hn htk
 unfold vM
 rw [zfl hr]
 obtain ⟨x,hxx⟩:∃ x,za [nd.A,nd.B,nd.C,nd.D] k=x:=⟨_,rfl⟩
 rw [hxx] at hx ⊢
 obtain ⟨x0,x1⟩:=hx
 have hH:=xd h.c8
 have hL:=fun z H=>w9 z H nd.Op
 simp only [hro] at hL
 have hF:=vT nd
 have t1:=wd k0 (by omega:k<rl.length)
 have t2:=wd (l:=[nd.A,nd.B,nd.C,nd.D]) k0 (by simpa using hk)
 rw [hr] at t1
 rw [hxx] at t2
 have q3:=(h.app [.map []]).c3
 have p3:=h.c3
 simp only [Ins.cells,zL,List.map_cons,List.map_nil] at hF hL q3 p3 t1 t2
 have h':=h.app [.map [(.int .i64 (x),.int .i64 3)]]
 have hm:(H++[yf.map [(.int .i64 (x),.int .i64 3)]])[H.length]?=some (.map (([((x:Int),(3:Int))]).map fun e=>(.int .i64 e.1,.int .i64 e.2))):=xo _ _
 have hes:∀ e∈[((x:Int),(3:Int))],0≤e.1∧e.1<ts.length:=by simp;omega
 have i0:=Vi (H:=H) (es:=[]) (q:=x) (w:=3) (by rfl)
 simp only [List.nil_append] at i0
 by_cases c0:za ts (x)=3
 ·rw [if_pos c0]
  refine ⟨tkp,_,_,by
   simp -implicitDefEqProofs +contextual (disch:=omega) only [zB,zi,zZ,List.cons_append,List.nil_append,zo,zD,code,zb,zc.cells,ups,zf,zj,zm,Ins.cells, ↓we, ↓xX, ↓zy, ↓zE,yg,zz, ↓XD,XU, ↓reduceIte,sevalprocAttr,k0,hk,hL,zL,hF,p3,q3,t1,t2,i0]
   rw [uI hm h'.frz_o hes (by simp [c0]) rfl rfl rfl rfl rfl]
   (simp -implicitDefEqProofs +contextual (disch:=omega) only [zB,zi, ↓XD,XU, ↓reduceIte,sevalprocAttr,k0,hk])<;>rfl,?_,h'.next (H:=H) (at_:=at_) (rl:=rl) (by omega) (k+1)⟩
  simp [St.next,jO _ (show 9≤H.length by omega),zL]
 ·rw [if_neg c0]
  refine ⟨_,by
   simp -implicitDefEqProofs +contextual (disch:=omega) only [zB,zi,zZ,List.cons_append,List.nil_append,zo,zD,code,zb,zc.cells,ups,zf,zj,zm,Ins.cells, ↓we, ↓xX, ↓zy, ↓zE,yg,zz, ↓XD,XU, ↓reduceIte,sevalprocAttr,k0,hk,hL,zL,hF,p3,q3,t1,t2,i0]
   rw [j6 hm h'.frz_o hes (by simp [c0]) rfl rfl rfl rfl rfl]
   (simp -implicitDefEqProofs +contextual (disch:=omega) only [zB,zi, ↓XD,XU, ↓reduceIte,sevalprocAttr,k0,hk])<;>rfl,rfl,rfl⟩
theorem zzc {H:zd} {tkp:PV} {a:List Int×List Int} {k:Int} (hrl:rl.length=4) (h:YY ps f nd p q gs n k H tkp a) (hk:k<4) (hro:ze nd.Op=some rl) (hn1:n≤1048576)
  (hr:za rl k=18) (hx:0≤za [nd.A,nd.B,nd.C,nd.D] k∧za [nd.A,nd.B,nd.C,nd.D] k+2<n):vM ps f nd p q gs at_ rl n k H tkp a:=by
 obtain ⟨k0,k1,h,hn,htk⟩:=h
 obtain ⟨ts,tk⟩:=a
 simp only at h hn htk
 unfold vM
 rw [zjI hr]
 obtain ⟨x,hxx⟩:∃ x,za [nd.A,nd.B,nd.C,nd.D] k=x:=⟨_,rfl⟩
 rw [hxx] at hx ⊢
 obtain ⟨x0,x1⟩:=hx
 have hH:=xd h.c8
 have hL:=fun z H=>w9 z H nd.Op
 simp only [hro] at hL
 have hF:=vT nd
 have t1:=wd k0 (by omega:k<rl.length)
 have t2:=wd (l:=[nd.A,nd.B,nd.C,nd.D]) k0 (by simpa using hk)
 rw [hr] at t1
 rw [hxx] at t2
 have q3:=(h.app [.map []]).c3
 have p3:=h.c3
 simp only [Ins.cells,zL,List.map_cons,List.map_nil] at hF hL q3 p3 t1 t2
 have h':=h.app [.map [(.int .i64 (x),.int .i64 1),(.int .i64 (x+1),.int .i64 1),(.int .i64 (x+2),.int .i64 1)]]
 have hm:(H++[yf.map [(.int .i64 (x),.int .i64 1),(.int .i64 (x+1),.int .i64 1),(.int .i64 (x+2),.int .i64 1)]])[H.length]?=some (.map (([((x:Int),(1:Int)),((x+1:Int),(1:Int)),((x+2:Int),(1:Int))]).map fun e=>(.int .i64 e.1,.int .i64 e.2))):=xo _ _
 have hes:∀ e∈[((x:Int),(1:Int)),((x+1:Int),(1:Int)),((x+2:Int),(1:Int))],0≤e.1∧e.1<ts.length:=by simp;omega
 have i0:=Vi (H:=H) (es:=[]) (q:=x) (w:=1) (by rfl)
 have i1:=Vi (H:=H) (es:=[(.int .i64 (x),.int .i64 1)]) (q:=x+1) (w:=1) (by rw [zb7 (by omega)];rfl)
 have i2:=Vi (H:=H) (es:=[(.int .i64 (x),.int .i64 1),(.int .i64 (x+1),.int .i64 1)]) (q:=x+2) (w:=1) (by rw [zb7 (by omega)];rw [zb7 (by omega)];rfl)
 simp only [List.nil_append,List.cons_append] at i0 i1 i2
 by_cases c0:za ts (x)=1
 ·rw [if_pos c0]
  by_cases c1:za ts (x+1)=1
  ·rw [if_pos c1]
   by_cases c2:za ts (x+2)=1
   ·rw [if_pos c2]
    refine ⟨tkp,_,_,by
     simp -implicitDefEqProofs +contextual (disch:=omega) only [zB,zi,zZ,List.cons_append,List.nil_append,zo,zD,code,zb,zc.cells,ups,zf,zj,zm,Ins.cells, ↓we, ↓xX, ↓zy, ↓zE,yg,zz, ↓XD,XU, ↓reduceIte,sevalprocAttr,k0,hk,hL,zL,hF,p3,q3,t1,t2,i0,i1,i2]
     rw [uI hm h'.frz_o hes (by simp [c0,c1,c2]) rfl rfl rfl rfl rfl]
     (simp -implicitDefEqProofs +contextual (disch:=omega) only [zB,zi, ↓XD,XU, ↓reduceIte,sevalprocAttr,k0,hk])<;>rfl,?_,h'.next (H:=H) (at_:=at_) (rl:=rl) (by omega) (k+1)⟩
    simp [St.next,jO _ (show 9≤H.length by omega),zL]
   ·rw [if_neg c2]
    refine ⟨_,by
     simp -implicitDefEqProofs +contextual (disch:=omega) only [zB,zi,zZ,List.cons_append,List.nil_append,zo,zD,code,zb,zc.cells,ups,zf,zj,zm,Ins.cells, ↓we, ↓xX, ↓zy, ↓zE,yg,zz, ↓XD,XU, ↓reduceIte,sevalprocAttr,k0,hk,hL,zL,hF,p3,q3,t1,t2,i0,i1,i2]
     rw [j6 hm h'.frz_o hes (by simp [c0,c1,c2]) rfl rfl rfl rfl rfl]
     (simp -implicitDefEqProofs +contextual (disch:=omega) only [zB,zi, ↓XD,XU, ↓reduceIte,sevalprocAttr,k0,hk])<;>rfl,rfl,rfl⟩
  ·rw [if_neg c1]
   refine ⟨_,by
    simp -implicitDefEqProofs +contextual (disch:=omega) only [zB,zi,zZ,List.cons_append,List.nil_append,zo,zD,code,zb,zc.cells,ups,zf,zj,zm,Ins.cells, ↓we, ↓xX, ↓zy, ↓zE,yg,zz, ↓XD,XU, ↓reduceIte,sevalprocAttr,k0,hk,hL,zL,hF,p3,q3,t1,t2,i0,i1,i2]
    rw [j6 hm h'.frz_o hes (by simp [c0,c1]) rfl rfl rfl rfl rfl]
    (simp -implicitDefEqProofs +contextual (disch:=omega) only [zB,zi, ↓XD,XU, ↓reduceIte,sevalprocAttr,k0,hk])<;>rfl,rfl,rfl⟩
 ·rw [if_neg c0]
  refine ⟨_,by
   simp -implicitDefEqProofs +contextual (disch:=omega) only [zB,zi,zZ,List.cons_append,List.nil_append,zo,zD,code,zb,zc.cells,ups,zf,zj,zm,Ins.cells, ↓we, ↓xX, ↓zy, ↓zE,yg,zz, ↓XD,XU, ↓reduceIte,sevalprocAttr,k0,hk,hL,zL,hF,p3,q3,t1,t2,i0,i1,i2]
   rw [j6 hm h'.frz_o hes (by simp [c0]) rfl rfl rfl rfl rfl]
   (simp -implicitDefEqProofs +contextual (disch:=omega) only [zB,zi, ↓XD,XU, ↓reduceIte,sevalprocAttr,k0,hk])<;>rfl,rfl,rfl⟩
theorem zzd {H:zd} {tkp:PV} {a:List Int×List Int} {k:Int} (hrl:rl.length=4) (h:YY ps f nd p q gs n k H tkp a) (hk:k<4) (hro:ze nd.Op=some rl) (hn1:n≤1048576)
  (hr:za rl k=19) (hx:0≤za [nd.A,nd.B,nd.C,nd.D] k∧za [nd.A,nd.B,nd.C,nd.D] k+1<n):vM ps f nd p q gs at_ rl n k H tkp a:=by
 obtain ⟨k0,k1,h,hn,htk⟩:=h
 obtain ⟨ts,tk⟩:=a
 simp only at h hn htk
 unfold vM
 rw [zoI hr]
 obtain ⟨x,hxx⟩:∃ x,za [nd.A,nd.B,nd.C,nd.D] k=x:=⟨_,rfl⟩
 rw [hxx] at hx ⊢
 obtain ⟨x0,x1⟩:=hx
 have hH:=xd h.c8
 have hL:=fun z H=>w9 z H nd.Op
 simp only [hro] at hL
 have hF:=vT nd
 have t1:=wd k0 (by omega:k<rl.length)
 have t2:=wd (l:=[nd.A,nd.B,nd.C,nd.D]) k0 (by simpa using hk)
 rw [hr] at t1
 rw [hxx] at t2
 have q3:=(h.app [.map []]).c3
 have p3:=h.c3
 simp only [Ins.cells,zL,List.map_cons,List.map_nil] at hF hL q3 p3 t1 t2
 have h':=h.app [.map [(.int .i64 (x),.int .i64 1),(.int .i64 (x+1),.int .i64 0)]]
 have hm:(H++[yf.map [(.int .i64 (x),.int .i64 1),(.int .i64 (x+1),.int .i64 0)]])[H.length]?=some (.map (([((x:Int),(1:Int)),((x+1:Int),(0:Int))]).map fun e=>(.int .i64 e.1,.int .i64 e.2))):=xo _ _
 have hes:∀ e∈[((x:Int),(1:Int)),((x+1:Int),(0:Int))],0≤e.1∧e.1<ts.length:=by simp;omega
 have i0:=Vi (H:=H) (es:=[]) (q:=x) (w:=1) (by rfl)
 have i1:=Vi (H:=H) (es:=[(.int .i64 (x),.int .i64 1)]) (q:=x+1) (w:=0) (by rw [zb7 (by omega)];rfl)
 simp only [List.nil_append,List.cons_append] at i0 i1
 by_cases c0:za ts (x)=1
 ·rw [if_pos c0]
  by_cases c1:za ts (x+1)=0
  ·rw [if_pos c1]
   refine ⟨tkp,_,_,by
    simp -implicitDefEqProofs +contextual (disch:=omega) only [zB,zi,zZ,List.cons_append,List.nil_append,zo,zD,code,zb,zc.cells,ups,zf,zj,zm,Ins.cells, ↓we, ↓xX, ↓zy, ↓zE,yg,zz, ↓XD,XU, ↓reduceIte,sevalprocAttr,k0,hk,hL,zL,hF,p3,q3,t1,t2,i0,i1]
    rw [uI hm h'.frz_o hes (by simp [c0,c1]) rfl rfl rfl rfl rfl]
    (simp -implicitDefEqProofs +contextual (disch:=omega) only [zB,zi, ↓XD,XU, ↓reduceIte,sevalprocAttr,k0,hk])<;>rfl,?_,h'.next (H:=H) (at_:=at_) (rl:=rl) (by omega) (k+1)⟩
   simp [St.next,jO _ (show 9≤H.length by omega),zL]
  ·rw [if_neg c1]
   refine ⟨_,by
    simp -implicitDefEqProofs +contextual (disch:=omega) only [zB,zi,zZ,List.cons_append,List.nil_append,zo,zD,code,zb,zc.cells,ups,zf,zj,zm,Ins.cells, ↓we, ↓xX, ↓zy, ↓zE,yg,zz, ↓XD,XU, ↓reduceIte,sevalprocAttr,k0,hk,hL,zL,hF,p3,q3,t1,t2,i0,i1]
    rw [j6 hm h'.frz_o hes (by simp [c0,c1]) rfl rfl rfl rfl rfl]
    (simp -implicitDefEqProofs +contextual (disch:=omega) only [zB,zi, ↓XD,XU, ↓reduceIte,sevalprocAttr,k0,hk])<;>rfl,rfl,rfl⟩
 ·rw [if_neg c0]
  refine ⟨_,by
   simp -implicitDefEqProofs +contextual (disch:=omega) only [zB,zi,zZ,List.cons_append,List.nil_append,zo,zD,code,zb,zc.cells,ups,zf,zj,zm,Ins.cells, ↓we, ↓xX, ↓zy, ↓zE,yg,zz, ↓XD,XU, ↓reduceIte,sevalprocAttr,k0,hk,hL,zL,hF,p3,q3,t1,t2,i0,i1]
   rw [j6 hm h'.frz_o hes (by simp [c0]) rfl rfl rfl rfl rfl]
   (simp -implicitDefEqProofs +contextual (disch:=omega) only [zB,zi, ↓XD,XU, ↓reduceIte,sevalprocAttr,k0,hk])<;>rfl,rfl,rfl⟩
theorem zze {H:zd} {tkp:PV} {a:List Int×List Int} {k:Int} (hrl:rl.length=4) (h:YY ps f nd p q gs n k H tkp a) (hk:k<4) (hro:ze nd.Op=some rl) (hn1:n≤1048576)
  (hr:za rl k=20) (hx:0≤za [nd.A,nd.B,nd.C,nd.D] k∧za [nd.A,nd.B,nd.C,nd.D] k+1<n):vM ps f nd p q gs at_ rl n k H tkp a:=by
 obtain ⟨k0,k1,h,hn,htk⟩:=h
 obtain ⟨ts,tk⟩:=a
 simp only at h hn htk
 unfold vM
 rw [zoJ hr]
 obtain ⟨x,hxx⟩:∃ x,za [nd.A,nd.B,nd.C,nd.D] k=x:=⟨_,rfl⟩
 rw [hxx] at hx ⊢
 obtain ⟨x0,x1⟩:=hx
 have hH:=xd h.c8
 have hL:=fun z H=>w9 z H nd.Op
 simp only [hro] at hL
 have hF:=vT nd
 have t1:=wd k0 (by omega:k<rl.length)
 have t2:=wd (l:=[nd.A,nd.B,nd.C,nd.D]) k0 (by simpa using hk)
 rw [hr] at t1
 rw [hxx] at t2
 have q3:=(h.app [.map []]).c3
 have p3:=h.c3
 simp only [Ins.cells,zL,List.map_cons,List.map_nil] at hF hL q3 p3 t1 t2
 have h':=h.app [.map [(.int .i64 (x),.int .i64 1),(.int .i64 (x+1),.int .i64 1)]]
 have hm:(H++[yf.map [(.int .i64 (x),.int .i64 1),(.int .i64 (x+1),.int .i64 1)]])[H.length]?=some (.map (([((x:Int),(1:Int)),((x+1:Int),(1:Int))]).map fun e=>(.int .i64 e.1,.int .i64 e.2))):=xo _ _
 have hes:∀ e∈[((x:Int),(1:Int)),((x+1:Int),(1:Int))],0≤e.1∧e.1<ts.length:=by simp;omega
 have i0:=Vi (H:=H) (es:=[]) (q:=x) (w:=1) (by rfl)
 have i1:=Vi (H:=H) (es:=[(.int .i64 (x),.int .i64 1)]) (q:=x+1) (w:=1) (by rw [zb7 (by omega)];rfl)
 simp only [List.nil_append,List.cons_append] at i0 i1
 by_cases c0:za ts (x)=1
 ·rw [if_pos c0]
  by_cases c1:za ts (x+1)=1
  ·rw [if_pos c1]
   refine ⟨tkp,_,_,by
    simp -implicitDefEqProofs +contextual (disch:=omega) only [zB,zi,zZ,List.cons_append,List.nil_append,zo,zD,code,zb,zc.cells,ups,zf,zj,zm,Ins.cells, ↓we, ↓xX, ↓zy, ↓zE,yg,zz, ↓XD,XU, ↓reduceIte,sevalprocAttr,k0,hk,hL,zL,hF,p3,q3,t1,t2,i0,i1]
    rw [uI hm h'.frz_o hes (by simp [c0,c1]) rfl rfl rfl rfl rfl]
    (simp -implicitDefEqProofs +contextual (disch:=omega) only [zB,zi, ↓XD,XU, ↓reduceIte,sevalprocAttr,k0,hk])<;>rfl,?_,h'.next (H:=H) (at_:=at_) (rl:=rl) (by omega) (k+1)⟩
   simp [St.next,jO _ (show 9≤H.length by omega),zL]
  ·rw [if_neg c1]
   refine ⟨_,by
    simp -implicitDefEqProofs +contextual (disch:=omega) only [zB,zi,zZ,List.cons_append,List.nil_append,zo,zD,code,zb,zc.cells,ups,zf,zj,zm,Ins.cells, ↓we, ↓xX, ↓zy, ↓zE,yg,zz, ↓XD,XU, ↓reduceIte,sevalprocAttr,k0,hk,hL,zL,hF,p3,q3,t1,t2,i0,i1]
    rw [j6 hm h'.frz_o hes (by simp [c0,c1]) rfl rfl rfl rfl rfl]
    (simp -implicitDefEqProofs +contextual (disch:=omega) only [zB,zi, ↓XD,XU, ↓reduceIte,sevalprocAttr,k0,hk])<;>rfl,rfl,rfl⟩
 ·rw [if_neg c0]
  refine ⟨_,by
   simp -implicitDefEqProofs +contextual (disch:=omega) only [zB,zi,zZ,List.cons_append,List.nil_append,zo,zD,code,zb,zc.cells,ups,zf,zj,zm,Ins.cells, ↓we, ↓xX, ↓zy, ↓zE,yg,zz, ↓XD,XU, ↓reduceIte,sevalprocAttr,k0,hk,hL,zL,hF,p3,q3,t1,t2,i0,i1]
   rw [j6 hm h'.frz_o hes (by simp [c0]) rfl rfl rfl rfl rfl]
   (simp -implicitDefEqProofs +contextual (disch:=omega) only [zB,zi, ↓XD,XU, ↓reduceIte,sevalprocAttr,k0,hk])<;>rfl,rfl,rfl⟩
end
end
section
theorem zam {rs fs:List Int} {k y:Int} (hk:k<4):zal rs fs k y↔∃ j:Int,0≤j∧j<4∧(j<k∧zS (za rs j)∧za fs j=y):=by
 constructor
 ·rintro (⟨h1,h2,h3⟩|⟨h1,h2,h3⟩|⟨h1,h2,h3⟩)
  ·exact ⟨0,by omega,by omega,h1,h2,h3⟩
  ·exact ⟨1,by omega,by omega,h1,h2,h3⟩
  ·exact ⟨2,by omega,by omega,h1,h2,h3⟩
 ·rintro ⟨j,j0,j4,h1,h2,h3⟩
  have:j=0∨j=1∨j=2:=by omega
  rcases this with rfl|rfl|rfl
  ·exact .inl ⟨h1,h2,h3⟩
  ·exact .inr (.inl ⟨h1,h2,h3⟩)
  ·exact .inr (.inr ⟨h1,h2,h3⟩)
section
variable {ps:List zc} {f:zc} {nd:Ins} {p q:PV} {gs:List Gd} {at_:Int} {rl:List Int} {n:Nat}
theorem zAZ {H:zd} {tkp:PV} {a:List Int×List Int} {k:Int} (hrl:rl.length=4) (h:YY ps f nd p q gs n k H tkp a) (hk:k<4) (hro:ze nd.Op=some rl) (hn1:n≤1048576)
  (hr:za rl k=2) (hx:za [nd.A,nd.B,nd.C,nd.D] k<n∧ -1-za [nd.A,nd.B,nd.C,nd.D] k<n):vM ps f nd p q gs at_ rl n k H tkp a:=by
 obtain ⟨k0,k1,h,hn,htk⟩:=h
 obtain ⟨ts,tk⟩:=a
 simp only at h hn htk
 unfold vM
 rw [ug hr]
 obtain ⟨x,hxx⟩:∃ x,za [nd.A,nd.B,nd.C,nd.D] k=x:=⟨_,rfl⟩
 rw [hxx] at hx ⊢
 obtain ⟨x1,x2⟩:=hx
 have hH:=xd h.c8
 have hL:=fun z H=>w9 z H nd.Op
 simp only [hro] at hL
 have hF:=vT nd
 have t1:=wd k0 (by omega:k<rl.length)
 have t2:=wd (l:=[nd.A,nd.B,nd.C,nd.D]) k0 (by simpa using hk)
 rw [hr] at t1
 rw [hxx] at t2
 have p3:=h.c3
 have h':=h.app [.map []]
 have hm:(H++[yf.map []])[H.length]?=some (.map (([]:List (Int×Int)).map fun e=>(.int .i64 e.1,.int .i64 e.2))):=xo _ _
 have htake:=fun y hb=>h.take y hb []
 obtain ⟨G,hG⟩:∃ G,H++[yf.map []]=G:=⟨_,rfl⟩
 have hGl:G.length=H.length+1:=by rw [←hG];simp
 rw [hG] at h' hm
 have q3:=h'.c3
 have q6:=h'.c6
 have q8:=h'.c8
 simp only [Ins.cells,zL,List.map_cons,List.map_nil,yn] at hF hL q3 q6 p3 t1 t2
 by_cases cx:x<0
 ·rw [if_pos cx]
  obtain ⟨y,hy⟩:∃ y, -1-x=y:=⟨_,rfl⟩
  rw [hy] at x2 ⊢
  have y0:0≤y:=by omega
  have y1:y<ts.length:=by omega
  by_cases cw:za ts y=1
  ·rw [if_pos cw]
   have hea:=zmo ps f at_ p q tkp nd rl hrl k 2 x 1 y H.length G hk h'.c3 (by omega)
   simp only [zZ,List.cons_append,List.nil_append,zL,zo,code,zb,zc.cells,ups,zf,zj,zm] at hea
   cases hs:z8 (fun j=>j<k∧zS (za rl j)∧za [nd.A,nd.B,nd.C,nd.D] j=y) 0 4 with
   |some j=>
    rw [hs] at hea
    obtain ⟨st,hea,g8,g9⟩:=hea
    obtain ⟨j0,j1,j2,_⟩:=xH.1 hs
    rw [if_pos ((zam hk).2 ⟨j,j0,j1,j2⟩)]
    refine ⟨st,by (simp -implicitDefEqProofs +contextual (disch:=omega) only [zB,zi,zZ,List.cons_append,List.nil_append,zo,zD,code,zb,zc.cells,ups,zf,zj,zm,Ins.cells,jC, ↓we, ↓xX, ↓zy, ↓zE,yg,zz, ↓XD,XU, ↓reduceIte,sevalprocAttr,k0,hk,hL,zL,hF,p3,hG,q3,q6,q8,t1,t2,x1,cx,hy,y0,y1,eq_true cw,hea])<;>rfl,g8,g9⟩
   |none=>
    rw [hs] at hea
    rw [if_neg fun he=>by obtain ⟨j,j0,j1,j2⟩:=(zam hk).1 he;exact y7.1 hs j j0 j1 j2]
    obtain ⟨p',H',e1,e2,e3,e4⟩:=htake y (by omega)
    rw [hG] at e1
    have hr1:=jb (G.set 6 (.cells 1 (yn (ts.set y.toNat 0)))) 1 [.int .i64 y]
    simp only [List.length_set] at hr1
    refine ⟨p',_,_,by
     simp -implicitDefEqProofs +contextual (disch:=omega) only [zB,zi,zZ,List.cons_append,List.nil_append,zo,zD,code,zb,zc.cells,ups,zf,zj,zm,Ins.cells,jC, ↓we, ↓xX, ↓zy, ↓zE,yg,zz, ↓XD,XU, ↓reduceIte,sevalprocAttr,k0,hk,hL,zL,hF,p3,hG,q3,q6,q8,t1,t2,x1,cx,hy,y0,y1,eq_true cw,hea,hr1.1,hr1.2,e1]
     rw [uI (es:=[]) e3 e2.frz_o (by simp) (by simp) rfl rfl rfl rfl rfl]
     (simp -implicitDefEqProofs +contextual (disch:=omega) only [zB,zi, ↓XD,XU, ↓reduceIte,sevalprocAttr,k0,hk])<;>rfl,?_,e2.next (H:=H) (at_:=at_) (rl:=rl) (by omega) (k+1)⟩
    simp [St.next,jO _ (show 9≤H.length by omega),zL]
  ·rw [if_neg cw]
   refine ⟨_,by (simp -implicitDefEqProofs +contextual (disch:=omega) only [zB,zi,zZ,List.cons_append,List.nil_append,zo,zD,code,zb,zc.cells,ups,zf,zj,zm,Ins.cells,jC, ↓we, ↓xX, ↓zy, ↓zE,yg,zz, ↓XD,XU, ↓reduceIte,sevalprocAttr,k0,hk,hL,zL,hF,p3,hG,q3,q6,q8,t1,t2,x1,cx,hy,y0,y1,eq_false cw])<;>rfl,rfl,rfl⟩
 ·rw [if_neg cx]
  have x0:0≤x:=by omega
  have x3:x<ts.length:=by omega
  by_cases cw:za ts x=1
  ·rw [if_pos cw]
   refine ⟨tkp,_,_,by
    simp -implicitDefEqProofs +contextual (disch:=omega) only [zB,zi,zZ,List.cons_append,List.nil_append,zo,zD,code,zb,zc.cells,ups,zf,zj,zm,Ins.cells,jC, ↓we, ↓xX, ↓zy, ↓zE,yg,zz, ↓XD,XU, ↓reduceIte,sevalprocAttr,k0,hk,hL,zL,hF,p3,hG,q3,q6,q8,t1,t2,x0,x3,cx,eq_true cw]
    rw [uI (es:=[]) hm h'.frz_o (by simp) (by simp) rfl rfl rfl rfl rfl]
    (simp -implicitDefEqProofs +contextual (disch:=omega) only [zB,zi, ↓XD,XU, ↓reduceIte,sevalprocAttr,k0,hk])<;>rfl,?_,h'.next (H:=H) (at_:=at_) (rl:=rl) (by omega) (k+1)⟩
   simp [St.next,jO _ (show 9≤H.length by omega),zL]
  ·rw [if_neg cw]
   refine ⟨_,by (simp -implicitDefEqProofs +contextual (disch:=omega) only [zB,zi,zZ,List.cons_append,List.nil_append,zo,zD,code,zb,zc.cells,ups,zf,zj,zm,Ins.cells,jC, ↓we, ↓xX, ↓zy, ↓zE,yg,zz, ↓XD,XU, ↓reduceIte,sevalprocAttr,k0,hk,hL,zL,hF,p3,hG,q3,q6,q8,t1,t2,x0,x3,cx,eq_false cw])<;>rfl,rfl,rfl⟩
theorem zA0 {H:zd} {tkp:PV} {a:List Int×List Int} {k:Int} (hrl:rl.length=4) (h:YY ps f nd p q gs n k H tkp a) (hk:k<4) (hro:ze nd.Op=some rl) (hn1:n≤1048576)
  (hr:za rl k=3) (hx:za [nd.A,nd.B,nd.C,nd.D] k<n∧ -1-za [nd.A,nd.B,nd.C,nd.D] k<n):vM ps f nd p q gs at_ rl n k H tkp a:=by
 obtain ⟨k0,k1,h,hn,htk⟩:=h
 obtain ⟨ts,tk⟩:=a
 simp only at h hn htk
 unfold vM
 rw [QE hr]
 obtain ⟨x,hxx⟩:∃ x,za [nd.A,nd.B,nd.C,nd.D] k=x:=⟨_,rfl⟩
 rw [hxx] at hx ⊢
 obtain ⟨x1,x2⟩:=hx
 have hH:=xd h.c8
 have hL:=fun z H=>w9 z H nd.Op
 simp only [hro] at hL
 have hF:=vT nd
 have t1:=wd k0 (by omega:k<rl.length)
 have t2:=wd (l:=[nd.A,nd.B,nd.C,nd.D]) k0 (by simpa using hk)
 rw [hr] at t1
 rw [hxx] at t2
 have p3:=h.c3
 have h':=h.app [.map []]
 have hm:(H++[yf.map []])[H.length]?=some (.map (([]:List (Int×Int)).map fun e=>(.int .i64 e.1,.int .i64 e.2))):=xo _ _
 have htake:=fun y hb=>h.take y hb []
 obtain ⟨G,hG⟩:∃ G,H++[yf.map []]=G:=⟨_,rfl⟩
 have hGl:G.length=H.length+1:=by rw [←hG];simp
 rw [hG] at h' hm
 have q3:=h'.c3
 have q6:=h'.c6
 have q8:=h'.c8
 simp only [Ins.cells,zL,List.map_cons,List.map_nil,yn] at hF hL q3 q6 p3 t1 t2
 by_cases cx:x<0
 ·rw [if_pos cx]
  obtain ⟨y,hy⟩:∃ y, -1-x=y:=⟨_,rfl⟩
  rw [hy] at x2 ⊢
  have y0:0≤y:=by omega
  have y1:y<ts.length:=by omega
  by_cases cw:za ts y=3
  ·rw [if_pos cw]
   have hea:=zmo ps f at_ p q tkp nd rl hrl k 3 x 3 y H.length G hk h'.c3 (by omega)
   simp only [zZ,List.cons_append,List.nil_append,zL,zo,code,zb,zc.cells,ups,zf,zj,zm] at hea
   cases hs:z8 (fun j=>j<k∧zS (za rl j)∧za [nd.A,nd.B,nd.C,nd.D] j=y) 0 4 with
   |some j=>
    rw [hs] at hea
    obtain ⟨st,hea,g8,g9⟩:=hea
    obtain ⟨j0,j1,j2,_⟩:=xH.1 hs
    rw [if_pos ((zam hk).2 ⟨j,j0,j1,j2⟩)]
    refine ⟨st,by (simp -implicitDefEqProofs +contextual (disch:=omega) only [zB,zi,zZ,List.cons_append,List.nil_append,zo,zD,code,zb,zc.cells,ups,zf,zj,zm,Ins.cells,jC, ↓we, ↓xX, ↓zy, ↓zE,yg,zz, ↓XD,XU, ↓reduceIte,sevalprocAttr,k0,hk,hL,zL,hF,p3,hG,q3,q6,q8,t1,t2,x1,cx,hy,y0,y1,eq_true cw,hea])<;>rfl,g8,g9⟩
   |none=>
    rw [hs] at hea
    rw [if_neg fun he=>by obtain ⟨j,j0,j1,j2⟩:=(zam hk).1 he;exact y7.1 hs j j0 j1 j2]
    obtain ⟨p',H',e1,e2,e3,e4⟩:=htake y (by omega)
    rw [hG] at e1
    have hr1:=jb (G.set 6 (.cells 1 (yn (ts.set y.toNat 0)))) 1 [.int .i64 y]
    simp only [List.length_set] at hr1
    refine ⟨p',_,_,by
     simp -implicitDefEqProofs +contextual (disch:=omega) only [zB,zi,zZ,List.cons_append,List.nil_append,zo,zD,code,zb,zc.cells,ups,zf,zj,zm,Ins.cells,jC, ↓we, ↓xX, ↓zy, ↓zE,yg,zz, ↓XD,XU, ↓reduceIte,sevalprocAttr,k0,hk,hL,zL,hF,p3,hG,q3,q6,q8,t1,t2,x1,cx,hy,y0,y1,eq_true cw,hea,hr1.1,hr1.2,e1]
     rw [uI (es:=[]) e3 e2.frz_o (by simp) (by simp) rfl rfl rfl rfl rfl]
     (simp -implicitDefEqProofs +contextual (disch:=omega) only [zB,zi, ↓XD,XU, ↓reduceIte,sevalprocAttr,k0,hk])<;>rfl,?_,e2.next (H:=H) (at_:=at_) (rl:=rl) (by omega) (k+1)⟩
    simp [St.next,jO _ (show 9≤H.length by omega),zL]
  ·rw [if_neg cw]
   refine ⟨_,by (simp -implicitDefEqProofs +contextual (disch:=omega) only [zB,zi,zZ,List.cons_append,List.nil_append,zo,zD,code,zb,zc.cells,ups,zf,zj,zm,Ins.cells,jC, ↓we, ↓xX, ↓zy, ↓zE,yg,zz, ↓XD,XU, ↓reduceIte,sevalprocAttr,k0,hk,hL,zL,hF,p3,hG,q3,q6,q8,t1,t2,x1,cx,hy,y0,y1,eq_false cw])<;>rfl,rfl,rfl⟩
 ·rw [if_neg cx]
  have x0:0≤x:=by omega
  have x3:x<ts.length:=by omega
  by_cases cw:za ts x=3
  ·rw [if_pos cw]
   refine ⟨tkp,_,_,by
    simp -implicitDefEqProofs +contextual (disch:=omega) only [zB,zi,zZ,List.cons_append,List.nil_append,zo,zD,code,zb,zc.cells,ups,zf,zj,zm,Ins.cells,jC, ↓we, ↓xX, ↓zy, ↓zE,yg,zz, ↓XD,XU, ↓reduceIte,sevalprocAttr,k0,hk,hL,zL,hF,p3,hG,q3,q6,q8,t1,t2,x0,x3,cx,eq_true cw]
    rw [uI (es:=[]) hm h'.frz_o (by simp) (by simp) rfl rfl rfl rfl rfl]
    (simp -implicitDefEqProofs +contextual (disch:=omega) only [zB,zi, ↓XD,XU, ↓reduceIte,sevalprocAttr,k0,hk])<;>rfl,?_,h'.next (H:=H) (at_:=at_) (rl:=rl) (by omega) (k+1)⟩
   simp [St.next,jO _ (show 9≤H.length by omega),zL]
  ·rw [if_neg cw]
   refine ⟨_,by (simp -implicitDefEqProofs +contextual (disch:=omega) only [zB,zi,zZ,List.cons_append,List.nil_append,zo,zD,code,zb,zc.cells,ups,zf,zj,zm,Ins.cells,jC, ↓we, ↓xX, ↓zy, ↓zE,yg,zz, ↓XD,XU, ↓reduceIte,sevalprocAttr,k0,hk,hL,zL,hF,p3,hG,q3,q6,q8,t1,t2,x0,x3,cx,eq_false cw])<;>rfl,rfl,rfl⟩
end
end
theorem zfP {n:Nat} {roots:List PV} {H l:zd} (hb:bare n (zt roots)=true) (hn:H.length=n) (h9:9≤n):trim n roots (H++l) v9=(H,v9):=by
 subst hn
 have h1:(v9.all fun e=>decide (H.length≤e.1)||decide (e.2<H.length))=true:=by
  rw [List.all_eq_true];intro e he;simp at he;rcases he with rfl|rfl|rfl|rfl<;>simp<;>omega
 have h2:v9.filter (fun e=>decide (e.2<H.length))=v9:=List.filter_eq_self.2 (by intro e he;simp at he;rcases he with rfl|rfl|rfl|rfl<;>simp<;>omega)
 rw [trim,hb,h1,h2]
 simp
abbrev W2 (ps:List zc) (f:zc) (a:Int) (p q tkp:PV) (rl:List Int) (k x:Int) (M:Nat):zk:=[(0,code ps),(1,.agg f.cells),(2,.int .i64 a),(3,.agg (zo p q)),(4,.ptr 0 0 0 1),(5,.ptr 1 0 0 1),(7,.ptr 2 0 0 1),(8,.int .i64 0),(9,.nils),(10,.ptr 3 0 0 1),(11,.ptr 8 0 0 1),(12,tkp),(51,zL rl),(52,.int .i64 k),(13,.int .i64 k),(14,.int .i64 11),(15,.int .i64 x),(16,.mp M),(61,.int .i64 11),(62,.bool false)]
theorem zx6 (ps:List zc) (f:zc) (a:Int) (p q tkp:PV) (rl:List Int) (k x:Int) (M:Nat) (K:zd) (ts:List Int) (gp:PV) (us:List Up) (c6:K[6]?=some (.cells 1 (yn ts))) (c8:K[8]?=some (.cells 3 [[.bool true,.sl 6 0 ts.length ts.length,gp]])) (hb:us.length≤1048576) (hu:∀ u∈us,u.Local=true→0≤u.Index∧u.Index<ts.length) (hlt:bare K.length (zt ((W2 ps f a p q tkp rl k x M).map fun e=>e.2))=true) (hK:9≤K.length):match z8 (fun (j:Int)=>(za us j).Local=true∧¬za ts (za us j).Index=2) 0 us.length with|some j=>∃ st,EV A (.loop (z7 2)) (⟨W2 ps f a p q tkp rl k x M++[(164,ups us),(165,.int .i64 us.length),(166,.int .i64 (0))],[],K,v9⟩:St)=some (.ret,st)∧st.per.get 8=.int .i64 10∧st.per.get 9=.nils|none=>EV A (.loop (z7 2)) (⟨W2 ps f a p q tkp rl k x M++[(164,ups us),(165,.int .i64 us.length),(166,.int .i64 (0))],[],K,v9⟩:St)=some (zp.exit 5,(⟨W2 ps f a p q tkp rl k x M++[(164,ups us),(165,.int .i64 us.length),(166,.int .i64 (us.length))],[],K,v9⟩:St)):=by
 refine yt (fun i=>(⟨W2 ps f a p q tkp rl k x M++[(164,ups us),(165,.int .i64 us.length),(166,.int .i64 i)],[],K,v9⟩:St)) (fun (j:Int)=>(za us j).Local=true∧¬za ts (za us j).Index=2) (fun (j:Int) (st:St)=>st.per.get 8=.int .i64 10∧st.per.get 9=.nils) (zp.exit 5,(⟨W2 ps f a p q tkp rl k x M++[(164,ups us),(165,.int .i64 us.length),(166,.int .i64 (us.length))],[],K,v9⟩:St)) (0) (us.length) ?_ ?_ ?_ (0) (by omega) (by omega)
 ·intro i hi hn hp
  have hu1:=hu _ (jc hi hn);have htr:∀ (X:zd) (v:Int),trim K.length (((W2 ps f a p q tkp rl k x M).map fun e=>e.2)++[ups us,.int .i64 us.length,.int .i64 v]) (K++X) v9=(K,v9):=fun X v=>zfP (by rw [←hlt];simp [bare,zt,refs,List.all_append]) rfl hK;have g6:=zY K [.cells 2 [[.bool (za us i).Local,.int .i64 (za us i).Index]]] c6;have g8:=zY K [.cells 2 [[.bool (za us i).Local,.int .i64 (za us i).Index]]] c8
  simp only [W2,ups,Up.cells,List.map_cons,List.map_nil,List.cons_append,List.nil_append] at htr
  cases hL:(za us i).Local with
  |false=>
   refine ⟨_,by (simp -implicitDefEqProofs +contextual (disch:=omega) only [Wu,zi,W2,List.cons_append,List.nil_append,ups,Up.cells, ↓XD,XU, ↓reduceIte,sevalprocAttr,hn,hL])<;>rfl,by simp [St.next,htr]⟩
  |true=>
   obtain ⟨u0,u1⟩:=hu1 hL
   rw [hL] at g6 g8
   have hp':za ts (za us i).Index=2:=Classical.byContradiction fun h=>hp ⟨hL,h⟩
   refine ⟨_,by (simp -implicitDefEqProofs +contextual (disch:=omega) only [Wu,zi,W2,List.cons_append,List.nil_append,ups,Up.cells, ↓XD,XU, ↓reduceIte,sevalprocAttr,hn,hL,g6,g8,u0,u1,eq_true hp'])<;>rfl,by simp [St.next,htr]⟩
 ·intro i hi hn hp
  have hu1:=hu _ (jc hi hn);have htr:∀ (X:zd) (v:Int),trim K.length (((W2 ps f a p q tkp rl k x M).map fun e=>e.2)++[ups us,.int .i64 us.length,.int .i64 v]) (K++X) v9=(K,v9):=fun X v=>zfP (by rw [←hlt];simp [bare,zt,refs,List.all_append]) rfl hK;have g6:=zY K [.cells 2 [[.bool (za us i).Local,.int .i64 (za us i).Index]]] c6;have g8:=zY K [.cells 2 [[.bool (za us i).Local,.int .i64 (za us i).Index]]] c8
  obtain ⟨hL,hp'⟩:=hp
  obtain ⟨u0,u1⟩:=hu1 hL
  rw [hL] at g6 g8
  refine ⟨_,by (simp -implicitDefEqProofs +contextual (disch:=omega) only [Wu,zi,W2,List.cons_append,List.nil_append,ups,Up.cells, ↓XD,XU, ↓reduceIte,sevalprocAttr,hn,hL,g6,g8,u0,u1,eq_false hp'])<;>rfl,by simp [zk.get,zk.put],by simp [zk.get,zk.put]⟩
 ·rintro i hi rfl
  refine ⟨by simp -implicitDefEqProofs +contextual (disch:=omega) only [Wu,zi, ↓XD,XU, ↓reduceIte,sevalprocAttr,W2,ups,Up.cells,Int.lt_irrefl],by simp⟩
section
theorem zdH:∀ l:List Int,zt (l.map fun x=>PV.int .i64 x)=[]
 |[]=>rfl
 |x::l=>by rw [List.map_cons,zt,zdH l];rfl
section
variable {ps:List zc} {f:zc} {nd:Ins} {p q:PV} {gs:List Gd} {at_:Int} {rl:List Int} {n:Nat}
theorem zzb {H:zd} {tkp:PV} {a:List Int×List Int} {k:Int} (hrl:rl.length=4) (h:YY ps f nd p q gs n k H tkp a) (hk:k<4) (hro:ze nd.Op=some rl) (hn1:n≤1048576) (hps:ps.length≤1048576) (rp:refs p=[]) (rq:refs q=[])
  (hr:za rl k=11) (hx:0≤za [nd.A,nd.B,nd.C,nd.D] k∧za [nd.A,nd.B,nd.C,nd.D] k<ps.length)
  (hub:(za ps (za [nd.A,nd.B,nd.C,nd.D] k)).Ups.length≤1048576) (hu:∀ u∈(za ps (za [nd.A,nd.B,nd.C,nd.D] k)).Ups,u.Local=true→0≤u.Index∧u.Index<n):vM ps f nd p q gs at_ rl n k H tkp a:=by
 obtain ⟨k0,k1,h,hn,htk⟩:=h
 obtain ⟨ts,tk⟩:=a
 simp only at h hn htk
 unfold vM
 rw [zoH hr]
 obtain ⟨x,hxx⟩:∃ x,za [nd.A,nd.B,nd.C,nd.D] k=x:=⟨_,rfl⟩
 rw [hxx] at hx hub hu ⊢
 obtain ⟨x0,x1⟩:=hx
 have hH:=xd h.c8
 have hL:=fun z H=>w9 z H nd.Op
 simp only [hro] at hL
 have hF:=vT nd
 have t1:=wd k0 (by omega:k<rl.length)
 have t2:=wd (l:=[nd.A,nd.B,nd.C,nd.D]) k0 (by simpa using hk)
 rw [hr] at t1
 rw [hxx] at t2
 have p3:=h.c3
 have h':=h.app [.map []]
 have hm:(H++[yf.map []])[H.length]?=some (.map (([]:List (Int×Int)).map fun e=>(.int .i64 e.1,.int .i64 e.2))):=xo _ _
 obtain ⟨G,hG⟩:∃ G,H++[yf.map []]=G:=⟨_,rfl⟩
 have hGl:G.length=H.length+1:=by rw [←hG];simp
 rw [hG] at h' hm
 have q3:=h'.c3
 have q0:=h'.c0
 have hbare:bare G.length (zt ((W2 ps f at_ p q tkp rl k x H.length).map fun e=>e.2))=true:=by
  have h2:=h.tk.lt
  refine List.all_eq_true.2 fun r hr=>?_
  have h5:∀ r∈refs (zL rl),r<G.length:=fun r hr=>by simp [refs,zdH] at hr
  simp only [W2,List.map_cons,List.map_nil,zt,refs,rp,rq,List.append_nil,List.nil_append,List.mem_append,List.mem_cons,List.not_mem_nil,or_false,false_or] at hr
  simp only [decide_eq_true_eq]
  rcases hr with hr|hr|hr|hr|hr|hr|hr|hr
  all_goals first|omega|(have:=h2 _ hr;omega)|exact h5 _ hr
 have hups:=zx6 ps f at_ p q tkp rl k x H.length G ts (.sl 7 0 gs.length gs.length) (za ps x).Ups h'.c6 h'.c8 hub (by rw [hn];exact hu) hbare (by omega)
 simp only [W2,zZ,List.cons_append,List.nil_append,zL,zo,code,zb,zc.cells,ups,zf,zj,zm] at hups
 simp only [Ins.cells,zL,List.map_cons,List.map_nil,zb] at hF hL q3 q0 p3 t1 t2
 cases hs:z8 (fun j=>(za (za ps x).Ups j).Local=true∧¬za ts (za (za ps x).Ups j).Index=2) 0 (za ps x).Ups.length with
 |some j=>
  rw [hs] at hups
  obtain ⟨st,hups,g8,g9⟩:=hups
  obtain ⟨j0,j1,⟨j2,j3⟩,_⟩:=xH.1 hs
  rw [if_pos ⟨_,jc j0 j1,j2,j3⟩]
  refine ⟨st,by (simp -implicitDefEqProofs +contextual (disch:=omega) only [zB,zi,zZ,List.cons_append,List.nil_append,zo,zD,code,zb,zc.cells,ups,zf,zj,zm,Ins.cells, ↓we, ↓XD,XU, ↓reduceIte,sevalprocAttr,k0,hk,hL,zL,hF,p3,hG,q3,q0,t1,t2,x0,x1,hups])<;>rfl,g8,g9⟩
 |none=>
  rw [hs] at hups
  rw [if_neg (by rintro ⟨u,hu2,h1,h2⟩;obtain ⟨j,j0,j1,rfl⟩:=Y' hu2;exact y7.1 hs j j0 j1 ⟨h1,h2⟩)]
  refine ⟨tkp,_,_,by
   simp -implicitDefEqProofs +contextual (disch:=omega) only [zB,zi,zZ,List.cons_append,List.nil_append,zo,zD,code,zb,zc.cells,ups,zf,zj,zm,Ins.cells, ↓we, ↓XD,XU, ↓reduceIte,sevalprocAttr,k0,hk,hL,zL,hF,p3,hG,q3,q0,t1,t2,x0,x1,hups]
   rw [uI (es:=[]) hm h'.frz_o (by simp) (by simp) rfl rfl rfl rfl rfl]
   (simp -implicitDefEqProofs +contextual (disch:=omega) only [zB,zi, ↓XD,XU, ↓reduceIte,sevalprocAttr,k0,hk])<;>rfl,?_,h'.next (H:=H) (at_:=at_) (rl:=rl) (by omega) (k+1)⟩
  simp [St.next,jO _ (show 9≤H.length by omega),zL]
end
end
end Go.Proofs.Tryd.Av
end

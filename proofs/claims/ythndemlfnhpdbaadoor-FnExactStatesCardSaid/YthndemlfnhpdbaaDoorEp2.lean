/- What the functions compute -/
import Derived.Test.YthndemlfnhpdbaaDoorEp1
set_option linter.all false
section
attribute [local congr] ite_congr
set_option maxRecDepth 10000
set_option maxHeartbeats 4000000
namespace Go.Proofs.Tryd.Av
open Go Go.Av Classical
section
theorem zpE {P:xn} {b:AC} {st:St} {id:Nat} (h:EV P b st=some (.exit id,st)):EV P (.loop b) st=some (.exit id,st):=by
 rw [uK,h]
theorem zpF (ps:List zc) (p:Int) (nd:Ins) (t:PV) (L:Nat) (rs fs:List Int) (tkp syp:PV) (k x w q:Int) (K:zd) (b:Bool):EV A (.loop (xN 2)) ⟨wb ps p nd t L rs fs tkp syp k++[(13,.int .i64 k),(14,.int .i64 x),(15,.int .i64 w),(16,.bool b),(17,.int .i64 q),(20,.int .i64 0),(21,.int .i64 1)],[],K,[]⟩=some (.exit 4,⟨wb ps p nd t L rs fs tkp syp k++[(13,.int .i64 k),(14,.int .i64 x),(15,.int .i64 w),(16,.bool b),(17,.int .i64 q),(20,.int .i64 0),(21,.int .i64 1)],[],K,[]⟩):=by
 refine zpE ?_
 simp -implicitDefEqProofs +contextual (disch:=omega) only [ZA,ye,wb, ↓XD,XU, ↓reduceIte,sevalprocAttr]
theorem zCf (ps:List zc) (p:Int) (nd:Ins) (t:PV) (L:Nat) (rs fs:List Int) (tkp syp:PV) (k x w q:Int) (K:zd) (sp:PV) (n:Int):EV A (.loop (xN 2)) ⟨wb ps p nd t L rs fs tkp syp k++[(13,.int .i64 k),(14,.int .i64 x),(15,.int .i64 w),(16,.bool true),(17,.int .i64 q),(64,sp),(65,.int .i64 n),(66,.int .i64 n),(20,.int .i64 0),(21,.int .i64 1)],[],K,[]⟩=some (.exit 4,⟨wb ps p nd t L rs fs tkp syp k++[(13,.int .i64 k),(14,.int .i64 x),(15,.int .i64 w),(16,.bool true),(17,.int .i64 q),(64,sp),(65,.int .i64 n),(66,.int .i64 n),(20,.int .i64 0),(21,.int .i64 1)],[],K,[]⟩):=by
 refine zpE ?_
 simp -implicitDefEqProofs +contextual (disch:=omega) only [ZA,ye,wb, ↓XD,XU, ↓reduceIte,sevalprocAttr]
noncomputable def rdN (rs fs:List Int):Nat->Int->Rd->Option Rd
 |0,_,a=>some a
 |m+1,k,a=>(vv (za rs k) (za fs k) a).bind (rdN rs fs m (k+1))
structure zoQ (r x:Int) (n:Nat):Prop where
 op:wu r->x<n/\ -1-x<n
 pl:(r=4\/r=5\/r=6)->0<=x/\x<n
 t3:r=18->0<=x/\x+2<n
 t2:(r=19\/r=20)->0<=x/\x+1<n
def zsp (ps:List zc) (p:Int) (nd:Ins) (t:PV) (H:zd) (rs fs:List Int) (b0 b1:zZ) (res:Option Rd) (r:zp×St):Prop:=match res with
 |none=>∃ st,r=(.ret,st)/\st.per.get 8=.nils/\st.per.get 9=.bool false/\st.ed=[]/\(∀ j,j<H.length->j∉refs t->st.H[j]?=H[j]?)/\H.length<=st.H.length
 |some a=>∃ tkp syp K,r=(.exit 0,(⟨wb ps p nd t H.length rs fs tkp syp 4,[],K,[]⟩:St))/\RdH b0 b1 H t K tkp syp a
structure zoR (b0 b1:zZ) (H:zd) (t:PV) (n:Nat) (k:Int) (K:zd) (tkp syp:PV) (a:Rd):Prop where
 k0:0<=k
 k1:k<=4
 h:RdH b0 b1 H t K tkp syp a
 n:a.ts.length=n
 tk:(a.tk.length:Int)<=k
 sy:(a.sy.length:Int)<=k
theorem zCp {r x:Int} {a:Rd} (h:xQ r=0):vv r x a=some a:=by simp [vv,h]
theorem zh6 {r x:Int} {a:Rd} (h:wu r):vv r x a=if x<0 then (if za a.ts (-1-x)=xQ r then (if -1-x∈a.sy then none else some ⟨a.ts.set (-1-x).toNat 0,a.tk++[-1-x],a.sy⟩) else none) else if za a.ts x=xQ r then some a else none:=by
 rcases h with rfl|rfl
 ·rw [zy2];simp [xQ]
 ·rw [zy3];simp [xQ]
theorem zvI {r x:Int} {a:Rd} (h:r=4\/r=5\/r=6):vv r x a=if za a.ts x=xQ r then some ⟨a.ts,a.tk,a.sy++[x]⟩ else none:=by
 rcases h with rfl|rfl|rfl
 ·rw [zy4];simp [xQ]
 ·rw [zy5];simp [xQ]
 ·rw [zy6];simp [xQ]
section
variable {ps:List zc} {p:Int} {nd:Ins} {t:PV} {H:zd} {rs fs:List Int} {b0 b1:zZ} {n:Nat}
theorem zAH (hfs:fs.length=4) (hrs:rs.length=4) (hn:n<=1048576) (hfit:∀ k:Int,0<=k->k<4->zoQ (za rs k) (za fs k) n) (hx:∀ k:Int, -9223372036854775808<=za fs k/\za fs k<9223372036854775808) (k:Int) (K:zd) (tkp syp:PV) (a:Rd) (h:zoR b0 b1 H t n k K tkp syp a):
  (∃ r,EV A (xN 0) ⟨wb ps p nd t H.length rs fs tkp syp k,[],K,[]⟩=some r/\r.1≠.normal/\zsp ps p nd t H rs fs b0 b1 (rdN rs fs (4-k).toNat k a) r)\/
  ∃ (K':zd) (tkp' syp':PV) (a':Rd) (st':St),zoR b0 b1 H t n (k+1) K' tkp' syp' a'/\k<4/\EV A (xN 0) ⟨wb ps p nd t H.length rs fs tkp syp k,[],K,[]⟩=some (.normal,st')/\(⟨wb ps p nd t H.length rs fs tkp syp k,[],K,[]⟩:St).next st'=⟨wb ps p nd t H.length rs fs tkp' syp' (k+1),[],K',[]⟩/\rdN rs fs (4-k).toNat k a=rdN rs fs (4-(k+1)).toNat (k+1) a':=by
 obtain ⟨k0,k1,hh,hN,htk,hsy⟩:=h
 by_cases ck:k<4
 ·obtain ⟨m,hm⟩:∃ m,(4-k).toNat=m+1:=⟨(4-(k+1)).toNat,by omega⟩
  have hm2:(4-(k+1)).toNat=m:=by omega
  rw [hm,hm2,rdN]
  obtain ⟨r,hr⟩:∃ r,za rs k=r:=⟨_,rfl⟩
  obtain ⟨x,hxx⟩:∃ x,za fs k=x:=⟨_,rfl⟩
  have hf:=hfit k k0 ck
  have hb:=hx k
  rw [hr,hxx] at hf
  rw [hxx] at hb
  rw [hr,hxx]
  have hwt:=zyP r
  have nx:∀ {K':zd} {tkp' syp':PV} {a':Rd},RdH b0 b1 H t K' tkp' syp' a'->K.length<=K'.length->RdH b0 b1 H t (trim K.length ((wb ps p nd t H.length rs fs tkp' syp' (k+1)).map (λ e=>e.2)) K' []).1 tkp' syp' a':=λ h2 h3=>h2.trim hh.len h3 (by simp) (by simp)
  by_cases hw:xQ r=0
  ·have ho:¬wu r:=λ e=>by rcases e with rfl|rfl<;>simp [xQ] at hw
   rw [hw] at hwt
   right
   refine ⟨_,tkp,syp,a,_,⟨by omega,by omega,nx hh (aS _),hN,by omega,by omega⟩,ck,by (simp -implicitDefEqProofs +contextual (disch:=omega) only [xh,ye,wb, ↓XD,XU, ↓reduceIte,sevalprocAttr,ck,k0,hfs,hrs,hr,hxx,hwt,ho])<;>rfl,by simp [St.next,ua],by rw [zCp hw];rfl⟩
  ·obtain ⟨w,hwr⟩:∃ w,xQ r=w:=⟨_,rfl⟩
   rw [hwr] at hw hwt
   have hsl:∀ i:Int,0<=i->i<n->∃ tid,t=.sl tid 0 a.ts.length a.ts.length/\K[tid]?=some (.cells 1 (ym a.ts)):=λ i i0 i1=>by
    rcases hh.ty with ⟨_,e⟩|h
    ·rw [e] at hN;simp at hN;omega
    ·exact h
   by_cases ho:wu r
   ·have e18:¬r=18:=λ e=>by subst e;rcases ho with h|h<;>cases h
    have e19:¬r=19:=λ e=>by subst e;rcases ho with h|h<;>cases h
    have e20:¬r=20:=λ e=>by subst e;rcases ho with h|h<;>cases h
    obtain ⟨o1,o2⟩:=hf.op ho
    by_cases cx:x<0
    ·obtain ⟨q,hq⟩:∃ q, -1-x=q:=⟨_,rfl⟩
     have q0:0<=q:=by omega
     have q1:q<n:=by omega
     obtain ⟨tid,rfl,hid⟩:=hsl q q0 q1
     have q2:q<a.ts.length:=by omega
     by_cases cw:za a.ts q=w
     ·have hst:=zAu ps p nd (.sl tid 0 a.ts.length a.ts.length) H.length rs fs tkp syp k x w q K a.sy hh.sy (by omega)
      have hly:=hh.sy.len
      simp only [wb,aB,aA] at hst
      cases hs:z9 (λ j=>za a.sy j=q) 0 a.sy.length with
      |some j=>
       rw [hs] at hst
       obtain ⟨st,hst,g8,g9,ge,gH⟩:=hst
       obtain ⟨j0,j1,j2,_⟩:=xE.1 hs
       have hmem:q∈a.sy:=j2▸jv j0 j1
       left
       refine ⟨_,by (simp -implicitDefEqProofs +contextual (disch:=omega) only [xh,ye,wb, ↓zz, ↓zG,yi,zA, ↓XD,XU, ↓reduceIte,sevalprocAttr,ck,k0,hfs,hrs,hr,hxx,hwt,eq_false hw,ho,eq_true cx,hq,hid,q0,q1,q2,eq_true cw,hly,hst])<;>rfl,by simp,?_⟩
       rw [zh6 ho,hwr,hq,if_pos cx,if_pos cw,if_pos hmem]
       exact ⟨st,rfl,g8,g9,ge,by rw [gH];exact hh.old,by rw [gH];have:=hh.len;omega⟩
      |none=>
       rw [hs] at hst
       have hmem:¬q∈a.sy:=λ hm=>by
        obtain ⟨j,j0,j1,e⟩:=Xs hm
        exact y8.1 hs j j0 j1 e
       obtain ⟨p',K',e1,e2,e3⟩:=hh.take q (by omega)
       have hr1:=ju (K.set tid (.cells 1 (ym (a.ts.set q.toNat 0)))) 1 [.int .i64 q]
       have hno:=zCf ps p nd (.sl tid 0 a.ts.length a.ts.length) H.length rs fs p' syp k x w q K' syp a.sy.length
       simp only [wb,aB,aA,bI] at hno hr1
       have hls:(a.ts.set q.toNat 0).length=a.ts.length:=bI
       have hNs:(⟨a.ts.set q.toNat 0,a.tk++[q],a.sy⟩:Rd).ts.length=n:=by simp only [bI];exact hN
       right
       refine ⟨_,p',syp,⟨a.ts.set q.toNat 0,a.tk++[q],a.sy⟩,_,⟨by omega,by omega,nx e2 e3,hNs,by (try simp only [aQ,bK]);omega,by (try simp only);omega⟩,ck,by (simp -implicitDefEqProofs +contextual (disch:=omega) only [xh,ye,wb, ↓zz, ↓zG,yi,zA, ↓XD,XU, ↓reduceIte,sevalprocAttr,ck,k0,hfs,hrs,hr,hxx,hwt,eq_false hw,ho,eq_true cx,hq,hid,q0,q1,q2,eq_true cw,hly,hst,hr1.1,hr1.2,e1,hno,e18,e19,e20])<;>rfl,by simp [St.next,ua],by rw [zh6 ho,hwr,hq,if_pos cx,if_pos cw,if_neg hmem];rfl⟩
     ·left
      refine ⟨_,by (simp -implicitDefEqProofs +contextual (disch:=omega) only [xh,ye,wb, ↓zz, ↓zG,yi,zA, ↓XD,XU, ↓reduceIte,sevalprocAttr,ck,k0,hfs,hrs,hr,hxx,hwt,eq_false hw,ho,eq_true cx,hq,hid,q0,q1,q2,eq_false cw])<;>rfl,by simp,?_⟩
      rw [zh6 ho,hwr,hq,if_pos cx,if_neg cw]
      exact ⟨_,rfl,by simp [zk.get,zk.put],by simp [zk.get,zk.put],rfl,hh.old,by have:=hh.len;simp only;omega⟩
    ·have x0:0<=x:=by omega
     obtain ⟨tid,rfl,hid⟩:=hsl x x0 o1
     have x1:x<a.ts.length:=by omega
     by_cases cw:za a.ts x=w
     ·have hno:=zpF ps p nd (.sl tid 0 a.ts.length a.ts.length) H.length rs fs tkp syp k x w x K true
      simp only [wb,aB,aA] at hno
      right
      refine ⟨_,tkp,syp,a,_,⟨by omega,by omega,nx hh (aS _),hN,by omega,by omega⟩,ck,by (simp -implicitDefEqProofs +contextual (disch:=omega) only [xh,ye,wb, ↓zz, ↓zG,yi,zA, ↓XD,XU, ↓reduceIte,sevalprocAttr,ck,k0,hfs,hrs,hr,hxx,hwt,eq_false hw,ho,eq_false cx,hid,x0,x1,eq_true cw,hno,e18,e19,e20])<;>rfl,by simp [St.next,ua],by rw [zh6 ho,hwr,if_neg cx,if_pos cw];rfl⟩
     ·left
      refine ⟨_,by (simp -implicitDefEqProofs +contextual (disch:=omega) only [xh,ye,wb, ↓zz, ↓zG,yi,zA, ↓XD,XU, ↓reduceIte,sevalprocAttr,ck,k0,hfs,hrs,hr,hxx,hwt,eq_false hw,ho,eq_false cx,hid,x0,x1,eq_false cw])<;>rfl,by simp,?_⟩
      rw [zh6 ho,hwr,if_neg cx,if_neg cw]
      exact ⟨_,rfl,by simp [zk.get,zk.put],by simp [zk.get,zk.put],rfl,hh.old,by have:=hh.len;simp only;omega⟩
   ·by_cases h3:r=4\/r=5\/r=6
    ·have e18:¬r=18:=λ e=>by subst e;simp at h3
     have e19:¬r=19:=λ e=>by subst e;simp at h3
     have e20:¬r=20:=λ e=>by subst e;simp at h3
     obtain ⟨x0,x1'⟩:=hf.pl h3
     obtain ⟨tid,rfl,hid⟩:=hsl x x0 x1'
     have x1:x<a.ts.length:=by omega
     by_cases cw:za a.ts x=w
     ·obtain ⟨p',K',e1,e2,e3⟩:=hh.stay x (by omega)
      have hr1:=ju K 1 [.int .i64 x]
      have hno:=zpF ps p nd (.sl tid 0 a.ts.length a.ts.length) H.length rs fs tkp p' k x w x K' false
      simp only [wb,aB,aA] at hno
      right
      refine ⟨_,tkp,p',⟨a.ts,a.tk,a.sy++[x]⟩,_,⟨by omega,by omega,nx e2 e3,hN,by (try simp only);omega,by (try simp only [aQ,bK]);omega⟩,ck,by (simp -implicitDefEqProofs +contextual (disch:=omega) only [xh,ye,wb, ↓zz, ↓zG,yi,zA, ↓XD,XU, ↓reduceIte,sevalprocAttr,ck,k0,hfs,hrs,hr,hxx,hwt,eq_false hw,ho,hid,x0,x1,eq_true cw,hr1.1,hr1.2,e1,hno,e18,e19,e20])<;>rfl,by simp [St.next,ua],by rw [zvI h3,hwr,if_pos cw];rfl⟩
     ·left
      refine ⟨_,by (simp -implicitDefEqProofs +contextual (disch:=omega) only [xh,ye,wb, ↓zz, ↓zG,yi,zA, ↓XD,XU, ↓reduceIte,sevalprocAttr,ck,k0,hfs,hrs,hr,hxx,hwt,eq_false hw,ho,hid,x0,x1,eq_false cw])<;>rfl,by simp,?_⟩
      rw [zvI h3,hwr,if_neg cw]
      exact ⟨_,rfl,by simp [zk.get,zk.put],by simp [zk.get,zk.put],rfl,hh.old,by have:=hh.len;simp only;omega⟩
    ·have h4:r=18\/r=19\/r=20:=by
      by_cases q1:r=18
      ·exact .inl q1
      by_cases q2:r=19
      ·exact .inr (.inl q2)
      by_cases q3:r=20
      ·exact .inr (.inr q3)
      exfalso
      apply hw
      rw [<-hwr]
      have n2:¬r=2:=λ e=>ho (.inl e)
      have n3:¬r=3:=λ e=>ho (.inr e)
      have n4:¬r=4:=λ e=>h3 (.inl e)
      have n5:¬r=5:=λ e=>h3 (.inr (.inl e))
      have n6:¬r=6:=λ e=>h3 (.inr (.inr e))
      simp [xQ,n2,n3,n4,n5,n6,q1,q2,q3]
     have hw1:w=1:=by rw [<-hwr];rcases h4 with rfl|rfl|rfl<;>simp [xQ]
     subst hw1
     have hwz:¬((1:Int)=0):=by decide
     have hx':0<=x/\x+1<n:=by
      rcases h4 with h|h|h
      ·have:=hf.t3 h;omega
      ·exact hf.t2 (.inl h)
      ·exact hf.t2 (.inr h)
     obtain ⟨x0,x1'⟩:=hx'
     obtain ⟨tid,rfl,hid⟩:=hsl x x0 (by omega)
     have x1:x<a.ts.length:=by omega
     have x2:x+1<a.ts.length:=by omega
     have x3:0<=x+1:=by omega
     by_cases cw:za a.ts x=1
     ·obtain ⟨p',K',e1,e2,e3⟩:=hh.stay x (by omega)
      have hr1:=ju K 1 [.int .i64 x]
      have hid':K'[tid]?=some (.cells 1 (ym a.ts)):=by
       rcases e2.ty with ⟨e,_⟩|⟨id,e,h⟩
       ·cases e
       ·injection e with e _;subst e;exact h
      rcases h4 with rfl|rfl|rfl
      ·obtain ⟨y0,y1⟩:=hf.t3 rfl
       have hmo:=zr8 ps p nd (.sl tid 0 a.ts.length a.ts.length) H.length rs fs tkp p' k x 1 x 2 K' a.ts e2.ty (by omega) x0 (by omega) (by omega)
       simp only [wb,aB,aA] at hmo
       cases hs:z9 (λ j=>¬za a.ts (x+j)=1) 1 (2+1) with
       |some j=>
        rw [hs] at hmo
        obtain ⟨st,hmo,g8,g9,ge,gH⟩:=hmo
        obtain ⟨j0,j1,j2,_⟩:=xE.1 hs
        have hnn:¬(za a.ts (x+1)=1/\za a.ts (x+2)=1):=λ e=>by
         have:j=1\/j=2:=by omega
         rcases this with rfl|rfl
         ·exact j2 e.1
         ·exact j2 e.2
        have hrd:vv 18 x a=none:=by
         rw [zk8,if_pos cw]
         by_cases q1:za a.ts (x+1)=1
         ·rw [if_pos q1,if_neg λ q2=>hnn ⟨q1,q2⟩]
         ·rw [if_neg q1]
        left
        refine ⟨_,by (simp -implicitDefEqProofs +contextual (disch:=omega) only [xh,ye,wb, ↓zz, ↓zG,yi,zA, ↓XD,XU, ↓reduceIte,sevalprocAttr,ck,k0,hfs,hrs,hr,hxx,hwt,hwz,ho,hid,x0,x1,eq_true cw,hr1.1,hr1.2,e1,hmo])<;>rfl,by simp,?_⟩
        rw [hrd]
        exact ⟨st,rfl,g8,g9,ge,by rw [gH];exact e2.old,by rw [gH];have:=e2.len;omega⟩
       |none=>
        rw [hs] at hmo
        have q1:=aP.1 (y8.1 hs 1 (by omega) (by omega))
        have q2:=aP.1 (y8.1 hs 2 (by omega) (by omega))
        right
        refine ⟨_,tkp,p',⟨a.ts,a.tk,a.sy++[x]⟩,_,⟨by omega,by omega,nx e2 e3,hN,by (try simp only [aQ,bK]);omega,by (try simp only [aQ,bK]);omega⟩,ck,by (simp -implicitDefEqProofs +contextual (disch:=omega) only [xh,ye,wb, ↓zz, ↓zG,yi,zA, ↓XD,XU, ↓reduceIte,sevalprocAttr,ck,k0,hfs,hrs,hr,hxx,hwt,hwz,ho,hid,x0,x1,eq_true cw,hr1.1,hr1.2,e1,hmo])<;>rfl,by simp [St.next,ua],by rw [zk8,if_pos cw,if_pos q1,if_pos q2];rfl⟩
      ·have hno:=zpF ps p nd (.sl tid 0 a.ts.length a.ts.length) H.length rs fs tkp p' k x 1 x K' false
       simp only [wb,aB,aA] at hno
       by_cases c1:za a.ts (x+1)=0
       ·obtain ⟨p2,K2,f1,f2,f3⟩:=e2.more x (by (try simp only);omega)
        have hr2:=ju K' 1 [.int .i64 x]
        right
        refine ⟨_,p2,p',⟨a.ts,a.tk++[x],a.sy++[x]⟩,_,⟨by omega,by omega,nx f2 (dI e3 f3),hN,by (try simp only [aQ,bK]);omega,by (try simp only [aQ,bK]);omega⟩,ck,by (simp -implicitDefEqProofs +contextual (disch:=omega) only [xh,ye,wb, ↓zz, ↓zG,yi,zA, ↓XD,XU, ↓reduceIte,sevalprocAttr,ck,k0,hfs,hrs,hr,hxx,hwt,hwz,ho,hid,hid',x0,x1,x2,x3,eq_true cw,eq_true c1,hr1.1,hr1.2,hr2.1,hr2.2,e1,f1,hno])<;>rfl,by simp [St.next,ua],by rw [zk9,if_pos cw,if_pos c1];rfl⟩
       ·left
        refine ⟨_,by (simp -implicitDefEqProofs +contextual (disch:=omega) only [xh,ye,wb, ↓zz, ↓zG,yi,zA, ↓XD,XU, ↓reduceIte,sevalprocAttr,ck,k0,hfs,hrs,hr,hxx,hwt,hwz,ho,hid,hid',x0,x1,x2,x3,eq_true cw,eq_false c1,hr1.1,hr1.2,e1,hno])<;>rfl,by simp,?_⟩
        rw [zk9,if_pos cw,if_neg c1]
        exact ⟨_,rfl,by simp [zk.get,zk.put],by simp [zk.get,zk.put],rfl,e2.old,by have:=e2.len;simp only;omega⟩
      ·have hmo:=zr8 ps p nd (.sl tid 0 a.ts.length a.ts.length) H.length rs fs tkp p' k x 1 x 1 K' a.ts e2.ty (by omega) x0 (by omega) (by omega)
       simp only [wb,aB,aA] at hmo
       cases hs:z9 (λ j=>¬za a.ts (x+j)=1) 1 (1+1) with
       |some j=>
        rw [hs] at hmo
        obtain ⟨st,hmo,g8,g9,ge,gH⟩:=hmo
        obtain ⟨j0,j1,j2,_⟩:=xE.1 hs
        have:j=1:=by omega
        subst this
        left
        refine ⟨_,by (simp -implicitDefEqProofs +contextual (disch:=omega) only [xh,ye,wb, ↓zz, ↓zG,yi,zA, ↓XD,XU, ↓reduceIte,sevalprocAttr,ck,k0,hfs,hrs,hr,hxx,hwt,hwz,ho,hid,x0,x1,eq_true cw,hr1.1,hr1.2,e1,hmo])<;>rfl,by simp,?_⟩
        rw [zk_,if_pos cw,if_neg j2]
        exact ⟨st,rfl,g8,g9,ge,by rw [gH];exact e2.old,by rw [gH];have:=e2.len;omega⟩
       |none=>
        rw [hs] at hmo
        have q1:=aP.1 (y8.1 hs 1 (by omega) (by omega))
        right
        refine ⟨_,tkp,p',⟨a.ts,a.tk,a.sy++[x]⟩,_,⟨by omega,by omega,nx e2 e3,hN,by (try simp only [aQ,bK]);omega,by (try simp only [aQ,bK]);omega⟩,ck,by (simp -implicitDefEqProofs +contextual (disch:=omega) only [xh,ye,wb, ↓zz, ↓zG,yi,zA, ↓XD,XU, ↓reduceIte,sevalprocAttr,ck,k0,hfs,hrs,hr,hxx,hwt,hwz,ho,hid,x0,x1,eq_true cw,hr1.1,hr1.2,e1,hmo])<;>rfl,by simp [St.next,ua],by rw [zk_,if_pos cw,if_pos q1];rfl⟩
     ·have hrd:vv r x a=none:=by
       rcases h4 with rfl|rfl|rfl
       ·rw [zk8,if_neg cw]
       ·rw [zk9,if_neg cw]
       ·rw [zk_,if_neg cw]
      left
      refine ⟨_,by (simp -implicitDefEqProofs +contextual (disch:=omega) only [xh,ye,wb, ↓zz, ↓zG,yi,zA, ↓XD,XU, ↓reduceIte,sevalprocAttr,ck,k0,hfs,hrs,hr,hxx,hwt,hwz,ho,hid,x0,x1,eq_false cw])<;>rfl,by simp,?_⟩
      rw [hrd]
      exact ⟨_,rfl,by simp [zk.get,zk.put],by simp [zk.get,zk.put],rfl,hh.old,by have:=hh.len;simp only;omega⟩
 ·have:k=4:=by omega
  subst this
  left
  refine ⟨_,by (simp -implicitDefEqProofs +contextual (disch:=omega) only [xh,ye,wb, ↓XD,XU, ↓reduceIte,sevalprocAttr])<;>rfl,by simp,?_⟩
  exact ⟨tkp,syp,K,rfl,hh⟩
end
end
section
section
variable {ps:List zc} {p:Int} {nd:Ins} {t:PV} {H:zd} {rs fs:List Int} {b0 b1:zZ} {n:Nat}
theorem zAG (hfs:fs.length=4) (hrs:rs.length=4) (hn:n<=1048576) (hfit:∀ k:Int,0<=k->k<4->zoQ (za rs k) (za fs k) n) (hx:∀ k:Int, -9223372036854775808<=za fs k/\za fs k<9223372036854775808) {K:zd} {tkp syp:PV} {a:Rd} (h:zoR b0 b1 H t n 0 K tkp syp a):
  ∃ r,EV A (.loop (xN 0)) ⟨wb ps p nd t H.length rs fs tkp syp 0,[],K,[]⟩=some r/\zsp ps p nd t H rs fs b0 b1 (rdN rs fs 4 0 a) r:=by
 refine Yr (P:=A) (body:=(xN 0)) (λ (s:Int×zd×PV×PV×Rd)=>(⟨wb ps p nd t H.length rs fs s.2.2.1 s.2.2.2.1 s.1,[],s.2.1,[]⟩:St)) (λ s=>zoR b0 b1 H t n s.1 s.2.1 s.2.2.1 s.2.2.2.1 s.2.2.2.2) (λ s=>(4-s.1).toNat) (λ s r=>zsp ps p nd t H rs fs b0 b1 (rdN rs fs (4-s.1).toNat s.1 s.2.2.2.2) r) ?_ (0,K,tkp,syp,a) h
 rintro ⟨k,K,tkp,syp,a⟩ hok
 rcases zAH hfs hrs hn hfit hx k K tkp syp a hok with ⟨r,h1,h2,h3⟩|⟨K',tkp',syp',a',st',h1,h2,h3,h4,h5⟩
 ·exact .inl ⟨r,h1,h2,h3⟩
 ·refine .inr ⟨(k+1,K',tkp',syp',a'),st',h1,by simp only;omega,h3,h4,λ r hr=>?_⟩
  simp only at hr ⊢
  rw [h5];exact hr
end
theorem zAF {rs:List Int} {nd:Ins} {ts:List Int}:K6 rs nd ts=rdN rs [nd.A,nd.B,nd.C,nd.D] 4 0 ⟨ts,[],[]⟩:=by
 rw [zf5]
 obtain ⟨f0,f1,f2,f3⟩:=zw3 nd.A nd.B nd.C nd.D
 simp only [rdN,f0,f1,f2,f3,show (0:Int)+1=1 from rfl,show (1:Int)+1=2 from rfl,show (2:Int)+1=3 from rfl]
 congr 1;funext a;congr 1;funext b;congr 1;funext c
 cases vv (za rs 3) nd.D c<;>rfl
abbrev UC (ps:List zc) (p:Int) (nd:Ins) (t:PV) (L:Nat) (rs fs:List Int) (tkp syp:PV):zk:=[(0,code ps),(1,.int .i64 p),(2,.agg nd.cells),(3,t),(4,.ptr L 0 0 1),(6,.ptr (L+1) 0 0 1),(8,.nils),(9,.bool false),(10,tkp),(11,syp),(12,yt rs),(28,yt fs),(29,.int .i64 4),(30,.int .i64 4)]
theorem zCh (ps:List zc) (p:Int) (nd:Ins) (t:PV) (L:Nat) (rs fs:List Int) (tkp syp:PV) (K:zd) (ts:List Int) (us:List Up) (hs:vt K t ts) (hb:us.length<=1048576) (hu:∀ u∈us,u.Local=true->0<=u.Index/\u.Index<ts.length) (hlt:bare K.length (zn ((UC ps p nd t L rs fs tkp syp).map λ e=>e.2))=true):match z9 (λ (j:Int)=>(za us j).Local=true/\¬za ts (za us j).Index=2) 0 us.length with|some j=>∃ st,EV A (.loop (xN 3)) (⟨UC ps p nd t L rs fs tkp syp++[(134,ups us),(135,.int .i64 us.length),(136,.int .i64 (0))],[],K,[]⟩:St)=some (.ret,st)/\st.per.get 8=.nils/\st.per.get 9=.bool false/\st.ed=[]/\∃ X,st.H=K++X|none=>EV A (.loop (xN 3)) (⟨UC ps p nd t L rs fs tkp syp++[(134,ups us),(135,.int .i64 us.length),(136,.int .i64 (0))],[],K,[]⟩:St)=some (zp.exit 6,(⟨UC ps p nd t L rs fs tkp syp++[(134,ups us),(135,.int .i64 us.length),(136,.int .i64 (us.length))],[],K,[]⟩:St)):=by
 refine yr (λ i=>(⟨UC ps p nd t L rs fs tkp syp++[(134,ups us),(135,.int .i64 us.length),(136,.int .i64 i)],[],K,[]⟩:St)) (λ (j:Int)=>(za us j).Local=true/\¬za ts (za us j).Index=2) (λ (j:Int) (st:St)=>st.per.get 8=.nils/\st.per.get 9=.bool false/\st.ed=[]/\∃ X,st.H=K++X) (zp.exit 6,(⟨UC ps p nd t L rs fs tkp syp++[(134,ups us),(135,.int .i64 us.length),(136,.int .i64 (us.length))],[],K,[]⟩:St)) (0) (us.length) ?_ ?_ ?_ (0) (by omega) (by omega)
 ·intro i hi hn hp
  have hu1:=hu _ (jv hi hn);have htr:∀ (X:zd) (v:Int),trim K.length (((UC ps p nd t L rs fs tkp syp).map λ e=>e.2)++[ups us,.int .i64 us.length,.int .i64 v]) (K++X) []=(K,[]):=λ X v=>Ww (by rw [<-hlt];simp [bare,zn,refs,List.all_append]) rfl;have hty:=Ty.app (.inr hs:Ty K t ts) [.cells 2 [[.bool (za us i).Local,.int .i64 (za us i).Index]]]
  simp only [UC,ups,Up.cells,aM,bA,aB,aA] at htr
  cases hL:(za us i).Local with
  |false=>
   refine ⟨_,by (simp -implicitDefEqProofs +contextual (disch:=omega) only [XQ,ye,UC,ups,Up.cells, ↓XD,XU, ↓reduceIte,sevalprocAttr,hn,hL])<;>rfl,by simp [St.next,htr]⟩
  |true=>
   obtain ⟨u0,u1⟩:=hu1 hL
   rw [hL] at hty
   have hp':za ts (za us i).Index=2:=cD λ h=>hp ⟨hL,h⟩
   obtain ⟨a,ha,ha2⟩:=hty.idx .i64 u0 u1
   refine ⟨_,by (simp -implicitDefEqProofs +contextual (disch:=omega) only [XQ,ye,UC,ups,Up.cells, ↓XD,XU, ↓reduceIte,sevalprocAttr,hn,hL,ha,ha2,eq_true hp'])<;>rfl,by simp [St.next,htr]⟩
 ·intro i hi hn hp
  have hu1:=hu _ (jv hi hn);have htr:∀ (X:zd) (v:Int),trim K.length (((UC ps p nd t L rs fs tkp syp).map λ e=>e.2)++[ups us,.int .i64 us.length,.int .i64 v]) (K++X) []=(K,[]):=λ X v=>Ww (by rw [<-hlt];simp [bare,zn,refs,List.all_append]) rfl;have hty:=Ty.app (.inr hs:Ty K t ts) [.cells 2 [[.bool (za us i).Local,.int .i64 (za us i).Index]]]
  obtain ⟨hL,hp'⟩:=hp
  obtain ⟨u0,u1⟩:=hu1 hL
  rw [hL] at hty
  obtain ⟨a,ha,ha2⟩:=hty.idx .i64 u0 u1
  refine ⟨_,by (simp -implicitDefEqProofs +contextual (disch:=omega) only [XQ,ye,UC,ups,Up.cells, ↓XD,XU, ↓reduceIte,sevalprocAttr,hn,hL,ha,ha2,eq_false hp'])<;>rfl,by simp [zk.get,zk.put],by simp [zk.get,zk.put],rfl,_,rfl⟩
 ·rintro i hi rfl
  refine ⟨by simp -implicitDefEqProofs +contextual (disch:=omega) only [XQ,ye, ↓XD,XU, ↓reduceIte,sevalprocAttr,UC,ups,Up.cells,aL],by simp⟩
end
def zBm (ps:List zc) (p:Int) (nd:Ins) (H:zd) (t:PV) (res:Option (List Int×List Int)):Prop:=match res with
 |none=>∃ H',ES A zaP [code ps,.int .i64 p,.agg nd.cells,t] H=some (.tup [.nils,.bool false],H',[])/\(∀ j,j<H.length->j∉refs t->H'[j]?=H[j]?)/\H.length<=H'.length
 |some (ts',tk)=>∃ tkp H',ES A zaP [code ps,.int .i64 p,.agg nd.cells,t] H=some (.tup [tkp,.bool true],H',[])/\vt H' t ts'/\vt H' tkp tk/\(∀ j,j<H.length->j∉refs t->H'[j]?=H[j]?)/\H.length<=H'.length/\∀ r∈refs tkp,H.length<=r
theorem zdQ (k:Nat) (roots:List PV) (H:zd) (ed:zI) (h:k<=H.length):k<=(trim k roots H ed).1.length:=by
 rw [trim]
 cases bare k (zn roots)&&ed.all λ e=>decide (k<=e.1)||decide (e.2<k) with
 |false=>exact h
 |true=>simp;omega
theorem zuN {ps:List zc} {p:Int} {nd:Ins} {H:zd} {t:PV} {ts rs:List Int} (hty:vt H t ts) (hr:zg nd.Op=some rs) (hrl:rs.length=4) (hps:ps.length<=1048576) (hn:ts.length<=1048576)
  (hfit:∀ k:Int,0<=k->k<4->zoQ (za rs k) (za [nd.A,nd.B,nd.C,nd.D] k) ts.length) (hx:∀ k:Int, -9223372036854775808<=za [nd.A,nd.B,nd.C,nd.D] k/\za [nd.A,nd.B,nd.C,nd.D] k<9223372036854775808)
  (hB:nd.Op=11->(0<=nd.B/\nd.B<ps.length)/\(za ps nd.B).Ups.length<=1048576/\∀ u∈(za ps nd.B).Ups,u.Local=true->0<=u.Index/\u.Index<ts.length):zBm ps p nd H t (reads ps nd ts):=by
 have hroles:=zfS nd.Op
 have hfields:=zi4 nd
 obtain ⟨fs,hfs⟩:∃ fs,[nd.A,nd.B,nd.C,nd.D]=fs:=⟨_,rfl⟩
 have hfl:fs.length=4:=by rw [<-hfs];rfl
 have hlf:ZH (yt fs)=some (.int .i64 4):=by simp [ZH,hfl]
 have hre:yw (some rs)=yt rs:=rfl
 rw [hfs] at hfields hfit hx
 rw [hr,hre] at hroles
 have h0:zoR (.cells 1 [[zb ps]]) (.cells 5 [nd.cells]) H t ts.length 0 (H++[.cells 1 [[zb ps]],.cells 5 [nd.cells]]) .nils .nils ⟨ts,[],[]⟩:=
  ⟨by omega,by omega,⟨by simp,λ j hj _=>aD hj,by rw [xp];rfl,by rw [wF];rfl,hty.keep λ r hr=>aD (hty.lt r hr),.inl ⟨rfl,rfl⟩,.inl ⟨rfl,rfl⟩,hty.lt,λ r hr=>(by cases hr),λ r hr=>(by cases hr),λ r hr=>(by cases hr)⟩,rfl,by simp,by simp⟩
 obtain ⟨r,hl,hq⟩:=zAG (ps:=ps) (p:=p) (nd:=nd) hfl hrl hn hfit hx h0
 have hall:K6 ((zg nd.Op).getD []) nd ts=rdN rs fs 4 0 ⟨ts,[],[]⟩:=by rw [hr, <-hfs];exact zAF
 simp only [wb,code,zb,zc.cells,ups,ze,zj,zm,Ins.cells,yt] at hl hlf hroles hfields
 unfold reads
 rw [hall]
 cases hres:rdN rs fs 4 0 ⟨ts,[],[]⟩ with
 |none=>
  rw [hres] at hq
  obtain ⟨st,rfl,g8,g9,ge,go,gl⟩:=hq
  refine ⟨_,by (simp -implicitDefEqProofs +contextual (disch:=omega) only [Jj,Jo,ye,code,zb,zc.cells,ups,ze,zj,zm,Ins.cells,zF, ↓XD,XU, ↓reduceIte,sevalprocAttr,hroles,hfields,hlf,hl,g8,g9,ge,ua])<;>rfl,λ j hj hn=>?_,?_⟩
  ·rw [uJ _ _ _ _ (.inl hj)];exact go j hj hn
  ·exact zdQ _ _ _ _ gl
 |some a=>
  rw [hres] at hq
  obtain ⟨tkp,syp,K,rfl,hR⟩:=hq
  have hlen:a.ts.length=ts.length:=by
   have:=znE (hall.trans hres);exact this
  have hKc:=hR.c
  have hKn:=hR.n
  simp only [zb,zc.cells,ups,ze,zj,zm,Ins.cells] at hKc hKn
  have Zq:∀ (X:zd) roots,tkp∈roots->vt (trim H.length roots (K++X) []).1 t a.ts/\vt (trim H.length roots (K++X) []).1 tkp a.tk/\(∀ j,j<H.length->j∉refs t->(trim H.length roots (K++X) []).1[j]?=H[j]?)/\H.length<=(trim H.length roots (K++X) []).1.length:=λ X roots hroot=>by
   have e1:∀ j,j<K.length->(K++X)[j]?=K[j]?:=λ j hj=>aD hj
   refine ⟨hR.ty.keep λ r hr=>?_,?_,λ j hj hn=>?_,zdQ _ _ _ _ (by have:=hR.len;simp;omega)⟩
   ·rw [uJ _ _ _ _ (.inl (hR.tin r hr)),e1 r (hR.ty.lt r hr)]
   ·exact (hR.tk.keep λ r hr=>e1 r (hR.tk.lt r hr)).trim hroot _
   ·rw [uJ _ _ _ _ (.inl hj),e1 j (by have:=hR.len;omega)];exact hR.old j hj hn
  have far:∀ r∈refs tkp,H.length<=r:=λ r hr=>by have:=hR.far1 r hr;omega
  by_cases c11:nd.Op=11
  ·obtain ⟨⟨B0,B1⟩,hub,hui⟩:=hB c11
   have hbare:bare K.length (zn ((UC ps p nd t H.length rs fs tkp syp).map λ e=>e.2))=true:=by
    have h1:=hR.len
    have h2:=hR.ty.lt
    have h3:=hR.tk.lt
    have h4:=hR.sy.lt
    refine aZ.2 λ r hr=>?_
    simp only [UC,aM,bA,zn,refs,bY,aA,aX,dE,aV,or_false,false_or] at hr
    simp only [cC]
    have h5:∀ r∈refs (code ps),r<K.length:=λ r hr=>by simp [refs,zn] at hr
    rcases hr with hr|hr|hr|hr|hr
    all_goals first|exact h2 _ hr|exact h3 _ hr|exact h4 _ hr|omega
   have hups:=zCh ps p nd t H.length rs fs tkp syp K a.ts (za ps nd.B).Ups hR.ty hub (by rw [hlen];exact hui) hbare
   simp only [UC,code,zb,zc.cells,ups,ze,zj,zm,Ins.cells,Up.cells,yt,aB,aA] at hups
   cases hs:z9 (λ j=>(za (za ps nd.B).Ups j).Local=true/\¬za a.ts (za (za ps nd.B).Ups j).Index=2) 0 (za ps nd.B).Ups.length with
   |some j=>
    rw [hs] at hups
    obtain ⟨st,hups,g8,g9,ge,X,gH⟩:=hups
    obtain ⟨j0,j1,⟨j2,j3⟩,_⟩:=xE.1 hs
    have hbad:nd.Op=11/\U2 (za ps nd.B).Ups a.ts:=⟨c11,_,jv j0 j1,j2,j3⟩
    simp only [if_pos hbad]
    refine ⟨(trim H.length [.nils,.bool false] (K++X) []).1,?_,λ j hj hn=>?_,?_⟩
    ·simp -implicitDefEqProofs +contextual (disch:=omega) only [Jj,Jo,ye,code,zb,zc.cells,ups,ze,zj,zm,Ins.cells,Up.cells,zF, ↓XD,XU, ↓reduceIte,sevalprocAttr,hroles,hfields,hlf,hl,hKc,hKn,eq_true c11,B0,B1,hups,g8,g9,ge,gH,ua]
    ·rw [uJ _ _ _ _ (.inl hj),aD (by have:=hR.len;omega)];exact hR.old j hj hn
    ·exact zdQ _ _ _ _ (by have:=hR.len;simp;omega)
   |none=>
    rw [hs] at hups
    have hbad:¬(nd.Op=11/\U2 (za ps nd.B).Ups a.ts):=by
     rintro ⟨_,u,hu,h1,h2⟩
     obtain ⟨j,j0,j1,rfl⟩:=Xs hu
     exact y8.1 hs j j0 j1 ⟨h1,h2⟩
    simp only [if_neg hbad]
    obtain ⟨f1,f2,f3,f4⟩:=Zq [] [tkp,.bool true] (by simp)
    rw [bY] at f1 f2 f3 f4
    refine ⟨tkp,(trim H.length [tkp,.bool true] K []).1,?_,f1,f2,f3,f4,far⟩
    simp -implicitDefEqProofs +contextual (disch:=omega) only [Jj,Jo,ye,code,zb,zc.cells,ups,ze,zj,zm,Ins.cells,Up.cells,zF, ↓XD,XU, ↓reduceIte,sevalprocAttr,hroles,hfields,hlf,hl,hKc,hKn,eq_true c11,B0,B1,hups,ua]
  ·have hbad:¬(nd.Op=11/\U2 (za ps nd.B).Ups a.ts):=λ h=>c11 h.1
   simp only [if_neg hbad]
   obtain ⟨f1,f2,f3,f4⟩:=Zq [] [tkp,.bool true] (by simp)
   rw [bY] at f1 f2 f3 f4
   refine ⟨tkp,(trim H.length [tkp,.bool true] K []).1,?_,f1,f2,f3,f4,far⟩
   simp -implicitDefEqProofs +contextual (disch:=omega) only [Jj,Jo,ye,code,zb,zc.cells,ups,ze,zj,zm,Ins.cells,Up.cells,zF, ↓XD,XU, ↓reduceIte,sevalprocAttr,hroles,hfields,hlf,hl,hKc,hKn,eq_false c11,ua]
def T5 (first:List Int) (p:PV) (l:List Int):Prop:=xP p l\/(p=.sl 5 0 first.length first.length/\l=first)
def zwm (first:List Int) (row:List PV) (o:Option ya):Prop:=match o with
 |none=>row=[.bool false,.nils,.nils]
 |some s=>∃ p q,row=zq p q/\T5 first p s.Types/\xo q s.Guards
structure Z0 (first:List Int) (rows:List (List PV)) (S:List (Option ya)):Prop where
 len:rows.length=S.length
 row:∀ (i:Nat) (r:List PV) (o:Option ya),rows[i]?=some r->S[i]?=some o->zwm first r o
theorem Z0.at_ {first:List Int} {rows:List (List PV)} {S:List (Option ya)} (h:Z0 first rows S) {i:Int} (i0:0<=i) (i1:i<S.length):∃ r,rows[i.toNat]?=some r/\zwm first r (za S i):=by
 have hl:=h.len
 have h1:rows[i.toNat]?=some (rows[i.toNat]'(by omega)):=aE (by omega)
 exact ⟨_,h1,h.row _ _ _ h1 (xX i0 i1)⟩
theorem Z0.set {first:List Int} {rows:List (List PV)} {S:List (Option ya)} (h:Z0 first rows S) (k:Nat) {r:List PV} {o:Option ya} (hr:zwm first r o):Z0 first (rows.set k r) (S.set k o):=by
 refine ⟨by simpa using h.len,λ i r' o' h1 h2=>?_⟩
 rw [List.getElem?_set] at h1 h2
 by_cases e:k=i
 ·rw [if_pos e] at h1 h2
  split at h1
  ·split at h2
   ·cases h1;cases h2;exact hr
   ·cases h2
  ·cases h1
 ·rw [if_neg e] at h1 h2
  exact h.row i r' o' h1 h2
theorem T5.ty {first:List Int} {p:PV} {l:List Int} (h:T5 first p l) {H:zd} (h5:H[5]?=some (.cells 1 (ym first))):Ty H p l:=by
 rcases h with h|⟨rfl,rfl⟩
 ·exact .inl h
 ·exact .inr (.inr ⟨5,rfl,h5⟩)
theorem T5.refs {first:List Int} {p:PV} {l:List Int} (h:T5 first p l):∀ r∈Go.Av.refs p,r=5:=by
 rcases h with h|⟨rfl,rfl⟩
 ·intro r hr;rw [yB h] at hr;cases hr
 ·intro r hr;simpa [Go.Av.refs] using hr
theorem Ka.at_ {H:zd} {p:PV} {l:List (Int×ya)} (h:Ka H p l) {j:Int} (j0:0<=j) (j1:j<l.length):∃ id rows row x,p=.sl id 0 l.length l.length/\H[id]?=some (.cells 4 rows)/\rows.length=l.length/\rows[j.toNat]?=some row/\l[j.toNat]?=some x/\zoK H row x:=by
 rcases h with ⟨_,rfl⟩|⟨id,rows,h1,h2,h3,h4⟩
 ·simp at j1;omega
 ·have e1:rows[j.toNat]?=some (rows[j.toNat]'(by omega)):=aE (by omega)
  have e2:l[j.toNat]?=some (l[j.toNat]'(by omega)):=aE (by omega)
  exact ⟨id,rows,_,_,h1,h2,h3,e1,e2,h4 _ _ _ e1 e2⟩
theorem Ka.len {H:zd} {p:PV} {l:List (Int×ya)} (h:Ka H p l):ZH p=some (.int .i64 l.length):=by
 rcases h with ⟨rfl,rfl⟩|⟨id,rows,rfl,_⟩<;>simp [ZH]
theorem zs2 (l:List Int):frz 8 ((cpH l l.length).map (zX 0)) (zC 0 (VK l.length))=cI l:=by
 rw [zxr]
 by_cases c:(l.length:Int)=0
 ·have:l=[]:=bT.1 (by omega)
  subst this
  simp [VK,cI,zC];rfl
 ·have e:l.take (l.length:Int).toNat=l:=by simp
  have:¬l=[]:=λ e=>by subst e;simp at c
  rw [Kb c,QI c,cI,if_neg this,e]
  have:=jD (d:=6) (H:=[.cells 1 [[.int .i64 (za l 0)]],.cells 1 (ym l)]) (id:=1) (l:=l) rfl
  simpa [zC] using this
theorem ziD {P:xn} (H:zd) (f:Nat) (args:List PV):xH (CL P) H .fresh f args=match ES P f (args.map (frz 8 H)) [] with
  |some (v,H',_)=>some (frz 8 (H'.map (zX 0)) (zC 0 v),H,[])
  |none=>none:=rfl
abbrev wi (ps:List zc) (p:Int) (N R:Nat) (P:Int):zk:=[(0,code ps),(1,.int .i64 p),(2,.ptr 0 0 0 1),(4,.nils),(5,.ptr 1 0 0 1),(6,.ptr 2 0 0 1),(7,.sl 3 0 N N),(8,.sl 4 0 N N),(9,.sl 5 0 R R),(10,.int .i64 P)]
abbrev UE (ps:List zc) (p:Int) (N R:Nat) (P a:Int) (tp tkp gp fp:PV) (n:Nat) (j:Int):zk:=wi ps p N R P++[(11,.int .i64 a),(13,.ptr 6 0 0 1),(14,tp),(15,tkp),(16,.bool true),(17,gp),(166,fp),(167,.int .i64 n),(168,.int .i64 j)]
structure zyU (first:List Int) (N:Nat) (n0:Nat) (G:List (List PV)->List Bool->zd) (ed:zI) (fp:PV) (l:List (Int×ya)) (flt:List PV):Prop where
 g1:∀ r d,(G r d)[1]?=some (.cells 3 [flt])
 g3:∀ r d,(G r d)[3]?=some (.cells 3 r)
 g4:∀ r d,(G r d)[4]?=some (.cells 1 (bl d))
 g5:∀ r d,(G r d)[5]?=some (.cells 1 (ym first))
 s3:∀ r d r',(G r d).set 3 (.cells 3 r')=G r' d
 s4:∀ r d d',(G r d).set 4 (.cells 1 (bl d'))=G r d'
 len:∀ r d,(G r d).length=n0
 fol:∀ r d,Ka (G r d) fp l
 ed:∀ e∈ed,e.2<n0
def zBq (ps:List zc) (p:Int) (N R:Nat) (P a:Int) (tp tkp gp fp:PV) (first:List Int) (G:List (List PV)->List Bool->zd) (ed:zI) (n:Nat) (res:Int ⊕ (List (Option ya)×List Bool)) (r:zp×St):Prop:=match res with
 |.inl j=>∃ st,r=(.ret,st)/\st.per.get 4=.nils/\st.per.get 5=.ptr 1 0 0 1/\st.H[1]?=some (.cells 3 [[.int .i64 13,.int .i64 p,.int .i64 j]])
 |.inr (S',due')=>∃ rows',r=(.exit 8,(⟨UE ps p N R P a tp tkp gp fp n n,[],G rows' due',ed⟩:St))/\Z0 first rows' S'/\due'.length=N
structure zwn (s:ya):Prop where
 t:s.Types.length<=1048576
 g:s.Guards.length<=1048576
structure zsq (first:List Int) (N:Nat) (l:List (Int×ya)) (j:Int) (rows:List (List PV)) (due:List Bool) (S:List (Option ya)):Prop where
 j0:0<=j
 j1:j<=l.length
 rows:Z0 first rows S
 n:S.length=N
 d:due.length=N
 sz:∀ i s,za S i=some s->zwn s
theorem ziG {α:Type} [Inhabited α] {l:List α} {i:Int} (h:¬i.toNat<l.length):za l i=default:=by
 simp [za,List.getD,bB (show l.length<=i.toNat by omega)]
theorem zjk {α:Type} [Inhabited α] {l:List α} {i j:Int} {v:α} (h0:0<=i) (h1:i<l.length):za (l.set i.toNat v) j=v\/za (l.set i.toNat v) j=za l j:=by
 unfold za
 simp only [List.getD,List.getElem?_set]
 split
 ·split
  ·exact .inl rfl
  ·right;rename_i h;rw [bB (by omega)]
 ·exact .inr rfl
theorem zyN {ps:List zc} {p:Int} {N R:Nat} {P a:Int} {tp tkp gp fp:PV} {first:List Int} {n0:Nat} {G:List (List PV)->List Bool->zd} {ed:zI} {l:List (Int×ya)} {flt:List PV} (hf3:flt.length=3) (hV:zyU first N n0 G ed fp l flt) (hN:N<=1048576) (hll:l.length<=1000) (hl:∀ x∈l,(0<=x.1/\x.1<N)/\zwn x.2) (hbare:bare n0 (zn ((UE ps p N R P a tp tkp gp fp l.length 0).map λ e=>e.2))=true)
  {rows:List (List PV)} {due:List Bool} {S:List (Option ya)} (h:zsq first N l 0 rows due S):∃ r,EV A (.loop (xG 4)) ⟨UE ps p N R P a tp tkp gp fp l.length 0,[],G rows due,ed⟩=some r/\zBq ps p N R P a tp tkp gp fp first G ed l.length (Yh l S due) r:=by
 have key:=Yr (P:=A) (body:=(xG 4)) (λ (s:Int×List (List PV)×List Bool×List (Option ya))=>(⟨UE ps p N R P a tp tkp gp fp l.length s.1,[],G s.2.1 s.2.2.1,ed⟩:St)) (λ s=>zsq first N l s.1 s.2.1 s.2.2.1 s.2.2.2) (λ s=>((l.length:Int)-s.1).toNat) (λ s r=>zBq ps p N R P a tp tkp gp fp first G ed l.length (Yh (l.drop s.1.toNat) s.2.2.2 s.2.2.1) r) ?_ (0,rows,due,S) h
 ·simpa using key
 rintro ⟨j,rows,due,S⟩ ⟨j0,j1,hR,hn,hd,hsz⟩
 simp only at j0 j1 hR hn hd hsz ⊢
 have hfl:=λ r d=>(hV.fol r d).len
 have hrl:rows.length=N:=by rw [hR.len,hn]
 have htr:∀ r d X (j:Int),trim n0 ((UE ps p N R P a tp tkp gp fp l.length j).map λ e=>e.2) (G r d++X) ed=(G r d,ed):=λ r d X j=>by
  have hb:bare n0 (zn ((UE ps p N R P a tp tkp gp fp l.length j).map λ e=>e.2))=true:=hbare
  have h1:(ed.all λ e=>decide (n0<=e.1)||decide (e.2<n0))=true:=by
   rw [aZ];intro e he;simp [hV.ed e he]
  have h2:(ed.filter λ e=>decide (e.2<n0))=ed:=dX.2 (λ e he=>by simpa using hV.ed e he)
  rw [trim,hb,h1]
  show ((G r d++X).take n0,ed.filter λ e=>decide (e.2<n0))=_
  rw [h2,show (G r d++X).take n0=G r d by rw [<-hV.len r d,List.take_left]]
 by_cases c:j<l.length
 ·obtain ⟨id,frows,row,x,rfl,hid,hfr,hrow,hx,pp,qq,rfl,hpp,hqq⟩:=(hV.fol rows due).at_ j0 c
  have hxm:=aJ hx
  obtain ⟨⟨x0,x1⟩,xs⟩:=hl x hxm
  have hdrop:l.drop j.toNat=x::l.drop (j+1).toNat:=by
   have hj:j.toNat<l.length:=by omega
   rw [dO hj,show (j+1).toNat=j.toNat+1 by omega]
   rw [aE hj] at hx
   injection hx with hx;rw [hx]
  rw [hdrop]
  obtain ⟨xa,xst⟩:=x
  simp only at x0 x1 xs hpp hqq hrow
  rw [Yh]
  have hpl:=hpp.leaf
  have hgl:=xf hqq
  have hgc:=yQ hqq
  have hgr:=yI hqq
  obtain ⟨xc,hxc⟩:∃ xc,zZ.cells 4 [fr xa pp qq]=xc:=⟨_,rfl⟩
  have hlenG:=hV.len
  have hx0:∀ r d (X:zZ),(G r d++[X])[n0]?=some X:=λ r d X=>by rw [<-hV.len r d];exact xp _ _
  have hxs:∀ r d (X b:zZ),(G r d++[X]).set n0 b=G r d++[b]:=λ r d X b=>by rw [<-hV.len r d];exact jc _ _ _
  have hA1:∀ r d (X:zZ),(G r d++[X])[1]?=some (.cells 3 [flt]):=λ r d X=>zY _ _ (hV.g1 r d)
  have hA3:∀ r d (X:zZ),(G r d++[X])[3]?=some (.cells 3 r):=λ r d X=>zY _ _ (hV.g3 r d)
  have hA4:∀ r d (X:zZ),(G r d++[X])[4]?=some (.cells 1 (bl d)):=λ r d X=>zY _ _ (hV.g4 r d)
  have hB3:∀ r d (X:zZ) r',(G r d++[X]).set 3 (.cells 3 r')=G r' d++[X]:=λ r d X r'=>by rw [zfK _ _ (yJ (hV.g3 r d)),hV.s3]
  have hB4:∀ r d (X:zZ) d',(G r d++[X]).set 4 (.cells 1 (bl d'))=G r d'++[X]:=λ r d X d'=>by rw [zfK _ _ (yJ (hV.g4 r d)),hV.s4]
  obtain ⟨srow,hs1,hs2⟩:=hR.at_ x0 (by omega)
  have hedx:List.filter (λ r=>decide (n0<r)) (refs pp++refs qq)=[]:=by
   rw [hgr,bY,List.filter_eq_nil_iff]
   intro r hr
   have:=hpp.lt r hr
   rw [hV.len] at this
   simp;omega
  have hedx2:List.filter (λ r=>decide (n0<r)) (refs pp)=[]:=by rw [hgr,bY] at hedx;exact hedx
  cases hS:za S xa with
  |none=>
   rw [hS] at hs2
   have hs2:srow=[.bool false,.nils,.nils]:=hs2
   subst hs2
   obtain ⟨p0,hp0,hf⟩:=hpp.frzApp
   have hcp:=zcJ hp0 xs.t
   have hfc:=zs2 xst.Types
   have hgp:=zqZ hqq xs.g
   have hfq:=λ H=>wl hqq 7 H
   have k1:=jl (zoA xst.Types)
   have k2:=ut (zoA xst.Types)
   have k3:=yB (zoA xst.Types)
   have k4:=xf (zoz xst.Guards)
   have k5:=yQ (zoz xst.Guards)
   have k6:=yI (zoz xst.Guards)
   right
   refine ⟨(j+1,rows.set xa.toNat (zq (cI xst.Types) (cG xst.Guards)),due.set xa.toNat true,S.set xa.toNat (some xst)),_,⟨by simp only;omega,by simp only;omega,hR.set _ ⟨_,_,rfl,.inl (zoA _),zoz _⟩,by simpa using hn,by simpa using hd,λ i s hs=>?_⟩,by simp only;omega,by (simp -implicitDefEqProofs +contextual (disch:=omega) only [XS,yz,UE,wi,aB,aA,code,zb,zc.cells,ups,ze,zj,zm, ↓ziD, ↓XD,XU, ↓reduceIte,sevalprocAttr,c,j0,hid,hfr,hrow,hlenG,hx0,hxs,hpl.1,hpl.2,hgl,hgc,hedx,hedx2,hA1,hA3,hA4,x0,x1,hrl,hd,hs1,hB3,hB4,hf,hcp,hfc,hgp,hfq,hgr,k1,k2,k3,k4,k5,k6])<;>rfl,?_,λ r hr=>?_⟩
   ·rcases zjk (l:=S) (j:=i) (v:=some xst) x0 (by omega) with h|h
    ·simp only at hs;rw [h] at hs;cases hs;exact xs
    ·simp only at hs;rw [h] at hs;exact hsz i s hs
   ·have:=htr (rows.set xa.toNat (zq (cI xst.Types) (cG xst.Guards))) (due.set xa.toNat true) [.cells 4 [fr xa pp qq]] (j+1)
    simp only [UE,wi,aB,aA,aM,bA,code,zb,zc.cells,ups,ze,zj,zm,zq,fr,bl] at this
    simp [St.next,this,hlenG]
   ·simp only at hr ⊢;exact hr
  |some s'=>
   rw [hS] at hs2
   obtain ⟨p',q',rfl,hp',hq'⟩:=hs2
   have hs2:=hsz xa s' hS
   obtain ⟨p0,hp0,hf⟩:=hpp.frzAppD 5
   obtain ⟨p1,hp1,hf1⟩:=(hp'.ty (hV.g5 rows due)).frzAppD 5
   have hfq:=λ H=>wl hqq 6 H
   have hfq':=λ H=>wl hq' 6 H
   have hsm:=zuJ hp1 hq' hp0 hqq hs2.t hs2.g xs.t xs.g
   by_cases e:s'=xst
   ·right
    refine ⟨(j+1,rows,due,S),_,⟨by simp only;omega,by simp only;omega,hR,hn,hd,hsz⟩,by simp only;omega,by (simp -implicitDefEqProofs +contextual (disch:=omega) only [XS,yz,UE,wi,aB,aA,code,zb,zc.cells,ups,ze,zj,zm, ↓ziD, ↓XD,XU, ↓reduceIte,sevalprocAttr,c,j0,hid,hfr,hrow,hlenG,hx0,hxs,hpl.1,hpl.2,hgl,hgc,hedx,hedx2,hA1,hA3,hA4,x0,x1,hrl,hd,hs1,zq,hf,hf1,hfq,hfq',hsm,eq_true e])<;>rfl,?_,λ r hr=>?_⟩
    ·have:=htr rows due [.cells 4 [fr xa pp qq]] (j+1)
     simp only [UE,wi,aB,aA,aM,bA,code,zb,zc.cells,ups,ze,zj,zm,fr,bl] at this
     simp [St.next,this,hlenG]
    ·simp only at hr ⊢;rw [if_pos e];exact hr
   ·left
    have hfa:=yY 13 p xa
    refine ⟨_,by (simp -implicitDefEqProofs +contextual (disch:=omega) only [XS,yz,UE,wi,aB,aA,code,zb,zc.cells,ups,ze,zj,zm, ↓ziD, ↓XD,XU, ↓reduceIte,sevalprocAttr,c,j0,hid,hfr,hrow,hlenG,hx0,hxs,hpl.1,hpl.2,hgl,hgc,hedx,hedx2,hA1,hA3,hA4,x0,x1,hrl,hd,hs1,zq,hf,hf1,hfq,hfq',hsm,eq_false e,hfa,hf3])<;>rfl,by simp,?_⟩
    simp only [if_neg e]
    refine ⟨_,rfl,by simp [zk.get,zk.put],by simp [zk.get,zk.put],?_⟩
    rw [aK (by have:=yJ (hV.g1 rows due);simp;omega),List.drop_eq_nil_of_le (by omega)]
 ·left
  have hj:j=l.length:=by omega
  subst hj
  refine ⟨_,by (simp -implicitDefEqProofs +contextual (disch:=omega) only [XS,yz,UE,wi,aB,aA, ↓XD,XU, ↓reduceIte,sevalprocAttr,aL])<;>rfl,by simp,?_⟩
  simp only [cB,List.drop_length,Yh]
  exact ⟨rows,rfl,hR,hd⟩
section
structure Shaped (ps:List zc):Prop where
 n:ps.length<=1048576
 fine:zjG ps
 size:vz ps
 ups:∀ p:Int,0<=p->p<ps.length->∀ i:Int,0<=i->i<(za ps p).Ins.length->(za (za ps p).Ins i).Op=11->zfJ (za ps p) (za ps (za (za ps p).Ins i).B).Ups
section
variable {ps:List zc} {p i:Int}
theorem zda {r x:Int} {np:Nat} {f:zc} (h:yX np f r x) {n:Nat} (hn:(n:Int)=f.Regs):zoQ r x n:=by
 refine ⟨λ ho=>?_,λ ho=>?_,λ ho=>?_,λ ho=>?_⟩
 ·rcases ho with rfl|rfl<;>(simp [yX] at h;omega)
 ·rcases ho with rfl|rfl|rfl<;>(simp [yX] at h;omega)
 ·subst ho;simp [yX] at h;omega
 ·rcases ho with rfl|rfl<;>(simp [yX] at h;omega)
theorem zxc (h:jb ps p i) {rs:List Int} (hr:zg (za (za ps p).Ins i).Op=some rs) {n:Nat} (hn:(n:Int)=(za ps p).Regs):rs.length=4/\∀ k:Int,0<=k->k<4->zoQ (za rs k) (za [(za (za ps p).Ins i).A,(za (za ps p).Ins i).B,(za (za ps p).Ins i).C,(za (za ps p).Ins i).D] k) n:=by
 have hl:=zge hr
 refine ⟨hl,λ k k0 k1=>?_⟩
 match rs,hl with
 |[s0,s1,s2,s3],_=>
  obtain ⟨h0,h1,h2,h3⟩:=wN h hr
  have:k=0\/k=1\/k=2\/k=3:=by omega
  rcases this with rfl|rfl|rfl|rfl
  ·exact zda h0 hn
  ·exact zda h1 hn
  ·exact zda h2 hn
  ·exact zda h3 hn
theorem zBV (h:jb ps p i) {n:Nat} (hn:(n:Int)=(za ps p).Regs):zBr (za (za ps p).Ins i) n:=by
 refine ⟨λ ho=>?_,λ ho=>?_,λ ho=>?_⟩
 ·rcases ho with ho|ho|ho|ho|ho|ho
  ·have:=(wN h (s0:=1) (s1:=2) (s2:=0) (s3:=0) (by rw [ho];simp [zg])).1
   simp [yX] at this;omega
  ·have:=(wN h (s0:=1) (s1:=0) (s2:=0) (s3:=0) (by rw [ho];simp [zg])).1
   simp [yX] at this;omega
  ·have:=(wN h (s0:=1) (s1:=6) (s2:=0) (s3:=0) (by rw [ho];simp [zg])).1
   simp [yX] at this;omega
  ·have:=(wN h (s0:=1) (s1:=2) (s2:=3) (s3:=0) (by rw [ho];simp [zg])).1
   simp [yX] at this;omega
  ·have:=(wN h (s0:=21) (s1:=0) (s2:=0) (s3:=0) (by rw [ho];simp [zg])).1
   simp [yX] at this;omega
  ·obtain ⟨s0,s1,s2,s3,hr⟩:=zmN h
   rw [hr] at ho
   have ho:s0=1:=ho
   subst ho
   have:=(wN h hr).1
   simp [yX] at this;omega
 ·have:=(wN h (s0:=19) (s1:=0) (s2:=0) (s3:=0) (by rw [ho];simp [zg])).1
  simp [yX] at this;omega
 ·have:=(wN h (s0:=20) (s1:=10) (s2:=1) (s3:=0) (by rw [ho];simp [zg])).2.2.1
  simp [yX] at this;omega
theorem zz' (h:jb ps p i) {n:Nat} (hn:(n:Int)=(za ps p).Regs) (ho:(za (za ps p).Ins i).Op=31):0<=(za (za ps p).Ins i).B/\(za (za ps p).Ins i).B+1<n:=by
 have:=(wN h (s0:=10) (s1:=14) (s2:=0) (s3:=0) (by rw [ho];simp [zg])).2.1
 simp [yX] at this;omega
theorem zvJ {nd:Ins} {ts ts' tk:List Int} (ho:nd.Op=32) (h:reads ps nd ts=some (ts',tk)):writes nd ts'=ts:=by
 have e:zg 32=some [0,0,0,0]:=by simp [zg]
 have e2:za [(0:Int),0,0,0] 0=0:=rfl
 have hw:writes nd ts'=ts':=by simp [writes,ho,e,e2]
 rw [hw]
 unfold reads at h
 rw [ho,e] at h
 have hall:K6 [0,0,0,0] nd ts=some ⟨ts,[],[]⟩:=by
  have e3:za [(0:Int),0,0,0] 1=0:=rfl
  have e4:za [(0:Int),0,0,0] 2=0:=rfl
  have e5:za [(0:Int),0,0,0] 3=0:=rfl
  rw [zf5];simp [e2,e3,e4,e5,zDD]
 simp only [cR,hall] at h
 have:¬((32:Int)=11):=by decide
 simp [this] at h
 exact h.1.symm
theorem zv9 {f:zc} {us:List Up} (h:zfJ f us) {n:Nat} (hn:(n:Int)=f.Regs):∀ u∈us,u.Local=true->0<=u.Index/\u.Index<n:=by
 intro u hu hl
 obtain ⟨j,j0,j1,rfl⟩:=Xs hu
 have:=aP.1 (y8.1 h j j0 j1)
 rw [UpP,if_pos hl] at this
 omega
end
theorem kg {H:zd} {ed:zI} (h:∀ e∈ed,e.2<H.length) (roots:List PV):trim H.length roots H ed=(H,ed):=by
 rw [trim]
 split
 ·rw [List.take_length,dX.2 (λ e he=>by simpa using h e he)]
 ·rfl
abbrev h6 (ps:List zc) (f:zc) (flt:List PV) (rows:List (List PV)) (due:List Bool) (first:List Int):zd:=[.cells 1 [[zb ps]],.cells 3 [flt],.cells 9 [f.cells],.cells 3 rows,.cells 1 (bl due),.cells 1 (ym first)]
theorem zpG {ps:List zc} {f:zc} {p:Int} {N R:Nat} {P:Int} {flt:List PV} {rows:List (List PV)} {due:List Bool} {first:List Int} (hd:due.length=N) (hN:N<=1048576):
  EV A (.loop (xG 2)) ⟨wi ps p N R P++[(11,.int .i64 0)],[],h6 ps f flt rows due first,[(3,5)]⟩=some (.exit 4,⟨wi ps p N R P++[(11,.int .i64 ((Xz due).getD N))],[],h6 ps f flt rows due first,[(3,5)]⟩):=by
 have key:=uE (P:=A) (body:=(xG 2)) (λ (i:Int)=>(⟨wi ps p N R P++[(11,.int .i64 i)],[],h6 ps f flt rows due first,[(3,5)]⟩:St)) (λ i=>0<=i/\i<=N) (λ i=>((N:Int)-i).toNat)
  (λ i=>(.exit 4,(⟨wi ps p N R P++[(11,.int .i64 ((z9 (λ j=>za due j=true) i N).getD N))],[],h6 ps f flt rows due first,[(3,5)]⟩:St))) ?_ 0 ⟨by omega,by omega⟩
 ·unfold Xz;rw [hd];exact key
 ·rintro i ⟨i0,i1⟩
  by_cases c:i<N
  ·cases hx:za due i with
   |true=>
    left
    rw [zga c hx]
    refine ⟨by simp -implicitDefEqProofs +contextual (disch:=omega) only [J',yz,wi,h6,aB,aA, ↓XD,XU, ↓reduceIte,sevalprocAttr,c,i0,hd,hx,cR],by simp⟩
   |false=>
    right
    refine ⟨i+1,_,⟨by omega,by omega⟩,by omega,by (simp -implicitDefEqProofs +contextual (disch:=omega) only [J',yz,wi,h6,aB,aA, ↓XD,XU, ↓reduceIte,sevalprocAttr,c,i0,hd,hx])<;>rfl,?_,by rw [zaq (i:=i) c (by simp [hx])]⟩
    have:=λ roots=>kg (H:=h6 ps f flt rows due first) (ed:=[(3,5)]) (by simp) roots
    simp only [h6,bC,bE,bO,Nat.reduceAdd] at this
    simp [St.next,this]
  ·left
   have:i=N:=by omega
   subst this
   rw [zf' _ (by omega)]
   refine ⟨by simp -implicitDefEqProofs +contextual (disch:=omega) only [J',yz,wi,h6,aB,aA, ↓XD,XU, ↓reduceIte,sevalprocAttr,hd,aL,Option.getD_none],by simp⟩
end
def zdT (p c j:Int) (st:St):Prop:=st.per.get 4=.nils/\st.per.get 5=.ptr 1 0 0 1/\st.H[1]?=some (.cells 3 [[.int .i64 c,.int .i64 p,.int .i64 j]])
def zfH (f:zc) (S:List (Option ya)) (j:Int):Prop:=za S j≠none/\zaK f j
theorem zxG (ps:List zc) (f:zc) (p:Int) (N R:Nat) (P a:Int) (flt:List PV) (hf3:flt.length=3) (rows:List (List PV)) (due:List Bool) (first:List Int) (S:List (Option ya)) (hR:Z0 first rows S) (hS:S.length=N) (hf:f.Ins.length=N) (hN:N<=1048576) (hL:Yl f):match z9 (λ (j:Int)=>zfH f S j) 0 N with|some j=>∃ st,EV A (.loop (xG 3)) (⟨wi ps p N R P++[(11,.int .i64 a),(75,.int .i64 N),(76,.int .i64 (0))],[],h6 ps f flt rows due first,[(3,5)]⟩:St)=some (.ret,st)/\zdT p 14 j st|none=>EV A (.loop (xG 3)) (⟨wi ps p N R P++[(11,.int .i64 a),(75,.int .i64 N),(76,.int .i64 (0))],[],h6 ps f flt rows due first,[(3,5)]⟩:St)=some (zp.exit 6,(⟨wi ps p N R P++[(11,.int .i64 a),(75,.int .i64 N),(76,.int .i64 (N))],[],h6 ps f flt rows due first,[(3,5)]⟩:St)):=by
 have hrl:rows.length=N:=by rw [hR.len,hS]
 refine yr (λ i=>(⟨wi ps p N R P++[(11,.int .i64 a),(75,.int .i64 N),(76,.int .i64 i)],[],h6 ps f flt rows due first,[(3,5)]⟩:St)) (λ (j:Int)=>zfH f S j) (λ (j:Int) (st:St)=>zdT p 14 j st) (zp.exit 6,(⟨wi ps p N R P++[(11,.int .i64 a),(75,.int .i64 N),(76,.int .i64 (N))],[],h6 ps f flt rows due first,[(3,5)]⟩:St)) (0) (N) ?_ ?_ ?_ (0) (by omega) (by omega)
 ·intro i hi hn hp
  obtain ⟨row,hr1,hr2⟩:=hR.at_ hi (by omega);have hrd:=zkI hL (by omega:f.Ins.length<=1048576) hi (by omega:i<f.Ins.length);have hfa:=yY 14 p i;have htr:=λ roots=>kg (H:=h6 ps f flt rows due first) (ed:=[(3,5)]) (by simp) roots;simp only [h6,zc.cells,Go.Proofs.Tryd.Av.ups,ze,zj,zm,bC,bE,bO,Nat.reduceAdd] at hrd htr
  cases hs:za S i with
  |none=>
   rw [hs] at hr2
   have hr2:row=[.bool false,.nils,.nils]:=hr2
   subst hr2
   refine ⟨_,by (simp -implicitDefEqProofs +contextual (disch:=omega) only [XR,yz,wi,h6,zc.cells,Go.Proofs.Tryd.Av.ups,ze,zj,zm,aB,aA, ↓XD,XU, ↓reduceIte,sevalprocAttr,hr1,hrl,hn])<;>rfl,by simp [St.next,htr]⟩
  |some s=>
   rw [hs] at hr2
   obtain ⟨p',q',rfl,_,_⟩:=hr2
   have hnr:¬zaK f i:=λ h=>hp ⟨by rw [hs];simp,h⟩
   refine ⟨_,by (simp -implicitDefEqProofs +contextual (disch:=omega) only [XR,yz,wi,h6,zq,zc.cells,Go.Proofs.Tryd.Av.ups,ze,zj,zm,aB,aA, ↓XD,XU, ↓reduceIte,sevalprocAttr,hr1,hrl,hn,hrd,hnr])<;>rfl,by simp [St.next,htr]⟩
 ·intro i hi hn hp
  obtain ⟨row,hr1,hr2⟩:=hR.at_ hi (by omega);have hrd:=zkI hL (by omega:f.Ins.length<=1048576) hi (by omega:i<f.Ins.length);have hfa:=yY 14 p i;have htr:=λ roots=>kg (H:=h6 ps f flt rows due first) (ed:=[(3,5)]) (by simp) roots;simp only [h6,zc.cells,Go.Proofs.Tryd.Av.ups,ze,zj,zm,bC,bE,bO,Nat.reduceAdd] at hrd htr
  obtain ⟨hp1,hp2⟩:=hp
  obtain ⟨s,hs⟩:=bN.1 hp1
  rw [hs] at hr2
  obtain ⟨p',q',rfl,_,_⟩:=hr2
  refine ⟨_,by (simp -implicitDefEqProofs +contextual (disch:=omega) only [XR,yz,wi,h6,zq,zc.cells,Go.Proofs.Tryd.Av.ups,ze,zj,zm,aB,aA, ↓XD,XU, ↓reduceIte,sevalprocAttr,hr1,hrl,hn,hrd,hp2,hfa,hf3])<;>rfl,by simp [zk.get,zk.put],by simp [zk.get,zk.put],?_⟩
  rw [List.drop_eq_nil_of_le (by omega)];rfl
 ·rintro i hi rfl
  refine ⟨by simp -implicitDefEqProofs +contextual (disch:=omega) only [XR,yz, ↓XD,XU, ↓reduceIte,sevalprocAttr,wi,h6,aL],by simp⟩
end Go.Proofs.Tryd.Av
end
section
attribute [local congr] ite_congr
set_option maxRecDepth 10000
set_option maxHeartbeats 8000000
namespace Go.Proofs.Tryd.Av
open Go Go.Av Classical
theorem zBI (l:List Int):vt (cpH l l.length) (VK l.length) l:=by
 by_cases c:0<l.length
 ·obtain ⟨h1,h2⟩:=zej c
  rw [h1,h2];exact .inr ⟨1,rfl,rfl⟩
 ·have:l=[]:=bT.1 (by omega)
  subst this
  exact .inl ⟨rfl,rfl⟩
theorem Ty.vset {Y:zd} {p:PV} {l:List Int} {rows:List (List PV)} {d:List Bool} (h:Ty Y p l) (h3:Y[3]?=some (.cells 3 rows)) (h4:Y[4]?=some (.cells 1 (bl d))) (hd:d≠[]) (r:List (List PV)) (d':List Bool):Ty ((Y.set 3 (.cells 3 r)).set 4 (.cells 1 (bl d'))) p l:=by
 rcases h with h|⟨rfl,rfl⟩|⟨id,rfl,h⟩
 ·exact .inl h
 ·exact .inr (.inl ⟨rfl,rfl⟩)
 ·have n3:id≠3:=λ e=>by rw [e,h3] at h;injection h with h;injection h with h _;cases h
  have n4:id≠4:=λ e=>by
   rw [e,h4] at h
   injection h with h
   injection h with _ h
   cases d with
   |nil=>exact hd rfl
   |cons b d=>
    cases l with
    |nil=>simp at h
    |cons x l=>simp at h
  exact .inr (.inr ⟨id,rfl,by rw [aH (Ne.symm n4),aH (Ne.symm n3)];exact h⟩)
theorem Ka.vset {Y:zd} {p:PV} {l:List (Int×ya)} {rows:List (List PV)} {d:List Bool} (h:Ka Y p l) (h3:Y[3]?=some (.cells 3 rows)) (h4:Y[4]?=some (.cells 1 (bl d))) (hd:d≠[]) (r:List (List PV)) (d':List Bool):Ka ((Y.set 3 (.cells 3 r)).set 4 (.cells 1 (bl d'))) p l:=by
 rcases h with ⟨rfl,rfl⟩|⟨id,frows,rfl,k1,k2,k3⟩
 ·exact .inl ⟨rfl,rfl⟩
 ·have n3:id≠3:=λ e=>by rw [e,h3] at k1;injection k1 with k1;injection k1 with k1 _;cases k1
  have n4:id≠4:=λ e=>by rw [e,h4] at k1;injection k1 with k1;injection k1 with k1 _;cases k1
  refine .inr ⟨id,frows,rfl,by rw [aH (Ne.symm n4),aH (Ne.symm n3)];exact k1,k2,λ i row x e1 e2=>?_⟩
  obtain ⟨p',q',e3,e4,e5⟩:=k3 i row x e1 e2
  exact ⟨p',q',e3,e4.vset h3 h4 hd r d',e5⟩
theorem zyI {H:zd} {a b c d e f:zZ} (h0:H[0]?=some a) (h1:H[1]?=some b) (h2:H[2]?=some c) (h3:H[3]?=some d) (h4:H[4]?=some e) (h5:H[5]?=some f):H.take 6=[a,b,c,d,e,f]:=by
 match H with
 |[]=>cases h0
 |[_]=>cases h1
 |[_,_]=>cases h2
 |[_,_,_]=>cases h3
 |[_,_,_,_]=>cases h4
 |[_,_,_,_,_]=>cases h5
 |x0::x1::x2::x3::x4::x5::H=>cases h0;cases h1;cases h2;cases h3;cases h4;cases h5;rfl
theorem zk' {r x:Int} {a b:Rd} (h:vv r x a=some b):b.tk.length<=a.tk.length+1:=by
 unfold vv at h
 repeat' split at h
 all_goals first|(cases h;done)|(cases h;simp)
theorem zx' {ps:List zc} {nd:Ins} {ts t2 tk:List Int} (h:reads ps nd ts=some (t2,tk)):tk.length<=4:=by
 unfold reads at h
 split at h
 ·cases h
 ·rename_i a h1
  split at h
  ·cases h
  ·cases h
   unfold K6 at h1
   split at h1
   ·cases h1
   ·rename_i b1 k1
    split at h1
    ·cases h1
    ·rename_i b2 k2
     split at h1
     ·cases h1
     ·rename_i b3 k3
      have e1:=zk' k1;have e2:=zk' k2;have e3:=zk' k3;have e4:=zk' h1
      simp only [bE] at e1
      omega
theorem zcb {H:zd} {i:Nat} {b:zZ} (h:H[i]?=some b):H.set i b=H:=by
 have hi:=yJ h
 refine dN λ j=>?_
 by_cases e:i=j
 ·subst e;rw [aK hi,h]
 ·rw [aH e]
theorem zps (n:Ins) (a:Int) (s:ya) (ts:List Int) (gs:List Gd):(wR n a s ts gs).length<=2:=by
 unfold wR
 repeat' split
 all_goals simp
theorem Ka.lt {H:zd} {p:PV} {l:List (Int×ya)} (h:Ka H p l):∀ r∈refs p,r<H.length:=by
 rcases h with ⟨rfl,_⟩|⟨id,rows,rfl,h,_⟩
 ·intro r hr;cases hr
 ·intro r hr;simp [refs] at hr;subst hr;exact yJ h
def zzc (ps:List zc) (f:zc) (p:Int) (N R:Nat) (P:Int) (flt:List PV) (rows:List (List PV)) (due:List Bool) (first:List Int) (res:(Int×Int) ⊕ (List (Option ya)×List Bool)):Prop:=match res with
 |.inl (c,j)=>∃ st,EV A (xG 1) ⟨wi ps p N R P,[],h6 ps f flt rows due first,[(3,5)]⟩=some (.ret,st)/\zdT p c j st
 |.inr (S',due')=>∃ st' rows',EV A (xG 1) ⟨wi ps p N R P,[],h6 ps f flt rows due first,[(3,5)]⟩=some (.normal,st')/\(⟨wi ps p N R P,[],h6 ps f flt rows due first,[(3,5)]⟩:St).next st'=⟨wi ps p N R P,[],h6 ps f flt rows' due' first,[(3,5)]⟩/\Z0 first rows' S'
theorem zyQ {ps:List zc} {p:Int} (hS:Shaped ps) (p0:0<=p) (p1:p<ps.length) {P:Int} {flt:List PV} (hf3:flt.length=3) {rows:List (List PV)} {due:List Bool} {first:List Int} (hfl:(first.length:Int)=(za ps p).Regs) {S:List (Option ya)} (hW:WOk (za ps p) S due) (hR:Z0 first rows S) {a:Int} (ha:Xz due=some a):
  zzc ps (za ps p) p (za ps p).Ins.length first.length P flt rows due first (XC ps (za ps p) S due a):=by
 obtain ⟨⟨a0,a1⟩,a2,_⟩:=zkU ha
 have hPO:=hS.fine.ok p p0 p1
 have hI:=hS.fine.ins p p0 p1
 have hN:=hPO.i
 have hR0:=hPO.r0
 have hR1:=hPO.r1
 have hps:=hS.n
 obtain ⟨f,hf⟩:∃ f,za ps p=f:=⟨_,rfl⟩
 have hSn:=hW.s
 have hDn:=hW.d
 obtain ⟨s,hs⟩:=hW.due a a0 (by omega) a2
 have hsok:=hW.ok a a0 (by omega) s hs
 have hins:=hI a a0 (by omega)
 have hst:=hsok.t
 have hsg:=hsok.g
 have hsT:s.Types.length<=1048576:=by omega
 have hTl:(s.Types.length:Int)=(za ps p).Regs:=hst
 have hTf:s.Types.length=first.length:=by omega
 obtain ⟨s0,s1,s2,s3,hro⟩:=zmN hins
 have hrf:=zxc hins hro hTl
 have hwr:=zBV hins hTl
 have hxx:=(hS.size p).x a
 have hB:(za (za ps p).Ins a).Op=11->(0<=(za (za ps p).Ins a).B/\(za (za ps p).Ins a).B<ps.length)/\(za ps (za (za ps p).Ins a).B).Ups.length<=1048576/\∀ u∈(za ps (za (za ps p).Ins a).B).Ups,u.Local=true->0<=u.Index/\u.Index<s.Types.length:=λ ho=>
  ⟨zw2 hins ho,(hS.size _).u,zv9 (hS.ups p p0 p1 a a0 (by omega) ho) hTl⟩
 have htry:=λ ho=>zz' hins hTl (i:=a) ho
 have hall:=@zm0 ps p a hins a0 (by omega) hR0 s hsok
 obtain ⟨row,hrow,hr2⟩:=hR.at_ a0 (by omega)
 rw [hs] at hr2
 obtain ⟨pp,q,rfl,hpp,hq⟩:=hr2
 have hrl:rows.length=(za ps p).Ins.length:=by rw [hR.len,hSn]
 simp only [hf] at hro hrf hwr hxx hB htry hall hrl hfl hTl hSn hDn hN hR1 hR0 hst hsok hW ⊢
 obtain ⟨nd,hnd⟩:∃ nd,za f.Ins a=nd:=⟨_,rfl⟩
 simp only [hnd] at hro hrf hwr hxx hB htry hall
 obtain ⟨due1,hdue1⟩:∃ d,due.set a.toNat false=d:=⟨_,rfl⟩
 have hd1:due1.length=f.Ins.length:=by rw [<-hdue1,bI];exact hDn
 have hle:=zpG (ps:=ps) (f:=f) (p:=p) (N:=f.Ins.length) (R:=first.length) (P:=P) (flt:=flt) (rows:=rows) (first:=first) hDn hN
 rw [ha] at hle
 obtain ⟨tp,htp⟩:∃ tp,zC 7 (VK s.Types.length)=tp:=⟨_,rfl⟩
 obtain ⟨X0,hX0⟩:∃ X0,(cpH s.Types s.Types.length).map (zX 7)=X0:=⟨_,rfl⟩
 obtain ⟨H2,hH2⟩:∃ H2,[.cells 1 [[zb ps]],.cells 3 [flt],.cells 9 [f.cells],.cells 3 rows,.cells 1 (bl due1),.cells 1 (ym first),.cells 5 [nd.cells]]++X0=H2:=⟨_,rfl⟩
 have hl2:7<=H2.length:=by rw [<-hH2];simp
 have hH1:([.cells 1 [[zb ps]],.cells 3 [flt],.cells 9 [f.cells],.cells 3 rows,.cells 1 (bl due1),.cells 1 (ym first),.cells 5 [nd.cells]]:zd)[5]?=some (.cells 1 (ym first)):=rfl
 have hp0:=(hpp.ty hH1).frz 6
 obtain ⟨pz,hpz⟩:∃ pz,frz 8 [.cells 1 [[zb ps]],.cells 3 [flt],.cells 9 [f.cells],.cells 3 rows,.cells 1 (bl due1),.cells 1 (ym first),.cells 5 [nd.cells]] pp=pz:=⟨_,rfl⟩
 rw [hpz] at hp0
 have hcp:=zcJ hp0 hsT
 have hsl2:vt H2 tp s.Types:=by
  have:=(zBI s.Types).lend [.cells 1 [[zb ps]],.cells 3 [flt],.cells 9 [f.cells],.cells 3 rows,.cells 1 (bl due1),.cells 1 (ym first),.cells 5 [nd.cells]]
  simp only [bC,bE,bO,Nat.reduceAdd,htp,hX0,hH2] at this
  exact this
 have hfar:∀ r∈refs tp,7<=r:=λ r hr=>by
  rw [<-htp] at hr
  obtain ⟨r',e,_⟩:=VS 7 _ r hr
  omega
 have hrd:=zuN (ps:=ps) (p:=p) (nd:=nd) hsl2 hro hrf.1 hps hsT hrf.2 hxx hB
 have b2:∀ k,k<7->H2[k]?=([.cells 1 [[zb ps]],.cells 3 [flt],.cells 9 [f.cells],.cells 3 rows,.cells 1 (bl due1),.cells 1 (ym first),.cells 5 [nd.cells]]:zd)[k]?:=λ k hk=>by rw [<-hH2,aD (by simpa using hk)]
 have hcq:=yQ hq
 have a1':a<f.Ins.length:=by omega
 have hane:¬a=f.Ins.length:=by omega
 have hgd:(za S a).getD default=s:=by rw [hs];rfl
 have u0:=b2 0 (by omega)
 have u1:=b2 1 (by omega)
 have u2:=b2 2 (by omega)
 have u3:=b2 3 (by omega)
 have u4:=b2 4 (by omega)
 have u5:=b2 5 (by omega)
 have u6:=b2 6 (by omega)
 simp only [wi,h6,aB,aA,code,zb,zc.cells,ups,ze,zj,zm,Ins.cells,cR] at hle hpz hH2
 simp only [bW,dF] at u0 u1 u2 u3 u4 u5 u6
 have v0:=u0
 have v2:=u2
 have v6:=u6
 simp only [zb,zc.cells,ups,ze,zj,zm,Ins.cells] at v0 v2 v6
 unfold XC
 rw [hgd,hdue1,hnd]
 unfold Zv
 have faulted:∀ (H:zd) (c j:Int) (per:zk) (ed:zI),7<=H.length->H[1]?=some (.cells 3 [flt])->per.get 4=.nils->per.get 5=.ptr 1 0 0 1->zdT p c j ⟨per,[],H.set 1 (.cells 3 [[.int .i64 c,.int .i64 p,.int .i64 j]]),ed⟩:=λ H c j per ed h1 h2 h3 h4=>
  ⟨h3,h4,aK (by omega)⟩
 have hdf:List.drop 3 flt=[]:=List.drop_eq_nil_of_le (by omega)
 cases hre:reads ps nd s.Types with
 |none=>
  rw [hre] at hrd
  obtain ⟨H3,e1,e2,e3⟩:=hrd
  have x1:H3[1]?=some (.cells 3 [flt]):=(e2 1 (by omega) (λ h=>by have:=hfar 1 h;omega)).trans u1
  have hfa:=yY 10 p a
  simp only [code,zb,zc.cells,ups,ze,zj,zm,Ins.cells] at e1
  refine ⟨_,by (simp -implicitDefEqProofs +contextual (disch:=omega) only [uo,yz,wi,h6,zq,aB,aA,code,zb,zc.cells,ups,ze,zj,zm,Ins.cells, ↓XD,XU, ↓reduceIte,sevalprocAttr,hle,hdue1,hDn,hd1,hX0,htp,hnd,hpz,hcp,hH2,a0,a1',hane,hrl,hrow,v0,v6,e1,x1,hfa,hf3,hdf])<;>rfl,?_⟩
  exact faulted H3 10 a _ _ (by omega) x1 (by simp [zk.get,zk.put]) (by simp [zk.get,zk.put])
 |some r=>
  obtain ⟨ts,tk⟩:=r
  rw [hre] at hrd
  obtain ⟨tkp,H3,e1,e2,e3,e4,e5,e6⟩:=hrd
  simp only [code,zb,zc.cells,ups,ze,zj,zm,Ins.cells] at e1
  have nf:∀ k,k<7->k∉refs tp:=λ k hk h=>by have:=hfar k h;omega
  have y1:H3[1]?=some (.cells 3 [flt]):=(e4 1 (by omega) (nf 1 (by omega))).trans u1
  have y3:H3[3]?=some (.cells 3 rows):=(e4 3 (by omega) (nf 3 (by omega))).trans u3
  have y6:=(e4 6 (by omega) (nf 6 (by omega))).trans v6
  have hsl3:=e2
  have hkl:tk.length<=4/\ts.length=s.Types.length:=⟨zx' hre,znF hre⟩
  obtain ⟨gp,b,hch,hchb,hchg⟩:=zqY (nd:=nd) hq hsg
  have hfq:=λ H=>wl hq 7 H
  have hqr:=yI hq
  simp only [Ins.cells] at hch
  cases hcg:change nd s.Guards with
  |none=>
   have hbf:b=false:=by rw [hchb,hcg];rfl
   subst hbf
   have hfa:=yY 11 p a
   refine ⟨_,by (simp -implicitDefEqProofs +contextual (disch:=omega) only [uo,yz,wi,h6,zq,aB,aA,code,zb,zc.cells,ups,ze,zj,zm,Ins.cells, ↓XD,XU, ↓reduceIte,sevalprocAttr,hle,hdue1,hDn,hd1,hX0,htp,hnd,hpz,hcp,hH2,a0,a1',hane,hrl,hrow,v0,v6,e1,hf3,hdf,y1,y3,y6,hch,hfq,hqr,hfa])<;>rfl,?_⟩
   exact faulted H3 11 a _ _ (by omega) y1 (by simp [zk.get,zk.put]) (by simp [zk.get,zk.put])
  |some gs=>
   have hbt:b=true:=by rw [hchb,hcg];rfl
   subst hbt
   have hg:=hchg gs hcg
   obtain ⟨H4,w1,w2⟩:=zsV (nd:=nd) e2 hro (by rw [hkl.2];exact hwr) (by omega)
   simp only [Ins.cells] at w1
   have z1:H4[1]?=some (.cells 3 [flt]):=(w2.old 1 (nf 1 (by omega))).trans y1
   have z3:H4[3]?=some (.cells 3 rows):=(w2.old 3 (nf 3 (by omega))).trans y3
   have z6:=(w2.old 6 (nf 6 (by omega))).trans y6
   have z5:H4[5]?=some (.cells 1 (ym first)):=(w2.old 5 (nf 5 (by omega))).trans ((e4 5 (by omega) (nf 5 (by omega))).trans u5)
   have z4:H4[4]?=some (.cells 1 (bl due1)):=(w2.old 4 (nf 4 (by omega))).trans ((e4 4 (by omega) (nf 4 (by omega))).trans u4)
   have z2:H4[2]?=some (.cells 9 [f.cells]):=(w2.old 2 (nf 2 (by omega))).trans ((e4 2 (by omega) (nf 2 (by omega))).trans u2)
   have z0:=(w2.old 0 (nf 0 (by omega))).trans ((e4 0 (by omega) (nf 0 (by omega))).trans u0)
   have zl:=w2.len
   have z2':=z2
   simp only [zc.cells,ups,ze,zj,zm,Ins.cells] at z2'
   have t4:vt H4 tkp tk:=e3.keep λ r hr=>w2.old r λ h=>by
    have:=hsl2.lt r h
    have:=e6 r hr
    omega
   obtain ⟨ts',hts'⟩:∃ ts',writes nd ts=ts':=⟨_,rfl⟩
   rw [hts'] at w2
   have hwl:ts'.length=s.Types.length:=by rw [<-hts',zlT,hkl.2]
   have hpp4:=hpp.ty z5
   obtain ⟨fk,hfk⟩:∃ x,frz 8 H4 tkp=x:=⟨_,rfl⟩
   obtain ⟨fp0,hfp0⟩:∃ x,frz 8 H4 pp=x:=⟨_,rfl⟩
   obtain ⟨ft,hft⟩:∃ x,frz 8 H4 tp=x:=⟨_,rfl⟩
   have i1:=t4.isI 6
   have i2:=hpp4.frz 6
   have i3:=w2.sl.isI 6
   rw [hfk] at i1
   rw [hfp0] at i2
   rw [hft] at i3
   have h32:nd.Op=32->s.Types=ts':=λ ho=>by rw [<-hts'];exact (zvJ ho hre).symm
   have hkp:=zuI (nd:=nd) hq i1 i2 i3 ⟨by omega,by omega,hsT,hwl,λ x hx=>by have:=hsok.k x hx;omega⟩ h32
   simp only [Ins.cells] at hkp
   by_cases hlo:Q7 s.Guards tk s.Types ts'
   ·have hfa:=yY 12 p a
    simp only [hts',if_pos hlo]
    refine ⟨_,by (simp -implicitDefEqProofs +contextual (disch:=omega) only [uo,yz,wi,h6,zq,aB,aA,code,zb,zc.cells,ups,ze,zj,zm,Ins.cells, ↓XD,XU, ↓reduceIte,sevalprocAttr,hle,hdue1,hDn,hd1,hX0,htp,hnd,hpz,hcp,hH2,a0,a1',hane,hrl,hrow,v0,v6,e1,hf3,hdf,y1,y3,y6,hch,hfq,hqr,w1,z1,z3,z6,hfk,hfp0,hft,hkp,hlo,hfa])<;>rfl,?_⟩
    exact faulted H4 12 a _ _ (by omega) z1 (by simp [zk.get,zk.put]) (by simp [zk.get,zk.put])
   ·simp only [hts',if_neg hlo]
    have FA:QA f a H4 pp q tp gp s ts' gs:=⟨hpp4,hq,.inr w2.sl,hg,a0,a1',hN⟩
    obtain ⟨fp,X,ed,k1,k2,k3⟩:=zmy FA hwl.symm (by omega) (by rw [hnd,hwl];exact hwr.c) (by rw [hnd,hwl];exact htry)
    rw [hnd] at k2
    have hfl2:=k2.len
    obtain ⟨l,hlst⟩:∃ l,wR nd a s ts' gs=l:=⟨_,rfl⟩
    rw [hlst] at k2 hfl2 ⊢
    simp only [zq,zc.cells,ups,ze,zj,zm,Ins.cells] at k1
    have hY3:=zY H4 X z3
    have hY4:=zY H4 X z4
    have hd1n:due1≠[]:=λ e=>by rw [e] at hd1;simp at hd1;omega
    have hG0:((H4++X).set 3 (.cells 3 rows)).set 4 (.cells 1 (bl due1))=H4++X:=by rw [zcb hY3,zcb hY4]
    have hlY:H4.length<=(H4++X).length:=by simp
    have g0:∀ r d,(((H4++X).set 3 (.cells 3 r)).set 4 (.cells 1 (bl d)))[0]?=some (.cells 1 [[zb ps]]):=λ r d=>by rw [aH (by decide),aH (by decide)];exact zY H4 X z0
    have g1:∀ r d,(((H4++X).set 3 (.cells 3 r)).set 4 (.cells 1 (bl d)))[1]?=some (.cells 3 [flt]):=λ r d=>by rw [aH (by decide),aH (by decide)];exact zY H4 X z1
    have g2:∀ r d,(((H4++X).set 3 (.cells 3 r)).set 4 (.cells 1 (bl d)))[2]?=some (.cells 9 [f.cells]):=λ r d=>by rw [aH (by decide),aH (by decide)];exact zY H4 X z2
    have g3:∀ r d,(((H4++X).set 3 (.cells 3 r)).set 4 (.cells 1 (bl d)))[3]?=some (.cells 3 r):=λ r d=>by rw [aH (by decide),aK (yJ hY3)]
    have g4:∀ r d,(((H4++X).set 3 (.cells 3 r)).set 4 (.cells 1 (bl d)))[4]?=some (.cells 1 (bl d)):=λ r d=>by rw [aK (by rw [bI];exact yJ hY4)]
    have g5:∀ r d,(((H4++X).set 3 (.cells 3 r)).set 4 (.cells 1 (bl d)))[5]?=some (.cells 1 (ym first)):=λ r d=>by rw [aH (by decide),aH (by decide)];exact zY H4 X z5
    have hV:zyU first f.Ins.length (H4++X).length (λ r d=>((H4++X).set 3 (.cells 3 r)).set 4 (.cells 1 (bl d))) (ed++[(3,5)]) fp l flt:=
     ⟨g1,g3,g4,g5,λ r d r'=>by rw [List.set_comm _ _ (by decide),dR],λ r d d'=>by rw [dR],λ r d=>by simp,λ r d=>k2.vset hY3 hY4 hd1n r d,λ e he=>by
      rcases aX.1 he with he|he
      ·exact (k3 e he).2.2
      ·simp at he;subst he;simp only;omega⟩
    have hso:Zv ps nd a s=.inr l:=by unfold Zv;simp only [hre,hcg,hts',if_neg hlo,hlst]
    have hlx:=hall hso
    have hl2':l.length<=2:=by rw [<-hlst];exact zps _ _ _ _ _
    have hsz:∀ {s:ya},KQ f s->zwn s:=λ h=>⟨by have:=h.t;omega,by have:=h.g;omega⟩
    have hbare:bare (H4++X).length (zn ((UE ps p f.Ins.length first.length P a tp tkp gp fp l.length 0).map λ e=>e.2))=true:=by
     have h2:=w2.sl.lt
     have h3:=t4.lt
     have h4:=k2.lt
     refine aZ.2 λ r hr=>?_
     simp only [UE,wi,aB,aA,aM,bA,zn,refs,yI hg,bY,aA,aX,dE,aV,or_false,false_or] at hr
     simp only [cC]
     rcases hr with hr|hr|hr|hr|hr|hr|hr|hr|hr|hr
     all_goals first|omega|exact bJ (h2 _ hr) hlY|exact bJ (h3 _ hr) hlY|exact h4 _ hr
    have hvo:zsq first f.Ins.length l 0 rows due1 S:=⟨by omega,by omega,hR,hSn,hd1,λ i s' hs'=>hsz (hW.ok i.toNat (by omega) (by
     have:i.toNat<S.length:=cD λ h=>by rw [ziG h] at hs';cases hs'
     omega) s' (by show S.getD ((i.toNat:Int)).toNat default=_;rw [cB];exact hs'))⟩
    obtain ⟨r,hvis,hq⟩:=zyN (ps:=ps) (p:=p) (R:=first.length) (P:=P) (a:=a) (tp:=tp) (tkp:=tkp) (gp:=gp) hf3 hV hN (by omega) (λ x hx=>⟨(hlx x hx).1,hsz (hlx x hx).2⟩) hbare hvo
    simp only [hG0,UE,wi,aB,aA,code,zb,zc.cells,ups,ze,zj,zm,Ins.cells] at hvis
    cases hv:Yh l S due1 with
    |inl j=>
     rw [hv] at hq
     obtain ⟨st,rfl,q4,q5,q1⟩:=hq
     refine ⟨st,by simp -implicitDefEqProofs +contextual (disch:=omega) only [uo,yz,wi,h6,zq,aB,aA,code,zb,zc.cells,ups,ze,zj,zm,Ins.cells, ↓XD,XU, ↓reduceIte,sevalprocAttr,hle,hdue1,hDn,hd1,hX0,htp,hnd,hpz,hcp,hH2,a0,a1',hane,hrl,hrow,v0,v6,e1,hf3,hdf,y1,y3,y6,hch,hfq,hqr,w1,z1,z3,z6,z2',hfk,hfp0,hft,hkp,hlo,k1,hfl2,hvis],q4,q5,q1⟩
    |inr sd=>
     obtain ⟨S',due'⟩:=sd
     rw [hv] at hq
     obtain ⟨rows',rfl,hR',hd'⟩:=hq
     have hb6:bare 6 (zn ((wi ps p f.Ins.length first.length P).map λ e=>e.2))=true:=by
      simp [wi,bare,zn,refs]
     have ha6:((ed++[(3,5)]).all λ e=>decide (6<=e.1)||decide (e.2<6))=true:=by
      rw [aZ]
      intro e he
      rcases aX.1 he with he|he
      ·have:=(k3 e he).1;simp;omega
      ·simp at he;subst he;rfl
     have hf6:((ed++[(3,5)]).filter λ e=>decide (e.2<6))=[(3,5)]:=by
      rw [List.filter_append,List.filter_eq_nil_iff.2 (λ e he=>by have:=(k3 e he).2.1;simp;omega)];rfl
     have ht6:trim 6 ((wi ps p f.Ins.length first.length P).map λ e=>e.2) (((H4++X).set 3 (.cells 3 rows')).set 4 (.cells 1 (bl due'))) (ed++[(3,5)])=(h6 ps f flt rows' due' first,[(3,5)]):=by
      rw [trim,hb6,ha6]
      simp only [Bool.and_self,hf6]
      rw [zyI (g0 rows' due') (g1 rows' due') (g2 rows' due') (g3 rows' due') (g4 rows' due') (g5 rows' due')]
     simp only [wi,h6,aM,bA] at ht6
     refine ⟨_,rows',by (simp -implicitDefEqProofs +contextual (disch:=omega) only [uo,yz,wi,h6,zq,aB,aA,code,zb,zc.cells,ups,ze,zj,zm,Ins.cells, ↓XD,XU, ↓reduceIte,sevalprocAttr,hle,hdue1,hDn,hd1,hX0,htp,hnd,hpz,hcp,hH2,a0,a1',hane,hrl,hrow,v0,v6,e1,hf3,hdf,y1,y3,y6,hch,hfq,hqr,w1,z1,z3,z6,z2',hfk,hfp0,hft,hkp,hlo,k1,hfl2,hvis,UE])<;>rfl,?_,hR'⟩
     simp [St.next,ht6]
end Go.Proofs.Tryd.Av
end
section
attribute [local congr] ite_congr
set_option maxRecDepth 10000
set_option maxHeartbeats 4000000
namespace Go.Proofs.Tryd.Av
open Go Go.Av Classical
noncomputable def Zq (ps:List zc) (f:zc) (S:List (Option ya)) (due:List Bool):(Int×Int) ⊕ List (Option ya):=
 if (X6 ps f S due).1.1=0 then match z9 (zfH f (X6 ps f S due).2) 0 f.Ins.length with
  |some j=>.inl (14,j)
  |none=>.inr (X6 ps f S due).2
 else .inl (X6 ps f S due).1
def zyS (f:zc) (p:Int) (first:List Int) (x:(Int×Int) ⊕ List (Option ya)) (r:zp×St):Prop:=r.1=.ret/\match x with
 |.inl c=>zdT p c.1 c.2 r.2
 |.inr S=>∃ rows,Z0 first rows S/\rows.length=f.Ins.length/\r.2.per.get 4=.sl 3 0 f.Ins.length f.Ins.length/\r.2.per.get 5=.ptr 1 0 0 1/\r.2.H[1]?=some (.cells 3 [[.int .i64 0,.int .i64 0,.int .i64 0]])/\r.2.H[3]?=some (.cells 3 rows)/\r.2.H[5]?=some (.cells 1 (ym first))
theorem zla {ps:List zc} {f:zc} {S:List (Option ya)} {due:List Bool} {a:Int} {c:Int×Int} (h:XC ps f S due a=.inl c):¬c.1=0:=by
 unfold XC Zv at h
 split at h
 ·rename_i c' hc
  cases h
  split at hc
  ·cases hc;simp
  ·split at hc
   ·cases hc;simp
   ·split at hc
    ·cases hc;simp
    ·cases hc
 ·split at h
  ·cases h;simp
  ·cases h
theorem zBh {ps:List zc} {p:Int} (hS:Shaped ps) (p0:0<=p) (p1:p<ps.length) {P:Int} {flt:List PV} (hf3:flt.length=3) {first:List Int} (hfl:(first.length:Int)=(za ps p).Regs)
  {rows:List (List PV)} {due:List Bool} {S:List (Option ya)} (hW:WOk (za ps p) S due) (hR:Z0 first rows S):
  ∃ r,EV A (.loop (xG 1)) ⟨wi ps p (za ps p).Ins.length first.length P,[],h6 ps (za ps p) flt rows due first,[(3,5)]⟩=some r/\zyS (za ps p) p first (Zq ps (za ps p) S due) r:=by
 have hI:=hS.fine.ins p p0 p1
 have hPO:=hS.fine.ok p p0 p1
 have hr:=hPO.r0
 have hN:=hPO.i
 have hL:=zr4 hI
 refine Yr (P:=A) (body:=(xG 1)) (λ (s:List (List PV)×List Bool×List (Option ya))=>(⟨wi ps p (za ps p).Ins.length first.length P,[],h6 ps (za ps p) flt s.1 s.2.1 first,[(3,5)]⟩:St)) (λ s=>WOk (za ps p) s.2.2 s.2.1/\Z0 first s.1 s.2.2) (λ s=>WB s.2.2 s.2.1) (λ s r=>zyS (za ps p) p first (Zq ps (za ps p) s.2.2 s.2.1) r) ?_ (rows,due,S) ⟨hW,hR⟩
 rintro ⟨rows,due,S⟩ ⟨hW,hR⟩
 simp only at hW hR ⊢
 cases ha:Xz due with
 |some a=>
  have h:=zyQ hS p0 p1 (P:=P) hf3 hfl hW hR ha
  cases hro:XC ps (za ps p) S due a with
  |inl c=>
   obtain ⟨c,j⟩:=c
   rw [hro] at h
   obtain ⟨st,e,q⟩:=h
   refine .inl ⟨_,e,by simp,rfl,?_⟩
   have hz:=zla hro
   unfold Zq
   rw [zct ha hro,if_neg hz]
   exact q
  |inr sd=>
   obtain ⟨S',due'⟩:=sd
   rw [hro] at h
   obtain ⟨st',rows',e1,e2,e3⟩:=h
   obtain ⟨k1,k2⟩:=zf8 hI hr hW ha hro
   refine .inr ⟨(rows',due',S'),st',⟨k1,e3⟩,k2,e1,e2,λ r hq=>?_⟩
   have:Zq ps (za ps p) S due=Zq ps (za ps p) S' due':=by unfold Zq;rw [znf ha hro k2]
   rw [this];exact hq
 |none=>
  have hle:=zpG (ps:=ps) (f:=za ps p) (p:=p) (N:=(za ps p).Ins.length) (R:=first.length) (P:=P) (flt:=flt) (rows:=rows) (first:=first) hW.d hN
  rw [ha] at hle
  have hri:=zxG ps (za ps p) p (za ps p).Ins.length first.length P (za ps p).Ins.length flt hf3 rows due first S hR hW.s rfl hN hL
  have hrl:rows.length=(za ps p).Ins.length:=by rw [hR.len,hW.s]
  have hDn:=hW.d
  have hdf:List.drop 3 flt=[]:=List.drop_eq_nil_of_le (by omega)
  left
  unfold Zq
  rw [zgg ha]
  simp only [if_true]
  cases hk:z9 (zfH (za ps p) S) 0 (za ps p).Ins.length with
  |some j=>
   rw [hk] at hri
   obtain ⟨st,e,q⟩:=hri
   simp only [wi,h6,aB,aA,code,zb,zc.cells,ups,ze,zj,zm,Ins.cells,Option.getD_none] at hle e
   refine ⟨(.ret,st),by (simp -implicitDefEqProofs +contextual (disch:=omega) only [uo,yz,wi,h6,aB,aA,code,zb,zc.cells,ups,ze,zj,zm,Ins.cells, ↓XD,XU, ↓reduceIte,sevalprocAttr,hle,hDn,hrl,e]),by simp,rfl,q⟩
  |none=>
   rw [hk] at hri
   simp only [wi,h6,aB,aA,code,zb,zc.cells,ups,ze,zj,zm,Ins.cells,Option.getD_none] at hle hri
   refine ⟨_,by (simp -implicitDefEqProofs +contextual (disch:=omega) only [uo,yz,wi,h6,aB,aA,code,zb,zc.cells,ups,ze,zj,zm,Ins.cells, ↓XD,XU, ↓reduceIte,sevalprocAttr,hle,hDn,hrl,hri,hf3,hdf])<;>rfl,by simp,rfl,rows,hR,hrl,by simp [zk.get,zk.put],by simp [zk.get,zk.put],by simp,by simp,by simp⟩
structure zbm (ps:List zc):Prop extends Shaped ps where
 head:∀ p:Int,0<=p->p<ps.length->jL (za ps p) p
 one:∀ p:Int,0<=p->p<ps.length->1<=(za ps p).Ins.length
def vx (R P:Nat):List Int:=List.replicate P 1++List.replicate (R-P) 0
theorem zb9 {R P:Nat} (h:P<=R):(vx R P).length=R:=by simp [vx];omega
theorem zpJ {R P:Nat} (h:P<R):(vx R P).set P 1=vx R (P+1):=by
 unfold vx
 rw [dL _ _ (by simp),List.length_replicate,Nat.sub_self,show R-P=(R-(P+1))+1 by omega,List.replicate_succ,List.set_cons_zero,List.replicate_succ',aY]
 rfl
def xd (f:zc):List Int:=if f.Rest then (vx f.Regs.toNat f.Params.toNat).set f.Params.toNat 3 else vx f.Regs.toNat f.Params.toNat
theorem zDw (ps:List zc) (f:zc) (p:Int) (N R P:Nat) (hP:P<=R) (hR:R<=1048576) (hfP:f.Params=P) (b1 b3 b4:zZ):
  EV A (.loop (xG 0)) ⟨[(0,code ps),(1,.int .i64 p),(2,.ptr 0 0 0 1),(4,.nils),(5,.ptr 1 0 0 1),(6,.ptr 2 0 0 1),(7,.sl 3 0 N N),(8,.sl 4 0 N N),(9,.sl 5 0 R R),(10,.int .i64 0)],[],[.cells 1 [[zb ps]],b1,.cells 9 [f.cells],b3,b4,.cells 1 (ym (vx R 0))],[]⟩=some (.exit 0,⟨wi ps p N R P,[],[.cells 1 [[zb ps]],b1,.cells 9 [f.cells],b3,b4,.cells 1 (ym (vx R P))],[]⟩):=by
 have key:=uE (P:=A) (body:=(xG 0)) (λ (i:Nat)=>(⟨wi ps p N R i,[],[.cells 1 [[zb ps]],b1,.cells 9 [f.cells],b3,b4,.cells 1 (ym (vx R i))],[]⟩:St)) (λ i=>i<=P) (λ i=>P-i) (λ i=>(.exit 0,(⟨wi ps p N R P,[],[.cells 1 [[zb ps]],b1,.cells 9 [f.cells],b3,b4,.cells 1 (ym (vx R P))],[]⟩:St))) ?_ 0 (by omega)
 ·exact key
 intro i hi
 by_cases c:i<P
 ·right
  have hl:=zb9 (R:=R) (P:=i) (by omega)
  have hs:=zpJ (R:=R) (P:=i) (by omega)
  obtain ⟨l,hlx⟩:∃ l,vx R i=l:=⟨_,rfl⟩
  rw [hlx] at hl hs
  have hs2:(ym l).set i [.int .i64 1]=ym (vx R (i+1)):=by rw [<-hs];simp [ym]
  have hg:l[i]?=some (l[i]'(by omega)):=aE (by omega)
  have hc1:(i:Int)<P:=by omega
  have hc2:(i:Int)<R:=by omega
  refine ⟨i+1,_,by omega,by omega,by (simp -implicitDefEqProofs +contextual (disch:=omega) only [zck,yz,wi,zc.cells,ups,ze,zj,zm, ↓XD,XU, ↓reduceIte,sevalprocAttr,hfP,hc1,hc2,hl,hlx,hg,hs2,cB])<;>rfl,?_,rfl⟩
  simp [St.next,trim,bare,zn,refs,hfP]
 ·left
  have:i=P:=by omega
  subst this
  refine ⟨by (simp -implicitDefEqProofs +contextual (disch:=omega) only [zck,yz,wi,zc.cells,ups,ze,zj,zm, ↓XD,XU, ↓reduceIte,sevalprocAttr,hfP,aL]),by simp⟩
def zmi (row:List PV) (o:Option ya):Prop:=match o with
 |none=>row=[.bool false,.nils,.nils]
 |some s=>∃ p q,row=zq p q/\xP p s.Types/\xo q s.Guards
structure U7 (rows:List (List PV)) (S:List (Option ya)):Prop where
 len:rows.length=S.length
 row:∀ (i:Nat) (r:List PV) (o:Option ya),rows[i]?=some r->S[i]?=some o->zmi r o
theorem Z0.frz {first:List Int} {rows:List (List PV)} {S:List (Option ya)} (h:Z0 first rows S) {H:zd} (h5:H[5]?=some (.cells 1 (ym first))) (d:Nat):U7 (rows.map (·.map (Go.Av.frz (d+3) H))) S:=by
 refine ⟨by rw [cF];exact h.len,λ i r o h1 h2=>?_⟩
 rw [aN] at h1
 cases hr:rows[i]? with
 |none=>rw [hr] at h1;cases h1
 |some r0=>
  rw [hr] at h1
  cases h1
  have:=h.row i r0 o hr h2
  cases o with
  |none=>
   have this:r0=[.bool false,.nils,.nils]:=this
   subst this;rfl
  |some s=>
   obtain ⟨p,q,rfl,hp,hq⟩:=this
   refine ⟨_,_,rfl,(hp.ty h5).frz _,?_⟩
   rw [wl hq];exact hq
noncomputable def Vs (f:zc):List (Option ya):=(List.replicate f.Ins.length none).set 0 (some ⟨xd f,[]⟩)
def Vr (f:zc):List Bool:=(List.replicate f.Ins.length false).set 0 true
noncomputable def wv (ps:List zc) (p:Int):(Int×Int) ⊕ List (Option ya):=Zq ps (za ps p) (Vs (za ps p)) (Vr (za ps p))
theorem zdM {f:zc} {p:Int} (h:jL f p):((xd f).length:Int)=f.Regs:=by
 have h1:=h.1.1.1.1.2;have h2:=h.1.1.1.2
 unfold ja at h2
 unfold xd
 have:((vx f.Regs.toNat f.Params.toNat).length:Int)=f.Regs:=by
  rw [zb9 (by split at h2<;>omega)];omega
 split
 ·simpa using this
 ·exact this
theorem zj9 {f:zc} {p:Int} (h:jL f p) (h1:1<=f.Ins.length):WOk f (Vs f) (Vr f):=by
 have hl:=zdM h
 have h0:=h.1.1.1.1.2
 refine ⟨by simp [Vs],by simp [Vr],λ i i0 i1 s hs=>?_,λ i i0 i1 hd=>?_⟩
 ·unfold Vs at hs
  rw [show (0:Nat)=(0:Int).toNat from rfl,Xh (by omega) (by simpa using by omega) i0] at hs
  split at hs
  ·cases hs;exact ⟨hl,by simp,λ x hx=>by cases hx⟩
  ·have:=xX (l:=List.replicate f.Ins.length (none:Option ya)) i0 (by simpa using i1)
   rw [cE,if_pos (by omega)] at this
   rw [hs] at this
   cases this
 ·unfold Vr at hd
  unfold Vs
  rw [show (0:Nat)=(0:Int).toNat from rfl,Xh (by omega) (by simpa using by omega) i0] at hd ⊢
  split at hd
  ·rename_i e;rw [if_pos e];exact ⟨_,rfl⟩
  ·have:=xX (l:=List.replicate f.Ins.length false) i0 (by simpa using i1)
   rw [cE,if_pos (by omega),hd] at this
   cases this
theorem ztR (f:zc):Z0 (xd f) ((List.replicate f.Ins.length [PV.bool false,.nils,.nils]).set 0 (zq (.sl 5 0 (xd f).length (xd f).length) .nils)) (Vs f):=by
 refine Z0.set ⟨by simp,λ i r o h1 h2=>?_⟩ 0 ⟨_,_,rfl,.inr ⟨rfl,rfl⟩,.inr ⟨rfl,rfl⟩⟩
 rw [cE] at h1 h2
 split at h1
 ·rename_i q;rw [if_pos q] at h2;cases h1;cases h2;rfl
 ·cases h1
theorem zbq {H:zd} {id s N:Nat} {rows:List (List PV)} (h:H[id]?=some (.cells s rows)) (hn:rows.length=N) (d:Nat):Go.Av.frz (d+1) H (.sl id 0 N N)=.fz (rows.map (·.map (Go.Av.frz d H))):=by
 subst hn
 unfold Go.Av.frz
 simp only [h,BEq.rfl,bO,aS,decide_true,Bool.and_self,dZ,List.take_length]
theorem zhE {ps:List zc} (hS:zbm ps) {p:Int} (p0:0<=p) (p1:p<ps.length):match wv ps p with
  |.inl c=>EP A Je [code ps,.int .i64 p]=some (.tup [.nils,fl3 (c.1,p,c.2)])
  |.inr S=>∃ rows,EP A Je [code ps,.int .i64 p]=some (.tup [.fz rows,fl3 (0,0,0)])/\U7 rows S:=by
 have hh:=hS.head p p0 p1
 have hone:=hS.one p p0 p1
 have hPO:=hS.fine.ok p p0 p1
 have hps:=hS.n
 have hfl:=zdM hh
 have hN:=hPO.i
 have hr0:=hPO.r0
 have hr1:=hPO.r1
 have hW:=zj9 hh hone
 have hR:=ztR (za ps p)
 obtain ⟨r,e,q⟩:=zBh (P:=(za ps p).Params) (flt:=[.int .i64 0,.int .i64 0,.int .i64 0]) hS.toShaped p0 p1 rfl hfl hW hR
 have hP:=hh.1.1.1.2
 have hPR:(za ps p).Params.toNat<=(za ps p).Regs.toNat:=by unfold ja at hP;split at hP<;>omega
 have hpar:(za ps p).Params=((za ps p).Params.toNat:Int):=by omega
 have hb0:=zDw ps (za ps p) p (za ps p).Ins.length (za ps p).Regs.toNat (za ps p).Params.toNat hPR (by omega) hpar (.cells 3 [[.int .i64 0,.int .i64 0,.int .i64 0]]) (.cells 3 (List.replicate (za ps p).Ins.length [.bool false,.nils,.nils])) (.cells 1 (bl (List.replicate (za ps p).Ins.length false)))
 rw [<-hpar] at hb0
 have hrl:(xd (za ps p)).length=(za ps p).Regs.toNat:=by omega
 rw [hrl] at e hR
 change match wv ps p with
  |.inl c=>_
  |.inr S=>_
 have hwe:wv ps p=Zq ps (za ps p) (Vs (za ps p)) (Vr (za ps p)):=rfl
 rw [<-hwe] at q
 generalize hf:za ps p=f at hh hone hPO hfl hN hr0 hr1 hW hR e q hP hPR hpar hb0 hrl
 have hfp:(List.map zc.cells ps)[p.toNat]?=some f.cells:=by
  rw [aN,xX p0 p1,hf];rfl
 have b3:vx f.Regs.toNat 0=List.replicate f.Regs.toNat 0:=by simp [vx]
 have hRl:((f.Regs.toNat:Nat):Int)=f.Regs:=by omega
 have hol:=zb9 hPR
 have hil:(ym (vx f.Regs.toNat f.Params.toNat)).length=f.Regs.toNat:=by simpa using hol
 rw [b3] at hb0
 simp only [wi,h6,bl,ym,Vr,code,zb,zc.cells,ups,ze,zj,zm,Ins.cells] at hb0 e hfp
 have hR1:=hP
 have hR2:f.Rest=true->f.Params<f.Regs:=λ h=>by rw [ja,if_pos h] at hP;omega
 simp only [zq] at e
 obtain ⟨N,hNN⟩:∃ N,f.Ins.length=N:=⟨_,rfl⟩
 simp only [hNN] at e hb0 q hone
 have hN1:N<=1048576:=by omega
 have hN0:0<N:=by omega
 have hk1:(List.replicate N [PV.bool false,PV.nils,PV.nils]).length=N:=by simp
 have hk2:(List.replicate N false).length=N:=by simp
 have hk3:(List.replicate N [PV.bool false,PV.nils,PV.nils])[0]?=some [PV.bool false,PV.nils,PV.nils]:=by rw [cE,if_pos hN0]
 have hk4:(List.replicate N false)[0]?=some false:=by rw [cE,if_pos hN0]
 obtain ⟨x,st⟩:=r
 obtain ⟨rfl,q⟩:=q
 cases hw:wv ps p with
 |inl c=>
  rw [hw] at q
  obtain ⟨q1,q2,q3⟩:=q
  show EP A Je [code ps,.int .i64 p]=some (.tup [.nils,fl3 (c.1,p,c.2)])
  cases hrest:f.Rest with
  |false=>
   have hfo:xd f=vx f.Regs.toNat f.Params.toNat:=by rw [xd,if_neg (by simp [hrest])]
   rw [hfo] at e
   have hR2':=hR2
   simp only [hrest] at hb0 e hfp hR2'
   simp only [dY,reduceCtorEq,dS] at hR2'
   have hfl':=hfl
   simp -implicitDefEqProofs +contextual (disch:=omega) only [U_,Jp,yz,zq,code,zb,zc.cells,ups,ze,zj,zm,Ins.cells, ↓XD,XU, ↓reduceIte,sevalprocAttr,p0,p1,hf,hNN,hrest,hb0,hr0,hRl,hk3,hk4,e,q1,q2,q3,hR1.1,hR2',hol,hfl']
  |true=>
   have hfo:xd f=(vx f.Regs.toNat f.Params.toNat).set f.Params.toNat 3:=by rw [xd,if_pos hrest]
   rw [hfo] at e
   have hR2':=hR2
   simp only [hrest] at hb0 e hfp hR2'
   simp only [dY,reduceCtorEq,dS] at hR2'
   have hfl':=hfl
   simp -implicitDefEqProofs +contextual (disch:=omega) only [U_,Jp,yz,zq,code,zb,zc.cells,ups,ze,zj,zm,Ins.cells, ↓XD,XU, ↓reduceIte,sevalprocAttr,p0,p1,hf,hNN,hrest,hb0,hr0,hRl,hk3,hk4,e,q1,q2,q3,hR1.1,hR2',hol,hfl']
 |inr S=>
  rw [hw] at q
  obtain ⟨rows,q0,hrn,q1,q2,q3,q4,q5⟩:=q
  simp only [hNN] at q1 q2 q3 q4 q5 hrn
  have hfz:Go.Av.frz 7 st.H (.sl 3 0 N N)=.fz (rows.map (·.map (Go.Av.frz (3+3) st.H))):=zbq q4 hrn 6
  have hfz8:Go.Av.frz 8 st.H (.tup [.sl 3 0 N N,.agg [.int .i64 0,.int .i64 0,.int .i64 0]])=.tup [.fz (rows.map (·.map (Go.Av.frz (3+3) st.H))),.agg [.int .i64 0,.int .i64 0,.int .i64 0]]:=by
   rw [<-hfz];rfl
  refine ⟨rows.map (·.map (Go.Av.frz (3+3) st.H)),?_,q0.frz q5 3⟩
  cases hrest:f.Rest with
  |false=>
   have hfo:xd f=vx f.Regs.toNat f.Params.toNat:=by rw [xd,if_neg (by simp [hrest])]
   rw [hfo] at e
   have hR2':=hR2
   simp only [hrest] at hb0 e hfp hR2'
   simp only [dY,reduceCtorEq,dS] at hR2'
   have hfl':=hfl
   simp -implicitDefEqProofs +contextual (disch:=omega) only [U_,Jp,yz,zq,code,zb,zc.cells,ups,ze,zj,zm,Ins.cells, ↓XD,XU, ↓reduceIte,sevalprocAttr,p0,p1,hf,hNN,hrest,hb0,hr0,hRl,hk3,hk4,e,q1,q2,q3,hfz,hfz8,hR1.1,hR2',hol,hfl']
  |true=>
   have hfo:xd f=(vx f.Regs.toNat f.Params.toNat).set f.Params.toNat 3:=by rw [xd,if_pos hrest]
   rw [hfo] at e
   have hR2':=hR2
   simp only [hrest] at hb0 e hfp hR2'
   simp only [dY,reduceCtorEq,dS] at hR2'
   have hfl':=hfl
   simp -implicitDefEqProofs +contextual (disch:=omega) only [U_,Jp,yz,zq,code,zb,zc.cells,ups,ze,zj,zm,Ins.cells, ↓XD,XU, ↓reduceIte,sevalprocAttr,p0,p1,hf,hNN,hrest,hb0,hr0,hRl,hk3,hk4,e,q1,q2,q3,hfz,hfz8,hR1.1,hR2',hol,hfl']
theorem zj1 {σ ρ:Type} {g:Int->σ->σ ⊕ ρ}:∀ (m:Nat) (i:Int) (a b:σ),ug g m i a=.inl b->∀ k,i<=k->k<i+m->∃ s s',g k s=.inl s'
 |0,i,a,b,h,k,h1,h2=>by omega
 |m+1,i,a,b,h,k,h1,h2=>by
  rw [ug] at h
  cases hg:g i a with
  |inr r=>rw [hg] at h;cases h
  |inl a'=>
   rw [hg] at h
   by_cases e:k=i
   ·subst e;exact ⟨a,a',hg⟩
   ·exact zj1 m (i+1) a' b h k (by omega) (by omega)
theorem ztp {ps:List zc} (h:(parts ps).1=0):(∀ p:Int,0<=p->p<ps.length->jL (za ps p) p)/\∀ p:Int,0<=p->p<ps.length->1<=(za ps p).Ins.length:=by
 rw [parts] at h
 by_cases hB:Big ps
 ·rw [if_pos hB] at h;exact absurd h (by decide)
 rw [if_neg hB] at h
 cases h1:jd ps with
 |some f=>rw [h1] at h;exact absurd h (by dsimp only;decide)
 |none=>
  rw [h1] at h
  cases h2:kT ps with
  |some f=>rw [h2] at h;exact absurd h (by dsimp only;decide)
  |none=>
   rw [h2] at h
   cases h3:ZJ ps with
   |some f=>rw [h3] at h;exact absurd h (by dsimp only;decide)
   |none=>
    rw [h3] at h
    cases h4:Vc ps with
    |some f=>rw [h4] at h;exact absurd h (by dsimp only;decide)
    |none=>
     refine ⟨λ p p0 p1=>aP.1 (y8.1 h1 p p0 p1),λ p p0 p1=>?_⟩
     have h5:ue ps p=none:=aP.1 (y8.1 h4 p p0 p1)
     unfold ue at h5
     split at h5
     ·cases h5
     ·omega
theorem zgd {ps:List zc} (hb:ps.length<=1048576) (hs:vz ps) (h:(xJ ps).1=0):zbm ps:=by
 rw [xJ] at h
 by_cases h1:(parts ps).1=0
 ·rw [if_neg (by simpa using h1)] at h
  obtain ⟨m1,m2⟩:=ztp h1
  refine ⟨⟨hb,zf3 hs h1,hs,λ p p0 p1 i i0 i1 ho=>?_⟩,m1,m2⟩
  cases hm:zbs ps with
  |inr r=>rw [hm] at h;exact absurd h (by simp)
  |inl l=>
   obtain ⟨s,s',e1⟩:=zj1 _ _ _ _ hm p (by omega) (by omega)
   cases hi:zez ps p s with
   |inr n=>simp only [UW,hi] at e1;cases e1
   |inl s2=>
    obtain ⟨t,t',e2⟩:=zj1 _ _ _ _ hi i (by omega) (by omega)
    simp only [Q5,if_pos ho] at e2
    split at e2
    ·cases e2
    ·rename_i hn
     exact aP.1 (λ hc=>hn (.inr hc))
 ·rw [if_pos (by simpa using h1)] at h
  exact absurd h h1
noncomputable def Wq (ps:List zc):Option Int:=z9 (λ p=>(wv ps p).isLeft=true) 0 ps.length
noncomputable def va (ps:List zc) (p:Int):Int×Int×Int:=match wv ps p with|.inl c=>(c.1,p,c.2)|.inr _=>(0,0,0)
noncomputable def kM (ps:List zc):Int×Int×Int:=if (xJ ps).1≠0 then xJ ps else match Wq ps with
 |some p=>va ps p
 |none=>(0,0,0)
theorem zjT {ps:List zc} {f:zc} {S:List (Option ya)} {due:List Bool} {c:Int×Int} (h:Zq ps f S due=.inl c):¬c.1=0:=by
 unfold Zq at h
 split at h
 ·split at h
  ·cases h;simp
  ·cases h
 ·rename_i hz
  cases h;exact hz
theorem zDm (ps:List zc) (hS:zbm ps):match z9 (λ (j:Int)=>(wv ps j).isLeft=true) 0 ps.length with|some j=>∃ st,EV A (.loop (Xv 0)) (⟨[(0,code ps),(1,.ptr 0 0 0 1),(2,.ptr 1 0 0 1),(3,.ptr 2 0 0 1),(15,.int .i64 ps.length),(16,.int .i64 (0))],[],[.cells 1 [[zb ps]],.cells 3 [[.int .i64 0,.int .i64 0,.int .i64 0]],.cells 3 [[.int .i64 0,.int .i64 0,.int .i64 0]]],[]⟩:St)=some (.ret,st)/\yf 2 1 3 (wD (va ps j).1 (va ps j).2.1 (va ps j).2.2) st|none=>EV A (.loop (Xv 0)) (⟨[(0,code ps),(1,.ptr 0 0 0 1),(2,.ptr 1 0 0 1),(3,.ptr 2 0 0 1),(15,.int .i64 ps.length),(16,.int .i64 (0))],[],[.cells 1 [[zb ps]],.cells 3 [[.int .i64 0,.int .i64 0,.int .i64 0]],.cells 3 [[.int .i64 0,.int .i64 0,.int .i64 0]]],[]⟩:St)=some (zp.exit 0,(⟨[(0,code ps),(1,.ptr 0 0 0 1),(2,.ptr 1 0 0 1),(3,.ptr 2 0 0 1),(15,.int .i64 ps.length),(16,.int .i64 (ps.length))],[],[.cells 1 [[zb ps]],.cells 3 [[.int .i64 0,.int .i64 0,.int .i64 0]],.cells 3 [[.int .i64 0,.int .i64 0,.int .i64 0]]],[]⟩:St)):=by
 have hb:=hS.n
 refine yr (λ i=>(⟨[(0,code ps),(1,.ptr 0 0 0 1),(2,.ptr 1 0 0 1),(3,.ptr 2 0 0 1),(15,.int .i64 ps.length),(16,.int .i64 i)],[],[.cells 1 [[zb ps]],.cells 3 [[.int .i64 0,.int .i64 0,.int .i64 0]],.cells 3 [[.int .i64 0,.int .i64 0,.int .i64 0]]],[]⟩:St)) (λ (j:Int)=>(wv ps j).isLeft=true) (λ (j:Int) (st:St)=>yf 2 1 3 (wD (va ps j).1 (va ps j).2.1 (va ps j).2.2) st) (zp.exit 0,(⟨[(0,code ps),(1,.ptr 0 0 0 1),(2,.ptr 1 0 0 1),(3,.ptr 2 0 0 1),(15,.int .i64 ps.length),(16,.int .i64 (ps.length))],[],[.cells 1 [[zb ps]],.cells 3 [[.int .i64 0,.int .i64 0,.int .i64 0]],.cells 3 [[.int .i64 0,.int .i64 0,.int .i64 0]]],[]⟩:St)) (0) (ps.length) ?_ ?_ ?_ (0) (by omega) (by omega)
 ·intro i hi hn hp
  have hw:=zhE hS hi hn
  cases hk:wv ps i with
  |inl c=>rw [hk] at hp;exact absurd rfl hp
  |inr S=>
   rw [hk] at hw
   obtain ⟨rows,hw,_⟩:=hw
   simp only [code,zb] at hw
   refine ⟨_,by (simp -implicitDefEqProofs +contextual (disch:=omega) only [WF,uT,code,zb, ↓XD,XU, ↓reduceIte,sevalprocAttr,hn,hw])<;>rfl,by simp [St.next,trim,bare,zn,refs]⟩
 ·intro i hi hn hp
  have hw:=zhE hS hi hn
  cases hk:wv ps i with
  |inr S=>rw [hk] at hp;exact absurd hp (by simp)
  |inl c=>
   have hz:¬c.1=0:=zjT hk
   rw [hk] at hw
   simp only [code,zb] at hw
   refine ⟨_,by (simp -implicitDefEqProofs +contextual (disch:=omega) only [WF,uT,code,zb, ↓XD,XU, ↓reduceIte,sevalprocAttr,hn,hw,hz])<;>rfl,by simp [yf,zk.get,zk.put,va,hk]⟩
 ·rintro i hi rfl
  refine ⟨by simp -implicitDefEqProofs +contextual (disch:=omega) only [WF,uT, ↓XD,XU, ↓reduceIte,sevalprocAttr,zn,aL],by simp⟩
theorem zmG {ps:List zc} {p:Int} (h:(wv ps p).isLeft=true):¬(va ps p).1=0:=by
 unfold va
 cases hk:wv ps p with
 |inl c=>exact zjT hk
 |inr S=>rw [hk] at h;cases h
theorem zbO (ps:List zc) (hb:ps.length<=1048576) (ht:w9 ps<=1048576) (hs:vz ps):EP A zb5 [code ps]=some (fl3 (kM ps)):=by
 have e1:=zn9 ps hb ht hs
 rw [kM]
 by_cases h1:(xJ ps).1=0
 ·have hS:=zgd hb hs h1
  have hz:xJ ps=(0,0,0):=by
   revert h1;unfold xJ;split
   ·intro h;rename_i h2;exact absurd h h2
   ·split
    ·intro h;simp at h
    ·split
     ·intro h;simp at h
     ·intro _;rfl
  rw [hz] at e1
  rw [if_neg (by simpa using h1)]
  have e2:=zDm ps hS
  simp only [code,zb] at e1 e2
  cases h2:Wq ps with
  |some p=>
   unfold Wq at h2
   rw [h2] at e2
   obtain ⟨st,e2,g1,g2⟩:=e2
   simp -implicitDefEqProofs +contextual (disch:=omega) only [JL,J4,uT,code,zb, ↓XD,XU, ↓reduceIte,sevalprocAttr,e1,e2,g1,g2]
  |none=>
   unfold Wq at h2
   rw [h2] at e2
   simp -implicitDefEqProofs +contextual (disch:=omega) only [JL,J4,uT,code,zb, ↓XD,XU, ↓reduceIte,sevalprocAttr,e1,e2]
 ·rw [if_pos (by simpa using h1)]
  simp only [code,zb] at e1
  simp -implicitDefEqProofs +contextual (disch:=omega) only [JL,J4,uT,code,zb, ↓XD,XU, ↓reduceIte,sevalprocAttr,e1,h1]
def yT (o:Int):Int:=if o=6 then 2 else if o=22\/o=27\/o=28 then 3 else if o=42 then 0 else 1
theorem zwZ (o:Int):EP A zhV [.int .i64 o]=some (.int .i64 (yT o)):=by
 unfold yT
 by_cases h6:o=6
 ·subst h6;simp -implicitDefEqProofs +contextual (disch:=omega) only [Xe,Xn,ZS, ↓XD,XU, ↓reduceIte,sevalprocAttr]
 by_cases h22:o=22
 ·subst h22;simp -implicitDefEqProofs +contextual (disch:=omega) only [Xe,Xn,ZS, ↓XD,XU, ↓reduceIte,sevalprocAttr]
 by_cases h27:o=27
 ·subst h27;simp -implicitDefEqProofs +contextual (disch:=omega) only [Xe,Xn,ZS, ↓XD,XU, ↓reduceIte,sevalprocAttr]
 by_cases h28:o=28
 ·subst h28;simp -implicitDefEqProofs +contextual (disch:=omega) only [Xe,Xn,ZS, ↓XD,XU, ↓reduceIte,sevalprocAttr]
 by_cases h42:o=42
 ·subst h42;simp -implicitDefEqProofs +contextual (disch:=omega) only [Xe,Xn,ZS, ↓XD,XU, ↓reduceIte,sevalprocAttr]
 simp -implicitDefEqProofs +contextual (disch:=omega) only [Xe,Xn,ZS, ↓XD,XU, ↓reduceIte,sevalprocAttr,h6,h22,h27,h28,h42]
theorem zpk (a:Int):EP A zb2 [.int .i64 a]=some (yt [a]):=by
 simp -implicitDefEqProofs +contextual (disch:=omega) only [zjL,zj',ziN,yt,zS,zH,xF, ↓zz,yi, ↓XD,XU, ↓reduceIte,sevalprocAttr]
theorem zB' (p q:PV) (gs:List Gd) (k:Int) (r:Bool) (h:xo q gs) (hb:gs.length<=1048576):match z9 (λ (j:Int)=>(za gs j).Try=true/\k<(za gs j).Keep) 0 gs.length with|some j=>∃ st,EV A (.loop (VC 0)) (⟨[(0,.int .i64 k),(1,.fp [.bool r,p,q] 0),(3,.bool false),(7,q),(8,.int .i64 gs.length),(9,.int .i64 (0))],[],[],[]⟩:St)=some (.ret,st)/\st.per.get 3=.bool false|none=>EV A (.loop (VC 0)) (⟨[(0,.int .i64 k),(1,.fp [.bool r,p,q] 0),(3,.bool false),(7,q),(8,.int .i64 gs.length),(9,.int .i64 (0))],[],[],[]⟩:St)=some (zp.exit 0,(⟨[(0,.int .i64 k),(1,.fp [.bool r,p,q] 0),(3,.bool false),(7,q),(8,.int .i64 gs.length),(9,.int .i64 (gs.length))],[],[],[]⟩:St)):=by
 refine yr (λ i=>(⟨[(0,.int .i64 k),(1,.fp [.bool r,p,q] 0),(3,.bool false),(7,q),(8,.int .i64 gs.length),(9,.int .i64 i)],[],[],[]⟩:St)) (λ (j:Int)=>(za gs j).Try=true/\k<(za gs j).Keep) (λ (j:Int) (st:St)=>st.per.get 3=.bool false) (zp.exit 0,(⟨[(0,.int .i64 k),(1,.fp [.bool r,p,q] 0),(3,.bool false),(7,q),(8,.int .i64 gs.length),(9,.int .i64 (gs.length))],[],[],[]⟩:St)) (0) (gs.length) ?_ ?_ ?_ (0) (by omega) (by omega)
 ·intro i hi hn hp
  have hi':=xR h [] .i64 i hi hn;have hi2:=λ H=>xR h H .i64 i hi hn;simp only [Gd.cells] at hi2
  by_cases c:(za gs i).Try=true
  ·have c2:¬k<(za gs i).Keep:=λ h2=>hp ⟨c,h2⟩
   refine ⟨_,by (simp -implicitDefEqProofs +contextual (disch:=omega) only [YC,j_, ↓XD,XU, ↓reduceIte,sevalprocAttr,hi2,c,c2,hn])<;>rfl,by simp [St.next,trim,bare,zn,refs,yI h]⟩
  ·refine ⟨_,by (simp -implicitDefEqProofs +contextual (disch:=omega) only [YC,j_, ↓XD,XU, ↓reduceIte,sevalprocAttr,hi2,c,hn])<;>rfl,by simp [St.next,trim,bare,zn,refs,yI h]⟩
 ·intro i hi hn hp
  have hi':=xR h [] .i64 i hi hn;have hi2:=λ H=>xR h H .i64 i hi hn;simp only [Gd.cells] at hi2
  obtain ⟨c,c2⟩:=hp
  refine ⟨_,by (simp -implicitDefEqProofs +contextual (disch:=omega) only [YC,j_, ↓XD,XU, ↓reduceIte,sevalprocAttr,hi2,c,c2,hn])<;>rfl,by simp [zk.get,zk.put]⟩
 ·rintro i hi rfl
  refine ⟨by simp -implicitDefEqProofs +contextual (disch:=omega) only [YC,j_, ↓XD,XU, ↓reduceIte,sevalprocAttr,yI h,aL],by simp⟩
theorem wV {p q:PV} {gs:List Gd} {r:Bool} (h:xo q gs) (k:Int) (hb:gs.length<=1048576):EP A zeB [.int .i64 k,.fp [.bool r,p,q] 0]=some (.bool (decide (ud gs k))):=by
 have hl:=zB' p q gs k r h hb
 have hlen:=wh h
 cases hs:z9 (λ j=>(za gs j).Try=true/\k<(za gs j).Keep) 0 gs.length with
 |none=>
  rw [hs] at hl
  have ha:ud gs k:=λ g hg ht=>by
   obtain ⟨j,j0,j1,e⟩:=Xs hg
   have:=y8.1 hs j j0 j1
   rw [e] at this
   by_cases c:k<g.Keep
   ·exact absurd ⟨ht,c⟩ this
   ·omega
  simp -implicitDefEqProofs +contextual (disch:=omega) only [zek,ze7,j_, ↓XD,XU, ↓reduceIte,sevalprocAttr,hlen,hl,ha]
 |some j=>
  rw [hs] at hl
  obtain ⟨st,hl,hg⟩:=hl
  obtain ⟨j0,j1,⟨ht,c⟩,_⟩:=xE.1 hs
  have ha:¬ud gs k:=λ ha=>by
   have:=ha _ (jv j0 j1) ht
   omega
  simp -implicitDefEqProofs +contextual (disch:=omega) only [zek,ze7,j_, ↓XD,XU, ↓reduceIte,sevalprocAttr,hlen,hl,hg,ha]
theorem zpD (p q p' q':PV) (s s':ya) (t1:xP p s.Types) (t2:xo q s.Guards) (t3:xP p' s'.Types) (t4:xo q' s'.Guards) (hb:s.Types.length<=1048576) (hl:s'.Types.length=s.Types.length):match z9 (λ (j:Int)=>¬za s.Types j=za s'.Types j) 0 s.Types.length with|some j=>∃ st,EV A (.loop (uh 0)) (⟨[(0,.agg (zq p q)),(1,.agg (zq p' q')),(2,.ptr 0 0 0 1),(3,.ptr 1 0 0 1),(4,.bool false),(9,.int .i64 s.Types.length),(10,.int .i64 (0))],[],[.cells 3 [zq p q],.cells 3 [zq p' q']],[]⟩:St)=some (.ret,st)/\st.per.get 4=.bool false|none=>EV A (.loop (uh 0)) (⟨[(0,.agg (zq p q)),(1,.agg (zq p' q')),(2,.ptr 0 0 0 1),(3,.ptr 1 0 0 1),(4,.bool false),(9,.int .i64 s.Types.length),(10,.int .i64 (0))],[],[.cells 3 [zq p q],.cells 3 [zq p' q']],[]⟩:St)=some (zp.exit 0,(⟨[(0,.agg (zq p q)),(1,.agg (zq p' q')),(2,.ptr 0 0 0 1),(3,.ptr 1 0 0 1),(4,.bool false),(9,.int .i64 s.Types.length),(10,.int .i64 (s.Types.length))],[],[.cells 3 [zq p q],.cells 3 [zq p' q']],[]⟩:St)):=by
 refine yr (λ i=>(⟨[(0,.agg (zq p q)),(1,.agg (zq p' q')),(2,.ptr 0 0 0 1),(3,.ptr 1 0 0 1),(4,.bool false),(9,.int .i64 s.Types.length),(10,.int .i64 i)],[],[.cells 3 [zq p q],.cells 3 [zq p' q']],[]⟩:St)) (λ (j:Int)=>¬za s.Types j=za s'.Types j) (λ (j:Int) (st:St)=>st.per.get 4=.bool false) (zp.exit 0,(⟨[(0,.agg (zq p q)),(1,.agg (zq p' q')),(2,.ptr 0 0 0 1),(3,.ptr 1 0 0 1),(4,.bool false),(9,.int .i64 s.Types.length),(10,.int .i64 (s.Types.length))],[],[.cells 3 [zq p q],.cells 3 [zq p' q']],[]⟩:St)) (0) (s.Types.length) ?_ ?_ ?_ (0) (by omega) (by omega)
 ·intro i hi hn hp
  have hi1:=λ H=>wP t1 H .i64 i hi hn;have hi2:=λ H=>wP t3 H .i64 i hi (by omega)
  refine ⟨_,by (simp -implicitDefEqProofs +contextual (disch:=omega) only [WD,wk,zq, ↓XD,XU, ↓reduceIte,sevalprocAttr,hi1,hi2,hp,hn])<;>rfl,by simp [St.next,trim,bare,zn,refs,yB t1,yB t3,yI t2,yI t4]⟩
 ·intro i hi hn hp
  have hi1:=λ H=>wP t1 H .i64 i hi hn;have hi2:=λ H=>wP t3 H .i64 i hi (by omega)
  refine ⟨_,by (simp -implicitDefEqProofs +contextual (disch:=omega) only [WD,wk,zq, ↓XD,XU, ↓reduceIte,sevalprocAttr,hi1,hi2,hp,hn])<;>rfl,by simp [zk.get,zk.put]⟩
 ·rintro i hi rfl
  refine ⟨by simp -implicitDefEqProofs +contextual (disch:=omega) only [WD,wk, ↓XD,XU, ↓reduceIte,sevalprocAttr,zq,aL],by simp⟩
theorem zxv (p q p' q':PV) (s s':ya) (t1:xP p s.Types) (t2:xo q s.Guards) (t3:xP p' s'.Types) (t4:xo q' s'.Guards) (hb:s.Guards.length<=1048576) (hl:s'.Guards.length=s.Guards.length):match z9 (λ (j:Int)=>¬za s.Guards j=za s'.Guards j) 0 s.Guards.length with|some j=>∃ st,EV A (.loop (uh 1)) (⟨[(0,.agg (zq p q)),(1,.agg (zq p' q')),(2,.ptr 0 0 0 1),(3,.ptr 1 0 0 1),(4,.bool false),(9,.int .i64 s.Types.length),(10,.int .i64 s.Types.length),(34,.int .i64 s.Guards.length),(35,.int .i64 (0))],[],[.cells 3 [zq p q],.cells 3 [zq p' q']],[]⟩:St)=some (.ret,st)/\st.per.get 4=.bool false|none=>EV A (.loop (uh 1)) (⟨[(0,.agg (zq p q)),(1,.agg (zq p' q')),(2,.ptr 0 0 0 1),(3,.ptr 1 0 0 1),(4,.bool false),(9,.int .i64 s.Types.length),(10,.int .i64 s.Types.length),(34,.int .i64 s.Guards.length),(35,.int .i64 (0))],[],[.cells 3 [zq p q],.cells 3 [zq p' q']],[]⟩:St)=some (zp.exit 2,(⟨[(0,.agg (zq p q)),(1,.agg (zq p' q')),(2,.ptr 0 0 0 1),(3,.ptr 1 0 0 1),(4,.bool false),(9,.int .i64 s.Types.length),(10,.int .i64 s.Types.length),(34,.int .i64 s.Guards.length),(35,.int .i64 (s.Guards.length))],[],[.cells 3 [zq p q],.cells 3 [zq p' q']],[]⟩:St)):=by
 refine yr (λ i=>(⟨[(0,.agg (zq p q)),(1,.agg (zq p' q')),(2,.ptr 0 0 0 1),(3,.ptr 1 0 0 1),(4,.bool false),(9,.int .i64 s.Types.length),(10,.int .i64 s.Types.length),(34,.int .i64 s.Guards.length),(35,.int .i64 i)],[],[.cells 3 [zq p q],.cells 3 [zq p' q']],[]⟩:St)) (λ (j:Int)=>¬za s.Guards j=za s'.Guards j) (λ (j:Int) (st:St)=>st.per.get 4=.bool false) (zp.exit 2,(⟨[(0,.agg (zq p q)),(1,.agg (zq p' q')),(2,.ptr 0 0 0 1),(3,.ptr 1 0 0 1),(4,.bool false),(9,.int .i64 s.Types.length),(10,.int .i64 s.Types.length),(34,.int .i64 s.Guards.length),(35,.int .i64 (s.Guards.length))],[],[.cells 3 [zq p q],.cells 3 [zq p' q']],[]⟩:St)) (0) (s.Guards.length) ?_ ?_ ?_ (0) (by omega) (by omega)
 ·intro i hi hn hp
  have hi1:=λ H=>xR t2 H .i64 i hi hn;have hi2:=λ H=>xR t4 H .i64 i hi (by omega);have hq:=zkJ (za s.Guards i) (za s'.Guards i);simp only [Gd.cells] at hi1 hi2 hq
  refine ⟨_,by (simp -implicitDefEqProofs +contextual (disch:=omega) only [WE,wk,zq, ↓XD,XU, ↓reduceIte,sevalprocAttr,hi1,hi2,hq,hp,hn])<;>rfl,by simp [St.next,trim,bare,zn,refs,yB t1,yB t3,yI t2,yI t4]⟩
 ·intro i hi hn hp
  have hi1:=λ H=>xR t2 H .i64 i hi hn;have hi2:=λ H=>xR t4 H .i64 i hi (by omega);have hq:=zkJ (za s.Guards i) (za s'.Guards i);simp only [Gd.cells] at hi1 hi2 hq
  refine ⟨_,by (simp -implicitDefEqProofs +contextual (disch:=omega) only [WE,wk,zq, ↓XD,XU, ↓reduceIte,sevalprocAttr,hi1,hi2,hq,hp,hn])<;>rfl,by simp [zk.get,zk.put]⟩
 ·rintro i hi rfl
  refine ⟨by simp -implicitDefEqProofs +contextual (disch:=omega) only [WE,wk, ↓XD,XU, ↓reduceIte,sevalprocAttr,zq,aL],by simp⟩
theorem zpl {p q p' q':PV} {s s':ya} (t1:xP p s.Types) (t2:xo q s.Guards) (t3:xP p' s'.Types) (t4:xo q' s'.Guards) (h1:s.Types.length<=1048576) (h2:s.Guards.length<=1048576) (h3:s'.Types.length<=1048576) (h4:s'.Guards.length<=1048576) (e1':s'.Types.length=s.Types.length):EP A zb3 [.agg (zq p q),.agg (zq p' q')]=some (.bool (decide (s=s'))):=by
 have l1:=Xg t1
 have l2:=wh t2
 have l3:=Xg t3
 have l4:=wh t4
 have c1:=ut t1
 have c2:=yQ t2
 have c3:=ut t3
 have c4:=yQ t4
 have k1:=jl t1
 have k2:=xf t2
 have k3:=jl t3
 have k4:=xf t4
 have e1:(s.Types.length:Int)=s'.Types.length:=by omega
 by_cases e2:(s.Guards.length:Int)=s'.Guards.length
 ·have a0:=zpD p q p' q' s s' t1 t2 t3 t4 h1 (by omega)
  have a1:=zxv p q p' q' s s' t1 t2 t3 t4 h2 (by omega)
  have ext:∀ {α:Type} [Inhabited α] {l l':List α},(l.length:Int)=l'.length->z9 (λ j=>¬za l j=za l' j) 0 l.length=none->l=l':=by
   intro α _ l l' hl hs
   refine dN λ k=>?_
   by_cases hk:k<l.length
   ·have:=aP.1 (y8.1 hs k (by omega) (by omega))
    have u1:=xX (l:=l) (i:=(k:Int)) (by omega) (by omega)
    have u2:=xX (l:=l') (i:=(k:Int)) (by omega) (by omega)
    rw [cB] at u1 u2
    rw [u1,u2,this]
   ·rw [bB (by omega),bB (by omega)]
  cases s0:z9 (λ j=>¬za s.Types j=za s'.Types j) 0 s.Types.length with
  |some j=>
   rw [s0] at a0
   obtain ⟨st,a0,hg⟩:=a0
   have hne:¬s=s':=λ e=>by
    obtain ⟨_,_,h,_⟩:=xE.1 s0
    exact h (by rw [e])
   simp only [zq,e1,e2] at a0
   simp -implicitDefEqProofs +contextual (disch:=omega) only [Zp,Zy,wk,zq,zF, ↓XD,XU, ↓reduceIte,sevalprocAttr,l1,l2,l3,l4,c1,c2,c3,c4,k1,k2,k3,k4,e1,e2,a0,hg,hne]
  |none=>
   rw [s0] at a0
   have t0:=ext e1 s0
   cases s1:z9 (λ j=>¬za s.Guards j=za s'.Guards j) 0 s.Guards.length with
   |some j=>
    rw [s1] at a1
    obtain ⟨st,a1,hg⟩:=a1
    have hne:¬s=s':=λ e=>by
     obtain ⟨_,_,h,_⟩:=xE.1 s1
     exact h (by rw [e])
    simp only [zq,e1,e2] at a0 a1
    simp -implicitDefEqProofs +contextual (disch:=omega) only [Zp,Zy,wk,zq,zF, ↓XD,XU, ↓reduceIte,sevalprocAttr,l1,l2,l3,l4,c1,c2,c3,c4,k1,k2,k3,k4,e1,e2,a0,a1,hg,hne]
   |none=>
    rw [s1] at a1
    have t9:=ext e2 s1
    have he:s=s':=by cases s;cases s';simp only at t0 t9;rw [t0,t9]
    simp only [zq,e1,e2] at a0 a1
    simp -implicitDefEqProofs +contextual (disch:=omega) only [Zp,Zy,wk,zq,zF, ↓XD,XU, ↓reduceIte,sevalprocAttr,l1,l2,l3,l4,c1,c2,c3,c4,k1,k2,k3,k4,e1,e2,a0,a1,he]
 ·have hne:¬s=s':=λ e=>e2 (by rw [e])
  have a0:=zpD p q p' q' s s' t1 t2 t3 t4 h1 (by omega)
  cases s0:z9 (λ j=>¬za s.Types j=za s'.Types j) 0 s.Types.length with
  |some j=>
   rw [s0] at a0
   obtain ⟨st,a0,hg⟩:=a0
   simp only [zq,e1] at a0
   simp -implicitDefEqProofs +contextual (disch:=omega) only [Zp,Zy,wk,zq,zF, ↓XD,XU, ↓reduceIte,sevalprocAttr,l1,l2,l3,l4,c1,c2,c3,c4,k1,k2,k3,k4,e1,e2,a0,hg,hne]
  |none=>
   rw [s0] at a0
   simp only [zq,e1] at a0
   simp -implicitDefEqProofs +contextual (disch:=omega) only [Zp,Zy,wk,zq,zF, ↓XD,XU, ↓reduceIte,sevalprocAttr,l1,l2,l3,l4,c1,c2,c3,c4,k1,k2,k3,k4,e1,e2,a0,hne]
noncomputable def xr (n:Ins) (a:Int):List Int:=
 if n.Op=1\/n.Op=3\/n.Op=28\/n.Op=29\/n.Op=30\/(n.Op=18/\n.B=12) then []
 else if n.Op=19 then [n.A]
 else if n.Op=41 then [n.B]
 else if n.Op=20\/n.Op=21\/n.Op=38\/n.Op=39 then [a+1,n.B]
 else if n.Op=31 then [a+1,n.A]
 else [a+1]
theorem zc' (n:Ins) (a y:Int):y∈xr n a↔y∈xV n a:=by
 unfold xr xV
 repeat' split
 all_goals simp [or_comm]
theorem zk7 (n:Ins) (a:Int):(xr n a).length<=2:=by
 unfold xr
 repeat' split
 all_goals simp
theorem zkM {nd:Ins} {a:Int} (a0:0<=a) (a1:a<1048576):∃ st,EV A kl ⟨[(0,.agg nd.cells),(1,.int .i64 a)],[],[],[]⟩=some (.ret,st)/\st.ed=[]/\vt st.H (st.per.get 4) (xr nd a):=by
 obtain ⟨o,A',B,C,D⟩:=nd
 by_cases g1:o=1
 ·subst g1
  refine ⟨_,by (simp -implicitDefEqProofs +contextual (disch:=omega) only [wj,xY,Ins.cells,zF,zS, ↓zz,yi, ↓XD,XU, ↓reduceIte,sevalprocAttr,a0])<;>rfl,rfl,.inl ⟨rfl,by simp [xr]⟩⟩
 by_cases g3:o=3
 ·subst g3
  refine ⟨_,by (simp -implicitDefEqProofs +contextual (disch:=omega) only [wj,xY,Ins.cells,zF,zS, ↓zz,yi, ↓XD,XU, ↓reduceIte,sevalprocAttr,a0])<;>rfl,rfl,.inl ⟨rfl,by simp [xr]⟩⟩
 by_cases g28:o=28
 ·subst g28
  refine ⟨_,by (simp -implicitDefEqProofs +contextual (disch:=omega) only [wj,xY,Ins.cells,zF,zS, ↓zz,yi, ↓XD,XU, ↓reduceIte,sevalprocAttr,a0])<;>rfl,rfl,.inl ⟨rfl,by simp [xr]⟩⟩
 by_cases g29:o=29
 ·subst g29
  refine ⟨_,by (simp -implicitDefEqProofs +contextual (disch:=omega) only [wj,xY,Ins.cells,zF,zS, ↓zz,yi, ↓XD,XU, ↓reduceIte,sevalprocAttr,a0])<;>rfl,rfl,.inl ⟨rfl,by simp [xr]⟩⟩
 by_cases g30:o=30
 ·subst g30
  refine ⟨_,by (simp -implicitDefEqProofs +contextual (disch:=omega) only [wj,xY,Ins.cells,zF,zS, ↓zz,yi, ↓XD,XU, ↓reduceIte,sevalprocAttr,a0])<;>rfl,rfl,.inl ⟨rfl,by simp [xr]⟩⟩
 by_cases g18:o=18
 ·subst g18
  by_cases hB:B=12
  ·subst hB
   refine ⟨_,by (simp -implicitDefEqProofs +contextual (disch:=omega) only [wj,xY,Ins.cells,zF,zS, ↓zz,yi, ↓XD,XU, ↓reduceIte,sevalprocAttr,a0])<;>rfl,rfl,.inl ⟨rfl,by simp [xr]⟩⟩
  ·refine ⟨_,by (simp -implicitDefEqProofs +contextual (disch:=omega) only [wj,xY,Ins.cells,zF,zS, ↓zz,yi, ↓XD,XU, ↓reduceIte,sevalprocAttr,a0,hB])<;>rfl,rfl,.inr ⟨1,by simp [xr,zk.get,zk.put,hB],by simp [xr,hB]⟩⟩
 by_cases g19:o=19
 ·subst g19
  refine ⟨_,by (simp -implicitDefEqProofs +contextual (disch:=omega) only [wj,xY,Ins.cells,zF,zS, ↓zz,yi, ↓XD,XU, ↓reduceIte,sevalprocAttr,a0])<;>rfl,rfl,.inr ⟨1,by simp [xr,zk.get,zk.put],by simp [xr]⟩⟩
 by_cases g41:o=41
 ·subst g41
  refine ⟨_,by (simp -implicitDefEqProofs +contextual (disch:=omega) only [wj,xY,Ins.cells,zF,zS, ↓zz,yi, ↓XD,XU, ↓reduceIte,sevalprocAttr,a0])<;>rfl,rfl,.inr ⟨1,by simp [xr,zk.get,zk.put],by simp [xr]⟩⟩
 by_cases g20:o=20
 ·subst g20
  refine ⟨_,by (simp -implicitDefEqProofs +contextual (disch:=omega) only [wj,xY,Ins.cells,zF,zS, ↓zz,yi, ↓XD,XU, ↓reduceIte,sevalprocAttr,a0])<;>rfl,rfl,.inr ⟨1,by simp [xr,zk.get,zk.put],by simp [xr]⟩⟩
 by_cases g21:o=21
 ·subst g21
  refine ⟨_,by (simp -implicitDefEqProofs +contextual (disch:=omega) only [wj,xY,Ins.cells,zF,zS, ↓zz,yi, ↓XD,XU, ↓reduceIte,sevalprocAttr,a0])<;>rfl,rfl,.inr ⟨1,by simp [xr,zk.get,zk.put],by simp [xr]⟩⟩
 by_cases g38:o=38
 ·subst g38
  refine ⟨_,by (simp -implicitDefEqProofs +contextual (disch:=omega) only [wj,xY,Ins.cells,zF,zS, ↓zz,yi, ↓XD,XU, ↓reduceIte,sevalprocAttr,a0])<;>rfl,rfl,.inr ⟨1,by simp [xr,zk.get,zk.put],by simp [xr]⟩⟩
 by_cases g39:o=39
 ·subst g39
  refine ⟨_,by (simp -implicitDefEqProofs +contextual (disch:=omega) only [wj,xY,Ins.cells,zF,zS, ↓zz,yi, ↓XD,XU, ↓reduceIte,sevalprocAttr,a0])<;>rfl,rfl,.inr ⟨1,by simp [xr,zk.get,zk.put],by simp [xr]⟩⟩
 by_cases g31:o=31
 ·subst g31
  refine ⟨_,by (simp -implicitDefEqProofs +contextual (disch:=omega) only [wj,xY,Ins.cells,zF,zS, ↓zz,yi, ↓XD,XU, ↓reduceIte,sevalprocAttr,a0])<;>rfl,rfl,.inr ⟨1,by simp [xr,zk.get,zk.put],by simp [xr]⟩⟩
 refine ⟨_,by (simp -implicitDefEqProofs +contextual (disch:=omega) only [wj,xY,Ins.cells,zF,zS, ↓zz,yi, ↓XD,XU, ↓reduceIte,sevalprocAttr,a0,g1,g3,g28,g29,g30,g18,g19,g41,g20,g21,g38,g39,g31])<;>rfl,rfl,.inr ⟨1,by simp [xr,zk.get,zk.put,g1,g3,g28,g29,g30,g18,g19,g41,g20,g21,g38,g39,g31],by simp [xr,g1,g3,g28,g29,g30,g18,g19,g41,g20,g21,g38,g39,g31]⟩⟩
theorem znn {nd:Ins} {a:Int} (a0:0<=a) (a1:a<1048576):∃ p X,ES A Jd [.agg nd.cells,.int .i64 a] []=some (p,X,[])/\vt X p (xr nd a):=by
 obtain ⟨st,h1,h2,h3⟩:=zkM (nd:=nd) a0 a1
 rcases h3 with ⟨h3,h4⟩|⟨id,h3,h4⟩
 ·refine ⟨.nils,[],?_,.inl ⟨rfl,h4⟩⟩
  rw [zgO,h1]
  simp -implicitDefEqProofs +contextual (disch:=omega) only [↓XD,XU, ↓reduceIte,sevalprocAttr,h2,h3]
  simp [trim,bare,zn,refs]
 ·refine ⟨_,st.H,?_,.inr ⟨id,rfl,h4⟩⟩
  rw [zgO,h1]
  simp -implicitDefEqProofs +contextual (disch:=omega) only [↓XD,XU, ↓reduceIte,sevalprocAttr,h2,h3]
  simp [trim,bare,zn,refs]
theorem zuK {nd:Ins} {a:Int} (a0:0<=a) (a1:a<1048576):∃ p,EP A Jd [.agg nd.cells,.int .i64 a]=some p/\xP p (xr nd a):=by
 obtain ⟨st,h1,h2,h3⟩:=zkM (nd:=nd) a0 a1
 refine ⟨frz 8 st.H (st.per.get 4),?_,h3.isI 6⟩
 rw [znX,h1]
 rfl
def zyx (sz:Nat) (H:zd):PV->PV->Option (PV×zd×zI)
 |.fz rows,.int _ h=>match decide (0<=(0:Int))&&decide (0<=h)&&decide (h<=rows.length)&&rows.all (λ r=>r.length==sz) with
  |true=>some (.fz ((rows.drop (0:Int).toNat).take (h.toNat-(0:Int).toNat)),H,[])
  |false=>none
 |.sl id off len tot,.int _ h=>match decide (0<=(0:Int))&&decide (0<=h)&&decide (h<=len)&&xU H sz (.sl id off len tot) with
  |true=>some (.sl id (off+(0:Int).toNat) (h.toNat-(0:Int).toNat) tot,H,[])
  |false=>none
 |_,_=>none
theorem zel {P:xn} (sz:Nat) (x h:zy) (st:St):zt P.glob (CL P) st (.slice sz x none (some h))=zyx sz st.H (x.get P.glob st) (h.get P.glob st):=by
 show (match x.get P.glob st,ZB P.glob st 0 none with
  |.fz rows,some l=>match ZB P.glob st rows.length (some h) with
   |some h=>match decide (0<=l)&&decide (l<=h)&&decide (h<=rows.length)&&rows.all (λ r=>r.length==sz) with
    |true=>some (PV.fz ((rows.drop l.toNat).take (h.toNat-l.toNat)),st.H,[])
    |false=>none
   |none=>none
  |.sl id off len tot,some l=>match ZB P.glob st len (some h) with
   |some h=>match decide (0<=l)&&decide (l<=h)&&decide (h<=len)&&xU st.H sz (.sl id off len tot) with
    |true=>some (PV.sl id (off+l.toNat) (h.toNat-l.toNat) tot,st.H,[])
    |false=>none
   |none=>none
  |_,_=>none)=_
 simp only [ZB]
 cases x.get P.glob st<;>cases h.get P.glob st<;>rfl
theorem zmY {sz:Nat} {H:zd} {id len tot:Nat} {k:IntKind} {h:Int} (h0:0<=h) (h1:h<=len) (hs:xU H sz (.sl id 0 len tot)=true):zyx sz H (.sl id 0 len tot) (.int k h)=some (.sl id 0 h.toNat tot,H,[]):=by
 have:(decide (0<=(0:Int))&&decide (0<=h)&&decide (h<=len)&&xU H sz (.sl id 0 len tot))=true:=by simp [h0,h1,hs]
 simp only [zyx,this]
 rfl
structure Stk (b0 b1:zZ) (H:zd) (p:PV) (l:List Int):Prop where
 h0:H[0]?=some b0
 h1:H[1]?=some b1
 sl:(p=.nils/\l=[])\/∃ (id:Nat) (rest:List Int),p=.sl id 0 l.length (l.length+rest.length)/\H[id]?=some (.cells 1 (ym (l++rest)))/\2<=id
theorem Stk.len {b0 b1:zZ} {H:zd} {p:PV} {l:List Int} (h:Stk b0 b1 H p l):ZH p=some (.int .i64 l.length):=by
 rcases h.sl with ⟨rfl,rfl⟩|⟨id,rest,rfl,_,_⟩<;>simp [ZH]
theorem zzs {H:zd} {id:Nat} {l rest q:List Int} (h:H[id]?=some (.cells 1 (ym (l++rest)))) (hb:l.length<=4000000) (hq:q.length<=2):
  ∃ rest',xe H 1 8 (.sl id 0 l.length (l.length+rest.length)) (ym q)=some (.sl id 0 (l.length+q.length) (l.length+q.length+rest'.length),H.set id (.cells 1 (ym (l++q++rest'))),[]):=by
 have he:∀ (m:Nat),((ym q).map (wG m)).flatten=[]:=λ m=>by
  rw [List.flatten_eq_nil_iff]
  intro x hx
  obtain ⟨r,hr,rfl⟩:=bU.1 hx
  simp [wG,zya q r hr]
 have c1:(l.length+rest.length==(ym (l++rest)).length&&(1:Nat)==1&&decide (0+l.length<=l.length+rest.length)&&decide ((0+l.length+(ym q).length)*8<=35184372088832))=true:=by
  simp;omega
 by_cases c:0+l.length+(ym q).length<=l.length+rest.length
 ·have c2:decide (0+l.length+(ym q).length<=l.length+rest.length)=true:=by simpa using c
  simp only [cF,bO] at c
  refine ⟨rest.drop q.length,?_⟩
  simp only [xe,h,c1,c2,he]
  have e1:(l++rest).take l.length=l:=List.take_left
  have e2:(l++rest).drop (l.length+q.length)=rest.drop q.length:=by rw [List.drop_append];simp
  simp only [bO,cF, <-List.map_take, <-List.map_drop,e1,e2, <-dU,List.length_drop]
  congr 3
  omega
 ·have c2:decide (0+l.length+(ym q).length<=l.length+rest.length)=false:=by simpa using c
  refine ⟨[],?_⟩
  simp only [xe,h,c1,c2,he]
  have e1:(l++rest).take l.length=l:=List.take_left
  simp only [cF, <-List.map_take,e1, <-dU,bE,cN,bY]
theorem zj0 {p:PV} {l:List Int} (h:xP p l) (H:zd):uu H p=some (ym l)/\xU H 1 p=true:=by
 rcases h with rfl|⟨rfl,rfl⟩
 ·exact ⟨rfl,by simp [xU,yt]⟩
 ·exact ⟨rfl,rfl⟩
abbrev zbN (f:zc) (sv:PV) (N:Nat) (i:Int) (p:PV):zk:=[(0,.agg f.cells),(1,sv),(2,.ptr 0 0 0 1),(4,.int .i64 0),(11,.int .i64 N),(12,.int .i64 i),(5,.int .i64 i),(6,.sl 1 0 N N),(7,p)]
def zoS (f:zc) (sv:PV) (i:Int) (r:zp×St):Prop:=(∃ p H,r=(.exit 2,(⟨zbN f sv f.Ins.length i p,[],H,[]⟩:St))/\H[0]?=some (.cells 9 [f.cells])/\1<=H.length/\¬zaK f i)\/(∃ st,r=(.ret,st)/\st.per.get 4=.int .i64 i/\zaK f i)
structure zrL (f:zc) (a:Int) (H:zd) (p:PV) (seen:List Bool) (l:List Int):Prop where
 stk:Stk (.cells 9 [f.cells]) (.cells 1 (bl seen)) H p l
 dfs:Dfs f a seen l
 few:l.length+3*QJ seen<=3*f.Ins.length+2
theorem zDl {f:zc} {sv:PV} {a:Int} (hL:Yl f) (hb:f.Ins.length<=1048576) {H:zd} {p:PV} {seen:List Bool} {l:List Int} (h:zrL f a H p seen l):
  ∃ r,EV A (.loop (jx 1)) ⟨zbN f sv f.Ins.length a p,[],H,[]⟩=some r/\zoS f sv a r:=by
 refine Yr (P:=A) (body:=(jx 1)) (λ (s:zd×PV×List Bool×List Int)=>(⟨zbN f sv f.Ins.length a s.2.1,[],s.1,[]⟩:St)) (λ s=>zrL f a s.1 s.2.1 s.2.2.1 s.2.2.2) (λ s=>3*QJ s.2.2.1+s.2.2.2.length) (λ _ r=>zoS f sv a r) ?_ (H,p,seen,l) h
 rintro ⟨H,p,seen,l⟩ ⟨ho,hB,hf⟩
 simp only at ho hB hf ⊢
 have hlen:=ho.len
 have g0:=ho.h0
 have g1:=ho.h1
 have hsn:=hB.n
 have hH:=yJ g1
 have htr:∀ (H':zd),H'.length=H.length->∀ roots,trim H.length roots H' []=(H',[]):=λ H' e roots=>by rw [<-e];exact kg (by simp) roots
 rcases ho.sl with ⟨rfl,rfl⟩|⟨id,rest,rfl,hid,id2⟩
 ·left
  refine ⟨_,by (simp -implicitDefEqProofs +contextual (disch:=omega) only [Yf,vh,zbN, ↓XD,XU, ↓reduceIte,sevalprocAttr,hlen])<;>rfl,by simp,.inl ⟨.nils,H,rfl,g0,by omega,hB.end_⟩⟩
 ·rcases List.eq_nil_or_concat l with rfl|⟨l',k,rfl⟩
  ·left
   refine ⟨_,by (simp -implicitDefEqProofs +contextual (disch:=omega) only [Yf,vh,zbN, ↓XD,XU, ↓reduceIte,sevalprocAttr,hlen])<;>rfl,by simp,.inl ⟨_,H,rfl,g0,by omega,hB.end_⟩⟩
  ·rw [List.concat_eq_append] at *
   obtain ⟨m,hm⟩:∃ m,l'.length=m:=⟨_,rfl⟩
   have hn:(l'++[k]).length=m+1:=by simp [hm]
   obtain ⟨n,hn2⟩:∃ n,m+1=n:=⟨_,rfl⟩
   rw [hn2] at hn
   obtain ⟨L,hL2⟩:∃ L,l'++[k]++rest=L:=⟨_,rfl⟩
   have hLl:L.length=n+rest.length:=by rw [<-hL2,aQ,hn]
   have hLk:za L m=k:=by
    rw [<-hL2,za,List.getD,cB, <-hm]
    simp
   have hLm:L[m]?=some k:=by rw [<-hL2, <-hm];simp
   have hm1:(n:Int)-1=m:=by omega
   have hml:(m:Int)<L.length:=by omega
   rw [hn] at hlen
   rw [hL2] at hid
   rw [hn] at hf ⊢
   obtain ⟨tot,htot⟩:∃ t,n+rest.length=t:=⟨_,rfl⟩
   rw [htot] at hLl ⊢
   have hszs:xU H 1 (.sl id 0 n tot)=true:=by simp [xU,hid]
   have hsl:=zmY (k:=.i64) (h:=(m:Int)) (by omega) (by omega) hszs
   rw [cB] at hsl
   have hn0:0<(n:Int):=by omega
   obtain ⟨k0,k1⟩:=hB.rng k (by simp)
   have hpop:Stk (.cells 9 [f.cells]) (.cells 1 (bl seen)) H (.sl id 0 m tot) l':=⟨g0,g1,.inr ⟨id,k::rest,by rw [hm, <-htot, <-hn2,bC];congr 1;omega,by rw [hid, <-hL2];simp,id2⟩⟩
   have hw:IntKind.i64.wrap ((n:Int)-1)=m:=by rw [hm1];exact zqs (by omega) (by omega)
   simp only [zc.cells,ups,ze,zj,zm] at g0
   by_cases e:k=a
   ·left
    refine ⟨_,by (simp -implicitDefEqProofs +contextual (disch:=omega) only [Yf,vh,zbN, ↓zel, ↓XD,XU, ↓reduceIte,sevalprocAttr,hid,g0,g1,hn0,hm1,hml,hLm,hLl,hsl,eq_true e])<;>rfl,by simp,.inr ⟨_,rfl,by simp [zk.get,zk.put],hB.hit e⟩⟩
   ·have hfew:l'.length+3*QJ seen<=3*f.Ins.length+2:=by omega
    right
    cases hs:za seen k with
    |true=>
     refine ⟨(H,.sl id 0 m tot,seen,l'),_,⟨hpop,hB.skip hs,hfew⟩,by simp only;omega,by (simp -implicitDefEqProofs +contextual (disch:=omega) only [Yf,vh,zbN, ↓zel, ↓XD,XU, ↓reduceIte,sevalprocAttr,hid,g0,g1,hn0,hm1,hml,hLm,hLl,hsl,eq_false e,k0,k1,hsn,hs])<;>rfl,by simp [St.next,htr H rfl],λ _ h=>h⟩
    |false=>
     have hs2:¬za seen k=true:=by simp [hs]
     obtain ⟨q,e1,e2⟩:=zuK (nd:=za f.Ins k) (a:=k) k0 (by omega)
     have h2:=zk7 (za f.Ins k) k
     obtain ⟨r1,r2⟩:=zj0 e2 (H.set 1 (.cells 1 (bl (seen.set k.toNat true))))
     have hset:(H.set 1 (.cells 1 (bl (seen.set k.toNat true))))[id]?=H[id]?:=aH (by omega)
     have hid':(H.set 1 (.cells 1 (bl (seen.set k.toNat true))))[id]?=some (.cells 1 (ym (l'++([k]++rest)))):=by rw [hset,hid, <-hL2,aY]
     have hd:=zrP k0 (by omega) hs2
     obtain ⟨rest',hap⟩:=zzs hid' (by omega) h2
     have hlr:l'.length+([k]++rest).length=tot:=by rw [<-htot, <-hn2, <-hm];simp;omega
     rw [hlr,hm] at hap
     have hm2:=hB.more hL e hs2 (xr (za f.Ins k) k) (zc' _ _)
     have hst:Stk (.cells 9 [f.cells]) (.cells 1 (bl (seen.set k.toNat true))) ((H.set 1 (.cells 1 (bl (seen.set k.toNat true)))).set id (.cells 1 (ym (l'++xr (za f.Ins k) k++rest')))) (.sl id 0 (m+(xr (za f.Ins k) k).length) (m+(xr (za f.Ins k) k).length+rest'.length)) (l'++xr (za f.Ins k) k):=by
      refine ⟨?_,?_,.inr ⟨id,rest',by rw [aQ,hm],?_,id2⟩⟩
      ·rw [aH (by omega),aH (by decide)];exact ho.h0
      ·rw [aH (by omega),aK hH]
      ·rw [aK (by rw [bI];exact yJ hid)]
     have q0:(H.set 1 (.cells 1 (bl (seen.set k.toNat true))))[0]?=H[0]?:=aH (by decide)
     rw [g0] at q0
     simp only [Ins.cells,bl] at e1 r1 r2 hap q0
     refine ⟨(_,_,seen.set k.toNat true,l'++xr (za f.Ins k) k),_,⟨hst,hm2,by simp only [aQ];omega⟩,by simp only [aQ];omega,by (simp -implicitDefEqProofs +contextual (disch:=omega) only [Yf,vh,zbN, ↓zel, ↓zG,zA, ↓XD,XU, ↓reduceIte,sevalprocAttr,hid,g0,g1,hn0,hm1,hml,hLm,hLl,hsl,eq_false e,k0,k1,hsn,hs,q0,e1,r1,r2,hap])<;>rfl,?_,λ _ h=>h⟩
     simp [St.next,htr]
theorem zuA {f:zc} {a:Int} (hL:Yl f) (a0:0<=a) (a1:a<f.Ins.length):Dfs f a (List.replicate f.Ins.length false) (xr (za f.Ins a) a):=
 ⟨by simp,λ y hy=>.single ((zc' _ _ _).1 hy),λ y hy=>hL a a0 a1 y ((zc' _ _ _).1 hy),λ x x0 x1 hx=>(by rw [zk2] at hx;cases hx),λ y hy=>.inl ((zc' _ _ _).2 hy)⟩
theorem U7.at_ {rows:List (List PV)} {S:List (Option ya)} (h:U7 rows S) {i:Int} (i0:0<=i) (i1:i<S.length):∃ r,rows[i.toNat]?=some r/\zmi r (za S i):=by
 have hl:=h.len
 have h1:rows[i.toNat]?=some (rows[i.toNat]'(by omega)):=aE (by omega)
 exact ⟨_,h1,h.row _ _ _ h1 (xX i0 i1)⟩
theorem zpt {sz:Nat} {H:zd} {rows:List (List PV)} {k:IntKind} {i:Int} {row:List PV} (h0:0<=i) (h:rows[i.toNat]?=some row) (hl:row.length=sz):wH sz H (.fz rows) (.int k i)=some (.fp row 0):=by
 subst hl
 simp [wH,h0,h]
theorem zr5 {f:zc} {sv:PV} {a:Int} (hL:Yl f) (hb:f.Ins.length<=1048576) (a0:0<=a) (a1:a<f.Ins.length) {sp:PV} {X:zd} (h:vt X sp (xr (za f.Ins a) a)):
  ∃ r,EV A (.loop (jx 1)) ⟨zbN f sv f.Ins.length a (zC 2 sp),[],[.cells 9 [f.cells],.cells 1 (bl (List.replicate f.Ins.length false))]++X.map (zX 2),[]⟩=some r/\zoS f sv a r:=by
 refine zDl hL hb (l:=xr (za f.Ins a) a) ⟨⟨rfl,rfl,?_⟩,zuA hL a0 a1,by have:=zk7 (za f.Ins a) a;rw [zi1];omega⟩
 have h2:=h.lend [.cells 9 [f.cells],.cells 1 (bl (List.replicate f.Ins.length false))]
 have hfar:∀ r∈refs (zC 2 sp),2<=r:=λ r hr=>by obtain ⟨r',e,_⟩:=VS 2 sp r hr;omega
 rcases h2 with h2|⟨id,e1,e2⟩
 ·exact .inl h2
 ·have e1:zC 2 sp=.sl id 0 (xr (za f.Ins a) a).length (xr (za f.Ins a) a).length:=e1
  exact .inr ⟨id,[],by rw [e1];rfl,by rw [bY];exact e2,hfar id (by rw [e1];simp [refs])⟩
theorem zxu (f:zc) (rows:List (List PV)) (S:List (Option ya)) (hR:U7 rows S) (hS:S.length=f.Ins.length) (hb:f.Ins.length<=1048576) (hL:Yl f):match z9 (λ (j:Int)=>zfH f S j) 0 f.Ins.length with|some j=>∃ st,EV A (.loop (jx 0)) (⟨[(0,.agg f.cells),(1,.fz rows),(2,.ptr 0 0 0 1),(4,.int .i64 0),(11,.int .i64 f.Ins.length),(12,.int .i64 (0))],[],[.cells 9 [f.cells]],[]⟩:St)=some (.ret,st)/\st.per.get 4=.int .i64 j|none=>EV A (.loop (jx 0)) (⟨[(0,.agg f.cells),(1,.fz rows),(2,.ptr 0 0 0 1),(4,.int .i64 0),(11,.int .i64 f.Ins.length),(12,.int .i64 (0))],[],[.cells 9 [f.cells]],[]⟩:St)=some (zp.exit 0,(⟨[(0,.agg f.cells),(1,.fz rows),(2,.ptr 0 0 0 1),(4,.int .i64 0),(11,.int .i64 f.Ins.length),(12,.int .i64 (f.Ins.length))],[],[.cells 9 [f.cells]],[]⟩:St)):=by
 have hrl:rows.length=f.Ins.length:=by rw [hR.len,hS]
 refine yr (λ i=>(⟨[(0,.agg f.cells),(1,.fz rows),(2,.ptr 0 0 0 1),(4,.int .i64 0),(11,.int .i64 f.Ins.length),(12,.int .i64 i)],[],[.cells 9 [f.cells]],[]⟩:St)) (λ (j:Int)=>zfH f S j) (λ (j:Int) (st:St)=>st.per.get 4=.int .i64 j) (zp.exit 0,(⟨[(0,.agg f.cells),(1,.fz rows),(2,.ptr 0 0 0 1),(4,.int .i64 0),(11,.int .i64 f.Ins.length),(12,.int .i64 (f.Ins.length))],[],[.cells 9 [f.cells]],[]⟩:St)) (0) (f.Ins.length) ?_ ?_ ?_ (0) (by omega) (by omega)
 ·intro i hi hn hp
  obtain ⟨row,hr1,hr2⟩:=hR.at_ hi (by omega);obtain ⟨sp,X,e1,h1⟩:=znn (nd:=za f.Ins i) hi (by omega);simp only [Ins.cells] at e1;obtain ⟨r,e2,hq⟩:=zr5 (sv:=.fz rows) hL hb hi (by omega:i<f.Ins.length) h1;simp only [zbN,bl,zc.cells,ups,ze,zj,zm,aB,aA] at e2
  cases hs:za S i with
  |none=>
   rw [hs] at hr2
   have hr2:row=[.bool false,.nils,.nils]:=hr2
   subst hr2
   have hx:=λ H=>zpt (H:=H) (k:=.i64) hi hr1 (by rfl:_=3)
   refine ⟨_,by (simp -implicitDefEqProofs +contextual (disch:=omega) only [WQ,vh,zc.cells,ups,ze,zj,zm, ↓XD,XU, ↓reduceIte,sevalprocAttr,hx,hrl,hn])<;>rfl,by simp [St.next,trim,bare,zn,refs]⟩
  |some s=>
   rw [hs] at hr2
   obtain ⟨p',q',rfl,_,_⟩:=hr2
   have hx:=λ H=>zpt (H:=H) (k:=.i64) hi hr1 (by rfl:_=3)
   simp only [zq] at hx
   have hnr:¬zaK f i:=λ h=>hp ⟨by rw [hs];simp,h⟩
   rcases hq with ⟨p',H',rfl,g0,g1,hq⟩|⟨st,rfl,hg,hq⟩
   ·have ht:H'.take 1=[.cells 9 [f.cells]]:=by
     cases H' with
     |nil=>cases g0
     |cons b H'=>cases g0;rfl
    refine ⟨_,by (simp -implicitDefEqProofs +contextual (disch:=omega) only [WQ,vh,zq,zF,zc.cells,ups,ze,zj,zm, ↓XD,XU, ↓reduceIte,sevalprocAttr,hx,hrl,hn,e1,e2])<;>rfl,by simp [St.next,trim,bare,zn,refs,ht]⟩
   ·exact absurd hq hnr
 ·intro i hi hn hp
  obtain ⟨row,hr1,hr2⟩:=hR.at_ hi (by omega);obtain ⟨sp,X,e1,h1⟩:=znn (nd:=za f.Ins i) hi (by omega);simp only [Ins.cells] at e1;obtain ⟨r,e2,hq⟩:=zr5 (sv:=.fz rows) hL hb hi (by omega:i<f.Ins.length) h1;simp only [zbN,bl,zc.cells,ups,ze,zj,zm,aB,aA] at e2
  obtain ⟨hp1,hp2⟩:=hp
  obtain ⟨s,hs⟩:=bN.1 hp1
  rw [hs] at hr2
  obtain ⟨p',q',rfl,_,_⟩:=hr2
  have hx:=λ H=>zpt (H:=H) (k:=.i64) hi hr1 (by rfl:_=3)
  simp only [zq] at hx
  rcases hq with ⟨p',H',rfl,g0,g1,hq⟩|⟨st,rfl,hg,hq⟩
  ·exact absurd hp2 hq
  ·refine ⟨_,by (simp -implicitDefEqProofs +contextual (disch:=omega) only [WQ,vh,zq,zF,zc.cells,ups,ze,zj,zm, ↓XD,XU, ↓reduceIte,sevalprocAttr,hx,hrl,hn,e1,e2])<;>rfl,hg⟩
 ·rintro i hi rfl
  refine ⟨by simp -implicitDefEqProofs +contextual (disch:=omega) only [WQ,vh, ↓XD,XU, ↓reduceIte,sevalprocAttr,zn,aL],by simp⟩
noncomputable def zpV (f:zc) (S:List (Option ya)):Int:=(z9 (zfH f S) 0 f.Ins.length).getD (-1)
theorem zw0 {f:zc} {rows:List (List PV)} {S:List (Option ya)} (hR:U7 rows S) (hS:S.length=f.Ins.length) (hb:f.Ins.length<=1048576) (hL:Yl f):EP A zhX [.agg f.cells,.fz rows]=some (.int .i64 (zpV f S)):=by
 have e:=zxu f rows S hR hS hb hL
 unfold zpV
 simp only [zc.cells,ups,ze,zj,zm] at e
 cases hk:z9 (zfH f S) 0 f.Ins.length with
 |some j=>
  rw [hk] at e
  obtain ⟨st,e,hg⟩:=e
  simp -implicitDefEqProofs +contextual (disch:=omega) only [zhz,zin,vh,zF,zc.cells,ups,ze,zj,zm, ↓XD,XU, ↓reduceIte,sevalprocAttr,e,hg,cR]
 |none=>
  rw [hk] at e
  simp -implicitDefEqProofs +contextual (disch:=omega) only [zhz,zin,vh,zF,zc.cells,ups,ze,zj,zm, ↓XD,XU, ↓reduceIte,sevalprocAttr,e,Option.getD_none]
abbrev wE (l:List Gd):List (List PV):=l.map Gd.cells
theorem zxg {p:PV} {l:List Gd} (h:xo p l) (H:zd):uu H p=some (wE l)/\xU H 3 p=true:=by
 rcases h with rfl|⟨rfl,rfl⟩
 ·exact ⟨rfl,by simp [xU,gds]⟩
 ·exact ⟨rfl,rfl⟩
theorem zcI {p q:PV} {s:ya} {r:Bool} (t1:xP p s.Types) (t2:xo q s.Guards) (h1:s.Types.length<=1048576) (h2:s.Guards.length<=1048576):ES A Qw [.agg [.bool r,p,q]] []=some (.agg [.bool r,.sl 2 0 s.Types.length s.Types.length,.sl 3 0 s.Guards.length s.Guards.length],[.cells 3 [[.bool r,.sl 2 0 s.Types.length s.Types.length,.sl 3 0 s.Guards.length s.Guards.length]],.cells 3 [[.bool r,.sl 2 0 s.Types.length s.Types.length,.sl 3 0 s.Guards.length s.Guards.length]],.cells 1 (ym s.Types),.cells 3 (wE s.Guards)],[(1,2),(1,3),(0,3),(0,2)]):=by
 have c1:=ut t1
 have c2:=yQ t2
 have k1:=jl t1
 have k2:=xf t2
 have r1:=λ H=>zj0 t1 H
 have r2:=λ H=>zxg t2 H
 have rf1:=yB t1
 have rf2:=yI t2
 have a1:=λ H=>x_ H 1 8 (ym s.Types) (by simp;omega)
 have a2:=λ H=>x_ H 3 24 (wE s.Guards) (by simp;omega)
 simp -implicitDefEqProofs +contextual (disch:=omega) only [zhc,zhd,zf9,zF, ↓zG,zA, ↓XD,XU, ↓reduceIte,sevalprocAttr,c1,c2,k1,k2,rf1,rf2,λ H=>(r1 H).1,λ H=>(r1 H).2,λ H=>(r2 H).1,λ H=>(r2 H).2,a1,a2]
 simp [trim,bare,zn,refs]
def HI (H:zd) (p:PV) (l:List Int):Prop:=(p=.nils/\l=[])\/∃ id,p=.sl id 0 l.length l.length/\H[id]?=some (.cells 1 (ym l))
def HG (H:zd) (p:PV) (l:List Gd):Prop:=(p=.nils/\l=[])\/∃ id,p=.sl id 0 l.length l.length/\H[id]?=some (.cells 3 (wE l))
def Ku (H:zd) (row:List PV) (o:Option ya):Prop:=match o with
 |none=>row=[.bool false,.nils,.nils]
 |some s=>∃ p q,row=zq p q/\HI H p s.Types/\HG H q s.Guards
structure zot (rows:List (List PV)):Prop where
 one:∀ (i:Nat) (r:List PV),rows[i]?=some r->(zn r).Nodup
 two:∀ (i j:Nat) (r s:List PV),i≠j->rows[i]?=some r->rows[j]?=some s->∀ x∈zn r,x∉zn s
theorem HI.frz {H:zd} {p:PV} {l:List Int} (h:HI H p l) (d:Nat):xP (Go.Av.frz (d+2) H p) l:=by
 rcases h with ⟨rfl,rfl⟩|⟨id,rfl,h⟩
 ·exact .inr ⟨rfl,rfl⟩
 ·exact .inl (jD h)
theorem HG.frz {H:zd} {p:PV} {l:List Gd} (h:HG H p l) (d:Nat):xo (Go.Av.frz (d+2) H p) l:=by
 rcases h with ⟨rfl,rfl⟩|⟨id,rfl,h⟩
 ·exact .inr ⟨rfl,rfl⟩
 ·exact .inl (kP h)
theorem HI.leaf {H:zd} {p:PV} {l:List Int} (h:HI H p l):zH p=true/\cellsOf p=[p]/\∀ r∈refs p,r<H.length:=by
 rcases h with ⟨rfl,rfl⟩|⟨id,rfl,h⟩
 ·exact ⟨rfl,rfl,λ r hr=>by cases hr⟩
 ·exact ⟨rfl,rfl,λ r hr=>by simp [refs] at hr;subst hr;exact yJ h⟩
theorem HG.leaf {H:zd} {p:PV} {l:List Gd} (h:HG H p l):zH p=true/\cellsOf p=[p]/\∀ r∈refs p,r<H.length:=by
 rcases h with ⟨rfl,rfl⟩|⟨id,rfl,h⟩
 ·exact ⟨rfl,rfl,λ r hr=>by cases hr⟩
 ·exact ⟨rfl,rfl,λ r hr=>by simp [refs] at hr;subst hr;exact yJ h⟩
theorem HI.keep {H H':zd} {p:PV} {l:List Int} (h:HI H p l) (hk:∀ r∈refs p,H'[r]?=H[r]?):HI H' p l:=by
 rcases h with h|⟨id,rfl,h⟩
 ·exact .inl h
 ·exact .inr ⟨id,rfl,(hk id (by simp [refs])).trans h⟩
theorem HG.keep {H H':zd} {p:PV} {l:List Gd} (h:HG H p l) (hk:∀ r∈refs p,H'[r]?=H[r]?):HG H' p l:=by
 rcases h with h|⟨id,rfl,h⟩
 ·exact .inl h
 ·exact .inr ⟨id,rfl,(hk id (by simp [refs])).trans h⟩
theorem QT (p q:PV):zn (zq p q)=refs p++refs q:=by simp [zq,zn,refs]
theorem Ku.keep {H H':zd} {row:List PV} {o:Option ya} (h:Ku H row o) (hk:∀ r∈zn row,H'[r]?=H[r]?):Ku H' row o:=by
 cases o with
 |none=>exact h
 |some s=>
  obtain ⟨p,q,rfl,hp,hq⟩:=h
  rw [QT] at hk
  exact ⟨p,q,rfl,hp.keep λ r hr=>hk r (bQ _ hr),hq.keep λ r hr=>hk r (cJ _ hr)⟩
theorem Ku.lt {H:zd} {row:List PV} {o:Option ya} (h:Ku H row o):∀ r∈zn row,r<H.length:=by
 cases o with
 |none=>have h:row=_:=h;subst h;intro r hr;cases hr
 |some s=>
  obtain ⟨p,q,rfl,hp,hq⟩:=h
  rw [QT]
  intro r hr
  rcases aX.1 hr with hr|hr
  ·exact hp.leaf.2.2 r hr
  ·exact hq.leaf.2.2 r hr
theorem zot.set {rows:List (List PV)} (h:zot rows) {k n:Nat} {r:List PV} (h1:(zn r).Nodup) (h2:∀ x∈zn r,n<=x) (h3:∀ s∈rows,∀ x∈zn s,x<n):zot (rows.set k r):=by
 refine ⟨λ i s hs=>?_,λ i j s t hij hs ht x hx hy=>?_⟩
 ·rw [List.getElem?_set] at hs
  split at hs
  ·split at hs
   ·cases hs;exact h1
   ·cases hs
  ·exact h.one i s hs
 ·rw [List.getElem?_set] at hs ht
  by_cases e1:k=i
  ·rw [if_pos e1] at hs
   rw [if_neg (by omega)] at ht
   split at hs
   ·cases hs
    have a:=h2 x hx
    have b:=h3 t (aJ ht) x hy
    omega
   ·cases hs
  ·rw [if_neg e1] at hs
   by_cases e2:k=j
   ·rw [if_pos e2] at ht
    split at ht
    ·cases ht
     have a:=h2 x hy
     have b:=h3 s (aJ hs) x hx
     omega
    ·cases ht
   ·rw [if_neg e2] at ht
    exact h.two i j s t hij hs ht x hx hy
structure vy (H:zd) (lo:Nat) (rows:List (List PV)) (S:List (Option ya)):Prop where
 len:rows.length=S.length
 row:∀ (i:Nat) (r:List PV) (o:Option ya),rows[i]?=some r->S[i]?=some o->Ku H r o
 apart:zot rows
 lo:∀ r∈rows,∀ x∈zn r,lo<=x
theorem vy.lt {H:zd} {lo:Nat} {rows:List (List PV)} {S:List (Option ya)} (h:vy H lo rows S):∀ r∈rows,∀ x∈zn r,x<H.length:=λ r hr x hx=>by
 obtain ⟨i,hi,e⟩:=List.mem_iff_getElem.1 hr
 have hi2:i<S.length:=by rw [<-h.len];exact hi
 exact (h.row i r S[i] (by rw [aE hi,e]) (aE hi2)).lt x hx
theorem vy.keep {H H':zd} {lo:Nat} {rows:List (List PV)} {S:List (Option ya)} (h:vy H lo rows S) (hk:∀ r∈rows,∀ x∈zn r,H'[x]?=H[x]?):vy H' lo rows S:=
 ⟨h.len,λ i r o h1 h2=>(h.row i r o h1 h2).keep λ x hx=>hk r (aJ h1) x hx,h.apart,h.lo⟩
theorem vy.at_ {H:zd} {lo:Nat} {rows:List (List PV)} {S:List (Option ya)} (h:vy H lo rows S) {i:Int} (i0:0<=i) (i1:i<S.length):∃ r,rows[i.toNat]?=some r/\Ku H r (za S i):=by
 have hl:=h.len
 have h1:rows[i.toNat]?=some (rows[i.toNat]'(by omega)):=aE (by omega)
 exact ⟨_,h1,h.row _ _ _ h1 (xX i0 i1)⟩
theorem vy.set {H:zd} {lo n:Nat} {rows:List (List PV)} {S:List (Option ya)} (h:vy H lo rows S) (k:Nat) {r:List PV} {o:Option ya} (hr:Ku H r o) (h1:(zn r).Nodup) (h2:∀ x∈zn r,n<=x) (h3:∀ s∈rows,∀ x∈zn s,x<n) (hn:lo<=n):vy H lo (rows.set k r) (S.set k o):=by
 refine ⟨by simpa using h.len,λ i r' o' k1 k2=>?_,h.apart.set h1 h2 h3,λ s hs x hx=>?_⟩
 ·rw [List.getElem?_set] at k1 k2
  by_cases e:k=i
  ·rw [if_pos e] at k1 k2
   split at k1
   ·split at k2
    ·cases k1;cases k2;exact hr
    ·cases k2
   ·cases k1
  ·rw [if_neg e] at k1 k2
   exact h.row i r' o' k1 k2
 ·rcases dC hs with hs|rfl
  ·exact h.lo s hs x hx
  ·have:=h2 x hx;omega
theorem vy.frz {H:zd} {lo:Nat} {rows:List (List PV)} {S:List (Option ya)} (h:vy H lo rows S) (d:Nat):U7 (rows.map (·.map (Go.Av.frz (d+3) H))) S:=by
 refine ⟨by rw [cF];exact h.len,λ i r o h1 h2=>?_⟩
 rw [aN] at h1
 cases hr:rows[i]? with
 |none=>rw [hr] at h1;cases h1
 |some r0=>
  rw [hr] at h1
  cases h1
  have:=h.row i r0 o hr h2
  cases o with
  |none=>
   have this:r0=[.bool false,.nils,.nils]:=this
   subst this;rfl
  |some s=>
   obtain ⟨p,q,rfl,hp,hq⟩:=this
   exact ⟨_,_,rfl,hp.frz _,hq.frz _⟩
def zmg (k:Nat) (H G:zd):Prop:=∀ id,id<H.length->G[k+id]?=(H[id]?).map (zX k)
theorem HI.lend {H G:zd} {k:Nat} (hG:zmg k H G) {p:PV} {l:List Int} (h:HI H p l):HI G (zC k p) l:=by
 rcases h with ⟨rfl,rfl⟩|⟨id,rfl,h⟩
 ·exact .inl ⟨rfl,rfl⟩
 ·refine .inr ⟨k+id,by rw [zC],?_⟩
  rw [hG id (yJ h),h]
  simp only [cA,zX,Wv]
theorem HG.lend {H G:zd} {k:Nat} (hG:zmg k H G) {p:PV} {l:List Gd} (h:HG H p l):HG G (zC k p) l:=by
 rcases h with ⟨rfl,rfl⟩|⟨id,rfl,h⟩
 ·exact .inl ⟨rfl,rfl⟩
 ·refine .inr ⟨k+id,by rw [zC],?_⟩
  rw [hG id (yJ h),h]
  simp only [cA,zX,wE,Zb]
theorem HI.refs_lend {H:zd} {k:Nat} {p:PV} {l:List Int} (h:HI H p l):refs (zC k p)=(refs p).map (k + ·):=by
 rcases h with ⟨rfl,rfl⟩|⟨id,rfl,h⟩
 ·rfl
 ·simp [zC,refs]
theorem HG.refs_lend {H:zd} {k:Nat} {p:PV} {l:List Gd} (h:HG H p l):refs (zC k p)=(refs p).map (k + ·):=by
 rcases h with ⟨rfl,rfl⟩|⟨id,rfl,h⟩
 ·rfl
 ·simp [zC,refs]
theorem Ku.lend {H G:zd} {k:Nat} (hG:zmg k H G) {row:List PV} {o:Option ya} (h:Ku H row o):Ku G (yR k row) o/\zn (yR k row)=(zn row).map (k + ·):=by
 cases o with
 |none=>have h:row=_:=h;subst h;exact ⟨rfl,rfl⟩
 |some s=>
  obtain ⟨p,q,rfl,hp,hq⟩:=h
  have e:yR k (zq p q)=zq (zC k p) (zC k q):=by simp [zq,yR,zC]
  rw [e,QT,QT,hp.refs_lend,hq.refs_lend,dU]
  exact ⟨⟨_,_,rfl,hp.lend hG,hq.lend hG⟩,rfl⟩
theorem zgM {k:Nat}:∀ {l:List Nat},l.Nodup->(l.map (k + ·)).Nodup
 |[],_=>by simp
 |x::l,h=>by
  rw [List.nodup_cons] at h
  rw [aM,List.nodup_cons]
  refine ⟨λ hm=>?_,zgM h.2⟩
  obtain ⟨y,hy,e⟩:=bU.1 hm
  have:y=x:=by omega
  subst this;exact h.1 hy
theorem vy.lend {H G:zd} {k lo:Nat} (hG:zmg k H G) {rows:List (List PV)} {S:List (Option ya)} (h:vy H lo rows S):vy G (k+lo) (rows.map (yR k)) S:=by
 have hr:∀ (i:Nat) (r:List PV),rows[i]?=some r->∃ o,S[i]?=some o/\Ku H r o:=λ i r hi=>by
  have hl:=h.len
  have hlt:=(aF.1 hi).1
  exact ⟨_,aE (by omega),h.row i r _ hi (aE (by omega))⟩
 have hx:∀ (i:Nat) (r':List PV),(rows.map (yR k))[i]?=some r'->∃ r,rows[i]?=some r/\r'=yR k r/\zn r'=(zn r).map (k + ·):=λ i r' hi=>by
  rw [aN] at hi
  cases hk:rows[i]? with
  |none=>rw [hk] at hi;cases hi
  |some r=>
   rw [hk] at hi
   cases hi
   obtain ⟨o,_,ho⟩:=hr i r hk
   exact ⟨r,rfl,rfl,(ho.lend hG).2⟩
 refine ⟨by simpa using h.len,λ i r' o h1 h2=>?_,⟨λ i r' h1=>?_,λ i j r' s' hij h1 h2 x hxr hxs=>?_⟩,λ r' hr' x hxr=>?_⟩
 ·obtain ⟨r,k1,rfl,_⟩:=hx i r' h1
  exact ((h.row i r o k1 h2).lend hG).1
 ·obtain ⟨r,k1,rfl,k2⟩:=hx i r' h1
  rw [k2];exact zgM (h.apart.one i r k1)
 ·obtain ⟨r,k1,rfl,k2⟩:=hx i r' h1
  obtain ⟨s,k3,rfl,k4⟩:=hx j s' h2
  rw [k2] at hxr
  rw [k4] at hxs
  obtain ⟨y,y1,rfl⟩:=bU.1 hxr
  obtain ⟨z,z1,e⟩:=bU.1 hxs
  have:z=y:=by omega
  subst this
  exact h.apart.two i j r s hij k1 k3 _ y1 z1
 ·obtain ⟨i,hi⟩:=cX hr'
  obtain ⟨r,k1,rfl,k2⟩:=hx i r' hi
  rw [k2] at hxr
  obtain ⟨y,y1,rfl⟩:=bU.1 hxr
  have:=h.lo r (aJ k1) y y1
  omega
theorem K3 {a b:Nat} (h:¬a=b):Nat.beq a b=false:=by
 cases hb:Nat.beq a b
 ·rfl
 ·exact absurd (aT hb) h
theorem zCl (a:Nat):Nat.beq a a=true:=by simp
theorem get_put (n m:Nat) (v:PV):∀ e:zk,zk.get (zk.put e n v) m=if n=m then v else zk.get e m
 |[]=>by
  show (match Nat.beq n m with|true=>v|false=>zk.get [] m)=_
  by_cases h:n=m
  ·subst h;simp
  ·have:Nat.beq n m=false:=K3 h
   rw [this,if_neg h]
 |(k,x)::e=>by
  rw [zk.put]
  by_cases h:k=n
  ·subst h
   have:Nat.beq k k=true:=by simp
   rw [this]
   by_cases h2:k=m
   ·subst h2;rw [if_pos rfl,zk.get,this]
   ·have h3:Nat.beq k m=false:=K3 h2
    rw [if_neg h2,zk.get,h3,zk.get,h3]
  ·have:Nat.beq k n=false:=K3 h
   rw [this]
   simp only [zk.get]
   rw [get_put n m v e]
   by_cases h2:k=m
   ·subst h2
    have h3:Nat.beq k k=true:=by simp
    simp only [h3];rw [if_neg (λ e=>h e.symm)]
   ·have h3:Nat.beq k m=false:=K3 h2
    simp only [h3]
theorem get_erase (n m:Nat) (h:¬n=m):∀ e:zk,zk.get (zk.erase e n) m=zk.get e m
 |[]=>rfl
 |(k,x)::e=>by
  rw [zk.erase]
  by_cases h1:k=n
  ·subst h1
   have h2:Nat.beq k k=true:=by simp
   have h3:Nat.beq k m=false:=K3 h
   rw [h2,zk.get,h3]
   exact get_erase k m h e
  ·have h2:Nat.beq k n=false:=K3 h1
   rw [h2]
   simp only [zk.get]
   rw [get_erase n m h e]
theorem zrV (g:PV->PV) (hg:g .unk=.unk) (n:Nat):∀ e:zk,zk.get (e.map λ p=>(p.1,g p.2)) n=g (zk.get e n)
 |[]=>hg.symm
 |(k,x)::e=>by
  rw [aM,zk.get,zk.get]
  cases Nat.beq k n
  ·exact zrV g hg n e
  ·rfl
def VP:List Nat:=[186,187,188,23,24,189,190,191,192,193,194,195,8,9]
theorem zxK (per:zk) (q w:Int) (ts:List Int) (gz:PV) (q0:0<=q) (q1:q<ts.length) (h11:per.get 11=.fp [.bool true,yt ts,gz] 0):
  (za ts q=w->∃ s,EV A (z8 3) ⟨per.put 186 (.tup [.int .i64 q,.int .i64 w]),[],[],[]⟩=some (.normal,s)/\∀ d,d=8\/d=9->s.per.get d=per.get d)/\
  (¬za ts q=w->∃ s,EV A (z8 3) ⟨per.put 186 (.tup [.int .i64 q,.int .i64 w]),[],[],[]⟩=some (.ret,s)/\s.per.get 8=.int .i64 10/\s.per.get 9=.nils):=by
 have hx:=λ H=>wP (.inl rfl:xP (yt ts) ts) H .i64 q q0 q1
 refine ⟨λ h=>?_,λ h=>?_⟩
 ·refine ⟨_,by (simp -implicitDefEqProofs +contextual (disch:=omega) only [ze',zh,get_put,get_erase, ↓XD,XU, ↓reduceIte,sevalprocAttr,h11,hx,h])<;>rfl,?_⟩
  rintro d (rfl|rfl)<;>simp [get_put,get_erase]
 ·refine ⟨_,by (simp -implicitDefEqProofs +contextual (disch:=omega) only [ze',zh,get_put,get_erase, ↓XD,XU, ↓reduceIte,sevalprocAttr,h11,hx,h])<;>rfl,?_,?_⟩
  ·simp [get_put,get_erase]
  ·simp [get_put,get_erase]
def zeZ (st:St):St:={ st with per:=st.per.map λ p=>(p.1,if p.1=8 then .int .i64 10 else if p.1=9 then .nils else p.2),reg:=[] }
theorem zk0 {st:St} {id:Nat} {es:List (Int×Int)} {ts:List Int} {gz:PV} (h182:st.per.get 182=.mp id) (hm:st.H[id]?=some (.map (es.map λ e=>(.int .i64 e.1,.int .i64 e.2)))) (h8:st.per.get 8=.int .i64 0) (h9:st.per.get 9=.nils)
  (hW:∀ p∈st.per,p.1∈VP->p.1=8\/p.1=9) (hu:∀ d∈VP,d=8\/d=9\/st.per.get d=.unk) (h11:frz 8 st.H (st.per.get 11)=.fp [.bool true,yt ts,gz] 0) (hes:∀ e∈es,0<=e.1/\e.1<ts.length):
  ((∀ e∈es,za ts e.1=e.2)->EV A (.mrange (.per 182) VP 186 (z8 3)) st=some (.normal,{ st with reg:=[] }))/\
  ((¬∀ e∈es,za ts e.1=e.2)->EV A (.mrange (.per 182) VP 186 (z8 3)) st=some (.ret,zeZ st)):=by
 have hown:K5 st.H ((zy.per 182).get A.glob st)=some (es.map λ e=>(.int .i64 e.1,.int .i64 e.2)):=by
  show K5 st.H (st.per.get 182)=_
  rw [h182];simp only [K5,hm]
 have hfz:∀ n,zk.get (st.per.map λ p=>(p.1,frz 8 st.H p.2)) n=frz 8 st.H (st.per.get n):=λ n=>zrV (frz 8 st.H) rfl n _
 have one:∀ e∈es,(za ts e.1=e.2->Zi VP st (EV A (z8 3) (vc 186 st (.int .i64 e.1,.int .i64 e.2))))/\(¬za ts e.1=e.2->Go.Av.zah VP st (zp.ret,zeZ st) (EV A (z8 3) (vc 186 st (.int .i64 e.1,.int .i64 e.2)))):=λ e he=>by
  obtain ⟨q0,q1⟩:=hes e he
  obtain ⟨k1,k2⟩:=zxK (st.per.map λ p=>(p.1,frz 8 st.H p.2)) e.1 e.2 ts gz q0 q1 (by rw [hfz];exact h11)
  have hst:vc 186 st (.int .i64 e.1,.int .i64 e.2)=⟨zk.put (st.per.map λ p=>(p.1,frz 8 st.H p.2)) 186 (.tup [.int .i64 e.1,.int .i64 e.2]),[],[],[]⟩:=rfl
  rw [hst]
  refine ⟨λ h=>?_,λ h=>?_⟩
  ·obtain ⟨s,e1,e2⟩:=k1 h
   rw [e1]
   intro d hd
   rcases hu d hd with rfl|rfl|h
   ·right;rw [h8];exact ⟨rfl,by rw [e2 8 (.inl rfl),hfz,h8];rfl⟩
   ·right;rw [h9];exact ⟨rfl,by rw [e2 9 (.inr rfl),hfz,h9];rfl⟩
   ·exact .inl h
  ·obtain ⟨s,e1,e2,e3⟩:=k2 h
   rw [e1]
   show (zp.ret,zeZ st)=(.ret,zey VP st s)
   congr 1
   unfold zeZ zey
   congr 1
   refine bM λ p hp=>?_
   congr 1
   unfold Ki
   by_cases p8:p.1=8
   ·rw [if_pos p8,p8,e2];rfl
   ·by_cases p9:p.1=9
    ·rw [if_neg p8,if_pos p9,p9,e3];rfl
    ·rw [if_neg p8,if_neg p9]
     have hn:VP.any (Nat.beq p.1)=false:=by
      cases ha:VP.any (Nat.beq p.1) with
      |false=>rfl
      |true=>
       obtain ⟨d,hd,hb⟩:=List.any_eq_true.1 ha
       have hb:=aT hb
       rcases hW p hp (hb▸hd) with h|h
       ·exact absurd h p8
       ·exact absurd h p9
     rw [hn]
 rw [zt1,hown]
 refine ⟨λ h=>?_,λ h=>?_⟩
 ·refine zpN λ r hr=>?_
  rw [cZ] at hr
  obtain ⟨e,he,rfl⟩:=bU.1 hr
  exact (one e he).1 (h e he)
 ·obtain ⟨e0,he0,hne⟩:∃ e∈es,¬za ts e.1=e.2:=cD λ hc=>h λ e he=>cD λ h2=>hc ⟨e,he,h2⟩
  refine zpO (r0:=EV A (z8 3) (vc 186 st (.int .i64 e0.1,.int .i64 e0.2))) ?_ ((one e0 he0).2 hne) λ r hr=>?_
  ·rw [cZ];exact bU.2 ⟨e0,he0,rfl⟩
  ·rw [cZ] at hr
   obtain ⟨e,he,rfl⟩:=bU.1 hr
   by_cases c:za ts e.1=e.2
   ·exact .inl ((one e he).1 c)
   ·exact .inr ((one e he).2 c)
theorem wg {P:xn} (st:St):zt P.glob (CL P) st .mkmap=some (.mp st.H.length,st.H++[.map []],[]):=rfl
def zs_ (tag:Nat) (H:zd):PV->PV->PV->Option (PV×zd×zI)
 |.mp id,k,v=>match H[id]? with
   |some (.map es)=>match findKey tag k es with
    |some none=>some (.und,H.set id (.map (es++[(k,v)])),wG id [k,v])
    |_=>none
   |_=>none
 |_,_,_=>none
theorem xW {P:xn} (tag:Nat) (m k v:zy) (st:St):zt P.glob (CL P) st (.insert tag m k v)=zs_ tag st.H (m.get P.glob st) (k.get P.glob st) (v.get P.glob st):=by
 show (match m.get P.glob st with
  |.mp id=>match st.H[id]? with
   |some (.map es)=>match findKey tag (k.get P.glob st) es with
    |some none=>some (PV.und,st.H.set id (.map (es++[(k.get P.glob st,v.get P.glob st)])),wG id [k.get P.glob st,v.get P.glob st])
    |_=>none
   |_=>none
  |_=>none)=_
 cases m.get P.glob st<;>rfl
theorem zxb {H:zd} {id:Nat} {es:List (PV×PV)} {q w:Int} (h:H[id]?=some (.map es)) (hf:findKey 0 (.int .i64 q) es=some none):zs_ 0 H (.mp id) (.int .i64 q) (.int .i64 w)=some (.und,H.set id (.map (es++[(.int .i64 q,.int .i64 w)])),[]):=by
 simp [zs_,h,hf,wG,zn,refs]
theorem vg (z:PV) (H:zd) (o:Int):zcQ 0 z false H (.fm (yN.map λ e=>(.int .i64 e.1,zN e.2))) (.int .i64 o)=some (match zE o with|some r=>zN r|none=>z):=by
 simp only [zcQ,Xt,Q4]
 rw [<-zE]
 cases zE o<;>rfl
structure w_ (ps:List zc) (f:zc) (nd:Ins) (p q:PV) (gs:List Gd) (H:zd) (ts:List Int) (tkp:PV) (tk:List Int):Prop where
 c0:H[0]?=some (.cells 1 [[zb ps]])
 c1:H[1]?=some (.cells 9 [f.cells])
 c2:H[2]?=some (.cells 3 [zq p q])
 c3:H[3]?=some (.cells 5 [nd.cells])
 c6:H[6]?=some (.cells 1 (ym ts))
 c7:H[7]?=some (.cells 3 (wE gs))
 c8:H[8]?=some (.cells 3 [[.bool true,.sl 6 0 ts.length ts.length,.sl 7 0 gs.length gs.length]])
 tk:vt H tkp tk
 far:∀ r∈refs tkp,9<=r
theorem w_.keep {ps:List zc} {f:zc} {nd:Ins} {p q:PV} {gs:List Gd} {H H':zd} {ts:List Int} {tkp:PV} {tk:List Int} (h:w_ ps f nd p q gs H ts tkp tk) (h1:∀ j,j<9->H'[j]?=H[j]?) (h2:∀ r∈refs tkp,H'[r]?=H[r]?):w_ ps f nd p q gs H' ts tkp tk:=
 ⟨(h1 0 (by omega)).trans h.c0,(h1 1 (by omega)).trans h.c1,(h1 2 (by omega)).trans h.c2,(h1 3 (by omega)).trans h.c3,(h1 6 (by omega)).trans h.c6,(h1 7 (by omega)).trans h.c7,(h1 8 (by omega)).trans h.c8,h.tk.keep h2,h.far⟩
theorem w_.trim {ps:List zc} {f:zc} {nd:Ins} {p q:PV} {gs:List Gd} {H:zd} {ts:List Int} {tkp:PV} {tk:List Int} (h:w_ ps f nd p q gs H ts tkp tk) {k:Nat} (hk:9<=k) {roots:List PV} (hr:tkp∈roots) (ed:zI):w_ ps f nd p q gs (trim k roots H ed).1 ts tkp tk:=
 h.keep (λ j hj=>uJ _ _ _ _ (.inl (by omega))) (λ r hr2=>uJ _ _ _ _ (.inr (Q9 hr hr2)))
theorem w_.app {ps:List zc} {f:zc} {nd:Ins} {p q:PV} {gs:List Gd} {H:zd} {ts:List Int} {tkp:PV} {tk:List Int} (h:w_ ps f nd p q gs H ts tkp tk) (X:zd):w_ ps f nd p q gs (H++X) ts tkp tk:=
 h.keep (λ j hj=>aD (by have:=yJ h.c8;omega)) (λ r hr=>aD (h.tk.lt r hr))
abbrev ed0:zI:=[(5,6),(5,7),(4,7),(4,6)]
theorem kq (k:Nat) (hk:9<=k) (roots:List PV) (H:zd):(trim k roots H ed0).2=ed0:=by
 rw [trim]
 have hf:ed0.filter (λ e=>decide (e.2<k))=ed0:=dX.2 (by intro e he;simp at he;rcases he with rfl|rfl|rfl|rfl<;>simp<;>omega)
 rw [hf]
 cases bare k (zn roots)&&ed0.all λ e=>decide (k<=e.1)||decide (e.2<k)<;>rfl
abbrev z7 (ps:List zc) (f:zc) (a:Int) (p q tkp:PV):zk:=[(0,code ps),(1,.agg f.cells),(2,.int .i64 a),(3,.agg (zq p q)),(4,.ptr 0 0 0 1),(5,.ptr 1 0 0 1),(7,.ptr 2 0 0 1),(8,.int .i64 0),(9,.nils),(10,.ptr 3 0 0 1),(11,.ptr 8 0 0 1),(12,tkp)]
theorem wd {l:List Int} {k:Int} (k0:0<=k) (k1:k<l.length):yp false 1 (List.drop (k.toNat*1) (l.map λ x=>PV.int .i64 x))=some (.int .i64 (za l k)):=by
 rw [Nat.mul_one, <-List.map_drop,dO (by omega:k.toNat<l.length)]
 have:=xX k0 k1
 rw [aE (by omega)] at this
 injection this with this
 rw [this];rfl
theorem zpC (ps:List zc) (f:zc) (a:Int) (p q tkp:PV) (nd:Ins) (rl:List Int) (hrl:rl.length=4) (k r x w y:Int) (M:Nat) (K:zd) (k3:k<4) (c3:K[3]?=some (.cells 5 [nd.cells])) (hK:9<=K.length):match z9 (λ (j:Int)=>j<k/\uH (za rl j)/\za [nd.A,nd.B,nd.C,nd.D] j=y) 0 4 with|some j=>∃ st,EV A (.loop (z8 1)) (⟨z7 ps f a p q tkp++[(51,zN rl),(52,.int .i64 k),(13,.int .i64 k),(14,.int .i64 r),(15,.int .i64 x),(16,.mp M),(61,.int .i64 r),(62,.bool true),(17,.int .i64 w),(18,.int .i64 y),(84,zN rl),(85,.int .i64 (0))],[],K,ed0⟩:St)=some (.ret,st)/\st.per.get 8=.int .i64 10/\st.per.get 9=.nils|none=>EV A (.loop (z8 1)) (⟨z7 ps f a p q tkp++[(51,zN rl),(52,.int .i64 k),(13,.int .i64 k),(14,.int .i64 r),(15,.int .i64 x),(16,.mp M),(61,.int .i64 r),(62,.bool true),(17,.int .i64 w),(18,.int .i64 y),(84,zN rl),(85,.int .i64 (0))],[],K,ed0⟩:St)=some (zp.exit 3,(⟨z7 ps f a p q tkp++[(51,zN rl),(52,.int .i64 k),(13,.int .i64 k),(14,.int .i64 r),(15,.int .i64 x),(16,.mp M),(61,.int .i64 r),(62,.bool true),(17,.int .i64 w),(18,.int .i64 y),(84,zN rl),(85,.int .i64 (4))],[],K,ed0⟩:St)):=by
 refine yr (λ i=>(⟨z7 ps f a p q tkp++[(51,zN rl),(52,.int .i64 k),(13,.int .i64 k),(14,.int .i64 r),(15,.int .i64 x),(16,.mp M),(61,.int .i64 r),(62,.bool true),(17,.int .i64 w),(18,.int .i64 y),(84,zN rl),(85,.int .i64 i)],[],K,ed0⟩:St)) (λ (j:Int)=>j<k/\uH (za rl j)/\za [nd.A,nd.B,nd.C,nd.D] j=y) (λ (j:Int) (st:St)=>st.per.get 8=.int .i64 10/\st.per.get 9=.nils) (zp.exit 3,(⟨z7 ps f a p q tkp++[(51,zN rl),(52,.int .i64 k),(13,.int .i64 k),(14,.int .i64 r),(15,.int .i64 x),(16,.mp M),(61,.int .i64 r),(62,.bool true),(17,.int .i64 w),(18,.int .i64 y),(84,zN rl),(85,.int .i64 (4))],[],K,ed0⟩:St)) (0) (4) ?_ ?_ ?_ (0) (by omega) (by omega)
 ·intro i hi hn hp
  have t1:=wd hi (by omega:i<rl.length);have t2:=wd (l:=[nd.A,nd.B,nd.C,nd.D]) hi (by simpa using hn);have hF:=v9 nd;simp only [Ins.cells,zN,aM,bA] at t1 t2 hF c3;have htr:=λ roots=>kg (H:=K) (ed:=ed0) (by intro e he;simp at he;rcases he with rfl|rfl|rfl|rfl<;>simp<;>omega) roots
  by_cases g1:i<k
  ·by_cases g2:uH (za rl i)
   ·have g3:¬za [nd.A,nd.B,nd.C,nd.D] i=y:=λ h=>hp ⟨g1,g2,h⟩
    rcases g2 with e|e|e<;>refine ⟨_,by (simp -implicitDefEqProofs +contextual (disch:=omega) only [Xp,zh,z7,aB,aA,zN,Ins.cells, ↓XD,XU, ↓reduceIte,sevalprocAttr,hn,hi,t1,t2,hF,c3,g1,e,eq_false g3])<;>rfl,?_⟩<;>simp [St.next,htr]
   ·have e4:¬za rl i=4:=λ e=>g2 (.inl e)
    have e5:¬za rl i=5:=λ e=>g2 (.inr (.inl e))
    have e6:¬za rl i=6:=λ e=>g2 (.inr (.inr e))
    refine ⟨_,by (simp -implicitDefEqProofs +contextual (disch:=omega) only [Xp,zh,z7,aB,aA,zN,Ins.cells, ↓XD,XU, ↓reduceIte,sevalprocAttr,hn,hi,t1,t2,hF,c3,g1,e4,e5,e6])<;>rfl,by simp [St.next,htr]⟩
  ·refine ⟨_,by (simp -implicitDefEqProofs +contextual (disch:=omega) only [Xp,zh,z7,aB,aA,zN,Ins.cells, ↓XD,XU, ↓reduceIte,sevalprocAttr,hn,hi,t1,t2,hF,c3,g1])<;>rfl,by simp [St.next,htr]⟩
 ·intro i hi hn hp
  have t1:=wd hi (by omega:i<rl.length);have t2:=wd (l:=[nd.A,nd.B,nd.C,nd.D]) hi (by simpa using hn);have hF:=v9 nd;simp only [Ins.cells,zN,aM,bA] at t1 t2 hF c3;have htr:=λ roots=>kg (H:=K) (ed:=ed0) (by intro e he;simp at he;rcases he with rfl|rfl|rfl|rfl<;>simp<;>omega) roots
  obtain ⟨g1,g2,g3⟩:=hp
  rcases g2 with e|e|e<;>refine ⟨_,by (simp -implicitDefEqProofs +contextual (disch:=omega) only [Xp,zh,z7,aB,aA,zN,Ins.cells, ↓XD,XU, ↓reduceIte,sevalprocAttr,hn,hi,t1,t2,hF,c3,g1,e,eq_true g3])<;>rfl,by simp [zk.get,zk.put],by simp [zk.get,zk.put]⟩
 ·rintro i hi rfl
  refine ⟨by simp -implicitDefEqProofs +contextual (disch:=omega) only [Xp,zh, ↓XD,XU, ↓reduceIte,sevalprocAttr,z7,aL],by simp⟩
section
theorem zkO (d:Nat):∀ e:zk,(∀ p∈e,¬p.1=d)->zk.get e d=.unk
 |[],_=>rfl
 |(k,x)::e,h=>by
  rw [zk.get,K3 (h (k,x) (by simp))]
  exact zkO d e λ p hp=>h p (bL _ hp)
def zkT (e:zk):Bool:=e.all λ p=> !(VP.any (Nat.beq p.1))||Nat.beq p.1 8||Nat.beq p.1 9
theorem zj2 {e:zk} (h:zkT e=true):∀ p∈e,p.1∈VP->p.1=8\/p.1=9:=λ p hp hm=>by
 have:=aZ.1 h p hp
 have ha:VP.any (Nat.beq p.1)=true:=List.any_eq_true.2 ⟨p.1,hm,zCl _⟩
 rw [ha] at this
 simp at this
 exact this
theorem zpz {e:zk} (h:zkT e=true):∀ d∈VP,d=8\/d=9\/zk.get e d=.unk:=λ d hd=>by
 by_cases h8:d=8
 ·exact .inl h8
 by_cases h9:d=9
 ·exact .inr (.inl h9)
 ·refine .inr (.inr (zkO d e λ p hp e2=>?_))
  rcases zj2 h p hp (e2▸hd) with h|h
  ·exact h8 (e2▸h)
  ·exact h9 (e2▸h)
section
variable {per:zk} {H:zd} {ed:zI} {id:Nat} {es:List (Int×Int)} {ts:List Int} {gz:PV}
theorem uW (hm:H[id]?=some (.map (es.map λ e=>(.int .i64 e.1,.int .i64 e.2)))) (h11:frz 8 H (.ptr 8 0 0 1)=.fp [.bool true,yt ts,gz] 0) (hes:∀ e∈es,0<=e.1/\e.1<ts.length) (hall:∀ e∈es,za ts e.1=e.2)
  (g182:per.get 182=.mp id) (g8:per.get 8=.int .i64 0) (g9:per.get 9=.nils) (g11:per.get 11=.ptr 8 0 0 1) (gk:zkT per=true):
  EV A (.mrange (.per 182) [186,187,188,23,24,189,190,191,192,193,194,195,8,9] 186 (z8 3)) ⟨per,[],H,ed⟩=some (.normal,⟨per,[],H,ed⟩):=
 (zk0 (st:=⟨per,[],H,ed⟩) g182 hm g8 g9 (zj2 gk) (zpz gk) (by rw [g11];exact h11) hes).1 hall
theorem kQ (hm:H[id]?=some (.map (es.map λ e=>(.int .i64 e.1,.int .i64 e.2)))) (h11:frz 8 H (.ptr 8 0 0 1)=.fp [.bool true,yt ts,gz] 0) (hes:∀ e∈es,0<=e.1/\e.1<ts.length) (hall:¬∀ e∈es,za ts e.1=e.2)
  (g182:per.get 182=.mp id) (g8:per.get 8=.int .i64 0) (g9:per.get 9=.nils) (g11:per.get 11=.ptr 8 0 0 1) (gk:zkT per=true):
  EV A (.mrange (.per 182) [186,187,188,23,24,189,190,191,192,193,194,195,8,9] 186 (z8 3)) ⟨per,[],H,ed⟩=some (.ret,zeZ ⟨per,[],H,ed⟩):=
 (zk0 (st:=⟨per,[],H,ed⟩) g182 hm g8 g9 (zj2 gk) (zpz gk) (by rw [g11];exact h11) hes).2 hall
end
noncomputable def zpx (ps:List zc) (rs fs:List Int):Nat->Int->List Int×List Int->Option (List Int×List Int)
 |0,_,a=>some a
 |m+1,k,a=>(uk ps rs fs k a).bind (zpx ps rs fs m (k+1))
theorem zxd {ps:List zc} {rs:List Int} {nd:Ins} {ts:List Int}:Z_ ps rs nd ts=zpx ps rs [nd.A,nd.B,nd.C,nd.D] 4 0 (ts,[]):=by
 rw [zjc]
 simp only [zpx,show (0:Int)+1=1 from rfl,show (1:Int)+1=2 from rfl,show (2:Int)+1=3 from rfl]
 congr 1;funext a;congr 1;funext b;congr 1;funext c
 cases uk ps rs [nd.A,nd.B,nd.C,nd.D] 3 c<;>rfl
section
variable {ps:List zc} {f:zc} {nd:Ins} {p q:PV} {gs:List Gd} {H:zd} {ts:List Int} {tkp:PV} {tk:List Int} {a:Int} {rl:List Int}
theorem w_.frz_o (h:w_ ps f nd p q gs H ts tkp tk):frz 8 H (.ptr 8 0 0 1)=.fp [.bool true,yt ts,gds gs] 0:=by
 have e1:=jD (d:=5) h.c6
 have e2:=kP (d:=5) h.c7
 show (match H[8]? with
   |some (.cells _ rows)=>match 1==rows.length,rows[0]? with
    |true,some cs=>PV.fp (cs.map (frz 7 H)) 0
    |_,_=>.unk
   |_=>.unk)=_
 rw [h.c8]
 show PV.fp [.bool true,frz 7 H (.sl 6 0 ts.length ts.length),frz 7 H (.sl 7 0 gs.length gs.length)] 0=_
 rw [e1,e2]
theorem w_.take (h:w_ ps f nd p q gs H ts tkp tk) (y:Int) (hb:tk.length<=1000) (es:List (PV×PV)):∃ p' H',xe ((H++[zZ.map es]).set 6 (.cells 1 (ym (ts.set y.toNat 0)))++[.cells 1 [[.int .i64 y]]]) 1 8 tkp [[.int .i64 y]]=some (p',H',[])/\w_ ps f nd p q gs H' (ts.set y.toNat 0) p' (tk++[y])/\H'[H.length]?=some (zZ.map es)/\H.length<H'.length:=by
 have hH:=yJ h.c8
 have hset:∀ j,j≠6->((H++[zZ.map es]).set 6 (.cells 1 (ym (ts.set y.toNat 0))))[j]?=(H++[zZ.map es])[j]?:=λ j hj=>aH (Ne.symm hj)
 have happ:=h.app [.map es]
 have htk:vt ((H++[zZ.map es]).set 6 (.cells 1 (ym (ts.set y.toNat 0)))) tkp tk:=happ.tk.keep λ r hr=>hset r (by have:=h.far r hr;omega)
 obtain ⟨p',H',e1,e2,e3,e4,e5⟩:=htk.push (by omega) y
 simp only [bI,aQ,bK] at e3 e4 e5
 have nf:∀ j,j<9->j∉refs tkp:=λ j hj hr=>by have:=h.far j hr;omega
 have old:∀ j,j<9->j≠6->H'[j]?=H[j]?:=λ j hj h6=>by
  rw [e4 j (by omega) (nf j hj),hset j h6,aD (by omega)]
 have nl:H.length∉refs tkp:=λ hr=>by have:=h.tk.lt _ hr;omega
 refine ⟨p',H',e1,⟨(old 0 (by omega) (by omega)).trans h.c0,(old 1 (by omega) (by omega)).trans h.c1,(old 2 (by omega) (by omega)).trans h.c2,(old 3 (by omega) (by omega)).trans h.c3,?_,(old 7 (by omega) (by omega)).trans h.c7,?_,e2,λ r hr=>?_⟩,?_,by omega⟩
 ·rw [e4 6 (by omega) (nf 6 (by omega)),aK (by simp;omega)]
 ·rw [old 8 (by omega) (by omega),h.c8,bI]
 ·rcases e5 r hr with h1|h1
  ·exact h.far r h1
  ·omega
 ·rw [e4 H.length (by omega) nl,hset _ (by omega),xp];rfl
def zyT (ps:List zc) (f:zc) (a:Int) (nd:Ins) (p q:PV) (gs:List Gd) (rl:List Int) (res:Option (List Int×List Int)) (r:zp×St):Prop:=match res with
 |none=>∃ st,r=(.ret,st)/\st.per.get 8=.int .i64 10/\st.per.get 9=.nils
 |some (ts,tk)=>∃ tkp H,r=(.exit 0,(⟨z7 ps f a p q tkp++[(51,zN rl),(52,.int .i64 4)],[],H,ed0⟩:St))/\w_ ps f nd p q gs H ts tkp tk
theorem UX {H:zd} {es:List (PV×PV)} {q w:Int} (hf:findKey 0 (.int .i64 q) es=some none):zs_ 0 (H++[zZ.map es]) (.mp H.length) (.int .i64 q) (.int .i64 w)=some (.und,H++[.map (es++[(.int .i64 q,.int .i64 w)])],[]):=by
 rw [zxb (xp _ _) hf,jc];rfl
end
end
section
structure X_ (ps:List zc) (f:zc) (nd:Ins) (p q:PV) (gs:List Gd) (n:Nat) (k:Int) (H:zd) (tkp:PV) (a:List Int×List Int):Prop where
 k0:0<=k
 k1:k<=4
 h:w_ ps f nd p q gs H a.1 tkp a.2
 n:a.1.length=n
 tk:(a.2.length:Int)<=k
section
variable {ps:List zc} {f:zc} {nd:Ins} {p q:PV} {gs:List Gd} {at_:Int} {rl:List Int} {n:Nat}
def vV (ps:List zc) (f:zc) (nd:Ins) (p q:PV) (gs:List Gd) (at_:Int) (rl:List Int) (n:Nat) (k:Int) (H:zd) (tkp:PV) (a:List Int×List Int):Prop:=
 match uk ps rl [nd.A,nd.B,nd.C,nd.D] k a with
 |none=>∃ st,EV A (z8 0) ⟨z7 ps f at_ p q tkp++[(51,zN rl),(52,.int .i64 k)],[],H,ed0⟩=some (.ret,st)/\st.per.get 8=.int .i64 10/\st.per.get 9=.nils
 |some a'=>∃ tkp' H' st',EV A (z8 0) ⟨z7 ps f at_ p q tkp++[(51,zN rl),(52,.int .i64 k)],[],H,ed0⟩=some (.normal,st')/\
  (⟨z7 ps f at_ p q tkp++[(51,zN rl),(52,.int .i64 k)],[],H,ed0⟩:St).next st'=⟨z7 ps f at_ p q tkp'++[(51,zN rl),(52,.int .i64 (k+1))],[],H',ed0⟩/\w_ ps f nd p q gs H' a'.1 tkp' a'.2
theorem w_.next {H H':zd} {tkp:PV} {ts tk:List Int} (h:w_ ps f nd p q gs H' ts tkp tk) (hl:9<=H.length) (k:Int):
  w_ ps f nd p q gs (Go.Av.trim H.length ((z7 ps f at_ p q tkp++[(51,zN rl),(52,PV.int .i64 k)]:zk).map λ e=>e.2) H' ed0).1 ts tkp tk:=h.trim hl (by simp) ed0
theorem zz9 {H:zd} {tkp:PV} {a:List Int×List Int} {k:Int} (hrl:rl.length=4) (h:X_ ps f nd p q gs n k H tkp a) (hk:k<4) (hro:zE nd.Op=some rl)
  (e2:¬za rl k=2) (e3:¬za rl k=3) (e4:¬za rl k=4) (e5:¬za rl k=5) (e6:¬za rl k=6) (e11:¬za rl k=11) (e18:¬za rl k=18) (e19:¬za rl k=19) (e20:¬za rl k=20):vV ps f nd p q gs at_ rl n k H tkp a:=by
 obtain ⟨k0,k1,h,hn,htk⟩:=h
 obtain ⟨ts,tk⟩:=a
 simp only at h hn htk
 unfold vV
 rw [zB2 e2 e3 e4 e5 e6 e11 e18 e19 e20]
 have hH:=yJ h.c8
 have hL:=λ z H=>vg z H nd.Op
 simp only [hro] at hL
 have hF:=v9 nd
 have t1:=wd k0 (by omega:k<rl.length)
 have t2:=wd (l:=[nd.A,nd.B,nd.C,nd.D]) k0 (by simpa using hk)
 have h':=h.app [.map []]
 have q3:=h'.c3
 have p3:=h.c3
 simp only [Ins.cells,zN,aM,bA] at hF hL q3 p3 t1 t2
 have hm:(H++[zZ.map []])[H.length]?=some (.map (([]:List (Int×Int)).map λ e=>(.int .i64 e.1,.int .i64 e.2))):=xp _ _
 refine ⟨tkp,_,_,by
  simp -implicitDefEqProofs +contextual (disch:=omega) only [zB,zh,z7,aB,aA,zq,zF,code,zb,zc.cells,ups,ze,zj,zm,Ins.cells, ↓wg, ↓xW, ↓zz, ↓zG,yi,zA, ↓XD,XU, ↓reduceIte,sevalprocAttr,k0,hk,hL,zN,hF,p3,q3,t1,t2,e2,e3,e4,e5,e6,e11,e18,e19,e20]
  rw [uW hm h'.frz_o (by simp) (by simp) rfl rfl rfl rfl rfl]
  (simp -implicitDefEqProofs +contextual (disch:=omega) only [zB,zh, ↓XD,XU, ↓reduceIte,sevalprocAttr,k0,hk])<;>rfl,?_,h'.next (H:=H) (at_:=at_) (rl:=rl) (by omega) (k+1)⟩
 simp [St.next,kq _ (show 9<=H.length by omega),zN]
end
end
section
theorem zeu {z x:Int} {v:PV} {l:List (PV×PV)} (h:¬z=x):findKey 0 (.int .i64 z) ((.int .i64 x,v)::l)=findKey 0 (.int .i64 z) l:=by
 have:(z==x)=false:=by simpa using h
 have h2:jC 0 (.int .i64 z) (.int .i64 x)=some false:=by simp [jC,this]
 rw [findKey];simp only [h2]
section
variable {ps:List zc} {f:zc} {nd:Ins} {p q:PV} {gs:List Gd} {at_:Int} {rl:List Int} {n:Nat}
theorem zD1 {H:zd} {tkp:PV} {a:List Int×List Int} {k:Int} (hrl:rl.length=4) (h:X_ ps f nd p q gs n k H tkp a) (hk:k<4) (hro:zE nd.Op=some rl) (hn1:n<=1048576)
  (hr:za rl k=4) (hx:0<=za [nd.A,nd.B,nd.C,nd.D] k/\za [nd.A,nd.B,nd.C,nd.D] k<n):vV ps f nd p q gs at_ rl n k H tkp a:=by
 obtain ⟨k0,k1,h,hn,htk⟩:=h
 obtain ⟨ts,tk⟩:=a
 simp only at h hn htk
 unfold vV
 rw [zBZ hr]
 obtain ⟨x,hxx⟩:∃ x,za [nd.A,nd.B,nd.C,nd.D] k=x:=⟨_,rfl⟩
 rw [hxx] at hx ⊢
 obtain ⟨x0,x1⟩:=hx
 have hH:=yJ h.c8
 have hL:=λ z H=>vg z H nd.Op
 simp only [hro] at hL
 have hF:=v9 nd
 have t1:=wd k0 (by omega:k<rl.length)
 have t2:=wd (l:=[nd.A,nd.B,nd.C,nd.D]) k0 (by simpa using hk)
 rw [hr] at t1
 rw [hxx] at t2
 have q3:=(h.app [.map []]).c3
 have p3:=h.c3
 simp only [Ins.cells,zN,aM,bA] at hF hL q3 p3 t1 t2
 have h':=h.app [.map [(.int .i64 (x),.int .i64 1)]]
 have hm:(H++[zZ.map [(.int .i64 (x),.int .i64 1)]])[H.length]?=some (.map (([((x:Int),(1:Int))]).map λ e=>(.int .i64 e.1,.int .i64 e.2))):=xp _ _
 have hes:∀ e∈[((x:Int),(1:Int))],0<=e.1/\e.1<ts.length:=by simp;omega
 have i0:=UX (H:=H) (es:=[]) (q:=x) (w:=1) (by rfl)
 simp only [aA] at i0
 by_cases c0:za ts (x)=1
 ·rw [if_pos c0]
  refine ⟨tkp,_,_,by
   simp -implicitDefEqProofs +contextual (disch:=omega) only [zB,zh,z7,aB,aA,zq,zF,code,zb,zc.cells,ups,ze,zj,zm,Ins.cells, ↓wg, ↓xW, ↓zz, ↓zG,yi,zA, ↓XD,XU, ↓reduceIte,sevalprocAttr,k0,hk,hL,zN,hF,p3,q3,t1,t2,i0]
   rw [uW hm h'.frz_o hes (by simp [c0]) rfl rfl rfl rfl rfl]
   (simp -implicitDefEqProofs +contextual (disch:=omega) only [zB,zh, ↓XD,XU, ↓reduceIte,sevalprocAttr,k0,hk])<;>rfl,?_,h'.next (H:=H) (at_:=at_) (rl:=rl) (by omega) (k+1)⟩
  simp [St.next,kq _ (show 9<=H.length by omega),zN]
 ·rw [if_neg c0]
  refine ⟨_,by
   simp -implicitDefEqProofs +contextual (disch:=omega) only [zB,zh,z7,aB,aA,zq,zF,code,zb,zc.cells,ups,ze,zj,zm,Ins.cells, ↓wg, ↓xW, ↓zz, ↓zG,yi,zA, ↓XD,XU, ↓reduceIte,sevalprocAttr,k0,hk,hL,zN,hF,p3,q3,t1,t2,i0]
   rw [kQ hm h'.frz_o hes (by simp [c0]) rfl rfl rfl rfl rfl]
   (simp -implicitDefEqProofs +contextual (disch:=omega) only [zB,zh, ↓XD,XU, ↓reduceIte,sevalprocAttr,k0,hk])<;>rfl,rfl,rfl⟩
theorem zD2 {H:zd} {tkp:PV} {a:List Int×List Int} {k:Int} (hrl:rl.length=4) (h:X_ ps f nd p q gs n k H tkp a) (hk:k<4) (hro:zE nd.Op=some rl) (hn1:n<=1048576)
  (hr:za rl k=5) (hx:0<=za [nd.A,nd.B,nd.C,nd.D] k/\za [nd.A,nd.B,nd.C,nd.D] k<n):vV ps f nd p q gs at_ rl n k H tkp a:=by
 obtain ⟨k0,k1,h,hn,htk⟩:=h
 obtain ⟨ts,tk⟩:=a
 simp only at h hn htk
 unfold vV
 rw [zB0 hr]
 obtain ⟨x,hxx⟩:∃ x,za [nd.A,nd.B,nd.C,nd.D] k=x:=⟨_,rfl⟩
 rw [hxx] at hx ⊢
 obtain ⟨x0,x1⟩:=hx
 have hH:=yJ h.c8
 have hL:=λ z H=>vg z H nd.Op
 simp only [hro] at hL
 have hF:=v9 nd
 have t1:=wd k0 (by omega:k<rl.length)
 have t2:=wd (l:=[nd.A,nd.B,nd.C,nd.D]) k0 (by simpa using hk)
 rw [hr] at t1
 rw [hxx] at t2
 have q3:=(h.app [.map []]).c3
 have p3:=h.c3
 simp only [Ins.cells,zN,aM,bA] at hF hL q3 p3 t1 t2
 have h':=h.app [.map [(.int .i64 (x),.int .i64 2)]]
 have hm:(H++[zZ.map [(.int .i64 (x),.int .i64 2)]])[H.length]?=some (.map (([((x:Int),(2:Int))]).map λ e=>(.int .i64 e.1,.int .i64 e.2))):=xp _ _
 have hes:∀ e∈[((x:Int),(2:Int))],0<=e.1/\e.1<ts.length:=by simp;omega
 have i0:=UX (H:=H) (es:=[]) (q:=x) (w:=2) (by rfl)
 simp only [aA] at i0
 by_cases c0:za ts (x)=2
 ·rw [if_pos c0]
  refine ⟨tkp,_,_,by
   simp -implicitDefEqProofs +contextual (disch:=omega) only [zB,zh,z7,aB,aA,zq,zF,code,zb,zc.cells,ups,ze,zj,zm,Ins.cells, ↓wg, ↓xW, ↓zz, ↓zG,yi,zA, ↓XD,XU, ↓reduceIte,sevalprocAttr,k0,hk,hL,zN,hF,p3,q3,t1,t2,i0]
   rw [uW hm h'.frz_o hes (by simp [c0]) rfl rfl rfl rfl rfl]
   (simp -implicitDefEqProofs +contextual (disch:=omega) only [zB,zh, ↓XD,XU, ↓reduceIte,sevalprocAttr,k0,hk])<;>rfl,?_,h'.next (H:=H) (at_:=at_) (rl:=rl) (by omega) (k+1)⟩
  simp [St.next,kq _ (show 9<=H.length by omega),zN]
 ·rw [if_neg c0]
  refine ⟨_,by
   simp -implicitDefEqProofs +contextual (disch:=omega) only [zB,zh,z7,aB,aA,zq,zF,code,zb,zc.cells,ups,ze,zj,zm,Ins.cells, ↓wg, ↓xW, ↓zz, ↓zG,yi,zA, ↓XD,XU, ↓reduceIte,sevalprocAttr,k0,hk,hL,zN,hF,p3,q3,t1,t2,i0]
   rw [kQ hm h'.frz_o hes (by simp [c0]) rfl rfl rfl rfl rfl]
   (simp -implicitDefEqProofs +contextual (disch:=omega) only [zB,zh, ↓XD,XU, ↓reduceIte,sevalprocAttr,k0,hk])<;>rfl,rfl,rfl⟩
theorem zD3 {H:zd} {tkp:PV} {a:List Int×List Int} {k:Int} (hrl:rl.length=4) (h:X_ ps f nd p q gs n k H tkp a) (hk:k<4) (hro:zE nd.Op=some rl) (hn1:n<=1048576)
  (hr:za rl k=6) (hx:0<=za [nd.A,nd.B,nd.C,nd.D] k/\za [nd.A,nd.B,nd.C,nd.D] k<n):vV ps f nd p q gs at_ rl n k H tkp a:=by
 obtain ⟨k0,k1,h,hn,htk⟩:=h
 obtain ⟨ts,tk⟩:=a
 simp only at h hn htk
 unfold vV
 rw [zB1 hr]
 obtain ⟨x,hxx⟩:∃ x,za [nd.A,nd.B,nd.C,nd.D] k=x:=⟨_,rfl⟩
 rw [hxx] at hx ⊢
 obtain ⟨x0,x1⟩:=hx
 have hH:=yJ h.c8
 have hL:=λ z H=>vg z H nd.Op
 simp only [hro] at hL
 have hF:=v9 nd
 have t1:=wd k0 (by omega:k<rl.length)
 have t2:=wd (l:=[nd.A,nd.B,nd.C,nd.D]) k0 (by simpa using hk)
 rw [hr] at t1
 rw [hxx] at t2
 have q3:=(h.app [.map []]).c3
 have p3:=h.c3
 simp only [Ins.cells,zN,aM,bA] at hF hL q3 p3 t1 t2
 have h':=h.app [.map [(.int .i64 (x),.int .i64 3)]]
 have hm:(H++[zZ.map [(.int .i64 (x),.int .i64 3)]])[H.length]?=some (.map (([((x:Int),(3:Int))]).map λ e=>(.int .i64 e.1,.int .i64 e.2))):=xp _ _
 have hes:∀ e∈[((x:Int),(3:Int))],0<=e.1/\e.1<ts.length:=by simp;omega
 have i0:=UX (H:=H) (es:=[]) (q:=x) (w:=3) (by rfl)
 simp only [aA] at i0
 by_cases c0:za ts (x)=3
 ·rw [if_pos c0]
  refine ⟨tkp,_,_,by
   simp -implicitDefEqProofs +contextual (disch:=omega) only [zB,zh,z7,aB,aA,zq,zF,code,zb,zc.cells,ups,ze,zj,zm,Ins.cells, ↓wg, ↓xW, ↓zz, ↓zG,yi,zA, ↓XD,XU, ↓reduceIte,sevalprocAttr,k0,hk,hL,zN,hF,p3,q3,t1,t2,i0]
   rw [uW hm h'.frz_o hes (by simp [c0]) rfl rfl rfl rfl rfl]
   (simp -implicitDefEqProofs +contextual (disch:=omega) only [zB,zh, ↓XD,XU, ↓reduceIte,sevalprocAttr,k0,hk])<;>rfl,?_,h'.next (H:=H) (at_:=at_) (rl:=rl) (by omega) (k+1)⟩
  simp [St.next,kq _ (show 9<=H.length by omega),zN]
 ·rw [if_neg c0]
  refine ⟨_,by
   simp -implicitDefEqProofs +contextual (disch:=omega) only [zB,zh,z7,aB,aA,zq,zF,code,zb,zc.cells,ups,ze,zj,zm,Ins.cells, ↓wg, ↓xW, ↓zz, ↓zG,yi,zA, ↓XD,XU, ↓reduceIte,sevalprocAttr,k0,hk,hL,zN,hF,p3,q3,t1,t2,i0]
   rw [kQ hm h'.frz_o hes (by simp [c0]) rfl rfl rfl rfl rfl]
   (simp -implicitDefEqProofs +contextual (disch:=omega) only [zB,zh, ↓XD,XU, ↓reduceIte,sevalprocAttr,k0,hk])<;>rfl,rfl,rfl⟩
theorem zDe {H:zd} {tkp:PV} {a:List Int×List Int} {k:Int} (hrl:rl.length=4) (h:X_ ps f nd p q gs n k H tkp a) (hk:k<4) (hro:zE nd.Op=some rl) (hn1:n<=1048576)
  (hr:za rl k=18) (hx:0<=za [nd.A,nd.B,nd.C,nd.D] k/\za [nd.A,nd.B,nd.C,nd.D] k+2<n):vV ps f nd p q gs at_ rl n k H tkp a:=by
 obtain ⟨k0,k1,h,hn,htk⟩:=h
 obtain ⟨ts,tk⟩:=a
 simp only at h hn htk
 unfold vV
 rw [zAb hr]
 obtain ⟨x,hxx⟩:∃ x,za [nd.A,nd.B,nd.C,nd.D] k=x:=⟨_,rfl⟩
 rw [hxx] at hx ⊢
 obtain ⟨x0,x1⟩:=hx
 have hH:=yJ h.c8
 have hL:=λ z H=>vg z H nd.Op
 simp only [hro] at hL
 have hF:=v9 nd
 have t1:=wd k0 (by omega:k<rl.length)
 have t2:=wd (l:=[nd.A,nd.B,nd.C,nd.D]) k0 (by simpa using hk)
 rw [hr] at t1
 rw [hxx] at t2
 have q3:=(h.app [.map []]).c3
 have p3:=h.c3
 simp only [Ins.cells,zN,aM,bA] at hF hL q3 p3 t1 t2
 have h':=h.app [.map [(.int .i64 (x),.int .i64 1),(.int .i64 (x+1),.int .i64 1),(.int .i64 (x+2),.int .i64 1)]]
 have hm:(H++[zZ.map [(.int .i64 (x),.int .i64 1),(.int .i64 (x+1),.int .i64 1),(.int .i64 (x+2),.int .i64 1)]])[H.length]?=some (.map (([((x:Int),(1:Int)),((x+1:Int),(1:Int)),((x+2:Int),(1:Int))]).map λ e=>(.int .i64 e.1,.int .i64 e.2))):=xp _ _
 have hes:∀ e∈[((x:Int),(1:Int)),((x+1:Int),(1:Int)),((x+2:Int),(1:Int))],0<=e.1/\e.1<ts.length:=by simp;omega
 have i0:=UX (H:=H) (es:=[]) (q:=x) (w:=1) (by rfl)
 have i1:=UX (H:=H) (es:=[(.int .i64 (x),.int .i64 1)]) (q:=x+1) (w:=1) (by rw [zeu (by omega)];rfl)
 have i2:=UX (H:=H) (es:=[(.int .i64 (x),.int .i64 1),(.int .i64 (x+1),.int .i64 1)]) (q:=x+2) (w:=1) (by rw [zeu (by omega)];rw [zeu (by omega)];rfl)
 simp only [aA,aB] at i0 i1 i2
 by_cases c0:za ts (x)=1
 ·rw [if_pos c0]
  by_cases c1:za ts (x+1)=1
  ·rw [if_pos c1]
   by_cases c2:za ts (x+2)=1
   ·rw [if_pos c2]
    refine ⟨tkp,_,_,by
     simp -implicitDefEqProofs +contextual (disch:=omega) only [zB,zh,z7,aB,aA,zq,zF,code,zb,zc.cells,ups,ze,zj,zm,Ins.cells, ↓wg, ↓xW, ↓zz, ↓zG,yi,zA, ↓XD,XU, ↓reduceIte,sevalprocAttr,k0,hk,hL,zN,hF,p3,q3,t1,t2,i0,i1,i2]
     rw [uW hm h'.frz_o hes (by simp [c0,c1,c2]) rfl rfl rfl rfl rfl]
     (simp -implicitDefEqProofs +contextual (disch:=omega) only [zB,zh, ↓XD,XU, ↓reduceIte,sevalprocAttr,k0,hk])<;>rfl,?_,h'.next (H:=H) (at_:=at_) (rl:=rl) (by omega) (k+1)⟩
    simp [St.next,kq _ (show 9<=H.length by omega),zN]
   ·rw [if_neg c2]
    refine ⟨_,by
     simp -implicitDefEqProofs +contextual (disch:=omega) only [zB,zh,z7,aB,aA,zq,zF,code,zb,zc.cells,ups,ze,zj,zm,Ins.cells, ↓wg, ↓xW, ↓zz, ↓zG,yi,zA, ↓XD,XU, ↓reduceIte,sevalprocAttr,k0,hk,hL,zN,hF,p3,q3,t1,t2,i0,i1,i2]
     rw [kQ hm h'.frz_o hes (by simp [c0,c1,c2]) rfl rfl rfl rfl rfl]
     (simp -implicitDefEqProofs +contextual (disch:=omega) only [zB,zh, ↓XD,XU, ↓reduceIte,sevalprocAttr,k0,hk])<;>rfl,rfl,rfl⟩
  ·rw [if_neg c1]
   refine ⟨_,by
    simp -implicitDefEqProofs +contextual (disch:=omega) only [zB,zh,z7,aB,aA,zq,zF,code,zb,zc.cells,ups,ze,zj,zm,Ins.cells, ↓wg, ↓xW, ↓zz, ↓zG,yi,zA, ↓XD,XU, ↓reduceIte,sevalprocAttr,k0,hk,hL,zN,hF,p3,q3,t1,t2,i0,i1,i2]
    rw [kQ hm h'.frz_o hes (by simp [c0,c1]) rfl rfl rfl rfl rfl]
    (simp -implicitDefEqProofs +contextual (disch:=omega) only [zB,zh, ↓XD,XU, ↓reduceIte,sevalprocAttr,k0,hk])<;>rfl,rfl,rfl⟩
 ·rw [if_neg c0]
  refine ⟨_,by
   simp -implicitDefEqProofs +contextual (disch:=omega) only [zB,zh,z7,aB,aA,zq,zF,code,zb,zc.cells,ups,ze,zj,zm,Ins.cells, ↓wg, ↓xW, ↓zz, ↓zG,yi,zA, ↓XD,XU, ↓reduceIte,sevalprocAttr,k0,hk,hL,zN,hF,p3,q3,t1,t2,i0,i1,i2]
   rw [kQ hm h'.frz_o hes (by simp [c0]) rfl rfl rfl rfl rfl]
   (simp -implicitDefEqProofs +contextual (disch:=omega) only [zB,zh, ↓XD,XU, ↓reduceIte,sevalprocAttr,k0,hk])<;>rfl,rfl,rfl⟩
theorem zDf {H:zd} {tkp:PV} {a:List Int×List Int} {k:Int} (hrl:rl.length=4) (h:X_ ps f nd p q gs n k H tkp a) (hk:k<4) (hro:zE nd.Op=some rl) (hn1:n<=1048576)
  (hr:za rl k=19) (hx:0<=za [nd.A,nd.B,nd.C,nd.D] k/\za [nd.A,nd.B,nd.C,nd.D] k+1<n):vV ps f nd p q gs at_ rl n k H tkp a:=by
 obtain ⟨k0,k1,h,hn,htk⟩:=h
 obtain ⟨ts,tk⟩:=a
 simp only at h hn htk
 unfold vV
 rw [zAc hr]
 obtain ⟨x,hxx⟩:∃ x,za [nd.A,nd.B,nd.C,nd.D] k=x:=⟨_,rfl⟩
 rw [hxx] at hx ⊢
 obtain ⟨x0,x1⟩:=hx
 have hH:=yJ h.c8
 have hL:=λ z H=>vg z H nd.Op
 simp only [hro] at hL
 have hF:=v9 nd
 have t1:=wd k0 (by omega:k<rl.length)
 have t2:=wd (l:=[nd.A,nd.B,nd.C,nd.D]) k0 (by simpa using hk)
 rw [hr] at t1
 rw [hxx] at t2
 have q3:=(h.app [.map []]).c3
 have p3:=h.c3
 simp only [Ins.cells,zN,aM,bA] at hF hL q3 p3 t1 t2
 have h':=h.app [.map [(.int .i64 (x),.int .i64 1),(.int .i64 (x+1),.int .i64 0)]]
 have hm:(H++[zZ.map [(.int .i64 (x),.int .i64 1),(.int .i64 (x+1),.int .i64 0)]])[H.length]?=some (.map (([((x:Int),(1:Int)),((x+1:Int),(0:Int))]).map λ e=>(.int .i64 e.1,.int .i64 e.2))):=xp _ _
 have hes:∀ e∈[((x:Int),(1:Int)),((x+1:Int),(0:Int))],0<=e.1/\e.1<ts.length:=by simp;omega
 have i0:=UX (H:=H) (es:=[]) (q:=x) (w:=1) (by rfl)
 have i1:=UX (H:=H) (es:=[(.int .i64 (x),.int .i64 1)]) (q:=x+1) (w:=0) (by rw [zeu (by omega)];rfl)
 simp only [aA,aB] at i0 i1
 by_cases c0:za ts (x)=1
 ·rw [if_pos c0]
  by_cases c1:za ts (x+1)=0
  ·rw [if_pos c1]
   refine ⟨tkp,_,_,by
    simp -implicitDefEqProofs +contextual (disch:=omega) only [zB,zh,z7,aB,aA,zq,zF,code,zb,zc.cells,ups,ze,zj,zm,Ins.cells, ↓wg, ↓xW, ↓zz, ↓zG,yi,zA, ↓XD,XU, ↓reduceIte,sevalprocAttr,k0,hk,hL,zN,hF,p3,q3,t1,t2,i0,i1]
    rw [uW hm h'.frz_o hes (by simp [c0,c1]) rfl rfl rfl rfl rfl]
    (simp -implicitDefEqProofs +contextual (disch:=omega) only [zB,zh, ↓XD,XU, ↓reduceIte,sevalprocAttr,k0,hk])<;>rfl,?_,h'.next (H:=H) (at_:=at_) (rl:=rl) (by omega) (k+1)⟩
   simp [St.next,kq _ (show 9<=H.length by omega),zN]
  ·rw [if_neg c1]
   refine ⟨_,by
    simp -implicitDefEqProofs +contextual (disch:=omega) only [zB,zh,z7,aB,aA,zq,zF,code,zb,zc.cells,ups,ze,zj,zm,Ins.cells, ↓wg, ↓xW, ↓zz, ↓zG,yi,zA, ↓XD,XU, ↓reduceIte,sevalprocAttr,k0,hk,hL,zN,hF,p3,q3,t1,t2,i0,i1]
    rw [kQ hm h'.frz_o hes (by simp [c0,c1]) rfl rfl rfl rfl rfl]
    (simp -implicitDefEqProofs +contextual (disch:=omega) only [zB,zh, ↓XD,XU, ↓reduceIte,sevalprocAttr,k0,hk])<;>rfl,rfl,rfl⟩
 ·rw [if_neg c0]
  refine ⟨_,by
   simp -implicitDefEqProofs +contextual (disch:=omega) only [zB,zh,z7,aB,aA,zq,zF,code,zb,zc.cells,ups,ze,zj,zm,Ins.cells, ↓wg, ↓xW, ↓zz, ↓zG,yi,zA, ↓XD,XU, ↓reduceIte,sevalprocAttr,k0,hk,hL,zN,hF,p3,q3,t1,t2,i0,i1]
   rw [kQ hm h'.frz_o hes (by simp [c0]) rfl rfl rfl rfl rfl]
   (simp -implicitDefEqProofs +contextual (disch:=omega) only [zB,zh, ↓XD,XU, ↓reduceIte,sevalprocAttr,k0,hk])<;>rfl,rfl,rfl⟩
theorem zDg {H:zd} {tkp:PV} {a:List Int×List Int} {k:Int} (hrl:rl.length=4) (h:X_ ps f nd p q gs n k H tkp a) (hk:k<4) (hro:zE nd.Op=some rl) (hn1:n<=1048576)
  (hr:za rl k=20) (hx:0<=za [nd.A,nd.B,nd.C,nd.D] k/\za [nd.A,nd.B,nd.C,nd.D] k+1<n):vV ps f nd p q gs at_ rl n k H tkp a:=by
 obtain ⟨k0,k1,h,hn,htk⟩:=h
 obtain ⟨ts,tk⟩:=a
 simp only at h hn htk
 unfold vV
 rw [zAd hr]
 obtain ⟨x,hxx⟩:∃ x,za [nd.A,nd.B,nd.C,nd.D] k=x:=⟨_,rfl⟩
 rw [hxx] at hx ⊢
 obtain ⟨x0,x1⟩:=hx
 have hH:=yJ h.c8
 have hL:=λ z H=>vg z H nd.Op
 simp only [hro] at hL
 have hF:=v9 nd
 have t1:=wd k0 (by omega:k<rl.length)
 have t2:=wd (l:=[nd.A,nd.B,nd.C,nd.D]) k0 (by simpa using hk)
 rw [hr] at t1
 rw [hxx] at t2
 have q3:=(h.app [.map []]).c3
 have p3:=h.c3
 simp only [Ins.cells,zN,aM,bA] at hF hL q3 p3 t1 t2
 have h':=h.app [.map [(.int .i64 (x),.int .i64 1),(.int .i64 (x+1),.int .i64 1)]]
 have hm:(H++[zZ.map [(.int .i64 (x),.int .i64 1),(.int .i64 (x+1),.int .i64 1)]])[H.length]?=some (.map (([((x:Int),(1:Int)),((x+1:Int),(1:Int))]).map λ e=>(.int .i64 e.1,.int .i64 e.2))):=xp _ _
 have hes:∀ e∈[((x:Int),(1:Int)),((x+1:Int),(1:Int))],0<=e.1/\e.1<ts.length:=by simp;omega
 have i0:=UX (H:=H) (es:=[]) (q:=x) (w:=1) (by rfl)
 have i1:=UX (H:=H) (es:=[(.int .i64 (x),.int .i64 1)]) (q:=x+1) (w:=1) (by rw [zeu (by omega)];rfl)
 simp only [aA,aB] at i0 i1
 by_cases c0:za ts (x)=1
 ·rw [if_pos c0]
  by_cases c1:za ts (x+1)=1
  ·rw [if_pos c1]
   refine ⟨tkp,_,_,by
    simp -implicitDefEqProofs +contextual (disch:=omega) only [zB,zh,z7,aB,aA,zq,zF,code,zb,zc.cells,ups,ze,zj,zm,Ins.cells, ↓wg, ↓xW, ↓zz, ↓zG,yi,zA, ↓XD,XU, ↓reduceIte,sevalprocAttr,k0,hk,hL,zN,hF,p3,q3,t1,t2,i0,i1]
    rw [uW hm h'.frz_o hes (by simp [c0,c1]) rfl rfl rfl rfl rfl]
    (simp -implicitDefEqProofs +contextual (disch:=omega) only [zB,zh, ↓XD,XU, ↓reduceIte,sevalprocAttr,k0,hk])<;>rfl,?_,h'.next (H:=H) (at_:=at_) (rl:=rl) (by omega) (k+1)⟩
   simp [St.next,kq _ (show 9<=H.length by omega),zN]
  ·rw [if_neg c1]
   refine ⟨_,by
    simp -implicitDefEqProofs +contextual (disch:=omega) only [zB,zh,z7,aB,aA,zq,zF,code,zb,zc.cells,ups,ze,zj,zm,Ins.cells, ↓wg, ↓xW, ↓zz, ↓zG,yi,zA, ↓XD,XU, ↓reduceIte,sevalprocAttr,k0,hk,hL,zN,hF,p3,q3,t1,t2,i0,i1]
    rw [kQ hm h'.frz_o hes (by simp [c0,c1]) rfl rfl rfl rfl rfl]
    (simp -implicitDefEqProofs +contextual (disch:=omega) only [zB,zh, ↓XD,XU, ↓reduceIte,sevalprocAttr,k0,hk])<;>rfl,rfl,rfl⟩
 ·rw [if_neg c0]
  refine ⟨_,by
   simp -implicitDefEqProofs +contextual (disch:=omega) only [zB,zh,z7,aB,aA,zq,zF,code,zb,zc.cells,ups,ze,zj,zm,Ins.cells, ↓wg, ↓xW, ↓zz, ↓zG,yi,zA, ↓XD,XU, ↓reduceIte,sevalprocAttr,k0,hk,hL,zN,hF,p3,q3,t1,t2,i0,i1]
   rw [kQ hm h'.frz_o hes (by simp [c0]) rfl rfl rfl rfl rfl]
   (simp -implicitDefEqProofs +contextual (disch:=omega) only [zB,zh, ↓XD,XU, ↓reduceIte,sevalprocAttr,k0,hk])<;>rfl,rfl,rfl⟩
end
end
section
theorem zcG {rs fs:List Int} {k y:Int} (hk:k<4):VM rs fs k y↔∃ j:Int,0<=j/\j<4/\(j<k/\uH (za rs j)/\za fs j=y):=by
 constructor
 ·rintro (⟨h1,h2,h3⟩|⟨h1,h2,h3⟩|⟨h1,h2,h3⟩)
  ·exact ⟨0,by omega,by omega,h1,h2,h3⟩
  ·exact ⟨1,by omega,by omega,h1,h2,h3⟩
  ·exact ⟨2,by omega,by omega,h1,h2,h3⟩
 ·rintro ⟨j,j0,j4,h1,h2,h3⟩
  have:j=0\/j=1\/j=2:=by omega
  rcases this with rfl|rfl|rfl
  ·exact .inl ⟨h1,h2,h3⟩
  ·exact .inr (.inl ⟨h1,h2,h3⟩)
  ·exact .inr (.inr ⟨h1,h2,h3⟩)
section
variable {ps:List zc} {f:zc} {nd:Ins} {p q:PV} {gs:List Gd} {at_:Int} {rl:List Int} {n:Nat}
theorem zDZ {H:zd} {tkp:PV} {a:List Int×List Int} {k:Int} (hrl:rl.length=4) (h:X_ ps f nd p q gs n k H tkp a) (hk:k<4) (hro:zE nd.Op=some rl) (hn1:n<=1048576)
  (hr:za rl k=2) (hx:za [nd.A,nd.B,nd.C,nd.D] k<n/\ -1-za [nd.A,nd.B,nd.C,nd.D] k<n):vV ps f nd p q gs at_ rl n k H tkp a:=by
 obtain ⟨k0,k1,h,hn,htk⟩:=h
 obtain ⟨ts,tk⟩:=a
 simp only at h hn htk
 unfold vV
 rw [zBX hr]
 obtain ⟨x,hxx⟩:∃ x,za [nd.A,nd.B,nd.C,nd.D] k=x:=⟨_,rfl⟩
 rw [hxx] at hx ⊢
 obtain ⟨x1,x2⟩:=hx
 have hH:=yJ h.c8
 have hL:=λ z H=>vg z H nd.Op
 simp only [hro] at hL
 have hF:=v9 nd
 have t1:=wd k0 (by omega:k<rl.length)
 have t2:=wd (l:=[nd.A,nd.B,nd.C,nd.D]) k0 (by simpa using hk)
 rw [hr] at t1
 rw [hxx] at t2
 have p3:=h.c3
 have h':=h.app [.map []]
 have hm:(H++[zZ.map []])[H.length]?=some (.map (([]:List (Int×Int)).map λ e=>(.int .i64 e.1,.int .i64 e.2))):=xp _ _
 have htake:=λ y hb=>h.take y hb []
 obtain ⟨G,hG⟩:∃ G,H++[zZ.map []]=G:=⟨_,rfl⟩
 have hGl:G.length=H.length+1:=by rw [<-hG];simp
 rw [hG] at h' hm
 have q3:=h'.c3
 have q6:=h'.c6
 have q8:=h'.c8
 simp only [Ins.cells,zN,aM,bA,ym] at hF hL q3 q6 p3 t1 t2
 by_cases cx:x<0
 ·rw [if_pos cx]
  obtain ⟨y,hy⟩:∃ y, -1-x=y:=⟨_,rfl⟩
  rw [hy] at x2 ⊢
  have y0:0<=y:=by omega
  have y1:y<ts.length:=by omega
  by_cases cw:za ts y=1
  ·rw [if_pos cw]
   have hea:=zpC ps f at_ p q tkp nd rl hrl k 2 x 1 y H.length G hk h'.c3 (by omega)
   simp only [z7,aB,aA,zN,zq,code,zb,zc.cells,ups,ze,zj,zm] at hea
   cases hs:z9 (λ j=>j<k/\uH (za rl j)/\za [nd.A,nd.B,nd.C,nd.D] j=y) 0 4 with
   |some j=>
    rw [hs] at hea
    obtain ⟨st,hea,g8,g9⟩:=hea
    obtain ⟨j0,j1,j2,_⟩:=xE.1 hs
    rw [if_pos ((zcG hk).2 ⟨j,j0,j1,j2⟩)]
    refine ⟨st,by (simp -implicitDefEqProofs +contextual (disch:=omega) only [zB,zh,z7,aB,aA,zq,zF,code,zb,zc.cells,ups,ze,zj,zm,Ins.cells,j6, ↓wg, ↓xW, ↓zz, ↓zG,yi,zA, ↓XD,XU, ↓reduceIte,sevalprocAttr,k0,hk,hL,zN,hF,p3,hG,q3,q6,q8,t1,t2,x1,cx,hy,y0,y1,eq_true cw,hea])<;>rfl,g8,g9⟩
   |none=>
    rw [hs] at hea
    rw [if_neg λ he=>by obtain ⟨j,j0,j1,j2⟩:=(zcG hk).1 he;exact y8.1 hs j j0 j1 j2]
    obtain ⟨p',H',e1,e2,e3,e4⟩:=htake y (by omega)
    rw [hG] at e1
    have hr1:=ju (G.set 6 (.cells 1 (ym (ts.set y.toNat 0)))) 1 [.int .i64 y]
    simp only [bI] at hr1
    refine ⟨p',_,_,by
     simp -implicitDefEqProofs +contextual (disch:=omega) only [zB,zh,z7,aB,aA,zq,zF,code,zb,zc.cells,ups,ze,zj,zm,Ins.cells,j6, ↓wg, ↓xW, ↓zz, ↓zG,yi,zA, ↓XD,XU, ↓reduceIte,sevalprocAttr,k0,hk,hL,zN,hF,p3,hG,q3,q6,q8,t1,t2,x1,cx,hy,y0,y1,eq_true cw,hea,hr1.1,hr1.2,e1]
     rw [uW (es:=[]) e3 e2.frz_o (by simp) (by simp) rfl rfl rfl rfl rfl]
     (simp -implicitDefEqProofs +contextual (disch:=omega) only [zB,zh, ↓XD,XU, ↓reduceIte,sevalprocAttr,k0,hk])<;>rfl,?_,e2.next (H:=H) (at_:=at_) (rl:=rl) (by omega) (k+1)⟩
    simp [St.next,kq _ (show 9<=H.length by omega),zN]
  ·rw [if_neg cw]
   refine ⟨_,by (simp -implicitDefEqProofs +contextual (disch:=omega) only [zB,zh,z7,aB,aA,zq,zF,code,zb,zc.cells,ups,ze,zj,zm,Ins.cells,j6, ↓wg, ↓xW, ↓zz, ↓zG,yi,zA, ↓XD,XU, ↓reduceIte,sevalprocAttr,k0,hk,hL,zN,hF,p3,hG,q3,q6,q8,t1,t2,x1,cx,hy,y0,y1,eq_false cw])<;>rfl,rfl,rfl⟩
 ·rw [if_neg cx]
  have x0:0<=x:=by omega
  have x3:x<ts.length:=by omega
  by_cases cw:za ts x=1
  ·rw [if_pos cw]
   refine ⟨tkp,_,_,by
    simp -implicitDefEqProofs +contextual (disch:=omega) only [zB,zh,z7,aB,aA,zq,zF,code,zb,zc.cells,ups,ze,zj,zm,Ins.cells,j6, ↓wg, ↓xW, ↓zz, ↓zG,yi,zA, ↓XD,XU, ↓reduceIte,sevalprocAttr,k0,hk,hL,zN,hF,p3,hG,q3,q6,q8,t1,t2,x0,x3,cx,eq_true cw]
    rw [uW (es:=[]) hm h'.frz_o (by simp) (by simp) rfl rfl rfl rfl rfl]
    (simp -implicitDefEqProofs +contextual (disch:=omega) only [zB,zh, ↓XD,XU, ↓reduceIte,sevalprocAttr,k0,hk])<;>rfl,?_,h'.next (H:=H) (at_:=at_) (rl:=rl) (by omega) (k+1)⟩
   simp [St.next,kq _ (show 9<=H.length by omega),zN]
  ·rw [if_neg cw]
   refine ⟨_,by (simp -implicitDefEqProofs +contextual (disch:=omega) only [zB,zh,z7,aB,aA,zq,zF,code,zb,zc.cells,ups,ze,zj,zm,Ins.cells,j6, ↓wg, ↓xW, ↓zz, ↓zG,yi,zA, ↓XD,XU, ↓reduceIte,sevalprocAttr,k0,hk,hL,zN,hF,p3,hG,q3,q6,q8,t1,t2,x0,x3,cx,eq_false cw])<;>rfl,rfl,rfl⟩
theorem zD0 {H:zd} {tkp:PV} {a:List Int×List Int} {k:Int} (hrl:rl.length=4) (h:X_ ps f nd p q gs n k H tkp a) (hk:k<4) (hro:zE nd.Op=some rl) (hn1:n<=1048576)
  (hr:za rl k=3) (hx:za [nd.A,nd.B,nd.C,nd.D] k<n/\ -1-za [nd.A,nd.B,nd.C,nd.D] k<n):vV ps f nd p q gs at_ rl n k H tkp a:=by
 obtain ⟨k0,k1,h,hn,htk⟩:=h
 obtain ⟨ts,tk⟩:=a
 simp only at h hn htk
 unfold vV
 rw [zBY hr]
 obtain ⟨x,hxx⟩:∃ x,za [nd.A,nd.B,nd.C,nd.D] k=x:=⟨_,rfl⟩
 rw [hxx] at hx ⊢
 obtain ⟨x1,x2⟩:=hx
 have hH:=yJ h.c8
 have hL:=λ z H=>vg z H nd.Op
 simp only [hro] at hL
 have hF:=v9 nd
 have t1:=wd k0 (by omega:k<rl.length)
 have t2:=wd (l:=[nd.A,nd.B,nd.C,nd.D]) k0 (by simpa using hk)
 rw [hr] at t1
 rw [hxx] at t2
 have p3:=h.c3
 have h':=h.app [.map []]
 have hm:(H++[zZ.map []])[H.length]?=some (.map (([]:List (Int×Int)).map λ e=>(.int .i64 e.1,.int .i64 e.2))):=xp _ _
 have htake:=λ y hb=>h.take y hb []
 obtain ⟨G,hG⟩:∃ G,H++[zZ.map []]=G:=⟨_,rfl⟩
 have hGl:G.length=H.length+1:=by rw [<-hG];simp
 rw [hG] at h' hm
 have q3:=h'.c3
 have q6:=h'.c6
 have q8:=h'.c8
 simp only [Ins.cells,zN,aM,bA,ym] at hF hL q3 q6 p3 t1 t2
 by_cases cx:x<0
 ·rw [if_pos cx]
  obtain ⟨y,hy⟩:∃ y, -1-x=y:=⟨_,rfl⟩
  rw [hy] at x2 ⊢
  have y0:0<=y:=by omega
  have y1:y<ts.length:=by omega
  by_cases cw:za ts y=3
  ·rw [if_pos cw]
   have hea:=zpC ps f at_ p q tkp nd rl hrl k 3 x 3 y H.length G hk h'.c3 (by omega)
   simp only [z7,aB,aA,zN,zq,code,zb,zc.cells,ups,ze,zj,zm] at hea
   cases hs:z9 (λ j=>j<k/\uH (za rl j)/\za [nd.A,nd.B,nd.C,nd.D] j=y) 0 4 with
   |some j=>
    rw [hs] at hea
    obtain ⟨st,hea,g8,g9⟩:=hea
    obtain ⟨j0,j1,j2,_⟩:=xE.1 hs
    rw [if_pos ((zcG hk).2 ⟨j,j0,j1,j2⟩)]
    refine ⟨st,by (simp -implicitDefEqProofs +contextual (disch:=omega) only [zB,zh,z7,aB,aA,zq,zF,code,zb,zc.cells,ups,ze,zj,zm,Ins.cells,j6, ↓wg, ↓xW, ↓zz, ↓zG,yi,zA, ↓XD,XU, ↓reduceIte,sevalprocAttr,k0,hk,hL,zN,hF,p3,hG,q3,q6,q8,t1,t2,x1,cx,hy,y0,y1,eq_true cw,hea])<;>rfl,g8,g9⟩
   |none=>
    rw [hs] at hea
    rw [if_neg λ he=>by obtain ⟨j,j0,j1,j2⟩:=(zcG hk).1 he;exact y8.1 hs j j0 j1 j2]
    obtain ⟨p',H',e1,e2,e3,e4⟩:=htake y (by omega)
    rw [hG] at e1
    have hr1:=ju (G.set 6 (.cells 1 (ym (ts.set y.toNat 0)))) 1 [.int .i64 y]
    simp only [bI] at hr1
    refine ⟨p',_,_,by
     simp -implicitDefEqProofs +contextual (disch:=omega) only [zB,zh,z7,aB,aA,zq,zF,code,zb,zc.cells,ups,ze,zj,zm,Ins.cells,j6, ↓wg, ↓xW, ↓zz, ↓zG,yi,zA, ↓XD,XU, ↓reduceIte,sevalprocAttr,k0,hk,hL,zN,hF,p3,hG,q3,q6,q8,t1,t2,x1,cx,hy,y0,y1,eq_true cw,hea,hr1.1,hr1.2,e1]
     rw [uW (es:=[]) e3 e2.frz_o (by simp) (by simp) rfl rfl rfl rfl rfl]
     (simp -implicitDefEqProofs +contextual (disch:=omega) only [zB,zh, ↓XD,XU, ↓reduceIte,sevalprocAttr,k0,hk])<;>rfl,?_,e2.next (H:=H) (at_:=at_) (rl:=rl) (by omega) (k+1)⟩
    simp [St.next,kq _ (show 9<=H.length by omega),zN]
  ·rw [if_neg cw]
   refine ⟨_,by (simp -implicitDefEqProofs +contextual (disch:=omega) only [zB,zh,z7,aB,aA,zq,zF,code,zb,zc.cells,ups,ze,zj,zm,Ins.cells,j6, ↓wg, ↓xW, ↓zz, ↓zG,yi,zA, ↓XD,XU, ↓reduceIte,sevalprocAttr,k0,hk,hL,zN,hF,p3,hG,q3,q6,q8,t1,t2,x1,cx,hy,y0,y1,eq_false cw])<;>rfl,rfl,rfl⟩
 ·rw [if_neg cx]
  have x0:0<=x:=by omega
  have x3:x<ts.length:=by omega
  by_cases cw:za ts x=3
  ·rw [if_pos cw]
   refine ⟨tkp,_,_,by
    simp -implicitDefEqProofs +contextual (disch:=omega) only [zB,zh,z7,aB,aA,zq,zF,code,zb,zc.cells,ups,ze,zj,zm,Ins.cells,j6, ↓wg, ↓xW, ↓zz, ↓zG,yi,zA, ↓XD,XU, ↓reduceIte,sevalprocAttr,k0,hk,hL,zN,hF,p3,hG,q3,q6,q8,t1,t2,x0,x3,cx,eq_true cw]
    rw [uW (es:=[]) hm h'.frz_o (by simp) (by simp) rfl rfl rfl rfl rfl]
    (simp -implicitDefEqProofs +contextual (disch:=omega) only [zB,zh, ↓XD,XU, ↓reduceIte,sevalprocAttr,k0,hk])<;>rfl,?_,h'.next (H:=H) (at_:=at_) (rl:=rl) (by omega) (k+1)⟩
   simp [St.next,kq _ (show 9<=H.length by omega),zN]
  ·rw [if_neg cw]
   refine ⟨_,by (simp -implicitDefEqProofs +contextual (disch:=omega) only [zB,zh,z7,aB,aA,zq,zF,code,zb,zc.cells,ups,ze,zj,zm,Ins.cells,j6, ↓wg, ↓xW, ↓zz, ↓zG,yi,zA, ↓XD,XU, ↓reduceIte,sevalprocAttr,k0,hk,hL,zN,hF,p3,hG,q3,q6,q8,t1,t2,x0,x3,cx,eq_false cw])<;>rfl,rfl,rfl⟩
end
end
theorem zii {n:Nat} {roots:List PV} {H l:zd} (hb:bare n (zn roots)=true) (hn:H.length=n) (h9:9<=n):trim n roots (H++l) ed0=(H,ed0):=by
 subst hn
 have h1:(ed0.all λ e=>decide (H.length<=e.1)||decide (e.2<H.length))=true:=by
  rw [aZ];intro e he;simp at he;rcases he with rfl|rfl|rfl|rfl<;>simp<;>omega
 have h2:ed0.filter (λ e=>decide (e.2<H.length))=ed0:=dX.2 (by intro e he;simp at he;rcases he with rfl|rfl|rfl|rfl<;>simp<;>omega)
 rw [trim,hb,h1,h2]
 simp
abbrev UD (ps:List zc) (f:zc) (a:Int) (p q tkp:PV) (rl:List Int) (k x:Int) (M:Nat):zk:=[(0,code ps),(1,.agg f.cells),(2,.int .i64 a),(3,.agg (zq p q)),(4,.ptr 0 0 0 1),(5,.ptr 1 0 0 1),(7,.ptr 2 0 0 1),(8,.int .i64 0),(9,.nils),(10,.ptr 3 0 0 1),(11,.ptr 8 0 0 1),(12,tkp),(51,zN rl),(52,.int .i64 k),(13,.int .i64 k),(14,.int .i64 11),(15,.int .i64 x),(16,.mp M),(61,.int .i64 11),(62,.bool false)]
theorem zCa (ps:List zc) (f:zc) (a:Int) (p q tkp:PV) (rl:List Int) (k x:Int) (M:Nat) (K:zd) (ts:List Int) (gp:PV) (us:List Up) (c6:K[6]?=some (.cells 1 (ym ts))) (c8:K[8]?=some (.cells 3 [[.bool true,.sl 6 0 ts.length ts.length,gp]])) (hb:us.length<=1048576) (hu:∀ u∈us,u.Local=true->0<=u.Index/\u.Index<ts.length) (hlt:bare K.length (zn ((UD ps f a p q tkp rl k x M).map λ e=>e.2))=true) (hK:9<=K.length):match z9 (λ (j:Int)=>(za us j).Local=true/\¬za ts (za us j).Index=2) 0 us.length with|some j=>∃ st,EV A (.loop (z8 2)) (⟨UD ps f a p q tkp rl k x M++[(164,ups us),(165,.int .i64 us.length),(166,.int .i64 (0))],[],K,ed0⟩:St)=some (.ret,st)/\st.per.get 8=.int .i64 10/\st.per.get 9=.nils|none=>EV A (.loop (z8 2)) (⟨UD ps f a p q tkp rl k x M++[(164,ups us),(165,.int .i64 us.length),(166,.int .i64 (0))],[],K,ed0⟩:St)=some (zp.exit 5,(⟨UD ps f a p q tkp rl k x M++[(164,ups us),(165,.int .i64 us.length),(166,.int .i64 (us.length))],[],K,ed0⟩:St)):=by
 refine yr (λ i=>(⟨UD ps f a p q tkp rl k x M++[(164,ups us),(165,.int .i64 us.length),(166,.int .i64 i)],[],K,ed0⟩:St)) (λ (j:Int)=>(za us j).Local=true/\¬za ts (za us j).Index=2) (λ (j:Int) (st:St)=>st.per.get 8=.int .i64 10/\st.per.get 9=.nils) (zp.exit 5,(⟨UD ps f a p q tkp rl k x M++[(164,ups us),(165,.int .i64 us.length),(166,.int .i64 (us.length))],[],K,ed0⟩:St)) (0) (us.length) ?_ ?_ ?_ (0) (by omega) (by omega)
 ·intro i hi hn hp
  have hu1:=hu _ (jv hi hn);have htr:∀ (X:zd) (v:Int),trim K.length (((UD ps f a p q tkp rl k x M).map λ e=>e.2)++[ups us,.int .i64 us.length,.int .i64 v]) (K++X) ed0=(K,ed0):=λ X v=>zii (by rw [<-hlt];simp [bare,zn,refs,List.all_append]) rfl hK;have g6:=zY K [.cells 2 [[.bool (za us i).Local,.int .i64 (za us i).Index]]] c6;have g8:=zY K [.cells 2 [[.bool (za us i).Local,.int .i64 (za us i).Index]]] c8
  simp only [UD,ups,Up.cells,aM,bA,aB,aA] at htr
  cases hL:(za us i).Local with
  |false=>
   refine ⟨_,by (simp -implicitDefEqProofs +contextual (disch:=omega) only [V1,zh,UD,aB,aA,ups,Up.cells, ↓XD,XU, ↓reduceIte,sevalprocAttr,hn,hL])<;>rfl,by simp [St.next,htr]⟩
  |true=>
   obtain ⟨u0,u1⟩:=hu1 hL
   rw [hL] at g6 g8
   have hp':za ts (za us i).Index=2:=cD λ h=>hp ⟨hL,h⟩
   refine ⟨_,by (simp -implicitDefEqProofs +contextual (disch:=omega) only [V1,zh,UD,aB,aA,ups,Up.cells, ↓XD,XU, ↓reduceIte,sevalprocAttr,hn,hL,g6,g8,u0,u1,eq_true hp'])<;>rfl,by simp [St.next,htr]⟩
 ·intro i hi hn hp
  have hu1:=hu _ (jv hi hn);have htr:∀ (X:zd) (v:Int),trim K.length (((UD ps f a p q tkp rl k x M).map λ e=>e.2)++[ups us,.int .i64 us.length,.int .i64 v]) (K++X) ed0=(K,ed0):=λ X v=>zii (by rw [<-hlt];simp [bare,zn,refs,List.all_append]) rfl hK;have g6:=zY K [.cells 2 [[.bool (za us i).Local,.int .i64 (za us i).Index]]] c6;have g8:=zY K [.cells 2 [[.bool (za us i).Local,.int .i64 (za us i).Index]]] c8
  obtain ⟨hL,hp'⟩:=hp
  obtain ⟨u0,u1⟩:=hu1 hL
  rw [hL] at g6 g8
  refine ⟨_,by (simp -implicitDefEqProofs +contextual (disch:=omega) only [V1,zh,UD,aB,aA,ups,Up.cells, ↓XD,XU, ↓reduceIte,sevalprocAttr,hn,hL,g6,g8,u0,u1,eq_false hp'])<;>rfl,by simp [zk.get,zk.put],by simp [zk.get,zk.put]⟩
 ·rintro i hi rfl
  refine ⟨by simp -implicitDefEqProofs +contextual (disch:=omega) only [V1,zh, ↓XD,XU, ↓reduceIte,sevalprocAttr,UD,ups,Up.cells,aL],by simp⟩
section
theorem zf6:∀ l:List Int,zn (l.map λ x=>PV.int .i64 x)=[]
 |[]=>rfl
 |x::l=>by rw [aM,zn,zf6 l];rfl
section
variable {ps:List zc} {f:zc} {nd:Ins} {p q:PV} {gs:List Gd} {at_:Int} {rl:List Int} {n:Nat}
theorem zDd {H:zd} {tkp:PV} {a:List Int×List Int} {k:Int} (hrl:rl.length=4) (h:X_ ps f nd p q gs n k H tkp a) (hk:k<4) (hro:zE nd.Op=some rl) (hn1:n<=1048576) (hps:ps.length<=1048576) (rp:refs p=[]) (rq:refs q=[])
  (hr:za rl k=11) (hx:0<=za [nd.A,nd.B,nd.C,nd.D] k/\za [nd.A,nd.B,nd.C,nd.D] k<ps.length)
  (hub:(za ps (za [nd.A,nd.B,nd.C,nd.D] k)).Ups.length<=1048576) (hu:∀ u∈(za ps (za [nd.A,nd.B,nd.C,nd.D] k)).Ups,u.Local=true->0<=u.Index/\u.Index<n):vV ps f nd p q gs at_ rl n k H tkp a:=by
 obtain ⟨k0,k1,h,hn,htk⟩:=h
 obtain ⟨ts,tk⟩:=a
 simp only at h hn htk
 unfold vV
 rw [zAa hr]
 obtain ⟨x,hxx⟩:∃ x,za [nd.A,nd.B,nd.C,nd.D] k=x:=⟨_,rfl⟩
 rw [hxx] at hx hub hu ⊢
 obtain ⟨x0,x1⟩:=hx
 have hH:=yJ h.c8
 have hL:=λ z H=>vg z H nd.Op
 simp only [hro] at hL
 have hF:=v9 nd
 have t1:=wd k0 (by omega:k<rl.length)
 have t2:=wd (l:=[nd.A,nd.B,nd.C,nd.D]) k0 (by simpa using hk)
 rw [hr] at t1
 rw [hxx] at t2
 have p3:=h.c3
 have h':=h.app [.map []]
 have hm:(H++[zZ.map []])[H.length]?=some (.map (([]:List (Int×Int)).map λ e=>(.int .i64 e.1,.int .i64 e.2))):=xp _ _
 obtain ⟨G,hG⟩:∃ G,H++[zZ.map []]=G:=⟨_,rfl⟩
 have hGl:G.length=H.length+1:=by rw [<-hG];simp
 rw [hG] at h' hm
 have q3:=h'.c3
 have q0:=h'.c0
 have hbare:bare G.length (zn ((UD ps f at_ p q tkp rl k x H.length).map λ e=>e.2))=true:=by
  have h2:=h.tk.lt
  refine aZ.2 λ r hr=>?_
  have h5:∀ r∈refs (zN rl),r<G.length:=λ r hr=>by simp [refs,zf6] at hr
  simp only [UD,aM,bA,zn,refs,rp,rq,bY,aA,aX,dE,aV,or_false,false_or] at hr
  simp only [cC]
  rcases hr with hr|hr|hr|hr|hr|hr|hr|hr
  all_goals first|omega|(have:=h2 _ hr;omega)|exact h5 _ hr
 have hups:=zCa ps f at_ p q tkp rl k x H.length G ts (.sl 7 0 gs.length gs.length) (za ps x).Ups h'.c6 h'.c8 hub (by rw [hn];exact hu) hbare (by omega)
 simp only [UD,z7,aB,aA,zN,zq,code,zb,zc.cells,ups,ze,zj,zm] at hups
 simp only [Ins.cells,zN,aM,bA,zb] at hF hL q3 q0 p3 t1 t2
 cases hs:z9 (λ j=>(za (za ps x).Ups j).Local=true/\¬za ts (za (za ps x).Ups j).Index=2) 0 (za ps x).Ups.length with
 |some j=>
  rw [hs] at hups
  obtain ⟨st,hups,g8,g9⟩:=hups
  obtain ⟨j0,j1,⟨j2,j3⟩,_⟩:=xE.1 hs
  rw [if_pos ⟨_,jv j0 j1,j2,j3⟩]
  refine ⟨st,by (simp -implicitDefEqProofs +contextual (disch:=omega) only [zB,zh,z7,aB,aA,zq,zF,code,zb,zc.cells,ups,ze,zj,zm,Ins.cells, ↓wg, ↓XD,XU, ↓reduceIte,sevalprocAttr,k0,hk,hL,zN,hF,p3,hG,q3,q0,t1,t2,x0,x1,hups])<;>rfl,g8,g9⟩
 |none=>
  rw [hs] at hups
  rw [if_neg (by rintro ⟨u,hu2,h1,h2⟩;obtain ⟨j,j0,j1,rfl⟩:=Xs hu2;exact y8.1 hs j j0 j1 ⟨h1,h2⟩)]
  refine ⟨tkp,_,_,by
   simp -implicitDefEqProofs +contextual (disch:=omega) only [zB,zh,z7,aB,aA,zq,zF,code,zb,zc.cells,ups,ze,zj,zm,Ins.cells, ↓wg, ↓XD,XU, ↓reduceIte,sevalprocAttr,k0,hk,hL,zN,hF,p3,hG,q3,q0,t1,t2,x0,x1,hups]
   rw [uW (es:=[]) hm h'.frz_o (by simp) (by simp) rfl rfl rfl rfl rfl]
   (simp -implicitDefEqProofs +contextual (disch:=omega) only [zB,zh, ↓XD,XU, ↓reduceIte,sevalprocAttr,k0,hk])<;>rfl,?_,h'.next (H:=H) (at_:=at_) (rl:=rl) (by omega) (k+1)⟩
  simp [St.next,kq _ (show 9<=H.length by omega),zN]
end
end
section
structure zfG (ps:List zc) (f:zc) (nd:Ins) (p q:PV) (rl:List Int) (n:Nat):Prop where
 rl4:rl.length=4
 ro:zE nd.Op=some rl
 n1:n<=1048576
 nr:(n:Int)=f.Regs
 pn:ps.length<=1048576
 rp:refs p=[]
 rq:refs q=[]
 fit:∀ k:Int,0<=k->k<4->xM ps.length f (za rl k) (za [nd.A,nd.B,nd.C,nd.D] k)
 ups:∀ k:Int,0<=k->k<4->za rl k=11->(za ps (za [nd.A,nd.B,nd.C,nd.D] k)).Ups.length<=1048576/\∀ u∈(za ps (za [nd.A,nd.B,nd.C,nd.D] k)).Ups,u.Local=true->0<=u.Index/\u.Index<n
section
variable {ps:List zc} {f:zc} {nd:Ins} {p q:PV} {gs:List Gd} {at_:Int} {rl:List Int} {n:Nat}
theorem zDM (g:zfG ps f nd p q rl n) {H:zd} {tkp:PV} {a:List Int×List Int} {k:Int} (h:X_ ps f nd p q gs n k H tkp a) (hk:k<4):vV ps f nd p q gs at_ rl n k H tkp a:=by
 have hf:=g.fit k h.k0 hk
 have hr:=g.nr
 by_cases e2:za rl k=2
 ·rw [e2] at hf;simp [xM] at hf;exact zDZ g.rl4 h hk g.ro g.n1 e2 (by split at hf<;>omega)
 by_cases e3:za rl k=3
 ·rw [e3] at hf;simp [xM] at hf;exact zD0 g.rl4 h hk g.ro g.n1 e3 (by split at hf<;>omega)
 by_cases e4:za rl k=4
 ·rw [e4] at hf;simp [xM] at hf;exact zD1 g.rl4 h hk g.ro g.n1 e4 (by omega)
 by_cases e5:za rl k=5
 ·rw [e5] at hf;simp [xM] at hf;exact zD2 g.rl4 h hk g.ro g.n1 e5 (by omega)
 by_cases e6:za rl k=6
 ·rw [e6] at hf;simp [xM] at hf;exact zD3 g.rl4 h hk g.ro g.n1 e6 (by omega)
 by_cases e11:za rl k=11
 ·obtain ⟨u1,u2⟩:=g.ups k h.k0 hk e11
  rw [e11] at hf;simp [xM] at hf;exact zDd g.rl4 h hk g.ro g.n1 g.pn g.rp g.rq e11 (by omega) u1 u2
 by_cases e18:za rl k=18
 ·rw [e18] at hf;simp [xM] at hf;exact zDe g.rl4 h hk g.ro g.n1 e18 (by omega)
 by_cases e19:za rl k=19
 ·rw [e19] at hf;simp [xM] at hf;exact zDf g.rl4 h hk g.ro g.n1 e19 (by omega)
 by_cases e20:za rl k=20
 ·rw [e20] at hf;simp [xM] at hf;exact zDg g.rl4 h hk g.ro g.n1 e20 (by omega)
 exact zz9 g.rl4 h hk g.ro e2 e3 e4 e5 e6 e11 e18 e19 e20
theorem zbX {fs:List Int} {k:Int} {a b:List Int×List Int} (h:uk ps rl fs k a=some b):b.1.length=a.1.length/\b.2.length<=a.2.length+1:=by
 unfold uk at h
 repeat' split at h
 all_goals first|(cases h;done)|(cases h;simp)
theorem zA9 (g:zfG ps f nd p q rl n) {H:zd} {ts:List Int} (h:w_ ps f nd p q gs H ts .nils []) (hn:ts.length=n):
  ∃ r,EV A (.loop (z8 0)) ⟨z7 ps f at_ p q .nils++[(51,zN rl),(52,.int .i64 0)],[],H,ed0⟩=some r/\zyT ps f at_ nd p q gs rl (Z_ ps rl nd ts) r:=by
 rw [zxd]
 refine Yr (P:=A) (body:=(z8 0)) (λ (s:Int×zd×PV×(List Int×List Int))=>(⟨z7 ps f at_ p q s.2.2.1++[(51,zN rl),(52,.int .i64 s.1)],[],s.2.1,ed0⟩:St)) (λ s=>X_ ps f nd p q gs n s.1 s.2.1 s.2.2.1 s.2.2.2) (λ s=>(4-s.1).toNat) (λ s r=>zyT ps f at_ nd p q gs rl (zpx ps rl [nd.A,nd.B,nd.C,nd.D] (4-s.1).toNat s.1 s.2.2.2) r) ?_ (0,H,.nils,(ts,[])) ⟨by simp,by simp,h,hn,by simp⟩
 rintro ⟨k,H,tkp,a⟩ hok
 simp only at hok ⊢
 by_cases ck:k<4
 ·have hgo:=zDM (at_:=at_) g hok ck
  obtain ⟨m,hm⟩:∃ m,(4-k).toNat=m+1:=⟨(4-(k+1)).toNat,by omega⟩
  have hm2:(4-(k+1)).toNat=m:=by omega
  rw [hm,zpx]
  unfold vV at hgo
  cases hi:uk ps rl [nd.A,nd.B,nd.C,nd.D] k a with
  |none=>
   rw [hi] at hgo
   obtain ⟨st,e,g8,g9⟩:=hgo
   exact .inl ⟨_,e,by simp,st,rfl,g8,g9⟩
  |some a'=>
   rw [hi] at hgo
   obtain ⟨tkp',H',st',e1,e2,e3⟩:=hgo
   obtain ⟨l1,l2⟩:=zbX hi
   refine .inr ⟨(k+1,H',tkp',a'),st',⟨by have:=hok.k0;simp only;omega,by simp only;omega,e3,by have:=hok.n;simp only;omega,by have:=hok.tk;simp only;omega⟩,by simp only;omega,e1,e2,λ r hr=>?_⟩
   simp only [hm2] at hr
   simp only [aW]
   exact hr
 ·have:k=4:=by have:=hok.k1;omega
  subst this
  left
  refine ⟨_,by (simp -implicitDefEqProofs +contextual (disch:=omega) only [zB,zh,z7,aB,aA, ↓XD,XU, ↓reduceIte,sevalprocAttr])<;>rfl,by simp,?_⟩
  exact ⟨tkp,H,rfl,hok.h⟩
end
end
def zjH (E:zk):Prop:=E=[]\/E=[(233,.bool true)]\/∃ b,E=[(233,.bool false),(243,.bool b)]
abbrev yF (ps:List zc) (f:zc) (a:Int) (p q tkp:PV) (rl:List Int) (L:Nat) (m:Nat) (b:Bool) (o:Int) (E:zk):zk:=z7 ps f a p q tkp++[(51,zN rl),(52,.int .i64 4),(25,.ptr L 0 0 1),(26,.int .i64 m),(27,.bool b),(28,.fn 83 [.ptr 2 0 0 1]),(223,.int .i64 o)]++E
noncomputable def iw1 (nd:Ins) (rl:List Int) (k:Int) (ts:List Int):List Int:=if za rl k=1 then ts.set (za [nd.A,nd.B,nd.C,nd.D] k).toNat (if nd.Op=41 then 3 else yT nd.Op) else ts
noncomputable def iwN (nd:Ins) (rl:List Int):Nat->Int->List Int->List Int
 |0,_,ts=>ts
 |m+1,k,ts=>iwN nd rl m (k+1) (iw1 nd rl k ts)
theorem zAj (nd:Ins) (rl:List Int) (k:Int) (ts:List Int):(iw1 nd rl k ts).length=ts.length:=by unfold iw1;split<;>simp
theorem zmD (nd:Ins) (rl:List Int):∀ (m:Nat) (k:Int) (ts:List Int),(iwN nd rl m k ts).length=ts.length
 |0,_,_=>rfl
 |m+1,k,ts=>by rw [iwN,zmD nd rl m,zAj]
structure WrH (nd:Ins) (n:Nat) (gp:PV) (G:List Int->zd) (N:Nat) (ed:zI):Prop where
 c3:∀ t,(G t)[3]?=some (.cells 5 [nd.cells])
 c6:∀ t,(G t)[6]?=some (.cells 1 (ym t))
 c8:∀ t,(G t)[8]?=some (.cells 3 [[.bool true,.sl 6 0 n n,gp]])
 s6:∀ t t',(G t).set 6 (.cells 1 (ym t'))=G t'
 len:∀ t,(G t).length=N
 ed:∀ e∈ed,e.2<N
theorem zxw {ps:List zc} {f:zc} {a:Int} {p q tkp:PV} {rl:List Int} {L m:Nat} {b:Bool} {E:zk} {nd:Ins} {n:Nat} {gp:PV} {G:List Int->zd} {N:Nat} {ed:zI} (hE:zjH E) (hrl:rl.length=4) (h:WrH nd n gp G N ed) (hn:n<=1048576)
  (hfit:∀ k:Int,0<=k->k<4->za rl k=1->0<=za [nd.A,nd.B,nd.C,nd.D] k/\za [nd.A,nd.B,nd.C,nd.D] k<n) (ts:List Int) (htn:ts.length=n):
  EV A (.loop (z8 4)) ⟨yF ps f a p q tkp rl L m b nd.Op E++[(29,.ptr (L+5) 0 0 1),(284,zN rl),(285,.int .i64 0)],[],G ts,ed⟩=some (.exit 10,⟨yF ps f a p q tkp rl L m b nd.Op E++[(29,.ptr (L+5) 0 0 1),(284,zN rl),(285,.int .i64 4)],[],G (iwN nd rl 4 0 ts),ed⟩):=by
 have key:=uE (P:=A) (body:=(z8 4)) (λ (s:Int×List Int)=>(⟨yF ps f a p q tkp rl L m b nd.Op E++[(29,.ptr (L+5) 0 0 1),(284,zN rl),(285,.int .i64 s.1)],[],G s.2,ed⟩:St)) (λ s=>(0<=s.1/\s.1<=4)/\s.2.length=n) (λ s=>(4-s.1).toNat)
  (λ s=>(.exit 10,(⟨yF ps f a p q tkp rl L m b nd.Op E++[(29,.ptr (L+5) 0 0 1),(284,zN rl),(285,.int .i64 4)],[],G (iwN nd rl (4-s.1).toNat s.1 s.2),ed⟩:St))) ?_ (0,ts) ⟨⟨by simp,by simp⟩,htn⟩
 ·exact key
 rintro ⟨k,ts⟩ ⟨⟨k0,k4⟩,hl⟩
 simp only at k0 k4 hl ⊢
 have htr:∀ t roots,trim N roots (G t) ed=(G t,ed):=λ t roots=>by rw [<-h.len t];exact kg (by rw [h.len t];exact h.ed) roots
 by_cases ck:k<4
 ·right
  obtain ⟨j,hj⟩:∃ j,(4-k).toNat=j+1:=⟨(4-(k+1)).toNat,by omega⟩
  have hj2:(4-(k+1)).toNat=j:=by omega
  have hfk:=hfit k k0 ck
  have t1:=wd k0 (by omega:k<rl.length)
  have t2:=wd (l:=[nd.A,nd.B,nd.C,nd.D]) k0 (by simpa using ck)
  obtain ⟨r,hr⟩:∃ r,za rl k=r:=⟨_,rfl⟩
  obtain ⟨x,hx⟩:∃ x,za [nd.A,nd.B,nd.C,nd.D] k=x:=⟨_,rfl⟩
  rw [hr] at t1 hfk
  rw [hx] at t2 hfk
  have hF:=v9 nd
  have hg:=zwZ nd.Op
  have c3:=h.c3
  have c6:=h.c6
  have c8:=h.c8
  have s6:=h.s6
  have hlen:=h.len
  simp only [Ins.cells,zN,aM,bA] at t1 t2 hF c3
  by_cases hr1:r=1
  ·obtain ⟨x0,x1⟩:=hfk hr1
   have x2:x<ts.length:=by omega
   subst hr1
   by_cases h41:nd.Op=41
   ·have hv:iw1 nd rl k ts=ts.set x.toNat 3:=by simp [iw1,hr,hx,h41]
    have hss:(ts.set x.toNat (yT nd.Op)).set x.toNat 3=ts.set x.toNat 3:=by simp
    have hsl:(ts.set x.toNat (yT nd.Op)).length=n:=by rw [bI];exact hl
    obtain ⟨st',e1,e2⟩:∃ st',EV A (z8 4) ⟨yF ps f a p q tkp rl L m b nd.Op E++[(29,.ptr (L+5) 0 0 1),(284,zN rl),(285,.int .i64 k)],[],G ts,ed⟩=some (.normal,st')/\(⟨yF ps f a p q tkp rl L m b nd.Op E++[(29,.ptr (L+5) 0 0 1),(284,zN rl),(285,.int .i64 k)],[],G ts,ed⟩:St).next st'=⟨yF ps f a p q tkp rl L m b nd.Op E++[(29,.ptr (L+5) 0 0 1),(284,zN rl),(285,.int .i64 (k+1))],[],G (ts.set x.toNat 3),ed⟩:=by
     rcases hE with rfl|rfl|⟨b',rfl⟩<;>exact ⟨_,by (simp -implicitDefEqProofs +contextual (disch:=omega) only [V2,zh,yF,z7,aB,aA,zN,Ins.cells, ↓XD,XU, ↓reduceIte,sevalprocAttr,k0,ck,t1,t2,hF,hg,c3,c6,c8,s6,hl,x0,x1,x2,hss,hsl,eq_true h41])<;>rfl,by simp [St.next,htr,hlen,zN]⟩
    exact ⟨(k+1,ts.set x.toNat 3),st',⟨⟨by simp only;omega,by simp only;omega⟩,by simpa using hl⟩,by simp only;omega,e1,e2,by simp only [hj,hj2,iwN,hv]⟩
   ·have hv:iw1 nd rl k ts=ts.set x.toNat (yT nd.Op):=by simp [iw1,hr,hx,h41]
    obtain ⟨st',e1,e2⟩:∃ st',EV A (z8 4) ⟨yF ps f a p q tkp rl L m b nd.Op E++[(29,.ptr (L+5) 0 0 1),(284,zN rl),(285,.int .i64 k)],[],G ts,ed⟩=some (.normal,st')/\(⟨yF ps f a p q tkp rl L m b nd.Op E++[(29,.ptr (L+5) 0 0 1),(284,zN rl),(285,.int .i64 k)],[],G ts,ed⟩:St).next st'=⟨yF ps f a p q tkp rl L m b nd.Op E++[(29,.ptr (L+5) 0 0 1),(284,zN rl),(285,.int .i64 (k+1))],[],G (ts.set x.toNat (yT nd.Op)),ed⟩:=by
     rcases hE with rfl|rfl|⟨b',rfl⟩<;>exact ⟨_,by (simp -implicitDefEqProofs +contextual (disch:=omega) only [V2,zh,yF,z7,aB,aA,zN,Ins.cells, ↓XD,XU, ↓reduceIte,sevalprocAttr,k0,ck,t1,t2,hF,hg,c3,c6,c8,s6,hl,x0,x1,x2,eq_false h41])<;>rfl,by simp [St.next,htr,hlen,zN]⟩
    exact ⟨(k+1,ts.set x.toNat (yT nd.Op)),st',⟨⟨by simp only;omega,by simp only;omega⟩,by simpa using hl⟩,by simp only;omega,e1,e2,by simp only [hj,hj2,iwN,hv]⟩
  ·have hv:iw1 nd rl k ts=ts:=by simp [iw1,hr,hr1]
   obtain ⟨st',e1,e2⟩:∃ st',EV A (z8 4) ⟨yF ps f a p q tkp rl L m b nd.Op E++[(29,.ptr (L+5) 0 0 1),(284,zN rl),(285,.int .i64 k)],[],G ts,ed⟩=some (.normal,st')/\(⟨yF ps f a p q tkp rl L m b nd.Op E++[(29,.ptr (L+5) 0 0 1),(284,zN rl),(285,.int .i64 k)],[],G ts,ed⟩:St).next st'=⟨yF ps f a p q tkp rl L m b nd.Op E++[(29,.ptr (L+5) 0 0 1),(284,zN rl),(285,.int .i64 (k+1))],[],G (ts),ed⟩:=by
    rcases hE with rfl|rfl|⟨b',rfl⟩<;>exact ⟨_,by (simp -implicitDefEqProofs +contextual (disch:=omega) only [V2,zh,yF,z7,aB,aA,zN,Ins.cells, ↓XD,XU, ↓reduceIte,sevalprocAttr,k0,ck,t1,t2,hF,hg,c3,c6,c8,s6,hl,hr1])<;>rfl,by simp [St.next,htr,hlen,zN]⟩
   exact ⟨(k+1,ts),st',⟨⟨by simp only;omega,by simp only;omega⟩,hl⟩,by simp only;omega,e1,e2,by simp only [hj,hj2,iwN,hv]⟩
 ·left
  have:k=4:=by omega
  subst this
  refine ⟨?_,by simp⟩
  rcases hE with rfl|rfl|⟨b',rfl⟩<;>(simp -implicitDefEqProofs +contextual (disch:=omega) only [V2,zh,yF,z7,aB,aA, ↓XD,XU, ↓reduceIte,sevalprocAttr])<;>rfl
theorem zij {n:Nat} {roots:List PV} {H l:zd} {ed:zI} (hb:bare n (zn roots)=true) (hn:H.length=n) (he:∀ e∈ed,e.2<n):trim n roots (H++l) ed=(H,ed):=by
 subst hn
 have h1:(ed.all λ e=>decide (H.length<=e.1)||decide (e.2<H.length))=true:=by
  rw [aZ];intro e h;simp [he e h]
 have h2:ed.filter (λ e=>decide (e.2<H.length))=ed:=dX.2 (by intro e h;simpa using he e h)
 rw [trim,hb,h1,h2]
 simp
abbrev xA (ps:List zc) (f:zc) (a:Int) (p q tkp:PV) (rl:List Int) (L:Nat) (m:Nat) (b:Bool) (o:Int) (E:zk) (i:Int):zk:=yF ps f a p q tkp rl L m b o E++[(29,.ptr (L+5) 0 0 1),(284,zN rl),(285,.int .i64 4),(322,q),(323,.int .i64 m),(324,.int .i64 i)]
theorem zr7 (ps:List zc) (f:zc) (a:Int) (p q tkp:PV) (rl:List Int) (L m:Nat) (b:Bool) (o:Int) (E:zk) (ii:Int) (hE:zjH E) (N:Nat) (K:zd) (ed:zI) (he:∀ e∈ed,e.2<K.length) (tk:List Int) (hs:vt K tkp tk) (hb:tk.length<=1048576) (g:Gd) (hg:K[N]?=some (.cells 3 [g.cells])):match z9 (λ (j:Int)=>za tk j<g.Keep) 0 tk.length with|some j=>∃ st,EV A (.loop (z8 6)) (⟨xA ps f a p q tkp rl L m b o E ii++[(33,.ptr N 0 0 1),(331,tkp),(332,.int .i64 tk.length),(333,.int .i64 (0))],[],K,ed⟩:St)=some (.ret,st)/\st.per.get 8=.int .i64 12/\st.per.get 9=.nils|none=>EV A (.loop (z8 6)) (⟨xA ps f a p q tkp rl L m b o E ii++[(33,.ptr N 0 0 1),(331,tkp),(332,.int .i64 tk.length),(333,.int .i64 (0))],[],K,ed⟩:St)=some (zp.exit 14,(⟨xA ps f a p q tkp rl L m b o E ii++[(33,.ptr N 0 0 1),(331,tkp),(332,.int .i64 tk.length),(333,.int .i64 (tk.length))],[],K,ed⟩:St)):=by
 refine yr (λ i=>(⟨xA ps f a p q tkp rl L m b o E ii++[(33,.ptr N 0 0 1),(331,tkp),(332,.int .i64 tk.length),(333,.int .i64 i)],[],K,ed⟩:St)) (λ (j:Int)=>za tk j<g.Keep) (λ (j:Int) (st:St)=>st.per.get 8=.int .i64 12/\st.per.get 9=.nils) (zp.exit 14,(⟨xA ps f a p q tkp rl L m b o E ii++[(33,.ptr N 0 0 1),(331,tkp),(332,.int .i64 tk.length),(333,.int .i64 (tk.length))],[],K,ed⟩:St)) (0) (tk.length) ?_ ?_ ?_ (0) (by omega) (by omega)
 ·intro i hi hn hp
  obtain ⟨ad,ha,ha2⟩:=hs.idx hi hn;have htr:=λ roots=>kg (H:=K) (ed:=ed) he roots;simp only [Gd.cells] at hg
  rcases hE with rfl|rfl|⟨b',rfl⟩<;>refine ⟨_,by (simp -implicitDefEqProofs +contextual (disch:=omega) only [Q0,zh,xA,yF,z7,aB,aA, ↓XD,XU, ↓reduceIte,sevalprocAttr,ha,ha2,hg,hn,eq_false hp])<;>rfl,by simp [St.next,htr]⟩
 ·intro i hi hn hp
  obtain ⟨ad,ha,ha2⟩:=hs.idx hi hn;have htr:=λ roots=>kg (H:=K) (ed:=ed) he roots;simp only [Gd.cells] at hg
  rcases hE with rfl|rfl|⟨b',rfl⟩<;>refine ⟨_,by (simp -implicitDefEqProofs +contextual (disch:=omega) only [Q0,zh,xA,yF,z7,aB,aA, ↓XD,XU, ↓reduceIte,sevalprocAttr,ha,ha2,hg,hn,eq_true hp])<;>rfl,by simp [zk.get,zk.put],by simp [zk.get,zk.put]⟩
 ·rintro i hi rfl
  rcases hE with rfl|rfl|⟨b',rfl⟩<;>refine ⟨by (simp -implicitDefEqProofs +contextual (disch:=omega) only [Q0,zh,xA,yF,z7,aB,aA, ↓XD,XU, ↓reduceIte,sevalprocAttr,aL]),by simp⟩
theorem zr6 (ps:List zc) (f:zc) (a:Int) (p q tkp:PV) (rl:List Int) (L m:Nat) (b:Bool) (o:Int) (E:zk) (ii:Int) (hE:zjH E) (N:Nat) (K:zd) (ed:zI) (he:∀ e∈ed,e.2<K.length) (nt:Nat) (bs ts:List Int) (t1:xP p bs) (hbl:bs.length=ts.length) (htl:ts.length<=1048576) (c2:K[2]?=some (.cells 3 [zq p q])) (c6:K[6]?=some (.cells 1 (ym ts))) (gp:PV) (c8:K[8]?=some (.cells 3 [[.bool true,.sl 6 0 ts.length ts.length,gp]])) (kp:Int) (k0:0<=kp) (k1:kp<=ts.length):match z9 (λ (j:Int)=>¬za ts j=za bs j) 0 kp with|some j=>∃ st,EV A (.loop (z8 7)) (⟨xA ps f a p q tkp rl L m b o E ii++[(33,.ptr N 0 0 1),(331,tkp),(332,.int .i64 nt),(333,.int .i64 nt),(343,.int .i64 kp),(344,.int .i64 (0))],[],K,ed⟩:St)=some (.ret,st)/\st.per.get 8=.int .i64 12/\st.per.get 9=.nils|none=>EV A (.loop (z8 7)) (⟨xA ps f a p q tkp rl L m b o E ii++[(33,.ptr N 0 0 1),(331,tkp),(332,.int .i64 nt),(333,.int .i64 nt),(343,.int .i64 kp),(344,.int .i64 (0))],[],K,ed⟩:St)=some (zp.exit 16,(⟨xA ps f a p q tkp rl L m b o E ii++[(33,.ptr N 0 0 1),(331,tkp),(332,.int .i64 nt),(333,.int .i64 nt),(343,.int .i64 kp),(344,.int .i64 (kp))],[],K,ed⟩:St)):=by
 refine yr (λ i=>(⟨xA ps f a p q tkp rl L m b o E ii++[(33,.ptr N 0 0 1),(331,tkp),(332,.int .i64 nt),(333,.int .i64 nt),(343,.int .i64 kp),(344,.int .i64 i)],[],K,ed⟩:St)) (λ (j:Int)=>¬za ts j=za bs j) (λ (j:Int) (st:St)=>st.per.get 8=.int .i64 12/\st.per.get 9=.nils) (zp.exit 16,(⟨xA ps f a p q tkp rl L m b o E ii++[(33,.ptr N 0 0 1),(331,tkp),(332,.int .i64 nt),(333,.int .i64 nt),(343,.int .i64 kp),(344,.int .i64 (kp))],[],K,ed⟩:St)) (0) (kp) ?_ ?_ ?_ (0) (by omega) (by omega)
 ·intro i hi hn hp
  have hx:=λ H=>wP t1 H .i64 i hi (by omega);have htr:=λ roots=>kg (H:=K) (ed:=ed) he roots;have i1:i<ts.length:=(by omega);simp only [zq] at c2
  have hp':=aP.1 hp
  rcases hE with rfl|rfl|⟨b',rfl⟩<;>refine ⟨_,by (simp -implicitDefEqProofs +contextual (disch:=omega) only [Q1,zh,xA,yF,z7,aB,aA, ↓XD,XU, ↓reduceIte,sevalprocAttr,hx,c2,c6,c8,hi,i1,hn,hp'])<;>rfl,by simp [St.next,htr]⟩
 ·intro i hi hn hp
  have hx:=λ H=>wP t1 H .i64 i hi (by omega);have htr:=λ roots=>kg (H:=K) (ed:=ed) he roots;have i1:i<ts.length:=(by omega);simp only [zq] at c2
  rcases hE with rfl|rfl|⟨b',rfl⟩<;>refine ⟨_,by (simp -implicitDefEqProofs +contextual (disch:=omega) only [Q1,zh,xA,yF,z7,aB,aA, ↓XD,XU, ↓reduceIte,sevalprocAttr,hx,c2,c6,c8,hi,i1,hn,eq_false hp])<;>rfl,by simp [zk.get,zk.put],by simp [zk.get,zk.put]⟩
 ·rintro i hi rfl
  rcases hE with rfl|rfl|⟨b',rfl⟩<;>refine ⟨by (simp -implicitDefEqProofs +contextual (disch:=omega) only [Q1,zh,xA,yF,z7,aB,aA, ↓XD,XU, ↓reduceIte,sevalprocAttr,aL]),by simp⟩
def ziA (tk bs ts:List Int) (g:Gd):Prop:=g.Try=true/\((∃ r∈tk,r<g.Keep)\/∃ r:Int,0<=r/\r<g.Keep/\¬za bs r=za ts r)
theorem zvh {E:zk} (h:zjH E):∀ r∈zn (E.map λ e=>e.2),False:=by
 rcases h with rfl|rfl|⟨b,rfl⟩<;>(intro r hr;simp [zn,refs] at hr)
theorem zh8:∀ (a b:List PV),zn (a++b)=zn a++zn b
 |[],b=>rfl
 |x::a,b=>by rw [aB,zn,zn,zh8 a b,aY]
theorem zyW {ps:List zc} {f:zc} {a:Int} {p q tkp:PV} {rl:List Int} {L m:Nat} {b:Bool} {o:Int} {E:zk} {i:Int} {N:Nat} (hE:zjH E) (rp:refs p=[]) (rq:refs q=[]) (ht:∀ r∈refs tkp,r<N) (hN:L+6<=N) (h9:9<=L):bare N (zn ((xA ps f a p q tkp rl L m b o E i).map λ e=>e.2))=true:=by
 refine aZ.2 λ r hr=>?_
 have h5:∀ r∈refs (zN rl),r<N:=λ r hr=>by simp [refs,zf6] at hr
 have h6:=zvh hE
 simp only [xA,yF,z7,dU,zh8,aM,bA,zn,refs,rp,rq,bY,aA,aX,dE,aV,or_false,false_or] at hr
 simp only [cC]
 repeat' rcases hr with hr|hr
 all_goals first|exact ht r hr|exact h5 r hr|exact (h6 r hr).elim|omega|(exfalso;simp at hr)
theorem zAm (ps:List zc) (f:zc) (a:Int) (p q tkp:PV) (rl:List Int) (L:Nat) (b:Bool) (o:Int) (E:zk) (hE:zjH E) (K:zd) (ed:zI) (he:∀ e∈ed,e.2<K.length) (tk:List Int) (hs:vt K tkp tk) (hb:tk.length<=1048576) (bs ts:List Int) (t1:xP p bs) (hbl:bs.length=ts.length) (htl:ts.length<=1048576) (gs:List Gd) (t2:xo q gs) (hgl:gs.length<=1048576) (hk:∀ x∈gs,0<=x.Keep/\x.Keep<=ts.length) (c2:K[2]?=some (.cells 3 [zq p q])) (c6:K[6]?=some (.cells 1 (ym ts))) (gp:PV) (c8:K[8]?=some (.cells 3 [[.bool true,.sl 6 0 ts.length ts.length,gp]])) (hN:L+6<=K.length) (h9:9<=L):match z9 (λ (j:Int)=>ziA tk bs ts (za gs j)) 0 gs.length with|some j=>∃ st,EV A (.loop (z8 5)) (⟨xA ps f a p q tkp rl L gs.length b o E (0),[],K,ed⟩:St)=some (.ret,st)/\st.per.get 8=.int .i64 12/\st.per.get 9=.nils|none=>EV A (.loop (z8 5)) (⟨xA ps f a p q tkp rl L gs.length b o E (0),[],K,ed⟩:St)=some (zp.exit 12,(⟨xA ps f a p q tkp rl L gs.length b o E (gs.length),[],K,ed⟩:St)):=by
 refine yr (λ i=>(⟨xA ps f a p q tkp rl L gs.length b o E i,[],K,ed⟩:St)) (λ (j:Int)=>ziA tk bs ts (za gs j)) (λ (j:Int) (st:St)=>st.per.get 8=.int .i64 12/\st.per.get 9=.nils) (zp.exit 12,(⟨xA ps f a p q tkp rl L gs.length b o E (gs.length),[],K,ed⟩:St)) (0) (gs.length) ?_ ?_ ?_ (0) (by omega) (by omega)
 ·intro i hi hn hp
  have hx:=λ H=>xR t2 H .i64 i hi hn;obtain ⟨g,hgd⟩:∃ g,za gs i=g:=⟨_,rfl⟩;have hkg:=hk g (hgd▸jv hi hn);rw [hgd] at hx hp;have he':∀ e∈ed,e.2<(K++[zZ.cells 3 [g.cells]]).length:=λ e h=>(by have:=he e h;simp;omega);have hbare:=λ j=>zyW (ps:=ps) (f:=f) (a:=a) (rl:=rl) (m:=gs.length) (b:=b) (o:=o) (i:=j) hE (yB t1) (yI t2) hs.lt hN h9;have htr:=λ X j=>zij (l:=[X]) (hbare j) rfl he;have hta:=zr7 ps f a p q tkp rl L gs.length b o E i hE K.length (K++[.cells 3 [g.cells]]) ed he' tk (hs.keep λ r hr=>aD (hs.lt r hr)) hb g (xp _ _);have hke:=zr6 ps f a p q tkp rl L gs.length b o E i hE K.length (K++[.cells 3 [g.cells]]) ed he' tk.length bs ts t1 hbl htl (zY _ _ c2) (zY _ _ c6) gp (zY _ _ c8) g.Keep hkg.1 hkg.2;have hlt:=hs.len;have hgB:(K++[zZ.cells 3 [g.cells]])[K.length]?=some (.cells 3 [g.cells]):=xp _ _;simp only [Gd.cells] at hta hke hx hgB htr
  simp only [xA,yF,z7] at htr
  cases ht:g.Try with
  |false=>
   rw [ht] at hx hgB
   rcases hE with rfl|rfl|⟨b',rfl⟩<;>simp only [aB,aA,aM,bA] at htr<;>refine ⟨_,by (simp -implicitDefEqProofs +contextual (disch:=omega) only [Xq,zh,xA,yF,z7,aB,aA, ↓XD,XU, ↓reduceIte,sevalprocAttr,hx,hn,ht,hgB])<;>rfl,by simp [St.next,htr]⟩
  |true=>
   rw [ht] at hx hgB hta hke
   have n1:z9 (λ j=>za tk j<g.Keep) 0 tk.length=none:=by
    cases h:z9 (λ j=>za tk j<g.Keep) 0 tk.length with
    |none=>rfl
    |some j=>obtain ⟨j0,j1,j2,_⟩:=xE.1 h;exact absurd ⟨ht,.inl ⟨_,jv j0 j1,j2⟩⟩ hp
   have n2:z9 (λ j=>¬za ts j=za bs j) 0 g.Keep=none:=by
    cases h:z9 (λ j=>¬za ts j=za bs j) 0 g.Keep with
    |none=>rfl
    |some j=>obtain ⟨j0,j1,j2,_⟩:=xE.1 h;exact absurd ⟨ht,.inr ⟨j,j0,j1,λ e=>j2 e.symm⟩⟩ hp
   rw [n1] at hta
   rw [n2] at hke
   simp only [xA,yF,z7] at hta hke
   rcases hE with rfl|rfl|⟨b',rfl⟩<;>simp only [aB,aA,aM,bA] at htr hta hke<;>refine ⟨_,by (simp -implicitDefEqProofs +contextual (disch:=omega) only [Xq,zh,xA,yF,z7,aB,aA, ↓XD,XU, ↓reduceIte,sevalprocAttr,hx,hn,ht,hgB,hlt,hta,hke])<;>rfl,by simp [St.next,htr]⟩
 ·intro i hi hn hp
  have hx:=λ H=>xR t2 H .i64 i hi hn;obtain ⟨g,hgd⟩:∃ g,za gs i=g:=⟨_,rfl⟩;have hkg:=hk g (hgd▸jv hi hn);rw [hgd] at hx hp;have he':∀ e∈ed,e.2<(K++[zZ.cells 3 [g.cells]]).length:=λ e h=>(by have:=he e h;simp;omega);have hbare:=λ j=>zyW (ps:=ps) (f:=f) (a:=a) (rl:=rl) (m:=gs.length) (b:=b) (o:=o) (i:=j) hE (yB t1) (yI t2) hs.lt hN h9;have htr:=λ X j=>zij (l:=[X]) (hbare j) rfl he;have hta:=zr7 ps f a p q tkp rl L gs.length b o E i hE K.length (K++[.cells 3 [g.cells]]) ed he' tk (hs.keep λ r hr=>aD (hs.lt r hr)) hb g (xp _ _);have hke:=zr6 ps f a p q tkp rl L gs.length b o E i hE K.length (K++[.cells 3 [g.cells]]) ed he' tk.length bs ts t1 hbl htl (zY _ _ c2) (zY _ _ c6) gp (zY _ _ c8) g.Keep hkg.1 hkg.2;have hlt:=hs.len;have hgB:(K++[zZ.cells 3 [g.cells]])[K.length]?=some (.cells 3 [g.cells]):=xp _ _;simp only [Gd.cells] at hta hke hx hgB htr
  obtain ⟨ht,hp⟩:=hp
  rw [ht] at hx hgB hta hke
  simp only [xA,yF,z7] at hta hke
  cases h1:z9 (λ j=>za tk j<g.Keep) 0 tk.length with
  |some j=>
   rw [h1] at hta
   obtain ⟨st,hta,g8,g9⟩:=hta
   rcases hE with rfl|rfl|⟨b',rfl⟩<;>simp only [aB,aA] at hta<;>exact ⟨st,by (simp -implicitDefEqProofs +contextual (disch:=omega) only [Xq,zh,xA,yF,z7,aB,aA, ↓XD,XU, ↓reduceIte,sevalprocAttr,hx,hn,ht,hgB,hlt,hta]),g8,g9⟩
  |none=>
   rw [h1] at hta
   cases h2:z9 (λ j=>¬za ts j=za bs j) 0 g.Keep with
   |some j=>
    rw [h2] at hke
    obtain ⟨st,hke,g8,g9⟩:=hke
    rcases hE with rfl|rfl|⟨b',rfl⟩<;>simp only [aB,aA] at hta hke<;>exact ⟨st,by (simp -implicitDefEqProofs +contextual (disch:=omega) only [Xq,zh,xA,yF,z7,aB,aA, ↓XD,XU, ↓reduceIte,sevalprocAttr,hx,hn,ht,hgB,hlt,hta,hke]),g8,g9⟩
   |none=>
    exfalso
    rcases hp with ⟨r,hr,h3⟩|⟨r,r0,r1,h3⟩
    ·obtain ⟨j,j0,j1,rfl⟩:=Xs hr;exact y8.1 h1 j j0 j1 h3
    ·exact y8.1 h2 r r0 r1 λ e=>h3 e.symm
 ·rintro i hi rfl
  rcases hE with rfl|rfl|⟨b',rfl⟩<;>refine ⟨by (simp -implicitDefEqProofs +contextual (disch:=omega) only [Xq,zh,xA,yF,z7,aB,aA, ↓XD,XU, ↓reduceIte,sevalprocAttr,aL]),by simp⟩
end Go.Proofs.Tryd.Av
end
section
set_option maxRecDepth 10000
set_option maxHeartbeats 4000000
namespace Go.Proofs.Tryd.Av
open Go Go.Av
def right:AC->AC
 |.seq _ b=>b
 |c=>c
noncomputable def Qa:AC:=right (right (right (right (right wa))))
noncomputable def Q':AC:=right (right (right (right (right (right (right Qa))))))
noncomputable def WP:AC:=right (right (right (right Q')))
noncomputable def Jk:AC:=right (right WP)
theorem zsh:wa=(AC.seq (AC.region false (zw 0)) (AC.seq (AC.region false (zw 1)) (AC.seq (AC.region false (zw 2)) (AC.seq (AC.region false (zw 3)) (AC.seq ((AC.region false (zw 4)).seq (AC.block 0 (z8 0).loop)) Qa))))):=by unfold Qa;rw [U1];rfl
theorem wI:Qa=(AC.seq ((AC.region false (zw 53)).seq (AC.cond true (zy.per 199) (AC.region false (zw 54)) AC.skip)) (AC.seq (AC.region false (zw 55)) (AC.seq ((AC.region false (zw 56)).seq ((AC.region false (zw 57)).seq (AC.cond true (zy.per 210) (AC.region false (zw 58)) AC.skip))) (AC.seq (AC.region false (zw 59)) (AC.seq (AC.region false (zw 60)) (AC.seq ((AC.region false (zw 61)).seq (AC.block 9 ((AC.region false (zw 62)).seq (AC.cond true (zy.per 224) ((AC.region false (zw 63)).seq (AC.cond true (zy.per 232) ((AC.region false (zw 64)).seq AC.ret) AC.skip)) (((AC.region false (zw 65)).seq (AC.cond false (zy.per 233) AC.skip ((AC.region false (zw 66)).seq (AC.cond false (zy.per 233) AC.skip (AC.region false (zw 67)))))).seq (AC.cond false (zy.per 233) ((AC.region false (zw 68)).seq (AC.cond true (zy.per 242) ((AC.region false (zw 69)).seq AC.ret) AC.skip)) (((AC.region false (zw 70)).seq (AC.cond false (zy.per 243) AC.skip (AC.region false (zw 71)))).seq (AC.cond false (zy.per 243) ((AC.region false (zw 72)).seq (AC.cond true (zy.per 249) ((AC.region false (zw 73)).seq AC.ret) AC.skip)) AC.skip)))))))) (AC.seq ((AC.region false (zw 74)).seq (AC.cond true (zy.per 278) ((AC.region false (zw 75)).seq AC.ret) AC.skip)) Q'))))))):=by unfold Q' Qa;rw [U1];rfl
theorem ziI:Q'=(AC.seq (AC.region false (zw 76)) (AC.seq ((AC.region false (zw 77)).seq (AC.block 10 (z8 4).loop)) (AC.seq ((AC.region false (zw 85)).seq (AC.cond true (zy.per 314) (AC.region false (zw 86)) AC.skip)) (AC.seq ((AC.region false (zw 87)).seq (AC.block 12 (z8 5).loop)) WP)))):=by unfold WP Q' Qa;rw [U1];rfl
theorem QY:WP=(AC.seq (AC.region false (zw 104)) (AC.seq ((AC.region false (zw 105)).seq (AC.block 18 (((AC.region false (zw 106)).seq (AC.cond false (zy.per 366) AC.skip (AC.region false (zw 107)))).seq (AC.cond false (zy.per 366) (AC.region false (zw 108)) ((AC.region false (zw 109)).seq (AC.cond true (zy.per 374) (AC.region false (zw 110)) ((AC.region false (zw 111)).seq (AC.cond true (zy.per 383) (AC.region false (zw 112)) ((AC.region false (zw 113)).seq (AC.cond true (zy.per 393) (AC.region false (zw 114)) AC.skip)))))))))) Jk)):=by unfold Jk WP Q' Qa;rw [U1];rfl
theorem QZ:Jk=(AC.seq (AC.region false (zw 115)) (AC.seq ((AC.region false (zw 116)).seq (AC.cond true (zy.per 417) (AC.region false (zw 117)) AC.skip)) (AC.seq ((AC.region false (zw 118)).seq (AC.block 19 ((AC.region false (zw 119)).seq (AC.cond true (zy.per 427) (AC.region false (zw 120)) (((AC.region false (zw 121)).seq (AC.cond false (zy.per 436) AC.skip ((AC.region false (zw 122)).seq (AC.cond false (zy.per 436) AC.skip ((AC.region false (zw 123)).seq (AC.cond false (zy.per 436) AC.skip (AC.region false (zw 124)))))))).seq (AC.cond false (zy.per 436) (AC.region false (zw 125)) ((AC.region false (zw 126)).seq (AC.cond true (zy.per 448) (AC.region false (zw 127)) ((AC.region false (zw 128)).seq (AC.cond true (zy.per 457) ((AC.region false (zw 129)).seq (((AC.region false (zw 130)).seq (AC.block 20 (z8 8).loop)).seq ((AC.region true (zw 134)).seq (AC.region false (zw 135))))) AC.skip)))))))))) (AC.seq (AC.region false (zw 136)) AC.ret)))):=by unfold Jk WP Q' Qa;rw [U1];rfl
end Go.Proofs.Tryd.Av
end
section
attribute [local congr] ite_congr
set_option maxRecDepth 10000
set_option maxHeartbeats 4000000
namespace Go.Proofs.Tryd.Av
open Go Go.Av Classical
abbrev ziE (ps:List zc) (f:zc) (a:Int) (p q:PV):zk:=[(0,code ps),(1,.agg f.cells),(2,.int .i64 a),(3,.agg (zq p q))]
theorem zyE {ps:List zc} {f:zc} {a:Int} {p q:PV} {s:ya} {nd:Ins} {rl:List Int} (g:zfG ps f nd p q rl s.Types.length) (t1:xP p s.Types) (t2:xo q s.Guards) (h2:s.Guards.length<=1048576) (a0:0<=a) (a1:a<f.Ins.length) (hb:f.Ins.length<=1048576) (hnd:za f.Ins a=nd):
  match Z_ ps rl nd s.Types with
  |none=>∃ st,EV A wa ⟨ziE ps f a p q,[],[],[]⟩=some (.ret,st)/\st.per.get 8=.int .i64 10/\st.per.get 9=.nils
  |some x=>∃ tkp H,w_ ps f nd p q s.Guards H x.1 tkp x.2/\EV A wa ⟨ziE ps f a p q,[],[],[]⟩=EV A Qa ⟨z7 ps f a p q tkp++[(51,zN rl),(52,.int .i64 4)],[],H,ed0⟩:=by
 have hcp:=zcI (r:=true) t1 t2 g.n1 h2
 have c1:=ut t1
 have c2:=yQ t2
 have k1:=jl t1
 have k2:=xf t2
 have rf1:=yB t1
 have rf2:=yI t2
 have z1:=λ d H=>vQ t1 d H
 have z2:=λ d H=>wl t2 d H
 have hL:=λ z H=>vg z H nd.Op
 simp only [g.ro] at hL
 have lv:=λ k=>Wv k s.Types
 have lg:=λ k=>Zb k s.Guards
 have hH:w_ ps f nd p q s.Guards [.cells 1 [[zb ps]],.cells 9 [f.cells],.cells 3 [zq p q],.cells 5 [nd.cells],.cells 3 [[.bool true,.sl 6 0 s.Types.length s.Types.length,.sl 7 0 s.Guards.length s.Guards.length]],.cells 3 [[.bool true,.sl 6 0 s.Types.length s.Types.length,.sl 7 0 s.Guards.length s.Guards.length]],.cells 1 (ym s.Types),.cells 3 (wE s.Guards),.cells 3 [[.bool true,.sl 6 0 s.Types.length s.Types.length,.sl 7 0 s.Guards.length s.Guards.length]]] s.Types .nils []:=
  ⟨rfl,rfl,rfl,rfl,rfl,rfl,rfl,.inl ⟨rfl,rfl⟩,λ r hr=>by cases hr⟩
 obtain ⟨r,e,hq⟩:=zA9 (at_:=a) g hH rfl
 simp only [z7,code,zb,zq,zc.cells,ups,ze,zj,zm,Ins.cells,aB,aA,ym,wE] at e hcp lv lg
 cases hr:Z_ ps rl nd s.Types with
 |none=>
  rw [hr] at hq
  obtain ⟨st,rfl,g8,g9⟩:=hq
  exact ⟨st,by simp -implicitDefEqProofs +contextual (disch:=omega) only [zsh,zh,ziE,j6,zq,zF,code,zb,zc.cells,ups,ze,zj,zm,Ins.cells, ↓XD,XU, ↓reduceIte,sevalprocAttr,c1,c2,k1,k2,rf1,rf2,hcp,hnd,a0,a1,hL,z1 6,z2 6,lv,lg,e],g8,g9⟩
 |some x=>
  rw [hr] at hq
  obtain ⟨tkp,H,rfl,hS⟩:=hq
  refine ⟨tkp,H,hS,?_⟩
  simp -implicitDefEqProofs +contextual (disch:=omega) only [zsh,zh,ziE,z7,aB,aA,j6,zq,zF,code,zb,zc.cells,ups,ze,zj,zm,Ins.cells, ↓XD,XU, ↓reduceIte,sevalprocAttr,c1,c2,k1,k2,rf1,rf2,hcp,hnd,a0,a1,hL,z1 6,z2 6,lv,lg,e]
section
def wJ (o:Int):zk:=if o=32 then [] else if o=34\/o=35\/o=36 then [(233,.bool true)] else [(233,.bool false),(243,.bool (decide (o=31\/o=33)))]
theorem zpA (o:Int):zjH (wJ o):=by
 unfold wJ
 split
 ·exact .inl rfl
 ·split
  ·exact .inr (.inl rfl)
  ·exact .inr (.inr ⟨_,rfl⟩)
section
variable {ps:List zc} {f:zc} {nd:Ins} {p q:PV} {gs:List Gd} {H:zd} {ts:List Int} {tkp:PV} {tk:List Int} {a:Int} {rl:List Int}
theorem w_.more (h:w_ ps f nd p q gs H ts tkp tk) (hb:tk.length<=1000) (y:Int):∃ p' H',xe H 1 8 tkp [[.int .i64 y]]=some (p',H',[])/\w_ ps f nd p q gs H' ts p' (tk++[y]):=by
 have hH:=yJ h.c8
 rcases h.tk with ⟨rfl,rfl⟩|⟨id,rfl,h1⟩
 ·refine ⟨_,_,x_ H 1 8 [[.int .i64 y]] (by simp),?_⟩
  have:=h.app [.cells 1 [[.int .i64 y]]]
  exact ⟨this.c0,this.c1,this.c2,this.c3,this.c6,this.c7,this.c8,.inr ⟨H.length,rfl,by rw [xp];rfl⟩,λ r hr=>by simp [refs] at hr;omega⟩
 ·have hid:=h.far id (by simp [refs])
  have:=Ym (by':=8) (n:=tk.length) h1 (by simp) (by omega) [.int .i64 y] rfl
  refine ⟨_,_,this,?_⟩
  have kp:∀ j,j<9->(H.set id (.cells 1 (ym tk++[[.int .i64 y]])))[j]?=H[j]?:=λ j hj=>aH (by omega)
  exact ⟨(kp 0 (by omega)).trans h.c0,(kp 1 (by omega)).trans h.c1,(kp 2 (by omega)).trans h.c2,(kp 3 (by omega)).trans h.c3,(kp 6 (by omega)).trans h.c6,(kp 7 (by omega)).trans h.c7,(kp 8 (by omega)).trans h.c8,.inr ⟨id,by simp,by rw [aK (yJ h1)];simp⟩,λ r hr=>by simp [refs] at hr;subst hr;exact hid⟩
def jK (nd:Ins) (tk:List Int):List Int:=if nd.Op=40 then tk++[nd.A] else tk
def WA (ps:List zc) (f:zc) (a:Int) (nd:Ins) (p q:PV) (gs:List Gd) (rl:List Int) (H:zd) (ts:List Int) (tkp:PV) (tk:List Int):Prop:=
 match change nd gs with
 |none=>∃ st,EV A Qa ⟨z7 ps f a p q tkp++[(51,zN rl),(52,.int .i64 4)],[],H,ed0⟩=some (.ret,st)/\st.per.get 8=.int .i64 11/\st.per.get 9=.nils
 |some _=>∃ tkp' H' b g,w_ ps f nd p q gs H' ts tkp' (jK nd tk)/\EV A Qa ⟨z7 ps f a p q tkp++[(51,zN rl),(52,.int .i64 4)],[],H,ed0⟩=EV A Q' ⟨yF ps f a p q tkp' rl H'.length gs.length b nd.Op (wJ nd.Op),[],H'++[.cells 3 [g]],ed0⟩
theorem zyz {bs:List Int} {o A' B' C' D':Int} (h:w_ ps f ⟨o,A',B',C',D'⟩ p q gs H ts tkp tk) (htk:tk.length<=1000) (t1:xP p bs) (t2:xo q gs) (hgl:gs.length<=1048576) (n32:¬o=32) (n34:¬o=34) (n35:¬o=35) (n36:¬o=36) (n31:¬o=31) (n33:¬o=33) (n40:¬o=40):WA ps f a ⟨o,A',B',C',D'⟩ p q gs rl H ts tkp tk:=by
 unfold WA
 rw [show change ⟨o,A',B',C',D'⟩ gs=some gs by simp [change,n32,n34,n35,n36,n31,n33,n40]]
 have c2:=yQ t2
 have k2:=xf t2
 have z1:=λ d H=>vQ t1 d H
 have z2:=λ d H=>wl t2 d H
 have lg:=wh t2
 have p2:=h.c2
 have p3:=h.c3
 have qA:∀ X:zZ,(H++[X])[2]?=some (.cells 3 [zq p q]):=λ X=>zY H [X] p2
 have qB:∀ X:zZ,(H++[X])[3]?=some (.cells 5 [Ins.cells ⟨o,A',B',C',D'⟩]):=λ X=>zY H [X] p3
 have qD:∀ X:zZ,(H++[X])[H.length]?=some X:=λ X=>xp _ _
 have qE:∀ X Y:zZ,(H++[X]).set H.length Y=H++[Y]:=λ X Y=>jc _ _ _
 have lA:=λ r=>wV (r:=r) (p:=p) t2 A' (by omega)
 have lB:=λ r=>wV (r:=r) (p:=p) t2 B' (by omega)
 simp only [zq,Ins.cells] at p2 p3 qA qB
 have htq:jK ⟨o,A',B',C',D'⟩ tk=tk:=by simp [jK,n40]
 rw [htq]
 by_cases hp:(0:Int)<gs.length
 ·have hi2:=λ H=>xR t2 H .i64 ((gs.length:Int)-1) (by omega) (by omega)
  simp only [Gd.cells] at hi2
  refine ⟨tkp,H,true,(za gs ((gs.length:Int)-1)).cells,h,?_⟩
  simp -implicitDefEqProofs +contextual (disch:=omega) only [wI,zh,z7,yF,wJ,aB,aA,zq,zF,Ins.cells,Gd.cells, ↓XD,XU, ↓reduceIte,sevalprocAttr,c2,k2,p2,p3,qA,qB,qD,qE,lg,lA,lB,z1 6,z2 6,z1 5,z2 5,hi2,eq_true hp,n32,n34,n35,n36,n31,n33,n40]
 ·have hz:gs.length=0:=by omega
  refine ⟨tkp,H,false,[.bool false,.int .i64 0,.int .i64 0],h,?_⟩
  simp -implicitDefEqProofs +contextual (disch:=omega) only [wI,zh,z7,yF,wJ,aB,aA,zq,zF,Ins.cells,Gd.cells, ↓XD,XU, ↓reduceIte,sevalprocAttr,c2,k2,p2,p3,qA,qB,qD,qE,lg,lA,lB,z1 6,z2 6,z1 5,z2 5,hz,n32,n34,n35,n36,n31,n33,n40]
theorem zCA {bs:List Int} {A' B' C' D':Int} (h:w_ ps f ⟨32,A',B',C',D'⟩ p q gs H ts tkp tk) (htk:tk.length<=1000) (t1:xP p bs) (t2:xo q gs) (hgl:gs.length<=1048576):WA ps f a ⟨32,A',B',C',D'⟩ p q gs rl H ts tkp tk:=by
 unfold WA
 have c2:=yQ t2
 have k2:=xf t2
 have z1:=λ d H=>vQ t1 d H
 have z2:=λ d H=>wl t2 d H
 have lg:=wh t2
 have p2:=h.c2
 have p3:=h.c3
 have qA:∀ X:zZ,(H++[X])[2]?=some (.cells 3 [zq p q]):=λ X=>zY H [X] p2
 have qB:∀ X:zZ,(H++[X])[3]?=some (.cells 5 [Ins.cells ⟨32,A',B',C',D'⟩]):=λ X=>zY H [X] p3
 have qD:∀ X:zZ,(H++[X])[H.length]?=some X:=λ X=>xp _ _
 have qE:∀ X Y:zZ,(H++[X]).set H.length Y=H++[Y]:=λ X Y=>jc _ _ _
 have lA:=λ r=>wV (r:=r) (p:=p) t2 A' (by omega)
 have lB:=λ r=>wV (r:=r) (p:=p) t2 B' (by omega)
 simp only [zq,Ins.cells] at p2 p3 qA qB
 by_cases hp:(0:Int)<gs.length
 ·have hi2:=λ H=>xR t2 H .i64 ((gs.length:Int)-1) (by omega) (by omega)
  have hne:¬gs=[]:=λ e=>by rw [e] at hp;simp at hp
  obtain ⟨gd,hgd⟩:∃ gd,za gs ((gs.length:Int)-1)=gd:=⟨_,rfl⟩
  rw [hgd] at hi2
  simp only [Gd.cells] at hi2
  cases ht:gd.Try with
  |false=>
   rw [ht] at hi2
   rw [show change ⟨32,A',B',C',D'⟩ gs=none by simp [change,hgd,ht]]
   refine ⟨_,by (simp -implicitDefEqProofs +contextual (disch:=omega) only [wI,zh,z7,yF,wJ,aB,aA,zq,zF,Ins.cells,Gd.cells, ↓XD,XU, ↓reduceIte,sevalprocAttr,c2,k2,p2,p3,qA,qB,qD,qE,lg,lA,lB,z1 6,z2 6,z1 5,z2 5,hi2,eq_true hp])<;>rfl,rfl,rfl⟩
  |true=>
   rw [ht] at hi2
   obtain ⟨gs',hch⟩:∃ x,change ⟨32,A',B',C',D'⟩ gs=some x:=⟨_,by simp [change,hne,hgd,ht];rfl⟩
   rw [hch]
   refine ⟨tkp,H,true,gd.cells,by simpa [jK] using h,?_⟩
   simp -implicitDefEqProofs +contextual (disch:=omega) only [wI,zh,z7,yF,wJ,aB,aA,zq,zF,Ins.cells,Gd.cells, ↓XD,XU, ↓reduceIte,sevalprocAttr,c2,k2,p2,p3,qA,qB,qD,qE,lg,lA,lB,z1 6,z2 6,z1 5,z2 5,hi2,eq_true hp,ht]
 ·have hz:gs.length=0:=by omega
  have he:gs=[]:=bT.1 hz
  rw [show change ⟨32,A',B',C',D'⟩ gs=none by simp [change,he]]
  refine ⟨_,by (simp -implicitDefEqProofs +contextual (disch:=omega) only [wI,zh,z7,yF,wJ,aB,aA,zq,zF,Ins.cells,Gd.cells, ↓XD,XU, ↓reduceIte,sevalprocAttr,c2,k2,p2,p3,qA,qB,qD,qE,lg,lA,lB,z1 6,z2 6,z1 5,z2 5,hz])<;>rfl,rfl,rfl⟩
theorem zCD {bs:List Int} {A' B' C' D':Int} (h:w_ ps f ⟨35,A',B',C',D'⟩ p q gs H ts tkp tk) (htk:tk.length<=1000) (t1:xP p bs) (t2:xo q gs) (hgl:gs.length<=1048576):WA ps f a ⟨35,A',B',C',D'⟩ p q gs rl H ts tkp tk:=by
 unfold WA
 have c2:=yQ t2
 have k2:=xf t2
 have z1:=λ d H=>vQ t1 d H
 have z2:=λ d H=>wl t2 d H
 have lg:=wh t2
 have p2:=h.c2
 have p3:=h.c3
 have qA:∀ X:zZ,(H++[X])[2]?=some (.cells 3 [zq p q]):=λ X=>zY H [X] p2
 have qB:∀ X:zZ,(H++[X])[3]?=some (.cells 5 [Ins.cells ⟨35,A',B',C',D'⟩]):=λ X=>zY H [X] p3
 have qD:∀ X:zZ,(H++[X])[H.length]?=some X:=λ X=>xp _ _
 have qE:∀ X Y:zZ,(H++[X]).set H.length Y=H++[Y]:=λ X Y=>jc _ _ _
 have lA:=λ r=>wV (r:=r) (p:=p) t2 A' (by omega)
 have lB:=λ r=>wV (r:=r) (p:=p) t2 B' (by omega)
 simp only [zq,Ins.cells] at p2 p3 qA qB
 by_cases hp:(0:Int)<gs.length
 ·have hi2:=λ H=>xR t2 H .i64 ((gs.length:Int)-1) (by omega) (by omega)
  have hne:¬gs=[]:=λ e=>by rw [e] at hp;simp at hp
  obtain ⟨gd,hgd⟩:∃ gd,za gs ((gs.length:Int)-1)=gd:=⟨_,rfl⟩
  rw [hgd] at hi2
  simp only [Gd.cells] at hi2
  cases ht:gd.Try with
  |true=>
   rw [ht] at hi2
   rw [show change ⟨35,A',B',C',D'⟩ gs=none by simp [change,hgd,ht]]
   refine ⟨_,by (simp -implicitDefEqProofs +contextual (disch:=omega) only [wI,zh,z7,yF,wJ,aB,aA,zq,zF,Ins.cells,Gd.cells, ↓XD,XU, ↓reduceIte,sevalprocAttr,c2,k2,p2,p3,qA,qB,qD,qE,lg,lA,lB,z1 6,z2 6,z1 5,z2 5,hi2,eq_true hp])<;>rfl,rfl,rfl⟩
  |false=>
   rw [ht] at hi2
   obtain ⟨gs',hch⟩:∃ x,change ⟨35,A',B',C',D'⟩ gs=some x:=⟨_,by simp [change,hne,hgd,ht];rfl⟩
   rw [hch]
   refine ⟨tkp,H,true,gd.cells,by simpa [jK] using h,?_⟩
   simp -implicitDefEqProofs +contextual (disch:=omega) only [wI,zh,z7,yF,wJ,aB,aA,zq,zF,Ins.cells,Gd.cells, ↓XD,XU, ↓reduceIte,sevalprocAttr,c2,k2,p2,p3,qA,qB,qD,qE,lg,lA,lB,z1 6,z2 6,z1 5,z2 5,hi2,eq_true hp,ht]
 ·have hz:gs.length=0:=by omega
  have he:gs=[]:=bT.1 hz
  rw [show change ⟨35,A',B',C',D'⟩ gs=none by simp [change,he]]
  refine ⟨_,by (simp -implicitDefEqProofs +contextual (disch:=omega) only [wI,zh,z7,yF,wJ,aB,aA,zq,zF,Ins.cells,Gd.cells, ↓XD,XU, ↓reduceIte,sevalprocAttr,c2,k2,p2,p3,qA,qB,qD,qE,lg,lA,lB,z1 6,z2 6,z1 5,z2 5,hz])<;>rfl,rfl,rfl⟩
theorem zCE {bs:List Int} {A' B' C' D':Int} (h:w_ ps f ⟨36,A',B',C',D'⟩ p q gs H ts tkp tk) (htk:tk.length<=1000) (t1:xP p bs) (t2:xo q gs) (hgl:gs.length<=1048576):WA ps f a ⟨36,A',B',C',D'⟩ p q gs rl H ts tkp tk:=by
 unfold WA
 have c2:=yQ t2
 have k2:=xf t2
 have z1:=λ d H=>vQ t1 d H
 have z2:=λ d H=>wl t2 d H
 have lg:=wh t2
 have p2:=h.c2
 have p3:=h.c3
 have qA:∀ X:zZ,(H++[X])[2]?=some (.cells 3 [zq p q]):=λ X=>zY H [X] p2
 have qB:∀ X:zZ,(H++[X])[3]?=some (.cells 5 [Ins.cells ⟨36,A',B',C',D'⟩]):=λ X=>zY H [X] p3
 have qD:∀ X:zZ,(H++[X])[H.length]?=some X:=λ X=>xp _ _
 have qE:∀ X Y:zZ,(H++[X]).set H.length Y=H++[Y]:=λ X Y=>jc _ _ _
 have lA:=λ r=>wV (r:=r) (p:=p) t2 A' (by omega)
 have lB:=λ r=>wV (r:=r) (p:=p) t2 B' (by omega)
 simp only [zq,Ins.cells] at p2 p3 qA qB
 by_cases hp:(0:Int)<gs.length
 ·have hi2:=λ H=>xR t2 H .i64 ((gs.length:Int)-1) (by omega) (by omega)
  have hne:¬gs=[]:=λ e=>by rw [e] at hp;simp at hp
  obtain ⟨gd,hgd⟩:∃ gd,za gs ((gs.length:Int)-1)=gd:=⟨_,rfl⟩
  rw [hgd] at hi2
  simp only [Gd.cells] at hi2
  cases ht:gd.Try with
  |true=>
   rw [ht] at hi2
   rw [show change ⟨36,A',B',C',D'⟩ gs=none by simp [change,hgd,ht]]
   refine ⟨_,by (simp -implicitDefEqProofs +contextual (disch:=omega) only [wI,zh,z7,yF,wJ,aB,aA,zq,zF,Ins.cells,Gd.cells, ↓XD,XU, ↓reduceIte,sevalprocAttr,c2,k2,p2,p3,qA,qB,qD,qE,lg,lA,lB,z1 6,z2 6,z1 5,z2 5,hi2,eq_true hp])<;>rfl,rfl,rfl⟩
  |false=>
   rw [ht] at hi2
   obtain ⟨gs',hch⟩:∃ x,change ⟨36,A',B',C',D'⟩ gs=some x:=⟨_,by simp [change,hne,hgd,ht];rfl⟩
   rw [hch]
   refine ⟨tkp,H,true,gd.cells,by simpa [jK] using h,?_⟩
   simp -implicitDefEqProofs +contextual (disch:=omega) only [wI,zh,z7,yF,wJ,aB,aA,zq,zF,Ins.cells,Gd.cells, ↓XD,XU, ↓reduceIte,sevalprocAttr,c2,k2,p2,p3,qA,qB,qD,qE,lg,lA,lB,z1 6,z2 6,z1 5,z2 5,hi2,eq_true hp,ht]
 ·have hz:gs.length=0:=by omega
  have he:gs=[]:=bT.1 hz
  rw [show change ⟨36,A',B',C',D'⟩ gs=none by simp [change,he]]
  refine ⟨_,by (simp -implicitDefEqProofs +contextual (disch:=omega) only [wI,zh,z7,yF,wJ,aB,aA,zq,zF,Ins.cells,Gd.cells, ↓XD,XU, ↓reduceIte,sevalprocAttr,c2,k2,p2,p3,qA,qB,qD,qE,lg,lA,lB,z1 6,z2 6,z1 5,z2 5,hz])<;>rfl,rfl,rfl⟩
theorem zCC {bs:List Int} {A' B' C' D':Int} (h:w_ ps f ⟨34,A',B',C',D'⟩ p q gs H ts tkp tk) (htk:tk.length<=1000) (t1:xP p bs) (t2:xo q gs) (hgl:gs.length<=1048576):WA ps f a ⟨34,A',B',C',D'⟩ p q gs rl H ts tkp tk:=by
 unfold WA
 have c2:=yQ t2
 have k2:=xf t2
 have z1:=λ d H=>vQ t1 d H
 have z2:=λ d H=>wl t2 d H
 have lg:=wh t2
 have p2:=h.c2
 have p3:=h.c3
 have qA:∀ X:zZ,(H++[X])[2]?=some (.cells 3 [zq p q]):=λ X=>zY H [X] p2
 have qB:∀ X:zZ,(H++[X])[3]?=some (.cells 5 [Ins.cells ⟨34,A',B',C',D'⟩]):=λ X=>zY H [X] p3
 have qD:∀ X:zZ,(H++[X])[H.length]?=some X:=λ X=>xp _ _
 have qE:∀ X Y:zZ,(H++[X]).set H.length Y=H++[Y]:=λ X Y=>jc _ _ _
 have lA:=λ r=>wV (r:=r) (p:=p) t2 A' (by omega)
 have lB:=λ r=>wV (r:=r) (p:=p) t2 B' (by omega)
 simp only [zq,Ins.cells] at p2 p3 qA qB
 by_cases hp:(0:Int)<gs.length
 ·have hi2:=λ H=>xR t2 H .i64 ((gs.length:Int)-1) (by omega) (by omega)
  have hne:¬gs=[]:=λ e=>by rw [e] at hp;simp at hp
  obtain ⟨gd,hgd⟩:∃ gd,za gs ((gs.length:Int)-1)=gd:=⟨_,rfl⟩
  rw [hgd] at hi2
  simp only [Gd.cells] at hi2
  cases ht:gd.Try with
  |true=>
   rw [ht] at hi2
   rw [show change ⟨34,A',B',C',D'⟩ gs=none by simp [change,hgd,ht]]
   refine ⟨_,by (simp -implicitDefEqProofs +contextual (disch:=omega) only [wI,zh,z7,yF,wJ,aB,aA,zq,zF,Ins.cells,Gd.cells, ↓XD,XU, ↓reduceIte,sevalprocAttr,c2,k2,p2,p3,qA,qB,qD,qE,lg,lA,lB,z1 6,z2 6,z1 5,z2 5,hi2,eq_true hp])<;>rfl,rfl,rfl⟩
  |false=>
   rw [ht] at hi2
   by_cases ha:ud gs A'
   ·obtain ⟨gs',hch⟩:∃ x,change ⟨34,A',B',C',D'⟩ gs=some x:=⟨_,by simp [change,hne,hgd,ht,ha];rfl⟩
    rw [hch]
    refine ⟨tkp,H,true,gd.cells,by simpa [jK] using h,?_⟩
    simp -implicitDefEqProofs +contextual (disch:=omega) only [wI,zh,z7,yF,wJ,aB,aA,zq,zF,Ins.cells,Gd.cells, ↓XD,XU, ↓reduceIte,sevalprocAttr,c2,k2,p2,p3,qA,qB,qD,qE,lg,lA,lB,z1 6,z2 6,z1 5,z2 5,hi2,eq_true hp,ht,ha]
   ·rw [show change ⟨34,A',B',C',D'⟩ gs=none by simp [change,hgd,ht,ha]]
    refine ⟨_,by (simp -implicitDefEqProofs +contextual (disch:=omega) only [wI,zh,z7,yF,wJ,aB,aA,zq,zF,Ins.cells,Gd.cells, ↓XD,XU, ↓reduceIte,sevalprocAttr,c2,k2,p2,p3,qA,qB,qD,qE,lg,lA,lB,z1 6,z2 6,z1 5,z2 5,hi2,eq_true hp,ha])<;>rfl,rfl,rfl⟩
 ·have hz:gs.length=0:=by omega
  have he:gs=[]:=bT.1 hz
  rw [show change ⟨34,A',B',C',D'⟩ gs=none by simp [change,he]]
  refine ⟨_,by (simp -implicitDefEqProofs +contextual (disch:=omega) only [wI,zh,z7,yF,wJ,aB,aA,zq,zF,Ins.cells,Gd.cells, ↓XD,XU, ↓reduceIte,sevalprocAttr,c2,k2,p2,p3,qA,qB,qD,qE,lg,lA,lB,z1 6,z2 6,z1 5,z2 5,hz])<;>rfl,rfl,rfl⟩
theorem zCz {bs:List Int} {A' B' C' D':Int} (h:w_ ps f ⟨31,A',B',C',D'⟩ p q gs H ts tkp tk) (htk:tk.length<=1000) (t1:xP p bs) (t2:xo q gs) (hgl:gs.length<=1048576):WA ps f a ⟨31,A',B',C',D'⟩ p q gs rl H ts tkp tk:=by
 unfold WA
 have c2:=yQ t2
 have k2:=xf t2
 have z1:=λ d H=>vQ t1 d H
 have z2:=λ d H=>wl t2 d H
 have lg:=wh t2
 have p2:=h.c2
 have p3:=h.c3
 have qA:∀ X:zZ,(H++[X])[2]?=some (.cells 3 [zq p q]):=λ X=>zY H [X] p2
 have qB:∀ X:zZ,(H++[X])[3]?=some (.cells 5 [Ins.cells ⟨31,A',B',C',D'⟩]):=λ X=>zY H [X] p3
 have qD:∀ X:zZ,(H++[X])[H.length]?=some X:=λ X=>xp _ _
 have qE:∀ X Y:zZ,(H++[X]).set H.length Y=H++[Y]:=λ X Y=>jc _ _ _
 have lA:=λ r=>wV (r:=r) (p:=p) t2 A' (by omega)
 have lB:=λ r=>wV (r:=r) (p:=p) t2 B' (by omega)
 simp only [zq,Ins.cells] at p2 p3 qA qB
 by_cases hp:(0:Int)<gs.length
 ·have hi2:=λ H=>xR t2 H .i64 ((gs.length:Int)-1) (by omega) (by omega)
  have hne:¬gs=[]:=λ e=>by rw [e] at hp;simp at hp
  obtain ⟨gd,hgd⟩:∃ gd,za gs ((gs.length:Int)-1)=gd:=⟨_,rfl⟩
  rw [hgd] at hi2
  simp only [Gd.cells] at hi2
  by_cases h50:(gs.length:Int)<50
  ·have h51:¬(50:Int)<=gs.length:=by omega
   by_cases ha:ud gs B'
   ·obtain ⟨gs',hch⟩:∃ x,change ⟨31,A',B',C',D'⟩ gs=some x:=⟨_,by simp [change,h50,ha];rfl⟩
    rw [hch]
    refine ⟨tkp,H,true,gd.cells,by simpa [jK] using h,?_⟩
    simp -implicitDefEqProofs +contextual (disch:=omega) only [wI,zh,z7,yF,wJ,aB,aA,zq,zF,Ins.cells,Gd.cells, ↓XD,XU, ↓reduceIte,sevalprocAttr,c2,k2,p2,p3,qA,qB,qD,qE,lg,lA,lB,z1 6,z2 6,z1 5,z2 5,hi2,eq_true hp,eq_false h51,ha]
   ·rw [show change ⟨31,A',B',C',D'⟩ gs=none by simp [change,h50,ha]]
    refine ⟨_,by (simp -implicitDefEqProofs +contextual (disch:=omega) only [wI,zh,z7,yF,wJ,aB,aA,zq,zF,Ins.cells,Gd.cells, ↓XD,XU, ↓reduceIte,sevalprocAttr,c2,k2,p2,p3,qA,qB,qD,qE,lg,lA,lB,z1 6,z2 6,z1 5,z2 5,hi2,eq_true hp,eq_false h51,ha])<;>rfl,rfl,rfl⟩
  ·have h51:(50:Int)<=gs.length:=by omega
   rw [show change ⟨31,A',B',C',D'⟩ gs=none by simp [change,h50]]
   refine ⟨_,by (simp -implicitDefEqProofs +contextual (disch:=omega) only [wI,zh,z7,yF,wJ,aB,aA,zq,zF,Ins.cells,Gd.cells, ↓XD,XU, ↓reduceIte,sevalprocAttr,c2,k2,p2,p3,qA,qB,qD,qE,lg,lA,lB,z1 6,z2 6,z1 5,z2 5,hi2,eq_true hp,eq_true h51])<;>rfl,rfl,rfl⟩
 ·have hz:gs.length=0:=by omega
  have he:gs=[]:=bT.1 hz
  have h51:¬(50:Int)<=0:=by omega
  have ha:ud gs B':=λ g hg=>by rw [he] at hg;cases hg
  obtain ⟨gs',hch⟩:∃ x,change ⟨31,A',B',C',D'⟩ gs=some x:=⟨_,by simp [change,he,ud];rfl⟩
  rw [hch]
  refine ⟨tkp,H,false,[.bool false,.int .i64 0,.int .i64 0],by simpa [jK] using h,?_⟩
  simp -implicitDefEqProofs +contextual (disch:=omega) only [wI,zh,z7,yF,wJ,aB,aA,zq,zF,Ins.cells,Gd.cells, ↓XD,XU, ↓reduceIte,sevalprocAttr,c2,k2,p2,p3,qA,qB,qD,qE,lg,lA,lB,z1 6,z2 6,z1 5,z2 5,hz,ha]
theorem zCB {bs:List Int} {A' B' C' D':Int} (h:w_ ps f ⟨33,A',B',C',D'⟩ p q gs H ts tkp tk) (htk:tk.length<=1000) (t1:xP p bs) (t2:xo q gs) (hgl:gs.length<=1048576):WA ps f a ⟨33,A',B',C',D'⟩ p q gs rl H ts tkp tk:=by
 unfold WA
 have c2:=yQ t2
 have k2:=xf t2
 have z1:=λ d H=>vQ t1 d H
 have z2:=λ d H=>wl t2 d H
 have lg:=wh t2
 have p2:=h.c2
 have p3:=h.c3
 have qA:∀ X:zZ,(H++[X])[2]?=some (.cells 3 [zq p q]):=λ X=>zY H [X] p2
 have qB:∀ X:zZ,(H++[X])[3]?=some (.cells 5 [Ins.cells ⟨33,A',B',C',D'⟩]):=λ X=>zY H [X] p3
 have qD:∀ X:zZ,(H++[X])[H.length]?=some X:=λ X=>xp _ _
 have qE:∀ X Y:zZ,(H++[X]).set H.length Y=H++[Y]:=λ X Y=>jc _ _ _
 have lA:=λ r=>wV (r:=r) (p:=p) t2 A' (by omega)
 have lB:=λ r=>wV (r:=r) (p:=p) t2 B' (by omega)
 simp only [zq,Ins.cells] at p2 p3 qA qB
 by_cases hp:(0:Int)<gs.length
 ·have hi2:=λ H=>xR t2 H .i64 ((gs.length:Int)-1) (by omega) (by omega)
  have hne:¬gs=[]:=λ e=>by rw [e] at hp;simp at hp
  obtain ⟨gd,hgd⟩:∃ gd,za gs ((gs.length:Int)-1)=gd:=⟨_,rfl⟩
  rw [hgd] at hi2
  simp only [Gd.cells] at hi2
  by_cases h50:(gs.length:Int)<50
  ·have h51:¬(50:Int)<=gs.length:=by omega
   by_cases ha:ud gs A'
   ·obtain ⟨gs',hch⟩:∃ x,change ⟨33,A',B',C',D'⟩ gs=some x:=⟨_,by simp [change,h50,ha];rfl⟩
    rw [hch]
    refine ⟨tkp,H,true,gd.cells,by simpa [jK] using h,?_⟩
    simp -implicitDefEqProofs +contextual (disch:=omega) only [wI,zh,z7,yF,wJ,aB,aA,zq,zF,Ins.cells,Gd.cells, ↓XD,XU, ↓reduceIte,sevalprocAttr,c2,k2,p2,p3,qA,qB,qD,qE,lg,lA,lB,z1 6,z2 6,z1 5,z2 5,hi2,eq_true hp,eq_false h51,ha]
   ·rw [show change ⟨33,A',B',C',D'⟩ gs=none by simp [change,h50,ha]]
    refine ⟨_,by (simp -implicitDefEqProofs +contextual (disch:=omega) only [wI,zh,z7,yF,wJ,aB,aA,zq,zF,Ins.cells,Gd.cells, ↓XD,XU, ↓reduceIte,sevalprocAttr,c2,k2,p2,p3,qA,qB,qD,qE,lg,lA,lB,z1 6,z2 6,z1 5,z2 5,hi2,eq_true hp,eq_false h51,ha])<;>rfl,rfl,rfl⟩
  ·have h51:(50:Int)<=gs.length:=by omega
   rw [show change ⟨33,A',B',C',D'⟩ gs=none by simp [change,h50]]
   refine ⟨_,by (simp -implicitDefEqProofs +contextual (disch:=omega) only [wI,zh,z7,yF,wJ,aB,aA,zq,zF,Ins.cells,Gd.cells, ↓XD,XU, ↓reduceIte,sevalprocAttr,c2,k2,p2,p3,qA,qB,qD,qE,lg,lA,lB,z1 6,z2 6,z1 5,z2 5,hi2,eq_true hp,eq_true h51])<;>rfl,rfl,rfl⟩
 ·have hz:gs.length=0:=by omega
  have he:gs=[]:=bT.1 hz
  have h51:¬(50:Int)<=0:=by omega
  have ha:ud gs A':=λ g hg=>by rw [he] at hg;cases hg
  obtain ⟨gs',hch⟩:∃ x,change ⟨33,A',B',C',D'⟩ gs=some x:=⟨_,by simp [change,he,ud];rfl⟩
  rw [hch]
  refine ⟨tkp,H,false,[.bool false,.int .i64 0,.int .i64 0],by simpa [jK] using h,?_⟩
  simp -implicitDefEqProofs +contextual (disch:=omega) only [wI,zh,z7,yF,wJ,aB,aA,zq,zF,Ins.cells,Gd.cells, ↓XD,XU, ↓reduceIte,sevalprocAttr,c2,k2,p2,p3,qA,qB,qD,qE,lg,lA,lB,z1 6,z2 6,z1 5,z2 5,hz,ha]
theorem zCF {bs:List Int} {A' B' C' D':Int} (h:w_ ps f ⟨40,A',B',C',D'⟩ p q gs H ts tkp tk) (htk:tk.length<=1000) (t1:xP p bs) (t2:xo q gs) (hgl:gs.length<=1048576):WA ps f a ⟨40,A',B',C',D'⟩ p q gs rl H ts tkp tk:=by
 unfold WA
 have c2:=yQ t2
 have k2:=xf t2
 have z1:=λ d H=>vQ t1 d H
 have z2:=λ d H=>wl t2 d H
 have lg:=wh t2
 have p2:=h.c2
 have p3:=h.c3
 have qA:∀ X:zZ,(H++[X])[2]?=some (.cells 3 [zq p q]):=λ X=>zY H [X] p2
 have qB:∀ X:zZ,(H++[X])[3]?=some (.cells 5 [Ins.cells ⟨40,A',B',C',D'⟩]):=λ X=>zY H [X] p3
 have qD:∀ X:zZ,(H++[X])[H.length]?=some X:=λ X=>xp _ _
 have qE:∀ X Y:zZ,(H++[X]).set H.length Y=H++[Y]:=λ X Y=>jc _ _ _
 have lA:=λ r=>wV (r:=r) (p:=p) t2 A' (by omega)
 have lB:=λ r=>wV (r:=r) (p:=p) t2 B' (by omega)
 simp only [zq,Ins.cells] at p2 p3 qA qB
 have hET:=zpk A'
 have r1:=λ H=>zj0 (.inl rfl:xP (yt [A']) [A']) H
 obtain ⟨p',H',e1,hS⟩:=h.more htk A'
 have u2:=hS.c2
 have u3:=hS.c3
 have qA:∀ X:zZ,(H'++[X])[2]?=some (.cells 3 [zq p q]):=λ X=>zY H' [X] u2
 have qB:∀ X:zZ,(H'++[X])[3]?=some (.cells 5 [Ins.cells ⟨40,A',B',C',D'⟩]):=λ X=>zY H' [X] u3
 have qD:∀ X:zZ,(H'++[X])[H'.length]?=some X:=λ X=>xp _ _
 have qE:∀ X Y:zZ,(H'++[X]).set H'.length Y=H'++[Y]:=λ X Y=>jc _ _ _
 simp only [zq,Ins.cells,aM,bA,yt,ym] at u2 u3 qA qB r1 hET
 rw [show change ⟨40,A',B',C',D'⟩ gs=some gs by simp [change]]
 by_cases hp:(0:Int)<gs.length
 ·have hi2:=λ H=>xR t2 H .i64 ((gs.length:Int)-1) (by omega) (by omega)
  have hne:¬gs=[]:=λ e=>by rw [e] at hp;simp at hp
  obtain ⟨gd,hgd⟩:∃ gd,za gs ((gs.length:Int)-1)=gd:=⟨_,rfl⟩
  rw [hgd] at hi2
  simp only [Gd.cells] at hi2
  refine ⟨p',H',true,gd.cells,by simpa [jK] using hS,?_⟩
  simp -implicitDefEqProofs +contextual (disch:=omega) only [wI,zh,z7,yF,wJ,aB,aA,zq,zF,Ins.cells,Gd.cells, ↓XD,XU, ↓reduceIte,sevalprocAttr,c2,k2,p2,p3,qA,qB,qD,qE,lg,lA,lB,z1 6,z2 6,z1 5,z2 5, ↓zG,zA,hET,λ H=>(r1 H).1,λ H=>(r1 H).2,e1,u2,u3,hi2,eq_true hp]
 ·have hz:gs.length=0:=by omega
  have he:gs=[]:=bT.1 hz
  refine ⟨p',H',false,[.bool false,.int .i64 0,.int .i64 0],by simpa [jK] using hS,?_⟩
  simp -implicitDefEqProofs +contextual (disch:=omega) only [wI,zh,z7,yF,wJ,aB,aA,zq,zF,Ins.cells,Gd.cells, ↓XD,XU, ↓reduceIte,sevalprocAttr,c2,k2,p2,p3,qA,qB,qD,qE,lg,lA,lB,z1 6,z2 6,z1 5,z2 5, ↓zG,zA,hET,λ H=>(r1 H).1,λ H=>(r1 H).2,e1,u2,u3,hz]
theorem zEh {bs:List Int} (h:w_ ps f nd p q gs H ts tkp tk) (htk:tk.length<=1000) (t1:xP p bs) (t2:xo q gs) (hgl:gs.length<=1048576):WA ps f a nd p q gs rl H ts tkp tk:=by
 obtain ⟨o,A',B',C',D'⟩:=nd
 by_cases n32:o=32
 ·subst n32;exact zCA h htk t1 t2 hgl
 by_cases n34:o=34
 ·subst n34;exact zCC h htk t1 t2 hgl
 by_cases n35:o=35
 ·subst n35;exact zCD h htk t1 t2 hgl
 by_cases n36:o=36
 ·subst n36;exact zCE h htk t1 t2 hgl
 by_cases n31:o=31
 ·subst n31;exact zCz h htk t1 t2 hgl
 by_cases n33:o=33
 ·subst n33;exact zCB h htk t1 t2 hgl
 by_cases n40:o=40
 ·subst n40;exact zCF h htk t1 t2 hgl
 exact zyz h htk t1 t2 hgl n32 n34 n35 n36 n31 n33 n40
end
end
section
abbrev zbL (n m L:Nat):zZ:=.cells 3 [[.bool true,.sl (L+3) 0 n n,.sl (L+4) 0 m m]]
abbrev bX (g:List PV) (ts:List Int) (gs:List Gd) (L:Nat):zd:=[.cells 3 [g],zbL ts.length gs.length L,zbL ts.length gs.length L,.cells 1 (ym ts),.cells 3 (wE gs),zbL ts.length gs.length L]
def bH (H:zd) (g:List PV) (ts:List Int) (gs:List Gd) (t:List Int):zd:=(H++bX g ts gs H.length).set 6 (.cells 1 (ym t))
abbrev ed1 (L:Nat):zI:=(L+2,L+3)::(L+2,L+4)::(L+1,L+4)::(L+1,L+3)::ed0
noncomputable def yb (nd:Ins) (rl:List Int) (ts:List Int):List Int:=if nd.Op=40 then (iwN nd rl 4 0 ts).set (nd.A+1).toNat 1 else iwN nd rl 4 0 ts
section
variable {ps:List zc} {f:zc} {nd:Ins} {p q:PV} {gs:List Gd} {H:zd} {ts:List Int} {tkp:PV} {tk:List Int} {a:Int} {rl:List Int}
theorem zzt (h:w_ ps f nd p q gs H ts tkp tk) (g:List PV):bH H g ts gs ts=H++bX g ts gs H.length:=zcb (zY _ _ h.c6)
theorem zkn (g:List PV) (t:List Int):(bH H g ts gs t).length=H.length+6:=by simp [bH]
theorem zed (g:List PV) (t:List Int) {j:Nat} (hj:j<H.length) (h6:¬j=6):(bH H g ts gs t)[j]?=H[j]?:=by
 rw [bH,aH (Ne.symm h6),aD hj]
theorem zoV (g:List PV) (t:List Int) (h9:9<=H.length) (j:Nat):(bH H g ts gs t)[H.length+j]?=(bX g ts gs H.length)[j]?:=by
 rw [bH,aH (by omega),wF]
theorem zyV (h:w_ ps f nd p q gs H ts tkp tk) (g:List PV):WrH nd ts.length (.sl 7 0 gs.length gs.length) (bH H g ts gs) (H.length+6) (ed1 H.length):=by
 have hH:=yJ h.c8
 refine ⟨λ t=>(zed g t (by omega) (by decide)).trans h.c3,λ t=>?_,λ t=>(zed g t (by omega) (by decide)).trans h.c8,λ t t'=>?_,λ t=>zkn g t,λ e he=>?_⟩
 ·rw [bH,aK (by simp;omega)]
 ·rw [bH,bH,dR]
 ·simp at he;rcases he with rfl|rfl|rfl|rfl|rfl|rfl|rfl|rfl<;>simp<;>omega
theorem zEi (h:w_ ps f nd p q gs H ts tkp tk) {bs:List Int} (t1:xP p bs) (t2:xo q gs) (hbl:bs.length=ts.length) (htl:ts.length<=1048576) (hgl:gs.length<=1048576) (htk:tk.length<=1048576) (hrl:rl.length=4) (hro:zE nd.Op=some rl) (g:List PV) (b:Bool)
  (hk:∀ x∈gs,0<=x.Keep/\x.Keep<=ts.length) (hfit:∀ k:Int,0<=k->k<4->za rl k=1->0<=za [nd.A,nd.B,nd.C,nd.D] k/\za [nd.A,nd.B,nd.C,nd.D] k<ts.length) (h40:nd.Op=40->0<=nd.A/\nd.A+1<ts.length):
  (Q7 gs tk bs (yb nd rl ts)->∃ st,EV A Q' ⟨yF ps f a p q tkp rl H.length gs.length b nd.Op (wJ nd.Op),[],H++[.cells 3 [g]],ed0⟩=some (.ret,st)/\st.per.get 8=.int .i64 12/\st.per.get 9=.nils)/\
  (¬Q7 gs tk bs (yb nd rl ts)->EV A Q' ⟨yF ps f a p q tkp rl H.length gs.length b nd.Op (wJ nd.Op),[],H++[.cells 3 [g]],ed0⟩=EV A WP ⟨xA ps f a p q tkp rl H.length gs.length b nd.Op (wJ nd.Op) gs.length,[],bH H g ts gs (yb nd rl ts),ed1 H.length⟩):=by
 have hE:=zpA nd.Op
 obtain ⟨E,hEE⟩:∃ E,wJ nd.Op=E:=⟨_,rfl⟩
 rw [hEE] at hE ⊢
 have hH:=yJ h.c8
 have h':=h.app [.cells 3 [g]]
 have hcp:=zcI (s:=⟨ts,gs⟩) (r:=true) (.inl rfl:xP (yt ts) ts) (.inl rfl:xo (gds gs) gs) htl hgl
 have e1:=jD (d:=4) h'.c6
 have e2:=kP (d:=4) h'.c7
 have e3:=jD (d:=5) h'.c6
 have e4:=kP (d:=5) h'.c7
 have hw:=zyV h g
 have l1:=λ k=>Wv k ts
 have l2:=λ k=>Zb k gs
 have hb4:=zxw (ps:=ps) (f:=f) (a:=a) (p:=p) (q:=q) (tkp:=tkp) (L:=H.length) (m:=gs.length) (b:=b) (rl:=rl) hE hrl hw htl hfit ts rfl
 rw [zzt h g] at hb4
 have n1:¬(H.length+5<H.length+3):=by omega
 have n2:¬(H.length+5<H.length+4):=by omega
 have lg:=wh t2
 have q3:∀ X:zd,(H++X)[3]?=some (.cells 5 [nd.cells]):=λ X=>zY H X h.c3
 have q8:=h'.c8
 have w3:=hw.c3
 have w6:=hw.c6
 have w8:=hw.c8
 have ws:=hw.s6
 have w2:∀ t,(bH H g ts gs t)[2]?=some (.cells 3 [zq p q]):=λ t=>(zed g t (by omega) (by decide)).trans h.c2
 have hil:(iwN nd rl 4 0 ts).length=ts.length:=zmD nd rl 4 0 ts
 have hlo:=zAm ps f a p q tkp rl H.length b nd.Op E hE (bH H g ts gs (yb nd rl ts)) (ed1 H.length) (by rw [zkn];exact hw.ed) tk ((h.tk.keep λ r hr=>by rw [zed g _ (h.tk.lt r hr) (by have:=h.far r hr;omega)])) htk bs (yb nd rl ts) t1 (by rw [hbl];unfold yb;split<;>simp [hil]) (by unfold yb;split<;>simp [hil]<;>omega) gs t2 hgl (by intro x hx;have:=hk x hx;unfold yb;split<;>simp [hil]<;>omega) (w2 _) (w6 _) (.sl 7 0 gs.length gs.length) (by rw [w8];unfold yb;split<;>simp [hil]) (by rw [zkn];omega) (by omega)
 have hL2:=λ z H=>vg z H nd.Op
 simp only [hro] at hL2
 obtain ⟨BB,hBB⟩:∃ BB,bH H g ts gs=BB:=⟨_,rfl⟩
 rw [hBB] at hlo w2 w3 w6 w8 ws hb4 ⊢
 simp only [xA,yF,z7,code,zb,zq,zc.cells,ups,ze,zj,zm,Ins.cells,bX,zbL,ed1] at hcp hb4 hlo q3 w2 w3 l1 l2
 have hlos:(∃ j:Int,0<=j/\j<gs.length/\ziA tk bs (yb nd rl ts) (za gs j))↔Q7 gs tk bs (yb nd rl ts):=by
  constructor
  ·rintro ⟨j,j0,j1,h1,h2⟩;exact ⟨_,jv j0 j1,h1,h2⟩
  ·rintro ⟨g,hg,h1,h2⟩;obtain ⟨j,j0,j1,rfl⟩:=Xs hg;exact ⟨j,j0,j1,h1,h2⟩
 refine ⟨λ hl=>?_,λ hl=>?_⟩
 ·obtain ⟨j,j0,j1,j2⟩:=hlos.2 hl
  cases hs:z9 (λ j=>ziA tk bs (yb nd rl ts) (za gs j)) 0 gs.length with
  |none=>exact absurd j2 (y8.1 hs j j0 j1)
  |some i=>
   rw [hs] at hlo
   obtain ⟨st,hlo,g8,g9⟩:=hlo
   refine ⟨st,?_,g8,g9⟩
   by_cases c40:nd.Op=40
   ·obtain ⟨y0,y1⟩:=h40 c40
    have y2:0<=nd.A+1:=by omega
    have hiw:yb nd rl ts=(iwN nd rl 4 0 ts).set (nd.A+1).toNat 1:=by rw [yb,if_pos c40]
    rw [hiw] at hlo
    rcases hE with rfl|rfl|⟨b',rfl⟩<;>simp only [aB,aA] at hlo hb4<;>simp -implicitDefEqProofs +contextual (disch:=omega) only [ziI,zh,j6,xA,yF,z7,aB,aA,zq,zF,code,zb,zc.cells,ups,ze,zj,zm,Ins.cells,bX,zbL,ed1,bZ,Nat.reduceAdd,eq_false n1,eq_false n2,bA, ↓XD,XU, ↓reduceIte,sevalprocAttr,lg,q3,q8,hcp,e1,e2,e3,e4,l1,l2,hL2,hb4,w2,w3,w6,w8,ws,hlo,hil,eq_true c40,y0,y1,y2]
   ·have hiw:yb nd rl ts=iwN nd rl 4 0 ts:=by rw [yb,if_neg c40]
    rw [hiw] at hlo
    rcases hE with rfl|rfl|⟨b',rfl⟩<;>simp only [aB,aA] at hlo hb4<;>simp -implicitDefEqProofs +contextual (disch:=omega) only [ziI,zh,j6,xA,yF,z7,aB,aA,zq,zF,code,zb,zc.cells,ups,ze,zj,zm,Ins.cells,bX,zbL,ed1,bZ,Nat.reduceAdd,eq_false n1,eq_false n2,bA, ↓XD,XU, ↓reduceIte,sevalprocAttr,lg,q3,q8,hcp,e1,e2,e3,e4,l1,l2,hL2,hb4,w2,w3,w6,w8,ws,hlo,hil,eq_false c40]
 ·have hs:z9 (λ j=>ziA tk bs (yb nd rl ts) (za gs j)) 0 gs.length=none:=by
   cases hs:z9 (λ j=>ziA tk bs (yb nd rl ts) (za gs j)) 0 gs.length with
   |none=>rfl
   |some j=>obtain ⟨j0,j1,j2,_⟩:=xE.1 hs;exact absurd (hlos.1 ⟨j,j0,j1,j2⟩) hl
  rw [hs] at hlo
  by_cases c40:nd.Op=40
  ·obtain ⟨y0,y1⟩:=h40 c40
   have y2:0<=nd.A+1:=by omega
   have hiw:yb nd rl ts=(iwN nd rl 4 0 ts).set (nd.A+1).toNat 1:=by rw [yb,if_pos c40]
   rw [hiw] at hlo ⊢
   rcases hE with rfl|rfl|⟨b',rfl⟩<;>simp only [aB,aA] at hlo hb4<;>simp -implicitDefEqProofs +contextual (disch:=omega) only [ziI,zh,j6,xA,yF,z7,aB,aA,zq,zF,code,zb,zc.cells,ups,ze,zj,zm,Ins.cells,bX,zbL,ed1,bZ,Nat.reduceAdd,eq_false n1,eq_false n2,bA, ↓XD,XU, ↓reduceIte,sevalprocAttr,lg,q3,q8,hcp,e1,e2,e3,e4,l1,l2,hL2,hb4,w2,w3,w6,w8,ws,hlo,hil,eq_true c40,y0,y1,y2]
  ·have hiw:yb nd rl ts=iwN nd rl 4 0 ts:=by rw [yb,if_neg c40]
   rw [hiw] at hlo ⊢
   rcases hE with rfl|rfl|⟨b',rfl⟩<;>simp only [aB,aA] at hlo hb4<;>simp -implicitDefEqProofs +contextual (disch:=omega) only [ziI,zh,j6,xA,yF,z7,aB,aA,zq,zF,code,zb,zc.cells,ups,ze,zj,zm,Ins.cells,bX,zbL,ed1,bZ,Nat.reduceAdd,eq_false n1,eq_false n2,bA, ↓XD,XU, ↓reduceIte,sevalprocAttr,lg,q3,q8,hcp,e1,e2,e3,e4,l1,l2,hL2,hb4,w2,w3,w6,w8,ws,hlo,hil,eq_false c40]
end
end
section
theorem zq8 {d:Nat} {H:zd} {id k m:Nat} {l:List Gd} (h:H[id]?=some (.cells 3 (wE l))) (hm:l.length=m) (hk:k<=m):Go.Av.frz (d+2) H (.sl id 0 k m)=gds (l.take k):=by
 subst hm
 show (match H[id]? with
   |some (.cells _ rows)=>match l.length==rows.length&&decide (0+k<=l.length) with
    |true=>PV.fz (((rows.drop 0).take k).map λ r:List PV=>r.map (Go.Av.frz (d+1) H))
    |false=>.unk
   |_=>.unk)=_
 rw [h]
 have:(l.length==(wE l).length&&decide (0+k<=l.length))=true:=by simp [hk]
 simp only [this]
 simp [gds,Function.comp_def,List.map_take]
 rfl
structure KG (nd:Ins) (p q:PV) (n m:Nat) (t2 ts:List Int) (gs:List Gd) (L:Nat) (K:zd) (gp:PV) (gs':List Gd):Prop where
 c2:K[2]?=some (.cells 3 [zq p q])
 c3:K[3]?=some (.cells 5 [nd.cells])
 c6:K[6]?=some (.cells 1 (ym t2))
 c8:K[8]?=some (.cells 3 [[.bool true,.sl 6 0 n n,gp]])
 n3:K[L+3]?=some (.cells 1 (ym ts))
 n4:K[L+4]?=some (.cells 3 (wE gs))
 n5:K[L+5]?=some (zbL n m L)
 len:L+6<=K.length
 h9:9<=L
 gl:cellsOf gp=[gp]/\zH gp=true/\refs gp=[7]
 gf:∀ X d,xo (Go.Av.frz (d+2) (K++X) gp) gs'
theorem KG.start {ps:List zc} {f:zc} {nd:Ins} {p q:PV} {gs:List Gd} {H:zd} {ts:List Int} {tkp:PV} {tk:List Int} (h:w_ ps f nd p q gs H ts tkp tk) (g:List PV) (t2:List Int):KG nd p q ts.length gs.length t2 ts gs H.length (bH H g ts gs t2) (.sl 7 0 gs.length gs.length) gs/\(bH H g ts gs t2)[7]?=some (.cells 3 (wE gs)):=by
 have hH:=yJ h.c8
 have hw:=zyV h g
 have h7:(bH H g ts gs t2)[7]?=some (.cells 3 (wE gs)):=(zed g t2 (by omega) (by decide)).trans h.c7
 exact ⟨⟨(zed g t2 (by omega) (by decide)).trans h.c2,hw.c3 t2,hw.c6 t2,hw.c8 t2,zoV g t2 (by omega) 3,zoV g t2 (by omega) 4,zoV g t2 (by omega) 5,by rw [zkn];omega,by omega,⟨rfl,rfl,rfl⟩,λ X d=>.inl (kP (zY _ X h7))⟩,h7⟩
abbrev jB (ps:List zc) (f:zc) (a:Int) (p q tkp:PV) (rl:List Int) (L:Nat) (m:Nat) (b:Bool) (o:Int):zk:=xA ps f a p q tkp rl L m b o (wJ o) m++[(37,.int .i64 ((m:Int)-1)),(365,.int .i64 o),(366,.bool (decide (o=32\/o=36)))]
section
variable {ps:List zc} {f:zc} {p q tkp:PV} {gs:List Gd} {ts t2:List Int} {a:Int} {rl:List Int} {L n:Nat} {b:Bool} {K:zd} {ed:zI}
theorem zyA {o A' B' C' D':Int} (k:KG ⟨o,A',B',C',D'⟩ p q n gs.length t2 ts gs L K (.sl 7 0 gs.length gs.length) gs) (tq:xo q gs) (hgl:gs.length<=1048576) (n32:¬o=32) (n34:¬o=34) (n36:¬o=36) (n31:¬o=31) (n33:¬o=33):
  EV A WP ⟨xA ps f a p q tkp rl L gs.length b o (wJ o) gs.length,[],K,ed⟩=EV A Jk ⟨jB ps f a p q tkp rl L gs.length b o,[],K,ed⟩:=by
 have c2:=k.c2
 have c3:=k.c3
 have lg:=wh tq
 simp only [zq,Ins.cells] at c2 c3
 by_cases n5:o=35
 ·subst n5
  simp -implicitDefEqProofs +contextual (disch:=omega) only [QY,zh,jB,xA,yF,z7,wJ,aB,aA,zq,zF,Ins.cells,Gd.cells, ↓XD,XU, ↓reduceIte,sevalprocAttr,c2,c3,lg,n32,n34,n36,n31,n33]
 ·simp -implicitDefEqProofs +contextual (disch:=omega) only [QY,zh,jB,xA,yF,z7,wJ,aB,aA,zq,zF,Ins.cells,Gd.cells, ↓XD,XU, ↓reduceIte,sevalprocAttr,c2,c3,lg,n5,n32,n34,n36,n31,n33]
theorem KG.set8 {nd:Ins} {m:Nat} {gp gp':PV} {gs' gs2:List Gd} (k:KG nd p q n m t2 ts gs L K gp gs') (hg:cellsOf gp'=[gp']/\zH gp'=true/\refs gp'=[7]) (hf:∀ X d,xo (Go.Av.frz (d+2) (K.set 8 (.cells 3 [[.bool true,.sl 6 0 n n,gp']])++X) gp') gs2):KG nd p q n m t2 ts gs L (K.set 8 (.cells 3 [[.bool true,.sl 6 0 n n,gp']])) gp' gs2:=by
 have h9:=k.h9
 have hl:=k.len
 have kp:∀ j,¬j=8->(K.set 8 (.cells 3 [[.bool true,.sl 6 0 n n,gp']]))[j]?=K[j]?:=λ j hj=>aH (Ne.symm hj)
 exact ⟨(kp 2 (by omega)).trans k.c2,(kp 3 (by omega)).trans k.c3,(kp 6 (by omega)).trans k.c6,aK (by omega),(kp _ (by omega)).trans k.n3,(kp _ (by omega)).trans k.n4,(kp _ (by omega)).trans k.n5,by simpa using hl,h9,hg,hf⟩
theorem KG.set7 {nd:Ins} {m:Nat} {gp:PV} {gs' gs2:List Gd} (k:KG nd p q n m t2 ts gs L K gp gs') (rows:List (List PV)) (hf:∀ X d,xo (Go.Av.frz (d+2) (K.set 7 (.cells 3 rows)++X) gp) gs2):KG nd p q n m t2 ts gs L (K.set 7 (.cells 3 rows)) gp gs2:=by
 have h9:=k.h9
 have hl:=k.len
 have kp:∀ j,¬j=7->(K.set 7 (.cells 3 rows))[j]?=K[j]?:=λ j hj=>aH (Ne.symm hj)
 exact ⟨(kp 2 (by omega)).trans k.c2,(kp 3 (by omega)).trans k.c3,(kp 6 (by omega)).trans k.c6,(kp 8 (by omega)).trans k.c8,(kp _ (by omega)).trans k.n3,(kp _ (by omega)).trans k.n4,(kp _ (by omega)).trans k.n5,by simpa using hl,h9,k.gl,hf⟩
theorem zCH {A' B' C' D':Int} (k:KG ⟨32,A',B',C',D'⟩ p q n gs.length t2 ts gs L K (.sl 7 0 gs.length gs.length) gs) (h7:K[7]?=some (.cells 3 (wE gs))) (tq:xo q gs) (hgl:gs.length<=1048576) (h1:1<=gs.length):
  EV A WP ⟨xA ps f a p q tkp rl L gs.length b 32 (wJ 32) gs.length,[],K,ed⟩=EV A Jk ⟨jB ps f a p q tkp rl L gs.length b 32,[],K.set 8 (.cells 3 [[.bool true,.sl 6 0 n n,.sl 7 0 (gs.length-1) gs.length]]),ed⟩:=by
 have c2:=k.c2
 have c3:=k.c3
 have c8:=k.c8
 have lg:=wh tq
 have hsz:xU K 3 (.sl 7 0 gs.length gs.length)=true:=by simp [xU,h7]
 have hsl:=zmY (k:=.i64) (h:=(gs.length:Int)-1) (by omega) (by omega) hsz
 rw [show ((gs.length:Int)-1).toNat=gs.length-1 by omega] at hsl
 simp only [zq,Ins.cells] at c2 c3
 simp -implicitDefEqProofs +contextual (disch:=omega) only [QY,zh,jB,xA,yF,z7,wJ,aB,aA,zq,zF,Ins.cells,Gd.cells, ↓XD,XU, ↓reduceIte,sevalprocAttr,c2,c3,lg,c8, ↓zel,hsl]
theorem zCK {A' B' C' D':Int} (k:KG ⟨36,A',B',C',D'⟩ p q n gs.length t2 ts gs L K (.sl 7 0 gs.length gs.length) gs) (h7:K[7]?=some (.cells 3 (wE gs))) (tq:xo q gs) (hgl:gs.length<=1048576) (h1:1<=gs.length):
  EV A WP ⟨xA ps f a p q tkp rl L gs.length b 36 (wJ 36) gs.length,[],K,ed⟩=EV A Jk ⟨jB ps f a p q tkp rl L gs.length b 36,[],K.set 8 (.cells 3 [[.bool true,.sl 6 0 n n,.sl 7 0 (gs.length-1) gs.length]]),ed⟩:=by
 have c2:=k.c2
 have c3:=k.c3
 have c8:=k.c8
 have lg:=wh tq
 have hsz:xU K 3 (.sl 7 0 gs.length gs.length)=true:=by simp [xU,h7]
 have hsl:=zmY (k:=.i64) (h:=(gs.length:Int)-1) (by omega) (by omega) hsz
 rw [show ((gs.length:Int)-1).toNat=gs.length-1 by omega] at hsl
 simp only [zq,Ins.cells] at c2 c3
 simp -implicitDefEqProofs +contextual (disch:=omega) only [QY,zh,jB,xA,yF,z7,wJ,aB,aA,zq,zF,Ins.cells,Gd.cells, ↓XD,XU, ↓reduceIte,sevalprocAttr,c2,c3,lg,c8, ↓zel,hsl]
theorem zCJ {A' B' C' D':Int} (k:KG ⟨34,A',B',C',D'⟩ p q n gs.length t2 ts gs L K (.sl 7 0 gs.length gs.length) gs) (h7:K[7]?=some (.cells 3 (wE gs))) (tq:xo q gs) (hgl:gs.length<=1048576) (h1:1<=gs.length):
  EV A WP ⟨xA ps f a p q tkp rl L gs.length b 34 (wJ 34) gs.length,[],K,ed⟩=EV A Jk ⟨jB ps f a p q tkp rl L gs.length b 34,[],K.set 7 (.cells 3 ((wE gs).set (gs.length-1) { za gs (gs.length-1) with Keep:=A' }.cells)),ed⟩:=by
 have c2:=k.c2
 have c3:=k.c3
 have c8:=k.c8
 have lg:=wh tq
 have hm:((gs.length:Int)-1).toNat=gs.length-1:=by omega
 have hr:(wE gs)[gs.length-1]?=some (za gs ((gs.length:Int)-1)).cells:=by
  have:=xX (l:=gs) (i:=(gs.length:Int)-1) (by omega) (by omega)
  rw [hm] at this
  rw [aN,this];rfl
 have hgvl:(wE gs).length=gs.length:=by simp
 have p0:(0:Int)<=(gs.length:Int)-1:=by omega
 have p1:(gs.length:Int)-1<gs.length:=by omega
 obtain ⟨gv,hgv⟩:∃ gv,wE gs=gv:=⟨_,rfl⟩
 rw [hgv] at h7 hr hgvl ⊢
 simp only [zq,Ins.cells,Gd.cells] at c2 c3 hr
 simp -implicitDefEqProofs +contextual (disch:=omega) only [QY,zh,jB,xA,yF,z7,wJ,aB,aA,zq,zF,Ins.cells,Gd.cells, ↓XD,XU, ↓reduceIte,sevalprocAttr,c2,c3,lg,c8,h7,hr,hgvl,hm,p0,p1]
theorem zCG {A' B' C' D':Int} (k:KG ⟨31,A',B',C',D'⟩ p q n gs.length t2 ts gs L K (.sl 7 0 gs.length gs.length) gs) (h7:K[7]?=some (.cells 3 (wE gs))) (tq:xo q gs) (hgl:gs.length<=1048576):
  EV A WP ⟨xA ps f a p q tkp rl L gs.length b 31 (wJ 31) gs.length,[],K,ed⟩=EV A Jk ⟨jB ps f a p q tkp rl L gs.length b 31,[],((K++[zZ.cells 3 [([.bool true,.int .i64 B',.int .i64 A']:List PV)]]).set 7 (.cells 3 (wE gs++[([.bool true,.int .i64 B',.int .i64 A']:List PV)]))).set 8 (.cells 3 [[.bool true,.sl 6 0 n n,.sl 7 0 (gs.length+1) (gs.length+1)]]),ed⟩:=by
 have c2:=k.c2
 have c3:=k.c3
 have c8:=k.c8
 have lg:=wh tq
 have hb:=je 3 [.bool false,.int .i64 0,.int .i64 0] ([.bool true,.int .i64 B',.int .i64 A']:List PV) K rfl
 have hr1:=ju K 3 ([.bool true,.int .i64 B',.int .i64 A']:List PV)
 have hap:=Ym (by':=24) (n:=gs.length) (zY K [.cells 3 [([.bool true,.int .i64 B',.int .i64 A']:List PV)]] h7) (by simp) (by omega) ([.bool true,.int .i64 B',.int .i64 A']:List PV) rfl
 have g8:((K++[zZ.cells 3 [([.bool true,.int .i64 B',.int .i64 A']:List PV)]]).set 7 (.cells 3 (wE gs++[([.bool true,.int .i64 B',.int .i64 A']:List PV)])))[8]?=some (.cells 3 [[.bool true,.sl 6 0 n n,.sl 7 0 gs.length gs.length]]):=by
  rw [aH (by decide)];exact zY _ _ c8
 obtain ⟨gv,hgv⟩:∃ gv,wE gs++[([.bool true,.int .i64 B',.int .i64 A']:List PV)]=gv:=⟨_,rfl⟩
 rw [hgv] at hap g8 ⊢
 simp only [zq,Ins.cells] at c2 c3
 simp -implicitDefEqProofs +contextual (disch:=omega) only [QY,zh,jB,xA,yF,z7,wJ,aB,aA,zq,zF,Ins.cells,Gd.cells, ↓XD,XU, ↓reduceIte,sevalprocAttr,c2,c3,lg,c8, ↓zz, ↓zG,zA,hb,hr1.1,hr1.2,hap,g8]
theorem zCI {A' B' C' D':Int} (k:KG ⟨33,A',B',C',D'⟩ p q n gs.length t2 ts gs L K (.sl 7 0 gs.length gs.length) gs) (h7:K[7]?=some (.cells 3 (wE gs))) (tq:xo q gs) (hgl:gs.length<=1048576):
  EV A WP ⟨xA ps f a p q tkp rl L gs.length b 33 (wJ 33) gs.length,[],K,ed⟩=EV A Jk ⟨jB ps f a p q tkp rl L gs.length b 33,[],((K++[zZ.cells 3 [([.bool false,.int .i64 A',.int .i64 0]:List PV)]]).set 7 (.cells 3 (wE gs++[([.bool false,.int .i64 A',.int .i64 0]:List PV)]))).set 8 (.cells 3 [[.bool true,.sl 6 0 n n,.sl 7 0 (gs.length+1) (gs.length+1)]]),ed⟩:=by
 have c2:=k.c2
 have c3:=k.c3
 have c8:=k.c8
 have lg:=wh tq
 have hb:=je 3 [.bool false,.int .i64 0,.int .i64 0] ([.bool false,.int .i64 A',.int .i64 0]:List PV) K rfl
 have hr1:=ju K 3 ([.bool false,.int .i64 A',.int .i64 0]:List PV)
 have hap:=Ym (by':=24) (n:=gs.length) (zY K [.cells 3 [([.bool false,.int .i64 A',.int .i64 0]:List PV)]] h7) (by simp) (by omega) ([.bool false,.int .i64 A',.int .i64 0]:List PV) rfl
 have g8:((K++[zZ.cells 3 [([.bool false,.int .i64 A',.int .i64 0]:List PV)]]).set 7 (.cells 3 (wE gs++[([.bool false,.int .i64 A',.int .i64 0]:List PV)])))[8]?=some (.cells 3 [[.bool true,.sl 6 0 n n,.sl 7 0 gs.length gs.length]]):=by
  rw [aH (by decide)];exact zY _ _ c8
 obtain ⟨gv,hgv⟩:∃ gv,wE gs++[([.bool false,.int .i64 A',.int .i64 0]:List PV)]=gv:=⟨_,rfl⟩
 rw [hgv] at hap g8 ⊢
 simp only [zq,Ins.cells] at c2 c3
 simp -implicitDefEqProofs +contextual (disch:=omega) only [QY,zh,jB,xA,yF,z7,wJ,aB,aA,zq,zF,Ins.cells,Gd.cells, ↓XD,XU, ↓reduceIte,sevalprocAttr,c2,c3,lg,c8, ↓zz, ↓zG,zA,hb,hr1.1,hr1.2,hap,g8]
end
end
section
section
variable {ps:List zc} {f:zc} {nd:Ins} {p q tkp:PV} {gs:List Gd} {ts t2:List Int} {a:Int} {rl:List Int} {L n:Nat} {b:Bool} {K:zd} {ed:zI}
theorem KG.of {m:Nat} {gp gp':PV} {gs1 gs2:List Gd} (k:KG nd p q n m t2 ts gs L K gp gs1) {K2:zd} (hk:∀ j,j<K.length->¬j=7->¬j=8->K2[j]?=K[j]?) (hl:K.length<=K2.length) (h8:K2[8]?=some (.cells 3 [[.bool true,.sl 6 0 n n,gp']]))
  (hg:cellsOf gp'=[gp']/\zH gp'=true/\refs gp'=[7]) (hf:∀ X d,xo (Go.Av.frz (d+2) (K2++X) gp') gs2):KG nd p q n m t2 ts gs L K2 gp' gs2:=by
 have h9:=k.h9
 have hl2:=k.len
 exact ⟨(hk 2 (by omega) (by omega) (by omega)).trans k.c2,(hk 3 (by omega) (by omega) (by omega)).trans k.c3,(hk 6 (by omega) (by omega) (by omega)).trans k.c6,h8,(hk _ (by omega) (by omega) (by omega)).trans k.n3,(hk _ (by omega) (by omega) (by omega)).trans k.n4,(hk _ (by omega) (by omega) (by omega)).trans k.n5,by omega,h9,hg,hf⟩
theorem zA4 (l:List Gd) (i:Nat) (g:Gd):(wE l).set i g.cells=wE (l.set i g):=by simp only [wE,List.map_set]
theorem zEj (k:KG nd p q n gs.length t2 ts gs L K (.sl 7 0 gs.length gs.length) gs) (h7:K[7]?=some (.cells 3 (wE gs))) (tq:xo q gs) (hgl:gs.length<=1048576) {gs':List Gd} (hch:change nd gs=some gs'):
  ∃ K' gp',KG nd p q n gs.length t2 ts gs L K' gp' gs'/\EV A WP ⟨xA ps f a p q tkp rl L gs.length b nd.Op (wJ nd.Op) gs.length,[],K,ed⟩=EV A Jk ⟨jB ps f a p q tkp rl L gs.length b nd.Op,[],K',ed⟩:=by
 obtain ⟨o,A',B',C',D'⟩:=nd
 have hl:=k.len
 have h9:=k.h9
 have pos:¬gs=[]->1<=gs.length:=λ h=>by
  cases gs with
  |nil=>exact absurd rfl h
  |cons x l=>simp
 have cut:∀ (K2:zd),K2=K.set 8 (.cells 3 [[.bool true,.sl 6 0 n n,.sl 7 0 (gs.length-1) gs.length]])->∀ X d,xo (Go.Av.frz (d+2) (K2++X) (.sl 7 0 (gs.length-1) gs.length)) gs.dropLast:=λ K2 e X d=>by
  subst e
  left
  rw [List.dropLast_eq_take]
  exact zq8 (zY _ _ (by rw [aH (by decide)];exact h7)) rfl (by omega)
 by_cases n32:o=32
 ·subst n32
  have hne:¬gs=[]:=λ e=>by simp [change,e] at hch
  have hg:gs'=gs.dropLast:=by
   simp only [change] at hch
   simp at hch
   exact hch.2.symm
  subst hg
  exact ⟨_,_,k.set8 ⟨rfl,rfl,rfl⟩ (cut _ rfl),zCH k h7 tq hgl (pos hne)⟩
 by_cases n36:o=36
 ·subst n36
  have hne:¬gs=[]:=λ e=>by simp [change,e] at hch
  have hg:gs'=gs.dropLast:=by
   simp only [change] at hch
   simp at hch
   exact hch.2.symm
  subst hg
  exact ⟨_,_,k.set8 ⟨rfl,rfl,rfl⟩ (cut _ rfl),zCK k h7 tq hgl (pos hne)⟩
 by_cases n34:o=34
 ·subst n34
  have hne:¬gs=[]:=λ e=>by simp [change,e] at hch
  have hg:gs'=gs.set (gs.length-1) { za gs (gs.length-1) with Keep:=A' }:=by
   simp only [change] at hch
   simp at hch
   exact hch.2.symm
  subst hg
  refine ⟨_,_,k.set7 _ λ X d=>?_,zCJ k h7 tq hgl (pos hne)⟩
  left
  rw [zA4]
  have:=kP (d:=d) (H:=K.set 7 (.cells 3 (wE (gs.set (gs.length-1) { za gs (gs.length-1) with Keep:=A' })))++X) (id:=7) (l:=gs.set (gs.length-1) { za gs (gs.length-1) with Keep:=A' }) (zY _ _ (aK (by omega)))
  rw [bI] at this
  exact this
 have grow:∀ (g:Gd) (K2:zd),K2=((K++[zZ.cells 3 [g.cells]]).set 7 (.cells 3 (wE gs++[g.cells]))).set 8 (.cells 3 [[.bool true,.sl 6 0 n n,.sl 7 0 (gs.length+1) (gs.length+1)]])->KG ⟨o,A',B',C',D'⟩ p q n gs.length t2 ts gs L K2 (.sl 7 0 (gs.length+1) (gs.length+1)) (gs++[g]):=λ g K2 e=>by
  subst e
  refine k.of (λ j hj j7 j8=>?_) (by simp) (aK (by simp;omega)) ⟨rfl,rfl,rfl⟩ λ X d=>?_
  ·rw [aH (Ne.symm j8),aH (Ne.symm j7),aD hj]
  ·left
   have:=kP (d:=d) (H:=((K++[zZ.cells 3 [g.cells]]).set 7 (.cells 3 (wE gs++[g.cells]))).set 8 (.cells 3 [[.bool true,.sl 6 0 n n,.sl 7 0 (gs.length+1) (gs.length+1)]])++X) (id:=7) (l:=gs++[g]) (zY _ _ (by rw [aH (by decide),aK (by simp;omega)];simp [wE]))
   rw [aQ,bK] at this
   exact this
 by_cases n31:o=31
 ·subst n31
  have hg:gs'=gs++[⟨true,B',A'⟩]:=by
   simp only [change] at hch
   simp at hch
   exact hch.2.symm
  subst hg
  exact ⟨_,_,grow ⟨true,B',A'⟩ _ rfl,zCG k h7 tq hgl⟩
 by_cases n33:o=33
 ·subst n33
  have hg:gs'=gs++[⟨false,A',0⟩]:=by
   simp only [change] at hch
   simp at hch
   exact hch.2.symm
  subst hg
  exact ⟨_,_,grow ⟨false,A',0⟩ _ rfl,zCI k h7 tq hgl⟩
 ·have hg:gs'=gs:=by
   simp only [change,n31,n33,n32,n34,n36,if_false] at hch
   by_cases n5:o=35
   ·simp [n5] at hch;exact hch.2.symm
   ·simp [n5] at hch;exact hch.symm
  subst hg
  exact ⟨_,_,k,zyA k tq hgl n32 n34 n36 n31 n33⟩
end
end
section
def zhf (K:zd) (row:List PV) (x:Int×ya):Prop:=∃ pT pG,row=[.int .i64 x.1,.bool true,pT,pG]/\(¬refs pT=[]/\¬refs pG=[])/\(∀ d,xP (Go.Av.frz (d+2) K pT) x.2.Types)/\∀ d,xo (Go.Av.frz (d+2) K pG) x.2.Guards
def Qz (K:zd) (l:PV) (L:List (Int×ya)):Prop:=(l=.nils/\L=[])\/∃ id rows,l=.sl id 0 L.length L.length/\K[id]?=some (.cells 4 rows)/\rows.length=L.length/\∀ (i:Nat) (row:List PV) (x:Int×ya),rows[i]?=some row->L[i]?=some x->zhf K row x
theorem Qz.one {H:zd} {id:Nat} {row:List PV} {x:Int×ya} (h:H[id]?=some (.cells 4 [row])) (hr:zhf H row x):Qz H (.sl id 0 1 1) [x]:=
 .inr ⟨id,_,rfl,h,rfl,λ i r y h1 h2=>by
  cases i with
  |zero=>simp at h1 h2;subst h1;subst h2;exact hr
  |succ i=>simp at h1⟩
theorem Qz.two {H:zd} {id:Nat} {r1 r2:List PV} {x y:Int×ya} (h:H[id]?=some (.cells 4 [r1,r2])) (h1:zhf H r1 x) (h2:zhf H r2 y):Qz H (.sl id 0 2 2) [x,y]:=
 .inr ⟨id,_,rfl,h,rfl,λ i r z k1 k2=>by
  match i with
  |0=>simp at k1 k2;subst k1;subst k2;exact h1
  |1=>simp at k1 k2;subst k1;subst k2;exact h2
  |i+2=>simp at k1⟩
section
variable {ps:List zc} {f:zc} {p q tkp:PV} {gs gs':List Gd} {ts t2:List Int} {a:Int} {rl:List Int} {L n m:Nat} {b:Bool} {K:zd} {ed:zI} {gp:PV}
def zhq (ps:List zc) (f:zc) (p q tkp:PV) (a:Int) (rl:List Int) (L m:Nat) (b:Bool) (K:zd) (ed:zI) (o:Int) (res:List (Int×ya)):Prop:=
 ∃ st,EV A Jk ⟨jB ps f a p q tkp rl L m b o,[],K,ed⟩=some (.ret,st)/\st.per.get 8=.int .i64 0/\Qz st.H (st.per.get 9) res
theorem KG.row {nd:Ins} (k:KG nd p q n m t2 ts gs L K gp gs') (hn:t2.length=n) (X:zd) (j:Int):zhf (K++X) [.int .i64 j,.bool true,.sl 6 0 n n,gp] (j,⟨t2,gs'⟩):=by
 subst hn
 exact ⟨_,_,rfl,⟨by simp [refs],by rw [k.gl.2.2];simp⟩,λ d=>.inl (jD (zY _ X k.c6)),λ d=>k.gf X d⟩
theorem zp8 {o A' B' C' D':Int} (k:KG ⟨o,A',B',C',D'⟩ p q n m t2 ts gs L K gp gs') (ho:o=29\/o=30):zhq ps f p q tkp a rl L m b K ed o []:=by
 have c3:=k.c3
 simp only [Ins.cells] at c3
 rcases ho with rfl|rfl
 ·refine ⟨_,by (simp -implicitDefEqProofs +contextual (disch:=omega) only [QZ,zh,jB,xA,yF,z7,wJ,aB,aA,zq,zF,Ins.cells, ↓XD,XU, ↓reduceIte,sevalprocAttr,c3])<;>rfl,rfl,.inl ⟨rfl,rfl⟩⟩
 ·refine ⟨_,by (simp -implicitDefEqProofs +contextual (disch:=omega) only [QZ,zh,jB,xA,yF,z7,wJ,aB,aA,zq,zF,Ins.cells, ↓XD,XU, ↓reduceIte,sevalprocAttr,c3])<;>rfl,rfl,.inl ⟨rfl,rfl⟩⟩
theorem zyD {o A' B' C' D':Int} (k:KG ⟨o,A',B',C',D'⟩ p q n m t2 ts gs L K gp gs') (hn:t2.length=n) (a0:0<=a) (a1:a<1048576) (n29:¬o=29) (n30:¬o=30) (n19:¬o=19) (n20:¬o=20) (n21:¬o=21) (n38:¬o=38) (n39:¬o=39) (n41:¬o=41) (n31:¬o=31):zhq ps f p q tkp a rl L m b K ed o [(a+1,⟨t2,gs'⟩)]:=by
 have c3:=k.c3
 have c8:=k.c8
 obtain ⟨g1,g2,g3⟩:=k.gl
 obtain ⟨row,hrow⟩:∃ row:List PV,[.int .i64 (a+1),.bool true,.sl 6 0 n n,gp]=row:=⟨_,rfl⟩
 have hb:=je 4 [.int .i64 0,.bool false,.nils,.nils] row K (by rw [<-hrow];show (true&&(true&&(true&&(true&&(zH gp&&true)))))=true;rw [g2];rfl)
 have hr1:=ju K 4 row
 have hap:=x_ (K++[.cells 4 [row]]) 4 64 [row] (by simp)
 have q3:∀ X:zd,(K++X)[3]?=some (.cells 5 [Ins.cells ⟨o,A',B',C',D'⟩]):=λ X=>zY K X c3
 simp only [Ins.cells] at c3 q3
 simp only [aQ,bK,aY,aB,aA] at hap
 have hro:=k.row hn [.cells 4 [row],.cells 4 [row]] (a+1)
 rw [hrow] at hro
 have hE:=zpA o
 unfold zhq jB
 generalize wJ o=E at hE ⊢
 generalize decide (o=32\/o=36)=b6
 rcases hE with rfl|rfl|⟨b',rfl⟩<;>refine ⟨_,by (simp -implicitDefEqProofs +contextual (disch:=omega) only [QZ,zh,xA,yF,z7,aB,aA,zq,zF,Ins.cells, ↓zz, ↓zG,zA, ↓XD,XU, ↓reduceIte,sevalprocAttr,c3,c8,q3,g1,g2,g3,a0,hrow,hb,hr1.1,hr1.2,hap,n29,n30,n19,n20,n21,n38,n39,n41,n31])<;>rfl,rfl,Qz.one (id:=K.length+1) (wF _ _ 1) hro⟩
theorem zyC {A' B' C' D':Int} (k:KG ⟨19,A',B',C',D'⟩ p q n m t2 ts gs L K gp gs') (hn:t2.length=n):zhq ps f p q tkp a rl L m b K ed 19 [(A',⟨t2,gs'⟩)]:=by
 have c3:=k.c3
 have c8:=k.c8
 obtain ⟨g1,g2,g3⟩:=k.gl
 obtain ⟨row,hrow⟩:∃ row:List PV,[.int .i64 A',.bool true,.sl 6 0 n n,gp]=row:=⟨_,rfl⟩
 have hb:=je 4 [.int .i64 0,.bool false,.nils,.nils] row K (by rw [<-hrow];show (true&&(true&&(true&&(true&&(zH gp&&true)))))=true;rw [g2];rfl)
 have hr1:=ju K 4 row
 have hap:=x_ (K++[.cells 4 [row]]) 4 64 [row] (by simp)
 have q3:∀ X:zd,(K++X)[3]?=some (.cells 5 [Ins.cells ⟨19,A',B',C',D'⟩]):=λ X=>zY K X c3
 simp only [Ins.cells] at c3 q3
 simp only [aQ,bK,aY,aB,aA] at hap
 have hro:=k.row hn [.cells 4 [row],.cells 4 [row]] A'
 rw [hrow] at hro
 refine ⟨_,by (simp -implicitDefEqProofs +contextual (disch:=omega) only [QZ,zh,jB,xA,yF,z7,wJ,aB,aA,zq,zF,Ins.cells, ↓zz, ↓zG,zA, ↓XD,XU, ↓reduceIte,sevalprocAttr,c3,c8,q3,g1,g2,g3,hrow,hb,hr1.1,hr1.2,hap])<;>rfl,rfl,Qz.one (id:=K.length+1) (wF _ _ 1) hro⟩
end
end
section
theorem zuf {H:zd} {id sz by':Nat} {rows:List (List PV)} {n:Nat} (h:H[id]?=some (.cells sz rows)) (hn:n=rows.length) (hb:(n+1)*by'<=35184372088832) (cs:List PV) (hr:wG id cs=[]):xe H sz by' (.sl id 0 n n) [cs]=some (.sl id 0 (n+1) (n+1),H.set id (.cells sz (rows++[cs])),[]):=by
 subst hn
 have c1:(rows.length==rows.length&&sz==sz&&decide (0+rows.length<=rows.length)&&decide ((0+rows.length+[cs].length)*by'<=35184372088832))=true:=by simp;exact hb
 have c2:decide (0+rows.length+[cs].length<=rows.length)=false:=by simp
 simp only [xe,h,c1,c2]
 simp [hr]
theorem zkl (K:zd) (r1 r2:List PV) (he:wG (K.length+1) r2=[]) (hb:bsK 4 [.int .i64 0,.bool false,.nils,.nils] r2 (K++[.cells 4 [r1],.cells 4 [r1]])=some (.sl (K++[zZ.cells 4 [r1],.cells 4 [r1]]).length 0 1 1,(K++[.cells 4 [r1],.cells 4 [r1]])++[.cells 4 [r2]],[])):
  bsK 4 [.int .i64 0,.bool false,.nils,.nils] r2 (K++[.cells 4 [r1],.cells 4 [r1]])=some (.sl (K.length+2) 0 1 1,K++[.cells 4 [r1],.cells 4 [r1],.cells 4 [r2]],[])/\uu (K++[.cells 4 [r1],.cells 4 [r1],.cells 4 [r2]]) (.sl (K.length+2) 0 1 1)=some [r2]/\xU (K++[.cells 4 [r1],.cells 4 [r1],.cells 4 [r2]]) 4 (.sl (K.length+2) 0 1 1)=true/\
  xe (K++[.cells 4 [r1],.cells 4 [r1],.cells 4 [r2]]) 4 64 (.sl (K.length+1) 0 1 1) [r2]=some (.sl (K.length+1) 0 2 2,K++[.cells 4 [r1],.cells 4 [r1,r2],.cells 4 [r2]],[]):=by
 have e:K++[zZ.cells 4 [r1],.cells 4 [r1],.cells 4 [r2]]=(K++[zZ.cells 4 [r1],.cells 4 [r1]])++[.cells 4 [r2]]:=by simp
 have hl:K.length+2=(K++[zZ.cells 4 [r1],.cells 4 [r1]]).length:=by simp
 refine ⟨?_,?_,?_,?_⟩
 ·rw [hb,hl,e]
 ·rw [e];exact (Xi _ _ hl 4 _).1
 ·rw [e];exact (Xi _ _ hl 4 _).2
 ·have h0:(K++[zZ.cells 4 [r1],.cells 4 [r1],.cells 4 [r2]])[K.length+1]?=some (.cells 4 [r1]):=by rw [wF];rfl
  have:=zuf (by':=64) (n:=1) h0 rfl (by omega) r2 he
  rw [this,QH];rfl
section
variable {ps:List zc} {f:zc} {p q tkp:PV} {gs gs':List Gd} {ts t2:List Int} {a:Int} {rl:List Int} {L n m:Nat} {b:Bool} {K:zd} {ed:zI} {gp:PV}
theorem KG.noedge {nd:Ins} (k:KG nd p q n m t2 ts gs L K gp gs') (j:Int) {id:Nat} (hid:K.length<=id):wG id [.int .i64 j,.bool true,.sl 6 0 n n,gp]=[]:=by
 have hl:=k.len
 have h9:=k.h9
 obtain ⟨g1,g2,g3⟩:=k.gl
 have:zn [.int .i64 j,.bool true,.sl 6 0 n n,gp]=[6,7]:=by simp [zn,refs,g3]
 rw [wG,this]
 have h6:¬id<6:=by omega
 have h7:¬id<7:=by omega
 simp [h6,h7]
theorem zA7 {o A' B' C' D':Int} (k:KG ⟨o,A',B',C',D'⟩ p q n m t2 ts gs L K gp gs') (hn:t2.length=n) (a0:0<=a) (a1:a<1048576) (ho:o=20\/o=21\/o=38\/o=39):zhq ps f p q tkp a rl L m b K ed o [(a+1,⟨t2,gs'⟩),(B',⟨t2,gs'⟩)]:=by
 have c3:=k.c3
 have c8:=k.c8
 obtain ⟨g1,g2,g3⟩:=k.gl
 have hne:=k.noedge B' (Nat.le_succ K.length)
 obtain ⟨row,hrow⟩:∃ row:List PV,[.int .i64 (a+1),.bool true,.sl 6 0 n n,gp]=row:=⟨_,rfl⟩
 obtain ⟨r2,hr2⟩:∃ row:List PV,[.int .i64 B',.bool true,.sl 6 0 n n,gp]=row:=⟨_,rfl⟩
 rw [hr2] at hne
 have hb:=je 4 [.int .i64 0,.bool false,.nils,.nils] row K (by rw [<-hrow];show (true&&(true&&(true&&(true&&(zH gp&&true)))))=true;rw [g2];rfl)
 have hb2:=je 4 [.int .i64 0,.bool false,.nils,.nils] r2 (K++[.cells 4 [row],.cells 4 [row]]) (by rw [<-hr2];show (true&&(true&&(true&&(true&&(zH gp&&true)))))=true;rw [g2];rfl)
 obtain ⟨w1,w2,w3,w4⟩:=zkl K row r2 hne hb2
 have hr1:=ju K 4 row
 have hap:=x_ (K++[.cells 4 [row]]) 4 64 [row] (by simp)
 have q3:∀ X:zd,(K++X)[3]?=some (.cells 5 [Ins.cells ⟨o,A',B',C',D'⟩]):=λ X=>zY K X c3
 have q8:∀ X:zd,(K++X)[8]?=some (.cells 3 [[.bool true,.sl 6 0 n n,gp]]):=λ X=>zY K X c8
 simp only [Ins.cells] at c3 q3
 simp only [aQ,bK,aY,aB,aA] at hap
 have hro:=k.row hn [.cells 4 [row],.cells 4 [row,r2],.cells 4 [r2]] (a+1)
 have hro2:=k.row hn [.cells 4 [row],.cells 4 [row,r2],.cells 4 [r2]] B'
 rw [hrow] at hro
 rw [hr2] at hro2
 rcases ho with rfl|rfl|rfl|rfl<;>refine ⟨_,by (simp -implicitDefEqProofs +contextual (disch:=omega) only [QZ,zh,jB,xA,yF,z7,wJ,aB,aA,zq,zF,Ins.cells, ↓zz, ↓zG,zA, ↓XD,XU, ↓reduceIte,sevalprocAttr,c3,c8,q3,q8,g1,g2,g3,a0,hrow,hr2,hb,hr1.1,hr1.2,hap,w1,w2,w3,w4])<;>rfl,rfl,Qz.two (id:=K.length+1) (wF _ _ 1) hro hro2⟩
theorem zyB {A' B' C' D':Int} (k:KG ⟨41,A',B',C',D'⟩ p q n gs.length t2 ts gs L K gp gs') (hn:t2.length=n) (hts:ts.length=n) (a0:0<=a) (a1:a<1048576):zhq ps f p q tkp a rl L gs.length b K ed 41 [(a+1,⟨t2,gs'⟩),(B',⟨ts,gs⟩)]:=by
 have c3:=k.c3
 have c8:=k.c8
 have n5:=k.n5
 have hl:=k.len
 obtain ⟨g1,g2,g3⟩:=k.gl
 obtain ⟨row,hrow⟩:∃ row:List PV,[.int .i64 (a+1),.bool true,.sl 6 0 n n,gp]=row:=⟨_,rfl⟩
 obtain ⟨r2,hr2⟩:∃ row:List PV,[.int .i64 B',.bool true,.sl (L+3) 0 n n,.sl (L+4) 0 gs.length gs.length]=row:=⟨_,rfl⟩
 have hne:wG (K.length+1) r2=[]:=by
  rw [<-hr2,wG]
  have h6:¬K.length+1<L+3:=by omega
  have h7:¬K.length+1<L+4:=by omega
  simp [zn,refs,h6,h7]
 have hb:=je 4 [.int .i64 0,.bool false,.nils,.nils] row K (by rw [<-hrow];show (true&&(true&&(true&&(true&&(zH gp&&true)))))=true;rw [g2];rfl)
 have hb2:=je 4 [.int .i64 0,.bool false,.nils,.nils] r2 (K++[.cells 4 [row],.cells 4 [row]]) (by rw [<-hr2];rfl)
 obtain ⟨w1,w2,w3,w4⟩:=zkl K row r2 hne hb2
 have hr1:=ju K 4 row
 have hap:=x_ (K++[.cells 4 [row]]) 4 64 [row] (by simp)
 have q3:∀ X:zd,(K++X)[3]?=some (.cells 5 [Ins.cells ⟨41,A',B',C',D'⟩]):=λ X=>zY K X c3
 have q8:∀ X:zd,(K++X)[8]?=some (.cells 3 [[.bool true,.sl 6 0 n n,gp]]):=λ X=>zY K X c8
 have q9:∀ X:zd,(K++X)[L+5]?=some (zbL n gs.length L):=λ X=>zY K X n5
 simp only [Ins.cells,zbL] at c3 q3 q9
 simp only [aQ,bK,aY,aB,aA] at hap
 have hro:=k.row hn [.cells 4 [row],.cells 4 [row,r2],.cells 4 [r2]] (a+1)
 have hro2:zhf (K++[.cells 4 [row],.cells 4 [row,r2],.cells 4 [r2]]) [.int .i64 B',.bool true,.sl (L+3) 0 n n,.sl (L+4) 0 gs.length gs.length] (B',⟨ts,gs⟩):=
  ⟨_,_,rfl,⟨by simp [refs],by simp [refs]⟩,λ d=>.inl (by rw [<-hts];exact jD (zY _ _ k.n3)),λ d=>.inl (kP (zY _ _ k.n4))⟩
 rw [hrow] at hro
 rw [hr2] at hro2
 refine ⟨_,by (simp -implicitDefEqProofs +contextual (disch:=omega) only [QZ,zh,jB,xA,yF,z7,wJ,aB,aA,zq,zF,Ins.cells, ↓zz, ↓zG,zA, ↓XD,XU, ↓reduceIte,sevalprocAttr,c3,c8,q3,q8,q9,g1,g2,g3,a0,hrow,hr2,hb,hr1.1,hr1.2,hap,w1,w2,w3,w4])<;>rfl,rfl,Qz.two (id:=K.length+1) (wF _ _ 1) hro hro2⟩
end
end
abbrev zjR (ps:List zc) (f:zc) (a:Int) (p q tkp:PV) (rl:List Int) (L m:Nat) (b:Bool) (M:Nat) (i:Int):zk:=jB ps f a p q tkp rl L m b 31++[(38,.sl (M+1) 0 1 1),(426,.int .i64 31),(436,.bool false),(39,.ptr (M+6) 0 0 1),(40,.int .i64 i)]
def kE (l:List Int) (B i:Nat):List Int:=l.take B++List.replicate (i-B) 0++l.drop i
theorem zt0 {l:List Int} {B i:Nat} (h:B<=i) (hi:i<l.length):(kE l B i).set i 0=kE l B (i+1):=by
 unfold kE
 have e:(l.take B++List.replicate (i-B) (0:Int)).length=i:=by simp;omega
 rw [dL _ _ (by omega),e,Nat.sub_self,dO hi,List.set_cons_zero,show i+1-B=(i-B)+1 by omega,List.replicate_succ',aY,aY,aY]
 rfl
theorem zlU {l:List Int} {B i:Nat} (h:B<=i) (hi:i<=l.length):(kE l B i).length=l.length:=by
 simp [kE];omega
theorem zAn {ps:List zc} {f:zc} {a:Int} {p q tkp:PV} {rl:List Int} {L m:Nat} {b:Bool} {M:Nat} {G:List Int->zd} {N:Nat} {ed:zI} {l:List Int} {B:Nat} {gp:PV} (hB:B<=l.length) (hl:l.length<=1048576) (h4:∀ t,(G t)[M+4]?=some (.cells 1 (ym t))) (h6:∀ t,(G t)[M+6]?=some (.cells 3 [[.bool true,.sl (M+4) 0 l.length l.length,gp]])) (hs:∀ t t',(G t).set (M+4) (.cells 1 (ym t'))=G t') (hlen:∀ t,(G t).length=N) (he:∀ e∈ed,e.2<N):
  EV A (.loop (z8 8)) ⟨zjR ps f a p q tkp rl L m b M B,[],G l,ed⟩=some (.exit 20,⟨zjR ps f a p q tkp rl L m b M l.length,[],G (kE l B l.length),ed⟩):=by
 have key:=uE (P:=A) (body:=(z8 8)) (λ (i:Nat)=>(⟨zjR ps f a p q tkp rl L m b M i,[],G (kE l B i),ed⟩:St)) (λ i=>B<=i/\i<=l.length) (λ i=>l.length-i) (λ i=>(.exit 20,(⟨zjR ps f a p q tkp rl L m b M l.length,[],G (kE l B l.length),ed⟩:St))) ?_ B ⟨aS _,hB⟩
 ·have e:kE l B B=l:=by simp [kE]
  rw [e] at key;exact key
 rintro i ⟨i0,i1⟩
 have htr:∀ t roots,trim N roots (G t) ed=(G t,ed):=λ t roots=>by rw [<-hlen t];exact kg (by rw [hlen t];exact he) roots
 by_cases c:i<l.length
 ·right
  have hz:=zt0 i0 c
  have hzl:=zlU i0 i1
  have c1:(i:Int)<l.length:=by omega
  obtain ⟨z,hzz⟩:∃ z,kE l B i=z:=⟨_,rfl⟩
  rw [hzz] at hz hzl
  have hg:z[i]?=some (z[i]'(by omega)):=aE (by omega)
  have hs2:(ym z).set i [.int .i64 0]=ym (kE l B (i+1)):=by rw [<-hz];simp [ym]
  refine ⟨i+1,_,by omega,by omega,by (simp -implicitDefEqProofs +contextual (disch:=omega) only [zfa,zh,zjR,jB,xA,yF,z7,wJ,aB,aA, ↓XD,XU, ↓reduceIte,sevalprocAttr,h4,h6,hs,c1,hzz,hg,hs2,hzl,cB])<;>rfl,?_,rfl⟩
  simp [St.next,htr,hlen,wJ]
 ·left
  have:i=l.length:=by omega
  subst this
  refine ⟨by (simp -implicitDefEqProofs +contextual (disch:=omega) only [zfa,zh,zjR,jB,xA,yF,z7,wJ,aB,aA, ↓XD,XU, ↓reduceIte,sevalprocAttr,h4,h6,aL]),by simp⟩
def tG (K:zd) (row:List PV) (n:Nat) (gs:List Gd) (t:List Int):zd:=K++[.cells 4 [row],.cells 4 [row],.cells 3 [[.bool true,.sl (K.length+4) 0 n n,.sl (K.length+5) 0 gs.length gs.length]],.cells 3 [[.bool true,.sl (K.length+4) 0 n n,.sl (K.length+5) 0 gs.length gs.length]],.cells 1 (ym t),.cells 3 (wE gs),.cells 3 [[.bool true,.sl (K.length+4) 0 n n,.sl (K.length+5) 0 gs.length gs.length]]]
theorem zEl (K:zd) (row:List PV) (n:Nat) (gs:List Gd) (t:List Int):(tG K row n gs t)[K.length+1]?=some (.cells 4 [row]):=by rw [tG,wF];rfl
theorem zCN (K:zd) (row:List PV) (n:Nat) (gs:List Gd) (t:List Int):(tG K row n gs t)[K.length+4]?=some (.cells 1 (ym t)):=by rw [tG,wF];rfl
theorem zEm (K:zd) (row:List PV) (n:Nat) (gs:List Gd) (t:List Int):(tG K row n gs t)[K.length+5]?=some (.cells 3 (wE gs)):=by rw [tG,wF];rfl
theorem zCO (K:zd) (row:List PV) (n:Nat) (gs:List Gd) (t:List Int):(tG K row n gs t)[K.length+6]?=some (.cells 3 [[.bool true,.sl (K.length+4) 0 n n,.sl (K.length+5) 0 gs.length gs.length]]):=by rw [tG,wF];rfl
theorem zCQ (K:zd) (row:List PV) (n:Nat) (gs:List Gd) (t t':List Int):(tG K row n gs t).set (K.length+4) (.cells 1 (ym t'))=tG K row n gs t':=by rw [tG,QH];rfl
theorem zv5 (K:zd) (row:List PV) (n:Nat) (gs:List Gd) (t:List Int):(tG K row n gs t).length=K.length+7:=by simp [tG]
theorem zCP (K:zd) (row:List PV) (n:Nat) (gs:List Gd) (t:List Int) {j:Nat} {b:zZ} (h:K[j]?=some b):(tG K row n gs t)[j]?=some b:=zY _ _ h
end Go.Proofs.Tryd.Av
end

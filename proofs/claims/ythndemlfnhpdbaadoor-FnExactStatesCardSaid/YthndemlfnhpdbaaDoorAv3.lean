/- The evaluator -/
import Derived.Test.YthndemlfnhpdbaaDoorAv2
set_option linter.all false
section
namespace Go.Av
open Go
section
inductive Kin:PV->PV->Prop
 |same (p:PV):Kin p p
 |int (k:IntKind) (a b:Int):Kin (.int k a) (.int k b)
 |bool (a b:Bool):Kin (.bool a) (.bool b)
 |str (a b:ByteArray):Kin (.str a) (.str b)
 |flt (k:FloatKind) (a b:Nat):Kin (.flt k a) (.flt k b)
theorem Kin.trans {p q r:PV} (h:Kin p q) (h2:Kin q r):Kin p r:=by
 cases h with
 |same=>exact h2
 |int k a b=>cases h2<;>exact .int ..
 |bool a b=>cases h2<;>exact .bool ..
 |str a b=>cases h2<;>exact .str ..
 |flt k a b=>cases h2<;>exact .flt ..
def wz (r r':List PV):Prop:=r.length=r'.length/\∀ (j:Nat) (p q:PV),r[j]?=some p->r'[j]?=some q->Kin p q
theorem wz.refl (r:List PV):wz r r:=⟨rfl,λ j p q h1 h2=>by rw [h1] at h2;cases h2;exact .same p⟩
theorem wz.nil:wz [] []:=.refl []
theorem wz.cons {p q:PV} {r r':List PV} (h:Kin p q) (t:wz r r'):wz (p::r) (q::r'):=⟨by simp [t.1],λ j a b h1 h2=>by
 cases j with
 |zero=>simp at h1 h2;subst h1;subst h2;exact h
 |succ j=>exact t.2 j a b (by simpa using h1) (by simpa using h2)⟩
theorem wz.trans {r s t:List PV} (h:wz r s) (h2:wz s t):wz r t:=⟨h.1.trans h2.1,λ j p q k1 k2=>by
 have hj:=(aF.1 k1).1
 have h3:=aE (show j<s.length by rw [<-h.1];exact hj)
 exact (h.2 j _ _ k1 h3).trans (h2.2 j _ _ h3 k2)⟩
inductive zfD:zZ->zZ->Prop
 |same (b:zZ):zfD b b
 |cells (s:Nat) (rows rows':List (List PV)) (hl:rows.length=rows'.length) (h:∀ (i:Nat) (r r':List PV),rows[i]?=some r->rows'[i]?=some r'->wz r r'):zfD (.cells s rows) (.cells s rows')
theorem zfD.of_cells {s:Nat} {rows:List (List PV)} {b:zZ} (h:zfD (.cells s rows) b):∃ rows',b=.cells s rows'/\rows.length=rows'.length/\∀ (i:Nat) (r r':List PV),rows[i]?=some r->rows'[i]?=some r'->wz r r':=by
 cases h with
 |same=>exact ⟨rows,rfl,rfl,λ i r r' h1 h2=>by rw [h1] at h2;cases h2;exact .refl r⟩
 |cells _ _ rows' hl h=>exact ⟨rows',rfl,hl,h⟩
theorem zfD.trans {a b c:zZ} (h:zfD a b) (h2:zfD b c):zfD a c:=by
 cases h with
 |same=>exact h2
 |cells s rows rows' hl h=>
  obtain ⟨rows'',rfl,hl2,h3⟩:=h2.of_cells
  refine .cells s rows rows'' (hl.trans hl2) λ i r r' k1 k2=>?_
  have hi:=(aF.1 k1).1
  have k3:=aE (show i<rows'.length by rw [<-hl];exact hi)
  exact (h i _ _ k1 k3).trans (h3 i _ _ k3 k2)
def wS (H H':zd):Prop:=H.length=H'.length/\∀ (i:Nat) (b b':zZ),H[i]?=some b->H'[i]?=some b'->zfD b b'
theorem wS.refl (H:zd):wS H H:=⟨rfl,λ i b b' h1 h2=>by rw [h1] at h2;cases h2;exact .same b⟩
theorem wS.trans {A B C:zd} (h:wS A B) (h2:wS B C):wS A C:=⟨h.1.trans h2.1,λ j p q k1 k2=>by
 have hj:=(aF.1 k1).1
 have h3:=aE (show j<B.length by rw [<-h.1];exact hj)
 exact (h.2 j _ _ k1 h3).trans (h2.2 j _ _ h3 k2)⟩
theorem wS.at_ {H H':zd} (h:wS H H') {id s:Nat} {rows:List (List PV)} (hH:H[id]?=some (.cells s rows)):∃ rows',H'[id]?=some (.cells s rows')/\rows.length=rows'.length/\∀ (i:Nat) (r:List PV),rows[i]?=some r->∃ r',rows'[i]?=some r'/\wz r r':=by
 have hj:=(aF.1 hH).1
 have h3:=aE (show id<H'.length by rw [<-h.1];exact hj)
 obtain ⟨rows',e,hl,hr⟩:=(h.2 id _ _ hH h3).of_cells
 rw [e] at h3
 refine ⟨rows',h3,hl,λ i r k=>?_⟩
 have hi:=(aF.1 k).1
 have k3:=aE (show i<rows'.length by rw [<-hl];exact hi)
 exact ⟨_,k3,hr i _ _ k k3⟩
theorem wS.set {H:zd} {id s i:Nat} {rows:List (List PV)} {r r':List PV} (hH:H[id]?=some (.cells s rows)) (hr:rows[i]?=some r) (h:wz r r'):wS H (H.set id (.cells s (rows.set i r'))):=by
 refine ⟨by simp,λ j b b' h1 h2=>?_⟩
 have hj:=(aF.1 hH).1
 by_cases e:id=j
 ·subst e
  rw [aK hj] at h2
  rw [hH] at h1
  cases h1;cases h2
  refine .cells s _ _ (by simp) λ a p q k1 k2=>?_
  have ha:=(aF.1 hr).1
  by_cases e2:i=a
  ·subst e2
   rw [aK ha] at k2
   rw [hr] at k1
   cases k1;cases k2;exact h
  ·rw [aH e2,k1] at k2
   cases k2;exact .refl _
 ·rw [aH e,h1] at h2
  cases h2;exact .same _
mutual
def WT (H:zd) (R:Nat->Prop):Sh->PV->Prop
 |.int k,p=>∃ n,p=.int k n
 |.bool,p=>∃ b,p=.bool b
 |.str,p=>∃ s,p=.str s
 |.flt k,p=>∃ n,p=.flt k n
 |.slice es,p=>∃ id n rows,p=.sl id 0 n n/\R id/\H[id]?=some (.cells es.length rows)/\rows.length=n/\n<=1048576/\∀ r∈rows,xy H R es r
def xy (H:zd) (R:Nat->Prop):List Sh->List PV->Prop
 |[],r=>r=[]
 |e::es,r=>∃ p ps,r=p::ps/\WT H R e p/\xy H R es ps
end
theorem xy.length {H:zd} {R:Nat->Prop}:∀ {es:List Sh} {r:List PV},xy H R es r->r.length=es.length
 |[],r,h=>by simp only [xy] at h;subst h;rfl
 |e::es,r,h=>by simp only [xy] at h;obtain ⟨p,ps,rfl,_,h⟩:=h;simp [h.length]
mutual
theorem WT.kin {H H':zd} {R:Nat->Prop} (hk:wS H H'):∀ {e:Sh} {p q:PV},WT H R e p->Kin p q->WT H' R e q
 |.int k,p,q,h,hq=>by simp only [WT] at h ⊢;obtain ⟨n,rfl⟩:=h;cases hq<;>exact ⟨_,rfl⟩
 |.bool,p,q,h,hq=>by simp only [WT] at h ⊢;obtain ⟨n,rfl⟩:=h;cases hq<;>exact ⟨_,rfl⟩
 |.str,p,q,h,hq=>by simp only [WT] at h ⊢;obtain ⟨n,rfl⟩:=h;cases hq<;>exact ⟨_,rfl⟩
 |.flt k,p,q,h,hq=>by simp only [WT] at h ⊢;obtain ⟨n,rfl⟩:=h;cases hq<;>exact ⟨_,rfl⟩
 |.slice es,p,q,h,hq=>by
  simp only [WT] at h ⊢
  obtain ⟨id,n,rows,rfl,h1,h2,h3,h4,h5⟩:=h
  cases hq
  obtain ⟨rows',k1,k2,k3⟩:=hk.at_ h2
  refine ⟨id,n,rows',rfl,h1,k1,k2▸h3,h4,λ r' hr'=>?_⟩
  obtain ⟨i,hi,e⟩:=List.mem_iff_getElem.1 hr'
  have hi2:i<rows.length:=by rw [k2];exact hi
  obtain ⟨r2,m1,m2⟩:=k3 i _ (aE hi2)
  rw [aE hi,e] at m1
  cases m1
  exact xy.kin hk (h5 _ (dA hi2)) m2
theorem xy.kin {H H':zd} {R:Nat->Prop} (hk:wS H H'):∀ {es:List Sh} {r r':List PV},xy H R es r->wz r r'->xy H' R es r'
 |[],r,r',h,hr=>by
  simp only [xy] at h ⊢;subst h
  exact bT.1 hr.1.symm
 |e::es,r,r',h,hr=>by
  simp only [xy] at h ⊢
  obtain ⟨p,ps,rfl,h1,h2⟩:=h
  cases r' with
  |nil=>have:=hr.1;simp at this
  |cons q qs=>exact ⟨q,qs,rfl,WT.kin hk h1 (hr.2 0 p q rfl rfl),xy.kin hk h2 ⟨by simpa using hr.1,λ j a b k1 k2=>hr.2 (j+1) a b (by simpa using k1) (by simpa using k2)⟩⟩
end
mutual
theorem WT.frame {H H':zd} {R R':Nat->Prop} (hR:∀ id,R id->R' id/\H'[id]?=H[id]?):∀ {e:Sh} {p:PV},WT H R e p->WT H' R' e p
 |.int k,p,h=>by simp only [WT] at h ⊢;exact h
 |.bool,p,h=>by simp only [WT] at h ⊢;exact h
 |.str,p,h=>by simp only [WT] at h ⊢;exact h
 |.flt k,p,h=>by simp only [WT] at h ⊢;exact h
 |.slice es,p,h=>by
  simp only [WT] at h ⊢
  obtain ⟨id,n,rows,rfl,h1,h2,h3,h4,h5⟩:=h
  exact ⟨id,n,rows,rfl,(hR id h1).1,(hR id h1).2.trans h2,h3,h4,λ r hr=>xy.frame hR (h5 r hr)⟩
theorem xy.frame {H H':zd} {R R':Nat->Prop} (hR:∀ id,R id->R' id/\H'[id]?=H[id]?):∀ {es:List Sh} {r:List PV},xy H R es r->xy H' R' es r
 |[],r,h=>by simp only [xy] at h ⊢;exact h
 |e::es,r,h=>by
  simp only [xy] at h ⊢
  obtain ⟨p,ps,rfl,h1,h2⟩:=h
  exact ⟨p,ps,rfl,WT.frame hR h1,xy.frame hR h2⟩
end
mutual
theorem WT.lend {X G:zd} {R:Nat->Prop} {n:Nat} (hG:∀ id,R id->G[n+id]?=(X[id]?).map (zX n)):∀ {e:Sh} {p:PV},WT X R e p->WT G (λ j=>∃ id,j=n+id/\R id) e (zC n p)
 |.int k,p,h=>by simp only [WT] at h ⊢;obtain ⟨m,rfl⟩:=h;exact ⟨m,by rw [zC]⟩
 |.bool,p,h=>by simp only [WT] at h ⊢;obtain ⟨m,rfl⟩:=h;exact ⟨m,by rw [zC]⟩
 |.str,p,h=>by simp only [WT] at h ⊢;obtain ⟨m,rfl⟩:=h;exact ⟨m,by rw [zC]⟩
 |.flt k,p,h=>by simp only [WT] at h ⊢;obtain ⟨m,rfl⟩:=h;exact ⟨m,by rw [zC]⟩
 |.slice es,p,h=>by
  simp only [WT] at h ⊢
  obtain ⟨id,m,rows,rfl,h1,h2,h3,h4,h5⟩:=h
  refine ⟨n+id,m,rows.map (yR n),by rw [zC],⟨id,rfl,h1⟩,by rw [hG id h1,h2];rfl,by simpa using h3,h4,λ r hr=>?_⟩
  obtain ⟨r0,hr0,rfl⟩:=bU.1 hr
  exact xy.lend hG (h5 r0 hr0)
theorem xy.lend {X G:zd} {R:Nat->Prop} {n:Nat} (hG:∀ id,R id->G[n+id]?=(X[id]?).map (zX n)):∀ {es:List Sh} {r:List PV},xy X R es r->xy G (λ j=>∃ id,j=n+id/\R id) es (yR n r)
 |[],r,h=>by simp only [xy] at h ⊢;subst h;rw [yR]
 |e::es,r,h=>by
  simp only [xy] at h ⊢
  obtain ⟨p,ps,rfl,h1,h2⟩:=h
  exact ⟨_,_,by rw [yR],WT.lend hG h1,xy.lend hG h2⟩
end
theorem Kd (d:Nat) {H:zd} {id n s:Nat} {rows:List (List PV)} (h:H[id]?=some (.cells s rows)) (hl:rows.length=n):frz (d+1) H (.sl id 0 n n)=.fz (rows.map (·.map (frz d H))):=by
 subst hl
 simp only [frz,h,beq_self_eq_true,bO,aS,decide_true,Bool.and_self,dZ,List.take_length]
mutual
theorem WT.frz_lend {X G:zd} {R:Nat->Prop} {n:Nat} (hG:∀ id,R id->G[n+id]?=(X[id]?).map (zX n)):∀ {e:Sh} {p:PV},WT X R e p->∀ d,frz d G (zC n p)=frz d X p
 |.int k,p,h,d=>by simp only [WT] at h;obtain ⟨m,rfl⟩:=h;cases d<;>simp only [zC,frz]
 |.bool,p,h,d=>by simp only [WT] at h;obtain ⟨m,rfl⟩:=h;cases d<;>simp only [zC,frz]
 |.str,p,h,d=>by simp only [WT] at h;obtain ⟨m,rfl⟩:=h;cases d<;>simp only [zC,frz]
 |.flt k,p,h,d=>by simp only [WT] at h;obtain ⟨m,rfl⟩:=h;cases d<;>simp only [zC,frz]
 |.slice es,p,h,d=>by
  simp only [WT] at h
  obtain ⟨id,m,rows,rfl,h1,h2,h3,h4,h5⟩:=h
  cases d with
  |zero=>simp only [zC,frz]
  |succ d=>
   rw [zC,Kd d h2 h3,Kd d (show G[n+id]?=some (.cells es.length (rows.map (yR n))) by rw [hG id h1,h2];rfl) (by simpa using h3)]
   congr 1
   rw [cZ]
   exact bM λ r hr=>xy.frz_lend hG (h5 r hr) d
theorem xy.frz_lend {X G:zd} {R:Nat->Prop} {n:Nat} (hG:∀ id,R id->G[n+id]?=(X[id]?).map (zX n)):∀ {es:List Sh} {r:List PV},xy X R es r->∀ d,(yR n r).map (frz d G)=r.map (frz d X)
 |[],r,h,d=>by simp only [xy] at h;subst h;rw [yR];rfl
 |e::es,r,h,d=>by
  simp only [xy] at h
  obtain ⟨p,ps,rfl,h1,h2⟩:=h
  rw [yR,aM,aM,WT.frz_lend hG h1 d,xy.frz_lend hG h2 d]
end
mutual
theorem WT.frz_frame {X G:zd} {R:Nat->Prop} (hG:∀ id,R id->G[id]?=X[id]?):∀ {e:Sh} {p:PV},WT X R e p->∀ d,frz d G p=frz d X p
 |.int k,p,h,d=>by simp only [WT] at h;obtain ⟨m,rfl⟩:=h;cases d<;>simp only [frz]
 |.bool,p,h,d=>by simp only [WT] at h;obtain ⟨m,rfl⟩:=h;cases d<;>simp only [frz]
 |.str,p,h,d=>by simp only [WT] at h;obtain ⟨m,rfl⟩:=h;cases d<;>simp only [frz]
 |.flt k,p,h,d=>by simp only [WT] at h;obtain ⟨m,rfl⟩:=h;cases d<;>simp only [frz]
 |.slice es,p,h,d=>by
  simp only [WT] at h
  obtain ⟨id,m,rows,rfl,h1,h2,h3,h4,h5⟩:=h
  cases d with
  |zero=>simp only [frz]
  |succ d=>
   rw [Kd d h2 h3,Kd d (show G[id]?=some (.cells es.length rows) by rw [hG id h1,h2]) h3]
   congr 1
   exact bM λ r hr=>xy.frz_frame hG (h5 r hr) d
theorem xy.frz_frame {X G:zd} {R:Nat->Prop} (hG:∀ id,R id->G[id]?=X[id]?):∀ {es:List Sh} {r:List PV},xy X R es r->∀ d,r.map (frz d G)=r.map (frz d X)
 |[],r,h,d=>by simp only [xy] at h;subst h;rfl
 |e::es,r,h,d=>by
  simp only [xy] at h
  obtain ⟨p,ps,rfl,h1,h2⟩:=h
  rw [aM,aM,WT.frz_frame hG h1 d,xy.frz_frame hG h2 d]
end
mutual
theorem WT.inside {H:zd} {R:Nat->Prop}:∀ {e:Sh} {p:PV},WT H R e p->WT H (λ j=>R j/\j<H.length) e p
 |.int k,p,h=>by simp only [WT] at h ⊢;exact h
 |.bool,p,h=>by simp only [WT] at h ⊢;exact h
 |.str,p,h=>by simp only [WT] at h ⊢;exact h
 |.flt k,p,h=>by simp only [WT] at h ⊢;exact h
 |.slice es,p,h=>by
  simp only [WT] at h ⊢
  obtain ⟨id,n,rows,rfl,h1,h2,h3,h4,h5⟩:=h
  exact ⟨id,n,rows,rfl,⟨h1,(aF.1 h2).1⟩,h2,h3,h4,λ r hr=>xy.inside (h5 r hr)⟩
theorem xy.inside {H:zd} {R:Nat->Prop}:∀ {es:List Sh} {r:List PV},xy H R es r->xy H (λ j=>R j/\j<H.length) es r
 |[],r,h=>by simp only [xy] at h ⊢;exact h
 |e::es,r,h=>by
  simp only [xy] at h ⊢
  obtain ⟨p,ps,rfl,h1,h2⟩:=h
  exact ⟨p,ps,rfl,WT.inside h1,xy.inside h2⟩
end
section
variable {P:xn}
theorem Vj {body:AC} {σ:Type} (S:Int->σ->St) (ok:Int->σ->Prop) (F:σ->zp×St) (lo n:Int)
  (hstep:∀ i a,lo<=i->i<n->ok i a->∃ st' a',EV P body (S i a)=some (.normal,st')/\(S i a).next st'=S (i+1) a'/\ok (i+1) a')
  (hend:∀ i a,lo<=i->i=n->ok i a->EV P body (S i a)=some (F a)/\(F a).1≠.normal):
  ∀ i a,lo<=i->i<=n->ok i a->∃ a',EV P (.loop body) (S i a)=some (F a')/\ok n a':=by
 intro i a h1 h2 h3
 generalize hm:(n-i).toNat=m
 induction m generalizing i a with
 |zero=>
  have:i=n:=by omega
  subst this
  obtain ⟨k1,k2⟩:=hend i a h1 rfl h3
  refine ⟨a,?_,h3⟩
  rw [uK,k1]
  revert k2
  cases F a with
  |mk e st=>intro k2;cases e<;>first|rfl|exact absurd rfl k2
 |succ m ih=>
  obtain ⟨st',a',k1,k2,k3⟩:=hstep i a h1 (by omega) h3
  obtain ⟨a2,k4,k5⟩:=ih (i+1) a' (by omega) (by omega) k3 (by omega)
  refine ⟨a2,?_,k5⟩
  rw [uK,k1]
  dsimp only
  rw [k2];exact k4
end
theorem wL (n:Nat) (roots:List PV) (H:zd) (h:H.length=n):trim n roots H []=(H,[]):=by
 simp only [trim]
 split
 ·rw [<-h,List.take_length];rfl
 ·rfl
def zhi (P:xn) (f:Nat) (es:List Sh) (c:Nat):Prop:=
 ∀ (R:Nat->Prop) (H:zd) (p:PV) (k:Int),WT H R (.slice es) p->0<=k->k+1048576*c<=4611686018427387904->
  ∃ (k':Int) (H':zd),ES P f [p,.int .i64 k] H=some (.int .i64 k',H',[])/\wS H H'/\(∀ id,¬R id->H'[id]?=H[id]?)/\k<=k'/\k'<=k+1048576*c
end
end Go.Av
end

/- What the functions compute -/
import Derived.Test.YthndemlfnhpdbaaDoorAv2
import Derived.Test.YthndemlfnhpdbaaDoorAv3
import Derived.Test.YthndemlfnhpdbaaDoorCodes
import Derived.Test.YthndemlfnhpdbaaDoorEp1
import Derived.Test.YthndemlfnhpdbaaDoorEp2
set_option linter.all false
section
attribute [local congr] ite_congr
set_option maxRecDepth 10000
set_option maxHeartbeats 4000000
namespace Go.Proofs.Tryd.Av
open Go Go.Av Classical
theorem zno {G:Nat->Option (List PV)} {C:Cl} {st:St} {dst:Option (Bool×Nat)} {op:uU} {g:Option (zy×Bool)} {x:zy} {l:List zy}:vB G C st ⟨dst,op,g,false,x::l⟩=if ((x::l).all λ x=>Wt (Ye G st op) (x.get G st))=true then zt G C st op else none:=by
 show (match XB G st ⟨dst,op,g,false,x::l⟩ with
  |true=>match zt G C st op with
   |some r=>match !false||(refs r.1).isEmpty with|true=>some r|false=>none
   |none=>none
  |false=>none)=_
 have:XB G st ⟨dst,op,g,false,x::l⟩=(x::l).all λ x=>Wt (Ye G st op) (x.get G st):=by simp [XB]
 rw [this]
 cases (x::l).all λ x=>Wt (Ye G st op) (x.get G st)
 ·rfl
 ·cases zt G C st op<;>rfl
theorem zug {H:zd} {id sz by':Nat} {rows:List (List PV)} {n:Nat} (h:H[id]?=some (.cells sz rows)) (hn:n=rows.length) (hb:(n+1)*by'<=35184372088832) (cs:List PV):xe H sz by' (.sl id 0 n n) [cs]=some (.sl id 0 (n+1) (n+1),H.set id (.cells sz (rows++[cs])),wG id cs):=by
 subst hn
 have c1:(rows.length==rows.length&&sz==sz&&decide (0+rows.length<=rows.length)&&decide ((0+rows.length+[cs].length)*by'<=35184372088832))=true:=by simp;exact hb
 have c2:decide (0+rows.length+[cs].length<=rows.length)=false:=by simp
 simp only [xe,h,c1,c2]
 simp
theorem zA6 {ps:List zc} {f:zc} {p q tkp:PV} {gs gs':List Gd} {bs ts t2:List Int} {a:Int} {rl:List Int} {L n m:Nat} {b:Bool} {K:zd} {ed:zI} {gp:PV} {A' B' C' D':Int} (k:KG ⟨31,A',B',C',D'⟩ p q n gs.length t2 ts gs L K gp gs') (t1:xP p bs) (tq:xo q gs) (h1:bs.length<=1048576) {B:Nat} (hB:B+1<bs.length) (hBB:B'=B) (hed:∀ e∈ed,e.2<K.length) (h2:gs.length<=1048576) (hn:t2.length=n) (a0:0<=a) (a1:a<1048576):zhq ps f p q tkp a rl L gs.length b K ed 31 [(a+1,⟨t2,gs'⟩),(A',⟨((kE bs B bs.length).set B 1).set (B+1) 1,gs⟩)]:=by
 have c2:=k.c2
 have c3:=k.c3
 have c8:=k.c8
 obtain ⟨g1,g2,g3⟩:=k.gl
 have hcp:=zcI (s:=⟨bs,gs⟩) (r:=true) t1 tq h1 h2
 have y3:=λ d H=>vQ t1 d H
 have y4:=λ d H=>wl tq d H
 have l1:=λ k=>Wv k bs
 have l2:=λ k=>Zb k gs
 have d1:=ut t1
 have d2:=yQ tq
 have k1:=jl t1
 have k2:=xf tq
 obtain ⟨row,hrow⟩:∃ row:List PV,[.int .i64 (a+1),.bool true,.sl 6 0 n n,gp]=row:=⟨_,rfl⟩
 have hb:=je 4 [.int .i64 0,.bool false,.nils,.nils] row K (by rw [<-hrow];show (true&&(true&&(true&&(true&&(zH gp&&true)))))=true;rw [g2];rfl)
 have hr1:=ju K 4 row
 have hap:=x_ (K++[.cells 4 [row]]) 4 64 [row] (by simp)
 have q2:∀ X:zd,(K++X)[2]?=some (.cells 3 [zq p q]):=λ X=>zY K X c2
 have q3:∀ X:zd,(K++X)[3]?=some (.cells 5 [Ins.cells ⟨31,A',B',C',D'⟩]):=λ X=>zY K X c3
 simp only [Ins.cells,zq] at c2 c3 q2 q3
 simp only [aQ,bK,aY,aB,aA] at hap
 subst hBB
 have n1:¬(K.length+6<K.length+4):=by omega
 have n2:¬(K.length+6<K.length+5):=by omega
 have hz:=zAn (ps:=ps) (f:=f) (a:=a) (p:=p) (q:=q) (tkp:=tkp) (rl:=rl) (L:=L) (m:=gs.length) (b:=b) (M:=K.length) (G:=tG K row bs.length gs) (N:=K.length+7) (ed:=(K.length+3,K.length+4)::(K.length+3,K.length+5)::(K.length+2,K.length+5)::(K.length+2,K.length+4)::ed) (l:=bs) (B:=B) (by omega) h1 (zCN K row _ gs) (zCO K row _ gs) (zCQ K row _ gs) (zv5 K row _ gs) (by intro e he;simp at he;rcases he with rfl|rfl|rfl|rfl|he<;>first|(simp;done)|(simp;omega)|(have:=hed e he;omega))
 have hb1:Nat.beq K.length (K.length+2)=false:=K3 (by omega)
 have hb2:Nat.beq (K.length+4) 3=false:=K3 (by have:=k.len;have:=k.h9;omega)
 have zl:=zlU (l:=bs) (B:=B) (i:=bs.length) (by omega) (aS _)
 have y0:(B:Int)<bs.length:=by omega
 have y1:(B:Int)+1<bs.length:=by omega
 obtain ⟨z,hzz⟩:∃ z,kE bs B bs.length=z:=⟨_,rfl⟩
 rw [hzz] at zl
 rw [hzz]
 have hg0:z[B]?=some (z[B]'(by omega)):=aE (by omega)
 have hs0:(ym z).set B [.int .i64 1]=ym (z.set B 1):=by simp [ym]
 obtain ⟨z1,hz1⟩:∃ z1,z.set B 1=z1:=⟨_,rfl⟩
 rw [hz1] at hs0 ⊢
 have zl1:z1.length=bs.length:=by rw [<-hz1,bI,zl]
 have hg1:z1[B+1]?=some (z1[B+1]'(by omega)):=aE (by omega)
 have hs1:(ym z1).set (B+1) [.int .i64 1]=ym (z1.set (B+1) 1):=by simp [ym]
 obtain ⟨z2,hz2⟩:∃ z2,z1.set (B+1) 1=z2:=⟨_,rfl⟩
 rw [hz2] at hs1 ⊢
 have zl2:z2.length=bs.length:=by rw [<-hz2,bI,zl1]
 have hT:((B:Int)+1).toNat=B+1:=by omega
 obtain ⟨r2,hr2⟩:∃ row:List PV,[.int .i64 A',.bool true,.sl (K.length+4) 0 bs.length bs.length,.sl (K.length+5) 0 gs.length gs.length]=row:=⟨_,rfl⟩
 obtain ⟨G,hG⟩:∃ G,tG K row bs.length gs=G:=⟨_,rfl⟩
 have hG0:K++[.cells 4 [row],.cells 4 [row],.cells 3 [[.bool true,.sl (K.length+4) 0 bs.length bs.length,.sl (K.length+5) 0 gs.length gs.length]],.cells 3 [[.bool true,.sl (K.length+4) 0 bs.length bs.length,.sl (K.length+5) 0 gs.length gs.length]],.cells 1 (ym bs),.cells 3 (wE gs),.cells 3 [[.bool true,.sl (K.length+4) 0 bs.length bs.length,.sl (K.length+5) 0 gs.length gs.length]]]=G bs:=by rw [<-hG];rfl
 have u3:∀ t,(G t)[3]?=some (.cells 5 [[.int .i64 31,.int .i64 A',.int .i64 B,.int .i64 C',.int .i64 D']]):=λ t=>by rw [<-hG];exact zCP _ _ _ _ _ c3
 have u1:=zEl K row bs.length gs
 have u4:=zCN K row bs.length gs
 have u5:=zEm K row bs.length gs
 have u6:=zCO K row bs.length gs
 have us:=zCQ K row bs.length gs
 have ul:=zv5 K row bs.length gs
 rw [hG] at hz u1 u4 u5 u6 us ul
 rw [hzz] at hz
 have hb3:bsK 4 [.int .i64 0,.bool false,.nils,.nils] r2 (G z2)=some (.sl (K.length+7) 0 1 1,G z2++[.cells 4 [r2]],[]):=by
  have:=je 4 [.int .i64 0,.bool false,.nils,.nils] r2 (G z2) (by rw [<-hr2];rfl)
  rw [ul] at this;exact this
 have hr3:=Xi (G z2) (K.length+7) (ul z2).symm 4 r2
 have hap2:=zug (by':=64) (n:=1) (zY (G z2) [zZ.cells 4 [r2]] (u1 z2)) rfl (by omega) r2
 obtain ⟨FH,hFH⟩:∃ FH,(G z2++[zZ.cells 4 [r2]]).set (K.length+1) (zZ.cells 4 ([row]++[r2]))=FH:=⟨_,rfl⟩
 rw [hFH] at hap2
 have hFK:FH=K++[.cells 4 [row],.cells 4 [row,r2],.cells 3 [[.bool true,.sl (K.length+4) 0 bs.length bs.length,.sl (K.length+5) 0 gs.length gs.length]],.cells 3 [[.bool true,.sl (K.length+4) 0 bs.length bs.length,.sl (K.length+5) 0 gs.length gs.length]],.cells 1 (ym z2),.cells 3 (wE gs),.cells 3 [[.bool true,.sl (K.length+4) 0 bs.length bs.length,.sl (K.length+5) 0 gs.length gs.length]],.cells 4 [r2]]:=by
  rw [<-hFH, <-hG,tG,aY,QH];rfl
 have f1:FH[K.length+1]?=some (.cells 4 [row,r2]):=by rw [hFK,wF];rfl
 have f4:FH[K.length+4]?=some (.cells 1 (ym z2)):=by rw [hFK,wF];rfl
 have f5:FH[K.length+5]?=some (.cells 3 (wE gs)):=by rw [hFK,wF];rfl
 have d1':zhf FH row (a+1,⟨t2,gs'⟩):=by rw [hFK, <-hrow];exact k.row hn _ _
 have d2':zhf FH r2 (A',⟨z2,gs⟩):=by
  rw [<-hr2, <-zl2]
  exact ⟨_,_,rfl,⟨by simp [refs],by simp [refs]⟩,λ d=>.inl (jD f4),λ d=>.inl (kP f5)⟩
 have hE31:wJ 31=[(233,.bool false),(243,.bool true)]:=by simp [wJ]
 have hD31:decide ((31:Int)=32\/(31:Int)=36)=false:=by decide
 simp only [zjR,jB,xA,yF,z7,hE31,hD31,aB,aA,zq,wE] at hz hG0
 refine ⟨_,by (simp -implicitDefEqProofs +contextual (disch:=omega) only [QZ,zh,jB,xA,yF,z7,wJ,aB,aA,zq,zF,Ins.cells,bZ,Nat.reduceAdd, ↓zz, ↓zG,zA, ↓XD,XU, ↓reduceIte,sevalprocAttr,c2,c3,c8,q2,q3,g1,g2,g3,a0,hrow,hb,hr1.1,hr1.2,hap,hcp,y3 6,y4 6,y3 5,y4 5,l1,l2,d1,d2,k1,k2,eq_false n1,eq_false n2,bA,hG0,hz,u3,u4,u6,us,zl,zl1,zl2,y0,y1,hT,hg0,hs0,hg1,hs1,zno,Ye,Wt,List.all_cons,List.all_nil,hb1,hb2,Bool.not_false,Bool.and_self,hr2,hb3,hr3.1,hr3.2,hap2])<;>rfl,rfl,Qz.two (id:=K.length+1) f1 d1' d2'⟩
theorem zkN {d:Nat} {H:zd} {p:PV} {rows:List (List PV)} (h:Go.Av.frz (d+1) H p=.fz rows) (hr:¬refs p=[]):∃ id off len tot s rs,p=.sl id off len tot/\H[id]?=some (.cells s rs)/\(tot==rs.length&&decide (off+len<=tot))=true/\((rs.drop off).take len).map (·.map (Go.Av.frz d H))=rows:=by
 cases p with
 |sl id off len tot=>
  rw [Go.Av.frz] at h
  cases hb:H[id]? with
  |none=>rw [hb] at h;cases h
  |some b=>cases b with
   |cells s rs=>
    rw [hb] at h
    cases hc:(tot==rs.length&&decide (off+len<=tot)) with
    |true=>simp only [hc] at h;injection h with h;exact ⟨_,_,_,_,_,_,rfl,hb,hc,h⟩
    |false=>simp only [hc] at h;cases h
   |map es=>rw [hb] at h;cases h
 |ptr id row off tot=>
  rw [Go.Av.frz] at h
  repeat' split at h
  all_goals cases h
 |mp id=>
  rw [Go.Av.frz] at h
  repeat' split at h
  all_goals cases h
 |_=>first|(simp [refs] at hr;done)|(rw [Go.Av.frz] at h;cases h;done)|(simp [Go.Av.frz] at h;done)
theorem zfV {d:Nat} {H:zd} {p:PV} (h:Go.Av.frz (d+1) H p=.nils) (hr:¬refs p=[]):False:=by
 cases p with
 |sl id off len tot=>
  rw [Go.Av.frz] at h
  repeat' split at h
  all_goals cases h
 |ptr id row off tot=>
  rw [Go.Av.frz] at h
  repeat' split at h
  all_goals cases h
 |mp id=>
  rw [Go.Av.frz] at h
  repeat' split at h
  all_goals cases h
 |_=>first|(simp [refs] at hr;done)|(rw [Go.Av.frz] at h;cases h;done)|(simp [Go.Av.frz] at h;done)
theorem QL {d:Nat} {H:zd} {c:PV} {k:IntKind} {x:Int} (h:Go.Av.frz (d+1) H c=.int k x):c=.int k x:=by
 cases c with
 |sl id off len tot=>
  rw [Go.Av.frz] at h
  repeat' split at h
  all_goals cases h
 |ptr id row off tot=>
  rw [Go.Av.frz] at h
  repeat' split at h
  all_goals cases h
 |mp id=>
  rw [Go.Av.frz] at h
  repeat' split at h
  all_goals cases h
 |_=>first|exact h|(rw [Go.Av.frz] at h;cases h;done)|(simp [Go.Av.frz] at h;done)
theorem zbV {d:Nat} {H:zd} {c:PV} {x:Bool} (h:Go.Av.frz (d+1) H c=.bool x):c=.bool x:=by
 cases c with
 |sl id off len tot=>
  rw [Go.Av.frz] at h
  repeat' split at h
  all_goals cases h
 |ptr id row off tot=>
  rw [Go.Av.frz] at h
  repeat' split at h
  all_goals cases h
 |mp id=>
  rw [Go.Av.frz] at h
  repeat' split at h
  all_goals cases h
 |_=>first|exact h|(rw [Go.Av.frz] at h;cases h;done)|(simp [Go.Av.frz] at h;done)
theorem zkX {d:Nat} {H:zd}:∀ {rs:List (List PV)} {l:List Int},rs.map (·.map (Go.Av.frz (d+1) H))=ym l->rs=ym l
 |[],[],_=>rfl
 |[],_::_,h=>by simp at h
 |_::_,[],h=>by simp at h
 |r::rs,x::l,h=>by
  simp only [ym,aM,dT] at h
  have h2:=zkX (rs:=rs) (l:=l) h.2
  match r,h.1 with
  |[],h1=>simp at h1
  |[c],h1=>
   simp only [aM,bA,dT,and_true] at h1
   rw [QL h1,h2];rfl
  |_::_::_,h1=>simp at h1
theorem zkW {d:Nat} {H:zd}:∀ {rs:List (List PV)} {l:List Gd},rs.map (·.map (Go.Av.frz (d+1) H))=wE l->rs=wE l
 |[],[],_=>rfl
 |[],_::_,h=>by simp at h
 |_::_,[],h=>by simp at h
 |r::rs,x::l,h=>by
  simp only [wE,Gd.cells,aM,dT] at h
  have h2:=zkW (rs:=rs) (l:=l) h.2
  match r,h.1 with
  |[],h1=>simp at h1
  |[_],h1=>simp at h1
  |[_,_],h1=>simp at h1
  |[c1,c2,c3],h1=>
   simp only [aM,bA,dT,and_true] at h1
   rw [zbV h1.1,QL h1.2.1,QL h1.2.2,h2];rfl
  |_::_::_::_::_,h1=>simp at h1
theorem zhJ {d:Nat} {H:zd} {id off len tot s:Nat} {rs rows:List (List PV)} (h:H[id]?=some (.cells s rs)) (hc:(tot==rs.length&&decide (off+len<=tot))=true) (e:(rs.drop off).take len=rows) (k:Nat) (hk:k=id):Go.Av.frz (d+1) H (.sl k off len tot)=.fz (rows.map (·.map (Go.Av.frz d H))):=by
 subst hk
 rw [Go.Av.frz,h]
 simp only [hc,e]
theorem zj3 {H:zd} {id s:Nat} {rs:List (List PV)} (h:H[id]?=some (.cells s rs)):(H.map (zX 0))[id]?=some (.cells s (rs.map (yR 0))):=by
 rw [aN,h];rfl
theorem zxh {d:Nat} {H:zd} {p:PV} {l:List Int} (h:xP (Go.Av.frz (d+2) H p) l) (hr:¬refs p=[]):xP (Go.Av.frz (d+2) (H.map (zX 0)) (zC 0 p)) l:=by
 rcases h with h|⟨h,_⟩
 ·obtain ⟨id,off,len,tot,s,rs,rfl,hb,hc,e⟩:=zkN h hr
  have e:=zkX e
  have e2:((rs.map (yR 0)).drop off).take len=ym l:=by rw [<-List.map_drop, <-List.map_take,e,Wv]
  have:=zhJ (d:=d+1) (zj3 hb) (by rw [cF];exact hc) e2 (0+id) (by omega)
  refine .inl ?_
  rw [zC,this,yt]
  simp [ym,Go.Av.frz]
 ·exact (zfV h hr).elim
theorem zxf {d:Nat} {H:zd} {p:PV} {l:List Gd} (h:xo (Go.Av.frz (d+2) H p) l) (hr:¬refs p=[]):xo (Go.Av.frz (d+2) (H.map (zX 0)) (zC 0 p)) l:=by
 rcases h with h|⟨h,_⟩
 ·obtain ⟨id,off,len,tot,s,rs,rfl,hb,hc,e⟩:=zkN h hr
  have e:=zkW e
  have e2:((rs.map (yR 0)).drop off).take len=wE l:=by rw [<-List.map_drop, <-List.map_take,e,Zb]
  have:=zhJ (d:=d+1) (zj3 hb) (by rw [cF];exact hc) e2 (0+id) (by omega)
  refine .inl ?_
  rw [zC,this,gds]
  simp [wE,Go.Av.frz]
 ·exact (zfV h hr).elim
def zBk (row:List PV) (x:Int×ya):Prop:=∃ p q,row=[.int .i64 x.1,.bool true,p,q]/\xP p x.2.Types/\xo q x.2.Guards
def zoM (v:PV) (L:List (Int×ya)):Prop:=(v=.nils/\L=[])\/∃ rows,v=.fz rows/\rows.length=L.length/\∀ (i:Nat) (row:List PV) (x:Int×ya),rows[i]?=some row->L[i]?=some x->zBk row x
theorem Qz.frz {K:zd} {l:PV} {L:List (Int×ya)} (h:Qz K l L):zoM (Go.Av.frz 7 (K.map (zX 0)) (zC 0 l)) L:=by
 rcases h with ⟨rfl,rfl⟩|⟨id,rows,rfl,hb,hl,hr⟩
 ·exact .inl ⟨rfl,rfl⟩
 ·have hc:(L.length==(rows.map (yR 0)).length&&decide (0+L.length<=L.length))=true:=by simp [hl]
  have e2:((rows.map (yR 0)).drop 0).take L.length=rows.map (yR 0):=by rw [dZ,dH (by simp [hl])]
  refine .inr ⟨_,zhJ (d:=6) (zj3 hb) hc e2 (0+id) (by omega),by simp [hl],λ i row x h1 h2=>?_⟩
  rw [cZ,aN] at h1
  cases hk:rows[i]? with
  |none=>rw [hk] at h1;cases h1
  |some r=>
   rw [hk] at h1
   injection h1 with h1
   obtain ⟨pT,pG,rfl,⟨n1,n2⟩,k1,k2⟩:=hr i r x hk h2
   exact ⟨_,_,h1.symm,zxh (k1 4) n1,zxf (k2 4) n2⟩
end Go.Proofs.Tryd.Av
end
section
set_option maxRecDepth 10000
set_option maxHeartbeats 4000000
namespace Go.Proofs.Tryd.Av
open Go Go.Av Classical
theorem zh4 (a b c d:Int):za [a,b,c,d] 0=a/\za [a,b,c,d] (0+1)=b/\za [a,b,c,d] (0+1+1)=c/\za [a,b,c,d] (0+1+1+1)=d:=⟨rfl,rfl,rfl,rfl⟩
theorem wT (nd:Ins) (a b c d:Int) (ts:List Int):iwN nd [a,b,c,d] 4 0 ts=
  let v:=if nd.Op=41 then 3 else yT nd.Op
  let t1:=if a=1 then ts.set nd.A.toNat v else ts
  let t2:=if b=1 then t1.set nd.B.toNat v else t1
  let t3:=if c=1 then t2.set nd.C.toNat v else t2
  if d=1 then t3.set nd.D.toNat v else t3:=by
 simp only [iwN,iw1,(zh4 a b c d).1,(zh4 a b c d).2.1,(zh4 a b c d).2.2.1,(zh4 a b c d).2.2.2,(zh4 nd.A nd.B nd.C nd.D).1,(zh4 nd.A nd.B nd.C nd.D).2.1,(zh4 nd.A nd.B nd.C nd.D).2.2.1,(zh4 nd.A nd.B nd.C nd.D).2.2.2]
theorem we {o k:Int} {l rl:List Int} (h:o=k) (hro:zE o=some rl) (he:zE k=some l):rl=l:=by
 rw [h,he] at hro;injection hro with hro;exact hro.symm
theorem zhR (nd:Ins) {l:List Int} (hs:zg nd.Op=some l) {rl:List Int} (hro:zE nd.Op=some rl) (ts:List Int):yb nd rl ts=writes nd ts:=by
 by_cases h1:nd.Op=1
 ·rw [we h1 hro (l:=[7,0,0,0]) (by decide +kernel),yb,wT];simp [writes,yT,zg,za,h1]
 by_cases h2:nd.Op=2
 ·rw [we h2 hro (l:=[8,0,0,0]) (by decide +kernel),yb,wT];simp [writes,yT,zg,za,h2]
 by_cases h3:nd.Op=3
 ·rw [we h3 hro (l:=[0,0,0,0]) (by decide +kernel),yb,wT];simp [writes,yT,zg,za,h3]
 by_cases h4:nd.Op=4
 ·rw [we h4 hro (l:=[1,9,0,0]) (by decide +kernel),yb,wT];simp [writes,yT,zg,za,h4]
 by_cases h5:nd.Op=5
 ·rw [we h5 hro (l:=[1,2,0,0]) (by decide +kernel),yb,wT];simp [writes,yT,zg,za,h5]
 by_cases h6:nd.Op=6
 ·rw [we h6 hro (l:=[1,2,0,0]) (by decide +kernel),yb,wT];simp [writes,yT,zg,za,h6]
 by_cases h7:nd.Op=7
 ·rw [we h7 hro (l:=[1,5,0,0]) (by decide +kernel),yb,wT];simp [writes,yT,zg,za,h7]
 by_cases h8:nd.Op=8
 ·rw [we h8 hro (l:=[5,2,0,0]) (by decide +kernel),yb,wT];simp [writes,yT,zg,za,h8]
 by_cases h9:nd.Op=9
 ·rw [we h9 hro (l:=[1,10,0,0]) (by decide +kernel),yb,wT];simp [writes,yT,zg,za,h9]
 by_cases h10:nd.Op=10
 ·rw [we h10 hro (l:=[10,2,0,0]) (by decide +kernel),yb,wT];simp [writes,yT,zg,za,h10]
 by_cases h11:nd.Op=11
 ·rw [we h11 hro (l:=[1,11,0,0]) (by decide +kernel),yb,wT];simp [writes,yT,zg,za,h11]
 by_cases h12:nd.Op=12
 ·rw [we h12 hro (l:=[1,0,0,0]) (by decide +kernel),yb,wT];simp [writes,yT,zg,za,h12]
 by_cases h13:nd.Op=13
 ·rw [we h13 hro (l:=[4,2,2,0]) (by decide +kernel),yb,wT];simp [writes,yT,zg,za,h13]
 by_cases h14:nd.Op=14
 ·rw [we h14 hro (l:=[4,2,3,0]) (by decide +kernel),yb,wT];simp [writes,yT,zg,za,h14]
 by_cases h15:nd.Op=15
 ·rw [we h15 hro (l:=[1,2,2,0]) (by decide +kernel),yb,wT];simp [writes,yT,zg,za,h15]
 by_cases h16:nd.Op=16
 ·rw [we h16 hro (l:=[2,2,2,0]) (by decide +kernel),yb,wT];simp [writes,yT,zg,za,h16]
 by_cases h17:nd.Op=17
 ·rw [we h17 hro (l:=[1,14,2,0]) (by decide +kernel),yb,wT];simp [writes,yT,zg,za,h17]
 by_cases h18:nd.Op=18
 ·rw [we h18 hro (l:=[1,13,2,2]) (by decide +kernel),yb,wT];simp [writes,yT,zg,za,h18]
 by_cases h19:nd.Op=19
 ·rw [we h19 hro (l:=[12,0,0,0]) (by decide +kernel),yb,wT];simp [writes,yT,zg,za,h19]
 by_cases h20:nd.Op=20
 ·rw [we h20 hro (l:=[2,12,0,0]) (by decide +kernel),yb,wT];simp [writes,yT,zg,za,h20]
 by_cases h21:nd.Op=21
 ·rw [we h21 hro (l:=[2,12,0,0]) (by decide +kernel),yb,wT];simp [writes,yT,zg,za,h21]
 by_cases h22:nd.Op=22
 ·rw [we h22 hro (l:=[1,0,0,0]) (by decide +kernel),yb,wT];simp [writes,yT,zg,za,h22]
 by_cases h23:nd.Op=23
 ·rw [we h23 hro (l:=[6,2,0,0]) (by decide +kernel),yb,wT];simp [writes,yT,zg,za,h23]
 by_cases h24:nd.Op=24
 ·rw [we h24 hro (l:=[6,3,0,0]) (by decide +kernel),yb,wT];simp [writes,yT,zg,za,h24]
 by_cases h25:nd.Op=25
 ·rw [we h25 hro (l:=[1,3,0,0]) (by decide +kernel),yb,wT];simp [writes,yT,zg,za,h25]
 by_cases h26:nd.Op=26
 ·rw [we h26 hro (l:=[1,6,15,0]) (by decide +kernel),yb,wT];simp [writes,yT,zg,za,h26]
 by_cases h27:nd.Op=27
 ·rw [we h27 hro (l:=[1,6,0,0]) (by decide +kernel),yb,wT];simp [writes,yT,zg,za,h27]
 by_cases h28:nd.Op=28
 ·rw [we h28 hro (l:=[1,2,3,0]) (by decide +kernel),yb,wT];simp [writes,yT,zg,za,h28]
 by_cases h29:nd.Op=29
 ·rw [we h29 hro (l:=[3,0,0,0]) (by decide +kernel),yb,wT];simp [writes,yT,zg,za,h29]
 by_cases h30:nd.Op=30
 ·rw [we h30 hro (l:=[2,0,0,0]) (by decide +kernel),yb,wT];simp [writes,yT,zg,za,h30]
 by_cases h31:nd.Op=31
 ·rw [we h31 hro (l:=[12,17,0,0]) (by decide +kernel),yb,wT];simp [writes,yT,zg,za,h31]
 by_cases h32:nd.Op=32
 ·rw [we h32 hro (l:=[0,0,0,0]) (by decide +kernel),yb,wT];simp [writes,yT,zg,za,h32]
 by_cases h33:nd.Op=33
 ·rw [we h33 hro (l:=[16,0,0,0]) (by decide +kernel),yb,wT];simp [writes,yT,zg,za,h33]
 by_cases h34:nd.Op=34
 ·rw [we h34 hro (l:=[16,0,0,0]) (by decide +kernel),yb,wT];simp [writes,yT,zg,za,h34]
 by_cases h35:nd.Op=35
 ·rw [we h35 hro (l:=[2,3,0,0]) (by decide +kernel),yb,wT];simp [writes,yT,zg,za,h35]
 by_cases h36:nd.Op=36
 ·rw [we h36 hro (l:=[0,0,0,0]) (by decide +kernel),yb,wT];simp [writes,yT,zg,za,h36]
 by_cases h37:nd.Op=37
 ·rw [we h37 hro (l:=[18,0,0,0]) (by decide +kernel),yb,wT];simp [writes,yT,zg,za,h37]
 by_cases h38:nd.Op=38
 ·rw [we h38 hro (l:=[18,12,0,0]) (by decide +kernel),yb,wT];simp [writes,yT,zg,za,h38]
 by_cases h39:nd.Op=39
 ·rw [we h39 hro (l:=[18,12,0,0]) (by decide +kernel),yb,wT];simp [writes,yT,zg,za,h39]
 by_cases h40:nd.Op=40
 ·rw [we h40 hro (l:=[19,0,0,0]) (by decide +kernel),yb,wT];simp [writes,yT,zg,za,h40]
 by_cases h41:nd.Op=41
 ·rw [we h41 hro (l:=[20,12,1,0]) (by decide +kernel),yb,wT];simp [writes,yT,zg,za,h41]
 by_cases h42:nd.Op=42
 ·rw [we h42 hro (l:=[1,0,0,0]) (by decide +kernel),yb,wT];simp [writes,yT,zg,za,h42]
 exfalso
 simp [zg,h1,h2,h3,h4,h5,h6,h7,h8,h9,h10,h11,h12,h13,h14,h15,h16,h17,h18,h19,h20,h21,h22,h23,h24,h25,h26,h27,h28,h29,h30,h31,h32,h33,h34,h35,h36,h37,h38,h39,h40,h41,h42] at hs
theorem zoU:∀ {l:List (Int×List Int)} {o:Int} {r:List Int},yC l o=some r->(o,r)∈l
 |[],_,_,h=>by cases h
 |e::l,o,r,h=>by
  rw [yC] at h
  split at h
  ·rename_i q
   injection h with h
   rw [q, <-h];exact cM
  ·exact bL _ (zoU h)
theorem zBd:∀ e∈yN,∀ k∈([0,1,2,3]:List Int),za e.2 k=11->e.1=11/\k=1:=by decide +kernel
theorem zxN {o:Int} {l:List Int} (hs:zg o=some l) {rl:List Int} (hro:zE o=some rl) {k:Int} (k0:0<=k) (k1:k<4) (hk:za rl k=11):o=11/\k=1:=
 zBd (o,rl) (zoU hro) k (by simp;omega) hk
end Go.Proofs.Tryd.Av
end
section
attribute [local congr] ite_congr
set_option maxRecDepth 10000
set_option maxHeartbeats 4000000
namespace Go.Proofs.Tryd.Av
open Go Go.Av Classical
section
theorem zoj {l:List Int} {i:Nat} {x:Int} (h:l[i]?=some x):l.set i x=l:=by
 have hi:=(aF.1 h).1
 refine dN λ j=>?_
 by_cases e:i=j
 ·subst e;rw [aK hi,h]
 ·rw [aH e]
theorem zcO {ps:List zc} {rs fs:List Int} {k:Int} {a b:List Int×List Int} (h:uk ps rs fs k a=some b) (n2:¬za rs k=2) (n3:¬za rs k=3):b=a:=by
 unfold uk at h
 rw [if_neg (by simp [n2,n3])] at h
 split at h
 ·split at h
  ·cases h
  ·cases h;rfl
 ·split at h
  ·cases h
  ·cases h;rfl
theorem zxe {ps:List zc} {nd:Ins} {ts:List Int} {x:List Int×List Int} (h:Z_ ps [20,12,1,0] nd ts=some x):x.1=ts:=by
 unfold Z_ at h
 split at h
 ·cases h
 ·rename_i a h0
  split at h
  ·cases h
  ·rename_i b h1
   split at h
   ·cases h
   ·rename_i c h2
    rw [zcO h (by simp [za]) (by simp [za]),zcO h2 (by simp [za]) (by simp [za]),zcO h1 (by simp [za]) (by simp [za]),zcO h0 (by simp [za]) (by simp [za])]
theorem zAe {ps:List zc} {rs:List Int} {nd:Ins} {ts:List Int} {x:List Int×List Int} (h:Z_ ps rs nd ts=some x):x.1.length=ts.length/\x.2.length<=4:=by
 unfold Z_ at h
 split at h
 ·cases h
 ·rename_i a h0
  split at h
  ·cases h
  ·rename_i b h1
   split at h
   ·cases h
   ·rename_i c h2
    have k0:=zbX h0
    have k1:=zbX h1
    have k2:=zbX h2
    have k3:=zbX h
    simp only [bE] at k0
    omega
section
variable {ps:List zc} {f:zc} {p q tkp:PV} {gs':List Gd} {ts t2:List Int} {a:Int} {rl:List Int} {L n:Nat} {b:Bool} {K:zd} {ed:zI} {gp:PV}
theorem zEk {nd:Ins} {s:ya} (k:KG nd p q n s.Guards.length t2 ts s.Guards L K gp gs') (hn:t2.length=n) (hts:ts.length=n) (a0:0<=a) (a1:a<1048576) (t1:xP p s.Types) (tq:xo q s.Guards) (hbl:s.Types.length=n) (h1:n<=1048576) (h2:s.Guards.length<=1048576)
  (hed:∀ e∈ed,e.2<K.length) (h31:nd.Op=31->0<=nd.B/\nd.B+1<n) (h41:nd.Op=41->ts=s.Types/\t2=s.Types.set nd.C.toNat 3/\0<=nd.C/\nd.C<n/\gs'=s.Guards):
  zhq ps f p q tkp a rl L s.Guards.length b K ed nd.Op (wR nd a s t2 gs'):=by
 obtain ⟨o,A',B',C',D'⟩:=nd
 simp only at h31 h41 ⊢
 by_cases n29:o=29
 ·rw [show wR ⟨o,A',B',C',D'⟩ a s t2 gs'=[] by simp [wR,n29]];exact zp8 k (.inl n29)
 by_cases n30:o=30
 ·rw [show wR ⟨o,A',B',C',D'⟩ a s t2 gs'=[] by simp [wR,n30]];exact zp8 k (.inr n30)
 by_cases n19:o=19
 ·subst n19
  rw [show wR ⟨19,A',B',C',D'⟩ a s t2 gs'=[(A',⟨t2,gs'⟩)] by simp [wR]];exact zyC k hn
 by_cases n20:o=20\/o=21\/o=38\/o=39
 ·rw [show wR ⟨o,A',B',C',D'⟩ a s t2 gs'=[(a+1,⟨t2,gs'⟩),(B',⟨t2,gs'⟩)] by simp [wR,n29,n30,n19,n20]];exact zA7 k hn a0 a1 n20
 by_cases n41:o=41
 ·obtain ⟨e1,e2,c0,c1,e3⟩:=h41 n41
  subst n41
  have e:t2.set C'.toNat (za s.Types C')=ts:=by
   have:=xX (l:=s.Types) c0 (by omega)
   rw [e1,e2,dR]
   exact zoj this
  rw [show wR ⟨41,A',B',C',D'⟩ a s t2 gs'=[(a+1,⟨t2,gs'⟩),(B',⟨t2.set C'.toNat (za s.Types C'),gs'⟩)] by simp [wR],e]
  have:=zyB (ps:=ps) (f:=f) (tkp:=tkp) (rl:=rl) (b:=b) (ed:=ed) k hn hts a0 a1
  rw [<-e3] at this ⊢
  exact this
 by_cases n31:o=31
 ·obtain ⟨b0,b1⟩:=h31 n31
  subst n31
  obtain ⟨B,hB⟩:∃ B:Nat,B'=B:=⟨B'.toNat,by omega⟩
  have e:wR ⟨31,A',B',C',D'⟩ a s t2 gs'=[(a+1,⟨t2,gs'⟩),(A',⟨((kE s.Types B s.Types.length).set B 1).set (B+1) 1,s.Guards⟩)]:=by
   have h3:((B:Int)+1).toNat=B+1:=by omega
   simp [wR,hB,kE,h3]
  rw [e]
  subst hbl
  exact zA6 (m:=0) k t1 tq h1 (by omega) hB hed h2 hn a0 a1
 have e:wR ⟨o,A',B',C',D'⟩ a s t2 gs'=[(a+1,⟨t2,gs'⟩)]:=by simp [wR,n29,n30,n19,n20,n41,n31]
 rw [e]
 simp only [not_or] at n20
 exact zyD k hn a0 a1 n29 n30 n19 n20.1 n20.2.1 n20.2.2.1 n20.2.2.2 n41 n31
end
def zzd (x:Int ⊕ List (Int×ya)) (st:St):Prop:=match x with
 |.inl c=>st.per.get 8=.int .i64 c/\st.per.get 9=.nils
 |.inr l=>st.per.get 8=.int .i64 0/\Qz st.H (st.per.get 9) l
theorem zA8 {ps:List zc} (hS:Shaped ps) {i:Int} (p0:0<=i) (p1:i<ps.length) {f:zc} (hf:za ps i=f) {a:Int} (a0:0<=a) (a1:a<f.Ins.length) {s:ya} (hs:KQ f s) {p q:PV} (t1:xP p s.Types) (t2:xo q s.Guards):
  ∃ st,EV A wa ⟨ziE ps f a p q,[],[],[]⟩=some (.ret,st)/\zzd (Zv ps (za f.Ins a) a s) st:=by
 have hPO:=hS.fine.ok i p0 p1
 have hins:=hS.fine.ins i p0 p1 a a0 (by rw [hf];exact a1)
 have hN:=hPO.i
 have hR0:=hPO.r0
 have hR1:=hPO.r1
 have hst:=hs.t
 have hsg:=hs.g
 have hTl:(s.Types.length:Int)=(za ps i).Regs:=by rw [hf];exact hst
 obtain ⟨s0,s1,s2,s3,hso⟩:=zmN hins
 have hii:=((zjZ ps i a hPO).1 hins).1
 have hups:=λ ho=>zv9 (hS.ups i p0 p1 a a0 (by rw [hf];exact a1) ho) hTl
 have hsz:=hS.size
 simp only [hf] at hN hR0 hR1 hTl hso hii hups
 obtain ⟨nd,hnd⟩:∃ nd,za f.Ins a=nd:=⟨_,rfl⟩
 simp only [hnd] at hso hii hups ⊢
 rw [zme] at hii
 cases hro:zE nd.Op with
 |none=>simp only [hro] at hii
 |some rl=>
 simp only [hro] at hii
 have hrl:=zkS _ _ hro
 have hfit:∀ k:Int,0<=k->k<4->xM ps.length f (za rl k) (za [nd.A,nd.B,nd.C,nd.D] k):=λ k k0 k1=>cD λ hc=>y8.1 hii k k0 k1 hc
 have g:zfG ps f nd p q rl s.Types.length:=⟨hrl,hro,by omega,hTl,hS.n,yB t1,yI t2,hfit,λ k k0 k1 hk=>?_⟩
 ·have h1:=zyE (a:=a) g t1 t2 (by omega) a0 a1 hN hnd
  have hrs:=ztA ps nd s.Types hso
  unfold xI at hrs
  rw [hro,cR] at hrs
  unfold Zv
  rw [<-hrs]
  cases hr:Z_ ps rl nd s.Types with
  |none=>rw [hr] at h1;exact h1
  |some x=>
   rw [hr] at h1
   obtain ⟨tkp,H,hH,e1⟩:=h1
   obtain ⟨xl,xk⟩:=zAe hr
   have h2:=zEh (a:=a) (rl:=rl) hH (by omega) t1 t2 (by omega)
   unfold WA at h2
   dsimp only
   rw [show (if nd.Op=40 then x.2++[nd.A] else x.2)=jK nd x.2 from rfl]
   cases hc:change nd s.Guards with
   |none=>
    rw [hc] at h2
    obtain ⟨st,e2,g8,g9⟩:=h2
    exact ⟨st,e1.trans e2,g8,g9⟩
   |some gs'=>
    rw [hc] at h2
    obtain ⟨tkp',H',b,g',hH',e2⟩:=h2
    have hH9:=yJ hH'.c8
    have tkl:(jK nd x.2).length<=5:=by unfold jK;split<;>(try rw [aQ,bK])<;>omega
    have h3:=zEi (a:=a) (rl:=rl) hH' t1 t2 xl.symm (by omega) (by omega) (by omega) hrl hro g' b (λ y hy=>by have:=hs.k y hy;omega) (λ k k0 k1 hk=>by
     have:=hfit k k0 k1
     rw [hk] at this;simp [xM] at this;omega) (λ ho=>by
     have e:zE 40=some [19,0,0,0]:=by decide +kernel
     rw [ho,e] at hro
     injection hro with hro
     have:=hfit 0 (by omega) (by omega)
     rw [<-hro] at this
     simp [xM,za] at this;omega)
    rw [zhR nd hso hro] at h3
    dsimp only
    by_cases hl:Q7 s.Guards (jK nd x.2) s.Types (writes nd x.1)
    ·rw [if_pos hl]
     obtain ⟨st,e3,g8,g9⟩:=h3.1 hl
     exact ⟨st,(e1.trans e2).trans e3,g8,g9⟩
    ·rw [if_neg hl]
     have e3:=h3.2 hl
     obtain ⟨k,h7⟩:=KG.start hH' g' (writes nd x.1)
     obtain ⟨K',gp',k',e4⟩:=zEj (ps:=ps) (f:=f) (tkp:=tkp') (a:=a) (rl:=rl) (b:=b) (ed:=ed1 H'.length) k h7 t2 (by omega) hc
     have hwl:(writes nd x.1).length=x.1.length:=by rw [<-zhR nd hso hro];unfold yb;split<;>simp [zmD]
     have hkl:=k'.len
     have h5:=zEk (ps:=ps) (f:=f) (tkp:=tkp') (a:=a) (rl:=rl) (b:=b) (ed:=ed1 H'.length) k' hwl rfl a0 (by omega) t1 t2 (by omega) (by omega) (by omega) (λ e he=>by
      simp at he;rcases he with rfl|rfl|rfl|rfl|rfl|rfl|rfl|rfl<;>simp<;>omega) (λ ho=>by
      have e:zE 31=some [12,17,0,0]:=by decide +kernel
      rw [ho,e] at hro
      injection hro with hro
      have:=hfit 1 (by omega) (by omega)
      rw [<-hro] at this
      simp [xM,za] at this;omega) (λ ho=>by
      have e:zE 41=some [20,12,1,0]:=by decide +kernel
      rw [ho,e] at hro
      injection hro with hro
      have:=hfit 2 (by omega) (by omega)
      rw [<-hro] at this hr
      simp [xM,za] at this
      have hx:=zxe hr
      refine ⟨hx,by rw [hx];simp [writes,ho],this.1,by omega,?_⟩
      have:change nd s.Guards=some s.Guards:=by simp [change,ho]
      rw [this] at hc;injection hc with hc;exact hc.symm)
     obtain ⟨st,e5,g8,g9⟩:=h5
     exact ⟨st,(((e1.trans e2).trans e3).trans e4).trans e5,g8,g9⟩
 ·refine ⟨(hsz _).u,?_⟩
  have h11:nd.Op=11/\k=1:=zxN hso hro k0 k1 hk
  obtain ⟨ho,rfl⟩:=h11
  exact hups ho
end
def zBn (x:Int ⊕ List (Int×ya)) (v:PV):Prop:=match x with
 |.inl c=>v=.tup [.int .i64 c,.nils]
 |.inr l=>∃ z,v=.tup [.int .i64 0,z]/\zoM z l
theorem zzY {ps:List zc} (hS:Shaped ps) {i:Int} (p0:0<=i) (p1:i<ps.length) {f:zc} (hf:za ps i=f) {a:Int} (a0:0<=a) (a1:a<f.Ins.length) {s:ya} (hs:KQ f s) {p q:PV} (t1:xP p s.Types) (t2:xo q s.Guards):
  ∃ v H ed,ES A zdO [code ps,.agg f.cells,.int .i64 a,.agg (zq p q)] []=some (v,H,ed)/\zBn (Zv ps (za f.Ins a) a s) (Go.Av.frz 8 (H.map (zX 0)) (zC 0 v)):=by
 obtain ⟨st,e,hE⟩:=zA8 hS p0 p1 hf a0 a1 hs t1 t2
 simp only [ziE] at e
 have e2:=zrs (code ps) (.agg f.cells) (.int .i64 a) (.agg (zq p q)) []
 rw [e,zph] at e2
 rw [show Go.Av.results st _=some [st.per.get 8,st.per.get 9] by rfl,zkG] at e2
 refine ⟨_,_,_,e2,?_⟩
 cases hx:Zv ps (za f.Ins a) a s with
 |inl c=>
  rw [hx] at hE
  obtain ⟨g8,g9⟩:=hE
  rw [g8,g9]
  rfl
 |inr l=>
  rw [hx] at hE
  obtain ⟨g8,g9⟩:=hE
  rw [g8]
  have hd:=g9.frz
  rcases g9 with ⟨k1,k2⟩|⟨id,rows,k1,k2,k3,k4⟩
  ·rw [k1]
   exact ⟨.nils,rfl,.inl ⟨rfl,k2⟩⟩
  ·have ht:(trim ([]:zd).length [.int .i64 0,st.per.get 9] st.H st.ed).1=st.H:=by
    rw [k1];simp [trim,bare,zn,refs]
   rw [ht]
   exact ⟨_,rfl,hd⟩
end Go.Proofs.Tryd.Av
end
section
attribute [local congr] ite_congr
set_option maxRecDepth 10000
set_option maxHeartbeats 8000000
namespace Go.Proofs.Tryd.Av
open Go Go.Av Classical
abbrev v6 (ps:List zc) (f:zc) (rows:List (List PV)) (due:List Bool) (first:List Int):zd:=[.cells 1 [[zb ps]],.cells 9 [f.cells],.cells 3 rows,.cells 1 (ym first),.cells 3 [zq (.sl 3 0 first.length first.length) .nils],.cells 1 (bl due)]
abbrev vG (ps:List zc) (f:zc) (first:List Int) (X:zd) (rows:List (List PV)) (due:List Bool):zd:=v6 ps f rows due first++X
abbrev JM (ps:List zc) (i:Int) (N:Nat) (P:Int) (a:Int):zk:=[(0,code ps),(1,.int .i64 i),(2,.ptr 0 0 0 1),(4,.nils),(5,.int .i64 0),(6,.int .i64 0),(7,.ptr 1 0 0 1),(8,.sl 2 0 N N),(9,.ptr 4 0 0 1),(33,.int .i64 P),(34,.int .i64 P),(11,.sl 5 0 N N),(12,.int .i64 a)]
abbrev zhB (ps:List zc) (i:Int) (N:Nat) (P:Int) (a:Int) (v:PV) (n:Nat) (m j:Int):zk:=JM ps i N P a++[(13,.int .i64 0),(14,v),(15,.int .i64 m),(89,v),(90,.int .i64 n),(91,.int .i64 j)]
theorem zoM.at_ {v:PV} {l:List (Int×ya)} (h:zoM v l) {j:Int} (j0:0<=j) (j1:j<l.length):∃ rows row x,v=.fz rows/\rows.length=l.length/\rows[j.toNat]?=some row/\l[j.toNat]?=some x/\zBk row x:=by
 rcases h with ⟨_,rfl⟩|⟨rows,h1,h3,h4⟩
 ·simp at j1;omega
 ·have e1:rows[j.toNat]?=some (rows[j.toNat]'(by omega)):=aE (by omega)
  have e2:l[j.toNat]?=some (l[j.toNat]'(by omega)):=aE (by omega)
  exact ⟨rows,_,_,h1,h3,e1,e2,h4 _ _ _ e1 e2⟩
def zsn (due:List Bool) (m:Int):Prop:=∀ j:Int,0<=j->j<m->¬za due j=true
def zwl (X0:zd) (ed0:zI) (X:zd) (ed:zI):Prop:=(X=X0/\ed=ed0)\/∃ r,(2,r)∈ed/\6+X0.length<=r
theorem zqe {n k r:Nat} {roots:List PV} {H:zd} {ed:zI} (hk:k<n) (hr:n<=r) (h:(k,r)∈ed):trim n roots H ed=(H,ed):=by
 rw [trim]
 have:(ed.all λ e=>decide (n<=e.1)||decide (e.2<n))=false:=by
  rw [Bool.eq_false_iff]
  intro hall
  have:=aZ.1 hall _ h
  simp at this
  omega
 rw [this,Bool.and_false]
theorem zwl.trim {X0 X:zd} {ed0 ed:zI} (h:zwl X0 ed0 X ed) {n:Nat} (hn:n=6+X0.length) (he:∀ e∈ed0,e.2<n) {A:zd} (hA:A.length=6) (roots:List PV):Go.Av.trim n roots (A++X) ed=(A++X,ed):=by
 rcases h with ⟨rfl,rfl⟩|⟨r,h1,h2⟩
 ·have hl:(A++X).length=n:=by simp;omega
  rw [<-hl]
  exact kg (by rw [hl];exact he) roots
 ·exact zqe (k:=2) (by omega) (by omega) h1
structure zwo (ps:List zc) (f:zc) (first:List Int) (X0:zd) (ed0:zI) (l:List (Int×ya)) (j:Int) (rows:List (List PV)) (due:List Bool) (S:List (Option ya)) (m:Int) (X:zd) (ed:zI):Prop where
 j0:0<=j
 j1:j<=l.length
 R:vy (vG ps f first X rows due) 3 rows S
 n:S.length=f.Ins.length
 d:due.length=f.Ins.length
 ok:∀ i:Int,∀ s,za S i=some s->KQ f s
 m0:0<=m
 m1:m<=f.Ins.length
 calm:zsn due m
 ne:∀ r∈rows,∀ x∈zn r,x=3\/6<=x
 edl:∀ e∈ed,e.2<6+X.length
 grew:zwl X0 ed0 X ed
 le:X0.length<=X.length
def VbQ (ps:List zc) (i:Int) (f:zc) (P a:Int) (v:PV) (first:List Int) (X0:zd) (ed0:zI) (l:List (Int×ya)) (res:Int ⊕ (List (Option ya)×List Bool)) (r:zp×St):Prop:=match res with
 |.inl j=>∃ st,r=(.ret,st)/\st.per.get 4=.nils/\st.per.get 5=.int .i64 13/\st.per.get 6=.int .i64 j
 |.inr (S',due')=>∃ rows' m' X' ed',r=(.exit 4,(⟨zhB ps i f.Ins.length P a v l.length m' l.length,[],vG ps f first X' rows' due',ed'⟩:St))/\zwo ps f first X0 ed0 l l.length rows' due' S' m' X' ed'
theorem zBg {ps:List zc} {i:Int} {f:zc} {P a:Int} {v:PV} {first:List Int} {X0:zd} {ed0:zI} {l:List (Int×ya)} (hN:f.Ins.length<=1048576) (hR:f.Regs<=1048576) (hv:zoM v l) (hl:∀ x∈l,(0<=x.1/\x.1<f.Ins.length)/\KQ f x.2) (hn:l.length<=2)
  {rows:List (List PV)} {due:List Bool} {S:List (Option ya)} {m:Int} {X:zd} {ed:zI} (h:zwo ps f first X0 ed0 l 0 rows due S m X ed):∃ r,EV A (.loop (vI 2)) ⟨zhB ps i f.Ins.length P a v l.length m 0,[],vG ps f first X rows due,ed⟩=some r/\VbQ ps i f P a v first X0 ed0 l (Yh l S due) r:=by
 have key:=Yr (P:=A) (body:=(vI 2)) (λ (s:Int×List (List PV)×List Bool×List (Option ya)×Int×zd×zI)=>(⟨zhB ps i f.Ins.length P a v l.length s.2.2.2.2.1 s.1,[],vG ps f first s.2.2.2.2.2.1 s.2.1 s.2.2.1,s.2.2.2.2.2.2⟩:St)) (λ s=>zwo ps f first X0 ed0 l s.1 s.2.1 s.2.2.1 s.2.2.2.1 s.2.2.2.2.1 s.2.2.2.2.2.1 s.2.2.2.2.2.2) (λ s=>((l.length:Int)-s.1).toNat) (λ s r=>VbQ ps i f P a v first X0 ed0 l (Yh (l.drop s.1.toNat) s.2.2.2.1 s.2.2.1) r) ?_ (0,rows,due,S,m,X,ed) h
 ·simpa using key
 rintro ⟨j,rows,due,S,m,X,ed⟩ hok
 have hok':=hok
 obtain ⟨j0,j1,hR',hn',hd,hsz,m0,m1,hcalm,hne,hed,hgr,hle⟩:=hok
 simp only at j0 j1 hR' hn' hd hsz m0 m1 hcalm hne hed hgr hle ⊢
 have hrl:rows.length=f.Ins.length:=by rw [hR'.len,hn']
 have hvr:refs v=[]:=by rcases hv with ⟨rfl,_⟩|⟨_,rfl,_⟩<;>rfl
 by_cases c:j<l.length
 ·obtain ⟨frows,row,x,rfl,hfr,hrow,hx,pp,qq,rfl,hpp,hqq⟩:=hv.at_ j0 c
  have hxm:=aJ hx
  obtain ⟨⟨x0,x1⟩,xs⟩:=hl x hxm
  have hdrop:l.drop j.toNat=x::l.drop (j+1).toNat:=by
   have hj:j.toNat<l.length:=by omega
   rw [dO hj,show (j+1).toNat=j.toNat+1 by omega]
   rw [aE hj] at hx
   injection hx with hx;rw [hx]
  rw [hdrop]
  obtain ⟨xa,xst⟩:=x
  simp only at x0 x1 xs hpp hqq hrow
  rw [Yh]
  have hpl:=jl hpp
  have hpc:=ut hpp
  have hpr:=yB hpp
  have hgl:=xf hqq
  have hgc:=yQ hqq
  have hgr':=yI hqq
  have hpf:=λ d H=>vQ hpp d H
  have hqf:=λ d H=>wl hqq d H
  obtain ⟨srow,hs1,hs2⟩:=hR'.at_ x0 (by omega)
  have hsne:=hne srow (aJ hs1)
  have xt:=xs.t
  have xg:=xs.g
  have hix:∀ H,wH 4 H (.fz frows) (.int .i64 j)=some (.fp [.int .i64 xa,.bool true,pp,qq] 0):=λ H=>by rw [KZ,if_pos j0,hrow];rfl
  have hcp:=zcI (r:=true) hpp hqq (by omega) (by omega)
  have l1:=λ k=>Wv k xst.Types
  have l2:=λ k=>Zb k xst.Guards
  obtain ⟨n0,hn0⟩:∃ n0,6+X.length=n0:=⟨_,rfl⟩
  have hlen:∀ r d,(vG ps f first X r d).length=n0:=λ r d=>by simp;omega
  have g2:∀ r d,(vG ps f first X r d)[2]?=some (.cells 3 r):=λ r d=>rfl
  have g2':∀ r d (Y:zd),(vG ps f first X r d++Y)[2]?=some (.cells 3 r):=λ r d Y=>rfl
  have g5':∀ r d (Y:zd),(vG ps f first X r d++Y)[5]?=some (.cells 1 (bl d)):=λ r d Y=>rfl
  have s2:∀ r d (Y:zd) r',(vG ps f first X r d++Y).set 2 (.cells 3 r')=vG ps f first X r' d++Y:=λ r d Y r'=>rfl
  have s5:∀ r d (Y:zd) d',(vG ps f first X r d++Y).set 5 (.cells 1 (bl d'))=vG ps f first X r d'++Y:=λ r d Y d'=>rfl
  have hx0:∀ r d (b:zZ) (Y:zd),(vG ps f first X r d++(b::Y))[n0]?=some b:=λ r d b Y=>by rw [<-hlen r d,aI (aS _),Nat.sub_self];rfl
  have hxs:∀ r d (b b':zZ) (Y:zd),(vG ps f first X r d++(b::Y)).set n0 b'=vG ps f first X r d++(b'::Y):=λ r d b b' Y=>by rw [<-hlen r d,dL _ _ (aS _),Nat.sub_self];rfl
  have hlt0:∀ r d x,x<(vG ps f first X r d).length->x<n0:=λ r d x h=>by rw [hlen] at h;exact h
  obtain ⟨G,hG⟩:∃ G,vG ps f first X=G:=⟨_,rfl⟩
  have hGv:∀ r d,G r d=vG ps f first X r d:=λ r d=>by rw [hG]
  rw [hG] at hlen g2 g2' g5' s2 s5 hx0 hxs hR' ⊢
  have e2a:decide (2<n0+3)=true:=by simp
  have e2b:decide (2<n0+4)=true:=by simp
  obtain ⟨N,hNN⟩:∃ N,f.Ins.length=N:=⟨_,rfl⟩
  simp only [hNN] at x1 hrl hd hn' hN m1 ⊢
  cases hS:za S xa with
  |none=>
   rw [hS] at hs2
   have hs2:srow=[.bool false,.nils,.nils]:=hs2
   subst hs2
   have hdg:due[xa.toNat]?=some (due[xa.toNat]'(by omega)):=aE (by omega)
   have hdb:∀ d:List Bool,d.length=N->(bl d).set xa.toNat [.bool true]=bl (d.set xa.toNat true):=λ d _=>by simp [bl]
   simp only [aM,bA,bl] at g5' s5 hdb
   obtain ⟨N5,hN5⟩:∃ N5:zd,[.cells 4 [[.int .i64 xa,.bool true,pp,qq]],.cells 3 [zq (.sl (n0+3) 0 xst.Types.length xst.Types.length) (.sl (n0+4) 0 xst.Guards.length xst.Guards.length)],.cells 3 [zq (.sl (n0+3) 0 xst.Types.length xst.Types.length) (.sl (n0+4) 0 xst.Guards.length xst.Guards.length)],.cells 1 (ym xst.Types),.cells 3 (wE xst.Guards)]=N5:=⟨_,rfl⟩
   have hXN:∀ r d,vG ps f first (X++N5) r d=G r d++N5:=λ r d=>by rw [hGv];simp only [aY]
   have hN5l:N5.length=5:=by rw [<-hN5];rfl
   obtain ⟨nr,hnr⟩:∃ nr,zq (.sl (n0+3) 0 xst.Types.length xst.Types.length) (.sl (n0+4) 0 xst.Guards.length xst.Guards.length)=nr:=⟨_,rfl⟩
   have hne2:zn nr=[n0+3,n0+4]:=by rw [<-hnr,QT];rfl
   have hkeep:∀ r d r' d' x,x=3\/6<=x->x<n0->(G r' d'++N5)[x]?=(G r d)[x]?:=λ r d r' d' x hx hlt=>by
    rw [aD (by rw [hlen];exact hlt),hGv,hGv]
    rcases hx with rfl|hx
    ·rfl
    ·rw [aI (by simpa using hx),aI (by simpa using hx)];rfl
   right
   refine ⟨(j+1,rows.set xa.toNat nr,due.set xa.toNat true,S.set xa.toNat (some xst),if xa<m then xa else m,X++N5,(2,n0+3)::(2,n0+4)::(n0+2,n0+3)::(n0+2,n0+4)::(n0+1,n0+4)::(n0+1,n0+3)::ed),_,?_,by simp only;omega,by (simp -implicitDefEqProofs +contextual (disch:=omega) only [XK,xD,zhB,JM,aB,aA,aY,bZ,Nat.reduceAdd, ↓XD,XU, ↓reduceIte,sevalprocAttr,c,j0,hfr,hix,hpl,hpc,hpr,hgl,hgc,hgr',hpf 6,hqf 6,hpf 7,hqf 7,x0,x1,hrl,hd,hs1,zq,hcp,l1,l2,hdg,hlen,g2,g2',g5',s2,s5,hx0,hxs,e2a,e2b,hdb,zno,Ye,Wt,List.all_cons,List.all_nil,Bool.not_false,Bool.and_self])<;>rfl,?_,λ r hr=>?_⟩
   ·refine ⟨by simp only;omega,by simp only;omega,?_,by simpa using hok'.n,by simpa using hok'.d,λ i s hs=>?_,by simp only;split<;>omega,by simp only;split<;>omega,λ k k0 k1=>?_,λ r hr x hx=>?_,λ e he=>?_,.inr ⟨n0+3,by simp,by omega⟩,by simp;omega⟩
    ·simp only
     rw [hXN]
     have h1:vy (G (rows.set xa.toNat nr) (due.set xa.toNat true)++N5) 3 rows S:=hR'.keep λ r hr x hx=>hkeep _ _ _ _ x (hne r hr x hx) (by have:=hR'.lt r hr x hx;rw [hlen] at this;exact this)
     refine h1.set (n:=n0) xa.toNat (o:=some xst) ⟨_,_,hnr.symm,.inr ⟨n0+3,rfl,?_⟩,.inr ⟨n0+4,rfl,?_⟩⟩ (by rw [hne2];simp) (λ x hx=>by rw [hne2] at hx;simp at hx;omega) (λ r hr x hx=>by have:=hR'.lt r hr x hx;rw [hlen] at this;exact this) (by omega)
     ·rw [aI (by rw [hlen];omega),hlen,show n0+3-n0=3 by omega, <-hN5];rfl
     ·rw [aI (by rw [hlen];omega),hlen,show n0+4-n0=4 by omega, <-hN5];rfl
    ·rcases zjk (l:=S) (j:=i) (v:=some xst) x0 (by omega) with h|h
     ·simp only at hs;rw [h] at hs;cases hs;exact xs
     ·simp only at hs;rw [h] at hs;exact hsz i s hs
    ·simp only at k1 ⊢
     have hxk:¬xa=k:=by split at k1<;>omega
     rw [Xh x0 (by omega) k0,if_neg hxk]
     exact hcalm k k0 (by split at k1<;>omega)
    ·rcases dC hr with hr|rfl
     ·exact hne r hr x hx
     ·rw [hne2] at hx;simp at hx;omega
    ·simp only [aQ,hN5l]
     simp only [dE] at he
     rcases he with rfl|rfl|rfl|rfl|rfl|rfl|he
     all_goals first|(simp only;omega)|(have:=hed e he;omega)
   ·simp only
    rw [hXN]
    simp only [St.next,hlen]
    rw [zqe (k:=2) (r:=n0+3) (by omega) (by omega) (by simp)]
    rw [<-hN5, <-hnr]
    rfl
   ·simp only at hr ⊢;exact hr
  |some s'=>
   rw [hS] at hs2
   obtain ⟨p',q',rfl,hp',hq'⟩:=hs2
   have hs2:=hsz xa s' hS
   have st2:=hs2.t
   have sg2:=hs2.g
   obtain ⟨l3,l4,l5⟩:=hp'.leaf
   obtain ⟨l6,l7,l8⟩:=hq'.leaf
   have hl5:∀ r∈refs p',r<n0:=λ r hr=>hlt0 _ _ r (l5 r hr)
   have hl8:∀ r∈refs q',r<n0:=λ r hr=>hlt0 _ _ r (l8 r hr)
   rw [<-hGv] at hp' hq'
   have hz1:∀ b:zZ,xP (Go.Av.frz 7 (G rows due++[b]) p') s'.Types:=λ b=>(hp'.keep λ r hr=>aD (by rw [hlen];exact hl5 r hr)).frz 5
   have hz2:∀ b:zZ,xo (Go.Av.frz 7 (G rows due++[b]) q') s'.Guards:=λ b=>(hq'.keep λ r hr=>aD (by rw [hlen];exact hl8 r hr)).frz 5
   obtain ⟨z1,hzz1⟩:∃ z,Go.Av.frz 7 (G rows due++[.cells 4 [[.int .i64 xa,.bool true,pp,qq]]]) p'=z:=⟨_,rfl⟩
   obtain ⟨z2,hzz2⟩:∃ z,Go.Av.frz 7 (G rows due++[.cells 4 [[.int .i64 xa,.bool true,pp,qq]]]) q'=z:=⟨_,rfl⟩
   have hsm:=zpl (hzz1▸hz1 _) (hzz2▸hz2 _) hpp hqq (by omega) (by omega) (by omega) (by omega) (by omega)
   simp only [zq] at hsm
   by_cases e:s'=xst
   ·right
    refine ⟨(j+1,rows,due,S,m,X,ed),_,⟨by simp only;omega,by simp only;omega,hok'.R,hok'.n,hok'.d,hsz,m0,hok'.m1,hcalm,hne,hed,hgr,hle⟩,by simp only;omega,by (simp -implicitDefEqProofs +contextual (disch:=omega) only [XK,xD,zhB,JM,aB,aA,aY,bZ,Nat.reduceAdd, ↓XD,XU, ↓reduceIte,sevalprocAttr,c,j0,hfr,hix,hpl,hpc,hpr,hgl,hgc,hgr',hpf 6,hqf 6,hpf 7,hqf 7,x0,x1,hrl,hd,hs1,zq,l3,l4,l6,l7,hlen,g2,g2',g5',s2,s5,hx0,hxs,hzz1,hzz2,hsm,eq_true e])<;>rfl,?_,λ r hr=>?_⟩
    ·simp only [St.next,hlen]
     have hb:∀ (roots:List PV) (b:zZ),bare n0 (zn roots)=true->trim n0 roots (G rows due++[b]) ed=(G rows due,ed):=λ roots b hb=>by
      have h1:(ed.all λ e=>decide (n0<=e.1)||decide (e.2<n0))=true:=by
       rw [aZ];intro e he;have:=hed e he;simp;omega
      have h2:(ed.filter λ e=>decide (e.2<n0))=ed:=dX.2 (λ e he=>by have:=hed e he;simp;omega)
      rw [trim,hb,h1]
      show ((G rows due++[b]).take n0,ed.filter λ e=>decide (e.2<n0))=_
      rw [h2, <-hlen rows due,List.take_left]
     rw [hb _ _ (by simp [bare,zn,refs,hpr,hgr'];omega),hG]
     rfl
    ·simp only at hr ⊢;rw [if_pos e];exact hr
   ·left
    refine ⟨_,by (simp -implicitDefEqProofs +contextual (disch:=omega) only [XK,xD,zhB,JM,aB,aA,aY,bZ,Nat.reduceAdd, ↓XD,XU, ↓reduceIte,sevalprocAttr,c,j0,hfr,hix,hpl,hpc,hpr,hgl,hgc,hgr',hpf 6,hqf 6,hpf 7,hqf 7,x0,x1,hrl,hd,hs1,zq,l3,l4,l6,l7,hlen,g2,g2',g5',s2,s5,hx0,hxs,hzz1,hzz2,hsm,eq_false e])<;>rfl,by simp,?_⟩
    simp only [if_neg e]
    refine ⟨_,rfl,by simp [zk.get,zk.put],by simp [zk.get,zk.put],by simp [zk.get,zk.put]⟩
 ·left
  have hj:j=l.length:=by omega
  subst hj
  refine ⟨_,by (simp -implicitDefEqProofs +contextual (disch:=omega) only [XK,xD,zhB,JM,aB,aA, ↓XD,XU, ↓reduceIte,sevalprocAttr,aL])<;>rfl,by simp,?_⟩
  simp only [cB,List.drop_length,Yh]
  exact ⟨rows,m,X,ed,rfl,hok'⟩
theorem zxo {due:List Bool} {a:Int} (a0:0<=a) (a1:a<due.length) (c:zsn due a) (h:za due a=true):Xz due=some a:=xE.2 ⟨a0,a1,h,λ k k0 k1=>c k k0 k1⟩
theorem zxp {due:List Bool} {a:Int} (a1:(due.length:Int)<=a) (c:zsn due a):Xz due=none:=y8.2 λ j j0 j1=>c j j0 (by omega)
structure zBp (ps:List zc) (f:zc) (first:List Int) (a:Int) (rows:List (List PV)) (due:List Bool) (S:List (Option ya)) (X:zd) (ed:zI):Prop where
 a0:0<=a
 a1:a<=f.Ins.length
 R:vy (vG ps f first X rows due) 3 rows S
 W:WOk f S due
 calm:zsn due a
 ne:∀ r∈rows,∀ x∈zn r,x=3\/6<=x
 edl:∀ e∈ed,e.2<6+X.length
def VaQ (ps:List zc) (i:Int) (f:zc) (P:Int) (first:List Int) (x:(Int×Int)×List (Option ya)) (r:zp×St):Prop:=
 (¬x.1.1=0->∃ st,r=(.ret,st)/\st.per.get 4=.nils/\st.per.get 5=.int .i64 x.1.1/\st.per.get 6=.int .i64 x.1.2)/\
 (x.1.1=0->∃ rows due X ed,r=(.exit 2,(⟨JM ps i f.Ins.length P f.Ins.length,[],vG ps f first X rows due,ed⟩:St))/\vy (vG ps f first X rows due) 3 rows x.2/\x.2.length=f.Ins.length)
theorem zBf {ps:List zc} (hS:Shaped ps) {i:Int} (p0:0<=i) (p1:i<ps.length) {f:zc} (hf:za ps i=f) {P:Int} {first:List Int}
  {rows:List (List PV)} {due:List Bool} {S:List (Option ya)} {X:zd} {ed:zI} {a:Int} (h:zBp ps f first a rows due S X ed):
  ∃ r,EV A (.loop (vI 1)) ⟨JM ps i f.Ins.length P a,[],vG ps f first X rows due,ed⟩=some r/\VaQ ps i f P first (X6 ps f S due) r:=by
 have hI:=hS.fine.ins i p0 p1
 have hPO:=hS.fine.ok i p0 p1
 have hr0:=hPO.r0
 have hr1:=hPO.r1
 have hN:=hPO.i
 have hrk:=λ {S due} (h:WOk (za ps i) S due) {a} (ha:Xz due=some a) {S' due'} (e:XC ps (za ps i) S due a=.inr (S',due'))=>zf8 hI hr0 h ha e
 have hstep:=λ {a:Int} (a0:0<=a) (a1:a<(za ps i).Ins.length) {s:ya} (hs:KQ (za ps i) s) {l} (e:Zv ps (za (za ps i).Ins a) a s=.inr l)=>zm0 (hI a a0 a1) a0 a1 hr0 hs e
 simp only [hf] at hr0 hr1 hN hrk hstep
 refine Yr (P:=A) (body:=(vI 1)) (λ (s:Int×List (List PV)×List Bool×List (Option ya)×zd×zI)=>(⟨JM ps i f.Ins.length P s.1,[],vG ps f first s.2.2.2.2.1 s.2.1 s.2.2.1,s.2.2.2.2.2⟩:St)) (λ s=>zBp ps f first s.1 s.2.1 s.2.2.1 s.2.2.2.1 s.2.2.2.2.1 s.2.2.2.2.2) (λ s=>WB s.2.2.2.1 s.2.2.1*(f.Ins.length+1)+(f.Ins.length-s.1.toNat)) (λ s r=>VaQ ps i f P first (X6 ps f s.2.2.2.1 s.2.2.1) r) ?_ (a,rows,due,S,X,ed) h
 rintro ⟨a,rows,due,S,X,ed⟩ hok
 have hok':=hok
 obtain ⟨a0,a1,hR,hW,hc,hne,hed⟩:=hok
 simp only at a0 a1 hR hW hc hne hed ⊢
 have hSn:=hW.s
 have hDn:=hW.d
 have hrl:rows.length=f.Ins.length:=by rw [hR.len,hSn]
 have hlen0:∀ r d,(vG ps f first X r d).length=6+X.length:=λ r d=>by simp;omega
 have htid:∀ roots r d,trim (6+X.length) roots (vG ps f first X r d) ed=(vG ps f first X r d,ed):=λ roots r d=>by
  rw [<-hlen0 r d];exact kg (by rw [hlen0];exact hed) roots
 by_cases ca:a<f.Ins.length
 ·have hdg:due[a.toNat]?=some (za due a):=xX a0 (by omega)
  by_cases hd:za due a=true
  ·
   have ha:=zxo a0 (by omega) hc hd
   obtain ⟨s,hs⟩:=hW.due a a0 ca hd
   have hsok:=hW.ok a a0 ca s hs
   obtain ⟨srow,hs1,hs2⟩:=hR.at_ a0 (by omega)
   rw [hs] at hs2
   obtain ⟨pp,qq,rfl,hp,hq⟩:=hs2
   have hsne:=hne _ (aJ hs1)
   rw [QT] at hsne
   obtain ⟨l1,l2,l3⟩:=hp.leaf
   obtain ⟨l4,l5,l6⟩:=hq.leaf
   obtain ⟨due1,hdue1⟩:∃ d,due.set a.toNat false=d:=⟨_,rfl⟩
   have hd1:due1.length=f.Ins.length:=by rw [<-hdue1,bI];exact hDn
   have hbs:(bl due).set a.toNat [.bool false]=bl due1:=by rw [<-hdue1];simp [bl]
   have hkeep:∀ d x,x=3\/6<=x->(vG ps f first X rows d)[x]?=(vG ps f first X rows due)[x]?:=λ d x hx=>by
    rcases hx with rfl|hx
    ·rfl
    ·rw [aI (by simpa using hx),aI (by simpa using hx)];rfl
   have hR1:vy (vG ps f first X rows due1) 3 rows S:=hR.keep λ r hr x hx=>hkeep _ x (hne r hr x hx)
   have hp1:HI (vG ps f first X rows due1) pp s.Types:=hp.keep λ r hr=>hkeep _ r (hsne r (bQ _ hr))
   have hq1:HG (vG ps f first X rows due1) qq s.Guards:=hq.keep λ r hr=>hkeep _ r (hsne r (cJ _ hr))
   have g0:∀ r d,(vG ps f first X r d)[0]?=some (.cells 1 [[zb ps]]):=λ r d=>rfl
   have g1:∀ r d,(vG ps f first X r d)[1]?=some (.cells 9 [f.cells]):=λ r d=>rfl
   have g2:∀ r d,(vG ps f first X r d)[2]?=some (.cells 3 r):=λ r d=>rfl
   have g5:∀ r d,(vG ps f first X r d)[5]?=some (.cells 1 (bl d)):=λ r d=>rfl
   have s5:∀ r d d',(vG ps f first X r d).set 5 (.cells 1 (bl d'))=vG ps f first X r d':=λ r d d'=>rfl
   obtain ⟨G,hG⟩:∃ G,vG ps f first X=G:=⟨_,rfl⟩
   rw [hG] at g0 g1 g2 g5 s5 hp1 hq1 hlen0 htid hR1 ⊢
   obtain ⟨z,hz1,hz⟩:∃ z,Go.Av.frz 7 (G rows due1) pp=z/\xP z s.Types:=⟨_,rfl,hp1.frz 5⟩
   obtain ⟨y,hy1,hy⟩:∃ y,Go.Av.frz 7 (G rows due1) qq=y/\xo y s.Guards:=⟨_,rfl,hq1.frz 5⟩
   obtain ⟨v,Hf,edf,e1,e2⟩:=zzY hS p0 p1 hf a0 ca hsok hz hy
   have e3:xH (CL A) (G rows due1) .fresh zdO [code ps,.agg f.cells,.int .i64 a,.agg (zq pp qq)]=some (Go.Av.frz 8 (Hf.map (zX 0)) (zC 0 v),G rows due1,[]):=by
    have ea:[code ps,.agg f.cells,.int .i64 a,.agg (zq pp qq)].map (Go.Av.frz 8 (G rows due1))=[code ps,.agg f.cells,.int .i64 a,.agg (zq z y)]:=by
     have k1:Go.Av.frz 8 (G rows due1) (.agg (zq pp qq))=.agg (zq z y):=by
      show PV.agg [.bool true,Go.Av.frz 7 (G rows due1) pp,Go.Av.frz 7 (G rows due1) qq]=_
      rw [hz1,hy1]
     rw [aM,aM,aM,aM,bA,k1];rfl
    rw [ziD,ea,e1]
   have hle:∀ j,0<=j->j<a+1->¬za due1 j=true:=λ j j0 j1=>by
    rw [<-hdue1,Xh a0 (by omega) j0]
    split
    ·simp
    ·exact hc j j0 (by omega)
   have hro:XC ps f S due a=(match Zv ps (za f.Ins a) a s with
    |.inl c=>.inl (c,a)
    |.inr l=>match Yh l S due1 with
     |.inl j=>.inl (13,j)
     |.inr r=>.inr r):=by unfold XC;rw [hs,hdue1];rfl
   obtain ⟨fv,hfv⟩:∃ fv,Go.Av.frz 8 (Hf.map (zX 0)) (zC 0 v)=fv:=⟨_,rfl⟩
   rw [hfv] at e2 e3
   simp only [zq,code,zb,zc.cells,ups,ze,zj,zm,bl] at e3 hbs g0 g1 g5 s5
   cases hst:Zv ps (za f.Ins a) a s with
   |inl c=>
    rw [hst] at e2 hro
    dsimp only at hro
    have e2:fv=.tup [.int .i64 c,.nils]:=e2
    subst e2
    have hcz:¬c=0:=zla hro
    left
    refine ⟨_,by (simp -implicitDefEqProofs +contextual (disch:=omega) only [Zz,xD,JM,aB,aA,code,zb,zc.cells,ups,ze,zj,zm, ↓XD,XU, ↓reduceIte,sevalprocAttr,ca,a0,hdg,hd,hDn,hrl,hs1,zq,l1,l2,l4,l5,g0,g1,g2,g5,s5,hbs,e3,hcz])<;>rfl,by simp,?_⟩
    rw [zct ha hro]
    exact ⟨λ _=>⟨_,rfl,by simp [zk.get,zk.put],by simp [zk.get,zk.put],by simp [zk.get,zk.put]⟩,λ h=>absurd h hcz⟩
   |inr l=>
    rw [hst] at e2 hro
    dsimp only at hro
    obtain ⟨zv,rfl,hzv⟩:=e2
    have hl:=hstep a0 ca hsok hst
    have hl2:l.length<=2:=by
     unfold Zv at hst
     split at hst
     ·cases hst
     ·split at hst
      ·cases hst
      ·split at hst
       ·cases hst
       ·cases hst;exact zps _ _ _ _ _
    have hvr:refs zv=[]:=by rcases hzv with ⟨rfl,_⟩|⟨_,rfl,_⟩<;>rfl
    have hlen:ZH zv=some (.int .i64 l.length):=by
     rcases hzv with ⟨rfl,rfl⟩|⟨r,rfl,h,_⟩
     ·rfl
     ·simp [ZH,h]
    have hsz':∀ j:Int,∀ s',za S j=some s'->KQ f s':=λ j s' hj=>by
     by_cases hlt:j.toNat<f.Ins.length
     ·exact hW.ok (j.toNat:Int) (by omega) (by omega) s' (by show S.getD ((j.toNat:Int)).toNat default=_;rw [cB];exact hj)
     ·have:za S j=none:=by show S.getD j.toNat default=_;rw [cK,bB (by omega)];rfl
      rw [this] at hj;cases hj
    obtain ⟨rr,e4,q⟩:=zBg (ps:=ps) (i:=i) (P:=P) (a:=a) (v:=zv) (first:=first) (X0:=X) (ed0:=ed) (rows:=rows) (due:=due1) (S:=S) (m:=a+1) (X:=X) (ed:=ed) hN (by omega) hzv hl hl2 ⟨by omega,by omega,by rw [hG];exact hR1,hSn,hd1,hsz',by omega,by omega,hle,hne,hed,.inl ⟨rfl,rfl⟩,aS _⟩
    rw [hG] at e4
    simp only [zhB,JM,aB,aA,code,zb,zc.cells,ups,ze,zj,zm] at e4
    cases hvi:Yh l S due1 with
    |inl j=>
     rw [hvi] at q hro
     dsimp only at hro
     obtain ⟨st,rfl,g4,g5',g6⟩:=q
     left
     refine ⟨_,by (simp -implicitDefEqProofs +contextual (disch:=omega) only [Zz,xD,JM,aB,aA,code,zb,zc.cells,ups,ze,zj,zm, ↓XD,XU, ↓reduceIte,sevalprocAttr,ca,a0,hdg,hd,hDn,hrl,hs1,zq,l1,l2,l4,l5,g0,g1,g2,g5,s5,hbs,e3,hvr,hlen,e4])<;>rfl,by simp,?_⟩
     rw [zct ha hro]
     exact ⟨λ _=>⟨_,rfl,g4,g5',g6⟩,λ h=>absurd h (by simp)⟩
    |inr sd=>
     obtain ⟨S',due'⟩:=sd
     rw [hvi] at q hro
     dsimp only at hro
     obtain ⟨rows',m',X',ed',rfl,q⟩:=q
     obtain ⟨w1,w2⟩:=hrk hW ha hro
     right
     refine ⟨(m',rows',due',S',X',ed'),_,⟨q.m0,q.m1,q.R,w1,q.calm,q.ne,q.edl⟩,?_,by (simp -implicitDefEqProofs +contextual (disch:=omega) only [Zz,xD,JM,aB,aA,code,zb,zc.cells,ups,ze,zj,zm, ↓XD,XU, ↓reduceIte,sevalprocAttr,ca,a0,hdg,hd,hDn,hrl,hs1,zq,l1,l2,l4,l5,g0,g1,g2,g5,s5,hbs,e3,hvr,hlen,e4])<;>rfl,?_,λ r hr=>?_⟩
     ·simp only
      have:(WB S' due'+1)*(f.Ins.length+1)<=WB S due*(f.Ins.length+1):=bF _ w2
      rw [cH] at this
      omega
     ·simp only [St.next,hlen0]
      erw [q.grew.trim (A:=v6 ps f rows' due' first) rfl hed rfl]
      rfl
     ·simp only at hr ⊢;rw [znf ha hro w2];exact hr
  ·
   have hd':za due a=false:=by simpa using hd
   have g5:∀ r d,(vG ps f first X r d)[5]?=some (.cells 1 (bl d)):=λ r d=>rfl
   obtain ⟨G,hG⟩:∃ G,vG ps f first X=G:=⟨_,rfl⟩
   rw [hG] at g5 hlen0 htid ⊢
   right
   refine ⟨(a+1,rows,due,S,X,ed),_,⟨by simp only;omega,by simp only;omega,hR,hW,λ j j0 j1=>?_,hne,hed⟩,by simp only;omega,by (simp -implicitDefEqProofs +contextual (disch:=omega) only [Zz,xD,JM,aB,aA, ↓XD,XU, ↓reduceIte,sevalprocAttr,ca,a0,hdg,hd',hDn,g5])<;>rfl,?_,λ r hr=>hr⟩
   ·by_cases e:j=a
    ·subst e;exact hd
    ·exact hc j j0 (by simp only at j1;omega)
   ·simp only [St.next,hlen0,htid]
    rw [hG]
    rfl
 ·have:a=f.Ins.length:=by omega
  subst this
  have g5:∀ r d,(vG ps f first X r d)[5]?=some (.cells 1 (bl d)):=λ r d=>rfl
  left
  refine ⟨_,by (simp -implicitDefEqProofs +contextual (disch:=omega) only [Zz,xD,JM,aB,aA, ↓XD,XU, ↓reduceIte,sevalprocAttr,hDn,aL])<;>rfl,by simp,?_⟩
  rw [zgg (zxp (by omega) hc)]
  exact ⟨λ h=>absurd rfl h,λ _=>⟨rows,due,X,ed,rfl,hR,hSn⟩⟩
abbrev zfQ (ps:List zc) (p:Int) (N:Nat) (P i:Int):zk:=[(0,code ps),(1,.int .i64 p),(2,.ptr 0 0 0 1),(4,.nils),(5,.int .i64 0),(6,.int .i64 0),(7,.ptr 1 0 0 1),(8,.sl 2 0 N N),(9,.ptr 4 0 0 1),(33,.int .i64 P),(34,.int .i64 i)]
theorem zDN (ps:List zc) (f:zc) (p:Int) (N R P:Nat) (hP:P<=R) (hR:R<=1048576) (b1 b2:zZ):
  EV A (.loop (vI 0)) ⟨zfQ ps p N P 0,[],[.cells 1 [[zb ps]],b1,b2,.cells 1 (ym (vx R 0)),.cells 3 [zq (.sl 3 0 R R) .nils]],[]⟩=some (.exit 0,⟨zfQ ps p N P P,[],[.cells 1 [[zb ps]],b1,b2,.cells 1 (ym (vx R P)),.cells 3 [zq (.sl 3 0 R R) .nils]],[]⟩):=by
 have key:=uE (P:=A) (body:=(vI 0)) (λ (i:Nat)=>(⟨zfQ ps p N P i,[],[.cells 1 [[zb ps]],b1,b2,.cells 1 (ym (vx R i)),.cells 3 [zq (.sl 3 0 R R) .nils]],[]⟩:St)) (λ i=>i<=P) (λ i=>P-i) (λ i=>(.exit 0,(⟨zfQ ps p N P P,[],[.cells 1 [[zb ps]],b1,b2,.cells 1 (ym (vx R P)),.cells 3 [zq (.sl 3 0 R R) .nils]],[]⟩:St))) ?_ 0 (by omega)
 ·exact key
 intro i hi
 by_cases c:i<P
 ·right
  have hl:=zb9 (R:=R) (P:=i) (by omega)
  have hs:=zpJ (R:=R) (P:=i) (by omega)
  obtain ⟨l,hlx⟩:∃ l,vx R i=l:=⟨_,rfl⟩
  rw [hlx] at hl hs
  have hs2:(ym l).set i [.int .i64 1]=ym (vx R (i+1)):=by rw [<-hs];simp [ym]
  have hg:l[i]?=some (l[i]'(by omega)):=aE (by omega)
  have hc1:(i:Int)<P:=by omega
  have hc2:(i:Int)<R:=by omega
  refine ⟨i+1,_,by omega,by omega,by (simp -implicitDefEqProofs +contextual (disch:=omega) only [zcg,xD,zfQ,zq,zc.cells,ups,ze,zj,zm, ↓XD,XU, ↓reduceIte,sevalprocAttr,hc1,hc2,hl,hlx,hg,hs2,cB])<;>rfl,?_,rfl⟩
  simp [St.next,trim,bare,zn,refs]
 ·left
  have:i=P:=by omega
  subst this
  refine ⟨by (simp -implicitDefEqProofs +contextual (disch:=omega) only [zcg,xD,zfQ,zc.cells,ups,ze,zj,zm, ↓XD,XU, ↓reduceIte,sevalprocAttr,aL]),by simp⟩
theorem zrz (ps:List zc) (f:zc) (due:List Bool):vy (vG ps f (xd f) [] ((List.replicate f.Ins.length [PV.bool false,.nils,.nils]).set 0 (zq (.sl 3 0 (xd f).length (xd f).length) .nils)) due) 3 ((List.replicate f.Ins.length [PV.bool false,.nils,.nils]).set 0 (zq (.sl 3 0 (xd f).length (xd f).length) .nils)) (Vs f)/\∀ r∈(List.replicate f.Ins.length [PV.bool false,.nils,.nils]).set 0 (zq (.sl 3 0 (xd f).length (xd f).length) .nils),∀ x∈zn r,x=3\/6<=x:=by
 have hno:∀ s∈List.replicate f.Ins.length [PV.bool false,PV.nils,PV.nils],zn s=[]:=λ s hs=>by rw [List.eq_of_mem_replicate hs];rfl
 have hr:zn (zq (.sl 3 0 (xd f).length (xd f).length) .nils)=[3]:=rfl
 constructor
 ·refine vy.set (n:=3) ⟨by simp,λ i r o h1 h2=>?_,⟨λ i r h1=>?_,λ i j r s _ h1 _ x hx=>?_⟩,λ r hr x hx=>?_⟩ 0 (o:=some ⟨xd f,[]⟩) ⟨_,_,rfl,.inr ⟨3,rfl,rfl⟩,.inl ⟨rfl,rfl⟩⟩ (by rw [hr];simp) (λ x hx=>by rw [hr] at hx;simp at hx;omega) (λ s hs x hx=>by rw [hno s hs] at hx;cases hx) (aS _)
  ·rw [cE] at h1 h2
   split at h1
   ·rename_i q;rw [if_pos q] at h2;cases h1;cases h2;rfl
   ·cases h1
  ·rw [hno r (aJ h1)];simp
  ·rw [hno r (aJ h1)] at hx;cases hx
  ·rw [hno r hr] at hx;cases hx
 ·intro r hr' x hx
  rcases dC hr' with h|rfl
  ·rw [hno r h] at hx;cases hx
  ·rw [hr] at hx;simp at hx;exact .inl hx
def zBo (ps:List zc) (p:Int) (st:St) (x:(Int×Int) ⊕ List (Option ya)):Prop:=match x with
 |.inl c=>st.per.get 4=.nils/\st.per.get 5=.int .i64 c.1/\st.per.get 6=.int .i64 c.2
 |.inr S=>st.per.get 4=.sl 2 0 S.length S.length/\st.per.get 5=.int .i64 0/\st.per.get 6=.int .i64 0/\S.length=(za ps p).Ins.length/\∃ rows,st.H[2]?=some (.cells 3 rows)/\vy st.H 3 rows S
theorem znq {ps:List zc} (hS:zbm ps) {p:Int} (p0:0<=p) (p1:p<ps.length):∃ st,EV A vL ⟨[(0,code ps),(1,.int .i64 p)],[],[],[]⟩=some (.ret,st)/\zBo ps p st (wv ps p):=by
 have hh:=hS.head p p0 p1
 have hone:=hS.one p p0 p1
 have hPO:=hS.fine.ok p p0 p1
 have hps:=hS.n
 have hfl:=zdM hh
 have hN:=hPO.i
 have hr0:=hPO.r0
 have hr1:=hPO.r1
 have hW:=zj9 hh hone
 obtain ⟨hR,hne⟩:=zrz ps (za ps p) (Vr (za ps p))
 have hL:=zr4 (hS.fine.ins p p0 p1)
 have hP:=hh.1.1.1.2
 have hPR:(za ps p).Params.toNat<=(za ps p).Regs.toNat:=by unfold ja at hP;split at hP<;>omega
 have hpar:(za ps p).Params=((za ps p).Params.toNat:Int):=by omega
 obtain ⟨r,e,q⟩:=zBf hS.toShaped p0 p1 rfl (P:=(za ps p).Params) (a:=0) (ed:=[(2,3)]) ⟨by omega,by omega,hR,hW,λ j j0 j1=>by omega,hne,by simp⟩
 have hb0:=zDN ps (za ps p) p (za ps p).Ins.length (za ps p).Regs.toNat (za ps p).Params.toNat hPR (by omega) (.cells 9 [(za ps p).cells]) (.cells 3 (List.replicate (za ps p).Ins.length [.bool false,.nils,.nils]))
 rw [<-hpar] at hb0
 have hrl:(xd (za ps p)).length=(za ps p).Regs.toNat:=by omega
 rw [hrl] at e
 have hwe:wv ps p=Zq ps (za ps p) (Vs (za ps p)) (Vr (za ps p)):=rfl
 unfold Zq at hwe
 generalize hw:X6 ps (za ps p) (Vs (za ps p)) (Vr (za ps p))=w at q hwe
 unfold zBo
 generalize hf:za ps p=f at hh hone hPO hfl hN hr0 hr1 hW hR hne e q hP hPR hpar hb0 hrl hL hwe hw ⊢
 clear hR hne
 have hfp:(List.map zc.cells ps)[p.toNat]?=some f.cells:=by
  rw [aN,xX p0 p1,hf];rfl
 have b3:vx f.Regs.toNat 0=List.replicate f.Regs.toNat 0:=by simp [vx]
 have hRl:((f.Regs.toNat:Nat):Int)=f.Regs:=by omega
 have hol:=zb9 hPR
 have hil:(ym (vx f.Regs.toNat f.Params.toNat)).length=f.Regs.toNat:=by simpa using hol
 rw [b3] at hb0
 simp only [JM,zfQ,v6,vG,bY,zq,hrl,bl,ym,Vr,code,zb,zc.cells,ups,ze,zj,zm,Ins.cells] at hb0 e hfp
 have hR1:=hP
 have hR2:f.Rest=true->f.Params<f.Regs:=λ h=>by rw [ja,if_pos h] at hP;omega
 obtain ⟨N,hNN⟩:∃ N,f.Ins.length=N:=⟨_,rfl⟩
 have hN1:N<=1048576:=by omega
 have hN0:0<N:=by omega
 have hk1:(List.replicate N [PV.bool false,PV.nils,PV.nils]).length=N:=by simp
 have hk2:(List.replicate N false).length=N:=by simp
 have hk3:(List.replicate N [PV.bool false,PV.nils,PV.nils])[0]?=some [PV.bool false,PV.nils,PV.nils]:=by rw [cE,if_pos hN0]
 have hk4:(List.replicate N false)[0]?=some false:=by rw [cE,if_pos hN0]
 have hk5:(List.replicate N [PV.bool false])[0]?=some [PV.bool false]:=by rw [cE,if_pos hN0]
 by_cases hz:w.1.1=0
 ·obtain ⟨rows,due,X,ed,rfl,qR,qn⟩:=q.2 hz
  rw [if_pos hz] at hwe
  have hrl2:rows.length=N:=by rw [qR.len,qn,hNN]
  obtain ⟨Z,hZ⟩:∃ Z,vG ps f (xd f) X rows due=Z:=⟨_,rfl⟩
  have z1:Z[1]?=some (.cells 9 [f.cells]):=by rw [<-hZ];rfl
  have z2:Z[2]?=some (.cells 3 rows):=by rw [<-hZ];rfl
  rw [hZ] at qR e
  have hri:=zw0 (qR.frz 4) qn hN hL
  have hfz:xF 7 Z 0 N N (some (.cells 3 rows))=.fz (rows.map (·.map (Go.Av.frz (4+3) Z))):=by
   have h1:=QM 7 Z 2 0 N N
   rw [z2] at h1
   exact h1.symm.trans (zbq z2 hrl2 7)
  generalize rows.map (·.map (Go.Av.frz (4+3) Z))=zr1 at hri hfz
  unfold zpV at hri
  simp only [code,zb,zc.cells,ups,ze,zj,zm,Ins.cells,hNN] at hri z1
  cases hk:z9 (zfH f w.2) 0 f.Ins.length with
  |some j=>
   obtain ⟨j0,j1,_⟩:=xE.1 hk
   rw [hk] at hwe
   rw [hwe]
   rw [<-hNN,hk,cR] at hri
   simp only [hNN] at e hb0 hri
   cases hrest:f.Rest with
   |false=>
    have hfo:xd f=vx f.Regs.toNat f.Params.toNat:=by rw [xd,if_neg (by simp [hrest])]
    rw [hfo] at e
    have hR2':=hR2
    simp only [hrest] at hb0 e hfp hR2' hri z1
    simp only [dY,reduceCtorEq,dS] at hR2'
    exact ⟨_,by (simp -implicitDefEqProofs +contextual (disch:=omega) only [ZU,xD,zq,code,zb,zc.cells,ups,ze,zj,zm,Ins.cells, ↓XD,XU, ↓reduceIte,sevalprocAttr,p0,p1,hf,hNN,hrest,hb0,hr0,hRl,hk3,hk4,hk5,e,hR1.1,hR2',hol,hfp,hfz,hri,j0,z1,z2])<;>rfl,rfl,rfl,rfl⟩
   |true=>
    have hfo:xd f=(vx f.Regs.toNat f.Params.toNat).set f.Params.toNat 3:=by rw [xd,if_pos hrest]
    rw [hfo] at e
    have hR2':=hR2
    simp only [hrest] at hb0 e hfp hR2' hri z1
    simp only [dY,reduceCtorEq,dS] at hR2'
    exact ⟨_,by (simp -implicitDefEqProofs +contextual (disch:=omega) only [ZU,xD,zq,code,zb,zc.cells,ups,ze,zj,zm,Ins.cells, ↓XD,XU, ↓reduceIte,sevalprocAttr,p0,p1,hf,hNN,hrest,hb0,hr0,hRl,hk3,hk4,hk5,e,hR1.1,hR2',hol,hfp,hfz,hri,j0,z1,z2])<;>rfl,rfl,rfl,rfl⟩
  |none=>
   rw [hk] at hwe
   rw [hwe]
   rw [<-hNN,hk,Option.getD_none] at hri
   simp only [hNN] at e hb0 hri
   have qn':w.2.length=N:=qn.trans hNN
   cases hrest:f.Rest with
   |false=>
    have hfo:xd f=vx f.Regs.toNat f.Params.toNat:=by rw [xd,if_neg (by simp [hrest])]
    rw [hfo] at e
    have hR2':=hR2
    simp only [hrest] at hb0 e hfp hR2' hri z1
    simp only [dY,reduceCtorEq,dS] at hR2'
    exact ⟨_,by (simp -implicitDefEqProofs +contextual (disch:=omega) only [ZU,xD,zq,code,zb,zc.cells,ups,ze,zj,zm,Ins.cells, ↓XD,XU, ↓reduceIte,sevalprocAttr,p0,p1,hf,hNN,hrest,hb0,hr0,hRl,hk3,hk4,hk5,e,hR1.1,hR2',hol,hfp,hfz,hri,z1,z2])<;>rfl,by simp only;rw [qn'];rfl,rfl,rfl,qn,rows,z2,qR⟩
   |true=>
    have hfo:xd f=(vx f.Regs.toNat f.Params.toNat).set f.Params.toNat 3:=by rw [xd,if_pos hrest]
    rw [hfo] at e
    have hR2':=hR2
    simp only [hrest] at hb0 e hfp hR2' hri z1
    simp only [dY,reduceCtorEq,dS] at hR2'
    exact ⟨_,by (simp -implicitDefEqProofs +contextual (disch:=omega) only [ZU,xD,zq,code,zb,zc.cells,ups,ze,zj,zm,Ins.cells, ↓XD,XU, ↓reduceIte,sevalprocAttr,p0,p1,hf,hNN,hrest,hb0,hr0,hRl,hk3,hk4,hk5,e,hR1.1,hR2',hol,hfp,hfz,hri,z1,z2])<;>rfl,by simp only;rw [qn'];rfl,rfl,rfl,qn,rows,z2,qR⟩
 ·obtain ⟨st,rfl,q1,q2,q3⟩:=q.1 hz
  rw [if_neg hz] at hwe
  rw [hwe]
  simp only [hNN] at e hb0
  cases hrest:f.Rest with
  |false=>
   have hfo:xd f=vx f.Regs.toNat f.Params.toNat:=by rw [xd,if_neg (by simp [hrest])]
   rw [hfo] at e
   have hR2':=hR2
   simp only [hrest] at hb0 e hfp hR2'
   simp only [dY,reduceCtorEq,dS] at hR2'
   exact ⟨st,by (simp -implicitDefEqProofs +contextual (disch:=omega) only [ZU,xD,zq,code,zb,zc.cells,ups,ze,zj,zm,Ins.cells, ↓XD,XU, ↓reduceIte,sevalprocAttr,p0,p1,hf,hNN,hrest,hb0,hr0,hRl,hk3,hk4,hk5,e,hR1.1,hR2',hol,hfp]),q1,q2,q3⟩
  |true=>
   have hfo:xd f=(vx f.Regs.toNat f.Params.toNat).set f.Params.toNat 3:=by rw [xd,if_pos hrest]
   rw [hfo] at e
   have hR2':=hR2
   simp only [hrest] at hb0 e hfp hR2'
   simp only [dY,reduceCtorEq,dS] at hR2'
   exact ⟨st,by (simp -implicitDefEqProofs +contextual (disch:=omega) only [ZU,xD,zq,code,zb,zc.cells,ups,ze,zj,zm,Ins.cells, ↓XD,XU, ↓reduceIte,sevalprocAttr,p0,p1,hf,hNN,hrest,hb0,hr0,hRl,hk3,hk4,hk5,e,hR1.1,hR2',hol,hfp]),q1,q2,q3⟩
theorem znl {ps:List zc} (hS:zbm ps) {p:Int} (p0:0<=p) (p1:p<ps.length):match wv ps p with
  |.inl c=>EP A ZQ [code ps,.int .i64 p]=some (.tup [.nils,.int .i64 c.1,.int .i64 c.2])
  |.inr S=>∃ rows,EP A ZQ [code ps,.int .i64 p]=some (.tup [.fz rows,.int .i64 0,.int .i64 0])/\U7 rows S:=by
 obtain ⟨st,e,h⟩:=znq hS p0 p1
 have e2:=znY (code ps) (.int .i64 p)
 rw [e] at e2
 cases hw:wv ps p with
 |inl c=>
  rw [hw] at h
  obtain ⟨h4,h5,h6⟩:=h
  show EP A ZQ [code ps,.int .i64 p]=some (.tup [.nils,.int .i64 c.1,.int .i64 c.2])
  rw [e2]
  simp -implicitDefEqProofs +contextual (disch:=omega) only [↓XD,XU, ↓reduceIte,sevalprocAttr,h4,h5,h6]
 |inr S=>
  rw [hw] at h
  obtain ⟨h4,h5,h6,hn,rows,z2,hR⟩:=h
  refine ⟨rows.map (·.map (Go.Av.frz (3+3) st.H)),?_,hR.frz 3⟩
  have hfz2:xF 6 st.H 0 S.length S.length (some (.cells 3 rows))=.fz (rows.map (·.map (Go.Av.frz (3+3) st.H))):=by
   have h1:=QM 6 st.H 2 0 S.length S.length
   rw [z2] at h1
   exact h1.symm.trans (zbq z2 hR.len 6)
  rw [e2]
  simp -implicitDefEqProofs +contextual (disch:=omega) only [↓XD,XU, ↓reduceIte,sevalprocAttr,h4,h5,h6,z2,hfz2]
theorem zuT {ps:List zc} (hS:zbm ps) {p:Int} (p0:0<=p) (p1:p<ps.length) {S:List (Option ya)} (hw:wv ps p=.inr S):S.length=(za ps p).Ins.length/\∃ H ed rows,ES A ZQ [code ps,.int .i64 p] []=some (.tup [.sl 2 0 S.length S.length,.int .i64 0,.int .i64 0],H,ed)/\H[2]?=some (.cells 3 rows)/\vy H 3 rows S:=by
 obtain ⟨st,e,h⟩:=znq hS p0 p1
 have e2:=zof (code ps) (.int .i64 p) []
 rw [e] at e2
 rw [hw] at h
 obtain ⟨h4,h5,h6,hn,rows,z2,hR⟩:=h
 refine ⟨hn,st.H,st.ed,rows,?_,z2,hR⟩
 rw [e2]
 simp -implicitDefEqProofs +contextual (disch:=omega) only [↓XD,XU, ↓reduceIte,sevalprocAttr,h4,h5,h6]
 simp [trim,bare,zn,refs]
end Go.Proofs.Tryd.Av
end
section
attribute [local congr] ite_congr
set_option maxRecDepth 10000
set_option maxHeartbeats 4000000
namespace Go.Proofs.Tryd.Av
open Go Go.Av Classical
theorem zD5 (ps:List zc) (hb:ps.length<=1048576) (ht:w9 ps<=1048576) (a0:Int) (hok0:a0=vb ps ((0):Int).toNat):EV A (.loop (zM 0)) (⟨[(0,code ps),(1,.ptr 0 0 0 1),(2,.ptr 1 0 0 1),(3,.int .i64 a0),(31,zb ps),(32,.int .i64 ps.length),(33,.int .i64 (0))],[],hU ps,[]⟩:St)=some (zp.exit 0,(⟨[(0,code ps),(1,.ptr 0 0 0 1),(2,.ptr 1 0 0 1),(3,.int .i64 (iter (λ (i:Int) (a:Int)=>vb ps (i+1).toNat) ((ps.length:Int)-0).toNat (0) a0)),(31,zb ps),(32,.int .i64 ps.length),(33,.int .i64 (ps.length))],[],hU ps,[]⟩:St))/\(iter (λ (i:Int) (a:Int)=>vb ps (i+1).toNat) ((ps.length:Int)-0).toNat (0) a0)=vb ps ((ps.length):Int).toNat:=by
 refine vC (λ i (a:Int)=>(⟨[(0,code ps),(1,.ptr 0 0 0 1),(2,.ptr 1 0 0 1),(3,.int .i64 a),(31,zb ps),(32,.int .i64 ps.length),(33,.int .i64 i)],[],hU ps,[]⟩:St)) (λ (i:Int) (a:Int)=>vb ps (i+1).toNat) (λ i (a:Int)=>a=vb ps (i:Int).toNat) (λ a=>(zp.exit 0,(⟨[(0,code ps),(1,.ptr 0 0 0 1),(2,.ptr 1 0 0 1),(3,.int .i64 a),(31,zb ps),(32,.int .i64 ps.length),(33,.int .i64 (ps.length))],[],hU ps,[]⟩:St))) (0) (ps.length) ?_ ?_ (0) a0 (by omega) (by omega) hok0
 ·intro i a hi hn hok
  have hs:=zju ps hi hn;have hs2:=zdd ps i.toNat;have hs3:=zdd ps (i+1).toNat
  refine ⟨⟨_,by simp -implicitDefEqProofs +contextual (disch:=omega) only [Qg,zf, ↓XD,XU, ↓reduceIte,sevalprocAttr,hU,code,zb,zc.cells,zj,hs,hn,hok];rfl,by first|(simp [St.next,zT];done)|(simp [St.next,zT];omega)|(simp [St.next,trim,bare,zn,refs];done)⟩,by rfl⟩
 ·rintro i a hi rfl hok
  refine ⟨by simp -implicitDefEqProofs +contextual (disch:=omega) only [Qg,zf, ↓XD,XU, ↓reduceIte,sevalprocAttr,hU,code,zb,zc.cells,zj,aL,hok],by simp⟩
theorem zD6 (ps:List zc) (t:Int) (hb:ps.length<=1048576) (hs:vz ps):match z9 (λ (j:Int)=>¬jL (za ps j) j) 0 ps.length with|some j=>∃ st,EV A (.loop (zM 1)) (⟨[(0,code ps),(1,.ptr 0 0 0 1),(2,.ptr 1 0 0 1),(3,.int .i64 t),(31,zb ps),(32,.int .i64 ps.length),(33,.int .i64 ps.length),(59,zb ps),(60,.int .i64 ps.length),(61,.int .i64 (0))],[],hU ps,[]⟩:St)=some (.ret,st)/\yf 2 1 3 (wD 2 j 0) st|none=>EV A (.loop (zM 1)) (⟨[(0,code ps),(1,.ptr 0 0 0 1),(2,.ptr 1 0 0 1),(3,.int .i64 t),(31,zb ps),(32,.int .i64 ps.length),(33,.int .i64 ps.length),(59,zb ps),(60,.int .i64 ps.length),(61,.int .i64 (0))],[],hU ps,[]⟩:St)=some (zp.exit 2,(⟨[(0,code ps),(1,.ptr 0 0 0 1),(2,.ptr 1 0 0 1),(3,.int .i64 t),(31,zb ps),(32,.int .i64 ps.length),(33,.int .i64 ps.length),(59,zb ps),(60,.int .i64 ps.length),(61,.int .i64 (ps.length))],[],hU ps,[]⟩:St)):=by
 refine yr (λ i=>(⟨[(0,code ps),(1,.ptr 0 0 0 1),(2,.ptr 1 0 0 1),(3,.int .i64 t),(31,zb ps),(32,.int .i64 ps.length),(33,.int .i64 ps.length),(59,zb ps),(60,.int .i64 ps.length),(61,.int .i64 i)],[],hU ps,[]⟩:St)) (λ (j:Int)=>¬jL (za ps j) j) (λ (j:Int) (st:St)=>yf 2 1 3 (wD 2 j 0) st) (zp.exit 2,(⟨[(0,code ps),(1,.ptr 0 0 0 1),(2,.ptr 1 0 0 1),(3,.int .i64 t),(31,zb ps),(32,.int .i64 ps.length),(33,.int .i64 ps.length),(59,zb ps),(60,.int .i64 ps.length),(61,.int .i64 (ps.length))],[],hU ps,[]⟩:St)) (0) (ps.length) ?_ ?_ ?_ (0) (by omega) (by omega)
 ·intro i hi hn hp
  simp only [aP] at hp
  obtain ⟨⟨⟨⟨⟨⟨hN,hL⟩,hR⟩,hP'⟩,hUp⟩,hC⟩,hZ⟩:=hp
  have hN':¬(40:Int)<(za ps i).Name.size:=by omega
  have hUp':¬(250:Int)<(za ps i).Ups.length:=by omega
  have hC':¬(500:Int)<(za ps i).Consts.length:=by omega
  by_cases hr:(za ps i).Rest=true
  ·simp only [ja,hr,if_true,if_false,bG] at hP'
   by_cases h0:i=0
   ·subst h0
    have hz:(za ps 0).Params=0/\(za ps 0).Ups.length=0:=by omega
    have hz1:¬0<(za ps 0).Params:=by omega
    have hz2:¬(0:Int)<(za ps 0).Ups.length:=by omega
    refine ⟨_,by (simp -implicitDefEqProofs +contextual (disch:=omega) only [yj,zf,hU,hP,code,zb,zc.cells,ups,ze,zj,zm,zO, ↓XD,XU, ↓reduceIte,sevalprocAttr,hn,hr,hN',hL,hR,hP',hUp',hC',hz1,hz2])<;>rfl,by simp [St.next,trim,bare,zn,refs]⟩
   ·refine ⟨_,by (simp -implicitDefEqProofs +contextual (disch:=omega) only [yj,zf,hU,hP,code,zb,zc.cells,ups,ze,zj,zm,zO, ↓XD,XU, ↓reduceIte,sevalprocAttr,hn,hr,hN',hL,hR,hP',hUp',hC',h0])<;>rfl,by simp [St.next,trim,bare,zn,refs]⟩
  ·simp only [ja,hr,if_true,if_false,bG] at hP'
   by_cases h0:i=0
   ·subst h0
    have hz:(za ps 0).Params=0/\(za ps 0).Ups.length=0:=by omega
    have hz1:¬0<(za ps 0).Params:=by omega
    have hz2:¬(0:Int)<(za ps 0).Ups.length:=by omega
    refine ⟨_,by (simp -implicitDefEqProofs +contextual (disch:=omega) only [yj,zf,hU,hP,code,zb,zc.cells,ups,ze,zj,zm,zO, ↓XD,XU, ↓reduceIte,sevalprocAttr,hn,hr,hN',hL,hR,hP',hUp',hC',hz1,hz2])<;>rfl,by simp [St.next,trim,bare,zn,refs]⟩
   ·refine ⟨_,by (simp -implicitDefEqProofs +contextual (disch:=omega) only [yj,zf,hU,hP,code,zb,zc.cells,ups,ze,zj,zm,zO, ↓XD,XU, ↓reduceIte,sevalprocAttr,hn,hr,hN',hL,hR,hP',hUp',hC',h0])<;>rfl,by simp [St.next,trim,bare,zn,refs]⟩
 ·intro i hi hn hp
  have hu:=(hs i).u
  have hc:=(hs i).c
  by_cases hN:(40:Int)<(za ps i).Name.size
  ·skip
   by_cases hr:(za ps i).Rest=true
   ·refine ⟨_,by (simp -implicitDefEqProofs +contextual (disch:=omega) only [yj,zf,hU,hP,code,zb,zc.cells,ups,ze,zj,zm,zO, ↓XD,XU, ↓reduceIte,sevalprocAttr,hn,hr,hN])<;>rfl,by simp [yf,zk.get,zk.put]⟩
   ·refine ⟨_,by (simp -implicitDefEqProofs +contextual (disch:=omega) only [yj,zf,hU,hP,code,zb,zc.cells,ups,ze,zj,zm,zO, ↓XD,XU, ↓reduceIte,sevalprocAttr,hn,hr,hN])<;>rfl,by simp [yf,zk.get,zk.put]⟩
  by_cases hL:¬(0<=(za ps i).Line/\(za ps i).Line<=100000)
  ·skip
   by_cases hr:(za ps i).Rest=true
   ·refine ⟨_,by (simp -implicitDefEqProofs +contextual (disch:=omega) only [yj,zf,hU,hP,code,zb,zc.cells,ups,ze,zj,zm,zO, ↓XD,XU, ↓reduceIte,sevalprocAttr,hn,hr,hN,hL])<;>rfl,by simp [yf,zk.get,zk.put]⟩
   ·refine ⟨_,by (simp -implicitDefEqProofs +contextual (disch:=omega) only [yj,zf,hU,hP,code,zb,zc.cells,ups,ze,zj,zm,zO, ↓XD,XU, ↓reduceIte,sevalprocAttr,hn,hr,hN,hL])<;>rfl,by simp [yf,zk.get,zk.put]⟩
  replace hL:=aP.1 hL
  by_cases hR:¬(0<=(za ps i).Regs/\(za ps i).Regs<=250)
  ·skip
   by_cases hr:(za ps i).Rest=true
   ·refine ⟨_,by (simp -implicitDefEqProofs +contextual (disch:=omega) only [yj,zf,hU,hP,code,zb,zc.cells,ups,ze,zj,zm,zO, ↓XD,XU, ↓reduceIte,sevalprocAttr,hn,hr,hN,hL,hR])<;>rfl,by simp [yf,zk.get,zk.put]⟩
   ·refine ⟨_,by (simp -implicitDefEqProofs +contextual (disch:=omega) only [yj,zf,hU,hP,code,zb,zc.cells,ups,ze,zj,zm,zO, ↓XD,XU, ↓reduceIte,sevalprocAttr,hn,hr,hN,hL,hR])<;>rfl,by simp [yf,zk.get,zk.put]⟩
  replace hR:=aP.1 hR
  by_cases hM:¬(0<=(za ps i).Params/\(za ps i).Params<=ja (za ps i))
  ·skip
   by_cases hr:(za ps i).Rest=true
   ·simp only [ja,hr,if_true] at hM
    refine ⟨_,by (simp -implicitDefEqProofs +contextual (disch:=omega) only [yj,zf,hU,hP,code,zb,zc.cells,ups,ze,zj,zm,zO, ↓XD,XU, ↓reduceIte,sevalprocAttr,hn,hr,hN,hL,hR,hM])<;>rfl,by simp [yf,zk.get,zk.put]⟩
   ·simp only [ja,hr,if_false,bG] at hM
    refine ⟨_,by (simp -implicitDefEqProofs +contextual (disch:=omega) only [yj,zf,hU,hP,code,zb,zc.cells,ups,ze,zj,zm,zO, ↓XD,XU, ↓reduceIte,sevalprocAttr,hn,hr,hN,hL,hR,hM])<;>rfl,by simp [yf,zk.get,zk.put]⟩
  replace hM:=aP.1 hM
  by_cases hUp:(250:Int)<(za ps i).Ups.length
  ·skip
   by_cases hr:(za ps i).Rest=true
   ·simp only [ja,hr,if_true] at hM
    refine ⟨_,by (simp -implicitDefEqProofs +contextual (disch:=omega) only [yj,zf,hU,hP,code,zb,zc.cells,ups,ze,zj,zm,zO, ↓XD,XU, ↓reduceIte,sevalprocAttr,hn,hr,hN,hL,hR,hM,hUp])<;>rfl,by simp [yf,zk.get,zk.put]⟩
   ·simp only [ja,hr,if_false,bG] at hM
    refine ⟨_,by (simp -implicitDefEqProofs +contextual (disch:=omega) only [yj,zf,hU,hP,code,zb,zc.cells,ups,ze,zj,zm,zO, ↓XD,XU, ↓reduceIte,sevalprocAttr,hn,hr,hN,hL,hR,hM,hUp])<;>rfl,by simp [yf,zk.get,zk.put]⟩
  by_cases hC:(500:Int)<(za ps i).Consts.length
  ·skip
   by_cases hr:(za ps i).Rest=true
   ·simp only [ja,hr,if_true] at hM
    refine ⟨_,by (simp -implicitDefEqProofs +contextual (disch:=omega) only [yj,zf,hU,hP,code,zb,zc.cells,ups,ze,zj,zm,zO, ↓XD,XU, ↓reduceIte,sevalprocAttr,hn,hr,hN,hL,hR,hM,hUp,hC])<;>rfl,by simp [yf,zk.get,zk.put]⟩
   ·simp only [ja,hr,if_false,bG] at hM
    refine ⟨_,by (simp -implicitDefEqProofs +contextual (disch:=omega) only [yj,zf,hU,hP,code,zb,zc.cells,ups,ze,zj,zm,zO, ↓XD,XU, ↓reduceIte,sevalprocAttr,hn,hr,hN,hL,hR,hM,hUp,hC])<;>rfl,by simp [yf,zk.get,zk.put]⟩
  have h0:i=0:=by
   by_cases h0:i=0
   ·exact h0
   ·exact absurd ⟨⟨⟨⟨⟨⟨by omega,hL⟩,hR⟩,hM⟩,by omega⟩,by omega⟩,.inl (by omega)⟩ hp
  subst h0
  by_cases hz1:0<(za ps 0).Params
  ·skip
   by_cases hr:(za ps 0).Rest=true
   ·simp only [ja,hr,if_true] at hM
    refine ⟨_,by (simp -implicitDefEqProofs +contextual (disch:=omega) only [yj,zf,hU,hP,code,zb,zc.cells,ups,ze,zj,zm,zO, ↓XD,XU, ↓reduceIte,sevalprocAttr,hn,hr,hN,hL,hR,hM,hUp,hC,hz1])<;>rfl,by simp [yf,zk.get,zk.put]⟩
   ·simp only [ja,hr,if_false,bG] at hM
    refine ⟨_,by (simp -implicitDefEqProofs +contextual (disch:=omega) only [yj,zf,hU,hP,code,zb,zc.cells,ups,ze,zj,zm,zO, ↓XD,XU, ↓reduceIte,sevalprocAttr,hn,hr,hN,hL,hR,hM,hUp,hC,hz1])<;>rfl,by simp [yf,zk.get,zk.put]⟩
  have hz2:(0:Int)<(za ps 0).Ups.length:=by
   by_cases h0:(0:Int)<(za ps 0).Ups.length
   ·exact h0
   ·exact absurd ⟨⟨⟨⟨⟨⟨by omega,hL⟩,hR⟩,hM⟩,by omega⟩,by omega⟩,.inr ⟨by omega,by omega⟩⟩ hp
  by_cases hr:(za ps 0).Rest=true
  ·simp only [ja,hr,if_true] at hM
   refine ⟨_,by (simp -implicitDefEqProofs +contextual (disch:=omega) only [yj,zf,hU,hP,code,zb,zc.cells,ups,ze,zj,zm,zO, ↓XD,XU, ↓reduceIte,sevalprocAttr,hn,hr,hN,hL,hR,hM,hUp,hC,hz1,hz2])<;>rfl,by simp [yf,zk.get,zk.put]⟩
  ·simp only [ja,hr,if_false,bG] at hM
   refine ⟨_,by (simp -implicitDefEqProofs +contextual (disch:=omega) only [yj,zf,hU,hP,code,zb,zc.cells,ups,ze,zj,zm,zO, ↓XD,XU, ↓reduceIte,sevalprocAttr,hn,hr,hN,hL,hR,hM,hUp,hC,hz1,hz2])<;>rfl,by simp [yf,zk.get,zk.put]⟩
 ·rintro i hi rfl
  refine ⟨by simp -implicitDefEqProofs +contextual (disch:=omega) only [yj,zf, ↓XD,XU, ↓reduceIte,sevalprocAttr,hU,code,zb,aL],by simp⟩
theorem zB5 (ps:List zc) (t fi:Int) (f:zc) (hb:ps.length<=1048576) (hs:zfI f):match z9 (λ (j:Int)=>¬YS (za f.Consts j)) 0 f.Consts.length with|some j=>∃ st,EV A (.loop (zM 3)) (⟨[(0,code ps),(1,.ptr 0 0 0 1),(2,.ptr 1 0 0 1),(3,.int .i64 t),(31,zb ps),(32,.int .i64 ps.length),(33,.int .i64 ps.length),(59,zb ps),(60,.int .i64 ps.length),(61,.int .i64 ps.length),(126,zb ps),(127,.int .i64 ps.length),(128,.int .i64 fi),(10,.ptr 2 0 0 1),(9,.int .i64 fi),(134,ze f.Consts),(135,.int .i64 f.Consts.length),(136,.int .i64 (0))],[],hP ps f,[]⟩:St)=some (.ret,st)/\yf 2 1 3 (wD 3 fi j) st|none=>EV A (.loop (zM 3)) (⟨[(0,code ps),(1,.ptr 0 0 0 1),(2,.ptr 1 0 0 1),(3,.int .i64 t),(31,zb ps),(32,.int .i64 ps.length),(33,.int .i64 ps.length),(59,zb ps),(60,.int .i64 ps.length),(61,.int .i64 ps.length),(126,zb ps),(127,.int .i64 ps.length),(128,.int .i64 fi),(10,.ptr 2 0 0 1),(9,.int .i64 fi),(134,ze f.Consts),(135,.int .i64 f.Consts.length),(136,.int .i64 (0))],[],hP ps f,[]⟩:St)=some (zp.exit 6,(⟨[(0,code ps),(1,.ptr 0 0 0 1),(2,.ptr 1 0 0 1),(3,.int .i64 t),(31,zb ps),(32,.int .i64 ps.length),(33,.int .i64 ps.length),(59,zb ps),(60,.int .i64 ps.length),(61,.int .i64 ps.length),(126,zb ps),(127,.int .i64 ps.length),(128,.int .i64 fi),(10,.ptr 2 0 0 1),(9,.int .i64 fi),(134,ze f.Consts),(135,.int .i64 f.Consts.length),(136,.int .i64 (f.Consts.length))],[],hP ps f,[]⟩:St)):=by
 refine yr (λ i=>(⟨[(0,code ps),(1,.ptr 0 0 0 1),(2,.ptr 1 0 0 1),(3,.int .i64 t),(31,zb ps),(32,.int .i64 ps.length),(33,.int .i64 ps.length),(59,zb ps),(60,.int .i64 ps.length),(61,.int .i64 ps.length),(126,zb ps),(127,.int .i64 ps.length),(128,.int .i64 fi),(10,.ptr 2 0 0 1),(9,.int .i64 fi),(134,ze f.Consts),(135,.int .i64 f.Consts.length),(136,.int .i64 i)],[],hP ps f,[]⟩:St)) (λ (j:Int)=>¬YS (za f.Consts j)) (λ (j:Int) (st:St)=>yf 2 1 3 (wD 3 fi j) st) (zp.exit 6,(⟨[(0,code ps),(1,.ptr 0 0 0 1),(2,.ptr 1 0 0 1),(3,.int .i64 t),(31,zb ps),(32,.int .i64 ps.length),(33,.int .i64 ps.length),(59,zb ps),(60,.int .i64 ps.length),(61,.int .i64 ps.length),(126,zb ps),(127,.int .i64 ps.length),(128,.int .i64 fi),(10,.ptr 2 0 0 1),(9,.int .i64 fi),(134,ze f.Consts),(135,.int .i64 f.Consts.length),(136,.int .i64 (f.Consts.length))],[],hP ps f,[]⟩:St)) (0) (f.Consts.length) ?_ ?_ ?_ (0) (by omega) (by omega)
 ·intro i hi hn hp
  have hc:=hs.c;have hz:=zkD (za f.Consts i);simp only [yo.cells] at hz
  simp only [aP] at hp
  obtain ⟨hv,h5,h6,h7,h3',h3n⟩:=hp
  by_cases h3:(za f.Consts i).Kind=3
  ·have ho:=h3' h3
   simp only [hv,h3] at hz
   refine ⟨_,by (simp -implicitDefEqProofs +contextual (disch:=omega) only [wn,zf,hU,hP,code,zb,zc.cells,ups,ze,zj,zm,yo.cells,zO, ↓XD,XU, ↓reduceIte,sevalprocAttr,hn,hz,hv,h3,ho])<;>rfl,by simp [St.next,trim,bare,zn,refs]⟩
  ·have ho:=h3n h3
   have hS:=zkB 0
   simp only [hv,ho] at hz
   refine ⟨_,by (simp -implicitDefEqProofs +contextual (disch:=omega) only [wn,zf,hU,hP,code,zb,zc.cells,ups,ze,zj,zm,yo.cells,zO, ↓XD,XU, ↓reduceIte,sevalprocAttr,hn,hz,hv,h3,h5,h6,h7,ho,hS,sb0])<;>rfl,by simp [St.next,trim,bare,zn,refs]⟩
 ·intro i hi hn hp
  have hc:=hs.c;have hz:=zkD (za f.Consts i);simp only [yo.cells] at hz
  have hS:=zkB 9223372036854775808
  by_cases hv:¬YT (za f.Consts i)
  ·simp only [hv] at hz
   refine ⟨_,by (simp -implicitDefEqProofs +contextual (disch:=omega) only [wn,zf,hU,hP,code,zb,zc.cells,ups,ze,zj,zm,yo.cells,zO, ↓XD,XU, ↓reduceIte,sevalprocAttr,hn,hz,hv])<;>rfl,by simp [yf,zk.get,zk.put]⟩
  replace hv:=aP.1 hv
  by_cases h5:(za f.Consts i).Kind=5
  ·simp only [hv,h5] at hz
   refine ⟨_,by (simp -implicitDefEqProofs +contextual (disch:=omega) only [wn,zf,hU,hP,code,zb,zc.cells,ups,ze,zj,zm,yo.cells,zO, ↓XD,XU, ↓reduceIte,sevalprocAttr,hn,hz,hv,h5])<;>rfl,by simp [yf,zk.get,zk.put]⟩
  by_cases h6:(za f.Consts i).Kind=6
  ·simp only [hv,h6] at hz
   refine ⟨_,by (simp -implicitDefEqProofs +contextual (disch:=omega) only [wn,zf,hU,hP,code,zb,zc.cells,ups,ze,zj,zm,yo.cells,zO, ↓XD,XU, ↓reduceIte,sevalprocAttr,hn,hz,hv,h6])<;>rfl,by simp [yf,zk.get,zk.put]⟩
  by_cases h7:(za f.Consts i).Kind=7
  ·simp only [hv,h7] at hz
   refine ⟨_,by (simp -implicitDefEqProofs +contextual (disch:=omega) only [wn,zf,hU,hP,code,zb,zc.cells,ups,ze,zj,zm,yo.cells,zO, ↓XD,XU, ↓reduceIte,sevalprocAttr,hn,hz,hv,h7])<;>rfl,by simp [yf,zk.get,zk.put]⟩
  by_cases h3:(za f.Consts i).Kind=3
  ·have ho:¬FloatKind.f64.format.order (za f.Consts i).Flt (za f.Consts i).Flt=some .eq:=λ ho=>hp ⟨hv,h5,h6,h7,λ _=>ho,λ h=>absurd h3 h⟩
   simp only [hv,h3] at hz
   refine ⟨_,by (simp -implicitDefEqProofs +contextual (disch:=omega) only [wn,zf,hU,hP,code,zb,zc.cells,ups,ze,zj,zm,yo.cells,zO, ↓XD,XU, ↓reduceIte,sevalprocAttr,hn,hz,hv,h3,ho])<;>rfl,by simp [yf,zk.get,zk.put]⟩
  have ho:(za f.Consts i).Flt=9223372036854775808:=by
   rcases (zk6 (hs.f i)).1 (zsl hv h3) with h|h
   ·exact absurd ⟨hv,h5,h6,h7,λ h=>absurd h h3,λ _=>h⟩ hp
   ·exact h
  simp only [hv,ho] at hz
  refine ⟨_,by (simp -implicitDefEqProofs +contextual (disch:=omega) only [wn,zf,hU,hP,code,zb,zc.cells,ups,ze,zj,zm,yo.cells,zO, ↓XD,XU, ↓reduceIte,sevalprocAttr,hn,hz,hv,h3,h5,h6,h7,ho,hS,sb1])<;>rfl,by simp [yf,zk.get,zk.put]⟩
 ·rintro i hi rfl
  refine ⟨by simp -implicitDefEqProofs +contextual (disch:=omega) only [wn,zf, ↓XD,XU, ↓reduceIte,sevalprocAttr,hP,code,zb,zc.cells,ze,yo.cells,aL],by simp⟩
theorem zD7 (ps:List zc) (t:Int) (hb:ps.length<=1048576) (hs:vz ps):match z9 (λ (j:Int)=>uz ps j≠none) 0 ps.length with|some j=>∃ st,EV A (.loop (zM 2)) (⟨[(0,code ps),(1,.ptr 0 0 0 1),(2,.ptr 1 0 0 1),(3,.int .i64 t),(31,zb ps),(32,.int .i64 ps.length),(33,.int .i64 ps.length),(59,zb ps),(60,.int .i64 ps.length),(61,.int .i64 ps.length),(126,zb ps),(127,.int .i64 ps.length),(128,.int .i64 (0))],[],hU ps,[]⟩:St)=some (.ret,st)/\yf 2 1 3 (wD 3 j ((uz ps j).getD 0)) st|none=>EV A (.loop (zM 2)) (⟨[(0,code ps),(1,.ptr 0 0 0 1),(2,.ptr 1 0 0 1),(3,.int .i64 t),(31,zb ps),(32,.int .i64 ps.length),(33,.int .i64 ps.length),(59,zb ps),(60,.int .i64 ps.length),(61,.int .i64 ps.length),(126,zb ps),(127,.int .i64 ps.length),(128,.int .i64 (0))],[],hU ps,[]⟩:St)=some (zp.exit 4,(⟨[(0,code ps),(1,.ptr 0 0 0 1),(2,.ptr 1 0 0 1),(3,.int .i64 t),(31,zb ps),(32,.int .i64 ps.length),(33,.int .i64 ps.length),(59,zb ps),(60,.int .i64 ps.length),(61,.int .i64 ps.length),(126,zb ps),(127,.int .i64 ps.length),(128,.int .i64 (ps.length))],[],hU ps,[]⟩:St)):=by
 refine yr (λ i=>(⟨[(0,code ps),(1,.ptr 0 0 0 1),(2,.ptr 1 0 0 1),(3,.int .i64 t),(31,zb ps),(32,.int .i64 ps.length),(33,.int .i64 ps.length),(59,zb ps),(60,.int .i64 ps.length),(61,.int .i64 ps.length),(126,zb ps),(127,.int .i64 ps.length),(128,.int .i64 i)],[],hU ps,[]⟩:St)) (λ (j:Int)=>uz ps j≠none) (λ (j:Int) (st:St)=>yf 2 1 3 (wD 3 j ((uz ps j).getD 0)) st) (zp.exit 4,(⟨[(0,code ps),(1,.ptr 0 0 0 1),(2,.ptr 1 0 0 1),(3,.int .i64 t),(31,zb ps),(32,.int .i64 ps.length),(33,.int .i64 ps.length),(59,zb ps),(60,.int .i64 ps.length),(61,.int .i64 ps.length),(126,zb ps),(127,.int .i64 ps.length),(128,.int .i64 (ps.length))],[],hU ps,[]⟩:St)) (0) (ps.length) ?_ ?_ ?_ (0) (by omega) (by omega)
 ·intro i hi hn hp
  try simp only [aP] at hp
  have hl:=zB5 ps t i (za ps i) hb (hs i)
  have hp':uz ps i=none:=(by simpa using hp);unfold uz at hp';rw [hp'] at hl
  refine ⟨_,by simp -implicitDefEqProofs +contextual (disch:=omega) only [XH,zf, ↓XD,XU, ↓reduceIte,sevalprocAttr,hU,hP,code,zb,zc.cells,ze,ups,zj,zm,hl,hn,hp];rfl,by first|(simp [St.next,zT];done)|(simp [St.next,zT];omega)|(simp [St.next,trim,bare,zn,refs];done)⟩
 ·intro i hi hn hp
  have hl:=zB5 ps t i (za ps i) hb (hs i)
  obtain ⟨k,hk⟩:=bN.1 hp;unfold uz at hk;rw [hk] at hl;obtain ⟨st,hl,hg⟩:=hl
  refine ⟨_,by simp -implicitDefEqProofs +contextual (disch:=omega) only [XH,zf, ↓XD,XU, ↓reduceIte,sevalprocAttr,hU,hP,code,zb,zc.cells,ze,ups,zj,zm,hl,hn,hp];rfl,by unfold uz;rw [hk];exact hg⟩
 ·rintro i hi rfl
  refine ⟨by simp -implicitDefEqProofs +contextual (disch:=omega) only [XH,zf, ↓XD,XU, ↓reduceIte,sevalprocAttr,hU,hP,code,zb,zc.cells,ze,ups,zj,zm,aL],by simp⟩
def zoO (p:zc) (n:xz) (i:Int):Prop:=((1<=(n.Name.size:Int)/\(n.Name.size:Int)<=40)/\(0<=n.Reg/\n.Reg<=p.Regs-1)/\0<=n.From/\n.From<=n.To/\n.To<=p.Ins.length)/\¬i=500
theorem zB6 (ps:List zc) (t fi:Int) (f:zc) (hb:ps.length<=1048576) (hs:WL f):match z9 (λ (j:Int)=>¬zoO f (za f.Named j) j) 0 f.Named.length with|some j=>∃ st,EV A (.loop (zM 5)) (⟨[(0,code ps),(1,.ptr 0 0 0 1),(2,.ptr 1 0 0 1),(3,.int .i64 t),(31,zb ps),(32,.int .i64 ps.length),(33,.int .i64 ps.length),(59,zb ps),(60,.int .i64 ps.length),(61,.int .i64 ps.length),(126,zb ps),(127,.int .i64 ps.length),(128,.int .i64 ps.length),(187,zb ps),(188,.int .i64 ps.length),(189,.int .i64 fi),(14,.ptr 2 0 0 1),(13,.int .i64 fi),(195,zm f.Named),(196,.int .i64 f.Named.length),(197,.int .i64 (0))],[],hP ps f,[]⟩:St)=some (.ret,st)/\yf 2 1 3 (wD 4 fi j) st|none=>EV A (.loop (zM 5)) (⟨[(0,code ps),(1,.ptr 0 0 0 1),(2,.ptr 1 0 0 1),(3,.int .i64 t),(31,zb ps),(32,.int .i64 ps.length),(33,.int .i64 ps.length),(59,zb ps),(60,.int .i64 ps.length),(61,.int .i64 ps.length),(126,zb ps),(127,.int .i64 ps.length),(128,.int .i64 ps.length),(187,zb ps),(188,.int .i64 ps.length),(189,.int .i64 fi),(14,.ptr 2 0 0 1),(13,.int .i64 fi),(195,zm f.Named),(196,.int .i64 f.Named.length),(197,.int .i64 (0))],[],hP ps f,[]⟩:St)=some (zp.exit 10,(⟨[(0,code ps),(1,.ptr 0 0 0 1),(2,.ptr 1 0 0 1),(3,.int .i64 t),(31,zb ps),(32,.int .i64 ps.length),(33,.int .i64 ps.length),(59,zb ps),(60,.int .i64 ps.length),(61,.int .i64 ps.length),(126,zb ps),(127,.int .i64 ps.length),(128,.int .i64 ps.length),(187,zb ps),(188,.int .i64 ps.length),(189,.int .i64 fi),(14,.ptr 2 0 0 1),(13,.int .i64 fi),(195,zm f.Named),(196,.int .i64 f.Named.length),(197,.int .i64 (f.Named.length))],[],hP ps f,[]⟩:St)):=by
 refine yr (λ i=>(⟨[(0,code ps),(1,.ptr 0 0 0 1),(2,.ptr 1 0 0 1),(3,.int .i64 t),(31,zb ps),(32,.int .i64 ps.length),(33,.int .i64 ps.length),(59,zb ps),(60,.int .i64 ps.length),(61,.int .i64 ps.length),(126,zb ps),(127,.int .i64 ps.length),(128,.int .i64 ps.length),(187,zb ps),(188,.int .i64 ps.length),(189,.int .i64 fi),(14,.ptr 2 0 0 1),(13,.int .i64 fi),(195,zm f.Named),(196,.int .i64 f.Named.length),(197,.int .i64 i)],[],hP ps f,[]⟩:St)) (λ (j:Int)=>¬zoO f (za f.Named j) j) (λ (j:Int) (st:St)=>yf 2 1 3 (wD 4 fi j) st) (zp.exit 10,(⟨[(0,code ps),(1,.ptr 0 0 0 1),(2,.ptr 1 0 0 1),(3,.int .i64 t),(31,zb ps),(32,.int .i64 ps.length),(33,.int .i64 ps.length),(59,zb ps),(60,.int .i64 ps.length),(61,.int .i64 ps.length),(126,zb ps),(127,.int .i64 ps.length),(128,.int .i64 ps.length),(187,zb ps),(188,.int .i64 ps.length),(189,.int .i64 fi),(14,.ptr 2 0 0 1),(13,.int .i64 fi),(195,zm f.Named),(196,.int .i64 f.Named.length),(197,.int .i64 (f.Named.length))],[],hP ps f,[]⟩:St)) (0) (f.Named.length) ?_ ?_ ?_ (0) (by omega) (by omega)
 ·intro i hi hn hp
  have q1:=hs.r0;have q2:=hs.r1;have q3:=hs.n;have q4:=hs.i
  simp only [aP] at hp
  obtain ⟨⟨⟨a1,a2⟩,a3,a4,a5,a6⟩,a7⟩:=hp
  have c1:¬(((za f.Named i).Name.size:Int)<1):=by omega
  have c2:¬((40:Int)<(za f.Named i).Name.size):=by omega
  have c3:(0<=(za f.Named i).Reg/\(za f.Named i).Reg<=f.Regs-1):=by omega
  have c4:¬((za f.Named i).From<0):=by omega
  have c5:¬((za f.Named i).To<(za f.Named i).From):=by omega
  have c6:¬((f.Ins.length:Int)<(za f.Named i).To):=by omega
  have c7:¬(i=500):=by omega
  refine ⟨_,by (simp -implicitDefEqProofs +contextual (disch:=omega) only [wo,zf,hU,hP,code,zb,zc.cells,ups,ze,zj,zm,xz.cells,zO, ↓XD,XU, ↓reduceIte,sevalprocAttr,hn,c1,c2,c3,c4,c5,c6,c7])<;>rfl,by simp [St.next,trim,bare,zn,refs]⟩
 ·intro i hi hn hp
  have q1:=hs.r0;have q2:=hs.r1;have q3:=hs.n;have q4:=hs.i
  by_cases c1:(((za f.Named i).Name.size:Int)<1)
  ·skip
   refine ⟨_,by (simp -implicitDefEqProofs +contextual (disch:=omega) only [wo,zf,hU,hP,code,zb,zc.cells,ups,ze,zj,zm,xz.cells,zO, ↓XD,XU, ↓reduceIte,sevalprocAttr,hn,c1])<;>rfl,by simp [yf,zk.get,zk.put]⟩
  by_cases c2:((40:Int)<(za f.Named i).Name.size)
  ·skip
   refine ⟨_,by (simp -implicitDefEqProofs +contextual (disch:=omega) only [wo,zf,hU,hP,code,zb,zc.cells,ups,ze,zj,zm,xz.cells,zO, ↓XD,XU, ↓reduceIte,sevalprocAttr,hn,c1,c2])<;>rfl,by simp [yf,zk.get,zk.put]⟩
  by_cases c3:¬(0<=(za f.Named i).Reg/\(za f.Named i).Reg<=f.Regs-1)
  ·skip
   refine ⟨_,by (simp -implicitDefEqProofs +contextual (disch:=omega) only [wo,zf,hU,hP,code,zb,zc.cells,ups,ze,zj,zm,xz.cells,zO, ↓XD,XU, ↓reduceIte,sevalprocAttr,hn,c1,c2,c3])<;>rfl,by simp [yf,zk.get,zk.put]⟩
  by_cases c4:((za f.Named i).From<0)
  ·skip
   refine ⟨_,by (simp -implicitDefEqProofs +contextual (disch:=omega) only [wo,zf,hU,hP,code,zb,zc.cells,ups,ze,zj,zm,xz.cells,zO, ↓XD,XU, ↓reduceIte,sevalprocAttr,hn,c1,c2,c3,c4])<;>rfl,by simp [yf,zk.get,zk.put]⟩
  by_cases c5:((za f.Named i).To<(za f.Named i).From)
  ·skip
   refine ⟨_,by (simp -implicitDefEqProofs +contextual (disch:=omega) only [wo,zf,hU,hP,code,zb,zc.cells,ups,ze,zj,zm,xz.cells,zO, ↓XD,XU, ↓reduceIte,sevalprocAttr,hn,c1,c2,c3,c4,c5])<;>rfl,by simp [yf,zk.get,zk.put]⟩
  by_cases c6:((f.Ins.length:Int)<(za f.Named i).To)
  ·skip
   refine ⟨_,by (simp -implicitDefEqProofs +contextual (disch:=omega) only [wo,zf,hU,hP,code,zb,zc.cells,ups,ze,zj,zm,xz.cells,zO, ↓XD,XU, ↓reduceIte,sevalprocAttr,hn,c1,c2,c3,c4,c5,c6])<;>rfl,by simp [yf,zk.get,zk.put]⟩
  have c7:i=500:=by
   by_cases c7:i=500
   ·exact c7
   ·exact absurd ⟨⟨⟨by omega,by omega⟩,aP.1 c3,by omega,by omega,by omega⟩,c7⟩ hp
  subst c7
  refine ⟨_,by (simp -implicitDefEqProofs +contextual (disch:=omega) only [wo,zf,hU,hP,code,zb,zc.cells,ups,ze,zj,zm,xz.cells,zO, ↓XD,XU, ↓reduceIte,sevalprocAttr,hn,c1,c2,c3,c4,c5,c6])<;>rfl,by simp [yf,zk.get,zk.put]⟩
 ·rintro i hi rfl
  refine ⟨by simp -implicitDefEqProofs +contextual (disch:=omega) only [wo,zf, ↓XD,XU, ↓reduceIte,sevalprocAttr,hP,code,zb,zc.cells,zm,xz.cells,aL],by simp⟩
theorem zvW {p q:Int->Prop} {n m:Int} (h1:∀ j,0<=j->j<n->j<m->(p j↔q j)) (m0:0<=m) (hp:m<n->p m) (hq:m<n->q m):z9 p 0 n=z9 q 0 n:=by
 have go:∀ {p q:Int->Prop},(∀ j,0<=j->j<n->j<m->(p j↔q j))->(m<n->p m)->(m<n->q m)->∀ k,z9 p 0 n=some k->z9 q 0 n=some k:=by
  intro p q h1 hp hq k hk
  obtain ⟨k0,k1,k2,k3⟩:=xE.1 hk
  have hkm:k<=m:=by
   by_cases h:k<=m
   ·exact h
   ·exact absurd (hp (by omega)) (k3 m m0 (by omega))
  refine xE.2 ⟨k0,k1,?_,λ j j0 j1=>?_⟩
  ·by_cases h:k<m
   ·exact (h1 k k0 k1 h).1 k2
   ·have:k=m:=by omega
    subst this;exact hq k1
  ·have:=k3 j j0 j1
   exact λ hj=>this ((h1 j j0 (by omega) (by omega)).2 hj)
 cases h:z9 p 0 n with
 |some k=>exact (go h1 hp hq k h).symm
 |none=>
  cases h2:z9 q 0 n with
  |none=>rfl
  |some k=>
   have:=go (λ j a b c=>(h1 j a b c).symm) hq hp k h2
   rw [h] at this;cases this
theorem znk (ps:List zc) (p:Int):jA ps p=z9 (λ k=>¬zoO (za ps p) (za (za ps p).Named k) k) 0 (za ps p).Named.length:=by
 refine zvW (m:=500) (λ j j0 j1 jm=>?_) (by omega) (λ h=>?_) (λ h=>?_)
 ·simp only [zjJ,zoO]
  refine not_congr ⟨λ h=>⟨h.2,by omega⟩,λ h=>⟨by omega,h.1⟩⟩
 ·simp only [zjJ];intro h;omega
 ·simp only [zoO];intro h;exact h.2 trivial
theorem zD8 (ps:List zc) (t:Int) (hb:ps.length<=1048576) (hs:∀ p:Int,0<=p->p<ps.length->WL (za ps p)):match z9 (λ (j:Int)=>jA ps j≠none) 0 ps.length with|some j=>∃ st,EV A (.loop (zM 4)) (⟨[(0,code ps),(1,.ptr 0 0 0 1),(2,.ptr 1 0 0 1),(3,.int .i64 t),(31,zb ps),(32,.int .i64 ps.length),(33,.int .i64 ps.length),(59,zb ps),(60,.int .i64 ps.length),(61,.int .i64 ps.length),(126,zb ps),(127,.int .i64 ps.length),(128,.int .i64 ps.length),(187,zb ps),(188,.int .i64 ps.length),(189,.int .i64 (0))],[],hU ps,[]⟩:St)=some (.ret,st)/\yf 2 1 3 (wD 4 j ((jA ps j).getD 0)) st|none=>EV A (.loop (zM 4)) (⟨[(0,code ps),(1,.ptr 0 0 0 1),(2,.ptr 1 0 0 1),(3,.int .i64 t),(31,zb ps),(32,.int .i64 ps.length),(33,.int .i64 ps.length),(59,zb ps),(60,.int .i64 ps.length),(61,.int .i64 ps.length),(126,zb ps),(127,.int .i64 ps.length),(128,.int .i64 ps.length),(187,zb ps),(188,.int .i64 ps.length),(189,.int .i64 (0))],[],hU ps,[]⟩:St)=some (zp.exit 8,(⟨[(0,code ps),(1,.ptr 0 0 0 1),(2,.ptr 1 0 0 1),(3,.int .i64 t),(31,zb ps),(32,.int .i64 ps.length),(33,.int .i64 ps.length),(59,zb ps),(60,.int .i64 ps.length),(61,.int .i64 ps.length),(126,zb ps),(127,.int .i64 ps.length),(128,.int .i64 ps.length),(187,zb ps),(188,.int .i64 ps.length),(189,.int .i64 (ps.length))],[],hU ps,[]⟩:St)):=by
 refine yr (λ i=>(⟨[(0,code ps),(1,.ptr 0 0 0 1),(2,.ptr 1 0 0 1),(3,.int .i64 t),(31,zb ps),(32,.int .i64 ps.length),(33,.int .i64 ps.length),(59,zb ps),(60,.int .i64 ps.length),(61,.int .i64 ps.length),(126,zb ps),(127,.int .i64 ps.length),(128,.int .i64 ps.length),(187,zb ps),(188,.int .i64 ps.length),(189,.int .i64 i)],[],hU ps,[]⟩:St)) (λ (j:Int)=>jA ps j≠none) (λ (j:Int) (st:St)=>yf 2 1 3 (wD 4 j ((jA ps j).getD 0)) st) (zp.exit 8,(⟨[(0,code ps),(1,.ptr 0 0 0 1),(2,.ptr 1 0 0 1),(3,.int .i64 t),(31,zb ps),(32,.int .i64 ps.length),(33,.int .i64 ps.length),(59,zb ps),(60,.int .i64 ps.length),(61,.int .i64 ps.length),(126,zb ps),(127,.int .i64 ps.length),(128,.int .i64 ps.length),(187,zb ps),(188,.int .i64 ps.length),(189,.int .i64 (ps.length))],[],hU ps,[]⟩:St)) (0) (ps.length) ?_ ?_ ?_ (0) (by omega) (by omega)
 ·intro i hi hn hp
  try simp only [aP] at hp
  have hl:=zB6 ps t i (za ps i) hb (hs i hi hn);rw [<-znk] at hl
  have hp':jA ps i=none:=(by simpa using hp);rw [hp'] at hl
  refine ⟨_,by simp -implicitDefEqProofs +contextual (disch:=omega) only [XI,zf, ↓XD,XU, ↓reduceIte,sevalprocAttr,hU,hP,code,zb,zc.cells,ze,ups,zj,zm,hl,hn,hp];rfl,by first|(simp [St.next,zT];done)|(simp [St.next,zT];omega)|(simp [St.next,trim,bare,zn,refs];done)⟩
 ·intro i hi hn hp
  have hl:=zB6 ps t i (za ps i) hb (hs i hi hn);rw [<-znk] at hl
  obtain ⟨k,hk⟩:=bN.1 hp;rw [hk] at hl;obtain ⟨st,hl,hg⟩:=hl
  refine ⟨_,by simp -implicitDefEqProofs +contextual (disch:=omega) only [XI,zf, ↓XD,XU, ↓reduceIte,sevalprocAttr,hU,hP,code,zb,zc.cells,ze,ups,zj,zm,hl,hn,hp];rfl,by rw [hk];exact hg⟩
 ·rintro i hi rfl
  refine ⟨by simp -implicitDefEqProofs +contextual (disch:=omega) only [XI,zf, ↓XD,XU, ↓reduceIte,sevalprocAttr,hU,hP,code,zb,zc.cells,ze,ups,zj,zm,aL],by simp⟩
theorem zB7 (ps:List zc) (t fi:Int) (f0:0<=fi) (f1:fi<ps.length) (hb:ps.length<=1048576) (hs:WL (za ps fi)) (hS:zfI (za ps fi)):match z9 (λ (j:Int)=>¬jb ps fi j) 0 (za ps fi).Ins.length with|some j=>∃ st,EV A (.loop (zM 7)) (⟨[(0,code ps),(1,.ptr 0 0 0 1),(2,.ptr 1 0 0 1),(3,.int .i64 t),(31,zb ps),(32,.int .i64 ps.length),(33,.int .i64 ps.length),(59,zb ps),(60,.int .i64 ps.length),(61,.int .i64 ps.length),(126,zb ps),(127,.int .i64 ps.length),(128,.int .i64 ps.length),(187,zb ps),(188,.int .i64 ps.length),(189,.int .i64 ps.length),(251,zb ps),(252,.int .i64 ps.length),(253,.int .i64 fi),(18,.ptr 2 0 0 1),(17,.int .i64 fi),(265,zj (za ps fi).Ins),(266,.int .i64 (za ps fi).Ins.length),(267,.int .i64 (0))],[],hP ps (za ps fi),[]⟩:St)=some (.ret,st)/\yf 2 1 3 (wD 5 fi j) st|none=>EV A (.loop (zM 7)) (⟨[(0,code ps),(1,.ptr 0 0 0 1),(2,.ptr 1 0 0 1),(3,.int .i64 t),(31,zb ps),(32,.int .i64 ps.length),(33,.int .i64 ps.length),(59,zb ps),(60,.int .i64 ps.length),(61,.int .i64 ps.length),(126,zb ps),(127,.int .i64 ps.length),(128,.int .i64 ps.length),(187,zb ps),(188,.int .i64 ps.length),(189,.int .i64 ps.length),(251,zb ps),(252,.int .i64 ps.length),(253,.int .i64 fi),(18,.ptr 2 0 0 1),(17,.int .i64 fi),(265,zj (za ps fi).Ins),(266,.int .i64 (za ps fi).Ins.length),(267,.int .i64 (0))],[],hP ps (za ps fi),[]⟩:St)=some (zp.exit 14,(⟨[(0,code ps),(1,.ptr 0 0 0 1),(2,.ptr 1 0 0 1),(3,.int .i64 t),(31,zb ps),(32,.int .i64 ps.length),(33,.int .i64 ps.length),(59,zb ps),(60,.int .i64 ps.length),(61,.int .i64 ps.length),(126,zb ps),(127,.int .i64 ps.length),(128,.int .i64 ps.length),(187,zb ps),(188,.int .i64 ps.length),(189,.int .i64 ps.length),(251,zb ps),(252,.int .i64 ps.length),(253,.int .i64 fi),(18,.ptr 2 0 0 1),(17,.int .i64 fi),(265,zj (za ps fi).Ins),(266,.int .i64 (za ps fi).Ins.length),(267,.int .i64 ((za ps fi).Ins.length))],[],hP ps (za ps fi),[]⟩:St)):=by
 refine yr (λ i=>(⟨[(0,code ps),(1,.ptr 0 0 0 1),(2,.ptr 1 0 0 1),(3,.int .i64 t),(31,zb ps),(32,.int .i64 ps.length),(33,.int .i64 ps.length),(59,zb ps),(60,.int .i64 ps.length),(61,.int .i64 ps.length),(126,zb ps),(127,.int .i64 ps.length),(128,.int .i64 ps.length),(187,zb ps),(188,.int .i64 ps.length),(189,.int .i64 ps.length),(251,zb ps),(252,.int .i64 ps.length),(253,.int .i64 fi),(18,.ptr 2 0 0 1),(17,.int .i64 fi),(265,zj (za ps fi).Ins),(266,.int .i64 (za ps fi).Ins.length),(267,.int .i64 i)],[],hP ps (za ps fi),[]⟩:St)) (λ (j:Int)=>¬jb ps fi j) (λ (j:Int) (st:St)=>yf 2 1 3 (wD 5 fi j) st) (zp.exit 14,(⟨[(0,code ps),(1,.ptr 0 0 0 1),(2,.ptr 1 0 0 1),(3,.int .i64 t),(31,zb ps),(32,.int .i64 ps.length),(33,.int .i64 ps.length),(59,zb ps),(60,.int .i64 ps.length),(61,.int .i64 ps.length),(126,zb ps),(127,.int .i64 ps.length),(128,.int .i64 ps.length),(187,zb ps),(188,.int .i64 ps.length),(189,.int .i64 ps.length),(251,zb ps),(252,.int .i64 ps.length),(253,.int .i64 fi),(18,.ptr 2 0 0 1),(17,.int .i64 fi),(265,zj (za ps fi).Ins),(266,.int .i64 (za ps fi).Ins.length),(267,.int .i64 ((za ps fi).Ins.length))],[],hP ps (za ps fi),[]⟩:St)) (0) ((za ps fi).Ins.length) ?_ ?_ ?_ (0) (by omega) (by omega)
 ·intro i hi hn hp
  have hc:=hs.i;have hz:=zpa ps (za ps fi) (za (za ps fi).Ins i) (hS.x i) hb hs;simp only [code,zb,zc.cells,ups,ze,zj,zm,Ins.cells] at hz
  simp only [aP] at hp
  obtain ⟨hI,hl⟩:=(zjZ ps fi i hs).1 hp
  by_cases hL:i=((za ps fi).Ins.length:Int)-1
  ·subst hL
   by_cases h1:(za (za ps fi).Ins ((za ps fi).Ins.length-1)).Op=19
   ·simp only [hI,h1] at hz
    refine ⟨_,by (simp -implicitDefEqProofs +contextual (disch:=omega) only [ve,zf,hU,hP,code,zb,zc.cells,ups,ze,zj,zm,Ins.cells,zO, ↓XD,XU, ↓reduceIte,sevalprocAttr,hn,hz,hI,h1])<;>rfl,by simp [St.next,trim,bare,zn,refs]⟩
   by_cases h2:(za (za ps fi).Ins ((za ps fi).Ins.length-1)).Op=29
   ·simp only [hI,h2] at hz
    refine ⟨_,by (simp -implicitDefEqProofs +contextual (disch:=omega) only [ve,zf,hU,hP,code,zb,zc.cells,ups,ze,zj,zm,Ins.cells,zO, ↓XD,XU, ↓reduceIte,sevalprocAttr,hn,hz,hI,h2])<;>rfl,by simp [St.next,trim,bare,zn,refs]⟩
   have h3:(za (za ps fi).Ins ((za ps fi).Ins.length-1)).Op=30:=by
    rcases hl with h|h|h|h
    ·exact absurd rfl h
    ·exact absurd h h1
    ·exact absurd h h2
    ·exact h
   simp only [hI,h3] at hz
   refine ⟨_,by (simp -implicitDefEqProofs +contextual (disch:=omega) only [ve,zf,hU,hP,code,zb,zc.cells,ups,ze,zj,zm,Ins.cells,zO, ↓XD,XU, ↓reduceIte,sevalprocAttr,hn,hz,hI,h3])<;>rfl,by simp [St.next,trim,bare,zn,refs]⟩
  ·skip
   refine ⟨_,by (simp -implicitDefEqProofs +contextual (disch:=omega) only [ve,zf,hU,hP,code,zb,zc.cells,ups,ze,zj,zm,Ins.cells,zO, ↓XD,XU, ↓reduceIte,sevalprocAttr,hn,hz,hI,hL])<;>rfl,by simp [St.next,trim,bare,zn,refs]⟩
 ·intro i hi hn hp
  have hc:=hs.i;have hz:=zpa ps (za ps fi) (za (za ps fi).Ins i) (hS.x i) hb hs;simp only [code,zb,zc.cells,ups,ze,zj,zm,Ins.cells] at hz
  by_cases hI:¬zme ps (za ps fi) (za (za ps fi).Ins i)
  ·skip
   refine ⟨_,by (simp -implicitDefEqProofs +contextual (disch:=omega) only [ve,zf,hU,hP,code,zb,zc.cells,ups,ze,zj,zm,Ins.cells,zO, ↓XD,XU, ↓reduceIte,sevalprocAttr,hn,hz,hI])<;>rfl,by simp [yf,zk.get,zk.put]⟩
  replace hI:=aP.1 hI
  have hA:i=((za ps fi).Ins.length:Int)-1/\¬(za (za ps fi).Ins i).Op=19/\¬(za (za ps fi).Ins i).Op=29/\¬(za (za ps fi).Ins i).Op=30:=by
   refine cD λ hn'=>hp ((zjZ ps fi i hs).2 ⟨hI,?_⟩)
   by_cases a1:i=((za ps fi).Ins.length:Int)-1
   ·by_cases a2:(za (za ps fi).Ins i).Op=19
    ·exact .inr (.inl a2)
    by_cases a3:(za (za ps fi).Ins i).Op=29
    ·exact .inr (.inr (.inl a3))
    by_cases a4:(za (za ps fi).Ins i).Op=30
    ·exact .inr (.inr (.inr a4))
    exact absurd ⟨a1,a2,a3,a4⟩ hn'
   ·exact .inl a1
  obtain ⟨hL,h1,h2,h3⟩:=hA
  subst hL
  refine ⟨_,by (simp -implicitDefEqProofs +contextual (disch:=omega) only [ve,zf,hU,hP,code,zb,zc.cells,ups,ze,zj,zm,Ins.cells,zO, ↓XD,XU, ↓reduceIte,sevalprocAttr,hn,hz,hI,h1,h2,h3])<;>rfl,by simp [yf,zk.get,zk.put]⟩
 ·rintro i hi rfl
  refine ⟨by simp -implicitDefEqProofs +contextual (disch:=omega) only [ve,zf, ↓XD,XU, ↓reduceIte,sevalprocAttr,hP,code,zb,zc.cells,zj,Ins.cells,aL],by simp⟩
theorem zD9 (ps:List zc) (t:Int) (hb:ps.length<=1048576) (hS:vz ps) (hs:∀ p:Int,0<=p->p<ps.length->WL (za ps p)):match z9 (λ (j:Int)=>ue ps j≠none) 0 ps.length with|some j=>∃ st,EV A (.loop (zM 6)) (⟨[(0,code ps),(1,.ptr 0 0 0 1),(2,.ptr 1 0 0 1),(3,.int .i64 t),(31,zb ps),(32,.int .i64 ps.length),(33,.int .i64 ps.length),(59,zb ps),(60,.int .i64 ps.length),(61,.int .i64 ps.length),(126,zb ps),(127,.int .i64 ps.length),(128,.int .i64 ps.length),(187,zb ps),(188,.int .i64 ps.length),(189,.int .i64 ps.length),(251,zb ps),(252,.int .i64 ps.length),(253,.int .i64 (0))],[],hU ps,[]⟩:St)=some (.ret,st)/\yf 2 1 3 (wD 5 j ((ue ps j).getD 0)) st|none=>EV A (.loop (zM 6)) (⟨[(0,code ps),(1,.ptr 0 0 0 1),(2,.ptr 1 0 0 1),(3,.int .i64 t),(31,zb ps),(32,.int .i64 ps.length),(33,.int .i64 ps.length),(59,zb ps),(60,.int .i64 ps.length),(61,.int .i64 ps.length),(126,zb ps),(127,.int .i64 ps.length),(128,.int .i64 ps.length),(187,zb ps),(188,.int .i64 ps.length),(189,.int .i64 ps.length),(251,zb ps),(252,.int .i64 ps.length),(253,.int .i64 (0))],[],hU ps,[]⟩:St)=some (zp.exit 12,(⟨[(0,code ps),(1,.ptr 0 0 0 1),(2,.ptr 1 0 0 1),(3,.int .i64 t),(31,zb ps),(32,.int .i64 ps.length),(33,.int .i64 ps.length),(59,zb ps),(60,.int .i64 ps.length),(61,.int .i64 ps.length),(126,zb ps),(127,.int .i64 ps.length),(128,.int .i64 ps.length),(187,zb ps),(188,.int .i64 ps.length),(189,.int .i64 ps.length),(251,zb ps),(252,.int .i64 ps.length),(253,.int .i64 (ps.length))],[],hU ps,[]⟩:St)):=by
 refine yr (λ i=>(⟨[(0,code ps),(1,.ptr 0 0 0 1),(2,.ptr 1 0 0 1),(3,.int .i64 t),(31,zb ps),(32,.int .i64 ps.length),(33,.int .i64 ps.length),(59,zb ps),(60,.int .i64 ps.length),(61,.int .i64 ps.length),(126,zb ps),(127,.int .i64 ps.length),(128,.int .i64 ps.length),(187,zb ps),(188,.int .i64 ps.length),(189,.int .i64 ps.length),(251,zb ps),(252,.int .i64 ps.length),(253,.int .i64 i)],[],hU ps,[]⟩:St)) (λ (j:Int)=>ue ps j≠none) (λ (j:Int) (st:St)=>yf 2 1 3 (wD 5 j ((ue ps j).getD 0)) st) (zp.exit 12,(⟨[(0,code ps),(1,.ptr 0 0 0 1),(2,.ptr 1 0 0 1),(3,.int .i64 t),(31,zb ps),(32,.int .i64 ps.length),(33,.int .i64 ps.length),(59,zb ps),(60,.int .i64 ps.length),(61,.int .i64 ps.length),(126,zb ps),(127,.int .i64 ps.length),(128,.int .i64 ps.length),(187,zb ps),(188,.int .i64 ps.length),(189,.int .i64 ps.length),(251,zb ps),(252,.int .i64 ps.length),(253,.int .i64 (ps.length))],[],hU ps,[]⟩:St)) (0) (ps.length) ?_ ?_ ?_ (0) (by omega) (by omega)
 ·intro i hi hn hp
  have hl:=zB7 ps t i hi hn hb (hs i hi hn) (hS i);have e0:((za ps i).Ins.length:Int)=0↔(za ps i).Ins.length=0:=by omega
  have hp':ue ps i=none:=(by simpa using hp)
  unfold ue at hp'
  by_cases hz:(za ps i).Ins.length=0
  ·rw [if_pos hz] at hp';exact absurd hp' (by simp)
  ·rw [if_neg hz] at hp'
   rw [hp'] at hl
   refine ⟨_,by (simp -implicitDefEqProofs +contextual (disch:=omega) only [kJ,zf,hU,hP,code,zb,zc.cells,ups,ze,zj,zm, ↓XD,XU, ↓reduceIte,sevalprocAttr,hn,hz,e0,hl])<;>rfl,by simp [St.next,trim,bare,zn,refs]⟩
 ·intro i hi hn hp
  have hl:=zB7 ps t i hi hn hb (hs i hi hn) (hS i);have e0:((za ps i).Ins.length:Int)=0↔(za ps i).Ins.length=0:=by omega
  obtain ⟨k,hk⟩:=bN.1 hp
  unfold ue at hk
  by_cases hz:(za ps i).Ins.length=0
  ·refine ⟨_,by (simp -implicitDefEqProofs +contextual (disch:=omega) only [kJ,zf,hU,hP,code,zb,zc.cells,ups,ze,zj,zm, ↓XD,XU, ↓reduceIte,sevalprocAttr,hn,hz,e0])<;>rfl,by unfold ue;rw [if_pos hz];simp [yf,zk.get,zk.put]⟩
  ·rw [if_neg hz] at hk
   rw [hk] at hl
   obtain ⟨st,hl,hg⟩:=hl
   refine ⟨_,by (simp -implicitDefEqProofs +contextual (disch:=omega) only [kJ,zf,hU,hP,code,zb,zc.cells,ups,ze,zj,zm, ↓XD,XU, ↓reduceIte,sevalprocAttr,hn,hz,e0,hl])<;>rfl,by unfold ue;rw [if_neg hz,hk];exact hg⟩
 ·rintro i hi rfl
  refine ⟨by simp -implicitDefEqProofs +contextual (disch:=omega) only [kJ,zf, ↓XD,XU, ↓reduceIte,sevalprocAttr,hU,code,zb,aL],by simp⟩
abbrev E8 (ps:List zc) (t i:Int):zk:=[(0,code ps),(1,.ptr 0 0 0 1),(2,.ptr 1 0 0 1),(3,.int .i64 t),(31,zb ps),(32,.int .i64 ps.length),(33,.int .i64 ps.length),(59,zb ps),(60,.int .i64 ps.length),(61,.int .i64 ps.length),(126,zb ps),(127,.int .i64 ps.length),(128,.int .i64 ps.length),(187,zb ps),(188,.int .i64 ps.length),(189,.int .i64 ps.length),(251,zb ps),(252,.int .i64 ps.length),(253,.int .i64 ps.length),(21,.sl 2 0 ps.length ps.length),(310,zb ps),(311,.int .i64 ps.length),(312,.int .i64 i)]
noncomputable abbrev Us (ps:List zc) (f:zc) (l:List Bool):zd:=[.cells 1 [[zb ps]],.cells 3 [[.int .i64 0,.int .i64 0,.int .i64 0]],.cells 1 (bl l),.cells 9 [f.cells]]
abbrev gUp (f:zc) (l:List Up) (i:Int) (b:Bool):Bool:=if (za l i).Local=true then (!decide (0<=(za l i).Index)|| !decide ((za l i).Index<=f.Regs-1)||b) else (!decide (0<=(za l i).Index)|| !decide ((za l i).Index<=(f.Ups.length:Int)-1)||b)
theorem zDj (ps:List zc) (f:zc) (nd:Ins) (l:List Up) (s:List Bool) (t p n:Int) (hf:WL f) (hl:l.length<=1048576) (a0:Bool) (hok0:True):EV A (.loop (zM 10)) (⟨E8 ps t p++[(23,.ptr 3 0 0 1),(22,.int .i64 p),(318,zj f.Ins),(319,.int .i64 f.Ins.length),(320,.int .i64 n),(25,.ptr 4 0 0 1),(24,.int .i64 n),(26,.bool a0),(349,ups l),(350,.int .i64 l.length),(351,.int .i64 (0))],[],Us ps f s++[.cells 5 [nd.cells]],[]⟩:St)=some (zp.exit 20,(⟨E8 ps t p++[(23,.ptr 3 0 0 1),(22,.int .i64 p),(318,zj f.Ins),(319,.int .i64 f.Ins.length),(320,.int .i64 n),(25,.ptr 4 0 0 1),(24,.int .i64 n),(26,.bool (iter (λ (i:Int) (a:Bool)=>gUp f l i a) ((l.length:Int)-0).toNat (0) a0)),(349,ups l),(350,.int .i64 l.length),(351,.int .i64 (l.length))],[],Us ps f s++[.cells 5 [nd.cells]],[]⟩:St))/\True:=by
 refine vC (λ i (a:Bool)=>(⟨E8 ps t p++[(23,.ptr 3 0 0 1),(22,.int .i64 p),(318,zj f.Ins),(319,.int .i64 f.Ins.length),(320,.int .i64 n),(25,.ptr 4 0 0 1),(24,.int .i64 n),(26,.bool a),(349,ups l),(350,.int .i64 l.length),(351,.int .i64 i)],[],Us ps f s++[.cells 5 [nd.cells]],[]⟩:St)) (λ (i:Int) (a:Bool)=>gUp f l i a) (λ i (a:Bool)=>True) (λ a=>(zp.exit 20,(⟨E8 ps t p++[(23,.ptr 3 0 0 1),(22,.int .i64 p),(318,zj f.Ins),(319,.int .i64 f.Ins.length),(320,.int .i64 n),(25,.ptr 4 0 0 1),(24,.int .i64 n),(26,.bool a),(349,ups l),(350,.int .i64 l.length),(351,.int .i64 (l.length))],[],Us ps f s++[.cells 5 [nd.cells]],[]⟩:St))) (0) (l.length) ?_ ?_ (0) a0 (by omega) (by omega) hok0
 ·intro i a hi hn hok
  have q1:=hf.r0;have q2:=hf.r1;have q3:=hf.u
  by_cases hL:(za l i).Local=true
  ·refine ⟨⟨_,by simp -implicitDefEqProofs +contextual (disch:=omega) only [Xo,zf, ↓XD,XU, ↓reduceIte,sevalprocAttr,E8,Us,code,zb,zc.cells,ups,ze,zj,zm,Up.cells,Ins.cells,zO,aB,aA,hL,hn,hok];rfl,by first|(simp [St.next,zT,gUp,hL];done)|(simp [St.next,zT,gUp,hL];omega)|(simp [St.next,trim,bare,zn,refs,gUp,hL];done)⟩,by trivial⟩
  ·refine ⟨⟨_,by simp -implicitDefEqProofs +contextual (disch:=omega) only [Xo,zf, ↓XD,XU, ↓reduceIte,sevalprocAttr,E8,Us,code,zb,zc.cells,ups,ze,zj,zm,Up.cells,Ins.cells,zO,aB,aA,hL,hn,hok];rfl,by first|(simp [St.next,zT,gUp,hL];done)|(simp [St.next,zT,gUp,hL];omega)|(simp [St.next,trim,bare,zn,refs,gUp,hL];done)⟩,by trivial⟩
 ·rintro i a hi rfl hok
  refine ⟨by simp -implicitDefEqProofs +contextual (disch:=omega) only [Xo,zf, ↓XD,XU, ↓reduceIte,sevalprocAttr,E8,Us,code,zb,zc.cells,ups,ze,zj,zm,Up.cells,Ins.cells,zO,aB,aA,aL,hok],by simp⟩
theorem zBT (f:zc) (l:List Up) (i:Int) (b:Bool):gUp f l i b=(b||decide ¬UpP f (za l i)):=by
 rw [bP]
 simp only [gUp,UpP]
 by_cases hL:(za l i).Local=true
 ·simp only [hL,if_true]
  cases b<;>simp<;>omega
 ·simp only [hL,if_false]
  cases b<;>simp<;>omega
theorem zpy (f:zc) (l:List Up):∀ (m:Nat) (i:Int) (b:Bool),i+m<=l.length->iter (gUp f l) m i b=(b||decide ¬(∀ j,i<=j->j<i+m->UpP f (za l j)))
 |0,i,b,h=>by
  rw [iter]
  have:∀ j,i<=j->j<i+(0:Nat)->UpP f (za l j):=λ j a c=>by omega
  rw [dV (aP.2 this),eB]
 |m+1,i,b,h=>by
  rw [iter,zpy f l m (i+1) _ (by omega),zBT,Bool.or_assoc]
  congr 1
  rw [bP]
  simp only [Bool.or_eq_true,cC]
  constructor
  ·rintro (h1|h1) h2
   ·exact h1 (h2 i (by omega) (by omega))
   ·exact h1 λ j a c=>h2 j (by omega) (by omega)
  ·intro h1
   by_cases h2:UpP f (za l i)
   ·right;intro h3;refine h1 λ j a c=>?_
    by_cases e:j=i
    ·subst e;exact h2
    ·exact h3 j (by omega) (by omega)
   ·exact .inl h2
theorem zxn (f:zc) (l:List Up) (b:Bool):iter (λ (i:Int) (a:Bool)=>gUp f l i a) ((l.length:Int)-0).toNat 0 b=(b||decide ¬zfJ f l):=by
 rw [show ((l.length:Int)-0).toNat=l.length by omega]
 rw [show (λ (i:Int) (a:Bool)=>gUp f l i a)=gUp f l from rfl,zpy f l _ _ _ (by omega)]
 congr 1
 rw [bP]
 simp only [cC,zfJ,y8,aP]
 exact not_congr ⟨λ h j a c=>h j a (by omega),λ h j a c=>h j a (by omega)⟩
theorem zD' (ps:List zc) (t p:Int) (p0:0<=p) (p1:p<ps.length) (hb:ps.length<=1048576) (hf:zjG ps) (a0:List Bool) (hok0:a0.length=ps.length):zcv (λ (a:List Bool)=>EV A (.loop (zM 9)) (⟨E8 ps t p++[(23,.ptr 3 0 0 1),(22,.int .i64 p),(318,zj (za ps p).Ins),(319,.int .i64 (za ps p).Ins.length),(320,.int .i64 (0))],[],Us ps (za ps p) a0,[]⟩:St)=some (zp.exit 18,(⟨E8 ps t p++[(23,.ptr 3 0 0 1),(22,.int .i64 p),(318,zj (za ps p).Ins),(319,.int .i64 (za ps p).Ins.length),(320,.int .i64 ((za ps p).Ins.length))],[],Us ps (za ps p) a,[]⟩:St))/\a.length=ps.length) (λ (r:Int)=>∃ st,EV A (.loop (zM 9)) (⟨E8 ps t p++[(23,.ptr 3 0 0 1),(22,.int .i64 p),(318,zj (za ps p).Ins),(319,.int .i64 (za ps p).Ins.length),(320,.int .i64 (0))],[],Us ps (za ps p) a0,[]⟩:St)=some (.ret,st)/\yf 2 1 3 (wD 6 p r) st) (ug (λ (i:Int) (a:List Bool)=>Q5 ps p i a) (((za ps p).Ins.length:Int)-0).toNat (0) a0):=by
 have hb2:=(hf.ok p p0 p1).i
 refine XA (P:=A) (body:=(zM 9)) (λ i (a:List Bool)=>(⟨E8 ps t p++[(23,.ptr 3 0 0 1),(22,.int .i64 p),(318,zj (za ps p).Ins),(319,.int .i64 (za ps p).Ins.length),(320,.int .i64 i)],[],Us ps (za ps p) a,[]⟩:St)) (λ (i:Int) (a:List Bool)=>Q5 ps p i a) (λ i (a:List Bool)=>a.length=ps.length) (λ a=>(zp.exit 18,(⟨E8 ps t p++[(23,.ptr 3 0 0 1),(22,.int .i64 p),(318,zj (za ps p).Ins),(319,.int .i64 (za ps p).Ins.length),(320,.int .i64 ((za ps p).Ins.length))],[],Us ps (za ps p) a,[]⟩:St))) (λ (r:Int) (st:St)=>yf 2 1 3 (wD 6 p r) st) (0) ((za ps p).Ins.length) ?_ ?_ (0) a0 (by omega) (by omega) hok0
 ·intro i a hi hn hok
  have hk:=hf.ok p p0 p1
  have hb2:=hk.i
  rw [Q5]
  by_cases h2:(za (za ps p).Ins i).Op=11
  ·rw [if_pos h2]
   have hg1:=zw2 (hf.ins p p0 p1 i hi hn) h2
   have hu:=(hf.ok _ hg1.1 hg1.2).u
   have hl:=λ b s=>(zDj ps (za ps p) (za (za ps p).Ins i) (za ps (za (za ps p).Ins i).B).Ups s t p i hk hu b trivial).1
   simp only [zxn,E8,Us,aB,aA,bl,code,zb,zc.cells,ups,ze,zj,zm,Ins.cells,h2] at hl
   by_cases h3:(za (za ps p).Ins i).B<=p
   ·rw [if_pos (.inl (.inl h3))]
    refine ⟨_,by (simp -implicitDefEqProofs +contextual (disch:=omega) only [vU,zf,E8,Us,aB,aA,code,zb,zc.cells,ups,ze,zj,zm,Ins.cells, ↓XD,XU, ↓reduceIte,sevalprocAttr,hn,hok,h2,h3,hl])<;>rfl,by simp [yf,zk.get,zk.put]⟩
   ·by_cases h4:za a (za (za ps p).Ins i).B=true
    ·rw [if_pos (.inl (.inr h4))]
     refine ⟨_,by (simp -implicitDefEqProofs +contextual (disch:=omega) only [vU,zf,E8,Us,aB,aA,code,zb,zc.cells,ups,ze,zj,zm,Ins.cells, ↓XD,XU, ↓reduceIte,sevalprocAttr,hn,hok,h2,h3,h4,hl])<;>rfl,by simp [yf,zk.get,zk.put]⟩
    ·by_cases h5:zfJ (za ps p) (za ps (za (za ps p).Ins i).B).Ups
     ·rw [if_neg (by rintro ((h|h)|h);exact h3 h;exact h4 h;exact h h5)]
      refine ⟨⟨_,by (simp -implicitDefEqProofs +contextual (disch:=omega) only [vU,zf,E8,Us,aB,aA,code,zb,zc.cells,ups,ze,zj,zm,Ins.cells, ↓XD,XU, ↓reduceIte,sevalprocAttr,hn,hok,h2,h3,h4,h5,hl])<;>rfl,by simp [St.next,trim,bare,zn,refs]⟩,by simpa using hok⟩
     ·rw [if_pos (.inr h5)]
      refine ⟨_,by (simp -implicitDefEqProofs +contextual (disch:=omega) only [vU,zf,E8,Us,aB,aA,code,zb,zc.cells,ups,ze,zj,zm,Ins.cells, ↓XD,XU, ↓reduceIte,sevalprocAttr,hn,hok,h2,h3,h4,h5,hl])<;>rfl,by simp [yf,zk.get,zk.put]⟩
  ·rw [if_neg h2]
   refine ⟨⟨_,by (simp -implicitDefEqProofs +contextual (disch:=omega) only [vU,zf,E8,Us,aB,aA,code,zb,zc.cells,ups,ze,zj,zm,Ins.cells, ↓XD,XU, ↓reduceIte,sevalprocAttr,hn,hok,h2])<;>rfl,by simp [St.next,trim,bare,zn,refs]⟩,hok⟩
 ·rintro i a hi rfl hok
  refine ⟨by simp -implicitDefEqProofs +contextual (disch:=omega) only [vU,zf, ↓XD,XU, ↓reduceIte,sevalprocAttr,E8,aB,aA,aL,hok],by simp⟩
theorem zD_ (ps:List zc) (t:Int) (hb:ps.length<=1048576) (hf:zjG ps) (a0:List Bool) (hok0:a0.length=ps.length):zcv (λ (a:List Bool)=>EV A (.loop (zM 8)) (⟨E8 ps t (0),[],[.cells 1 [[zb ps]],.cells 3 [[.int .i64 0,.int .i64 0,.int .i64 0]],.cells 1 (bl a0)],[]⟩:St)=some (zp.exit 16,(⟨E8 ps t (ps.length),[],[.cells 1 [[zb ps]],.cells 3 [[.int .i64 0,.int .i64 0,.int .i64 0]],.cells 1 (bl a)],[]⟩:St))/\a.length=ps.length) (λ (r:Int×Int)=>∃ st,EV A (.loop (zM 8)) (⟨E8 ps t (0),[],[.cells 1 [[zb ps]],.cells 3 [[.int .i64 0,.int .i64 0,.int .i64 0]],.cells 1 (bl a0)],[]⟩:St)=some (.ret,st)/\yf 2 1 3 (wD 6 r.1 r.2) st) (ug (λ (i:Int) (a:List Bool)=>UW ps i a) ((ps.length:Int)-0).toNat (0) a0):=by
 refine XA (P:=A) (body:=(zM 8)) (λ i (a:List Bool)=>(⟨E8 ps t i,[],[.cells 1 [[zb ps]],.cells 3 [[.int .i64 0,.int .i64 0,.int .i64 0]],.cells 1 (bl a)],[]⟩:St)) (λ (i:Int) (a:List Bool)=>UW ps i a) (λ i (a:List Bool)=>a.length=ps.length) (λ a=>(zp.exit 16,(⟨E8 ps t (ps.length),[],[.cells 1 [[zb ps]],.cells 3 [[.int .i64 0,.int .i64 0,.int .i64 0]],.cells 1 (bl a)],[]⟩:St))) (λ (r:Int×Int) (st:St)=>yf 2 1 3 (wD 6 r.1 r.2) st) (0) (ps.length) ?_ ?_ (0) a0 (by omega) (by omega) hok0
 ·intro i a hi hn hok
  have h2:=zD' ps t i hi hn hb hf a hok
  have hI:zez ps i a=ug (λ (n:Int) (a:List Bool)=>Q5 ps i n a) (((za ps i).Ins.length:Int)-0).toNat 0 a:=rfl
  rw [<-hI] at h2
  rw [UW]
  cases hr:zez ps i a with
  |inl s'=>
   rw [hr] at h2
   obtain ⟨h2,hs'⟩:=h2
   simp only [E8,Us,aB,aA,code,zb,zc.cells,ups,ze,zj,zm] at h2
   refine ⟨⟨_,by (simp -implicitDefEqProofs +contextual (disch:=omega) only [XJ,zf,E8,Us,code,zb,zc.cells,ups,ze,zj,zm, ↓XD,XU, ↓reduceIte,sevalprocAttr,hn,h2,hok])<;>rfl,by simp [St.next,trim,bare,zn,refs]⟩,hs'⟩
  |inr n=>
   rw [hr] at h2
   obtain ⟨st,h2,hg2⟩:=h2
   simp only [E8,Us,aB,aA,code,zb,zc.cells,ups,ze,zj,zm] at h2
   exact ⟨_,by (simp -implicitDefEqProofs +contextual (disch:=omega) only [XJ,zf,E8,Us,code,zb,zc.cells,ups,ze,zj,zm, ↓XD,XU, ↓reduceIte,sevalprocAttr,hn,h2,hok])<;>rfl,hg2⟩
 ·rintro i a hi rfl hok
  refine ⟨by simp -implicitDefEqProofs +contextual (disch:=omega) only [XJ,zf, ↓XD,XU, ↓reduceIte,sevalprocAttr,E8,aL,hok],by simp⟩
theorem zDk (ps:List zc) (t:Int) (l:List Bool) (hb:ps.length<=1048576) (hl:l.length=ps.length):match z9 (λ (j:Int)=>0<j/\¬za l j=true) 0 ps.length with|some j=>∃ st,EV A (.loop (zM 11)) (⟨E8 ps t ps.length++[(390,.int .i64 ps.length),(391,.int .i64 (0))],[],[.cells 1 [[zb ps]],.cells 3 [[.int .i64 0,.int .i64 0,.int .i64 0]],.cells 1 (bl l)],[]⟩:St)=some (.ret,st)/\yf 2 1 3 (wD 7 j 0) st|none=>EV A (.loop (zM 11)) (⟨E8 ps t ps.length++[(390,.int .i64 ps.length),(391,.int .i64 (0))],[],[.cells 1 [[zb ps]],.cells 3 [[.int .i64 0,.int .i64 0,.int .i64 0]],.cells 1 (bl l)],[]⟩:St)=some (zp.exit 22,(⟨E8 ps t ps.length++[(390,.int .i64 ps.length),(391,.int .i64 (ps.length))],[],[.cells 1 [[zb ps]],.cells 3 [[.int .i64 0,.int .i64 0,.int .i64 0]],.cells 1 (bl l)],[]⟩:St)):=by
 refine yr (λ i=>(⟨E8 ps t ps.length++[(390,.int .i64 ps.length),(391,.int .i64 i)],[],[.cells 1 [[zb ps]],.cells 3 [[.int .i64 0,.int .i64 0,.int .i64 0]],.cells 1 (bl l)],[]⟩:St)) (λ (j:Int)=>0<j/\¬za l j=true) (λ (j:Int) (st:St)=>yf 2 1 3 (wD 7 j 0) st) (zp.exit 22,(⟨E8 ps t ps.length++[(390,.int .i64 ps.length),(391,.int .i64 (ps.length))],[],[.cells 1 [[zb ps]],.cells 3 [[.int .i64 0,.int .i64 0,.int .i64 0]],.cells 1 (bl l)],[]⟩:St)) (0) (ps.length) ?_ ?_ ?_ (0) (by omega) (by omega)
 ·intro i hi hn hp
  by_cases h0:0<i
  ·have h1:za l i=true:=cD λ h=>hp ⟨h0,h⟩
   refine ⟨_,by (simp -implicitDefEqProofs +contextual (disch:=omega) only [kh,zf,E8,aB,aA,code,zb, ↓XD,XU, ↓reduceIte,sevalprocAttr,hn,h0,h1,hl])<;>rfl,by simp [St.next,zT]⟩
  ·refine ⟨_,by (simp -implicitDefEqProofs +contextual (disch:=omega) only [kh,zf,E8,aB,aA,code,zb, ↓XD,XU, ↓reduceIte,sevalprocAttr,hn,h0,hl])<;>rfl,by simp [St.next,zT]⟩
 ·intro i hi hn hp
  obtain ⟨h0,h1⟩:=hp
  refine ⟨_,by (simp -implicitDefEqProofs +contextual (disch:=omega) only [kh,zf,E8,aB,aA,code,zb, ↓XD,XU, ↓reduceIte,sevalprocAttr,hn,h0,h1,hl])<;>rfl,by simp [yf,zk.get,zk.put]⟩
 ·rintro i hi rfl
  refine ⟨by simp -implicitDefEqProofs +contextual (disch:=omega) only [kh,zf, ↓XD,XU, ↓reduceIte,sevalprocAttr,E8,aB,aA,code,zb,hl,aL],by simp⟩
theorem ztN (l:List Bool) {n:Int} (hn:1<=n):z9 (λ j=>0<j/\¬za l j=true) 0 n=z9 (λ j=>¬za l j=true) 1 n:=by
 rw [zaq (by omega) (by simp)]
 exact zlx λ j j0 j1=>⟨λ h=>h.2,λ h=>⟨by omega,h⟩⟩
theorem zn6 (ps:List zc) (hb:ps.length<=1048576) (ht:w9 ps<=1048576) (hs:vz ps):EP A zaY [code ps]=some (fl3 (xJ ps)):=by
 obtain ⟨e0,k0⟩:=zD5 ps hb ht 0 (by simp [vb])
 simp only [k0] at e0
 have hT:vb ps (ps.length:Int).toNat=w9 ps:=by rw [vb,w9];simp
 rw [hT] at e0
 simp only [hU,code,zb] at e0
 have e1:=zD6 ps (w9 ps) hb hs
 have e2:=zD7 ps (w9 ps) hb hs
 simp only [hU,code,zb] at e1 e2
 by_cases hB:Big ps
 ·have hS:xJ ps=(1,0,0):=by simp [xJ,parts,hB]
  rw [hS]
  rw [Big] at hB
  by_cases z1:(ps.length:Int)<1
  ·simp -implicitDefEqProofs +contextual (disch:=omega) only [wA,wB,zf,code,zb, ↓XD,XU, ↓reduceIte,sevalprocAttr,e0,z1]
  ·by_cases z2:(200:Int)<ps.length
   ·simp -implicitDefEqProofs +contextual (disch:=omega) only [wA,wB,zf,code,zb, ↓XD,XU, ↓reduceIte,sevalprocAttr,e0,z1,z2]
   ·have z3:6000<w9 ps:=by omega
    simp -implicitDefEqProofs +contextual (disch:=omega) only [wA,wB,zf,code,zb, ↓XD,XU, ↓reduceIte,sevalprocAttr,e0,z1,z2,z3]
 ·have hB':=hB
  rw [Big] at hB
  have z1:¬(ps.length:Int)<1:=by omega
  have z2:¬(200:Int)<ps.length:=by omega
  have z3:¬6000<w9 ps:=by omega
  cases h1:jd ps with
  |some f=>
   have hS:xJ ps=(2,f,0):=by simp [xJ,parts,hB',h1]
   rw [hS]
   unfold jd at h1
   rw [h1] at e1
   obtain ⟨st,e1,g1,g2⟩:=e1
   simp -implicitDefEqProofs +contextual (disch:=omega) only [wA,wB,zf,code,zb, ↓XD,XU, ↓reduceIte,sevalprocAttr,e0,z1,z2,z3,e1,g1,g2]
  |none=>
   have hk:=zhP hs h1
   have e4:=zD8 ps (w9 ps) hb hk
   have e6:=zD9 ps (w9 ps) hb hs hk
   simp only [hU,code,zb] at e4 e6
   have h1':=h1
   unfold jd at h1
   rw [h1] at e1
   cases h2:kT ps with
   |some f=>
    have hS:xJ ps=(3,f,(uz ps f).getD 0):=by simp [xJ,parts,hB',h1',h2]
    rw [hS]
    unfold kT at h2
    rw [h2] at e2
    obtain ⟨st,e2,g1,g2⟩:=e2
    simp -implicitDefEqProofs +contextual (disch:=omega) only [wA,wB,zf,code,zb, ↓XD,XU, ↓reduceIte,sevalprocAttr,e0,z1,z2,z3,e1,e2,g1,g2]
   |none=>
    have h2':=h2
    unfold kT at h2
    rw [h2] at e2
    cases h3:ZJ ps with
    |some f=>
     have hS:xJ ps=(4,f,(jA ps f).getD 0):=by simp [xJ,parts,hB',h1',h2',h3]
     rw [hS]
     unfold ZJ at h3
     rw [h3] at e4
     obtain ⟨st,e4,g1,g2⟩:=e4
     simp -implicitDefEqProofs +contextual (disch:=omega) only [wA,wB,zf,code,zb, ↓XD,XU, ↓reduceIte,sevalprocAttr,e0,z1,z2,z3,e1,e2,e4,g1,g2]
    |none=>
     have h3':=h3
     unfold ZJ at h3
     rw [h3] at e4
     cases h4:Vc ps with
     |some f=>
      have hS:xJ ps=(5,f,(ue ps f).getD 0):=by simp [xJ,parts,hB',h1',h2',h3',h4]
      rw [hS]
      unfold Vc at h4
      rw [h4] at e6
      obtain ⟨st,e6,g1,g2⟩:=e6
      simp -implicitDefEqProofs +contextual (disch:=omega) only [wA,wB,zf,code,zb, ↓XD,XU, ↓reduceIte,sevalprocAttr,e0,z1,z2,z3,e1,e2,e4,e6,g1,g2]
     |none=>
      have hP:parts ps=(0,0,0):=by simp [parts,hB',h1',h2',h3',h4]
      have hf:zjG ps:=zf3 hs (by rw [hP])
      unfold Vc at h4
      rw [h4] at e6
      dsimp only at e0 e1 e2 e4 e6
      have e7:=zD_ ps (w9 ps) hb hf (List.replicate ps.length false) (by simp)
      have hI:zbs ps=ug (λ (f:Int) (a:List Bool)=>UW ps f a) ((ps.length:Int)-0).toNat 0 (List.replicate ps.length false):=rfl
      rw [<-hI] at e7
      rw [xJ,hP,if_neg (by simp)]
      cases k7:zbs ps with
      |inr r=>
       rw [k7] at e7
       obtain ⟨st,e7,g1,g2⟩:=e7
       simp only [E8,bl,code,zb] at e7
       simp -implicitDefEqProofs +contextual (disch:=omega) only [wA,wB,zf,code,zb, ↓XD,XU, ↓reduceIte,sevalprocAttr,e0,z1,z2,z3,e1,e2,e4,e6,e7,g1,g2]
      |inl l=>
       rw [k7] at e7
       obtain ⟨e7,hl⟩:=e7
       simp only [E8,bl,code,zb] at e7
       have e8:=zDk ps (w9 ps) l hb hl
       rw [ztN l (by omega)] at e8
       simp only [E8,aB,aA,bl,code,zb] at e8
       dsimp only
       cases k8:z9 (λ j=>¬za l j=true) 1 ps.length with
       |some f=>
        rw [k8] at e8
        obtain ⟨st,e8,g1,g2⟩:=e8
        simp -implicitDefEqProofs +contextual (disch:=omega) only [wA,wB,zf,code,zb, ↓XD,XU, ↓reduceIte,sevalprocAttr,e0,z1,z2,z3,e1,e2,e4,e6,e7,e8,g1,g2]
       |none=>
        rw [k8] at e8
        simp -implicitDefEqProofs +contextual (disch:=omega) only [wA,wB,zf,code,zb, ↓XD,XU, ↓reduceIte,sevalprocAttr,e0,z1,z2,z3,e1,e2,e4,e6,e7,e8]
theorem zCe (ps:List zc) (hS:zbm ps):match z9 (λ (j:Int)=>(wv ps j).isLeft=true) 0 ps.length with|some j=>∃ st,EV A (.loop (Xu 0)) (⟨[(0,code ps),(1,.ptr 0 0 0 1),(2,.ptr 1 0 0 1),(3,.ptr 2 0 0 1),(16,.int .i64 ps.length),(17,.int .i64 (0))],[],[.cells 1 [[zb ps]],.cells 3 [[.int .i64 0,.int .i64 0,.int .i64 0]],.cells 3 [[.int .i64 0,.int .i64 0,.int .i64 0]]],[]⟩:St)=some (.ret,st)/\yf 2 1 3 (wD (va ps j).1 (va ps j).2.1 (va ps j).2.2) st|none=>EV A (.loop (Xu 0)) (⟨[(0,code ps),(1,.ptr 0 0 0 1),(2,.ptr 1 0 0 1),(3,.ptr 2 0 0 1),(16,.int .i64 ps.length),(17,.int .i64 (0))],[],[.cells 1 [[zb ps]],.cells 3 [[.int .i64 0,.int .i64 0,.int .i64 0]],.cells 3 [[.int .i64 0,.int .i64 0,.int .i64 0]]],[]⟩:St)=some (zp.exit 0,(⟨[(0,code ps),(1,.ptr 0 0 0 1),(2,.ptr 1 0 0 1),(3,.ptr 2 0 0 1),(16,.int .i64 ps.length),(17,.int .i64 (ps.length))],[],[.cells 1 [[zb ps]],.cells 3 [[.int .i64 0,.int .i64 0,.int .i64 0]],.cells 3 [[.int .i64 0,.int .i64 0,.int .i64 0]]],[]⟩:St)):=by
 have hb:=hS.n
 refine yr (λ i=>(⟨[(0,code ps),(1,.ptr 0 0 0 1),(2,.ptr 1 0 0 1),(3,.ptr 2 0 0 1),(16,.int .i64 ps.length),(17,.int .i64 i)],[],[.cells 1 [[zb ps]],.cells 3 [[.int .i64 0,.int .i64 0,.int .i64 0]],.cells 3 [[.int .i64 0,.int .i64 0,.int .i64 0]]],[]⟩:St)) (λ (j:Int)=>(wv ps j).isLeft=true) (λ (j:Int) (st:St)=>yf 2 1 3 (wD (va ps j).1 (va ps j).2.1 (va ps j).2.2) st) (zp.exit 0,(⟨[(0,code ps),(1,.ptr 0 0 0 1),(2,.ptr 1 0 0 1),(3,.ptr 2 0 0 1),(16,.int .i64 ps.length),(17,.int .i64 (ps.length))],[],[.cells 1 [[zb ps]],.cells 3 [[.int .i64 0,.int .i64 0,.int .i64 0]],.cells 3 [[.int .i64 0,.int .i64 0,.int .i64 0]]],[]⟩:St)) (0) (ps.length) ?_ ?_ ?_ (0) (by omega) (by omega)
 ·intro i hi hn hp
  have hw:=znl hS hi hn
  cases hk:wv ps i with
  |inl c=>rw [hk] at hp;exact absurd rfl hp
  |inr S=>
   rw [hk] at hw
   obtain ⟨rows,hw,_⟩:=hw
   simp only [code,zb] at hw
   refine ⟨_,by (simp -implicitDefEqProofs +contextual (disch:=omega) only [WC,uS,code,zb, ↓XD,XU, ↓reduceIte,sevalprocAttr,hn,hw])<;>rfl,by simp [St.next,trim,bare,zn,refs]⟩
 ·intro i hi hn hp
  have hw:=znl hS hi hn
  cases hk:wv ps i with
  |inr S=>rw [hk] at hp;exact absurd hp (by simp)
  |inl c=>
   have hz:¬c.1=0:=zjT hk
   rw [hk] at hw
   simp only [code,zb] at hw
   refine ⟨_,by (simp -implicitDefEqProofs +contextual (disch:=omega) only [WC,uS,code,zb, ↓XD,XU, ↓reduceIte,sevalprocAttr,hn,hw,hz])<;>rfl,by simp [yf,zk.get,zk.put,va,hk]⟩
 ·rintro i hi rfl
  refine ⟨by simp -implicitDefEqProofs +contextual (disch:=omega) only [WC,uS, ↓XD,XU, ↓reduceIte,sevalprocAttr,zn,aL],by simp⟩
def zsU (neg:Bool) (tags:List Nat):PV->PV->Option PV
 |.agg ps,.agg qs=>match Za tags ps qs with
  |some b=>some (.bool (JP neg b))
  |none=>none
 |_,_=>none
def zBO (H:zd):Option PV->Option (PV×zd×zI)
 |some v=>some (v,H,[])
 |none=>none
theorem kO (H:zd) (v:PV):zBO H (some v)=some (v,H,[]):=rfl
theorem Q3 {P:xn} (neg:Bool) (tags:List Nat) (x y:zy) (st:St):zt P.glob (CL P) st (.eqS neg tags x y)=zBO st.H (zsU neg tags (x.get P.glob st) (y.get P.glob st)):=by
 show (match x.get P.glob st,y.get P.glob st with
  |.agg ps,.agg qs=>match Za tags ps qs with
   |some b=>some (PV.bool (JP neg b),st.H,[])
   |none=>none
  |_,_=>none)=_
 generalize x.get P.glob st=a
 generalize y.get P.glob st=b
 cases a<;>cases b<;>first|rfl|(simp only [zsU];split<;>rfl)
theorem Yn (a b c d e f:Int):zsU true [0,0,0] (.agg [.int .i64 a,.int .i64 b,.int .i64 c]) (.agg [.int .i64 d,.int .i64 e,.int .i64 f])=some (.bool (!decide (a=d/\b=e/\c=f))):=by
 have h:∀ x y:Int,(x==y)=decide (x=y):=λ x y=>rfl
 simp [zsU,Za,jC,JP,h,Bool.decide_and]
theorem zhA (ps:List zc) (hb:ps.length<=1048576) (ht:w9 ps<=1048576) (hs:vz ps):EP A zb1 [code ps]=some (fl3 (kM ps)):=by
 have e1:=zn6 ps hb ht hs
 rw [kM]
 by_cases h1:(xJ ps).1=0
 ·have hS:=zgd hb hs h1
  have hz:xJ ps=(0,0,0):=by
   revert h1;unfold xJ;split
   ·intro h;rename_i h2;exact absurd h h2
   ·split
    ·intro h;simp at h
    ·split
     ·intro h;simp at h
     ·intro _;rfl
  rw [hz] at e1
  rw [if_neg (by simpa using h1)]
  have e2:=zCe ps hS
  simp only [code,zb] at e1 e2
  cases h2:Wq ps with
  |some p=>
   unfold Wq at h2
   rw [h2] at e2
   obtain ⟨st,e2,g1,g2⟩:=e2
   simp -implicitDefEqProofs +contextual (disch:=omega) only [JJ,J2,uS, ↓Q3,kO,Yn,code,zb, ↓XD,XU, ↓reduceIte,sevalprocAttr,e1,e2,g1,g2]
  |none=>
   unfold Wq at h2
   rw [h2] at e2
   simp -implicitDefEqProofs +contextual (disch:=omega) only [JJ,J2,uS, ↓Q3,kO,Yn,code,zb, ↓XD,XU, ↓reduceIte,sevalprocAttr,e1,e2]
 ·rw [if_pos (by simpa using h1)]
  simp only [code,zb] at e1
  simp -implicitDefEqProofs +contextual (disch:=omega) only [JJ,J2,uS, ↓Q3,kO,Yn,code,zb, ↓XD,XU, ↓reduceIte,sevalprocAttr,e1,h1]
def UU:Nat->Int->ByteArray->ByteArray
 |0,_,s=>s
 |m+1,k,s=>if 0<k then UU m (IntKind.i64.wrap (k.tdiv 10)) (⟨#[UInt8.ofNat (IntKind.u8.wrap (IntKind.i64.wrap (48+k.tmod 10))).toNat]⟩++s) else s
def zhy:Nat->Int->Int
 |0,k=>k
 |m+1,k=>if 0<k then zhy m (IntKind.i64.wrap (k.tdiv 10)) else k
theorem zwK (b:Int):zow [.cells 1 [[.int .u8 b]]] (.sl 0 0 1 1)=some (.str ⟨#[UInt8.ofNat b.toNat]⟩):=rfl
theorem zoW (x y:ByteArray) (h:x.size+y.size<=4294967296):Av.bin .add (.str x) (.str y)=some (.str (x++y)):=by simp [Av.bin,zbK,h]
theorem zp5 (b:UInt8) (s:ByteArray):((⟨#[b]⟩:ByteArray)++s).size=s.size+1:=by
 rw [ByteArray.size_append];show 1+s.size=s.size+1;omega
theorem zBa {m:Nat} {k:Int} (h0:0<k) (h:k<10 ^ (m+1)):0<=k.tdiv 10/\k.tdiv 10<10 ^ m:=by
 rw [Int.tdiv_eq_ediv_of_nonneg (by omega)]
 have:(10:Int) ^ (m+1)=10 ^ m*10:=by rw [Int.pow_succ]
 omega
theorem zAr:∀ (m:Nat) (k:Int) (s:ByteArray),0<=k->k<10 ^ m->k<9223372036854775808->s.size+m<=1000->EV A (.loop (Kq 0)) (⟨[(0,.int .i64 k),(2,.str ⟨#[]⟩),(3,.str s)],[],[],[]⟩:St)=some (zp.exit 0,(⟨[(0,.int .i64 (zhy m k)),(2,.str ⟨#[]⟩),(3,.str (UU m k s))],[],[],[]⟩:St)):=by
 intro m
 induction m with
 |zero=>
  intro k s h0 h1 h2 h3
  have hk:¬0<k:=by simp at h1;omega
  rw [uK]
  simp -implicitDefEqProofs +contextual (disch:=omega) only [Vx,Zt, ↓XD,XU, ↓reduceIte,sevalprocAttr,hk]
  simp [zhy,UU]
 |succ m ih=>
  intro k s h0 h1 h2 h3
  rw [uK]
  by_cases hk:0<k
  ·have h4:=zBa hk h1
   have h5:IntKind.i64.wrap (k.tdiv 10)=k.tdiv 10:=by
    rw [Int.tdiv_eq_ediv_of_nonneg (by omega)] at h4 ⊢
    exact zqs (by omega) (by omega)
   have h6:k.tdiv 10<9223372036854775808:=by rw [Int.tdiv_eq_ediv_of_nonneg (by omega)];omega
   have hs:(1:Nat)+s.size<=4294967296:=by omega
   have hb:=zoW ⟨#[UInt8.ofNat (IntKind.u8.wrap (IntKind.i64.wrap (48+k.tmod 10))).toNat]⟩ s (by show 1+s.size<=_;omega)
   have hi:=ih (k.tdiv 10) (⟨#[UInt8.ofNat (IntKind.u8.wrap (IntKind.i64.wrap (48+k.tmod 10))).toNat]⟩++s) h4.1 h4.2 h6 (by rw [zp5];omega)
   simp -implicitDefEqProofs +contextual (disch:=omega) only [Vx,Zt,zwK,zS, ↓XD,XU, ↓reduceIte,sevalprocAttr,hk,hb]
   simp only [zhy,UU,if_pos hk,h5]
   simp [St.next,trim,bare,zn,refs]
   exact hi
  ·simp -implicitDefEqProofs +contextual (disch:=omega) only [Vx,Zt, ↓XD,XU, ↓reduceIte,sevalprocAttr,hk]
   simp [zhy,UU,hk]
theorem zi2:∀ (m:Nat) (k:Int) (s:ByteArray),(UU m k s).size<=s.size+m
 |0,_,s=>aS _
 |m+1,k,s=>by
  simp only [UU]
  split
  ·have:=zi2 m (IntKind.i64.wrap (k.tdiv 10)) (⟨#[UInt8.ofNat (IntKind.u8.wrap (IntKind.i64.wrap (48+k.tmod 10))).toNat]⟩++s)
   rw [zp5] at this
   omega
  ·omega
def Jc (k:Int):ByteArray:=if k<=0 then ⟨#[109,48]⟩ else ⟨#[109]⟩++UU 19 k ⟨#[]⟩
theorem zdL (k:Int) (h:k<9223372036854775808):EP A zc1 [.int .i64 k]=some (.str (Jc k)):=by
 by_cases hk:k<=0
 ·simp -implicitDefEqProofs +contextual (disch:=omega) only [zcF,zdi,Zt,Jc, ↓XD,XU, ↓reduceIte,sevalprocAttr,hk]
 ·have hl:=zAr 19 k ⟨#[]⟩ (by omega) (by omega) h (by decide)
  have hd:=zi2 19 k ⟨#[]⟩
  have hz:(⟨#[]⟩:ByteArray).size=0:=rfl
  have hb:=zoW ⟨#[109]⟩ (UU 19 k ⟨#[]⟩) (by show 1+(UU 19 k ⟨#[]⟩).size<=_;omega)
  simp -implicitDefEqProofs +contextual (disch:=omega) only [zcF,zdi,Zt,Jc, ↓XD,XU, ↓reduceIte,sevalprocAttr,hk,hl,hb]
theorem QO (sz off len tot id:Nat) (n:Int) (s i:Nat) (rows:List (List PV)) (r:List PV):zhQ sz off len tot id n (some (.cells s (rows.set i r)))=zhQ sz off len tot id n (some (.cells s rows)):=by
 simp only [zhQ,bI]
theorem QK {α:Type} {l:List α} {i:Nat} {x:α} (h:l[i]?=some x):(l.drop i).head?=some x:=by
 rw [List.head?_drop,h]
def mT {α:Type} (g:Nat->α) (l:List α) (i:Nat):List α:=(List.range i).map g++l.drop i
theorem zvu {α:Type} (g:Nat->α) {l:List α} {i:Nat} (h:i<=l.length):(mT g l i).length=l.length:=by
 simp [mT];omega
theorem zvv {α:Type} (g:Nat->α) {l:List α} {i:Nat} (hi:i<l.length):(mT g l i).set i (g i)=mT g l (i+1):=by
 unfold mT
 have e:((List.range i).map g).length=i:=by simp
 rw [dL _ _ (by omega),e,Nat.sub_self,dO hi,List.set_cons_zero,List.range_succ,dU,aY]
 rfl
theorem zCi {α:Type} (g:Nat->α) (l:List α):mT g l 0=l:=by simp [mT]
theorem zvt {α:Type} (g:Nat->α) (l:List α):mT g l l.length=(List.range l.length).map g:=by simp [mT]
def mkI (k:Int) (n:Nat):List Int:=(List.range n).map λ (j:Nat)=>k+(j:Int)
def gmk (k:Int):Gd:=⟨decide (k.tmod 3=0),k+1,k+1+1⟩
def mkG (k:Int) (n:Nat):List Gd:=(List.range n).map λ (j:Nat)=>gmk (k+3*(j:Int))
theorem zmK (k:Int) (n:Nat):(mkI k n).length=n:=by simp [mkI]
theorem zmJ (k:Int) (n:Nat):(mkG k n).length=n:=by simp [mkG]
theorem zAD {k:Int} {n:Nat} {i:Int} (h0:0<=i) (h1:i<n):za (mkI k n) i=k+i:=by
 unfold za mkI
 rw [cK,aN,dK (by omega)]
 simp;omega
theorem zAC {k:Int} {n:Nat} {i:Int} (h0:0<=i) (h1:i<n):za (mkG k n) i=gmk (k+3*i):=by
 unfold za mkG
 rw [cK,aN,dK (by omega)]
 have:((i.toNat:Nat):Int)=i:=by omega
 simp [this]
theorem zAp (H:zd) (id:Nat) (k:Int) (hk:0<=k) (hk2:k<=1000000000000) (l:List Int) (hl:l.length<=1048576) (hid:∀ b,(H.set id b)[id]?=some b):
  EV A (.loop (ZW 0)) ⟨[(0,.sl id 0 l.length l.length),(1,.int .i64 k),(4,.int .i64 0),(5,.int .i64 0)],[],H.set id (.cells 1 (ym l)),[]⟩=some (.exit 0,⟨[(0,.sl id 0 l.length l.length),(1,.int .i64 (k+l.length)),(4,.int .i64 0),(5,.int .i64 l.length)],[],H.set id (.cells 1 (ym (mkI k l.length))),[]⟩):=by
 have key:=uE (P:=A) (body:=(ZW 0)) (λ (i:Nat)=>(⟨[(0,.sl id 0 l.length l.length),(1,.int .i64 (k+i)),(4,.int .i64 0),(5,.int .i64 i)],[],H.set id (.cells 1 (ym (mT (λ (j:Nat)=>k+(j:Int)) l i))),[]⟩:St)) (λ i=>i<=l.length) (λ i=>l.length-i) (λ i=>(.exit 0,(⟨[(0,.sl id 0 l.length l.length),(1,.int .i64 (k+l.length)),(4,.int .i64 0),(5,.int .i64 l.length)],[],H.set id (.cells 1 (ym (mkI k l.length))),[]⟩:St))) ?_ 0 (by omega)
 ·simp only [zCi] at key
  simpa using key
 intro i hi
 by_cases c:i<l.length
 ·right
  have hml:=zvu (λ (j:Nat)=>k+(j:Int)) hi
  have hms:=zvv (λ (j:Nat)=>k+(j:Int)) c
  obtain ⟨t,ht⟩:∃ t,mT (λ (j:Nat)=>k+(j:Int)) l i=t:=⟨_,rfl⟩
  rw [ht] at hml hms
  have hg:t[i]?=some (t[i]'(by omega)):=aE (by omega)
  have hs2:(ym t).set i [.int .i64 (k+i)]=ym (mT (λ (j:Nat)=>k+(j:Int)) l (i+1)):=by rw [<-hms];simp [ym]
  have hc1:(i:Int)<l.length:=by omega
  refine ⟨i+1,_,by omega,by omega,by (simp -implicitDefEqProofs +contextual (disch:=omega) only [Vw,Zs, ↓XD,XU, ↓reduceIte,sevalprocAttr,hid,hc1,hml,ht,hg,hs2,cB,dR])<;>rfl,?_,rfl⟩
  simp only [St.next]
  rw [wL _ _ _ (by simp)]
  simp [Int.add_assoc]
 ·left
  have:i=l.length:=by omega
  subst this
  refine ⟨by (simp -implicitDefEqProofs +contextual (disch:=omega) only [Vw,Zs, ↓XD,XU, ↓reduceIte,sevalprocAttr,zvt,aL])<;>rfl,by simp⟩
theorem zCc (H:zd) (id:Nat) (k:Int) (hk:0<=k) (hk2:k<=1000000000000) (l:List Gd) (hl:l.length<=1048576) (hid:∀ b,(H.set id b)[id]?=some b):
  EV A (.loop (kw 0)) ⟨[(0,.sl id 0 l.length l.length),(1,.int .i64 k),(4,.int .i64 0),(5,.int .i64 0)],[],H.set id (.cells 3 (wE l)),[]⟩=some (.exit 0,⟨[(0,.sl id 0 l.length l.length),(1,.int .i64 (k+3*l.length)),(4,.int .i64 0),(5,.int .i64 l.length)],[],H.set id (.cells 3 (wE (mkG k l.length))),[]⟩):=by
 have key:=uE (P:=A) (body:=(kw 0)) (λ (i:Nat)=>(⟨[(0,.sl id 0 l.length l.length),(1,.int .i64 (k+3*i)),(4,.int .i64 0),(5,.int .i64 i)],[],H.set id (.cells 3 (wE (mT (λ (j:Nat)=>gmk (k+3*(j:Int))) l i))),[]⟩:St)) (λ i=>i<=l.length) (λ i=>l.length-i) (λ i=>(.exit 0,(⟨[(0,.sl id 0 l.length l.length),(1,.int .i64 (k+3*l.length)),(4,.int .i64 0),(5,.int .i64 l.length)],[],H.set id (.cells 3 (wE (mkG k l.length))),[]⟩:St))) ?_ 0 (by omega)
 ·simp only [zCi] at key
  simpa using key
 intro i hi
 by_cases c:i<l.length
 ·right
  have hml:=zvu (λ (j:Nat)=>gmk (k+3*(j:Int))) hi
  have hms:=zvv (λ (j:Nat)=>gmk (k+3*(j:Int))) c
  obtain ⟨t,ht⟩:∃ t,mT (λ (j:Nat)=>gmk (k+3*(j:Int))) l i=t:=⟨_,rfl⟩
  rw [ht] at hml hms
  obtain ⟨k',hk'⟩:∃ k',k+3*(i:Int)=k':=⟨_,rfl⟩
  rw [hk'] at hms
  have hk1:0<=k':=by omega
  have hk3:k'<=1000010000000:=by omega
  have hg:t[i]?=some (t[i]'(by omega)):=aE (by omega)
  have q6:∀ r,((wE t).set i r)[i]?=some r:=λ r=>aK (by simp;omega)
  have hs2:(wE t).set i [.bool (decide (k'.tmod 3=0)),.int .i64 (k'+1),.int .i64 (k'+1+1)]=wE (mT (λ (j:Nat)=>gmk (k+3*(j:Int))) l (i+1)):=by rw [<-hms];simp [wE,gmk]
  have hc1:(i:Int)<l.length:=by omega
  have hgl:(wE t).length=l.length:=by simp [hml]
  have hgg:(wE t)[i]?=some (t[i]'(by omega)).cells:=by rw [aN,hg];rfl
  simp only [Gd.cells] at hgg
  refine ⟨i+1,_,by omega,by omega,by (simp -implicitDefEqProofs +contextual (disch:=omega) only [XM,jI, ↓XD,XU, ↓reduceIte,sevalprocAttr,hid,hc1,hml,ht,hk',hgl,hgg,q6,hs2,QO,cB,dR,bI])<;>rfl,?_,rfl⟩
  simp only [St.next]
  rw [wL _ _ _ (by simp)]
  have:k'+1+1+1=k+3*((i+1:Nat):Int):=by omega
  simp [this]
 ·left
  have:i=l.length:=by omega
  subst this
  refine ⟨by (simp -implicitDefEqProofs +contextual (disch:=omega) only [XM,jI, ↓XD,XU, ↓reduceIte,sevalprocAttr,zvt,aL])<;>rfl,by simp⟩
theorem zuP {H:zd} {p:PV} {l:List Int} (h:HI H p l) {k:Int} (hk:0<=k) (hk2:k<=1000000000000) (hl:l.length<=1048576):∃ H',ES A zc0 [p,.int .i64 k] H=some (.int .i64 (k+l.length),H',[])/\HI H' p (mkI k l.length)/\H'.length=H.length/\∀ j,j∉refs p->H'[j]?=H[j]?:=by
 rcases h with ⟨rfl,rfl⟩|⟨id,rfl,h⟩
 ·have hl:EV A (.loop (ZW 0)) (⟨[(0,.nils),(1,.int .i64 k),(4,.int .i64 0),(5,.int .i64 0)],[],H,[]⟩:St)=some (zp.exit 0,(⟨[(0,.nils),(1,.int .i64 k),(4,.int .i64 0),(5,.int .i64 0)],[],H,[]⟩:St)):=by
   rw [uK]
   simp -implicitDefEqProofs +contextual (disch:=omega) only [Vw,Zs, ↓XD,XU, ↓reduceIte,sevalprocAttr]
  refine ⟨H,?_,.inl ⟨rfl,rfl⟩,rfl,λ j _=>rfl⟩
  simp -implicitDefEqProofs +contextual (disch:=omega) only [zdb,zdh,Zs, ↓XD,XU, ↓reduceIte,sevalprocAttr,hl]
  rw [wL _ _ _ rfl]
  simp
 ·have hid:=yJ h
  have h1:=zAp H id k hk hk2 l hl (λ b=>aK hid)
  rw [zcb h] at h1
  refine ⟨H.set id (.cells 1 (ym (mkI k l.length))),?_,.inr ⟨id,by rw [zmK],aK hid⟩,by simp,λ j hj=>aH (by intro e;subst e;simp [refs] at hj)⟩
  simp -implicitDefEqProofs +contextual (disch:=omega) only [zdb,zdh,Zs, ↓XD,XU, ↓reduceIte,sevalprocAttr,h1]
  rw [wL _ _ _ (by simp)]
theorem zuO {H:zd} {p:PV} {l:List Gd} (h:HG H p l) {k:Int} (hk:0<=k) (hk2:k<=1000000000000) (hl:l.length<=1048576):∃ H',ES A za1 [p,.int .i64 k] H=some (.int .i64 (k+3*l.length),H',[])/\HG H' p (mkG k l.length)/\H'.length=H.length/\∀ j,j∉refs p->H'[j]?=H[j]?:=by
 rcases h with ⟨rfl,rfl⟩|⟨id,rfl,h⟩
 ·have hl:EV A (.loop (kw 0)) (⟨[(0,.nils),(1,.int .i64 k),(4,.int .i64 0),(5,.int .i64 0)],[],H,[]⟩:St)=some (zp.exit 0,(⟨[(0,.nils),(1,.int .i64 k),(4,.int .i64 0),(5,.int .i64 0)],[],H,[]⟩:St)):=by
   rw [uK]
   simp -implicitDefEqProofs +contextual (disch:=omega) only [XM,jI, ↓XD,XU, ↓reduceIte,sevalprocAttr]
  refine ⟨H,?_,.inl ⟨rfl,rfl⟩,rfl,λ j _=>rfl⟩
  simp -implicitDefEqProofs +contextual (disch:=omega) only [za6,za9,jI, ↓XD,XU, ↓reduceIte,sevalprocAttr,hl]
  rw [wL _ _ _ rfl]
  simp
 ·have hid:=yJ h
  have h1:=zCc H id k hk hk2 l hl (λ b=>aK hid)
  rw [zcb h] at h1
  refine ⟨H.set id (.cells 3 (wE (mkG k l.length))),?_,.inr ⟨id,by rw [zmJ],aK hid⟩,by simp,λ j hj=>aH (by intro e;subst e;simp [refs] at hj)⟩
  simp -implicitDefEqProofs +contextual (disch:=omega) only [za6,za9,jI, ↓XD,XU, ↓reduceIte,sevalprocAttr,h1]
  rw [wL _ _ _ (by simp)]
theorem zwT {p:PV} {k:Int} {n:Nat} (h:xP p (mkI k n)) (hk:0<=k) (hk2:k<=1000000000000) (hn:n<=1048576):EP A zcX [p,.int .i64 k]=some (.int .i64 (k+n)):=by
 have hlen:=Xg h
 rw [zmK] at hlen
 have hi:=λ H i h0 h1=>wP h H .i64 i h0 h1
 rw [zmK] at hi
 have hl:EV A (.loop (WH 0)) ⟨[(0,p),(1,.int .i64 k),(4,.int .i64 0),(5,.int .i64 0)],[],[],[]⟩=some (.exit 0,⟨[(0,p),(1,.int .i64 (k+n)),(4,.int .i64 0),(5,.int .i64 n)],[],[],[]⟩):=by
  have key:=uE (P:=A) (body:=(WH 0)) (λ (i:Nat)=>(⟨[(0,p),(1,.int .i64 (k+i)),(4,.int .i64 0),(5,.int .i64 i)],[],[],[]⟩:St)) (λ i=>i<=n) (λ i=>n-i) (λ i=>(.exit 0,(⟨[(0,p),(1,.int .i64 (k+n)),(4,.int .i64 0),(5,.int .i64 n)],[],[],[]⟩:St))) ?_ 0 (by omega)
  ·simpa using key
  intro i hi'
  by_cases c:i<n
  ·right
   have hc1:(i:Int)<n:=by omega
   have h2:=hi [] i (by omega) hc1
   rw [zAD (by omega) hc1] at h2
   refine ⟨i+1,_,by omega,by omega,by (simp -implicitDefEqProofs +contextual (disch:=omega) only [zav,JV, ↓XD,XU, ↓reduceIte,sevalprocAttr,hlen,hc1,h2])<;>rfl,?_,rfl⟩
   simp [St.next,zT,Int.add_assoc]
  ·left
   have:i=n:=by omega
   subst this
   refine ⟨by simp -implicitDefEqProofs +contextual (disch:=omega) only [zav,JV, ↓XD,XU, ↓reduceIte,sevalprocAttr,hlen,aL],by simp⟩
 simp -implicitDefEqProofs +contextual (disch:=omega) only [zkx,zlL,JV, ↓XD,XU, ↓reduceIte,sevalprocAttr,hl]
theorem zwS {p:PV} {k:Int} {n:Nat} (h:xo p (mkG k n)) (hk:0<=k) (hk2:k<=1000000000000) (hn:n<=1048576):EP A za0 [p,.int .i64 k]=some (.int .i64 (k+3*n)):=by
 have hlen:=wh h
 rw [zmJ] at hlen
 have hi:=λ H i h0 h1=>xR h H .i64 i h0 h1
 rw [zmJ] at hi
 have hl:EV A (.loop (Yu 0)) ⟨[(0,p),(1,.int .i64 k),(4,.int .i64 0),(5,.int .i64 0)],[],[],[]⟩=some (.exit 0,⟨[(0,p),(1,.int .i64 (k+3*n)),(4,.int .i64 0),(5,.int .i64 n)],[],[],[]⟩):=by
  have key:=uE (P:=A) (body:=(Yu 0)) (λ (i:Nat)=>(⟨[(0,p),(1,.int .i64 (k+3*i)),(4,.int .i64 0),(5,.int .i64 i)],[],[],[]⟩:St)) (λ i=>i<=n) (λ i=>n-i) (λ i=>(.exit 0,(⟨[(0,p),(1,.int .i64 (k+3*n)),(4,.int .i64 0),(5,.int .i64 n)],[],[],[]⟩:St))) ?_ 0 (by omega)
  ·simpa using key
  intro i hi'
  by_cases c:i<n
  ·right
   have hc1:(i:Int)<n:=by omega
   have h2:=hi [] i (by omega) hc1
   rw [zAC (by omega) hc1] at h2
   obtain ⟨k',hk'⟩:∃ k',k+3*(i:Int)=k':=⟨_,rfl⟩
   have hk1:0<=k':=by omega
   have hk3:k'<=1000010000000:=by omega
   rw [hk'] at h2
   simp only [gmk,Gd.cells] at h2
   refine ⟨i+1,_,by omega,by omega,by (simp -implicitDefEqProofs +contextual (disch:=omega) only [Qi,Vl, ↓XD,XU, ↓reduceIte,sevalprocAttr,hlen,hc1,hk',h2])<;>rfl,?_,rfl⟩
   have:k'+1+1+1=k+3*((i+1:Nat):Int):=by omega
   simp [St.next,zT,this]
  ·left
   have:i=n:=by omega
   subst this
   refine ⟨by simp -implicitDefEqProofs +contextual (disch:=omega) only [Qi,Vl, ↓XD,XU, ↓reduceIte,sevalprocAttr,hlen,aL],by simp⟩
 simp -implicitDefEqProofs +contextual (disch:=omega) only [ziL,ziT,Vl, ↓XD,XU, ↓reduceIte,sevalprocAttr,hl]
end Go.Proofs.Tryd.Av
end
section
attribute [local congr] ite_congr
set_option maxRecDepth 10000
set_option maxHeartbeats 8000000
namespace Go.Proofs.Tryd.Av
open Go Go.Av Classical
def Qx:Option ya->List Int
 |none=>[]
 |some s=>s.Types
def gsO:Option ya->List Gd
 |none=>[]
 |some s=>s.Guards
def kS (S:List (Option ya)) (i:Nat):Int:=1+((S.take i).map λ o=>1+((Qx o).length:Int)+3*((gsO o).length:Int)).sum
theorem zmE {S:List (Option ya)} {i:Nat} {o:Option ya} (h:S[i]?=some o):kS S (i+1)=kS S i+1+((Qx o).length:Int)+3*((gsO o).length:Int):=by
 unfold kS
 rw [List.take_add_one,h,dU,List.sum_append]
 simp
 omega
def ziC (S:List (Option ya)):Prop:=∀ o∈S,(Qx o).length<=1000/\(gsO o).length<=1000
theorem zcP {S:List (Option ya)} (hs:ziC S):∀ i:Nat,i<=S.length->1<=kS S i/\kS S i<=1+5000*(i:Int)
 |0,_=>by simp [kS]
 |i+1,h=>by
  obtain ⟨h1,h2⟩:=zcP hs i (by omega)
  have hg:S[i]?=some S[i]:=aE (by omega)
  obtain ⟨h3,h4⟩:=hs _ (aJ hg)
  rw [zmE hg]
  omega
theorem Ku.both {H:zd} {r:List PV} {o:Option ya} (h:Ku H r o):∃ b p q,r=[.bool b,p,q]/\HI H p (Qx o)/\HG H q (gsO o):=by
 cases o with
 |none=>have h:r=_:=h;subst h;exact ⟨_,_,_,rfl,.inl ⟨rfl,rfl⟩,.inl ⟨rfl,rfl⟩⟩
 |some s=>obtain ⟨p,q,rfl,hp,hq⟩:=h;exact ⟨_,_,_,rfl,hp,hq⟩
theorem QS (b:Bool) (p q:PV):zn [.bool b,p,q]=refs p++refs q:=by simp [zn,refs]
def zjI (H:zd) (k:Int) (r:List PV) (o:Option ya):Prop:=∃ p q,r=[.bool (decide (k.tmod 3=0)),p,q]/\HI H p (mkI (k+1) (Qx o).length)/\HG H q (mkG (k+1+((Qx o).length:Int)) (gsO o).length)
theorem zjI.keep {H H':zd} {k:Int} {r:List PV} {o:Option ya} (h:zjI H k r o) (hk:∀ x∈zn r,H'[x]?=H[x]?):zjI H' k r o:=by
 obtain ⟨p,q,rfl,h1,h2⟩:=h
 rw [QS] at hk
 exact ⟨p,q,rfl,h1.keep λ x hx=>hk x (bQ _ hx),h2.keep λ x hx=>hk x (cJ _ hx)⟩
structure zBl (H:zd) (id lo:Nat) (rows:List (List PV)) (S:List (Option ya)) (i:Int) (k:Int) (G:zd) (rs:List (List PV)):Prop where
 k:k=kS S i.toNat
 len:G.length=H.length
 at_:G[id]?=some (.cells 3 rs)
 n:rs.length=S.length
 refs:∀ (j:Nat) (r r0:List PV),rs[j]?=some r->rows[j]?=some r0->zn r=zn r0
 done:∀ (j:Nat) (r:List PV) (o:Option ya),(j:Int)<i->rs[j]?=some r->S[j]?=some o->zjI G (kS S j) r o
 todo:∀ (j:Nat) (r:List PV),i<=(j:Int)->rows[j]?=some r->rs[j]?=some r/\∀ x∈zn r,G[x]?=H[x]?
 fr:∀ j,j<lo->j≠id->G[j]?=H[j]?
theorem zvp {H:zd} {id lo:Nat} {rows:List (List PV)} {S:List (Option ya)} (hH:H[id]?=some (.cells 3 rows)) (hR:vy H lo rows S) (hlo:id<lo) (hn:S.length<=1048576) (hs:ziC S):
  ∃ a':Int×zd×List (List PV),EV A (.loop (ky 0)) (⟨[(0,.sl id 0 S.length S.length),(1,.int .i64 1),(4,.int .i64 0),(5,.int .i64 0)],[],H,[]⟩:St)=some (zp.exit 0,(⟨[(0,.sl id 0 S.length S.length),(1,.int .i64 a'.1),(4,.int .i64 0),(5,.int .i64 S.length)],[],a'.2.1,[]⟩:St))/\zBl H id lo rows S (S.length:Int) a'.1 a'.2.1 a'.2.2:=by
 refine Vj (P:=A) (body:=(ky 0)) (λ (i:Int) (a:Int×zd×List (List PV))=>(⟨[(0,.sl id 0 S.length S.length),(1,.int .i64 a.1),(4,.int .i64 0),(5,.int .i64 i)],[],a.2.1,[]⟩:St)) (λ i a=>zBl H id lo rows S i a.1 a.2.1 a.2.2) (λ a=>(zp.exit 0,(⟨[(0,.sl id 0 S.length S.length),(1,.int .i64 a.1),(4,.int .i64 0),(5,.int .i64 S.length)],[],a.2.1,[]⟩:St))) 0 (S.length:Int) ?_ ?_ 0 (1,H,rows) (Int.le_refl _) (by omega) ⟨by simp [kS],rfl,hH,hR.len,λ j r r0 h1 h2=>by rw [h1] at h2;cases h2;rfl,λ j r o hj=>by omega,λ j r _ hr=>⟨hr,λ x _=>rfl⟩,λ j _ _=>rfl⟩
 ·rintro i ⟨k,G,rs⟩ hi hin hok
  obtain ⟨hk,hlen,hat,hrn,hrf,hdone,htodo,hfr⟩:=hok
  dsimp only at hk hlen hat hrn hrf hdone htodo hfr ⊢
  have hb:=zcP hs i.toNat (by omega)
  rw [<-hk] at hb
  have hi2:i.toNat<S.length:=by omega
  obtain ⟨o,ho⟩:∃ o,S[i.toNat]?=some o:=⟨_,aE hi2⟩
  obtain ⟨r0,hr0⟩:∃ r,rows[i.toNat]?=some r:=⟨_,aE (by rw [hR.len];exact hi2)⟩
  obtain ⟨hr,hrx⟩:=htodo i.toNat r0 (by omega) hr0
  have hrow:=(hR.row i.toNat r0 o hr0 ho).keep hrx
  obtain ⟨b,p,q,rfl,hp,hq⟩:=hrow.both
  have hxlo:=hR.lo _ (aJ hr0)
  have hnd:=hR.apart.one i.toNat _ hr0
  rw [QS] at hxlo hnd
  obtain ⟨so1,so2⟩:=hs o (aJ ho)
  have hidl:id<G.length:=yJ hat
  obtain ⟨r1,hr1⟩:∃ r1:List PV,[.bool (decide (k.tmod 3=0)),p,q]=r1:=⟨_,rfl⟩
  have hpid:∀ x∈refs p,¬id=x:=λ x hx=>by have:=hxlo x (bQ _ hx);omega
  have hqid:∀ x∈refs q,¬id=x:=λ x hx=>by have:=hxlo x (cJ _ hx);omega
  have hdis:∀ x∈refs p,x∉refs q:=λ x hx hy=>(List.nodup_append.1 hnd).2.2 x hx x hy rfl
  obtain ⟨G1,hG1⟩:∃ G1,G.set id (.cells 3 (rs.set i.toNat r1))=G1:=⟨_,rfl⟩
  have hp1:HI G1 p (Qx o):=hp.keep λ x hx=>by rw [<-hG1,aH (hpid x hx)]
  have hq1:HG G1 q (gsO o):=hq.keep λ x hx=>by rw [<-hG1,aH (hqid x hx)]
  obtain ⟨G2,e2,hp2,l2,f2⟩:=zuP hp1 (k:=k+1) (by omega) (by omega) (by omega)
  have hq2:HG G2 q (gsO o):=hq1.keep λ x hx=>f2 x λ h=>hdis x h hx
  obtain ⟨G3,e3,hq3,l3,f3⟩:=zuO hq2 (k:=k+1+((Qx o).length:Int)) (by omega) (by omega) (by omega)
  have hp3:HI G3 p (mkI (k+1) (Qx o).length):=hp2.keep λ x hx=>f3 x (hdis x hx)
  have hl1:G1.length=G.length:=by rw [<-hG1];simp
  have a1:G1[id]?=some (.cells 3 (rs.set i.toNat r1)):=by rw [<-hG1];exact aK hidl
  have a2:G2[id]?=some (.cells 3 (rs.set i.toNat r1)):=by rw [f2 id λ h=>hpid id h rfl];exact a1
  have a3:G3[id]?=some (.cells 3 (rs.set i.toNat r1)):=by rw [f3 id λ h=>hqid id h rfl];exact a2
  have q6:(rs.set i.toNat r1)[i.toNat]?=some r1:=aK (by omega)
  have q7:(rs.set i.toNat r1).length=S.length:=by simpa using hrn
  have hfr3:∀ x,x∉refs p->x∉refs q->¬id=x->G3[x]?=G[x]?:=λ x h1 h2 h3=>by
   rw [f3 x h2,f2 x h1, <-hG1,aH h3]
  have hS1:rs.set i.toNat [.bool (decide (k.tmod 3=0)),p,q]=rs.set i.toNat r1:=by rw [hr1]
  have hk1:0<=k:=by omega
  have hk2:k<=1000000000000:=by omega
  refine ⟨_,(k+1+((Qx o).length:Int)+3*((gsO o).length:Int),G3,rs.set i.toNat r1),by (simp -implicitDefEqProofs +contextual (disch:=omega) only [XN,jJ, ↓XD,XU, ↓reduceIte,sevalprocAttr,hin,hat,hr,hrn,hS1,hG1,a1,a2,a3,q6,q7, <-hr1,e2,e3])<;>rfl,?_,?_⟩
  ·simp only [St.next]
   rw [wL _ _ _ (by rw [l3,l2,hl1])]
   rfl
  ·refine ⟨?_,by dsimp only;omega,a3,q7,λ j r r0 h1 h2=>?_,λ j r o' hj h1 h2=>?_,λ j r hj h1=>?_,λ j hj hne=>?_⟩
   ·dsimp only
    rw [show (i+1).toNat=i.toNat+1 by omega,zmE ho, <-hk]
   ·dsimp only at h1
    by_cases e:i.toNat=j
    ·subst e
     rw [q6] at h1
     rw [hr0] at h2
     cases h1;cases h2
     rw [<-hr1,QS,QS]
    ·rw [aH e] at h1
     exact hrf j r r0 h1 h2
   ·dsimp only at hj h1 ⊢
    by_cases e:i.toNat=j
    ·subst e
     rw [q6] at h1
     rw [ho] at h2
     cases h1;cases h2
     rw [<-hk, <-hr1]
     exact ⟨p,q,rfl,hp3,hq3⟩
    ·rw [aH e] at h1
     have hjl:j<rows.length:=by
      have:=(aF.1 h1).1
      rw [hR.len];omega
     have hrj:=aE hjl
     have er:=hrf j r _ h1 hrj
     refine (hdone j r o' (by omega) h1 h2).keep λ x hx=>?_
     rw [er] at hx
     have hd:=hR.apart.two j i.toNat _ _ (Ne.symm e) hrj hr0 x hx
     rw [QS,aX,not_or] at hd
     have:=hR.lo _ (aJ hrj) x hx
     exact hfr3 x hd.1 hd.2 (by omega)
   ·dsimp only at hj ⊢
    have e:¬i.toNat=j:=by omega
    obtain ⟨k1,k2⟩:=htodo j r (by omega) h1
    refine ⟨by rw [aH e];exact k1,λ x hx=>?_⟩
    have hd:=hR.apart.two j i.toNat _ _ (Ne.symm e) h1 hr0 x hx
    rw [QS,aX,not_or] at hd
    have:=hR.lo _ (aJ h1) x hx
    rw [hfr3 x hd.1 hd.2 (by omega)]
    exact k2 x hx
   ·dsimp only
    rw [hfr3 j (λ h=>by have:=hxlo j (bQ _ h);omega) (λ h=>by have:=hxlo j (cJ _ h);omega) (Ne.symm hne)]
    exact hfr j hj hne
 ·rintro i ⟨k,G,rs⟩ hi rfl hok
  have:=hok.at_
  refine ⟨by simp -implicitDefEqProofs +contextual (disch:=omega) only [XN,jJ, ↓XD,XU, ↓reduceIte,sevalprocAttr,aL],by simp⟩
theorem zuQ {H:zd} {id lo:Nat} {rows:List (List PV)} {S:List (Option ya)} (hH:H[id]?=some (.cells 3 rows)) (hR:vy H lo rows S) (hlo:id<lo) (hn:S.length<=1048576) (hs:ziC S):
  ∃ H' rows',ES A UG [.sl id 0 S.length S.length,.int .i64 1] H=some (.int .i64 (kS S S.length),H',[])/\H'.length=H.length/\(∀ j,j<lo->j≠id->H'[j]?=H[j]?)/\H'[id]?=some (.cells 3 rows')/\rows'.length=S.length/\∀ (i:Nat) (r:List PV) (o:Option ya),rows'[i]?=some r->S[i]?=some o->zjI H' (kS S i) r o:=by
 obtain ⟨⟨k,G,rs⟩,e,hok⟩:=zvp hH hR hlo hn hs
 obtain ⟨hk,hlen,hat,hrn,hrf,hdone,htodo,hfr⟩:=hok
 dsimp only at e hk hlen hat hrn hrf hdone htodo hfr
 rw [cB] at hk
 refine ⟨G,rs,?_,hlen,hfr,hat,hrn,λ i r o h1 h2=>hdone i r o (by have:=(aF.1 h2).1;omega) h1 h2⟩
 simp -implicitDefEqProofs +contextual (disch:=omega) only [za7,za_,jJ, ↓XD,XU, ↓reduceIte,sevalprocAttr,e]
 rw [wL _ _ _ hlen,hk]
def MZ (k:Int) (r:List PV) (o:Option ya):Prop:=∃ p q,r=[.bool (decide (k.tmod 3=0)),p,q]/\xP p (mkI (k+1) (Qx o).length)/\xo q (mkG (k+1+((Qx o).length:Int)) (gsO o).length)
theorem zjI.frz {H:zd} {k:Int} {r:List PV} {o:Option ya} (h:zjI H k r o) (d:Nat):MZ k (r.map (Go.Av.frz (d+3) H)) o:=by
 obtain ⟨p,q,rfl,h1,h2⟩:=h
 exact ⟨_,_,rfl,h1.frz _,h2.frz _⟩
theorem zwU {zr:List (List PV)} {S:List (Option ya)} (hl:zr.length=S.length) (hn:S.length<=1048576) (hs:ziC S) (h:∀ (i:Nat) (r:List PV) (o:Option ya),zr[i]?=some r->S[i]?=some o->MZ (kS S i) r o):EP A UF [.fz zr,.int .i64 1]=some (.int .i64 (kS S S.length)):=by
 have hk0:kS S 0=1:=by simp [kS]
 have e:EV A (.loop (ku 0)) ⟨[(0,.fz zr),(1,.int .i64 1),(4,.int .i64 0),(5,.int .i64 0)],[],[],[]⟩=some (.exit 0,⟨[(0,.fz zr),(1,.int .i64 (kS S S.length)),(4,.int .i64 0),(5,.int .i64 S.length)],[],[],[]⟩):=by
  have key:=uE (P:=A) (body:=(ku 0)) (λ (i:Nat)=>(⟨[(0,.fz zr),(1,.int .i64 (kS S i)),(4,.int .i64 0),(5,.int .i64 i)],[],[],[]⟩:St)) (λ i=>i<=S.length) (λ i=>S.length-i) (λ i=>(.exit 0,(⟨[(0,.fz zr),(1,.int .i64 (kS S S.length)),(4,.int .i64 0),(5,.int .i64 S.length)],[],[],[]⟩:St))) ?_ 0 (by omega)
  ·simpa [hk0] using key
  intro i hi
  by_cases c:i<S.length
  ·right
   obtain ⟨o,ho⟩:∃ o,S[i]?=some o:=⟨_,aE c⟩
   obtain ⟨r,hr⟩:∃ r,zr[i]?=some r:=⟨_,aE (by omega)⟩
   obtain ⟨p,q,rfl,h1,h2⟩:=h i r o hr ho
   obtain ⟨so1,so2⟩:=hs o (aJ ho)
   have hb:=zcP hs i hi
   have hks:=zmE ho
   obtain ⟨k,hk⟩:∃ k,kS S i=k:=⟨_,rfl⟩
   rw [hk] at hr h1 h2 hb hks
   have hk1:0<=k:=by omega
   have hk2:k<=1000000000000:=by omega
   have g1:=zwT h1 (by omega) (by omega) (by omega)
   have g2:=zwS h2 (by omega) (by omega) (by omega)
   have n1:¬k+1+((Qx o).length:Int)<0:=by omega
   have n2:¬k+1+((Qx o).length:Int)+3*((gsO o).length:Int)<0:=by omega
   have hc1:(i:Int)<S.length:=by omega
   have hix:∀ H,wH 3 H (.fz zr) (.int .i64 i)=some (.fp [.bool (decide (k.tmod 3=0)),p,q] 0):=λ H=>by rw [KZ,if_pos (by omega),cB,hr];rfl
   have l1:=jl h1
   have l2:=ut h1
   have l3:=yB h1
   have l4:=xf h2
   have l5:=yQ h2
   have l6:=yI h2
   have z1:=λ d H=>vQ h1 d H
   have z2:=λ d H=>wl h2 d H
   refine ⟨i+1,_,by omega,by omega,by (simp -implicitDefEqProofs +contextual (disch:=omega) only [XL,jH, ↓XD,XU, ↓reduceIte,sevalprocAttr,hl,hc1,hk,hix,l1,l2,l3,l4,l5,l6,z1 7,z2 7,g1,g2,n1,n2])<;>rfl,?_,rfl⟩
   simp [St.next,zT,hks]
  ·left
   have:i=S.length:=by omega
   subst this
   refine ⟨by simp -implicitDefEqProofs +contextual (disch:=omega) only [XL,jH, ↓XD,XU, ↓reduceIte,sevalprocAttr,hl,aL],by simp⟩
 simp -implicitDefEqProofs +contextual (disch:=omega) only [zaX,za8,jH, ↓XD,XU, ↓reduceIte,sevalprocAttr,e]
theorem zBN {p q:PV} {l:List Int} (h1:xP p l) (h2:xP q l) (hl:l.length<=1048576):EP A zgD [p,q]=some (.bool true):=by
 have l1:=Xg h1
 have l2:=Xg h2
 have e:EV A (.loop (U3 0)) ⟨[(0,p),(1,q),(4,.bool false),(5,.int .i64 0)],[],[],[]⟩=some (.exit 0,⟨[(0,p),(1,q),(4,.bool false),(5,.int .i64 l.length)],[],[],[]⟩):=by
  have key:=uE (P:=A) (body:=(U3 0)) (λ (i:Nat)=>(⟨[(0,p),(1,q),(4,.bool false),(5,.int .i64 i)],[],[],[]⟩:St)) (λ i=>i<=l.length) (λ i=>l.length-i) (λ i=>(.exit 0,(⟨[(0,p),(1,q),(4,.bool false),(5,.int .i64 l.length)],[],[],[]⟩:St))) ?_ 0 (by omega)
  ·exact key
  intro i hi
  by_cases c:i<l.length
  ·right
   have hc1:(i:Int)<l.length:=by omega
   have x1:=wP h1 [] .i64 i (by omega) hc1
   have x2:=wP h2 [] .i64 i (by omega) hc1
   refine ⟨i+1,_,by omega,by omega,by (simp -implicitDefEqProofs +contextual (disch:=omega) only [zci,QV, ↓XD,XU, ↓reduceIte,sevalprocAttr,l1,hc1,x1,x2])<;>rfl,?_,rfl⟩
   simp [St.next,zT]
  ·left
   have:i=l.length:=by omega
   subst this
   refine ⟨by simp -implicitDefEqProofs +contextual (disch:=omega) only [zci,QV, ↓XD,XU, ↓reduceIte,sevalprocAttr,l1,aL],by simp⟩
 simp -implicitDefEqProofs +contextual (disch:=omega) only [zn2,zoo,QV, ↓XD,XU, ↓reduceIte,sevalprocAttr,l1,l2,e]
theorem zzU (g:Gd):EP A zeD [.agg g.cells,.agg g.cells]=some (.bool true):=by
 simp -implicitDefEqProofs +contextual (disch:=omega) only [zmm,zm4,zlc,Gd.cells, ↓XD,XU, ↓reduceIte,sevalprocAttr]
theorem zBM {p q:PV} {l:List Gd} (h1:xo p l) (h2:xo q l) (hl:l.length<=1048576):EP A zcT [p,q]=some (.bool true):=by
 have l1:=wh h1
 have l2:=wh h2
 have e:EV A (.loop (WG 0)) ⟨[(0,p),(1,q),(4,.bool false),(5,.int .i64 0)],[],[],[]⟩=some (.exit 0,⟨[(0,p),(1,q),(4,.bool false),(5,.int .i64 l.length)],[],[],[]⟩):=by
  have key:=uE (P:=A) (body:=(WG 0)) (λ (i:Nat)=>(⟨[(0,p),(1,q),(4,.bool false),(5,.int .i64 i)],[],[],[]⟩:St)) (λ i=>i<=l.length) (λ i=>l.length-i) (λ i=>(.exit 0,(⟨[(0,p),(1,q),(4,.bool false),(5,.int .i64 l.length)],[],[],[]⟩:St))) ?_ 0 (by omega)
  ·exact key
  intro i hi
  by_cases c:i<l.length
  ·right
   have hc1:(i:Int)<l.length:=by omega
   have x1:=xR h1 [] .i64 i (by omega) hc1
   have x2:=xR h2 [] .i64 i (by omega) hc1
   have x3:=zzU (za l i)
   simp only [Gd.cells] at x1 x2 x3
   refine ⟨i+1,_,by omega,by omega,by (simp -implicitDefEqProofs +contextual (disch:=omega) only [zar,JR, ↓XD,XU, ↓reduceIte,sevalprocAttr,l1,hc1,x1,x2,x3])<;>rfl,?_,rfl⟩
   simp [St.next,zT]
  ·left
   have:i=l.length:=by omega
   subst this
   refine ⟨by simp -implicitDefEqProofs +contextual (disch:=omega) only [zar,JR, ↓XD,XU, ↓reduceIte,sevalprocAttr,l1,aL],by simp⟩
 simp -implicitDefEqProofs +contextual (disch:=omega) only [zkt,zlH,JR, ↓XD,XU, ↓reduceIte,sevalprocAttr,l1,l2,e]
theorem zmi.both {r:List PV} {o:Option ya} (h:zmi r o):∃ b p q,r=[.bool b,p,q]/\b=o.isSome/\xP p (Qx o)/\xo q (gsO o):=by
 cases o with
 |none=>have h:r=_:=h;subst h;exact ⟨_,_,_,rfl,rfl,.inr ⟨rfl,rfl⟩,.inr ⟨rfl,rfl⟩⟩
 |some s=>obtain ⟨p,q,rfl,hp,hq⟩:=h;exact ⟨_,_,_,rfl,rfl,hp,hq⟩
theorem zzV {r1 r2:List PV} {o:Option ya} (h1:zmi r1 o) (h2:zmi r2 o) (hs:(Qx o).length<=1000/\(gsO o).length<=1000):EP A zeG [.agg r1,.agg r2]=some (.bool true):=by
 obtain ⟨b1,p1,q1,rfl,rfl,i1,g1⟩:=h1.both
 obtain ⟨b2,p2,q2,rfl,rfl,i2,g2⟩:=h2.both
 have e1:=zBN i1 i2 (by omega)
 have e2:=zBM g1 g2 (by omega)
 have a1:=jl i1
 have a2:=ut i1
 have a3:=yB i1
 have a4:=λ d H=>vQ i1 d H
 have b1:=jl i2
 have b2:=ut i2
 have b3:=yB i2
 have b4:=λ d H=>vQ i2 d H
 have c1:=xf g1
 have c2:=yQ g1
 have c3:=yI g1
 have c4:=λ d H=>wl g1 d H
 have d1:=xf g2
 have d2:=yQ g2
 have d3:=yI g2
 have d4:=λ d H=>wl g2 d H
 simp -implicitDefEqProofs +contextual (disch:=omega) only [zmp,zm7,zlf,zF, ↓XD,XU, ↓reduceIte,sevalprocAttr,e1,e2,a1,a2,a3,a4 7,b1,b2,b3,b4 7,c1,c2,c3,c4 7,d1,d2,d3,d4 7]
theorem zjO {z1 z2:List (List PV)} {S:List (Option ya)} (h1:U7 z1 S) (h2:U7 z2 S) (hn:S.length<=1048576) (hs:ziC S):EP A K1 [.fz z1,.fz z2]=some (.bool true):=by
 have l1:=h1.len
 have l2:=h2.len
 have e:EV A (.loop (ZV 0)) ⟨[(0,.fz z1),(1,.fz z2),(4,.bool false),(5,.int .i64 0)],[],[],[]⟩=some (.exit 0,⟨[(0,.fz z1),(1,.fz z2),(4,.bool false),(5,.int .i64 S.length)],[],[],[]⟩):=by
  have key:=uE (P:=A) (body:=(ZV 0)) (λ (i:Nat)=>(⟨[(0,.fz z1),(1,.fz z2),(4,.bool false),(5,.int .i64 i)],[],[],[]⟩:St)) (λ i=>i<=S.length) (λ i=>S.length-i) (λ i=>(.exit 0,(⟨[(0,.fz z1),(1,.fz z2),(4,.bool false),(5,.int .i64 S.length)],[],[],[]⟩:St))) ?_ 0 (by omega)
  ·exact key
  intro i hi
  by_cases c:i<S.length
  ·right
   have hc1:(i:Int)<S.length:=by omega
   obtain ⟨o,ho⟩:∃ o,S[i]?=some o:=⟨_,aE c⟩
   obtain ⟨r1,hr1⟩:∃ r,z1[i]?=some r:=⟨_,aE (by omega)⟩
   obtain ⟨r2,hr2⟩:∃ r,z2[i]?=some r:=⟨_,aE (by omega)⟩
   have e0:=zzV (h1.row i r1 o hr1 ho) (h2.row i r2 o hr2 ho) (hs o (aJ ho))
   obtain ⟨b1,p1,q1,rfl,_,i1,g1⟩:=(h1.row i r1 o hr1 ho).both
   obtain ⟨b2,p2,q2,rfl,_,i2,g2⟩:=(h2.row i r2 o hr2 ho).both
   have x1:∀ H,wH 3 H (.fz z1) (.int .i64 i)=some (.fp [.bool b1,p1,q1] 0):=λ H=>by rw [KZ,if_pos (by omega),cB,hr1];rfl
   have x2:∀ H,wH 3 H (.fz z2) (.int .i64 i)=some (.fp [.bool b2,p2,q2] 0):=λ H=>by rw [KZ,if_pos (by omega),cB,hr2];rfl
   have a3:=yB i1
   have a4:=λ d H=>vQ i1 d H
   have b3:=yB i2
   have b4:=λ d H=>vQ i2 d H
   have c3:=yI g1
   have c4:=λ d H=>wl g1 d H
   have d3:=yI g2
   have d4:=λ d H=>wl g2 d H
   refine ⟨i+1,_,by omega,by omega,by (simp -implicitDefEqProofs +contextual (disch:=omega) only [Vv,Zr, ↓XD,XU, ↓reduceIte,sevalprocAttr,l1,l2,hc1,x1,x2,e0,a3,a4 6,b3,b4 6,c3,c4 6,d3,d4 6])<;>rfl,?_,rfl⟩
   simp [St.next,zT]
  ·left
   have:i=S.length:=by omega
   subst this
   refine ⟨by simp -implicitDefEqProofs +contextual (disch:=omega) only [Vv,Zr, ↓XD,XU, ↓reduceIte,sevalprocAttr,l1,aL],by simp⟩
 simp -implicitDefEqProofs +contextual (disch:=omega) only [zcE,zdg,Zr, ↓XD,XU, ↓reduceIte,sevalprocAttr,l1,l2,e]
theorem zpb:EP A K1 [.nils,.nils]=some (.bool true):=by
 have hl:EV A (.loop (ZV 0)) (⟨[(0,.nils),(1,.nils),(4,.bool false),(5,.int .i64 0)],[],[],[]⟩:St)=some (zp.exit 0,(⟨[(0,.nils),(1,.nils),(4,.bool false),(5,.int .i64 0)],[],[],[]⟩:St)):=by
  rw [uK]
  simp -implicitDefEqProofs +contextual (disch:=omega) only [Vv,Zr, ↓XD,XU, ↓reduceIte,sevalprocAttr]
 simp -implicitDefEqProofs +contextual (disch:=omega) only [zcE,zdg,Zr, ↓XD,XU, ↓reduceIte,sevalprocAttr,hl]
theorem zn_ (H:zd) (k:Int):ES A UG [.nils,.int .i64 k] H=some (.int .i64 k,H,[]):=by
 have hl:EV A (.loop (ky 0)) (⟨[(0,.nils),(1,.int .i64 k),(4,.int .i64 0),(5,.int .i64 0)],[],H,[]⟩:St)=some (zp.exit 0,(⟨[(0,.nils),(1,.int .i64 k),(4,.int .i64 0),(5,.int .i64 0)],[],H,[]⟩:St)):=by
  rw [uK]
  simp -implicitDefEqProofs +contextual (disch:=omega) only [XN,jJ, ↓XD,XU, ↓reduceIte,sevalprocAttr]
 simp -implicitDefEqProofs +contextual (disch:=omega) only [za7,za_,jJ, ↓XD,XU, ↓reduceIte,sevalprocAttr,hl]
 rw [wL _ _ _ rfl]
theorem zpc (k:Int):EP A UF [.nils,.int .i64 k]=some (.int .i64 k):=by
 have hl:EV A (.loop (ku 0)) (⟨[(0,.nils),(1,.int .i64 k),(4,.int .i64 0),(5,.int .i64 0)],[],[],[]⟩:St)=some (zp.exit 0,(⟨[(0,.nils),(1,.int .i64 k),(4,.int .i64 0),(5,.int .i64 0)],[],[],[]⟩:St)):=by
  rw [uK]
  simp -implicitDefEqProofs +contextual (disch:=omega) only [XL,jH, ↓XD,XU, ↓reduceIte,sevalprocAttr]
 simp -implicitDefEqProofs +contextual (disch:=omega) only [zaX,za8,jH, ↓XD,XU, ↓reduceIte,sevalprocAttr,hl]
def zmZ (ps:List zc) (i:Int):Prop:=((kM ps).1=0/\0<=i)/\i<ps.length
theorem VJ {ps:List zc} (h:(kM ps).1=0):kM ps=(0,0,0)/\(xJ ps).1=0/\Wq ps=none:=by
 unfold kM at h ⊢
 by_cases h1:(xJ ps).1=0
 ·rw [if_neg (by simpa using h1)] at h ⊢
  cases h2:Wq ps with
  |none=>exact ⟨rfl,h1,rfl⟩
  |some p=>
   rw [h2] at h
   unfold Wq at h2
   exact absurd h (zmG (xE.1 h2).2.2.1)
 ·rw [if_pos (by simpa using h1)] at h
  exact absurd h h1
theorem zic {ps:List zc} (hb:ps.length<=1048576) (hs:vz ps) {i:Int} (h:zmZ ps i):zbm ps/\∃ S,wv ps i=.inr S:=by
 obtain ⟨⟨h1,h2⟩,h3⟩:=h
 obtain ⟨_,k1,k2⟩:=VJ h1
 refine ⟨zgd hb hs k1,?_⟩
 have:=y8.1 k2 i h2 h3
 cases hw:wv ps i with
 |inl c=>rw [hw] at this;exact absurd rfl this
 |inr S=>exact ⟨S,rfl⟩
theorem zpj (ps:List zc) (i:Int) (hb:ps.length<=1048576) (ht:w9 ps<=1048576) (hs:vz ps) (h:zmZ ps i) {S:List (Option ya)} (hw:wv ps i=.inr S):∃ z,EP A zaO [code ps,.int .i64 i]=some (.fz z)/\U7 z S:=by
 have hW:=(zic hb hs h).1
 obtain ⟨⟨h1,h2⟩,h3⟩:=h
 have e1:=zbO ps hb ht hs
 rw [(VJ h1).1] at e1
 have e2:=zhE hW h2 h3
 rw [hw] at e2
 obtain ⟨z,e2,hz⟩:=e2
 refine ⟨z,?_,hz⟩
 have c2:¬i<0:=by omega
 have c3:¬(ps.length:Int)<=i:=by omega
 simp only [code,zb] at e1 e2
 simp -implicitDefEqProofs +contextual (disch:=omega) only [U9,Jn,VT,code,zb, ↓XD,XU, ↓reduceIte,sevalprocAttr,e1,e2,c2,c3]
theorem zpi (ps:List zc) (i:Int) (hb:ps.length<=1048576) (ht:w9 ps<=1048576) (hs:vz ps) (h:¬zmZ ps i):EP A zaO [code ps,.int .i64 i]=some .nils:=by
 have e1:=zbO ps hb ht hs
 simp only [code,zb] at e1
 by_cases h1:(kM ps).1=0
 ·by_cases h2:i<0
  ·simp -implicitDefEqProofs +contextual (disch:=omega) only [U9,Jn,VT,code,zb, ↓XD,XU, ↓reduceIte,sevalprocAttr,e1,h1,h2]
  ·have h3:(ps.length:Int)<=i:=by
    by_cases h3:(ps.length:Int)<=i
    ·exact h3
    ·exact absurd ⟨⟨h1,by omega⟩,by omega⟩ h
   simp -implicitDefEqProofs +contextual (disch:=omega) only [U9,Jn,VT,code,zb, ↓XD,XU, ↓reduceIte,sevalprocAttr,e1,h1,h2,h3]
 ·simp -implicitDefEqProofs +contextual (disch:=omega) only [U9,Jn,VT,code,zb, ↓XD,XU, ↓reduceIte,sevalprocAttr,e1,h1]
theorem zxs (b:zZ) (H:zd):zmg 1 H (b::H.map (zX 1)):=λ id hid=>by
 rw [Nat.add_comm,dF,aN]
theorem zpn (ps:List zc) (i:Int) (hb:ps.length<=1048576) (ht:w9 ps<=1048576) (hs:vz ps) (h:zmZ ps i) {S:List (Option ya)} (hw:wv ps i=.inr S):
  S.length=(za ps i).Ins.length/\(∃ G ed rows,ES A ZP [code ps,.int .i64 i] []=some (.sl 3 0 S.length S.length,G,ed)/\G[3]?=some (.cells 3 rows)/\vy G 4 rows S)/\∃ z,EP A ZP [code ps,.int .i64 i]=some (.fz z)/\U7 z S:=by
 have hW:=(zic hb hs h).1
 obtain ⟨⟨h1,h2⟩,h3⟩:=h
 have e1:=zhA ps hb ht hs
 rw [(VJ h1).1] at e1
 obtain ⟨hn,H,ed,rows,e2,z2,hR⟩:=zuT hW h2 h3 hw
 have c2:¬i<0:=by omega
 have c3:¬(ps.length:Int)<=i:=by omega
 have hL:=zxs (.cells 1 [[zb ps]]) H
 obtain ⟨G,hG⟩:∃ G:zd,zZ.cells 1 [[zb ps]]::H.map (zX 1)=G:=⟨_,rfl⟩
 have hR2:=hR.lend hL
 have g3:G[3]?=some (.cells 3 (rows.map (yR 1))):=by
  rw [<-hG,hL 2 (yJ z2),z2];rfl
 rw [hG] at hR2
 have key:∃ st,EV A kk ⟨[(0,code ps),(1,.int .i64 i)],[],[],[]⟩=some (.ret,st)/\st.per.get 4=.sl 3 0 S.length S.length/\st.H=G:=by
  simp only [code,zb] at e1 e2 hG
  exact ⟨_,by (simp -implicitDefEqProofs +contextual (disch:=omega) only [kr,jo, ↓Q3,kO,Yn,code,zb,aB,aA, ↓XD,XU, ↓reduceIte,sevalprocAttr,e1,e2,c2,c3,hG])<;>rfl,rfl,by first|rfl|exact hG⟩
 obtain ⟨st,e,k4,kH⟩:=key
 refine ⟨hn,⟨G,st.ed,_,?_,g3,hR2⟩,_,?_,hR2.frz 4⟩
 ·have e3:=Ji (code ps) (.int .i64 i) []
  rw [e] at e3
  rw [e3, <-kH]
  simp -implicitDefEqProofs +contextual (disch:=omega) only [↓XD,XU, ↓reduceIte,sevalprocAttr,k4]
  simp [trim,bare,zn,refs]
 ·have e3:=U8 (code ps) (.int .i64 i)
  rw [e] at e3
  have hfz:xF 7 G 0 S.length S.length (some (.cells 3 (rows.map (yR 1))))=.fz ((rows.map (yR 1)).map (·.map (Go.Av.frz (4+3) G))):=by
   have h1:=QM 7 G 3 0 S.length S.length
   rw [g3] at h1
   exact h1.symm.trans (zbq g3 hR2.len 7)
  rw [e3]
  simp -implicitDefEqProofs +contextual (disch:=omega) only [↓XD,XU, ↓reduceIte,sevalprocAttr,k4,kH,g3,hfz]
theorem zpm (ps:List zc) (i:Int) (hb:ps.length<=1048576) (ht:w9 ps<=1048576) (hs:vz ps) (h:¬zmZ ps i):ES A ZP [code ps,.int .i64 i] []=some (.nils,[],[])/\EP A ZP [code ps,.int .i64 i]=some .nils:=by
 have e1:=zhA ps hb ht hs
 simp only [code,zb] at e1
 by_cases h1:(kM ps).1=0
 ·rw [(VJ h1).1] at e1
  by_cases h2:i<0
  ·constructor
   ·simp -implicitDefEqProofs +contextual (disch:=omega) only [Ji,kr,jo, ↓Q3,kO,Yn,code,zb, ↓XD,XU, ↓reduceIte,sevalprocAttr,e1,h2]
    simp [trim,bare,zn,refs]
   ·simp -implicitDefEqProofs +contextual (disch:=omega) only [U8,kr,jo, ↓Q3,kO,Yn,code,zb, ↓XD,XU, ↓reduceIte,sevalprocAttr,e1,h2]
  ·have h3:(ps.length:Int)<=i:=by
    by_cases h3:(ps.length:Int)<=i
    ·exact h3
    ·exact absurd ⟨⟨h1,by omega⟩,by omega⟩ h
   constructor
   ·simp -implicitDefEqProofs +contextual (disch:=omega) only [Ji,kr,jo, ↓Q3,kO,Yn,code,zb, ↓XD,XU, ↓reduceIte,sevalprocAttr,e1,h2,h3]
    simp [trim,bare,zn,refs]
   ·simp -implicitDefEqProofs +contextual (disch:=omega) only [U8,kr,jo, ↓Q3,kO,Yn,code,zb, ↓XD,XU, ↓reduceIte,sevalprocAttr,e1,h2,h3]
 ·constructor
  ·simp -implicitDefEqProofs +contextual (disch:=omega) only [Ji,kr,jo, ↓Q3,kO,Yn,code,zb, ↓XD,XU, ↓reduceIte,sevalprocAttr,e1,h1]
   simp [trim,bare,zn,refs]
  ·simp -implicitDefEqProofs +contextual (disch:=omega) only [U8,kr,jo, ↓Q3,kO,Yn,code,zb, ↓XD,XU, ↓reduceIte,sevalprocAttr,e1,h1]
end Go.Proofs.Tryd.Av
end
section
attribute [local congr] ite_congr
set_option maxRecDepth 10000
set_option maxHeartbeats 4000000
namespace Go.Proofs.Tryd.Av
open Go Go.Av Classical
abbrev K_:List Sh:=[.bool,.int .i64]
theorem zAY {H:zd} {R:Nat->Prop} {r:List PV} (h:xy H R K_ r):∃ x0 x1,r=[.bool x0,.int .i64 x1]:=by
 simp only [K_,xy,WT] at h
 obtain ⟨_,_,rfl,⟨x0,rfl⟩,h⟩:=h
 obtain ⟨_,_,rfl,⟨x1,rfl⟩,h⟩:=h
 subst h
 exact ⟨x0,x1,rfl⟩
theorem zCb (R:Nat->Prop) (H:zd) (id n:Nat) (k0:Int) (hw:WT H R (.slice K_) (.sl id 0 n n)) (hn:n<=1048576) (hid:R id) (h0:0<=k0) (hk:k0+1048576*2<=4611686018427387904):
  ∃ a':Int×zd,EV A (.loop (VD 0)) (⟨[(0,.sl id 0 n n),(1,.int .i64 k0),(4,.int .i64 0),(5,.int .i64 0)],[],H,[]⟩:St)=some (zp.exit 0,(⟨[(0,.sl id 0 n n),(1,.int .i64 a'.1),(4,.int .i64 0),(5,.int .i64 n)],[],a'.2,[]⟩:St))/\wS H a'.2/\(∀ j,¬R j->a'.2[j]?=H[j]?)/\k0<=a'.1/\a'.1<=k0+n*2:=by
 refine Vj (P:=A) (body:=VD 0) (λ (i:Int) (a:Int×zd)=>(⟨[(0,.sl id 0 n n),(1,.int .i64 a.1),(4,.int .i64 0),(5,.int .i64 i)],[],a.2,[]⟩:St)) (λ i a=>wS H a.2/\(∀ j,¬R j->a.2[j]?=H[j]?)/\k0<=a.1/\a.1<=k0+i*2) (λ a=>(zp.exit 0,(⟨[(0,.sl id 0 n n),(1,.int .i64 a.1),(4,.int .i64 0),(5,.int .i64 n)],[],a.2,[]⟩:St))) 0 n ?_ ?_ 0 (k0,H) (by omega) (by omega) ⟨.refl H,λ _ _=>rfl,by simp,by simp⟩
 ·rintro i ⟨k,G⟩ hi hin ⟨hK,hF,hk1,hk2⟩
  dsimp only at hK hF hk1 hk2 ⊢
  have hwG:=WT.kin hK hw (.same _)
  simp only [WT] at hwG
  obtain ⟨id',n',rows,e,_,hG,hl,_,hrows⟩:=hwG
  cases e
  have hi2:i.toNat<rows.length:=by omega
  have hr:=aE hi2
  obtain ⟨x0,x1,er⟩:=zAY (hrows _ (dA hi2))
  rw [er] at hr
  have hlt:id<G.length:=(aF.1 hG).1
  have q2:∀ b,(G.set id b)[id]?=some b:=λ b=>aK hlt
  have q6:∀ r,(rows.set i.toNat r)[i.toNat]?=some r:=λ r=>aK hi2
  have c1:wS G (G.set id (.cells 2 (rows.set i.toNat [.bool (decide ((k).tmod 3=0)),.int .i64 (k+1)]))):=wS.set hG hr (wz.cons (.bool ..) (wz.cons (.int ..) (wz.nil)))
  have f1:∀ j,¬R j->(G.set id (.cells 2 (rows.set i.toNat [.bool (decide ((k).tmod 3=0)),.int .i64 (k+1)])))[j]?=H[j]?:=λ j hj=>by rw [aH (λ (e:id=j)=>hj (by rw [<-e];exact hid))];exact hF j hj
  refine ⟨_,(k+1+1,(G.set id (.cells 2 (rows.set i.toNat [.bool (decide ((k).tmod 3=0)),.int .i64 (k+1)])))),by (simp -implicitDefEqProofs +contextual (disch:=omega) only [za',K8, ↓XD,XU, ↓reduceIte,sevalprocAttr,hin,hG,hr,hl,q2,q6,QO,bI,dR])<;>rfl,?_,wS.trans hK c1,f1,by dsimp only;omega,by dsimp only;rw [Int.add_mul];omega⟩
  simp only [St.next]
  rw [wL _ _ _ (by simp)]
  rfl
 ·rintro i ⟨k,G⟩ hi rfl hok
  refine ⟨by simp -implicitDefEqProofs +contextual (disch:=omega) only [za',K8, ↓XD,XU, ↓reduceIte,sevalprocAttr,aL],by simp⟩
theorem zCk:zhi A zeI K_ 2:=by
 intro R H p k hw h0 hk
 have hw':=hw
 simp only [WT] at hw'
 obtain ⟨id,n,rows,rfl,hid,_,_,hn,_⟩:=hw'
 obtain ⟨⟨k',H'⟩,e,h1,h2,h3,h4⟩:=zCb R H id n k hw hn hid h0 hk
 have hlen:=h1.1
 dsimp only at e h1 h2 h3 h4 hlen
 refine ⟨k',H',?_,h1,h2,h3,by omega⟩
 simp -implicitDefEqProofs +contextual (disch:=omega) only [zmU,zm9,K8, ↓XD,XU, ↓reduceIte,sevalprocAttr,e]
 rw [wL _ _ _ hlen.symm]
 try rfl
abbrev Yd:List Sh:=[.int .i64,.int .i64,.flt .f64,.str,.int .i64]
theorem ztH {H:zd} {R:Nat->Prop} {r:List PV} (h:xy H R Yd r):∃ x0 x1 x2 x3 x4,r=[.int .i64 x0,.int .i64 x1,.flt .f64 x2,.str x3,.int .i64 x4]:=by
 simp only [Yd,xy,WT] at h
 obtain ⟨_,_,rfl,⟨x0,rfl⟩,h⟩:=h
 obtain ⟨_,_,rfl,⟨x1,rfl⟩,h⟩:=h
 obtain ⟨_,_,rfl,⟨x2,rfl⟩,h⟩:=h
 obtain ⟨_,_,rfl,⟨x3,rfl⟩,h⟩:=h
 obtain ⟨_,_,rfl,⟨x4,rfl⟩,h⟩:=h
 subst h
 exact ⟨x0,x1,x2,x3,x4,rfl⟩
theorem zvo (R:Nat->Prop) (H:zd) (id n:Nat) (k0:Int) (hw:WT H R (.slice Yd) (.sl id 0 n n)) (hn:n<=1048576) (hid:R id) (h0:0<=k0) (hk:k0+1048576*5<=4611686018427387904):
  ∃ a':Int×zd,EV A (.loop (Yx 0)) (⟨[(0,.sl id 0 n n),(1,.int .i64 k0),(4,.int .i64 0),(5,.int .i64 0)],[],H,[]⟩:St)=some (zp.exit 0,(⟨[(0,.sl id 0 n n),(1,.int .i64 a'.1),(4,.int .i64 0),(5,.int .i64 n)],[],a'.2,[]⟩:St))/\wS H a'.2/\(∀ j,¬R j->a'.2[j]?=H[j]?)/\k0<=a'.1/\a'.1<=k0+n*5:=by
 refine Vj (P:=A) (body:=Yx 0) (λ (i:Int) (a:Int×zd)=>(⟨[(0,.sl id 0 n n),(1,.int .i64 a.1),(4,.int .i64 0),(5,.int .i64 i)],[],a.2,[]⟩:St)) (λ i a=>wS H a.2/\(∀ j,¬R j->a.2[j]?=H[j]?)/\k0<=a.1/\a.1<=k0+i*5) (λ a=>(zp.exit 0,(⟨[(0,.sl id 0 n n),(1,.int .i64 a.1),(4,.int .i64 0),(5,.int .i64 n)],[],a.2,[]⟩:St))) 0 n ?_ ?_ 0 (k0,H) (by omega) (by omega) ⟨.refl H,λ _ _=>rfl,by simp,by simp⟩
 ·rintro i ⟨k,G⟩ hi hin ⟨hK,hF,hk1,hk2⟩
  dsimp only at hK hF hk1 hk2 ⊢
  have hwG:=WT.kin hK hw (.same _)
  simp only [WT] at hwG
  obtain ⟨id',n',rows,e,_,hG,hl,_,hrows⟩:=hwG
  cases e
  have hi2:i.toNat<rows.length:=by omega
  have hr:=aE hi2
  obtain ⟨x0,x1,x2,x3,x4,er⟩:=ztH (hrows _ (dA hi2))
  rw [er] at hr
  have hlt:id<G.length:=(aF.1 hG).1
  have q2:∀ b,(G.set id b)[id]?=some b:=λ b=>aK hlt
  have q6:∀ r,(rows.set i.toNat r)[i.toNat]?=some r:=λ r=>aK hi2
  have t3:=zdL (k+1+1+1) (by omega)
  have c1:wS G (G.set id (.cells 5 (rows.set i.toNat [.int .i64 (k),.int .i64 (k+1),.flt .f64 (FloatKind.f64.nearest (k+1+1)),.str (Jc (k+1+1+1)),.int .i64 (k+1+1+1+1)]))):=wS.set hG hr (wz.cons (.int ..) (wz.cons (.int ..) (wz.cons (.flt ..) (wz.cons (.str ..) (wz.cons (.int ..) (wz.nil))))))
  have f1:∀ j,¬R j->(G.set id (.cells 5 (rows.set i.toNat [.int .i64 (k),.int .i64 (k+1),.flt .f64 (FloatKind.f64.nearest (k+1+1)),.str (Jc (k+1+1+1)),.int .i64 (k+1+1+1+1)])))[j]?=H[j]?:=λ j hj=>by rw [aH (λ (e:id=j)=>hj (by rw [<-e];exact hid))];exact hF j hj
  refine ⟨_,(k+1+1+1+1+1,(G.set id (.cells 5 (rows.set i.toNat [.int .i64 (k),.int .i64 (k+1),.flt .f64 (FloatKind.f64.nearest (k+1+1)),.str (Jc (k+1+1+1)),.int .i64 (k+1+1+1+1)])))),by (simp -implicitDefEqProofs +contextual (disch:=omega) only [Ql,Vo, ↓XD,XU, ↓reduceIte,sevalprocAttr,hin,hG,hr,hl,q2,q6,QO,bI,dR,t3])<;>rfl,?_,wS.trans hK c1,f1,by dsimp only;omega,by dsimp only;rw [Int.add_mul];omega⟩
  simp only [St.next]
  rw [wL _ _ _ (by simp)]
  rfl
 ·rintro i ⟨k,G⟩ hi rfl hok
  refine ⟨by simp -implicitDefEqProofs +contextual (disch:=omega) only [Ql,Vo, ↓XD,XU, ↓reduceIte,sevalprocAttr,aL],by simp⟩
theorem zvy:zhi A za4 Yd 5:=by
 intro R H p k hw h0 hk
 have hw':=hw
 simp only [WT] at hw'
 obtain ⟨id,n,rows,rfl,hid,_,_,hn,_⟩:=hw'
 obtain ⟨⟨k',H'⟩,e,h1,h2,h3,h4⟩:=zvo R H id n k hw hn hid h0 hk
 have hlen:=h1.1
 dsimp only at e h1 h2 h3 h4 hlen
 refine ⟨k',H',?_,h1,h2,h3,by omega⟩
 simp -implicitDefEqProofs +contextual (disch:=omega) only [ziR,ziW,Vo, ↓XD,XU, ↓reduceIte,sevalprocAttr,e]
 rw [wL _ _ _ hlen.symm]
 try rfl
abbrev VV:List Sh:=[.int .i64,.int .i64,.int .i64,.int .i64,.int .i64]
theorem zyj {H:zd} {R:Nat->Prop} {r:List PV} (h:xy H R VV r):∃ x0 x1 x2 x3 x4,r=[.int .i64 x0,.int .i64 x1,.int .i64 x2,.int .i64 x3,.int .i64 x4]:=by
 simp only [VV,xy,WT] at h
 obtain ⟨_,_,rfl,⟨x0,rfl⟩,h⟩:=h
 obtain ⟨_,_,rfl,⟨x1,rfl⟩,h⟩:=h
 obtain ⟨_,_,rfl,⟨x2,rfl⟩,h⟩:=h
 obtain ⟨_,_,rfl,⟨x3,rfl⟩,h⟩:=h
 obtain ⟨_,_,rfl,⟨x4,rfl⟩,h⟩:=h
 subst h
 exact ⟨x0,x1,x2,x3,x4,rfl⟩
theorem zAo (R:Nat->Prop) (H:zd) (id n:Nat) (k0:Int) (hw:WT H R (.slice VV) (.sl id 0 n n)) (hn:n<=1048576) (hid:R id) (h0:0<=k0) (hk:k0+1048576*5<=4611686018427387904):
  ∃ a':Int×zd,EV A (.loop (WI 0)) (⟨[(0,.sl id 0 n n),(1,.int .i64 k0),(4,.int .i64 0),(5,.int .i64 0)],[],H,[]⟩:St)=some (zp.exit 0,(⟨[(0,.sl id 0 n n),(1,.int .i64 a'.1),(4,.int .i64 0),(5,.int .i64 n)],[],a'.2,[]⟩:St))/\wS H a'.2/\(∀ j,¬R j->a'.2[j]?=H[j]?)/\k0<=a'.1/\a'.1<=k0+n*5:=by
 refine Vj (P:=A) (body:=WI 0) (λ (i:Int) (a:Int×zd)=>(⟨[(0,.sl id 0 n n),(1,.int .i64 a.1),(4,.int .i64 0),(5,.int .i64 i)],[],a.2,[]⟩:St)) (λ i a=>wS H a.2/\(∀ j,¬R j->a.2[j]?=H[j]?)/\k0<=a.1/\a.1<=k0+i*5) (λ a=>(zp.exit 0,(⟨[(0,.sl id 0 n n),(1,.int .i64 a.1),(4,.int .i64 0),(5,.int .i64 n)],[],a.2,[]⟩:St))) 0 n ?_ ?_ 0 (k0,H) (by omega) (by omega) ⟨.refl H,λ _ _=>rfl,by simp,by simp⟩
 ·rintro i ⟨k,G⟩ hi hin ⟨hK,hF,hk1,hk2⟩
  dsimp only at hK hF hk1 hk2 ⊢
  have hwG:=WT.kin hK hw (.same _)
  simp only [WT] at hwG
  obtain ⟨id',n',rows,e,_,hG,hl,_,hrows⟩:=hwG
  cases e
  have hi2:i.toNat<rows.length:=by omega
  have hr:=aE hi2
  obtain ⟨x0,x1,x2,x3,x4,er⟩:=zyj (hrows _ (dA hi2))
  rw [er] at hr
  have hlt:id<G.length:=(aF.1 hG).1
  have q2:∀ b,(G.set id b)[id]?=some b:=λ b=>aK hlt
  have q6:∀ r,(rows.set i.toNat r)[i.toNat]?=some r:=λ r=>aK hi2
  have c1:wS G (G.set id (.cells 5 (rows.set i.toNat [.int .i64 (k),.int .i64 (k+1),.int .i64 (k+1+1),.int .i64 (k+1+1+1),.int .i64 (k+1+1+1+1)]))):=wS.set hG hr (wz.cons (.int ..) (wz.cons (.int ..) (wz.cons (.int ..) (wz.cons (.int ..) (wz.cons (.int ..) (wz.nil))))))
  have f1:∀ j,¬R j->(G.set id (.cells 5 (rows.set i.toNat [.int .i64 (k),.int .i64 (k+1),.int .i64 (k+1+1),.int .i64 (k+1+1+1),.int .i64 (k+1+1+1+1)])))[j]?=H[j]?:=λ j hj=>by rw [aH (λ (e:id=j)=>hj (by rw [<-e];exact hid))];exact hF j hj
  refine ⟨_,(k+1+1+1+1+1,(G.set id (.cells 5 (rows.set i.toNat [.int .i64 (k),.int .i64 (k+1),.int .i64 (k+1+1),.int .i64 (k+1+1+1),.int .i64 (k+1+1+1+1)])))),by (simp -implicitDefEqProofs +contextual (disch:=omega) only [zaw,JW, ↓XD,XU, ↓reduceIte,sevalprocAttr,hin,hG,hr,hl,q2,q6,QO,bI,dR])<;>rfl,?_,wS.trans hK c1,f1,by dsimp only;omega,by dsimp only;rw [Int.add_mul];omega⟩
  simp only [St.next]
  rw [wL _ _ _ (by simp)]
  rfl
 ·rintro i ⟨k,G⟩ hi rfl hok
  refine ⟨by simp -implicitDefEqProofs +contextual (disch:=omega) only [zaw,JW, ↓XD,XU, ↓reduceIte,sevalprocAttr,aL],by simp⟩
theorem zAv:zhi A zcZ VV 5:=by
 intro R H p k hw h0 hk
 have hw':=hw
 simp only [WT] at hw'
 obtain ⟨id,n,rows,rfl,hid,_,_,hn,_⟩:=hw'
 obtain ⟨⟨k',H'⟩,e,h1,h2,h3,h4⟩:=zAo R H id n k hw hn hid h0 hk
 have hlen:=h1.1
 dsimp only at e h1 h2 h3 h4 hlen
 refine ⟨k',H',?_,h1,h2,h3,by omega⟩
 simp -implicitDefEqProofs +contextual (disch:=omega) only [zls,zlN,JW, ↓XD,XU, ↓reduceIte,sevalprocAttr,e]
 rw [wL _ _ _ hlen.symm]
 try rfl
abbrev Yc:List Sh:=[.str,.int .i64,.int .i64,.int .i64]
theorem ztG {H:zd} {R:Nat->Prop} {r:List PV} (h:xy H R Yc r):∃ x0 x1 x2 x3,r=[.str x0,.int .i64 x1,.int .i64 x2,.int .i64 x3]:=by
 simp only [Yc,xy,WT] at h
 obtain ⟨_,_,rfl,⟨x0,rfl⟩,h⟩:=h
 obtain ⟨_,_,rfl,⟨x1,rfl⟩,h⟩:=h
 obtain ⟨_,_,rfl,⟨x2,rfl⟩,h⟩:=h
 obtain ⟨_,_,rfl,⟨x3,rfl⟩,h⟩:=h
 subst h
 exact ⟨x0,x1,x2,x3,rfl⟩
theorem zvm (R:Nat->Prop) (H:zd) (id n:Nat) (k0:Int) (hw:WT H R (.slice Yc) (.sl id 0 n n)) (hn:n<=1048576) (hid:R id) (h0:0<=k0) (hk:k0+1048576*4<=4611686018427387904):
  ∃ a':Int×zd,EV A (.loop (Yv 0)) (⟨[(0,.sl id 0 n n),(1,.int .i64 k0),(4,.int .i64 0),(5,.int .i64 0)],[],H,[]⟩:St)=some (zp.exit 0,(⟨[(0,.sl id 0 n n),(1,.int .i64 a'.1),(4,.int .i64 0),(5,.int .i64 n)],[],a'.2,[]⟩:St))/\wS H a'.2/\(∀ j,¬R j->a'.2[j]?=H[j]?)/\k0<=a'.1/\a'.1<=k0+n*4:=by
 refine Vj (P:=A) (body:=Yv 0) (λ (i:Int) (a:Int×zd)=>(⟨[(0,.sl id 0 n n),(1,.int .i64 a.1),(4,.int .i64 0),(5,.int .i64 i)],[],a.2,[]⟩:St)) (λ i a=>wS H a.2/\(∀ j,¬R j->a.2[j]?=H[j]?)/\k0<=a.1/\a.1<=k0+i*4) (λ a=>(zp.exit 0,(⟨[(0,.sl id 0 n n),(1,.int .i64 a.1),(4,.int .i64 0),(5,.int .i64 n)],[],a.2,[]⟩:St))) 0 n ?_ ?_ 0 (k0,H) (by omega) (by omega) ⟨.refl H,λ _ _=>rfl,by simp,by simp⟩
 ·rintro i ⟨k,G⟩ hi hin ⟨hK,hF,hk1,hk2⟩
  dsimp only at hK hF hk1 hk2 ⊢
  have hwG:=WT.kin hK hw (.same _)
  simp only [WT] at hwG
  obtain ⟨id',n',rows,e,_,hG,hl,_,hrows⟩:=hwG
  cases e
  have hi2:i.toNat<rows.length:=by omega
  have hr:=aE hi2
  obtain ⟨x0,x1,x2,x3,er⟩:=ztG (hrows _ (dA hi2))
  rw [er] at hr
  have hlt:id<G.length:=(aF.1 hG).1
  have q2:∀ b,(G.set id b)[id]?=some b:=λ b=>aK hlt
  have q6:∀ r,(rows.set i.toNat r)[i.toNat]?=some r:=λ r=>aK hi2
  have t0:=zdL (k) (by omega)
  have c1:wS G (G.set id (.cells 4 (rows.set i.toNat [.str (Jc (k)),.int .i64 (k+1),.int .i64 (k+1+1),.int .i64 (k+1+1+1)]))):=wS.set hG hr (wz.cons (.str ..) (wz.cons (.int ..) (wz.cons (.int ..) (wz.cons (.int ..) (wz.nil)))))
  have f1:∀ j,¬R j->(G.set id (.cells 4 (rows.set i.toNat [.str (Jc (k)),.int .i64 (k+1),.int .i64 (k+1+1),.int .i64 (k+1+1+1)])))[j]?=H[j]?:=λ j hj=>by rw [aH (λ (e:id=j)=>hj (by rw [<-e];exact hid))];exact hF j hj
  refine ⟨_,(k+1+1+1+1,(G.set id (.cells 4 (rows.set i.toNat [.str (Jc (k)),.int .i64 (k+1),.int .i64 (k+1+1),.int .i64 (k+1+1+1)])))),by (simp -implicitDefEqProofs +contextual (disch:=omega) only [Qj,Vm, ↓XD,XU, ↓reduceIte,sevalprocAttr,hin,hG,hr,hl,q2,q6,QO,bI,dR,t0])<;>rfl,?_,wS.trans hK c1,f1,by dsimp only;omega,by dsimp only;rw [Int.add_mul];omega⟩
  simp only [St.next]
  rw [wL _ _ _ (by simp)]
  rfl
 ·rintro i ⟨k,G⟩ hi rfl hok
  refine ⟨by simp -implicitDefEqProofs +contextual (disch:=omega) only [Qj,Vm, ↓XD,XU, ↓reduceIte,sevalprocAttr,aL],by simp⟩
theorem zvw:zhi A za2 Yc 4:=by
 intro R H p k hw h0 hk
 have hw':=hw
 simp only [WT] at hw'
 obtain ⟨id,n,rows,rfl,hid,_,_,hn,_⟩:=hw'
 obtain ⟨⟨k',H'⟩,e,h1,h2,h3,h4⟩:=zvm R H id n k hw hn hid h0 hk
 have hlen:=h1.1
 dsimp only at e h1 h2 h3 h4 hlen
 refine ⟨k',H',?_,h1,h2,h3,by omega⟩
 simp -implicitDefEqProofs +contextual (disch:=omega) only [ziP,ziU,Vm, ↓XD,XU, ↓reduceIte,sevalprocAttr,e]
 rw [wL _ _ _ hlen.symm]
 try rfl
abbrev uX:List Sh:=[.str,.int .i64,.int .i64,.bool,.int .i64,.slice K_,.slice Yd,.slice VV,.slice Yc]
theorem zlb {H:zd} {R:Nat->Prop} {r:List PV} (h:xy H R uX r):∃ x0 x1 x2 x3 x4 x5 x6 x7 x8,r=[.str x0,.int .i64 x1,.int .i64 x2,.bool x3,.int .i64 x4,x5,x6,x7,x8]/\WT H R (.slice K_) x5/\WT H R (.slice Yd) x6/\WT H R (.slice VV) x7/\WT H R (.slice Yc) x8:=by
 simp only [uX,xy,WT] at h
 obtain ⟨_,_,rfl,⟨x0,rfl⟩,h⟩:=h
 obtain ⟨_,_,rfl,⟨x1,rfl⟩,h⟩:=h
 obtain ⟨_,_,rfl,⟨x2,rfl⟩,h⟩:=h
 obtain ⟨_,_,rfl,⟨x3,rfl⟩,h⟩:=h
 obtain ⟨_,_,rfl,⟨x4,rfl⟩,h⟩:=h
 obtain ⟨x5,_,rfl,h5,h⟩:=h
 obtain ⟨x6,_,rfl,h6,h⟩:=h
 obtain ⟨x7,_,rfl,h7,h⟩:=h
 obtain ⟨x8,_,rfl,h8,h⟩:=h
 subst h
 exact ⟨x0,x1,x2,x3,x4,x5,x6,x7,x8,rfl,h5,h6,h7,h8⟩
theorem zvn (R:Nat->Prop) (H:zd) (id n:Nat) (k0:Int) (hw:WT H R (.slice uX) (.sl id 0 n n)) (hn:n<=1048576) (hid:R id) (h0:0<=k0) (hk:k0+1048576*16777221<=4611686018427387904):
  ∃ a':Int×zd,EV A (.loop (Yw 0)) (⟨[(0,.sl id 0 n n),(1,.int .i64 k0),(4,.int .i64 0),(5,.int .i64 0)],[],H,[]⟩:St)=some (zp.exit 0,(⟨[(0,.sl id 0 n n),(1,.int .i64 a'.1),(4,.int .i64 0),(5,.int .i64 n)],[],a'.2,[]⟩:St))/\wS H a'.2/\(∀ j,¬R j->a'.2[j]?=H[j]?)/\k0<=a'.1/\a'.1<=k0+n*16777221:=by
 refine Vj (P:=A) (body:=Yw 0) (λ (i:Int) (a:Int×zd)=>(⟨[(0,.sl id 0 n n),(1,.int .i64 a.1),(4,.int .i64 0),(5,.int .i64 i)],[],a.2,[]⟩:St)) (λ i a=>wS H a.2/\(∀ j,¬R j->a.2[j]?=H[j]?)/\k0<=a.1/\a.1<=k0+i*16777221) (λ a=>(zp.exit 0,(⟨[(0,.sl id 0 n n),(1,.int .i64 a.1),(4,.int .i64 0),(5,.int .i64 n)],[],a.2,[]⟩:St))) 0 n ?_ ?_ 0 (k0,H) (by omega) (by omega) ⟨.refl H,λ _ _=>rfl,by simp,by simp⟩
 ·rintro i ⟨k,G⟩ hi hin ⟨hK,hF,hk1,hk2⟩
  dsimp only at hK hF hk1 hk2 ⊢
  have hwG:=WT.kin hK hw (.same _)
  simp only [WT] at hwG
  obtain ⟨id',n',rows,e,_,hG,hl,_,hrows⟩:=hwG
  cases e
  have hi2:i.toNat<rows.length:=by omega
  have hr:=aE hi2
  obtain ⟨x0,x1,x2,x3,x4,x5,x6,x7,x8,er,w5,w6,w7,w8⟩:=zlb (hrows _ (dA hi2))
  rw [er] at hr
  have hlt:id<G.length:=(aF.1 hG).1
  have q2:∀ b,(G.set id b)[id]?=some b:=λ b=>aK hlt
  have q6:∀ r,(rows.set i.toNat r)[i.toNat]?=some r:=λ r=>aK hi2
  have t0:=zdL (k) (by omega)
  have c1:wS G (G.set id (.cells 9 (rows.set i.toNat [.str (Jc (k)),.int .i64 (k+1),.int .i64 (k+1+1),.bool (decide ((k+1+1+1).tmod 3=0)),.int .i64 (k+1+1+1+1),x5,x6,x7,x8]))):=wS.set hG hr (wz.cons (.str ..) (wz.cons (.int ..) (wz.cons (.int ..) (wz.cons (.bool ..) (wz.cons (.int ..) (wz.cons (.same _) (wz.cons (.same _) (wz.cons (.same _) (wz.cons (.same _) (wz.nil))))))))))
  have f1:∀ j,¬R j->(G.set id (.cells 9 (rows.set i.toNat [.str (Jc (k)),.int .i64 (k+1),.int .i64 (k+1+1),.bool (decide ((k+1+1+1).tmod 3=0)),.int .i64 (k+1+1+1+1),x5,x6,x7,x8])))[j]?=H[j]?:=λ j hj=>by rw [aH (λ (e:id=j)=>hj (by rw [<-e];exact hid))];exact hF j hj
  obtain ⟨k2,G2,e2,c2,g2,l2,u2⟩:=zCk R (G.set id (.cells 9 (rows.set i.toNat [.str (Jc (k)),.int .i64 (k+1),.int .i64 (k+1+1),.bool (decide ((k+1+1+1).tmod 3=0)),.int .i64 (k+1+1+1+1),x5,x6,x7,x8]))) x5 (k+1+1+1+1+1) (WT.kin c1 w5 (.same _)) (by omega) (by omega)
  have c2':=wS.trans c1 c2
  obtain ⟨rows2,hG2,hl2,hr2'⟩:=c2'.at_ hG
  obtain ⟨r2,hr2,kr2⟩:=hr2' _ _ hr
  have hl12:rows2.length=n:=by omega
  have f2:∀ j,¬R j->G2[j]?=H[j]?:=λ j hj=>(g2 j hj).trans (f1 j hj)
  have s2_6:r2[6]?=some x6:=by
   have hj:6<r2.length:=by rw [<-kr2.1];simp
   have e1:=aE hj
   rw [e1]
   have e2:=kr2.2 6 x6 _ rfl e1
   obtain ⟨_,_,_,rfl,_⟩:∃ a b c,x6=.sl a 0 b b/\c=c:=by have:=w6;simp only [WT] at this;obtain ⟨a,b,c,e,_⟩:=this;exact ⟨a,b,0,e,rfl⟩
   generalize r2[6]=y at e2
   cases e2;rfl
  have d2_6:yp false 1 (r2.drop 6)=some x6:=by simp only [yp];exact QK s2_6
  have s2_7:r2[7]?=some x7:=by
   have hj:7<r2.length:=by rw [<-kr2.1];simp
   have e1:=aE hj
   rw [e1]
   have e2:=kr2.2 7 x7 _ rfl e1
   obtain ⟨_,_,_,rfl,_⟩:∃ a b c,x7=.sl a 0 b b/\c=c:=by have:=w7;simp only [WT] at this;obtain ⟨a,b,c,e,_⟩:=this;exact ⟨a,b,0,e,rfl⟩
   generalize r2[7]=y at e2
   cases e2;rfl
  have d2_7:yp false 1 (r2.drop 7)=some x7:=by simp only [yp];exact QK s2_7
  have s2_8:r2[8]?=some x8:=by
   have hj:8<r2.length:=by rw [<-kr2.1];simp
   have e1:=aE hj
   rw [e1]
   have e2:=kr2.2 8 x8 _ rfl e1
   obtain ⟨_,_,_,rfl,_⟩:∃ a b c,x8=.sl a 0 b b/\c=c:=by have:=w8;simp only [WT] at this;obtain ⟨a,b,c,e,_⟩:=this;exact ⟨a,b,0,e,rfl⟩
   generalize r2[8]=y at e2
   cases e2;rfl
  have d2_8:yp false 1 (r2.drop 8)=some x8:=by simp only [yp];exact QK s2_8
  obtain ⟨k3,G3,e3,c3,g3,l3,u3⟩:=zvy R G2 x6 (k2) (WT.kin c2' w6 (.same _)) (by omega) (by omega)
  have c3':=wS.trans c2' c3
  obtain ⟨rows3,hG3,hl3,hr3'⟩:=c3'.at_ hG
  obtain ⟨r3,hr3,kr3⟩:=hr3' _ _ hr
  have hl13:rows3.length=n:=by omega
  have f3:∀ j,¬R j->G3[j]?=H[j]?:=λ j hj=>(g3 j hj).trans (f2 j hj)
  have s3_7:r3[7]?=some x7:=by
   have hj:7<r3.length:=by rw [<-kr3.1];simp
   have e1:=aE hj
   rw [e1]
   have e2:=kr3.2 7 x7 _ rfl e1
   obtain ⟨_,_,_,rfl,_⟩:∃ a b c,x7=.sl a 0 b b/\c=c:=by have:=w7;simp only [WT] at this;obtain ⟨a,b,c,e,_⟩:=this;exact ⟨a,b,0,e,rfl⟩
   generalize r3[7]=y at e2
   cases e2;rfl
  have d3_7:yp false 1 (r3.drop 7)=some x7:=by simp only [yp];exact QK s3_7
  have s3_8:r3[8]?=some x8:=by
   have hj:8<r3.length:=by rw [<-kr3.1];simp
   have e1:=aE hj
   rw [e1]
   have e2:=kr3.2 8 x8 _ rfl e1
   obtain ⟨_,_,_,rfl,_⟩:∃ a b c,x8=.sl a 0 b b/\c=c:=by have:=w8;simp only [WT] at this;obtain ⟨a,b,c,e,_⟩:=this;exact ⟨a,b,0,e,rfl⟩
   generalize r3[8]=y at e2
   cases e2;rfl
  have d3_8:yp false 1 (r3.drop 8)=some x8:=by simp only [yp];exact QK s3_8
  obtain ⟨k4,G4,e4,c4,g4,l4,u4⟩:=zAv R G3 x7 (k3) (WT.kin c3' w7 (.same _)) (by omega) (by omega)
  have c4':=wS.trans c3' c4
  obtain ⟨rows4,hG4,hl4,hr4'⟩:=c4'.at_ hG
  obtain ⟨r4,hr4,kr4⟩:=hr4' _ _ hr
  have hl14:rows4.length=n:=by omega
  have f4:∀ j,¬R j->G4[j]?=H[j]?:=λ j hj=>(g4 j hj).trans (f3 j hj)
  have s4_8:r4[8]?=some x8:=by
   have hj:8<r4.length:=by rw [<-kr4.1];simp
   have e1:=aE hj
   rw [e1]
   have e2:=kr4.2 8 x8 _ rfl e1
   obtain ⟨_,_,_,rfl,_⟩:∃ a b c,x8=.sl a 0 b b/\c=c:=by have:=w8;simp only [WT] at this;obtain ⟨a,b,c,e,_⟩:=this;exact ⟨a,b,0,e,rfl⟩
   generalize r4[8]=y at e2
   cases e2;rfl
  have d4_8:yp false 1 (r4.drop 8)=some x8:=by simp only [yp];exact QK s4_8
  obtain ⟨k5,G5,e5,c5,g5,l5,u5⟩:=zvw R G4 x8 (k4) (WT.kin c4' w8 (.same _)) (by omega) (by omega)
  have c5':=wS.trans c4' c5
  obtain ⟨rows5,hG5,hl5,hr5'⟩:=c5'.at_ hG
  obtain ⟨r5,hr5,kr5⟩:=hr5' _ _ hr
  have hl15:rows5.length=n:=by omega
  have f5:∀ j,¬R j->G5[j]?=H[j]?:=λ j hj=>(g5 j hj).trans (f4 j hj)
  refine ⟨_,(k5,G5),by (simp -implicitDefEqProofs +contextual (disch:=omega) only [Qk,Vn, ↓XD,XU, ↓reduceIte,sevalprocAttr,hin,hG,hr,hl,q2,q6,QO,bI,dR,t0,e2,hG2,hl12,hr2,e3,hG3,hl13,hr3,e4,hG4,hl14,hr4,e5,hG5,hl15,hr5,d2_6,d2_7,d2_8,d3_7,d3_8,d4_8])<;>rfl,?_,wS.trans hK c5',f5,by dsimp only;omega,by dsimp only;rw [Int.add_mul];omega⟩
  simp only [St.next]
  rw [wL _ _ _ (c5'.1.symm)]
  rfl
 ·rintro i ⟨k,G⟩ hi rfl hok
  refine ⟨by simp -implicitDefEqProofs +contextual (disch:=omega) only [Qk,Vn, ↓XD,XU, ↓reduceIte,sevalprocAttr,aL],by simp⟩
theorem zvx:zhi A za3 uX 16777221:=by
 intro R H p k hw h0 hk
 have hw':=hw
 simp only [WT] at hw'
 obtain ⟨id,n,rows,rfl,hid,_,_,hn,_⟩:=hw'
 obtain ⟨⟨k',H'⟩,e,h1,h2,h3,h4⟩:=zvn R H id n k hw hn hid h0 hk
 have hlen:=h1.1
 dsimp only at e h1 h2 h3 h4 hlen
 refine ⟨k',H',?_,h1,h2,h3,by omega⟩
 simp -implicitDefEqProofs +contextual (disch:=omega) only [ziQ,ziV,Vn, ↓XD,XU, ↓reduceIte,sevalprocAttr,e]
 rw [wL _ _ _ hlen.symm]
 try rfl
def wc {α:Type} (f:α->List PV):Option (List α)->PV
 |none=>.nils
 |some l=>.fz (l.map f)
abbrev ol {α:Type} (o:Option (List α)):List α:=o.getD []
theorem JQ {α:Type} (f:α->List PV) (l:List α):wc f (some l)=.fz (l.map f):=rfl
theorem yq {α:Type} (f:α->List PV) (o:Option (List α)):ZH (wc f o)=some (.int .i64 (ol o).length):=by cases o<;>simp [wc,ZH,ol]
theorem jk {α:Type} [Inhabited α] (f:α->List PV) (o:Option (List α)) (sz:Nat) (H:zd) (k:IntKind) (i:Int) (h0:0<=i) (h:i<(ol o).length):wH sz H (wc f o) (.int k i)=if (f (za (ol o) i)).length=sz then some (.fp (f (za (ol o) i)) 0) else none:=by
 cases o with
 |none=>simp [ol] at h;omega
 |some l=>exact zrW sz H f l k i h0 h
theorem xm {α:Type} (f:α->List PV) (o:Option (List α)) (d:Nat) (H:zd):frz (d+1) H (wc f o)=wc f o:=by cases o<;>rfl
theorem wO {α:Type} (f:α->List PV) (o:Option (List α)):refs (wc f o)=[]:=by cases o<;>simp [wc,refs]
theorem vd {α:Type} (f:α->List PV) (o:Option (List α)):zH (wc f o)=true:=by cases o<;>rfl
theorem Ws {α:Type} (f:α->List PV) (o:Option (List α)):cellsOf (wc f o)=[wc f o]:=by cases o<;>rfl
abbrev iv (k:Int):List PV:=[.int .i64 k]
abbrev sv (s:ByteArray):List PV:=[.str s]
structure zU where
 Name:ByteArray
 Line:Int
 Params:Int
 Rest:Bool
 Regs:Int
 Ups:Option (List Up)
 Consts:Option (List yo)
 Ins:Option (List Ins)
 Named:Option (List xz)
 deriving Inhabited
abbrev zU.cells (p:zU):List PV:=[.str p.Name,.int .i64 p.Line,.int .i64 p.Params,.bool p.Rest,.int .i64 p.Regs,wc Up.cells p.Ups,wc yo.cells p.Consts,wc Ins.cells p.Ins,wc xz.cells p.Named]
abbrev VR (o:Option (List zU)):List PV:=[wc zU.cells o]
def rest (left t:Int):Int:=if left<t then -1 else left-t
abbrev JN (c:Int->Int) (i:Int) (l:Int):Int ⊕ Unit:=if l<c i then .inr () else .inl (l-c i)
def vi (c:Int->Int):Nat->Int->Int
 |0,_=>0
 |m+1,i=>c i+vi c m (i+1)
theorem uI {c:Int->Int} (hc:∀ i,0<=c i):∀ (m:Nat) (i:Int),0<=vi c m i
 |0,_=>Int.le_refl 0
 |m+1,i=>by have:=hc i;have:=uI hc m (i+1);rw [vi];omega
theorem zsg {c:Int->Int} (hc:∀ i,0<=c i):∀ (m:Nat) (i l:Int),0<=l->ug (JN c) m i l=if l<vi c m i then .inr () else .inl (l-vi c m i)
 |0,i,l,h0=>by rw [ug,vi,if_neg (by omega),Int.sub_zero]
 |m+1,i,l,h0=>by
  have h1:=hc i
  have h2:=uI hc m (i+1)
  have e:vi c (m+1) i=c i+vi c m (i+1):=rfl
  rw [ug,JN,e]
  by_cases h:l<c i
  ·rw [if_pos h,if_pos (by omega)]
  ·rw [if_neg h]
   dsimp only
   rw [zsg hc m (i+1) (l-c i) (by omega)]
   by_cases h3:l-c i<vi c m (i+1)
   ·rw [if_pos h3,if_pos (by omega)]
   ·rw [if_neg h3,if_neg (by omega)];congr 1;omega
theorem zj_ {c:Int->Int} (hc:∀ i,0<=c i) (m:Nat) (l:Int) (h0:0<=l):(match ug (JN c) m 0 l with|.inl a=>a|.inr _=> -1)=rest l (vi c m 0):=by
 rw [zsg hc _ _ _ h0,rest]
 by_cases h:l<vi c m 0
 ·rw [if_pos h,if_pos h]
 ·rw [if_neg h,if_neg h]
theorem zwV (o:Option (List Up)) (left:Int) (h0:0<=left) (h1:left<=1048576) (hb:(ol o).length<=9223372036854775807):EP A zh0 [wc Up.cells o,.int .i64 left]=some (.int .i64 (rest left (ol o).length)):=by
 have e:(left-(ol o).length<0)=(left<(ol o).length):=by rw [eq_iff_iff];omega
 simp -implicitDefEqProofs +contextual (disch:=omega) only [zo_,zqj,zod,yq,xm, ↓XD,XU, ↓reduceIte,sevalprocAttr]
 simp [rest,e]
theorem zuF (o:Option (List Ins)) (left:Int) (h0:0<=left) (h1:left<=1048576) (hb:(ol o).length<=9223372036854775807):EP A zgF [wc Ins.cells o,.int .i64 left]=some (.int .i64 (rest left (ol o).length)):=by
 have e:(left-(ol o).length<0)=(left<(ol o).length):=by rw [eq_iff_iff];omega
 simp -implicitDefEqProofs +contextual (disch:=omega) only [zn3,zop,zmR,yq,xm, ↓XD,XU, ↓reduceIte,sevalprocAttr]
 simp [rest,e]
theorem zsP (v:yo) (left:Int) (h0:0<=left) (h1:left<=1048576) (hs:v.Str.size<=9223372036854775807):EP A zeL [.agg v.cells,.int .i64 left]=some (.int .i64 (rest left v.Str.size)):=by
 have e:(left-v.Str.size<0)=(left<v.Str.size):=by rw [eq_iff_iff];omega
 simp -implicitDefEqProofs +contextual (disch:=omega) only [zms,zm',zli,yo.cells, ↓XD,XU, ↓reduceIte,sevalprocAttr]
 simp [rest,e]
theorem zsN (v:xz) (left:Int) (h0:0<=left) (h1:left<=1048576) (hs:v.Name.size<=9223372036854775807):EP A zeJ [.agg v.cells,.int .i64 left]=some (.int .i64 (rest left v.Name.size)):=by
 have e:(left-v.Name.size<0)=(left<v.Name.size):=by rw [eq_iff_iff];omega
 simp -implicitDefEqProofs +contextual (disch:=omega) only [zmr,zm_,zlh,xz.cells, ↓XD,XU, ↓reduceIte,sevalprocAttr]
 simp [rest,e]
theorem zrk (o:Option (List yo)) (hb:(ol o).length<=1048576) (hs:∀ i:Int,(za (ol o) i).Str.size<=9223372036854775807) (a0:Int) (hok0:0<=a0/\a0<=1048576):zcv (λ (a:Int)=>EV A (.loop (ZZ 0)) (⟨[(0,wc yo.cells o),(1,.int .i64 a0),(4,.int .i64 0),(5,.int .i64 (0))],[],[],[]⟩:St)=some (zp.exit 0,(⟨[(0,wc yo.cells o),(1,.int .i64 a),(4,.int .i64 0),(5,.int .i64 ((ol o).length))],[],[],[]⟩:St))/\0<=a/\a<=1048576) (λ (r:Unit)=>∃ st,EV A (.loop (ZZ 0)) (⟨[(0,wc yo.cells o),(1,.int .i64 a0),(4,.int .i64 0),(5,.int .i64 (0))],[],[],[]⟩:St)=some (.ret,st)/\st.per.get 4=.int .i64 (-1)) (ug (λ (i:Int) (a:Int)=>JN (λ k=>((za (ol o) k).Str.size:Int)) i a) (((ol o).length:Int)-0).toNat (0) a0):=by
 refine XA (P:=A) (body:=(ZZ 0)) (λ i (a:Int)=>(⟨[(0,wc yo.cells o),(1,.int .i64 a),(4,.int .i64 0),(5,.int .i64 i)],[],[],[]⟩:St)) (λ (i:Int) (a:Int)=>JN (λ k=>((za (ol o) k).Str.size:Int)) i a) (λ i (a:Int)=>0<=a/\a<=1048576) (λ a=>(zp.exit 0,(⟨[(0,wc yo.cells o),(1,.int .i64 a),(4,.int .i64 0),(5,.int .i64 ((ol o).length))],[],[],[]⟩:St))) (λ (r:Unit) (st:St)=>st.per.get 4=.int .i64 (-1)) (0) ((ol o).length) ?_ ?_ (0) a0 (by omega) (by omega) hok0
 ·intro i a hi hn hok
  have h1:=zsP (za (ol o) i) a hok.1 hok.2 (hs i)
  simp only [yo.cells] at h1
  have h2:0<=((za (ol o) i).Str.size:Int):=(by first|omega|exact by (try dsimp only);omega)
  rw [JN]
  by_cases h:a<((za (ol o) i).Str.size:Int)
  ·rw [if_pos h]
   rw [rest,if_pos h] at h1
   refine ⟨_,by (simp -implicitDefEqProofs +contextual (disch:=omega) only [VA,jr,yq,jk,xm,wO,yo.cells, ↓XD,XU, ↓reduceIte,sevalprocAttr,hn,h1])<;>rfl,by simp [zk.get]⟩
  ·rw [if_neg h]
   rw [rest,if_neg h] at h1
   have e:¬a-((za (ol o) i).Str.size:Int)<0:=by omega
   refine ⟨⟨_,by (simp -implicitDefEqProofs +contextual (disch:=omega) only [VA,jr,yq,jk,xm,wO,yo.cells, ↓XD,XU, ↓reduceIte,sevalprocAttr,hn,h1,e])<;>rfl,by simp [St.next,zT]⟩,by omega⟩
 ·rintro i a hi rfl hok
  refine ⟨by simp -implicitDefEqProofs +contextual (disch:=omega) only [VA,jr, ↓XD,XU, ↓reduceIte,sevalprocAttr,yq,aL,hok],by simp⟩
def Xk (l:List yo):Int:=l.length+vi (λ k=>((za l k).Str.size:Int)) l.length 0
theorem Jm (l:List yo):(l.length:Int)<=Xk l:=by
 have:=uI (c:=λ k=>((za l k).Str.size:Int)) (λ k=>by (try dsimp only);omega) l.length 0
 simp only [Xk];omega
theorem zqS (o:Option (List yo)) (left:Int) (h0:0<=left) (h1:left<=1048576) (hb:(ol o).length<=9223372036854775807) (hs:∀ i:Int,(za (ol o) i).Str.size<=9223372036854775807):EP A zc4 [wc yo.cells o,.int .i64 left]=some (.int .i64 (rest left (Xk (ol o)))):=by
 have hc:∀ i,0<=(λ k=>((za (ol o) k).Str.size:Int)) i:=λ k=>by (try dsimp only);omega
 have hn:=uI hc (ol o).length 0
 rw [Xk]
 by_cases c1:left<(ol o).length
 ·have e:left-(ol o).length<0:=by omega
  simp -implicitDefEqProofs +contextual (disch:=omega) only [KV,Qf,jr,yq,xm, ↓XD,XU, ↓reduceIte,sevalprocAttr,e]
  simp only [rest];rw [if_pos (by omega)]
 ·have e:¬left-(ol o).length<0:=by omega
  have hl:=zrk o (by omega) hs (left-(ol o).length) ⟨by omega,by omega⟩
  have hr:=zj_ hc (ol o).length (left-(ol o).length) (by omega)
  rw [show (((ol o).length:Int)-0).toNat=(ol o).length by omega] at hl
  cases hi:ug (JN (λ k=>((za (ol o) k).Str.size:Int))) (ol o).length 0 (left-(ol o).length) with
  |inl a=>
   rw [hi] at hl hr
   have hl:=hl.1
   simp -implicitDefEqProofs +contextual (disch:=omega) only [KV,Qf,jr,yq,xm, ↓XD,XU, ↓reduceIte,sevalprocAttr,e,hl]
   dsimp only at hr
   rw [hr];simp only [rest];congr 2
   split<;>split<;>omega
  |inr u=>
   rw [hi] at hl hr
   obtain ⟨st,hl,g⟩:=hl
   simp -implicitDefEqProofs +contextual (disch:=omega) only [KV,Qf,jr,yq,xm, ↓XD,XU, ↓reduceIte,sevalprocAttr,e,hl,g]
   dsimp only at hr
   have:rest left ((ol o).length+vi (λ k=>((za (ol o) k).Str.size:Int)) (ol o).length 0)= -1:=by rw [hr];simp only [rest];split<;>split<;>omega
   rw [this]
theorem zri (o:Option (List xz)) (hb:(ol o).length<=1048576) (hs:∀ i:Int,(za (ol o) i).Name.size<=9223372036854775807) (a0:Int) (hok0:0<=a0/\a0<=1048576):zcv (λ (a:Int)=>EV A (.loop (ZX 0)) (⟨[(0,wc xz.cells o),(1,.int .i64 a0),(4,.int .i64 0),(5,.int .i64 (0))],[],[],[]⟩:St)=some (zp.exit 0,(⟨[(0,wc xz.cells o),(1,.int .i64 a),(4,.int .i64 0),(5,.int .i64 ((ol o).length))],[],[],[]⟩:St))/\0<=a/\a<=1048576) (λ (r:Unit)=>∃ st,EV A (.loop (ZX 0)) (⟨[(0,wc xz.cells o),(1,.int .i64 a0),(4,.int .i64 0),(5,.int .i64 (0))],[],[],[]⟩:St)=some (.ret,st)/\st.per.get 4=.int .i64 (-1)) (ug (λ (i:Int) (a:Int)=>JN (λ k=>((za (ol o) k).Name.size:Int)) i a) (((ol o).length:Int)-0).toNat (0) a0):=by
 refine XA (P:=A) (body:=(ZX 0)) (λ i (a:Int)=>(⟨[(0,wc xz.cells o),(1,.int .i64 a),(4,.int .i64 0),(5,.int .i64 i)],[],[],[]⟩:St)) (λ (i:Int) (a:Int)=>JN (λ k=>((za (ol o) k).Name.size:Int)) i a) (λ i (a:Int)=>0<=a/\a<=1048576) (λ a=>(zp.exit 0,(⟨[(0,wc xz.cells o),(1,.int .i64 a),(4,.int .i64 0),(5,.int .i64 ((ol o).length))],[],[],[]⟩:St))) (λ (r:Unit) (st:St)=>st.per.get 4=.int .i64 (-1)) (0) ((ol o).length) ?_ ?_ (0) a0 (by omega) (by omega) hok0
 ·intro i a hi hn hok
  have h1:=zsN (za (ol o) i) a hok.1 hok.2 (hs i)
  simp only [xz.cells] at h1
  have h2:0<=((za (ol o) i).Name.size:Int):=(by first|omega|exact by (try dsimp only);omega)
  rw [JN]
  by_cases h:a<((za (ol o) i).Name.size:Int)
  ·rw [if_pos h]
   rw [rest,if_pos h] at h1
   refine ⟨_,by (simp -implicitDefEqProofs +contextual (disch:=omega) only [Vy,jp,yq,jk,xm,wO,xz.cells, ↓XD,XU, ↓reduceIte,sevalprocAttr,hn,h1])<;>rfl,by simp [zk.get]⟩
  ·rw [if_neg h]
   rw [rest,if_neg h] at h1
   have e:¬a-((za (ol o) i).Name.size:Int)<0:=by omega
   refine ⟨⟨_,by (simp -implicitDefEqProofs +contextual (disch:=omega) only [Vy,jp,yq,jk,xm,wO,xz.cells, ↓XD,XU, ↓reduceIte,sevalprocAttr,hn,h1,e])<;>rfl,by simp [St.next,zT]⟩,by omega⟩
 ·rintro i a hi rfl hok
  refine ⟨by simp -implicitDefEqProofs +contextual (disch:=omega) only [Vy,jp, ↓XD,XU, ↓reduceIte,sevalprocAttr,yq,aL,hok],by simp⟩
def zcd (l:List xz):Int:=l.length+vi (λ k=>((za l k).Name.size:Int)) l.length 0
theorem Jl (l:List xz):(l.length:Int)<=zcd l:=by
 have:=uI (c:=λ k=>((za l k).Name.size:Int)) (λ k=>by (try dsimp only);omega) l.length 0
 simp only [zcd];omega
theorem zqQ (o:Option (List xz)) (left:Int) (h0:0<=left) (h1:left<=1048576) (hb:(ol o).length<=9223372036854775807) (hs:∀ i:Int,(za (ol o) i).Name.size<=9223372036854775807):EP A zc2 [wc xz.cells o,.int .i64 left]=some (.int .i64 (rest left (zcd (ol o)))):=by
 have hc:∀ i,0<=(λ k=>((za (ol o) k).Name.size:Int)) i:=λ k=>by (try dsimp only);omega
 have hn:=uI hc (ol o).length 0
 rw [zcd]
 by_cases c1:left<(ol o).length
 ·have e:left-(ol o).length<0:=by omega
  simp -implicitDefEqProofs +contextual (disch:=omega) only [KT,Qd,jp,yq,xm, ↓XD,XU, ↓reduceIte,sevalprocAttr,e]
  simp only [rest];rw [if_pos (by omega)]
 ·have e:¬left-(ol o).length<0:=by omega
  have hl:=zri o (by omega) hs (left-(ol o).length) ⟨by omega,by omega⟩
  have hr:=zj_ hc (ol o).length (left-(ol o).length) (by omega)
  rw [show (((ol o).length:Int)-0).toNat=(ol o).length by omega] at hl
  cases hi:ug (JN (λ k=>((za (ol o) k).Name.size:Int))) (ol o).length 0 (left-(ol o).length) with
  |inl a=>
   rw [hi] at hl hr
   have hl:=hl.1
   simp -implicitDefEqProofs +contextual (disch:=omega) only [KT,Qd,jp,yq,xm, ↓XD,XU, ↓reduceIte,sevalprocAttr,e,hl]
   dsimp only at hr
   rw [hr];simp only [rest];congr 2
   split<;>split<;>omega
  |inr u=>
   rw [hi] at hl hr
   obtain ⟨st,hl,g⟩:=hl
   simp -implicitDefEqProofs +contextual (disch:=omega) only [KT,Qd,jp,yq,xm, ↓XD,XU, ↓reduceIte,sevalprocAttr,e,hl,g]
   dsimp only at hr
   have:rest left ((ol o).length+vi (λ k=>((za (ol o) k).Name.size:Int)) (ol o).length 0)= -1:=by rw [hr];simp only [rest];split<;>split<;>omega
   rw [this]
structure Kv (f:zU):Prop where
 s:f.Name.size<=9223372036854775807
 u:(ol f.Ups).length<=9223372036854775807
 c:(ol f.Consts).length<=9223372036854775807
 cs:∀ i:Int,(za (ol f.Consts) i).Str.size<=9223372036854775807
 i:(ol f.Ins).length<=9223372036854775807
 n:(ol f.Named).length<=9223372036854775807
 ns:∀ i:Int,(za (ol f.Named) i).Name.size<=9223372036854775807
def vS (f:zU):Int:=f.Name.size+(ol f.Ups).length+Xk (ol f.Consts)+(ol f.Ins).length+zcd (ol f.Named)
theorem VY (f:zU):0<=vS f:=by
 have:=Jm (ol f.Consts);have:=Jl (ol f.Named)
 simp only [vS];omega
theorem zsO (f:zU) (left:Int) (h0:0<=left) (h1:left<=1048576) (hb:Kv f):EP A zeK [.agg f.cells,.int .i64 left]=some (.int .i64 (rest left (vS f))):=by
 have n1:=Jm (ol f.Consts)
 have n2:=Jl (ol f.Named)
 have b1:=hb.s
 rw [vS]
 by_cases c0:left<f.Name.size
 ·have e:left-f.Name.size<0:=by omega
  simp -implicitDefEqProofs +contextual (disch:=omega) only [kZ,Ze,kb,zU.cells,yq,xm,wO,vd, ↓XD,XU, ↓reduceIte,sevalprocAttr,e]
  simp only [rest];rw [if_pos (by omega)]
 ·have e0:¬left-f.Name.size<0:=by omega
  have g1:=zwV f.Ups (left-f.Name.size) (by omega) (by omega) hb.u
  by_cases c1:left-f.Name.size<(ol f.Ups).length
  ·rw [rest,if_pos c1] at g1
   simp -implicitDefEqProofs +contextual (disch:=omega) only [kZ,Ze,kb,zU.cells,yq,xm,wO,vd, ↓XD,XU, ↓reduceIte,sevalprocAttr,e0,g1]
   simp only [rest];rw [if_pos (by omega)]
  ·rw [rest,if_neg c1] at g1
   have e1:¬left-f.Name.size-(ol f.Ups).length<0:=by omega
   have g2:=zqS f.Consts (left-f.Name.size-(ol f.Ups).length) (by omega) (by omega) hb.c hb.cs
   by_cases c2:left-f.Name.size-(ol f.Ups).length<Xk (ol f.Consts)
   ·rw [rest,if_pos c2] at g2
    simp -implicitDefEqProofs +contextual (disch:=omega) only [kZ,Ze,kb,zU.cells,yq,xm,wO,vd, ↓XD,XU, ↓reduceIte,sevalprocAttr,e0,e1,g1,g2]
    simp only [rest];rw [if_pos (by omega)]
   ·rw [rest,if_neg c2] at g2
    have e2:¬left-f.Name.size-(ol f.Ups).length-Xk (ol f.Consts)<0:=by omega
    have g3:=zuF f.Ins (left-f.Name.size-(ol f.Ups).length-Xk (ol f.Consts)) (by omega) (by omega) hb.i
    by_cases c3:left-f.Name.size-(ol f.Ups).length-Xk (ol f.Consts)<(ol f.Ins).length
    ·rw [rest,if_pos c3] at g3
     simp -implicitDefEqProofs +contextual (disch:=omega) only [kZ,Ze,kb,zU.cells,yq,xm,wO,vd, ↓XD,XU, ↓reduceIte,sevalprocAttr,e0,e1,e2,g1,g2,g3]
     simp only [rest];rw [if_pos (by omega)]
    ·rw [rest,if_neg c3] at g3
     have e3:¬left-f.Name.size-(ol f.Ups).length-Xk (ol f.Consts)-(ol f.Ins).length<0:=by omega
     have g4:=zqQ f.Named (left-f.Name.size-(ol f.Ups).length-Xk (ol f.Consts)-(ol f.Ins).length) (by omega) (by omega) hb.n hb.ns
     by_cases c4:left-f.Name.size-(ol f.Ups).length-Xk (ol f.Consts)-(ol f.Ins).length<zcd (ol f.Named)
     ·rw [rest,if_pos c4] at g4
      simp -implicitDefEqProofs +contextual (disch:=omega) only [kZ,Ze,kb,zU.cells,yq,xm,wO,vd, ↓XD,XU, ↓reduceIte,sevalprocAttr,e0,e1,e2,e3,g1,g2,g3,g4]
      simp only [rest];rw [if_pos (by omega)]
     ·rw [rest,if_neg c4] at g4
      have e4:¬left-f.Name.size-(ol f.Ups).length-Xk (ol f.Consts)-(ol f.Ins).length-zcd (ol f.Named)<0:=by omega
      simp -implicitDefEqProofs +contextual (disch:=omega) only [kZ,Ze,kb,zU.cells,yq,xm,wO,vd, ↓XD,XU, ↓reduceIte,sevalprocAttr,e0,e1,e2,e3,e4,g1,g2,g3,g4]
      simp only [rest];rw [if_neg (by omega)];congr 2;omega
theorem zrj (o:Option (List zU)) (hb:(ol o).length<=1048576) (hs:∀ i:Int,Kv (za (ol o) i)) (a0:Int) (hok0:0<=a0/\a0<=1048576):zcv (λ (a:Int)=>EV A (.loop (ZY 0)) (⟨[(0,wc zU.cells o),(1,.int .i64 a0),(4,.int .i64 0),(5,.int .i64 (0))],[],[],[]⟩:St)=some (zp.exit 0,(⟨[(0,wc zU.cells o),(1,.int .i64 a),(4,.int .i64 0),(5,.int .i64 ((ol o).length))],[],[],[]⟩:St))/\0<=a/\a<=1048576) (λ (r:Unit)=>∃ st,EV A (.loop (ZY 0)) (⟨[(0,wc zU.cells o),(1,.int .i64 a0),(4,.int .i64 0),(5,.int .i64 (0))],[],[],[]⟩:St)=some (.ret,st)/\st.per.get 4=.int .i64 (-1)) (ug (λ (i:Int) (a:Int)=>JN (λ k=>vS (za (ol o) k)) i a) (((ol o).length:Int)-0).toNat (0) a0):=by
 refine XA (P:=A) (body:=(ZY 0)) (λ i (a:Int)=>(⟨[(0,wc zU.cells o),(1,.int .i64 a),(4,.int .i64 0),(5,.int .i64 i)],[],[],[]⟩:St)) (λ (i:Int) (a:Int)=>JN (λ k=>vS (za (ol o) k)) i a) (λ i (a:Int)=>0<=a/\a<=1048576) (λ a=>(zp.exit 0,(⟨[(0,wc zU.cells o),(1,.int .i64 a),(4,.int .i64 0),(5,.int .i64 ((ol o).length))],[],[],[]⟩:St))) (λ (r:Unit) (st:St)=>st.per.get 4=.int .i64 (-1)) (0) ((ol o).length) ?_ ?_ (0) a0 (by omega) (by omega) hok0
 ·intro i a hi hn hok
  have h1:=zsO (za (ol o) i) a hok.1 hok.2 (hs i)
  simp only [zU.cells] at h1
  have h2:0<=vS (za (ol o) i):=(by first|omega|exact VY _)
  rw [JN]
  by_cases h:a<vS (za (ol o) i)
  ·rw [if_pos h]
   rw [rest,if_pos h] at h1
   refine ⟨_,by (simp -implicitDefEqProofs +contextual (disch:=omega) only [Vz,jq,yq,jk,xm,wO,zU.cells, ↓XD,XU, ↓reduceIte,sevalprocAttr,hn,h1])<;>rfl,by simp [zk.get]⟩
  ·rw [if_neg h]
   rw [rest,if_neg h] at h1
   have e:¬a-vS (za (ol o) i)<0:=by omega
   refine ⟨⟨_,by (simp -implicitDefEqProofs +contextual (disch:=omega) only [Vz,jq,yq,jk,xm,wO,zU.cells, ↓XD,XU, ↓reduceIte,sevalprocAttr,hn,h1,e])<;>rfl,by simp [St.next,zT]⟩,by omega⟩
 ·rintro i a hi rfl hok
  refine ⟨by simp -implicitDefEqProofs +contextual (disch:=omega) only [Vz,jq, ↓XD,XU, ↓reduceIte,sevalprocAttr,yq,aL,hok],by simp⟩
def jt (l:List zU):Int:=l.length+vi (λ k=>vS (za l k)) l.length 0
theorem zqR (o:Option (List zU)) (left:Int) (h0:0<=left) (h1:left<=1048576) (hb:(ol o).length<=9223372036854775807) (hs:∀ i:Int,Kv (za (ol o) i)):EP A zc3 [wc zU.cells o,.int .i64 left]=some (.int .i64 (rest left (jt (ol o)))):=by
 have hc:∀ i,0<=(λ k=>vS (za (ol o) k)) i:=λ k=>VY _
 have hn:=uI hc (ol o).length 0
 rw [jt]
 by_cases c1:left<(ol o).length
 ·have e:left-(ol o).length<0:=by omega
  simp -implicitDefEqProofs +contextual (disch:=omega) only [KU,Qe,jq,yq,xm, ↓XD,XU, ↓reduceIte,sevalprocAttr,e]
  simp only [rest];rw [if_pos (by omega)]
 ·have e:¬left-(ol o).length<0:=by omega
  have hl:=zrj o (by omega) hs (left-(ol o).length) ⟨by omega,by omega⟩
  have hr:=zj_ hc (ol o).length (left-(ol o).length) (by omega)
  rw [show (((ol o).length:Int)-0).toNat=(ol o).length by omega] at hl
  cases hi:ug (JN (λ k=>vS (za (ol o) k))) (ol o).length 0 (left-(ol o).length) with
  |inl a=>
   rw [hi] at hl hr
   have hl:=hl.1
   simp -implicitDefEqProofs +contextual (disch:=omega) only [KU,Qe,jq,yq,xm, ↓XD,XU, ↓reduceIte,sevalprocAttr,e,hl]
   dsimp only at hr
   rw [hr];simp only [rest];congr 2
   split<;>split<;>omega
  |inr u=>
   rw [hi] at hl hr
   obtain ⟨st,hl,g⟩:=hl
   simp -implicitDefEqProofs +contextual (disch:=omega) only [KU,Qe,jq,yq,xm, ↓XD,XU, ↓reduceIte,sevalprocAttr,e,hl,g]
   dsimp only at hr
   have:rest left ((ol o).length+vi (λ k=>vS (za (ol o) k)) (ol o).length 0)= -1:=by rw [hr];simp only [rest];split<;>split<;>omega
   rw [this]
theorem zuE (o:Option (List zU)) (hb:(ol o).length<=9223372036854775807) (hs:∀ i:Int,Kv (za (ol o) i)):EP A zgE [.agg (VR o),.int .i64 1048576]=some (.int .i64 (rest 1048576 (jt (ol o)))):=by
 have g:=zqR o 1048576 (by omega) (by omega) hb hs
 by_cases c:(1048576:Int)<jt (ol o)
 ·rw [rest,if_pos c] at g ⊢
  simp -implicitDefEqProofs +contextual (disch:=omega) only [zgv,zgR,ze3,VR,yq,xm,wO,vd, ↓XD,XU, ↓reduceIte,sevalprocAttr,g]
 ·rw [rest,if_neg c] at g ⊢
  have e:¬1048576-jt (ol o)<0:=by omega
  simp -implicitDefEqProofs +contextual (disch:=omega) only [zgv,zgR,ze3,VR,yq,xm,wO,vd, ↓XD,XU, ↓reduceIte,sevalprocAttr,g,e]
theorem ze0 {α:Type} [Inhabited α] {l:List α} {i:Int} (h0:0<=i) (h1:i<l.length):za l i=l[i.toNat]'(by omega):=by
 have:=xX h0 h1
 rw [aE (by omega)] at this
 exact (dD this).symm
theorem ze1 {α:Type} [Inhabited α] {l:List α} {i:Int} (h0:0<=i) (h1:i<l.length):za l i∈l:=by
 rw [ze0 h0 h1];exact dA _
theorem zfX {α:Type} [Inhabited α] (l:List α) (g:α->α) (z:α):iter (λ (i:Int) (a:List α)=>a.set i.toNat (g (za l i))) ((l.length:Int)-0).toNat 0 (List.replicate l.length z)=l.map g:=by
 have H:∀ (m:Nat) (i:Int) (a:List α),0<=i->i+m=l.length->a.length=l.length->(∀ k:Int,0<=k->k<i->za a k=g (za l k))->(iter (λ (i:Int) (a:List α)=>a.set i.toNat (g (za l i))) m i a).length=l.length/\∀ k:Int,0<=k->k<l.length->za (iter (λ (i:Int) (a:List α)=>a.set i.toNat (g (za l i))) m i a) k=g (za l k):=by
  intro m
  induction m with
  |zero=>intro i a h0 h1 h2 h3;exact ⟨h2,λ k k0 k1=>h3 k k0 (by omega)⟩
  |succ m ih=>
   intro i a h0 h1 h2 h3
   refine ih (i+1) _ (by omega) (by omega) (by simpa using h2) λ k k0 k1=>?_
   rw [Xh h0 (by omega) k0]
   by_cases h:i=k
   ·rw [if_pos h,h]
   ·rw [if_neg h];exact h3 k k0 (by omega)
 obtain ⟨h1,h2⟩:=H ((l.length:Int)-0).toNat 0 (List.replicate l.length z) (by omega) (by omega) (by simp) (λ k k0 k1=>by omega)
 refine zAA (by simpa using h1) λ k k0 k1=>?_
 rw [h1] at k1
 rw [h2 k k0 k1,ze0 k0 k1,ze0 k0 (by simpa using k1)]
 simp
theorem zrQ (u:Up):EP A zji [.agg u.cells]=some (.agg u.cells):=by
 simp -implicitDefEqProofs +contextual (disch:=omega) only [zqL,zrI,zpY,Up.cells, ↓XD,XU, ↓reduceIte,sevalprocAttr]
theorem zvY (l:List Up) (i:Nat) (x0:Bool) (x1:Int):(l.map Up.cells).set i [.bool x0,.int .i64 x1]=(l.set i ⟨x0,x1⟩).map Up.cells:=by rw [List.map_set]
theorem zCq (n:Nat):List.replicate n [PV.bool false,.int .i64 0]=(List.replicate n (⟨false,0⟩:Up)).map Up.cells:=by rw [List.map_replicate]
theorem zAs (o:Option (List Up)) (hb:(ol o).length<=1048576) (a0:List Up) (hok0:a0.length=(ol o).length):EV A (.loop (zbA 0)) (⟨[(0,wc Up.cells o),(2,.nils),(3,.sl 0 0 (ol o).length (ol o).length),(4,.int .i64 (0))],[],[.cells 2 (a0.map Up.cells)],[]⟩:St)=some (zp.exit 0,(⟨[(0,wc Up.cells o),(2,.nils),(3,.sl 0 0 (ol o).length (ol o).length),(4,.int .i64 ((ol o).length))],[],[.cells 2 ((iter (λ (i:Int) (a:List Up)=>a.set i.toNat (za (ol o) i)) (((ol o).length:Int)-0).toNat (0) a0).map Up.cells)],[]⟩:St))/\(iter (λ (i:Int) (a:List Up)=>a.set i.toNat (za (ol o) i)) (((ol o).length:Int)-0).toNat (0) a0).length=(ol o).length:=by
 refine vC (λ i (a:List Up)=>(⟨[(0,wc Up.cells o),(2,.nils),(3,.sl 0 0 (ol o).length (ol o).length),(4,.int .i64 i)],[],[.cells 2 (a.map Up.cells)],[]⟩:St)) (λ (i:Int) (a:List Up)=>a.set i.toNat (za (ol o) i)) (λ i (a:List Up)=>a.length=(ol o).length) (λ a=>(zp.exit 0,(⟨[(0,wc Up.cells o),(2,.nils),(3,.sl 0 0 (ol o).length (ol o).length),(4,.int .i64 ((ol o).length))],[],[.cells 2 (a.map Up.cells)],[]⟩:St))) (0) ((ol o).length) ?_ ?_ (0) a0 (by omega) (by omega) hok0
 ·intro i a hi hn hok
  refine ⟨⟨_,by simp -implicitDefEqProofs +contextual (disch:=omega) only [zdl,zaR, ↓XD,XU, ↓reduceIte,sevalprocAttr,yq,jk,Up.cells,zrQ,zvY,hn,hok];rfl,by first|(simp [St.next,zT];done)|(simp [St.next,zT];omega)|(simp [St.next,trim,bare,zn,refs];done)⟩,by simp;omega⟩
 ·rintro i a hi rfl hok
  refine ⟨by simp -implicitDefEqProofs +contextual (disch:=omega) only [zdl,zaR, ↓XD,XU, ↓reduceIte,sevalprocAttr,yq,jk,Up.cells,zrQ,zvY,aL,hok],by simp⟩
theorem zkF (u:yo):EP A zeN [.agg u.cells]=some (.agg u.cells):=by
 simp -implicitDefEqProofs +contextual (disch:=omega) only [zmu,znc,zll,yo.cells, ↓XD,XU, ↓reduceIte,sevalprocAttr]
theorem zsf (l:List yo) (i:Nat) (x0:Int) (x1:Int) (x2:Nat) (x3:ByteArray) (x4:Int):(l.map yo.cells).set i [.int .i64 x0,.int .i64 x1,.flt .f64 x2,.str x3,.int .i64 x4]=(l.set i ⟨x0,x1,x2,x3,x4⟩).map yo.cells:=by rw [List.map_set]
theorem zAW (n:Nat):List.replicate n [PV.int .i64 0,.int .i64 0,.flt .f64 0,.str ⟨#[]⟩,.int .i64 0]=(List.replicate n (⟨0,0,0,⟨#[]⟩,0⟩:yo)).map yo.cells:=by rw [List.map_replicate]
theorem zti (o:Option (List yo)) (hb:(ol o).length<=1048576) (a0:List yo) (hok0:a0.length=(ol o).length):EV A (.loop (Ks 0)) (⟨[(0,wc yo.cells o),(2,.nils),(3,.sl 0 0 (ol o).length (ol o).length),(4,.int .i64 (0))],[],[.cells 5 (a0.map yo.cells)],[]⟩:St)=some (zp.exit 0,(⟨[(0,wc yo.cells o),(2,.nils),(3,.sl 0 0 (ol o).length (ol o).length),(4,.int .i64 ((ol o).length))],[],[.cells 5 ((iter (λ (i:Int) (a:List yo)=>a.set i.toNat (za (ol o) i)) (((ol o).length:Int)-0).toNat (0) a0).map yo.cells)],[]⟩:St))/\(iter (λ (i:Int) (a:List yo)=>a.set i.toNat (za (ol o) i)) (((ol o).length:Int)-0).toNat (0) a0).length=(ol o).length:=by
 refine vC (λ i (a:List yo)=>(⟨[(0,wc yo.cells o),(2,.nils),(3,.sl 0 0 (ol o).length (ol o).length),(4,.int .i64 i)],[],[.cells 5 (a.map yo.cells)],[]⟩:St)) (λ (i:Int) (a:List yo)=>a.set i.toNat (za (ol o) i)) (λ i (a:List yo)=>a.length=(ol o).length) (λ a=>(zp.exit 0,(⟨[(0,wc yo.cells o),(2,.nils),(3,.sl 0 0 (ol o).length (ol o).length),(4,.int .i64 ((ol o).length))],[],[.cells 5 (a.map yo.cells)],[]⟩:St))) (0) ((ol o).length) ?_ ?_ (0) a0 (by omega) (by omega) hok0
 ·intro i a hi hn hok
  refine ⟨⟨_,by simp -implicitDefEqProofs +contextual (disch:=omega) only [zaz,JZ, ↓XD,XU, ↓reduceIte,sevalprocAttr,yq,jk,yo.cells,zkF,zsf,hn,hok];rfl,by first|(simp [St.next,zT];done)|(simp [St.next,zT];omega)|(simp [St.next,trim,bare,zn,refs];done)⟩,by simp;omega⟩
 ·rintro i a hi rfl hok
  refine ⟨by simp -implicitDefEqProofs +contextual (disch:=omega) only [zaz,JZ, ↓XD,XU, ↓reduceIte,sevalprocAttr,yq,jk,yo.cells,zkF,zsf,aL,hok],by simp⟩
theorem zpf (u:Ins):EP A zh1 [.agg u.cells]=some (.agg u.cells):=by
 simp -implicitDefEqProofs +contextual (disch:=omega) only [zo',zqk,zoe,Ins.cells, ↓XD,XU, ↓reduceIte,sevalprocAttr]
theorem zsd (l:List Ins) (i:Nat) (x0:Int) (x1:Int) (x2:Int) (x3:Int) (x4:Int):(l.map Ins.cells).set i [.int .i64 x0,.int .i64 x1,.int .i64 x2,.int .i64 x3,.int .i64 x4]=(l.set i ⟨x0,x1,x2,x3,x4⟩).map Ins.cells:=by rw [List.map_set]
theorem zAT (n:Nat):List.replicate n [PV.int .i64 0,.int .i64 0,.int .i64 0,.int .i64 0,.int .i64 0]=(List.replicate n (⟨0,0,0,0,0⟩:Ins)).map Ins.cells:=by rw [List.map_replicate]
theorem zxz (o:Option (List Ins)) (hb:(ol o).length<=1048576) (a0:List Ins) (hok0:a0.length=(ol o).length):EV A (.loop (zaE 0)) (⟨[(0,wc Ins.cells o),(2,.nils),(3,.sl 0 0 (ol o).length (ol o).length),(4,.int .i64 (0))],[],[.cells 5 (a0.map Ins.cells)],[]⟩:St)=some (zp.exit 0,(⟨[(0,wc Ins.cells o),(2,.nils),(3,.sl 0 0 (ol o).length (ol o).length),(4,.int .i64 ((ol o).length))],[],[.cells 5 ((iter (λ (i:Int) (a:List Ins)=>a.set i.toNat (za (ol o) i)) (((ol o).length:Int)-0).toNat (0) a0).map Ins.cells)],[]⟩:St))/\(iter (λ (i:Int) (a:List Ins)=>a.set i.toNat (za (ol o) i)) (((ol o).length:Int)-0).toNat (0) a0).length=(ol o).length:=by
 refine vC (λ i (a:List Ins)=>(⟨[(0,wc Ins.cells o),(2,.nils),(3,.sl 0 0 (ol o).length (ol o).length),(4,.int .i64 i)],[],[.cells 5 (a.map Ins.cells)],[]⟩:St)) (λ (i:Int) (a:List Ins)=>a.set i.toNat (za (ol o) i)) (λ i (a:List Ins)=>a.length=(ol o).length) (λ a=>(zp.exit 0,(⟨[(0,wc Ins.cells o),(2,.nils),(3,.sl 0 0 (ol o).length (ol o).length),(4,.int .i64 ((ol o).length))],[],[.cells 5 (a.map Ins.cells)],[]⟩:St))) (0) ((ol o).length) ?_ ?_ (0) a0 (by omega) (by omega) hok0
 ·intro i a hi hn hok
  refine ⟨⟨_,by simp -implicitDefEqProofs +contextual (disch:=omega) only [zcj,QW, ↓XD,XU, ↓reduceIte,sevalprocAttr,yq,jk,Ins.cells,zpf,zsd,hn,hok];rfl,by first|(simp [St.next,zT];done)|(simp [St.next,zT];omega)|(simp [St.next,trim,bare,zn,refs];done)⟩,by simp;omega⟩
 ·rintro i a hi rfl hok
  refine ⟨by simp -implicitDefEqProofs +contextual (disch:=omega) only [zcj,QW, ↓XD,XU, ↓reduceIte,sevalprocAttr,yq,jk,Ins.cells,zpf,zsd,aL,hok],by simp⟩
theorem zkE (u:xz):EP A zeM [.agg u.cells]=some (.agg u.cells):=by
 simp -implicitDefEqProofs +contextual (disch:=omega) only [zmt,zna,zlj,xz.cells, ↓XD,XU, ↓reduceIte,sevalprocAttr]
theorem zse (l:List xz) (i:Nat) (x0:ByteArray) (x1:Int) (x2:Int) (x3:Int):(l.map xz.cells).set i [.str x0,.int .i64 x1,.int .i64 x2,.int .i64 x3]=(l.set i ⟨x0,x1,x2,x3⟩).map xz.cells:=by rw [List.map_set]
theorem zAV (n:Nat):List.replicate n [PV.str ⟨#[]⟩,.int .i64 0,.int .i64 0,.int .i64 0]=(List.replicate n (⟨⟨#[]⟩,0,0,0⟩:xz)).map xz.cells:=by rw [List.map_replicate]
theorem zth (o:Option (List xz)) (hb:(ol o).length<=1048576) (a0:List xz) (hok0:a0.length=(ol o).length):EV A (.loop (Kr 0)) (⟨[(0,wc xz.cells o),(2,.nils),(3,.sl 0 0 (ol o).length (ol o).length),(4,.int .i64 (0))],[],[.cells 4 (a0.map xz.cells)],[]⟩:St)=some (zp.exit 0,(⟨[(0,wc xz.cells o),(2,.nils),(3,.sl 0 0 (ol o).length (ol o).length),(4,.int .i64 ((ol o).length))],[],[.cells 4 ((iter (λ (i:Int) (a:List xz)=>a.set i.toNat (za (ol o) i)) (((ol o).length:Int)-0).toNat (0) a0).map xz.cells)],[]⟩:St))/\(iter (λ (i:Int) (a:List xz)=>a.set i.toNat (za (ol o) i)) (((ol o).length:Int)-0).toNat (0) a0).length=(ol o).length:=by
 refine vC (λ i (a:List xz)=>(⟨[(0,wc xz.cells o),(2,.nils),(3,.sl 0 0 (ol o).length (ol o).length),(4,.int .i64 i)],[],[.cells 4 (a.map xz.cells)],[]⟩:St)) (λ (i:Int) (a:List xz)=>a.set i.toNat (za (ol o) i)) (λ i (a:List xz)=>a.length=(ol o).length) (λ a=>(zp.exit 0,(⟨[(0,wc xz.cells o),(2,.nils),(3,.sl 0 0 (ol o).length (ol o).length),(4,.int .i64 ((ol o).length))],[],[.cells 4 (a.map xz.cells)],[]⟩:St))) (0) ((ol o).length) ?_ ?_ (0) a0 (by omega) (by omega) hok0
 ·intro i a hi hn hok
  refine ⟨⟨_,by simp -implicitDefEqProofs +contextual (disch:=omega) only [zax,JX, ↓XD,XU, ↓reduceIte,sevalprocAttr,yq,jk,xz.cells,zkE,zse,hn,hok];rfl,by first|(simp [St.next,zT];done)|(simp [St.next,zT];omega)|(simp [St.next,trim,bare,zn,refs];done)⟩,by simp;omega⟩
 ·rintro i a hi rfl hok
  refine ⟨by simp -implicitDefEqProofs +contextual (disch:=omega) only [zax,JX, ↓XD,XU, ↓reduceIte,sevalprocAttr,yq,jk,xz.cells,zkE,zse,aL,hok],by simp⟩
def zU.norm (f:zU):zU:={ f with Ups:=some (ol f.Ups),Consts:=some (ol f.Consts),Ins:=some (ol f.Ins),Named:=some (ol f.Named) }
structure zbB (f:zU):Prop where
 u:(ol f.Ups).length<=1048576
 c:(ol f.Consts).length<=1048576
 i:(ol f.Ins).length<=1048576
 n:(ol f.Named).length<=1048576
def zU.to (f:zU):zc:=⟨f.Name,f.Line,f.Params,f.Rest,f.Regs,ol f.Ups,ol f.Consts,ol f.Ins,ol f.Named⟩
theorem zto (f:zU):f.norm.cells=f.to.cells:=by
 simp only [zU.norm,zU.to,zU.cells,zc.cells,JQ,ups,ze,zj,zm]
def Out (r:Option (PV×zd×zI)) (es:List Sh) (k:Nat) (t:PV):Prop:=
 ∃ (id n:Nat) (X:zd) (ed:zI),r=some (.sl id 0 n n,X,ed)/\WT X (λ j=>j<X.length) (.slice es) (.sl id 0 n n)/\∀ d,k<=d->frz d X (.sl id 0 n n)=t
theorem Out.flat {α:Type} {r:Option (PV×zd×zI)} (f:α->List PV) (l:List α) (es:List Sh) (hl:l.length<=1048576) (hw:∀ x X R,xy X R es (f x)) (hz:∀ x X d,1<=d->(f x).map (frz d X)=f x) (h:r=some (.sl 0 0 l.length l.length,[.cells es.length (l.map f)],[])):Out r es 2 (.fz (l.map f)):=by
 refine ⟨0,l.length,_,[],h,?_,λ d hd=>?_⟩
 ·simp only [WT]
  refine ⟨0,_,l.map f,rfl,by simp,rfl,by simp,hl,λ r hr=>?_⟩
  obtain ⟨x,_,rfl⟩:=bU.1 hr
  exact hw x _ _
 ·obtain ⟨d,rfl⟩:∃ d',d=d'+1:=⟨d-1,by omega⟩
  rw [Kd d (rows:=l.map f) (s:=es.length) rfl (by simp),cZ]
  congr 1
  exact bM λ x _=>hz x _ d (by omega)
theorem zbr {d:Nat} (h:1<=d):∃ d',d=d'+1:=⟨d-1,by omega⟩
theorem zw1 (o:Option (List Up)) (hb:(ol o).length<=1048576):Out (ES A zh2 [wc Up.cells o] []) K_ 2 (.fz ((ol o).map Up.cells)):=by
 refine Out.flat Up.cells (ol o) _ hb (λ x X R=>by simp only [xy,WT,K_];exact ⟨_,_,rfl,⟨_,rfl⟩,_,_,rfl,⟨_,rfl⟩,rfl⟩) (λ x X d hd=>by obtain ⟨d,rfl⟩:=zbr hd;rfl) ?_
 have hl:=(zAs o hb (List.replicate (ol o).length ⟨false,0⟩) (by simp)).1
 have e:=zfX (ol o) id ⟨false,0⟩
 simp only [id_eq,List.map_id] at e
 rw [e] at hl
 simp -implicitDefEqProofs +contextual (disch:=omega) only [zp3,zql,zaR,yq,xm,JQ,zCq,Up.cells, ↓XD,XU, ↓reduceIte,sevalprocAttr,hl]
 simp [trim,bare,zn,refs]
theorem zq4 (o:Option (List yo)) (hb:(ol o).length<=1048576):Out (ES A zc7 [wc yo.cells o] []) Yd 2 (.fz ((ol o).map yo.cells)):=by
 refine Out.flat yo.cells (ol o) _ hb (λ x X R=>by simp only [xy,WT,Yd];exact ⟨_,_,rfl,⟨_,rfl⟩,_,_,rfl,⟨_,rfl⟩,_,_,rfl,⟨_,rfl⟩,_,_,rfl,⟨_,rfl⟩,_,_,rfl,⟨_,rfl⟩,rfl⟩) (λ x X d hd=>by obtain ⟨d,rfl⟩:=zbr hd;rfl) ?_
 have hl:=(zti o hb (List.replicate (ol o).length ⟨0,0,0,⟨#[]⟩,0⟩) (by simp)).1
 have e:=zfX (ol o) id ⟨0,0,0,⟨#[]⟩,0⟩
 simp only [id_eq,List.map_id] at e
 rw [e] at hl
 simp -implicitDefEqProofs +contextual (disch:=omega) only [zlv,zlQ,JZ,yq,xm,JQ,zAW,yo.cells, ↓XD,XU, ↓reduceIte,sevalprocAttr,hl]
 simp [trim,bare,zn,refs]
theorem zuS (o:Option (List Ins)) (hb:(ol o).length<=1048576):Out (ES A zgG [wc Ins.cells o] []) VV 2 (.fz ((ol o).map Ins.cells)):=by
 refine Out.flat Ins.cells (ol o) _ hb (λ x X R=>by simp only [xy,WT,VV];exact ⟨_,_,rfl,⟨_,rfl⟩,_,_,rfl,⟨_,rfl⟩,_,_,rfl,⟨_,rfl⟩,_,_,rfl,⟨_,rfl⟩,_,_,rfl,⟨_,rfl⟩,rfl⟩) (λ x X d hd=>by obtain ⟨d,rfl⟩:=zbr hd;rfl) ?_
 have hl:=(zxz o hb (List.replicate (ol o).length ⟨0,0,0,0,0⟩) (by simp)).1
 have e:=zfX (ol o) id ⟨0,0,0,0,0⟩
 simp only [id_eq,List.map_id] at e
 rw [e] at hl
 simp -implicitDefEqProofs +contextual (disch:=omega) only [zoh,zoq,QW,yq,xm,JQ,zAT,Ins.cells, ↓XD,XU, ↓reduceIte,sevalprocAttr,hl]
 simp [trim,bare,zn,refs]
theorem zq2 (o:Option (List xz)) (hb:(ol o).length<=1048576):Out (ES A zc5 [wc xz.cells o] []) Yc 2 (.fz ((ol o).map xz.cells)):=by
 refine Out.flat xz.cells (ol o) _ hb (λ x X R=>by simp only [xy,WT,Yc];exact ⟨_,_,rfl,⟨_,rfl⟩,_,_,rfl,⟨_,rfl⟩,_,_,rfl,⟨_,rfl⟩,_,_,rfl,⟨_,rfl⟩,rfl⟩) (λ x X d hd=>by obtain ⟨d,rfl⟩:=zbr hd;rfl) ?_
 have hl:=(zth o hb (List.replicate (ol o).length ⟨⟨#[]⟩,0,0,0⟩) (by simp)).1
 have e:=zfX (ol o) id ⟨⟨#[]⟩,0,0,0⟩
 simp only [id_eq,List.map_id] at e
 rw [e] at hl
 simp -implicitDefEqProofs +contextual (disch:=omega) only [zlt,zlO,JX,yq,xm,JQ,zAV,xz.cells, ↓XD,XU, ↓reduceIte,sevalprocAttr,hl]
 simp [trim,bare,zn,refs]
theorem zik (roots:List PV) (H:zd) (ed:zI) (h:zn roots≠[]):trim 0 roots H ed=(H,ed):=by
 simp only [trim]
 cases hr:zn roots with
 |nil=>exact absurd hr h
 |cons r rs=>simp [bare]
theorem zv8 (n r:Nat) (roots:List PV) (H:zd) (ed:zI) (hn:1<=n) (hr:n<=r) (h:(0,r)∈ed):trim n roots H ed=(H,ed):=by
 simp only [trim]
 have:(ed.all λ e=>decide (n<=e.1)||decide (e.2<n))=false:=by
  rw [Bool.eq_false_iff]
  intro hall
  have:=aZ.1 hall _ h
  simp at this
  omega
 rw [this,Bool.and_false]
theorem Ke (pre X suf:zd) (k:Nat) (hk:pre.length=k) (id:Nat) (h:id<X.length):(pre++X.map (zX k)++suf)[k+id]?=(X[id]?).map (zX k):=by
 rw [aD (by simp;omega),aI (by omega),show k+id-pre.length=id by omega,aN]
theorem xy.nil {H:zd} {R:Nat->Prop}:xy H R [] []:=by simp only [xy]
theorem xy.cons {H:zd} {R:Nat->Prop} {e:Sh} {es:List Sh} {p:PV} {ps:List PV} (h:WT H R e p) (t:xy H R es ps):xy H R (e::es) (p::ps):=by
 simp only [xy];exact ⟨p,ps,rfl,h,t⟩
theorem WT.int {H:zd} {R:Nat->Prop} (k:IntKind) (n:Int):WT H R (.int k) (.int k n):=by simp only [WT];exact ⟨n,rfl⟩
theorem WT.bool {H:zd} {R:Nat->Prop} (n:Bool):WT H R .bool (.bool n):=by simp only [WT];exact ⟨n,rfl⟩
theorem WT.str {H:zd} {R:Nat->Prop} (n:ByteArray):WT H R .str (.str n):=by simp only [WT];exact ⟨n,rfl⟩
theorem WT.flt {H:zd} {R:Nat->Prop} (k:FloatKind) (n:Nat):WT H R (.flt k) (.flt k n):=by simp only [WT];exact ⟨n,rfl⟩
theorem zsW (n:zU) (h:zbB n):∃ (row:List PV) (X:zd) (ed:zI),ES A QR [.agg n.cells] []=some (.agg row,X,ed)/\xy X (λ j=>j<X.length) uX row/\(∀ d,2<=d->row.map (frz d X)=n.norm.cells):=by
 obtain ⟨a1,m1,X1,ed1,g1,w1,z1⟩:=zw1 n.Ups h.u
 obtain ⟨a2,m2,X2,ed2,g2,w2,z2⟩:=zq4 n.Consts h.c
 obtain ⟨a3,m3,X3,ed3,g3,w3,z3⟩:=zuS n.Ins h.i
 obtain ⟨a4,m4,X4,ed4,g4,w4,z4⟩:=zq2 n.Named h.n
 obtain ⟨b0,b1,b2,ed,hE⟩:∃ (b0 b1 b2:zZ) (ed:zI),ES A QR [.agg n.cells] []=some (.agg [.str n.Name,.int .i64 n.Line,.int .i64 n.Params,.bool n.Rest,.int .i64 n.Regs,.sl (3+a1) 0 m1 m1,.sl (List.length X1+1+1+1+a2) 0 m2 m2,.sl (List.length X1+List.length X2+1+1+1+a3) 0 m3 m3,.sl (List.length X1+(List.length X2+List.length X3)+1+1+1+a4) 0 m4 m4],b0::b1::b2::(X1.map (zX (3))++(X2.map (zX (List.length X1+1+1+1))++(X3.map (zX (List.length X1+List.length X2+1+1+1))++X4.map (zX (List.length X1+(List.length X2+List.length X3)+1+1+1))))),ed):=by
  have ht:∀ (H:zd) (ed:zI),trim 0 [.agg [.str n.Name,.int .i64 n.Line,.int .i64 n.Params,.bool n.Rest,.int .i64 n.Regs,.sl (3+a1) 0 m1 m1,.sl (List.length X1+1+1+1+a2) 0 m2 m2,.sl (List.length X1+List.length X2+1+1+1+a3) 0 m3 m3,.sl (List.length X1+(List.length X2+List.length X3)+1+1+1+a4) 0 m4 m4]] H ed=(H,ed):=λ H ed=>zik _ _ _ (by simp [zn,refs])
  exact ⟨_,_,_,_,by (simp (maxSteps:=10000000) -implicitDefEqProofs +contextual (disch:=omega) only [zmV,znb,zlk,zU.cells,xm,wO,vd,Ws,aQ,cF,aB,aA, ↓XD,XU, ↓reduceIte,sevalprocAttr,g1,g2,g3,g4,ht])<;>rfl⟩
 obtain ⟨G,hG⟩:∃ G:zd,G=b0::b1::b2::(X1.map (zX (3))++(X2.map (zX (List.length X1+1+1+1))++(X3.map (zX (List.length X1+List.length X2+1+1+1))++X4.map (zX (List.length X1+(List.length X2+List.length X3)+1+1+1))))):=⟨_,rfl⟩
 rw [<-hG] at hE
 have e1:G=([b0,b1,b2])++X1.map (zX (3))++(X2.map (zX (List.length X1+1+1+1))++X3.map (zX (List.length X1+List.length X2+1+1+1))++X4.map (zX (List.length X1+(List.length X2+List.length X3)+1+1+1))):=by rw [hG];simp [aY]
 have l1:∀ id,id<X1.length->G[3+id]?=(X1[id]?).map (zX (3)):=λ id hid=>by rw [e1];exact Ke _ _ _ _ (by simp;try omega) id hid
 have v1:WT G (λ j=>j<G.length) (.slice K_) (.sl (3+a1) 0 m1 m1):=by
  have:=WT.lend l1 w1
  rw [zC] at this
  refine this.frame λ j hj=>⟨?_,rfl⟩
  obtain ⟨id,rfl,hid⟩:=hj
  rw [e1];simp;omega
 have y1:∀ d,frz d G (.sl (3+a1) 0 m1 m1)=frz d X1 (.sl a1 0 m1 m1):=λ d=>by
  have:=WT.frz_lend l1 w1 d
  rw [zC] at this;exact this
 have e2:G=(b0::b1::b2::X1.map (zX (3)))++X2.map (zX (List.length X1+1+1+1))++(X3.map (zX (List.length X1+List.length X2+1+1+1))++X4.map (zX (List.length X1+(List.length X2+List.length X3)+1+1+1))):=by rw [hG];simp [aY]
 have l2:∀ id,id<X2.length->G[List.length X1+1+1+1+id]?=(X2[id]?).map (zX (List.length X1+1+1+1)):=λ id hid=>by rw [e2];exact Ke _ _ _ _ (by simp;try omega) id hid
 have v2:WT G (λ j=>j<G.length) (.slice Yd) (.sl (List.length X1+1+1+1+a2) 0 m2 m2):=by
  have:=WT.lend l2 w2
  rw [zC] at this
  refine this.frame λ j hj=>⟨?_,rfl⟩
  obtain ⟨id,rfl,hid⟩:=hj
  rw [e2];simp;omega
 have y2:∀ d,frz d G (.sl (List.length X1+1+1+1+a2) 0 m2 m2)=frz d X2 (.sl a2 0 m2 m2):=λ d=>by
  have:=WT.frz_lend l2 w2 d
  rw [zC] at this;exact this
 have e3:G=(b0::b1::b2::(X1.map (zX (3))++X2.map (zX (List.length X1+1+1+1))))++X3.map (zX (List.length X1+List.length X2+1+1+1))++(X4.map (zX (List.length X1+(List.length X2+List.length X3)+1+1+1))):=by rw [hG];simp [aY]
 have l3:∀ id,id<X3.length->G[List.length X1+List.length X2+1+1+1+id]?=(X3[id]?).map (zX (List.length X1+List.length X2+1+1+1)):=λ id hid=>by rw [e3];exact Ke _ _ _ _ (by simp;try omega) id hid
 have v3:WT G (λ j=>j<G.length) (.slice VV) (.sl (List.length X1+List.length X2+1+1+1+a3) 0 m3 m3):=by
  have:=WT.lend l3 w3
  rw [zC] at this
  refine this.frame λ j hj=>⟨?_,rfl⟩
  obtain ⟨id,rfl,hid⟩:=hj
  rw [e3];simp;omega
 have y3:∀ d,frz d G (.sl (List.length X1+List.length X2+1+1+1+a3) 0 m3 m3)=frz d X3 (.sl a3 0 m3 m3):=λ d=>by
  have:=WT.frz_lend l3 w3 d
  rw [zC] at this;exact this
 have e4:G=(b0::b1::b2::((X1.map (zX (3))++X2.map (zX (List.length X1+1+1+1)))++X3.map (zX (List.length X1+List.length X2+1+1+1))))++X4.map (zX (List.length X1+(List.length X2+List.length X3)+1+1+1))++([]):=by rw [hG];simp [aY]
 have l4:∀ id,id<X4.length->G[List.length X1+(List.length X2+List.length X3)+1+1+1+id]?=(X4[id]?).map (zX (List.length X1+(List.length X2+List.length X3)+1+1+1)):=λ id hid=>by rw [e4];exact Ke _ _ _ _ (by simp;try omega) id hid
 have v4:WT G (λ j=>j<G.length) (.slice Yc) (.sl (List.length X1+(List.length X2+List.length X3)+1+1+1+a4) 0 m4 m4):=by
  have:=WT.lend l4 w4
  rw [zC] at this
  refine this.frame λ j hj=>⟨?_,rfl⟩
  obtain ⟨id,rfl,hid⟩:=hj
  rw [e4];simp;omega
 have y4:∀ d,frz d G (.sl (List.length X1+(List.length X2+List.length X3)+1+1+1+a4) 0 m4 m4)=frz d X4 (.sl a4 0 m4 m4):=λ d=>by
  have:=WT.frz_lend l4 w4 d
  rw [zC] at this;exact this
 refine ⟨_,G,ed,hE,xy.cons (WT.str _) (xy.cons (WT.int _ _) (xy.cons (WT.int _ _) (xy.cons (WT.bool _) (xy.cons (WT.int _ _) (xy.cons v1 (xy.cons v2 (xy.cons v3 (xy.cons v4 (xy.nil))))))))),λ d hd=>?_⟩
 obtain ⟨d,rfl⟩:=zbr (show 1<=d by omega)
 simp only [aM,bA,QL,zbV,zrU,zrT,y1,y2,y3,y4,z1 (d+1) (by omega),z2 (d+1) (by omega),z3 (d+1) (by omega),z4 (d+1) (by omega)]
 first|rfl|(simp only [zU.norm,zU.cells,JQ,cZ];rfl)
theorem zrf (o:Option (List zU)) (hb:(ol o).length<=1048576) (hs:∀ i:Int,zbB (za (ol o) i)) (rows0:List (List PV)) (h0:rows0.length=(ol o).length) (h1:∀ r∈rows0,r.length=9):
  ∃ a':List (List PV)×zd×zI,EV A (.loop (WJ 0)) (⟨[(0,wc zU.cells o),(2,.nils),(3,.sl 0 0 (ol o).length (ol o).length),(4,.int .i64 0)],[],.cells 9 rows0::[],[]⟩:St)=some (zp.exit 0,(⟨[(0,wc zU.cells o),(2,.nils),(3,.sl 0 0 (ol o).length (ol o).length),(4,.int .i64 (ol o).length)],[],.cells 9 a'.1::a'.2.1,a'.2.2⟩:St))/\
   (a'.1.length=(ol o).length/\(∀ r∈a'.1,r.length=9)/\∀ j:Nat,(j:Int)<(ol o).length->∃ r,a'.1[j]?=some r/\xy (.cells 9 a'.1::a'.2.1) (λ x=>1<=x/\x<a'.2.1.length+1) uX r/\∀ d,2<=d->r.map (frz d (.cells 9 a'.1::a'.2.1))=(za (ol o) j).norm.cells):=by
 refine Vj (P:=A) (body:=WJ 0) (λ (i:Int) (a:List (List PV)×zd×zI)=>(⟨[(0,wc zU.cells o),(2,.nils),(3,.sl 0 0 (ol o).length (ol o).length),(4,.int .i64 i)],[],.cells 9 a.1::a.2.1,a.2.2⟩:St)) (λ i a=>a.1.length=(ol o).length/\(∀ r∈a.1,r.length=9)/\∀ j:Nat,(j:Int)<i->∃ r,a.1[j]?=some r/\xy (.cells 9 a.1::a.2.1) (λ x=>1<=x/\x<a.2.1.length+1) uX r/\∀ d,2<=d->r.map (frz d (.cells 9 a.1::a.2.1))=(za (ol o) j).norm.cells) (λ a=>(zp.exit 0,(⟨[(0,wc zU.cells o),(2,.nils),(3,.sl 0 0 (ol o).length (ol o).length),(4,.int .i64 (ol o).length)],[],.cells 9 a.1::a.2.1,a.2.2⟩:St))) 0 (ol o).length ?_ ?_ 0 (rows0,[],[]) (by omega) (by omega) ⟨h0,h1,λ j hj=>by omega⟩
 ·rintro i ⟨rows,T,ed⟩ hi hin ⟨hl,h8,hold⟩
  dsimp only at hl h8 hold ⊢
  obtain ⟨row,X,ed',e,w,z⟩:=zsW (za (ol o) i) (hs i)
  obtain ⟨x0,x1,x2,x3,x4,x5,x6,x7,x8,rfl,w5,w6,w7,w8⟩:=zlb w
  have w5':=w5
  simp only [WT] at w5'
  obtain ⟨p5,q5,_,rfl,_⟩:=w5'
  clear w5
  have w6':=w6
  simp only [WT] at w6'
  obtain ⟨p6,q6,_,rfl,_⟩:=w6'
  clear w6
  have w7':=w7
  simp only [WT] at w7'
  obtain ⟨p7,q7,_,rfl,_⟩:=w7'
  clear w7
  have w8':=w8
  simp only [WT] at w8'
  obtain ⟨p8,q8,_,rfl,_⟩:=w8'
  clear w8
  have hi2:i.toNat<rows.length:=by omega
  have hr:=aE hi2
  generalize rows[i.toNat]=r0 at hr
  have hr8:r0.length=9:=h8 r0 (aJ hr)
  have hd8:r0.drop 9=[]:=List.drop_of_length_le (by omega)
  have qset:∀ r,(rows.set i.toNat r)[i.toNat]?=some r:=λ r=>aK hi2
  simp only [zU.cells] at e
  refine ⟨_,⟨_,_,_⟩,by (simp (maxSteps:=10000000) -implicitDefEqProofs +contextual (disch:=omega) only [zay,JY,yq,jk,xm,wO,vd,zU.cells,aB,aA,bY,List.take_zero,bI, ↓XD,XU, ↓reduceIte,sevalprocAttr,hin,hl,hr,hr8,hd8,e])<;>rfl,by
   simp only [St.next]
   rw [zv8 _ (T.length+1+p5) _ _ _ (by simp) (by simp only [bC];omega) (by simp [show 0<T.length+1+p5 by omega])]
   rfl,?_⟩
  dsimp only
  have key:∀ id,id<X.length->(zZ.cells 9 (rows.set i.toNat [.str x0,.int .i64 x1,.int .i64 x2,.bool x3,.int .i64 x4,.sl (T.length+1+p5) 0 q5 q5,.sl (T.length+1+p6) 0 q6 q6,.sl (T.length+1+p7) 0 q7 q7,.sl (T.length+1+p8) 0 q8 q8])::(T++X.map (zX (T.length+1))))[T.length+1+id]?=(X[id]?).map (zX (T.length+1)):=λ id hid=>by
   have:=Ke (zZ.cells 9 (rows.set i.toNat [.str x0,.int .i64 x1,.int .i64 x2,.bool x3,.int .i64 x4,.sl (T.length+1+p5) 0 q5 q5,.sl (T.length+1+p6) 0 q6 q6,.sl (T.length+1+p7) 0 q7 q7,.sl (T.length+1+p8) 0 q8 q8])::T) X [] (T.length+1) (by simp) id hid
   simpa using this
  refine ⟨by simpa using hl,λ r hr'=>?_,λ j hj=>?_⟩
  ·rcases dC hr' with h|rfl
   ·exact h8 r h
   ·rfl
  ·by_cases hji:(j:Int)=i
   ·have hj2:i.toNat=j:=by omega
    refine ⟨_,by rw [<-hj2];exact qset _,?_,λ d hd=>?_⟩
    ·have:=xy.lend key w
     simp only [yR,zC] at this
     refine this.frame λ x hx=>⟨?_,rfl⟩
     obtain ⟨id,rfl,hid⟩:=hx
     simp;omega
    ·have h3:=xy.frz_lend key w d
     simp only [yR,zC] at h3
     rw [h3,z d hd,hji]
   ·obtain ⟨r,k1,k2,k3⟩:=hold j (by omega)
    have hfr:∀ x,(1<=x/\x<T.length+1)->(zZ.cells 9 (rows.set i.toNat [.str x0,.int .i64 x1,.int .i64 x2,.bool x3,.int .i64 x4,.sl (T.length+1+p5) 0 q5 q5,.sl (T.length+1+p6) 0 q6 q6,.sl (T.length+1+p7) 0 q7 q7,.sl (T.length+1+p8) 0 q8 q8])::(T++X.map (zX (T.length+1))))[x]?=(zZ.cells 9 rows::T)[x]?:=λ x hx=>by
     obtain ⟨y,rfl⟩:∃ y,x=y+1:=⟨x-1,by omega⟩
     simp only [dF]
     exact aD (by omega)
    refine ⟨r,by rw [aH (by omega)];exact k1,k2.frame λ x hx=>⟨by simp;omega,hfr x hx⟩,λ d hd=>?_⟩
    rw [xy.frz_frame hfr k2 d]
    exact k3 d hd
 ·rintro i ⟨rows,T,ed⟩ hi rfl hok
  refine ⟨by simp -implicitDefEqProofs +contextual (disch:=omega) only [zay,JY,yq, ↓XD,XU, ↓reduceIte,sevalprocAttr,aL],by simp⟩
theorem zq3 (o:Option (List zU)) (hb:(ol o).length<=1048576) (hs:∀ i:Int,zbB (za (ol o) i)):Out (ES A zc6 [wc zU.cells o] []) uX 3 (.fz ((ol o).map λ n=>n.norm.cells)):=by
 obtain ⟨⟨rows,T,ed⟩,e,hl,h8,hold⟩:=zrf o hb hs (List.replicate (ol o).length [.str ⟨#[]⟩,.int .i64 0,.int .i64 0,.bool false,.int .i64 0,.nils,.nils,.nils,.nils]) (by simp) (λ r hr=>by rw [List.eq_of_mem_replicate hr];rfl)
 dsimp only at e hl h8 hold
 refine ⟨0,(ol o).length,.cells 9 rows::T,ed,?_,?_,λ d hd=>?_⟩
 ·simp -implicitDefEqProofs +contextual (disch:=omega) only [zlu,zlP,JY,yq,xm,JQ, ↓XD,XU, ↓reduceIte,sevalprocAttr,e]
  rw [zik _ _ _ (by simp [zn,refs])]
  try rfl
 ·simp only [WT]
  refine ⟨0,_,rows,rfl,by simp,rfl,hl,hb,λ r hr=>?_⟩
  obtain ⟨j,hj,rfl⟩:=List.mem_iff_getElem.1 hr
  obtain ⟨r,k1,k2,_⟩:=hold j (by omega)
  rw [aE hj] at k1
  cases k1
  exact k2.frame λ x hx=>⟨by simp;omega,rfl⟩
 ·obtain ⟨d,rfl⟩:=zbr (show 1<=d by omega)
  rw [Kd d (s:=9) (rows:=rows) rfl hl]
  congr 1
  refine dN λ j=>?_
  rw [aN,aN]
  rcases bS j (ol o).length with hj|hj
  ·obtain ⟨r,k1,_,k3⟩:=hold j (by omega)
   have hn:(ol o)[j]?=some (za (ol o) (j:Int)):=by
    have:=xX (l:=ol o) (i:=(j:Int)) (by omega) (by omega)
    simpa using this
   rw [k1,hn]
   simp only [cA]
   rw [k3 d (by omega)]
  ·rw [bB (by omega),bB (by omega)];rfl
theorem zuR (o:Option (List zU)) (hb:(ol o).length<=1048576) (hs:∀ i:Int,zbB (za (ol o) i)):(∃ (id n:Nat) (X:zd) (ed:zI),ES A Wj [.agg (VR o)] []=some (.agg [.sl id 0 n n],X,ed)/\WT X (λ j=>j<X.length) (.slice uX) (.sl id 0 n n)/\∀ d,3<=d->frz d X (.sl id 0 n n)=zb ((ol o).map zU.to))/\EP A Wj [.agg (VR o)]=some (code ((ol o).map zU.to)):=by
 obtain ⟨a,n,X,ed,g,w,z⟩:=zq3 o hb hs
 have hz:PV.fz ((ol o).map λ n=>n.norm.cells)=zb ((ol o).map zU.to):=by
  simp only [zb,cZ]
  congr 1
  try exact bM λ f _=>zto f
 rw [hz] at z
 have key:∀ b0 b1 b2:zZ,(∀ id,id<X.length->(b0::b1::b2::X.map (zX 3))[3+id]?=(X[id]?).map (zX 3)):=λ b0 b1 b2 id hid=>by
  have:=Ke [b0,b1,b2] X [] 3 rfl id hid
  simpa using this
 have hf:∀ (b0 b1 b2:zZ) (d:Nat),3<=d->frz d (b0::b1::b2::X.map (zX 3)) (.sl (3+a) 0 n n)=zb ((ol o).map zU.to):=λ b0 b1 b2 d hd=>by
  have:=WT.frz_lend (key b0 b1 b2) w d
  rw [zC] at this
  rw [this,z d hd]
 constructor
 ·obtain ⟨b0,b1,b2,ed',hE⟩:∃ (b0 b1 b2:zZ) (ed':zI),ES A Wj [.agg (VR o)] []=some (.agg [.sl (3+a) 0 n n],b0::b1::b2::X.map (zX 3),ed'):=by
   have ht:∀ (H:zd) (ed:zI),trim 0 [.agg [.sl (3+a) 0 n n]] H ed=(H,ed):=λ H ed=>zik _ _ _ (by simp [zn,refs])
   exact ⟨_,_,_,_,by (simp -implicitDefEqProofs +contextual (disch:=omega) only [zog,zgS,ze4,VR,xm,wO,vd,Ws,aB,aA, ↓XD,XU, ↓reduceIte,sevalprocAttr,g,ht])<;>rfl⟩
  refine ⟨_,_,_,_,hE,?_,λ d hd=>hf _ _ _ d hd⟩
  have:=WT.lend (key b0 b1 b2) w
  rw [zC] at this
  refine this.frame λ j hj=>⟨?_,rfl⟩
  obtain ⟨id,rfl,hid⟩:=hj
  simp;omega
 ·have hf7:=λ b0 b1 b2=>hf b0 b1 b2 7 (by omega)
  simp -implicitDefEqProofs +contextual (disch:=omega) only [zn4,zgS,ze4,VR,xm,wO,vd,Ws,aB,aA, ↓XD,XU, ↓reduceIte,sevalprocAttr,g,hf7]
theorem zi6 (R:Nat->Prop) (H:zd) (p:PV) (k:Int) (hw:WT H R (.slice uX) p) (h0:0<=k) (h1:k<=1000):∃ (k':Int) (H':zd),ES A zcY [.agg [p],.int .i64 k] H=some (.int .i64 k',H',[])/\H'.length=H.length/\(∀ id,¬R id->H'[id]?=H[id]?)/\0<=k':=by
 obtain ⟨id,n,rfl⟩:∃ id n,p=.sl id 0 n n:=by simp only [WT] at hw;obtain ⟨id,n,_,rfl,_⟩:=hw;exact ⟨id,n,rfl⟩
 have hw1:WT (H++[.cells 1 [[.sl id 0 n n]]]) (λ j=>R j/\j<H.length) (.slice uX) (.sl id 0 n n):=by
  refine WT.frame (R:=λ j=>R j/\j<H.length) (λ j hj=>⟨hj,aD hj.2⟩) ?_
  exact WT.inside hw
 obtain ⟨k',H',e,a1,a2,a3,a4⟩:=zvx _ _ _ k hw1 h0 (by omega)
 have hlen:=a1.1
 simp only [aQ,bC,bE] at hlen
 have qb:∀ b:zZ,(H++[b])[H.length]?=some b:=λ b=>by simp
 have ht:trim H.length [.int .i64 k'] H' []=(H'.take H.length,[]):=by simp [trim,bare,zn,refs]
 refine ⟨k',H'.take H.length,?_,by simp;omega,λ j hj=>?_,by omega⟩
 ·simp -implicitDefEqProofs +contextual (disch:=omega) only [zlr,zlM,zj6,qb, ↓XD,XU, ↓reduceIte,sevalprocAttr,e,ht]
 ·rw [bR]
  split
  ·rename_i h
   rw [a2 j (λ h=>hj h.1),aD h]
  ·rename_i h
   rw [bB (by omega)]
theorem zxM:Ieee.double.read 4607182418800017408=.number false 4503599627370496 (-52):=by decide
theorem zzM (x:Nat) (h:FloatKind.f64.format.order x 0=some .eq):∃ r,FloatKind.f64.format.div 4607182418800017408 x=some r:=by
 have h':(Ieee.double.read x).order (Ieee.double.read 0)=some .eq:=h
 show ∃ r,(Ieee.Datum.quotient (Ieee.double.fractionBits+2) (Ieee.double.read 4607182418800017408) (Ieee.double.read x)).map Ieee.double.write=some r
 rw [zxM]
 cases hx:Ieee.double.read x with
 |nan s n=>rw [hx] at h';cases h'
 |infinity s=>exact ⟨_,rfl⟩
 |number s m i=>
  simp only [Ieee.Datum.quotient]
  split
  ·exact ⟨_,rfl⟩
  ·exact ⟨_,rfl⟩
theorem zwD (k:FloatKind) (x y r:Nat) (h:k.format.div x y=some r):Av.bin .quo (.flt k x) (.flt k y)=some (.flt k r):=by simp [Av.bin,KS,h]
theorem zpe (x:Nat):EP A zb4 [.flt .f64 x,.flt .f64 x]=some (.bool true):=by
 by_cases h0:FloatKind.f64.format.order x x=some .eq
 ·by_cases h:FloatKind.f64.format.order x 0=some .eq
  ·obtain ⟨r,hr⟩:=zzM x h
   have hq:=zwD .f64 4607182418800017408 x r hr
   simp -implicitDefEqProofs +contextual (disch:=omega) only [JK,J3,UH, ↓XD,XU, ↓reduceIte,sevalprocAttr,h0,h,hq]
  ·simp -implicitDefEqProofs +contextual (disch:=omega) only [JK,J3,UH, ↓XD,XU, ↓reduceIte,sevalprocAttr,h0,h]
 ·simp -implicitDefEqProofs +contextual (disch:=omega) only [JK,J3,UH, ↓XD,XU, ↓reduceIte,sevalprocAttr,h0]
theorem zzW (u:Up):EP A zjh [.agg u.cells,.agg u.cells]=some (.bool true):=by
 simp -implicitDefEqProofs +contextual (disch:=omega) only [zqK,zrH,zpX,Up.cells, ↓XD,XU, ↓reduceIte,sevalprocAttr]
theorem zAt (l:List Up) (hb:l.length<=1048576) (a0:Unit) (hok0:True):EV A (.loop (zbz 0)) (⟨[(0,.fz (l.map Up.cells)),(1,.fz (l.map Up.cells)),(4,.bool false),(5,.int .i64 (0))],[],[],[]⟩:St)=some (zp.exit 0,(⟨[(0,.fz (l.map Up.cells)),(1,.fz (l.map Up.cells)),(4,.bool false),(5,.int .i64 (l.length))],[],[],[]⟩:St))/\True:=by
 refine vC (λ i (a:Unit)=>(⟨[(0,.fz (l.map Up.cells)),(1,.fz (l.map Up.cells)),(4,.bool false),(5,.int .i64 i)],[],[],[]⟩:St)) (λ (i:Int) (a:Unit)=>a) (λ i (a:Unit)=>True) (λ a=>(zp.exit 0,(⟨[(0,.fz (l.map Up.cells)),(1,.fz (l.map Up.cells)),(4,.bool false),(5,.int .i64 (l.length))],[],[],[]⟩:St))) (0) (l.length) ?_ ?_ (0) a0 (by omega) (by omega) hok0
 ·intro i a hi hn hok
  have hg:=zzW (za l i);simp only [Up.cells] at hg
  refine ⟨⟨_,by simp -implicitDefEqProofs +contextual (disch:=omega) only [zdk,zaQ, ↓XD,XU, ↓reduceIte,sevalprocAttr,Up.cells,hg,hn,hok];rfl,by first|(simp [St.next,zT];done)|(simp [St.next,zT];omega)|(simp [St.next,trim,bare,zn,refs];done)⟩,by trivial⟩
 ·rintro i a hi rfl hok
  refine ⟨by simp -implicitDefEqProofs +contextual (disch:=omega) only [zdk,zaQ, ↓XD,XU, ↓reduceIte,sevalprocAttr,Up.cells,aL,hok],by simp⟩
theorem zwR (l:List Up) (hb:l.length<=1048576):EP A zhZ [.fz (l.map Up.cells),.fz (l.map Up.cells)]=some (.bool true):=by
 have hl:=(zAt l hb () trivial).1
 simp -implicitDefEqProofs +contextual (disch:=omega) only [zo9,zqi,zaQ, ↓XD,XU, ↓reduceIte,sevalprocAttr,hl]
theorem zsM (u:yo):EP A zeH [.agg u.cells,.agg u.cells]=some (.bool true):=by
 simp -implicitDefEqProofs +contextual (disch:=omega) only [zmq,zm8,zlg,yo.cells, ↓XD,XU, ↓reduceIte,sevalprocAttr,zpe]
theorem ztk (l:List yo) (hb:l.length<=1048576) (a0:Unit) (hok0:True):EV A (.loop (Kp 0)) (⟨[(0,.fz (l.map yo.cells)),(1,.fz (l.map yo.cells)),(4,.bool false),(5,.int .i64 (0))],[],[],[]⟩:St)=some (zp.exit 0,(⟨[(0,.fz (l.map yo.cells)),(1,.fz (l.map yo.cells)),(4,.bool false),(5,.int .i64 (l.length))],[],[],[]⟩:St))/\True:=by
 refine vC (λ i (a:Unit)=>(⟨[(0,.fz (l.map yo.cells)),(1,.fz (l.map yo.cells)),(4,.bool false),(5,.int .i64 i)],[],[],[]⟩:St)) (λ (i:Int) (a:Unit)=>a) (λ i (a:Unit)=>True) (λ a=>(zp.exit 0,(⟨[(0,.fz (l.map yo.cells)),(1,.fz (l.map yo.cells)),(4,.bool false),(5,.int .i64 (l.length))],[],[],[]⟩:St))) (0) (l.length) ?_ ?_ (0) a0 (by omega) (by omega) hok0
 ·intro i a hi hn hok
  have hg:=zsM (za l i);simp only [yo.cells] at hg
  refine ⟨⟨_,by simp -implicitDefEqProofs +contextual (disch:=omega) only [zau,JU, ↓XD,XU, ↓reduceIte,sevalprocAttr,yo.cells,hg,hn,hok];rfl,by first|(simp [St.next,zT];done)|(simp [St.next,zT];omega)|(simp [St.next,trim,bare,zn,refs];done)⟩,by trivial⟩
 ·rintro i a hi rfl hok
  refine ⟨by simp -implicitDefEqProofs +contextual (disch:=omega) only [zau,JU, ↓XD,XU, ↓reduceIte,sevalprocAttr,yo.cells,aL,hok],by simp⟩
theorem zqP (l:List yo) (hb:l.length<=1048576):EP A zcW [.fz (l.map yo.cells),.fz (l.map yo.cells)]=some (.bool true):=by
 have hl:=(ztk l hb () trivial).1
 simp -implicitDefEqProofs +contextual (disch:=omega) only [zkw,zlK,JU, ↓XD,XU, ↓reduceIte,sevalprocAttr,hl]
theorem zwQ (u:Ins):EP A zhY [.agg u.cells,.agg u.cells]=some (.bool true):=by
 simp -implicitDefEqProofs +contextual (disch:=omega) only [zo8,zqh,zoc,Ins.cells, ↓XD,XU, ↓reduceIte,sevalprocAttr]
theorem zxC (l:List Ins) (hb:l.length<=1048576) (a0:Unit) (hok0:True):EV A (.loop (zaD 0)) (⟨[(0,.fz (l.map Ins.cells)),(1,.fz (l.map Ins.cells)),(4,.bool false),(5,.int .i64 (0))],[],[],[]⟩:St)=some (zp.exit 0,(⟨[(0,.fz (l.map Ins.cells)),(1,.fz (l.map Ins.cells)),(4,.bool false),(5,.int .i64 (l.length))],[],[],[]⟩:St))/\True:=by
 refine vC (λ i (a:Unit)=>(⟨[(0,.fz (l.map Ins.cells)),(1,.fz (l.map Ins.cells)),(4,.bool false),(5,.int .i64 i)],[],[],[]⟩:St)) (λ (i:Int) (a:Unit)=>a) (λ i (a:Unit)=>True) (λ a=>(zp.exit 0,(⟨[(0,.fz (l.map Ins.cells)),(1,.fz (l.map Ins.cells)),(4,.bool false),(5,.int .i64 (l.length))],[],[],[]⟩:St))) (0) (l.length) ?_ ?_ (0) a0 (by omega) (by omega) hok0
 ·intro i a hi hn hok
  have hg:=zwQ (za l i);simp only [Ins.cells] at hg
  refine ⟨⟨_,by simp -implicitDefEqProofs +contextual (disch:=omega) only [zch,QU, ↓XD,XU, ↓reduceIte,sevalprocAttr,Ins.cells,hg,hn,hok];rfl,by first|(simp [St.next,zT];done)|(simp [St.next,zT];omega)|(simp [St.next,trim,bare,zn,refs];done)⟩,by trivial⟩
 ·rintro i a hi rfl hok
  refine ⟨by simp -implicitDefEqProofs +contextual (disch:=omega) only [zch,QU, ↓XD,XU, ↓reduceIte,sevalprocAttr,Ins.cells,aL,hok],by simp⟩
theorem zuD (l:List Ins) (hb:l.length<=1048576):EP A zgC [.fz (l.map Ins.cells),.fz (l.map Ins.cells)]=some (.bool true):=by
 have hl:=(zxC l hb () trivial).1
 simp -implicitDefEqProofs +contextual (disch:=omega) only [zn1,zon,QU, ↓XD,XU, ↓reduceIte,sevalprocAttr,hl]
theorem zsK (u:xz):EP A zeE [.agg u.cells,.agg u.cells]=some (.bool true):=by
 simp -implicitDefEqProofs +contextual (disch:=omega) only [zmn,zm5,zld,xz.cells, ↓XD,XU, ↓reduceIte,sevalprocAttr]
theorem ztj (l:List xz) (hb:l.length<=1048576) (a0:Unit) (hok0:True):EV A (.loop (Kn 0)) (⟨[(0,.fz (l.map xz.cells)),(1,.fz (l.map xz.cells)),(4,.bool false),(5,.int .i64 (0))],[],[],[]⟩:St)=some (zp.exit 0,(⟨[(0,.fz (l.map xz.cells)),(1,.fz (l.map xz.cells)),(4,.bool false),(5,.int .i64 (l.length))],[],[],[]⟩:St))/\True:=by
 refine vC (λ i (a:Unit)=>(⟨[(0,.fz (l.map xz.cells)),(1,.fz (l.map xz.cells)),(4,.bool false),(5,.int .i64 i)],[],[],[]⟩:St)) (λ (i:Int) (a:Unit)=>a) (λ i (a:Unit)=>True) (λ a=>(zp.exit 0,(⟨[(0,.fz (l.map xz.cells)),(1,.fz (l.map xz.cells)),(4,.bool false),(5,.int .i64 (l.length))],[],[],[]⟩:St))) (0) (l.length) ?_ ?_ (0) a0 (by omega) (by omega) hok0
 ·intro i a hi hn hok
  have hg:=zsK (za l i);simp only [xz.cells] at hg
  refine ⟨⟨_,by simp -implicitDefEqProofs +contextual (disch:=omega) only [zas,JS, ↓XD,XU, ↓reduceIte,sevalprocAttr,xz.cells,hg,hn,hok];rfl,by first|(simp [St.next,zT];done)|(simp [St.next,zT];omega)|(simp [St.next,trim,bare,zn,refs];done)⟩,by trivial⟩
 ·rintro i a hi rfl hok
  refine ⟨by simp -implicitDefEqProofs +contextual (disch:=omega) only [zas,JS, ↓XD,XU, ↓reduceIte,sevalprocAttr,xz.cells,aL,hok],by simp⟩
theorem zqN (l:List xz) (hb:l.length<=1048576):EP A zcU [.fz (l.map xz.cells),.fz (l.map xz.cells)]=some (.bool true):=by
 have hl:=(ztj l hb () trivial).1
 simp -implicitDefEqProofs +contextual (disch:=omega) only [zku,zlI,JS, ↓XD,XU, ↓reduceIte,sevalprocAttr,hl]
theorem zsL (f:zc) (h:zfI f):EP A zeF [.agg f.cells,.agg f.cells]=some (.bool true):=by
 have g1:=zwR f.Ups h.u
 have g2:=zqP f.Consts h.c
 have g3:=zuD f.Ins h.i
 have g4:=zqN f.Named h.n
 simp -implicitDefEqProofs +contextual (disch:=omega) only [zmo,zm6,zle,zc.cells,ups,ze,zj,zm, ↓XD,XU, ↓reduceIte,sevalprocAttr,g1,g2,g3,g4]
theorem zxB (l:List zc) (hb:l.length<=1048576) (hs:vz l) (a0:Unit) (hok0:True):EV A (.loop (Ko 0)) (⟨[(0,.fz (l.map zc.cells)),(1,.fz (l.map zc.cells)),(4,.bool false),(5,.int .i64 (0))],[],[],[]⟩:St)=some (zp.exit 0,(⟨[(0,.fz (l.map zc.cells)),(1,.fz (l.map zc.cells)),(4,.bool false),(5,.int .i64 (l.length))],[],[],[]⟩:St))/\True:=by
 refine vC (λ i (a:Unit)=>(⟨[(0,.fz (l.map zc.cells)),(1,.fz (l.map zc.cells)),(4,.bool false),(5,.int .i64 i)],[],[],[]⟩:St)) (λ (i:Int) (a:Unit)=>a) (λ i (a:Unit)=>True) (λ a=>(zp.exit 0,(⟨[(0,.fz (l.map zc.cells)),(1,.fz (l.map zc.cells)),(4,.bool false),(5,.int .i64 (l.length))],[],[],[]⟩:St))) (0) (l.length) ?_ ?_ (0) a0 (by omega) (by omega) hok0
 ·intro i a hi hn hok
  have hg:=zsL (za l i) (hs i);simp only [zc.cells,ups,ze,zj,zm] at hg
  refine ⟨⟨_,by simp -implicitDefEqProofs +contextual (disch:=omega) only [zat,JT, ↓XD,XU, ↓reduceIte,sevalprocAttr,zc.cells,ups,ze,zj,zm,hg,hn,hok];rfl,by first|(simp [St.next,zT];done)|(simp [St.next,zT];omega)|(simp [St.next,trim,bare,zn,refs];done)⟩,by trivial⟩
 ·rintro i a hi rfl hok
  refine ⟨by simp -implicitDefEqProofs +contextual (disch:=omega) only [zat,JT, ↓XD,XU, ↓reduceIte,sevalprocAttr,zc.cells,ups,ze,zj,zm,aL,hok],by simp⟩
theorem zqO (l:List zc) (hb:l.length<=1048576) (hs:vz l):EP A zcV [zb l,zb l]=some (.bool true):=by
 have hl:=(zxB l hb hs () trivial).1
 simp -implicitDefEqProofs +contextual (disch:=omega) only [zkv,zlJ,JT,zb, ↓XD,XU, ↓reduceIte,sevalprocAttr,hl]
theorem zuC (l:List zc) (hb:l.length<=1048576) (hs:vz l):EP A zgB [code l,code l]=some (.bool true):=by
 have g:=zqO l hb hs
 simp only [zb] at g
 simp -implicitDefEqProofs +contextual (disch:=omega) only [zn0,zom,zmQ,code,zb, ↓XD,XU, ↓reduceIte,sevalprocAttr,g]
theorem zjs {c d:Int->Int}:∀ (m:Nat) (i:Int),(∀ k,i<=k->c k=d k)->vi c m i=vi d m i
 |0,_,_=>rfl
 |m+1,i,h=>by rw [vi,vi,h i (Int.le_refl _),zjs m (i+1) (λ k hk=>h k (by omega))]
theorem zjt (c:Int->Int):∀ (m:Nat) (i:Int),vi c m (i+1)=vi (λ k=>c (k+1)) m i
 |0,_=>rfl
 |m+1,i=>by rw [vi,vi,zjt c m (i+1)]
theorem zxL {α:Type} [Inhabited α] (x:α) (l:List α) {k:Int} (h:0<=k):za (x::l) (k+1)=za l k:=by
 simp [za,List.getD,show (k+1).toNat=k.toNat+1 by omega]
theorem zv3 {α:Type} [Inhabited α] (g:α->Nat) (c:α->Int) (h:∀ x,(g x:Int)<=c x):∀ l:List α,(((l.map g).sum:Nat):Int)<=vi (λ k=>c (za l k)) l.length 0
 |[]=>by simp [vi]
 |x::l=>by
  have ih:=zv3 g c h l
  have hx:=h x
  rw [aM,List.sum_cons,bC,vi,zjt]
  rw [zjs (d:=λ k=>c (za l k)) l.length 0 (λ k hk=>by rw [zxL x l hk])]
  have:za (x::l) 0=x:=rfl
  rw [this]
  omega
theorem zvf {c:Int->Int} (hc:∀ i,0<=c i):∀ (m:Nat) (i j:Int),i<=j->j<i+m->c j<=vi c m i
 |0,i,j,h1,h2=>by omega
 |m+1,i,j,h1,h2=>by
  have:=hc i
  have h3:=uI hc m (i+1)
  rw [vi]
  by_cases h:i=j
  ·subst h;omega
  ·have:=zvf hc m (i+1) j (by omega) (by omega);omega
theorem zAB {α β:Type} [Inhabited α] [Inhabited β] (f:α->β) (l:List α) {i:Int} (h0:0<=i) (h1:i<l.length):za (l.map f) i=f (za l i):=by
 rw [ze0 h0 h1,ze0 h0 (by simpa using h1)];simp
theorem zAz {α:Type} [Inhabited α] {l:List α} {i:Int} (h:¬(0<=i/\i<l.length)):za l i=default\/(¬0<=i/\za l i=za l 0):=by
 by_cases h0:0<=i
 ·left;exact Go.Av.ziG h0 (by omega)
 ·right;exact ⟨h0,by simp [za,show i.toNat=0 by omega]⟩
theorem VI {α:Type} [Inhabited α] {l:List α} {p:α->Prop} (hd:p default) (h:∀ i:Int,0<=i->i<l.length->p (za l i)) (i:Int):p (za l i):=by
 by_cases hi:0<=i/\i<l.length
 ·exact h i hi.1 hi.2
 ·rcases zAz hi with e|⟨h0,e⟩
  ·rw [e];exact hd
  ·rw [e]
   by_cases hl:(0:Int)<l.length
   ·exact h 0 (by omega) hl
   ·rw [Go.Av.ziG (by omega) (by omega)];exact hd
theorem zv4 {f:zU} (h:vS f<=1048576):zbB f:=by
 have h1:=Jm (ol f.Consts)
 have h2:=Jl (ol f.Named)
 simp only [vS] at h
 exact ⟨by omega,by omega,by omega,by omega⟩
theorem zlz {l:List zU} (h:jt l<=1048576) (i:Int):zbB (za l i):=by
 refine VI (p:=zbB) ⟨by decide,by decide,by decide,by decide⟩ (λ i h0 h1=>zv4 ?_) i
 have:=zvf (c:=λ k=>vS (za l k)) (λ k=>VY _) l.length 0 i h0 (by omega)
 simp only [jt] at h
 try dsimp only at this
 omega
theorem zp_ {l:List zU} (h:jt l<=1048576):l.length<=1048576/\w9 (l.map zU.to)<=1048576:=by
 have h1:=uI (c:=λ k=>vS (za l k)) (λ k=>VY _) l.length 0
 have h2:=zv3 (λ f:zU=>(ol f.Ins).length) vS (λ f=>by
  have:=Jm (ol f.Consts);have:=Jl (ol f.Named)
  simp only [vS];omega) l
 simp only [jt] at h
 refine ⟨by omega,?_⟩
 rw [w9,cZ]
 have e:(l.map ((λ f:zc=>f.Ins.length) ∘ zU.to))=l.map λ f:zU=>(ol f.Ins).length:=bM λ f _=>by simp [zU.to]
 rw [e]
 omega
structure zdU (q:zU):Prop where
 f:∀ k:Int,(za (ol q.Consts) k).Flt<2 ^ 64
 x:∀ k j:Int, -9223372036854775808<=za [(za (ol q.Ins) k).A,(za (ol q.Ins) k).B,(za (ol q.Ins) k).C,(za (ol q.Ins) k).D] j/\za [(za (ol q.Ins) k).A,(za (ol q.Ins) k).B,(za (ol q.Ins) k).C,(za (ol q.Ins) k).D] j<9223372036854775808
theorem zbt {α:Type} [Inhabited α] (k:Int):za ([]:List α) k=default:=by simp [za,List.getD]
theorem zv0 {l:List zU} (h:jt l<=1048576) (hg:∀ i:Int,zdU (za l i)):vz (l.map zU.to):=by
 intro j
 refine VI (l:=l.map zU.to) (p:=zfI) ⟨by decide,by decide,by decide,by decide,λ k=>?_,λ k j=>?_⟩ (λ i h0 h1=>?_) j
 ·rw [show (default:zc).Consts=[] from rfl,zbt];decide
 ·rw [show (default:zc).Ins=[] from rfl,zbt]
  exact VI (l:=[(default:Ins).A,(default:Ins).B,(default:Ins).C,(default:Ins).D]) (p:=λ x:Int=> -9223372036854775808<=x/\x<9223372036854775808) (by decide) (λ i i0 i1=>by
   have:i=0\/i=1\/i=2\/i=3:=by simp at i1;omega
   rcases this with rfl|rfl|rfl|rfl<;>decide) j
 rw [cF] at h1
 rw [zAB zU.to l h0 h1]
 have hs:=zlz h i
 exact ⟨by simpa [zU.to] using hs.u,by simpa [zU.to] using hs.c,by simpa [zU.to] using hs.i,by simpa [zU.to] using hs.n,(hg i).f,(hg i).x⟩
end Go.Proofs.Tryd.Av
end
section
attribute [local congr] ite_congr
set_option maxRecDepth 10000
set_option maxHeartbeats 8000000
namespace Go.Proofs.Tryd.Av
open Go Go.Av Classical
theorem zyO {ps:List zc} {p:Int} (hI:∀ i:Int,0<=i->i<(za ps p).Ins.length->jb ps p i) (hr:0<=(za ps p).Regs):∀ (n:Nat) (S:List (Option ya)) (due:List Bool),WB S due<=n->WOk (za ps p) S due->∀ s,some s∈(X6 ps (za ps p) S due).2->KQ (za ps p) s:=by
 have base:∀ (S:List (Option ya)) (due:List Bool),WOk (za ps p) S due->∀ s,some s∈S->KQ (za ps p) s:=λ S due hW s hs=>by
  obtain ⟨i,i0,i1,e⟩:=Xs hs
  exact hW.ok i i0 (by have:=hW.s;omega) s e
 intro n
 induction n with
 |zero=>
  intro S due hm hW
  cases ha:Xz due with
  |none=>rw [zgg ha];exact base S due hW
  |some a=>
   cases hro:XC ps (za ps p) S due a with
   |inl c=>rw [zct ha hro];exact base S due hW
   |inr sd=>
    obtain ⟨S',due'⟩:=sd
    obtain ⟨_,k2⟩:=zf8 hI hr hW ha hro
    omega
 |succ n ih=>
  intro S due hm hW
  cases ha:Xz due with
  |none=>rw [zgg ha];exact base S due hW
  |some a=>
   cases hro:XC ps (za ps p) S due a with
   |inl c=>rw [zct ha hro];exact base S due hW
   |inr sd=>
    obtain ⟨S',due'⟩:=sd
    obtain ⟨k1,k2⟩:=zf8 hI hr hW ha hro
    rw [znf ha hro k2]
    exact ih S' due' (by omega) k1
theorem zyw {ps:List zc} (hS:zbm ps) {p:Int} (p0:0<=p) (p1:p<ps.length) {S:List (Option ya)} (hw:wv ps p=.inr S):ziC S:=by
 have hPO:=hS.fine.ok p p0 p1
 have hr1:=hPO.r1
 have h:=zyO (hS.fine.ins p p0 p1) hPO.r0 _ _ _ (aS _) (zj9 (hS.head p p0 p1) (hS.one p p0 p1))
 have e:S=(X6 ps (za ps p) (Vs (za ps p)) (Vr (za ps p))).2:=by
  unfold wv Zq at hw
  split at hw
  ·split at hw
   ·cases hw
   ·cases hw;rfl
  ·cases hw
 rw [<-e] at h
 intro o ho
 cases o with
 |none=>exact ⟨by simp [Qx],by simp [gsO]⟩
 |some s=>
  have:=h s ho
  have t:=this.t
  have g:=this.g
  exact ⟨by simp only [Qx];omega,by simp only [gsO];omega⟩
theorem zpd (o:Option (List zU)) (f:Int) (hb:(ol o).length<=9223372036854775807) (hs:∀ i:Int,Kv (za (ol o) i)) (hg:∀ i:Int,zdU (za (ol o) i)):EP A K0 [.agg (VR o),.int .i64 f]=some (.bool true):=by
 have g1:=zuE o hb hs
 by_cases c:(1048576:Int)<jt (ol o)
 ·rw [rest,if_pos c] at g1
  simp -implicitDefEqProofs +contextual (disch:=omega) only [Xx,XG,Xj,VR,yq,xm,wO,vd,Ws, ↓XD,XU, ↓reduceIte,sevalprocAttr,g1]
 ·rw [rest,if_neg c] at g1
  have hz:jt (ol o)<=1048576:=by omega
  have hl:=zp_ hz
  have hS:=zv0 hz hg
  obtain ⟨⟨id,n,X,edx,gx,wx,zx⟩,g2⟩:=zuR o hl.1 (zlz hz)
  have hl2:((ol o).map zU.to).length<=1048576:=by simpa using hl.1
  have e:¬1048576-jt (ol o)<0:=by omega
  have g6:=zuC _ hl2 hS
  have hid:id<X.length:=by simp only [WT] at wx;obtain ⟨i',n',_,e',h,_⟩:=wx;cases e';exact h
  obtain ⟨T,hT⟩:∃ T:zd,List.map (zX 1) X=T:=⟨_,rfl⟩
  obtain ⟨N,hN⟩:∃ N,X.length=N:=⟨_,rfl⟩
  have hTN:T.length=N:=by rw [<-hT, <-hN];simp
  have key:∀ (b:zZ) (Y:zd) (j:Nat),j<X.length->(b::(T++Y))[1+j]?=(X[j]?).map (zX 1):=λ b Y j hj=>by
   have:=Ke [b] X Y 1 rfl j hj
   rw [hT] at this
   simpa using this
  have hw:∀ (b:zZ) (Y:zd),WT (b::(T++Y)) (λ j=>1<=j/\j<1+N) (.slice uX) (.sl (1+id) 0 n n):=λ b Y=>by
   have:=WT.lend (key b Y) wx
   rw [zC] at this
   refine this.frame λ j hj=>⟨?_,rfl⟩
   obtain ⟨j',rfl,hj'⟩:=hj
   omega
  have hfz:∀ (b:zZ) (Y:zd),frz 7 (b::(T++Y)) (.sl (1+id) 0 n n)=zb ((ol o).map zU.to):=λ b Y=>by
   have:=WT.frz_lend (key b Y) wx 7
   rw [zC] at this
   rw [this,zx 7 (by omega)]
  have q1:∀ (b:zZ) (Y:zd),(T++b::Y)[N]?=some b:=λ b Y=>by rw [<-hTN,aI (aS _)];simp
  have q2:∀ (b b':zZ) (Y:zd),(T++b::Y).set N b'=T++b'::Y:=λ b b' Y=>by rw [<-hTN,List.set_append,if_neg (Nat.lt_irrefl _),Nat.sub_self,List.set_cons_zero]
  generalize hps:(ol o).map zU.to=ps at *
  by_cases hc:zmZ ps f
  ·obtain ⟨hW,S,hwS⟩:=zic hl2 hS hc
   have hsh:=zyw hW hc.1.2 hc.2 hwS
   obtain ⟨zs,g3,hz3⟩:=zpj ps f hl2 hl.2 hS hc hwS
   obtain ⟨hSn,⟨Gs,eds,rows,g4,gs3,hR⟩,zi,g5,hz5⟩:=zpn ps f hl2 hl.2 hS hc hwS
   have hSl:S.length<=1048576:=by
    have:=(hW.fine.ok f hc.1.2 hc.2).i
    omega
   obtain ⟨G,hG⟩:∃ G:zd,.cells 1 [[wc zU.cells o]]::(T++.cells 1 [[.sl (1+id) 0 n n]]::Gs.map (zX (N+1+1)))=G:=⟨_,rfl⟩
   have hLent:zmg (N+1+1) Gs G:=λ j hj=>by
    have:=Ke (.cells 1 [[wc zU.cells o]]::(T++[.cells 1 [[.sl (1+id) 0 n n]]])) Gs [] (N+1+1) (by simp [hTN]) j hj
    rw [<-hG]
    simpa using this
   have hRG:=hR.lend hLent
   have hg5:G[N+1+1+3]?=some (.cells 3 (rows.map (yR (N+1+1)))):=by
    rw [hLent 3 (yJ gs3),gs3];rfl
   have hg0:G[0]?=some (.cells 1 [[wc zU.cells o]]):=by rw [<-hG];rfl
   obtain ⟨rows2,hrows2⟩:∃ r,rows.map (yR (N+1+1))=r:=⟨_,rfl⟩
   rw [hrows2] at hRG hg5
   have hfS:∀ H:zd,H[N+1+1+3]?=some (.cells 3 rows2)->frz 8 H (.sl (N+1+1+3) 0 S.length S.length)=.fz (rows2.map (·.map (Go.Av.frz (4+3) H))):=λ H h=>zbq h hRG.len 7
   obtain ⟨k',H1,g8,hlen,hfr,hk'⟩:=zi6 _ G _ 1 (by rw [<-hG];exact hw _ _) (by omega) (by omega)
   have hh5:H1[N+1+1+3]?=some (.cells 3 rows2):=by rw [hfr _ (by omega),hg5]
   have hh0:H1[0]?=some (.cells 1 [[wc zU.cells o]]):=by rw [hfr _ (by omega),hg0]
   have hRH:vy H1 (N+1+1+4) rows2 S:=hRG.keep λ r hr x hx=>hfr x (by have:=hRG.lo r hr x hx;omega)
   have hzG:=hfS G hg5
   have hzH:=hfS H1 hh5
   have g7:=zjO (hRG.frz 4) hz3 hSl hsh
   have g7':=zjO (hRH.frz 4) hz3 hSl hsh
   have g7'':=zjO hz5 hz3 hSl hsh
   obtain ⟨H2,rows3,g9,hlen2,hfr2,hh2,hr3,hM⟩:=zuQ hh5 hRH (by omega) hSl hsh
   have hs0:H2[0]?=some (.cells 1 [[wc zU.cells o]]):=by rw [hfr2 0 (by omega) (by omega),hh0]
   have hzM:frz 8 H2 (.sl (N+1+1+3) 0 S.length S.length)=.fz (rows3.map (·.map (Go.Av.frz (4+3) H2))):=zbq hh2 hr3 7
   have g10:=zwU (zr:=rows3.map (·.map (Go.Av.frz (4+3) H2))) (by simpa using hr3) hSl hsh (λ i r o' h1 h2=>by
    rw [aN] at h1
    cases hk:rows3[i]? with
    |none=>rw [hk] at h1;cases h1
    |some r0=>rw [hk] at h1;cases h1;exact (hM i r0 o' hk h2).frz 4)
   have hkb:=zcP hsh S.length (aS _)
   obtain ⟨ke,hke⟩:∃ k,kS S S.length=k:=⟨_,rfl⟩
   rw [hke] at g9 g10 hkb
   have hk'':¬k'<0:=by omega
   have hm0:¬ke<0:=by omega
   generalize rows2.map (·.map (Go.Av.frz (4+3) G))=w1 at hzG g7
   generalize rows2.map (·.map (Go.Av.frz (4+3) H1))=w2 at hzH g7'
   generalize rows3.map (·.map (Go.Av.frz (4+3) H2))=w3 at hzM g10
   have yG:xF 7 G 0 S.length S.length (some (.cells 3 rows2))=.fz w1:=by have:=QM 7 G (N+1+1+3) 0 S.length S.length;rw [hg5] at this;exact this.symm.trans hzG
   have yH:xF 7 H1 0 S.length S.length (some (.cells 3 rows2))=.fz w2:=by have:=QM 7 H1 (N+1+1+3) 0 S.length S.length;rw [hh5] at this;exact this.symm.trans hzH
   have yM:xF 7 H2 0 S.length S.length (some (.cells 3 rows3))=.fz w3:=by have:=QM 7 H2 (N+1+1+3) 0 S.length S.length;rw [hh2] at this;exact this.symm.trans hzM
   have hbx:G[N+1]?=some (.cells 1 [[.sl (1+id) 0 n n]]):=by rw [<-hG,dF];exact q1 _ _
   have hfzG:frz 7 G (.sl (1+id) 0 n n)=zb ps:=by rw [<-hG];exact hfz _ _
   simp only [code,zb] at g2 g3 g4 g5 g6 hfz hfzG
   simp -implicitDefEqProofs +contextual (disch:=omega) only [Xx,XG,Xj, ↓hT,hN,hTN,q1,q2,List.set_cons_succ,VR,yq,xm,wO,vd,Ws,aB,aA,aY,aQ,cF, ↓XD,XU, ↓reduceIte,sevalprocAttr,g1,g2,g3,g4,g5,g6,g7,g7',g7'',g8,g9,g10,gx,e,hfz,hfzG,hG,hg0,hg5,hh5,hh2,hbx,hzG,hzH,hzM,yG,yH,yM,hs0,hk'',hm0]
  ·have g3:=zpi ps f hl2 hl.2 hS hc
   obtain ⟨g4,g5⟩:=zpm ps f hl2 hl.2 hS hc
   have g7:=zpb
   have g9:=λ H k=>zn_ H k
   have g10:=zpc 1
   obtain ⟨G,hG⟩:∃ G:zd,G=.cells 1 [[wc zU.cells o]]::(T++[.cells 1 [[.sl (1+id) 0 n n]]]):=⟨_,rfl⟩
   have hg0:G[0]?=some (.cells 1 [[wc zU.cells o]]):=by rw [hG];rfl
   obtain ⟨k',H',g8,hlen,hfr,hk'⟩:=zi6 _ G _ 1 (by rw [hG];exact hw _ _) (by omega) (by omega)
   have hh0:H'[0]?=some (.cells 1 [[wc zU.cells o]]):=by rw [hfr _ (by omega),hg0]
   have hk'':¬k'<0:=by omega
   rw [hG] at g8
   simp only [code,zb] at g2 g3 g4 g5 g6 hfz
   simp -implicitDefEqProofs +contextual (disch:=omega) only [Xx,XG,Xj, ↓hT,hN,hTN,q1,q2,List.set_cons_succ,VR,yq,xm,wO,vd,Ws,aB,aA,bY,aY,aQ,cF,bA, ↓XD,XU, ↓reduceIte,sevalprocAttr,g1,g2,g3,g4,g5,g6,g7,g8,g9,g10,gx,e,hfz,hh0,hk'']
end Go.Proofs.Tryd.Av
end
section
namespace Go.Proofs.Tryd.Av
open Go Go.Av Classical
theorem xi {s:Sh} {ss:List Sh} {r:List PV} (h:ux (s::ss) r):∃ p ps,r=p::ps/\Ok s p/\ux ss ps:=by
 obtain ⟨h1,h2⟩:=h
 cases r with
 |nil=>simp at h1
 |cons p ps=>exact ⟨p,ps,rfl,h2 0 s p rfl rfl,by simpa using h1,λ i s' p' e1 e2=>h2 (i+1) s' p' e1 e2⟩
theorem Kg {r:List PV} (h:ux [] r):r=[]:=bT.1 h.1
theorem zaj {α:Type} (f:α->List PV) (good:α->Prop) (es:List Sh) (h:∀ r,ux es r->∃ x,r=f x/\good x) {p:PV} (hp:Ok (.slice es) p):∃ o:Option (List α),p=wc f o/\(ol o).length<=9223372036854775807/\∀ x∈ol o,good x:=by
 cases hp with
 |nils=>exact ⟨none,rfl,by simp,by simp⟩
 |fz _ rows hl hs hk=>
  have hm:(maxLen:Nat)=9223372036854775807:=by decide
  have:∀ rows:List (List PV),(∀ r∈rows,ux es r)->∃ l:List α,rows=l.map f/\∀ x∈l,good x:=by
   intro rows
   induction rows with
   |nil=>exact λ _=>⟨[],rfl,by simp⟩
   |cons r rows ih=>
    intro hr
    obtain ⟨l,e,hg⟩:=ih λ r hr'=>hr r (bL _ hr')
    obtain ⟨x,e2,hx⟩:=h r (hr r (cM ..))
    exact ⟨x::l,by rw [aM,e,e2],by simpa using ⟨hx,hg⟩⟩
  obtain ⟨l,e,hg⟩:=this rows λ r hr=>⟨hs r hr,hk r hr⟩
  refine ⟨some l,by rw [e];rfl,?_,hg⟩
  have:rows.length=l.length:=by rw [e,cF]
  show l.length<=_
  omega
theorem jj {p:PV} (h:Ok (.int .i64) p):∃ n,p=.int .i64 n/\ -9223372036854775808<=n/\n<9223372036854775808:=by
 cases h with
 |int k n h=>
  refine ⟨n,rfl,?_⟩
  simp only [Lit.wf,aU,cC] at h
  have h1:IntKind.i64.min= -9223372036854775808:=by decide
  have h2:IntKind.i64.max=9223372036854775807:=by decide
  omega
theorem zo7 {p:PV} (h:Ok .bool p):∃ n,p=.bool n:=by cases h;exact ⟨_,rfl⟩
theorem zzH {p:PV} (h:Ok (.flt .f64) p):∃ n,p=.flt .f64 n/\n<2 ^ 64:=by
 cases h with
 |flt k n h=>exact ⟨n,rfl,by simpa [Lit.wf] using h⟩
theorem zml {p:PV} (h:Ok .str p):∃ s:ByteArray,p=.str s/\s.size<=9223372036854775807:=by
 cases h with
 |str s h=>exact ⟨s,rfl,h⟩
theorem zzK {p:PV} (h:Ok (.slice [.bool,.int .i64]) p):∃ o:Option (List Up),p=wc Up.cells o/\(ol o).length<=9223372036854775807:=by
 obtain ⟨o,e,hl,_⟩:=zaj Up.cells (λ _=>True) _ (λ r hr=>by
  obtain ⟨a,_,rfl,ha,k1⟩:=xi hr
  obtain ⟨b,_,rfl,hb,k2⟩:=xi k1
  obtain ⟨x,rfl⟩:=zo7 ha
  obtain ⟨y,rfl,_⟩:=jj hb
  rw [Kg k2];exact ⟨⟨x,y⟩,rfl,trivial⟩) h
 exact ⟨o,e,hl⟩
def ztQ:List Sh:=[.int .i64,.int .i64,.flt .f64,.str,.int .i64]
def ztO:List Sh:=[.int .i64,.int .i64,.int .i64,.int .i64,.int .i64]
def ztP:List Sh:=[.str,.int .i64,.int .i64,.int .i64]
def zmX:List Sh:=[.str,.int .i64,.int .i64,.bool,.int .i64,.slice [.bool,.int .i64],.slice ztQ,.slice ztO,.slice ztP]
def zvZ:List Sh:=[.slice zmX]
theorem zzL {r:List PV} (hr:ux ztQ r):∃ n:yo,r=n.cells/\n.Str.size<=9223372036854775807/\n.Flt<2 ^ 64:=by
 obtain ⟨a1,_,rfl,h1,k1⟩:=xi hr
 obtain ⟨a2,_,rfl,h2,k2⟩:=xi k1
 obtain ⟨a3,_,rfl,h3,k3⟩:=xi k2
 obtain ⟨a4,_,rfl,h4,k4⟩:=xi k3
 obtain ⟨a5,_,rfl,h5,k5⟩:=xi k4
 obtain ⟨x1,rfl,_⟩:=jj h1
 obtain ⟨x2,rfl,_⟩:=jj h2
 obtain ⟨x3,rfl,b3⟩:=zzH h3
 obtain ⟨x4,rfl,b4⟩:=zml h4
 obtain ⟨x5,rfl,_⟩:=jj h5
 rw [Kg k5]
 exact ⟨⟨x1,x2,x3,x4,x5⟩,rfl,b4,b3⟩
def zoN (n:Ins):Prop:=∀ j:Int, -9223372036854775808<=za [n.A,n.B,n.C,n.D] j/\za [n.A,n.B,n.C,n.D] j<9223372036854775808
theorem zrX {o a b c d:Int} (h1: -9223372036854775808<=a/\a<9223372036854775808) (h2: -9223372036854775808<=b/\b<9223372036854775808) (h3: -9223372036854775808<=c/\c<9223372036854775808) (h4: -9223372036854775808<=d/\d<9223372036854775808):zoN ⟨o,a,b,c,d⟩:=λ j=>
 VI (l:=[a,b,c,d]) (p:=λ x:Int=> -9223372036854775808<=x/\x<9223372036854775808) (by decide) (λ i i0 i1=>by
  have:i=0\/i=1\/i=2\/i=3:=by simp at i1;omega
  rcases this with rfl|rfl|rfl|rfl
  ·exact h1
  ·exact h2
  ·exact h3
  ·exact h4) j
theorem zzI {r:List PV} (hr:ux ztO r):∃ n:Ins,r=n.cells/\zoN n:=by
 obtain ⟨a1,_,rfl,h1,k1⟩:=xi hr
 obtain ⟨a2,_,rfl,h2,k2⟩:=xi k1
 obtain ⟨a3,_,rfl,h3,k3⟩:=xi k2
 obtain ⟨a4,_,rfl,h4,k4⟩:=xi k3
 obtain ⟨a5,_,rfl,h5,k5⟩:=xi k4
 obtain ⟨x1,rfl,_⟩:=jj h1
 obtain ⟨x2,rfl,b2⟩:=jj h2
 obtain ⟨x3,rfl,b3⟩:=jj h3
 obtain ⟨x4,rfl,b4⟩:=jj h4
 obtain ⟨x5,rfl,b5⟩:=jj h5
 rw [Kg k5]
 exact ⟨⟨x1,x2,x3,x4,x5⟩,rfl,zrX b2 b3 b4 b5⟩
theorem zzJ {r:List PV} (hr:ux ztP r):∃ n:xz,r=n.cells/\n.Name.size<=9223372036854775807:=by
 obtain ⟨a1,_,rfl,h1,k1⟩:=xi hr
 obtain ⟨a2,_,rfl,h2,k2⟩:=xi k1
 obtain ⟨a3,_,rfl,h3,k3⟩:=xi k2
 obtain ⟨a4,_,rfl,h4,k4⟩:=xi k3
 obtain ⟨x1,rfl,b1⟩:=zml h1
 obtain ⟨x2,rfl,_⟩:=jj h2
 obtain ⟨x3,rfl,_⟩:=jj h3
 obtain ⟨x4,rfl,_⟩:=jj h4
 rw [Kg k4]
 exact ⟨⟨x1,x2,x3,x4⟩,rfl,b1⟩
theorem zpv:zoN default:=zrX (by decide) (by decide) (by decide) (by decide)
theorem zuz {r:List PV} (hr:ux zmX r):∃ f:zU,r=f.cells/\Kv f/\zdU f:=by
 obtain ⟨a1,_,rfl,h1,k1⟩:=xi hr
 obtain ⟨a2,_,rfl,h2,k2⟩:=xi k1
 obtain ⟨a3,_,rfl,h3,k3⟩:=xi k2
 obtain ⟨a4,_,rfl,h4,k4⟩:=xi k3
 obtain ⟨a5,_,rfl,h5,k5⟩:=xi k4
 obtain ⟨a6,_,rfl,h6,k6⟩:=xi k5
 obtain ⟨a7,_,rfl,h7,k7⟩:=xi k6
 obtain ⟨a8,_,rfl,h8,k8⟩:=xi k7
 obtain ⟨a9,_,rfl,h9,k9⟩:=xi k8
 obtain ⟨x1,rfl,b1⟩:=zml h1
 obtain ⟨x2,rfl,_⟩:=jj h2
 obtain ⟨x3,rfl,_⟩:=jj h3
 obtain ⟨x4,rfl⟩:=zo7 h4
 obtain ⟨x5,rfl,_⟩:=jj h5
 obtain ⟨x6,rfl,b6⟩:=zzK h6
 obtain ⟨x7,rfl,b7,c7⟩:=zaj yo.cells (λ n=>n.Str.size<=9223372036854775807/\n.Flt<2 ^ 64) ztQ (λ r hr=>zzL hr) h7
 obtain ⟨x8,rfl,b8,c8⟩:=zaj Ins.cells zoN ztO (λ r hr=>zzI hr) h8
 obtain ⟨x9,rfl,b9,c9⟩:=zaj xz.cells (λ n=>n.Name.size<=9223372036854775807) ztP (λ r hr=>zzJ hr) h9
 rw [Kg k9]
 have v7:∀ i:Int,(za (ol x7) i).Str.size<=9223372036854775807/\(za (ol x7) i).Flt<2 ^ 64:=VI (p:=λ n:yo=>n.Str.size<=9223372036854775807/\n.Flt<2 ^ 64) (by decide) (λ i h0 h1=>c7 _ (ze1 h0 h1))
 exact ⟨⟨x1,x2,x3,x4,x5,x6,x7,x8,x9⟩,rfl,⟨b1,b6,b7,λ i=>(v7 i).1,b8,b9,VI (p:=λ n:xz=>n.Name.size<=9223372036854775807) (by decide) (λ i h0 h1=>c9 _ (ze1 h0 h1))⟩,⟨λ i=>(v7 i).2,VI (p:=zoN) zpv (λ i h0 h1=>c8 _ (ze1 h0 h1))⟩⟩
theorem ztu:Kv default:=⟨by decide,by decide,by decide,λ i=>by rw [show ol (default:zU).Consts=[] from rfl,zbt];decide,by decide,by decide,λ i=>by rw [show ol (default:zU).Named=[] from rfl,zbt];decide⟩
theorem ztv:zdU default:=⟨λ i=>by rw [show ol (default:zU).Consts=[] from rfl,zbt];decide,λ i=>by rw [show ol (default:zU).Ins=[] from rfl,zbt];exact zpv⟩
theorem zwO {r:List PV} (hr:ux zvZ r):∃ o:Option (List zU),r=VR o/\(ol o).length<=9223372036854775807/\(∀ i:Int,Kv (za (ol o) i))/\∀ i:Int,zdU (za (ol o) i):=by
 obtain ⟨a1,_,rfl,h1,k1⟩:=xi hr
 obtain ⟨x,rfl,b,c⟩:=zaj zU.cells (λ f=>Kv f/\zdU f) zmX (λ r hr=>zuz hr) h1
 rw [Kg k1]
 exact ⟨x,rfl,b,VI ztu (λ i h0 h1=>(c _ (ze1 h0 h1)).1),VI ztv (λ i h0 h1=>(c _ (ze1 h0 h1)).2)⟩
end Go.Proofs.Tryd.Av
end

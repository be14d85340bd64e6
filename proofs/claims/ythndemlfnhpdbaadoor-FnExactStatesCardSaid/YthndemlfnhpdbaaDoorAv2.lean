/- The evaluator -/
import Derived.ChangeStays
import Derived.DataReads
import Derived.IntWalk
import Derived.Laws.Sem
import Derived.LoopN
import Derived.Maps.RangeRun
import Derived.OpenShut
import Derived.ProofKit
import Derived.WalkKit
import GoSem.ClaimChange
import Derived.Test.YthndemlfnhpdbaaDoorAv1
set_option linter.all false
section
namespace Go.Av
open Go
section
theorem zh3 {a b:Nat} (h:¬ a=b):Nat.beq a b=false:=Bool.eq_false_iff.2 λ h2=>h (aT h2)
theorem zk.get_put (e:zk) (n m:Nat) (v:PV):(e.put n v).get m=if m=n then v else e.get m:=by
 induction e with
 |nil=>
  simp only [zk.put,zk.get]
  by_cases h:n=m
  ·subst h;simp
  ·have:=zh3 h
   rw [this];simp [Ne.symm h]
 |cons q e ih=>
  obtain ⟨k,x⟩:=q
  simp only [zk.put]
  by_cases hk:k=n
  ·subst hk
   rw [Nat.beq_refl]
   simp only [zk.get]
   by_cases h:k=m
   ·subst h;simp
   ·have:=zh3 h
    rw [this];simp [Ne.symm h]
  ·have hb:=zh3 hk
   rw [hb]
   simp only [zk.get]
   by_cases h:k=m
   ·subst h;simp [hk]
   ·have:=zh3 h
    rw [this];exact ih
theorem vX.mono {T:yh} {nt:Nat} {R R':PV->Value->Prop} {st:St} {a:Act} (E:vX T nt R st a) (h:∀ p v,R p v->R' p v):vX T nt R' st a:=
 ⟨E.size,λ n=>h _ _ (E.per n),λ n=>h _ _ (E.reg n),E.perK,E.regK⟩
theorem vX.heap {T:yh} {nt:Nat} {R:PV->Value->Prop} {st:St} {a:Act} (E:vX T nt R st a) (H:zd) (ed:zI):vX T nt R { st with H:=H,ed:=ed } a:=⟨E.size,E.per,E.reg,E.perK,E.regK⟩
theorem vX.clear {T:yh} {nt:Nat} {R:PV->Value->Prop} {st:St} {a:Act} (E:vX T nt R st a) (hU:∀ x,R .unk x):vX T nt R { st with reg:=[] } a:=⟨E.size,E.per,λ n=>hU _,E.perK,λ n _=>rfl⟩
theorem zjW (t:Array Value) (d n:Nat) (v:Value) (h:d<t.size):(t.setIfInBounds d v).getD n undef=if n=d then v else t.getD n undef:=by
 by_cases e:n=d
 ·subst e;simp [h]
 ·simp [cU (Ne.symm e),e]
theorem vX.put {T:yh} {nt:Nat} {R:PV->Value->Prop} {st:St} {a:Act} (E:vX T nt R st a) (hU:∀ x,R .unk x) {d:Nat} (hd:d<nt) {v:PV} {cv:Value} (hv:R v cv):vX T nt R (st.put (some (T.K d,d)) v) (a.put (some d) cv):=by
 have hs:=E.size
 have hg:∀ n,(a.put (some d) cv).tmps.getD n undef=if n=d then cv else a.tmps.getD n undef:=λ n=>zjW a.tmps d n cv (by omega)
 cases hk:T.K d with
 |true=>
  refine ⟨by simp [Act.put,hs],λ n=>?_,λ n=>?_,λ n hn=>?_,λ n hn=>E.regK n hn⟩
  ·rw [hg];simp only [St.put];rw [zk.get_put]
   by_cases e:n=d
   ·subst e;simpa using hv
   ·simpa [e] using E.per n
  ·rw [hg]
   by_cases e:n=d
   ·subst e;show R (st.reg.get n) _;rw [E.regK n hk];exact hU _
   ·simpa [e,St.put] using E.reg n
  ·simp only [St.put];rw [zk.get_put]
   by_cases e:n=d
   ·subst e;rw [hk] at hn;cases hn
   ·simpa [e] using E.perK n hn
 |false=>
  refine ⟨by simp [Act.put,hs],λ n=>?_,λ n=>?_,λ n hn=>E.perK n hn,λ n hn=>?_⟩
  ·rw [hg]
   by_cases e:n=d
   ·subst e;show R (st.per.get n) _;rw [E.perK n hk];exact hU _
   ·simpa [e,St.put] using E.per n
  ·rw [hg];simp only [St.put];rw [zk.get_put]
   by_cases e:n=d
   ·subst e;simpa using hv
   ·simpa [e] using E.reg n
  ·simp only [St.put];rw [zk.get_put]
   by_cases e:n=d
   ·subst e;rw [hk] at hn;cases hn
   ·simpa [e] using E.regK n hn
structure zbJ (P:Program) (T:yh) (nt:Nat) (ops:Array Oper) (o:Oper) (ao:zD):Prop where
 op:UI P T o.dst o.op=some ao.op
 dst:(o.dst=none/\ao.dst=none)\/∃ d,o.dst=some d/\d<nt/\ao.dst=some (T.K d,d)
 guard:(o.guard=none/\ao.guard=none)\/∃ j want oj d,o.guard=some (j,want)/\ops[j]?=some oj/\oj.dst=some d/\d<nt/\ao.guard=some ((match T.K d with|true=>.per d|false=>.reg d),want)
 fix:∀ d,o.dst=some d->T.fix d=false
theorem zaa {P:Program} {T:yh} {nt:Nat} {ops:Array Oper} {o:Oper} {ao:zD} (h:Xl P T nt ops o=some ao):zbJ P T nt ops o ao:=by
 unfold Xl at h
 simp only at h
 split at h
 ·rename_i g' op hg hop
  have hguard:∀ x:zD,x.guard=g'->(o.guard=none/\x.guard=none)\/∃ j want oj d,o.guard=some (j,want)/\ops[j]?=some oj/\oj.dst=some d/\d<nt/\x.guard=some ((match T.K d with|true=>.per d|false=>.reg d),want):=by
   intro x hx
   split at hg
   ·rename_i hn
    injection hg with hg
    exact .inl ⟨hn,hx.trans hg.symm⟩
   ·rename_i j want hs
    split at hg
    ·rename_i oj hj
     split at hg
     ·rename_i d hd
      split at hg
      ·rename_i hlt
       injection hg with hg
       exact .inr ⟨j,want,oj,d,hs,hj,hd,by simpa [Nat.blt_eq] using hlt,hx.trans hg.symm⟩
      ·cases hg
     ·cases hg
    ·cases hg
  split at h
  ·rename_i hd
   injection h with h
   subst h
   exact ⟨hop,.inl ⟨hd,rfl⟩,hguard _ rfl,λ d h=>by rw [hd] at h;cases h⟩
  ·rename_i d hd
   split at h
   ·rename_i hlt
    injection h with h
    subst h
    simp only [aU,Nat.blt_eq,Bool.not_eq_true'] at hlt
    exact ⟨hop,.inr ⟨d,hd,hlt.1,rfl⟩,hguard _ rfl,λ d' h=>by rw [hd] at h;cases h;exact hlt.2⟩
   ·cases h
 ·cases h
theorem zif {P:Program} {T:yh} {nt:Nat} {ops:Array Oper}:∀ {os:List Oper} {as:List zD},wm P T nt ops os=some as->as.length=os.length/\∀ (i:Nat) (o:Oper) (ao:zD),os[i]?=some o->as[i]?=some ao->zbJ P T nt ops o ao
 |[],as,h=>by simp only [wm,aC] at h;subst h;simp
 |o::os,as,h=>by
  simp only [wm] at h
  split at h
  ·rename_i a as' h1 h2
   injection h with h
   subst h
   obtain ⟨k1,k2⟩:=zif h2
   refine ⟨by simp [k1],λ i o' ao hi ha=>?_⟩
   cases i with
   |zero=>
    simp only [bW,aC] at hi ha
    subst hi;subst ha
    exact zaa h1
   |succ i=>exact k2 i o' ao (by simpa using hi) (by simpa using ha)
  ·cases h
theorem St.put_H (st:St) (d:Option (Bool×Nat)) (v:PV):(st.put d v).H=st.H:=by
 match d with
 |none=>rfl
 |some (true,n)=>rfl
 |some (false,n)=>rfl
theorem St.put_ed (st:St) (d:Option (Bool×Nat)) (v:PV):(st.put d v).ed=st.ed:=by
 match d with
 |none=>rfl
 |some (true,n)=>rfl
 |some (false,n)=>rfl
structure kF where
 defers:List Deferred
 slots:Nat->Value
structure KR (T:yh) (d0:kF) (a:Act):Prop where
 defers:a.defers=d0.defers
 slots:∀ n,T.fix n=true->a.tmps.getD n undef=d0.slots n
theorem KR.put {T:yh} {d0:kF} {a:Act} (h:KR T d0 a) {d:Option Nat} (hd:∀ n,d=some n->T.fix n=false) (cv:Value):KR T d0 (a.put d cv):=by
 cases d with
 |none=>exact h
 |some d=>
  refine ⟨h.defers,λ n hn=>?_⟩
  have hne:n≠d:=λ e=>by subst e;rw [hd n rfl] at hn;cases hn
  rw [<-h.slots n hn]
  show (a.tmps.setIfInBounds d cv).getD n undef=_
  simp only [cY,cU (Ne.symm hne)]
structure vN (G:Nat->Option (List PV)) (T:yh) (nt:Nat) (w0:World) (F0:Nat->Prop) (m0:zR) (H0:zd) (d0:kF) (st:St) (a:Act) (w:World) (F:Nat->Prop) (m:zR):Prop where
 rel:yl G w F m st.H
 env:vX T nt (zo w F m (zu st.H)) st a
 grow:wq w0 F0 m0 H0 w F m st.H
 fwd:YQ m H0 st.H st.ed
 defers:KR T d0 a
theorem zo.unk' {w:World} {F:Nat->Prop} {m:zR} {L:Nat->Nat} (x:Value):zo w F m L .unk x:=.froz _ _ (.unk x)
theorem Act.put_defers' (a:Act) (d:Option Nat) (v:Value):(a.put d v).defers=a.defers:=by cases d<;>rfl
section
variable {P:Program} {G:Nat->Option (List PV)} {T:yh} {nt:Nat} {ops:Array Oper} {o:Oper} {ao:zD} {w:World} {F:Nat->Prop} {m:zR} {st:St} {a:Act}
theorem bool_inv {w:World} {F:Nat->Prop} {m:zR} {L:Nat->Nat} {b:Bool} {v:Value} (h:zo w F m L (.bool b) v):v=.bool b:=by
 cases h with|froz _ _ h=>cases h;rfl
theorem und_inv {w:World} {F:Nat->Prop} {m:zR} {L:Nat->Nat} {v:Value} (h:zo w F m L .und v):v=undef:=by
 cases h with|froz _ _ h=>cases h;rfl
theorem zjb (t:zbJ P T nt ops o ao) (hsz:a.tmps.size=nt) {R:PV->Value->Prop} (hRb:∀ b v,R (.bool b) v->v=.bool b) (hRu:∀ v,R .und v->v=undef)
  (hE:∀ d,R ((match T.K d with|true=>zy.per d|false=>zy.reg d).get G st) (a.tmps.getD d undef)\/∀ g w,ao.guard=some (g,w)->g≠(match T.K d with|true=>zy.per d|false=>zy.reg d)) {b:Bool} (h:wanted G st ao=some b):Region.wanted o (yielded ops a.tmps)=b:=by
 unfold wanted at h
 rcases t.guard with ⟨h1,h2⟩|⟨j,want,oj,d,h1,h2,h3,h4,h5⟩
 ·simp only [h2,aC] at h
  subst h
  simp [Region.wanted,h1]
 ·simp only [h5] at h
  have hlt:d<a.tmps.size:=by rw [hsz];exact h4
  have hd:a.tmps[d]?=some (a.tmps.getD d undef):=by rw [bV hlt];simp [Array.getD,hlt]
  have hE':=(hE d).resolve_right λ hne=>hne _ _ h5 rfl
  have hy:yielded ops a.tmps j=match a.tmps.getD d undef with|.bool b=>some b|_=>none:=by
   unfold yielded
   rw [h2]
   simp only [aW,h3,hd]
   cases a.tmps.getD d undef<;>rfl
  unfold Region.wanted
  rw [h1]
  simp only
  rw [hy]
  split at h
  ·rename_i b' hb
   rw [hb] at hE'
   simp only [hRb _ _ hE']
   have h:=dD h
   rw [<-h]
   cases b'<;>cases want<;>rfl
  ·rename_i hu
   rw [hu] at hE'
   simp only [hRu _ hE']
   have h:=dD h
   rw [<-h]
   rfl
  ·cases h
theorem zz8 (E:vX T nt (zo w F m (zu st.H)) st a) (d:Nat):zo w F m (zu st.H) ((match T.K d with|true=>zy.per d|false=>zy.reg d).get G st) (a.tmps.getD d undef):=by
 cases T.K d
 ·exact E.reg d
 ·exact E.per d
theorem zc_ {C:Cl} (hC:JG P G C) (R:yl G w F m st.H) (E:vX T nt (zo w F m (zu st.H)) st a) {aop:uU} (ht:UI P T o.dst o.op=some aop) {v:PV} {H':zd} {ed:zI} (he:zt G C st aop=some (v,H',ed)) (K:Act->World->Prop) (Q:Exit->Act->World->Prop)
  (hK:∀ cv w' F' m',yl G w' F' m' H'->wq w F m st.H w' F' m' H'->zo w' F' m' (zu H') v cv->(wy aop=true->Kw w m st.H w' m' H')->YQ m' st.H H' ed->K (a.put o.dst cv) w'):o.wp P a w K Q:=by
 cases hs:zcc aop with
 |false=>exact zxO hC R E ht he K Q λ cv w' F' m' h1 h2 h3 h4=>hK cv w' F' m' h1 h2 h3 h4 ((zsX he hs).fwd h1)
 |true=>
  have hq:wy aop=false:=by
   cases aop<;>simp [zcc,wy] at hs ⊢ <;>exact hs
  have hcall:∃ c f,o.op=.call c/\c.callee=.value f/\Zw P T o.dst c=some aop:=by
   cases ho:o.op<;>rw [ho] at ht
   case call c=>
    simp only [UI] at ht
    refine ⟨c,?_⟩
    cases hc:c.callee with
    |value f=>exact ⟨f,rfl,rfl,ht⟩
    |invoke=>unfold Zw at ht;simp [hc] at ht
    |builtin b=>
     unfold Zw at ht
     simp only [hc] at ht
     exfalso
     repeat' split at ht
     all_goals first
      |(cases ht;done)
      |(injection ht with ht;subst ht;cases hs;done)
      |(unfold zhU at ht;split at ht<;>first|(cases ht;done)|(injection ht with ht;subst ht;cases hs;done))
   all_goals
    exfalso
    simp only [UI] at ht
    repeat' split at ht
    all_goals first
     |(cases ht;done)
     |(injection ht with ht;subst ht;cases hs;done)
  obtain ⟨c,f,h1,h2,h3⟩:=hcall
  exact zsb hC R E h1 h2 h3 he K Q λ cv w' F' m' k1 k2 k3 k4 k5=>hK cv w' F' m' k1 k2 k3 k4 (k5 hq)
end
section
variable {P:Program} {G:Nat->Option (List PV)} {T:yh} {nt:Nat} {ops:Array Oper} {w0:World} {F0:Nat->Prop} {m0:zR} {H0:zd} {d0:kF}
theorem vN.und {st:St} {a:Act} {w:World} {F:Nat->Prop} {m:zR} (I:vN G T nt w0 F0 m0 H0 d0 st a w F m) {o:Oper} {ao:zD} (t:zbJ P T nt ops o ao):vN G T nt w0 F0 m0 H0 d0 (st.put ao.dst .und) (a.put o.dst undef) w F m:=by
 rcases t.dst with ⟨h1,h2⟩|⟨d,h1,h2,h3⟩
 ·rw [h1,h2];exact I
 ·rw [h1,h3]
  have hE:=I.env.put zo.unk' h2 (v:=.und) (cv:=undef) (.froz _ _ .und)
  exact ⟨by rw [St.put_H];exact I.rel,by rw [St.put_H];exact hE,by rw [St.put_H];exact I.grow,by rw [St.put_H,St.put_ed];exact I.fwd,I.defers.put (λ n e=>t.fix n (h1.trans e)) _⟩
theorem vN.val {st:St} {a:Act} {w:World} {F:Nat->Prop} {m:zR} (I:vN G T nt w0 F0 m0 H0 d0 st a w F m) {o:Oper} {ao:zD} (t:zbJ P T nt ops o ao) {v:PV} {H':zd} {ed:zI} {cv:Value} {w':World} {F':Nat->Prop} {m':zR}
  (R':yl G w' F' m' H') (g:wq w F m st.H w' F' m' H') (hv:zo w' F' m' (zu H') v cv) (hf:YQ m' st.H H' ed):vN G T nt w0 F0 m0 H0 d0 (St.put { st with H:=H',ed:=ed++st.ed } ao.dst v) (a.put o.dst cv) w' F' m':=by
 have hE:vX T nt (zo w' F' m' (zu H')) { st with H:=H',ed:=ed++st.ed } a:=(I.env.mono λ p v h=>h.grow I.rel g).heap _ _
 have hg:=I.grow.trans g
 have hfw:=YQ.trans I.fwd g hf
 rcases t.dst with ⟨h1,h2⟩|⟨d,h1,h2,h3⟩
 ·rw [h1,h2];exact ⟨R',hE,hg,hfw,I.defers⟩
 ·rw [h1,h3]
  have hE':=hE.put zo.unk' h2 hv
  exact ⟨by rw [St.put_H];exact R',by rw [St.put_H];exact hE',by rw [St.put_H];exact hg,by rw [St.put_H,St.put_ed];exact hfw,I.defers.put (λ n e=>t.fix n (h1.trans e)) _⟩
theorem zf2 {C:Cl} (hC:JG P G C) {Q:Exit->Act->World->Prop} {js:List Nat}:∀ {os:List Oper} {as:List zD} {i:Nat} {st st':St} {a:Act} {w:World} {F:Nat->Prop} {m:zR},wm P T nt ops os=some as->(∀ k o,os[k]?=some o->ops[i+k]?=some o)->vP G C as st=some st'->vN G T nt w0 F0 m0 H0 d0 st a w F m->
  (∀ a1 w1 F1 m1,vN G T nt w0 F0 m0 H0 d0 st' a1 w1 F1 m1->wpOps P ops Q js a1 w1)->wpOps P ops Q (List.range' i os.length++js) a w
 |[],as,i,st,st',a,w,F,m,ht,_,he,I,hQ=>by
  simp only [wm,aC] at ht
  subst ht
  simp only [vP,aC] at he
  subst he
  exact hQ a w F m I
 |o::os,as,i,st,st',a,w,F,m,ht,hops,he,I,hQ=>by
  simp only [wm] at ht
  split at ht
  ·rename_i ao as' h1 h2
   injection ht with ht
   subst ht
   have t:=zaa h1
   have hi:ops[i]?=some o:=by simpa using hops 0 o rfl
   rw [show (o::os).length=os.length+1 from rfl,List.range'_succ,aB]
   have hrest:∀ {st1:St} {a1:Act} {w1:World} {F1:Nat->Prop} {m1:zR},vP G C as' st1=some st'->vN G T nt w0 F0 m0 H0 d0 st1 a1 w1 F1 m1->wpOps P ops Q (List.range' (i+1) os.length++js) a1 w1:=λ he' I'=>
    zf2 hC h2 (λ k o' hk=>by have:=hops (k+1) o' (by simpa using hk);rwa [show i+(k+1)=i+1+k by omega] at this) he' I' hQ
   simp only [wpOps,hi]
   have hg:∀ {b:Bool},wanted G st ao=some b->Region.wanted o (yielded ops a.tmps)=b:=λ hb=>zjb (R:=zo w F m (zu st.H)) t I.env.size (λ _ _=>bool_inv) (λ _=>und_inv) (λ d=>.inl (zz8 I.env d)) hb
   simp only [vP] at he
   split at he
   ·rename_i hw
    rw [hg hw]
    simp only [if_true]
    refine .inl ?_
    split at he
    ·rename_i v H' ed hop
     refine zc_ hC I.rel I.env t.op (Yp.1 hop).1 _ _ λ cv w' F' m' R' g hv _ hf=>?_
     exact hrest he (I.val t R' g hv hf)
    ·cases he
   ·rename_i hw
    rw [hg hw]
    simp only [bG,if_false]
    exact hrest he (I.und t)
   ·cases he
  ·cases ht
theorem znz {C:Cl} (hC:JG P G C) {Q:Exit->Act->World->Prop} {os:List Oper} {as:List zD} {i:Nat} {st st':St} {a:Act} {w:World} {F:Nat->Prop} {m:zR} (ht:wm P T nt ops os=some as) (hops:∀ k o,os[k]?=some o->ops[i+k]?=some o) (he:vP G C as st=some st') (I:vN G T nt w0 F0 m0 H0 d0 st a w F m)
  (hQ:∀ a1 w1 F1 m1,vN G T nt w0 F0 m0 H0 d0 st' a1 w1 F1 m1->Q .normal a1 w1):wpOps P ops Q (List.range' i os.length) a w:=by
 have:=zf2 (js:=[]) hC ht hops he I λ a1 w1 F1 m1 I1=>hQ a1 w1 F1 m1 I1
 rwa [bY] at this
end
end
section
section
variable {G:Nat->Option (List PV)} {C:Cl}
theorem Q2 {s s':St} {d:Int} {x:Option zy} (h:∀ y∈zk5 x,y.get G s=y.get G s'):ZB G s d x=ZB G s' d x:=by
 cases x with
 |none=>rfl
 |some y=>simp only [ZB,h y (by simp [zk5])]
theorem zkL {s s':St} {op:uU} (h:∀ x∈xq op,x.get G s=x.get G s') (hH:s.H=s'.H):zt G C s op=zt G C s' op:=by
 cases op
 case build zero parts=>
  simp only [xq,bU,forall_exists_index,and_imp,forall_apply_eq_imp_iff₂] at h
  simp only [zt,hH]
  rw [bM (g:=λ p=>(p.1,cellsOf (p.2.2.get G s'))) λ p hp=>by rw [h p hp]]
  have:(parts.all λ p=>(cellsOf (p.2.2.get G s)).length==p.2.1)=parts.all λ p=>(cellsOf (p.2.2.get G s')).length==p.2.1:=by
   rw [bP,aZ,aZ]
   exact ⟨λ k p hp=>by rw [<-h p hp];exact k p hp,λ k p hp=>by rw [h p hp];exact k p hp⟩
  rw [this]
 case buildSlice sz len zero parts=>
  simp only [xq,bU,forall_exists_index,and_imp,forall_apply_eq_imp_iff₂] at h
  simp only [zt,hH]
  rw [bM (g:=λ p=>(p.1,cellsOf (p.2.get G s'))) λ p hp=>by rw [h p hp]]
 case mkfn f caps=>
  simp only [xq] at h
  simp only [zt,hH,bM h]
 case call m f args=>
  simp only [xq] at h
  simp only [zt,hH,bM h]
 case callv m x args=>
  simp only [xq,dE,forall_eq_or_imp] at h
  simp only [Z6,hH,bM h.2,h.1]
 case slice sz x lo hi=>
  simp only [xq,dE,forall_eq_or_imp,aX] at h
  have h1:=λ d=>Q2 (d:=d) (x:=lo) λ y hy=>h.2 y (.inl hy)
  have h2:=λ d=>Q2 (d:=d) (x:=hi) λ y hy=>h.2 y (.inr hy)
  simp only [zt,hH,h.1,h1,h2]
 case sliceS x lo hi=>
  simp only [xq,dE,forall_eq_or_imp,aX] at h
  have h1:=λ d=>Q2 (d:=d) (x:=lo) λ y hy=>h.2 y (.inl hy)
  have h2:=λ d=>Q2 (d:=d) (x:=hi) λ y hy=>h.2 y (.inr hy)
  simp only [zt,hH,h.1,h1,h2]
 all_goals
  simp only [xq,dE,aV,or_false,forall_eq_or_imp,forall_eq] at h
  simp only [zt,hH,h]
theorem zqa {s s':St} {op:uU} (h:∀ x∈xq op,x.get G s=x.get G s'):Ye G s op=Ye G s' op:=by
 cases op<;>simp only [xq,dE,aV,or_false,forall_eq_or_imp,forall_eq] at h<;>simp only [Ye,h]
theorem Yq (s:St) (H:zd) (x:zy):x.get G { s with H:=H }=x.get G s:=by cases x<;>rfl
theorem zhM (s:St) (H:zd):zy.get G { s with H:=H }=zy.get G s:=funext λ x=>Yq s H x
theorem zkq (s:St) (H:zd) (d:Int) (x:Option zy):ZB G { s with H:=H } d x=ZB G s d x:=by cases x<;>simp only [ZB,Yq]
theorem ztn {s:St} {op:uU} (hn:zb8 op=true) {v:PV} {H':zd} {ed:zI} (he:zt G C s op=some (v,H',ed)) (H:zd):H'=s.H/\ed=[]/\zt G C { s with H:=H } op=some (v,H,[]):=by
 cases op<;>simp only [zb8,bG] at hn
 all_goals
  simp only [zt,Yq,zhM,zkq] at he ⊢
  repeat' split at he
  all_goals first
   |(cases he;done)
   |(simp only [aC,aG] at he;obtain ⟨rfl,rfl,rfl⟩:=he;simp_all)
theorem zb_ {cs:List PV} (h:zn cs=[]):∀ p∈cs,refs p=[]:=by
 intro p hp
 cases hr:refs p with
 |nil=>rfl
 |cons r rs=>
  have:r∈zn cs:=wU.2 ⟨p,hp,by rw [hr];exact cM⟩
  rw [h] at this;cases this
theorem zbU:∀ (d:Nat) (v:PV) (H H':zd),refs v=[]->frz d H v=frz d H' v
 |0,_,_,_,_=>rfl
 |d+1,v,H,H',h=>by
  have hl:∀ {cs:List PV},zn cs=[]->cs.map (frz d H)=cs.map (frz d H'):=λ h=>bM λ p hp=>zbU d p H H' (zb_ h p hp)
  cases v<;>simp only [refs] at h<;>simp only [frz]
  case agg cs=>rw [hl h]
  case tup cs=>rw [hl h]
  case fn f cs=>rw [hl h]
  all_goals cases h
theorem zv1 {s:St} {op:uU} (hn:zfN op=true) (hb:∀ x∈xq op,refs (x.get G s)=[]) {v:PV} {H':zd} {ed:zI} (he:zt G C s op=some (v,H',ed)) (hv:refs v=[]) (H:zd):H'=s.H/\ed=[]/\zt G C { s with H:=H } op=some (v,H,[]):=by
 have hcall:∀ (md:zaF) (f:Nat) (args:List PV),Jb md=true->(∀ p∈args,refs p=[])->xH C s.H md f args=some (v,H',ed)->H'=s.H/\ed=[]/\xH C H md f args=some (v,H,[]):=by
  intro md f args hq ha he
  cases md with
  |shared=>cases hq
  |lend=>cases hq
  |fresh=>
   unfold xH at he ⊢
   simp only at he ⊢
   rw [show args.map (frz 8 H)=args.map (frz 8 s.H) from bM λ p hp=>zbU 8 p _ _ (ha p hp)]
   split at he
   ·rename_i v' X ed' hp
    simp only [aC,aG] at he
    obtain ⟨rfl,rfl,rfl⟩:=he
    simp
   ·cases he
  |pure=>
   unfold xH at he ⊢
   simp only at he ⊢
   rw [show args.map (frz 8 H)=args.map (frz 8 s.H) from bM λ p hp=>zbU 8 p _ _ (ha p hp)]
   split at he
   ·rename_i v' hp
    split at he
    ·rename_i hc
     simp only [aC,aG] at he
     obtain ⟨rfl,rfl,rfl⟩:=he
     simp [hc]
    ·cases he
   ·cases he
 cases op<;>simp only [zfN,bG] at hn
 case load g sz x=>
  have hx:=hb x (by simp [xq])
  simp only [zt,Yq] at he ⊢
  generalize x.get G s=u at *
  cases u<;>simp only [refs] at hx<;>simp only [cellsAt] at he ⊢ <;>try (cases hx;done)
  all_goals
   repeat' split at he
   all_goals first
    |(cases he;done)
    |(simp only [aC,aG] at he;obtain ⟨rfl,rfl,rfl⟩:=he;simp_all)
 case slice sz x lo hi=>
  have hx:=hb x (by simp [xq])
  simp only [zt,Yq,zkq] at he ⊢
  generalize x.get G s=u at *
  cases u<;>simp only [refs] at hx<;>try (cases hx;done)
  all_goals
   repeat' split at he
   all_goals first
    |(cases he;done)
    |(simp only [aC,aG] at he;obtain ⟨rfl,rfl,rfl⟩:=he;simp_all)
 case indexA sz x i=>
  have hx:=hb x (by simp [xq])
  simp only [zt,Yq] at he ⊢
  generalize x.get G s=u at *
  cases u<;>simp only [refs] at hx<;>try (cases hx;done)
  all_goals
   repeat' split at he
   all_goals first
    |(cases he;done)
    |(simp only [aC,aG] at he;obtain ⟨rfl,rfl,rfl⟩:=he;simp_all)
 case lookup tag z ok x i=>
  have hx:=hb x (by simp [xq])
  simp only [zt,Yq] at he ⊢
  generalize x.get G s=u at *
  cases u<;>simp only [refs] at hx<;>simp only [Xt] at he ⊢ <;>try (cases hx;done)
  all_goals
   repeat' split at he
   all_goals first
    |(cases he;done)
    |(simp only [aC,aG] at he;obtain ⟨rfl,rfl,rfl⟩:=he;simp_all)
 case call m f args=>
  have he:xH C s.H m f (args.map (zy.get G s))=some (v,H',ed):=he
  show H'=s.H/\ed=[]/\xH C H m f (args.map (zy.get G { s with H:=H }))=_
  rw [zhM]
  exact hcall m f _ hn (λ p hp=>by obtain ⟨x,hx,rfl⟩:=bU.1 hp;exact hb x (by simpa [xq] using hx)) he
 case callv m x args=>
  rw [Z6] at he ⊢
  rw [Yq,zhM]
  have hx:=hb x (by simp [xq])
  split at he
  ·rename_i f caps hf
   rw [hf] at hx
   simp only [hf]
   exact hcall m f _ hn (λ p hp=>by
    rcases aX.1 hp with hp|hp
    ·obtain ⟨y,hy,rfl⟩:=bU.1 hp;exact hb y (by simp [xq,hy])
    ·exact zb_ hx p hp) he
  ·cases he
theorem zid {g:Bool} {sz:Nat} {cs:List PV} {v:PV} (h:yp g sz cs=some v):∀ r∈refs v,∃ p∈cs,r∈refs p:=by
 intro r hr
 rcases Qb (R:=λ _ _=>True) h with ⟨_,_,rfl⟩|⟨_,h0⟩
 ·obtain ⟨p,hp,hq⟩:=wU.1 (by simpa [refs] using hr)
  exact ⟨p,cP hp,hq⟩
 ·exact ⟨v,aJ h0,hr⟩
theorem zja:∀ {ps:List (Nat×List PV)} {cs cs':List PV},uc cs ps=some cs'->∀ p∈cs',p∈cs\/∃ q∈ps,p∈q.2
 |[],cs,cs',h,p,hp=>by simp only [uc,aC] at h;subst h;exact .inl hp
 |(off,new)::ps,cs,cs',h,p,hp=>by
  simp only [uc] at h
  split at h
  ·rcases zja h p hp with h|⟨q,hq,h⟩
   ·rcases aX.1 h with h|h
    ·rcases aX.1 h with h|h
     ·exact .inl (cP h)
     ·exact .inr ⟨_,cM,h⟩
    ·exact .inl (cV h)
   ·exact .inr ⟨q,bL _ hq,h⟩
  ·cases h
theorem zo4 {v:PV} {p:PV} (h:p∈cellsOf v):∀ r∈refs p,r∈refs v:=by
 intro r hr
 cases v<;>simp only [cellsOf,aO] at h<;>try (subst h;exact hr)
 simp only [refs]
 exact wU.2 ⟨p,h,hr⟩
theorem zqz {op:BinOp} {k:IntKind} {x y:Int} {v:PV} (h:Zj op k x y=some v):refs v=[]:=by
 unfold Zj at h
 repeat' split at h
 all_goals first
  |(cases h;done)
  |(injection h with h;subst h;rfl)
theorem zqy {op:BinOp} {k:FloatKind} {x y:Nat} {v:PV} (h:KS op k x y=some v):refs v=[]:=by
 unfold KS at h
 repeat' split at h
 all_goals first
  |(cases h;done)
  |(injection h with h;subst h;rfl)
theorem zqA {op:BinOp} {x y:ByteArray} {v:PV} (h:zbK op x y=some v):refs v=[]:=by
 unfold zbK at h
 repeat' split at h
 all_goals first
  |(cases h;done)
  |(injection h with h;subst h;rfl)
theorem zwE {op:BinOp} {x y v:PV} (h:bin op x y=some v):refs v=[]:=by
 unfold bin at h
 split at h
 ·split at h
  ·exact zqz h
  ·cases h
 ·split at h
  ·exact zqy h
  ·cases h
 ·exact zqA h
 ·cases h
theorem zBc {op:UnOp} {x v:PV} (h:un op x=some v):refs v=[]:=by
 unfold un at h
 repeat' split at h
 all_goals first
  |(cases h;done)
  |(injection h with h;subst h;rfl)
theorem zrl {s:St} {op:uU} (hn:zb8 op=true) (hz:zgh op=true) {v:PV} {H':zd} {ed:zI} (he:zt G C s op=some (v,H',ed)):∀ r∈refs v,∃ x∈xq op,r∈refs (x.get G s):=by
 intro r hr
 cases op<;>simp only [zb8,bG] at hn
 case copy x=>simp only [zt,aC,aG] at he;obtain ⟨rfl,_⟩:=he;exact ⟨x,by simp [xq],hr⟩
 case pick c a b=>
  simp only [zt] at he
  split at he
  ·split at he
   ·simp only [aC,aG] at he;obtain ⟨rfl,_⟩:=he;exact ⟨a,by simp [xq],hr⟩
   ·simp only [aC,aG] at he;obtain ⟨rfl,_⟩:=he;exact ⟨b,by simp [xq],hr⟩
  ·cases he
 case build zero parts=>
  simp only [zt] at he
  split at he
  ·split at he
   ·rename_i cs hf
    simp only [aC,aG] at he;obtain ⟨rfl,_⟩:=he
    obtain ⟨p,hp,hq⟩:=wU.1 (by simpa [refs] using hr)
    rcases zja hf p hp with h|⟨q,hq2,h⟩
    ·have hz':zn zero=[]:=by simpa [zgh] using hz
     rw [zb_ hz' p h] at hq;cases hq
    ·obtain ⟨q',hq',rfl⟩:=bU.1 hq2
     exact ⟨q'.2.2,by simp only [xq,bU];exact ⟨q',hq',rfl⟩,zo4 h r hq⟩
   ·cases he
  ·cases he
 case nilCheck x=>
  simp only [zt] at he
  split at he
  ·rename_i h;simp only [aC,aG] at he;obtain ⟨rfl,_⟩:=he;exact ⟨x,by simp [xq],by rw [h];exact hr⟩
  ·rename_i h;simp only [aC,aG] at he;obtain ⟨rfl,_⟩:=he;exact ⟨x,by simp [xq],by rw [h];exact hr⟩
  ·cases he
 case bin op x y=>
  simp only [zt] at he
  split at he
  ·rename_i h;simp only [aC,aG] at he;obtain ⟨rfl,_⟩:=he;rw [zwE h] at hr;cases hr
  ·cases he
 case un op x=>
  simp only [zt] at he
  split at he
  ·rename_i h;simp only [aC,aG] at he;obtain ⟨rfl,_⟩:=he;rw [zBc h] at hr;cases hr
  ·cases he
 case mkfn f caps=>
  simp only [zt] at he
  split at he
  ·simp only [aC,aG] at he;obtain ⟨rfl,_⟩:=he
   obtain ⟨p,hp,hq⟩:=wU.1 (by simpa [refs] using hr)
   obtain ⟨x,hx,rfl⟩:=bU.1 hp
   exact ⟨x,by simpa [xq] using hx,hq⟩
  ·cases he
 case fieldA o x=>
  simp only [zt] at he
  split at he
  ·rename_i h;simp only [aC,aG] at he;obtain ⟨rfl,_⟩:=he;exact ⟨x,by simp [xq],by rw [h];exact hr⟩
  ·rename_i h;simp only [aC,aG] at he;obtain ⟨rfl,_⟩:=he;simp [refs] at hr
  ·cases he
 case field g o sz x=>
  simp only [zt] at he
  split at he
  ·rename_i cs h
   split at he
   ·rename_i h2;simp only [aC,aG] at he;obtain ⟨rfl,_⟩:=he
    obtain ⟨p,hp,hq⟩:=zid h2 r hr
    exact ⟨x,by simp [xq],by rw [h];exact wU.2 ⟨p,cV hp,hq⟩⟩
   ·cases he
  ·cases he
 case prim k x=>
  simp only [zt] at he
  split at he
  ·rename_i v' h
   simp only [aC,aG] at he;obtain ⟨rfl,_⟩:=he
   exfalso
   generalize x.get G s=u at h
   cases k<;>cases u<;>simp only [Jg] at h<;>try (cases h;done)
   ·rename_i k n;cases k<;>simp only [Jg] at h<;>first|(cases h;done)|(injection h with h;subst h;simp [refs] at hr)
   ·injection h with h;subst h;simp [refs] at hr
  ·cases he
 case minmax mx x y=>
  simp only [zt] at he
  split at he
  ·rename_i v' h
   simp only [aC,aG] at he;obtain ⟨rfl,_⟩:=he
   exfalso
   generalize x.get G s=u at h
   generalize y.get G s=u2 at h
   cases mx<;>cases u<;>cases u2<;>simp only [mmV] at h<;>first|(cases h;done)|(injection h with h;subst h;simp [refs] at hr)
  ·cases he
 case indexP n sz x i=>
  simp only [zt] at he
  split at he
  ·rename_i v' h
   simp only [aC,aG] at he;obtain ⟨rfl,_⟩:=he
   refine ⟨x,by simp [xq],?_⟩
   generalize x.get G s=u at h ⊢
   generalize i.get G s=u2 at h
   unfold zbW at h
   split at h
   ·split at h
    ·cases u<;>simp only at h<;>first|(cases h;done)|(injection h with h;subst h;simpa [refs] using hr)
    ·cases h
   ·cases h
  ·cases he
 case indexV n g sz x i=>
  simp only [zt] at he
  split at he
  ·rename_i cs _ j h _
   split at he
   ·split at he
    ·rename_i h2;simp only [aC,aG] at he;obtain ⟨rfl,_⟩:=he
     obtain ⟨p,hp,hq⟩:=zid h2 r hr
     exact ⟨x,by simp [xq],by rw [h];exact wU.2 ⟨p,cV hp,hq⟩⟩
    ·cases he
   ·cases he
  ·cases he
 case extract x i=>
  simp only [zt] at he
  split at he
  ·rename_i vs h
   split at he
   ·rename_i v' h2;simp only [aC,aG] at he;obtain ⟨rfl,_⟩:=he
    exact ⟨x,by simp [xq],by rw [h];exact wU.2 ⟨_,aJ h2,hr⟩⟩
   ·cases he
  ·cases he
 all_goals
  simp only [zt] at he
  repeat' split at he
  all_goals first
   |(cases he;done)
   |(simp only [aC,aG] at he;obtain ⟨rfl,_⟩:=he;simp [refs] at hr)
theorem znC {s:St} {op:uU} (hq:wy op=true) {v:PV} {H':zd} {ed:zI} (he:zt G C s op=some (v,H',ed)):(∃ X,H'=s.H++X)/\ed=[]:=by
 have call:∀ (md:zaF) (f:Nat) (args:List PV),Jb md=true->xH C s.H md f args=some (v,H',ed)->(∃ X,H'=s.H++X)/\ed=[]:=by
  intro md f args hq he
  cases md with
  |shared=>cases hq
  |lend=>cases hq
  |fresh=>
   unfold xH at he
   simp only at he
   split at he
   ·simp only [aC,aG] at he
    obtain ⟨_,rfl,rfl⟩:=he
    exact ⟨⟨[],by simp⟩,rfl⟩
   ·cases he
  |pure=>
   unfold xH at he
   simp only at he
   split at he
   ·split at he
    ·simp only [aC,aG] at he
     obtain ⟨_,rfl,rfl⟩:=he
     exact ⟨⟨[],by simp⟩,rfl⟩
    ·cases he
   ·cases he
 cases op<;>simp only [wy,bG] at hq
 case call m f args=>exact call m f _ hq he
 case callv m x args=>
  rw [Z6] at he
  split at he
  ·exact call m _ _ hq he
  ·cases he
 all_goals
  simp only [zt] at he
  repeat' split at he
  all_goals first
   |(cases he;done)
   |(simp only [aC,aG] at he;obtain ⟨_,rfl,rfl⟩:=he;exact ⟨⟨[],(bY _).symm⟩,rfl⟩)
   |(simp only [aC,aG] at he;obtain ⟨_,rfl,rfl⟩:=he;exact ⟨⟨[_],rfl⟩,rfl⟩)
theorem zrB {s:St} {op:uU} {v:PV} {H':zd} {ed:zI} (he:zt G C s op=some (v,H',ed)) {t:Option Nat} (ht:Ye G s op=some t):(t=none/\∃ X,H'=s.H++X)\/∃ id,t=some id/\∀ j,j≠id->H'[j]?=s.H[j]?:=by
 cases op<;>simp only [Ye] at ht<;>try (cases ht;done)
 case call m f args=>
  cases m<;>simp only at ht<;>try (cases ht;done)
  injection ht with ht
  subst ht
  refine .inl ⟨rfl,?_⟩
  simp only [zt,xH] at he
  split at he
  ·simp only [aC,aG] at he;obtain ⟨_,rfl,_⟩:=he;exact ⟨_,rfl⟩
  ·cases he
 case store sz a x=>
  split at ht
  ·rename_i id row off tot ha
   injection ht with ht
   subst ht
   refine .inr ⟨id,rfl,λ j hj=>?_⟩
   simp only [zt,ha] at he
   split at he
   ·rename_i h
    simp only [aC,aG] at he;obtain ⟨_,rfl,_⟩:=he
    unfold storeAt at h
    simp only at h
    repeat' split at h
    all_goals first
     |(cases h;done)
     |(simp only [aC,aG] at h;obtain ⟨rfl,_⟩:=h;exact aH (Ne.symm hj))
   ·cases he
  ·cases ht
 case append sz bytes x y=>
  split at ht
  ·rename_i id off len tot ha
   injection ht with ht
   subst ht
   refine .inr ⟨id,rfl,λ j hj=>?_⟩
   simp only [zt,ha] at he
   split at he
   ·unfold xe at he
    simp only at he
    repeat' split at he
    all_goals first
     |(cases he;done)
     |(simp only [aC,aG] at he;obtain ⟨_,rfl,_⟩:=he;exact aH (Ne.symm hj))
   ·cases he
  ·rename_i ha
   injection ht with ht
   subst ht
   refine .inl ⟨rfl,?_⟩
   simp only [zt,ha] at he
   split at he
   ·unfold xe at he
    simp only at he
    repeat' split at he
    all_goals first
     |(cases he;done)
     |(simp only [aC,aG] at he;obtain ⟨_,rfl,_⟩:=he;exact ⟨_,rfl⟩)
   ·cases he
  ·cases ht
 case copyS sz x y=>
  split at ht
  ·rename_i id off len tot ha
   injection ht with ht
   subst ht
   refine .inr ⟨id,rfl,λ j hj=>?_⟩
   simp only [zt,ha] at he
   repeat' split at he
   all_goals first
    |(cases he;done)
    |skip
   all_goals
    rename_i h1 _ _ _ _ _ _ _
    simp only [aC,aG] at he
    obtain ⟨_,rfl,_⟩:=he
    cases h1
    exact aH (Ne.symm hj)
  ·cases ht
 case insert tag m k x=>
  split at ht
  ·rename_i id ha
   injection ht with ht
   subst ht
   refine .inr ⟨id,rfl,λ j hj=>?_⟩
   simp only [zt,ha] at he
   repeat' split at he
   all_goals first
    |(cases he;done)
    |(simp only [aC,aG] at he;obtain ⟨_,rfl,_⟩:=he;exact aH (Ne.symm hj))
  ·cases ht
theorem zei {H X:zd} {v:PV} {cs:List PV} (h:cellsAt H v=some cs):cellsAt (H++X) v=some cs:=by
 unfold cellsAt at *
 split at h
 ·exact h
 ·rename_i id row off tot
  cases hH:H[id]? with
  |none=>simp [hH] at h
  |some b=>
   have hlt:=(aF.1 hH).1
   simp only [aD hlt,hH] at h ⊢
   exact h
 ·cases h
theorem zoY {H H':zd} {v:PV} (h:∀ id∈refs v,H'[id]?=H[id]?):cellsAt H' v=cellsAt H v:=by
 unfold cellsAt
 cases v<;>try rfl
 rename_i id row off tot
 simp only [h id (by simp [refs])]
end
end
theorem zce {acc:List Nat} {j:Nat}:∀ {l:List Edge} {s:Nat},(l.foldl (λ s e=>match Region.binds .any e with|true=>s ||| (1 <<< e.on ||| acc.getD e.on 0)|false=>s) s).testBit j=true->
  s.testBit j=true\/∃ e∈l,Region.binds .any e=true/\(j=e.on\/(acc.getD e.on 0).testBit j=true)
 |[],s,h=>.inl h
 |e::l,s,h=>by
  simp only [List.foldl_cons] at h
  rcases zce h with h|⟨e',h1,h2,h3⟩
  ·cases hb:Region.binds .any e with
   |true=>
    rw [hb] at h
    simp only [Nat.testBit_or,d7] at h
    rcases h with h|h|h
    ·exact .inl h
    ·refine .inr ⟨e,cM,hb,.inl ?_⟩
     rw [Nat.one_shiftLeft,Nat.testBit_two_pow] at h
     simpa using (by simpa using h:e.on=j).symm
    ·exact .inr ⟨e,cM,hb,.inr h⟩
   |false=>rw [hb] at h;exact .inl h
  ·exact .inr ⟨e',bL _ h1,h2,h3⟩
theorem zb0:∀ (os:List Oper) (acc:List Nat) (i:Nat),i<acc.length->(WM os acc)[i]?=acc[i]?
 |[],acc,i,h=>rfl
 |o::os,acc,i,h=>by
  simp only [WM]
  rw [zb0 os _ i (by simp;omega),aD h]
theorem zj4:∀ (os:List Oper) (acc:List Nat) (k:Nat) (o:Oper),os[k]?=some o->∃ acc',acc'.length=acc.length+k/\(∀ j,j<acc'.length->(WM os acc)[j]?=acc'[j]?)/\(WM os acc)[acc.length+k]?=some (bits acc' o)
 |[],acc,k,o,h=>by simp at h
 |o'::os,acc,0,o,h=>by
  simp only [bW,aC] at h
  subst h
  refine ⟨acc,by simp,λ j hj=>zb0 _ _ _ hj,?_⟩
  simp only [WM,cN]
  rw [zb0 _ _ _ (by simp)]
  simp
 |o'::os,acc,k+1,o,h=>by
  obtain ⟨acc',h1,h2,h3⟩:=zj4 os (acc++[bits acc o']) k o (by simpa using h)
  simp only [aQ,bK] at h1 h3
  exact ⟨acc',by omega,h2,by rw [show acc.length+(k+1)=acc.length+1+k by omega];exact h3⟩
def JF (ops:Array Oper) (i j:Nat):Bool:=((WM ops.toList []).getD i 0).testBit j
def Kt (ops:Array Oper) (S:Nat->Prop):Prop:=∀ i o,S i->ops[i]?=some o->∀ e∈o.after,Region.binds .any e=true->S e.on
theorem zqr {ops:Array Oper} {S:Nat->Prop} (hS:Kt ops S):∀ (n i:Nat),i<=n->∀ {o:Oper} {j:Nat},ops[i]?=some o->(∀ e∈o.after,Region.binds .any e=true->e.on<i/\S e.on)->(∀ i o,ops[i]?=some o->∀ e∈o.after,Region.binds .any e=true->e.on<i)->JF ops i j=true->S j:=by
 intro n
 induction n with
 |zero=>
  intro i hi o j ho he hb hw
  have:i=0:=by omega
  subst this
  obtain ⟨acc',h1,h2,h3⟩:=zj4 ops.toList [] 0 o (by simpa using ho)
  unfold JF at hw
  rw [cK,show (WM ops.toList [])[0]?=_ by simpa using h3] at hw
  simp only [cR] at hw
  rcases zce hw with h|⟨e,k1,k2,_⟩
  ·simp at h
  ·have:=(he e (by simpa using k1) k2).1;omega
 |succ n ih=>
  intro i hi o j ho he hb hw
  obtain ⟨acc',h1,h2,h3⟩:=zj4 ops.toList [] i o (by simpa using ho)
  simp only [bE,bO] at h1 h3
  unfold JF at hw
  rw [cK,h3] at hw
  simp only [cR] at hw
  rcases zce hw with h|⟨e,k1,k2,k3⟩
  ·simp at h
  ·have hk:=he e (by simpa using k1) k2
   rcases k3 with rfl|k3
   ·exact hk.2
   ·have ho':∃ o',ops[e.on]?=some o':=by
     have:i<ops.size:=(cO.1 ho).1
     exact ⟨_,bV (by omega)⟩
    obtain ⟨o',ho'⟩:=ho'
    refine ih e.on (by omega) ho' (λ e' h4 h5=>⟨hb _ _ ho' e' h4 h5,hS _ _ hk.2 ho' e' h4 h5⟩) hb ?_
    unfold JF
    rw [cK,h2 e.on (by omega), <-cK]
    exact k3
theorem zcs {ops:Array Oper} {S:Nat->Prop} (hS:Kt ops S) (hb:∀ i o,ops[i]?=some o->∀ e∈o.after,Region.binds .any e=true->e.on<i) {i j:Nat} {o:Oper} (ho:ops[i]?=some o) (hi:S i) (hw:JF ops i j=true):S j:=
 zqr hS i i (aS _) ho (λ e h1 h2=>⟨hb _ _ ho e h1 h2,hS _ _ hi ho e h1 h2⟩) hb hw
theorem ze2 {ms:List Nat} {as:List zD} {i:Nat} {y:zD}:∀ {xs:List zD} {j:Nat},zap ms as i y j xs=true->∀ (k:Nat) (x:zD),xs[k]?=some x->j+k<i->K4 ((ms.getD i 0).testBit (j+k)) x ((as.take i).drop (j+k+1)) y=true
 |[],j,h,k,x,hk,_=>by simp at hk
 |x'::xs,j,h,k,x,hk,hlt=>by
  simp only [zap] at h
  split at h
  ·simp only [aU] at h
   cases k with
   |zero=>simp only [bW,aC] at hk;subst hk;exact h.1
   |succ k=>
    have:=ze2 h.2 k x (by simpa using hk) (by omega)
    rwa [show j+1+k=j+(k+1) by omega] at this
  ·rename_i hb
   have:¬ j<i:=λ h=>by
    have h2:Nat.blt j i=true:=by rw [Nat.blt_eq];exact h
    rw [h2] at hb;cases hb
   omega
theorem zjl {ms:List Nat} {as:List zD}:∀ {ys:List zD} {i:Nat},zk3 ms as i ys=true->∀ (k:Nat) (y:zD),ys[k]?=some y->zap ms as (i+k) y 0 as=true
 |[],i,h,k,y,hk=>by simp at hk
 |y'::ys,i,h,k,y,hk=>by
  simp only [zk3,aU] at h
  cases k with
  |zero=>simp only [bW,aC] at hk;subst hk;exact h.1
  |succ k=>
   have:=zjl h.2 k y (by simpa using hk)
   rwa [show i+1+k=i+(k+1) by omega] at this
theorem zep:∀ {os:List Oper} {i:Nat},zcH i os=true->∀ (k:Nat) (o:Oper),os[k]?=some o->∀ e∈o.after,Region.binds .any e=true->e.on<i+k
 |[],i,h,k,o,hk=>by simp at hk
 |o'::os,i,h,k,o,hk=>by
  simp only [zcH,aU] at h
  cases k with
  |zero=>
   simp only [bW,aC] at hk;subst hk
   intro e he hb
   have:=aZ.1 h.1 e (by simpa using he)
   rw [hb] at this
   simpa [Nat.blt_eq] using this
  |succ k=>
   have:=zep h.2 k o (by simpa using hk)
   rwa [show i+1+k=i+(k+1) by omega] at this
def zkk (G:Nat->Option (List PV)) (C:Cl) (o:zD) (s s1:St) (v:PV):Prop:=
 (wanted G s o=some true/\∃ H ed,vB G C s o=some (v,H,ed)/\s1=St.put { s with H:=H,ed:=ed++s.ed } o.dst v)\/(wanted G s o=some false/\v=.und/\s1=s.put o.dst .und)
theorem zi_ {G:Nat->Option (List PV)} {C:Cl}:∀ {as:List zD} {st st':St},vP G C as st=some st'->∃ (sts:Nat->St) (ze:Nat->PV),sts 0=st/\sts as.length=st'/\∀ i o,as[i]?=some o->zkk G C o (sts i) (sts (i+1)) (ze i)
 |[],st,st',h=>by
  simp only [vP,aC] at h
  exact ⟨λ _=>st,λ _=>.unk,rfl,h,by simp⟩
 |o::os,st,st',h=>by
  have key:∀ s1 v,zkk G C o st s1 v->vP G C os s1=some st'->∃ (sts:Nat->St) (ze:Nat->PV),sts 0=st/\sts (o::os).length=st'/\∀ i o',(o::os)[i]?=some o'->zkk G C o' (sts i) (sts (i+1)) (ze i):=by
   intro s1 v hs he
   obtain ⟨sts,ze,h1,h2,h3⟩:=zi_ he
   refine ⟨λ i=>match i with|0=>st|i+1=>sts i,λ i=>match i with|0=>v|i+1=>ze i,rfl,h2,λ i o' hi=>?_⟩
   cases i with
   |zero=>
    simp only [bW,aC] at hi
    subst hi
    show zkk G C o st (sts 0) v
    rw [h1];exact hs
   |succ i=>exact h3 i o' (by simpa using hi)
  simp only [vP] at h
  split at h
  ·rename_i hw
   split at h
   ·rename_i v H ed ho
    exact key _ v (.inl ⟨hw,H,ed,ho,rfl⟩) h
   ·cases h
  ·rename_i hw
   exact key _ .und (.inr ⟨hw,rfl,rfl⟩) h
  ·cases h
def vr (T:yh) (s:St) (d:Nat):PV:=match T.K d with|true=>s.per.get d|false=>s.reg.get d
def KOk (T:yh) (s:St):Prop:=(∀ d,T.K d=false->s.per.get d=.unk)/\∀ d,T.K d=true->s.reg.get d=.unk
theorem zyy {T:yh} {s:St} {d:Nat} {v:PV} (n:Nat):vr T (s.put (some (T.K d,d)) v) n=if n=d then v else vr T s n:=by
 unfold vr
 by_cases e:n=d
 ·subst e
  cases hk:T.K n<;>simp [St.put,zk.get_put]
 ·cases hk:T.K d<;>cases hn:T.K n<;>simp [St.put,zk.get_put,e]
theorem KOk.put {T:yh} {s:St} (h:KOk T s) (d:Nat) (v:PV):KOk T (s.put (some (T.K d,d)) v):=by
 cases hk:T.K d with
 |true=>
  refine ⟨λ n hn=>?_,h.2⟩
  simp only [St.put];rw [zk.get_put]
  have:n≠d:=λ e=>by subst e;rw [hk] at hn;cases hn
  simpa [this] using h.1 n hn
 |false=>
  refine ⟨h.1,λ n hn=>?_⟩
  simp only [St.put];rw [zk.get_put]
  have:n≠d:=λ e=>by subst e;rw [hk] at hn;cases hn
  simpa [this] using h.2 n hn
theorem zy.get_slot {G:Nat->Option (List PV)} {T:yh} {s:St} (h:KOk T s) {x:zy} {d:Nat} (hx:Vq x=some d):x.get G s=vr T s d\/x.get G s=.unk:=by
 cases x<;>simp only [Vq,aC] at hx<;>try (cases hx;done)
 all_goals
  subst hx
  unfold vr
  rename_i n
  cases hk:T.K n
  ·first
    |exact .inl rfl
    |exact .inr (h.1 n hk)
  ·first
    |exact .inl rfl
    |exact .inr (h.2 n hk)
section
structure Zh (P:Program) (G:Nat->Option (List PV)) (T:yh) (nt:Nat) (C:Cl) (ops:Array Oper) (as:List zD) (sts:Nat->St) (ze:Nat->PV):Prop where
 len:as.length=ops.size
 tr:∀ (i:Nat) (o:Oper) (y:zD),ops[i]?=some o->as[i]?=some y->zbJ P T nt ops o y
 step:∀ (i:Nat) (y:zD),as[i]?=some y->zkk G C y (sts i) (sts (i+1)) (ze i)
 pair:∀ (j i:Nat) (x y:zD),j<i->as[j]?=some x->as[i]?=some y->K4 (JF ops i j) x ((as.take i).drop (j+1)) y=true
 back:∀ (i:Nat) (o:Oper),ops[i]?=some o->∀ e∈o.after,Region.binds .any e=true->e.on<i
 bare:∀ (i:Nat) (y:zD),as[i]?=some y->(∀ x∈y.opds,zhu x=true)/\zgh y.op=true
 kok:KOk T (sts 0)
section
variable {P:Program} {G:Nat->Option (List PV)} {T:yh} {nt:Nat} {C:Cl} {ops:Array Oper} {as:List zD} {sts:Nat->St} {ze:Nat->PV}
theorem zfU {y:zD} (h:KW y=true):wy y.op=true:=by
 unfold KW at h
 cases hop:y.op<;>rw [hop] at h<;>simp [zb8,zfN,wy] at h ⊢ <;>first|exact h.2|exact h
theorem Zh.dst (c:Zh P G T nt C ops as sts ze) {i:Nat} {y:zD} (hy:as[i]?=some y):(y.dst=none/\y.writes=none)\/∃ d,d<nt/\y.dst=some (T.K d,d)/\y.writes=some d:=by
 have hlt:i<ops.size:=by rw [<-c.len];exact (aF.1 hy).1
 rcases (c.tr i _ y (bV hlt) hy).dst with ⟨h1,h2⟩|⟨d,h1,h2,h3⟩
 ·exact .inl ⟨h2,by simp [zD.writes,h2]⟩
 ·exact .inr ⟨d,h2,h3,by simp [zD.writes,h3]⟩
theorem Zh.oper (c:Zh P G T nt C ops as sts ze) {i:Nat} {y:zD} (hy:as[i]?=some y):∃ o,ops[i]?=some o:=by
 have hlt:i<ops.size:=by rw [<-c.len];exact (aF.1 hy).1
 exact ⟨_,bV hlt⟩
theorem Zh.at_ (c:Zh P G T nt C ops as sts ze) {i:Nat} (h:i<as.length):∃ y,as[i]?=some y:=⟨_,aE h⟩
theorem Zh.slot1 (c:Zh P G T nt C ops as sts ze) {i:Nat} {y:zD} (hy:as[i]?=some y) (hk:KOk T (sts i)):(∀ d,vr T (sts (i+1)) d=if y.writes=some d then ze i else vr T (sts i) d)/\KOk T (sts (i+1)):=by
 have key:∀ (s:St) (v:PV),(∀ d,vr T s d=vr T (sts i) d)->KOk T s->sts (i+1)=s.put y.dst v->v=ze i->(∀ d,vr T (sts (i+1)) d=if y.writes=some d then ze i else vr T (sts i) d)/\KOk T (sts (i+1)):=by
  intro s v h1 h2 h3 h4
  subst h4
  rw [h3]
  rcases c.dst hy with ⟨e1,e2⟩|⟨d,_,e1,e2⟩
  ·rw [e1,e2];exact ⟨λ d=>h1 d,h2⟩
  ·rw [e1,e2]
   refine ⟨λ n=>?_,h2.put d _⟩
   rw [zyy,h1]
   by_cases e:n=d
   ·simp [e]
   ·simp [e,Ne.symm e]
 rcases c.step i y hy with ⟨_,H,ed,_,h⟩|⟨_,h1,h⟩
 ·exact key { (sts i) with H:=H,ed:=ed++(sts i).ed } _ (λ d=>rfl) hk h rfl
 ·exact key (sts i) .und (λ _=>rfl) hk h h1.symm
theorem Zh.kokAt (c:Zh P G T nt C ops as sts ze):∀ i,i<=as.length->KOk T (sts i)
 |0,_=>c.kok
 |i+1,h=>by
  obtain ⟨y,hy⟩:=c.at_ (i:=i) (by omega)
  exact (c.slot1 hy (c.kokAt i (by omega))).2
theorem Zh.slot_same (c:Zh P G T nt C ops as sts ze) {d i:Nat}:∀ k,i<=k->k<=as.length->(∀ j y,i<=j->j<k->as[j]?=some y->y.writes≠some d)->vr T (sts k) d=vr T (sts i) d:=by
 intro k hk
 induction hk with
 |refl=>intro _ _;rfl
 |step hk ih=>
  rename_i k
  intro hl hn
  have hik:i<=k:=hk
  obtain ⟨y,hy⟩:=c.at_ (i:=k) (by omega)
  rw [(c.slot1 hy (c.kokAt k (by omega))).1,if_neg (hn k y hik (by omega) hy)]
  exact ih (by omega) λ j y h1 h2=>hn j y h1 (by omega)
theorem Zh.writes_ne (c:Zh P G T nt C ops as sts ze) {i j:Nat} {x y:zD} (hne:i≠j) (hi:as[i]?=some x) (hj:as[j]?=some y) {d:Nat} (hx:x.writes=some d):y.writes≠some d:=by
 intro hy
 have key:∀ (i j:Nat) (x y:zD),i<j->as[i]?=some x->as[j]?=some y->x.writes=some d->y.writes=some d->False:=by
  intro i j x y h hi hj hx hy
  have:=c.pair i j x y h hi hj
  simp [K4,zhx,hx,hy] at this
 rcases bS i j with h|h
 ·exact key i j x y h hi hj hx hy
 ·exact key j i y x (by omega) hj hi hy hx
theorem Zh.slot_written (c:Zh P G T nt C ops as sts ze) {j i d:Nat} {y:zD} (hy:as[j]?=some y) (hd:y.writes=some d) (h:j<i) (hi:i<=as.length):vr T (sts i) d=ze j:=by
 rw [c.slot_same (i:=j+1) i (by omega) hi λ k x h1 h2 hx=>c.writes_ne (by omega) hy hx hd]
 rw [(c.slot1 hy (c.kokAt j (by omega))).1,if_pos hd]
theorem Zh.heap1 (c:Zh P G T nt C ops as sts ze) {i:Nat} {y:zD} (hy:as[i]?=some y) (hq:wy y.op=true):(∃ X,(sts (i+1)).H=(sts i).H++X)/\(sts (i+1)).ed=(sts i).ed:=by
 rcases c.step i y hy with ⟨_,H,ed,ho,h⟩|⟨_,_,h⟩
 ·obtain ⟨⟨X,h1⟩,h2⟩:=znC hq (Yp.1 ho).1
  rw [h,St.put_H,St.put_ed]
  simp only
  exact ⟨⟨X,h1⟩,by rw [h2];rfl⟩
 ·rw [h,St.put_H,St.put_ed]
  exact ⟨⟨[],by simp⟩,rfl⟩
theorem Zh.heaps (c:Zh P G T nt C ops as sts ze) {i:Nat}:∀ k,i<=k->k<=as.length->(∀ j y,i<=j->j<k->as[j]?=some y->wy y.op=true)->(∃ X,(sts k).H=(sts i).H++X)/\(sts k).ed=(sts i).ed:=by
 intro k hk
 induction hk with
 |refl=>intro _ _;exact ⟨⟨[],by simp⟩,rfl⟩
 |step hk ih=>
  rename_i k
  have hik:i<=k:=hk
  intro hl hq
  obtain ⟨y,hy⟩:=c.at_ (i:=k) (by omega)
  obtain ⟨⟨X,h1⟩,h2⟩:=ih (by omega) λ j y h1 h2=>hq j y h1 (by omega)
  obtain ⟨⟨Y,h3⟩,h4⟩:=c.heap1 hy (hq k y hik (by omega) hy)
  exact ⟨⟨X++Y,by rw [h3,h1,aY]⟩,h4.trans h2⟩
structure u_ (P:Program) (G:Nat->Option (List PV)) (T:yh) (nt:Nat) (as:List zD) (sts:Nat->St) (ze:Nat->PV) (w0:World) (F0:Nat->Prop) (m0:zR) (H0:zd) (d0:kF) (S:Nat->Prop) (a:Act) (w:World) (B:Nat) (F:Nat->Prop) (m:zR):Prop where
 leB:B<=as.length
 mutd:∀ k y,k<B->as[k]?=some y->wy y.op=false->S k
 out:∀ k y,B<=k->as[k]?=some y->S k->KW y=true
 rel:yl G w F m (sts B).H
 grow:wq w0 F0 m0 H0 w F m (sts B).H
 fwd:YQ m H0 (sts B).H (sts B).ed
 defers:KR T d0 a
 size:a.tmps.size=nt
 mono:∀ i,i<B->(sts i).H.length<=(sts (i+1)).H.length
 unex:∀ j,j<B->¬ S j->∀ id,(sts j).H.length<=id->id<(sts (j+1)).H.length->m id=.unk
 bnd:∀ i,i<=B->∀ id b r,id<(sts i).H.length->m id≠.unk->(sts i).H[id]?=some b->r∈ZC b->r<(sts i).H.length
 wr:∀ j y d,S j->as[j]?=some y->y.writes=some d->zo w F m (zu (sts B).H) (ze j) (a.tmps.getD d undef)/\∀ r∈refs (ze j),r<(sts (min (j+1) B)).H.length
 nw:∀ d,(∀ j y,S j->as[j]?=some y->y.writes≠some d)->zo w F m (zu (sts B).H) (vr T (sts 0) d) (a.tmps.getD d undef)
 base:∀ d,∀ r∈refs (vr T (sts 0) d),r<(sts 0).H.length
end
end
section
theorem zk.get_filter (e:zk) (f:Nat->Bool) (d:Nat):zk.get (e.filter λ q=>f q.1) d=if f d then e.get d else .unk:=by
 induction e with
 |nil=>simp [zk.get]
 |cons q e ih=>
  obtain ⟨k,x⟩:=q
  rw [dQ]
  by_cases hk:k=d
  ·subst hk
   cases hf:f k
   ·rw [hf] at ih;simpa [hf] using ih
   ·simp [zk.get]
  ·cases hf:f k
   ·simpa [hf,zk.get,zh3 hk] using ih
   ·simpa [hf,zk.get,zh3 hk] using ih
theorem VO (e:zk) (l:List Nat) (n:Nat):zk.get (e.filter λ q=>vf q.1 l) n=if vf n l then e.get n else .unk:=zk.get_filter e (λ k=>vf k l) n
theorem uD {n:Nat} {l:List Nat}:vf n l=true↔n∈l:=by
 unfold vf
 rw [List.any_eq_true]
 exact ⟨λ ⟨x,h1,h2⟩=>by rw [aT h2];exact h1,λ h=>⟨n,h,by simp⟩⟩
def St.only (s:St) (l:List Nat) (H:zd):St:={ per:=s.per.filter λ q=>vf q.1 l,reg:=s.reg.filter λ q=>vf q.1 l,H:=H,ed:=[] }
theorem zpK {G:Nat->Option (List PV)} {s:St} {l:List Nat} {H:zd} {x:zy} (h:∀ d,Vq x=some d->d∈l):x.get G (s.only l H)=x.get G s:=by
 cases x with
 |per n=>show zk.get (s.per.filter λ q=>vf q.1 l) n=_;rw [VO,if_pos (uD.2 (h n rfl))];rfl
 |reg n=>show zk.get (s.reg.filter λ q=>vf q.1 l) n=_;rw [VO,if_pos (uD.2 (h n rfl))];rfl
 |const v=>rfl
 |glob g=>rfl
theorem zpL {T:yh} {nt:Nat} {R:PV->Value->Prop} {s:St} {l:List Nat} {H:zd} {a:Act} (hU:∀ x,R .unk x) (hsz:a.tmps.size=nt) (hk:KOk T s) (h:∀ d∈l,R (vr T s d) (a.tmps.getD d undef)):vX T nt R (s.only l H) a:=by
 refine ⟨hsz,λ n=>?_,λ n=>?_,λ n hn=>?_,λ n hn=>?_⟩
 ·show R (zk.get (s.per.filter λ q=>vf q.1 l) n) _
  rw [VO]
  split
  ·rename_i hl
   cases hn:T.K n with
   |true=>have:=h n (uD.1 hl);unfold vr at this;rw [hn] at this;exact this
   |false=>rw [hk.1 n hn];exact hU _
  ·exact hU _
 ·show R (zk.get (s.reg.filter λ q=>vf q.1 l) n) _
  rw [VO]
  split
  ·rename_i hl
   cases hn:T.K n with
   |false=>have:=h n (uD.1 hl);unfold vr at this;rw [hn] at this;exact this
   |true=>rw [hk.2 n hn];exact hU _
  ·exact hU _
 ·show zk.get (s.per.filter λ q=>vf q.1 l) n=_
  rw [VO];split
  ·exact hk.1 n hn
  ·rfl
 ·show zk.get (s.reg.filter λ q=>vf q.1 l) n=_
  rw [VO];split
  ·exact hk.2 n hn
  ·rfl
theorem zdN {H X:zd} {id:Nat} (h:id<H.length):zu (H++X) id=zu H id:=by simp [zu,aD h]
section
variable {G:Nat->Option (List PV)} {w:World} {F:Nat->Prop} {m:zR} {H:zd}
theorem zo.ext (R:yl G w F m H) (X:zd) {p:PV} {v:Value} (h:zo w F m (zu H) p v):zo w F m (zu (H++X)) p v:=
 h.at_ λ r hr=>⟨rfl,zdN (R.bnd h r hr)⟩
theorem yl.ext (R:yl G w F m H) (X:zd):yl G w F m (H++X):=by
 refine ⟨λ id s rows h=>?_,λ id es h=>?_,λ id h=>R.fresh id (by simp at h;omega),R.inj,R.lt,R.ltF,R.apart,R.glob⟩
 ·by_cases hm:m id=.unk
  ·exact .inl hm
  ·rw [aD (R.lt_of_ne hm)] at h
   rcases R.cells id s rows h with k|k|⟨blk,o,cap,k1,k2⟩
   ·exact .inl k
   ·exact .inr (.inl k)
   ·exact .inr (.inr ⟨blk,o,cap,k1,k2.mono rfl λ p v hv=>hv.ext R X⟩)
 ·by_cases hm:m id=.unk
  ·exact .inl hm
  ·rw [aD (R.lt_of_ne hm)] at h
   rcases R.maps id es h with k|⟨blk,k1,k2⟩
   ·exact .inl k
   ·exact .inr ⟨blk,k1,k2.mono rfl λ p v hv=>hv.ext R X⟩
theorem wq.ext {w0:World} {F0:Nat->Prop} {m0:zR} {H0:zd} (R:yl G w F m H) (g:wq w0 F0 m0 H0 w F m H) (X:zd):wq w0 F0 m0 H0 w F m (H++X):=by
 refine ⟨g.heap,g.sub,g.new,g.old,λ id hid=>?_,g.img,g.os,g.tape,g.output,g.froz,by have:=g.len;simp;omega,g.fresh⟩
 obtain ⟨k1,k2,k3⟩:=g.locs id hid
 rw [zdN (R.lt_of_ne k1)]
 exact ⟨k1,k2,k3⟩
theorem YQ.ext {H0:zd} {ed:zI} (R:yl G w F m H) (f:YQ m H0 H ed) (X:zd):YQ m H0 (H++X) ed:=by
 intro id b r hm hb
 rw [aD (R.lt_of_ne hm)] at hb
 exact f id b r hm hb
end
section
variable {P:Program} {G:Nat->Option (List PV)} {T:yh} {nt:Nat} {C:Cl} {ops:Array Oper} {as:List zD} {sts:Nat->St} {ze:Nat->PV} {w0:World} {F0:Nat->Prop} {m0:zR} {H0:zd} {d0:kF} {S:Nat->Prop} {a:Act} {w:World} {B:Nat} {F:Nat->Prop} {m:zR}
theorem u_.le (D:u_ P G T nt as sts ze w0 F0 m0 H0 d0 S a w B F m) {i k:Nat} (h:i<=k):k<=B->(sts i).H.length<=(sts k).H.length:=by
 induction h with
 |refl=>intro _;exact aS _
 |step h ih=>intro hk;exact dI (ih (by omega)) (D.mono _ (by omega))
theorem u_.next (c:Zh P G T nt C ops as sts ze) (D:u_ P G T nt as sts ze w0 F0 m0 H0 d0 S a w B F m) {y:zD} (hy:as[B]?=some y) (hq:wy y.op=true):u_ P G T nt as sts ze w0 F0 m0 H0 d0 S a w (B+1) F m:=by
 obtain ⟨⟨X,hX⟩,hed⟩:=c.heap1 hy hq
 have hlen:(sts B).H.length<=(sts (B+1)).H.length:=by rw [hX];simp
 have hext:∀ p v,zo w F m (zu (sts B).H) p v->zo w F m (zu (sts (B+1)).H) p v:=λ p v h=>by rw [hX];exact h.ext D.rel X
 refine ⟨(aF.1 hy).1,λ k z hk hz hm=>?_,λ k z hk hz hs=>D.out k z (by omega) hz hs,by rw [hX];exact D.rel.ext X,by rw [hX];exact D.grow.ext D.rel X,by rw [hX,hed];exact D.fwd.ext D.rel X,D.defers,D.size,λ i hi=>?_,λ j hj hs id h1 h2=>?_,λ i hi id b r h1 h2 h3 h4=>?_,λ j z d hs hz hd=>?_,λ d hd=>hext _ _ (D.nw d hd),D.base⟩
 ·rcases bS k B with h|h
  ·exact D.mutd k z h hz hm
  ·have:k=B:=by omega
   subst this;rw [hy] at hz;injection hz with hz;subst hz;rw [hq] at hm;cases hm
 ·rcases bS i B with h|h
  ·exact D.mono i h
  ·have:i=B:=by omega
   subst this;exact hlen
 ·rcases bS j B with h|h
  ·exact D.unex j h hs id h1 h2
  ·have:j=B:=by omega
   subst this;exact D.rel.fresh id h1
 ·rcases bS i (B+1) with h|h
  ·exact D.bnd i (by omega) id b r h1 h2 h3 h4
  ·have:i=B+1:=by omega
   subst this
   have hlt:=D.rel.lt_of_ne h2
   rw [hX,aD hlt] at h3
   have:=D.rel.block_lt h3 h2 r h4
   omega
 ·obtain ⟨k1,k2⟩:=D.wr j z d hs hz hd
  refine ⟨hext _ _ k1,λ r hr=>?_⟩
  have:=k2 r hr
  rcases bS j B with h|h
  ·rw [d8 (by omega)] at this ⊢;exact this
  ·rw [Nat.min_eq_right (by omega)] at this
   rw [Nat.min_eq_right (by omega)]
   omega
theorem u_.advance (c:Zh P G T nt C ops as sts ze):∀ (n:Nat) {B:Nat},as.length<=B+n->u_ P G T nt as sts ze w0 F0 m0 H0 d0 S a w B F m->∃ B',u_ P G T nt as sts ze w0 F0 m0 H0 d0 S a w B' F m/\∀ y,as[B']?=some y->wy y.op=false
 |0,B,hn,D=>⟨B,D,λ y hy=>by have:=(aF.1 hy).1;omega⟩
 |n+1,B,hn,D=>by
  cases hy:as[B]? with
  |none=>exact ⟨B,D,λ y h=>by rw [hy] at h;cases h⟩
  |some y=>
   cases hq:wy y.op with
   |false=>exact ⟨B,D,λ z h=>by rw [hy] at h;injection h with h;subst h;exact hq⟩
   |true=>exact u_.advance c n (by omega) (D.next c hy hq)
theorem u_.done (c:Zh P G T nt C ops as sts ze) (D:u_ P G T nt as sts ze w0 F0 m0 H0 d0 S a w B F m) {i:Nat} {o:Oper} {y:zD} (ho:ops[i]?=some o) (hy:as[i]?=some y) (hni:¬ S i) {E:Nat} (hE:E=B/\i≠B\/i=B/\E=B+1)
  {w':World} {F':Nat->Prop} {m':zR} {cv:Value} (R':yl G w' F' m' (sts E).H) (g:wq w0 F0 m0 H0 w' F' m' (sts E).H) (hmono:∀ p v,zo w F m (zu (sts B).H) p v->zo w' F' m' (zu (sts E).H) p v) (hBE:(sts B).H.length<=(sts E).H.length) (hf:YQ m' H0 (sts E).H (sts E).ed) (hv:zo w' F' m' (zu (sts E).H) (ze i) cv)
  (hvb:∀ r∈refs (ze i),r<(sts (min (i+1) E)).H.length) (hout:B<i->KW y=true)
  (hun:∀ id,m id=.unk->m' id≠.unk->i<E/\(sts i).H.length<=id/\id<(sts (i+1)).H.length)
  (hnew:∀ id,m id=.unk->m' id≠.unk->∀ k,k<=B->id<(sts k).H.length->∀ b r,(sts k).H[id]?=some b->r∈ZC b->r<(sts k).H.length):
  u_ P G T nt as sts ze w0 F0 m0 H0 d0 (λ k=>S k\/k=i) (a.put o.dst cv) w' E F' m':=by
 have hEle:B<=E:=by omega
 have hmn:∀ i,i<E->(sts i).H.length<=(sts (i+1)).H.length:=λ k hk=>by
  rcases bS k B with h|h
  ·exact D.mono k h
  ·have h1:k=B:=by omega
   have h2:E=B+1:=by omega
   subst h1;rw [<-h2];exact hBE
 have hle:∀ {i k:Nat},i<=k->k<=E->(sts i).H.length<=(sts k).H.length:=by
  intro i k h
  induction h with
  |refl=>intro _;exact aS _
  |step h ih=>intro hk;exact dI (ih (by omega)) (hmn _ (by omega))
 have hlen:i<as.length:=(aF.1 hy).1
 have hput:∀ d,(a.put o.dst cv).tmps.getD d undef=if y.writes=some d then cv else a.tmps.getD d undef:=by
  intro d
  rcases (c.tr i o y ho hy).dst with ⟨h1,h2⟩|⟨d',h1,h2,h3⟩
  ·rw [h1];simp [zD.writes,h2,Act.put]
  ·rw [h1,show y.writes=some d' by simp [zD.writes,h3]]
   have hlt:d'<a.tmps.size:=by rw [D.size];exact h2
   rw [show (a.put (some d') cv).tmps=a.tmps.setIfInBounds d' cv from rfl,zjW _ _ _ _ hlt]
   by_cases e:d=d'
   ·simp [e]
   ·simp [e,Ne.symm e]
 have hwb:∀ {j r:Nat},r<(sts (min (j+1) B)).H.length->r<(sts (min (j+1) E)).H.length:=λ {j r} h=>bJ h (hle (by omega) (by omega))
 refine ⟨by rcases hE with ⟨h,_⟩|⟨h1,h2⟩<;>have:=D.leB<;>omega,λ k z hk hz hm=>?_,λ k z hk hz hs=>?_,R',g,hf,D.defers.put (λ n e=>(c.tr i o y ho hy).fix n e) cv,by cases o.dst<;>simp [Act.put,D.size],hmn,λ j hj hs id h1 h2=>?_,λ k hk id b r h1 h2 h3 h4=>?_,λ j z d hs hz hd=>?_,λ d hd=>?_,D.base⟩
 ·rcases bS k B with h|h
  ·exact .inl (D.mutd k z h hz hm)
  ·right;omega
 ·rcases hs with hs|rfl
  ·exact D.out k z (by omega) hz hs
  ·rw [hy] at hz;injection hz with hz;subst hz
   exact hout (by omega)
 ·have hji:j≠i:=λ e=>hs (.inr e)
  have hjB:j<B:=by omega
  have hmu:=D.unex j hjB (λ h=>hs (.inl h)) id h1 h2
  by_cases hm':m' id=.unk
  ·exact hm'
  ·obtain ⟨k1,k2,k3⟩:=hun id hmu hm'
   rcases bS j i with h|h
   ·have:=hle (i:=j+1) (k:=i) (by omega) (by omega);omega
   ·have:=hle (i:=i+1) (k:=j) (by omega) (by omega);omega
 ·rcases bS B k with h|h
  ·have:k=E:=by omega
   subst this
   exact R'.block_lt h3 h2 r h4
  ·by_cases hmu:m id=.unk
   ·exact hnew id hmu h2 k h h1 b r h3 h4
   ·exact D.bnd k h id b r h1 hmu h3 h4
 ·rw [hput]
  rcases hs with hs|rfl
  ·obtain ⟨k1,k2⟩:=D.wr j z d hs hz hd
   have hne:y.writes≠some d:=c.writes_ne (λ e=>by subst e;exact hni hs) hz hy hd
   rw [if_neg hne]
   exact ⟨hmono _ _ k1,λ r hr=>hwb (k2 r hr)⟩
  ·rw [hy] at hz;injection hz with hz;subst hz
   rw [if_pos hd]
   exact ⟨hv,hvb⟩
 ·rw [hput,if_neg (hd i y (.inr rfl) hy)]
  exact hmono _ _ (D.nw d λ j z hs hz=>hd j z (.inl hs) hz)
end
end
theorem yl.glue {G:Nat->Option (List PV)} {w w':World} {F F':Nat->Prop} {m m1:zR} {K Hn H1:zd} {n:Nat} {w0:World} {F0:Nat->Prop} {m0:zR} {H0:zd} (gs:wq w0 F0 m0 H0 w F m K) (hH0:H0.length<=n) (R:yl G w F m K) (hn:Hn.length=n) (h0:∃ X,K=Hn++X) (h1:∃ X,K=H1++X) (h2:∃ X,H1=Hn++X)
  (hu:∀ id,n<=id->id<H1.length->m id=.unk) (R1:yl G w' F' m1 H1) (g:wq w F (m.restr n) Hn w' F' m1 H1) (q:Kw w (m.restr n) Hn w' m1 H1):
  ∃ m2,yl G w' F' m2 K/\wq w0 F0 m0 H0 w' F' m2 K/\(∀ p v,zo w' F' m1 (zu H1) p v->zo w' F' m2 (zu K) p v)/\(∀ p v,zo w F m (zu K) p v->zo w' F' m2 (zu K) p v)/\(∀ id,id<H1.length->m2 id=m1 id)/\(∀ id,m id=.unk->m2 id≠.unk->n<=id/\id<H1.length/\m1 id≠.unk):=by
 obtain ⟨X0,hX0⟩:=h0
 obtain ⟨X1,hX1⟩:=h1
 obtain ⟨X2,hX2⟩:=h2
 have hn1:n<=H1.length:=by rw [hX2];simp;omega
 have hlK:H1.length<=K.length:=by rw [hX1];simp
 let m2:zR:=λ id=>if id<n\/H1.length<=id then m id else m1 id
 have e1:∀ id,id<n\/H1.length<=id->m2 id=m id:=λ id h=>if_pos h
 have e2:∀ id,n<=id->id<H1.length->m2 id=m1 id:=λ id h h'=>if_neg (by omega)
 have e3:∀ id,id<H1.length->m2 id=m1 id:=λ id h=>by
  by_cases hid:id<n
  ·rw [e1 id (.inl hid)]
   have:=q.map id (by omega)
   rw [zR.restr_lt m hid] at this
   exact this.symm
  ·exact e2 id (by omega) h
 have hb:∀ b,b<w.heap.size->w'.heap[b]?=w.heap[b]?:=q.heap
 have hnew:∀ id blk o c s,n<=id->m1 id=.at_ blk o c s->w.heap.size<=blk:=by
  intro id blk o c s hid h
  rcases g.img blk ⟨id,o,c,s,h⟩ with ⟨id',o',c',s',h'⟩|h'
  ·obtain ⟨k1,_,k3⟩:=zR.restr_ne (m:=m) (n:=n) (id:=id') (by rw [h'];simp)
   have hq:=q.map id' (by omega)
   rw [h'] at hq
   have:=R1.inj _ _ _ _ _ _ _ _ _ h hq
   omega
  ·exact h'
 have key:∀ id,m2 id≠.unk->m2 id=m id\/(n<=id/\id<H1.length/\m2 id=m1 id):=by
  intro id h
  by_cases hid:id<n\/H1.length<=id
  ·exact .inl (e1 id hid)
  ·exact .inr ⟨by omega,by omega,e2 id (by omega) (by omega)⟩
 have hmono1:∀ p v,zo w' F' m1 (zu H1) p v->zo w' F' m2 (zu K) p v:=λ p v h=>h.at_ λ r hr=>by
  have:=R1.bnd h r hr
  exact ⟨e3 r this,by rw [hX1];exact zdN this⟩
 have hm2u:∀ id,m id≠.unk->m2 id=m id:=λ id h=>by
  by_cases hid:id<n\/H1.length<=id
  ·exact e1 id hid
  ·exact absurd (hu id (by omega) (by omega)) h
 have hmono:∀ p v,zo w F m (zu K) p v->zo w' F' m2 (zu K) p v:=λ p v h=>
  h.mono (λ b hF=>hb b (R.ltF b hF)) g.sub λ id hid=>⟨by rw [hm2u id hid];exact hid,aS _,λ _=>hm2u id hid⟩
 refine ⟨m2,⟨λ id s rows h=>?_,λ id es h=>?_,λ id h=>?_,λ id id' b o c s o' c' s' h1 h2=>?_,λ b ⟨id,o,c,s,h⟩=>?_,R1.ltF,λ b ⟨id,o,c,s,h⟩ hF=>?_,R1.glob⟩,
  ⟨dI gs.heap g.heap,λ b h=>g.sub b (gs.sub b h),λ b h=>?_,λ b h h2=>(hb b (bJ h gs.heap)).trans (gs.old b h h2),λ id hid=>?_,λ b ⟨id,o,c,s,h⟩=>?_,g.os.trans gs.os,g.tape.trans gs.tape,g.output.trans gs.output,λ x=>(g.froz x).trans (gs.froz x),gs.len,λ id h1 h2=>?_⟩,hmono1,hmono,e3,λ id h1 h2=>?_⟩
 ·by_cases hid:id<n\/H1.length<=id
  ·rw [e1 id hid]
   rcases R.cells id s rows h with k|k|⟨blk,o,cap,k1,k2⟩
   ·exact .inl k
   ·exact .inr (.inl k)
   ·exact .inr (.inr ⟨blk,o,cap,k1,k2.mono (hb blk (R.lt blk ⟨id,o,cap,s,k1⟩)) hmono⟩)
  ·rw [e2 id (by omega) (by omega)]
   rw [hX1,aD (by omega)] at h
   rcases R1.cells id s rows h with k|k|⟨blk,o,cap,k1,k2⟩
   ·exact .inl k
   ·exact .inr (.inl k)
   ·exact .inr (.inr ⟨blk,o,cap,k1,k2.mono rfl hmono1⟩)
 ·by_cases hid:id<n\/H1.length<=id
  ·rw [e1 id hid]
   rcases R.maps id es h with k|⟨blk,k1,k2⟩
   ·exact .inl k
   ·exact .inr ⟨blk,k1,k2.mono (hb blk (R.lt blk ⟨id,0,0,0,k1⟩)) hmono⟩
  ·rw [e2 id (by omega) (by omega)]
   rw [hX1,aD (by omega)] at h
   rcases R1.maps id es h with k|⟨blk,k1,k2⟩
   ·exact .inl k
   ·exact .inr ⟨blk,k1,k2.mono rfl hmono1⟩
 ·rw [e1 id (.inr (by omega))];exact R.fresh id h
 ·have k1:=key id (by rw [h1];simp)
  have k2:=key id' (by rw [h2];simp)
  rcases k1 with k1|⟨a1,a2,k1⟩<;>rcases k2 with k2|⟨b1,b2,k2⟩
  ·exact R.inj _ _ _ _ _ _ _ _ _ (k1▸h1) (k2▸h2)
  ·have:=hnew id' _ _ _ _ b1 (k2▸h2)
   have:=R.lt b ⟨id,o,c,s,k1▸h1⟩
   omega
  ·have:=hnew id _ _ _ _ a1 (k1▸h1)
   have:=R.lt b ⟨id',o',c',s',k2▸h2⟩
   omega
  ·exact R1.inj _ _ _ _ _ _ _ _ _ (k1▸h1) (k2▸h2)
 ·rcases key id (by rw [h];simp) with k|⟨_,_,k⟩
  ·exact bJ (R.lt b ⟨id,o,c,s,k▸h⟩) g.heap
  ·exact R1.lt b ⟨id,o,c,s,k▸h⟩
 ·rcases key id (by rw [h];simp) with k|⟨_,_,k⟩
  ·have hlt:=R.lt b ⟨id,o,c,s,k▸h⟩
   rcases g.new b hF with hF|hF
   ·exact R.apart b ⟨id,o,c,s,k▸h⟩ hF
   ·omega
  ·exact R1.apart b ⟨id,o,c,s,k▸h⟩ hF
 ·rcases g.new b h with h|h
  ·exact gs.new b h
  ·exact .inr (dI gs.heap h)
 ·obtain ⟨k1,k2,k3⟩:=gs.locs id hid
  rw [hm2u id k1]
  exact ⟨k1,k2,k3⟩
 ·rcases key id (by rw [h];simp) with k|⟨k0,_,k⟩
  ·exact gs.img b ⟨id,o,c,s,k▸h⟩
  ·exact .inr (dI gs.heap (hnew id _ _ _ _ k0 (k▸h)))
 ·rcases key id h2 with k|⟨k1,_,k⟩
  ·rw [k] at h2;exact gs.fresh id h1 h2
  ·omega
 ·rcases key id h2 with k|⟨k1,k2,k⟩
  ·rw [k] at h2;exact absurd h1 h2
  ·exact ⟨k1,k2,k▸h2⟩
section
section
variable {P:Program} {G:Nat->Option (List PV)} {T:yh} {nt:Nat} {C:Cl} {ops:Array Oper} {as:List zD} {sts:Nat->St} {ze:Nat->PV} {w0:World} {F0:Nat->Prop} {m0:zR} {H0:zd} {d0:kF} {S:Nat->Prop} {a:Act} {w:World} {B:Nat} {F:Nat->Prop} {m:zR}
theorem zjo (c:Zh P G T nt C ops as sts ze) (hS:Kt ops S) {i j:Nat} {o:Oper} (ho:ops[i]?=some o) (hr:∀ e∈o.after,Region.binds .any e=true->S e.on) (hw:JF ops i j=true):S j:=
 zqr hS i i (aS _) ho (λ e h1 h2=>⟨c.back i o ho e h1 h2,hr e h1 h2⟩) c.back hw
theorem zdI {d:Nat} {o:Option Nat} {l:List Nat} (ho:o=some d) (hd:d∈l):zdH o l=false:=by
 subst ho
 simp [zdH,uD.2 hd]
theorem u_.slotAt (c:Zh P G T nt C ops as sts ze) (D:u_ P G T nt as sts ze w0 F0 m0 H0 d0 S a w B F m) (hS:Kt ops S) {i:Nat} {o:Oper} {y:zD} (ho:ops[i]?=some o) (hy:as[i]?=some y) (hni:¬ S i)
  (hr:∀ e∈o.after,Region.binds .any e=true->S e.on) {d:Nat} (hd:d∈y.reads):zo w F m (zu (sts B).H) (vr T (sts i) d) (a.tmps.getD d undef)/\(i<=B->∀ r∈refs (vr T (sts i) d),r<(sts i).H.length):=by
 have hlen:i<as.length:=(aF.1 hy).1
 by_cases hex:∃ (j:Nat) (x:zD),as[j]?=some x/\x.writes=some d
 ·obtain ⟨j,x,hx,hw⟩:=hex
  rcases Nat.lt_trichotomy j i with h|h|h
  ·
   have hp:=c.pair j i x y h hx hy
   have hap:zhs x y=false:=by simp [zhs,zdI hw hd]
   have hwt:JF ops i j=true:=by
    simp only [K4,hap,Bool.false_and,eB,aU] at hp
    exact hp.2
   have hSj:=zjo c hS ho hr hwt
   obtain ⟨k1,k2⟩:=D.wr j x d hSj hx hw
   rw [c.slot_written hx hw h (by omega)]
   refine ⟨k1,λ hiB r hq=>?_⟩
   have:=k2 r hq
   rw [d8 (by omega)] at this
   exact bJ this (D.le (by omega) hiB)
  ·subst h
   have hs:vr T (sts j) d=vr T (sts 0) d:=c.slot_same j (dM _) (by omega) λ k z _ h2 hz=>c.writes_ne (by omega) hx hz hw
   rw [hs]
   refine ⟨D.nw d λ k z hk hz=>?_,λ hiB r hq=>bJ (D.base d r hq) (D.le (dM _) hiB)⟩
   by_cases e:j=k
   ·subst e;exact absurd hk hni
   ·exact c.writes_ne e hx hz hw
  ·
   have hp:=c.pair i j y x h hy hx
   have hap:zhs y x=false:=by simp [zhs,zdI hw hd]
   have hwt:JF ops j i=true:=by
    simp only [K4,hap,Bool.false_and,eB,aU] at hp
    exact hp.2
   have hSj:¬ S j:=λ hSj=>by
    obtain ⟨oj,hoj⟩:=c.oper hx
    exact hni (zcs hS c.back hoj hSj hwt)
   have hs:vr T (sts i) d=vr T (sts 0) d:=c.slot_same i (dM _) (by omega) λ k z _ h2 hz=>c.writes_ne (by omega) hx hz hw
   rw [hs]
   refine ⟨D.nw d λ k z hk hz=>?_,λ hiB r hq=>bJ (D.base d r hq) (D.le (dM _) hiB)⟩
   by_cases e:j=k
   ·subst e;exact absurd hk hSj
   ·exact c.writes_ne e hx hz hw
 ·have hno:∀ (k:Nat) (z:zD),as[k]?=some z->z.writes≠some d:=λ k z hz hw=>hex ⟨k,z,hz,hw⟩
  have hs:vr T (sts i) d=vr T (sts 0) d:=c.slot_same i (dM _) (by omega) λ k z _ _ hz=>hno k z hz
  rw [hs]
  exact ⟨D.nw d λ k z _ hz=>hno k z hz,λ hiB r hq=>bJ (D.base d r hq) (D.le (dM _) hiB)⟩
theorem zj5 {y:zD} {x:zy} (h:x∈xq y.op):x∈y.opds:=by
 unfold zD.opds
 split
 ·exact h
 ·exact bL _ h
theorem zcS {y:zD} {x:zy} {d:Nat} (h:x∈y.opds) (hd:Vq x=some d):d∈y.reads:=List.mem_filterMap.2 ⟨x,h,hd⟩
theorem u_.opdRefs (c:Zh P G T nt C ops as sts ze) (D:u_ P G T nt as sts ze w0 F0 m0 H0 d0 S a w B F m) (hS:Kt ops S) {i:Nat} {o:Oper} {y:zD} (ho:ops[i]?=some o) (hy:as[i]?=some y) (hni:¬ S i)
  (hr:∀ e∈o.after,Region.binds .any e=true->S e.on) (hiB:i<=B) {x:zy} (hx:x∈y.opds):∀ r∈refs (x.get G (sts i)),r<(sts i).H.length:=by
 have hlen:i<as.length:=(aF.1 hy).1
 intro r hq
 have hsl:∀ d,Vq x=some d->r<(sts i).H.length:=λ d hd=>by
  rcases zy.get_slot (G:=G) (c.kokAt i (by omega)) hd with h|h
  ·rw [h] at hq
   exact (D.slotAt c hS ho hy hni hr (zcS hx hd)).2 hiB r hq
  ·rw [h] at hq;simp [refs] at hq
 cases x with
 |per n=>exact hsl n rfl
 |reg n=>exact hsl n rfl
 |const v=>
  have:=(c.bare i y hy).1 _ hx
  simp only [zhu,List.isEmpty_iff] at this
  simp only [zy.get,this] at hq;cases hq
 |glob g=>
  simp only [zy.get] at hq
  split at hq
  ·simp [refs] at hq
  ·simp [refs] at hq
theorem u_.before (c:Zh P G T nt C ops as sts ze) (D:u_ P G T nt as sts ze w0 F0 m0 H0 d0 S a w B F m) (hB:∀ y,as[B]?=some y->wy y.op=false) (hS:Kt ops S) {i:Nat} {o:Oper} {y:zD} (ho:ops[i]?=some o) (hy:as[i]?=some y)
  (hr:∀ e∈o.after,Region.binds .any e=true->S e.on) (hf:KW y=false):i<=B:=by
 rcases bS B i with h|h
 ·have hlen:i<as.length:=(aF.1 hy).1
  obtain ⟨z,hz⟩:=c.at_ (i:=B) (by omega)
  have hp:=c.pair B i z y h hz hy
  have hzq:=hB z hz
  simp only [K4,hzq,hf,eB,Bool.and_false,Bool.false_and,aU,d7,bG,or_false] at hp
  have:=D.out B z (aS _) hz (zjo c hS ho hr hp.2)
  rw [zfU this] at hzq;cases hzq
 ·exact h
theorem ztM {x y:zy} (h:zmW x y=true):x=y:=by
 cases x<;>cases y<;>simp only [zmW,bG] at h<;>rw [aT h]
theorem u_.loadSame (c:Zh P G T nt C ops as sts ze) (D:u_ P G T nt as sts ze w0 F0 m0 H0 d0 S a w B F m) (hS:Kt ops S) {i:Nat} {y:zD} (hy:as[i]?=some y) (hni:¬ S i) (hf:KW y=false) {x:zy} (hl:loadAt y.op=some x) {cs:List PV} (hc:cellsAt (sts i).H (x.get G (sts i))=some cs):
  ∀ k,i<=k->k<=B->cellsAt (sts k).H (x.get G (sts i))=some cs:=by
 intro k hk
 induction hk with
 |refl=>intro _;exact hc
 |step hk ih=>
  rename_i k
  have hik:i<=k:=hk
  intro hkB
  have ih:=ih (by omega)
  have hkl:k<as.length:=by have:=D.leB;omega
  obtain ⟨z,hz⟩:=c.at_ hkl
  cases hq:wy z.op with
  |true=>
   obtain ⟨⟨X,hX⟩,_⟩:=c.heap1 hz hq
   rw [hX];exact zei ih
  |false=>
   have hSk:=D.mutd k z (by omega) hz hq
   have hne:i≠k:=λ e=>by subst e;exact hni hSk
   have hnw:JF ops k i=false:=by
    cases hw:JF ops k i with
    |false=>rfl
    |true=>
     obtain ⟨oz,hoz⟩:=c.oper hz
     exact absurd (zcs hS c.back hoz hSk hw) hni
   have hp:=c.pair i k y z (by omega) hy hz
   simp only [K4,hnw,hq,hf,hl,Bool.false_or,aU] at hp
   obtain ⟨_,_,hcl,hnwr⟩:=hp
   have hget:x.get G (sts k)=x.get G (sts i):=by
    have hmid:∀ (j:Nat) (u:zD),i<=j->j<k->as[j]?=some u->∀ d,Vq x=some d->u.writes≠some d:=by
     intro j u h1 h2 hu d hd hw
     unfold zk1 at hnwr
     rw [hd] at hnwr
     simp only [List.all_cons,aU] at hnwr
     have hdf:zhx u.writes (some d)=true:=by
      rcases bS i j with h|h
      ·have hm:u∈(as.take k).drop (i+1):=by
        refine aJ (i:=j-(i+1)) ?_
        rw [cT,show i+1+(j-(i+1))=j by omega,bR,if_pos h2]
        exact hu
       exact aZ.1 hnwr.2 u hm
      ·have:i=j:=by omega
       subst this;rw [hy] at hu;injection hu with hu;subst hu;exact hnwr.1
     rw [hw] at hdf
     simp [zhx] at hdf
    cases hsl:Vq x with
    |none=>cases x<;>simp only [Vq] at hsl<;>first|rfl|cases hsl
    |some d=>
     have hss:=c.slot_same (d:=d) (i:=i) k hik (by omega) λ j u h1 h2 hu=>hmid j u h1 h2 hu d hsl
     have hk1:=c.kokAt k (by omega)
     have hk2:=c.kokAt i (by omega)
     have hper:T.K d=true->(sts k).per.get d=(sts i).per.get d:=λ hT=>by simpa [vr,hT] using hss
     have hreg:T.K d=false->(sts k).reg.get d=(sts i).reg.get d:=λ hT=>by simpa [vr,hT] using hss
     cases x<;>simp only [Vq,aC] at hsl<;>try (cases hsl;done)
     ·subst hsl
      simp only [zy.get]
      cases hT:T.K _ with
      |true=>exact hper hT
      |false=>rw [hk1.1 _ hT,hk2.1 _ hT]
     ·subst hsl
      simp only [zy.get]
      cases hT:T.K _ with
      |false=>exact hreg hT
      |true=>rw [hk1.2 _ hT,hk2.2 _ hT]
   rcases c.step k z hz with ⟨_,H,ed,hop,h⟩|⟨_,_,h⟩
   ·obtain ⟨hev,hok,_⟩:=Yp.1 hop
    rw [h,St.put_H]
    simp only
    simp only [XB,aU] at hok
    obtain ⟨x',hx',hsame⟩:=List.any_eq_true.1 hcl
    have:=ztM hsame
    subst this
    have hc2:=aZ.1 hok.2 _ hx'
    rw [hget] at hc2
    cases ht:Ye G (sts k) z.op with
    |none=>rw [ht] at hc2;simp [Wt] at hc2
    |some t=>
     rcases zrB hev ht with ⟨rfl,X,hX⟩|⟨id,rfl,hid⟩
     ·rw [hX];exact zei ih
     ·rw [<-ih]
      refine zoY λ j hj=>hid j λ e=>?_
      subst e
      rw [ht] at hc2
      generalize x.get G (sts i)=u at *
      cases u<;>simp only [Wt,bG] at hc2<;>simp [refs] at hj
      subst hj
      simp at hc2
   ·rw [h,St.put_H];exact ih
end
end
section
theorem zv7 {P:Program} {T:yh} {dst:Option Nat} {op:Op} {g:Bool} {sz:Nat} {x:zy} (h:UI P T dst op=some (.load g sz x)):∃ x0,z_ T x0=some x:=by
 cases op
 case load t a=>
  simp only [UI] at h
  split at h
  ·rename_i g' sz' y h1 h2 h3
   injection h with h
   injection h with _ _ h
   subst h
   exact ⟨a,h3⟩
  ·cases h
 all_goals
  exfalso
  simp only [UI,Zw] at h
  repeat' split at h
  all_goals first
   |(cases h;done)
   |(injection h with h;cases h;done)
   |(unfold zhU at h;split at h<;>first|(cases h;done)|(injection h with h;cases h;done))
   |(unfold zko at h;split at h<;>first|(cases h;done)|(injection h with h;cases h;done))
section
variable {P:Program} {G:Nat->Option (List PV)} {T:yh} {nt:Nat} {C:Cl} {ops:Array Oper} {as:List zD} {sts:Nat->St} {ze:Nat->PV} {w0:World} {F0:Nat->Prop} {m0:zR} {H0:zd} {d0:kF} {S:Nat->Prop} {a:Act} {w:World} {B:Nat} {F:Nat->Prop} {m:zR}
theorem zyF (hC:JG P G C) (c:Zh P G T nt C ops as sts ze) (h00:H0.length<=(sts 0).H.length) (D:u_ P G T nt as sts ze w0 F0 m0 H0 d0 S a w B F m) (hB:∀ y,as[B]?=some y->wy y.op=false) (hS:Kt ops S) {i:Nat} {o:Oper} {y:zD}
  (ho:ops[i]?=some o) (hy:as[i]?=some y) (hni:¬ S i) (hr:∀ e∈o.after,Region.binds .any e=true->S e.on) {K:Act->World->Prop} {Q:Exit->Act->World->Prop}
  (hK:∀ a1 w1 B1 F1 m1,u_ P G T nt as sts ze w0 F0 m0 H0 d0 (λ k=>S k\/k=i) a1 w1 B1 F1 m1->K a1 w1):wpOp P ops Q i K a w:=by
 have t:=c.tr i o y ho hy
 have hlen:i<as.length:=(aF.1 hy).1
 have hk:=c.kokAt i (by omega)
 have hsl:=λ d hd=>D.slotAt c hS ho hy hni hr (d:=d) hd
 have E:=zpL (H:=(sts B).H) zo.unk' D.size hk λ d hd=>(hsl d hd).1
 have hbef:KW y=false->i<=B:=D.before c hB hS ho hy hr
 have hout:B<i->KW y=true:=λ h=>by
  cases hf:KW y with
  |true=>rfl
  |false=>have:=hbef hf;omega
 have hcong:∀ (H:zd) {r:PV×zd×zI},zt G C { sts i with H:=H } y.op=some r->zt G C ((sts i).only y.reads H) y.op=some r:=λ H r h=>by
  rw [<-h]
  refine zkL (λ x hx=>?_) rfl
  rw [Yq]
  exact zpK λ d hd=>zcS (zj5 hx) hd
 have hguard:∀ {b:Bool},wanted G (sts i) y=some b->Region.wanted o (yielded ops a.tmps)=b:=λ hb=>by
  refine zjb (R:=zo w F m (zu (sts B).H)) t D.size (λ _ _=>bool_inv) (λ _=>und_inv) (λ d=>?_) hb
  by_cases hd:d∈y.reads
  ·left
   have:=(hsl d hd).1
   unfold vr at this
   cases hT:T.K d<;>rw [hT] at this<;>exact this
  ·right
   intro g w' hg e
   apply hd
   refine zcS (x:=g) (by unfold zD.opds;rw [hg];exact cM) ?_
   rw [e]
   cases T.K d<;>rfl
 unfold wpOp
 simp only [ho]
 rcases c.step i y hy with ⟨hw,H',ed,hop,hst⟩|⟨hw,hv0,hst⟩
 ·rw [hguard hw]
  simp only [if_true]
  refine .inl ?_
  obtain ⟨hev,hok,hres⟩:=Yp.1 hop
  have hH1:(sts (i+1)).H=H':=by rw [hst,St.put_H]
  have hed1:(sts (i+1)).ed=ed++(sts i).ed:=by rw [hst,St.put_ed]
  have mequal:∀ {w':World} {F':Nat->Prop} {m':zR} {HB:zd},yl G w' F' m' HB->wq w F m HB w' F' m' HB->m'=m:=by
   intro w' F' m' HB R' g
   funext id
   by_cases h:m id=.unk
   ·by_cases h2:m' id=.unk
    ·rw [h,h2]
    ·exact absurd (R'.fresh id (g.fresh id h h2)) h2
   ·exact (g.locs id h).2.2 rfl
  have whole:i≠B->zt G C { sts i with H:=(sts B).H } y.op=some (ze i,(sts B).H,[])->(i<B->∀ r∈refs (ze i),r<(sts (i+1)).H.length)->o.wp P a w K Q:=by
   intro hiB he hrf
   refine zc_ (st:=(sts i).only y.reads (sts B).H) hC D.rel E t.op (hcong _ he) K Q λ cv w' F' m' R' g hv _ _=>?_
   have hm:=mequal R' g
   subst hm
   refine hK _ _ B F' m' (D.done c ho hy hni (.inl ⟨rfl,hiB⟩) R' (D.grow.trans g) (λ p v h=>h.grow D.rel g) (aS _) D.fwd hv (λ r hr=>?_) hout (λ id h1 h2=>absurd h1 h2) λ id h1 h2=>absurd h1 h2)
   rcases bS i B with h|h
   ·rw [d8 (by omega)];exact hrf h r hr
   ·rw [Nat.min_eq_right (by omega)];exact R'.bnd hv r hr
  cases hf:KW y with
  |true=>
   have hq:=zfU hf
   have hiB:i≠B:=λ e=>by subst e;rw [hB y hy] at hq;cases hq
   have hle:i<B->(sts i).H.length<=(sts (i+1)).H.length:=D.mono i
   unfold KW at hf
   cases hn:zb8 y.op with
   |true=>
    refine whole hiB (ztn hn hev _).2.2 λ h r hr'=>?_
    obtain ⟨x,hx,hq⟩:=zrl hn (c.bare i y hy).2 hev r hr'
    exact bJ (D.opdRefs c hS ho hy hni hr (by omega) (zj5 hx) r hq) (hle h)
   |false=>
    rw [hn] at hf
    simp only [Bool.false_or,aU] at hf
    have hb:∀ x∈xq y.op,refs (x.get G (sts i))=[]:=by
     simp only [XB,hf.1,Bool.not_true,Bool.false_or,aU] at hok
     intro x hx
     simpa using aZ.1 hok.1 x hx
    have hr0:=hres hf.1
    refine whole hiB (zv1 hf.2 hb hev hr0 _).2.2 λ h r hr'=>?_
    rw [hr0] at hr';cases hr'
  |false=>
   have hiB:=hbef hf
   cases hq:wy y.op with
   |false=>
    have:i=B:=by
     rcases bS i B with h|h
     ·exact absurd (D.mutd i y h hy hq) hni
     ·omega
    subst this
    refine zc_ (st:=(sts i).only y.reads (sts i).H) hC D.rel E t.op (hcong _ hev) K Q λ cv w' F' m' R' g hv _ hfw=>?_
    have hg0:wq w F m (sts i).H w' F' m' H':=g
    rw [<-hH1] at R' hv hfw hg0
    refine hK _ _ (i+1) F' m' (D.done c ho hy hni (.inr ⟨rfl,rfl⟩) R' (D.grow.trans hg0) (λ p v h=>h.grow D.rel hg0) hg0.len (by rw [hed1];exact YQ.trans D.fwd hg0 hfw) hv (λ r hr=>?_) hout (λ id h1 h2=>⟨by omega,hg0.fresh id h1 h2,R'.lt_of_ne h2⟩) λ id h1 h2 k hk hid=>?_)
    ·rw [Nat.min_self];exact R'.bnd hv r hr
    ·have:=hg0.fresh id h1 h2
     have:=D.le (i:=k) (k:=i) hk (aS _)
     omega
   |true=>
    have hiB':i≠B:=λ e=>by subst e;rw [hB y hy] at hq;cases hq
    have hlt:i<B:=by omega
    cases hl:loadAt y.op with
    |some x=>
     have hop:∃ g sz,y.op=.load g sz x:=by
      cases hyo:y.op<;>rw [hyo] at hl<;>simp only [loadAt] at hl<;>try (cases hl;done)
      injection hl with hl
      subst hl
      exact ⟨_,_,rfl⟩
     obtain ⟨g,sz,hop⟩:=hop
     rw [hop] at hev
     simp only [zt] at hev
     split at hev
     ·rename_i cs hcs
      split at hev
      ·rename_i v hv
       simp only [aC,aG] at hev
       obtain ⟨hev1,_,_⟩:=hev
       have hsame:=D.loadSame c hS hy hni hf hl hcs B (by omega) (aS _)
       refine whole hiB' ?_ λ _ r hr'=>?_
       ·rw [hop]
        simp only [zt,Yq,hsame,hv,hev1]
       ·rw [<-hev1] at hr'
        obtain ⟨p,hp,hpr⟩:=zid hv r hr'
        have htr:=t.op
        rw [hop] at htr
        obtain ⟨x0,hx0⟩:=zv7 htr
        have hxv:=yg (st:=(sts i).only y.reads (sts B).H) D.rel E hx0
        have hxo:x∈y.opds:=zj5 (by rw [hop];simp [xq])
        rw [zpK λ d hd=>zcS hxo hd] at hxv
        have hrefs:=D.opdRefs c hS ho hy hni hr (by omega) hxo
        refine bJ ?_ (D.mono i hlt)
        generalize a.eval x0=cv0 at hxv
        generalize x.get G (sts i)=u at *
        cases u<;>simp only [cellsAt] at hcs<;>try (cases hcs;done)
        ·simp only [aC] at hcs
         subst hcs
         cases hxv with
         |froz _ _ hxv=>
          cases hxv with
          |fp _ blk o' off f _ _ _ hh=>
           obtain ⟨j,hj⟩:=cX (cV hp)
           rw [(hh j p hj).refs] at hpr;cases hpr
        ·rename_i id row off tot
         split at hcs
         ·rename_i s rows hH
          split at hcs
          ·rename_i cs' _ hrow
           simp only [aC] at hcs
           subst hcs
           exact D.bnd i (by omega) id _ r (hrefs id (by simp [refs])) (hxv.refs_ne id (by simp [refs])) hH (Yb.2 ⟨cs',aJ hrow,p,cV hp,hpr⟩)
          ·cases hcs
         ·cases hcs
      ·cases hev
     ·cases hev
    |none=>
     have hquiet:∀ k z,i<=k->k<B->as[k]?=some z->wy z.op=true:=by
      intro k z h1 h2 hz
      cases hzq:wy z.op with
      |true=>rfl
      |false=>
       have hSk:=D.mutd k z h2 hz hzq
       have hne:i≠k:=λ e=>by subst e;exact hni hSk
       have hp:=c.pair i k y z (by omega) hy hz
       simp only [K4,hzq,hf,hl,eB,Bool.and_false,Bool.false_or,aU] at hp
       obtain ⟨oz,hoz⟩:=c.oper hz
       exact absurd (zcs hS c.back hoz hSk hp.2) hni
     have hBl:=D.leB
     obtain ⟨X0,hX0⟩:=(c.heaps B (i:=i) (by omega) hBl hquiet).1
     obtain ⟨X1,hX1⟩:=(c.heaps B (i:=i+1) (by omega) hBl λ k z h1 h2 hz=>hquiet k z (by omega) h2 hz).1
     obtain ⟨⟨X2,hX2⟩,_⟩:=c.heap1 hy hq
     have htake:(sts B).H.take (sts i).H.length=(sts i).H:=by rw [hX0];simp
     have Rr:yl G w F (m.restr (sts i).H.length) (sts i).H:=by
      have:=D.rel.restr (sts i).H.length λ id b r h1 h2 h3 h4=>by
       rw [hX0,aD h1] at h3
       exact D.bnd i (by omega) id b r h1 h2 h3 h4
      rwa [htake] at this
     have Er:=zpL (T:=T) (nt:=nt) (R:=zo w F (m.restr (sts i).H.length) (zu (sts i).H)) (s:=sts i) (l:=y.reads) (H:=(sts i).H) (a:=a) zo.unk' D.size hk λ d hd=>by
      have:=(hsl d hd).1.restr (n:=(sts i).H.length) ((hsl d hd).2 (by omega))
      rwa [htake] at this
     refine zc_ (st:=(sts i).only y.reads (sts i).H) hC Rr Er t.op (hcong _ hev) K Q λ cv w' F' m1 R1 g1 hv hqq hfw=>?_
     have hg0:wq w F (m.restr (sts i).H.length) (sts i).H w' F' m1 H':=g1
     have hq0:Kw w (m.restr (sts i).H.length) (sts i).H w' m1 H':=hqq hq
     have hed0:ed=[]:=(znC hq hev).2
     have hfw0:YQ m1 (sts i).H H' ed:=hfw
     rw [<-hH1] at R1 hv hg0 hq0 hfw0
     obtain ⟨m2,R2,g2,k1,k2,k3,k4⟩:=yl.glue (n:=(sts i).H.length) D.grow (dI h00 (D.le (dM _) (by omega))) D.rel rfl ⟨X0,hX0⟩ ⟨X1,hX1⟩ ⟨X2,hX2⟩ (D.unex i hlt hni) R1 hg0 hq0
     refine hK _ _ B F' m2 (D.done c ho hy hni (.inl ⟨rfl,hiB'⟩) R2 g2 k2 (aS _) (λ id b r hm hb hrr hlt'=>?_) (k1 _ _ hv) (λ r hr=>?_) hout (λ id h1 h2=>⟨hlt,(k4 id h1 h2).1,(k4 id h1 h2).2.1⟩) λ id h1 h2 k hkB hid b r hb hrr=>?_)
     ·by_cases hmu:m id=.unk
      ·obtain ⟨e1,e2,e3⟩:=k4 id hmu hm
       rw [hX1,aD e2] at hb
       rcases hfw0 id b r e3 hb hrr hlt' with ⟨b0,h1,_⟩|h
       ·rw [bB e1] at h1;cases h1
       ·rw [hed0] at h;cases h
      ·exact D.fwd id b r hmu hb hrr hlt'
     ·rw [d8 (by omega)];exact R1.bnd hv r hr
     ·obtain ⟨e1,e2,e3⟩:=k4 id h1 h2
      have hik:i+1<=k:=by
       rcases bS i k with h|h
       ·exact h
       ·have:=D.le (i:=k) (k:=i) h (by omega);omega
      obtain ⟨Y,hY⟩:=(c.heaps k (i:=i+1) hik (by omega) λ j z q1 q2 hz=>hquiet j z (by omega) (by omega) hz).1
      rw [hY,aD e2] at hb
      have:=R1.block_lt hb e3 r hrr
      rw [hY];simp;omega
 ·rw [hguard hw]
  simp only [bG,if_false]
  have hH1:(sts (i+1)).H=(sts i).H:=by rw [hst,St.put_H]
  have hed1:(sts (i+1)).ed=(sts i).ed:=by rw [hst,St.put_ed]
  by_cases hiB:i=B
  ·subst hiB
   refine hK _ _ (i+1) F m (D.done c ho hy hni (.inr ⟨rfl,rfl⟩) (by rw [hH1];exact D.rel) (by rw [hH1];exact D.grow) (λ p v h=>by rw [hH1];exact h) (by rw [hH1];exact aS _) (by rw [hH1,hed1];exact D.fwd) (by rw [hv0];exact .froz _ _ .und) (λ r hr=>by rw [hv0] at hr;simp [refs] at hr) hout (λ id h1 h2=>absurd h1 h2) λ id h1 h2=>absurd h1 h2)
  ·refine hK _ _ B F m (D.done c ho hy hni (.inl ⟨rfl,hiB⟩) D.rel D.grow (λ p v h=>h) (aS _) D.fwd (by rw [hv0];exact .froz _ _ .und) (λ r hr=>by rw [hv0] at hr;simp [refs] at hr) hout (λ id h1 h2=>absurd h1 h2) λ id h1 h2=>absurd h1 h2)
end
end
section
def uw (listed:Array Bool) (i:Nat):Prop:=listed.getD i false=true
theorem ztd {listed:Array Bool} {i:Nat} (hi:i<listed.size) (k:Nat):uw (listed.setIfInBounds i true) k↔uw listed k\/k=i:=by
 unfold uw
 by_cases h:k=i
 ·subst h;simp [hi]
 ·simp [cU (Ne.symm h),h]
theorem count_set {listed:Array Bool} {i:Nat} (hi:i<listed.size) (h:¬ uw listed i):(listed.setIfInBounds i true).toList.count false+1=listed.toList.count false:=by
 have hf:listed.toList[i]'(by simpa using hi)=false:=by
  unfold uw at h
  simpa [hi] using h
 rw [Array.toList_setIfInBounds,List.count_set (by simpa using hi)]
 have:0<listed.toList.count false:=List.count_pos_iff.2 (by rw [<-hf];exact dA _)
 simp only [hf]
 simp
 have h3:0<Array.count false listed:=by simpa using this
 omega
section
variable {P:Program} {G:Nat->Option (List PV)} {T:yh} {nt:Nat} {C:Cl} {ops:Array Oper} {as:List zD} {sts:Nat->St} {ze:Nat->PV} {w0:World} {F0:Nat->Prop} {m0:zR} {H0:zd} {d0:kF}
theorem u_.congr {S S':Nat->Prop} {a:Act} {w:World} {B:Nat} {F:Nat->Prop} {m:zR} (D:u_ P G T nt as sts ze w0 F0 m0 H0 d0 S a w B F m) (h:∀ k,S k↔S' k):u_ P G T nt as sts ze w0 F0 m0 H0 d0 S' a w B F m:=by
 have:S=S':=funext λ k=>propext (h k)
 rw [<-this];exact D
theorem zue (hC:JG P G C) (c:Zh P G T nt C ops as sts ze) (h00:H0.length<=(sts 0).H.length) {Q:Exit->Act->World->Prop}
  (hQ:∀ a1 w1 F1 m1,vN G T nt w0 F0 m0 H0 d0 (sts as.length) a1 w1 F1 m1->Q .normal a1 w1):∀ (fuel:Nat) (listed:Array Bool) (a:Act) (w:World) (B:Nat) (F:Nat->Prop) (m:zR),listed.size=ops.size->listed.toList.count false=fuel->Kt ops (uw listed)->
   u_ P G T nt as sts ze w0 F0 m0 H0 d0 (uw listed) a w B F m->wpAny P .any ops Q fuel listed a w:=by
 intro fuel
 induction fuel with
 |zero=>
  intro listed a w B F m hsz hcnt hcl D
  have hall:∀ i,i<ops.size->uw listed i:=by
   intro i hi
   have:=List.count_eq_zero.1 hcnt
   have hm:listed[i]'(by omega)∈listed.toList:=by simp
   unfold uw
   simp only [cY,bV (show i<listed.size by omega),cR]
   cases hx:listed[i]'(by omega) with
   |true=>rfl
   |false=>rw [hx] at hm;exact absurd hm this
  refine ⟨?_,?_⟩
  ·cases hr:Region.ready .any ops listed with
   |nil=>rfl
   |cons i rs=>
    have hi:i∈Region.ready .any ops listed:=by rw [hr];exact cM
    obtain ⟨h1,o,ho,_⟩:=mem_ready.1 hi
    have hlt:i<ops.size:=(cO.1 ho).1
    have:=hall i hlt
    unfold uw at this
    have hl:i<listed.size:=by omega
    simp only [cY,bV hl,cR] at h1 this
    rw [h1] at this;cases this
  ·obtain ⟨B',D',hB'⟩:=D.advance c as.length (by omega)
   have hBn:B'=as.length:=by
    rcases bS B' as.length with h|h
    ·obtain ⟨y,hy⟩:=c.at_ h
     have hf:=D'.out B' y (aS _) hy (hall B' (by rw [<-c.len];exact h))
     have:=zfU hf
     rw [hB' y hy] at this;cases this
    ·have:=D'.leB;omega
   subst hBn
   refine hQ a w F m ⟨D'.rel,?_,D'.grow,D'.fwd,D'.defers⟩
   have hk:=c.kokAt as.length (aS _)
   have hs:∀ d,zo w F m (zu (sts as.length).H) (vr T (sts as.length) d) (a.tmps.getD d undef):=by
    intro d
    by_cases hex:∃ (j:Nat) (x:zD),as[j]?=some x/\x.writes=some d
    ·obtain ⟨j,x,hx,hw⟩:=hex
     have hj:j<as.length:=(aF.1 hx).1
     rw [c.slot_written hx hw hj (aS _)]
     exact (D'.wr j x d (hall j (by rw [<-c.len];exact hj)) hx hw).1
    ·have hno:∀ (k:Nat) (z:zD),as[k]?=some z->z.writes≠some d:=λ k z hz hw=>hex ⟨k,z,hz,hw⟩
     rw [c.slot_same (i:=0) as.length (dM _) (aS _) λ k z _ _ hz=>hno k z hz]
     exact D'.nw d λ k z _ hz=>hno k z hz
   refine ⟨D'.size,λ n=>?_,λ n=>?_,hk.1,hk.2⟩
   ·cases hT:T.K n with
    |true=>have:=hs n;unfold vr at this;rw [hT] at this;exact this
    |false=>rw [hk.1 n hT];exact zo.unk' _
   ·cases hT:T.K n with
    |false=>have:=hs n;unfold vr at this;rw [hT] at this;exact this
    |true=>rw [hk.2 n hT];exact zo.unk' _
 |succ fuel ih=>
  intro listed a w B F m hsz hcnt hcl D
  refine ⟨λ hr=>?_,λ i hi=>?_⟩
  ·
   exfalso
   have hex:∃ i,i<ops.size/\¬ uw listed i:=by
    have:0<listed.toList.count false:=by omega
    have hm:=List.count_pos_iff.1 this
    obtain ⟨i,hi,he⟩:=List.getElem_of_mem hm
    have hi':i<listed.size:=by simpa using hi
    refine ⟨i,by omega,?_⟩
    unfold uw
    have he':listed[i]=false:=by simpa using he
    simp [cY,bV hi',he']
   have key:∀ n i,i<n->i<ops.size->¬ uw listed i->False:=by
    intro n
    induction n with
    |zero=>intro i h;omega
    |succ n ihn=>
     intro i hin hi hni
     have ho:ops[i]?=some ops[i]:=bV hi
     have:i∈Region.ready .any ops listed:=mem_ready.2 ⟨by
      have hl:i<listed.size:=by omega
      unfold uw at hni
      simpa [cY,bV hl] using hni,_,ho,λ e he hb=>by
       have hlt:=c.back i _ ho e he hb
       exact cD λ hne=>ihn e.on (by omega) (by omega) hne⟩
     rw [hr] at this;cases this
   obtain ⟨i,h1,h2⟩:=hex
   exact key (i+1) i (by omega) h1 h2
  ·obtain ⟨h1,o,ho,h3⟩:=mem_ready.1 hi
   have hlt:i<ops.size:=(cO.1 ho).1
   have hl:i<listed.size:=by omega
   have hni:¬ uw listed i:=by
    unfold uw
    simp only [cY,bV hl,cR] at h1 ⊢
    rw [h1];simp
   obtain ⟨y,hy⟩:=c.at_ (i:=i) (by rw [c.len];exact hlt)
   obtain ⟨B',D',hB'⟩:=D.advance c as.length (by omega)
   refine zyF hC c h00 D' hB' hcl ho hy hni h3 λ a1 w1 B1 F1 m1 D1=>?_
   have hset:=ztd (listed:=listed) hl
   refine ih _ a1 w1 B1 F1 m1 (by simpa using hsz) (by have:=count_set hl hni;omega) (λ k ok hk hok e he hb=>?_) (D1.congr λ k=>(hset k).symm)
   rw [hset] at hk ⊢
   rcases hk with hk|rfl
   ·exact .inl (hcl k ok hk hok e he hb)
   ·rw [ho] at hok;injection hok with hok;subst hok
    exact .inl (h3 e he hb)
theorem zsJ (hC:JG P G C) {Q:Exit->Act->World->Prop} {st st':St} {a:Act} {w:World} {F:Nat->Prop} {m:zR} (hlen:as.length=ops.size) (ht:∀ (i:Nat) (o:Oper) (ao:zD),ops[i]?=some o->as[i]?=some ao->zbJ P T nt ops o ao) (hok:zf7 ops as=true)
  (he:vP G C as st=some st') (I:vN G T nt w0 F0 m0 H0 d0 st a w F m) (hQ:∀ a1 w1 F1 m1,vN G T nt w0 F0 m0 H0 d0 st' a1 w1 F1 m1->Q .normal a1 w1):
  wpAny P .any ops Q ops.size (Array.replicate ops.size false) a w:=by
 obtain ⟨sts,ze,e1,e2,e3⟩:=zi_ he
 simp only [zf7,aU] at hok
 obtain ⟨⟨h1,h2⟩,h3⟩:=hok
 have c:Zh P G T nt C ops as sts ze:=⟨hlen,ht,e3,λ j i x y hji hx hy=>by
  have:=ze2 (zjl h2 i y hy) j x hx (by omega)
  simpa [JF] using this,λ i o ho e he hb=>by
   have:=zep h1 i o (by simpa using ho) e he hb
   simpa using this,λ i y hy=>by
   have:=aZ.1 h3 y (aJ hy)
   simp only [aU] at this
   exact ⟨λ x hx=>aZ.1 this.1 x hx,this.2⟩,by rw [e1];exact ⟨I.env.perK,I.env.regK⟩⟩
 have hno:∀ k,¬ uw (Array.replicate ops.size false) k:=by
  intro k h
  unfold uw at h
  by_cases hk:k<ops.size<;>simp [hk] at h
 have hslot:∀ d,zo w F m (zu (sts 0).H) (vr T (sts 0) d) (a.tmps.getD d undef):=by
  intro d
  rw [e1]
  unfold vr
  cases T.K d
  ·exact I.env.reg d
  ·exact I.env.per d
 have hrel:yl G w F m (sts 0).H:=by rw [e1];exact I.rel
 have D0:u_ P G T nt as sts ze w0 F0 m0 H0 d0 (uw (Array.replicate ops.size false)) a w 0 F m:=
  ⟨dM _,λ k y h=>by omega,λ k y _ _ h=>absurd h (hno k),hrel,by rw [e1];exact I.grow,by rw [e1];exact I.fwd,I.defers,I.env.size,λ i h=>by omega,λ j h=>by omega,
   λ i hi id b r h1 h2 h3 h4=>by
    have:i=0:=by omega
    subst this
    exact hrel.block_lt h3 h2 r h4,λ j y d h=>absurd h (hno j),λ d _=>hslot d,λ d r hr=>hrel.bnd (hslot d) r hr⟩
 refine zue hC c (by rw [e1];exact I.grow.len) (λ a1 w1 F1 m1 I1=>hQ a1 w1 F1 m1 (by rw [<-e2];exact I1)) ops.size _ a w 0 F m (by simp) (by simp) (λ i o h=>absurd h (hno i)) D0
end
end
section
theorem Vu (T:yh) (g:Nat->Bool) (x:Operand):z_ { T with fix:=g } x=z_ T x:=by cases x<;>rfl
theorem zlC (T:yh) (g:Nat->Bool) (xs:List Operand):uZ { T with fix:=g } xs=uZ T xs:=by
 induction xs with
 |nil=>rfl
 |cons x xs ih=>simp only [uZ,Vu,ih]
theorem zrE (T:yh) (g:Nat->Bool) (p:Nat->Option (Nat×Nat)) (xs:List (Nat×Operand)):Xm { T with fix:=g } p xs=Xm T p xs:=by
 induction xs with
 |nil=>rfl
 |cons x xs ih=>obtain ⟨i,x⟩:=x;simp only [Xm,Vu,ih]
theorem ztY (T:yh) (g:Nat->Bool) (xs:List (Nat×Operand)):U0 { T with fix:=g } xs=U0 T xs:=by
 induction xs with
 |nil=>rfl
 |cons x xs ih=>obtain ⟨i,x⟩:=x;simp only [U0,Vu,ih]
theorem zrC (T:yh) (g:Nat->Bool) (x:Option Operand):Zd { T with fix:=g } x=Zd T x:=by
 cases x with
 |none=>rfl
 |some x=>simp only [Zd,Vu]
theorem zCj (T:yh) (g:Nat->Bool) (d:Option Nat):({ T with fix:=g }:yh).md d=T.md d:=rfl
theorem ztT (P:Program) (T:yh) (g:Nat->Bool) (d:Option Nat) (c:Call):Zw P { T with fix:=g } d c=Zw P T d c:=by
 unfold Zw
 simp only [Vu,zlC,zCj]
theorem zyL (P:Program) (T:yh) (g:Nat->Bool) (d:Option Nat) (o:Op):UI P { T with fix:=g } d o=UI P T d o:=by
 cases o<;>simp only [UI,Vu,zlC,zrE,ztY,zrC,ztT]
theorem ztX (P:Program) (T:yh) (g:Nat->Bool) (nt:Nat) (ops:Array Oper) (o:Oper) (h:∀ d,o.dst=some d->g d=T.fix d):Xl P { T with fix:=g } nt ops o=Xl P T nt ops o:=by
 unfold Xl
 simp only [zyL]
 cases hd:o.dst with
 |none=>rfl
 |some d=>
  have:=h d hd
  simp only [this]
  rfl
theorem zdP (P:Program) (T:yh) (g:Nat->Bool) (nt:Nat) (ops:Array Oper):∀ (os:List Oper),(∀ d∈os.filterMap (·.dst),g d=T.fix d)->wm P { T with fix:=g } nt ops os=wm P T nt ops os
 |[],_=>rfl
 |o::os,h=>by
  simp only [wm]
  rw [ztX P T g nt ops o λ d hd=>h d (List.mem_filterMap.2 ⟨o,cM,hd⟩),zdP P T g nt ops os λ d hd=>h d (by
   obtain ⟨o',ho,e⟩:=List.mem_filterMap.1 hd
   exact List.mem_filterMap.2 ⟨o',bL _ ho,e⟩)]
theorem VW {α:Type}:∀ {l p:List α} {x:α},Kj l=some (p,x)->l=p++[x]
 |[],_,_,h=>by cases h
 |y::ys,p,x,h=>by
  simp only [Kj] at h
  split at h
  ·rename_i l z hz
   simp only [aC,aG] at h
   obtain ⟨rfl,rfl⟩:=h
   rw [VW hz];rfl
  ·rename_i hz
   simp only [aC,aG] at h
   obtain ⟨rfl,rfl⟩:=h
   cases ys with
   |nil=>rfl
   |cons z zs=>
    simp only [Kj] at hz
    split at hz<;>cases hz
theorem zjn (T:yh) (g:Nat->Bool) (a b:Code) (h:∀ d∈wM a++wM b,g d=T.fix d):ZR { T with fix:=g } a b=ZR T a b:=by
 unfold ZR
 split
 ·rename_i ops1 out ops2 m out2 nxt ops3 code
  split
  ·rename_i pre it xT x ty po af n1 it1 ty1 po1 af1 m1 n2 ty2 po2 af2 pk it2 ty3 po3 af3 rest h1 h2 h3
   have e1:=VW h1
   simp only [wM] at h
   rw [e1,h2,h3] at h
   have k1:g it=T.fix it:=h it (by simp)
   have k2:g n1=T.fix n1:=h n1 (by simp)
   have k3:g m1=T.fix m1:=h m1 (by simp)
   have k4:g pk=T.fix pk:=h pk (by simp)
   simp only [k1,k2,k3,k4]
   rfl
  ·rfl
 ·rfl
structure ziB (T:yh) (a b:Code) (r:uq) (id1 id2 out:Nat) (ops1 ops2:Array Oper) (ro nxo exo eno:Oper) (xT:TypeId):Prop where
 a:a=.region id1 ops1 false
 b:b=.block out (.loop (.seq (.region id2 ops2 false) (.seq (.cond (.tmp r.more) .skip (.exit out)) (.block r.nxt (.seq (.region r.id3 r.ops3 false) r.code)))))
 o1:ops1.toList=r.pre++[ro]
 o2:ops2.toList=[nxo,exo]
 o3:r.ops3.toList=eno::r.rest
 ro:ro.dst=some r.it/\ro.op=.range xT (.tmp r.x)/\ro.guard=none
 nxo:nxo.dst=some r.nx/\nxo.op=.next (.tmp r.it) false/\nxo.guard=none
 exo:exo.dst=some r.more/\exo.op=.extract (.tmp r.nx) 0/\exo.guard=none
 eno:eno.dst=some r.pk/\eno.op=.entry (.tmp r.it)/\eno.guard=none
 kit:T.K r.it=false
 knx:T.K r.nx=false
 kmore:T.K r.more=false
 kpk:T.K r.pk=true
 kx:T.K r.x=true
 fit:T.fix r.it=false
 fnx:T.fix r.nx=false
 fmore:T.fix r.more=false
 fpk:T.fix r.pk=false
 apart:vf r.it (r.nx::r.more::r.pk::(r.rest.filterMap (·.dst)++wM r.code))=false
theorem zh5 {T:yh} {a b:Code} {r:uq} (h:ZR T a b=some r):∃ id1 id2 out ops1 ops2 ro nxo exo eno xT,ziB T a b r id1 id2 out ops1 ops2 ro nxo exo eno xT:=by
 unfold ZR at h
 split at h
 ·split at h
  ·rename_i h1 h2 h3
   split at h
   ·rename_i hb
    simp only [aU,Bool.not_eq_true'] at hb
    obtain ⟨⟨⟨⟨⟨⟨⟨⟨⟨⟨⟨⟨⟨⟨b1,b2⟩,b3⟩,b4⟩,b5⟩,b6⟩,b7⟩,b8⟩,b9⟩,b10⟩,b11⟩,b12⟩,b13⟩,b14⟩,b15⟩:=hb
    have b1:=aT b1
    have b2:=aT b2
    have b3:=aT b3
    have b4:=aT b4
    have b5:=aT b5
    injection h with h
    subst h
    subst b1;subst b2;subst b3;subst b4;subst b5
    exact ⟨_,_,_,_,_,_,_,_,_,_,rfl,rfl,VW h1,h2,h3,⟨rfl,rfl,rfl⟩,⟨rfl,rfl,rfl⟩,⟨rfl,rfl,rfl⟩,⟨rfl,rfl,rfl⟩,b6,b7,b8,b9,b10,b11,b12,b13,b14,b15⟩
   ·cases h
  ·cases h
 ·cases h
theorem zoa {T:yh} {a b:Code} {r:uq} (h:Vk T a b=some r):ZR T a b=some r/\ZR T (.region r.id3 r.ops3 false) r.code=none:=by
 unfold Vk at h
 split at h
 ·rename_i r' hr
  split at h
  ·rename_i hn;injection h with h;subst h;exact ⟨hr,hn⟩
  ·cases h
 ·cases h
theorem zpM (T:yh) (g:Nat->Bool) (a b:Code) (h:∀ d∈wM a++wM b,g d=T.fix d):Vk { T with fix:=g } a b=Vk T a b:=by
 unfold Vk
 rw [zjn T g a b h]
 cases hr:ZR T a b with
 |none=>rfl
 |some r=>
  obtain ⟨id1,id2,out,ops1,ops2,ro,nxo,exo,eno,xT,S⟩:=zh5 hr
  have:ZR { T with fix:=g } (.region r.id3 r.ops3 false) r.code=ZR T (.region r.id3 r.ops3 false) r.code:=zjn T g _ _ λ d hd=>h d (by
   rw [S.b]
   simp only [wM,aX] at hd ⊢
   rcases hd with hd|hd
   ·exact .inr (.inr (.inr (.inl hd)))
   ·exact .inr (.inr (.inr (.inr hd))))
  simp only [this]
theorem zrm (T:yh) (g:Nat->Bool) (a b:Code) (x y:AC) (h:∀ d∈wM a++wM b,g d=T.fix d):Zc { T with fix:=g } a b x y=Zc T a b x y:=by
 unfold Zc
 rw [zpM T g a b h]
theorem XE (P:Program) (T:yh) (g:Nat->Bool) (nt:Nat):∀ (c:Code),(∀ d∈wM c,g d=T.fix d)->y7 P { T with fix:=g } nt c=y7 P T nt c
 |.skip,_=>rfl
 |.exit _,_=>rfl
 |.ret,_=>rfl
 |.region _ ops dr,h=>by simp only [y7,zdP P T g nt ops ops.toList h]
 |.seq a b,h=>by
  have ha:=XE P T g nt a λ d hd=>h d (by simp only [wM];exact bQ _ hd)
  have hb:=XE P T g nt b λ d hd=>h d (by simp only [wM];exact cJ _ hd)
  simp only [y7,ha,hb]
  simp only [zrm T g a b _ _ h]
 |.cond c a b,h=>by
  have ha:=XE P T g nt a λ d hd=>h d (by simp only [wM];exact bQ _ hd)
  have hb:=XE P T g nt b λ d hd=>h d (by simp only [wM];exact cJ _ hd)
  simp only [y7,ha,hb,Vu]
  rfl
 |.block _ b,h=>by
  have hb:=XE P T g nt b h
  simp only [y7,hb]
 |.loop b,h=>by
  have hb:=XE P T g nt b h
  simp only [y7,hb]
 |.rangeFunc ..,_=>rfl
 |.scope _,_=>rfl
 |.label _,_=>rfl
 |.goto _,_=>rfl
 |.refuse _,_=>rfl
theorem zie {P:Program} {T:yh} {nt:Nat} {ops:Array Oper}:∀ {os:List Oper} {o:Oper} {as:List zD},wm P T nt ops (os++[o])=some as->∃ bs z,wm P T nt ops os=some bs/\Xl P T nt ops o=some z/\as=bs++[z]
 |[],o,as,h=>by
  simp only [aA,wm] at h
  split at h
  ·rename_i a as' h1 h2
   injection h2 with h2
   injection h with h
   subst h2;subst h
   exact ⟨[],a,rfl,h1,rfl⟩
  ·cases h
 |p::os,o,as,h=>by
  simp only [aB,wm] at h
  split at h
  ·rename_i a as' h1 h2
   injection h with h
   subst h
   obtain ⟨bs,z,k1,k2,rfl⟩:=zie h2
   exact ⟨a::bs,z,by simp only [wm,h1,k1],k2,rfl⟩
  ·cases h
section
variable {P:Program} {T:yh} {nt:Nat}
theorem zqc {i:Nat} {b:Code} {y:AC} (h:y7 P T nt (.block i b)=some y):∃ x,y7 P T nt b=some x/\y=.block i x:=by
 simp only [y7] at h
 split at h
 ·rename_i x hx;injection h with h;exact ⟨x,hx,h.symm⟩
 ·cases h
theorem zBb {b:Code} {y:AC} (h:y7 P T nt (.loop b)=some y):∃ x,y7 P T nt b=some x/\y=.loop x:=by
 simp only [y7] at h
 split at h
 ·rename_i x hx;injection h with h;exact ⟨x,hx,h.symm⟩
 ·cases h
theorem zqd {a b:Code} {y:AC} (h:y7 P T nt (.seq a b)=some y) (hn:∀ u v,Zc T a b u v=none):∃ u v,y7 P T nt a=some u/\y7 P T nt b=some v/\y=.seq u v:=by
 simp only [y7] at h
 split at h
 ·rename_i u v hu hv
  rw [hn u v] at h
  injection h with h
  exact ⟨u,v,hu,hv,h.symm⟩
 ·cases h
theorem znK {i:Nat} {ops:Array Oper} {y:AC} (h:y7 P T nt (.region i ops false)=some y):∃ as,wm P T nt ops ops.toList=some as/\y=.region false as:=by
 simp only [y7] at h
 split at h
 ·rename_i as has;injection h with h;exact ⟨as,has,h.symm⟩
 ·cases h
end
theorem zrD {P:Program} {T:yh} {nt:Nat} {ops:Array Oper} {a b:Oper} {as:List zD} (h:wm P T nt ops [a,b]=some as):∃ x y,Xl P T nt ops a=some x/\Xl P T nt ops b=some y:=by
 simp only [wm] at h
 split at h
 ·rename_i x as' h1 h2
  split at h2
  ·rename_i y as'' h3 h4
   exact ⟨x,y,h1,h3⟩
  ·cases h2
 ·cases h
theorem zde {P:Program} {T:yh} {nt:Nat} {ops:Array Oper} {o:Oper} {ao:zD} (h:Xl P T nt ops o=some ao) {d:Nat} (hd:o.dst=some d):d<nt:=by
 rcases (zaa h).dst with ⟨h1,_⟩|⟨d',h1,h2,_⟩
 ·rw [hd] at h1;cases h1
 ·rw [hd] at h1;injection h1 with h1;subst h1;exact h2
theorem zqb {P:Program} {T:yh} {nt:Nat} {ops:Array Oper} {o:Oper} {ao:zD} (h:Xl P T nt ops o=some ao) {t:TypeId} {x:Operand} (ho:o.op=.range t x):∃ k e,P.underlying t=some (.map k e):=by
 have h1:=(zaa h).op
 rw [ho] at h1
 simp only [UI] at h1
 split at h1
 ·rename_i k e hu;exact ⟨k,e,hu⟩
 ·cases h1
structure zfF (P:Program) (nt:Nat) (q:uq) (xT:TypeId):Prop where
 it:q.it<nt
 nx:q.nx<nt
 more:q.more<nt
 pk:q.pk<nt
 ty:∃ k e,P.underlying xT=some (.map k e)
theorem zrn {P:Program} {T:yh} {nt:Nat} {a b:Code} {x y r:AC} (hx:y7 P T nt a=some x) (hy:y7 P T nt b=some y) (hr:Zc T a b x y=some r):∃ q id1 id2 out ops1 ops2 ro nxo exo eno xT pas ras ab,ziB T a b q id1 id2 out ops1 ops2 ro nxo exo eno xT/\
  wm P T nt ops1 q.pre=some pas/\wm P T nt q.ops3 q.rest=some ras/\y7 P T nt q.code=some ab/\zfF P nt q xT/\r=.seq (.region false pas) (.mrange (.per q.x) q.W q.pk (.block q.nxt (.seq (.region false ras) ab))):=by
 unfold Zc at hr
 split at hr
 ·rename_i q dr as1 o2 l2 l3 o3 dr3 as3 ab hq
  obtain ⟨hq,hn3⟩:=zoa hq
  obtain ⟨id1,id2,out,ops1,ops2,ro,nxo,exo,eno,xT,S⟩:=zh5 hq
  split at hr
  ·rename_i pas z z3 ras h1
   ·injection hr with hr
    have ha:=S.a;have hb:=S.b
    subst ha;subst hb
    simp only [y7] at hx
    split at hx
    ·rename_i as1' hx1
     simp only [aC,AC.region.injEq] at hx
     obtain ⟨_,rfl⟩:=hx
     rw [S.o1] at hx1
     obtain ⟨bs,z',k1,k2,k3⟩:=zie hx1
     have e1:=VW h1
     rw [k3] at e1
     obtain ⟨e2,_⟩:=List.append_inj' e1 rfl
     subst e2
     obtain ⟨y1,g1,f1⟩:=zqc hy
     obtain ⟨y2,g2,f2⟩:=zBb g1
     obtain ⟨u1,y3,g3,g4,f3⟩:=zqd g2 λ u v=>rfl
     obtain ⟨u2,y4,g5,g6,f4⟩:=zqd g4 λ u v=>rfl
     obtain ⟨y5,g7,f5⟩:=zqc g6
     obtain ⟨u3,y6,g8,g9,f6⟩:=zqd g7 λ u v=>by unfold Zc Vk;rw [hn3]
     obtain ⟨as3',g10,f7⟩:=znK g8
     subst f7;subst f6;subst f5;subst f4;subst f3;subst f2
     simp only [AC.block.injEq,AC.loop.injEq,AC.seq.injEq,AC.region.injEq] at f1
     obtain ⟨_,_,_,_,⟨_,rfl⟩,rfl⟩:=f1
     rw [S.o3] at g10
     simp only [wm] at g10
     split at g10
     ·rename_i a' as' m1 m2
      injection g10 with g10
      injection g10 with _ g10
      subst g10
      obtain ⟨as2,n1,_⟩:=znK g3
      rw [S.o2] at n1
      obtain ⟨z1,z2,n2,n3⟩:=zrD n1
      exact ⟨q,id1,id2,out,ops1,ops2,ro,nxo,exo,eno,xT,bs,_,_,S,k1,m2,g9,⟨zde k2 S.ro.1,zde n2 S.nxo.1,zde n3 S.exo.1,zde m1 S.eno.1,zqb k2 S.ro.2.1⟩,hr.symm⟩
     ·cases g10
    ·cases hx
  ·cases hr
 ·cases hr
end
section
theorem zk.get_take (e:zk) (k n:Nat):zk.get (e.take k) n=e.get n\/zk.get (e.take k) n=.unk:=by
 induction e generalizing k with
 |nil=>left;simp
 |cons q e ih=>
  obtain ⟨j,x⟩:=q
  cases k with
  |zero=>right;rfl
  |succ k=>
   simp only [List.take_succ_cons,zk.get]
   cases Nat.beq j n
   ·exact ih k
   ·left;rfl
theorem zk.get_erase (e:zk) (k n:Nat):(e.erase k).get n=e.get n\/(e.erase k).get n=.unk:=by
 by_cases hk:k=n
 ·subst hk
  right
  induction e with
  |nil=>rfl
  |cons q e ih=>
   obtain ⟨j,x⟩:=q
   simp only [zk.erase]
   cases h:Nat.beq j k
   ·simp only [zk.get,h];exact ih
   ·exact ih
 ·left
  induction e with
  |nil=>rfl
  |cons q e ih=>
   obtain ⟨j,x⟩:=q
   simp only [zk.erase]
   cases h:Nat.beq j k
   ·simp only [zk.get];cases Nat.beq j n
    ·exact ih
    ·rfl
   ·have:j=k:=aT h
    subst this
    simp only [zk.get,zh3 hk];exact ih
theorem zk.mem_get {e:zk} {n:Nat} {v:PV} (h:e.get n=v):v=.unk\/v∈e.map (·.2):=by
 induction e with
 |nil=>left;exact h.symm
 |cons q e ih=>
  obtain ⟨j,x⟩:=q
  simp only [zk.get] at h
  cases hj:Nat.beq j n
  ·rw [hj] at h
   rcases ih h with h|h
   ·exact .inl h
   ·exact .inr (bL _ h)
  ·rw [hj] at h
   right;simp only at h;subst h;exact cM
section
variable {P:Program} {G:Nat->Option (List PV)} {T:yh} {nt:Nat} {w0:World} {F0:Nat->Prop} {m0:zR} {H0:zd} {d0:kF}
structure zze (G:Nat->Option (List PV)) (w0:World) (F0:Nat->Prop) (m0:zR) (H0:zd) (roots:List PV) (w:World) (F:Nat->Prop) (m:zR) (H H':zd) (ed:zI) (m':zR):Prop where
 rel:yl G w F m' H'
 grow:wq w0 F0 m0 H0 w F m' H'
 fwd:YQ m' H0 H' ed
 val:∀ p v,p∈roots->zo w F m (zu H) p v->zo w F m' (zu H') p v
theorem zxI {n:Nat} {l:List Nat} (h:bare n l=true):∀ r∈l,r<n:=λ r hr=>by
 have:=aZ.1 h r hr
 simpa using this
theorem zlD {st:St} {a:Act} {w:World} {F:Nat->Prop} {m:zR} (R0:yl G w0 F0 m0 H0) (I:vN G T nt w0 F0 m0 H0 d0 st a w F m) {n:Nat} (hn:H0.length<=n) (roots:List PV):
  ∃ m',zze G w0 F0 m0 H0 roots w F m st.H (trim n roots st.H st.ed).1 (trim n roots st.H st.ed).2 m':=by
 unfold trim
 split
 ·rename_i hb
  simp only [aU] at hb
  obtain ⟨hb1,hb2⟩:=hb
  have hed:∀ e∈st.ed,n<=e.1\/e.2<n:=λ e he=>by
   have:=aZ.1 hb2 e he
   simpa using this
  have hc:∀ id b r,id<n->m id≠.unk->st.H[id]?=some b->r∈ZC b->r<n:=by
   intro id b r hid hm hb hr
   by_cases hlt:id<r
   ·rcases I.fwd id b r hm hb hr hlt with ⟨b0,h1,h2⟩|h
    ·have h0:id<H0.length:=(aF.1 h1).1
     have hm0:m0 id≠.unk:=λ h=>by have:=I.grow.fresh id h hm;omega
     have:=R0.block_lt h1 hm0 r h2
     omega
    ·rcases hed _ h with h|h
     ·simp only at h;omega
     ·exact h
   ·omega
  refine ⟨m.restr n,I.rel.restr n hc,?_,?_,λ p v hp hv=>hv.restr λ r hr=>zxI hb1 r (wU.2 ⟨p,hp,hr⟩)⟩
  ·have g:=I.grow
   refine ⟨g.heap,g.sub,g.new,g.old,λ id hid=>?_,λ b ⟨id,o,c,s,h⟩=>?_,g.os,g.tape,g.output,g.froz,?_,λ id h1 h2=>?_⟩
   ·have hl:id<n:=bJ (R0.lt_of_ne hid) hn
    obtain ⟨k1,k2,k3⟩:=g.locs id hid
    rw [zR.restr_lt m hl,znx _ hl]
    exact ⟨k1,k2,k3⟩
   ·have k1:=zR.restr_ne (m:=m) (n:=n) (id:=id) (by rw [h];simp)
    exact g.img b ⟨id,o,c,s,k1.2.2▸h⟩
   ·have:=g.len;simp only [dG];omega
   ·exact g.fresh id h1 (zR.restr_ne h2).2.1
  ·intro id b r hm hb hr hlt
   obtain ⟨k1,k2,k3⟩:=zR.restr_ne hm
   simp only at hb
   rw [bR,if_pos k1] at hb
   rcases I.fwd id b r k2 hb hr hlt with h|h
   ·exact .inl h
   ·exact .inr (List.mem_filter.2 ⟨h,by simpa using hc id b r k1 k2 hb hr⟩)
 ·exact ⟨m,I.rel,I.grow,I.fwd,λ _ _ _ h=>h⟩
theorem ztm {st st0:St} {a:Act} {w:World} {F:Nat->Prop} {m:zR} (R0:yl G w0 F0 m0 H0) (I:vN G T nt w0 F0 m0 H0 d0 st a w F m) (hn:H0.length<=st0.H.length):∃ m',vN G T nt w0 F0 m0 H0 d0 (st0.next st) a w F m':=by
 obtain ⟨m',t⟩:=zlD R0 I hn ((st.per.take st0.per.length).map (·.2))
 refine ⟨m',t.rel,⟨I.env.size,λ n=>?_,λ n=>zo.unk' _,λ n hk=>?_,λ n _=>rfl⟩,t.grow,t.fwd,I.defers⟩
 ·show zo w F m' _ (zk.get (st.per.take st0.per.length) n) _
  rcases zk.mem_get (e:=st.per.take st0.per.length) (n:=n) rfl with h|h
  ·rw [h];exact zo.unk' _
  ·refine t.val _ _ h ?_
   rcases zk.get_take st.per st0.per.length n with h|h
   ·rw [h];exact I.env.per n
   ·rw [h];exact zo.unk' _
 ·show zk.get (st.per.take st0.per.length) n=_
  rcases zk.get_take st.per st0.per.length n with h|h
  ·rw [h];exact I.env.perK n hk
  ·exact h
theorem zkQ {gone:Bool} {c:zy} {st:St} {a:Act} {w:World} {F:Nat->Prop} {m:zR} (I:vN G T nt w0 F0 m0 H0 d0 st a w F m):vN G T nt w0 F0 m0 H0 d0 (jE gone c st) a w F m:=by
 unfold jE
 split
 ·split
  ·rename_i k
   refine ⟨I.rel,⟨I.env.size,λ n=>?_,I.env.reg,λ n hk=>?_,I.env.regK⟩,I.grow,I.fwd,I.defers⟩
   ·show zo w F m _ ((st.per.erase k).get n) _
    rcases zk.get_erase st.per k n with h|h
    ·rw [h];exact I.env.per n
    ·rw [h];exact zo.unk' _
   ·show (st.per.erase k).get n=_
    rcases zk.get_erase st.per k n with h|h
    ·rw [h];exact I.env.perK n hk
    ·exact h
  ·exact I
 ·exact I
def zp.up:zp->Exit
 |.normal=>.normal
 |.exit id=>.exit id
 |.ret=>.ret
theorem vN.clear {st:St} {a:Act} {w:World} {F:Nat->Prop} {m:zR} (I:vN G T nt w0 F0 m0 H0 d0 st a w F m):vN G T nt w0 F0 m0 H0 d0 { st with reg:=[] } a w F m:=
 ⟨I.rel,I.env.clear zo.unk',I.grow,I.fwd,I.defers⟩
theorem zec {ms:List Nat} {as:List zD}:∀ {i:Nat} {ys:List zD},(jz ms as i ys).length=ys.length/\∀ (k:Nat) (y:zD),(jz ms as i ys)[k]?=some y->∃ x,ys[k]?=some x/\y.op=x.op/\y.dst=x.dst/\y.guard=x.guard
 |i,[]=>by simp [jz]
 |i,y::ys=>by
  obtain ⟨h1,h2⟩:=zec (ms:=ms) (as:=as) (i:=i+1) (ys:=ys)
  refine ⟨by simp [jz,h1],λ k z hk=>?_⟩
  cases k with
  |zero=>simp only [jz,bW,aC] at hk;subst hk;exact ⟨y,rfl,rfl,rfl,rfl⟩
  |succ k=>exact h2 k z (by simpa [jz] using hk)
def X7 (P:Program) (A:xn) (n:Nat):Prop:=
 ∀ (c:Code) (ac:AC) (st st':St) (ae:zp) (T:yh) (nt:Nat),y7 P T nt c=some ac->ev A n ac st=some (ae,st')->
  ∀ (w0:World) (F0:Nat->Prop) (m0:zR) (H0:zd) (d0:kF) (a:Act) (w:World) (F:Nat->Prop) (m:zR),yl A.glob w0 F0 m0 H0->vN A.glob T nt w0 F0 m0 H0 d0 st a w F m->
   ∀ Q:Exit->Act->World->Prop,(∀ a1 w1 F1 m1,vN A.glob T nt w0 F0 m0 H0 d0 st' a1 w1 F1 m1->Q ae.up a1 w1)->c.wp P Q a w
def zkj (P:Program) (A:xn) (n:Nat):Prop:=
 ∀ (c:Code) (ac:AC) (st st':St) (ae:zp) (T:yh) (nt:Nat),y7 P T nt c=some ac->ev A n (.loop ac) st=some (ae,st')->
  ∀ (w0:World) (F0:Nat->Prop) (m0:zR) (H0:zd) (d0:kF) (a:Act) (w:World) (F:Nat->Prop) (m:zR),yl A.glob w0 F0 m0 H0->vN A.glob T nt w0 F0 m0 H0 d0 st a w F m->
   ∀ Q:Exit->Act->World->Prop,(∀ a1 w1 F1 m1,vN A.glob T nt w0 F0 m0 H0 d0 st' a1 w1 F1 m1->Q ae.up a1 w1)->Code.rounds P c Q n a w
theorem zvr {A:xn} {n:Nat} (hc:X7 P A n) (hl:zkj P A n):zkj P A (n+1):=by
 intro c ac st st' ae T nt ht he w0 F0 m0 H0 d0 a w F m R0 I Q hQ
 rw [zes] at he
 rw [rounds_succ]
 cases hb:ev A n ac st with
 |none=>simp [hb] at he
 |some x=>
  obtain ⟨e,st1⟩:=x
  refine hc c ac st st1 e T nt ht hb w0 F0 m0 H0 d0 a w F m R0 I _ λ a1 w1 F1 m1 I1=>?_
  rw [hb] at he
  cases e with
  |normal=>
   obtain ⟨m2,I2⟩:=ztm (st0:=st) R0 I1 I.grow.len
   exact hl c ac _ st' ae T nt ht he w0 F0 m0 H0 d0 a1 w1 F1 m2 R0 I2 Q hQ
  |exit id=>simp only [aC,aG] at he;obtain ⟨rfl,rfl⟩:=he;exact hQ a1 w1 F1 m1 I1
  |ret=>simp only [aC,aG] at he;obtain ⟨rfl,rfl⟩:=he;exact hQ a1 w1 F1 m1 I1
end
end
end Go.Av
end
section
namespace Go.Av
open Go
open Go.ChangeMaps (setBlock)
section
theorem znB {w w':World} {F F':Nat->Prop} {m m':zR} {L L':Nat->Nat} {p:PV} {v:Value} (hp:QP p=true) (h:zo w F m L p v):zo w' F' m' L' p v:=by
 cases h with
 |froz _ _ h=>cases h<;>first|(simp [QP] at hp;done)|(exact .froz _ _ (by constructor))
 |_=>simp [QP] at hp
theorem zk.get_mapk (f:Nat->PV->PV) (e:zk) (n:Nat):zk.get (e.map λ p=>(p.1,f p.1 p.2)) n=.unk/\e.get n=.unk\/zk.get (e.map λ p=>(p.1,f p.1 p.2)) n=f n (e.get n):=by
 induction e with
 |nil=>exact .inl ⟨rfl,rfl⟩
 |cons q e ih=>
  obtain ⟨j,x⟩:=q
  simp only [aM,zk.get]
  cases h:Nat.beq j n
  ·exact ih
  ·right
   have:=aT h
   subst this;rfl
theorem zk.get_frz (H:zd) (e:zk) (n:Nat):zk.get (e.map λ p=>(p.1,frz 8 H p.2)) n=frz 8 H (e.get n):=by
 rcases zk.get_mapk (λ _ v=>frz 8 H v) e n with ⟨h1,h2⟩|h
 ·rw [h1,h2];rfl
 ·exact h
theorem zkY {es:Array MapEntry} {seen:Array Nat} {e:MapEntry}:e∈(leftOf es seen).toList↔e∈es.toList/\e.born∉seen.toList:=by
 simp [leftOf]
theorem zrd {es:Array MapEntry} {seen:Array Nat} {e:MapEntry} (h:e∈(leftOf es seen).toList):(leftOf es (seen.push e.born)).size<(leftOf es seen).size:=by
 have h1:(leftOf es (seen.push e.born)).toList=(leftOf es seen).toList.filter λ x=> !(x.born==e.born):=by
  simp only [leftOf,Array.toList_filter,List.filter_filter]
  congr 1
  funext x
  simp only [Array.contains_eq_any_beq,Array.any_push]
  cases hc:(seen.any λ y=>x.born==y)<;>simp [Bool.and_comm]
 have h2:(leftOf es (seen.push e.born)).toList.length<(leftOf es seen).toList.length:=by
  rw [h1]
  exact List.length_filter_lt_length_iff_exists.2 ⟨e,h,by simp⟩
 simpa using h2
theorem zvg (es:Array MapEntry) (seen:Array Nat):(leftOf es seen).size<=es.size:=by
 simpa [leftOf] using Array.size_filter_le (p:=λ e:MapEntry=> !seen.contains e.born) (xs:=es)
theorem zhI (w:World) (m:Option Nat) (s:Nat) (seen:Array Nat) (c:Nat) (a:Addr):(w.alloc (.mapIter m s seen c)).frozen? a=w.frozen? a:=by
 by_cases h:a.block=w.heap.size
 ·have e1:(w.alloc (.mapIter m s seen c)).heap[a.block]?=some (.mapIter m s seen c):=by show (w.heap.push _)[_]?=_;rw [h];simp
  have e2:w.heap[a.block]?=none:=by rw [h];simp
  simp [World.frozen?,e1,e2]
 ·exact zbo a (by show (w.heap.push _)[_]?=_;simp [dJ,h])
theorem zev (w:World) (g:Nat) (m m':Option Nat) (s s':Nat) (seen seen':Array Nat) (c c':Nat) (hg:w.heap[g]?=some (.mapIter m s seen c)) (a:Addr):(setBlock w g (.mapIter m' s' seen' c')).frozen? a=w.frozen? a:=by
 by_cases h:a.block=g
 ·subst h
  have hlt:=(cO.1 hg).1
  have e1:(setBlock w a.block (.mapIter m' s' seen' c')).heap[a.block]?=some (.mapIter m' s' seen' c'):=by simp [setBlock,hlt]
  simp [World.frozen?,e1,hg]
 ·exact zbo a (cU (Ne.symm h))
structure ZG (w w':World):Prop where
 size:w.heap.size<=w'.heap.size
 heap:∀ b,b<w.heap.size->w'.heap[b]?=w.heap[b]?
 os:w'.os=w.os/\w'.tape=w.tape/\w'.output=w.output/\∀ a,w'.frozen? a=w.frozen? a
theorem ZG.refl (w:World):ZG w w:=⟨aS _,λ _ _=>rfl,rfl,rfl,rfl,λ _=>rfl⟩
theorem ZG.trans {a b c:World} (h:ZG a b) (k:ZG b c):ZG a c:=
 ⟨dI h.size k.size,λ x hx=>(k.heap x (bJ hx h.size)).trans (h.heap x hx),k.os.1.trans h.os.1,k.os.2.1.trans h.os.2.1,k.os.2.2.1.trans h.os.2.2.1,λ x=>(k.os.2.2.2 x).trans (h.os.2.2.2 x)⟩
theorem ZG.alloc_iter (w:World) (m:Option Nat) (s:Nat) (seen:Array Nat) (c:Nat):ZG w (w.alloc (.mapIter m s seen c)):=
 ⟨by show _<=(w.heap.push _).size;simp,λ b hb=>by show (w.heap.push _)[b]?=_;simp [dJ,Nat.ne_of_lt hb],rfl,rfl,rfl,zhI w m s seen c⟩
theorem ZG.drew (w:World):ZG w w.drew:=⟨aS _,λ _ _=>rfl,rfl,rfl,rfl,λ _=>rfl⟩
theorem ZG.step {w w':World} (h:ZG w w') {r:Nat} (hr:w.heap.size<=r) {m:Option Nat} {s:Nat} {seen:Array Nat} {c:Nat} (hg:w'.heap[r]?=some (.mapIter m s seen c)) (seen':Array Nat) (c':Nat):ZG w (setBlock w' r (.mapIter m s seen' c')):=
 ⟨by show _<=(w'.heap.setIfInBounds _ _).size;simpa using h.size,λ b hb=>by
  show (w'.heap.setIfInBounds r _)[b]?=_
  rw [cU (by omega)]
  exact h.heap b hb,h.os.1,h.os.2.1,h.os.2.2.1,λ a=>(zev w' r m m s s seen seen' c c' hg a).trans (h.os.2.2.2 a)⟩
theorem Kl {P:Program} {ops:Array Oper} {Q:Exit->Act->World->Prop} {i:Nat} {rest:List Nat} {o:Oper} {a:Act} {w w':World} {v:Value} (ho:ops[i]?=some o) (hg:o.guard=none) (hr:(execOp a.eval o).run P w=.ok (.value v) w')
  (h:wpOps P ops Q rest (a.put o.dst v) w'):wpOps P ops Q (i::rest) a w:=by
 simp only [wpOps,ho]
 have:Region.wanted o (yielded ops a.tmps)=true:=by simp [Region.wanted,hg]
 rw [if_pos this]
 left
 unfold Oper.wp
 rw [hr]
 exact h
section
variable {P:Program} {G:Nat->Option (List PV)} {T:yh} {nt:Nat} {w0:World} {F0:Nat->Prop} {m0:zR} {H0:zd} {d0:kF}
theorem QG {a:Act} {d n:Nat} {v:Value} (h:d<a.tmps.size):(a.put (some d) v).tmps.getD n undef=if n=d then v else a.tmps.getD n undef:=zjW a.tmps d n v h
theorem vX.putU {R:PV->Value->Prop} {st:St} {a:Act} (E:vX T nt R st a) (hU:∀ x,R .unk x) {d:Nat} (hd:d<nt) (hk:T.K d=false) (hreg:st.reg=[]) (v:Value):vX T nt R st (a.put (some d) v):=by
 have hs:=E.size
 refine ⟨by simp [Act.put,hs],λ n=>?_,λ n=>by rw [hreg];exact hU _,E.perK,E.regK⟩
 rw [QG (by omega)]
 split
 ·rename_i e;subst e;rw [E.perK n hk];exact hU _
 ·exact E.per n
structure zdJ (T:yh) (nt:Nat) (d0:kF) (F:Nat->Prop) (m:zR) (s:St) (q:uq) (blk clock:Nat) (w1:World) (seen:Array Nat) (a:Act) (w:World):Prop where
 past:ZG w1 w
 lt:w1.heap.size<w.heap.size
 iter:w.heap[w1.heap.size]?=some (.mapIter (some blk) clock seen clock)
 env:vX T nt (zo w1 F m (zu s.H)) s a
 st:KR T d0 a
 itv:a.tmps.getD q.it undef=.pointer (some ⟨w1.heap.size,0,none⟩)
theorem zdJ.back {A:xn} {s:St} {q:uq} {blk clock:Nat} {w1:World} {F:Nat->Prop} {m:zR} {a1:Act} (I:vN A.glob T nt w0 F0 m0 H0 d0 s a1 w1 F m) {seen:Array Nat} {a:Act} {w:World} (h:zdJ T nt d0 F m s q blk clock w1 seen a w):vN A.glob T nt w0 F0 m0 H0 d0 s a w F m:=by
 obtain ⟨R1,g1,_⟩:=I.rel.world (w':=w) (F':=F) h.past.size h.past.heap h.past.os (λ _ h=>h) (λ _ h=>.inl h) λ b hb=>bJ (I.rel.ltF b hb) h.past.size
 exact ⟨R1,h.env.mono λ p v k=>k.grow I.rel g1,I.grow.trans g1,I.fwd,h.st⟩
theorem yl.own {w:World} {F:Nat->Prop} {m:zR} {H:zd} (R:yl G w F m H) {w':World} (h:ZG w w'):yl G w' (λ b=>F b\/m.has b) (λ _=>.unk) []:=
 ⟨λ id s rows h=>by simp at h,λ id es h=>by simp at h,λ _ _=>rfl,λ id id' b o c s o' c' s' h1 _=>(by cases h1),λ b hb=>(by obtain ⟨_,_,_,_,h⟩:=hb;cases h),λ b hb=>bJ (hb.elim (R.ltF b) (R.lt b)) h.size,λ b hb _=>(by obtain ⟨_,_,_,_,h⟩:=hb;cases h),
  λ g cs hg=>(R.glob g cs hg).mono (λ b hb=>h.heap b (R.ltF b hb)) λ _ h=>.inl h⟩
theorem X7.le {A:xn} {n k:Nat} (h:X7 P A n) (hk:k<=n):X7 P A k:=λ c ac st st' ae T nt ht he=>h c ac st st' ae T nt ht (zcK hk he)
structure ziy (T:yh) (nt:Nat) (d0:kF) (F:Nat->Prop) (m:zR) (s:St) (q:uq) (blk clock:Nat) (w1:World) (seen:Array Nat) (s2:St) (a:Act) (w:World):Prop where
 past:ZG w1 w
 lt:w1.heap.size<w.heap.size
 iter:w.heap[w1.heap.size]?=some (.mapIter (some blk) clock seen clock)
 size:a.tmps.size=nt
 out:∀ n,vf n q.W=false->zo w1 F m (zu s.H) (s.per.get n) (a.tmps.getD n undef)
 in_:∀ n,QP (s2.per.get n)=true->zo w1 F m (zu s.H) (s2.per.get n) (a.tmps.getD n undef)
 keep:∀ n,T.K n=false->s2.per.get n=.unk
 st:KR T d0 a
 itv:a.tmps.getD q.it undef=.pointer (some ⟨w1.heap.size,0,none⟩)
section
variable {F:Nat->Prop} {m:zR} {s:St} {q:uq} {blk clock:Nat} {w1:World} {seen:Array Nat} {a:Act} {w:World}
theorem ziy.pass {s2:St} (h:ziy T nt d0 F m s q blk clock w1 seen s2 a w) (hK:∀ n,T.K n=false->s.per.get n=.unk) (hreg:s.reg=[]) (hp:∀ d∈q.W,s.per.get d=.unk\/(QP (s.per.get d)=true/\s2.per.get d=s.per.get d)):zdJ T nt d0 F m s q blk clock w1 seen a w:=by
 refine ⟨h.past,h.lt,h.iter,⟨h.size,λ n=>?_,λ n=>by rw [hreg];exact zo.unk' _,hK,λ n _=>by rw [hreg];rfl⟩,h.st,h.itv⟩
 cases hn:vf n q.W with
 |false=>exact h.out n hn
 |true=>
  rcases hp n (uD.1 hn) with e|⟨e1,e2⟩
  ·rw [e];exact zo.unk' _
  ·have:=h.in_ n (by rw [e2];exact e1)
   rwa [e2] at this
theorem ziy.left {A:xn} {a1:Act} (I:vN A.glob T nt w0 F0 m0 H0 d0 s a1 w1 F m) {s2:St} (h:ziy T nt d0 F m s q blk clock w1 seen s2 a w):vN A.glob T nt w0 F0 m0 H0 d0 (zey q.W s s2) a w F m:=by
 obtain ⟨R1,g1,_⟩:=I.rel.world (w':=w) (F':=F) h.past.size h.past.heap h.past.os (λ _ h=>h) (λ _ h=>.inl h) λ b hb=>bJ (I.rel.ltF b hb) h.past.size
 have hW:∀ n,q.W.any (Nat.beq n)=vf n q.W:=λ n=>rfl
 refine ⟨R1,⟨h.size,λ n=>?_,λ n=>zo.unk' _,λ n hn=>?_,λ n _=>rfl⟩,I.grow.trans g1,I.fwd,h.st⟩
 ·show zo w F m (zu s.H) (zk.get (s.per.map λ p=>(p.1,Ki q.W s2 p.1 p.2)) n) _
  rcases zk.get_mapk (Ki q.W s2) s.per n with ⟨e,_⟩|e
  ·rw [e];exact zo.unk' _
  ·rw [e]
   unfold Ki
   rw [hW]
   split
   ·split
    ·rename_i hp;exact znB hp (h.in_ n hp)
    ·exact zo.unk' _
   ·rename_i hn;exact (h.out n hn).grow I.rel g1
 ·show zk.get (s.per.map λ p=>(p.1,Ki q.W s2 p.1 p.2)) n=.unk
  rcases zk.get_mapk (Ki q.W s2) s.per n with ⟨e,_⟩|e
  ·exact e
  ·rw [e]
   unfold Ki
   rw [h.keep n hn,I.env.perK n hn]
   split<;>rfl
theorem ztx {A:xn} {n:Nat} (hcl:JG P A.glob ⟨Z7 A n,Z8 A n⟩) (hc:X7 P A n) {ca cb:Code} {id1 id2 out:Nat} {ops1 ops2:Array Oper} {ro nxo exo eno:Oper} {xT:TypeId} (S:ziB T ca cb q id1 id2 out ops1 ops2 ro nxo exo eno xT) (sl:zfF P nt q xT)
  {ras:List zD} {ab:AC} (hras:wm P T nt q.ops3 q.rest=some ras) (hab:y7 P T nt q.code=some ab) {a1:Act} (I:vN A.glob T nt w0 F0 m0 H0 d0 s a1 w1 F m) {es:List (PV×PV)} {xs:List MapEntry} (hblk:w1.heap[blk]?=some (.map xs.toArray clock))
  (hk:∀ (i:Nat) (e:PV×PV) (x:MapEntry),es[i]?=some e->xs[i]?=some x->zo w1 F m (zu s.H) e.1 x.key) (hv:∀ (i:Nat) (e:PV×PV) (x:MapEntry),es[i]?=some e->xs[i]?=some x->zo w1 F m (zu s.H) e.2 x.val) (hn:(xs.map (·.born)).Nodup)
  {i:Nat} {e:PV×PV} {x:MapEntry} (h1:es[i]?=some e) (h2:xs[i]?=some x) (r:zdJ T nt d0 F m s q blk clock w1 (seen.push x.born) a w) {k:Nat} (hkn:k<=n) {ae:zp} {s2:St} (he:ev A k (.block q.nxt (.seq (.region false ras) ab)) (vc q.pk s e)=some (ae,s2))
  (Q:Exit->Act->World->Prop) (hQ:∀ a4 w4,ziy T nt d0 F m s q blk clock w1 (seen.push x.born) s2 a4 w4->Q ae.up a4 w4):(Code.block q.nxt (.seq (.region q.id3 q.ops3 false) q.code)).wp P Q a w:=by
 have hbl:blk<w1.heap.size:=(cO.1 hblk).1
 have hpk:q.pk<a.tmps.size:=by rw [r.env.size];exact sl.pk
 have hap:=S.apart
 have hit:∀ d,d∈q.nx::q.more::q.pk::(q.rest.filterMap (·.dst)++wM q.code)->q.it≠d:=λ d hd e=>by
  subst e
  rw [uD.2 hd] at hap;cases hap
 have hitpk:q.it≠q.pk:=hit _ (by simp)
 have hitW:vf q.it q.W=false:=by
  cases h:vf q.it q.W with
  |false=>rfl
  |true=>exact absurd rfl (hit _ (by have:=uD.1 h;simp only [uq.W] at this;exact bL _ (bL _ this)))
 have hpkW:vf q.pk q.W=true:=uD.2 (by simp [uq.W])
 let T':yh:={ T with fix:=λ d=>T.fix d|| !vf d q.W }
 have hfixW:∀ d,d∈q.W->(T.fix d|| !vf d q.W)=T.fix d:=λ d hd=>by simp [uD.2 hd]
 have hras':wm P T' nt q.ops3 q.rest=some ras:=(zdP P T _ nt q.ops3 q.rest λ d hd=>hfixW d (by simp only [uq.W];exact bL _ (bQ _ hd))).trans hras
 have hab':y7 P T' nt q.code=some ab:=(XE P T _ nt q.code λ d hd=>hfixW d (by simp only [uq.W];exact bL _ (cJ _ hd))).trans hab
 let a3:Act:=a.put (some q.pk) (.tuple #[x.key,x.val])
 let d0':kF:=⟨a3.defers,λ n=>a3.tmps.getD n undef⟩
 have hget:∀ n,a3.tmps.getD n undef=if n=q.pk then .tuple #[x.key,x.val] else a.tmps.getD n undef:=λ n=>QG hpk
 have hR:yl A.glob w (λ b=>F b\/m.has b) (λ _=>.unk) []:=I.rel.own r.past
 have up:∀ {p:PV} {v:Value},zo w1 F m (zu s.H) p v->RelF w (λ b=>F b\/m.has b) (frz 8 s.H p) v:=λ h=>(Vi I.rel 8 h).mono (λ b hb=>r.past.heap b (hb.elim (I.rel.ltF b) (I.rel.lt b))) λ _ h=>h
 have hI:vN A.glob T' nt w (λ b=>F b\/m.has b) (λ _=>.unk) [] d0' (vc q.pk s e) a3 w (λ b=>F b\/m.has b) (λ _=>.unk):=by
  refine ⟨hR,⟨?_,λ n=>?_,λ n=>zo.unk' _,λ n hn=>?_,λ n _=>rfl⟩,wq.refl ..,λ id b r h=>absurd rfl h,⟨rfl,λ _ _=>rfl⟩⟩
  ·show (a.tmps.setIfInBounds _ _).size=nt
   simpa using r.env.size
  ·rw [hget]
   show zo w _ _ _ (zk.get (zk.put (s.per.map λ p=>(p.1,frz 8 s.H p.2)) q.pk (.tup [frz 8 s.H e.1,frz 8 s.H e.2])) n) _
   rw [zk.get_put]
   split
   ·refine .froz _ _ (.tup [_,_] [x.key,x.val] rfl λ j p v hp hv'=>?_)
    match j with
    |0=>simp at hp hv';subst hp;subst hv';exact up (hk i e x h1 h2)
    |1=>simp at hp hv';subst hp;subst hv';exact up (hv i e x h1 h2)
    |j+2=>simp at hp
   ·rw [zk.get_frz]
    exact .froz _ _ (up (r.env.per n))
  ·show zk.get (zk.put (s.per.map λ p=>(p.1,frz 8 s.H p.2)) q.pk (.tup [frz 8 s.H e.1,frz 8 s.H e.2])) n=.unk
   have hne:n≠q.pk:=λ e=>by subst e;have:T.K q.pk=false:=hn;rw [S.kpk] at this;cases this
   rw [zk.get_put,if_neg hne,zk.get_frz,r.env.perK n hn];rfl
 have Zq:∀ {a4:Act} {w4:World} {F4:Nat->Prop} {m4:zR},vN A.glob T' nt w (λ b=>F b\/m.has b) (λ _=>.unk) [] d0' s2 a4 w4 F4 m4->ziy T nt d0 F m s q blk clock w1 (seen.push x.born) s2 a4 w4:=by
  intro a4 w4 F4 m4 I4
  have hno:∀ b,¬ zR.has (λ _=>Loc.unk) b:=by rintro b ⟨_,_,_,_,h⟩;cases h
  have g:=I4.grow
  have hp:ZG w w4:=⟨g.heap,λ b hb=>g.old b hb (hno b),g.os,g.tape,g.output,g.froz⟩
  have hfix:∀ n,(T.fix n|| !vf n q.W)=true->n≠q.pk->a4.tmps.getD n undef=a.tmps.getD n undef:=λ n h1 h2=>by
   have:=I4.defers.slots n h1
   rw [this]
   show a3.tmps.getD n undef=_
   rw [hget,if_neg h2]
  refine ⟨r.past.trans hp,bJ r.lt hp.size,(hp.heap _ r.lt).trans r.iter,I4.env.size,λ n hn=>?_,λ n hn=>znB hn (I4.env.per n),λ n hn=>I4.env.perK n hn,⟨?_,λ n hn=>?_⟩,?_⟩
  ·rw [hfix n (by simp [hn]) λ e=>by subst e;rw [hpkW] at hn;cases hn]
   exact r.env.per n
  ·exact I4.defers.defers.trans ((Act.put_defers' a _ _).trans r.st.defers)
  ·rw [hfix n (by simp [hn]) λ e=>by subst e;rw [S.fpk] at hn;cases hn]
   exact r.st.slots n hn
  ·rw [hfix q.it (by simp [hitW]) hitpk]
   exact r.itv
 have hsz:q.ops3.size=q.rest.length+1:=by rw [<-dW,S.o3];rfl
 have hat:∀ j,q.ops3[j]?=(eno::q.rest)[j]?:=λ j=>by rw [<-S.o3,cS]
 refine wp_block (wp_seq (wp_region ?_))
 rw [List.range_eq_range',hsz,List.range'_succ]
 refine Kl (o:=eno) (v:=.tuple #[x.key,x.val]) (w':=w) (hat 0) S.eno.2.2 ?_ ?_
 ·have hev:a.eval (.tmp q.it)=.pointer (some ⟨w1.heap.size,0,none⟩):=r.itv
  have:=run_entry_at (P:=P) w w1.heap.size blk clock seen xs.toArray clock x r.iter ((r.past.heap blk hbl).trans hblk) (by simpa using aJ h2) (by simpa using hn)
  simp [execOp,S.eno.2.1,hev,this]
 rw [S.eno.1]
 cases k with
 |zero=>simp [ev] at he
 |succ k=>
  rw [zbR] at he
  cases hsq:ev A k (.seq (.region false ras) ab) (vc q.pk s e) with
  |none=>simp [hsq] at he
  |some y=>
   obtain ⟨e3,s3⟩:=y
   rw [hsq] at he
   have hQ':∀ a4 w4 F4 m4,vN A.glob T' nt w (λ b=>F b\/m.has b) (λ _=>.unk) [] d0' s3 a4 w4 F4 m4->Exit.inBlock q.nxt Q e3.up a4 w4:=by
    intro a4 w4 F4 m4 I4
    cases e3 with
    |normal=>simp only [aC,aG] at he;obtain ⟨rfl,rfl⟩:=he;exact hQ a4 w4 (Zq I4)
    |ret=>simp only [aC,aG] at he;obtain ⟨rfl,rfl⟩:=he;exact hQ a4 w4 (Zq I4)
    |exit id'=>
     simp only at he
     split at he
     ·rename_i hbq
      have:=aT hbq
      simp only [aC,aG] at he;obtain ⟨rfl,rfl⟩:=he
      simp only [zp.up,Exit.inBlock,this,if_true]
      exact hQ a4 w4 (Zq I4)
     ·rename_i hbq
      have:id'≠q.nxt:=λ e=>by subst e;simp at hbq
      simp only [aC,aG] at he;obtain ⟨rfl,rfl⟩:=he
      simp only [zp.up,Exit.inBlock,this,if_false]
      exact hQ a4 w4 (Zq I4)
   cases k with
   |zero=>simp [ev] at hsq
   |succ k=>
    rw [zbS] at hsq
    cases k with
    |zero=>simp [ev] at hsq
    |succ k=>
     rw [Vh] at hsq
     cases hop:vP A.glob ⟨Z7 A k,Z8 A k⟩ ras { vc q.pk s e with reg:=[] } with
     |none=>rw [hop] at hsq;simp at hsq
     |some s4=>
      rw [hop] at hsq
      simp only at hsq
      refine znz (T:=T') (as:=ras) (st:=vc q.pk s e) hcl hras' (λ j o hj=>by rw [hat,show 0+1+j=j+1 by omega];exact hj) (Xy (zox (show k<=n by omega)) hop) hI λ a5 w5 F5 m5 I5=>?_
      exact hc q.code ab _ s3 e3 T' nt hab' (zcK (by omega) hsq) w _ _ [] d0' a5 w5 F5 m5 hR I5.clear _ hQ'
end
end
end
section
theorem zjq {P:Program} {o:Oper} {a:Act} {w:World} {x i:Nat} (ho:o.op=.extract (.tmp x) i) {vs:Array Value} (hx:a.tmps.getD x undef=.tuple vs) {v:Value} (hv:vs[i]?=some v):(execOp a.eval o).run P w=.ok (.value v) w:=by
 have:a.eval (.tmp x)=.tuple vs:=hx
 simp [execOp,ho,this,Instr.extract,hv]
section
variable {P:Program} {T:yh} {nt:Nat} {w0:World} {F0:Nat->Prop} {m0:zR} {H0:zd} {d0:kF}
variable {F:Nat->Prop} {m:zR} {s:St} {q:uq} {blk clock:Nat} {w1:World} {seen:Array Nat} {a:Act} {w:World}
theorem zdJ.move {a':Act} {w':World} {seen':Array Nat} (r:zdJ T nt d0 F m s q blk clock w1 seen a w) (hp:ZG w1 w') (hl:w1.heap.size<w'.heap.size) (hi:w'.heap[w1.heap.size]?=some (.mapIter (some blk) clock seen' clock))
  (hE:vX T nt (zo w1 F m (zu s.H)) s a') (hS:KR T d0 a') (hv:a'.tmps.getD q.it undef=a.tmps.getD q.it undef):zdJ T nt d0 F m s q blk clock w1 seen' a' w':=⟨hp,hl,hi,hE,hS,hv.trans r.itv⟩
theorem zpP {A:xn} {n:Nat} (hcl:JG P A.glob ⟨Z7 A n,Z8 A n⟩) (hc:X7 P A n) {ca cb:Code} {id1 id2 out:Nat} {ops1 ops2:Array Oper} {ro nxo exo eno:Oper} {xT:TypeId} (S:ziB T ca cb q id1 id2 out ops1 ops2 ro nxo exo eno xT) (sl:zfF P nt q xT)
  {ras:List zD} {ab:AC} (hras:wm P T nt q.ops3 q.rest=some ras) (hab:y7 P T nt q.code=some ab) {a1:Act} (I:vN A.glob T nt w0 F0 m0 H0 d0 s a1 w1 F m) (hreg:s.reg=[]) {es:List (PV×PV)} {xs:List MapEntry} (hblk:w1.heap[blk]?=some (.map xs.toArray clock)) (hlen:xs.length=es.length)
  (hk:∀ (i:Nat) (e:PV×PV) (x:MapEntry),es[i]?=some e->xs[i]?=some x->zo w1 F m (zu s.H) e.1 x.key) (hv:∀ (i:Nat) (e:PV×PV) (x:MapEntry),es[i]?=some e->xs[i]?=some x->zo w1 F m (zu s.H) e.2 x.val) (hn:(xs.map (·.born)).Nodup) (hold:∀ x∈xs,x.born<clock)
  {j:Nat} (hjn:j<=n) {ae:zp} {st':St} (hres:ko q.W s (es.map λ e=>ev A j (.block q.nxt (.seq (.region false ras) ab)) (vc q.pk s e))=some (ae,st'))
  (Q:Exit->Act->World->Prop) (hQ:∀ a4 w4 F4 m4,vN A.glob T nt w0 F0 m0 H0 d0 st' a4 w4 F4 m4->Q ae.up a4 w4):
  ∀ (k:Nat) (seen:Array Nat) (a:Act) (w:World),zdJ T nt d0 F m s q blk clock w1 seen a w->(leftOf xs.toArray seen).size<k->
   (∀ (i:Nat) (e:PV×PV) (x:MapEntry),es[i]?=some e->xs[i]?=some x->x.born∈seen.toList->Zi q.W s (ev A j (.block q.nxt (.seq (.region false ras) ab)) (vc q.pk s e)))->
   Code.rounds P (.seq (.region id2 ops2 false) (.seq (.cond (.tmp q.more) .skip (.exit out)) (.block q.nxt (.seq (.region q.id3 q.ops3 false) q.code)))) (Exit.inBlock out Q) k a w:=by
 have hbl:blk<w1.heap.size:=(cO.1 hblk).1
 have hap:=S.apart
 have hit:∀ d,d∈q.nx::q.more::q.pk::(q.rest.filterMap (·.dst)++wM q.code)->q.it≠d:=λ d hd e=>by
  subst e
  rw [uD.2 hd] at hap;cases hap
 have hnx:q.it≠q.nx:=hit _ (by simp)
 have hmore:q.it≠q.more:=hit _ (by simp)
 have hsz2:ops2.size=2:=by rw [<-dW,S.o2];rfl
 have hat2:∀ j,ops2[j]?=[nxo,exo][j]?:=λ j=>by rw [<-S.o2,cS]
 have hspec:=zob hres
 intro k
 induction k with
 |zero=>intro seen a w _ h;omega
 |succ k ih=>
  intro seen a w r hlt hpass
  rw [rounds_succ]
  refine wp_seq (wp_region ?_)
  rw [hsz2,show List.range 2=[0,1] from rfl]
  have hit':a.eval (.tmp q.it)=.pointer (some ⟨w1.heap.size,0,none⟩):=r.itv
  have hblkw:w.heap[blk]?=some (.map xs.toArray clock):=(r.past.heap blk hbl).trans hblk
  have two:∀ (u v:Value),vX T nt (zo w1 F m (zu s.H)) s ((a.put (some q.nx) u).put (some q.more) v)/\KR T d0 ((a.put (some q.nx) u).put (some q.more) v)/\((a.put (some q.nx) u).put (some q.more) v).tmps.getD q.it undef=a.tmps.getD q.it undef/\
    (a.put (some q.nx) u).tmps.getD q.nx undef=u/\((a.put (some q.nx) u).put (some q.more) v).tmps.getD q.more undef=v:=by
   intro u v
   have e1:=r.env.putU zo.unk' sl.nx S.knx hreg u
   have z1:q.nx<a.tmps.size:=by rw [r.env.size];exact sl.nx
   have z2:q.more<(a.put (some q.nx) u).tmps.size:=by rw [e1.size];exact sl.more
   refine ⟨e1.putU zo.unk' sl.more S.kmore hreg v,(r.st.put (λ n e=>by cases e;exact S.fnx) u).put (λ n e=>by cases e;exact S.fmore) v,?_,?_,?_⟩
   ·rw [QG z2,if_neg hmore,QG z1,if_neg hnx]
   ·rw [QG z1,if_pos rfl]
   ·rw [QG z2,if_pos rfl]
  rcases run_next_at (P:=P) w nxo.type w1.heap.size blk clock clock seen xs.toArray clock r.iter hblkw (by simpa using hold) (aS _) with ⟨h0,hrun⟩|⟨x,hx,w',hw',hrun⟩
  ·
   obtain ⟨t1,t2,t3,t4,t5⟩:=two (.tuple #[.bool false]) (.bool false)
   refine Kl (o:=nxo) (v:=.tuple #[.bool false]) (w':=w) (hat2 0) S.nxo.2.2 (by simp [execOp,S.nxo.2.1,hit',hrun]) ?_
   rw [S.nxo.1]
   refine Kl (o:=exo) (v:=.bool false) (w':=w) (hat2 1) S.exo.2.2 (zjq S.exo.2.1 t4 rfl) ?_
   rw [S.exo.1]
   refine wp_seq (wp_cond_false t5 (wp_exit ?_))
   simp only [Exit.then,Exit.inBlock,if_true]
   have r':zdJ T nt d0 F m s q blk clock w1 seen _ w:=r.move r.past r.lt r.iter t1 t2 t3
   rcases hspec with ⟨_,e⟩|⟨e,_⟩
   ·injection e with e1 e2
    subst e1
    have:st'=s:=by rw [e2];cases s;cases hreg;rfl
    subst this
    exact hQ _ _ _ _ (r'.back I)
   ·refine absurd (λ y hy=>?_) e
    obtain ⟨e0,he0,rfl⟩:=bU.1 hy
    obtain ⟨i,hi,hie⟩:=List.getElem_of_mem he0
    have hix:i<xs.length:=by omega
    have h2:xs[i]?=some xs[i]:=aE hix
    refine hpass i e0 xs[i] (by rw [aE hi,hie]) h2 (cD λ hne=>?_)
    have:xs[i]∈(leftOf xs.toArray seen).toList:=zkY.2 ⟨by simp,hne⟩
    have hp:=List.length_pos_of_mem this
    simp only [dW] at hp
    omega
  ·
   obtain ⟨t1,t2,t3,t4,t5⟩:=two (.tuple #[.bool true,x.key,x.val]) (.bool true)
   refine Kl (o:=nxo) (v:=.tuple #[.bool true,x.key,x.val]) (w':=setBlock w' w1.heap.size (.mapIter (some blk) clock (seen.push x.born) clock)) (hat2 0) S.nxo.2.2 (by simp [execOp,S.nxo.2.1,hit',hrun]) ?_
   rw [S.nxo.1]
   refine Kl (o:=exo) (v:=.bool true) (w':=setBlock w' w1.heap.size (.mapIter (some blk) clock (seen.push x.born) clock)) (hat2 1) S.exo.2.2 (zjq S.exo.2.1 t4 rfl) ?_
   rw [S.exo.1]
   refine wp_seq (wp_cond_true t5 (wp_skip ?_))
   have hp':ZG w w'/\w'.heap=w.heap:=by
    rcases hw' with rfl|rfl
    ·exact ⟨ZG.refl _,rfl⟩
    ·exact ⟨ZG.drew w,rfl⟩
   have hi':w'.heap[w1.heap.size]?=some (.mapIter (some blk) clock seen clock):=by rw [hp'.2];exact r.iter
   have hl':w1.heap.size<w'.heap.size:=by rw [hp'.2];exact r.lt
   have r':zdJ T nt d0 F m s q blk clock w1 (seen.push x.born) ((a.put (some q.nx) (.tuple #[.bool true,x.key,x.val])).put (some q.more) (.bool true)) (setBlock w' w1.heap.size (.mapIter (some blk) clock (seen.push x.born) clock)):=
    r.move ((r.past.trans hp'.1).step (aS _) hi' _ _) (by show _<(w'.heap.setIfInBounds _ _).size;simpa using hl') (by show (w'.heap.setIfInBounds _ _)[_]?=_;simp [hl']) t1 t2 t3
   have hxl:x∈xs:=by simpa using (zkY.1 hx).1
   obtain ⟨i,hi,hix⟩:=List.getElem_of_mem hxl
   have hie:i<es.length:=by omega
   have g1:es[i]?=some es[i]:=aE hie
   have g2:xs[i]?=some x:=by rw [aE hi,hix]
   have hmem:ev A j (.block q.nxt (.seq (.region false ras) ab)) (vc q.pk s es[i])∈es.map λ e=>ev A j (.block q.nxt (.seq (.region false ras) ab)) (vc q.pk s e):=bU.2 ⟨es[i],by simp,rfl⟩
   obtain ⟨⟨e2,s2⟩,hev⟩:=Jh hres _ hmem
   refine ztx hcl hc S sl hras hab I hblk hk hv hn g1 g2 r' hjn hev _ λ a4 w4 h4=>?_
   have hpl:Zi q.W s (some (e2,s2))\/zah q.W s (ae,st') (some (e2,s2)):=by
    rw [<-hev]
    rcases hspec with ⟨h,_⟩|⟨_,h⟩
    ·exact .inl (h _ hmem)
    ·exact h _ hmem
   have hnew:∀ (i':Nat) (e':PV×PV) (x':MapEntry),es[i']?=some e'->xs[i']?=some x'->Zi q.W s (some (e2,s2))->x'.born∈(seen.push x.born).toList->Zi q.W s (ev A j (.block q.nxt (.seq (.region false ras) ab)) (vc q.pk s e')):=by
    intro i' e' x' k1 k2 hp hm
    simp only [Array.toList_push,aX,aO] at hm
    rcases hm with hm|hm
    ·exact hpass i' e' x' k1 k2 hm
    ·have hii:i'=i:=by
      have hi1:i'<xs.length:=(aF.1 k2).1
      have q1:(xs.map (·.born))[i']?=some x.born:=by rw [aN,k2];simp [hm]
      have q2:(xs.map (·.born))[i]?=some x.born:=by rw [aN,g2];rfl
      exact (List.getElem?_inj (by simpa using hi1) hn).1 (q1.trans q2.symm)
     subst hii
     rw [g1] at k1;injection k1 with k1;subst k1
     rw [hev];exact hp
   rcases hpl with hp|hp
   ·cases e2 with
    |normal=>exact ih _ a4 w4 (h4.pass I.env.perK hreg hp) (by have:=zrd hx;omega) λ i' e' x' k1 k2 hm=>hnew i' e' x' k1 k2 hp hm
    |exit _=>exact hp.elim
    |ret=>exact hp.elim
   ·cases e2 with
    |ret=>
     have hp:(ae,st')=(.ret,zey q.W s s2):=hp
     injection hp with p1 p2
     subst p1;subst p2
     exact hQ _ _ _ _ (h4.left I)
    |exit _=>exact hp.elim
    |normal=>exact hp.elim
theorem zro {A:xn} {n:Nat} (hcl:JG P A.glob ⟨Z7 A n,Z8 A n⟩) (hc:X7 P A n) {ca cb:Code} {x y r:AC} (hx:y7 P T nt ca=some x) (hy:y7 P T nt cb=some y) (hr:Zc T ca cb x y=some r) {st st':St} {ae:zp} (he:ev A (n+1) r st=some (ae,st')) (R0:yl A.glob w0 F0 m0 H0)
  {a:Act} {w:World} {F:Nat->Prop} {m:zR} (I:vN A.glob T nt w0 F0 m0 H0 d0 st a w F m) (Q:Exit->Act->World->Prop) (hQ:∀ a1 w1 F1 m1,vN A.glob T nt w0 F0 m0 H0 d0 st' a1 w1 F1 m1->Q ae.up a1 w1):(Code.seq ca cb).wp P Q a w:=by
 obtain ⟨q,id1,id2,out,ops1,ops2,ro,nxo,exo,eno,xT,pas,ras,ab,S,hpas,hras,hab,sl,rfl⟩:=zrn hx hy hr
 rw [S.a,S.b]
 rw [zbS] at he
 cases n with
 |zero=>simp [ev] at he
 |succ n=>
  rw [Vh] at he
  cases hop:vP A.glob ⟨Z7 A n,Z8 A n⟩ pas { st with reg:=[] } with
  |none=>rw [hop] at he;simp at he
  |some s1=>
   rw [hop] at he
   simp only at he
   rw [zcL] at he
   split at he
   ·rename_i es hes
    have hsz1:ops1.size=q.pre.length+1:=by rw [<-dW,S.o1];simp
    have hat1:∀ j,ops1[j]?=(q.pre++[ro])[j]?:=λ j=>by rw [<-S.o1,cS]
    refine wp_seq (wp_region ?_)
    rw [List.range_eq_range',hsz1,List.range'_concat]
    refine zf2 (as:=pas) hcl hpas (λ k o hk=>by rw [hat1,bO,aD (aF.1 hk).1];exact hk) (Xy (zox (Nat.le_succ n)) hop) I.clear λ a1 w1 F1 m1 I1'=>?_
    have I1:=I1'.clear
    have hmap:∃ id blk,s1.per.get q.x=.mp id/\s1.H[id]?=some (.map es)/\a1.tmps.getD q.x undef=.map (some blk)/\zfE w1 (zo w1 F1 m1 (zu s1.H)) blk es:=by
     have hxr:=I1.env.per q.x
     have hes:K5 s1.H (s1.per.get q.x)=some es:=hes
     simp only at hxr
     generalize a1.tmps.getD q.x undef=v0 at hxr ⊢
     cases hp:s1.per.get q.x with
     |mp id=>
      rw [hp] at hes hxr
      simp only [K5] at hes
      split at hes
      ·rename_i es' hH
       injection hes with hes;subst hes
       have hl:=zbZ hH
       cases hxr with
       |froz _ _ h=>cases h
       |mp _ blk hm hL=>
        refine ⟨id,blk,rfl,hH,rfl,?_⟩
        rcases I1.rel.maps id es' hH with h|⟨b,h1,h2⟩
        ·rw [hm] at h;cases h
        ·rw [hm] at h1;injection h1 with h1;subst h1;exact h2
       |mpOld _ r hm hL=>omega
      ·cases hes
     |_=>rw [hp] at hes;simp [K5] at hes
    obtain ⟨id,blk,hid,hH,hxv,hM⟩:=hmap
    obtain ⟨xs,clock,hblk,hlen,hk,hv⟩:=hM.cur
    obtain ⟨hn,hold⟩:=hM.born _ _ hblk
    obtain ⟨kt,et,hu⟩:=sl.ty
    have hev:a1.eval (.tmp q.x)=.map (some blk):=hxv
    refine Kl (o:=ro) (v:=.pointer (some ⟨w1.heap.size,0,none⟩)) (w':=w1.alloc (.mapIter (some blk) clock #[] clock)) (by rw [hat1];simp) S.ro.2.2 (by simp [execOp,S.ro.2.1,hev,run_range_map w1 xT kt et blk xs.toArray clock hu hblk]) ?_
    rw [S.ro.1]
    refine wp_block (wp_loop_rounds (es.length+1) ?_)
    have hit:q.it<a1.tmps.size:=by rw [I1.env.size];exact sl.it
    refine zpP hcl hc S sl hras hab I1 rfl hblk hlen hk hv (by simpa using hn) (by simpa using hold) (Nat.le_succ n) he Q hQ (es.length+1) #[] _ _ ⟨ZG.alloc_iter ..,by show _<(w1.heap.push _).size;simp,by show (w1.heap.push _)[_]?=_;simp,I1.env.putU zo.unk' sl.it S.kit rfl _,I1.defers.put (λ n e=>by cases e;exact S.fit) _,by rw [QG hit,if_pos rfl]⟩ (by have:=zvg xs.toArray #[];simp at this;simp;omega) λ i e x _ _ h=>by simp at h
   ·cases he
end
end
end Go.Av
end
section
namespace Go.Av
open Go
section
section
variable {P:Program} {G:Nat->Option (List PV)} {T:yh} {nt:Nat} {w0:World} {F0:Nat->Prop} {m0:zR} {H0:zd} {d0:kF}
theorem zuw (hm:P.follows .mixedOrders=true) {A:xn} {n:Nat} (hcl:JG P A.glob ⟨Z7 A n,Z8 A n⟩) (hc:X7 P A n) (hl:zkj P A (n+1)):X7 P A (n+1):=by
 intro c ac st st' ae T nt ht he w0 F0 m0 H0 d0 a w F m R0 I Q hQ
 cases c with
 |skip=>
  simp only [y7,aC] at ht;subst ht
  rw [zzZ] at he
  simp only [aC,aG] at he;obtain ⟨rfl,rfl⟩:=he
  exact wp_skip (hQ a w F m I)
 |exit id=>
  simp only [y7,aC] at ht;subst ht
  simp only [ev,aC,aG] at he;obtain ⟨rfl,rfl⟩:=he
  exact wp_exit (hQ a w F m I)
 |ret=>
  simp only [y7,aC] at ht;subst ht
  simp only [ev,aC,aG] at he;obtain ⟨rfl,rfl⟩:=he
  exact wp_ret (hQ a w F m I)
 |region id ops draw=>
  simp only [y7] at ht
  split at ht
  ·rename_i as has
   obtain ⟨hlen,hops⟩:=zif has
   cases draw with
   |false=>
    simp only [aC] at ht;subst ht
    rw [Vh] at he
    split at he
    ·rename_i st1 h1
     simp only [aC,aG] at he;obtain ⟨rfl,rfl⟩:=he
     refine wp_region ?_
     rw [List.range_eq_range', <-dW]
     exact znz hcl has (λ k o hk=>by simpa using hk) h1 I.clear λ a1 w1 F1 m1 I1=>hQ a1 w1 F1 m1 I1.clear
    ·cases he
   |true=>
    simp only at ht
    split at ht
    ·rename_i hok
     simp only [aC] at ht;subst ht
     rw [Vh] at he
     split at he
     ·rename_i st1 h1
      simp only [aC,aG] at he;obtain ⟨rfl,rfl⟩:=he
      have hsp:=zec (ms:=WM ops.toList []) (as:=as) (i:=0) (ys:=as)
      refine wp_region_any hm (zsJ hcl (by rw [hsp.1,hlen,dW]) (λ i o ao hi ha=>?_) hok h1 (w:={ w with drawn:=w.drawn+1 }) (F:=F) (m:=m) ?_ λ a1 w1 F1 m1 I1=>hQ a1 w1 F1 m1 I1.clear)
      ·obtain ⟨x,k1,k2,k3,k4⟩:=hsp.2 i ao ha
       have:=hops i o x (by simpa using hi) k1
       exact ⟨by rw [k2];exact this.op,by rw [k3];exact this.dst,by rw [k4];exact this.guard,this.fix⟩
      ·obtain ⟨R1,g1,_⟩:=I.rel.world (w':={ w with drawn:=w.drawn+1 }) (F':=F) (aS _) (λ _ _=>rfl) ⟨rfl,rfl,rfl,λ _=>rfl⟩ (λ _ h=>h) (λ _ h=>.inl h) I.rel.ltF
       exact (⟨R1,I.env.mono λ p v h=>h.grow I.rel g1,I.grow.trans g1,I.fwd,I.defers⟩:vN A.glob T nt w0 F0 m0 H0 d0 st a _ F m).clear
     ·cases he
    ·cases ht
  ·cases ht
 |seq x y=>
  simp only [y7] at ht
  split at ht
  ·rename_i ax ay hx hy
   simp only [aC] at ht;subst ht
   cases hr:Zc T x y ax ay with
   |some r=>rw [hr] at he;exact zro hcl hc hx hy hr he R0 I Q hQ
   |none=>
   rw [hr] at he
   simp only at he
   rw [zbS] at he
   cases ha:ev A n ax st with
   |none=>simp [ha] at he
   |some r=>
    obtain ⟨e,st1⟩:=r
    rw [ha] at he
    refine wp_seq (hc x ax st st1 e T nt hx ha w0 F0 m0 H0 d0 a w F m R0 I _ λ a1 w1 F1 m1 I1=>?_)
    cases e with
    |normal=>exact hc y ay st1 st' ae T nt hy he w0 F0 m0 H0 d0 a1 w1 F1 m1 R0 I1 Q hQ
    |exit id=>simp only [aC,aG] at he;obtain ⟨rfl,rfl⟩:=he;exact hQ a1 w1 F1 m1 I1
    |ret=>simp only [aC,aG] at he;obtain ⟨rfl,rfl⟩:=he;exact hQ a1 w1 F1 m1 I1
  ·cases ht
 |cond b x y=>
  simp only [y7] at ht
  split at ht
  ·rename_i b' ax ay hb hx hy
   simp only [aC] at ht;subst ht
   rw [zer] at he
   split at he
   ·rename_i t hbt
    have hv:=yg I.rel I.env hb
    rw [hbt] at hv
    have hv:=bool_inv hv
    cases t with
    |true=>exact wp_cond_true hv (hc x ax _ st' ae T nt hx he w0 F0 m0 H0 d0 a w F m R0 (zkQ I) Q hQ)
    |false=>exact wp_cond_false hv (hc y ay _ st' ae T nt hy he w0 F0 m0 H0 d0 a w F m R0 (zkQ I) Q hQ)
   ·cases he
  ·cases ht
 |block id b=>
  simp only [y7] at ht
  split at ht
  ·rename_i ab hb
   simp only [aC] at ht;subst ht
   rw [zbR] at he
   cases ha:ev A n ab st with
   |none=>simp [ha] at he
   |some r=>
    obtain ⟨e,st1⟩:=r
    rw [ha] at he
    refine wp_block (hc b ab st st1 e T nt hb ha w0 F0 m0 H0 d0 a w F m R0 I _ λ a1 w1 F1 m1 I1=>?_)
    cases e with
    |normal=>simp only [aC,aG] at he;obtain ⟨rfl,rfl⟩:=he;exact hQ a1 w1 F1 m1 I1
    |ret=>simp only [aC,aG] at he;obtain ⟨rfl,rfl⟩:=he;exact hQ a1 w1 F1 m1 I1
    |exit id'=>
     simp only at he
     split at he
     ·rename_i hbq
      have:=aT hbq
      simp only [aC,aG] at he;obtain ⟨rfl,rfl⟩:=he
      simp only [zp.up,Exit.inBlock,this,if_true]
      exact hQ a1 w1 F1 m1 I1
     ·rename_i hbq
      have:id'≠id:=λ e=>by subst e;simp at hbq
      simp only [aC,aG] at he;obtain ⟨rfl,rfl⟩:=he
      simp only [zp.up,Exit.inBlock,this,if_false]
      exact hQ a1 w1 F1 m1 I1
  ·cases ht
 |loop b=>
  simp only [y7] at ht
  split at ht
  ·rename_i ab hb
   simp only [aC] at ht;subst ht
   exact wp_loop_rounds (n+1) (hl b ab st st' ae T nt hb he w0 F0 m0 H0 d0 a w F m R0 I Q hQ)
  ·cases ht
 |_=>simp [y7] at ht
end
end
section
section
variable {P:Program} {G:Nat->Option (List PV)} {T:yh} {nt:Nat} {w0:World} {F0:Nat->Prop} {m0:zR} {H0:zd} {d0:kF}
def zb' (tmps:Array Value):ResultVar->Sem Value
 |.tmp t=>pure (tmps.getD t undef)
 |.cell a t=>do loadVar t (<-asAddr (tmps.getD a undef))
theorem ztE (fn:Func) (tmps:Array Value):Go.results fn tmps=(do
  let vs<-fn.results.mapM (zb' tmps)
  pure (if h:vs.size=1 then vs[0] else .tuple vs)):=rfl
theorem zp0 {w:World} {α:Type} {f:α->Sem Value}:∀ {l:List α} {vs:List Value},vs.length=l.length->(∀ (i:Nat) (x:α) (v:Value),l[i]?=some x->vs[i]?=some v->(f x).run P w=.ok v w)->(l.mapM f).run P w=.ok vs w
 |[],vs,hl,_=>by
  have:vs=[]:=by cases vs<;>simp_all
  subst this;simp
 |x::l,vs,hl,h=>by
  cases vs with
  |nil=>simp at hl
  |cons v vs=>
   have h0:=h 0 x v rfl rfl
   have hr:=zp0 (l:=l) (vs:=vs) (by simpa using hl) λ i x v hi hv=>h (i+1) x v (by simpa using hi) (by simpa using hv)
   simp [List.mapM_cons,h0,hr]
theorem zAX {st:St} {a:Act} {w:World} {F:Nat->Prop} {m:zR} (I:vN G T nt w0 F0 m0 H0 d0 st a w F m) {r:ResultVar} {rs:List ResultVar} {ar:jw} {ars:List jw} (ht:XF P T (r::rs)=some (ar::ars)) {v:PV} (hv:ar.get st=some v):
  XF P T rs=some ars/\∃ cv,(zb' a.tmps r).run P w=.ok cv w/\zo w F m (zu st.H) v cv:=by
 cases r with
 |tmp t=>
  simp only [XF] at ht
  split at ht
  ·rename_i xs hk hx
   simp only [aC,dT] at ht
   obtain ⟨rfl,rfl⟩:=ht
   simp only [jw.get,aC] at hv
   subst hv
   exact ⟨hx,_,by simp [zb'],I.env.per t⟩
  ·cases ht
 |cell n t=>
  simp only [XF] at ht
  split at ht
  ·rename_i g sz xs hk hg hs hx
   simp only [aC,dT] at ht
   obtain ⟨rfl,rfl⟩:=ht
   refine ⟨hx,?_⟩
   simp only [jw.get] at hv
   split at hv
   ·rename_i cs hc
    obtain ⟨blk,off,hxx,hl⟩:=I.rel.cellsAt hc (I.env.per n)
    obtain ⟨i,hi,hi2⟩:=uv hs
    have ha:=zbp hg w
    obtain ⟨vs,h1,h2,h3⟩:=hl.all2
    rcases Qb (R:=zo w F m (zu st.H)) hv with ⟨rfl,hle,rfl⟩|⟨rfl,h0⟩
    ·have hlc:=run_loadCells_list (P:=P) w ⟨blk,off,none⟩ (vs.take sz) (λ j v hj=>by
      rw [uy]
      rw [bR] at hj
      split at hj
      ·exact h3 j v hj
      ·cases hj)
     rw [dG,d8 (by rw [h1.1];exact hle)] at hlc
     exact ⟨.agg (vs.take sz).toArray,by simp [zb',asAddr,hxx,loadVar,ha,sizeOf,typeInfo,hi,hi2,hlc],.agg _ _ (h1.take sz).1 (λ u hu=>h2 u (cP hu)) (h1.take sz).2⟩
    ·obtain ⟨u,hu,hr⟩:=h1.get h0
     have:=h3 0 u hu
     rw [cN] at this
     exact ⟨u,by simp [zb',asAddr,hxx,loadVar,ha,this],hr⟩
   ·cases hv
  ·cases ht
theorem zjp {st:St} {a:Act} {w:World} {F:Nat->Prop} {m:zR} (I:vN G T nt w0 F0 m0 H0 d0 st a w F m):∀ {rs:List ResultVar} {ars:List jw} {vs:List PV},XF P T rs=some ars->results st ars=some vs->
  ∃ cvs:List Value,cvs.length=rs.length/\(∀ (i:Nat) (x:ResultVar) (v:Value),rs[i]?=some x->cvs[i]?=some v->(zb' a.tmps x).run P w=.ok v w)/\yS (zo w F m (zu st.H)) vs cvs
 |[],ars,vs,ht,hv=>by
  simp only [XF,aC] at ht
  subst ht
  simp only [results,aC] at hv
  subst hv
  exact ⟨[],rfl,by simp,yS.nil⟩
 |r::rs,[],vs,ht,hv=>by
  cases r<;>simp only [XF] at ht<;>split at ht<;>cases ht
 |r::rs,ar::ars,vs,ht,hv=>by
  simp only [results] at hv
  split at hv
  ·rename_i v vs' h1 h2
   injection hv with hv
   subst hv
   obtain ⟨k1,cv,k2,k3⟩:=zAX I ht h1
   obtain ⟨cvs,e1,e2,e3⟩:=zjp I k1 h2
   refine ⟨cv::cvs,by simp [e1],λ i x v hi hv=>?_,yS.cons k3 e3⟩
   cases i with
   |zero=>simp only [bW,aC] at hi hv;subst hi;subst hv;exact k2
   |succ i=>exact e2 i x v (by simpa using hi) (by simpa using hv)
  ·cases hv
theorem zgN {st:St} {a:Act} {w:World} {F:Nat->Prop} {m:zR} (I:vN G T nt w0 F0 m0 H0 d0 st a w F m) {fn:Func} {ars:List jw} {vs:List PV} (ht:XF P T fn.results.toList=some ars) (hv:results st ars=some vs):
  ∃ cv,(Go.results fn a.tmps).run P w=.ok cv w/\zo w F m (zu st.H) (jG vs) cv:=by
 obtain ⟨cvs,h1,h2,h3⟩:=zjp I ht hv
 have hm:(fn.results.mapM (zb' a.tmps)).run P w=.ok cvs.toArray w:=by
  have:=zp0 h1 h2
  rw [Array.mapM_eq_mapM_toList]
  simp [this]
 refine ⟨if h:cvs.toArray.size=1 then cvs.toArray[0] else .tuple cvs.toArray,by rw [ztE];simp [hm],?_⟩
 match vs,cvs,h3 with
 |[],[],h3=>exact .tup [] [] rfl h3.2
 |[v],[cv],h3=>simpa [jG] using h3.2 0 v cv rfl rfl
 |v::v'::vs,cv::cv'::cvs,h3=>exact .tup _ (cv::cv'::cvs) h3.1 h3.2
 |[],_::_,h3=>have:=h3.1;simp at this
 |[_],[],h3=>have:=h3.1;simp at this
 |[_],_::_::_,h3=>have:=h3.1;simp at this
 |_::_::_,[],h3=>have:=h3.1;simp at this
 |_::_::_,[_],h3=>have:=h3.1;simp at this
end
theorem zfW:∀ (k:Nat) (args:List PV) (n:Nat),(params k args).get n=if k<=n then (args[n-k]?).getD .unk else .unk
 |k,[],n=>by simp [params,zk.get]
 |k,v::vs,n=>by
  simp only [params,zk.get]
  by_cases h:k=n
  ·subst h;simp
  ·rw [zh3 h]
   simp only
   rw [zfW (k+1) vs n]
   by_cases h2:k+1<=n
   ·rw [if_pos h2,if_pos (by omega),show n-k=(n-(k+1))+1 by omega];rfl
   ·rw [if_neg h2,if_neg (by omega)]
def zoL (P:Program) (A:xn):Prop:=∀ f F,A.fn f=some F->∃ fn T c,P.funcs[f]?=some fn/\fn.body=some c/\zm2 P T fn=some F/\Vt P f=true
theorem znJ {P:Program} {T:yh} {fn:Func} {c:Code} {F:zL} (hb:fn.body=some c) (h:zm2 P T fn=some F):y7 P T fn.ntmps c=some F.code/\XF P T fn.results.toList=some F.res/\(∀ n,n<F.np->T.K n=true)/\F.np<=fn.ntmps:=by
 unfold zm2 at h
 rw [hb] at h
 simp only at h
 split at h
 ·rename_i x rs h1 h2
  split at h
  ·rename_i hk
   injection h with h
   subst h
   simp only [aU] at hk
   refine ⟨h1,h2,λ n hn=>?_,dP hk.2⟩
   have:=aZ.1 hk.1 n (by simpa using hn)
   exact this
  ·cases h
 ·cases h
section
variable {P:Program} {A:xn}
theorem znI {T:yh} {nt np:Nat} {R:PV->Value->Prop} (hU:∀ x,R .unk x) {args:List PV} {us:List Value} (h:yS R args us) (hn:np=args.length) (hk:∀ n,n<np->T.K n=true) (hle:np<=nt) (H:zd):
  vX T nt R { per:=params 0 args,reg:=[],H:=H,ed:=[] } { tmps:=us.toArray++Array.replicate (nt-us.toArray.size) undef,defers:=[] }:=by
 have hus:us.length=np:=by rw [hn,h.1]
 refine ⟨by simp;omega,λ n=>?_,λ n=>hU _,λ n hn'=>?_,λ n _=>rfl⟩
 ·show R ((params 0 args).get n) _
  rw [zfW]
  simp only [dM,if_true,Nat.sub_zero]
  cases ha:args[n]? with
  |none=>exact hU _
  |some p=>
   have hlt:=(aF.1 ha).1
   obtain ⟨u,hu,hr⟩:=h.get ha
   have hg:(us.toArray++Array.replicate (nt-us.toArray.size) undef).getD n undef=u:=by
    have h1:n<us.length:=by omega
    simp only [cY,Array.getElem?_append,List.size_toArray,h1,if_true,List.getElem?_toArray,hu,cR]
   rw [hg];exact hr
 ·show (params 0 args).get n=_
  rw [zfW]
  simp only [dM,if_true,Nat.sub_zero]
  cases ha:args[n]? with
  |none=>rfl
  |some p=>
   have hlt:=(aF.1 ha).1
   rw [hk n (by omega)] at hn'
   cases hn'
theorem zvG (hfit:zoL P A) {n:Nat} (hc:X7 P A n) {f:Nat} {args:List PV} {v:PV} (he:Z7 A (n+1) f args=some v) (w:World) (F:Nat->Prop) (us:List Value) (hargs:yS (RelF w F) args us) (hF:∀ b,F b->b<w.heap.size)
  (hG:∀ g cs,A.glob g=some cs->RelF w F (.fp cs 0) (.pointer (some ⟨g,0,none⟩))):
  Calls P f us.toArray w λ e w'=>∃ cv,e=.returned cv/\w.heap.size<=w'.heap.size/\(∀ b,b<w.heap.size->w'.heap[b]?=w.heap[b]?)/\(w'.os=w.os/\w'.tape=w.tape/\w'.output=w.output/\∀ a,w'.frozen? a=w.frozen? a)/\
   ∃ F',(∀ b,F b->F' b)/\(∀ b,F' b->F b\/w.heap.size<=b)/\(∀ b,F' b->b<w'.heap.size)/\RelF w' F' v cv:=by
 rw [zbP] at he
 split at he
 ·cases he
 ·rename_i AF hAF
  obtain ⟨fn,T,c,h1,h2,h3,h4⟩:=hfit f AF hAF
  obtain ⟨k1,k2,k3,k4⟩:=znJ h2 h3
  split at he
  ·rename_i hnp
   have hnp:AF.np=args.length:=by simpa using hnp
   refine calls_of_wp h1 h2 ?_
   have hno:∀ b,¬ zR.has (λ _=>Loc.unk) b:=by rintro b ⟨id,o,c,s,h⟩;cases h
   have R0:yl A.glob w F (λ _=>.unk) []:=⟨λ _ _ _ _=>.inl rfl,λ _ _ _=>.inl rfl,λ _ _=>rfl,λ _ _ _ _ _ _ _ _ _ h _=>(by cases h),λ b h=>absurd h (hno b),hF,λ b h=>absurd h (hno b),hG⟩
   have I0:vN A.glob T fn.ntmps w F (λ _=>.unk) [] ⟨[],λ n=>(us.toArray++Array.replicate (fn.ntmps-us.toArray.size) undef).getD n undef⟩ { per:=params 0 args,reg:=[],H:=[],ed:=[] } { tmps:=us.toArray++Array.replicate (fn.ntmps-us.toArray.size) undef,defers:=[] } w F (λ _=>.unk):=
    ⟨R0,znI (R:=zo w F (λ _=>.unk) (zu [])) zo.unk' ⟨hargs.1,λ i p v a b=>.froz _ _ (hargs.2 i p v a b)⟩ hnp k3 k4 [],wq.refl ..,YQ.refl _ _,⟨rfl,λ _ _=>rfl⟩⟩
   have Zq:∀ (st:St) (a1:Act) (w1:World) (F1:Nat->Prop) (m1:zR),vN A.glob T fn.ntmps w F (λ _=>.unk) [] ⟨[],λ n=>(us.toArray++Array.replicate (fn.ntmps-us.toArray.size) undef).getD n undef⟩ st a1 w1 F1 m1->(match results st AF.res with|some vs=>some (frz 8 st.H (jG vs))|none=>none)=some v->
     a1.defers=[]/\∃ cv,(Go.results fn a1.tmps).run P w1=.ok cv w1/\∃ cv',Ending.returned cv=.returned cv'/\w.heap.size<=w1.heap.size/\(∀ b,b<w.heap.size->w1.heap[b]?=w.heap[b]?)/\(w1.os=w.os/\w1.tape=w.tape/\w1.output=w.output/\∀ a,w1.frozen? a=w.frozen? a)/\
      ∃ F',(∀ b,F b->F' b)/\(∀ b,F' b->F b\/w.heap.size<=b)/\(∀ b,F' b->b<w1.heap.size)/\RelF w1 F' v cv':=by
    intro st a1 w1 F1 m1 I hv
    split at hv
    ·rename_i vs hvs
     injection hv with hv
     subst hv
     obtain ⟨cv,q1,q2⟩:=zgN (P:=P) I k2 hvs
     have g:=I.grow
     refine ⟨I.defers.defers,cv,q1,cv,rfl,g.heap,λ b hb=>g.old b hb (hno b),⟨g.os,g.tape,g.output,g.froz⟩,λ b=>F1 b\/m1.has b,λ b hb=>.inl (g.sub b hb),λ b hb=>?_,λ b hb=>?_,Vi I.rel 8 q2⟩
     ·rcases hb with hb|hb
      ·exact g.new b hb
      ·exact (g.img b hb).imp (λ h=>absurd h (hno b)) id
     ·rcases hb with hb|hb
      ·exact I.rel.ltF b hb
      ·exact I.rel.lt b hb
    ·cases hv
   cases hev:ev A n AF.code { per:=params 0 args,reg:=[],H:=[],ed:=[] } with
   |none=>rw [hev] at he;cases he
   |some x=>
    obtain ⟨e,st⟩:=x
    rw [hev] at he
    refine hc c AF.code _ st e T fn.ntmps k1 hev w F _ [] _ _ w F _ R0 I0 _ λ a1 w1 F1 m1 I1=>?_
    cases e with
    |normal=>exact Zq st a1 w1 F1 m1 I1 he
    |ret=>exact Zq st a1 w1 F1 m1 I1 he
    |exit id=>cases he
  ·cases he
theorem zrw (hfit:zoL P A) {n:Nat} (hc:X7 P A n) {f:Nat} {args:List PV} {H:zd} {v:PV} {H':zd} {ed:zI} (he:Z8 A (n+1) f args H=some (v,H',ed)) (w:World) (F:Nat->Prop) (m:zR) (us:List Value) (R0:yl A.glob w F m H)
  (hargs:yS (zo w F m (zu H)) args us):
  Calls P f us.toArray w λ e w'=>∃ cv F' m',e=.returned cv/\yl A.glob w' F' m' H'/\wq w F m H w' F' m' H'/\zo w' F' m' (zu H') v cv/\YQ m' H H' ed:=by
 rw [zbQ] at he
 split at he
 ·cases he
 ·rename_i AF hAF
  obtain ⟨fn,T,c,h1,h2,h3,h4⟩:=hfit f AF hAF
  obtain ⟨k1,k2,k3,k4⟩:=znJ h2 h3
  split at he
  ·rename_i hnp
   have hnp:AF.np=args.length:=by simpa using hnp
   refine calls_of_wp h1 h2 ?_
   have I0:vN A.glob T fn.ntmps w F m H ⟨[],λ n=>(us.toArray++Array.replicate (fn.ntmps-us.toArray.size) undef).getD n undef⟩ { per:=params 0 args,reg:=[],H:=H,ed:=[] } { tmps:=us.toArray++Array.replicate (fn.ntmps-us.toArray.size) undef,defers:=[] } w F m:=
    ⟨R0,znI (R:=zo w F m (zu H)) zo.unk' hargs hnp k3 k4 H,wq.refl ..,YQ.refl _ _,⟨rfl,λ _ _=>rfl⟩⟩
   have Zq:∀ (st:St) (a1:Act) (w1:World) (F1:Nat->Prop) (m1:zR),vN A.glob T fn.ntmps w F m H ⟨[],λ n=>(us.toArray++Array.replicate (fn.ntmps-us.toArray.size) undef).getD n undef⟩ st a1 w1 F1 m1->(match results st AF.res with|some vs=>some (jG vs,(trim H.length vs st.H st.ed).1,(trim H.length vs st.H st.ed).2)|none=>none)=some (v,H',ed)->
     a1.defers=[]/\∃ cv,(Go.results fn a1.tmps).run P w1=.ok cv w1/\∃ cv' F' m',Ending.returned cv=.returned cv'/\yl A.glob w1 F' m' H'/\wq w F m H w1 F' m' H'/\zo w1 F' m' (zu H') v cv'/\YQ m' H H' ed:=by
    intro st a1 w1 F1 m1 I hv
    split at hv
    ·rename_i vs hvs
     simp only [aC,aG] at hv
     obtain ⟨rfl,rfl,rfl⟩:=hv
     obtain ⟨cv,q1,q2⟩:=zgN (P:=P) I k2 hvs
     obtain ⟨m',t⟩:=zlD R0 I (aS _) [jG vs]
     have e:∀ n H ed,trim n [jG vs] H ed=trim n vs H ed:=by
      intro n H ed
      have:zn [jG vs]=zn vs:=by
       match vs with
       |[]=>rfl
       |[v]=>rfl
       |v::v'::vs=>simp [zn,jG,refs]
      simp only [trim,this]
     rw [e] at t
     exact ⟨I.defers.defers,cv,q1,cv,F1,m',rfl,t.rel,t.grow,t.val _ _ (by simp) q2,t.fwd⟩
    ·cases hv
   cases hev:ev A n AF.code { per:=params 0 args,reg:=[],H:=H,ed:=[] } with
   |none=>rw [hev] at he;cases he
   |some x=>
    obtain ⟨e,st⟩:=x
    rw [hev] at he
    refine hc c AF.code _ st e T fn.ntmps k1 hev w F m H _ _ w F m R0 I0 _ λ a1 w1 F1 m1 I1=>?_
    cases e with
    |normal=>exact Zq st a1 w1 F1 m1 I1 he
    |ret=>exact Zq st a1 w1 F1 m1 I1 he
    |exit id=>cases he
  ·cases he
theorem zni (hm:P.follows .mixedOrders=true) (hfit:zoL P A):∀ n,X7 P A n/\zkj P A n/\JG P A.glob ⟨Z7 A n,Z8 A n⟩
 |0=>⟨λ _ _ _ _ _ _ _ _ h=>by simp [ev] at h,λ _ _ _ _ _ _ _ _ h=>by simp [ev] at h,⟨λ _ _ _ h=>by simp [Z7] at h,λ _ _ _ _ h=>by simp [Z8] at h,λ _ _ _ h=>by simp [Z7] at h,λ _ _ _ _ _ _ h=>by simp [Z8] at h⟩⟩
 |n+1=>by
  obtain ⟨h1,h2,h3⟩:=zni hm hfit n
  have hl:=zvr h1 h2
  refine ⟨zuw hm h3 h1 hl,hl,λ f args v he=>?_,λ f args H v he=>?_,λ f args v he w F us a b c=>zvG hfit h1 he w F us a b c,λ f args H v H' ed he w F m us a b=>zrw hfit h1 he w F m us a b⟩
  ·simp only [zbP] at he
   split at he
   ·cases he
   ·rename_i AF hAF
    obtain ⟨_,_,_,_,_,_,h⟩:=hfit f AF hAF
    exact h
  ·simp only [zbQ] at he
   split at he
   ·cases he
   ·rename_i AF hAF
    obtain ⟨_,_,_,_,_,_,h⟩:=hfit f AF hAF
    exact h
theorem zwj (hm:P.follows .mixedOrders=true) (hfit:zoL P A) {f:Nat} {args:List PV} {v:PV} (he:EP A f args=some v) (w:World) (F:Nat->Prop) (us:List Value) (hargs:yS (RelF w F) args us) (hF:∀ b,F b->b<w.heap.size)
  (hG:∀ g cs,A.glob g=some cs->RelF w F (.fp cs 0) (.pointer (some ⟨g,0,none⟩))):
  Calls P f us.toArray w λ e w'=>∃ cv,e=.returned cv/\w.heap.size<=w'.heap.size/\(∀ b,b<w.heap.size->w'.heap[b]?=w.heap[b]?)/\(w'.os=w.os/\w'.tape=w.tape/\w'.output=w.output/\∀ a,w'.frozen? a=w.frozen? a)/\
   ∃ F',(∀ b,F b->F' b)/\(∀ b,F' b->F b\/w.heap.size<=b)/\(∀ b,F' b->b<w'.heap.size)/\RelF w' F' v cv:=by
 obtain ⟨n,hn⟩:=(zhg _ _ _).1 he
 exact (zni hm hfit n).2.2.pure f args v hn w F us hargs hF hG
end
end
def Old (w:World) (b:Nat):Prop:=b<w.heap.size
theorem zw' {w w':World} (h1:w.heap.size<=w'.heap.size) (h2:∀ b,b<w.heap.size->w'.heap[b]?=w.heap[b]?) (h3:w'.os=w.os/\w'.tape=w.tape/\w'.output=w.output/\∀ a,w'.frozen? a=w.frozen? a):RowKit.Grown w w':=by
 refine ⟨⟨h3.1,h3.2.2.1,λ i hi=>?_⟩,h3.2.2.2,h1⟩
 rw [h2 i hi]
 cases hh:w.heap[i]? with
 |none=>rfl
 |some o=>
  cases o with
  |cells c t fr=>obtain ⟨lo,hi'⟩:=fr;exact ⟨rfl,rfl,rfl,λ _ _=>rfl⟩
  |map es clock=>exact .inr ⟨rfl,rfl⟩
  |_=>rfl
section
inductive Sh where
 |bool
 |int (k:IntKind)
 |flt (k:FloatKind)
 |str
 |slice (es:List Sh)
 deriving Inhabited
def Vp (P:Program) (r:TypeId->Option (List Sh)):Nat->List Field->Option (List Sh)
 |_,[]=>some []
 |off,f::fs=>match r f.type with
  |some ss=>match Nat.beq f.offset off&&Nat.beq (P.cellsOf f.type) ss.length with
   |true=>match Vp P r (off+ss.length) fs with
    |some rs=>some (ss++rs)
    |none=>none
   |false=>none
  |none=>none
def Ys (P:Program):Nat->TypeId->Option (List Sh)
 |0,_=>none
 |n+1,t=>match P.underlying t with
  |some .bool=>some [.bool]
  |some (.int k)=>some [.int k]
  |some (.float k)=>some [.flt k]
  |some .string=>some [.str]
  |some (.slice e)=>match Ys P n e with
   |some es=>match es with|[]=>none|s::es=>(match Nat.beq (P.cellsOf e) (es.length+1) with|true=>some [.slice (s::es)]|false=>none)
   |none=>none
  |some (.struct fs)=>match Vp P (Ys P n) 0 fs.toList with
   |some ss=>match Nat.beq (P.cellsOf t) ss.length with|true=>some ss|false=>none
   |none=>none
  |_=>none
inductive Ok:Sh->PV->Prop
 |bool (b:Bool):Ok .bool (.bool b)
 |int (k:IntKind) (n:Int) (h:(Lit.int k n).wf=true):Ok (.int k) (.int k n)
 |flt (k:FloatKind) (b:Nat) (h:(Lit.float k b).wf=true):Ok (.flt k) (.flt k b)
 |str (s:ByteArray) (h:s.size<=maxLen):Ok .str (.str s)
 |nils (es:List Sh):Ok (.slice es) .nils
 |fz (es:List Sh) (rows:List (List PV)) (hl:rows.length<=maxLen) (hs:∀ r∈rows,r.length=es.length) (h:∀ r∈rows,∀ (i:Nat) (s:Sh) (p:PV),es[i]?=some s->r[i]?=some p->Ok s p):Ok (.slice es) (.fz rows)
def ux (ss:List Sh) (ps:List PV):Prop:=ps.length=ss.length/\∀ (i:Nat) (s:Sh) (p:PV),ss[i]?=some s->ps[i]?=some p->Ok s p
theorem ux.one {s:Sh} {p:PV} (h:Ok s p):ux [s] [p]:=⟨rfl,λ i s' p' h1 h2=>by cases i with|zero=>simp at h1 h2;subst h1;subst h2;exact h|succ i=>simp at h1⟩
theorem ux.append {ss rs:List Sh} {ps qs:List PV} (h:ux ss ps) (h2:ux rs qs):ux (ss++rs) (ps++qs):=by
 refine ⟨by simp [h.1,h2.1],λ i s p k1 k2=>?_⟩
 rcases bS i ss.length with hi|hi
 ·rw [aD hi] at k1
  rw [aD (by rw [h.1];exact hi)] at k2
  exact h.2 i s p k1 k2
 ·rw [aI hi] at k1
  rw [aI (by rw [h.1];exact hi),h.1] at k2
  exact h2.2 _ s p k1 k2
theorem zcR {α β:Type} {f:α->Option β}:∀ {l:List α} {r:List β},l.mapM f=some r->r.length=l.length/\∀ (i:Nat) (x:α),l[i]?=some x->∃ y,r[i]?=some y/\f x=some y
 |[],r,h=>by
  simp at h;subst h;simp
 |x::l,r,h=>by
  rw [List.mapM_cons] at h
  cases hx:f x with
  |none=>simp [hx] at h
  |some y=>
   cases hl:l.mapM f with
   |none=>simp [hx,hl] at h
   |some ys=>
    simp [hx,hl] at h
    subst h
    obtain ⟨h1,h2⟩:=zcR hl
    refine ⟨by simp [h1],λ i z hz=>?_⟩
    cases i with
    |zero=>simp at hz;subst hz;exact ⟨y,rfl,hx⟩
    |succ i=>exact h2 i z (by simpa using hz)
theorem zo5 {w:World} {base:Nat} {a:Addr} {n:Nat} {cs:List Value} (h:w.cells? base a n=some cs):cs.length=n/\∀ j,j<n->∃ v,cs[j]?=some v/\w.cell? (a.add j)=some v:=by
 unfold World.cells? at h
 split at h
 ·obtain ⟨h1,h2⟩:=zcR h
  refine ⟨by simpa using h1,λ j hj=>?_⟩
  obtain ⟨y,k1,k2⟩:=h2 j j (by simp [hj])
  exact ⟨y,k1,k2⟩
 ·cases h
theorem zut {w:World} {a:Addr} {v:Value} (h:w.cell? a=some v):a.spot=none/\a.block<w.heap.size:=by
 unfold World.cell? at h
 split at h
 ·rename_i c t f hh
  split at h
  ·cases h
  ·rename_i hs
   exact ⟨by simpa using hs,(cO.1 hh).1⟩
 ·cases h
theorem zuc (a:Addr) (n:Nat) (h:a.spot=none):a.add n=⟨a.block,a.off+n,none⟩:=by
 obtain ⟨b,o,s⟩:=a
 simp only at h
 subst h
 exact uy b o n
section
variable {H:Type} {enc:TypeId×Value->H} {P:Program} {w:World} {base:Nat} {spare:Nat->Bool} {held:Bool}
def Wz (w:World) (ss:List Sh) (cs:List Value):Prop:=∃ ps,ux ss ps/\yS (RelF w (Old w)) ps cs/\∀ v∈cs,v.oneCell'=true
theorem Wz.one {s:Sh} {p:PV} {v:Value} (h:Ok s p) (hr:RelF w (Old w) p v) (h1:v.oneCell'=true):Wz w [s] [v]:=⟨[p],ux.one h,yS.cons hr yS.nil,by simpa using h1⟩
theorem yS.append' {α β:Type} {R:α->β->Prop} {as cs:List α} {bs ds:List β} (h:bs.length=as.length/\∀ (i:Nat) (p:α) (v:β),as[i]?=some p->bs[i]?=some v->R p v) (h2:ds.length=cs.length/\∀ (i:Nat) (p:α) (v:β),cs[i]?=some p->ds[i]?=some v->R p v):
  (bs++ds).length=(as++cs).length/\∀ (i:Nat) (p:α) (v:β),(as++cs)[i]?=some p->(bs++ds)[i]?=some v->R p v:=by
 refine ⟨by simp [h.1,h2.1],λ i p v k1 k2=>?_⟩
 rcases bS i as.length with hi|hi
 ·rw [aD hi] at k1
  rw [aD (by rw [h.1];exact hi)] at k2
  exact h.2 i p v k1 k2
 ·rw [aI hi] at k1
  rw [aI (by rw [h.1];exact hi),h.1] at k2
  exact h2.2 _ p v k1 k2
theorem Wz.append {ss rs:List Sh} {cs ds:List Value} (h:Wz w ss cs) (h2:Wz w rs ds):Wz w (ss++rs) (cs++ds):=by
 obtain ⟨ps,a1,a2,a3⟩:=h
 obtain ⟨qs,b1,b2,b3⟩:=h2
 refine ⟨ps++qs,a1.append b1,yS.append' a2 b2,λ v hv=>?_⟩
 rcases aX.1 hv with hv|hv
 ·exact a3 v hv
 ·exact b3 v hv
theorem Wz.len {ss:List Sh} {cs:List Value} (h:Wz w ss cs):cs.length=ss.length:=by
 obtain ⟨ps,a1,a2,_⟩:=h
 rw [a2.1,a1.1]
theorem zi' {fuel:Nat} (ih:∀ (n:Nat) (t:TypeId) (cs:List Value) (y:DataW H×List MemPlace) (ss:List Sh),DataW.trod enc P w base spare held fuel t cs=some y->Ys P n t=some ss->Wz w ss cs) (cs:List Value):
  ∀ (n:Nat) (fs:List Field) (off:Nat) (ss:List Sh),Vp P (Ys P n) off fs=some ss->(∀ (i:Nat) (f:Field),fs[i]?=some f->∃ y,DataW.trod enc P w base spare held fuel f.type ((cs.drop f.offset).take (P.cellsOf f.type))=some y)->Wz w ss ((cs.drop off).take ss.length)
 |n,[],off,ss,h,_=>by
  simp only [Vp,aC] at h;subst h;exact ⟨[],⟨rfl,by simp⟩,by simpa using yS.nil,by simp⟩
 |n,f::fs,off,ss,h,hf=>by
  simp only [Vp] at h
  split at h
  ·rename_i s1 h1
   split at h
   ·rename_i hb
    simp only [aU] at hb
    have e1:=aT hb.1
    have e2:=aT hb.2
    split at h
    ·rename_i rs h2
     injection h with h
     subst h
     obtain ⟨y,hy⟩:=hf 0 f rfl
     have r1:=ih n _ _ y s1 hy h1
     rw [e1,e2] at r1
     have r2:=zi' ih cs n fs (off+s1.length) rs h2 λ i g hg=>hf (i+1) g (by simpa using hg)
     have:=r1.append r2
     rw [aQ,List.take_add,List.drop_drop]
     exact this
    ·cases h
   ·cases h
  ·cases h
theorem zil:∀ (fuel n:Nat) (t:TypeId) (cs:List Value) (y:DataW H×List MemPlace) (ss:List Sh),DataW.trod enc P w base spare held fuel t cs=some y->Ys P n t=some ss->Wz w ss cs
 |0,n,t,cs,y,ss,h,_=>by simp [DataW.trod] at h
 |fuel+1,0,t,cs,y,ss,h,hs=>by simp [Ys] at hs
 |fuel+1,n+1,t,cs,y,ss,h,hs=>by
  simp only [Ys] at hs
  split at hs
  ·rename_i hu
   injection hs with hs;subst hs
   unfold DataW.trod at h
   rw [hu] at h
   split at h<;>try (simp_all;done)
   rename_i b _
   exact Wz.one (.bool b) (.bool b) rfl
  ·rename_i k hu
   injection hs with hs;subst hs
   unfold DataW.trod at h
   rw [hu] at h
   split at h<;>try (simp_all;done)
   rename_i k2 k1 m e1
   injection e1 with e1;injection e1 with e1;subst e1
   split at h
   ·rename_i hc
    obtain ⟨rfl,hw⟩:=hc
    exact Wz.one (.int _ m hw) (.int _ m) rfl
   ·cases h
  ·rename_i k hu
   injection hs with hs;subst hs
   unfold DataW.trod at h
   rw [hu] at h
   split at h<;>try (simp_all;done)
   rename_i k2 k1 m e1
   injection e1 with e1;injection e1 with e1;subst e1
   split at h
   ·rename_i hc
    obtain ⟨rfl,hw⟩:=hc
    exact Wz.one (.flt _ m hw) (.flt _ m) rfl
   ·cases h
  ·rename_i hu
   injection hs with hs;subst hs
   unfold DataW.trod at h
   rw [hu] at h
   split at h<;>try (simp_all;done)
   rename_i s _
   split at h
   ·rename_i hc
    exact Wz.one (.str s hc) (.str s) rfl
   ·cases h
  ·rename_i e hu
   split at hs
   ·rename_i es he
    split at hs
    ·cases hs
    ·rename_i s0 es'
     split at hs
     ·rename_i hk
      have hk:=aT hk
      injection hs with hs;subst hs
      unfold DataW.trod at h
      rw [hu] at h
      split at h<;>try (simp_all;done)
      ·exact Wz.one (.nils _) .nils rfl
      ·rename_i e1 a len cap e2
       injection e2 with e2;injection e2 with e2;subst e2
       simp only at h
       split at h
       ·rename_i hc
        obtain ⟨_,hlc,hcm⟩:=hc
        cases hm:(List.range len).mapM λ i=>(w.cells? base (a.add (i*P.cellsOf e)) (P.cellsOf e)).bind (DataW.trod enc P w base spare held fuel e) with
        |none=>rw [hm] at h;simp at h
        |some elems=>
         obtain ⟨_,hel⟩:=zcR hm
         have hrow:∀ i,i<len->∃ row ps,w.cells? base (a.add (i*P.cellsOf e)) (P.cellsOf e)=some row/\ux (s0::es') ps/\yS (RelF w (Old w)) ps row/\∀ v∈row,v.oneCell'=true:=by
          intro i hi
          obtain ⟨y',_,k2⟩:=hel i i (by simp [hi])
          cases hr:w.cells? base (a.add (i*P.cellsOf e)) (P.cellsOf e) with
          |none=>simp [hr] at k2
          |some row=>
           simp only [hr,aW] at k2
           obtain ⟨ps,q1,q2,q3⟩:=zil fuel n e row y' (s0::es') k2 he
           exact ⟨row,ps,rfl,q1,q2,q3⟩
         by_cases h0:len=0
         ·subst h0
          exact Wz.one (.fz _ [] (dM _) (by simp) (by simp)) (.fzNil _ _) rfl
         ·let ch:Nat->List PV:=λ i=>if hi:i<len then (hrow i hi).choose_spec.choose else []
          let rw':Nat->List Value:=λ i=>if hi:i<len then (hrow i hi).choose else []
          have hch:∀ i,i<len->w.cells? base (a.add (i*P.cellsOf e)) (P.cellsOf e)=some (rw' i)/\ux (s0::es') (ch i)/\yS (RelF w (Old w)) (ch i) (rw' i)/\∀ v∈rw' i,v.oneCell'=true:=by
           intro i hi
           have:=(hrow i hi).choose_spec.choose_spec
           simp only [ch,rw',hi,dif_pos]
           exact this
          have hat:∀ (i:Nat) (r:List PV),((List.range len).map ch)[i]?=some r->i<len/\r=ch i:=by
           intro i r hi
           have hl:i<len:=by have:=(aF.1 hi).1;simpa using this
           rw [aN,dK hl] at hi
           simp at hi
           exact ⟨hl,hi.symm⟩
          have hkpos:0<P.cellsOf e:=by omega
          have hspot:a.spot=none/\a.block<w.heap.size:=by
           obtain ⟨k1,_⟩:=hch 0 (by omega)
           obtain ⟨_,k2⟩:=zo5 k1
           obtain ⟨v,_,k3⟩:=k2 0 hkpos
           rw [show (a.add (0*P.cellsOf e)).add 0=a by simp [Addr.add]] at k3
           exact zut k3
          have hval:∀ (i:Nat) (r:List PV) (j:Nat) (p:PV),((List.range len).map ch)[i]?=some r->r[j]?=some p->∃ v,(rw' i)[j]?=some v/\w.cell? ⟨a.block,a.off+i*P.cellsOf e+j,none⟩=some v/\v.oneCell'=true/\RelF w (Old w) p v:=by
           intro i r j p hi hj
           obtain ⟨hl,rfl⟩:=hat i r hi
           obtain ⟨k1,k2,k3,k4⟩:=hch i hl
           obtain ⟨l1,l2⟩:=zo5 k1
           have hjl:j<P.cellsOf e:=by
            have:=(aF.1 hj).1
            have h5:=k3.1
            omega
           obtain ⟨v,m1,m2⟩:=l2 j hjl
           have m2':w.cell? ⟨a.block,a.off+i*P.cellsOf e+j,none⟩=some v:=by
            rw [zuc a _ hspot.1,zuc _ _ rfl] at m2
            exact m2
           exact ⟨v,m1,m2',k4 v (aJ m1),k3.2 j p v hj m1⟩
          have hfz:=RelF.fz (w:=w) (F:=Old w) ((List.range len).map ch) a.block a.off (P.cellsOf e) cap (λ i j=>((rw' i)[j]?).getD undef) hspot.2
           (λ i r hi=>by
            obtain ⟨hl,rfl⟩:=hat i r hi
            have:=(hch i hl).2.1.1
            simp only [bC] at this
            omega) (by simpa using hlc)
           (λ i r j p hi hj=>by obtain ⟨v,q1,q2,q3,q4⟩:=hval i r j p hi hj;rw [q1];exact q3)
           (λ i r j p hi hj=>by obtain ⟨v,q1,q2,q3,q4⟩:=hval i r j p hi hj;rw [q1];exact q2)
           (λ i r j p hi hj=>by obtain ⟨v,q1,q2,q3,q4⟩:=hval i r j p hi hj;rw [q1];exact q4)
          rw [show ((List.range len).map ch).length=len by simp] at hfz
          have ha:a=⟨a.block,a.off,none⟩:=by obtain ⟨b,o,s⟩:=a;simp only at hspot;rw [hspot.1]
          rw [<-ha] at hfz
          refine Wz.one (.fz _ _ (by simp;omega) (λ r hr=>?_) λ r hr=>?_) hfz rfl
          ·obtain ⟨i,hi⟩:=cX hr
           obtain ⟨hl,rfl⟩:=hat i r hi
           exact (hch i hl).2.1.1
          ·obtain ⟨i,hi⟩:=cX hr
           obtain ⟨hl,rfl⟩:=hat i r hi
           exact (hch i hl).2.1.2
       ·cases h
     ·cases hs
   ·cases hs
  ·rename_i fs hu
   split at hs
   ·rename_i ss' hf
    split at hs
    ·rename_i hb
     have hb:=aT hb
     injection hs with hs;subst hs
     unfold DataW.trod at h
     rw [hu] at h
     split at h<;>try (simp_all;done)
     rename_i cs _ _ fs' e1
     injection e1 with e1;injection e1 with e1;subst e1
     split at h
     ·rename_i hlen
      cases hm:fs.toList.mapM λ f=>DataW.trod enc P w base spare held fuel f.type ((cs.drop f.offset).take (P.cellsOf f.type)) with
      |none=>rw [hm] at h;simp at h
      |some xs=>
       obtain ⟨_,hx⟩:=zcR hm
       have:=zi' (λ n t cs y ss=>zil fuel n t cs y ss) cs n fs.toList 0 ss' hf λ i f hif=>by
        obtain ⟨y,_,h2⟩:=hx i f hif
        exact ⟨y,h2⟩
       rw [dZ,dH (by omega)] at this
       exact this
     ·cases h
    ·cases hs
   ·cases hs
  ·cases hs
end
end
end Go.Av
end
section
namespace Go.Av
open Go Go.ChangeShapes Go.WideShapes Go.ChangeAt Go.RowKit
section
def Shaped (P:Program) (t:TypeId):Prop:=∃ n ss,Ys P n t=some ss
theorem zgQ {P:Program}:∀ (n:Nat) (fs:List Field) (off:Nat) (ss:List Sh),Vp P (Ys P n) off fs=some ss->(∀ f∈fs,Shaped P f.type)/\ss.length=(fs.map λ f=>P.cellsOf f.type).sum/\∀ (j:Nat) (f:Field),fs[j]?=some f->f.offset=off+((fs.take j).map λ f=>P.cellsOf f.type).sum
 |n,[],off,ss,h=>by
  simp only [Vp,aC] at h;subst h;simp
 |n,f::fs,off,ss,h=>by
  simp only [Vp] at h
  split at h
  ·rename_i s1 h1
   split at h
   ·rename_i hb
    simp only [aU] at hb
    have e1:=aT hb.1
    have e2:=aT hb.2
    split at h
    ·rename_i rs h2
     injection h with h
     subst h
     obtain ⟨k1,k2,k3⟩:=zgQ n fs _ rs h2
     refine ⟨λ g hg=>?_,by simp [k2,e2],λ j g hj=>?_⟩
     ·cases hg with
      |head=>exact ⟨n,s1,h1⟩
      |tail _ hg=>exact k1 g hg
     ·cases j with
      |zero=>simp at hj;subst hj;simpa using e1
      |succ j=>
       have:=k3 j g (by simpa using hj)
       simp only [List.take_succ_cons,aM,List.sum_cons]
       omega
    ·cases h
   ·cases h
  ·cases h
theorem zib {P:Program} {t e:TypeId} (h:Shaped P t) (hu:P.underlying t=some (.slice e)):Shaped P e/\0<P.cellsOf e:=by
 obtain ⟨n,ss,h⟩:=h
 cases n with
 |zero=>simp [Ys] at h
 |succ n=>
  simp only [Ys,hu] at h
  split at h
  ·rename_i es he
   split at h
   ·cases h
   ·split at h
    ·rename_i hk
     have:=aT hk
     exact ⟨⟨n,_,he⟩,by omega⟩
    ·cases h
  ·cases h
theorem zrv (P:Program):Kids P (Shaped P):=by
 refine ⟨λ {t e} ⟨n,ss,h⟩ hu=>?_,λ h hu=>(zib h hu).1,λ {t e m} ⟨n,ss,h⟩ hu=>?_,λ {t fs} ⟨n,ss,h⟩ hu=>?_,λ {t k e} ⟨n,ss,h⟩ hu=>?_⟩
 ·cases n<;>simp [Ys,hu] at h
 ·cases n<;>simp [Ys,hu] at h
 ·cases n with
  |zero=>simp [Ys] at h
  |succ n=>
   simp only [Ys,hu] at h
   split at h
   ·rename_i ss' hf
    split at h
    ·rename_i hb
     have:=aT hb
     obtain ⟨k1,k2,k3⟩:=zgQ n _ _ _ hf
     exact ⟨k1,this.trans k2,λ j f hj=>by simpa using k3 j f hj⟩
    ·cases h
   ·cases h
 ·cases n<;>simp [Ys,hu] at h
section
variable {H:Type} {enc:TypeId×Value->H} {P:Program} {W W':World}
theorem zsc (hg:∀ b,b<W.heap.size->W'.heap[b]?=W.heap[b]?) {p:MemPlace} (hp:p.block<W.heap.size):W.sameAt W' p:=by
 cases p with
 |cell b off=>
  have h:W'.heap[b]?=W.heap[b]?:=hg b hp
  show W'.cell? ⟨b,off,none⟩=W.cell? ⟨b,off,none⟩
  simp only [World.cell?,h]
 |map b=>exact hg b hp
theorem zC4 {t:TypeId} (hs:Shaped P t) {v:Value} {d:DataW H} {ps:List MemPlace} (h:DataW.Trod enc P W 0 (λ _=>true) true t v d ps) (hg:∀ b,b<W.heap.size->W'.heap[b]?=W.heap[b]?) {sp:Nat->Bool} (hsp:∀ p∈ps,sp p.block=true):DataW.Trod enc P W' 0 sp true t v d ps:=by
 obtain ⟨fuel,h⟩:=h
 exact ⟨fuel,DataW.trod_stays (zrv P) (λ h hu=>(zib h hu).2) (λ h=>by cases h) hs h (λ p hp=>zsc hg (DataW.trod_lt fuel _ _ _ h p hp)) hsp⟩
theorem zoT:∀ {ts:List TypeId} {vs:List Value} {ds:List (DataW H)} {ps:List MemPlace},(∀ t∈ts,Shaped P t)->DataW.TrodAll enc P W 0 (λ _=>true) true ts vs ds ps->(∀ b,b<W.heap.size->W'.heap[b]?=W.heap[b]?)->∀ {sp:Nat->Bool},(∀ p∈ps,sp p.block=true)->DataW.TrodAll enc P W' 0 sp true ts vs ds ps
 |[],[],[],ps,_,h,_,_,_=>h
 |t::ts,v::vs,d::ds,ps,hs,h,hg,sp,hsp=>by
  obtain ⟨p,q,h1,h2,rfl⟩:=h
  exact ⟨p,q,zC4 (hs t cM) h1 hg λ x hx=>hsp x (bQ _ hx),zoT (λ t ht=>hs t (bL _ ht)) h2 hg λ x hx=>hsp x (cJ _ hx),rfl⟩
 |[],_::_,_,_,_,h,_,_,_=>h.elim
 |[],[],_::_,_,_,h,_,_,_=>h.elim
 |_::_,[],_,_,_,h,_,_,_=>h.elim
 |_::_,_::_,[],_,_,h,_,_,_=>h.elim
theorem zty {t:TypeId} {n:Nat} {ss:List Sh} (hs:Ys P n t=some ss) {v:Value} {cs:Array Value} (hv:v=.agg cs) {d:DataW H} {ps:List MemPlace} (h:DataW.Trod enc P W 0 (λ _=>true) true t v d ps):∃ qs,ux ss qs/\RelF W (Old W) (.agg qs) v:=by
 subst hv
 obtain ⟨fuel,h⟩:=h
 obtain ⟨qs,h1,h2,h3⟩:=zil fuel n t _ _ ss h hs
 exact ⟨qs,h1,by
  have:=RelF.agg (w:=W) (F:=Old W) qs cs.toList h2.1 (λ v hv=>h3 v (by simpa [Value.cells] using hv)) h2.2
  simpa using this⟩
end
end
end Go.Av
end
section
namespace Go.Av
open Go
section
section
variable (d:Nat) (H:zd)
theorem QL (k:IntKind) (n:Int):frz (d+1) H (.int k n)=.int k n:=rfl
theorem zbV (b:Bool):frz (d+1) H (.bool b)=.bool b:=rfl
theorem zrU (s:ByteArray):frz (d+1) H (.str s)=.str s:=rfl
theorem zrT (k:FloatKind) (n:Nat):frz (d+1) H (.flt k n)=.flt k n:=rfl
theorem zkN (rows:List (List PV)):frz (d+1) H (.fz rows)=.fz rows:=rfl
theorem zBS (cs:List PV) (o:Nat):frz (d+1) H (.fp cs o)=.fp cs o:=rfl
theorem zfV:frz (d+1) H .nils=.nils:=rfl
theorem zw7:frz (d+1) H .nilf=.nilf:=rfl
theorem zw8:frz (d+1) H .nilm=.nilm:=rfl
theorem zz3 (cs:List PV):frz (d+1) H (.agg cs)=.agg (cs.map (frz d H)):=rfl
theorem zz7 (cs:List PV):frz (d+1) H (.tup cs)=.tup (cs.map (frz d H)):=rfl
theorem zBR (f:Nat) (cs:List PV):frz (d+1) H (.fn f cs)=.fn f (cs.map (frz d H)):=rfl
end
theorem zrp (st:St):Go.Av.results st []=some []:=rfl
theorem zh9 (st:St) (r:jw) (rs:List jw):Go.Av.results st (r::rs)=match r.get st,Go.Av.results st rs with|some v,some vs=>some (v::vs)|_,_=>none:=rfl
end
section
inductive Zg where
 |op (o:zD)
 |kill (ks:List Nat)
 deriving Inhabited
def Jf:List Zg->List zD
 |[]=>[]
 |.op o::bs=>o::Jf bs
 |.kill _::bs=>Jf bs
def ZD:zy->List Nat
 |.reg n=>[n]
 |_=>[]
def zbu (o:zD):List zy:=xq o.op++(match o.guard with|none=>[]|some (g,_)=>[g])++o.clear
def zvR (o:zD):List Nat:=((zbu o).map ZD).flatten
def Yg:List Zg->Nat->Bool
 |[],_=>false
 |.op o::bs,k=>(zvR o).any (Nat.beq k)||Yg bs k
 |.kill _::bs,k=>Yg bs k
def UZ:List Zg->Bool
 |[]=>true
 |.op _::bs=>UZ bs
 |.kill ks::bs=>(ks.all λ k=> !Yg bs k)&&UZ bs
section
variable {G:Nat->Option (List PV)} {C:Cl}
def Wk (G:Nat->Option (List PV)) (C:Cl):List Zg->St->Option St
 |[],st=>some st
 |.op o::os,st=>match wanted G st o with
  |some true=>match vB G C st o with
   |some (v,H,ed)=>Wk G C os (St.put { st with H:=H,ed:=ed++st.ed } o.dst v)
   |none=>none
  |some false=>Wk G C os (st.put o.dst .und)
  |none=>none
 |.kill ks::os,st=>Wk G C os { st with reg:=ks.foldl zk.erase st.reg }
theorem zpr (e:zk) (k n:Nat) (h:Nat.beq n k=false):(e.erase k).get n=e.get n:=by
 induction e with
 |nil=>rfl
 |cons p e ih=>
  obtain ⟨a,x⟩:=p
  rw [zk.erase]
  cases hb:Nat.beq a k with
  |true=>
   have:a=k:=aT hb
   subst this
   show (zk.erase e a).get n=_
   rw [ih,zk.get]
   have h2:Nat.beq a n=false:=by
    cases h3:Nat.beq a n with
    |false=>rfl
    |true=>rw [<-aT h3] at h;rw [Nat.beq_refl] at h;cases h
   rw [h2]
  |false=>
   show zk.get ((a,x)::zk.erase e k) n=_
   rw [zk.get,zk.get,ih]
theorem zs6 (ks:List Nat):∀ (e:zk) (n:Nat),(∀ k∈ks,Nat.beq n k=false)->zk.get (ks.foldl zk.erase e) n=e.get n:=by
 induction ks with
 |nil=>intro e n _;rfl
 |cons k ks ih=>
  intro e n h
  rw [List.foldl_cons,ih _ _ (λ k hk=>h k (bL _ hk)),zpr _ _ _ (h k (cM ..))]
def zkd (u:Nat->Bool) (s s':St):Prop:=s.per=s'.per/\s.H=s'.H/\s.ed=s'.ed/\∀ k,u k=true->s.reg.get k=s'.reg.get k
theorem zud {u:Nat->Bool} {s s':St} (h:zkd u s s') (x:zy) (hx:∀ k∈ZD x,u k=true):x.get G s=x.get G s':=by
 cases x with
 |per n=>show s.per.get n=s'.per.get n;rw [h.1]
 |reg n=>exact h.2.2.2 n (hx n (by simp [ZD]))
 |const v=>rfl
 |glob g=>rfl
theorem zng {u u':Nat->Bool} {s s':St} (h:zkd u s s') (hu:∀ k,u' k=true->u k=true) (d:Option (Bool×Nat)) (v:PV) (H:zd) (ed:zI):zkd u' (St.put { s with H:=H,ed:=ed } d v) (St.put { s' with H:=H,ed:=ed } d v):=by
 match d with
 |none=>exact ⟨h.1,rfl,rfl,λ k hk=>h.2.2.2 k (hu k hk)⟩
 |some (true,n)=>exact ⟨by show s.per.put n v=s'.per.put n v;rw [h.1],rfl,rfl,λ k hk=>h.2.2.2 k (hu k hk)⟩
 |some (false,n)=>exact ⟨h.1,rfl,rfl,λ k hk=>by show (s.reg.put n v).get k=(s'.reg.put n v).get k;rw [zk.get_put,zk.get_put,h.2.2.2 k (hu k hk)]⟩
theorem zvV {s s':St} (h1:s.per=s'.per) (h2:s.H=s'.H) (h3:s.ed=s'.ed):({ s with reg:=[] }:St)={ s' with reg:=[] }:=by
 cases s;cases s';simp at h1 h2 h3;simp [h1,h2,h3]
theorem zvT:∀ (bs:List Zg) (s s':St),UZ bs=true->zkd (Yg bs) s s'->
  (vP G C (Jf bs) s).map (λ s=>({ s with reg:=[] }:St))=(Wk G C bs s').map (λ s=>({ s with reg:=[] }:St)):=by
 intro bs
 induction bs with
 |nil=>intro s s' _ h;simp only [Jf,vP,Wk,cA];rw [zvV h.1 h.2.1 h.2.2.1]
 |cons b bs ih=>
  intro s s' hk h
  cases b with
  |kill ks=>
   rw [UZ,aU] at hk
   rw [Jf,Wk]
   refine ih _ _ hk.2 ⟨h.1,h.2.1,h.2.2.1,λ k hu=>?_⟩
   show s.reg.get k=zk.get (ks.foldl zk.erase s'.reg) k
   rw [zs6,h.2.2.2 k hu]
   intro j hj
   have:=(aZ.1 hk.1) j hj
   cases hb:Nat.beq k j with
   |false=>rfl
   |true=>rw [<-aT hb,hu] at this;cases this
  |op o=>
   rw [UZ] at hk
   have hr:∀ x∈zbu o,x.get G s=x.get G s':=λ x hx=>zud h x λ k hkx=>by
    rw [Yg,d7]
    refine .inl (List.any_eq_true.2 ⟨k,?_,Nat.beq_refl k⟩)
    exact List.mem_flatten.2 ⟨_,bU.2 ⟨x,hx,rfl⟩,hkx⟩
   have hu:∀ k,Yg bs k=true->Yg (.op o::bs) k=true:=λ k hk=>by rw [Yg,hk,Bool.or_true]
   have hw:wanted G s o=wanted G s' o:=by
    rw [wanted,wanted]
    cases hg:o.guard with
    |none=>rfl
    |some g=>
     obtain ⟨g,w⟩:=g
     have:=hr g (by simp [zbu,hg])
     simp only [this]
   have ho:∀ x∈xq o.op,x.get G s=x.get G s':=λ x hx=>hr x (by simp [zbu,hx])
   have hv:zt G C s o.op=zt G C s' o.op:=zkL ho h.2.1
   have hn:XB G s o=XB G s' o:=by
    have h1:((xq o.op).all λ x=>(refs (x.get G s)).isEmpty)=(xq o.op).all λ x=>(refs (x.get G s')).isEmpty:=by
     rw [bP,aZ,aZ]
     exact ⟨λ q x hx=>by rw [<-ho x hx];exact q x hx,λ q x hx=>by rw [ho x hx];exact q x hx⟩
    have h2:(o.clear.all λ x=>Wt (Ye G s o.op) (x.get G s))=o.clear.all λ x=>Wt (Ye G s' o.op) (x.get G s'):=by
     rw [zqa ho,bP,aZ,aZ]
     exact ⟨λ q x hx=>by rw [<-hr x (by simp [zbu,hx])];exact q x hx,λ q x hx=>by rw [hr x (by simp [zbu,hx])];exact q x hx⟩
    rw [XB,XB,h1,h2]
   have he:vB G C s o=vB G C s' o:=by rw [vB.eq_def,vB.eq_def,hv,hn]
   rw [Jf,vP,Wk,hw,he]
   cases wanted G s' o with
   |none=>rfl
   |some b=>
    cases b with
    |true=>
     cases vB G C s' o with
     |none=>rfl
     |some r=>
      obtain ⟨v,H,ed⟩:=r
      dsimp only
      rw [h.2.2.1]
      exact ih _ _ hk (zng h hu o.dst v H _)
    |false=>
     dsimp only
     have e1:s.put o.dst .und=St.put { s with H:=s'.H,ed:=s'.ed } o.dst .und:=by rw [<-h.2.1, <-h.2.2.1]
     have:=zng h hu o.dst .und s'.H s'.ed
     rw [<-e1] at this
     exact ih _ _ hk this
theorem zst (u:Nat->Bool) (s:St):zkd u s s:=⟨rfl,rfl,rfl,λ _ _=>rfl⟩
end
noncomputable def xw (P:xn):List Zg->St->Option St:=Wk P.glob (CL P)
end
section
section
variable (P:xn)
noncomputable def zgb:Option (zp×St)->AC->Option (zp×St)
 |some (.normal,st),b=>EV P b st
 |r,_=>r
def zfM:Option (zp×St)->Nat->Option (zp×St)
 |some (.exit id',st),id=>match Nat.beq id' id with|true=>some (.normal,st)|false=>some (.exit id',st)
 |r,_=>r
noncomputable def zfO:PV->Bool->zy->St->AC->AC->Option (zp×St)
 |.bool t,g,c,st,a,b=>if t=true then EV P a (jE g c st) else EV P b (jE g c st)
 |_,_,_,_,_,_=>none
def regK:Option St->Option (zp×St)
 |some st=>some (.normal,{ st with reg:=[] })
 |none=>none
noncomputable def zf1:Option St->List Zg->Option St
 |some st,os=>xw P os st
 |none,_=>none
def ztw (st:St) (d:Option (Bool×Nat)):Option (PV×zd×zI)->Option St
 |some (v,H,ed)=>some (St.put { st with H:=H,ed:=ed++st.ed } d v)
 |none=>none
def wQ:PV->Bool->Option Bool
 |.bool b,w=>some (b==w)
 |.und,_=>some false
 |_,_=>none
noncomputable def zjX:Option Bool->St->zD->Option St
 |some b,st,o=>if b=true then ztw st o.dst (vB P.glob (CL P) st o) else some (st.put o.dst .und)
 |none,_,_=>none
variable {P}
@[congr] theorem zDL {r r':Option (zp×St)} {b:AC} (h:r=r'):zgb P r b=zgb P r' b:=by rw [h]
@[congr] theorem zC7 {r r':Option (zp×St)} {b:Nat} (h:r=r'):zfM r b=zfM r' b:=by rw [h]
@[congr] theorem zDy {r r':Option St} {b:List Zg} (h:r=r'):zf1 P r b=zf1 P r' b:=by rw [h]
@[congr] theorem zCV {v v':PV} {g:Bool} {c:zy} {st:St} {a b:AC} (h:v=v'):zfO P v g c st a b=zfO P v' g c st a b:=by rw [h]
@[congr] theorem zCZ {c:AC} {st st':St} (h:st=st'):EV P c st=EV P c st':=by rw [h]
@[congr] theorem zBG {os:List Zg} {st st':St} (h:st=st'):xw P os st=xw P os st':=by rw [h]
@[congr] theorem zzq {o:zD} {st st':St} (h:st=st'):vB P.glob (CL P) st o=vB P.glob (CL P) st' o:=by rw [h]
@[congr] theorem zBz {o:uU} {st st':St} (h:st=st'):zt P.glob (CL P) st o=zt P.glob (CL P) st' o:=by rw [h]
@[congr] theorem zDh {r r':Option Bool} {st:St} {o:zD} (h:r=r'):zjX P r st o=zjX P r' st o:=by rw [h]
theorem zBv (a b:AC) (st:St):EV P (.seq a b) st=zgb P (EV P a st) b:=by
 rw [zBj];cases EV P a st with
 |none=>rfl
 |some r=>obtain ⟨e,s⟩:=r;cases e<;>rfl
theorem zws (id:Nat) (b:AC) (st:St):EV P (.block id b) st=zfM (EV P b st) id:=by
 rw [zwk];cases EV P b st with
 |none=>rfl
 |some r=>obtain ⟨e,s⟩:=r;cases e<;>rfl
theorem zzn (g:Bool) (c:zy) (a b:AC) (st:St):EV P (.cond g c a b) st=zfO P (c.get P.glob st) g c st a b:=by
 rw [zy'];cases c.get P.glob st<;>first|rfl|(rename_i t;cases t<;>rfl)
theorem zt' (d:Bool) (ops:List zD) (bs:List Zg) (h:Jf bs=ops) (hk:UZ bs=true) (st:St):EV P (.region d ops) st=regK (xw P bs { per:=st.per,reg:=[],H:=st.H,ed:=st.ed }):=by
 subst h
 rw [zt2]
 have:=zvT (G:=P.glob) (C:=CL P) bs { st with reg:=[] } { st with reg:=[] } hk (zst _ _)
 show _=regK (Wk P.glob (CL P) bs { st with reg:=[] })
 cases h1:vP P.glob (CL P) (Jf bs) { st with reg:=[] }<;>cases h2:Wk P.glob (CL P) bs { st with reg:=[] }<;>rw [h1,h2] at this
 ·rfl
 ·simp at this
 ·simp at this
 ·simp only [cA,aC] at this
  simp only [regK,this]
theorem zC3 (st:St):xw P [] st=some st:=rfl
theorem zBA (ks:List Nat) (os:List Zg) (st:St):xw P (.kill ks::os) st=xw P os { per:=st.per,reg:=ks.foldl zk.erase st.reg,H:=st.H,ed:=st.ed }:=rfl
theorem zua (d:Option (Bool×Nat)) (op:uU) (s:Bool) (cl:List zy) (os:List Zg) (st:St):xw P (.op ⟨d,op,none,s,cl⟩::os) st=zf1 P (ztw st d (vB P.glob (CL P) st ⟨d,op,none,s,cl⟩)) os:=by
 rw [xw,Wk];simp only [wanted];cases vB P.glob (CL P) st ⟨d,op,none,s,cl⟩<;>rfl
theorem zrM (d:Option (Bool×Nat)) (op:uU) (g:zy) (w:Bool) (s:Bool) (cl:List zy) (os:List Zg) (st:St):xw P (.op ⟨d,op,some (g,w),s,cl⟩::os) st=zf1 P (zjX P (wQ (g.get P.glob st) w) st ⟨d,op,some (g,w),s,cl⟩) os:=by
 rw [xw,Wk];simp only [wanted]
 cases g.get P.glob st with
 |bool b=>
  cases hb:b==w with
  |true=>
   rw [wQ,hb,zjX,if_pos rfl];simp only [hb]
   cases vB P.glob (CL P) st ⟨d,op,some (g,w),s,cl⟩<;>rfl
  |false=>rw [wQ,hb,zjX,if_neg (by simp)];simp only [hb];rfl
 |und=>rfl
 |_=>rfl
theorem znu (b:Bool) (st:St) (d:Option (Bool×Nat)) (op:uU) (g:Option (zy×Bool)) (s:Bool) (cl:List zy):zjX P (some b) st ⟨d,op,g,s,cl⟩=if b=true then ztw st d (vB P.glob (CL P) st ⟨d,op,g,s,cl⟩) else some (st.put d .und):=rfl
theorem zf0 (d:Option (Bool×Nat)) (op:uU) (g:Option (zy×Bool)) (st:St):vB P.glob (CL P) st ⟨d,op,g,false,[]⟩=zt P.glob (CL P) st op:=rfl
theorem zwi (f:Nat) (a:List PV):(CL P).p f a=EP P f a:=rfl
theorem zDT (f:Nat) (a:List PV) (H:zd):(CL P).s f a H=ES P f a H:=rfl
theorem zru (st:St) (b:AC):zgb P (some (.normal,st)) b=EV P b st:=rfl
theorem zys (st:St) (b:AC):zgb P (some (.ret,st)) b=some (.ret,st):=rfl
theorem zvX (i:Nat) (st:St) (b:AC):zgb P (some (.exit i,st)) b=some (.exit i,st):=rfl
theorem zyr {p:Prop} [Decidable p] (x y:Option (zp×St)) (b:AC):zgb P (if p then x else y) b=if p then zgb P x b else zgb P y b:=by by_cases h:p<;>simp only [h,if_true,if_false]
theorem zqB (st:St) (i:Nat):zfM (some (.normal,st)) i=some (.normal,st):=rfl
theorem zwJ (st:St) (i:Nat):zfM (some (.ret,st)) i=some (.ret,st):=rfl
theorem zun (i j:Nat) (st:St):zfM (some (.exit j,st)) i=match Nat.beq j i with|true=>some (.normal,st)|false=>some (.exit j,st):=rfl
theorem zwI {p:Prop} [Decidable p] (x y:Option (zp×St)) (b:Nat):zfM (if p then x else y) b=if p then zfM x b else zfM y b:=by by_cases h:p<;>simp only [h,if_true,if_false]
theorem zsI (t g:Bool) (c:zy) (st:St) (a b:AC):zfO P (.bool t) g c st a b=if t=true then EV P a (jE g c st) else EV P b (jE g c st):=rfl
theorem zux {p:Prop} [Decidable p] (x y:PV) (g:Bool) (c:zy) (st:St) (a b:AC):zfO P (if p then x else y) g c st a b=if p then zfO P x g c st a b else zfO P y g c st a b:=by by_cases h:p<;>simp only [h,if_true,if_false]
theorem zvz (st:St) (os:List Zg):zf1 P (some st) os=xw P os st:=rfl
theorem zxP {p:Prop} [Decidable p] (x y:Option St) (b:List Zg):zf1 P (if p then x else y) b=if p then zf1 P x b else zf1 P y b:=by by_cases h:p<;>simp only [h,if_true,if_false]
theorem zvH (st:St) (d:Option (Bool×Nat)) (v:PV) (H:zd) (ed:zI):ztw st d (some (v,H,ed))=some (St.put { st with H:=H,ed:=ed++st.ed } d v):=rfl
theorem zwg {p:Prop} [Decidable p] (x y:PV) (w:Bool):wQ (if p then x else y) w=if p then wQ x w else wQ y w:=by by_cases h:p<;>simp only [h,if_true,if_false]
theorem ztZ (b w:Bool):wQ (.bool b) w=some (b==w):=rfl
theorem zwh (w:Bool):wQ .und w=some false:=rfl
theorem zvQ (st:St):regK (some st)=some (.normal,{ st with reg:=[] }):=rfl
theorem zyg {p:Prop} [Decidable p] (x y:Option St):regK (if p then x else y)=if p then regK x else regK y:=by by_cases h:p<;>simp only [h,if_true,if_false]
def zDC:PV->PV->PV->zd->Option (PV×zd×zI)
 |.bool t,x,y,H=>some (if t=true then x else y,H,[])
 |_,_,_,_=>none
theorem zwy (c a b:zy) (st:St):zt P.glob (CL P) st (.pick c a b)=zDC (c.get P.glob st) (a.get P.glob st) (b.get P.glob st) st.H:=by
 simp only [zt];cases c.get P.glob st<;>first|rfl|(rename_i t;cases t<;>rfl)
theorem zvc {p:Prop} [Decidable p] (x y:PV) (H:zd) (e:zI):(if p then some (x,H,e) else some (y,H,e))=some (if p then x else y,H,e):=by by_cases h:p<;>simp only [h,if_true,if_false]
theorem zxi {α:Type} [DecidableEq α] (a b:α):(if a=b then b else a)=a:=by by_cases h:a=b<;>simp [h]
section
variable {p:Prop} [Decidable p]
theorem zva (x y:Bool):(if p then some x else some y)=some (if p then x else y):=by by_cases h:p<;>simp only [h,if_true,if_false]
theorem zvb (x y:St):(if p then some x else some y)=some (if p then x else y):=by by_cases h:p<;>simp only [h,if_true,if_false]
theorem zvd (x y:PV):(if p then some x else some y)=some (if p then x else y):=by by_cases h:p<;>simp only [h,if_true,if_false]
theorem zxl (e:zp) (x y:St):(if p then some (e,x) else some (e,y))=some (e,if p then x else y):=by by_cases h:p<;>simp only [h,if_true,if_false]
theorem zB4 (a a':zk) (b b':zk) (c c':zd) (d d':zI):(if p then St.mk a b c d else St.mk a' b' c' d')=St.mk (if p then a else a') (if p then b else b') (if p then c else c') (if p then d else d'):=by by_cases h:p<;>simp only [h,if_true,if_false]
theorem zAh (n:Nat) (a b:PV) (l m:zk):(if p then (n,a)::l else (n,b)::m)=(n,if p then a else b)::(if p then l else m):=by by_cases h:p<;>simp only [h,if_true,if_false]
theorem zxk (x y:Bool):(if p then PV.bool x else PV.bool y)=PV.bool (if p then x else y):=by by_cases h:p<;>simp only [h,if_true,if_false]
theorem zAi (k:IntKind) (x y:Int):(if p then PV.int k x else PV.int k y)=PV.int k (if p then x else y):=by by_cases h:p<;>simp only [h,if_true,if_false]
theorem zAf (x y:List PV):(if p then PV.agg x else PV.agg y)=PV.agg (if p then x else y):=by by_cases h:p<;>simp only [h,if_true,if_false]
theorem zu' (a b:PV) (l m:List PV):(if p then a::l else b::m)=(if p then a else b)::(if p then l else m):=by by_cases h:p<;>simp only [h,if_true,if_false]
theorem zxj (a b:zZ) (l m:zd):(if p then a::l else b::m)=(if p then a else b)::(if p then l else m):=by by_cases h:p<;>simp only [h,if_true,if_false]
theorem zAg (s:Nat) (l m:List (List PV)):(if p then zZ.cells s l else zZ.cells s m)=zZ.cells s (if p then l else m):=by by_cases h:p<;>simp only [h,if_true,if_false]
theorem zxm (a b:List PV) (l m:List (List PV)):(if p then a::l else b::m)=(if p then a else b)::(if p then l else m):=by by_cases h:p<;>simp only [h,if_true,if_false]
theorem zqW (l m:zk) (n:Nat):zk.get (if p then l else m) n=if p then zk.get l n else zk.get m n:=by by_cases h:p<;>simp only [h,if_true,if_false]
theorem zqX (l m:zk) (n:Nat) (v:PV):zk.put (if p then l else m) n v=if p then zk.put l n v else zk.put m n v:=by by_cases h:p<;>simp only [h,if_true,if_false]
theorem zn8 (l m:zk) (n:Nat):zk.erase (if p then l else m) n=if p then zk.erase l n else zk.erase m n:=by by_cases h:p<;>simp only [h,if_true,if_false]
theorem zz6 (d:Nat) (H:zd) (x y:PV):frz d H (if p then x else y)=if p then frz d H x else frz d H y:=by by_cases h:p<;>simp only [h,if_true,if_false]
end
theorem zC6 (b:Bool):(b==true)=b:=by cases b<;>rfl
theorem zC5 (b:Bool):(b==false)= !b:=by cases b<;>rfl
theorem zAy {α:Type} {p:Prop} [Decidable p] (x y:α):(if ¬p then x else y)=if p then y else x:=by by_cases h:p<;>simp only [h,not_true,not_false_iff,if_true,if_false]
def za {α:Type} [Inhabited α] (l:List α) (i:Int):α:=l.getD i.toNat default
theorem xX {α:Type} [Inhabited α] {l:List α} {i:Int} (h0:0<=i) (h:i<l.length):l[i.toNat]?=some (za l i):=by
 have:i.toNat<l.length:=by omega
 simp [za,List.getD,this]
end
end
section
section
variable {P:xn}
def gv:Option Bool->Option PV->Option PV
 |some b,r=>if b=true then r else some .und
 |none,_=>none
noncomputable def vK (P:xn) (st:St) (d:Option (Bool×Nat)):Option PV->List Zg->Option St
 |some v,os=>xw P os (st.put d v)
 |none,_=>none
@[congr] theorem zEn {st:St} {d:Option (Bool×Nat)} {r r':Option PV} {os:List Zg} (h:r=r'):vK P st d r os=vK P st d r' os:=by rw [h]
theorem zBe (st:St) (d:Option (Bool×Nat)) (v:PV) (os:List Zg):vK P st d (some v) os=xw P os (st.put d v):=rfl
theorem zz_ (b:Bool) (r:Option PV):gv (some b) r=if b=true then r else some .und:=rfl
def zf4:PV->PV->PV->Option PV
 |.bool t,x,y=>some (if t=true then x else y)
 |_,_,_=>none
def YA (agg:Bool) (sz:Nat) (a:PV) (H:zd):Option PV:=match cellsAt H a with|some cs=>yp agg sz cs|none=>none
def zao:PV->Option PV
 |.ptr a b c d=>some (.ptr a b c d)
 |.fp a b=>some (.fp a b)
 |_=>none
def zsT (neg:Bool):PV->PV->Option PV
 |.bool p,.bool q=>some (.bool (JP neg (p==q)))
 |_,_=>none
def zoy (k:IntKind):PV->Option PV
 |.int _ n=>some (.int k (k.wrap n))
 |_=>none
def zkZ (f:Nat) (caps:List PV):Option PV:=if caps.all zH=true then some (.fn f caps) else none
def zet (o:Nat):PV->Option PV
 |.ptr id row off tot=>some (.ptr id row (off+o) tot)
 |.fp cs off=>some (.fp cs (off+o))
 |_=>none
def zhG (agg:Bool) (off sz:Nat):PV->Option PV
 |.agg cs=>yp agg sz (cs.drop off)
 |_=>none
def ZH:PV->Option PV
 |.fz rows=>some (.int .i64 rows.length)
 |.sl _ _ n _=>some (.int .i64 n)
 |.nils=>some (.int .i64 0)
 |_=>none
def zoB:PV->Option PV
 |.str s=>some (.int .i64 s.size)
 |_=>none
def zbT (i:Nat):PV->Option PV
 |.tup vs=>vs[i]?
 |_=>none
def wH (sz:Nat) (H:zd) (x i:PV):Option PV:=match i with
 |.int _ n=>if 0<=n then match x with
   |.fz rows=>match rows[n.toNat]? with
    |some r=>if r.length=sz then some (.fp r 0) else none
    |none=>none
   |.sl id off len tot=>match H[id]? with
    |some (.cells s rows)=>if s=sz/\tot=rows.length/\n<len/\off+len<=tot then some (.ptr id (off+n.toNat) 0 tot) else none
    |_=>none
   |_=>none
  else none
 |_=>none
noncomputable def zbn (P:xn) (H:zd) (f:Nat) (args:List PV):Option PV:=match EP P f (args.map (frz 8 H)) with
 |some v=>if (zn args).isEmpty||jn v then some v else none
 |none=>none
noncomputable def zhw (P:xn) (H:zd) (x:PV) (args:List PV):Option PV:=match x with
 |.fn f caps=>zbn P H f (args++caps)
 |_=>none
def zeg (zero:List PV) (parts:List (Nat×Nat×PV)):Option PV:=if (parts.all λ p=>(cellsOf p.2.2).length==p.2.1)=true then match uc zero (parts.map λ p=>(p.1,cellsOf p.2.2)) with
   |some cs=>some (.agg cs)
   |none=>none
  else none
def zcQ (tag:Nat) (zero:PV) (ok:Bool) (H:zd) (m k:PV):Option PV:=match Xt H m with
  |some es=>match findKey tag k es with
   |some r=>some (zmI zero ok r)
   |none=>none
  |none=>none
theorem wK (st:St) (d:Option (Bool×Nat)) (g:Option (zy×Bool)) (op:uU) (os:List Zg) (r:Option PV) (h:zt P.glob (CL P) st op=r.map λ v=>(v,st.H,[])):
  xw P (.op ⟨d,op,g,false,[]⟩::os) st=vK P st d (match g with|none=>r|some (x,w)=>gv (wQ (x.get P.glob st) w) r) os:=by
 cases g with
 |none=>
  rw [zua,zf0,h];cases r<;>rfl
 |some g=>
  obtain ⟨x,w⟩:=g
  rw [zrM]
  show zf1 P (zjX P (wQ (x.get P.glob st) w) st _) os=vK P st d (gv (wQ (x.get P.glob st) w) r) os
  cases wQ (x.get P.glob st) w with
  |none=>rfl
  |some b=>
   rw [znu,zf0,h]
   cases b
   ·rfl
   ·cases r<;>rfl
variable (st:St) (d:Option (Bool×Nat)) (os:List Zg)
section
variable (w:Bool) (q:zy)
theorem zwa (x:zy):zt P.glob (CL P) st (.copy x)=(some (x.get P.glob st)).map λ v=>(v,st.H,[]):=by rfl
theorem zwe (a b c:zy):zt P.glob (CL P) st (.pick a b c)=(zf4 (a.get P.glob st) (b.get P.glob st) (c.get P.glob st)).map λ v=>(v,st.H,[]):=by rw [zwy];cases a.get P.glob st<;>rfl
theorem zwc (agg:Bool) (sz:Nat) (x:zy):zt P.glob (CL P) st (.load agg sz x)=(YA agg sz (x.get P.glob st) st.H).map λ v=>(v,st.H,[]):=by simp only [zt,YA];cases cellsAt st.H (x.get P.glob st) with|none=>rfl|some cs=>dsimp only;cases yp agg sz cs<;>rfl
theorem zlS (x:zy):zt P.glob (CL P) st (.nilCheck x)=(zao (x.get P.glob st)).map λ v=>(v,st.H,[]):=by simp only [zt];cases x.get P.glob st<;>rfl
theorem zy8 (o:BinOp) (x y:zy):zt P.glob (CL P) st (.bin o x y)=(Av.bin o (x.get P.glob st) (y.get P.glob st)).map λ v=>(v,st.H,[]):=by simp only [zt];cases Av.bin o (x.get P.glob st) (y.get P.glob st)<;>rfl
theorem zy9 (neg:Bool) (x y:zy):zt P.glob (CL P) st (.eqB neg x y)=(zsT neg (x.get P.glob st) (y.get P.glob st)).map λ v=>(v,st.H,[]):=by simp only [zt];cases x.get P.glob st<;>cases y.get P.glob st<;>rfl
theorem zCU (o:UnOp) (x:zy):zt P.glob (CL P) st (.un o x)=(Av.un o (x.get P.glob st)).map λ v=>(v,st.H,[]):=by simp only [zt];cases Av.un o (x.get P.glob st)<;>rfl
theorem zwf (k:zoP) (x:zy):zt P.glob (CL P) st (.prim k x)=(Jg k (x.get P.glob st)).map λ v=>(v,st.H,[]):=by simp only [zt];cases Jg k (x.get P.glob st)<;>rfl
theorem zqq (k:Bool) (x y:zy):zt P.glob (CL P) st (.minmax k x y)=(mmV k (x.get P.glob st) (y.get P.glob st)).map λ v=>(v,st.H,[]):=by simp only [zt];cases mmV k (x.get P.glob st) (y.get P.glob st)<;>rfl
theorem zqo (n sz:Nat) (x y:zy):zt P.glob (CL P) st (.indexP n sz x y)=(zbW n sz (x.get P.glob st) (y.get P.glob st)).map λ v=>(v,st.H,[]):=by simp only [zt];cases zbW n sz (x.get P.glob st) (y.get P.glob st)<;>rfl
theorem zv' (k:IntKind) (x:zy):zt P.glob (CL P) st (.conv k x)=(zoy k (x.get P.glob st)).map λ v=>(v,st.H,[]):=by simp only [zt];cases x.get P.glob st<;>rfl
theorem zwd (f:Nat) (xs:List zy):zt P.glob (CL P) st (.mkfn f xs)=(zkZ f (xs.map (zy.get P.glob st))).map λ v=>(v,st.H,[]):=by simp only [zt,zkZ];cases (xs.map (zy.get P.glob st)).all zH<;>rfl
theorem zqm (n:Nat) (x:zy):zt P.glob (CL P) st (.fieldA n x)=(zet n (x.get P.glob st)).map λ v=>(v,st.H,[]):=by simp only [zt];cases x.get P.glob st<;>rfl
theorem zsk (agg:Bool) (n sz:Nat) (x:zy):zt P.glob (CL P) st (.field agg n sz x)=(zhG agg n sz (x.get P.glob st)).map λ v=>(v,st.H,[]):=by simp only [zt];cases x.get P.glob st with|agg cs=>dsimp only [zhG];cases yp agg sz (cs.drop n)<;>rfl|_=>rfl
theorem zy_ (x:zy):zt P.glob (CL P) st (.len x)=(ZH (x.get P.glob st)).map λ v=>(v,st.H,[]):=by simp only [zt];cases x.get P.glob st<;>rfl
theorem zwb (x:zy):zt P.glob (CL P) st (.lenS x)=(zoB (x.get P.glob st)).map λ v=>(v,st.H,[]):=by simp only [zt];cases x.get P.glob st<;>rfl
theorem znM (x:zy) (n:Nat):zt P.glob (CL P) st (.extract x n)=(zbT n (x.get P.glob st)).map λ v=>(v,st.H,[]):=by simp only [zt];cases x.get P.glob st with|tup vs=>dsimp only [zbT];cases vs[n]?<;>rfl|_=>rfl
theorem zqn (sz:Nat) (x y:zy):zt P.glob (CL P) st (.indexA sz x y)=(wH sz st.H (x.get P.glob st) (y.get P.glob st)).map λ v=>(v,st.H,[]):=by
 simp only [zt,wH]
 cases y.get P.glob st with
 |int k n=>
  by_cases h0:0<=n
  ·simp only [h0,decide_true,if_true]
   cases x.get P.glob st with
   |fz rows=>
    dsimp only
    cases rows[n.toNat]? with
    |none=>rfl
    |some r=>
     dsimp only
     have e:(r.length==sz)=decide (r.length=sz):=by rw [bP];simp
     rw [e]
     by_cases hc:r.length=sz
     ·rw [decide_eq_true hc,if_pos hc];rfl
     ·rw [dV hc,if_neg hc];rfl
   |sl id off len tot=>
    dsimp only
    cases st.H[id]? with
    |none=>rfl
    |some b=>
     cases b with
     |cells s rows=>
      dsimp only
      have e:(s==sz&&tot==rows.length&&decide (n<len)&&decide (off+len<=tot))=decide (s=sz/\tot=rows.length/\n<len/\off+len<=tot):=by rw [bP];simp [and_assoc]
      rw [e]
      by_cases hc:s=sz/\tot=rows.length/\n<len/\off+len<=tot
      ·rw [decide_eq_true hc,if_pos hc];rfl
      ·rw [dV hc,if_neg hc];rfl
     |map es=>rfl
   |_=>rfl
  ·simp [h0]
 |_=>rfl
theorem zv_ (f:Nat) (xs:List zy):zt P.glob (CL P) st (.call .pure f xs)=(zbn P st.H f (xs.map (zy.get P.glob st))).map λ v=>(v,st.H,[]):=by
 show xH (CL P) st.H .pure f (xs.map (zy.get P.glob st))=_
 simp only [xH,zbn,zwi]
 cases EP P f ((xs.map (zy.get P.glob st)).map (frz 8 st.H)) with
 |none=>rfl
 |some v=>dsimp only;cases (zn (xs.map (zy.get P.glob st))).isEmpty||jn v<;>rfl
theorem zsj (x:zy) (xs:List zy):zt P.glob (CL P) st (.callv .pure x xs)=(zhw P st.H (x.get P.glob st) (xs.map (zy.get P.glob st))).map λ v=>(v,st.H,[]):=by
 simp only [zt]
 cases x.get P.glob st with
 |fn f caps=>
  show xH (CL P) st.H .pure f (xs.map (zy.get P.glob st)++caps)=_
  simp only [xH,zhw,zbn,zwi]
  cases EP P f ((xs.map (zy.get P.glob st)++caps).map (frz 8 st.H)) with
  |none=>rfl
  |some v=>dsimp only;cases (zn (xs.map (zy.get P.glob st)++caps)).isEmpty||jn v<;>rfl
 |_=>rfl
theorem zsi (zero:List PV) (parts:List (Nat×Nat×zy)):zt P.glob (CL P) st (.build zero parts)=(zeg zero (parts.map λ p=>(p.1,p.2.1,p.2.2.get P.glob st))).map λ v=>(v,st.H,[]):=by
 simp only [zt,zeg,List.all_map,cZ]
 show (match parts.all λ p=>(cellsOf (p.2.2.get P.glob st)).length==p.2.1 with|true=>_|false=>_)=_
 have:(parts.all ((λ p:Nat×Nat×PV=>(cellsOf p.2.2).length==p.2.1) ∘ λ p:Nat×Nat×zy=>(p.1,p.2.1,p.2.2.get P.glob st)))=parts.all λ p=>(cellsOf (p.2.2.get P.glob st)).length==p.2.1:=rfl
 rw [this]
 cases parts.all λ p=>(cellsOf (p.2.2.get P.glob st)).length==p.2.1 with
 |false=>rfl
 |true=>
  dsimp only [if_true]
  have h2:((λ p:Nat×Nat×PV=>(p.1,cellsOf p.2.2)) ∘ λ p:Nat×Nat×zy=>(p.1,p.2.1,p.2.2.get P.glob st))=λ p=>(p.1,cellsOf (p.2.2.get P.glob st)):=rfl
  rw [h2]
  cases uc zero (parts.map λ p=>(p.1,cellsOf (p.2.2.get P.glob st)))<;>rfl
theorem zqp (tag:Nat) (zero:PV) (ok:Bool) (x y:zy):zt P.glob (CL P) st (.lookup tag zero ok x y)=(zcQ tag zero ok st.H (x.get P.glob st) (y.get P.glob st)).map λ v=>(v,st.H,[]):=by
 simp only [zt,zcQ]
 cases Xt st.H (x.get P.glob st) with
 |none=>rfl
 |some es=>dsimp only;cases findKey tag (y.get P.glob st) es<;>rfl
theorem zBy (x:zy):xw P (.op ⟨d,.copy x,none,false,[]⟩::os) st=vK P st d (some (x.get P.glob st)) os:=wK st d none _ os _ (zwa st x)
theorem zzh (x:zy):xw P (.op ⟨d,.copy x,some (q,w),false,[]⟩::os) st=vK P st d (gv (wQ (q.get P.glob st) w) (some (x.get P.glob st))) os:=wK st d (some (q,w)) _ os _ (zwa st x)
theorem zBE (a b c:zy):xw P (.op ⟨d,.pick a b c,none,false,[]⟩::os) st=vK P st d (zf4 (a.get P.glob st) (b.get P.glob st) (c.get P.glob st)) os:=wK st d none _ os _ (zwe st a b c)
theorem zzl (a b c:zy):xw P (.op ⟨d,.pick a b c,some (q,w),false,[]⟩::os) st=vK P st d (gv (wQ (q.get P.glob st) w) (zf4 (a.get P.glob st) (b.get P.glob st) (c.get P.glob st))) os:=wK st d (some (q,w)) _ os _ (zwe st a b c)
theorem zBC (agg:Bool) (sz:Nat) (x:zy):xw P (.op ⟨d,.load agg sz x,none,false,[]⟩::os) st=vK P st d (YA agg sz (x.get P.glob st) st.H) os:=wK st d none _ os _ (zwc st agg sz x)
theorem zzj (agg:Bool) (sz:Nat) (x:zy):xw P (.op ⟨d,.load agg sz x,some (q,w),false,[]⟩::os) st=vK P st d (gv (wQ (q.get P.glob st) w) (YA agg sz (x.get P.glob st) st.H)) os:=wK st d (some (q,w)) _ os _ (zwc st agg sz x)
theorem zss (x:zy):xw P (.op ⟨d,.nilCheck x,none,false,[]⟩::os) st=vK P st d (zao (x.get P.glob st)) os:=wK st d none _ os _ (zlS st x)
theorem zqx (x:zy):xw P (.op ⟨d,.nilCheck x,some (q,w),false,[]⟩::os) st=vK P st d (gv (wQ (q.get P.glob st) w) (zao (x.get P.glob st))) os:=wK st d (some (q,w)) _ os _ (zlS st x)
theorem zC0 (o:BinOp) (x y:zy):xw P (.op ⟨d,.bin o x y,none,false,[]⟩::os) st=vK P st d (Av.bin o (x.get P.glob st) (y.get P.glob st)) os:=wK st d none _ os _ (zy8 st o x y)
theorem zBs (o:BinOp) (x y:zy):xw P (.op ⟨d,.bin o x y,some (q,w),false,[]⟩::os) st=vK P st d (gv (wQ (q.get P.glob st) w) (Av.bin o (x.get P.glob st) (y.get P.glob st))) os:=wK st d (some (q,w)) _ os _ (zy8 st o x y)
theorem zC1 (neg:Bool) (x y:zy):xw P (.op ⟨d,.eqB neg x y,none,false,[]⟩::os) st=vK P st d (zsT neg (x.get P.glob st) (y.get P.glob st)) os:=wK st d none _ os _ (zy9 st neg x y)
theorem zBt (neg:Bool) (x y:zy):xw P (.op ⟨d,.eqB neg x y,some (q,w),false,[]⟩::os) st=vK P st d (gv (wQ (q.get P.glob st) w) (zsT neg (x.get P.glob st) (y.get P.glob st))) os:=wK st d (some (q,w)) _ os _ (zy9 st neg x y)
theorem zDU (o:UnOp) (x:zy):xw P (.op ⟨d,.un o x,none,false,[]⟩::os) st=vK P st d (Av.un o (x.get P.glob st)) os:=wK st d none _ os _ (zCU st o x)
theorem zCY (o:UnOp) (x:zy):xw P (.op ⟨d,.un o x,some (q,w),false,[]⟩::os) st=vK P st d (gv (wQ (q.get P.glob st) w) (Av.un o (x.get P.glob st))) os:=wK st d (some (q,w)) _ os _ (zCU st o x)
theorem zBF (k:zoP) (x:zy):xw P (.op ⟨d,.prim k x,none,false,[]⟩::os) st=vK P st d (Jg k (x.get P.glob st)) os:=wK st d none _ os _ (zwf st k x)
theorem zzm (k:zoP) (x:zy):xw P (.op ⟨d,.prim k x,some (q,w),false,[]⟩::os) st=vK P st d (gv (wQ (q.get P.glob st) w) (Jg k (x.get P.glob st))) os:=wK st d (some (q,w)) _ os _ (zwf st k x)
theorem zwx (k:Bool) (x y:zy):xw P (.op ⟨d,.minmax k x y,none,false,[]⟩::os) st=vK P st d (mmV k (x.get P.glob st) (y.get P.glob st)) os:=wK st d none _ os _ (zqq st k x y)
theorem zt_ (k:Bool) (x y:zy):xw P (.op ⟨d,.minmax k x y,some (q,w),false,[]⟩::os) st=vK P st d (gv (wQ (q.get P.glob st) w) (mmV k (x.get P.glob st) (y.get P.glob st))) os:=wK st d (some (q,w)) _ os _ (zqq st k x y)
theorem zwv (n sz:Nat) (x y:zy):xw P (.op ⟨d,.indexP n sz x y,none,false,[]⟩::os) st=vK P st d (zbW n sz (x.get P.glob st) (y.get P.glob st)) os:=wK st d none _ os _ (zqo st n sz x y)
theorem zt8 (n sz:Nat) (x y:zy):xw P (.op ⟨d,.indexP n sz x y,some (q,w),false,[]⟩::os) st=vK P st d (gv (wQ (q.get P.glob st) w) (zbW n sz (x.get P.glob st) (y.get P.glob st))) os:=wK st d (some (q,w)) _ os _ (zqo st n sz x y)
theorem zBx (k:IntKind) (x:zy):xw P (.op ⟨d,.conv k x,none,false,[]⟩::os) st=vK P st d (zoy k (x.get P.glob st)) os:=wK st d none _ os _ (zv' st k x)
theorem zzg (k:IntKind) (x:zy):xw P (.op ⟨d,.conv k x,some (q,w),false,[]⟩::os) st=vK P st d (gv (wQ (q.get P.glob st) w) (zoy k (x.get P.glob st))) os:=wK st d (some (q,w)) _ os _ (zv' st k x)
theorem zBD (f:Nat) (xs:List zy):xw P (.op ⟨d,.mkfn f xs,none,false,[]⟩::os) st=vK P st d (zkZ f (xs.map (zy.get P.glob st))) os:=wK st d none _ os _ (zwd st f xs)
theorem zzk (f:Nat) (xs:List zy):xw P (.op ⟨d,.mkfn f xs,some (q,w),false,[]⟩::os) st=vK P st d (gv (wQ (q.get P.glob st) w) (zkZ f (xs.map (zy.get P.glob st)))) os:=wK st d (some (q,w)) _ os _ (zwd st f xs)
theorem zwt (n:Nat) (x:zy):xw P (.op ⟨d,.fieldA n x,none,false,[]⟩::os) st=vK P st d (zet n (x.get P.glob st)) os:=wK st d none _ os _ (zqm st n x)
theorem zt6 (n:Nat) (x:zy):xw P (.op ⟨d,.fieldA n x,some (q,w),false,[]⟩::os) st=vK P st d (gv (wQ (q.get P.glob st) w) (zet n (x.get P.glob st))) os:=wK st d (some (q,w)) _ os _ (zqm st n x)
theorem zzr (agg:Bool) (n sz:Nat) (x:zy):xw P (.op ⟨d,.field agg n sz x,none,false,[]⟩::os) st=vK P st d (zhG agg n sz (x.get P.glob st)) os:=wK st d none _ os _ (zsk st agg n sz x)
theorem zwr (agg:Bool) (n sz:Nat) (x:zy):xw P (.op ⟨d,.field agg n sz x,some (q,w),false,[]⟩::os) st=vK P st d (gv (wQ (q.get P.glob st) w) (zhG agg n sz (x.get P.glob st))) os:=wK st d (some (q,w)) _ os _ (zsk st agg n sz x)
theorem zC2 (x:zy):xw P (.op ⟨d,.len x,none,false,[]⟩::os) st=vK P st d (ZH (x.get P.glob st)) os:=wK st d none _ os _ (zy_ st x)
theorem zBu (x:zy):xw P (.op ⟨d,.len x,some (q,w),false,[]⟩::os) st=vK P st d (gv (wQ (q.get P.glob st) w) (ZH (x.get P.glob st))) os:=wK st d (some (q,w)) _ os _ (zy_ st x)
theorem zBB (x:zy):xw P (.op ⟨d,.lenS x,none,false,[]⟩::os) st=vK P st d (zoB (x.get P.glob st)) os:=wK st d none _ os _ (zwb st x)
theorem zzi (x:zy):xw P (.op ⟨d,.lenS x,some (q,w),false,[]⟩::os) st=vK P st d (gv (wQ (q.get P.glob st) w) (zoB (x.get P.glob st))) os:=wK st d (some (q,w)) _ os _ (zwb st x)
theorem zub (x:zy) (n:Nat):xw P (.op ⟨d,.extract x n,none,false,[]⟩::os) st=vK P st d (zbT n (x.get P.glob st)) os:=wK st d none _ os _ (znM st x n)
theorem zsr (x:zy) (n:Nat):xw P (.op ⟨d,.extract x n,some (q,w),false,[]⟩::os) st=vK P st d (gv (wQ (q.get P.glob st) w) (zbT n (x.get P.glob st))) os:=wK st d (some (q,w)) _ os _ (znM st x n)
theorem zwu (sz:Nat) (x y:zy):xw P (.op ⟨d,.indexA sz x y,none,false,[]⟩::os) st=vK P st d (wH sz st.H (x.get P.glob st) (y.get P.glob st)) os:=wK st d none _ os _ (zqn st sz x y)
theorem zt7 (sz:Nat) (x y:zy):xw P (.op ⟨d,.indexA sz x y,some (q,w),false,[]⟩::os) st=vK P st d (gv (wQ (q.get P.glob st) w) (wH sz st.H (x.get P.glob st) (y.get P.glob st))) os:=wK st d (some (q,w)) _ os _ (zqn st sz x y)
theorem zBw (f:Nat) (xs:List zy):xw P (.op ⟨d,.call .pure f xs,none,false,[]⟩::os) st=vK P st d (zbn P st.H f (xs.map (zy.get P.glob st))) os:=wK st d none _ os _ (zv_ st f xs)
theorem zzf (f:Nat) (xs:List zy):xw P (.op ⟨d,.call .pure f xs,some (q,w),false,[]⟩::os) st=vK P st d (gv (wQ (q.get P.glob st) w) (zbn P st.H f (xs.map (zy.get P.glob st)))) os:=wK st d (some (q,w)) _ os _ (zv_ st f xs)
theorem zzp (x:zy) (xs:List zy):xw P (.op ⟨d,.callv .pure x xs,none,false,[]⟩::os) st=vK P st d (zhw P st.H (x.get P.glob st) (xs.map (zy.get P.glob st))) os:=wK st d none _ os _ (zsj st x xs)
theorem zwq (x:zy) (xs:List zy):xw P (.op ⟨d,.callv .pure x xs,some (q,w),false,[]⟩::os) st=vK P st d (gv (wQ (q.get P.glob st) w) (zhw P st.H (x.get P.glob st) (xs.map (zy.get P.glob st)))) os:=wK st d (some (q,w)) _ os _ (zsj st x xs)
theorem zzo (zero:List PV) (parts:List (Nat×Nat×zy)):xw P (.op ⟨d,.build zero parts,none,false,[]⟩::os) st=vK P st d (zeg zero (parts.map λ p=>(p.1,p.2.1,p.2.2.get P.glob st))) os:=wK st d none _ os _ (zsi st zero parts)
theorem zwp (zero:List PV) (parts:List (Nat×Nat×zy)):xw P (.op ⟨d,.build zero parts,some (q,w),false,[]⟩::os) st=vK P st d (gv (wQ (q.get P.glob st) w) (zeg zero (parts.map λ p=>(p.1,p.2.1,p.2.2.get P.glob st)))) os:=wK st d (some (q,w)) _ os _ (zsi st zero parts)
theorem zww (tag:Nat) (zero:PV) (ok:Bool) (x y:zy):xw P (.op ⟨d,.lookup tag zero ok x y,none,false,[]⟩::os) st=vK P st d (zcQ tag zero ok st.H (x.get P.glob st) (y.get P.glob st)) os:=wK st d none _ os _ (zqp st tag zero ok x y)
theorem zt9 (tag:Nat) (zero:PV) (ok:Bool) (x y:zy):xw P (.op ⟨d,.lookup tag zero ok x y,some (q,w),false,[]⟩::os) st=vK P st d (gv (wQ (q.get P.glob st) w) (zcQ tag zero ok st.H (x.get P.glob st) (y.get P.glob st))) os:=wK st d (some (q,w)) _ os _ (zqp st tag zero ok x y)
end
end
end
section
section
variable {P:xn}
def ztf (agg:Bool) (sz off:Nat):Bool->Option (List PV)->Option PV
 |true,some cs=>yp agg sz (cs.drop off)
 |_,_=>none
def zte (agg:Bool) (sz row off tot:Nat):Option zZ->Option PV
 |some (.cells _ rows)=>ztf agg sz off (decide (tot=rows.length)) rows[row]?
 |_=>none
theorem zxx (agg:Bool) (sz:Nat) (cs:List PV) (off:Nat) (H:zd):YA agg sz (.fp cs off) H=yp agg sz (cs.drop off):=rfl
theorem zvq (agg:Bool) (sz id row off tot:Nat) (H:zd):YA agg sz (.ptr id row off tot) H=zte agg sz row off tot H[id]?:=by
 simp only [YA,cellsAt]
 cases H[id]? with
 |none=>rfl
 |some b=>
  cases b with
  |cells s rows=>
   simp only [zte]
   have:(tot==rows.length)=decide (tot=rows.length):=by rw [bP];simp
   rw [this]
   cases decide (tot=rows.length)<;>cases rows[row]?<;>rfl
  |map es=>rfl
theorem zyH (sz:Nat) (c:PV) (cs:List PV):yp false sz (c::cs)=some c:=rfl
theorem zyG (sz:Nat) (cs:List PV):yp true sz cs=if sz<=cs.length then some (.agg (cs.take sz)) else none:=by
 rw [yp];cases h:Nat.ble sz cs.length with
 |true=>rw [if_pos (dP h)]
 |false=>rw [if_neg (λ h2=>by rw [Nat.ble_eq_true_of_le h2] at h;cases h)]
def zBU (sz:Nat):Option (List PV)->Option PV
 |some r=>if r.length=sz then some (.fp r 0) else none
 |none=>none
def zhQ (sz off len tot:Nat) (id:Nat) (n:Int):Option zZ->Option PV
 |some (.cells s rows)=>if s=sz/\tot=rows.length/\n<len/\off+len<=tot then some (.ptr id (off+n.toNat) 0 tot) else none
 |_=>none
theorem KZ (sz:Nat) (H:zd) (rows:List (List PV)) (k:IntKind) (n:Int):wH sz H (.fz rows) (.int k n)=if 0<=n then zBU sz rows[n.toNat]? else none:=by
 rw [wH];cases rows[n.toNat]?<;>rfl
theorem zs9 (sz:Nat) (H:zd) (id off len tot:Nat) (k:IntKind) (n:Int):wH sz H (.sl id off len tot) (.int k n)=if 0<=n then zhQ sz off len tot id n H[id]? else none:=by
 rw [wH];cases H[id]? with
 |none=>rfl
 |some b=>cases b<;>rfl
theorem zkR (sz off len tot id:Nat) (n:Int) (s:Nat) (rows:List (List PV)) (h1:s=sz) (h2:tot=rows.length) (h3:n<len) (h4:off+len<=tot):zhQ sz off len tot id n (some (.cells s rows))=some (.ptr id (off+n.toNat) 0 tot):=by
 rw [zhQ,if_pos ⟨h1,h2,h3,h4⟩]
def zkr (args:List PV):Option PV->Option PV
 |some v=>if ((zn args).isEmpty||jn v)=true then some v else none
 |none=>none
theorem zwL (H:zd) (f:Nat) (args:List PV):zbn P H f args=zkr args (EP P f (args.map (frz 8 H))):=by
 rw [zbn];cases EP P f (args.map (frz 8 H))<;>rfl
theorem zus (H:zd) (f:Nat) (caps args:List PV):zhw P H (.fn f caps) args=zbn P H f (args++caps):=rfl
theorem zsB (args:List PV) (v:PV):zkr args (some v)=if ((zn args).isEmpty||jn v)=true then some v else none:=rfl
theorem zur {p:Prop} [Decidable p] (args:List PV) (x y:Option PV):zkr args (if p then x else y)=if p then zkr args x else zkr args y:=by by_cases h:p<;>simp only [h,if_true,if_false]
theorem zrg (agg:Bool) (sz row off tot s:Nat) (rows:List (List PV)):zte agg sz row off tot (some (.cells s rows))=ztf agg sz off (decide (tot=rows.length)) rows[row]?:=rfl
theorem ztg (agg:Bool) (sz off:Nat) (cs:List PV):ztf agg sz off true (some cs)=yp agg sz (cs.drop off):=rfl
theorem zuZ (sz:Nat) (r:List PV):zBU sz (some r)=if r.length=sz then some (.fp r 0) else none:=rfl
theorem ztr (t:Bool) (x y:PV):zf4 (.bool t) x y=some (if t=true then x else y):=rfl
theorem zvA {p:Prop} [Decidable p] (a b x y:PV):zf4 (if p then a else b) x y=if p then zf4 a x y else zf4 b x y:=by by_cases h:p<;>simp only [h,if_true,if_false]
theorem zn' (a b c d:Nat):zao (.ptr a b c d)=some (.ptr a b c d):=rfl
theorem zpI (a:List PV) (b:Nat):zao (.fp a b)=some (.fp a b):=rfl
theorem zuL (neg p q:Bool):zsT neg (.bool p) (.bool q)=some (.bool (JP neg (p==q))):=rfl
theorem zCn (b:Bool):JP true b= !b:=rfl
theorem zCm (b:Bool):JP false b=b:=rfl
theorem ztt (n:Nat):Jg .fbits (.flt .f64 n)=some (.int .u64 n):=rfl
theorem zvF (k:IntKind) (n:Int):Jg .i2f (.int k n)=some (.flt .f64 (FloatKind.f64.nearest n)):=rfl
theorem zAw (k k':IntKind) (x y:Int):mmV true (.int k x) (.int k' y)=some (.int k (if y>x then y else x)):=rfl
theorem zAx (k k':IntKind) (x y:Int):mmV false (.int k x) (.int k' y)=some (.int k (if y<x then y else x)):=rfl
theorem zxa (n sz a b c d:Nat) (k:IntKind) (j:Int) (h0:0<=j) (h1:j<n):zbW n sz (.ptr a b c d) (.int k j)=some (.ptr a b (c+j.toNat*sz) d):=by
 have:(decide (0<=j)&&decide (j<(n:Int)))=true:=by simp [h0,h1]
 simp only [zbW,this]
theorem zuy (k k':IntKind) (n:Int):zoy k (.int k' n)=some (.int k (k.wrap n)):=rfl
theorem zq6 (o a b c d:Nat):zet o (.ptr a b c d)=some (.ptr a b (c+o) d):=rfl
theorem zsY (o:Nat) (a:List PV) (b:Nat):zet o (.fp a b)=some (.fp a (b+o)):=rfl
theorem zsZ (agg:Bool) (o sz:Nat) (cs:List PV):zhG agg o sz (.agg cs)=yp agg sz (cs.drop o):=rfl
theorem zAk (rows:List (List PV)):ZH (.fz rows)=some (.int .i64 rows.length):=rfl
theorem zAl (a b c d:Nat):ZH (.sl a b c d)=some (.int .i64 c):=rfl
theorem zvj:ZH .nils=some (.int .i64 0):=rfl
theorem zvi (s:ByteArray):zoB (.str s)=some (.int .i64 s.size):=rfl
theorem zpo (i:Nat) (vs:List PV):zbT i (.tup vs)=vs[i]?:=rfl
section
variable (k:IntKind) (x y:Int)
theorem zzu:Av.bin .add (.int k x) (.int k y)=some (.int k (k.wrap (x+y))):=by simp [Av.bin,Zj]
theorem zzE:Av.bin .sub (.int k x) (.int k y)=some (.int k (k.wrap (x-y))):=by simp [Av.bin,Zj]
theorem zzA:Av.bin .mul (.int k x) (.int k y)=some (.int k (k.wrap (x*y))):=by simp [Av.bin,Zj]
theorem zzD (h:y≠0):Av.bin .rem (.int k x) (.int k y)=some (.int k (x.tmod y)):=by simp [Av.bin,Zj,h]
theorem zzC (h:y≠0):Av.bin .quo (.int k x) (.int k y)=some (.int k (k.wrap (x.tdiv y))):=by simp [Av.bin,Zj,h]
theorem zzv:Av.bin .eql (.int k x) (.int k y)=some (.bool (decide (x=y))):=by simp [Av.bin,Zj];rw [bP];simp
theorem zzB:Av.bin .neq (.int k x) (.int k y)=some (.bool (!decide (x=y))):=by simp [Av.bin,Zj];rw [bP];simp
theorem zzz:Av.bin .lss (.int k x) (.int k y)=some (.bool (decide (x<y))):=by simp [Av.bin,Zj]
theorem zzy:Av.bin .leq (.int k x) (.int k y)=some (.bool (decide (x<=y))):=by simp [Av.bin,Zj]
theorem zzx:Av.bin .gtr (.int k x) (.int k y)=some (.bool (decide (y<x))):=by simp [Av.bin,Zj]
theorem zzw:Av.bin .geq (.int k x) (.int k y)=some (.bool (decide (y<=x))):=by simp [Av.bin,Zj]
end
section
variable (k:FloatKind) (x y:Nat)
theorem zwz:Av.bin .eql (.flt k x) (.flt k y)=some (.bool (decide (k.format.order x y=some .eq))):=by simp [Av.bin,KS];rw [bP];simp
theorem zwC:Av.bin .neq (.flt k x) (.flt k y)=some (.bool (!decide (k.format.order x y=some .eq))):=by simp [Av.bin,KS];rw [bP];simp [bne]
theorem zwB:Av.bin .lss (.flt k x) (.flt k y)=some (.bool (decide (k.format.order x y=some .lt))):=by simp [Av.bin,KS];rw [bP];simp
theorem zwA:Av.bin .gtr (.flt k x) (.flt k y)=some (.bool (decide (k.format.order x y=some .gt))):=by simp [Av.bin,KS];rw [bP];simp
end
theorem zwF (x y:ByteArray):Av.bin .eql (.str x) (.str y)=some (.bool (decide (x.toList=y.toList))):=by simp [Av.bin,zbK];rw [bP];simp
theorem zwG (x y:ByteArray):Av.bin .neq (.str x) (.str y)=some (.bool (!decide (x.toList=y.toList))):=by simp [Av.bin,zbK];rw [bP];simp
theorem zCT (b:Bool):Av.un .not (.bool b)=some (.bool !b):=rfl
theorem zCS (k:IntKind) (n:Int):Av.un .neg (.int k n)=some (.int k (k.wrap (0-n))):=rfl
theorem zqE (cs:List PV):cellsOf (.agg cs)=cs:=rfl
theorem zqG (k:IntKind) (n:Int):cellsOf (.int k n)=[.int k n]:=rfl
theorem zoZ (b:Bool):cellsOf (.bool b)=[.bool b]:=rfl
theorem zqI (s:ByteArray):cellsOf (.str s)=[.str s]:=rfl
theorem zqF (k:FloatKind) (n:Nat):cellsOf (.flt k n)=[.flt k n]:=rfl
theorem zsF (r:List (List PV)):cellsOf (.fz r)=[.fz r]:=rfl
theorem zsE (r:List PV) (o:Nat):cellsOf (.fp r o)=[.fp r o]:=rfl
theorem zsH (a b c d:Nat):cellsOf (.sl a b c d)=[.sl a b c d]:=rfl
theorem zqH (a b c d:Nat):cellsOf (.ptr a b c d)=[.ptr a b c d]:=rfl
theorem zo3:cellsOf .nils=[.nils]:=rfl
theorem zo1:cellsOf .nilm=[.nilm]:=rfl
theorem zo0:cellsOf .nilf=[.nilf]:=rfl
theorem zo2:cellsOf .nilp=[.nilp]:=rfl
theorem zsG (a:Nat):cellsOf (.mp a)=[.mp a]:=rfl
theorem zsC (a:List (PV×PV)):cellsOf (.fm a)=[.fm a]:=rfl
theorem zsD (f:Nat) (c:List PV):cellsOf (.fn f c)=[.fn f c]:=rfl
theorem zta (k:IntKind) (n:Int):zH (.int k n)=true:=rfl
theorem zq_ (b:Bool):zH (.bool b)=true:=rfl
theorem ztc (s:ByteArray):zH (.str s)=true:=rfl
theorem zs' (k:FloatKind) (n:Nat):zH (.flt k n)=true:=rfl
theorem zu8 (r:List (List PV)):zH (.fz r)=true:=rfl
theorem zu7 (r:List PV) (o:Nat):zH (.fp r o)=true:=rfl
theorem zu_ (a b c d:Nat):zH (.sl a b c d)=true:=rfl
theorem ztb (a b c d:Nat):zH (.ptr a b c d)=true:=rfl
theorem zrc:zH .nils=true:=rfl
theorem zra:zH .nilm=true:=rfl
theorem zq':zH .nilf=true:=rfl
theorem zrb:zH .nilp=true:=rfl
theorem zu9 (a:Nat):zH (.mp a)=true:=rfl
theorem zu5 (a:List (PV×PV)):zH (.fm a)=true:=rfl
theorem zu6 (f:Nat) (c:List PV):zH (.fn f c)=true:=rfl
def zjP (H:zd):Option (List PV)->Option PV
 |some vs=>some (frz 8 H (jG vs))
 |none=>none
theorem zuG (H:zd) (vs:List PV):zjP H (some vs)=some (frz 8 H (jG vs)):=rfl
theorem zqU (F:zL) (st:St):Wu F (some (.ret,st))=zjP st.H (results st F.res):=by simp only [Wu];cases results st F.res<;>rfl
theorem zmx (F:zL) (st:St):Wu F (some (.normal,st))=zjP st.H (results st F.res):=by simp only [Wu];cases results st F.res<;>rfl
def yD (rs:List jw):Option (zp×St)->Option PV
 |some (.normal,st)=>zjP st.H (Go.Av.results st rs)
 |some (.ret,st)=>zjP st.H (Go.Av.results st rs)
 |_=>none
theorem zwX (rs:List jw) (st:St):yD rs (some (.ret,st))=zjP st.H (Go.Av.results st rs):=rfl
theorem zqT (rs:List jw) (st:St):yD rs (some (.normal,st))=zjP st.H (Go.Av.results st rs):=rfl
theorem zwW {p:Prop} [Decidable p] (rs:List jw) (x y:Option (zp×St)):yD rs (if p then x else y)=if p then yD rs x else yD rs y:=by by_cases h:p<;>simp only [h,if_true,if_false]
theorem yn {f:Nat} {args:List PV} {F:zL} (hf:P.fn f=some F) (hn:F.np=args.length):EP P f args=yD F.res (EV P F.code { per:=params 0 args,reg:=[],H:=[],ed:=[] }):=by
 rw [zCW hf hn]
 cases EV P F.code { per:=params 0 args,reg:=[],H:=[],ed:=[] } with
 |none=>rfl
 |some r=>
  obtain ⟨e,st⟩:=r
  cases e with
  |normal=>exact zmx F st
  |ret=>exact zqU F st
  |exit i=>rfl
def zyi:Option PV->Option (List PV)->Option (List PV)
 |some v,some vs=>some (v::vs)
 |_,_=>none
theorem zvS (v:PV) (vs:List PV):zyi (some v) (some vs)=some (v::vs):=rfl
theorem zrq (st:St) (n:Nat) (rs:List jw):Go.Av.results st (.tmp n::rs)=zyi (some (st.per.get n)) (Go.Av.results st rs):=by rw [zh9];simp only [jw.get];cases Go.Av.results st rs<;>rfl
theorem zpU (st:St) (n:Nat) (agg:Bool) (sz:Nat) (rs:List jw):Go.Av.results st (.cell n agg sz::rs)=zyi (YA agg sz (st.per.get n) st.H) (Go.Av.results st rs):=by
 rw [zh9];simp only [jw.get,YA]
 cases cellsAt st.H (st.per.get n) with
 |none=>rfl
 |some cs=>dsimp only;cases yp agg sz cs<;>cases Go.Av.results st rs<;>rfl
def zfP (n:Nat) (H:zd) (ed:zI):Option (List PV)->Option (PV×zd×zI)
 |some vs=>some (jG vs,(trim n vs H ed).1,(trim n vs H ed).2)
 |none=>none
theorem zkG (n:Nat) (H:zd) (ed:zI) (vs:List PV):zfP n H ed (some vs)=some (jG vs,(trim n vs H ed).1,(trim n vs H ed).2):=rfl
theorem zn7 (n:Nat) (F:zL) (st:St):kN n F (some (.ret,st))=zfP n st.H st.ed (results st F.res):=by simp only [kN];cases results st F.res<;>rfl
theorem zjQ (n:Nat) (F:zL) (st:St):kN n F (some (.normal,st))=zfP n st.H st.ed (results st F.res):=by simp only [kN];cases results st F.res<;>rfl
def vY (n:Nat) (rs:List jw):Option (zp×St)->Option (PV×zd×zI)
 |some (.normal,st)=>zfP n st.H st.ed (Go.Av.results st rs)
 |some (.ret,st)=>zfP n st.H st.ed (Go.Av.results st rs)
 |_=>none
theorem zph (n:Nat) (rs:List jw) (st:St):vY n rs (some (.ret,st))=zfP n st.H st.ed (Go.Av.results st rs):=rfl
theorem zqV (n:Nat) (rs:List jw) (st:St):vY n rs (some (.normal,st))=zfP n st.H st.ed (Go.Av.results st rs):=rfl
theorem zwY {p:Prop} [Decidable p] (n:Nat) (rs:List jw) (x y:Option (zp×St)):vY n rs (if p then x else y)=if p then vY n rs x else vY n rs y:=by by_cases h:p<;>simp only [h,if_true,if_false]
theorem vR {f:Nat} {args:List PV} {H:zd} {F:zL} (hf:P.fn f=some F) (hn:F.np=args.length):ES P f args H=vY H.length F.res (EV P F.code { per:=params 0 args,reg:=[],H:=H,ed:=[] }):=by
 rw [zCX hf hn]
 cases EV P F.code { per:=params 0 args,reg:=[],H:=H,ed:=[] } with
 |none=>rfl
 |some r=>
  obtain ⟨e,st⟩:=r
  cases e with
  |normal=>exact zjQ _ F st
  |ret=>exact zn7 _ F st
  |exit i=>rfl
theorem ztC (v:PV):jG [v]=v:=rfl
theorem ztB:jG []=.tup []:=rfl
theorem ztD (v w:PV) (l:List PV):jG (v::w::l)=.tup (v::w::l):=rfl
theorem zts (b:Bool):jn (.bool b)=true:=rfl
theorem zvD (k:IntKind) (b:Int):jn (.int k b)=true:=rfl
theorem zvE (b:ByteArray):jn (.str b)=true:=rfl
theorem zvC (k:FloatKind) (b:Nat):jn (.flt k b)=true:=rfl
end
end
section
section
variable {α:Type} [Inhabited α]
theorem zrW (sz:Nat) (H:zd) (f:α->List PV) (l:List α) (k:IntKind) (i:Int) (h0:0<=i) (h:i<l.length):wH sz H (.fz (l.map f)) (.int k i)=if (f (za l i)).length=sz then some (.fp (f (za l i)) 0) else none:=by
 rw [KZ,if_pos h0,aN,xX h0 h];rfl
theorem zpu (sz:Nat) (H:zd) (id off len tot:Nat) (k:IntKind) (n:Int) (h:0<=n):wH sz H (.sl id off len tot) (.int k n)=zhQ sz off len tot id n H[id]?:=by rw [zs9,if_pos h]
end
end
section
section
variable {P:xn}
theorem Yr {body:AC} {σ:Type} (S:σ->St) (ok:σ->Prop) (μ:σ->Nat) (Q:σ->zp×St->Prop)
  (h:∀ a,ok a->(∃ r,EV P body (S a)=some r/\r.1≠.normal/\Q a r)\/(∃ a' st',ok a'/\μ a'<μ a/\EV P body (S a)=some (.normal,st')/\(S a).next st'=S a'/\∀ r,Q a' r->Q a r)):
  ∀ a,ok a->∃ r,EV P (.loop body) (S a)=some r/\Q a r:=by
 suffices hs:∀ n a,ok a->μ a<=n->∃ r,EV P (.loop body) (S a)=some r/\Q a r from λ a ha=>hs (μ a) a ha (aS _)
 intro n
 induction n with
 |zero=>
  intro a ha hn
  rcases h a ha with ⟨r,he,hr,hq⟩|⟨a',st',_,hl,_⟩
  ·refine ⟨r,?_,hq⟩
   rw [uK,he];obtain ⟨e,s⟩:=r;cases e<;>first|rfl|exact absurd rfl hr
  ·omega
 |succ n ih=>
  intro a ha hn
  rcases h a ha with ⟨r,he,hr,hq⟩|⟨a',st',ha',hl,he,hs,hq⟩
  ·refine ⟨r,?_,hq⟩
   rw [uK,he];obtain ⟨e,s⟩:=r;cases e<;>first|rfl|exact absurd rfl hr
  ·obtain ⟨r,hr,hqr⟩:=ih a' ha' (by omega)
   refine ⟨r,?_,hq r hqr⟩
   rw [uK,he];show EV P (.loop body) ((S a).next st')=_;rw [hs,hr]
theorem uE {body:AC} {σ:Type} (S:σ->St) (ok:σ->Prop) (μ:σ->Nat) (R:σ->zp×St)
  (h:∀ a,ok a->(EV P body (S a)=some (R a)/\(R a).1≠.normal)\/(∃ a' st',ok a'/\μ a'<μ a/\EV P body (S a)=some (.normal,st')/\(S a).next st'=S a'/\R a'=R a)):
  ∀ a,ok a->EV P (.loop body) (S a)=some (R a):=by
 intro a ha
 obtain ⟨r,hr,hq⟩:=Yr S ok μ (λ a r=>r=R a) (λ a ha=>by
  rcases h a ha with ⟨he,hr⟩|⟨a',st',ha',hl,he,hs,hq⟩
  ·exact .inl ⟨_,he,hr,rfl⟩
  ·exact .inr ⟨a',st',ha',hl,he,hs,λ r h=>by rw [h,hq]⟩) a ha
 rw [hr,hq]
end
theorem zqs {x:Int} (h1: -9223372036854775808<=x) (h2:x<9223372036854775808):IntKind.i64.wrap x=x:=by rw [IntKind.wrap_i64];omega
section
open Classical
noncomputable def zoD (p:Int->Prop):Nat->Int->Option Int
 |0,_=>none
 |m+1,i=>if p i then some i else zoD p m (i+1)
noncomputable def z9 (p:Int->Prop) (i n:Int):Option Int:=zoD p (n-i).toNat i
theorem zf' (p:Int->Prop) {i n:Int} (h:n<=i):z9 p i n=none:=by
 rw [z9,show (n-i).toNat=0 by omega];rfl
theorem zga {p:Int->Prop} {i n:Int} (h:i<n) (hp:p i):z9 p i n=some i:=by
 rw [z9,show (n-i).toNat=(n-i-1).toNat+1 by omega,zoD,if_pos hp]
theorem zaq {p:Int->Prop} {i n:Int} (h:i<n) (hp:¬p i):z9 p i n=z9 p (i+1) n:=by
 rw [z9,show (n-i).toNat=(n-(i+1)).toNat+1 by omega,zoD,if_neg hp,z9]
theorem y8 {p:Int->Prop} {i n:Int}:z9 p i n=none↔∀ j,i<=j->j<n->¬p j:=by
 generalize hm:(n-i).toNat=m
 induction m generalizing i with
 |zero=>exact ⟨λ _ j h1 h2=>by omega,λ _=>zf' p (by omega)⟩
 |succ m ih=>
  by_cases hp:p i
  ·rw [zga (by omega) hp]
   exact ⟨λ h=>(by cases h),λ h=>absurd hp (h i (Int.le_refl _) (by omega))⟩
  ·rw [zaq (by omega) hp,ih (by omega)]
   exact ⟨λ h j h1 h2=>if e:j=i then e▸hp else h j (by omega) h2,λ h j h1 h2=>h j (by omega) h2⟩
theorem xE {p:Int->Prop} {i n j:Int}:z9 p i n=some j↔i<=j/\j<n/\p j/\∀ k,i<=k->k<j->¬p k:=by
 generalize hm:(n-i).toNat=m
 induction m generalizing i with
 |zero=>rw [zf' p (by omega)];exact ⟨λ h=>(by cases h),λ h=>by omega⟩
 |succ m ih=>
  by_cases hp:p i
  ·rw [zga (by omega) hp]
   constructor
   ·intro h;cases h;exact ⟨Int.le_refl _,by omega,hp,λ k h1 h2=>by omega⟩
   ·rintro ⟨h1,h2,h3,h4⟩
    by_cases e:i=j
    ·rw [e]
    ·exact absurd hp (h4 i (Int.le_refl _) (by omega))
  ·rw [zaq (by omega) hp,ih (by omega)]
   constructor
   ·rintro ⟨h1,h2,h3,h4⟩
    exact ⟨by omega,h2,h3,λ k h5 h6=>if e:k=i then e▸hp else h4 k (by omega) h6⟩
   ·rintro ⟨h1,h2,h3,h4⟩
    have:j≠i:=λ e=>hp (e▸h3)
    exact ⟨by omega,h2,h3,λ k h5 h6=>h4 k (by omega) h6⟩
theorem zlx {p q:Int->Prop} {i n:Int} (h:∀ j,i<=j->j<n->(p j↔q j)):z9 p i n=z9 q i n:=by
 cases hq:z9 q i n with
 |none=>exact y8.2 λ j h1 h2 hp=>y8.1 hq j h1 h2 ((h j h1 h2).1 hp)
 |some j=>
  obtain ⟨h1,h2,h3,h4⟩:=xE.1 hq
  exact xE.2 ⟨h1,h2,(h j h1 h2).2 h3,λ k h5 h6 hp=>h4 k h5 h6 ((h k h5 (by omega)).1 hp)⟩
end
end
section
section
variable {P:xn}
def zCM:Option (zd×zI)->Option (PV×zd×zI)
 |some (H,ed)=>some (.und,H,ed)
 |none=>none
theorem zv2 (H:zd) (ed:zI):zCM (some (H,ed))=some (.und,H,ed):=rfl
theorem zzO (sz:Nat) (a x:zy) (st:St):zt P.glob (CL P) st (.store sz a x)=zCM (storeAt st.H sz (a.get P.glob st) (x.get P.glob st)):=by
 simp only [zt];cases storeAt st.H sz (a.get P.glob st) (x.get P.glob st)<;>rfl
def stR (H:zd) (id row off sz s:Nat) (rows:List (List PV)) (x:List PV):Bool->Option (List PV)->Option (zd×zI)
 |true,some cs=>if x.length=sz/\off+sz<=cs.length/\x.all zH=true then some (H.set id (.cells s (rows.set row (cs.take off++x++cs.drop (off+sz)))),wG id x) else none
 |_,_=>none
def stB (H:zd) (id row off sz tot:Nat) (x:List PV):Option zZ->Option (zd×zI)
 |some (.cells s rows)=>stR H id row off sz s rows x (decide (tot=rows.length)) rows[row]?
 |_=>none
theorem znH (H:zd) (id row off sz tot:Nat) (x:List PV) (s:Nat) (rows:List (List PV)):stB H id row off sz tot x (some (.cells s rows))=stR H id row off sz s rows x (decide (tot=rows.length)) rows[row]?:=rfl
theorem zp9 (H:zd) (id row off sz s:Nat) (rows:List (List PV)) (x cs:List PV):stR H id row off sz s rows x true (some cs)=if x.length=sz/\off+sz<=cs.length/\x.all zH=true then some (H.set id (.cells s (rows.set row (cs.take off++x++cs.drop (off+sz)))),wG id x) else none:=rfl
theorem zrA (H:zd) (sz id row off tot:Nat) (x:PV):storeAt H sz (.ptr id row off tot) x=stB H id row off sz tot (cellsOf x) H[id]?:=by
 simp only [storeAt]
 cases H[id]? with
 |none=>rfl
 |some b=>
  cases b with
  |map es=>rfl
  |cells s rows=>
   rw [znH]
   have:(tot==rows.length)=decide (tot=rows.length):=by rw [bP];simp
   simp only [this]
   cases decide (tot=rows.length) with
   |false=>cases rows[row]?<;>rfl
   |true=>
    cases rows[row]? with
    |none=>rfl
    |some cs=>
     rw [zp9]
     have:((cellsOf x).length==sz&&Nat.ble (off+sz) cs.length&&(cellsOf x).all zH)=decide ((cellsOf x).length=sz/\off+sz<=cs.length/\(cellsOf x).all zH=true):=by
      rw [bP];simp [and_assoc]
     simp only [this]
     by_cases h:(cellsOf x).length=sz/\off+sz<=cs.length/\(cellsOf x).all zH=true
     ·rw [decide_eq_true h,if_pos h]
     ·rw [dV h,if_neg h]
def zF (H:zd) (cs:List PV):Option (PV×zd×zI):=if cs.all zH=true then some (.ptr H.length 0 0 1,H++[.cells cs.length [cs]],[]) else none
theorem zDc (x:zy) (st:St):zt P.glob (CL P) st (.box x)=zF st.H (cellsOf (x.get P.glob st)):=by
 simp only [zt,zF];cases (cellsOf (x.get P.glob st)).all zH<;>rfl
theorem zzN (cells:List PV) (st:St):zt P.glob (CL P) st (.alloc cells)=some (.ptr st.H.length 0 0 1,st.H++[.cells cells.length [cells]],[]):=rfl
def ztl (sz bytes:Nat) (zero:List PV) (H:zd):PV->PV->Option (PV×zd×zI)
 |.int .i64 n,.int .i64 c=>if 0<=n/\n=c/\n*bytes<=35184372088832 then some (.sl H.length 0 n.toNat n.toNat,H++[.cells sz (List.replicate n.toNat zero)],[]) else none
 |_,_=>none
theorem zxJ (sz bytes:Nat) (zero:List PV) (H:zd) (n:Int) (h1:0<=n) (h2:n*bytes<=35184372088832):ztl sz bytes zero H (.int .i64 n) (.int .i64 n)=some (.sl H.length 0 n.toNat n.toNat,H++[.cells sz (List.replicate n.toNat zero)],[]):=by
 rw [ztl,if_pos ⟨h1,rfl,h2⟩]
theorem zuB (sz bytes:Nat) (zero:List PV) (a b:zy) (st:St):zt P.glob (CL P) st (.mkslice sz bytes zero a b)=ztl sz bytes zero st.H (a.get P.glob st) (b.get P.glob st):=by
 simp only [zt]
 cases a.get P.glob st with
 |int k n=>
  cases b.get P.glob st with
  |int k' c=>
   cases k<;>cases k'<;>first|rfl|skip
   rw [ztl]
   have:(decide (0<=n)&&decide (n=c)&&decide (n*bytes<=35184372088832))=decide (0<=n/\n=c/\n*bytes<=35184372088832):=by rw [bP];simp [and_assoc]
   simp only [this]
   by_cases h:0<=n/\n=c/\n*bytes<=35184372088832
   ·rw [decide_eq_true h,if_pos h]
   ·rw [dV h,if_neg h]
  |_=>cases k<;>rfl
 |_=>rfl
theorem zDW (b:Bool):(b=false)=¬(b=true):=by cases b<;>simp
theorem zCo (b:Bool):((!b)=true)=¬(b=true):=by cases b<;>simp
theorem zq7 (cs:List PV):uc cs []=some cs:=rfl
theorem zpp (cs:List PV) (off:Nat) (new:List PV) (ps:List (Nat×List PV)):uc cs ((off,new)::ps)=if off+new.length<=cs.length/\new.all zH=true then uc (cs.take off++new++cs.drop (off+new.length)) ps else none:=by
 rw [uc]
 have:(Nat.ble (off+new.length) cs.length&&new.all zH)=decide (off+new.length<=cs.length/\new.all zH=true):=by rw [bP];simp
 rw [this]
 by_cases h:off+new.length<=cs.length/\new.all zH=true
 ·rw [decide_eq_true h,if_pos h]
 ·rw [dV h,if_neg h]
def zup:Bool->Option (List PV)->Option PV
 |true,some cs=>some (.agg cs)
 |_,_=>none
theorem zqC (cs:List PV):zup true (some cs)=some (.agg cs):=rfl
theorem zuq (zero:List PV) (parts:List (Nat×Nat×PV)):zeg zero parts=zup (parts.all λ p=>decide ((cellsOf p.2.2).length=p.2.1)) (uc zero (parts.map λ p=>(p.1,cellsOf p.2.2))):=by
 have:(parts.all λ p=>(cellsOf p.2.2).length==p.2.1)=parts.all λ p=>decide ((cellsOf p.2.2).length=p.2.1):=by
  congr 1
 rw [zeg,this]
 cases parts.all λ p=>decide ((cellsOf p.2.2).length=p.2.1) with
 |false=>cases uc zero (parts.map λ p=>(p.1,cellsOf p.2.2))<;>rfl
 |true=>cases uc zero (parts.map λ p=>(p.1,cellsOf p.2.2))<;>rfl
section
variable (H l:zd)
theorem xp:(H++l)[H.length]?=l[0]?:=by rw [aI (aS _),Nat.sub_self]
theorem wF (k:Nat):(H++l)[H.length+k]?=l[k]?:=by rw [aI (by omega)];congr 1;omega
theorem zY {i:Nat} {b:zZ} (h:H[i]?=some b):(H++l)[i]?=some b:=by
 have:i<H.length:=by rcases bS i H.length with h1|h1;exact h1;rw [bB h1] at h;cases h
 rw [aD this,h]
theorem jc (b:zZ):(H++l).set H.length b=H++l.set 0 b:=by rw [dL _ _ (aS _),Nat.sub_self]
theorem QH (k:Nat) (b:zZ):(H++l).set (H.length+k) b=H++l.set k b:=by rw [dL _ _ (by omega)];congr 2;omega
theorem zfK {i:Nat} (h:i<H.length) (b:zZ):(H++l).set i b=H.set i b++l:=by rw [List.set_append_left _ _ h]
end
theorem zT (n:Nat) (H:zd) (roots:List PV) (h:H.length<=n):trim n roots H []=(H,[]):=by
 rw [trim];cases bare n (zn roots)&&([]:zI).all _<;>simp [dH h]
end
end
section
section
variable {P:xn}
def iter {σ:Type} (g:Int->σ->σ):Nat->Int->σ->σ
 |0,_,a=>a
 |m+1,i,a=>iter g m (i+1) (g i a)
theorem vC {body:AC} {σ:Type} (S:Int->σ->St) (g:Int->σ->σ) (ok:Int->σ->Prop) (F:σ->zp×St) (lo n:Int)
  (hstep:∀ i a,lo<=i->i<n->ok i a->(∃ st',EV P body (S i a)=some (.normal,st')/\(S i a).next st'=S (i+1) (g i a))/\ok (i+1) (g i a))
  (hend:∀ i a,lo<=i->i=n->ok i a->EV P body (S i a)=some (F a)/\(F a).1≠.normal):
  ∀ i a,lo<=i->i<=n->ok i a->EV P (.loop body) (S i a)=some (F (iter g (n-i).toNat i a))/\ok n (iter g (n-i).toNat i a):=by
 intro i a h1 h2 h3
 refine ⟨uE (λ x:Int×σ=>S x.1 x.2) (λ x=>lo<=x.1/\x.1<=n/\ok x.1 x.2) (λ x=>(n-x.1).toNat) (λ x=>F (iter g (n-x.1).toNat x.1 x.2)) ?_ (i,a) ⟨h1,h2,h3⟩,?_⟩
 ·rintro ⟨i,a⟩ ⟨h1,h2,h3⟩
  dsimp only at h1 h2 h3 ⊢
  by_cases hn:i=n
  ·left
   rw [show (n-i).toNat=0 by omega]
   exact hend i a h1 hn h3
  ·right
   obtain ⟨⟨st',h4,h5⟩,h6⟩:=hstep i a h1 (by omega) h3
   refine ⟨(i+1,g i a),st',⟨by dsimp only;omega,by dsimp only;omega,h6⟩,by dsimp only;omega,h4,h5,?_⟩
   dsimp only
   rw [show (n-i).toNat=(n-(i+1)).toNat+1 by omega];rfl
 ·generalize hm:(n-i).toNat=m
  induction m generalizing i a with
  |zero=>
   have:i=n:=by omega
   subst this;exact h3
  |succ m ih=>
   exact ih (i+1) (g i a) (by omega) (by omega) (hstep i a h1 (by omega) h3).2 (by omega)
def ug {σ ρ:Type} (g:Int->σ->σ ⊕ ρ):Nat->Int->σ->σ ⊕ ρ
 |0,_,a=>.inl a
 |m+1,i,a=>match g i a with
  |.inl a'=>ug g m (i+1) a'
  |.inr r=>.inr r
end
section
variable {α:Type} [Inhabited α]
theorem Xh {l:List α} {i j:Int} {v:α} (h0:0<=i) (h1:i<l.length) (h2:0<=j):za (l.set i.toNat v) j=if i=j then v else za l j:=by
 simp only [za,List.getD,d9]
 by_cases h:i=j
 ·subst h
  have:i.toNat<l.length:=by omega
  simp [this]
 ·have:i.toNat≠j.toNat:=by omega
  simp [this,h]
theorem zAA {l m:List α} (h:l.length=m.length) (hn:∀ j:Int,0<=j->j<l.length->za l j=za m j):l=m:=by
 refine List.ext_getElem h λ i h1 h2=>?_
 have:=hn i (by omega) (by omega)
 simpa [za,List.getD,h1,h2] using this
theorem ziG {l:List α} {j:Int} (h0:0<=j) (h1:l.length<=j):za l j=default:=by
 have:l.length<=j.toNat:=by omega
 simp [za,List.getD,this]
end
theorem zjY {α:Type} (sz off len tot id:Nat) (n:Int) (s:Nat) (f:α->List PV) (xs:List α) (h1:s=sz) (h2:tot=xs.length) (h3:n<len) (h4:off+len<=tot):zhQ sz off len tot id n (some (.cells s (xs.map f)))=some (.ptr id (off+n.toNat) 0 tot):=zkR _ _ _ _ _ _ _ _ h1 (by rw [cF,h2]) h3 h4
def xF (d:Nat) (H:zd) (off len tot:Nat):Option zZ->PV
 |some (.cells _ rows)=>if tot=rows.length/\off+len<=tot then .fz (((rows.drop off).take len).map (·.map (frz d H))) else .unk
 |_=>.unk
theorem QM (d:Nat) (H:zd) (id off len tot:Nat):frz (d+1) H (.sl id off len tot)=xF d H off len tot H[id]?:=by
 rw [frz]
 cases H[id]? with
 |none=>rfl
 |some b=>
  cases b with
  |map es=>rfl
  |cells s rows=>
   have:(tot==rows.length&&decide (off+len<=tot))=decide (tot=rows.length/\off+len<=tot):=by rw [bP];simp
   simp only [this,xF]
   by_cases h:tot=rows.length/\off+len<=tot
   ·rw [decide_eq_true h,if_pos h]
   ·rw [dV h,if_neg h]
theorem zjV {α:Type} (f:α->List PV) (xs:List α) (d:Nat) (H:zd) (len tot s:Nat) (hf:∀ x∈xs,(f x).map (frz d H)=f x) (h1:len=xs.length) (h2:tot=xs.length):xF d H 0 len tot (some (.cells s (xs.map f)))=.fz (xs.map f):=by
 subst h1
 rw [xF,if_pos ⟨by simpa using h2,by omega⟩,dZ,dH (by simp),cZ]
 congr 1
 exact bM λ x hx=>hf x hx
theorem zw5 (xs:List Int) (d:Nat) (H:zd) (len tot s:Nat) (h1:len=xs.length) (h2:tot=xs.length):xF (d+1) H 0 len tot (some (.cells s (xs.map λ k=>[.int .i64 k])))=.fz (xs.map λ k=>[.int .i64 k]):=zjV _ xs _ H len tot s (λ _ _=>rfl) h1 h2
theorem zuX (xs:List Bool) (d:Nat) (H:zd) (len tot s:Nat) (h1:len=xs.length) (h2:tot=xs.length):xF (d+1) H 0 len tot (some (.cells s (xs.map λ k=>[.bool k])))=.fz (xs.map λ k=>[.bool k]):=zjV _ xs _ H len tot s (λ _ _=>rfl) h1 h2
theorem zw6 (xs:List ByteArray) (d:Nat) (H:zd) (len tot s:Nat) (h1:len=xs.length) (h2:tot=xs.length):xF (d+1) H 0 len tot (some (.cells s (xs.map λ k=>[.str k])))=.fz (xs.map λ k=>[.str k]):=zjV _ xs _ H len tot s (λ _ _=>rfl) h1 h2
theorem zAU (n:Nat) (v:Int):List.replicate n [PV.int .i64 v]=(List.replicate n v).map λ k=>[.int .i64 k]:=by rw [d5]
theorem zyh (n:Nat) (v:Bool):List.replicate n [PV.bool v]=(List.replicate n v).map λ b=>[.bool b]:=by rw [d5]
theorem zA5 (l:List Int) (i:Nat) (v:Int):(l.map λ k=>[PV.int .i64 k]).set i [.int .i64 v]=(l.set i v).map λ k=>[.int .i64 k]:=by rw [List.map_set]
theorem zyt (l:List Bool) (i:Nat) (v:Bool):(l.map λ b=>[PV.bool b]).set i [.bool v]=(l.set i v).map λ b=>[.bool b]:=by rw [List.map_set]
end
end Go.Av
end
section
namespace Go.Av
open Go Classical
theorem yr {P:xn} {body:AC} (S:Int->St) (bad:Int->Prop) (G:Int->St->Prop) (F:zp×St) (lo n:Int)
  (hstep:∀ i,lo<=i->i<n->¬bad i->∃ st',EV P body (S i)=some (.normal,st')/\(S i).next st'=S (i+1))
  (hbad:∀ i,lo<=i->i<n->bad i->∃ st,EV P body (S i)=some (.ret,st)/\G i st)
  (hend:∀ i,lo<=i->i=n->EV P body (S i)=some F/\F.1≠.normal) (i:Int) (h1:lo<=i) (h2:i<=n):
  match z9 bad i n with|some j=>∃ st,EV P (.loop body) (S i)=some (.ret,st)/\G j st|none=>EV P (.loop body) (S i)=some F:=by
 obtain ⟨r,hr,hq⟩:=Yr S (λ i=>lo<=i/\i<=n) (λ i=>(n-i).toNat) (λ i r=>match z9 bad i n with|some j=>∃ st,r=(.ret,st)/\G j st|none=>r=F) (by
  rintro i ⟨h1,h2⟩
  by_cases hn:i=n
  ·left
   rw [zf' bad (by omega)]
   exact ⟨F,(hend i h1 hn).1,(hend i h1 hn).2,rfl⟩
  ·by_cases hp:bad i
   ·left
    rw [zga (by omega) hp]
    obtain ⟨st,h3,h4⟩:=hbad i h1 (by omega) hp
    exact ⟨_,h3,by simp,st,rfl,h4⟩
   ·right
    obtain ⟨st',h3,h4⟩:=hstep i h1 (by omega) hp
    exact ⟨i+1,st',⟨by omega,by omega⟩,by omega,h3,h4,λ r h=>by rw [zaq (by omega) hp];exact h⟩) i ⟨h1,h2⟩
 cases hs:z9 bad i n with
 |none=>rw [hs] at hq;dsimp only at hq ⊢;rw [hr,hq]
 |some j=>
  rw [hs] at hq
  obtain ⟨st,rfl,h⟩:=hq
  exact ⟨st,hr,h⟩
def zcv {σ ρ:Type} (p:σ->Prop) (q:ρ->Prop):σ ⊕ ρ->Prop
 |.inl a=>p a
 |.inr r=>q r
theorem XA {P:xn} {body:AC} {σ ρ:Type} (S:Int->σ->St) (g:Int->σ->σ ⊕ ρ) (ok:Int->σ->Prop) (F:σ->zp×St) (G:ρ->St->Prop) (lo n:Int)
  (hstep:∀ i a,lo<=i->i<n->ok i a->match g i a with
   |.inl a'=>(∃ st',EV P body (S i a)=some (.normal,st')/\(S i a).next st'=S (i+1) a')/\ok (i+1) a'
   |.inr r=>∃ st,EV P body (S i a)=some (.ret,st)/\G r st)
  (hend:∀ i a,lo<=i->i=n->ok i a->EV P body (S i a)=some (F a)/\(F a).1≠.normal) (i:Int) (a:σ) (h1:lo<=i) (h2:i<=n) (h3:ok i a):
  zcv (λ a'=>EV P (.loop body) (S i a)=some (F a')/\ok n a') (λ r=>∃ st,EV P (.loop body) (S i a)=some (.ret,st)/\G r st) (ug g (n-i).toNat i a):=by
 generalize hm:(n-i).toNat=m
 induction m generalizing i a with
 |zero=>
  have e:i=n:=by omega
  obtain ⟨e1,e2⟩:=hend i a h1 e h3
  subst e
  refine ⟨?_,h3⟩
  rw [uK,e1]
  generalize F a=r at e2
  obtain ⟨x,s⟩:=r
  cases x<;>first|rfl|exact absurd rfl e2
 |succ m ih=>
  have hs:=hstep i a h1 (by omega) h3
  rw [ug]
  cases hg:g i a with
  |inl a'=>
   rw [hg] at hs
   obtain ⟨⟨st',h4,h5⟩,h6⟩:=hs
   have:=ih (i+1) a' (by omega) (by omega) h6 (by omega)
   have e:EV P (.loop body) (S i a)=EV P (.loop body) (S (i+1) a'):=by rw [uK,h4];show EV P (.loop body) ((S i a).next st')=_;rw [h5]
   rw [e];exact this
  |inr r=>
   rw [hg] at hs
   obtain ⟨st,h4,h5⟩:=hs
   exact ⟨st,by rw [uK,h4],h5⟩
def zs3 (d:Nat) (H:zd) (off:Nat):Bool->Option (List PV)->PV
 |true,some cs=>.fp (cs.map (frz d H)) off
 |_,_=>.unk
def zw4 (d:Nat) (H:zd) (row off tot:Nat):Option zZ->PV
 |some (.cells _ rows)=>zs3 d H off (decide (tot=rows.length)) rows[row]?
 |_=>.unk
theorem zs4 (d:Nat) (H:zd) (off:Nat) (cs:List PV):zs3 d H off true (some cs)=.fp (cs.map (frz d H)) off:=rfl
theorem zs5 (d:Nat) (H:zd) (row off tot s:Nat) (rows:List (List PV)):zw4 d H row off tot (some (.cells s rows))=zs3 d H off (decide (tot=rows.length)) rows[row]?:=rfl
theorem zw9 (d:Nat) (H:zd) (id row off tot:Nat):frz (d+1) H (.ptr id row off tot)=zw4 d H row off tot H[id]?:=by
 rw [frz]
 cases H[id]? with
 |none=>rfl
 |some b=>
  cases b with
  |map es=>rfl
  |cells s rows=>
   have:(tot==rows.length)=decide (tot=rows.length):=by rw [bP];simp
   simp only [this,zw4]
   cases decide (tot=rows.length)<;>cases rows[row]?<;>rfl
def yf (vr id sz:Nat) (cs:List PV) (st:St):Prop:=st.per.get vr=.ptr id 0 0 1/\st.H[id]?=some (.cells sz [cs])
end Go.Av
end
section
namespace Go.Av
open Go
def zBL (o:zD):List Nat:=match o.dst with|some (false,n)=>[n]|_=>[]
def zbw (o:zD):List Nat:=zvR o++zBL o
def Xr:List zD->Nat->Bool
 |[],_=>false
 |o::os,k=>(zbw o).any (Nat.beq k)||Xr os k
def zal:List Nat->List Zg->List Zg
 |[],bs=>bs
 |ks,bs=>.kill ks::bs
def Yy:List zD->List Zg
 |[]=>[]
 |[o]=>[.op o]
 |o::o'::os=>.op o::zal ((zbw o).filter λ k=> !(Xr (o'::os) k)) (Yy (o'::os))
theorem zk4 (ks:List Nat) (bs:List Zg):Jf (zal ks bs)=Jf bs:=by cases ks<;>rfl
theorem zkb (ks:List Nat) (bs:List Zg) (k:Nat):Yg (zal ks bs) k=Yg bs k:=by cases ks<;>rfl
theorem zjm:∀ os,Jf (Yy os)=os
 |[]=>rfl
 |[o]=>rfl
 |o::o'::os=>by rw [Yy,Jf,zk4,zjm]
theorem zio:∀ os k,Yg (Yy os) k=true->Xr os k=true
 |[],_,h=>h
 |[o],k,h=>by
  simp only [Yy,Yg,eB] at h
  simp only [Xr,zbw,List.any_append,eB,h,Bool.true_or]
 |o::o'::os,k,h=>by
  rw [Yy,Yg,d7,zkb] at h
  rw [Xr,d7]
  rcases h with h|h
  ·exact .inl (by simp only [zbw,List.any_append,h,Bool.true_or])
  ·exact .inr (zio _ _ h)
theorem zhS:∀ os,UZ (Yy os)=true
 |[]=>rfl
 |[o]=>rfl
 |o::o'::os=>by
  rw [Yy,UZ]
  have ih:=zhS (o'::os)
  have:∀ ks:List Nat,(∀ k∈ks,Xr (o'::os) k=false)->UZ (zal ks (Yy (o'::os)))=true:=by
   intro ks hks
   cases ks with
   |nil=>exact ih
   |cons k ks=>
    rw [zal,UZ,ih,Bool.and_true,aZ]
    ·intro j hj
     cases hu:Yg (Yy (o'::os)) j with
     |false=>rfl
     |true=>exact absurd (zio _ _ hu) (by rw [hks j hj];exact Bool.false_ne_true)
    ·intro h;cases h
  refine this _ λ k hk=>?_
  have:=(List.mem_filter.1 hk).2
  cases hu:Xr (o'::os) k with
  |false=>rfl
  |true=>rw [hu] at this;cases this
theorem rgA {P:xn} {ops:List zD} {l:List Zg} (h:Yy ops=l) (d:Bool) (st:St):EV P (.region d ops) st=regK (xw P l { per:=st.per,reg:=[],H:=st.H,ed:=st.ed }):=by
 subst h
 exact zt' d ops _ (zjm ops) (zhS ops) st
def nR:AC->Nat
 |.region _ _=>1
 |.seq a b=>nR a+nR b
 |.cond _ _ a b=>nR a+nR b
 |.block _ b=>nR b
 |.loop b=>nR b
 |.mrange _ _ _ b=>nR b
 |_=>0
def nB:AC->Nat
 |.seq a b=>nB a+nB b
 |.cond _ _ a b=>nB a+nB b
 |.block _ b=>nB b
 |.loop b=>nB b+1
 |.mrange _ _ _ b=>nB b+1
 |_=>0
def jF:AC->List (List zD)
 |.region _ os=>[os]
 |.seq a b=>jF a++jF b
 |.cond _ _ a b=>jF a++jF b
 |.block _ b=>jF b
 |.loop b=>jF b
 |.mrange _ _ _ b=>jF b
 |_=>[]
def wC:AC->Nat->Nat->List (AC×Nat×Nat)
 |.seq a b,i,j=>wC a i j++wC b (i+nR a) (j+nB a)
 |.cond _ _ a b,i,j=>wC a i j++wC b (i+nR a) (j+nB a)
 |.block _ b,i,j=>wC b i j
 |.loop b,i,j=>(b,i,j+1)::wC b i (j+1)
 |.mrange _ _ _ b,i,j=>(b,i,j+1)::wC b i (j+1)
 |_,_,_=>[]
def J0 (R:Nat->List zD) (B:Nat->AC):AC->Nat->Nat->AC
 |.region d _,i,_=>.region d (R i)
 |.seq a b,i,j=>.seq (J0 R B a i j) (J0 R B b (i+nR a) (j+nB a))
 |.cond g c a b,i,j=>.cond g c (J0 R B a i j) (J0 R B b (i+nR a) (j+nB a))
 |.block id b,i,j=>.block id (J0 R B b i j)
 |.loop _,_,j=>.loop (B j)
 |.mrange x W pk _,_,j=>.mrange x W pk (B j)
 |.skip,_,_=>.skip
 |.exit id,_,_=>.exit id
 |.ret,_,_=>.ret
theorem xS:∀ c,(jF c).length=nR c
 |.region _ _=>rfl
 |.seq a b=>by rw [jF,aQ,xS a,xS b,nR]
 |.cond _ _ a b=>by rw [jF,aQ,xS a,xS b,nR]
 |.block _ b=>xS b
 |.loop b=>xS b
 |.mrange _ _ _ b=>xS b
 |.skip=>rfl
 |.exit _=>rfl
 |.ret=>rfl
theorem xC:∀ c i j,(wC c i j).length=nB c
 |.region _ _,_,_=>rfl
 |.seq a b,i,j=>by rw [wC,aQ,xC a,xC b,nB]
 |.cond _ _ a b,i,j=>by rw [wC,aQ,xC a,xC b,nB]
 |.block _ b,i,j=>xC b i j
 |.loop b,i,j=>by rw [wC,bC,xC b,nB]
 |.mrange _ _ _ b,i,j=>by rw [wC,bC,xC b,nB]
 |.skip,_,_=>rfl
 |.exit _,_,_=>rfl
 |.ret,_,_=>rfl
theorem zbv (R:Nat->List zD) (B:Nat->AC):∀ c i j,(∀ k,k<nR c->(jF c)[k]?=some (R (i+k)))->(∀ k,k<nB c->((wC c i j)[k]?).map (·.1)=some (B (j+k)))->J0 R B c i j=c
 |.region d os,i,j,hR,_=>by
  have:=hR 0 (by rw [nR];omega)
  simp only [jF,bW,cN,aC] at this
  rw [J0, <-this]
 |.seq a b,i,j,hR,hB=>by
  rw [J0,zbv R B a i j,zbv R B b]
  ·intro k hk
   have:=hR (nR a+k) (by rw [nR];omega)
   rw [jF,aI (by rw [xS];omega),xS,cW] at this
   rw [this,bZ]
  ·intro k hk
   have:=hB (nB a+k) (by rw [nB];omega)
   rw [wC,aI (by rw [xC];omega),xC,cW] at this
   rw [this,bZ]
  ·intro k hk
   have:=hR k (by rw [nR];omega)
   rwa [jF,aD (by rw [xS];omega)] at this
  ·intro k hk
   have:=hB k (by rw [nB];omega)
   rwa [wC,aD (by rw [xC];omega)] at this
 |.cond g c a b,i,j,hR,hB=>by
  rw [J0,zbv R B a i j,zbv R B b]
  ·intro k hk
   have:=hR (nR a+k) (by rw [nR];omega)
   rw [jF,aI (by rw [xS];omega),xS,cW] at this
   rw [this,bZ]
  ·intro k hk
   have:=hB (nB a+k) (by rw [nB];omega)
   rw [wC,aI (by rw [xC];omega),xC,cW] at this
   rw [this,bZ]
  ·intro k hk
   have:=hR k (by rw [nR];omega)
   rwa [jF,aD (by rw [xS];omega)] at this
  ·intro k hk
   have:=hB k (by rw [nB];omega)
   rwa [wC,aD (by rw [xC];omega)] at this
 |.block id b,i,j,hR,hB=>by rw [J0,zbv R B b i j hR hB]
 |.loop b,i,j,_,hB=>by
  have:=hB 0 (by rw [nB];omega)
  simp only [wC,bW,cN,cA,aC] at this
  rw [J0, <-this]
 |.mrange x W pk b,i,j,_,hB=>by
  have:=hB 0 (by rw [nB];omega)
  simp only [wC,bW,cN,cA,aC] at this
  rw [J0, <-this]
 |.skip,_,_,_,_=>rfl
 |.exit _,_,_,_,_=>rfl
 |.ret,_,_,_,_=>rfl
def zV (c:AC) (i:Nat):List zD:=(jF c).getD i []
def zJ (c:AC) (j:Nat):AC×Nat×Nat:=(wC c 0 0).getD j (.skip,0,0)
def zjK (c b:AC) (i j:Nat):Prop:=(∀ k,k<nR b->(jF b)[k]?=(jF c)[i+k]?)/\(∀ k,k<nB b->(wC b i j)[k]?=(wC c 0 0)[j+k]?)/\i+nR b<=nR c/\j+nB b<=nB c
theorem znA (c:AC):zjK c c 0 0:=⟨λ k _=>by rw [bO],λ k _=>by rw [bO],by omega,by omega⟩
theorem znG {c b:AC} {i j:Nat} (h:zjK c b i j):J0 (zV c) (λ j=>(zJ c j).1) b i j=b:=by
 refine zbv _ _ b i j (λ k hk=>?_) λ k hk=>?_
 ·have hl:i+k<(jF c).length:=by rw [xS];have:=h.2.2.1;omega
  rw [h.1 k hk,zV,cK,aE hl];rfl
 ·have hl:j+k<(wC c 0 0).length:=by rw [xC];have:=h.2.2.2;omega
  show _=some ((wC c 0 0).getD (j+k) _).1
  rw [h.2.1 k hk,cK,aE hl];rfl
theorem Ya:∀ (c b:AC) (i j:Nat),zjK c b i j->∀ x i' j',(x,i',j')∈wC b i j->zjK c x i' j'
 |c,.region _ _,i,j,_,x,i',j',hx=>by cases hx
 |c,.skip,i,j,_,x,i',j',hx=>by cases hx
 |c,.exit _,i,j,_,x,i',j',hx=>by cases hx
 |c,.ret,i,j,_,x,i',j',hx=>by cases hx
 |c,.block id b,i,j,h,x,i',j',hx=>Ya c b i j h x i' j' hx
 |c,.loop b,i,j,h,x,i',j',hx=>by
  have hb:zjK c b i (j+1):=by
   refine ⟨h.1,λ k hk=>?_,h.2.2.1,by have:=h.2.2.2;simp only [nB] at this;omega⟩
   have:=h.2.1 (k+1) (by rw [nB];omega)
   rw [wC,dF] at this
   rw [this];congr 1;omega
  rw [wC,dE] at hx
  rcases hx with hx|hx
  ·cases hx;exact hb
  ·exact Ya c b i (j+1) hb x i' j' hx
 |c,.mrange _ _ _ b,i,j,h,x,i',j',hx=>by
  have hb:zjK c b i (j+1):=by
   refine ⟨h.1,λ k hk=>?_,h.2.2.1,by have:=h.2.2.2;simp only [nB] at this;omega⟩
   have:=h.2.1 (k+1) (by rw [nB];omega)
   rw [wC,dF] at this
   rw [this];congr 1;omega
  rw [wC,dE] at hx
  rcases hx with hx|hx
  ·cases hx;exact hb
  ·exact Ya c b i (j+1) hb x i' j' hx
 |c,.seq a b,i,j,h,x,i',j',hx=>by
  rw [wC,aX] at hx
  have h3:=h.2.2.1
  have h4:=h.2.2.2
  simp only [nR,nB] at h3 h4
  rcases hx with hx|hx
  ·refine Ya c a i j ⟨λ k hk=>?_,λ k hk=>?_,by omega,by omega⟩ x i' j' hx
   ·have:=h.1 k (by rw [nR];omega)
    rwa [jF,aD (by rw [xS];omega)] at this
   ·have:=h.2.1 k (by rw [nB];omega)
    rwa [wC,aD (by rw [xC];omega)] at this
  ·refine Ya c b _ _ ⟨λ k hk=>?_,λ k hk=>?_,by omega,by omega⟩ x i' j' hx
   ·have:=h.1 (nR a+k) (by rw [nR];omega)
    rw [jF,aI (by rw [xS];omega),xS,cW] at this
    rw [this,bZ]
   ·have:=h.2.1 (nB a+k) (by rw [nB];omega)
    rw [wC,aI (by rw [xC];omega),xC,cW] at this
    rw [this,bZ]
 |c,.cond _ _ a b,i,j,h,x,i',j',hx=>by
  rw [wC,aX] at hx
  have h3:=h.2.2.1
  have h4:=h.2.2.2
  simp only [nR,nB] at h3 h4
  rcases hx with hx|hx
  ·refine Ya c a i j ⟨λ k hk=>?_,λ k hk=>?_,by omega,by omega⟩ x i' j' hx
   ·have:=h.1 k (by rw [nR];omega)
    rwa [jF,aD (by rw [xS];omega)] at this
   ·have:=h.2.1 k (by rw [nB];omega)
    rwa [wC,aD (by rw [xC];omega)] at this
  ·refine Ya c b _ _ ⟨λ k hk=>?_,λ k hk=>?_,by omega,by omega⟩ x i' j' hx
   ·have:=h.1 (nR a+k) (by rw [nR];omega)
    rw [jF,aI (by rw [xS];omega),xS,cW] at this
    rw [this,bZ]
   ·have:=h.2.1 (nB a+k) (by rw [nB];omega)
    rw [wC,aI (by rw [xC];omega),xC,cW] at this
    rw [this,bZ]
theorem yZ {c:AC} {R:Nat->List zD} {B:Nat->AC} {s:(Nat->List zD)->(Nat->AC)->AC} (hR:R=zV c) (hB:B=λ j=>(zJ c j).1) (h:∀ R B,J0 R B c 0 0=s R B):c=s R B:=by
 rw [hR,hB, <-h];exact (znG (znA c)).symm
theorem xb {c:AC} {R:Nat->List zD} {B:Nat->AC} {j:Nat} {s:(Nat->List zD)->(Nat->AC)->AC} (hR:R=zV c) (hB:B=λ j=>(zJ c j).1) (h:∀ R B,J0 R B (zJ c j).1 (zJ c j).2.1 (zJ c j).2.2=s R B):B j=s R B:=by
 have hp:zjK c (zJ c j).1 (zJ c j).2.1 (zJ c j).2.2:=by
  rw [zJ,cK]
  by_cases hj:j<(wC c 0 0).length
  ·rw [aE hj]
   exact Ya c c 0 0 (znA c) _ _ _ (dA hj)
  ·rw [bB (by omega)]
   exact ⟨λ k hk=>absurd hk (Nat.not_lt_zero _),λ k hk=>absurd hk (Nat.not_lt_zero _),dM _,dM _⟩
 subst hR;subst hB
 rw [<-h];exact (znG hp).symm
end Go.Av
end
section
set_option maxRecDepth 100000
namespace Go.Av
open Go Classical
theorem zye:refs .und=[]:=rfl
theorem zyf:refs .unk=[]:=rfl
theorem zyc (k:IntKind) (n:Int):refs (.int k n)=[]:=rfl
theorem zvL (b:Bool):refs (.bool b)=[]:=rfl
theorem zyd (s:ByteArray):refs (.str s)=[]:=rfl
theorem zyb (k:FloatKind) (n:Nat):refs (.flt k n)=[]:=rfl
theorem zAS (l:List (List PV)):refs (.fz l)=[]:=rfl
theorem zAR (l:List PV) (n:Nat):refs (.fp l n)=[]:=rfl
theorem zvP:refs .nils=[]:=rfl
theorem zvO:refs .nilp=[]:=rfl
theorem zvM:refs .nilf=[]:=rfl
theorem zvN:refs .nilm=[]:=rfl
theorem zAQ (es:List (PV×PV)):refs (.fm es)=[]:=rfl
theorem zw_ (n:Nat) (st:St):jE true (.reg n) st=st:=rfl
theorem zs7 (v:PV) (st:St):jE true (.const v) st=st:=rfl
theorem zuY (n:Nat) (st:St):jE true (.glob n) st=st:=rfl
def XD:=
 And.intro @zBy<|And.intro @zzh<|And.intro @zBE<|And.intro @zzl<|And.intro @zBC<|
 And.intro @zzj<|And.intro @zss<|And.intro @zqx<|And.intro @zC0<|And.intro @zBs<|
 And.intro @zC1<|And.intro @zBt<|And.intro @zDU<|And.intro @zCY<|And.intro @zBx<|And.intro @zBF<|And.intro @zzm<|And.intro @zwx<|And.intro @zt_<|And.intro @zwv<|And.intro @zt8<|
 And.intro @zzg<|And.intro @zBD<|And.intro @zzk<|And.intro @zwt<|And.intro @zt6<|
 And.intro @zzr<|And.intro @zwr<|And.intro @zC2<|And.intro @zBu<|And.intro @zBB<|
 And.intro @zzi<|And.intro @zub<|And.intro @zsr<|And.intro @zwu<|And.intro @zt7<|
 And.intro @zBw<|And.intro @zzf<|And.intro @zzp<|And.intro @zwq<|And.intro @zzo<|
 And.intro @zwp<|And.intro @zww<|And.intro @zt9<|And.intro @zzO<|And.intro @zDc<|
 And.intro @zzN<|@Go.Av.zuB
def XU:=
 And.intro @zye<|And.intro @zyf<|And.intro @zyc<|And.intro @zvL<|And.intro @zyd<|And.intro @zyb<|And.intro @zAS<|And.intro @zAR<|And.intro @zvP<|And.intro @zvO<|And.intro @zvM<|And.intro @zvN<|And.intro @zAQ<|And.intro @zw_<|And.intro @zs7<|And.intro @zuY<|
 And.intro @refs.eq_1<|And.intro @refs.eq_2<|And.intro @refs.eq_3<|And.intro @refs.eq_4<|And.intro @refs.eq_5<|And.intro @refs.eq_6<|And.intro @jE.eq_1<|And.intro @jE.eq_3<|And.intro @Nat.beq.eq_1<|And.intro @Nat.beq.eq_2<|And.intro @Nat.beq.eq_3<|And.intro @Nat.beq.eq_4<|And.intro @Nat.ble.eq_1<|And.intro @Nat.ble.eq_2<|And.intro @Nat.ble.eq_3<|And.intro @List.isEmpty_cons.{0}<|
 And.intro @zkZ.eq_1<|And.intro @zF.eq_1<|And.intro @wG.eq_1<|And.intro @zt.eq_1<|And.intro @zt.eq_2<|And.intro @zt.eq_3<|And.intro @zt.eq_4<|And.intro @zt.eq_5<|And.intro @zt.eq_6<|And.intro @zt.eq_7<|And.intro @zt.eq_8<|And.intro @zt.eq_9<|And.intro @zt.eq_10<|And.intro @zt.eq_11<|And.intro @zt.eq_12<|And.intro @zt.eq_13<|And.intro @zt.eq_14<|And.intro @zt.eq_15<|And.intro @zt.eq_16<|And.intro @zt.eq_17<|And.intro @zt.eq_18<|And.intro @zt.eq_19<|And.intro @zt.eq_20<|And.intro @zt.eq_21<|And.intro @zt.eq_22<|And.intro @zt.eq_23<|And.intro @zt.eq_24<|And.intro @zt.eq_25<|And.intro @zt.eq_26<|And.intro @zt.eq_27<|And.intro @zt.eq_28<|And.intro @zt.eq_29<|And.intro @zt.eq_30<|And.intro @zt.eq_31<|And.intro @zt.eq_32<|And.intro @zt.eq_33<|And.intro @zt.eq_34<|And.intro @zt.eq_35<|And.intro @zy.get.eq_1<|And.intro @zy.get.eq_2<|And.intro @zy.get.eq_3<|And.intro @zy.get.eq_4<|And.intro @St.put.eq_1<|And.intro @St.put.eq_2<|And.intro @St.put.eq_3<|And.intro @zk.get.eq_1<|And.intro @zk.get.eq_2<|And.intro @zk.put.eq_1<|And.intro @zk.put.eq_2<|And.intro @zk.erase.eq_1<|And.intro @zk.erase.eq_2<|And.intro @params.eq_1<|And.intro @params.eq_2<|And.intro @zn.eq_1<|And.intro @zn.eq_2<|And.intro @xH.eq_1<|And.intro @xH.eq_2<|And.intro @xH.eq_3<|And.intro @zt.eq_36<|And.intro @zX.eq_1<|And.intro @zX.eq_2<|And.intro @yR.eq_1<|And.intro @yR.eq_2<|And.intro @zC.eq_1<|And.intro @zC.eq_2<|And.intro @zC.eq_3<|And.intro @zC.eq_4<|And.intro @zC.eq_5<|And.intro @zC.eq_6<|And.intro @zC.eq_7<|And.intro @zC.eq_8<|And.intro @zC.eq_9<|And.intro @zC.eq_10<|And.intro @zC.eq_11<|And.intro @zC.eq_12<|And.intro @zC.eq_13<|And.intro @zC.eq_14<|And.intro @zC.eq_15<|And.intro @zC.eq_16<|And.intro @zC.eq_17<|And.intro @zC.eq_18<|And.intro @zC.eq_19<|And.intro @zC.eq_20<|
 And.intro @zBv<|And.intro @zzn<|And.intro @zws<|And.intro @zBi<|And.intro @zzb<|
 And.intro @zza<|And.intro @zC3<|And.intro @zBA<|And.intro @List.foldl_cons.{0,0}<|And.intro @List.foldl_nil.{0,0}<|
 And.intro @zBe<|And.intro @zz_<|And.intro @zxx<|And.intro @zvq<|And.intro @zyH<|
 And.intro @zyG<|And.intro @zrW<|And.intro @zpu<|And.intro @xX<|And.intro @zqs<|
 And.intro @zkR<|And.intro @zjY<|And.intro @zwL<|And.intro @zus<|And.intro @zsB<|
 And.intro @zur<|And.intro @zuq<|And.intro @zqC<|And.intro @zq7<|
 And.intro @zpp<|And.intro @zrg<|And.intro @ztg<|And.intro @zuZ<|
 And.intro @ztr<|And.intro @zvA<|And.intro @zn'<|And.intro @zpI<|
 And.intro @zuL<|And.intro @zCn<|And.intro @zCm<|And.intro @zuy<|And.intro @ztt<|And.intro @zvF<|And.intro @zAw<|And.intro @zAx<|And.intro @zxa<|And.intro @zq6<|
 And.intro @zsY<|And.intro @zsZ<|And.intro @zAk<|And.intro @zAl<|And.intro @zvj<|
 And.intro @zvi<|And.intro @zpo<|And.intro @zzu<|And.intro @zzE<|And.intro @zzA<|
 And.intro @zzD<|And.intro @zzC<|And.intro @zzv<|And.intro @zzB<|And.intro @zzz<|
 And.intro @zzy<|And.intro @zzx<|And.intro @zzw<|And.intro @zwz<|And.intro @zwC<|
 And.intro @zwB<|And.intro @zwA<|And.intro @zwF<|And.intro @zwG<|And.intro @zCT<|
 And.intro @zCS<|And.intro @zqE<|And.intro @zqG<|And.intro @zoZ<|
 And.intro @zqI<|And.intro @zqF<|And.intro @zsF<|And.intro @zsE<|
 And.intro @zsH<|And.intro @zqH<|And.intro @zo3<|And.intro @zo1<|
 And.intro @zo0<|And.intro @zo2<|And.intro @zsG<|And.intro @zsC<|
 And.intro @zsD<|And.intro @zta<|And.intro @zq_<|And.intro @ztc<|
 And.intro @zs'<|And.intro @zu8<|And.intro @zu7<|And.intro @zu_<|
 And.intro @ztb<|And.intro @zrc<|And.intro @zra<|And.intro @zq'<|
 And.intro @zrb<|And.intro @zu9<|And.intro @zu5<|And.intro @zu6<|
 And.intro @zuG<|And.intro @zwX<|And.intro @zqT<|And.intro @zvS<|
 And.intro @zrq<|And.intro @zpU<|And.intro @zkG<|And.intro @zph<|
 And.intro @zqV<|And.intro @zwY<|And.intro @ztC<|And.intro @ztB<|
 And.intro @ztD<|And.intro @zts<|And.intro @zvD<|And.intro @zvE<|
 And.intro @zvC<|And.intro @zv2<|And.intro @zrA<|And.intro @znH<|
 And.intro @zp9<|And.intro @zxJ<|And.intro @List.append_assoc.{0}<|And.intro @List.length_append.{0}<|
 And.intro @xp<|And.intro @wF<|And.intro @jc<|And.intro @QH<|And.intro @List.set_cons_zero.{0}<|
 And.intro @List.set_cons_succ.{0}<|And.intro @List.filter_nil.{0}<|And.intro @List.filter_cons.{0}<|And.intro @cB<|
 And.intro @zAU<|And.intro @zyh<|And.intro @zA5<|And.intro @zyt<|And.intro @List.length_replicate.{0}<|
 And.intro @List.length_set.{0}<|And.intro @List.cons_append.{0}<|And.intro @List.take_zero.{0}<|And.intro @List.drop_zero.{0}<|And.intro @zua<|
 And.intro @zrM<|And.intro @znu<|And.intro @zf0<|And.intro @zwi<|And.intro @zDT<|
 And.intro @zru<|And.intro @zys<|And.intro @zvX<|And.intro @zyr<|
 And.intro @zqB<|And.intro @zwJ<|And.intro @zun<|And.intro @zwI<|
 And.intro @zsI<|And.intro @zux<|And.intro @zvz<|And.intro @zxP<|And.intro @zvH<|
 And.intro @zwg<|And.intro @ztZ<|And.intro @zwh<|And.intro @zvQ<|And.intro @zyg<|
 And.intro @zva<|And.intro @zvb<|And.intro @zvd<|And.intro @zxl<|And.intro @zB4<|
 And.intro @zAh<|And.intro @zxk<|And.intro @zAi<|And.intro @zAf<|And.intro @zu'<|
 And.intro @zxj<|And.intro @zAg<|And.intro @zxm<|And.intro @zvc<|And.intro @Bool.if_true_left<|
 And.intro @Bool.if_false_left<|And.intro @Bool.if_true_right<|And.intro @Bool.if_false_right<|And.intro @Bool.decide_eq_true<|
 And.intro @eB<|And.intro @Bool.and_false<|And.intro @Bool.false_and<|And.intro @Bool.false_or<|And.intro @zxi<|
 And.intro @zqW<|And.intro @zqX<|And.intro @zn8<|And.intro @zwW<|
 And.intro @zz6<|And.intro @zC6<|And.intro @zC5<|And.intro @zDW<|And.intro @zCo<|
 And.intro @zAy<|And.intro @aP<|And.intro @not_false_eq_true<|And.intro @not_true_eq_false<|And.intro @and_self<|
 And.intro @or_self<|And.intro @zrp<|And.intro @QL<|And.intro @zbV<|And.intro @zrU<|
 And.intro @zrT<|And.intro @zkN<|And.intro @zBS<|And.intro @zfV<|And.intro @zz3<|
 And.intro @zBR<|And.intro @zw7<|And.intro @zw8<|And.intro @zw9<|And.intro @zs5<|
 And.intro @zs4<|And.intro @QM<|And.intro @zw5<|And.intro @zuX<|And.intro @zw6<|
 And.intro @zz7<|And.intro @List.append_nil.{0}<|And.intro @List.nil_append.{0}<|And.intro @List.all_cons.{0}<|And.intro @List.all_nil.{0}<|
 And.intro @Bool.and_true<|And.intro @Bool.true_and<|And.intro @List.length_cons.{0}<|And.intro @List.length_nil.{0}<|
 And.intro @List.take_succ_cons.{0}<|And.intro @List.take_nil.{0}<|And.intro @List.drop_succ_cons.{0}<|And.intro @List.drop_nil.{0}<|
 And.intro @List.getElem?_cons_zero.{0}<|And.intro @List.getElem?_cons_succ.{0}<|And.intro @List.isEmpty_nil.{0}<|And.intro @Bool.true_or<|
 And.intro @List.map_cons.{0,0}<|And.intro @List.map_nil.{0,0}<|And.intro @cC<|And.intro @bG<|And.intro @beq_iff_eq.{0}<|
 And.intro @if_true.{1}<|And.intro @if_false.{1}<|And.intro @ite_self.{1}<|And.intro @decide_true<|And.intro @decide_false<|And.intro @Bool.not_true<|
 And.intro @Bool.not_false<|And.intro @beq_self_eq_true.{0}<|And.intro @bO<|And.intro @cN<|And.intro @decide_not<|
 And.intro @aS<|And.intro @true_and<|And.intro @and_true<|And.intro @Bool.or_true<|And.intro @Option.map_some.{0,0}<|
 And.intro @List.getElem?_map.{0,0}<|And.intro @d7<|And.intro @aU<|And.intro @Bool.decide_or<|
 And.intro @Bool.decide_and<|And.intro @List.length_map.{0,0}<|And.intro @or_true<|And.intro @true_or<|And.intro @or_false<|And.intro @false_or<|
 And.intro @and_false<|@cL
end Go.Av
end
section
namespace Go.Av
open Go
section
structure TI where
 size:Nat
 bytes:Nat
 zero:Option Value
structure v5 where
 und:TypeId->Option TypeDesc
 info:TypeId->Option TI
 tags:TypeId->Option (List Nat)
 body:FuncId->Bool
 bits:FuncId->Bool
def J1 (P:Program) (t:TypeId):Option TI:=match P.info? t with|some i=>some ⟨i.size,i.bytes,i.zero⟩|none=>none
def v5.of (P:Program):v5:=⟨P.underlying,J1 P,VX P,Vt P,zbY P⟩
def zim (Q:v5) (t:TypeId):Option Bool:=
 match Q.und t with
 |some (.struct _)=>some true
 |some (.array _ _)=>some true
 |some _=>some false
 |none=>none
def Wx (Q:v5) (t:TypeId):Option Nat:=match Q.info t with|some i=>some i.size|none=>none
def zbx (Q:v5) (t:TypeId):Option (List PV):=match Q.info t with|some i=>(match i.zero with|some z=>kG z.cells.toList|none=>none)|none=>none
def zqf (Q:v5) (t:TypeId):Option PV:=match Q.info t with|some i=>(match i.zero with|some z=>zix z|none=>none)|none=>none
def QX (Q:v5) (t:TypeId):Option (TypeId×Nat×Nat):=
 match Q.und t with
 |some (.slice e)=>match Q.info e with|some i=>(match Nat.beq i.size 0||Nat.beq i.bytes 0 with|true=>none|false=>some (e,i.size,i.bytes))|none=>none
 |_=>none
def zdf (Q:v5):List Field->Option (List (Nat×Nat))
 |[]=>some []
 |f::fs=>match Q.info f.type,zdf Q fs with
  |some i,some ps=>some ((f.offset,i.size)::ps)
  |_,_=>none
def zuj (Q:v5) (t:TypeId):Bool:=
 match Q.und t with
 |some (.int _)|some .string|some (.float _)=>true
 |_=>false
def zrO (Q:v5) (t:TypeId):Bool:=
 match Q.und t with
 |some .bool=>true
 |_=>false
def zkK (Q:v5) (t:TypeId):Option Nat:=
 match Q.und t with
 |some (.int _)=>some 0
 |some .bool=>some 1
 |some .string=>some 2
 |_=>none
def zm1 (Q:v5) (T:yh) (dst:Option Nat) (c:Call):Option uU:=
 match c.callee with
 |.value f=>match zmC f with
  |some g=>match Q.body g,uZ T c.args.toList with
   |true,some xs=>some (.call (T.md dst) g xs)
   |false,some xs=>zko (Q.bits g) xs
   |_,none=>none
  |none=>match z_ T f,uZ T c.args.toList with
   |some y,some xs=>some (.callv (T.md dst) y xs)
   |_,_=>none
 |.builtin b=>match b with
  |.len=>match c.argTypes.toList,c.args.toList with
   |[t],[x]=>match Q.und t with
    |some (.slice _)=>match z_ T x with|some y=>some (.len y)|none=>none
    |some .string=>match z_ T x with|some y=>some (.lenS y)|none=>none
    |some (.array n _)=>some (.copy (.const (.int .i64 n)))
    |_=>none
   |_,_=>none
  |.append=>match c.argTypes.toList,c.args.toList with
   |[t,u],[x,y]=>match QX Q t,Nat.beq u t,z_ T x,z_ T y with
    |some (e,sz,by'),true,some x',some y'=>match zbx Q e with
     |some z=>match Nat.beq z.length sz with|true=>some (.append sz by' x' y')|false=>none
     |none=>none
    |_,_,_,_=>none
   |_,_=>none
  |.copy=>match c.argTypes.toList,c.args.toList with
   |[t,u],[x,y]=>match QX Q t,z_ T x,z_ T y with
    |some (_,sz,_),some x',some y'=>some (.copyS sz x' y')
    |_,_,_=>none
   |_,_=>none
  |.max=>match uZ T c.args.toList with|some xs=>zhU xs true|none=>none
  |.min=>match uZ T c.args.toList with|some xs=>zhU xs false|none=>none
  |_=>none
 |_=>none
def ztV (Q:v5) (T:yh) (dst:Option Nat):Op->Option uU
 |.move x=>match z_ T x with|some y=>some (.copy y)|none=>none
 |.assign x=>match z_ T x with|some y=>some (.copy y)|none=>none
 |.pick c a b=>match z_ T c,z_ T a,z_ T b with|some c',some a',some b'=>some (.pick c' a' b')|_,_,_=>none
 |.alloc t=>match zbx Q t with|some z=>some (.alloc z)|none=>none
 |.box t x=>match z_ T x with|some y=>some (.box y)|none=>none
 |.build t parts=>match zbx Q t,Q.und t with
  |some z,some (.struct fields)=>match zdf Q fields.toList with
   |some places=>match Xm T (places[·]?) parts.toList with|some ps=>some (.build z ps)|none=>none
   |none=>none
  |some z,some (.array _ e)=>match Wx Q e with
   |some sz=>match Xm T (λ i=>some (i*sz,sz)) parts.toList with|some ps=>some (.build z ps)|none=>none
   |none=>none
  |_,_=>none
 |.buildSlice t len parts=>match QX Q t with
  |some (e,sz,_)=>match zbx Q e,U0 T parts.toList,Nat.ble (len*sz) 16777216 with
   |some z,some ps,true=>match Nat.beq z.length sz with|true=>some (.buildSlice sz len z ps)|false=>none
   |_,_,_=>none
  |none=>none
 |.load t a=>match zim Q t,Wx Q t,z_ T a with|some g,some sz,some y=>some (.load g sz y)|_,_,_=>none
 |.store t a x=>match Wx Q t,z_ T a,z_ T x with|some sz,some y,some z=>some (.store sz y z)|_,_,_=>none
 |.nilCheck x=>match z_ T x with|some y=>some (.nilCheck y)|none=>none
 |.binOp op t x y _=>match z_ T x,z_ T y with
  |some x',some y'=>match zuj Q t with
   |true=>some (.bin op x' y')
   |false=>match ziF op with
    |some neg=>match zrO Q t with
     |true=>some (.eqB neg x' y')
     |false=>match Q.tags t with
      |some tags=>some (.eqS neg tags x' y')
      |none=>none
    |none=>none
  |_,_=>none
 |.unOp op _ x=>match z_ T x with|some y=>some (.un op y)|none=>none
 |.convert s d x=>match Q.und s,Q.und d,z_ T x with
  |some (.int _),some (.int k),some y=>some (.conv k y)
  |some (.int _),some (.float .f64),some y=>some (.prim .i2f y)
  |some (.slice e),some .string,some y=>match Q.und e with|some (.int .u8)=>some (.bstr y)|_=>none
  |_,_,_=>none
 |.makeFunc fn first captured=>match fn,first.toList,uZ T captured.toList with
  |.func f,[],some xs=>some (.mkfn f xs)
  |_,_,_=>none
 |.makeSlice t l c=>match QX Q t with
  |some (e,sz,by')=>match zbx Q e,z_ T l,z_ T c with
   |some z,some l',some c'=>match Nat.beq z.length sz with|true=>some (.mkslice sz by' z l' c')|false=>none
   |_,_,_=>none
  |none=>none
 |.slice t x lo hi mx=>match mx with
  |some _=>none
  |none=>
   match Q.und t with
   |some .string=>match z_ T x,Zd T lo,Zd T hi with
    |some x',some l',some h'=>some (.sliceS x' l' h')
    |_,_,_=>none
   |some (.slice e)=>match Wx Q e,z_ T x,Zd T lo,Zd T hi with
    |some sz,some x',some l',some h'=>some (.slice sz x' l' h')
    |_,_,_,_=>none
   |_=>none
 |.fieldAddr t x k=>match Q.und t with
  |some (.struct fields)=>match fields[k]? with
   |some f=>match Wx Q f.type,z_ T x with
    |some sz,some y=>match Nat.beq sz 0 with|true=>none|false=>some (.fieldA f.offset y)
    |_,_=>none
   |none=>none
  |_=>none
 |.field t x k=>match Q.und t with
  |some (.struct fields)=>match fields[k]? with
   |some f=>match zim Q f.type,Wx Q f.type,z_ T x with
    |some g,some sz,some y=>some (.field g f.offset sz y)
    |_,_,_=>none
   |none=>none
  |_=>none
 |.indexAddr t x i=>match QX Q t,z_ T x,z_ T i with
  |some (_,sz,_),some x',some i'=>some (.indexA sz x' i')
  |none,some x',some i'=>match Q.und t with
   |some (.array n e)=>match Wx Q e with
    |some sz=>some (.indexP n sz x' i')
    |none=>none
   |_=>none
  |_,_,_=>none
 |.index t x i=>match Q.und t with
  |some (.array n e)=>match zim Q e,Wx Q e,z_ T x,z_ T i with
   |some g,some sz,some x',some i'=>some (.indexV n g sz x' i')
   |_,_,_,_=>none
  |_=>none
 |.extract x i=>match z_ T x with|some y=>some (.extract y i)|none=>none
 |.makeMap _ r=>match r with|none=>some .mkmap|some _=>none
 |.lookup t x i ok=>match Q.und t with
  |some (.map k e)=>match zkK Q k,zqf Q e,z_ T x,z_ T i with
   |some tag,some z,some x',some i'=>some (.lookup tag z ok x' i')
   |_,_,_,_=>none
  |_=>none
 |.insert t mp k x=>match Q.und t with
  |some (.map kt _)=>match zkK Q kt,z_ T mp,z_ T k,z_ T x with
   |some tag,some m',some k',some x'=>some (.insert tag m' k' x')
   |_,_,_,_=>none
  |_=>none
 |.mapUpdate t mp k x=>match Q.und t with
  |some (.map kt _)=>match zkK Q kt,z_ T mp,z_ T k,z_ T x with
   |some tag,some m',some k',some x'=>some (.insert tag m' k' x')
   |_,_,_,_=>none
  |_=>none
 |.call c=>zm1 Q T dst c
 |.range t _=>match Q.und t with|some (.map _ _)=>some .fail|_=>none
 |.next _ s=>match s with|false=>some .fail|true=>none
 |.entry _=>some .fail
 |_=>none
def zm3 (Q:v5) (T:yh) (nt:Nat) (ops:Array Oper) (o:Oper):Option zD:=
 let g:Option (Option (zy×Bool)):=match o.guard with
  |none=>some none
  |some (j,want)=>match ops[j]? with
   |some oj=>match oj.dst with
    |some d=>match Nat.blt d nt with
     |true=>some (some (match T.K d with|true=>.per d|false=>.reg d,want))
     |false=>none
    |none=>none
   |none=>none
 match g,ztV Q T o.dst o.op with
 |some g',some op=>match o.dst with
  |none=>some ⟨none,op,g',false,[]⟩
  |some d=>match Nat.blt d nt&& !T.fix d with
   |true=>some ⟨some (T.K d,d),op,g',T.S (some d),[]⟩
   |false=>none
 |_,_=>none
def zgf (Q:v5) (T:yh) (nt:Nat) (ops:Array Oper):List Oper->Option (List zD)
 |[]=>some []
 |o::os=>match zm3 Q T nt ops o,zgf Q T nt ops os with
  |some a,some as=>some (a::as)
  |_,_=>none
def zyq (T:yh) (a b:Code) (x y:AC):Option AC:=match Vk T a b with|none=>some (.seq x y)|some _=>some (match Zc T a b x y with|some r=>r|none=>.seq x y)
theorem zA3 (T:yh) (a b:Code) (x y:AC):zyq T a b x y=some (match Zc T a b x y with|some r=>r|none=>.seq x y):=by
 unfold zyq
 split
 ·rename_i h
  unfold Zc
  rw [h]
 ·rfl
def VZ (Q:v5) (T:yh) (nt:Nat):Code->Option AC
 |.skip=>some .skip
 |.region _ ops draw=>match zgf Q T nt ops ops.toList with
  |some as=>match draw with
   |false=>some (.region false as)
   |true=>match zf7 ops (jz (WM ops.toList []) as 0 as) with|true=>some (.region true (jz (WM ops.toList []) as 0 as))|false=>none
  |none=>none
 |.seq a b=>match VZ Q T nt a,VZ Q T nt b with|some x,some y=>zyq T a b x y|_,_=>none
 |.cond c a b=>match z_ T c,VZ Q T nt a,VZ Q T nt b with|some c',some x,some y=>some (.cond (T.isGone c) c' x y)|_,_,_=>none
 |.block id b=>match VZ Q T nt b with|some x=>some (.block id x)|none=>none
 |.loop b=>match VZ Q T nt b with|some x=>some (.loop x)|none=>none
 |.exit id=>some (.exit id)
 |.ret=>some .ret
 |_=>none
def ze6 (Q:v5) (T:yh):List ResultVar->Option (List jw)
 |[]=>some []
 |.tmp t::rs=>match T.K t,ze6 Q T rs with|true,some xs=>some (.tmp t::xs)|_,_=>none
 |.cell a t::rs=>match T.K a,zim Q t,Wx Q t,ze6 Q T rs with|true,some g,some sz,some xs=>some (.cell a g sz::xs)|_,_,_,_=>none
def zW (Q:v5) (T:yh) (fn:Func):Option zL:=
 match fn.body with
 |some c=>match VZ Q T fn.ntmps c,ze6 Q T fn.results.toList with
  |some x,some rs=>match zje T (fn.params.size+fn.nfree)&&Nat.ble (fn.params.size+fn.nfree) fn.ntmps with
   |true=>some ⟨fn.params.size+fn.nfree,x,rs⟩
   |false=>none
  |_,_=>none
 |none=>none
section
variable (P:Program)
theorem znL (t:TypeId):zim (v5.of P) t=zab P t:=rfl
theorem zlF (t:TypeId):Wx (v5.of P) t=vW P t:=by
 show (match J1 P t with|some i=>some i.size|none=>none)=_
 rw [J1,vW];cases P.info? t<;>rfl
theorem zlG (t:TypeId):zbx (v5.of P) t=Zx P t:=by
 show (match J1 P t with|some i=>(match i.zero with|some z=>kG z.cells.toList|none=>none)|none=>none)=_
 rw [J1,Zx];cases P.info? t<;>rfl
theorem zrF (t:TypeId):zqf (v5.of P) t=zby P t:=by
 show (match J1 P t with|some i=>(match i.zero with|some z=>zix z|none=>none)|none=>none)=_
 rw [J1,zby];cases P.info? t<;>rfl
theorem zlE (t:TypeId):QX (v5.of P) t=kC P t:=by
 rw [QX,kC]
 show (match P.underlying t with|some (.slice e)=>(match J1 P e with|some i=>(match Nat.beq i.size 0||Nat.beq i.bytes 0 with|true=>none|false=>some (e,i.size,i.bytes))|none=>none)|_=>none)=_
 cases P.underlying t with
 |none=>rfl
 |some d=>
  cases d<;>first
   |rfl
   |(rename_i e
     show (match J1 P e with|some i=>(match Nat.beq i.size 0||Nat.beq i.bytes 0 with|true=>none|false=>some (e,i.size,i.bytes))|none=>none)=(match P.info? e with|some i=>(match Nat.beq i.size 0||Nat.beq i.bytes 0 with|true=>none|false=>some (e,i.size,i.bytes))|none=>none)
     rw [J1];cases P.info? e<;>rfl)
theorem zig:∀ fs,zdf (v5.of P) fs=Yt P fs
 |[]=>rfl
 |f::fs=>by
  rw [zdf,Yt,zig fs]
  show (match J1 P f.type,Yt P fs with|some i,some ps=>some ((f.offset,i.size)::ps)|_,_=>none)=_
  rw [J1];cases P.info? f.type<;>cases Yt P fs<;>rfl
theorem zuk (t:TypeId):zuj (v5.of P) t=zov P t:=rfl
theorem zsz (t:TypeId):zrO (v5.of P) t=zkp P t:=rfl
theorem zuM (t:TypeId):zkK (v5.of P) t=U' P t:=rfl
theorem ztS (T:yh) (d:Option Nat) (c:Call):zm1 (v5.of P) T d c=Zw P T d c:=by
 unfold zm1 Zw
 simp only [zlE,zlG]
 rfl
theorem zyK (T:yh) (d:Option Nat) (o:Op):ztV (v5.of P) T d o=UI P T d o:=by
 cases o<;>(unfold ztV UI;simp only [znL,zlF,zlG,zrF,zlE,zig,zuk,zsz,zuM,ztS])<;>first|done|rfl
theorem ztW (T:yh) (nt:Nat) (ops:Array Oper) (o:Oper):zm3 (v5.of P) T nt ops o=Xl P T nt ops o:=by
 unfold zm3 Xl;simp only [zyK];rfl
theorem zjw (T:yh) (nt:Nat) (ops:Array Oper):∀ os,zgf (v5.of P) T nt ops os=wm P T nt ops os
 |[]=>rfl
 |o::os=>by rw [zgf,wm,ztW,zjw T nt ops os];rfl
theorem ztU (T:yh) (nt:Nat):∀ c,VZ (v5.of P) T nt c=y7 P T nt c:=by
 intro c
 induction c<;>(simp only [VZ,y7,zjw,zA3])<;>first|done|rfl|(simp only [*];done)|(simp only [*];rfl)
theorem zih (T:yh):∀ rs,ze6 (v5.of P) T rs=XF P T rs
 |[]=>rfl
 |.tmp t::rs=>by rw [ze6,XF,zih T rs];rfl
 |.cell a t::rs=>by rw [ze6,XF,zih T rs,znL,zlF];rfl
theorem zyJ (T:yh) (fn:Func):zW (v5.of P) T fn=zm2 P T fn:=by
 unfold zW zm2;simp only [ztU,zih];rfl
end
def zmM {α:Type}:List (Option α)->Nat->Option α
 |[],_=>none
 |x::l,n=>match n with|0=>x|n+1=>zmM l n
def zmL:List Bool->Nat->Bool
 |[],_=>false
 |x::l,n=>match n with|0=>x|n+1=>zmL l n
theorem zr_ {α:Type}:∀ (l:List (Option α)) n,zmM l n=(l[n]?).join
 |[],n=>rfl
 |x::l,0=>by cases x<;>rfl
 |x::l,n+1=>by rw [zmM,zr_ l n];rfl
theorem zr9:∀ (l:List Bool) n,zmL l n=(l[n]?).getD false
 |[],n=>rfl
 |x::l,0=>rfl
 |x::l,n+1=>by rw [zmL,zr9 l n];rfl
def zcD {α:Type} (n:Nat) (f g:Nat->α) (t:Nat):α:=match Nat.blt t n with|true=>f t|false=>g t
theorem zBK {α:Type} {f:Nat->Option α} {n:Nat} {l:List (Option α)} (h:(List.range n).map f=l):zcD n (zmM l) f=f:=by
 funext t
 subst h
 rw [zcD]
 split
 ·rename_i ht
  have ht:t<n:=dP ht
  rw [zr_,aN,dK ht];rfl
 ·rfl
theorem zBJ {f:Nat->Bool} {n:Nat} {l:List Bool} (h:(List.range n).map f=l):zcD n (zmL l) f=f:=by
 funext t
 subst h
 rw [zcD]
 split
 ·rename_i ht
  have ht:t<n:=dP ht
  rw [zr9,aN,dK ht];rfl
 ·rfl
def zoE:List (Nat×List Nat)->(Nat->Option (List Nat))->Nat->Option (List Nat)
 |[],g,t=>g t
 |x::l,g,t=>match Nat.beq x.1 t with|true=>some x.2|false=>zoE l g t
theorem zp' {f:Nat->Option (List Nat)}:∀ l:List (Nat×List Nat),l.map (λ x=>f x.1)=l.map (λ x=>some x.2)->zoE l f=f
 |[],_=>rfl
 |x::l,h=>by
  rw [aM,aM,dT] at h
  funext t
  rw [zoE,zp' l h.2]
  split
  ·rename_i hb;rw [<-aT hb,h.1]
  ·rfl
def v5.mk' (P:Program) (n k:Nat) (lU:List (Option TypeDesc)) (lI:List (Option TI)) (lT:List (Nat×List Nat)) (lB lS:List Bool):v5:=⟨zcD n (zmM lU) P.underlying,zcD n (zmM lI) (J1 P),zoE lT (VX P),zcD k (zmL lB) (Vt P),zcD k (zmL lS) (zbY P)⟩
theorem zCR {P:Program} {n k:Nat} {lU:List (Option TypeDesc)} {lI:List (Option TI)} {lT:List (Nat×List Nat)} {lB lS:List Bool} (h1:(List.range n).map P.underlying=lU) (h2:(List.range n).map (J1 P)=lI) (h3:lT.map (λ x=>VX P x.1)=lT.map (λ x=>some x.2)) (h4:(List.range k).map (Vt P)=lB) (h5:(List.range k).map (zbY P)=lS):v5.mk' P n k lU lI lT lB lS=v5.of P:=by
 rw [v5.mk',zBK h1,zBK h2,zp' lT h3,zBJ h4,zBJ h5];rfl
theorem yW {P:Program} {Q:v5} (hQ:Q=v5.of P) {T:yh} {fn:Func} {F:zL} (h:zW Q T fn=some F):zm2 P T fn=some F:=by
 rw [<-zyJ, <-hQ];exact h
def zs1 (os:List zD):List Nat->Option (List Nat)
 |[]=>some []
 |k::ks=>match zs1 os ks with
  |some r=>match Xr os k with|true=>some r|false=>some (k::r)
  |none=>none
def zsu:List zD->Option (List Zg)
 |[]=>some []
 |[o]=>some [.op o]
 |o::o'::os=>match zs1 (o'::os) (zbw o),zsu (o'::os) with
  |some ks,some r=>match ks with|[]=>some (.op o::r)|k::ks=>some (.op o::.kill (k::ks)::r)
  |_,_=>none
def zhr:List (List zD)->Option (List (List Zg))
 |[]=>some []
 |os::l=>match zsu os,zhr l with|some r,some rs=>some (r::rs)|_,_=>none
theorem zrR (os:List zD):∀ ks,zs1 os ks=some (ks.filter λ k=> !(Xr os k))
 |[]=>rfl
 |k::ks=>by rw [zs1,zrR os ks,dQ];cases Xr os k<;>rfl
theorem zrN:∀ os,zsu os=some (Yy os)
 |[]=>rfl
 |[o]=>rfl
 |o::o'::os=>by
  rw [zsu,zrR,zrN (o'::os),Yy]
  cases (zbw o).filter λ k=> !(Xr (o'::os) k)<;>rfl
theorem znj:∀ l,zhr l=some (l.map Yy)
 |[]=>rfl
 |os::l=>by rw [zhr,zrN,znj l];rfl
def zsm (P:xn) (R:Nat->List zD):Nat->List (List Zg)->Prop
 |_,[]=>True
 |i,bs::l=>match l with
  |[]=>∀ d st,EV P (.region d (R i)) st=regK (xw P bs { per:=st.per,reg:=[],H:=st.H,ed:=st.ed })
  |_::_=>(∀ d st,EV P (.region d (R i)) st=regK (xw P bs { per:=st.per,reg:=[],H:=st.H,ed:=st.ed }))/\zsm P R (i+1) l
theorem znh {P:xn} {R:Nat->List zD}:∀ (l:List (List zD)) i,(∀ k,k<l.length->l[k]?=some (R (i+k)))->zsm P R i (l.map Yy)
 |[],_,_=>trivial
 |os::l,i,h=>by
   have h0:∀ d st,EV P (.region d (R i)) st=regK (xw P (Yy os) { per:=st.per,reg:=[],H:=st.H,ed:=st.ed }):=λ d st=>by
    have:=h 0 (by simp)
    simp only [bW,cN,aC] at this
    exact rgA (by rw [this]) d st
   have h1:=znh (P:=P) l (i+1) λ k hk=>by
    have:=h (k+1) (by simp;omega)
    rw [dF] at this
    rw [this];congr 2;omega
   cases l with
   |nil=>exact h0
   |cons x l=>exact ⟨h0,h1⟩
theorem zDV {P:xn} {c:AC} {R:Nat->List zD} {L:List (List Zg)} (hR:R=zV c) (hL:zhr (jF c)=some L):zsm P R 0 L:=by
 rw [znj] at hL
 cases hL
 exact znh _ 0 λ k hk=>by
  subst hR
  rw [aE hk,bO,zV,cK,aE hk];rfl
theorem yk {P:xn} {c:AC} {R:Nat->List zD} {L L':List (List Zg)} (hR:R=zV c) (hL:zhr (jF c)=some L) (hL':L=L') {p:xn->(Nat->List zD)->Prop} (h:∀ P R,zsm P R 0 L'=p P R):p P R:=h P R▸hL'▸zDV hR hL
end
end Go.Av
end

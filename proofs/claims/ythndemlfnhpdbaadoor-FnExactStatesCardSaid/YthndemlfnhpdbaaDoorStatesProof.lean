/- The statement FnExactStates (its card) -/
import Derived.ChangeVars
import Derived.LaidMore
import Derived.SevenTiedAt
import Derived.WideKeyElems4
import Derived.Test.YthndemlfnhpdbaaDoorCards
import Derived.Test.YthndemlfnhpdbaaDoorEp3
import Derived.Test.YthndemlfnhpdbaaDoorRows
import Derived.Test.YthndemlfnhpdbaaDoorTie
set_option linter.all false
section
namespace Go.Proofs.YthndemlfnhpdbaaDoor.fnExactStates
open Go.ChangeShapes Go.WideShapes Go.ChangeAt Go.RowKit Go.Av
set_option maxRecDepth 100000
section
theorem own:ownKnob Tryd.prog.godebug=none:=by kernel_rfl
def arg:TypeId:=24
noncomputable def zuh:Array Field:=match Tryd.prog.underlying arg with|some (.struct fs)=>fs|_=>#[]
theorem zsv:Tryd.prog.underlying arg=some (.struct zuh):=by kernel_rfl
noncomputable def zly:List Sh:=(Ys Tryd.prog 12 arg).get!
theorem zp4:Ys Tryd.prog 12 arg=some zly:=by kernel_rfl
theorem zyv:∃ n ss,Ys Tryd.prog n arg=some ss:=⟨12,zly,zp4⟩
theorem zyu:zly=Tryd.Av.zvZ:=by kernel_rfl
theorem law (qs:List PV) (f:Int) (h:ux zly qs):EP Tryd.Av.A 4 [.agg qs,.int .i64 f]=some (.bool true):=by
 rw [zyu] at h
 obtain ⟨o,rfl,hb,hs,hg⟩:=Tryd.Av.zwO h
 exact Tryd.Av.zpd o f hb hs hg
theorem zBW:Ys Tryd.prog 12 3=some [.int .i64]:=by kernel_rfl
def nm:String:= "loop.example/draft/impl.roles"
theorem zhK:Tryd.prog.globalNamed nm=some 1:=by kernel_rfl
theorem zv6:(Tryd.prog.globals[1]?).map (·.type)=some 138:=by kernel_rfl
theorem u77:Tryd.prog.underlying 138=some (.map 3 136):=by kernel_rfl
theorem u75:Tryd.prog.underlying 136=some (.array 4 135):=by kernel_rfl
theorem u74:Tryd.prog.underlying 135=some (.int .i64):=by kernel_rfl
theorem u3:Tryd.prog.underlying 3=some (.int .i64):=by kernel_rfl
theorem c74:Tryd.prog.cellsOf 135=1:=by kernel_rfl
theorem c75:Tryd.prog.cellsOf 136=4:=by kernel_rfl
def zmF:List (String×DataW Unit):=[(nm,Rows.laid_loop_example_draft_impl_roles)]
section
variable {H:Type}
def zpg (e:Int×List Int):Lit×DataW H:=(.int .i64 e.1,.agg (e.2.map λ x=>.lit (.int .i64 x)))
def zwN (x:Lit×DataW H):Int×List Int:=(match x.1 with|.int _ n=>n|_=>0,match x.2 with|.agg l=>l.map (λ d=>match d with|.lit (.int _ n)=>n|_=>0)|_=>[])
theorem zzG (e:Int×List Int):zwN (zpg (H:=H) e)=e:=by
 obtain ⟨a,l⟩:=e
 simp only [zwN,zpg,cZ]
 congr 1
 exact (bM λ x _=>rfl).trans (List.map_id l)
theorem zr3:(Rows.laid_loop_example_draft_impl_roles:DataW H)=.map (Tryd.Av.yN.map zpg):=rfl
end
theorem zve {v:Value} {k:Lit} (h:keyOf Tryd.prog 3 v=some k):∃ a,v=.int .i64 a/\k=.int .i64 a:=by
 simp only [keyOf,u3,mapKey] at h
 cases v<;>simp at h
 obtain ⟨⟨rfl,_⟩,rfl⟩:=h
 exact ⟨_,rfl,rfl⟩
theorem zzX {W:World} {sp:Nat->Bool} {held:Bool} {n:Nat} {v:Value} {z:DataW Unit×List MemPlace} (h:WideElems.elemAt (λ _=>()) Tryd.prog W 0 sp held n 136 v=some z):
  ∃ l:List Int,v=.agg (l.map λ x=>Value.int .i64 x).toArray/\z.1=.agg (l.map λ x=>.lit (.int .i64 x)):=by
 unfold WideElems.elemAt at h
 split at h
 ·rename_i hf
  obtain ⟨xs,m,rfl,rfl,hl,hn,hel⟩:=DataW.trod_array u75 h
  rw [c75] at hl
  obtain ⟨cs,rfl⟩:∃ cs,v=.agg cs:=by
   cases v<;>simp [Value.formed,u75] at hf
   exact ⟨_,rfl⟩
  simp only [Value.cells] at hl hel
  obtain ⟨cs⟩:=cs
  match cs,hl with
  |[a,b,c,d],_=>
   match xs,hn with
   |[x0,x1,x2,x3],_=>
    have h0:=hel 0 (by decide)
    have h1:=hel 1 (by decide)
    have h2:=hel 2 (by decide)
    have h3:=hel 3 (by decide)
    rw [c74] at h0 h1 h2 h3
    obtain ⟨k0,e0,f0,_⟩:=DataW.trod_int u74 (show DataW.trod _ Tryd.prog W 0 _ _ m 135 [a]=some x0 from h0)
    obtain ⟨k1,e1,f1,_⟩:=DataW.trod_int u74 (show DataW.trod _ Tryd.prog W 0 _ _ m 135 [b]=some x1 from h1)
    obtain ⟨k2,e2,f2,_⟩:=DataW.trod_int u74 (show DataW.trod _ Tryd.prog W 0 _ _ m 135 [c]=some x2 from h2)
    obtain ⟨k3,e3,f3,_⟩:=DataW.trod_int u74 (show DataW.trod _ Tryd.prog W 0 _ _ m 135 [d]=some x3 from h3)
    injection e0 with e0 _
    injection e1 with e1 _
    injection e2 with e2 _
    injection e3 with e3 _
    subst e0 e1 e2 e3 f0 f1 f2 f3
    exact ⟨[k0,k1,k2,k3],rfl,rfl⟩
 ·cases h
theorem zi3 {W:World} {sp:Nat->Bool} {held:Bool} {n:Nat}:∀ es:List MapEntry,(∀ x∈es,∃ y,WideElems.rd Tryd.prog 3 (WideElems.elemAt (λ _=>()) Tryd.prog W 0 sp held n 136) x=some y)->
  ∃ L:List (Int×List Int),L.length=es.length/\es.map (WideElems.rg Tryd.prog 3 (WideElems.elemAt (λ _=>()) Tryd.prog W 0 sp held n 136))=L.map zpg/\∀ (i:Nat) (e:Int×List Int) (x:MapEntry),L[i]?=some e->es[i]?=some x->x.key=.int .i64 e.1/\x.val=.agg (e.2.map λ y=>Value.int .i64 y).toArray
 |[],_=>⟨[],rfl,rfl,λ i e x h=>by simp at h⟩
 |x::es,h=>by
  obtain ⟨L,h1,h2,h3⟩:=zi3 es λ y hy=>h y (bL _ hy)
  obtain ⟨y,hy⟩:=h x cM
  obtain ⟨a,k1,k2⟩:=zve (WideElems.rd_key hy)
  obtain ⟨z,hz,k3⟩:=WideElems.rd_val hy
  obtain ⟨l,k4,k5⟩:=zzX hz
  refine ⟨(a,l)::L,by simp [h1],?_,λ i e x' he hx=>?_⟩
  ·rw [aM,aM,h2,WideElems.rg_of hy]
   congr 1
   obtain ⟨y1,y2⟩:=y
   simp only at k2 k3
   rw [k2,k3,k5]
   rfl
  ·cases i with
   |zero=>
    simp at he hx
    subst he;subst hx
    exact ⟨k1,k4⟩
   |succ i=>exact h3 i e x' (by simpa using he) (by simpa using hx)
theorem zht:∀ {L:List (Int×List Int)} {o:Int} {r:List Int},(L.map (·.1)).Nodup->(o,r)∈L->Tryd.Av.yC L o=some r
 |[],_,_,_,h=>by cases h
 |(a,l)::L,o,r,hn,h=>by
  rw [aM,List.nodup_cons] at hn
  simp only [Tryd.Av.yC]
  by_cases he:o=a
  ·rw [if_pos he]
   cases h with
   |head=>rfl
   |tail _ h=>exact absurd (bU.2 ⟨_,h,rfl⟩) (by rw [<-he] at hn;exact hn.1)
  ·rw [if_neg he]
   cases h with
   |head=>exact absurd rfl he
   |tail _ h=>exact zht hn.2 h
theorem zfL:∀ {L:List (Int×List Int)} {o:Int},o∉L.map (·.1)->Tryd.Av.yC L o=none
 |[],_,_=>rfl
 |(a,l)::L,o,h=>by
  rw [aM,dE,not_or] at h
  simp only [Tryd.Av.yC,if_neg h.1]
  exact zfL h.2
theorem zsw {L M:List (Int×List Int)} (hp:L.Perm M) (hn:(M.map (·.1)).Nodup) (o:Int):Tryd.Av.yC L o=Tryd.Av.yC M o:=by
 have hn2:(L.map (·.1)).Nodup:=(hp.map _).nodup_iff.2 hn
 by_cases h:o∈M.map (·.1)
 ·obtain ⟨⟨a,r⟩,h1,rfl⟩:=bU.1 h
  rw [zht hn h1,zht hn2 (hp.mem_iff.2 h1)]
 ·rw [zfL h,zfL (λ h2=>h ((hp.map _).mem_iff.1 h2))]
abbrev tab (L:List (Int×List Int)):List (PV×PV):=L.map λ e=>(.int .i64 e.1,Tryd.Av.zN e.2)
theorem zs0 (tag:Nat) (k:PV) (h:∀ o:Int,jC tag k (.int .i64 o)=none):∀ L:List (Int×List Int),L≠[]->findKey tag k (tab L)=none
 |[],hn=>absurd rfl hn
 |e::L,_=>by simp only [tab,aM,findKey,h]
theorem zuW {L M:List (Int×List Int)} (hp:L.Perm M) (hn:(M.map (·.1)).Nodup) (hM:M≠[]) (tag:Nat) (k:PV) (q:Option PV) (h:findKey tag k (tab M)=some q):findKey tag k (tab L)=some q:=by
 by_cases hk:∃ o,tag=0/\k=.int .i64 o
 ·obtain ⟨o,rfl,rfl⟩:=hk
  rw [Tryd.Av.Q4] at h ⊢
  rw [zsw hp hn o];exact h
 ·exfalso
  have:findKey tag k (tab M)=none:=zs0 tag k (λ o=>by
   cases ht:tag with
   |zero=>
    cases hkk:k with
    |int kd n=>
     by_cases e:kd=.i64
     ·subst e;exact absurd ⟨n,ht,hkk⟩ hk
     ·simp only [jC,dV e]
    |_=>rfl
   |succ t=>
    cases t with
    |zero=>cases k<;>rfl
    |succ t=>cases t<;>cases k<;>rfl) M hM
  rw [this] at h;cases h
theorem zAE {W:World} (h:laidMetH Tryd.prog zmF W):RelF W (Old W) (.fp [.fm (tab Tryd.Av.yN)] 0) (.pointer (some ⟨1,0,none⟩)):=by
 rw [MakeChecks.laidMetH_plain _ _ _ (by kernel_rfl)] at h
 obtain ⟨ps,⟨g0,t0,cs0,f0,p0,q0,hg0,ht0,hv0,hd0,_,_⟩,_,_⟩:=h
 obtain rfl:=dD (zhK.symm.trans hg0)
 obtain rfl:=dD (zv6.symm.trans ht0)
 rcases WideElems.open_map u77 hd0 with ⟨_,hx⟩|⟨bm,es,clock,n,rfl,hcs,hb,_,F,hx⟩
 ·simp [zr3] at hx
 simp only [aG] at hx
 obtain ⟨L,h1,h2,h3⟩:=zi3 es.toList F.reads
 have hperm:L.Perm Tryd.Av.yN:=by
  have:=hx.1
  rw [zr3,h2] at this
  injection this with this
  have hp:=(sorted_perm (L.map (zpg (H:=Unit)))).symm
  rw [<-this] at hp
  have:=hp.map zwN
  simpa [cZ,Function.comp_def,zzG] using this
 have hcell:W.cell? ⟨1,0,none⟩=some (.map (some bm)):=by
  have:=World.var?_cell hg0 hv0 0
  rw [Array.eq_one_of_toList hcs] at this
  simpa using this
 have hlt:(1:Nat)<W.heap.size:=by
  simp only [World.var?,zhK,aW] at hv0
  rcases bS 1 W.heap.size with h'|h'
  ·exact h'
  ·rw [Array.getElem?_eq_none h'] at hv0;cases hv0
 have hbm:bm<W.heap.size:=by
  rcases bS bm W.heap.size with h'|h'
  ·exact h'
  ·rw [Array.getElem?_eq_none h'] at hb;cases hb
 refine .fp _ 1 0 0 (λ _=>.map (some bm)) hlt (λ j p hj=>rfl) (λ j p hj=>?_) (λ j p hj=>?_)
 ·cases j with
  |zero=>exact hcell
  |succ j=>simp at hj
 ·cases j with
  |zero=>
   simp at hj
   subst hj
   refine .fm _ (tab L) bm es.toList clock (λ tag k q hq=>zuW hperm (by decide) (by decide) tag k q hq) hbm (by simpa using hb) (by simp [tab,h1]) (λ i e x he hxx=>?_) (λ i e x he hxx=>?_)
   ·rw [aN] at he
    cases hq:L[i]? with
    |none=>simp [hq] at he
    |some q=>
     simp [hq] at he
     subst he
     rw [(h3 i q x hq hxx).1]
     exact .int _ _
   ·rw [aN] at he
    cases hq:L[i]? with
    |none=>simp [hq] at he
    |some q=>
     simp [hq] at he
     subst he
     rw [(h3 i q x hq hxx).2]
     refine .agg _ _ (by simp) (by simp [Value.oneCell']) (λ j p v hp hv=>?_)
     rw [aN] at hp hv
     cases hr:q.2[j]? with
     |none=>simp [hr] at hp
     |some r=>simp [hr] at hp hv;subst hp;subst hv;exact .int _ _
  |succ j=>simp at hj
theorem X6 (w:World) (v:Value) (f:Int) (qs:List PV) (h:ux zly qs) (hr:RelF w (Old w) (.agg qs) v) (hl:laidMetH Tryd.prog zmF w):
  Calls Tryd.prog 4 #[v,.int .i64 f] w λ e w'=>e=.returned (.bool true)/\Grown w w'/\∀ b,b<w.heap.size->w'.heap[b]?=w.heap[b]?:=by
 have:=zwj Tryd.Av.zDx Tryd.Av.zDX (law qs f h) w (Old w) [v,.int .i64 f] (yS.cons hr (yS.cons (RelF.int ..) yS.nil)) (λ _ h=>h) (λ g cs h=>by
  by_cases hg:g=1
  ·subst hg
   have e:cs=[.fm (tab Tryd.Av.yN)]:=(dD (Tryd.Av.j6.symm.trans h)).symm
   rw [e];exact zAE hl
  ·exfalso
   simp only [Tryd.Av.A] at h
   first|(cases h;done)|(split at h;exact hg rfl;cases h))
 refine this.mono ?_
 rintro e w' ⟨cv,rfl,h1,h2,h3,F',_,_,_,h4⟩
 cases h4
 exact ⟨rfl,zw' h1 h2 h3,h2⟩
theorem zrx:((List.range Tryd.prog.types.size).all λ t=>match Tryd.prog.underlying t with|some (.slice e)=>decide (0<Tryd.prog.cellsOf e)|_=>true)=true:=by kernel_rfl
theorem zD4:Kids Tryd.prog (· < Tryd.prog.types.size):=kids_rows (by kernel_rfl) (by kernel_rfl)
theorem zyM {H:Type} {enc:TypeId×Value->H} {W W':World} {gs:List (DataW H)} {q:List MemPlace} (h:DataW.TrodVars enc Tryd.prog W (λ _=>true) [nm] gs q) (hg:∀ b,b<W.heap.size->W'.heap[b]?=W.heap[b]?) {sp:Nat->Bool} (hsp:∀ p∈q,sp p.block=true):DataW.TrodVars enc Tryd.prog W' sp [nm] gs q:=by
 obtain ⟨g,t,cs,fuel,d,p,rfl,h1,h2,h3,h4,rfl⟩:=trodVars_one h
 obtain rfl:=dD (zhK.symm.trans h1)
 obtain rfl:=dD (zv6.symm.trans h2)
 have hlt:(1:Nat)<W.heap.size:=by
  simp only [World.var?,zhK,aW] at h3
  rcases bS 1 W.heap.size with h'|h'
  ·exact h'
  ·rw [Array.getElem?_eq_none h'] at h3;cases h3
 have h3':W'.var? Tryd.prog nm=some cs:=by
  simp only [World.var?,zhK,aW] at h3 ⊢
  rw [hg 1 hlt];exact h3
 exact trodVars_mk1 h1 h2 h3' (DataW.trod_stays zD4 (λ {t e} ht hu=>by
  have:=aZ.1 zrx t (List.mem_range.2 ht)
  rw [hu] at this
  simpa using this) (λ h=>by cases h) (by decide +kernel) h4 (λ x hx=>zsc hg (DataW.trod_lt fuel _ _ _ h4 x hx)) (λ x hx=>hsp x (cJ _ hx)))
theorem zwP (os:Os) (args:Array Value):laidMetH Tryd.prog zmF ((World.doorLaid Tryd.prog 266 os).forCall (λ _ _=>0) ⟨#[],args,[]⟩).memory:=
 laidMetH_of_parts3 (fuel:=8) (laidMet_of_run' 8 (by kernel_rfl) (by kernel_rfl)) (by kernel_rfl) (by kernel_rfl)
set_option maxRecDepth 100000 in
theorem zB8 (os:Os) (started:os.Started) (H:Type) (enc:TypeId×Value->H):
  ReturnsInHanded {} Tryd.checked os 4 .any (λ w args=>(Rows.fnExactStatesSpec.pre enc Tryd.prog Tryd.f4 [] false w args/\laidMetH Tryd.prog zmF w)/\sizedMet enc Tryd.prog Tryd.f4 (OpenSpec.ofChange Rows.fnExactStatesSpec) false w args) (Rows.fnExactStatesSpec.post enc Tryd.prog Tryd.f4 false true false false):=by
 refine returnsInHanded_of_change_and (C:=Tryd.checked) (X:=λ w _=>laidMetH Tryd.prog zmF w) (λ _ _ _ hh h=>h.of_heap hh) own started (by kernel_rfl) Tryd.func4
  (ChangeSpec.witness_shaped (enc:=enc) (C:=Tryd.checked) (os:=os) (X:=λ w _=>laidMetH Tryd.prog zmF w) false (World.doorLaid Tryd.prog 266 os) #[.agg #[.slice none 0 0],.int .i64 0] 8 rfl (World.shaped_of_RefB (by kernel_rfl) (by kernel_rfl)) (by kernel_rfl) (by kernel_rfl) (by kernel_rfl) (zwP os _)) ?_
 intro W base args ds gs before hval0 hW _ _ hL _
 have hval:∀ (j:Nat) t v,Tryd.f4.params[j]?=some t->args[j]?=some v->Value.okWide Tryd.prog W .any base t v:=hval0
 have hW':=hW
 obtain ⟨p,q,hA0,hV,rfl,hfz,hnd⟩:=hW
 have hA:DataW.TrodAll enc Tryd.prog W 0 (λ _=>true) true Tryd.f4.params.toList args.toList ds p:=hA0
 rw [Tryd.params4] at hA hval
 obtain ⟨v,v2,d,d2,p2,p1,hargs,rfl,rfl,hd,hd2⟩:∃ v v2 d d2 p2 p1,args.toList=[v,v2]/\ds=[d,d2]/\p=p1++p2/\DataW.Trod enc Tryd.prog W 0 (λ _=>true) true arg v d p1/\DataW.Trod enc Tryd.prog W 0 (λ _=>true) true 3 v2 d2 p2:=by
  revert hA
  generalize args.toList=l
  intro hA
  match l,ds,hA with
  |[v,v2],[d,d2],⟨p1,q1,h1,⟨p2,q2,h2,h4,h5⟩,h3⟩=>
   have h4:q2=[]:=h4
   subst h4
   rw [bY] at h5
   subst h5
   exact ⟨v,v2,d,d2,_,_,rfl,rfl,h3,h1,h2⟩
  |[_],[_],⟨_,_,_,h2,_⟩=>exact h2.elim
  |_::_::_::_,_::_::_,⟨_,_,_,⟨_,_,_,h2,_⟩,_⟩=>exact h2.elim
 have hargs':args=#[v,v2]:=by rw [<-dB (xs:=args),hargs]
 subst hargs'
 obtain ⟨g1,rfl⟩:∃ g1,gs=[g1]:=by
  obtain ⟨_,_,_,_,d,_,rfl,_⟩:=trodVars_one hV
  exact ⟨d,rfl⟩
 have hok:=hval 0 arg v rfl rfl
 obtain ⟨f,rfl,rfl,rfl,hwf⟩:=open_int u3 (hval 1 3 v2 rfl rfl) hd2
 obtain ⟨cs,hvc,_⟩:∃ cs,v=.agg cs/\True:=by
  unfold Value.okWide at hok
  rw [zsv] at hok
  obtain ⟨cs,h,_⟩:=hok
  exact ⟨cs,h,trivial⟩
 obtain ⟨qs,hq1,hq2⟩:=zty zp4 hvc hd
 refine (X6 W v f qs hq1 hq2 hL).mono λ e W' ⟨he,hg,hold⟩=>?_
 subst he
 exact ⟨_,rfl,post_of_same (pa:=p1++[]) (pv:=q) hW' (λ _ _ _=>(trodAll_cons_mk (shut_bool Tryd.underlying4 _) trodAll_mk0)) (λ sp hsp=>zoT (λ t ht=>by
   have:t=arg\/t=3:=by simpa [Tryd.params4,arg] using ht
   rcases this with rfl|rfl
   ·exact zyv
   ·exact ⟨12,_,zBW⟩) hA0 hold (λ x hx=>hsp x (bQ _ hx))) (λ sp hsp=>zyM hV hold (λ x hx=>hsp x (cJ _ hx))) rfl
  (hg.frame _) hg.2.1 (ok_one (by kernel_rfl) rfl (okWide_bool_mk Tryd.underlying4 _))⟩
theorem zEd:Rows.fnExactStatesRow.holds Tryd.pinned (OpenSpec.ofChange Rows.fnExactStatesSpec):=
 OpenClaim.holds_of_wide 4 Tryd.f4 rfl rfl rfl rfl rfl rfl rfl ⟨rfl,rfl,rfl,rfl,rfl⟩ rfl rfl rfl rfl rfl (by kernel_rfl) Tryd.func4 (by kernel_rfl)
  (eA (by kernel_rfl)) (by unfold Func.isWrapper;first|(rw [if_pos (by decide +kernel)];kernel_rfl)|(rw [if_neg (by decide +kernel)];exact ⟨rfl,rfl⟩))
  (λ os started H enc _=>zB8 os started H enc)
theorem card:Rows.FnExactStatesCardSaid:=
 Claim7.holds_tied_plain_at .later [] [.mapped] true (true, "d5ff1d5aac43c328e661517921f23f721f2f4df74f2f5475d8ffba0616ca11f6") false
  zEd (λ _ h=>by cases h) (by kernel_rfl) (λ _ h=>by cases h) fnExactStates_row_tie rfl ⟨rfl,rfl⟩ (by kernel_rfl) rfl
  (λ f fn hf hfn=>by
   obtain rfl:f=4:=dD ((show Tryd.prog.funcNamed "loop.example/draft/laws.FnExactStates" =some 4 by kernel_rfl).symm.trans hf) |>.symm
   obtain rfl:fn=Tryd.f4:=(dD (Tryd.func4.symm.trans hfn)).symm
   exact ⟨by kernel_rfl,λ j t ht=>by
    rw [Tryd.params4] at ht
    have hm:t∈[24,3]:=by simpa using Array.mem_of_getElem? ht
    have hall:([24,3].all λ u=> !Tryd.prog.wantsStandIn u)=true:=by kernel_rfl
    exact (show Tryd.prog.wantsStandIn t=false by simpa using aZ.1 hall t hm)⟩)
  (by kernel_rfl)
#print axioms card
end
end Go.Proofs.YthndemlfnhpdbaaDoor.fnExactStates
end

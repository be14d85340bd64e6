/- The statement FnExactCheckCode (its card) -/
import Derived.ChangeVars
import Derived.LaidMore
import Derived.SevenTiedAt
import Derived.WideKeyElems4
import Derived.Test.YthndemlfnhpdbaaDoorCards
import Derived.Test.YthndemlfnhpdbaaDoorEp3
import Derived.Test.YthndemlfnhpdbaaDoorRows
import Derived.Test.YthndemlfnhpdbaaDoorTie
set_option linter.all false
section
namespace Go.Proofs.YthndemlfnhpdbaaDoor.fnExactCheckCode
open Go.ChangeShapes Go.WideShapes Go.ChangeAt Go.RowKit Go.Av
set_option maxRecDepth 100000
section
theorem own:ownKnob Tryd.prog.godebug=none:=by kernel_rfl
def arg:TypeId:=24
noncomputable def zq4:Array Field:=match Tryd.prog.underlying arg with|some (.struct fs)=>fs|_=>#[]
theorem zpc:Tryd.prog.underlying arg=some (.struct zq4):=by kernel_rfl
noncomputable def ziK:List Sh:=(Yk Tryd.prog 12 arg).get!
theorem zmQ:Yk Tryd.prog 12 arg=some ziK:=by kernel_rfl
theorem zuY:∃ n ss,Yk Tryd.prog n arg=some ss:=⟨12,ziK,zmQ⟩
theorem zuX:ziK=Tryd.Av.zsw:=by kernel_rfl
theorem law (qs:List PV) (h:uk ziK qs):EP Tryd.Av.A 3 [.agg qs]=some (.bool true):=by
 rw [zuX] at h
 obtain ⟨o,rfl,hb,hs,hg⟩:=Tryd.Av.zti h
 exact Tryd.Av.zpw o hb hs hg
def nm:String:= "loop.example/draft/impl.roles"
theorem zfg:Tryd.prog.globalNamed nm=some 1:=by kernel_rfl
theorem zsD:(Tryd.prog.globals[1]?).map (·.type)=some 138:=by kernel_rfl
theorem u77:Tryd.prog.underlying 138=some (.map 3 136):=by kernel_rfl
theorem u75:Tryd.prog.underlying 136=some (.array 4 135):=by kernel_rfl
theorem u74:Tryd.prog.underlying 135=some (.int .i64):=by kernel_rfl
theorem u3:Tryd.prog.underlying 3=some (.int .i64):=by kernel_rfl
theorem c74:Tryd.prog.cellsOf 135=1:=by kernel_rfl
theorem c75:Tryd.prog.cellsOf 136=4:=by kernel_rfl
def zjK:List (String×DataW Unit):=[(nm,Rows.laid_loop_example_draft_impl_roles)]
section
variable {H:Type}
def zl3 (e:Int×List Int):Lit×DataW H:=(.int .i64 e.1,.agg (e.2.map fun x=>.lit (.int .i64 x)))
def zth (x:Lit×DataW H):Int×List Int:=(match x.1 with|.int _ n=>n|_=>0,match x.2 with|.agg l=>l.map (fun d=>match d with|.lit (.int _ n)=>n|_=>0)|_=>[])
theorem zv3 (e:Int×List Int):zth (zl3 (H:=H) e)=e:=by
 obtain ⟨a,l⟩:=e
 simp only [zth,zl3,List.map_map]
 congr 1
 exact (List.map_congr_left fun x _=>rfl).trans (List.map_id l)
theorem zoK:(Rows.laid_loop_example_draft_impl_roles:DataW H)=.map (Tryd.Av.yJ.map zl3):=rfl
end
theorem zrU {v:Value} {k:Lit} (h:keyOf Tryd.prog 3 v=some k):∃ a,v=.int .i64 a∧k=.int .i64 a:=by
 simp only [keyOf,u3,mapKey] at h
 cases v<;>simp at h
 obtain ⟨⟨rfl,_⟩,rfl⟩:=h
 exact ⟨_,rfl,rfl⟩
theorem zwc {W:World} {sp:Nat→Bool} {held:Bool} {n:Nat} {v:Value} {z:DataW Unit×List MemPlace} (h:WideElems.elemAt (fun _=>()) Tryd.prog W 0 sp held n 136 v=some z):
  ∃ l:List Int,v=.agg (l.map fun x=>Value.int .i64 x).toArray∧z.1=.agg (l.map fun x=>.lit (.int .i64 x)):=by
 unfold WideElems.elemAt at h
 split at h
 ·rename_i hf
  obtain ⟨xs,m,rfl,rfl,hl,hn,hel⟩:=DataW.trod_array u75 h
  rw [c75] at hl
  obtain ⟨cs,rfl⟩:∃ cs,v=.agg cs:=by
   cases v<;>simp [Value.formed,u75] at hf
   exact ⟨_,rfl⟩
  simp only [Value.cells] at hl hel
  obtain ⟨cs⟩:=cs
  match cs,hl with
  |[a,b,c,d],_=>
   match xs,hn with
   |[x0,x1,x2,x3],_=>
    have h0:=hel 0 (by decide)
    have h1:=hel 1 (by decide)
    have h2:=hel 2 (by decide)
    have h3:=hel 3 (by decide)
    rw [c74] at h0 h1 h2 h3
    obtain ⟨k0,e0,f0,_⟩:=DataW.trod_int u74 (show DataW.trod _ Tryd.prog W 0 _ _ m 135 [a]=some x0 from h0)
    obtain ⟨k1,e1,f1,_⟩:=DataW.trod_int u74 (show DataW.trod _ Tryd.prog W 0 _ _ m 135 [b]=some x1 from h1)
    obtain ⟨k2,e2,f2,_⟩:=DataW.trod_int u74 (show DataW.trod _ Tryd.prog W 0 _ _ m 135 [c]=some x2 from h2)
    obtain ⟨k3,e3,f3,_⟩:=DataW.trod_int u74 (show DataW.trod _ Tryd.prog W 0 _ _ m 135 [d]=some x3 from h3)
    injection e0 with e0 _
    injection e1 with e1 _
    injection e2 with e2 _
    injection e3 with e3 _
    subst e0 e1 e2 e3 f0 f1 f2 f3
    exact ⟨[k0,k1,k2,k3],rfl,rfl⟩
 ·cases h
theorem zgo {W:World} {sp:Nat→Bool} {held:Bool} {n:Nat}:∀ es:List MapEntry,(∀ x∈es,∃ y,WideElems.rd Tryd.prog 3 (WideElems.elemAt (fun _=>()) Tryd.prog W 0 sp held n 136) x=some y)→
  ∃ L:List (Int×List Int),L.length=es.length∧es.map (WideElems.rg Tryd.prog 3 (WideElems.elemAt (fun _=>()) Tryd.prog W 0 sp held n 136))=L.map zl3∧∀ (i:Nat) (e:Int×List Int) (x:MapEntry),L[i]?=some e→es[i]?=some x→x.key=.int .i64 e.1∧x.val=.agg (e.2.map fun y=>Value.int .i64 y).toArray
 |[],_=>⟨[],rfl,rfl,fun i e x h=>by simp at h⟩
 |x::es,h=>by
  obtain ⟨L,h1,h2,h3⟩:=zgo es fun y hy=>h y (List.mem_cons_of_mem _ hy)
  obtain ⟨y,hy⟩:=h x List.mem_cons_self
  obtain ⟨a,k1,k2⟩:=zrU (WideElems.rd_key hy)
  obtain ⟨z,hz,k3⟩:=WideElems.rd_val hy
  obtain ⟨l,k4,k5⟩:=zwc hz
  refine ⟨(a,l)::L,by simp [h1],?_,fun i e x' he hx=>?_⟩
  ·rw [List.map_cons,List.map_cons,h2,WideElems.rg_of hy]
   congr 1
   obtain ⟨y1,y2⟩:=y
   simp only at k2 k3
   rw [k2,k3,k5]
   rfl
  ·cases i with
   |zero=>
    simp at he hx
    subst he;subst hx
    exact ⟨k1,k4⟩
   |succ i=>exact h3 i e x' (by simpa using he) (by simpa using hx)
theorem ze0:∀ {L:List (Int×List Int)} {o:Int} {r:List Int},(L.map (·.1)).Nodup→(o,r)∈L→Tryd.Av.yF L o=some r
 |[],_,_,_,h=>by cases h
 |(a,l)::L,o,r,hn,h=>by
  rw [List.map_cons,List.nodup_cons] at hn
  simp only [Tryd.Av.yF]
  by_cases he:o=a
  ·rw [if_pos he]
   cases h with
   |head=>rfl
   |tail _ h=>exact absurd (List.mem_map.2 ⟨_,h,rfl⟩) (by rw [←he] at hn;exact hn.1)
  ·rw [if_neg he]
   cases h with
   |head=>exact absurd rfl he
   |tail _ h=>exact ze0 hn.2 h
theorem zdm:∀ {L:List (Int×List Int)} {o:Int},o∉L.map (·.1)→Tryd.Av.yF L o=none
 |[],_,_=>rfl
 |(a,l)::L,o,h=>by
  rw [List.map_cons,List.mem_cons,not_or] at h
  simp only [Tryd.Av.yF,if_neg h.1]
  exact zdm h.2
theorem zpd {L M:List (Int×List Int)} (hp:L.Perm M) (hn:(M.map (·.1)).Nodup) (o:Int):Tryd.Av.yF L o=Tryd.Av.yF M o:=by
 have hn2:(L.map (·.1)).Nodup:=(hp.map _).nodup_iff.2 hn
 by_cases h:o∈M.map (·.1)
 ·obtain ⟨⟨a,r⟩,h1,rfl⟩:=List.mem_map.1 h
  rw [ze0 hn h1,ze0 hn2 (hp.mem_iff.2 h1)]
 ·rw [zdm h,zdm (fun h2=>h ((hp.map _).mem_iff.1 h2))]
abbrev tab (L:List (Int×List Int)):List (PV×PV):=L.map fun e=>(.int .i64 e.1,Tryd.Av.zL e.2)
theorem zpK (tag:Nat) (k:PV) (h:∀ o:Int,jl tag k (.int .i64 o)=none):∀ L:List (Int×List Int),L≠[]→findKey tag k (tab L)=none
 |[],hn=>absurd rfl hn
 |e::L,_=>by simp only [tab,List.map_cons,findKey,h]
theorem zrF {L M:List (Int×List Int)} (hp:L.Perm M) (hn:(M.map (·.1)).Nodup) (hM:M≠[]) (tag:Nat) (k:PV) (q:Option PV) (h:findKey tag k (tab M)=some q):findKey tag k (tab L)=some q:=by
 by_cases hk:∃ o,tag=0∧k=.int .i64 o
 ·obtain ⟨o,rfl,rfl⟩:=hk
  rw [Tryd.Av.JU] at h ⊢
  rw [zpd hp hn o];exact h
 ·exfalso
  have:findKey tag k (tab M)=none:=zpK tag k (fun o=>by
   cases ht:tag with
   |zero=>
    cases hkk:k with
    |int kd n=>
     by_cases e:kd=.i64
     ·subst e;exact absurd ⟨n,ht,hkk⟩ hk
     ·simp only [jl,decide_eq_false e]
    |_=>rfl
   |succ t=>
    cases t with
    |zero=>cases k<;>rfl
    |succ t=>cases t<;>cases k<;>rfl) M hM
  rw [this] at h;cases h
theorem zwN {W:World} (h:laidMetH Tryd.prog zjK W):RelF W (Old W) (.fp [.fm (tab Tryd.Av.yJ)] 0) (.pointer (some ⟨1,0,none⟩)):=by
 rw [MakeChecks.laidMetH_plain _ _ _ (by kernel_rfl)] at h
 obtain ⟨ps,⟨g0,t0,cs0,f0,p0,q0,hg0,ht0,hv0,hd0,_,_⟩,_,_⟩:=h
 obtain rfl:=Option.some.inj (zfg.symm.trans hg0)
 obtain rfl:=Option.some.inj (zsD.symm.trans ht0)
 rcases WideElems.open_map u77 hd0 with ⟨_,hx⟩|⟨bm,es,clock,n,rfl,hcs,hb,_,F,hx⟩
 ·simp [zoK] at hx
 simp only [Prod.mk.injEq] at hx
 obtain ⟨L,h1,h2,h3⟩:=zgo es.toList F.reads
 have hperm:L.Perm Tryd.Av.yJ:=by
  have:=hx.1
  rw [zoK,h2] at this
  injection this with this
  have hp:=(sorted_perm (L.map (zl3 (H:=Unit)))).symm
  rw [←this] at hp
  have:=hp.map zth
  simpa [List.map_map,Function.comp_def,zv3] using this
 have hcell:W.cell? ⟨1,0,none⟩=some (.map (some bm)):=by
  have:=World.var?_cell hg0 hv0 0
  rw [Array.eq_one_of_toList hcs] at this
  simpa using this
 have hlt:(1:Nat)<W.heap.size:=by
  simp only [World.var?,zfg,Option.bind_some] at hv0
  rcases Nat.lt_or_ge 1 W.heap.size with h'|h'
  ·exact h'
  ·rw [Array.getElem?_eq_none h'] at hv0;cases hv0
 have hbm:bm<W.heap.size:=by
  rcases Nat.lt_or_ge bm W.heap.size with h'|h'
  ·exact h'
  ·rw [Array.getElem?_eq_none h'] at hb;cases hb
 refine .fp _ 1 0 0 (fun _=>.map (some bm)) hlt (fun j p hj=>rfl) (fun j p hj=>?_) (fun j p hj=>?_)
 ·cases j with
  |zero=>exact hcell
  |succ j=>simp at hj
 ·cases j with
  |zero=>
   simp at hj
   subst hj
   refine .fm _ (tab L) bm es.toList clock (fun tag k q hq=>zrF hperm (by decide) (by decide) tag k q hq) hbm (by simpa using hb) (by simp [tab,h1]) (fun i e x he hxx=>?_) (fun i e x he hxx=>?_)
   ·rw [List.getElem?_map] at he
    cases hq:L[i]? with
    |none=>simp [hq] at he
    |some q=>
     simp [hq] at he
     subst he
     rw [(h3 i q x hq hxx).1]
     exact .int _ _
   ·rw [List.getElem?_map] at he
    cases hq:L[i]? with
    |none=>simp [hq] at he
    |some q=>
     simp [hq] at he
     subst he
     rw [(h3 i q x hq hxx).2]
     refine .agg _ _ (by simp) (by simp [Value.oneCell']) (fun j p v hp hv=>?_)
     rw [List.getElem?_map] at hp hv
     cases hr:q.2[j]? with
     |none=>simp [hr] at hp
     |some r=>simp [hr] at hp hv;subst hp;subst hv;exact .int _ _
  |succ j=>simp at hj
theorem X6 (w:World) (v:Value) (qs:List PV) (h:uk ziK qs) (hr:RelF w (Old w) (.agg qs) v) (hl:laidMetH Tryd.prog zjK w):
  Calls Tryd.prog 3 #[v] w fun e w'=>e=.returned (.bool true)∧Grown w w'∧∀ b,b<w.heap.size→w'.heap[b]?=w.heap[b]?:=by
 have:=zsS Tryd.Av.zzv Tryd.Av.zAX (law qs h) w (Old w) [v] (yP.cons hr yP.nil) (fun _ h=>h) (fun g cs h=>by
  by_cases hg:g=1
  ·subst hg
   have e:cs=[.fm (tab Tryd.Av.yJ)]:=(Option.some.inj (Tryd.Av.jC.symm.trans h)).symm
   rw [e];exact zwN hl
  ·exfalso
   simp only [Tryd.Av.A] at h
   first|(cases h;done)|(split at h;exact hg rfl;cases h))
 refine this.mono ?_
 rintro e w' ⟨cv,rfl,h1,h2,h3,F',_,_,_,h4⟩
 cases h4
 exact ⟨rfl,ztE h1 h2 h3,h2⟩
theorem zoh:((List.range Tryd.prog.types.size).all fun t=>match Tryd.prog.underlying t with|some (.slice e)=>decide (0<Tryd.prog.cellsOf e)|_=>true)=true:=by kernel_rfl
theorem zA4:Kids Tryd.prog (· < Tryd.prog.types.size):=kids_rows (by kernel_rfl) (by kernel_rfl)
theorem zvc {H:Type} {enc:TypeId×Value→H} {W W':World} {gs:List (DataW H)} {q:List MemPlace} (h:DataW.TrodVars enc Tryd.prog W (fun _=>true) [nm] gs q) (hg:∀ b,b<W.heap.size→W'.heap[b]?=W.heap[b]?) {sp:Nat→Bool} (hsp:∀ p∈q,sp p.block=true):DataW.TrodVars enc Tryd.prog W' sp [nm] gs q:=by
 obtain ⟨g,t,cs,fuel,d,p,rfl,h1,h2,h3,h4,rfl⟩:=trodVars_one h
 obtain rfl:=Option.some.inj (zfg.symm.trans h1)
 obtain rfl:=Option.some.inj (zsD.symm.trans h2)
 have hlt:(1:Nat)<W.heap.size:=by
  simp only [World.var?,zfg,Option.bind_some] at h3
  rcases Nat.lt_or_ge 1 W.heap.size with h'|h'
  ·exact h'
  ·rw [Array.getElem?_eq_none h'] at h3;cases h3
 have h3':W'.var? Tryd.prog nm=some cs:=by
  simp only [World.var?,zfg,Option.bind_some] at h3 ⊢
  rw [hg 1 hlt];exact h3
 exact trodVars_mk1 h1 h2 h3' (DataW.trod_stays zA4 (fun {t e} ht hu=>by
  have:=List.all_eq_true.1 zoh t (List.mem_range.2 ht)
  rw [hu] at this
  simpa using this) (fun h=>by cases h) (by decide +kernel) h4 (fun x hx=>zoV hg (DataW.trod_lt fuel _ _ _ h4 x hx)) (fun x hx=>hsp x (List.mem_append_right _ hx)))
theorem ztj (os:Os) (args:Array Value):laidMetH Tryd.prog zjK ((World.doorLaid Tryd.prog 266 os).forCall (fun _ _=>0) ⟨#[],args,[]⟩).memory:=
 laidMetH_of_parts3 (fuel:=8) (laidMet_of_run' 8 (by kernel_rfl) (by kernel_rfl)) (by kernel_rfl) (by kernel_rfl)
set_option maxRecDepth 100000 in
theorem zx2 (os:Os) (started:os.Started) (H:Type) (enc:TypeId×Value→H):
  ReturnsInHanded {} Tryd.checked os 3 .any (fun w args=>(Rows.fnExactCheckCodeSpec.pre enc Tryd.prog Tryd.f3 [] false w args∧laidMetH Tryd.prog zjK w)∧sizedMet enc Tryd.prog Tryd.f3 (OpenSpec.ofChange Rows.fnExactCheckCodeSpec) false w args) (Rows.fnExactCheckCodeSpec.post enc Tryd.prog Tryd.f3 false true false false):=by
 refine returnsInHanded_of_change_and (C:=Tryd.checked) (X:=fun w _=>laidMetH Tryd.prog zjK w) (fun _ _ _ hh h=>h.of_heap hh) own started (by kernel_rfl) Tryd.func3
  (ChangeSpec.witness_shaped (enc:=enc) (C:=Tryd.checked) (os:=os) (X:=fun w _=>laidMetH Tryd.prog zjK w) false (World.doorLaid Tryd.prog 266 os) #[.agg #[.slice none 0 0]] 8 rfl (World.shaped_of_RefB (by kernel_rfl) (by kernel_rfl)) (by kernel_rfl) (by kernel_rfl) (by kernel_rfl) (ztj os _)) ?_
 intro W base args ds gs before hval0 hW _ _ hL _
 have hval:∀ (j:Nat) t v,Tryd.f3.params[j]?=some t→args[j]?=some v→Value.okWide Tryd.prog W .any base t v:=hval0
 have hW':=hW
 obtain ⟨p,q,hA0,hV,rfl,hfz,hnd⟩:=hW
 have hA:DataW.TrodAll enc Tryd.prog W 0 (fun _=>true) true Tryd.f3.params.toList args.toList ds p:=hA0
 rw [Tryd.params3] at hA hval
 obtain ⟨v,d,hargs,rfl,hd⟩:∃ v d,args.toList=[v]∧ds=[d]∧DataW.Trod enc Tryd.prog W 0 (fun _=>true) true arg v d p:=by
  revert hA
  generalize args.toList=l
  intro hA
  match l,ds,hA with
  |[v],[d],⟨p1,q1,h1,h2,h3⟩=>
   have h2:q1=[]:=h2
   subst h2
   rw [List.append_nil] at h3
   subst h3
   exact ⟨v,d,rfl,rfl,h1⟩
  |_::_::_,_::_,⟨_,_,_,h2,_⟩=>exact h2.elim
 have hargs':args=#[v]:=by rw [←Array.toArray_toList (xs:=args),hargs]
 subst hargs'
 obtain ⟨g1,rfl⟩:∃ g1,gs=[g1]:=by
  obtain ⟨_,_,_,_,d,_,rfl,_⟩:=trodVars_one hV
  exact ⟨d,rfl⟩
 have hok:=hval 0 arg v rfl rfl
 obtain ⟨cs,hvc,_⟩:∃ cs,v=.agg cs∧True:=by
  unfold Value.okWide at hok
  rw [zpc] at hok
  obtain ⟨cs,h,_⟩:=hok
  exact ⟨cs,h,trivial⟩
 obtain ⟨qs,hq1,hq2⟩:=zql zmQ hvc hd
 refine (X6 W v qs hq1 hq2 hL).mono fun e W' ⟨he,hg,hold⟩=>?_
 subst he
 exact ⟨_,rfl,post_of_same (pa:=p) (pv:=q) hW' (fun _ _ _=>(trodAll_cons_mk (shut_bool Tryd.underlying4 _) trodAll_mk0)) (fun sp hsp=>zlF (fun t ht=>by
   have:t=arg:=by simpa [Tryd.params3,arg] using ht
   subst this;exact zuY) hA0 hold (fun x hx=>hsp x (List.mem_append_left _ hx))) (fun sp hsp=>zvc hV hold (fun x hx=>hsp x (List.mem_append_right _ hx))) rfl
  (hg.frame _) hg.2.1 (ok_one (by kernel_rfl) rfl (okWide_bool_mk Tryd.underlying4 _))⟩
theorem zBm:Rows.fnExactCheckCodeRow.holds Tryd.pinned (OpenSpec.ofChange Rows.fnExactCheckCodeSpec):=
 OpenClaim.holds_of_wide 3 Tryd.f3 rfl rfl rfl rfl rfl rfl rfl ⟨rfl,rfl,rfl,rfl,rfl⟩ rfl rfl rfl rfl rfl (by kernel_rfl) Tryd.func3 (by kernel_rfl)
  (of_decide_eq_true (by kernel_rfl)) (by unfold Func.isWrapper;first|(rw [if_pos (by decide +kernel)];kernel_rfl)|(rw [if_neg (by decide +kernel)];exact ⟨rfl,rfl⟩))
  (fun os started H enc _=>zx2 os started H enc)
theorem card:Rows.FnExactCheckCodeCardSaid:=
 Claim7.holds_tied_plain_at .later [] [.mapped] true (true, "d5ff1d5aac43c328e661517921f23f721f2f4df74f2f5475d8ffba0616ca11f6") false
  zBm (fun _ h=>by cases h) (by kernel_rfl) (fun _ h=>by cases h) fnExactCheckCode_row_tie rfl ⟨rfl,rfl⟩ (by kernel_rfl) rfl
  (fun f fn hf hfn=>by
   obtain rfl:f=3:=Option.some.inj ((show Tryd.prog.funcNamed "loop.example/draft/laws.FnExactCheckCode" =some 3 by kernel_rfl).symm.trans hf) |>.symm
   obtain rfl:fn=Tryd.f3:=(Option.some.inj (Tryd.func3.symm.trans hfn)).symm
   exact ⟨by kernel_rfl,fun j t ht=>by
    rw [Tryd.params3] at ht
    have hm:t∈[24]:=by simpa using Array.mem_of_getElem? ht
    have hall:([24].all fun u=> !Tryd.prog.wantsStandIn u)=true:=by kernel_rfl
    exact (show Tryd.prog.wantsStandIn t=false by simpa using List.all_eq_true.1 hall t hm)⟩)
  (by kernel_rfl)
#print axioms card
end
end Go.Proofs.YthndemlfnhpdbaaDoor.fnExactCheckCode
end

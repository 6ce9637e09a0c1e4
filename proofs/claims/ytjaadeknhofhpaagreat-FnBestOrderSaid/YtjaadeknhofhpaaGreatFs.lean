/- slices.SortFunc of lists of numbers, by slices.Compare: by the library's contract. -/
import Derived.Test.YtjaadeknhofhpaaGreatBc
import Derived.Shelf.SlSortCmp.NoneTotal
import Derived.Shelf.SlLaysF
set_option linter.unusedSimpArgs false
set_option linter.unusedVariables false
set_option linter.unusedSectionVars false
namespace Go.Proofs.YtjaadeknhofhpaaGreat
open Go.RowKit Go.Sort Go.Shelf Go.Lib
def Yn (xs:List (List Int)):List (List Int):=xs.mergeSort fun a b=> !ltP b a
theorem XY (xs:List (List Int)):(Yn xs).Perm xs:=List.mergeSort_perm ..
theorem V8 (xs:List (List Int)):(Yn xs).length=xs.length:=(XY xs).length_eq
theorem QnX {a b:List Int}(h:ltP a b=true):ltP b a=false:=by
  cases hb:ltP b a with
  | false=>rfl
  | true=>have:=Qed a b a h hb; rw[HK] at this; cases this
theorem Qnt (a b c:List Int)(h1:(!ltP b a)=true)(h2:(!ltP c b)=true):(!ltP c a)=true:=by
  simp only[bS] at*
  cases h:ltP c a with
  | false=>rfl
  | true=>
    rcases QbC a b with h3 | h3 | h3
    · have:=Qed c a b h h3; rw[h2] at this; cases this
    · subst h3; rw[h2] at h; cases h
    · rw[h1] at h3; cases h3
theorem QpY (a b:List Int):((!ltP b a)||(!ltP a b))=true:=by
  cases h:ltP b a with
  | false=>rfl
  | true=>rw[QnX h]; rfl
theorem VX (xs:List (List Int)):(Yn xs).Pairwise fun a b=>ltP b a=false:=by
  have:=List.pairwise_mergeSort (le:=fun a b=> !ltP b a) Qnt QpY xs
  exact this.imp fun h=>by simpa using h
theorem QbU:∀{a b:List (List Int)},a.Perm b→a.Pairwise (fun x y=>ltP y x=false)→b.Pairwise (fun x y=>ltP y x=false)→a=b
  | [],b,hp,_,_=>(List.nil_perm.1 hp).symm
  | x :: a,b,hp,ha,hb=>by
    cases b with
    | nil=>exact absurd (List.perm_nil.1 hp) (by simp)
    | cons y b=>
      obtain ⟨a1,a2⟩:=bg.1 ha
      obtain ⟨b1,b2⟩:=bg.1 hb
      have e:x=y:=by
        rcases aG.1 (hp.mem_iff.1 (aA ..):x∈y :: b) with h | h
        · exact h
        · rcases aG.1 (hp.mem_iff.2 (aA ..) : y ∈ x :: a) with h' | h'
          · exact h'.symm
          · have k1 := b1 x h
            have k2:=a1 y h'
            rcases QbC x y with h3 | h3 | h3
            · rw[k1] at h3; cases h3
            · exact h3
            · rw[k2] at h3; cases h3
      subst e
      rw[QbU ((List.perm_cons x).1 hp) a2 b2]
theorem Qpa (xs:List (List Int)):KJ (Yn xs)=ofG ltP xs:=QpJ Qfc (VX xs) fun _=>(XY xs).mem_iff
section
variable {α:Type}[Inhabited α]{enc:α→Value}{w:World}{g n:Nat}{os:Array Obj}
theorem Qo1 {cur:Array Value}{e:TypeId}{ss:List α}(hb:w.heap[g]? =some (.cells cur e (0,0)))(ht:cur.toList.take ss.length=ss.map enc):Holds enc w g 0 ss.toArray:=by
  intro j hj
  have hj':j < ss.length:=by simpa using hj
  refine ⟨?_,by simp[World.frozen?,hb]⟩
  have h1:(cur.toList.take ss.length)[j]? =(ss.map enc)[j]? :=by rw[ht]
  rw[List.getElem?_take_of_lt hj'] at h1
  simp only[World.cell?,hb,bT]
  simp only[Option.isSome_none,bi,if_false]
  rw[← Array.getElem?_toList,h1]
  simp[hj']
theorem QqQ {cur:Array Value}{e:TypeId}{fr:Nat×Nat}(d:Array α)(hb:w.heap[g]? =some (.cells cur e fr)):(sortWorld enc w g 0 n d os).heap[g]? =some (.cells (putCells enc 0 d cur) e fr):=by
  have hg:g < w.heap.size:=(bw.1 hb).1
  unfold sortWorld
  rw[heap_grow_old _ _ (by simpa using hg)]
  simp[putRow,mapBlock,Sort.ahead,Array.getElem?_modify,hb,onCells]
theorem JU (d:Array α){k:Nat}(hk:k < w.heap.size)(hne:k≠g):(sortWorld enc w g 0 n d os).heap[k]? =w.heap[k]? :=by
  unfold sortWorld
  rw[heap_grow_old _ _ (by simpa using hk)]
  have:g≠k:=fun e=>hne e.symm
  simp[putRow,mapBlock,Sort.ahead,Array.getElem?_modify,this]
theorem Qhk (d:Array α):Grw w (sortWorld enc w g 0 n d os):=⟨rfl,rfl,rfl,by unfold sortWorld; simp[grow,putRow,mapBlock,Sort.ahead]⟩
theorem Qgv (cur:Array Value)(ts:List α)(h:ts.length≤cur.size):(putCells enc 0 ts.toArray cur).toList.take ts.length=ts.map enc:=by
  apply bp
  intro j
  by_cases hj:j < ts.length
  · rw [List.getElem?_take_of_lt hj, Array.getElem?_toList]
    simp[putCells,hj,show j < cur.size by omega]
  · rw[List.getElem?_take_eq_none (by omega),bB (by simp; omega)]
end
theorem QjT {e:Ty}{w w':World}{fp:List Nat}{cs:List Value}{xs:List e.Den}(hk:∀g∈fp,w'.heap[g]? =w.heap[g]?)(h:OwnL (Own e w) fp cs xs):OwnL (Own e w') fp cs xs:=
  OwnL.mono h fun _ _ _ hf ho=>ho.keep fun g hg=>hk g (hf g hg)
def QkF (P:Program)(f g:FuncId):Prop:=∀(α:Type) [Inhabited α] (enc:α→Value),(∀x,(enc x).oneCell'=true)→∀cf:α→α→Int,SWO (ltOf cf)→∀(blk cap:Nat) (d:Array α) (w:World),CmpLays1 P g #[] enc cf blk 0 d.size w→Holds enc w blk 0 d→
  blk < w.heap.size→d.size < 4611686018427387904→Calls P f #[.slice (some ⟨blk,0,none⟩) d.size cap, .func (.func g) #[] #[]] w fun e w'=>e= .returned (.tuple #[])∧∃d' n os,PermIn 0 d.size d d'∧SortedIn (ltOf cf) 0 d.size d'∧w'=sortWorld enc w blk 0 n d' os
def Qco (P:Program)(f:FuncId):Prop:=∀(p:Option Addr) (cap:Nat) (fv:Value) (w:World),Calls P f #[.slice p 0 cap,fv] w fun e w'=>e= .returned (.tuple #[])∧w'=w
def QiY (P:Program)(g:FuncId)(E:TypeId):Prop:=∀(u v:Value) (a b:List Int) (w:World),Rep (.sl E .int) w [u] a→Rep (.sl E .int) w [v] b→Calls P g #[u,v] w fun e w'=>e= .returned (.int .i64 (Jv a b))∧w'=w
theorem Qta {α:Type}(f:α→List Int):SWO (ltOf fun x y:α=>Jv (f x) (f y)):=by
  have e:∀x y:α,ltOf (fun x y:α=>Jv (f x) (f y)) x y=ltP (f x) (f y):=fun x y=>by
    unfold ltOf
    rw[bY,aN,QcX]
  refine ⟨fun x=>by rw[e]; exact HK _,fun x y z h1 h2=>by rw[e] at*; exact Qed _ _ _ h1 h2,fun x y z h1 h2=> ?_⟩
  rw[e] at*
  have:=Qnt (f z) (f y) (f x) (by rw[h2]; rfl) (by rw[h1]; rfl)
  simpa using this
theorem QpH {P:Program}{f g:FuncId}{E E':TypeId}(hS:QkF P f g)(hN:Qco P f)(hC:QiY P g E')(xs:List (List Int))(hl:xs.length≤1000000000):
    FC P f [(false,[.ref 0]),(false,[.clo g []])] [(0,some (.arr E (.sl E' .int) xs))] 1 (Is (.tup []) [(0,some (.arr E (.sl E' .int) (Yn xs)))]):=fun gh w vs cx ha=>by
  obtain ⟨v,vs',rfl,⟨l,hl_,h1⟩,v2,vs2,rfl,⟨l2,hl2,h2⟩,rfl⟩:=ha
  simp only[aB,and_true] at hl_ hl2
  subst hl_ hl2
  have hv:v=gh.h 0:=h1 ⟨_,rfl⟩
  have hv2:v2= .func (.func g) #[] #[]:=h2 (by simp)
  subst hv hv2
  have hO:Own (.sl E (.sl E' .int)) w (gh.f 0) [gh.h 0] xs:=cx.en 0 _ rfl
  have alq:∀(y:List (List Int)) q,Tab.al [(0,some (Ent.arr E (.sl E' .int) y))] q→q=0:=fun y q ⟨e,he⟩=>by
    rw[Qn] at he
    split at he
    · assumption
    · cases he
  have hnone:xs=[]→∀p cap,gh.h 0= .slice p 0 cap→Calls P f [gh.h 0, .func (.func g) #[] #[]].toArray w fun e w'=>∃v pv T' gh',e= .returned v∧Is (.tup []) [(0,some (.arr E (.sl E' .int) (Yn xs)))] pv T'∧Cx T' gh' w'∧PVR T'.al gh' w' pv v∧Fr [(0,some (.arr E (.sl E' .int) xs))] T' gh gh' w w'∧∀q,q < 1→T'.al q→gh'.h q=gh.h q:=fun hx p cap hp=>by
    subst hx
    rw[hp]
    refine Calls.mono (hN p cap _ w) fun e w' he=> ?_
    obtain ⟨rfl,rfl⟩:=he
    have hls:Yn []=[]:=bn (V8 [])
    rw[hls]
    have hcx:Cx [(0,some (Ent.arr E (.sl E' .int) []))] gh w':=cx
    exact ⟨_,_,_,gh,rfl,⟨rfl,rfl⟩,hcx,⟨[],rfl,rfl⟩,⟨ZR _,fun g _ _=>rfl,fun g hg=> .inl hg,fun q hq g hg=> .inr ⟨q,hq,hg⟩⟩,fun q _ _=>rfl⟩
  rcases hO with ⟨hf,hc,hx⟩ | ⟨b,cap,cur,fps,hf,hc,hb,hn,hcap,hsz,hL⟩
  · simp only [aB, and_true] at hc
    exact hnone hx _ _ hc
  · simp only [aB, and_true] at hc
    obtain ⟨hs,k1,k2⟩:=QbY hL
    rw[k1,← k2] at hL
    have hlen:hs.length=xs.length:=by rw[← k2,av]
    cases hs with
    | nil=>
      have hx:xs=[]:=by rw[← k2]; rfl
      exact hnone hx _ _ (by rw[hc,hx]; rfl)
    | cons h0 hs0=>
      generalize hhs:h0 :: hs0=hs at*
      have hin:h0∈hs:=by rw[← hhs]; exact aA ..
      let α:={v:Hdr // v∈hs}
      letI:Inhabited α:=⟨⟨h0,hin⟩⟩
      let F:Hdr→List Int:=rdF E' .int w
      let enc:α→Value:=fun x=>hdV x.1
      have hg:b < w.heap.size:=(bw.1 hb).1
      have hnd:=cx.nd 0 ⟨_,rfl⟩
      rw[hf] at hnd
      obtain ⟨hnb,hnf⟩:=bz.1 hnd
      have hlt:∀g∈fps,g < w.heap.size:=fun g hg'=>cx.lt (q:=0) ⟨_,rfl⟩ g (by rw[hf]; exact aD _ hg')
      have hat:hs.attach.map (fun x=>hdV x.1)=hs.map hdV:=by
        have:hs.attach.map (fun x=>hdV x.1)=(hs.attach.map Subtype.val).map hdV:=by rw[cG]; rfl
        rw[this,List.attach_map_subtype_val]
      have hH:Holds enc w b 0 hs.attach.toArray:=Qo1 hb (by
        rw[List.length_attach,hlen]
        have:=k1
        simp only[Ty.wd,cV] at this
        rw[this]; exact hat.symm)
      have hds:hs.attach.toArray.size=xs.length:=by simp[hlen]
      have hcmp:CmpLays1 P g #[] enc (fun x y=>Jv (F x.1) (F y.1)) b 0 hs.attach.toArray.size w:=fun m os dk _ x y=>by
        have hr:∀z:α,Rep (.sl E' .int) (sortWorld enc w b 0 m dk os) [enc z] (F z.1):=fun z=>by
          obtain ⟨fv,o1,o2⟩:=K8 hL z.1 z.2
          exact (o1.keep fun g hg'=>JU dk (hlt g (o2 g hg')) fun e=>hnb (by rw[← e]; exact o2 g hg')).rep
        refine Calls.mono (hC (enc x) (enc y) _ _ _ (hr x) (hr y)) fun e w' he=> ?_
        obtain ⟨rfl,rfl⟩:=he
        exact ⟨rfl,0, #[],by rw[grow_empty]; rfl⟩
      have h1c:∀x:α,(enc x).oneCell'=true:=fun x=>by cases hx:x.1 <;> simp[enc,hx,hdV,Value.oneCell']
      have hm:xs.length < 4611686018427387904:=by omega
      have key:=hS α enc h1c _ (Qta fun x:α=>F x.1) b cap hs.attach.toArray w hcmp hH hg (by rw[hds]; exact hm)
      rw[hds] at key
      rw[hc]
      refine Calls.mono key fun e w' he=> ?_
      obtain ⟨rfl,d',n,os,⟨p1,p2,p3⟩,hsrt,rfl⟩:=he
      have hal':hs.attach.length=hs.length:=List.length_attach
      have hd's:d'.size=hs.length:=by rw[p1]; exact hal'
      let zs:List Hdr:=d'.toList.map Subtype.val
      have hzp:hs.Perm zs:=by
        have e1:(d'.extract 0 xs.length).toList=d'.toList:=by rw[← hlen,← hd's]; simp
        have e2:(hs.attach.toArray.extract 0 xs.length).toList=hs.attach:=by
          rw[← hlen]
          simp only[List.extract_toArray,List.extract_eq_take_drop,Nat.sub_zero,dc]
          exact aH (Nat.le_of_eq hal')
        rw[e1,e2] at p3
        have:=p3.symm.map Subtype.val
        rwa [List.attach_map_subtype_val] at this
      have hzl:zs.length=xs.length:=by rw[← hlen]; exact hzp.length_eq.symm
      have hze:zs.map F=Yn xs:=by
        refine QbU ?_ ?_ (VX xs)
        · have := hzp.symm.map F
          rw[k2] at this
          exact this.trans (XY xs).symm
        · rw [cH, cH]
          rw[List.pairwise_iff_getElem]
          intro i j hi hj hij
          have hi':i < d'.size:=by simpa using hi
          have hj':j < d'.size:=by simpa using hj
          have:=hsrt i j (aw _) hij (by rw[← hlen,← hd's]; exact hj')
          rw[getElem!_pos d' i hi',getElem!_pos d' j hj'] at this
          simp only[Array.getElem_toList]
          cases hlt2:ltP (F d'[j].1) (F d'[i].1) with
          | false=>rfl
          | true=>
            have h3:=(QcX _ _).2 hlt2
            unfold ltOf at this
            exact absurd h3 (a7 this)
      obtain ⟨fb,m3,m4⟩:=Qgu hzp hL
      have hb':=QqQ (enc:=enc) (n:=n) (os:=os) d' hb
      have hcs:(putCells enc 0 d' cur).size=cur.size:=by simp[putCells]
      let gh':Gh:=⟨gh.h,fun q=>if q=0 then b :: fb else gh.f q,gh.N⟩
      have fq:gh'.f 0=b :: fb:=rfl
      have hmem:∀g,g∈b :: fb↔g∈gh.f 0:=fun g=>by rw[hf,aG,aG,m3.mem_iff]
      refine ⟨_,_,_,gh',rfl,⟨rfl,rfl⟩,⟨fun q e he=> ?_,fun q q' hq hq' hne=>absurd ((alq _ q hq).trans (alq _ q' hq').symm) hne,fun q hq=> ?_,fun q hq g' hg'=> ?_,fun g' hg'=>bq (cx.nl g' hg') (Qhk d').size⟩,⟨[],rfl,rfl⟩,
        ⟨Qhk d',fun g' h1 h2=> ?_,fun g' h1=> .inl h1,fun q hq g' hg'=> ?_⟩,fun q _ _=>rfl⟩
      · rw [Qn] at he
        split at he
        · rename_i e0; subst e0; cases he
          refine .inr ⟨b,cap,putCells enc 0 d' cur,fb,rfl,by rw[V8]; exact congrArg (fun z=>[z]) hc,hb',by rw[V8]; exact hn,hcap,by rw[hcs]; exact hsz, ?_⟩
          have et:(putCells enc 0 d' cur).toList.take ((Yn xs).length*Ty.wd (.sl E' .int))=zs.map hdV:=by
            have hcz:d'.toList.length≤cur.size:=by
              have:cur.size=cap*Ty.wd (.sl E' .int):=hsz
              simp only[Ty.wd,cV] at this
              rw[Array.length_toList,hd's,hlen]; omega
            have:=Qgv (enc:=enc) cur d'.toList hcz
            rw[V8,← hlen,← hd's]
            show List.take (d'.size*1) _=_
            rw[cV]
            simp only[Array.length_toList] at this
            rw[show d'.toList.toArray=d' by simp] at this
            rw[this,cG]; rfl
          rw[et,← hze]
          have hk:∀g∈fb,(sortWorld enc w b 0 n d' os).heap[g]? =w.heap[g]? :=fun g hg'=>by
            have h3:g∈fps:=m3.mem_iff.2 hg'
            exact JU d' (hlt g h3) fun e=>hnb (e▸h3)
          exact QjT hk m4
        · cases he
      · rw [alq _ q hq, fq, bz]
        exact ⟨fun h=>hnb (m3.mem_iff.2 h),(m3.nodup_iff).1 hnf⟩
      · rw[alq _ q hq,fq] at hg'; exact cx.no 0 ⟨_,rfl⟩ g' ((hmem g').1 hg')
      · exact JU d' h1 fun e0=>h2 0 ⟨_,rfl⟩ (by rw[hf,e0]; exact aA ..)
      · rw[alq _ q hq,fq] at hg'; exact .inr ⟨0,⟨_,rfl⟩,(hmem g').1 hg'⟩
def Qjn:Go.Shelf.Ren:=⟨fun | 6=>121 | 15=>228 | 14=>227 | 28=>304 | 29=>305 | 20=>296 | 21=>297 | 22=>298 | 23=>299 | 24=>300 | 25=>301 | 26=>302 | 27=>303 | 46=>352 | 47=>353 | 48=>354 | 49=>355 | 50=>356 | 57=>382 | n=>n,fun | 22=>79 | 24=>95 | 25=>159 | 3=>3 | 39=>253 | 0=>0 | 53=>321 | 55=>119 | 4=>4 | 46=>315 | 45=>314 | 50=>220 | 5=>5 | 9=>9 | 66=>360 | 70=>364 | 76=>383 | 77=>113 | n=>n,fun | n=>n⟩
theorem Qo8:Go.Proofs.SlLaysF.n6 Tryz.prog Qjn:={
  mixed:=by kernel_rfl,
  f6:=⟨"slices.SortFunc[[][]int,[]int]",by decide,Tryz.func121.trans (congrArg some (by kernel_rfl))⟩,
  f14:=⟨"slices.pdqsortCmpFunc[[]int]",by decide,Tryz.func227.trans (congrArg some (by kernel_rfl))⟩,
  f15:=Tryz.func228.trans (congrArg some (by kernel_rfl)),
  f20:=⟨"slices.insertionSortCmpFunc[[]int]",by decide,Tryz.func296.trans (congrArg some (by kernel_rfl))⟩,
  f21:=⟨"slices.heapSortCmpFunc[[]int]",by decide,Tryz.func297.trans (congrArg some (by kernel_rfl))⟩,
  f22:=⟨"slices.breakPatternsCmpFunc[[]int]",by decide,Tryz.func298.trans (congrArg some (by kernel_rfl))⟩,
  f23:=⟨"slices.choosePivotCmpFunc[[]int]",by decide,Tryz.func299.trans (congrArg some (by kernel_rfl))⟩,
  f24:=⟨"slices.reverseRangeCmpFunc[[]int]",by decide,Tryz.func300.trans (congrArg some (by kernel_rfl))⟩,
  f25:=⟨"slices.partialInsertionSortCmpFunc[[]int]",by decide,Tryz.func301.trans (congrArg some (by kernel_rfl))⟩,
  f26:=⟨"slices.partitionEqualCmpFunc[[]int]",by decide,Tryz.func302.trans (congrArg some (by kernel_rfl))⟩,
  f27:=⟨"slices.partitionCmpFunc[[]int]",by decide,Tryz.func303.trans (congrArg some (by kernel_rfl))⟩,
  f28:=Tryz.func304.trans (congrArg some (by kernel_rfl)),
  f29:=Tryz.func305.trans (congrArg some (by kernel_rfl)),
  f46:=⟨"slices.siftDownCmpFunc[[]int]",by decide,Tryz.func352.trans (congrArg some (by kernel_rfl))⟩,
  f47:=Tryz.func353.trans (congrArg some (by kernel_rfl)),
  f48:=Tryz.func354.trans (congrArg some (by kernel_rfl)),
  f49:=⟨"slices.medianAdjacentCmpFunc[[]int]",by decide,Tryz.func355.trans (congrArg some (by kernel_rfl))⟩,
  f50:=⟨"slices.medianCmpFunc[[]int]",by decide,Tryz.func356.trans (congrArg some (by kernel_rfl))⟩,
  f57:=⟨"slices.order2CmpFunc[[]int]",by decide,Tryz.func382.trans (congrArg some (by kernel_rfl))⟩,
  t0:=Tryz.underlying0,
  a0:=Tryz.isAgg0,
  z0:=Tryz.sizeOf0,
  v0:=Tryz.zeroValue0,
  t3:=Tryz.underlying3,
  a3:=Tryz.isAgg3,
  z3:=Tryz.sizeOf3,
  v3:=Tryz.zeroValue3,
  t4:=Tryz.underlying4,
  a4:=Tryz.isAgg4,
  z4:=Tryz.sizeOf4,
  v4:=Tryz.zeroValue4,
  t5:=Tryz.underlying5,
  a5:=Tryz.isAgg5,
  z5:=Tryz.sizeOf5,
  v5:=Tryz.zeroValue5,
  t9:=Tryz.underlying9,
  a9:=Tryz.isAgg9,
  z9:=Tryz.sizeOf9,
  v9:=Tryz.zeroValue9,
  t22:=Tryz.underlying79,
  a22:=Tryz.isAgg79,
  z22:=Tryz.sizeOf79,
  v22:=Tryz.zeroValue79,
  a24:=Tryz.isAgg95,
  z24:=Tryz.sizeOf95,
  t25:=Tryz.underlying159,
  a25:=Tryz.isAgg159,
  z25:=Tryz.sizeOf159,
  v25:=Tryz.zeroValue159,
  t39:=Tryz.underlying253,
  a39:=Tryz.isAgg253,
  z39:=Tryz.sizeOf253,
  v39:=Tryz.zeroValue253,
  t45:=Tryz.underlying314,
  a45:=Tryz.isAgg314,
  z45:=Tryz.sizeOf314,
  v45:=Tryz.zeroValue314,
  t46:=Tryz.underlying315,
  a46:=Tryz.isAgg315,
  z46:=Tryz.sizeOf315,
  v46:=Tryz.zeroValue315,
  t50:=Tryz.underlying220,
  a50:=Tryz.isAgg220,
  z50:=Tryz.sizeOf220,
  v50:=Tryz.zeroValue220,
  t53:=Tryz.underlying321,
  a53:=Tryz.isAgg321,
  z53:=Tryz.sizeOf321,
  v53:=Tryz.zeroValue321,
  t55:=Tryz.underlying119,
  a55:=Tryz.isAgg119,
  z55:=Tryz.sizeOf119,
  v55:=Tryz.zeroValue119,
  t66:=Tryz.underlying360,
  a66:=Tryz.isAgg360,
  z66:=Tryz.sizeOf360,
  v66:=Tryz.zeroValue360,
  t70:=Tryz.underlying364,
  a70:=Tryz.isAgg364,
  z70:=Tryz.sizeOf364,
  v70:=Tryz.zeroValue364,
  t76:=Tryz.underlying383,
  a76:=Tryz.isAgg383,
  z76:=Tryz.sizeOf383,
  v76:=Tryz.zeroValue383,
  t77:=Tryz.underlying113,
  a77:=Tryz.isAgg113,
  z77:=Tryz.sizeOf113,
  v77:=Tryz.zeroValue113}
theorem Qpt:QkF Tryz.prog 121 122:=fun _ _ enc h1 cf hO blk cap d w hc hH hb hs=>Any.slices_SortFunc Qo8 enc (fun x=>h1 x) cf hO _ #[] blk 0 cap d w (fun args W=>Qk Tryz.func122 (by kernel_rfl) rfl args W) hc hH hb hs
theorem QgA:Qco Tryz.prog 121:=fun p cap fv w=>AnyF.slices_SortFunc_none {Qo8 with} p cap fv w
theorem Qpb (xs:List (List Int))(hl:xs.length≤1000000000):FC Tryz.prog 121 [(false,[.ref 0]),(false,[.clo 122 []])] [(0,some (.arr 95 Qs xs))] 1 (Is (.tup []) [(0,some (.arr 95 Qs (Yn xs)))]):=
  QpH Qpt QgA (fun u v a b w h1 h2=>QcA u v a b w h1 h2) xs hl
end Go.Proofs.YtjaadeknhofhpaaGreat
namespace Go.Proofs.YtjaadeknhofhpaaGreat
open Go.RowKit
section
variable {N:Nat→Prop}{w:World}{e:Ty}
theorem FzL.len:∀{vs:List Hdr} {xs:List e.Den},FzL N w e vs xs→vs.length=xs.length
  | [],xs,h=>by rw[show xs=[] from h]; rfl
  | v :: vs,_,⟨x,r,h1,_,h3⟩=>by rw[h1,ah,ah,FzL.len h3]
theorem FzL.app:∀{vs:List Hdr} {xs:List e.Den} {vs2:List Hdr} {ys:List e.Den},FzL N w e vs xs→FzL N w e vs2 ys→FzL N w e (vs++vs2) (xs++ys)
  | [],_,_,_,h,k=>by rw[show _=[] from h]; exact k
  | v :: vs,_,_,_,⟨x,r,h1,h2,h3⟩,k=>⟨x,r++_,by rw[h1]; rfl,h2,FzL.app h3 k⟩
theorem FzL.at:∀{vs:List Hdr} {xs:List e.Den} {j:Nat} {y:e.Den},FzL N w e vs xs→xs[j]? =some y→∃z,vs[j]? =some z∧Rd N e w [hdV z] y
  | [],_,_,_,h,hy=>by rw[show _=[] from h] at hy; cases hy
  | v :: vs,_,0,y,⟨x,r,h1,h2,h3⟩,hy=>by subst h1; cases hy; exact ⟨v,rfl,h2⟩
  | v :: vs,_,j+1,y,⟨x,r,h1,h2,h3⟩,hy=>by subst h1; exact FzL.at (j:=j) h3 hy
theorem FzL.of {f:Hdr→e.Den}:∀{vs:List Hdr},(∀v∈vs,Rd N e w [hdV v] (f v))→FzL N w e vs (vs.map f)
  | [],_=>rfl
  | v :: vs,h=>⟨f v,vs.map f,rfl,h v (aA ..),FzL.of fun u hu=>h u (aD _ hu)⟩
theorem FzL.fn {E:TypeId}{e:Ty}:∀{vs:List Hdr} {xs:List (List e.Den)},FzL N w (.sl E e) vs xs→vs.map (rdF E e w)=xs∧∀v∈vs,Rd N (.sl E e) w [hdV v] (rdF E e w v)
  | [],_,h=>⟨by rw[show _=[] from h]; rfl,fun _ h=>by cases h⟩
  | v :: vs,_,⟨x,r,h1,h2,h3⟩=>by
    obtain ⟨k1,k2⟩:=FzL.fn h3
    have h4:rdF E e w v=x:=QoJ h2.rep
    refine ⟨by rw[aW,k1,h4,h1],fun u hu=> ?_⟩
    rcases aG.1 hu with rfl | hu
    · rw[h4]; exact h2
    · exact k2 u hu
theorem Qjj {E:TypeId}{e:Ty}{f:Hdr→List e.Den}{vs:List Hdr}{fi:List Nat}(h:OwnL (Own (.sl E e) w) fi (vs.map hdV) (vs.map f))(hN:∀g∈fi,N g):FzL N w (.sl E e) vs (vs.map f):=FzL.of fun v hv=>by
  obtain ⟨fv,k1,k2⟩:=K8 h v hv
  exact k1.rd fun g hg=>hN g (k2 g hg)
end
section
variable {A:Amb}{P:Program}{s:St}
theorem Rg.toFz {gh:Gh}{a:Act}{w:World}{q:Nat}{E E':TypeId}{e:Ty}{xs:List (List e.Den)}(r:Rg A s gh a w)(he:s.tab.ent q=some (.arr E (.sl E' e) xs)):∃gh',gh'.h=gh.h∧Rg A ⟨s.tm,(q,some (.fz E (.sl E' e) xs)) :: s.tab⟩ gh' a w:=by
  have hq:s.tab.al q:=⟨_,he⟩
  have hO:Own (.sl E (.sl E' e)) w (gh.f q) [gh.h q] xs:=r.cx.en q _ he
  obtain ⟨fg,fi,vs,f,h1,h2,h3,h4⟩:=QdV hO
  have hnd:=r.cx.nd q hq
  rw[h1] at hnd
  obtain ⟨n1,n2,n3⟩:=b7.1 hnd
  have mg:∀g∈fg,g∈gh.f q:=fun g hg=>by rw[h1]; exact aT _ hg
  have mi:∀g∈fi,g∈gh.f q:=fun g hg=>by rw[h1]; exact aO _ hg
  have hal:∀t,Tab.al ((q,some (.fz E (.sl E' e) xs)) :: s.tab) t→s.tab.al t:=fun t ⟨x,hx⟩=>by
    rw[Qn] at hx
    by_cases e2:t=q
    · rw[e2]; exact hq
    · rw[if_neg e2] at hx; exact ⟨_,hx⟩
  let gh':Gh:=⟨gh.h,fun t=>if t=q then fg else gh.f t,fun g=>gh.N g∨g∈fi⟩
  have fq:gh'.f q=fg:=if_pos rfl
  have fo:∀t,t≠q→gh'.f t=gh.f t:=fun t e2=>if_neg e2
  have sub:∀t,∀g∈gh'.f t,g∈gh.f t:=fun t g hg=>by
    by_cases e2:t=q
    · rw[e2,fq] at hg; rw[e2]; exact mg g hg
    · rwa [fo t e2] at hg
  have hN:∀g,gh.N g→gh'.N g∧w.heap[g]? =w.heap[g]? :=fun g h=>⟨.inl h,rfl⟩
  refine ⟨gh',rfl,r.step ⟨fun t x hx=> ?_,fun t t' ht ht' hn g hg hg'=>r.cx.dj t t' (hal t ht) (hal t' ht') hn g (sub t g hg) (sub t' g hg'),fun t ht=> ?_,fun t ht g hg hgN=> ?_,fun g hgN=> ?_⟩ (fun t ht=> .inl ⟨hal t ht,rfl,fun _=>rfl⟩) hN (ZR w) (fun _ _ _=>rfl) (fun g hgN=> ?_) fun t ht g hg=> .inr ⟨t,hal t ht,sub t g hg⟩⟩
  · rw [Qn] at hx
    by_cases e2:t=q
    · rw [if_pos e2] at hx
      cases hx
      rw[e2]
      refine ⟨vs, ?_, ?_⟩
      · rw[fq]; exact h2
      · rw[← h4]; exact Qjj h3 fun g hg=> .inr hg
    · rw [if_neg e2] at hx
      exact (r.cx.en t x hx).mono (fun r' _ ha=>⟨hal r' ha,rfl⟩) hN rfl (fo t e2) fun _ _=>rfl
  · by_cases e2 : t = q
    · rw[e2,fq]; exact n1
    · rw[fo t e2]; exact r.cx.nd t (hal t ht)
  · rcases hgN with hgN | hgN
    · exact r.cx.no t (hal t ht) g (sub t g hg) hgN
    · by_cases e2 : t = q
      · rw[e2,fq] at hg; exact n3 g hg g hgN rfl
      · exact r.cx.dj t q (hal t ht) hq e2 g (sub t g hg) (mi g hgN)
  · rcases hgN with hgN | hgN
    · exact r.cx.nl g hgN
    · exact r.cx.lt hq g (mi g hgN)
  · rcases hgN with hgN | hgN
    · exact .inl hgN
    · exact .inr (.inr ⟨q,hq,mi g hgN,fun hl=>r.xn g hl (r.ox q hq g (mi g hgN) hl)⟩)
theorem Wk.toFz {q:Nat}{E E':TypeId}{e:Ty}{xs:List (List e.Den)}(he:s.tab.ent q=some (.arr E (.sl E' e) xs)):Wk A s ⟨s.tm,(q,some (.fz E (.sl E' e) xs)) :: s.tab⟩:=fun _ _ ⟨_,r⟩=>by
  obtain ⟨gh',_,r'⟩:=r.toFz he
  exact ⟨gh',r'⟩
theorem QaM {i q:Nat}{E E':TypeId}{e:Ty}{xs:List (List e.Den)}(hi:lk s.tm i=some (lf (.ref q)))(he:s.tab.ent q=some (.fz E (.sl E' e) xs)):
    Wk A s ⟨(i,lf (.dat (.sl E (.sl E' e)) xs)) :: s.tm,(q,none) :: s.tab⟩:=fun a w r=>by
  obtain ⟨gh,r⟩:=r
  obtain ⟨v,h1,l,h2,h3⟩:=r.tm i _ hi
  simp only[aB,and_true] at h2
  subst h2
  have hv:v=gh.h q:=h3 ⟨_,he⟩
  obtain ⟨zs,hO,k3⟩:=r.cx.en q _ he
  have hl:=k3.len
  refine ⟨_,(r.freeze he).know h1 (pv:=lf (.dat (.sl E (.sl E' e)) xs)) ⟨_,rfl, ?_⟩⟩
  rw[hv]
  show Rd (fun g=>gh.N g∨g∈gh.f q) (.sl E (.sl E' e)) w [gh.h q] xs
  obtain ⟨wM,m1,m2⟩:=Jc (fun g=>gh.N g∨g∈gh.f q) w
  refine ⟨wM,m1, ?_⟩
  rcases hO with ⟨_,g2,g3⟩ | ⟨g,cap,cur,fps,g1,g2,g3,g4,g5,g6,g7⟩
  · have hx : xs = [] := bn (by rw [← hl, g3]; rfl)
    subst hx
    exact ⟨none,0,g2,aL _,aw _,fun h=>absurd h (by simp)⟩
  · refine ⟨_, cap, by rw [← hl]; exact g2, by rw [← hl]; exact g4, g5, fun _ => ⟨g, 0, rfl, fun j y hy => ?_⟩⟩
    obtain ⟨z,hz1,wN,w1,w2⟩:=k3.at hy
    refine ⟨[hdV z],w2.kp (w1.kp fun g' hg'=>m2 g' (.inl hg')),fun b u hu=> ?_⟩
    obtain ⟨fv,ds,o1,o2,o3⟩:=g7.get j z hz1
    have o4:ds=[hdV z]:=o1.2
    subst o4
    have o5:=o3 b u hu
    rw[ba] at o5
    split at o5
    · rw [cN (m2 g (.inr (by rw [g1]; simp)))]
      simp only[World.cell?,g3]
      simpa using o5
    · cases o5
end
section
variable {A:Amb}{P:Program}{s:St}{x y:Operand}{d:Nat}{T ty:TypeId}{pos:String}{af:Array Edge}{g:Option (Nat×Bool)}
@[reducible] def St.mkF (s:St) (d t:Nat) (used:List Nat) (E:TypeId) (e:Ty) (xs:List e.Den):St:=⟨(d,lf (.ref t)) :: s.tm,(t,some (.fz E e xs)) :: (VN used++s.tab)⟩
theorem Rg.appFF {gh:Gh}{a:Act}{w:World}{K:Act→World→Prop}{Q:Exit→Act→World→Prop}(t:Nat){q q2:Nat}{E:TypeId}{e:Ty}{xs ys:List e.Den}(r:Rg A s gh a w)(hx:a.eval x=gh.h q)(he:s.tab.ent q=some (.fz E e xs))(hy:a.eval y=gh.h q2)(he2:s.tab.ent q2=some (.fz E e ys))
    (hT:P.underlying T=some (.slice E)) (hE:VO P E 1=true) (hb:xs.length+ys.length≤1073741824) (hn:Nat.blt d A.n=true) (hfr:Fresh s t) (hk0:A.k0≤t) (hK:∀a' w',R A (s.mkF d t [q,q2] E e (xs++ys)) a' w'→K a' w'):
    Oper.wp P ⟨some d, .call {callee:= .builtin .append,args:= #[x,y],argTypes:= #[T,T]},ty,pos,af,g⟩ a w K Q:=by
  obtain ⟨vs,h1,f1⟩:=r.cx.en q _ he
  obtain ⟨vs2,h2,f2⟩:=r.cx.en q2 _ he2
  obtain ⟨v',w',fp',k1,k2,k3,k4,k5,k6⟩:=Qbr (P:=P) T ty hT (QcW (e:= .vl) hE) h1 (r.cx.nd q ⟨_,he⟩) ((Own.rep h2).srcOk rfl) bH (by simp) (by simp) (by rw[f1.len,f2.len]; exact hb)
  have hNk:∀g,gh.N g→gh.N g∧w'.heap[g]? =w.heap[g]? :=fun g hN=>⟨hN,k6 g (r.cx.nl g hN) fun h=>r.cx.no q ⟨_,he⟩ g h hN⟩
  have r2:=r.make t hfr hk0 [q,q2] (by simp only[aG,cQ,or_false]; rintro _ (rfl | rfl); exact ⟨_,he⟩; exact ⟨_,he2⟩) k5 (fun g hg hx=>k6 g hg (hx q (by simp))) k2 k3 (fun g hg=>by
    rcases k4 g hg with h | h | h
    · exact .inr ⟨q,by simp,h⟩
    · cases h
    · exact .inl h)
  have r3:=r2.mod (q:=t) (Qn .. |>.trans (if_pos rfl)) (ZR w') (fun _ _ _=>rfl) (e:= .fz E e (xs++ys)) ⟨vs++vs2,by simpa using k2,(f1.mono hNk).app (f2.mono hNk)⟩
  have r4:=r3.ext (s':=⟨s.tm,(t,some (.fz E e (xs++ys))) :: (VN [q,q2]++s.tab)⟩) (fun _=>rfl) fun q'=>by
    rw[Qn,Qn]
    split
    · rfl
    · rename_i h; rw[Qn,if_neg h]
  refine Qbb rfl (by rw[hx,hy]; exact k1) (hK _ _ ⟨_,r4.put (aC hn) (pv:=lf (.ref t)) ⟨_,rfl,fun _=>by simp⟩⟩)
theorem Qfq (t:Nat){q q2:Nat}{E E':TypeId}{e:Ty}{xs ys:List (List e.Den)}(hx:Evl A s x (.ref q))(he:s.tab.ent q=some (.fz E (.sl E' e) xs))(hy:Evl A s y (.ref q2))(he2:s.tab.ent q2=some (.arr E (.sl E' e) ys))(hne:Nat.beq q q2=false)
    (hT:P.underlying T=some (.slice E)) (hE:VO P E 1=true) (hb:xs.length+ys.length≤1073741824) (hn:Nat.blt d A.n=true) (hfr:Fresh s t) (hk0:A.k0≤t):
    Does A P ⟨some d, .call {callee:= .builtin .append,args:= #[x,y],argTypes:= #[T,T]},ty,pos,af,g⟩ s (s.mkF d t [q,q2] E (.sl E' e) (xs++ys)):=fun a w K Q r hK=>by
  have hne':q≠q2:=fun h=>by rw[h,cF] at hne; cases hne
  obtain ⟨gh,r⟩:=r
  have e1:=hx gh a w r ⟨_,he⟩
  have e2:=hy gh a w r ⟨_,he2⟩
  obtain ⟨gh',hh,r'⟩:=r.toFz he2
  have hfr':Fresh ⟨s.tm,(q2,some (.fz E (.sl E' e) ys)) :: s.tab⟩ t:=⟨hfr.tm,fun r0 e0 h0=>by
    rw[Qn] at h0
    split at h0
    · cases h0; exact fun h=>by cases h
    · exact hfr.en r0 e0 h0,fun ⟨e0,h0⟩=>by
    rw[Qn] at h0
    split at h0
    · rename_i h1; exact hfr.al ⟨_,h1▸he2⟩
    · exact hfr.al ⟨_,h0⟩⟩
  refine r'.appFF t (q:=q) (q2:=q2) (by rw[hh]; exact e1) (by rw[Qn,if_neg hne']; exact he) (by rw[hh]; exact e2) (by rw[Qn,if_pos rfl]) hT hE hb hn hfr' hk0 fun a' w' rr=>hK a' w' ?_
  obtain ⟨gh2,rr⟩:=rr
  refine ⟨gh2,rr.ext (fun _=>rfl) fun q'=> ?_⟩
  show Tab.ent ((t,_) :: (VN [q,q2]++s.tab)) q'=Tab.ent ((t,_) :: (VN [q,q2]++((q2,_) :: s.tab))) q'
  rw[Qn,Qn]
  split
  · rfl
  · rw [Ks, Ks]
    split
    · rfl
    · rename_i h; rw[Qn,if_neg (fun h0=>h (by simp[h0]))]
theorem Qss {E:TypeId}{e:Ty}{xs ys:List e.Den}(h:xs=ys):some (Ent.fz E e xs)=some (Ent.fz E e ys):=congrArg (fun z=>some (Ent.fz E e z)) h
theorem Qfs (t:Nat){q q2:Nat}{E:TypeId}{e:Ty}{xs ys:List e.Den}(hx:Evl A s x (.ref q))(he:s.tab.ent q=some (.fz E e xs))(hy:Evl A s y (.ref q2))(he2:s.tab.ent q2=some (.fz E e ys))
    (hT:P.underlying T=some (.slice E)) (hE:VO P E 1=true) (hb:xs.length+ys.length≤1073741824) (hn:Nat.blt d A.n=true) (hfr:Fresh s t) (hk0:A.k0≤t):
    Does A P ⟨some d, .call {callee:= .builtin .append,args:= #[x,y],argTypes:= #[T,T]},ty,pos,af,g⟩ s (s.mkF d t [q] E e (xs++ys)):=fun a w K Q r hK=>by
  obtain ⟨gh,r⟩:=r
  obtain ⟨vs,h1,f1⟩:=r.cx.en q _ he
  obtain ⟨vs2,h2,f2⟩:=r.cx.en q2 _ he2
  obtain ⟨v',w',fp',k1,k2,k3,k4,k5,k6⟩:=Qbr (P:=P) T ty hT (QcW (e:= .vl) hE) h1 (r.cx.nd q ⟨_,he⟩) ((Own.rep h2).srcOk rfl) bH (by simp) (by simp) (by rw[f1.len,f2.len]; exact hb)
  have hNk:∀g,gh.N g→gh.N g∧w'.heap[g]? =w.heap[g]? :=fun g hN=>⟨hN,k6 g (r.cx.nl g hN) fun h=>r.cx.no q ⟨_,he⟩ g h hN⟩
  have r2:=r.make t hfr hk0 [q] (by simp only[aG,cQ,or_false]; rintro _ rfl; exact ⟨_,he⟩) k5 (fun g hg hx=>k6 g hg (hx q (by simp))) k2 k3 (fun g hg=>by
    rcases k4 g hg with h | h | h
    · exact .inr ⟨q,by simp,h⟩
    · cases h
    · exact .inl h)
  have r3:=r2.mod (q:=t) (Qn .. |>.trans (if_pos rfl)) (ZR w') (fun _ _ _=>rfl) (e:= .fz E e (xs++ys)) ⟨vs++vs2,by simpa using k2,(f1.mono hNk).app (f2.mono hNk)⟩
  have r4:=r3.ext (s':=⟨s.tm,(t,some (.fz E e (xs++ys))) :: (VN [q]++s.tab)⟩) (fun _=>rfl) fun q'=>by
    rw[Qn,Qn]
    split
    · rfl
    · rename_i h; rw[Qn,if_neg h]
  refine Qbb rfl (by rw[show a.eval x=gh.h q from hx gh a w r ⟨_,he⟩,show a.eval y=gh.h q2 from hy gh a w r ⟨_,he2⟩]; exact k1) (hK _ _ ⟨_,r4.put (aC hn) (pv:=lf (.ref t)) ⟨_,rfl,fun _=>by simp⟩⟩)
theorem Qm1 {ops:Array Oper}{l:List Oper}{Q:Exit→St→Prop}{T':TypeId}{q:Nat}{E E':TypeId}{e:Ty}{xs:List e.Den}(hx:Evl A s x (.ref q))(he:s.tab.ent q=some (.fz E e xs))(hy:Evl A s y (.val (.slice none 0 0)))
    (hT:P.underlying T=some (.slice E')) (hn:Nat.blt d A.n=true) (k:∀b:Bool,(b=true→xs=[])→AL A P ops l Q (s.put d (lf (dB b)))):AL A P ops (⟨some d, .binOp .eql T x y T',ty,pos,af,none⟩ :: l) Q s:=
  fun a w r=>wpList_plain rfl fun _ hK=>by
    obtain ⟨gh,r'⟩:=r
    have h0:a.eval x=gh.h q:=hx gh a w r' ⟨_,he⟩
    obtain ⟨vs,hO,hF⟩:=r'.cx.en q _ he
    obtain ⟨B,c,hv,h1,h2,h3⟩:=Own.rep hO
    simp only[aB,and_true] at hv
    rw[← h0] at hv
    have hy':a.eval y= .slice none 0 0:=hy gh a w r'
    have e:(execOp a.eval ⟨some d, .binOp .eql T x y T',ty,pos,af,none⟩).run P w= .ok (.value (.bool B.isNone)) w:=by
      simp only[execOp,hv,hy',eqGuard_at_slice]
      simp[ax,Qgi hT]
    unfold Oper.wp
    rw[e,Oper.upon_value]
    refine hK _ _ (k B.isNone (fun h=> ?_) _ _ ⟨gh,r'.put (aC hn) (pv:=lf (dB B.isNone)) ⟨_,rfl,YR⟩⟩)
    cases vs with
    | nil=>exact bn (by rw[← hF.len]; rfl)
    | cons z zs=>
      obtain ⟨b,o,h4,_⟩:=h3 (by simp)
      rw[h4] at h
      cases h
end
end Go.Proofs.YtjaadeknhofhpaaGreat
namespace Go.Proofs.YtjaadeknhofhpaaGreat
open Go.RowKit Go.Sort Go.Shelf Go.Lib
theorem Qo7 {P:Program}{f g:FuncId}{E E':TypeId}(hS:QkF P f g)(hN:Qco P f)(hC:QiY P g E')(xs:List (List Int))(hl:xs.length≤1000000000):
    FC P f [(false,[.ref 0]),(false,[.clo g []])] [(0,some (.fz E (.sl E' .int) xs))] 1 (Is (.tup []) [(0,some (.fz E (.sl E' .int) (Yn xs)))]):=fun gh w vs cx ha=>by
  obtain ⟨v,vs',rfl,⟨l,hl_,h1⟩,v2,vs2,rfl,⟨l2,hl2,h2⟩,rfl⟩:=ha
  simp only[aB,and_true] at hl_ hl2
  subst hl_ hl2
  have hv:v=gh.h 0:=h1 ⟨_,rfl⟩
  have hv2:v2= .func (.func g) #[] #[]:=h2 (by simp)
  subst hv hv2
  obtain ⟨hs,hO,hF⟩:=cx.en 0 _ rfl
  obtain ⟨k2,kR⟩:=hF.fn
  have hlen:hs.length=xs.length:=hF.len
  have alq:∀(y:List (List Int)) q,Tab.al [(0,some (Ent.fz E (.sl E' .int) y))] q→q=0:=fun y q ⟨e,he⟩=>by
    rw[Qn] at he
    split at he
    · assumption
    · cases he
  have hnone:xs=[]→∀p cap,gh.h 0= .slice p 0 cap→Calls P f [gh.h 0, .func (.func g) #[] #[]].toArray w fun e w'=>∃v pv T' gh',e= .returned v∧Is (.tup []) [(0,some (.fz E (.sl E' .int) (Yn xs)))] pv T'∧Cx T' gh' w'∧PVR T'.al gh' w' pv v∧Fr [(0,some (.fz E (.sl E' .int) xs))] T' gh gh' w w'∧∀q,q < 1→T'.al q→gh'.h q=gh.h q:=fun hx p cap hp=>by
    subst hx
    rw[hp]
    refine Calls.mono (hN p cap _ w) fun e w' he=> ?_
    obtain ⟨rfl,rfl⟩:=he
    have hls:Yn []=[]:=bn (V8 [])
    rw[hls]
    have hcx:Cx [(0,some (Ent.fz E (.sl E' .int) []))] gh w':=cx
    exact ⟨_,_,_,gh,rfl,⟨rfl,rfl⟩,hcx,⟨[],rfl,rfl⟩,⟨ZR _,fun g _ _=>rfl,fun g hg=> .inl hg,fun q hq g hg=> .inr ⟨q,hq,hg⟩⟩,fun q _ _=>rfl⟩
  rcases hO with ⟨hf,hc,hx⟩ | ⟨b,cap,cur,fps,hf,hc,hb,hn,hcap,hsz,hL⟩
  · simp only [aB, and_true] at hc
    exact hnone (by rw[← k2,hx]; rfl) _ _ hc
  · simp only [aB, and_true] at hc
    obtain ⟨rfl,k1⟩:=QeH hL
    cases hs with
    | nil=>
      have hx:xs=[]:=by rw[← k2]; rfl
      exact hnone hx _ _ (by rw[hc]; rfl)
    | cons h0 hs0=>
      generalize hhs:h0 :: hs0=hs at*
      have hin:h0∈hs:=by rw[← hhs]; exact aA ..
      let α:={v:Hdr // v∈hs}
      letI:Inhabited α:=⟨⟨h0,hin⟩⟩
      let F:Hdr→List Int:=rdF E' .int w
      let enc:α→Value:=fun x=>hdV x.1
      have hg:b < w.heap.size:=(bw.1 hb).1
      have hbf:b∈gh.f 0:=by rw[hf]; exact aA ..
      have hfz:∀(n:Nat) (d:Array α) (os:Array Obj) g,gh.N g→gh.N g∧(sortWorld enc w b 0 n d os).heap[g]? =w.heap[g]? :=fun n d os g hN=>⟨hN,JU d (cx.nl g hN) fun e=>cx.no 0 ⟨_,rfl⟩ g (e▸hbf) hN⟩
      have hat:hs.attach.map (fun x=>hdV x.1)=hs.map hdV:=by
        have:hs.attach.map (fun x=>hdV x.1)=(hs.attach.map Subtype.val).map hdV:=by rw[cG]; rfl
        rw[this,List.attach_map_subtype_val]
      have hH:Holds enc w b 0 hs.attach.toArray:=Qo1 hb (by
        rw[List.length_attach]
        have:=k1
        simp only[Ty.wd,cV] at this
        rw[this]; exact hat.symm)
      have hds:hs.attach.toArray.size=hs.length:=by simp
      have hcmp:CmpLays1 P g #[] enc (fun x y=>Jv (F x.1) (F y.1)) b 0 hs.attach.toArray.size w:=fun m os dk _ x y=>by
        have hr:∀z:α,Rep (.sl E' .int) (sortWorld enc w b 0 m dk os) [enc z] (F z.1):=fun z=>((kR z.1 z.2).mono (hfz m dk os)).rep
        refine Calls.mono (hC (enc x) (enc y) _ _ _ (hr x) (hr y)) fun e w' he=> ?_
        obtain ⟨rfl,rfl⟩:=he
        exact ⟨rfl,0, #[],by rw[grow_empty]; rfl⟩
      have h1c:∀x:α,(enc x).oneCell'=true:=fun x=>by cases hx:x.1 <;> simp[enc,hx,hdV,Value.oneCell']
      have hm:hs.length < 4611686018427387904:=by omega
      have key:=hS α enc h1c _ (Qta fun x:α=>F x.1) b cap hs.attach.toArray w hcmp hH hg (by rw[hds]; exact hm)
      rw[hds] at key
      rw[hc]
      refine Calls.mono key fun e w' he=> ?_
      obtain ⟨rfl,d',n,os,⟨p1,p2,p3⟩,hsrt,rfl⟩:=he
      have hal':hs.attach.length=hs.length:=List.length_attach
      have hd's:d'.size=hs.length:=by rw[p1]; exact hal'
      let zs:List Hdr:=d'.toList.map Subtype.val
      have hzp:hs.Perm zs:=by
        have e1:(d'.extract 0 hs.length).toList=d'.toList:=by rw[← hd's]; simp
        have e2:(hs.attach.toArray.extract 0 hs.length).toList=hs.attach:=by
          simp only[List.extract_toArray,List.extract_eq_take_drop,Nat.sub_zero,dc]
          exact aH (Nat.le_of_eq hal')
        rw[e1,e2] at p3
        have:=p3.symm.map Subtype.val
        rwa [List.attach_map_subtype_val] at this
      have hzl:zs.length=hs.length:=hzp.length_eq.symm
      have hze:zs.map F=Yn xs:=by
        refine QbU ?_ ?_ (VX xs)
        · have := hzp.symm.map F
          rw[k2] at this
          exact this.trans (XY xs).symm
        · rw [cH, cH]
          rw[List.pairwise_iff_getElem]
          intro i j hi hj hij
          have hi':i < d'.size:=by simpa using hi
          have hj':j < d'.size:=by simpa using hj
          have:=hsrt i j (aw _) hij (by rw[← hd's]; exact hj')
          rw[getElem!_pos d' i hi',getElem!_pos d' j hj'] at this
          simp only[Array.getElem_toList]
          cases hlt2:ltP (F d'[j].1) (F d'[i].1) with
          | false=>rfl
          | true=>
            have h3:=(QcX _ _).2 hlt2
            unfold ltOf at this
            exact absurd h3 (a7 this)
      have hb':=QqQ (enc:=enc) (n:=n) (os:=os) d' hb
      have hcs:(putCells enc 0 d' cur).size=cur.size:=by simp[putCells]
      refine ⟨_,_,_,gh,rfl,⟨rfl,rfl⟩,⟨fun q e he=> ?_,fun q q' hq hq' hne=>absurd ((alq _ q hq).trans (alq _ q' hq').symm) hne,fun q hq=> ?_,fun q hq g' hg'=> ?_,fun g' hg'=>bq (cx.nl g' hg') (Qhk d').size⟩,⟨[],rfl,rfl⟩,
        ⟨Qhk d',fun g' h1 h2=> ?_,fun g' h1=> .inl h1,fun q hq g' hg'=> ?_⟩,fun q _ _=>rfl⟩
      · rw [Qn] at he
        split at he
        · rename_i e0; subst e0; cases he
          refine ⟨zs, .inr ⟨b,cap,putCells enc 0 d' cur,[],hf,by rw[hzl]; exact congrArg (fun z=>[z]) hc,hb',by rw[hzl]; exact hn,hcap,by rw[hcs]; exact hsz, ?_⟩, ?_⟩
          · have et:(putCells enc 0 d' cur).toList.take (zs.length*Ty.wd .vl)=zs.map hdV:=by
              have hcz:d'.toList.length≤cur.size:=by
                have:cur.size=cap*Ty.wd .vl:=hsz
                simp only[Ty.wd,cV] at this
                rw[Array.length_toList,hd's]; omega
              have:=Qgv (enc:=enc) cur d'.toList hcz
              rw[hzl,← hd's]
              show List.take (d'.size*1) _=_
              rw[cV]
              simp only[Array.length_toList] at this
              rw[show d'.toList.toArray=d' by simp] at this
              rw[this,cG]; rfl
            rw[et]
            exact QgL zs
          · rw [← hze]
            exact FzL.of fun v hv=>(kR v (hzp.mem_iff.2 hv)).mono (hfz n d' os)
        · cases he
      · rw[alq _ q hq]; exact cx.nd 0 ⟨_,rfl⟩
      · rw[alq _ q hq] at hg'; exact cx.no 0 ⟨_,rfl⟩ g' hg'
      · exact JU d' h1 fun e0=>h2 0 ⟨_,rfl⟩ (by rw[e0]; exact hbf)
      · rw[alq _ q hq] at hg'; exact .inr ⟨0,⟨_,rfl⟩,hg'⟩
theorem Qn0 (xs:List (List Int))(hl:xs.length≤1000000000):FC Tryz.prog 121 [(false,[.ref 0]),(false,[.clo 122 []])] [(0,some (.fz 95 Qs xs))] 1 (Is (.tup []) [(0,some (.fz 95 Qs (Yn xs)))]):=
  Qo7 Qpt QgA (fun u v a b w h1 h2=>QcA u v a b w h1 h2) xs hl
end Go.Proofs.YtjaadeknhofhpaaGreat

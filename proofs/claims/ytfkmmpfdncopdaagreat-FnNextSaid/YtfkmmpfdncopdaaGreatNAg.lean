/- Abstract states: struct literals of types with maps; clearing the end of an own slice; an own slice cut short; keys that are structs. No program is named here. -/
import Derived.Test.YtfkmmpfdncopdaaGreatNAt
import Derived.Test.YtfkmmpfdncopdaaGreatNAe
import Derived.DeepKeys3
import Derived.Test.YtfkmmpfdncopdaaGreatNAf
import Derived.Test.YtfkmmpfdncopdaaGreatNAl
set_option linter.unusedSimpArgs false
set_option linter.unusedVariables false
set_option linter.unusedSectionVars false
namespace Go.Proofs.YtfkmmpfdncopdaaGreat
open Go.RowKit
section
variable {A:Amb}{P:Program}{s:St}{x y z:Operand}{d:Nat}{T T' ty:TypeId}{pos:String}{af:Array Edge}{g:Option (Nat×Bool)}
def QtO (P:Program)(T:TypeId)(offs:List (Nat×Nat))(zs:List Value):Prop:=
  ∃fs,P.underlying T=some (.struct fs)∧(∀w,(fs.mapM fun (f:Field)=>do pure (f.offset,← sizeOf f.type)).run P w= .ok offs.toArray w)∧zer P T=some (.agg zs.toArray)
theorem Qjq (al:Nat→Prop)(gh:Gh)(w:World):∀zs:List Value,LVs al gh w (zs.map LV.val) zs
  | []=>rfl
  | z :: zs=>⟨z,zs,rfl,rfl,Qjq al gh w zs⟩
theorem Qpl {zs:List Value}{offs:List (Nat×Nat)}{parts:Array (Nat×Operand)}{css:List (Bool×List LV)}{ls:List LV}(hb:QtO P T offs zs)(hv:EvL A s (parts.toList.map (·.2)) css)(hok:∀c∈css,Q6 s.tab c.2=true)
    (hf:Qd5 offs (zs.map LV.val) ((parts.toList.map (·.1)).zip (css.map (·.2)))=some ls) (hn:Nat.blt d A.n=true):Does A P ⟨some d, .build T parts,ty,pos,af,g⟩ s (s.put d (ag ls)):=
  Qg rfl hn fun gh a w r=>by
    obtain ⟨fs,h1,h2,h3⟩:=hb
    have hvs:=hv.cms r
    have hlen:=hvs.len
    generalize hV:(parts.toList.map (·.2)).map a.eval=vs at*
    have hpl:parts.toList.length=vs.length:=by rw[← hV]; simp
    have hcells:∀(cs:List (Bool×List LV)) (vs:List Value),CmsR s.tab.al gh w cs vs→(∀c∈cs,Q6 s.tab c.2=true)→∀(i:Nat) (c:Bool×List LV) (v:Value),cs[i]? =some c→vs[i]? =some v→∃us,v.cells=us.toArray∧LVs s.tab.al gh w c.2 us:=by
      intro cs
      induction cs with
      | nil=>intro vs _ _ i c v h; simp at h
      | cons c cs ih=>
        rintro vs ⟨v,vs',rfl,k1,k2⟩ hok i c' v' hc hv'
        cases i with
        | zero=>
          simp at hc hv'
          subst hc; subst hv'
          have hc:=hok c (az ..)
          obtain ⟨b,ls⟩:=c
          exact CmR.cells k1 fun hb=>by
            subst hb
            obtain ⟨l,rfl,q1⟩:=k1
            simp only[Q6,cU] at hc
            obtain ⟨h3,h4⟩:=Wc hc
            exact q1.oneCell h4 h3 fun q ⟨e,he⟩=>(r.cx.en q e he).oneCell
        | succ i=>exact ih vs' k2 (fun c hc=>hok c (ax _ hc)) i c' v' (by simpa using hc) (by simpa using hv')
    have hzl:((parts.toList.map (·.1)).zip (css.map (·.2))).length=vs.length:=by rw[List.length_zip,aP,aP]; omega
    obtain ⟨cur',k1,k2⟩:=JM (al:=s.tab.al) (gh:=gh) (w:=w) (cur:=zs.toArray) hf hzl.symm (fun i p v hp hv'=>by
      have hi:=List.getElem?_zip_eq_some.1 hp
      have h5:=hi.2
      rw[bq] at h5
      obtain ⟨c',h6,h7⟩:=cw.1 h5
      rw[← h7]
      exact hcells css vs hvs hok i c' v h6 hv') (by simpa using Qjq s.tab.al gh w zs)
    refine ⟨.agg cur', ?_,cur'.toList,by simp,k2⟩
    have hz:(((parts.toList.map (·.1)).zip (css.map (·.2))).map (·.1)).zip vs=(parts.map fun p=>(p.1,a.eval p.2)).toList:=by
      rw[List.map_fst_zip (by rw[aP,aP]; omega),cW,← hV,dn]
      generalize parts.toList=pl
      induction pl with
      | nil=>rfl
      | cons p ps ih=>simp[ih]
    rw[hz] at k1
    simp only[execOp,Instr.build,aw,XT h3,aH,run_underlying h1,h2,Value.cells]
    rw[k1]
    simp
end
theorem Qlc {A:Amb}{P:Program}{s:St}{fn:Func}(hr:fn.results= #[]):Res A P fn s (.tup []):=fun gh a w g=>by
  refine ⟨.tuple #[], ?_,[],rfl,rfl⟩
  rw[Wy,hr]; simp[XP,di]
section
variable {A:Amb}{P:Program}{s:St}{x y z:Operand}{d:Nat}{T T' ty:TypeId}{pos:String}{af:Array Edge}{g:Option (Nat×Bool)}
variable {E:TypeId}{e:Ty}{xs:List e.Den}{q lo n:Nat}
theorem OwnL.takeW {w:World}(hf:e.flat=true):∀{xs:List e.Den} {fp:List Nat} {cs:List Value} (k:Nat),OwnL (Own e w) fp cs xs→OwnL (Own e w) [] (cs.take (k*e.wd)) (xs.take k)
  | [],_,_,k,h=>by rw[h.2]; simp[OwnL]
  | x :: xs,_,_,0,_=>by simp[OwnL]
  | x :: xs,_,_,k+1,⟨f1,f2,c1,c2,h1,h2,h3,h4⟩=>by
    have hl:=h3.len
    have hf1:=WM hf h3
    subst hf1
    rw[h2]
    refine ⟨[],[],c1,c2.take (k*e.wd),rfl, ?_,h3,OwnL.takeW hf k h4⟩
    rw[Nat.succ_mul,Nat.add_comm,← hl,List.take_length_add_append]
theorem KH (t i:Nat)(hi:lk s.tm i=some (lf (.sub q e.wd 0 n)))(he:s.tab.ent q=some (.arr E e xs))(hn:n≤xs.length)(hf:e.flat=true)(hfr:Fresh s t)(hk0:A.k0≤t):
    Wk A s ⟨(i,lf (.ref t)) :: s.tm,(t,some (.arr E e (xs.take n))) :: (q,none) :: s.tab⟩:=fun a w r=>by
  obtain ⟨gh,r⟩:=r
  obtain ⟨v,h1,l,h2,h3⟩:=r.tm i _ hi
  simp only[aI,and_true] at h2
  subst h2
  obtain ⟨B,m,c,q1,q2⟩:=h3 ⟨_,he⟩
  have hO:Own (.sl E e) w (gh.f q) [gh.h q] xs:=r.cx.en q _ he
  have hv:v= .slice B n c:=by
    rw[q2]
    congr 1
    split
    · rfl
    · cases B with
      | none=>rfl
      | some b=>cases b; simp[Addr.add]
  have hO':Own (.sl E e) w (gh.f q) [v] (xs.take n):=by
    rcases hO with ⟨k1,k2,k3⟩ | ⟨b,cap,cur,fps,p2,p3,p4,p5,p6,p7,p8⟩
    · subst k3
      simp only[aI,and_true] at k2
      rw[q1] at k2
      simp only[Value.slice.injEq] at k2
      obtain ⟨rfl,rfl,rfl⟩:=k2
      have:n=0:=by simpa using hn
      subst this
      exact .inl ⟨k1,by rw[hv],by simp⟩
    · have hfp := p8.fp0 hf
      subst hfp
      simp only[aI,and_true] at p3
      rw[q1] at p3
      simp only[Value.slice.injEq] at p3
      obtain ⟨rfl,rfl,rfl⟩:=p3
      have hl:(xs.take n).length=n:=by rw[aq]; omega
      refine .inr ⟨b,c,cur,[],p2,by rw[hv,hl],p4,by rw[hl]; omega,p6,p7, ?_⟩
      rw[hl]
      have:=p8.takeW hf n
      rwa [List.take_take,cu (bV _ hn)] at this
  have r2:=r.make t hfr hk0 [q] (fun q' h=>by rw[aC.1 h]; exact ⟨_,he⟩) (ZE w) (fun _ _ _=>rfl) hO' (r.cx.nd q ⟨_,he⟩) (fun g hg=> .inr ⟨q,aC.2 rfl,hg⟩)
  exact ⟨_,r2.know h1 (pv:=lf (.ref t)) ⟨_,rfl,fun _=>by simp⟩⟩
theorem Qcd (z:Array Value)(n:Nat):Builtin.zeroCells z n=madeCells z (n*z.size):=rfl
theorem Uz {Tl E':TypeId}{zv:Value}(hx:Evl A s x (.sub q e.wd lo n))(he:s.tab.ent q=some (.arr E e xs))(hb:lo+n=xs.length)(hT:P.underlying Tl=some (.slice E'))(hz:zer P E'=some zv)(hzc:zv.cells.toList=e.zeros)(hzo:e.zeros.all (·.oneCell')=true)(hf:e.flat=true):
    Does A P ⟨none, .call ⟨.builtin .clear, #[x], #[Tl]⟩,ty,pos,af,g⟩ s ⟨s.tm,(q,some (.arr E e (xs.take lo++List.replicate n e.zero))) :: s.tab⟩:=fun a w K Q r hK=>by
  obtain ⟨gh,r⟩:=r
  have hO:Own (.sl E e) w (gh.f q) [gh.h q] xs:=r.cx.en q _ he
  have hO0:=hO
  obtain ⟨B,m,c,q1,q2⟩:=hx gh a w r ⟨_,he⟩
  have hzl:e.zeros.length=e.wd:=(ZB e w).len
  have hzs:zv.cells=e.zeros.toArray:=by rw[← hzc]
  rcases Nat.eq_zero_or_pos n with hn0 | hn0
  · subst hn0
    have hxs:xs.take lo++List.replicate 0 e.zero=xs:=by rw[aU (by omega)]; simp
    have e0:(execOp a.eval ⟨none, .call ⟨.builtin .clear, #[x], #[Tl]⟩,ty,pos,af,g⟩).run P w= .ok (.value (.tuple #[])) w:=by
      simp only[execOp,resolve,invoke,builtin,q2,aw,b5,aH,dc,bg,d9]
      generalize (if c=lo then B else B.map (·.add (lo*e.wd)))=BB
      cases BB <;> simp[Builtin.clear_,run_underlying hT]
    unfold Oper.wp
    rw[e0,Oper.upon_value]
    refine hK _ _ ⟨gh,r.mod he (ZE w) (fun _ _ _=>rfl) ?_⟩
    rw[hxs]
    exact hO0
  · rcases hO with ⟨_, _, h⟩ | ⟨b, cap, cur, fps, p2, p3, p4, p5, p6, p7, p8⟩
    · subst h; simp at hb; omega
    have hfp:=p8.fp0 hf
    subst hfp
    simp only[aI,and_true] at p3
    rw[q1] at p3
    simp only[Value.slice.injEq] at p3
    obtain ⟨rfl,rfl,rfl⟩:=p3
    rw[if_neg (by omega)] at q2
    simp only[cM,Addr.add_lit,bn] at q2
    have hzz:(Builtin.zeroCells zv.cells n).toList=(List.replicate n e.zeros).flatten:=by
      have h2:=H7 e.zeros n (by rw[hzl]; exact XD e)
      rw[Qcd,hzs,List.size_toArray,h2]
    have hfl:((List.replicate n e.zeros).flatten).length=n*e.wd:=by simp[hzl]
    have hwd:=bV e.wd p5
    have hle:lo*e.wd+n*e.wd=xs.length*e.wd:=by rw[← hb,bD]
    have hst:=Ws (P:=P) (b:=b) (E:=E) ((List.replicate n e.zeros).flatten) (lo*e.wd) 0 w cur p4 (by rw[hfl,p7]; omega) (fun v hv=>by
      obtain ⟨l,hl,hv⟩:=List.mem_flatten.1 hv
      rw[cF hl] at hv
      exact aB.1 hzo v hv)
    rw[dk] at hst
    have e0:(execOp a.eval ⟨none, .call ⟨.builtin .clear, #[x], #[Tl]⟩,ty,pos,af,g⟩).run P w= .ok (.value (.tuple #[])) (Xs w b (lo*e.wd) ((List.replicate n e.zeros).flatten)):=by
      obtain ⟨n,rfl⟩:∃k,n=k+1:=⟨n - 1,by omega⟩
      simp only[execOp,resolve,invoke,builtin,q2,aw,b5,aH,dc,bg,d9]
      simp[Builtin.clear_,run_underlying hT,XT hz,hzz,hst]
    unfold Oper.wp
    rw[e0,Oper.upon_value]
    obtain ⟨cur',m1,m2,m3⟩:=Ww b E (0,0) ((List.replicate n e.zeros).flatten) w (lo*e.wd) cur p4 (by rw[hfl,p7]; omega)
    refine hK _ _ ⟨gh,r.mod he (Vj w b _ _) (fun g0 _ hg0=>Yp w b _ _ g0 fun h=>hg0 (by rw[p2,h]; simp)) ?_⟩
    have hl:(xs.take lo++List.replicate n e.zero).length=xs.length:=by simp; omega
    refine .inr ⟨b,c,cur',[],p2,by rw[q1,hl],m1,by omega,p6,by rw[m2]; exact p7, ?_⟩
    rw[hl]
    have hlist:cur'.toList.take (xs.length*e.wd)=(cur.toList.take (xs.length*e.wd)).take (lo*e.wd)++(List.replicate n e.zeros).flatten:=by
      have h9:=H6 (l:=cur.toList) (len:=xs.length*e.wd) (lo:=lo*e.wd) (cs:=(List.replicate n e.zeros).flatten) (by rw[hfl]; omega) (by simp; omega)
      rw[m3,h9,hfl,bE (by simp; omega),bF]
    rw[hlist]
    have keep:∀{cs:List Value} {zs:List e.Den},OwnL (Own e w) [] cs zs→OwnL (Own e (Xs w b (lo*e.wd) ((List.replicate n e.zeros).flatten))) [] cs zs:=fun h=>h.mono fun f c x hf' ho=>ho.keep fun g hg=>absurd (hf' g hg) (by simp)
    exact (keep (p8.takeW hf lo)).append (OwnL.zeros e _ n)
end
end Go.Proofs.YtfkmmpfdncopdaaGreat
namespace Go.Proofs.YtfkmmpfdncopdaaGreat
open Go.RowKit
set_option maxRecDepth 100000
theorem Qe1 {α:Type _}:∀{l:List (Nat×α)} {i:Nat} {x:α},lk l i=some x→(i,x)∈l
  | (j,y) :: l,i,x,h=>by
    rw[Y8] at h
    split at h
    · rename_i e; cases h; subst e; exact az ..
    · exact ax _ (Qe1 h)
noncomputable def tshT:List (Nat×Bool×Nat):=[(0,false,1),(2,false,1),(3,false,1),(4,false,1),(5,false,1),(6,false,1),(8,true,4),(9,false,1),(10,false,1),(11,false,1),(12,false,1),(14,true,2),(15,false,1),(16,false,1),(17,false,1),(19,true,1),(20,false,1),(22,false,1),(24,false,1),(25,false,1),(26,false,1),(28,true,3),(30,false,1),(35,false,1),(36,false,1),(40,false,1),(43,false,1),(47,true,2),(48,false,1),(51,false,1),(53,false,1),(57,false,1),(58,false,1),(62,false,1),(64,false,1),(66,false,1),(70,false,1),(72,false,1),(74,true,4),(75,false,1),(78,false,1),(80,true,2),(81,false,1),(83,true,5),(84,false,1),(87,false,1),(90,false,1),(91,false,1),(93,true,3),(99,false,1),(105,false,1),(108,false,1),(120,true,2),(122,true,3),(123,false,1),(128,false,1),(136,true,4),(137,false,1),(141,false,1),(149,true,2),(150,false,1),(152,false,1),(154,false,1),(156,true,4),(157,false,1),(160,false,1),(162,true,3),(164,true,4),(169,false,1),(171,true,5),(176,false,1),(178,true,2),(179,false,1),(184,true,3),(186,false,1),(195,false,1),(203,true,2),(207,false,1),(215,false,1),(221,false,1),(223,false,1),(225,false,1),(227,false,1),(228,false,1),(237,true,2),(245,true,6),(252,false,1),(254,false,1),(258,true,2),(262,false,1),(264,true,3),(268,false,1),(270,true,4),(272,false,1),(274,true,7),(279,false,1),(281,true,3),(282,false,1),(284,true,2),(286,false,1),(287,false,1),(301,false,1),(307,false,1),(308,false,1),(314,false,1),(321,false,1),(327,false,1),(328,false,1),(330,false,1),(332,false,1),(341,false,1),(345,false,1),(347,false,1),(352,false,1),(360,false,1),(361,false,1),(367,false,1),(369,false,1),(380,false,1)]
noncomputable def fldT:List (Nat×Nat):=[(512,0),(513,1),(514,2),(515,3),(896,0),(897,1),(1216,0),(1792,0),(1793,1),(1794,2),(3008,0),(3009,1),(4736,0),(4737,1),(4738,2),(4739,3),(5120,0),(5121,1),(5312,0),(5313,2),(5314,3),(5315,4),(5952,0),(5953,1),(5954,2),(7680,0),(7681,1),(7808,0),(7809,1),(7810,2),(8704,0),(8705,1),(8706,2),(8707,3),(9536,0),(9537,1),(9984,0),(9985,1),(9986,2),(9987,3),(10368,0),(10369,1),(10370,2),(10496,0),(10497,1),(10498,2),(10499,3),(10944,0),(11392,0),(11393,1),(11776,0),(11777,1),(11778,2),(12992,0),(12993,1),(15168,0),(15169,1),(15680,0),(15681,2),(15682,3),(15683,4),(15684,5),(16512,0),(16513,1),(16896,0),(16897,1),(16898,2),(17280,0),(17281,1),(17282,2),(17283,3),(17536,0),(17537,5),(17538,6),(17984,0),(17985,1),(17986,2),(18176,0),(18177,1)]
noncomputable def sliT:List (Nat×Nat):=[(22,5),(24,203),(25,9),(26,136),(35,3),(57,122),(72,164),(78,237),(81,120),(123,35),(128,4),(150,149),(157,156),(176,184),(195,258),(215,281),(328,81)]
theorem QqH:(tshT.all fun p=>decide (tsh Tryz.prog p.1=some p.2))=true:=by kernel_rfl
theorem QqF:(fldT.all fun p=>decide (fld Tryz.prog (p.1 / 64) (p.1 % 64)=some p.2))=true:=by kernel_rfl
noncomputable def strT:List Nat:=[9,10,11]
noncomputable def strB (T:Nat):Bool:=match Tryz.prog.underlying T with
  | some .string=>true
  | _=>false
theorem Qqr:(strT.all strB)=true:=by kernel_rfl
theorem QsH {T:TypeId}(h:inB T strT=true):Tryz.prog.underlying T=some .string:=by
  have h1:=aB.1 Qqr _ (Qez.1 h)
  unfold strB at h1
  split at h1
  · assumption
  · cases h1
noncomputable def sliB (T E:Nat):Bool:=match Tryz.prog.underlying T with
  | some (.slice E')=>Nat.beq E' E
  | _=>false
theorem QqP:(sliT.all fun p=>sliB p.1 p.2)=true:=by kernel_rfl
theorem Vp {T:TypeId}{b:Bool}{n:Nat}(h:lk tshT T=some (b,n)):tsh Tryz.prog T=some (b,n):=ae (aB.1 QqH _ (Qe1 h))
theorem QjK {T f o:Nat}(h:lk fldT (Nat.add (Nat.mul 64 T) f)=some o)(hf:Nat.blt f 64=true):fld Tryz.prog T f=some o:=by
  have h1:=ae (aB.1 QqF _ (Qe1 h))
  have hf:=aG hf
  rwa [show Nat.add (Nat.mul 64 T) f=64*T+f from rfl,show (64*T+f) / 64=T by omega,show (64*T+f) % 64=f by omega] at h1
theorem QeL {T E:TypeId}(h:lk sliT T=some E):Tryz.prog.underlying T=some (.slice E):=by
  have h1:=aB.1 QqP _ (Qe1 h)
  unfold sliB at h1
  split at h1
  · rename_i h2; rw[h2,aX h1]
  · cases h1
section
variable {A:Amb}{s s':St}{o:Oper}
theorem xlI {d:Nat}{x:Operand}{T ty:TypeId}{pos:String}{af:Array Edge}{g:Option (Nat×Bool)}{q wd i j n:Nat}{E:TypeId}{e t:Ty}{xs:List e.Den}{z:e.Den}{y':t.Den}(hx:Evl A s x (.ept q wd i j))(he:s.tab.ent q=some (.arr E e xs))(hw:wd=e.wd)(hz:xs[i]? =some z)(hf:e.flat=true)(hT:tsh Tryz.prog T=some (false,n))(hl:(leaves e z)[j]? =some (.dat t y'))(hn:Nat.blt d A.n=true):Does A Tryz.prog ⟨some d, .load T x,ty,pos,af,g⟩ s (s.put d (lf (.dat t y'))):=by
  subst hw; exact Z7 hx he hz hf hT hl hn
theorem Qts {d:Nat}{x:Operand}{T ty:TypeId}{pos:String}{af:Array Edge}{g:Option (Nat×Bool)}{q wd i j n:Nat}{E:TypeId}{e:Ty}{xs:List e.Den}{z:e.Den}(hx:Evl A s x (.ept q wd i j))(he:s.tab.ent q=some (.arr E e xs))(hw:wd=e.wd)(hz:xs[i]? =some z)(hf:e.flat=true)(hT:tsh Tryz.prog T=some (true,n))(hl:Nat.ble (j+n) e.wd=true)(hn:Nat.blt d A.n=true):Does A Tryz.prog ⟨some d, .load T x,ty,pos,af,g⟩ s (s.put d (ag (((leaves e z).drop j).take n))):=by
  subst hw; exact QfK hx he hz hf hT hl hn
theorem D_ (h:Does A Tryz.prog o s s':=by
    first
    | ((with_reducible apply KR); exact Qa rfl; rfl; exact Vp rfl; rfl; rfl)
    | ((with_reducible apply Ux); exact Qa rfl; exact QjK rfl rfl; rfl; rfl)
    | ((with_reducible apply U8); rfl; rfl)
    | ((with_reducible apply WK); rfl; rfl)
    | ((with_reducible apply JW); rfl; rfl; rfl)
    | ((with_reducible apply UP); exact Qa rfl; rfl; exact Vp rfl; rfl; rfl)
    | ((with_reducible apply QbA); (first | exact Qo rfl | exact Zn | exact Evl.str rfl | exact Evl.val); rfl)
    | ((with_reducible apply Jo); (first | exact Qo rfl | exact Zn | exact Evl.str rfl | exact Evl.val); rfl)
    | ((with_reducible apply QfO); (first | exact Qa rfl | exact Qo rfl); (first | exact Qa rfl | exact Qo rfl); rfl)
    | ((with_reducible apply QfA); (first | exact Qa rfl | exact Qo rfl); (first | exact Qa rfl | exact Qo rfl); rfl)
    | ((with_reducible apply QfF); (first | exact Qa rfl | exact Qo rfl); (first | exact Qa rfl | exact Qo rfl); rfl)
    | ((with_reducible apply QfQ); (first | exact Qa rfl | exact Qo rfl); (first | exact Qa rfl | exact Qo rfl); rfl)
    | ((with_reducible apply QfG); (first | exact Qa rfl | exact Qo rfl); (first | exact Qa rfl | exact Qo rfl); rfl)
    | ((with_reducible apply Qfc); (first | exact Qa rfl | exact Qo rfl); (first | exact Qa rfl | exact Qo rfl); rfl)
    | ((with_reducible apply Wv); (first | exact Qa rfl | exact Qo rfl); (first | exact Qa rfl | exact Qo rfl); rfl; omega)
    | ((with_reducible apply WF); (first | exact Qa rfl | exact Qo rfl); (first | exact Qa rfl | exact Qo rfl); rfl; omega)
    | ((with_reducible apply QfU); exact Qa rfl; rfl)
    | ((with_reducible apply Qcc); exact Qa rfl; (first | exact Qm rfl | exact Evl.ev Zn | exact Evl.ev (Qo rfl)); rfl)
    | ((with_reducible apply Qcb); exact Qa rfl; (first | exact Qm rfl | exact Evl.ev Zn | exact Evl.ev (Qo rfl)); rfl)
    | ((with_reducible apply Qco); exact Qa rfl; exact Vp rfl; rfl; rfl)
    | ((with_reducible apply Qaf); exact Qa rfl; exact Vp rfl; rfl; rfl)
    | ((with_reducible apply H3); exact Qa rfl; exact QjK rfl rfl; rfl)
    | ((with_reducible apply Ym); exact Qa rfl; exact QjK rfl rfl; rfl; rfl)
    | ((with_reducible apply Ho); exact Qa rfl; rfl; rfl)
    | ((with_reducible apply Qj0); exact Qa rfl; rfl; rfl)
    | ((with_reducible apply QdB); exact Qa rfl; rfl; rfl; exact QeL rfl)
    | ((with_reducible apply Qgp); exact Qa rfl; rfl; exact QeL rfl)
    | ((with_reducible apply UW); (first | exact Qa rfl | exact Evl.str rfl); (first | exact Qa rfl | exact Evl.str rfl); rfl)
    | ((with_reducible apply QdA); (first | exact Qa rfl | exact Evl.str rfl); (first | exact Qa rfl | exact Evl.str rfl); rfl)
    | ((with_reducible apply Zf); exact Qa rfl; rfl; (first | exact Qm rfl | exact Evl.ev (Qo rfl) | exact Evl.ev Zn | exact Evl.ev (Evl.str rfl) | exact Evl.ev (QG _ rfl)); rfl; exact Vp rfl; rfl)
    | ((with_reducible apply H9); exact Qa rfl; (first | exact Qa rfl | exact Qo rfl); exact QeL rfl; exact Vp rfl; rfl; omega; assumption)
    | ((with_reducible apply Qae); (first | exact Qa rfl | exact Evl.str rfl); (first | exact Qa rfl | exact Qo rfl); rfl; exact QsH rfl; omega; assumption)
    | ((with_reducible apply ZL); exact Qa rfl; rfl; (first | exact Qa rfl | exact Qo rfl); exact QeL rfl; exact Vp rfl; rfl; omega; (first | omega | (simp only[aD]; omega)))
    | ((with_reducible apply xlI); exact Qa rfl; rfl; rfl; assumption; rfl; exact Vp rfl; rfl; rfl)
    | ((with_reducible apply Qts); exact Qa rfl; rfl; rfl; assumption; rfl; exact Vp rfl; rfl; rfl)
    | ((with_reducible apply Zm); exact Qa rfl; exact Qa rfl; rfl)
    | ((with_reducible apply QD); exact Qa rfl; exact Qa rfl; rfl)):Does A Tryz.prog o s s':=h
theorem xbx {T ty:TypeId}{d:Nat}{x:Operand}{pos:String}{af:Array Edge}{ops:Array Oper}{l:List Oper}{Q:Exit→St→Prop}(t:Nat){b:Bool}{ls:List LV}(k:AL A Tryz.prog ops l Q (s.new d t (.ptr t 0) (.box T ls)))(hx:Ev A s x (b,ls):=by first | exact Qm rfl | exact Evl.ev (Qo rfl) | exact Evl.ev Zn | exact Evl.ev (Evl.str rfl))(hk:Q6 s.tab ls=true:=by rfl)(hn:Nat.blt d A.n=true:=by rfl)(hfr:Fresh s t:=by exact Fresh.of rfl)(hk0:A.k0≤t:=by exact nlr rfl):AL A Tryz.prog ops (⟨some d, .box T x,ty,pos,af,none⟩ :: l) Q s:=lc (QlJ t hx hk hn hfr hk0) k
theorem xal {T ty:TypeId}{d:Nat}{pos:String}{af:Array Edge}{g:Option (Nat×Bool)}(k:Nat)(t:Ty){z:Value}(hz:zer Tryz.prog T=some z)(hzt:z.cells.toList=t.zeros:=by rfl)(hn:Nat.blt d A.n=true:=by rfl)(hfr:Fresh s k:=by exact Fresh.of rfl)(hk0:A.k0≤k:=by exact nlr rfl):Does A Tryz.prog ⟨some d, .alloc T,ty,pos,af,g⟩ s (s.new d k (.ptr k 0) (.box T t.zlv)):=KY k t hz hzt hn hfr hk0
theorem e1_ {i:Nat}{b:Bool}{ls:List LV}(h:lk s.tm i=some (.cm b ls):=by rfl):EvL A s [.tmp i] [(b,ls)]:=⟨_,_,rfl,Qm h,rfl⟩
theorem e2_ {i j:Nat}{b c:Bool}{ls ms:List LV}(h:lk s.tm i=some (.cm b ls):=by rfl)(k:lk s.tm j=some (.cm c ms):=by rfl):EvL A s [.tmp i, .tmp j] [(b,ls),(c,ms)]:=⟨_,_,rfl,Qm h,_,_,rfl,Qm k,rfl⟩
theorem w_ {G G':Prop}(k:G')(h:G'→G:=by
    first
    | ((with_reducible apply lm); rfl; rfl)
    | ((with_reducible apply lgn); rfl; rfl; rfl)
    | ((with_reducible apply lc); exact D_)
    | ((with_reducible apply lgy); rfl; rfl; exact D_)
    | (with_reducible exact Qon)
    | (with_reducible exact QrL)
    | (with_reducible exact ZS)
    | ((with_reducible apply QlY); exact Qa rfl)
    | ((with_reducible apply Qme); exact Qa rfl)
    | (with_reducible exact Qmh)
    | (with_reducible exact Qnp)
    | (with_reducible exact QdU)):G:=h k
end
def rlm:Nat→List Nat→List Nat
  | _,[]=>[]
  | b,r :: rs=>Nat.sub (Nat.sub b 1) r :: rlm (Nat.mul 2 b) rs
def QgY (l:List Oper)(plan:List Item)(deps:List (List Nat)):Bool:=Nat.beq l.length plan.length&&(QbJ l.toArray deps plan.length&&QbX plan deps&&JO l.toArray plan.length)
def ActsH (A:Amb)(P:Program)(l0:List Oper)(plan:List Item)(deps:List (List Nat))(s0:St):List Oper→List Item→Nat→Prop
  | o :: l,it :: p,i=>(∀s,At plan deps s0 i s→Acts A P l0.toArray o s (Jk s it))∧ActsH A P l0 plan deps s0 l p (i+1)
  | [],_,_=>QgY l0 plan deps=true
  | _ :: _,[],_=>QgY l0 plan deps=true
section
variable {A:Amb}{P:Program}{s s' s0:St}{Q:Exit→St→Prop}{l0 l:List Oper}{o:Oper}{it:Item}{p plan:List Item}{deps:List (List Nat)}{i:Nat}
theorem ActsH.to:∀{l:List Oper} {p:List Item} {i:Nat},ActsH A P l0 plan deps s0 l p i→ActsL A P l0.toArray plan deps s0 l p i∧QgY l0 plan deps=true
  | _ :: _,_ :: _,_,h=>⟨⟨h.1,(ActsH.to h.2).1⟩,(ActsH.to h.2).2⟩
  | [],_,_,h=>⟨trivial,h⟩
  | _ :: _,[],_,h=>⟨trivial,h⟩
theorem Qrr {q:Nat}(hs:At plan deps s0 i s)(h:(se plan deps s0 i q).isSome=true):(s.tab.ent q).isSome=true:=by
  obtain ⟨x,hx⟩:=b7.1 h
  rw[hs.n _ hx]; rfl
theorem DH_ (h:Does A Tryz.prog o s s':=by
    first
    | ((with_reducible apply Qcc); exact At.v ‹_› rfl; (first | exact At.w ‹_› rfl | exact Evl.ev Zn | exact Evl.ev (Qo rfl)); rfl)
    | ((with_reducible apply Qcb); exact At.v ‹_› rfl; (first | exact At.w ‹_› rfl | exact Evl.ev Zn | exact Evl.ev (Qo rfl)); rfl)
    | ((with_reducible apply KR); exact At.v ‹_› rfl; exact At.n ‹_› _ rfl; exact Vp rfl; rfl; rfl)
    | ((with_reducible apply UP); exact At.v ‹_› rfl; exact At.n ‹_› _ rfl; exact Vp rfl; rfl; rfl)
    | ((with_reducible apply U8); exact At.k ‹_› rfl; rfl)
    | ((with_reducible apply WK); exact At.k ‹_› rfl; rfl)
    | ((with_reducible apply JW); exact At.k ‹_› rfl; rfl; rfl)
    | ((with_reducible apply QbA); (first | exact Qo rfl | exact Zn | exact Evl.str rfl | exact Evl.val); rfl)
    | ((with_reducible apply Jo); (first | exact Qo rfl | exact Zn | exact Evl.str rfl | exact Evl.val); rfl)
    | ((with_reducible apply Qco); exact At.v ‹_› rfl; exact Vp rfl; rfl; rfl)
    | ((with_reducible apply Qaf); exact At.v ‹_› rfl; exact Vp rfl; rfl; rfl)
    | ((with_reducible apply H3); exact At.v ‹_› rfl; exact QjK rfl rfl; rfl)
    | ((with_reducible apply Qgp); exact At.v ‹_› rfl; rfl; exact QeL rfl)
    | ((with_reducible apply QdB); exact At.v ‹_› rfl; exact At.n ‹_› _ rfl; rfl; exact QeL rfl)
    | ((with_reducible apply QfO); (first | exact At.v ‹_› rfl | exact Qo rfl); (first | exact At.v ‹_› rfl | exact Qo rfl); rfl)
    | ((with_reducible apply QfA); (first | exact At.v ‹_› rfl | exact Qo rfl); (first | exact At.v ‹_› rfl | exact Qo rfl); rfl)
    | ((with_reducible apply QfF); (first | exact At.v ‹_› rfl | exact Qo rfl); (first | exact At.v ‹_› rfl | exact Qo rfl); rfl)
    | ((with_reducible apply QfQ); (first | exact At.v ‹_› rfl | exact Qo rfl); (first | exact At.v ‹_› rfl | exact Qo rfl); rfl)
    | ((with_reducible apply QfG); (first | exact At.v ‹_› rfl | exact Qo rfl); (first | exact At.v ‹_› rfl | exact Qo rfl); rfl)
    | ((with_reducible apply Qfc); (first | exact At.v ‹_› rfl | exact Qo rfl); (first | exact At.v ‹_› rfl | exact Qo rfl); rfl)
    | ((with_reducible apply Wv); (first | exact At.v ‹_› rfl | exact Qo rfl); (first | exact At.v ‹_› rfl | exact Qo rfl); rfl; omega)
    | ((with_reducible apply WF); (first | exact At.v ‹_› rfl | exact Qo rfl); (first | exact At.v ‹_› rfl | exact Qo rfl); rfl; omega)
    | ((with_reducible apply QfU); exact At.v ‹_› rfl; rfl)
    | ((with_reducible apply UW); (first | exact At.v ‹_› rfl | exact Evl.str rfl); (first | exact At.v ‹_› rfl | exact Evl.str rfl); rfl)
    | ((with_reducible apply QdA); (first | exact At.v ‹_› rfl | exact Evl.str rfl); (first | exact At.v ‹_› rfl | exact Evl.str rfl); rfl)
    | ((with_reducible apply Zm); exact At.v ‹_› rfl; exact At.v ‹_› rfl; rfl)
    | ((with_reducible apply QD); exact At.v ‹_› rfl; exact At.v ‹_› rfl; rfl)
    | ((with_reducible apply Ux); exact At.v ‹_› rfl; exact QjK rfl rfl; exact Qrr ‹_› rfl; rfl)
    | ((with_reducible apply Ho); exact At.v ‹_› rfl; exact Qrr ‹_› rfl; rfl)
    | ((with_reducible apply Qae); (first | exact At.v ‹_› rfl | exact Evl.str rfl); (first | exact At.v ‹_› rfl | exact Qo rfl); rfl; exact QsH rfl; omega; assumption)
    | ((with_reducible apply H9); exact At.v ‹_› rfl; (first | exact At.v ‹_› rfl | exact Qo rfl); exact QeL rfl; exact Vp rfl; rfl; omega; assumption)
    | ((with_reducible apply Zf); exact At.v ‹_› rfl; exact At.n ‹_› _ rfl; (first | exact At.w ‹_› rfl | exact Evl.ev (Qo rfl) | exact Evl.ev Zn); rfl; exact Vp rfl; rfl)):Does A Tryz.prog o s s':=h
theorem zz (h:∀s,At plan deps s0 i s→Acts A P l0.toArray o s (Jk s it))(k:ActsH A P l0 plan deps s0 l p (i+1)):ActsH A P l0 plan deps s0 (o :: l) (it :: p) i:=⟨h,k⟩
theorem z_ (k:ActsH A Tryz.prog l0 plan deps s0 l p (i+1))(h:∀s,At plan deps s0 i s→Acts A Tryz.prog l0.toArray o s (Jk s it):=by
    first
    | ((with_reducible apply dxm); rfl; rfl)
    | ((with_reducible apply dxf); exact QjK rfl rfl; rfl; rfl; rfl)
    | ((with_reducible apply dxl); exact Vp rfl; rfl; rfl; rfl; rfl; rfl)
    | ((with_reducible apply dxt); rfl; rfl)
    | ((with_reducible apply dxn); rfl; rfl; rfl)
    | ((with_reducible apply dxa); exact Vp rfl; rfl; rfl; rfl; rfl)
    | ((with_reducible apply dxo); rfl; rfl; rfl)
    | (intro _ _; (apply ac); exact DH_; rfl)
    | (intro _ _; (apply day); rfl; exact At.k ‹_› rfl; exact DH_; rfl)
    | (intro _ _; (apply QoS); rfl; rfl; exact At.k ‹_› rfl; rfl; rfl)):ActsH A Tryz.prog l0 plan deps s0 (o :: l) (it :: p) i:=⟨h,k⟩
theorem zN (h:QgY l0 plan deps=true:=by kernel_rfl):ActsH A Tryz.prog l0 plan deps s0 [] [] i:=h
theorem dW {id:Nat}{y:Code}(plan:List Item)(ms:List Nat)(H:ActsH A Tryz.prog l plan (dms (rlm 1 ms)) s0 l plan 0)(k:AC A Tryz.prog y Q (stD plan s0 fun _=>true)):AC A Tryz.prog (.seq (.region id l.toArray true) y) Q s0:=by
  obtain ⟨h1,h2⟩:=H.to
  rw[QgY,aL] at h2
  exact dw plan _ mixed (aX h2.1) h2.2 h1 k
theorem dV {id:Nat}(plan:List Item)(ms:List Nat)(H:ActsH A Tryz.prog l plan (dms (rlm 1 ms)) s0 l plan 0)(k:Q .normal (stD plan s0 fun _=>true)):AC A Tryz.prog (.region id l.toArray true) Q s0:=by
  obtain ⟨h1,h2⟩:=H.to
  rw[QgY,aL] at h2
  exact dv plan _ mixed (aX h2.1) h2.2 h1 k
theorem dZ {id:Nat}{y:Code}{Q':Exit→St→Prop}(plan:List Item)(ms:List Nat)(H:ActsH A Tryz.prog l plan (dms (rlm 1 ms)) s0 l plan 0)(k:AC A Tryz.prog y Q' (stD plan s0 fun _=>true)):AC A Tryz.prog (.region id l.toArray true) (Kv (AC A Tryz.prog y Q') Q) s0:=by
  obtain ⟨h1,h2⟩:=H.to
  rw[QgY,aL] at h2
  exact dz plan _ mixed (aX h2.1) h2.2 h1 k
end
section
variable {A:Amb}{s:St}{f:FuncId}{xs:List Operand}{tys:Array TypeId}{args:List (Bool×List LV)}{d k:Nat}{ty T:TypeId}{pos:String}{af:Array Edge}{g:Option (Nat×Bool)}{pv:PV}{U U':Tab}{x y:Operand}
theorem evN:EvL A s [] []:=rfl
theorem evC {c:Bool×List LV}{cs:List (Bool×List LV)}(h:Ev A s x c)(k:EvL A s xs cs):EvL A s (x :: xs) (c :: cs):=⟨_,_,rfl,h,k⟩
theorem ebN:EvLB A s [] []:=rfl
theorem ebC {c:Bool×List LV}{cs:List (Bool×List LV)}(h:EvB A s x c)(k:EvLB A s xs cs):EvLB A s (x :: xs) (c :: cs):=⟨_,_,rfl,h,k⟩
theorem abN {e:Ty}:AbsL U e [] [] []:=⟨rfl,rfl⟩
theorem abC {e:Ty}{c:Bool×List LV}{cs:List (Bool×List LV)}{z:e.Den}{zs:List e.Den}{u1 u2:List Nat}(h:Abs U e c.2 z u1)(k:AbsL U e cs zs u2):AbsL U e (c :: cs) (z :: zs) (u1++u2):=⟨_,_,_,_,rfl,h,k,rfl⟩
theorem dK (hc:FC Tryz.prog f args [] 0 (QH pv))(hE:Qe Tryz.prog f)(ha:EvL A s xs args:=by repeat' first | exact evN | exact Qm rfl | exact At.w ‹_› rfl | exact Evl.ev (Qo rfl) | exact Evl.ev Zn | exact Evl.ev (Evl.str rfl) | apply evC)(ht:pv.tags=[]:=by rfl)(hn:Nat.blt d A.n=true:=by rfl):Does A Tryz.prog ⟨some d, .call ⟨.value (.func f),xs.toArray,tys⟩,ty,pos,af,g⟩ s (s.put d pv):=U3 hc hE ha ht hn
theorem dB_ (hc:FC Tryz.prog f args [] 0 (QH pv))(hE:Qe Tryz.prog f)(ha:EvLB A s xs args:=by repeat' first | exact ebN | exact Ev.b (Qm rfl) | exact Ev.b (At.w ‹_› rfl) | exact Ev.b (Evl.ev (Qo rfl)) | exact Ev.b (Evl.ev Zn) | exact Ev.b (Evl.ev (Evl.str rfl)) | exact Qex (Qa rfl) rfl | exact Qex (At.v ‹_› rfl) (At.n ‹_› _ rfl) | apply ebC)(ht:pv.tags=[]:=by rfl)(hf:pv.fl=true:=by rfl)(hn:Nat.blt d A.n=true:=by rfl):Does A Tryz.prog ⟨some d, .call ⟨.value (.func f),xs.toArray,tys⟩,ty,pos,af,g⟩ s (s.put d pv):=VW hc hE ha ht hf hn
theorem dO (t:Nat){E:TypeId}{e:Ty}{zs:List e.Den}(hc:FC Tryz.prog f args [] 0 (WC E e zs))(hE:Qe Tryz.prog f)(ha:EvL A s xs args:=by repeat' first | exact evN | exact Qm rfl | exact At.w ‹_› rfl | exact Evl.ev (Qo rfl) | exact Evl.ev Zn | exact Evl.ev (Evl.str rfl) | apply evC)(hn:Nat.blt d A.n=true:=by rfl)(hfr:Fresh s t:=by first | exact Fresh.of rfl | exact At.fr ‹_› _ rfl)(hk0:A.k0≤t:=by exact nlr rfl):Does A Tryz.prog ⟨some d, .call ⟨.value (.func f),xs.toArray,tys⟩,ty,pos,af,g⟩ s (s.mk_ d t [] E e zs):=QgK t hc hE ha hn hfr hk0
theorem dOB (t:Nat){E:TypeId}{e:Ty}{zs:List e.Den}(hc:FC Tryz.prog f args [] 0 (WC E e zs))(hE:Qe Tryz.prog f)(ha:EvLB A s xs args:=by repeat' first | exact ebN | exact Ev.b (Qm rfl) | exact Ev.b (At.w ‹_› rfl) | exact Ev.b (Evl.ev (Qo rfl)) | exact Ev.b (Evl.ev Zn) | exact Ev.b (Evl.ev (Evl.str rfl)) | exact Qex (Qa rfl) rfl | exact Qex (At.v ‹_› rfl) (At.n ‹_› _ rfl) | apply ebC)(hn:Nat.blt d A.n=true:=by rfl)(hfr:Fresh s t:=by first | exact Fresh.of rfl | exact At.fr ‹_› _ rfl)(hk0:A.k0≤t:=by exact nlr rfl):Does A Tryz.prog ⟨some d, .call ⟨.value (.func f),xs.toArray,tys⟩,ty,pos,af,g⟩ s (s.mk_ d t [] E e zs):=Qab t hc hE ha hn hfr hk0
theorem dG (n:Nat)(hc:FC Tryz.prog f args [] 0 (Is pv U))(hE:Qe Tryz.prog f)(ha:EvL A s xs args:=by repeat' first | exact evN | exact Qm rfl | exact At.w ‹_› rfl | exact Evl.ev (Qo rfl) | exact Evl.ev Zn | exact Evl.ev (Evl.str rfl) | apply evC)(hcl:Yd pv U=true:=by rfl)(hn:Nat.blt d A.n=true:=by rfl)(hfr:FrL s n (Zz U):=by repeat' first | exact trivial | exact Fresh.of rfl | exact At.fr ‹_› _ rfl | apply And.intro)(hk0:A.k0≤n:=by exact nlr rfl):Does A Tryz.prog ⟨some d, .call ⟨.value (.func f),xs.toArray,tys⟩,ty,pos,af,g⟩ s (s.back d n pv U):=KF n hc hE ha hcl hn hfr hk0
theorem dP (n:Nat)(ρ:List (Nat×Nat))(hc:FC Tryz.prog f args U k (Is pv U'))(hE:Qe Tryz.prog f)(ha:EvL A s xs (args.map fun c=>(c.1,c.2.map (LV.ren (rn ρ)))):=by repeat' first | exact evN | exact Qm rfl | exact At.w ‹_› rfl | exact Evl.ev (Qo rfl) | exact Evl.ev Zn | exact Evl.ev (Evl.str rfl) | apply evC)(hT:HasE s ρ U:=by repeat' first | exact rfl | exact trivial | exact At.n ‹_› _ rfl | apply And.intro)(hB:(XY (U.map fun p=>rn ρ p.1)&&Yd pv U'&&XY (U'.map fun p=>sg ρ k n p.1)&&Qfu U U' k&&Nat.blt d A.n)=true:=by rfl)(hfr:FrK s n k (Zz U'):=by repeat' first | exact trivial | exact Fresh.of rfl | exact At.fr ‹_› _ rfl | apply And.intro)(hk0:A.k0≤n:=by exact nlr rfl):Does A Tryz.prog ⟨some d, .call ⟨.value (.func f),xs.toArray,tys⟩,ty,pos,af,g⟩ s (s.backP d (sg ρ k n) (U.map fun p=>rn ρ p.1) pv U'):=KU n ρ hc hE ha hT hB hfr hk0
theorem dA {q q2:Nat}{E:TypeId}{e:Ty}{us ys:List e.Den}(t:Nat)(hE:WG Tryz.prog E e.wd=true)(hx:Evl A s x (.ref q):=by first | exact Qa rfl | exact At.v ‹_› rfl)(he:s.tab.ent q=some (.arr E e us):=by first | exact rfl | exact At.n ‹_› _ rfl)(hy:Evl A s y (.ref q2):=by first | exact Qa rfl | exact At.v ‹_› rfl)(he2:s.tab.ent q2=some (.arr E e ys):=by first | exact rfl | exact At.n ‹_› _ rfl)(hne:Nat.beq q q2=false:=by rfl)(hT:Tryz.prog.underlying T=some (.slice E):=by exact QeL rfl)(hb:us.length+ys.length≤1073741824:=by first | omega | (simp only[ai,aP,aq,au,aF]; omega) | (simp only[ai,bd,aq,au,aF]; omega))(hn:Nat.blt d A.n=true:=by rfl)(hfr:Fresh s t:=by first | exact Fresh.of rfl | exact At.fr ‹_› _ rfl)(hk0:A.k0≤t:=by exact nlr rfl):Does A Tryz.prog ⟨some d, .call {callee:= .builtin .append,args:= #[x,y],argTypes:= #[T,T]},ty,pos,af,g⟩ s (s.mk_ d t [q,q2] E e (us++ys)):=Qfd t hx he hy he2 hne hT hE hb hn hfr hk0
theorem dBs (t:Nat){E:TypeId}{e:Ty}{n:Nat}{parts:Array (Nat×Operand)}{css:List (Bool×List LV)}{us:List e.Den}{used:List Nat}{bb:Bool}{z:Value}(hz:zer Tryz.prog E=some z)(hT:Tryz.prog.underlying T=some (.slice E):=by exact QeL rfl)(hE:tsh Tryz.prog E=some (bb,e.wd):=by exact Vp rfl)(hpn:parts.toList.map (·.1)=List.range n:=by rfl)(hv:EvL A s (parts.toList.map (·.2)) css:=by repeat' first | exact evN | exact Qm rfl | exact At.w ‹_› rfl | exact Evl.ev (Qo rfl) | exact Evl.ev Zn | exact Evl.ev (Evl.str rfl) | apply evC)(hok:∀c∈css,Q6 s.tab c.2=true:=by exact aB.1 rfl)(hab:AbsL s.tab e css us used:=by repeat' first | exact abN | exact ⟨rfl,rfl⟩ | apply abC)(hun:used.Nodup:=by decide)(hsz:Nat.ble (n*e.wd) 16777216=true:=by rfl)(hn:Nat.blt d A.n=true:=by rfl)(hfr:Fresh s t:=by first | exact Fresh.of rfl | exact At.fr ‹_› _ rfl)(hk0:A.k0≤t:=by exact nlr rfl):Does A Tryz.prog ⟨some d, .buildSlice T n parts,ty,pos,af,g⟩ s (s.mk_ d t used E e us):=X7 t hT hE hz hpn hv hok hab hun hsz hn hfr hk0
end
section
variable {A:Amb}{s s1:St}{Q:Exit→St→Prop}{ops:Array Oper}{l:List Oper}{c x y:Code}{fn:Func}{k:Nat}{O O':PV→Tab→Prop}{pv pv0:PV}{T:Tab}
theorem alL (t:Nat){E:TypeId}{e:Ty}{u:List e.Den}(k:u.length≤9223372036854775807→AL A Tryz.prog ops l Q s)(h:Evl A s (.tmp t) (.dat (.sl E e) u):=by exact Qa rfl):AL A Tryz.prog ops l Q s:=AL.fact (Ql3 h) k
theorem alS (t:Nat){u:ByteArray}(k:u.size≤9223372036854775807→AL A Tryz.prog ops l Q s)(h:Evl A s (.tmp t) (dS u):=by exact Qa rfl):AL A Tryz.prog ops l Q s:=AL.fact (Qko h) k
theorem alI (t:Nat){n:Int}(k: -9223372036854775808≤n∧n≤9223372036854775807→AL A Tryz.prog ops l Q s)(h:Evl A s (.tmp t) (dI n):=by exact Qa rfl):AL A Tryz.prog ops l Q s:=AL.fact (Qga h) k
theorem acI (t:Nat){n:Int}(k: -9223372036854775808≤n∧n≤9223372036854775807→AC A Tryz.prog c Q s)(h:Evl A s (.tmp t) (dI n):=by exact Qa rfl):AC A Tryz.prog c Q s:=AC.fact (Qga h) k
theorem acG (t i:Nat){ls:List LV}{n:Int}(k: -9223372036854775808≤n∧n≤9223372036854775807→AC A Tryz.prog c Q s)(h:Ev A s (.tmp t) (true,ls):=by exact Qm rfl)(hi:ls[i]? =some (dI n):=by rfl):AC A Tryz.prog c Q s:=AC.fact (Qn7 h hi) k
theorem cd_ {z:Operand}{p:Prop}{hd:Decidable p}(hf: @decide p hd=false→¬p→AC A Tryz.prog y Q s)(ht: @decide p hd=true→p→AC A Tryz.prog x Q s)(hc:Evl A s z (dB (@decide p hd)):=by exact Qa rfl):AC A Tryz.prog (.cond z x y) Q s:=J2 hc (fun h=>ht h (ae h)) fun h=>hf h (ab h)
theorem cn_ {z:Operand}{p:Prop}{hd:Decidable p}(hf:(!@decide p hd)=false→p→AC A Tryz.prog y Q s)(ht:(!@decide p hd)=true→¬p→AC A Tryz.prog x Q s)(hc:Evl A s z (dB (!@decide p hd)):=by exact Qa rfl):AC A Tryz.prog (.cond z x y) Q s:=J2 hc (fun h=>ht h (QS h)) fun h=>hf h (QA h)
theorem cb_ {z:Operand}{b:Bool}(hf:b=false→AC A Tryz.prog y Q s)(ht:b=true→AC A Tryz.prog x Q s)(hc:Evl A s z (dB b):=by exact Qa rfl):AC A Tryz.prog (.cond z x y) Q s:=J2 hc ht hf
theorem rs_ {r:ResultVar}{d:Bool×List LV}(h:Rs A Tryz.prog s r d:=by first | exact Xd rfl | exact QK rfl rfl (Vp rfl) rfl | exact QmN rfl rfl (Vp rfl)):Rs A Tryz.prog s r d:=h
theorem re_ (h:Res A Tryz.prog fn s pv:=by first | exact Res.one rfl rs_ | exact Ys rfl rs_ rs_ | exact QjU rfl rs_ rs_ rs_ | exact Qlz rfl rs_ rs_ rs_ rs_ | exact Qlc rfl):Res A Tryz.prog fn s pv:=h
theorem fe_ (hO:O=QH pv)(h:Res A Tryz.prog fn s pv:=by exact re_)(ht:pv.tags=[]:=by rfl):fin A Tryz.prog fn (K4 O k) .ret s:=by subst hO; exact VA h rfl ht
theorem fqI {u v:Int}(hO:O=QH (lf (dI v)))(e:u=v)(h:Res A Tryz.prog fn s (lf (dI u)):=by exact re_):fin A Tryz.prog fn (K4 O k) .ret s:=by subst hO; subst e; exact VA h rfl rfl
theorem fqB {u v:Bool}(hO:O=QH (lf (dB v)))(e:u=v)(h:Res A Tryz.prog fn s (lf (dB u)):=by exact re_):fin A Tryz.prog fn (K4 O k) .ret s:=by subst hO; subst e; exact VA h rfl rfl
theorem fqS {u v:ByteArray}(hO:O=QH (lf (dS v)))(e:u=v)(h:Res A Tryz.prog fn s (lf (dS u)):=by exact re_):fin A Tryz.prog fn (K4 O k) .ret s:=by subst hO; subst e; exact VA h rfl rfl
theorem fq_ {t:Ty}{u v:t.Den}(hO:O=QH (lf (.dat t v)))(e:u=v)(h:Res A Tryz.prog fn s (lf (.dat t u)):=by exact re_):fin A Tryz.prog fn (K4 O k) .ret s:=by subst hO; subst e; exact VA h rfl rfl
theorem fr_ (hO:O=QH pv)(h:Res A Tryz.prog fn s pv0:=by exact re_)(e:pv0=pv)(ht:pv.tags=[]:=by rfl):fin A Tryz.prog fn (K4 O k) .ret s:=by subst hO; exact VA h e ht
theorem fo_ {q:Nat}{E:TypeId}{e:Ty}{u v:List e.Den}(hO:O=WC E e v)(hx:u=v)(h:Res A Tryz.prog fn s (lf (.ref q)):=by exact re_)(he:s.tab.ent q=some (.arr E e u):=by rfl):fin A Tryz.prog fn (K4 O 0) .ret s:=by subst hO; exact QnD h he hx
theorem fi_ (ρ:List (Nat×Nat))(hO:O=Is pv T)(h2:HasE ⟨[],s.tab⟩ ρ T)(h1:Res A Tryz.prog fn s pv0:=by exact re_)(h0:pv0=pv.ren (rn ρ):=by rfl)(h3:XY (T.map fun x=>rn ρ x.1)=true:=by rfl)(h4:idB ρ k=true:=by rfl):fin A Tryz.prog fn (K4 O k) .ret s:=by subst hO; exact QpN pv T ρ h1 h0 h2 h3 h4
theorem lp0 (n:Nat)(F:Nat→St)(k0:Wk A s (F 0))(round:∀k,k≤n→AC A Tryz.prog c (Kv (fun s1=>k+1≤n∧Wk A s1 (F (k+1))) Q) (F k)):AC A Tryz.prog (.loop c) Q s:=
  Qy (fun m s=>∃k,k≤n∧m=n - k∧s=F k) ⟨0,aR _,rfl,rfl⟩ k0 (by
    rintro m s ⟨k,hk,rfl,rfl⟩
    refine (round k hk).mono fun e s h=> ?_
    cases e <;> first | exact h | exact ⟨n - (k+1),_,by have:=h.1; omega,h.2,k+1,h.1,rfl,rfl⟩)
theorem lpK (n:Nat)(J:Nat→Prop)(F:Nat→St)(j0:J 0)(k0:Wk A s (F 0))(round:∀k,k≤n→J k→AC A Tryz.prog c (Kv (fun s1=>k+1≤n∧J (k+1)∧Wk A s1 (F (k+1))) Q) (F k)):AC A Tryz.prog (.loop c) Q s:=
  Qy (fun m s=>∃k,k≤n∧m=n - k∧J k∧s=F k) ⟨0,aR _,rfl,j0,rfl⟩ k0 (by
    rintro m s ⟨k,hk,rfl,hj,rfl⟩
    refine (round k hk hj).mono fun e s h=> ?_
    cases e <;> first | exact h | exact ⟨n - (k+1),_,by have:=h.1; omega,h.2.2,k+1,h.1,rfl,h.2.1,rfl⟩)
theorem l0_ {n:Nat}{a:St}(w:Wk A s1 a)(h:k+1≤n:=by omega):k+1≤n∧Wk A s1 a:=⟨h,w⟩
theorem lK_ {n:Nat}{J:Prop}{a:St}(j:J)(w:Wk A s1 a)(h:k+1≤n:=by omega):k+1≤n∧J∧Wk A s1 a:=⟨h,j,w⟩
end
@[reducible] def bx (q E:Nat) (cs:List LV):Nat×Option Ent:=(q,some (.box E cs))
@[reducible] def ar (q E:Nat) (e:Ty) (xs:List e.Den):Nat×Option Ent:=(q,some (.arr E e xs))
theorem w2 {G G':Prop}(k:G')(h:G'→G:=by intro k_; iterate 2 refine w_ ?_; exact k_):G:=h k
theorem z2 {G G':Prop}(k:G')(h:G'→G:=by intro k_; iterate 2 refine z_ ?_; exact k_):G:=h k
theorem y2 {G:Prop}(h:G:=by iterate 2 refine z_ ?_; exact zN):G:=h
theorem w3 {G G':Prop}(k:G')(h:G'→G:=by intro k_; iterate 3 refine w_ ?_; exact k_):G:=h k
theorem z3 {G G':Prop}(k:G')(h:G'→G:=by intro k_; iterate 3 refine z_ ?_; exact k_):G:=h k
theorem z4 {G G':Prop}(k:G')(h:G'→G:=by intro k_; iterate 4 refine z_ ?_; exact k_):G:=h k
theorem z5 {G G':Prop}(k:G')(h:G'→G:=by intro k_; iterate 5 refine z_ ?_; exact k_):G:=h k
theorem z9 {G G':Prop}(k:G')(h:G'→G:=by intro k_; iterate 9 refine z_ ?_; exact k_):G:=h k
theorem y1 {G:Prop}(h:G:=by refine z_ ?_; exact zN):G:=h
@[reducible] def i2 (d:Nat) (a0 a1:PV) (l:List Item):List Item:=io (d) a0 :: io (Nat.succ (d)) a1 :: l
@[reducible] def i3 (d:Nat) (a0 a1 a2:PV) (l:List Item):List Item:=io (d) a0 :: io (Nat.succ (d)) a1 :: io (Nat.succ (Nat.succ (d))) a2 :: l
@[reducible] def i4 (d:Nat) (a0 a1 a2 a3:PV) (l:List Item):List Item:=io (d) a0 :: io (Nat.succ (d)) a1 :: io (Nat.succ (Nat.succ (d))) a2 :: io (Nat.succ (Nat.succ (Nat.succ (d)))) a3 :: l
@[reducible] def i5 (d:Nat) (a0 a1 a2 a3 a4:PV) (l:List Item):List Item:=io (d) a0 :: io (Nat.succ (d)) a1 :: io (Nat.succ (Nat.succ (d))) a2 :: io (Nat.succ (Nat.succ (Nat.succ (d)))) a3 :: io (Nat.succ (Nat.succ (Nat.succ (Nat.succ (d))))) a4 :: l
@[reducible] def i6 (d:Nat) (a0 a1 a2 a3 a4 a5:PV) (l:List Item):List Item:=io (d) a0 :: io (Nat.succ (d)) a1 :: io (Nat.succ (Nat.succ (d))) a2 :: io (Nat.succ (Nat.succ (Nat.succ (d)))) a3 :: io (Nat.succ (Nat.succ (Nat.succ (Nat.succ (d))))) a4 :: io (Nat.succ (Nat.succ (Nat.succ (Nat.succ (Nat.succ (d)))))) a5 :: l
@[reducible] def i7 (d:Nat) (a0 a1 a2 a3 a4 a5 a6:PV) (l:List Item):List Item:=io (d) a0 :: io (Nat.succ (d)) a1 :: io (Nat.succ (Nat.succ (d))) a2 :: io (Nat.succ (Nat.succ (Nat.succ (d)))) a3 :: io (Nat.succ (Nat.succ (Nat.succ (Nat.succ (d))))) a4 :: io (Nat.succ (Nat.succ (Nat.succ (Nat.succ (Nat.succ (d)))))) a5 :: io (Nat.succ (Nat.succ (Nat.succ (Nat.succ (Nat.succ (Nat.succ (d))))))) a6 :: l
@[reducible] def i8 (d:Nat) (a0 a1 a2 a3 a4 a5 a6 a7:PV) (l:List Item):List Item:=io (d) a0 :: io (Nat.succ (d)) a1 :: io (Nat.succ (Nat.succ (d))) a2 :: io (Nat.succ (Nat.succ (Nat.succ (d)))) a3 :: io (Nat.succ (Nat.succ (Nat.succ (Nat.succ (d))))) a4 :: io (Nat.succ (Nat.succ (Nat.succ (Nat.succ (Nat.succ (d)))))) a5 :: io (Nat.succ (Nat.succ (Nat.succ (Nat.succ (Nat.succ (Nat.succ (d))))))) a6 :: io (Nat.succ (Nat.succ (Nat.succ (Nat.succ (Nat.succ (Nat.succ (Nat.succ (d)))))))) a7 :: l
@[reducible] def i9 (d:Nat) (a0 a1 a2 a3 a4 a5 a6 a7 a8:PV) (l:List Item):List Item:=io (d) a0 :: io (Nat.succ (d)) a1 :: io (Nat.succ (Nat.succ (d))) a2 :: io (Nat.succ (Nat.succ (Nat.succ (d)))) a3 :: io (Nat.succ (Nat.succ (Nat.succ (Nat.succ (d))))) a4 :: io (Nat.succ (Nat.succ (Nat.succ (Nat.succ (Nat.succ (d)))))) a5 :: io (Nat.succ (Nat.succ (Nat.succ (Nat.succ (Nat.succ (Nat.succ (d))))))) a6 :: io (Nat.succ (Nat.succ (Nat.succ (Nat.succ (Nat.succ (Nat.succ (Nat.succ (d)))))))) a7 :: io (Nat.succ (Nat.succ (Nat.succ (Nat.succ (Nat.succ (Nat.succ (Nat.succ (Nat.succ (d))))))))) a8 :: l
end Go.Proofs.YtfkmmpfdncopdaaGreat

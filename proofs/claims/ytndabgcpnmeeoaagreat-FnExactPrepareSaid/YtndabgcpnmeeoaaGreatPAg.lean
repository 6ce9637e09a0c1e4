/- Abstract states: struct literals of types with maps; clearing the end of an own slice; an own slice cut short; keys that are structs. No program is named here. -/
import Derived.Test.YtndabgcpnmeeoaaGreatPAt
import Derived.Test.YtndabgcpnmeeoaaGreatPAe
import Derived.DeepKeys3
import Derived.Test.YtndabgcpnmeeoaaGreatPAf
set_option linter.unusedSimpArgs false
set_option linter.unusedVariables false
set_option linter.unusedSectionVars false
namespace Go.Proofs.YtndabgcpnmeeoaaGreat
open Go.RowKit
section
variable {A:Amb}{P:Program}{s:St}{x y z:Operand}{d:Nat}{T T' ty:TypeId}{pos:String}{af:Array Edge}{g:Option (Nat×Bool)}
def Qw0 (P:Program)(T:TypeId)(offs:List (Nat×Nat))(zs:List Value):Prop:=
 ∃fs,P.underlying T=some (.struct fs)∧(∀w,(fs.mapM fun (f:Field)=>do pure (f.offset,← sizeOf f.type)).run P w= .ok offs.toArray w)∧zer P T=some (.agg zs.toArray)
theorem Qt9 {a:List Field}{offs:List (Nat×Nat)}{zs:List Value}(c:P.underlying T=some (.struct a.toArray))(b:plB P a offs=true)(f:zer P T=some (.agg zs.toArray)):Qw0 P T offs zs:=
 ⟨_,c,fun w=>by
  rw[List.mapM_toArray]
  have:=Qby (P:=P) (w:=w) b
  simp only[map_eq_pure_bind,av,this,aE,aY],f⟩
theorem QpT (al:Nat→Prop)(gh:Gh)(w:World):∀zs:List Value,LVs al gh w (zs.map LV.val) zs
 | []=>rfl
 | z :: zs=>⟨z,zs,rfl,rfl,QpT al gh w zs⟩
theorem QjY {zs:List Value}{offs:List (Nat×Nat)}{f:Array (Nat×Operand)}{j:List (Bool×List LV)}{ls:List LV}(J:Qw0 P T offs zs)(hv:EvL A s (f.toList.map (·.2)) j)(o:∀c∈j,Q4 s.tab c.2=true)
 (hf:QkH offs (zs.map LV.val) ((f.toList.map (·.1)).zip (j.map (·.2)))=some ls) (hn:Nat.blt d A.n=true):Does A P ⟨some d, .build T f,ty,pos,af,g⟩ s (s.put d (ag ls)):=
 Qq rfl hn fun D a w r=>by
  obtain ⟨fs,U,V,I⟩:=J
  have F:=hv.cms r
  have R:=F.len
  generalize Q:(f.toList.map (·.2)).map a.eval=t at*
  have a0:f.toList.length=t.length:=by rw[← Q]; simp
  have m:∀(C:List (Bool×List LV)) (t:List Value),CmsR s.tab.al D w C t→(∀c∈C,Q4 s.tab c.2=true)→∀(i:Nat) (c:Bool×List LV) (v:Value),C[i]? =some c→t[i]? =some v→∃S,v.cells=S.toArray∧LVs s.tab.al D w c.2 S:=by
   intro C
   induction C with
   | nil=>intro t _ _ i c v h; simp at h
   | cons c C L=>
    rintro t ⟨v,N,rfl,G,M⟩ o i H v' B k
    cases i with
    | zero=>
     simp at B k
     subst B; subst k
     have B:=o c (az ..)
     obtain ⟨b,ls⟩:=c
     exact CmR.cells G fun J=>by
      subst J
      obtain ⟨l,rfl,q1⟩:=G
      simp only[Q4,dd] at B
      obtain ⟨I,W⟩:=UU B
      exact q1.oneCell W I fun q ⟨e,Z⟩=>(r.cx.en q e Z).oneCell
    | succ i=>exact L N M (fun c B=>o c (ay _ B)) i H v' (by simpa using B) (by simpa using k)
  have K:((f.toList.map (·.1)).zip (j.map (·.2))).length=t.length:=by rw[List.length_zip,aF,aF]; omega
  obtain ⟨u,G,M⟩:=Qge (al:=s.tab.al) (gh:=D) (w:=w) (cur:=zs.toArray) hf K.symm (fun i p v hp k=>by
   have hi:=List.getElem?_zip_eq_some.1 hp
   have O:=hi.2
   rw[bf] at O
   obtain ⟨H,X,Y⟩:=cc.1 O
   rw[← Y]
   exact m j t F o i H v X k) (by simpa using QpT s.tab.al D w zs)
  refine ⟨.agg u, ?_,u.toList,by simp,M⟩
  have hz:(((f.toList.map (·.1)).zip (j.map (·.2))).map (·.1)).zip t=(f.map fun p=>(p.1,a.eval p.2)).toList:=by
   rw[List.map_fst_zip (by rw[aF,aF]; omega),dq,← Q,List.map_map]
   generalize f.toList=pl
   induction pl with
   | nil=>rfl
   | cons p ps L=>simp[L]
  rw[hz] at G
  simp only[execOp,Instr.build,av,Uz I,aE,run_underlying U,V,Value.cells]
  rw[G]
  simp
end
theorem QrB {A:Amb}{P:Program}{s:St}{fn:Func}(b:fn.results= #[]):Res A P fn s (.tup []):=fun c a w g=>by
 refine ⟨.tuple #[], ?_,[],rfl,rfl⟩
 rw[Uw,b]; simp[Vl,dt]
section
variable {A:Amb}{P:Program}{s:St}{x y z:Operand}{d:Nat}{T T' ty:TypeId}{pos:String}{af:Array Edge}{g:Option (Nat×Bool)}
variable {E:TypeId}{e:Ty}{xs:List e.Den}{q lo n:Nat}
theorem OwnL.takeW {w:World}(b:e.flat=true):∀{xs:List e.Den} {fp:List Nat} {cs:List Value} (k:Nat),OwnL (Own e w) fp cs xs→OwnL (Own e w) [] (cs.take (k*e.wd)) (xs.take k)
 | [],_,_,k,h=>by rw[h.2]; simp[OwnL]
 | x :: xs,_,_,0,_=>by simp[OwnL]
 | x :: xs,_,_,k+1,⟨f1,f2,c1,c2,h1,h2,h3,h4⟩=>by
  have c:=h3.len
  have a:=UO b h3
  subst a
  rw[h2]
  refine ⟨[],[],c1,c2.take (k*e.wd),rfl, ?_,h3,OwnL.takeW b k h4⟩
  rw[Nat.succ_mul,Nat.add_comm,← c,List.take_length_add_append]
theorem Qfh (t i:Nat)(hi:lk s.tm i=some (lf (.sub q e.wd 0 n)))(j:s.tab.ent q=some (.arr E e xs))(K:n≤xs.length)(J:e.flat=true)(F:Fresh s t)(G:A.k0≤t):
 Wk A s ⟨(i,lf (.ref t)) :: s.tm,(t,some (.arr E e (xs.take n))) :: (q,none) :: s.tab⟩:=fun a w r=>by
 obtain ⟨u,r⟩:=r
 obtain ⟨v,Q,l,I,R⟩:=r.tm i _ hi
 simp only[aC,and_true] at I
 subst I
 obtain ⟨B,m,c,N,q2⟩:=R ⟨_,j⟩
 have S:Own (.sl E e) w (u.f q) [u.h q] xs:=r.cx.en q _ j
 have L:v= .slice B n c:=by
  rw[q2]
  congr 1
  split
  ·rfl
  ·cases B with
   | none=>rfl
   | some b=>cases b; simp[Addr.add]
 have C:Own (.sl E e) w (u.f q) [v] (xs.take n):=by
  rcases S with ⟨V,k,W⟩ | ⟨b,O,p,fps,X,o,Y,p5,Z,p7,M⟩
  ·subst W
   simp only[aC,and_true] at k
   rw[N] at k
   simp only[Value.slice.injEq] at k
   obtain ⟨rfl,rfl,rfl⟩:=k
   have:n=0:=by simpa using K
   subst this
   exact .inl ⟨V,by rw[L],by simp⟩
  ·have D:=M.fp0 J
   subst D
   simp only[aC,and_true] at o
   rw[N] at o
   simp only[Value.slice.injEq] at o
   obtain ⟨rfl,rfl,rfl⟩:=o
   have H:(xs.take n).length=n:=by rw[ao]; omega
   refine .inr ⟨b,c,p,[],X,by rw[L,H],Y,by rw[H]; omega,Z,p7, ?_⟩
   rw[H]
   have:=M.takeW J n
   rwa [List.take_take,cu (cp _ K)] at this
 have r2:=r.make t F G [q] (fun q' h=>by rw[aS.1 h]; exact ⟨_,j⟩) (Zk w) (fun _ _ _=>rfl) C (r.cx.nd q ⟨_,j⟩) (fun g U=> .inr ⟨q,aS.2 rfl,U⟩)
 exact ⟨_,r2.know Q (pv:=lf (.ref t)) ⟨_,rfl,fun _=>by simp⟩⟩
theorem Qg3 (z:Array Value)(n:Nat):Builtin.zeroCells z n=madeCells z (n*z.size):=rfl
theorem QdJ {G E':TypeId}{N:Value}(hx:Evl A s x (.sub q e.wd lo n))(H:s.tab.ent q=some (.arr E e xs))(hb:lo+n=xs.length)(hT:P.underlying G=some (.slice E'))(hz:zer P E'=some N)(Y:N.cells.toList=e.zeros)(Z:e.zeros.all (·.oneCell')=true)(hf:e.flat=true):
 Does A P ⟨none, .call ⟨.builtin .clear, #[x], #[G]⟩,ty,pos,af,g⟩ s ⟨s.tm,(q,some (.arr E e (xs.take lo++List.replicate n e.zero))) :: s.tab⟩:=fun a w K Q r hK=>by
 obtain ⟨t,r⟩:=r
 have hO:Own (.sl E e) w (t.f q) [t.h q] xs:=r.cx.en q _ H
 have S:=hO
 obtain ⟨B,m,c,q1,M⟩:=hx t a w r ⟨_,H⟩
 have D:e.zeros.length=e.wd:=(ZP e w).len
 have a0:N.cells=e.zeros.toArray:=by rw[← Y]
 rcases Nat.eq_zero_or_pos n with u | u
 ·subst u
  have X:xs.take lo++List.replicate 0 e.zero=xs:=by rw[bj (by omega)]; simp
  have R:(execOp a.eval ⟨none, .call ⟨.builtin .clear, #[x], #[G]⟩,ty,pos,af,g⟩).run P w= .ok (.value (.tuple #[])) w:=by
   simp only[execOp,resolve,invoke,builtin,M,av,aY,aE,dp,br,dn]
   generalize (if c=lo then B else B.map (·.add (lo*e.wd)))=BB
   cases BB <;> simp[Builtin.clear_,run_underlying hT]
  unfold Oper.wp
  rw[R,Oper.upon_value]
  refine hK _ _ ⟨t,r.mod H (Zk w) (fun _ _ _=>rfl) ?_⟩
  rw[X]
  exact S
 ·rcases hO with ⟨_,_,h⟩ | ⟨b,a2,i,fps,p2,L,p4,p5,p6,p7,p8⟩
  ·subst h; simp at hb; omega
  have V:=p8.fp0 hf
  subst V
  simp only[aC,and_true] at L
  rw[q1] at L
  simp only[Value.slice.injEq] at L
  obtain ⟨rfl,rfl,rfl⟩:=L
  rw[if_neg (by omega)] at M
  simp only[dc,Addr.add_lit,bX] at M
  have a1:(Builtin.zeroCells N.cells n).toList=(List.replicate n e.zeros).flatten:=by
   have h2:=QdS e.zeros n (by rw[D]; exact V2 e)
   rw[Qg3,a0,List.size_toArray,h2]
  have j:((List.replicate n e.zeros).flatten).length=n*e.wd:=by simp[D]
  have a4:=cp e.wd p5
  have a3:lo*e.wd+n*e.wd=xs.length*e.wd:=by rw[← hb,bM]
  have C:=Uy (P:=P) (b:=b) (E:=E) ((List.replicate n e.zeros).flatten) (lo*e.wd) 0 w i p4 (by rw[j,p7]; omega) (fun v J=>by
   obtain ⟨l,I,J⟩:=List.mem_flatten.1 J
   rw[cJ I] at J
   exact ak.1 Z v J)
  rw[cz] at C
  have R:(execOp a.eval ⟨none, .call ⟨.builtin .clear, #[x], #[G]⟩,ty,pos,af,g⟩).run P w= .ok (.value (.tuple #[])) (WE w b (lo*e.wd) ((List.replicate n e.zeros).flatten)):=by
   obtain ⟨n,rfl⟩:∃k,n=k+1:=⟨n - 1,by omega⟩
   simp only[execOp,resolve,invoke,builtin,M,av,aY,aE,dp,br,dn]
   simp[Builtin.clear_,run_underlying hT,Uz hz,a1,C]
  unfold Oper.wp
  rw[R,Oper.upon_value]
  obtain ⟨o,m1,m2,m3⟩:=Uv b E (0,0) ((List.replicate n e.zeros).flatten) w (lo*e.wd) i p4 (by rw[j,p7]; omega)
  refine hK _ _ ⟨t,r.mod H (K2 w b _ _) (fun g0 _ W=>Y3 w b _ _ g0 fun h=>W (by rw[p2,h]; simp)) ?_⟩
  have I:(xs.take lo++List.replicate n e.zero).length=xs.length:=by simp; omega
  refine .inr ⟨b,c,o,[],p2,by rw[q1,I],m1,by omega,p6,by rw[m2]; exact p7, ?_⟩
  rw[I]
  have p:o.toList.take (xs.length*e.wd)=(i.toList.take (xs.length*e.wd)).take (lo*e.wd)++(List.replicate n e.zeros).flatten:=by
   have h9:=QdV (l:=i.toList) (len:=xs.length*e.wd) (lo:=lo*e.wd) (cs:=(List.replicate n e.zeros).flatten) (by rw[j]; omega) (by simp; omega)
   rw[m3,h9,j,bn (by simp; omega),bs]
  rw[p]
  have F:∀{O:List Value} {zs:List e.Den},OwnL (Own e w) [] O zs→OwnL (Own e (WE w b (lo*e.wd) ((List.replicate n e.zeros).flatten))) [] O zs:=fun h=>h.mono fun f c x U ho=>ho.keep fun g hg=>absurd (U g hg) (by simp)
  exact (F (p8.takeW hf lo)).append (OwnL.zeros e _ n)
end
end Go.Proofs.YtndabgcpnmeeoaaGreat
namespace Go.Proofs.YtndabgcpnmeeoaaGreat
open Go.RowKit
set_option maxRecDepth 100000
theorem Qjl {α:Type _}:∀{l:List (Nat×α)} {i:Nat} {x:α},lk l i=some x→(i,x)∈l
 | (j,y) :: l,i,x,h=>by
  rw[UR] at h
  split at h
  ·rename_i e; cases h; subst e; exact az ..
  ·exact ay _ (Qjl h)
noncomputable def tshT:List (Nat×Bool×Nat):=[(0,false,1),(2,false,1),(3,false,1),(4,false,1),(5,false,1),(6,false,1),(8,true,4),(9,false,1),(10,false,1),(11,false,1),(12,false,1),(14,true,2),(15,false,1),(16,false,1),(17,false,1),(19,true,1),(20,false,1),(22,false,1),(24,false,1),(25,false,1),(26,false,1),(28,true,3),(30,false,1),(31,false,1),(34,false,1),(36,false,1),(38,false,1),(40,false,1),(44,false,1),(46,false,1),(48,true,2),(49,false,1),(51,true,5),(53,false,1),(54,false,1),(56,false,1),(57,false,1),(60,true,3),(61,false,1),(63,false,1),(65,false,1),(68,false,1),(75,true,2),(77,true,2),(78,false,1),(80,true,2),(81,false,1),(82,false,1),(84,true,5),(86,false,1),(93,false,1),(95,true,2),(96,false,1),(99,false,1),(103,false,1),(107,false,1),(109,true,2),(110,false,1),(112,false,1),(113,false,1),(115,true,3),(116,false,1),(120,true,2),(121,false,1),(123,false,1),(124,false,1),(126,false,1),(129,true,3),(131,false,1),(132,false,1),(134,true,3),(139,true,3),(144,false,1),(154,true,4),(155,false,1),(157,false,1),(163,false,1),(168,false,1),(172,false,1),(176,false,1),(178,true,2),(179,false,1),(187,false,1),(191,false,1),(195,false,1),(201,false,1),(202,false,1),(215,true,4),(217,false,1),(220,true,2),(221,false,1),(227,false,1),(234,true,6),(235,false,1),(241,false,1),(244,false,1),(250,false,1),(257,false,1),(271,false,1),(275,true,2),(279,false,1),(281,true,6),(288,false,1),(290,false,1),(292,false,1),(301,true,3),(303,true,3),(304,false,1),(311,true,2),(314,true,4),(315,false,1),(317,false,1),(323,true,2),(325,true,7),(326,false,1),(333,false,1),(335,false,1),(337,true,3),(340,false,1),(344,false,1),(348,false,1),(350,false,1),(357,false,1),(359,true,2),(361,false,1),(363,true,4),(365,true,2),(371,false,1),(373,true,7),(378,false,1),(382,true,3),(383,false,1),(385,true,2),(387,false,1),(388,false,1),(392,false,1),(394,false,1),(399,false,1),(400,false,1),(406,false,1),(420,false,1),(421,false,1),(424,true,2),(430,false,1),(435,false,1),(436,false,1),(446,false,1),(454,false,1),(455,false,1),(459,false,1),(461,false,1),(464,false,1),(465,false,1),(469,false,1),(471,false,1),(474,false,1),(482,false,1),(489,false,1),(497,false,1),(499,true,4),(502,false,1),(504,false,1),(507,false,1),(510,false,1),(513,false,1),(514,false,1),(528,false,1),(530,true,8),(536,false,1),(538,true,2),(548,false,1),(549,false,1),(550,false,1),(552,true,9),(555,true,2),(567,false,1)]
noncomputable def fldT:List (Nat×Nat):=[(512,0),(513,1),(514,2),(515,3),(896,0),(897,1),(1216,0),(1792,0),(1793,1),(1794,2),(3072,0),(3073,1),(3264,0),(3265,2),(3266,3),(3267,4),(3840,0),(3841,1),(3842,2),(4800,0),(4801,1),(4928,0),(4929,1),(5120,0),(5121,1),(5376,0),(5377,2),(5378,3),(5379,4),(6080,0),(6081,1),(6976,0),(6977,1),(7360,0),(7361,1),(7362,2),(7680,0),(7681,1),(8256,0),(8257,1),(8258,2),(8576,0),(8577,1),(8578,2),(8896,0),(8897,1),(8898,2),(9856,0),(9857,1),(9858,2),(9859,3),(11392,0),(11393,1),(13760,0),(13761,1),(13762,2),(13763,3),(14080,0),(14081,1),(14976,0),(14977,3),(14978,5),(17600,0),(17601,1),(17984,0),(17985,2),(17986,3),(17987,4),(17988,5),(19264,0),(19265,1),(19266,2),(19392,0),(19393,1),(19394,2),(19904,0),(19905,1),(20096,0),(20097,2),(20672,0),(20673,1),(20800,0),(20801,4),(21568,0),(21569,1),(21570,2),(22976,0),(22977,1),(23232,0),(23233,1),(23234,2),(23235,3),(23360,0),(23361,1),(23872,0),(23873,5),(23874,6),(24448,0),(24449,1),(24450,2),(24640,0),(24641,1),(27136,0),(27137,1),(31936,0),(31937,1),(31938,2),(31939,3),(33920,0),(33921,3),(33922,4),(33923,5),(34432,0),(35328,0),(35329,3),(35330,4),(35331,7),(35332,8),(35520,0),(35521,1)]
noncomputable def sliT:List (Nat×Nat):=[(22,5),(24,77),(25,9),(26,154),(30,139),(46,275),(49,75),(53,60),(56,123),(78,424),(81,311),(82,323),(93,215),(99,95),(107,363),(112,120),(113,129),(123,3),(144,4),(176,301),(201,314),(257,382),(304,303),(344,359),(361,365),(436,325),(507,25),(550,555)]
theorem QwE:(tshT.all fun p=>decide (tsh Tryz.prog p.1=some p.2))=true:=by kernel_rfl
theorem QvU:(fldT.all fun p=>decide (fld Tryz.prog (p.1 / 64) (p.1 % 64)=some p.2))=true:=by kernel_rfl
noncomputable def strT:List Nat:=[9,10,11]
noncomputable def strB (T:Nat):Bool:=match Tryz.prog.underlying T with
 | some .string=>true
 | _=>false
theorem Qwy:(strT.all strB)=true:=by kernel_rfl
theorem Qxm {T:TypeId}(h:inB T strT=true):Tryz.prog.underlying T=some .string:=by
 have a:=ak.1 Qwy _ (Qjd.1 h)
 unfold strB at a
 split at a
 ·assumption
 ·cases a
noncomputable def sliB (T E:Nat):Bool:=match Tryz.prog.underlying T with
 | some (.slice E')=>Nat.beq E' E
 | _=>false
theorem Qwu:(sliT.all fun p=>sliB p.1 p.2)=true:=by kernel_rfl
theorem K6 {T:TypeId}{b:Bool}{n:Nat}(h:lk tshT T=some (b,n)):tsh Tryz.prog T=some (b,n):=ab (ak.1 QwE _ (Qjl h))
theorem Qqu {T f o:Nat}(h:lk fldT (Nat.add (Nat.mul 64 T) f)=some o)(a:Nat.blt f 64=true):fld Tryz.prog T f=some o:=by
 have b:=ab (ak.1 QvU _ (Qjl h))
 have a:=aD a
 rwa [show Nat.add (Nat.mul 64 T) f=64*T+f from rfl,show (64*T+f) / 64=T by omega,show (64*T+f) % 64=f by omega] at b
theorem QjB {T E:TypeId}(h:lk sliT T=some E):Tryz.prog.underlying T=some (.slice E):=by
 have a:=ak.1 Qwu _ (Qjl h)
 unfold sliB at a
 split at a
 ·rename_i b; rw[b,aV a]
 ·cases a
section
variable {A:Amb}{s s':St}{o:Oper}
theorem xlI {d:Nat}{x:Operand}{T ty:TypeId}{pos:String}{af:Array Edge}{g:Option (Nat×Bool)}{q a i j n:Nat}{E:TypeId}{e t:Ty}{xs:List e.Den}{z:e.Den}{b:t.Den}(B:Evl A s x (.ept q a i j))(m:s.tab.ent q=some (.arr E e xs))(w:a=e.wd)(C:xs[i]? =some z)(r:e.flat=true)(h:tsh Tryz.prog T=some (false,n))(u:(leaves e z)[j]? =some (.dat t b))(v:Nat.blt d A.n=true):Does A Tryz.prog ⟨some d, .load T x,ty,pos,af,g⟩ s (s.put d (lf (.dat t b))):=by
 subst w; exact Q5 B m C r h u v
theorem QxP {d:Nat}{x:Operand}{T ty:TypeId}{pos:String}{af:Array Edge}{g:Option (Nat×Bool)}{q a i j n:Nat}{E:TypeId}{e:Ty}{xs:List e.Den}{z:e.Den}(v:Evl A s x (.ept q a i j))(h:s.tab.ent q=some (.arr E e xs))(u:a=e.wd)(w:xs[i]? =some z)(m:e.flat=true)(b:tsh Tryz.prog T=some (true,n))(r:Nat.ble (j+n) e.wd=true)(t:Nat.blt d A.n=true):Does A Tryz.prog ⟨some d, .load T x,ty,pos,af,g⟩ s (s.put d (ag (((leaves e z).drop j).take n))):=by
 subst u; exact Vk v h w m b r t
theorem D_ (h:Does A Tryz.prog o s s':=by
 first
 | ((with_reducible apply Xl); exact Qa rfl; rfl; exact K6 rfl; rfl; rfl)
 | ((with_reducible apply ZA); exact Qa rfl; exact Qqu rfl rfl; rfl; rfl)
 | ((with_reducible apply HU); rfl; rfl)
 | ((with_reducible apply J6); rfl; rfl)
 | ((with_reducible apply QbA); rfl; rfl; rfl)
 | ((with_reducible apply J7); exact Qa rfl; rfl; exact K6 rfl; rfl; rfl)
 | ((with_reducible apply Qe3); (first | exact Qy rfl | exact Zb | exact Evl.str rfl | exact Evl.val); rfl)
 | ((with_reducible apply Wt); (first | exact Qy rfl | exact Zb | exact Evl.str rfl | exact Evl.val); rfl)
 | ((with_reducible apply Qj4); (first | exact Qa rfl | exact Qy rfl); (first | exact Qa rfl | exact Qy rfl); rfl)
 | ((with_reducible apply V9); (first | exact Qa rfl | exact Qy rfl); (first | exact Qa rfl | exact Qy rfl); rfl)
 | ((with_reducible apply QbD); (first | exact Qa rfl | exact Qy rfl); (first | exact Qa rfl | exact Qy rfl); rfl)
 | ((with_reducible apply Qj3); (first | exact Qa rfl | exact Qy rfl); (first | exact Qa rfl | exact Qy rfl); rfl)
 | ((with_reducible apply QbB); (first | exact Qa rfl | exact Qy rfl); (first | exact Qa rfl | exact Qy rfl); rfl)
 | ((with_reducible apply Qj1); (first | exact Qa rfl | exact Qy rfl); (first | exact Qa rfl | exact Qy rfl); rfl)
 | ((with_reducible apply J4); (first | exact Qa rfl | exact Qy rfl); (first | exact Qa rfl | exact Qy rfl); rfl; omega)
 | ((with_reducible apply Qe7); (first | exact Qa rfl | exact Qy rfl); (first | exact Qa rfl | exact Qy rfl); rfl; omega)
 | ((with_reducible apply Qj5); exact Qa rfl; rfl)
 | ((with_reducible apply Qe4); exact Qa rfl; (first | exact Qk rfl | exact Evl.ev Zb | exact Evl.ev (Qy rfl)); rfl)
 | ((with_reducible apply Qe5); exact Qa rfl; (first | exact Qk rfl | exact Evl.ev Zb | exact Evl.ev (Qy rfl)); rfl)
 | ((with_reducible apply Qe2); exact Qa rfl; exact K6 rfl; rfl; rfl)
 | ((with_reducible apply QdL); exact Qa rfl; exact K6 rfl; rfl; rfl)
 | ((with_reducible apply QdK); exact Qa rfl; exact Qqu rfl rfl; rfl)
 | ((with_reducible apply Qj0); exact Qa rfl; exact Qqu rfl rfl; rfl; rfl)
 | ((with_reducible apply Wb); exact Qa rfl; rfl; rfl)
 | ((with_reducible apply HV); exact Qa rfl; rfl; rfl)
 | ((with_reducible apply Qhw); exact Qa rfl; rfl; rfl; exact QjB rfl)
 | ((with_reducible apply Does.len); exact Qa rfl; rfl; exact QjB rfl)
 | ((with_reducible apply V0); (first | exact Qa rfl | exact Evl.str rfl); (first | exact Qa rfl | exact Evl.str rfl); rfl)
 | ((with_reducible apply Qhz); (first | exact Qa rfl | exact Evl.str rfl); (first | exact Qa rfl | exact Evl.str rfl); rfl)
 | ((with_reducible apply Q0); exact Qa rfl; rfl; (first | exact Qk rfl | exact Evl.ev (Qy rfl) | exact Evl.ev Zb | exact Evl.ev (Evl.str rfl) | exact Evl.ev (QC _ rfl)); rfl; exact K6 rfl; rfl)
 | ((with_reducible apply UF); exact Qa rfl; (first | exact Qa rfl | exact Qy rfl); exact QjB rfl; exact K6 rfl; rfl; omega; assumption)
 | ((with_reducible apply UG); (first | exact Qa rfl | exact Evl.str rfl); (first | exact Qa rfl | exact Qy rfl); rfl; exact Qxm rfl; omega; assumption)
 | ((with_reducible apply QI); exact Qa rfl; rfl; (first | exact Qa rfl | exact Qy rfl); exact QjB rfl; exact K6 rfl; rfl; omega; (first | omega | (simp only[ap]; omega)))
 | ((with_reducible apply xlI); exact Qa rfl; rfl; rfl; assumption; rfl; exact K6 rfl; rfl; rfl)
 | ((with_reducible apply QxP); exact Qa rfl; rfl; rfl; assumption; rfl; exact K6 rfl; rfl; rfl)
 | ((with_reducible apply Qu); exact Qa rfl; exact Qa rfl; rfl)
 | ((with_reducible apply Zd); exact Qa rfl; exact Qa rfl; rfl)):Does A Tryz.prog o s s':=h
theorem xbx {T ty:TypeId}{d:Nat}{x:Operand}{pos:String}{af:Array Edge}{ops:Array Oper}{l:List Oper}{Q:Exit→St→Prop}(t:Nat){b:Bool}{ls:List LV}(k:AL A Tryz.prog ops l Q (s.new d t (.ptr t 0) (.box T ls)))(m:Ev A s x (b,ls):=by first | exact Qk rfl | exact Evl.ev (Qy rfl) | exact Evl.ev Zb | exact Evl.ev (Evl.str rfl))(h:Q4 s.tab ls=true:=by rfl)(j:Nat.blt d A.n=true:=by rfl)(a:Fresh s t:=by exact Fresh.of rfl)(e:A.k0≤t:=by exact nlr rfl):AL A Tryz.prog ops (⟨some d, .box T x,ty,pos,af,none⟩ :: l) Q s:=lc (Qro t m h j a e) k
theorem xal {T ty:TypeId}{d:Nat}{pos:String}{af:Array Edge}{g:Option (Nat×Bool)}(k:Nat)(t:Ty){z:Value}(j:zer Tryz.prog T=some z)(e:z.cells.toList=t.zeros:=by rfl)(h:Nat.blt d A.n=true:=by rfl)(a:Fresh s k:=by exact Fresh.of rfl)(b:A.k0≤k:=by exact nlr rfl):Does A Tryz.prog ⟨some d, .alloc T,ty,pos,af,g⟩ s (s.new d k (.ptr k 0) (.box T t.zlv)):=Yl k t j e h a b
theorem Qxb {P:Program}{c:Code}{Q:Exit→St→Prop}(h:AC A P c Q s):AC A P c Q s:=h
theorem wI {G G':Prop}(h:G'→G:=by
 first
 | ((with_reducible apply lm); rfl; rfl)
 | ((with_reducible apply lgn); rfl; rfl; rfl)
 | ((with_reducible apply lc); exact D_)
 | ((with_reducible apply lgy); rfl; rfl; exact D_)
 | (with_reducible exact QtN)
 | (with_reducible exact QwM)
 | (with_reducible exact XM)
 | ((with_reducible apply Qrh); exact Qa rfl)
 | ((with_reducible apply Qrg); exact Qa rfl)
 | (with_reducible exact Qri)
 | (with_reducible exact Qrf)
 | (with_reducible exact Qhs)
 | (with_reducible exact AC.skip)
 | (with_reducible exact QiB)
 | (with_reducible exact Qd)
 | exact Qxb):G'→G:=h
theorem w_ {G G':Prop}(k:G')(h:G'→G:=by exact wI):G:=h k
end
def rlm:Nat→List Nat→List Nat
 | _,[]=>[]
 | b,r :: rs=>Nat.sub (Nat.sub b 1) r :: rlm (Nat.mul 2 b) rs
def QlW (l:List Oper)(plan:List Item)(deps:List (List Nat)):Bool:=Nat.beq l.length plan.length&&(Qfx l.toArray deps plan.length&&QgJ plan deps&&Qcg l.toArray plan.length)
def ActsH (A:Amb)(P:Program)(l0:List Oper)(plan:List Item)(deps:List (List Nat))(s0:St):List Oper→List Item→Nat→Prop
 | o :: l,it :: p,i=>(∀s,At plan deps s0 i s→Acts A P l0.toArray o s (QbI s it))∧ActsH A P l0 plan deps s0 l p (i+1)
 | [],_,_=>QlW l0 plan deps=true
 | _ :: _,[],_=>QlW l0 plan deps=true
section
variable {A:Amb}{P:Program}{s s' s0:St}{Q:Exit→St→Prop}{l0 l:List Oper}{o:Oper}{it:Item}{p plan:List Item}{deps:List (List Nat)}{i:Nat}
theorem ActsH.to:∀{l:List Oper} {p:List Item} {i:Nat},ActsH A P l0 plan deps s0 l p i→ActsL A P l0.toArray plan deps s0 l p i∧QlW l0 plan deps=true
 | _ :: _,_ :: _,_,h=>⟨⟨h.1,(ActsH.to h.2).1⟩,(ActsH.to h.2).2⟩
 | [],_,_,h=>⟨trivial,h⟩
 | _ :: _,[],_,h=>⟨trivial,h⟩
theorem QwV {q:Nat}(a:At plan deps s0 i s)(h:(se plan deps s0 i q).isSome=true):(s.tab.ent q).isSome=true:=by
 obtain ⟨x,b⟩:=be.1 h
 rw[a.n _ b]; rfl
theorem DH_ (h:Does A Tryz.prog o s s':=by
 first
 | ((with_reducible apply Qe4); exact At.v ‹_› rfl; (first | exact At.w ‹_› rfl | exact Evl.ev Zb | exact Evl.ev (Qy rfl)); rfl)
 | ((with_reducible apply Qe5); exact At.v ‹_› rfl; (first | exact At.w ‹_› rfl | exact Evl.ev Zb | exact Evl.ev (Qy rfl)); rfl)
 | ((with_reducible apply Xl); exact At.v ‹_› rfl; exact At.n ‹_› _ rfl; exact K6 rfl; rfl; rfl)
 | ((with_reducible apply J7); exact At.v ‹_› rfl; exact At.n ‹_› _ rfl; exact K6 rfl; rfl; rfl)
 | ((with_reducible apply HU); exact At.k ‹_› rfl; rfl)
 | ((with_reducible apply J6); exact At.k ‹_› rfl; rfl)
 | ((with_reducible apply QbA); exact At.k ‹_› rfl; rfl; rfl)
 | ((with_reducible apply Qe3); (first | exact Qy rfl | exact Zb | exact Evl.str rfl | exact Evl.val); rfl)
 | ((with_reducible apply Wt); (first | exact Qy rfl | exact Zb | exact Evl.str rfl | exact Evl.val); rfl)
 | ((with_reducible apply Qe2); exact At.v ‹_› rfl; exact K6 rfl; rfl; rfl)
 | ((with_reducible apply QdL); exact At.v ‹_› rfl; exact K6 rfl; rfl; rfl)
 | ((with_reducible apply QdK); exact At.v ‹_› rfl; exact Qqu rfl rfl; rfl)
 | ((with_reducible apply Does.len); exact At.v ‹_› rfl; rfl; exact QjB rfl)
 | ((with_reducible apply Qhw); exact At.v ‹_› rfl; exact At.n ‹_› _ rfl; rfl; exact QjB rfl)
 | ((with_reducible apply Qj4); (first | exact At.v ‹_› rfl | exact Qy rfl); (first | exact At.v ‹_› rfl | exact Qy rfl); rfl)
 | ((with_reducible apply V9); (first | exact At.v ‹_› rfl | exact Qy rfl); (first | exact At.v ‹_› rfl | exact Qy rfl); rfl)
 | ((with_reducible apply QbD); (first | exact At.v ‹_› rfl | exact Qy rfl); (first | exact At.v ‹_› rfl | exact Qy rfl); rfl)
 | ((with_reducible apply Qj3); (first | exact At.v ‹_› rfl | exact Qy rfl); (first | exact At.v ‹_› rfl | exact Qy rfl); rfl)
 | ((with_reducible apply QbB); (first | exact At.v ‹_› rfl | exact Qy rfl); (first | exact At.v ‹_› rfl | exact Qy rfl); rfl)
 | ((with_reducible apply Qj1); (first | exact At.v ‹_› rfl | exact Qy rfl); (first | exact At.v ‹_› rfl | exact Qy rfl); rfl)
 | ((with_reducible apply J4); (first | exact At.v ‹_› rfl | exact Qy rfl); (first | exact At.v ‹_› rfl | exact Qy rfl); rfl; omega)
 | ((with_reducible apply Qe7); (first | exact At.v ‹_› rfl | exact Qy rfl); (first | exact At.v ‹_› rfl | exact Qy rfl); rfl; omega)
 | ((with_reducible apply Qj5); exact At.v ‹_› rfl; rfl)
 | ((with_reducible apply V0); (first | exact At.v ‹_› rfl | exact Evl.str rfl); (first | exact At.v ‹_› rfl | exact Evl.str rfl); rfl)
 | ((with_reducible apply Qhz); (first | exact At.v ‹_› rfl | exact Evl.str rfl); (first | exact At.v ‹_› rfl | exact Evl.str rfl); rfl)
 | ((with_reducible apply Qu); exact At.v ‹_› rfl; exact At.v ‹_› rfl; rfl)
 | ((with_reducible apply Zd); exact At.v ‹_› rfl; exact At.v ‹_› rfl; rfl)
 | ((with_reducible apply ZA); exact At.v ‹_› rfl; exact Qqu rfl rfl; exact QwV ‹_› rfl; rfl)
 | ((with_reducible apply Wb); exact At.v ‹_› rfl; exact QwV ‹_› rfl; rfl)
 | ((with_reducible apply UG); (first | exact At.v ‹_› rfl | exact Evl.str rfl); (first | exact At.v ‹_› rfl | exact Qy rfl); rfl; exact Qxm rfl; omega; assumption)
 | ((with_reducible apply UF); exact At.v ‹_› rfl; (first | exact At.v ‹_› rfl | exact Qy rfl); exact QjB rfl; exact K6 rfl; rfl; omega; assumption)
 | ((with_reducible apply Q0); exact At.v ‹_› rfl; exact At.n ‹_› _ rfl; (first | exact At.w ‹_› rfl | exact Evl.ev (Qy rfl) | exact Evl.ev Zb); rfl; exact K6 rfl; rfl)):Does A Tryz.prog o s s':=h
theorem zz (h:∀s,At plan deps s0 i s→Acts A P l0.toArray o s (QbI s it))(k:ActsH A P l0 plan deps s0 l p (i+1)):ActsH A P l0 plan deps s0 (o :: l) (it :: p) i:=⟨h,k⟩
theorem zI (h:∀s,At plan deps s0 i s→Acts A Tryz.prog l0.toArray o s (QbI s it):=by
 first
 | ((with_reducible apply dxm); rfl; rfl)
 | ((with_reducible apply dxf); exact Qqu rfl rfl; rfl; rfl; rfl)
 | ((with_reducible apply dxl); exact K6 rfl; rfl; rfl; rfl; rfl; rfl)
 | ((with_reducible apply dxt); rfl; rfl)
 | ((with_reducible apply dxn); rfl; rfl; rfl)
 | ((with_reducible apply dxa); exact K6 rfl; rfl; rfl; rfl; rfl)
 | ((with_reducible apply dxo); rfl; rfl; rfl)
 | (intro _ _; (apply ac); exact DH_; rfl)
 | (intro _ _; (apply day); rfl; exact At.k ‹_› rfl; exact DH_; rfl)
 | (intro _ _; (apply QtO); rfl; rfl; exact At.k ‹_› rfl; rfl; rfl)):ActsH A Tryz.prog l0 plan deps s0 l p (i+1)→ActsH A Tryz.prog l0 plan deps s0 (o :: l) (it :: p) i:=fun k=>⟨h,k⟩
theorem z_ {G G':Prop}(k:G')(h:G'→G:=by exact zI):G:=h k
theorem zN (h:QlW l0 plan deps=true:=by kernel_rfl):ActsH A Tryz.prog l0 plan deps s0 [] [] i:=h
theorem dW {id:Nat}{y:Code}(plan:List Item)(e:List Nat)(H:ActsH A Tryz.prog l plan (dms (rlm 1 e)) s0 l plan 0)(k:AC A Tryz.prog y Q (stD plan s0 fun _=>true)):AC A Tryz.prog (.seq (.region id l.toArray true) y) Q s0:=by
 obtain ⟨b,a⟩:=H.to
 rw[QlW,aI] at a
 exact dw plan _ mixed (aV a.1) a.2 b k
theorem dV {id:Nat}(plan:List Item)(e:List Nat)(H:ActsH A Tryz.prog l plan (dms (rlm 1 e)) s0 l plan 0)(k:Q .normal (stD plan s0 fun _=>true)):AC A Tryz.prog (.region id l.toArray true) Q s0:=by
 obtain ⟨b,a⟩:=H.to
 rw[QlW,aI] at a
 exact dv plan _ mixed (aV a.1) a.2 b k
theorem dZ {id:Nat}{y:Code}{b:Exit→St→Prop}(plan:List Item)(h:List Nat)(H:ActsH A Tryz.prog l plan (dms (rlm 1 h)) s0 l plan 0)(k:AC A Tryz.prog y b (stD plan s0 fun _=>true)):AC A Tryz.prog (.region id l.toArray true) (QaK (AC A Tryz.prog y b) Q) s0:=by
 obtain ⟨e,a⟩:=H.to
 rw[QlW,aI] at a
 exact dz plan _ mixed (aV a.1) a.2 e k
end
section
variable {A:Amb}{s:St}{f:FuncId}{xs:List Operand}{tys:Array TypeId}{args:List (Bool×List LV)}{d k:Nat}{ty T:TypeId}{pos:String}{af:Array Edge}{g:Option (Nat×Bool)}{pv:PV}{U U':Tab}{x y:Operand}
theorem evN:EvL A s [] []:=rfl
theorem evC {c:Bool×List LV}{cs:List (Bool×List LV)}(h:Ev A s x c)(k:EvL A s xs cs):EvL A s (x :: xs) (c :: cs):=⟨_,_,rfl,h,k⟩
theorem ebN:EvLB A s [] []:=rfl
theorem ebC {c:Bool×List LV}{cs:List (Bool×List LV)}(h:EvB A s x c)(k:EvLB A s xs cs):EvLB A s (x :: xs) (c :: cs):=⟨_,_,rfl,h,k⟩
theorem abN {e:Ty}:AbsL U e [] [] []:=⟨rfl,rfl⟩
theorem abC {e:Ty}{c:Bool×List LV}{cs:List (Bool×List LV)}{z:e.Den}{zs:List e.Den}{a b:List Nat}(h:Abs U e c.2 z a)(k:AbsL U e cs zs b):AbsL U e (c :: cs) (z :: zs) (a++b):=⟨_,_,_,_,rfl,h,k,rfl⟩
theorem dK (e:FC Tryz.prog f args [] 0 (QY pv))(a:Qh Tryz.prog f)(b:EvL A s xs args:=by repeat' first | exact evN | exact Qk rfl | exact At.w ‹_› rfl | exact Evl.ev (Qy rfl) | exact Evl.ev Zb | exact Evl.ev (Evl.str rfl) | apply evC)(j:pv.tags=[]:=by rfl)(h:Nat.blt d A.n=true:=by rfl):Does A Tryz.prog ⟨some d, .call ⟨.value (.func f),xs.toArray,tys⟩,ty,pos,af,g⟩ s (s.put d pv):=Qhu e a b j h
theorem dB_ (h:FC Tryz.prog f args [] 0 (QY pv))(a:Qh Tryz.prog f)(e:EvLB A s xs args:=by repeat' first | exact ebN | exact Ev.b (Qk rfl) | exact Ev.b (At.w ‹_› rfl) | exact Ev.b (Evl.ev (Qy rfl)) | exact Ev.b (Evl.ev Zb) | exact Ev.b (Evl.ev (Evl.str rfl)) | exact Qe9 (Qa rfl) rfl | exact Qe9 (At.v ‹_› rfl) (At.n ‹_› _ rfl) | apply ebC)(q:pv.tags=[]:=by rfl)(j:pv.fl=true:=by rfl)(m:Nat.blt d A.n=true:=by rfl):Does A Tryz.prog ⟨some d, .call ⟨.value (.func f),xs.toArray,tys⟩,ty,pos,af,g⟩ s (s.put d pv):=Ze h a e q j m
theorem dO (t:Nat){E:TypeId}{e:Ty}{zs:List e.Den}(m:FC Tryz.prog f args [] 0 (YB E e zs))(h:Qh Tryz.prog f)(j:EvL A s xs args:=by repeat' first | exact evN | exact Qk rfl | exact At.w ‹_› rfl | exact Evl.ev (Qy rfl) | exact Evl.ev Zb | exact Evl.ev (Evl.str rfl) | apply evC)(q:Nat.blt d A.n=true:=by rfl)(a:Fresh s t:=by first | exact Fresh.of rfl | exact At.fr ‹_› _ rfl)(b:A.k0≤t:=by exact nlr rfl):Does A Tryz.prog ⟨some d, .call ⟨.value (.func f),xs.toArray,tys⟩,ty,pos,af,g⟩ s (s.mk_ d t [] E e zs):=QlG t m h j q a b
theorem dOB (t:Nat){E:TypeId}{e:Ty}{zs:List e.Den}(q:FC Tryz.prog f args [] 0 (YB E e zs))(j:Qh Tryz.prog f)(m:EvLB A s xs args:=by repeat' first | exact ebN | exact Ev.b (Qk rfl) | exact Ev.b (At.w ‹_› rfl) | exact Ev.b (Evl.ev (Qy rfl)) | exact Ev.b (Evl.ev Zb) | exact Ev.b (Evl.ev (Evl.str rfl)) | exact Qe9 (Qa rfl) rfl | exact Qe9 (At.v ‹_› rfl) (At.n ‹_› _ rfl) | apply ebC)(r:Nat.blt d A.n=true:=by rfl)(a:Fresh s t:=by first | exact Fresh.of rfl | exact At.fr ‹_› _ rfl)(h:A.k0≤t:=by exact nlr rfl):Does A Tryz.prog ⟨some d, .call ⟨.value (.func f),xs.toArray,tys⟩,ty,pos,af,g⟩ s (s.mk_ d t [] E e zs):=Yg t q j m r a h
theorem dG (n:Nat)(m:FC Tryz.prog f args [] 0 (Is pv U))(h:Qh Tryz.prog f)(j:EvL A s xs args:=by repeat' first | exact evN | exact Qk rfl | exact At.w ‹_› rfl | exact Evl.ev (Qy rfl) | exact Evl.ev Zb | exact Evl.ev (Evl.str rfl) | apply evC)(a:YY pv U=true:=by rfl)(q:Nat.blt d A.n=true:=by rfl)(b:FrL s n (ZS U):=by repeat' first | exact trivial | exact Fresh.of rfl | exact At.fr ‹_› _ rfl | apply And.intro)(e:A.k0≤n:=by exact nlr rfl):Does A Tryz.prog ⟨some d, .call ⟨.value (.func f),xs.toArray,tys⟩,ty,pos,af,g⟩ s (s.back d n pv U):=QlF n m h j a q b e
theorem dP (n:Nat)(ρ:List (Nat×Nat))(q:FC Tryz.prog f args U k (Is pv U'))(h:Qh Tryz.prog f)(m:EvL A s xs (args.map fun c=>(c.1,c.2.map (LV.ren (rn ρ)))):=by repeat' first | exact evN | exact Qk rfl | exact At.w ‹_› rfl | exact Evl.ev (Qy rfl) | exact Evl.ev Zb | exact Evl.ev (Evl.str rfl) | apply evC)(j:HasE s ρ U:=by repeat' first | exact rfl | exact trivial | exact At.n ‹_› _ rfl | apply And.intro)(e:(UC (U.map fun p=>rn ρ p.1)&&YY pv U'&&UC (U'.map fun p=>sg ρ k n p.1)&&QsD U U' k&&Nat.blt d A.n)=true:=by rfl)(a:FrK s n k (ZS U'):=by repeat' first | exact trivial | exact Fresh.of rfl | exact At.fr ‹_› _ rfl | apply And.intro)(b:A.k0≤n:=by exact nlr rfl):Does A Tryz.prog ⟨some d, .call ⟨.value (.func f),xs.toArray,tys⟩,ty,pos,af,g⟩ s (s.backP d (sg ρ k n) (U.map fun p=>rn ρ p.1) pv U'):=QlH n ρ q h m j e a b
theorem dA {q a:Nat}{E:TypeId}{e:Ty}{us ys:List e.Den}(t:Nat)(r:Wx Tryz.prog E e.wd=true)(C:Evl A s x (.ref q):=by first | exact Qa rfl | exact At.v ‹_› rfl)(z:s.tab.ent q=some (.arr E e us):=by first | exact rfl | exact At.n ‹_› _ rfl)(D:Evl A s y (.ref a):=by first | exact Qa rfl | exact At.v ‹_› rfl)(b:s.tab.ent a=some (.arr E e ys):=by first | exact rfl | exact At.n ‹_› _ rfl)(m:Nat.beq q a=false:=by rfl)(u:Tryz.prog.underlying T=some (.slice E):=by exact QjB rfl)(w:us.length+ys.length≤1073741824:=by first | omega | (simp only[aj,aF,ao,au,aH]; omega) | (simp only[aj,bh,ao,au,aH]; omega))(B:Nat.blt d A.n=true:=by rfl)(h:Fresh s t:=by first | exact Fresh.of rfl | exact At.fr ‹_› _ rfl)(j:A.k0≤t:=by exact nlr rfl):Does A Tryz.prog ⟨some d, .call {callee:= .builtin .append,args:= #[x,y],argTypes:= #[T,T]},ty,pos,af,g⟩ s (s.mk_ d t [q,a] E e (us++ys)):=QjX t C z D b m u r w B h j
theorem dBs (t:Nat){E:TypeId}{e:Ty}{n:Nat}{a:Array (Nat×Operand)}{h:List (Bool×List LV)}{us:List e.Den}{b:List Nat}{B:Bool}{z:Value}(G:zer Tryz.prog E=some z)(D:Tryz.prog.underlying T=some (.slice E):=by exact QjB rfl)(C:tsh Tryz.prog E=some (B,e.wd):=by exact K6 rfl)(r:a.toList.map (·.1)=List.range n:=by rfl)(hv:EvL A s (a.toList.map (·.2)) h:=by repeat' first | exact evN | exact Qk rfl | exact At.w ‹_› rfl | exact Evl.ev (Qy rfl) | exact Evl.ev Zb | exact Evl.ev (Evl.str rfl) | apply evC)(q:∀c∈h,Q4 s.tab c.2=true:=by exact ak.1 rfl)(hab:AbsL s.tab e h us b:=by repeat' first | exact abN | exact ⟨rfl,rfl⟩ | apply abC)(v:b.Nodup:=by decide)(u:Nat.ble (n*e.wd) 16777216=true:=by rfl)(F:Nat.blt d A.n=true:=by rfl)(j:Fresh s t:=by first | exact Fresh.of rfl | exact At.fr ‹_› _ rfl)(m:A.k0≤t:=by exact nlr rfl):Does A Tryz.prog ⟨some d, .buildSlice T n a,ty,pos,af,g⟩ s (s.mk_ d t b E e us):=QdZ t D C G r hv q hab v u F j m
end
section
variable {A:Amb}{s s1:St}{Q:Exit→St→Prop}{ops:Array Oper}{l:List Oper}{c x y:Code}{fn:Func}{k:Nat}{O O':PV→Tab→Prop}{pv pv0:PV}{T:Tab}
theorem alL (t:Nat){E:TypeId}{e:Ty}{u:List e.Den}(k:u.length≤9223372036854775807→AL A Tryz.prog ops l Q s)(h:Evl A s (.tmp t) (.dat (.sl E e) u):=by exact Qa rfl):AL A Tryz.prog ops l Q s:=AL.fact (Qsj h) k
theorem alS (t:Nat){u:ByteArray}(k:u.size≤9223372036854775807→AL A Tryz.prog ops l Q s)(h:Evl A s (.tmp t) (dS u):=by exact Qa rfl):AL A Tryz.prog ops l Q s:=AL.fact (Qqo h) k
theorem alI (t:Nat){n:Int}(k: -9223372036854775808≤n∧n≤9223372036854775807→AL A Tryz.prog ops l Q s)(h:Evl A s (.tmp t) (dI n):=by exact Qa rfl):AL A Tryz.prog ops l Q s:=AL.fact (QkF h) k
theorem acI (t:Nat){n:Int}(k: -9223372036854775808≤n∧n≤9223372036854775807→AC A Tryz.prog c Q s)(h:Evl A s (.tmp t) (dI n):=by exact Qa rfl):AC A Tryz.prog c Q s:=AC.fact (QkF h) k
theorem acG (t i:Nat){ls:List LV}{n:Int}(k: -9223372036854775808≤n∧n≤9223372036854775807→AC A Tryz.prog c Q s)(h:Ev A s (.tmp t) (true,ls):=by exact Qk rfl)(hi:ls[i]? =some (dI n):=by rfl):AC A Tryz.prog c Q s:=AC.fact (Qut h hi) k
theorem cd_ {z:Operand}{p:Prop}{a:Decidable p}(e: @decide p a=false→¬p→AC A Tryz.prog y Q s)(j: @decide p a=true→p→AC A Tryz.prog x Q s)(b:Evl A s z (dB (@decide p a)):=by exact Qa rfl):AC A Tryz.prog (.cond z x y) Q s:=HR b (fun h=>j h (ab h)) fun h=>e h (aa h)
theorem cn_ {z:Operand}{p:Prop}{a:Decidable p}(e:(!@decide p a)=false→p→AC A Tryz.prog y Q s)(j:(!@decide p a)=true→¬p→AC A Tryz.prog x Q s)(b:Evl A s z (dB (!@decide p a)):=by exact Qa rfl):AC A Tryz.prog (.cond z x y) Q s:=HR b (fun h=>j h (QR h)) fun h=>e h (QK h)
theorem cb_ {z:Operand}{b:Bool}(e:b=false→AC A Tryz.prog y Q s)(h:b=true→AC A Tryz.prog x Q s)(a:Evl A s z (dB b):=by exact Qa rfl):AC A Tryz.prog (.cond z x y) Q s:=HR a h e
theorem cx_ {z:Operand}{b:Bool}(e:b=false→AC A Tryz.prog x Q s)(j:b=true→AC A Tryz.prog y Q s)(a:Evl A s z (dB (!b)):=by exact Qa rfl):AC A Tryz.prog (.cond z x y) Q s:=HR a (fun h=>e (by simpa using h)) fun h=>j (by simpa using h)
theorem rs_ {r:ResultVar}{d:Bool×List LV}(h:Rs A Tryz.prog s r d:=by first | exact Qvz rfl | exact Rs.cell rfl rfl (K6 rfl) rfl | exact QrD rfl rfl (K6 rfl)):Rs A Tryz.prog s r d:=h
theorem re_ (h:Res A Tryz.prog fn s pv:=by first | exact Res.one rfl rs_ | exact QtR rfl rs_ rs_ | exact QpZ rfl rs_ rs_ rs_ | exact QrA rfl rs_ rs_ rs_ rs_ | exact QrB rfl):Res A Tryz.prog fn s pv:=h
theorem fe_ (a:O=QY pv)(h:Res A Tryz.prog fn s pv:=by exact re_)(b:pv.tags=[]:=by rfl):fin A Tryz.prog fn (QbF O k) .ret s:=by subst a; exact KJ h rfl b
theorem fqI {u v:Int}(a:O=QY (lf (dI v)))(e:u=v)(h:Res A Tryz.prog fn s (lf (dI u)):=by exact re_):fin A Tryz.prog fn (QbF O k) .ret s:=by subst a; subst e; exact KJ h rfl rfl
theorem fqB {u v:Bool}(a:O=QY (lf (dB v)))(e:u=v)(h:Res A Tryz.prog fn s (lf (dB u)):=by exact re_):fin A Tryz.prog fn (QbF O k) .ret s:=by subst a; subst e; exact KJ h rfl rfl
theorem fqS {u v:ByteArray}(a:O=QY (lf (dS v)))(e:u=v)(h:Res A Tryz.prog fn s (lf (dS u)):=by exact re_):fin A Tryz.prog fn (QbF O k) .ret s:=by subst a; subst e; exact KJ h rfl rfl
theorem fq_ {t:Ty}{u v:t.Den}(a:O=QY (lf (.dat t v)))(e:u=v)(h:Res A Tryz.prog fn s (lf (.dat t u)):=by exact re_):fin A Tryz.prog fn (QbF O k) .ret s:=by subst a; subst e; exact KJ h rfl rfl
theorem fr_ (a:O=QY pv)(h:Res A Tryz.prog fn s pv0:=by exact re_)(e:pv0=pv)(b:pv.tags=[]:=by rfl):fin A Tryz.prog fn (QbF O k) .ret s:=by subst a; exact KJ h e b
theorem fo_ {q:Nat}{E:TypeId}{e:Ty}{u v:List e.Den}(a:O=YB E e v)(j:u=v)(h:Res A Tryz.prog fn s (lf (.ref q)):=by exact re_)(b:s.tab.ent q=some (.arr E e u):=by rfl):fin A Tryz.prog fn (QbF O 0) .ret s:=by subst a; exact Qux h b j
theorem fi_ (ρ:List (Nat×Nat))(j:O=Is pv T)(b:HasE ⟨[],s.tab⟩ ρ T)(a:Res A Tryz.prog fn s pv0:=by exact re_)(h0:pv0=pv.ren (rn ρ):=by rfl)(e:UC (T.map fun x=>rn ρ x.1)=true:=by rfl)(h:idB ρ k=true:=by rfl):fin A Tryz.prog fn (QbF O k) .ret s:=by subst j; exact QvT pv T ρ a h0 b e h
theorem lp0 (n:Nat)(F:Nat→St)(j:Wk A s (F 0))(a:∀k,k≤n→AC A Tryz.prog c (QaK (fun s1=>k+1≤n∧Wk A s1 (F (k+1))) Q) (F k)):AC A Tryz.prog (.loop c) Q s:=
 QP (fun m s=>∃k,k≤n∧m=n - k∧s=F k) ⟨0,aG _,rfl,rfl⟩ j (by
  rintro m s ⟨k,b,rfl,rfl⟩
  refine (a k b).mono fun e s h=> ?_
  cases e <;> first | exact h | exact ⟨n - (k+1),_,by have:=h.1; omega,h.2,k+1,h.1,rfl,rfl⟩)
theorem lpK (n:Nat)(J:Nat→Prop)(F:Nat→St)(q:J 0)(r:Wk A s (F 0))(a:∀k,k≤n→J k→AC A Tryz.prog c (QaK (fun s1=>k+1≤n∧J (k+1)∧Wk A s1 (F (k+1))) Q) (F k)):AC A Tryz.prog (.loop c) Q s:=
 QP (fun m s=>∃k,k≤n∧m=n - k∧J k∧s=F k) ⟨0,aG _,rfl,q,rfl⟩ r (by
  rintro m s ⟨k,j,rfl,b,rfl⟩
  refine (a k j b).mono fun e s h=> ?_
  cases e <;> first | exact h | exact ⟨n - (k+1),_,by have:=h.1; omega,h.2.2,k+1,h.1,rfl,h.2.1,rfl⟩)
theorem l0_ {n:Nat}{a:St}(w:Wk A s1 a)(h:k+1≤n:=by omega):k+1≤n∧Wk A s1 a:=⟨h,w⟩
theorem lK_ {n:Nat}{J:Prop}{a:St}(j:J)(w:Wk A s1 a)(h:k+1≤n:=by omega):k+1≤n∧J∧Wk A s1 a:=⟨h,j,w⟩
end
@[reducible] def bx (q E:Nat) (cs:List LV):Nat×Option Ent:=(q,some (.box E cs))
@[reducible] def ar (q E:Nat) (e:Ty) (xs:List e.Den):Nat×Option Ent:=(q,some (.arr E e xs))
@[reducible] def i2 (d:Nat) (a0 a1:PV) (l:List Item):List Item:=io (d) a0 :: io (Nat.succ (d)) a1 :: l
@[reducible] def i3 (d:Nat) (a0 a1 a2:PV) (l:List Item):List Item:=io (d) a0 :: io (Nat.succ (d)) a1 :: io (Nat.succ (Nat.succ (d))) a2 :: l
@[reducible] def i4 (d:Nat) (a0 a1 a2 a3:PV) (l:List Item):List Item:=io (d) a0 :: io (Nat.succ (d)) a1 :: io (Nat.succ (Nat.succ (d))) a2 :: io (Nat.succ (Nat.succ (Nat.succ (d)))) a3 :: l
@[reducible] def i5 (d:Nat) (a0 a1 a2 a3 a4:PV) (l:List Item):List Item:=io (d) a0 :: io (Nat.succ (d)) a1 :: io (Nat.succ (Nat.succ (d))) a2 :: io (Nat.succ (Nat.succ (Nat.succ (d)))) a3 :: io (Nat.succ (Nat.succ (Nat.succ (Nat.succ (d))))) a4 :: l
@[reducible] def i6 (d:Nat) (a0 a1 a2 a3 a4 a5:PV) (l:List Item):List Item:=io (d) a0 :: io (Nat.succ (d)) a1 :: io (Nat.succ (Nat.succ (d))) a2 :: io (Nat.succ (Nat.succ (Nat.succ (d)))) a3 :: io (Nat.succ (Nat.succ (Nat.succ (Nat.succ (d))))) a4 :: io (Nat.succ (Nat.succ (Nat.succ (Nat.succ (Nat.succ (d)))))) a5 :: l
@[reducible] def i7 (d:Nat) (a0 a1 a2 a3 a4 a5 a6:PV) (l:List Item):List Item:=io (d) a0 :: io (Nat.succ (d)) a1 :: io (Nat.succ (Nat.succ (d))) a2 :: io (Nat.succ (Nat.succ (Nat.succ (d)))) a3 :: io (Nat.succ (Nat.succ (Nat.succ (Nat.succ (d))))) a4 :: io (Nat.succ (Nat.succ (Nat.succ (Nat.succ (Nat.succ (d)))))) a5 :: io (Nat.succ (Nat.succ (Nat.succ (Nat.succ (Nat.succ (Nat.succ (d))))))) a6 :: l
@[reducible] def i8 (d:Nat) (a0 a1 a2 a3 a4 a5 a6 a7:PV) (l:List Item):List Item:=io (d) a0 :: io (Nat.succ (d)) a1 :: io (Nat.succ (Nat.succ (d))) a2 :: io (Nat.succ (Nat.succ (Nat.succ (d)))) a3 :: io (Nat.succ (Nat.succ (Nat.succ (Nat.succ (d))))) a4 :: io (Nat.succ (Nat.succ (Nat.succ (Nat.succ (Nat.succ (d)))))) a5 :: io (Nat.succ (Nat.succ (Nat.succ (Nat.succ (Nat.succ (Nat.succ (d))))))) a6 :: io (Nat.succ (Nat.succ (Nat.succ (Nat.succ (Nat.succ (Nat.succ (Nat.succ (d)))))))) a7 :: l
@[reducible] def i9 (d:Nat) (a0 a1 a2 a3 a4 a5 a6 a7 a8:PV) (l:List Item):List Item:=io (d) a0 :: io (Nat.succ (d)) a1 :: io (Nat.succ (Nat.succ (d))) a2 :: io (Nat.succ (Nat.succ (Nat.succ (d)))) a3 :: io (Nat.succ (Nat.succ (Nat.succ (Nat.succ (d))))) a4 :: io (Nat.succ (Nat.succ (Nat.succ (Nat.succ (Nat.succ (d)))))) a5 :: io (Nat.succ (Nat.succ (Nat.succ (Nat.succ (Nat.succ (Nat.succ (d))))))) a6 :: io (Nat.succ (Nat.succ (Nat.succ (Nat.succ (Nat.succ (Nat.succ (Nat.succ (d)))))))) a7 :: io (Nat.succ (Nat.succ (Nat.succ (Nat.succ (Nat.succ (Nat.succ (Nat.succ (Nat.succ (d))))))))) a8 :: l
theorem wI2 {G G1 G':Prop}(h1:G1→G:=by exact wI)(h2:G'→G1:=by exact wI):G'→G:=fun k=>h1 (h2 k)
theorem wI4 {G G1 G':Prop}(h1:G1→G:=by exact wI2)(h2:G'→G1:=by exact wI2):G'→G:=fun k=>h1 (h2 k)
theorem wI8 {G G1 G':Prop}(h1:G1→G:=by exact wI4)(h2:G'→G1:=by exact wI4):G'→G:=fun k=>h1 (h2 k)
theorem zI2 {G G1 G':Prop}(h1:G1→G:=by exact zI)(h2:G'→G1:=by exact zI):G'→G:=fun k=>h1 (h2 k)
theorem zI4 {G G1 G':Prop}(h1:G1→G:=by exact zI2)(h2:G'→G1:=by exact zI2):G'→G:=fun k=>h1 (h2 k)
theorem zI8 {G G1 G':Prop}(h1:G1→G:=by exact zI4)(h2:G'→G1:=by exact zI4):G'→G:=fun k=>h1 (h2 k)
theorem y1 {G G1:Prop}(h1:G1→G:=by exact zI)(h0:G1:=by exact zN):G:=h1 h0
theorem w2 {G G':Prop}(k:G')(h1:G'→G:=by exact wI2):G:=h1 k
theorem z2 {G G':Prop}(k:G')(h1:G'→G:=by exact zI2):G:=h1 k
theorem y2 {G G1:Prop}(h1:G1→G:=by exact zI2)(h0:G1:=by exact zN):G:=h1 h0
theorem w3 {G G1 G':Prop}(k:G')(h1:G1→G:=by exact wI2)(h2:G'→G1:=by exact wI):G:=h1 (h2 k)
theorem z3 {G G1 G':Prop}(k:G')(h1:G1→G:=by exact zI2)(h2:G'→G1:=by exact zI):G:=h1 (h2 k)
theorem y3 {G G1 G2:Prop}(h1:G1→G:=by exact zI2)(h2:G2→G1:=by exact zI)(h0:G2:=by exact zN):G:=h1 (h2 h0)
theorem w4 {G G':Prop}(k:G')(h1:G'→G:=by exact wI4):G:=h1 k
theorem z4 {G G':Prop}(k:G')(h1:G'→G:=by exact zI4):G:=h1 k
theorem y4 {G G1:Prop}(h1:G1→G:=by exact zI4)(h0:G1:=by exact zN):G:=h1 h0
theorem w5 {G G1 G':Prop}(k:G')(h1:G1→G:=by exact wI4)(h2:G'→G1:=by exact wI):G:=h1 (h2 k)
theorem z5 {G G1 G':Prop}(k:G')(h1:G1→G:=by exact zI4)(h2:G'→G1:=by exact zI):G:=h1 (h2 k)
theorem y5 {G G1 G2:Prop}(h1:G1→G:=by exact zI4)(h2:G2→G1:=by exact zI)(h0:G2:=by exact zN):G:=h1 (h2 h0)
theorem w6 {G G1 G':Prop}(k:G')(h1:G1→G:=by exact wI4)(h2:G'→G1:=by exact wI2):G:=h1 (h2 k)
theorem z6 {G G1 G':Prop}(k:G')(h1:G1→G:=by exact zI4)(h2:G'→G1:=by exact zI2):G:=h1 (h2 k)
theorem w7 {G G1 G2 G':Prop}(k:G')(h1:G1→G:=by exact wI4)(h2:G2→G1:=by exact wI2)(h3:G'→G2:=by exact wI):G:=h1 (h2 (h3 k))
theorem z7 {G G1 G2 G':Prop}(k:G')(h1:G1→G:=by exact zI4)(h2:G2→G1:=by exact zI2)(h3:G'→G2:=by exact zI):G:=h1 (h2 (h3 k))
theorem y7 {G G1 G2 G3:Prop}(h1:G1→G:=by exact zI4)(h2:G2→G1:=by exact zI2)(h3:G3→G2:=by exact zI)(h0:G3:=by exact zN):G:=h1 (h2 (h3 h0))
theorem w8 {G G':Prop}(k:G')(h1:G'→G:=by exact wI8):G:=h1 k
theorem z8 {G G':Prop}(k:G')(h1:G'→G:=by exact zI8):G:=h1 k
theorem y8 {G G1:Prop}(h1:G1→G:=by exact zI8)(h0:G1:=by exact zN):G:=h1 h0
theorem w9 {G G1 G':Prop}(k:G')(h1:G1→G:=by exact wI8)(h2:G'→G1:=by exact wI):G:=h1 (h2 k)
theorem z9 {G G1 G':Prop}(k:G')(h1:G1→G:=by exact zI8)(h2:G'→G1:=by exact zI):G:=h1 (h2 k)
theorem y9 {G G1 G2:Prop}(h1:G1→G:=by exact zI8)(h2:G2→G1:=by exact zI)(h0:G2:=by exact zN):G:=h1 (h2 h0)
theorem w10 {G G1 G':Prop}(k:G')(h1:G1→G:=by exact wI8)(h2:G'→G1:=by exact wI2):G:=h1 (h2 k)
theorem z10 {G G1 G':Prop}(k:G')(h1:G1→G:=by exact zI8)(h2:G'→G1:=by exact zI2):G:=h1 (h2 k)
theorem y10 {G G1 G2:Prop}(h1:G1→G:=by exact zI8)(h2:G2→G1:=by exact zI2)(h0:G2:=by exact zN):G:=h1 (h2 h0)
theorem w11 {G G1 G2 G':Prop}(k:G')(h1:G1→G:=by exact wI8)(h2:G2→G1:=by exact wI2)(h3:G'→G2:=by exact wI):G:=h1 (h2 (h3 k))
theorem z11 {G G1 G2 G':Prop}(k:G')(h1:G1→G:=by exact zI8)(h2:G2→G1:=by exact zI2)(h3:G'→G2:=by exact zI):G:=h1 (h2 (h3 k))
theorem y11 {G G1 G2 G3:Prop}(h1:G1→G:=by exact zI8)(h2:G2→G1:=by exact zI2)(h3:G3→G2:=by exact zI)(h0:G3:=by exact zN):G:=h1 (h2 (h3 h0))
theorem w12 {G G1 G':Prop}(k:G')(h1:G1→G:=by exact wI8)(h2:G'→G1:=by exact wI4):G:=h1 (h2 k)
theorem y12 {G G1 G2:Prop}(h1:G1→G:=by exact zI8)(h2:G2→G1:=by exact zI4)(h0:G2:=by exact zN):G:=h1 (h2 h0)
theorem w13 {G G1 G2 G':Prop}(k:G')(h1:G1→G:=by exact wI8)(h2:G2→G1:=by exact wI4)(h3:G'→G2:=by exact wI):G:=h1 (h2 (h3 k))
theorem y13 {G G1 G2 G3:Prop}(h1:G1→G:=by exact zI8)(h2:G2→G1:=by exact zI4)(h3:G3→G2:=by exact zI)(h0:G3:=by exact zN):G:=h1 (h2 (h3 h0))
theorem w14 {G G1 G2 G':Prop}(k:G')(h1:G1→G:=by exact wI8)(h2:G2→G1:=by exact wI4)(h3:G'→G2:=by exact wI2):G:=h1 (h2 (h3 k))
theorem z14 {G G1 G2 G':Prop}(k:G')(h1:G1→G:=by exact zI8)(h2:G2→G1:=by exact zI4)(h3:G'→G2:=by exact zI2):G:=h1 (h2 (h3 k))
theorem y14 {G G1 G2 G3:Prop}(h1:G1→G:=by exact zI8)(h2:G2→G1:=by exact zI4)(h3:G3→G2:=by exact zI2)(h0:G3:=by exact zN):G:=h1 (h2 (h3 h0))
theorem w15 {G G1 G2 G3 G':Prop}(k:G')(h1:G1→G:=by exact wI8)(h2:G2→G1:=by exact wI4)(h3:G3→G2:=by exact wI2)(h4:G'→G3:=by exact wI):G:=h1 (h2 (h3 (h4 k)))
theorem z15 {G G1 G2 G3 G':Prop}(k:G')(h1:G1→G:=by exact zI8)(h2:G2→G1:=by exact zI4)(h3:G3→G2:=by exact zI2)(h4:G'→G3:=by exact zI):G:=h1 (h2 (h3 (h4 k)))
theorem y15 {G G1 G2 G3 G4:Prop}(h1:G1→G:=by exact zI8)(h2:G2→G1:=by exact zI4)(h3:G3→G2:=by exact zI2)(h4:G4→G3:=by exact zI)(h0:G4:=by exact zN):G:=h1 (h2 (h3 (h4 h0)))
theorem w16 {G G1 G':Prop}(k:G')(h1:G1→G:=by exact wI8)(h2:G'→G1:=by exact wI8):G:=h1 (h2 k)
theorem z16 {G G1 G':Prop}(k:G')(h1:G1→G:=by exact zI8)(h2:G'→G1:=by exact zI8):G:=h1 (h2 k)
end Go.Proofs.YtndabgcpnmeeoaaGreat

/- Walks over abstract states: the best candidate as memory of one's own; conflicts resolved by insertions, both sides. -/
import Derived.Test.YtnakmhfjafecpaaGreatBo
set_option linter.unusedSimpArgs false
set_option linter.unusedVariables false
set_option linter.unusedSectionVars false
namespace Go.Proofs.YtnakmhfjafecpaaGreat
open Go.RowKit
set_option maxRecDepth 100000
set_option maxHeartbeats 4000000
section
variable {I S C A:Type}
@[reducible] def dC (g1:Hdr→S) (g2:Hdr→C) (g3:Hdr→A) (y:I×Hdr×Hdr×Hdr):I×S×C×A:=(y.1,g1 y.2.1,g2 y.2.2.1,g3 y.2.2.2)
variable {xs:List (I×S×C×A)}{y1:List (I×Hdr×C×A)}{y2:List (I×Hdr×Hdr×A)}{y3:List (I×Hdr×Hdr×Hdr)}{g1:Hdr→S}{g2:Hdr→C}{g3:Hdr→A}{v1 v2 v3:List Hdr}
theorem Qou (h1:(y1.map fun y=>(y.1,g1 y.2.1,y.2.2))=xs)(h2:(y2.map fun y=>(y.1,y.2.1,g2 y.2.2.1,y.2.2.2))=y1)(h3:(y3.map fun y=>(y.1,y.2.1,y.2.2.1,g3 y.2.2.2))=y2):y3.map (dC g1 g2 g3)=xs:=by
  subst h1 h2 h3
  simp[List.map_map,Function.comp_def]
theorem Qk5 (h1:(y1.map fun y=>(y.1,g1 y.2.1,y.2.2))=xs)(h2:(y2.map fun y=>(y.1,y.2.1,g2 y.2.2.1,y.2.2.2))=y1)(h3:(y3.map fun y=>(y.1,y.2.1,y.2.2.1,g3 y.2.2.2))=y2):y3.length=xs.length:=by
  rw[← Qou h1 h2 h3,List.length_map]
theorem Qn1 (h2:(y2.map fun y=>(y.1,y.2.1,g2 y.2.2.1,y.2.2.2))=y1)(h3:(y3.map fun y=>(y.1,y.2.1,y.2.2.1,g3 y.2.2.2))=y2)(e1:v1=none :: y1.map fun y=>y.2.1)(e2:v2=none :: y2.map fun y=>y.2.2.1)(e3:v3=none :: y3.map fun y=>y.2.2.2):
    ∀y∈y3,y.2.1∈v1∧y.2.2.1∈v2∧y.2.2.2∈v3:=by
  subst h2 h3 e1 e2 e3
  intro y hy
  refine ⟨List.mem_cons_of_mem _ ?_,List.mem_cons_of_mem _ ?_,List.mem_cons_of_mem _ ?_⟩
  · exact List.mem_map.2 ⟨_,List.mem_map.2 ⟨_,List.mem_map.2 ⟨y,hy,rfl⟩,rfl⟩,rfl⟩
  · exact List.mem_map.2 ⟨_,List.mem_map.2 ⟨y,hy,rfl⟩,rfl⟩
  · exact List.mem_map.2 ⟨y,hy,rfl⟩
theorem QnV {a b c:List Hdr}(e1:v1=none :: a)(e2:v2=none :: b)(e3:v3=none :: c):(none:Hdr)∈v1∧(none:Hdr)∈v2∧(none:Hdr)∈v3:=by
  subst e1 e2 e3; exact ⟨List.mem_cons_self ..,List.mem_cons_self ..,List.mem_cons_self ..⟩
theorem QmS {k:Nat}{y:I×Hdr×Hdr×Hdr}(h:y3.map (dC g1 g2 g3)=xs)(hy:y3[k]? =some y):xs[k]? =some (dC g1 g2 g3 y):=by rw[← h,List.getElem?_map,hy]; rfl
end
section
variable [∀c,Decidable (SgOk c)][∀s,Decidable (ZZ s)]
def Vv:Nat→DSg→List Yu→DSg×List Yu
  | 0,c,l=>(c,l)
  | f+1,c,l=>if 0 < (ZQ c).length∧(Zm c (QY c)).isSome=true∧Y3 c (QY c) < ((ZQ c).length:Int) then Vv f (Zi c (QY c)).2 (l++[Zu c (QY c)]) else (c,l)
def Zn (c:DSg):DSg×List Yu×Bool:=if SgOk c∧(ZQ (Vv 2 c []).1).length=0 then ((Vv 2 c []).1,(Vv 2 c []).2,true) else (W9,[],false)
variable {c og:DSg}{il:List Yu}{n:Nat}{x:Yu}
theorem QaJ (h:(Zm c (QY c)).isSome=true):∃y∈QY c,Zm c (QY c)=some y∧Zu c (QY c)=y∧Y3 c (QY c)=Qbl c y∧Zi c (QY c)=(y,(ZE c y).1):=by
  obtain ⟨y,hy⟩:=Option.isSome_iff_exists.1 h
  obtain ⟨e1,e2,e3,_,_⟩:=KP hy
  refine ⟨y, ?_,hy,e1,e3,e2⟩
  have hm:∀(l:List Yu) (m:Option Yu) (z:Yu),l.foldl (Qld c) m=some z→m=some z∨z∈l:=fun l=>by
    induction l with
    | nil=>intro m z h; exact .inl h
    | cons a l ih=>
      intro m z h
      rw[List.foldl_cons] at h
      rcases ih _ _ h with h | h
      · have:Qld c m a=m∨Qld c m a=some a:=by
          cases m with
          | none=>exact .inr rfl
          | some u=>simp only[Qld]; split <;> simp
        rcases this with e | e
        · rw[e] at h; exact .inl h
        · rw[e] at h; cases h; exact .inr (List.mem_cons_self ..)
      · exact .inr (List.mem_cons_of_mem _ h)
  rcases hm (QY c) none y hy with h | h
  · cases h
  · exact h
theorem Qcc (hs:SgOk c)(h:(Zm c (QY c)).isSome=true):SgOk (Zi c (QY c)).2:=by
  obtain ⟨y,h1,_,_,_,h5⟩:=QaJ h
  rw[h5]; exact QdR hs h1
theorem WP (h:¬SgOk c):Zn c=(W9,[],false):=if_neg fun g=>h g.1
theorem Zo (h:Vv 2 c []=(og,il))(h2:¬(ZQ og).length=0):Zn c=(W9,[],false):=if_neg fun g=>h2 (by rw[h] at g; exact g.2)
theorem Xb (hs:SgOk c)(h:Vv 2 c []=(og,il))(h2:(ZQ og).length=0):Zn c=(og,il,true):=by unfold Zn; rw[h]; exact if_pos ⟨hs,h2⟩
theorem Yc (h:¬(0 < (ZQ og).length∧(Zm og (QY og)).isSome=true∧Y3 og (QY og) < ((ZQ og).length:Int))):Vv n og il=(og,il):=by
  cases n with
  | zero=>rfl
  | succ n=>rw[Vv,if_neg h]
theorem Qnt (hn:il.length < 2)(h:0 < (ZQ og).length∧(Zm og (QY og)).isSome=true∧Y3 og (QY og) < ((ZQ og).length:Int)):Vv (2 - il.length) og il=Vv (2 - (il++[(Zi og (QY og)).1]).length) (Zi og (QY og)).2 (il++[(Zi og (QY og)).1]):=by
  rw[List.length_append,QnL]
  show _=Vv (2 - (il.length+1)) _ _
  rw[show 2 - il.length=(2 - (il.length+1))+1 by omega,Vv,if_pos h]
theorem Qa4 (hs:SgOk c)(h:(Zm c (QY c)).isSome=true):YR c (Zu c (QY c))=Y3 c (QY c)∧(ZE c (Zu c (QY c))).1=(Zi c (QY c)).2:=by
  obtain ⟨y,h1,_,h3,h4,h5⟩:=QaJ h
  rw[h3,h4,h5,(Qde hs h1).1]; exact ⟨rfl,rfl⟩
theorem Ql1 (hs:SgOk c)(h:(Zm c (QY c)).isSome=true):SgOk (ZE c (Zu c (QY c))).1:=by
  rw[(Qa4 hs h).2]; exact Qcc hs h
theorem QmU {k:Nat}(hs:SgOk og)(hk:k < 2)(h0:0 < ((ZQ og).length:Int))(h1:(Zm og (QY og)).isSome=true)(h2:YR og (Zu og (QY og)) < ((ZQ og).length:Int)):
    Vv (2 - k) og il=Vv (2 - (k+1)) (ZE og (Zu og (QY og))).1 (il++[Zu og (QY og)]):=by
  obtain ⟨e1,e2⟩:=Qa4 hs h1
  rw[e1] at h2
  rw[e2,show 2 - k=(2 - (k+1))+1 by omega,Vv,if_pos ⟨by omega,h1,h2⟩]
theorem Z1 (hs:SgOk og)(h:((ZQ og).length:Int)=0∨(Zm og (QY og)).isSome=false∨((ZQ og).length:Int)≤YR og (Zu og (QY og))):Vv n og il=(og,il):=by
  refine Yc fun g=> ?_
  obtain ⟨g1,g2,g3⟩:=g
  rcases h with h | h | h
  · omega
  · rw[h] at g2; cases g2
  · rw[(Qa4 hs g2).1] at h; omega
end
theorem Qgb (c:(List (ByteArray×Int))×List ByteArray×(List (Int×Int×Bool×Int)))[∀c,Decidable (SgOk c)][∀s,Decidable (ZZ s)](hs:SgOk c):FC Tryz.prog 83 [(true,[.dat (.sl 145 (.pr .str .int)) c.1, .dat (.sl 9 .str) c.2.1, .dat (.sl 179 (.pr .int (.pr .int (.pr .bool .int)))) c.2.2])] [] 0 (Is (PV.tup [(true,[dI ((((Zi c (QY c)).1).1).1),dB ((((Zi c (QY c)).1).1).2),dI ((((Zi c (QY c)).1).2).1),dB ((((Zi c (QY c)).1).2).2), .ref 0, .ref 1, .ref 2]),(false,[dI (Y3 c (QY c))]),(false,[dB ((Zm c (QY c)).isSome)])]) [(0,some (.arr 145 (.pr .str .int) (((Zi c (QY c)).2).1))),(1,some (.arr 9 .str (((Zi c (QY c)).2).2.1))),(2,some (.arr 179 (.pr .int (.pr .int (.pr .bool .int))) (((Zi c (QY c)).2).2.2)))]):=by
 have hs8:=hs.sigs.2.2
 have hll:=WA (k:=c.1.length)
 have hcf:=QbB (c:=c) hs8
 have hcl:(QY c).length≤256:=hcf (Zf c.1.length) (by omega)
 have hwl:=Qai (c:=c) (QY c)
 refine QQ Tryz.func83 rfl rfl Tryz.ntmps83 fun O_ hO w0_ N0_ X_ h0_ f0_=> ?_
 refine w_ ?_
 refine lc (Qr 0 (Qb rfl) rfl rfl (Fresh.of rfl) (nlr rfl))<|lc (Qw 1 (.pr (.pr (.pr .int .bool) (.pr .int .bool)) (.pr (.sl 145 (.pr .str .int)) (.pr (.sl 9 .str) (.sl 179 (.pr .int (.pr .int (.pr .bool .int))))))) UV rfl rfl (Fresh.of rfl) (nlr rfl)) ?_
 iterate 4 refine w_ ?_
 refine lc (QC QjS rfl (List.all_eq_true.1 rfl) rfl rfl)<|lc (Qw 2 (.pr (.pr (.pr .int .bool) (.pr .int .bool)) (.pr (.sl 145 (.pr .str .int)) (.pr (.sl 9 .str) (.sl 179 (.pr .int (.pr .int (.pr .bool .int))))))) UV rfl rfl (Fresh.of rfl) (nlr rfl))<|lc (Qf (Qa rfl) rfl (Qb rfl) rfl XX rfl) ?_
 iterate 6 refine w_ ?_
 refine lc (Y7 3 (JE c hs) QkS ⟨_,_,rfl,(Qb rfl),rfl⟩ rfl (Fresh.of rfl) (nlr rfl)) ?_
 iterate 4 refine w_ ?_
 refine AC.openS (q:=3) 4 (Vl (.pr (.pr .int .bool) (.pr .int .bool)) (Qem (.pr (.sl 9 .str) (.sl 179 (.pr .int (.pr .int (.pr .bool .int))))) (JG 145 (.pr .str .int)))) rfl (Fresh.of rfl) (nlr rfl) fun ys1 vs1 gf1 hy1v hy1n hy1=>AC.openS (q:=3) 5 (Vl (.pr (.pr .int .bool) (.pr .int .bool)) (Vl .vl (Qem (.sl 179 (.pr .int (.pr .int (.pr .bool .int)))) (JG 9 .str)))) rfl (Fresh.of rfl) (nlr rfl) fun ys2 vs2 gf2 hy2v hy2n hy2=>AC.openS (q:=3) 6 (Vl (.pr (.pr .int .bool) (.pr .int .bool)) (Vl .vl (Vl .vl (JG 179 (.pr .int (.pr .int (.pr .bool .int))))))) rfl (Fresh.of rfl) (nlr rfl) fun ys3 vs3 gf3 hy3v hy3n hy3=> ?_
 have hmp:=Qou hy1 hy2 hy3
 have hyl:=Qk5 hy1 hy2 hy3
 have hym:=Qn1 hy2 hy3 hy1v hy2v hy3v
 refine AC.wk (QnF (p:=2) [dI 0,dB false,dI 0,dB false, .dat .vl none, .dat .vl none, .dat .vl none] rfl ⟨_,_,rfl, .inl rfl,⟨_,_,rfl, .inl rfl,⟨_,_,rfl, .inl rfl,⟨_,_,rfl, .inl rfl,⟨_,_,rfl, .inr ⟨rfl,rfl⟩,⟨_,_,rfl, .inr ⟨rfl,rfl⟩,⟨_,_,rfl, .inr ⟨rfl,rfl⟩,rfl⟩⟩⟩⟩⟩⟩⟩) ?_
 refine Qy (fun m_ s_=>∃(k:Nat) (cand:((Int×Bool)×(Int×Bool))×(Hdr×Hdr×Hdr)) (few:Int) (fnd:Bool),k≤ys3.length∧m_=ys3.length - k∧(dC gf1 gf2 gf3 cand=Zi c ((QY c).take k)∧few=Y3 c ((QY c).take k)∧fnd=(Zm c ((QY c).take k)).isSome)∧(cand.2.1∈vs1∧cand.2.2.1∈vs2∧cand.2.2.2∈vs3)∧s_=⟨[(2,lP 1 0),(3,lI 0),(4,lB false),(5,lP 2 0),(6,lI few),(7,lB fnd),(13,lR 3),(14,lI ((Ve c (QY c)).length:Int)),(15,lI (k:Int))],[(1,some (.box 129 [dI 0,dB false,dI 0,dB false, .val (.slice none 0 0), .val (.slice none 0 0), .val (.slice none 0 0)])),(2,some (.box 129 [dI cand.1.1.1,dB cand.1.1.2,dI cand.1.2.1,dB cand.1.2.2, .dat .vl cand.2.1, .dat .vl cand.2.2.1, .dat .vl cand.2.2.2])),(3,some (.arr 129 (.pr (.pr (.pr .int .bool) (.pr .int .bool)) (.pr .vl (.pr .vl .vl))) ys3)),(4,some (.pl true (.sl 145 (.pr .str .int)) vs1 gf1)),(5,some (.pl true (.sl 9 .str) vs2 gf2)),(6,some (.pl true (.sl 179 (.pr .int (.pr .int (.pr .bool .int)))) vs3 gf3))]⟩) ⟨0,((((0,false),(0,false)),(none,none,none)):((Int×Bool)×(Int×Bool))×(Hdr×Hdr×Hdr)),0,false,Nat.zero_le _,rfl,⟨by simp only[dC,hy1n,hy2n,hy3n]; rfl,rfl,rfl⟩,(QnV hy1v hy2v hy3v),rfl⟩ ?_ ?_
 · exact Wk.of [(1,1),(2,2),(3,3),(4,4),(5,5),(6,6)] rfl ⟨rfl,rfl,rfl,rfl,rfl,rfl,rfl,rfl,rfl,trivial⟩ ⟨rfl,rfl,rfl,rfl,rfl,rfl,trivial⟩ rfl rfl
 rintro m_ s_ ⟨k,cand,few,fnd,hk1,hm2,hB,hM,rfl⟩
 iterate 4 refine w_ ?_
 cases hb3:(decide ((k:Int) < ((Ve c (QY c)).length:Int)))
 ·have hb3':=of_decide_eq_false hb3
  refine w_ ?_
  refine QA ?_
  refine (?_:AC _ _ _ _ _)
  iterate 4 refine w_ ?_
  refine lc (Qf (Qa rfl) rfl (Qb rfl) rfl XX rfl) ?_
  iterate 3 refine w_ ?_
  refine AC.wk (Qb5 7 (p:=4) (v:=1) (off:=4) rfl rfl rfl hM.1 (Fresh.of rfl) (nlr rfl))<|AC.wk (Qb5 8 (p:=5) (v:=1) (off:=5) rfl rfl rfl hM.2.1 (Fresh.of rfl) (nlr rfl))<|AC.wk (Qb5 9 (p:=6) (v:=1) (off:=6) rfl rfl rfl hM.2.2 (Fresh.of rfl) (nlr rfl))<|Qe ?_
  subst hO
  have e4:(cand.1.1.1:Int)=((((Zi c (QY c)).1).1).1):=by
   (rw[Zh (by omega)] at hB; first | rw[← hB.1] | rw[hB.2.1] | rw[hB.2.2])
  have e5:(cand.1.1.2:Bool)=((((Zi c (QY c)).1).1).2):=by
   (rw[Zh (by omega)] at hB; first | rw[← hB.1] | rw[hB.2.1] | rw[hB.2.2])
  have e6:(cand.1.2.1:Int)=((((Zi c (QY c)).1).2).1):=by
   (rw[Zh (by omega)] at hB; first | rw[← hB.1] | rw[hB.2.1] | rw[hB.2.2])
  have e7:(cand.1.2.2:Bool)=((((Zi c (QY c)).1).2).2):=by
   (rw[Zh (by omega)] at hB; first | rw[← hB.1] | rw[hB.2.1] | rw[hB.2.2])
  have e8:(few:Int)=(Y3 c (QY c)):=by
   (rw[Zh (by omega)] at hB; first | rw[← hB.1] | rw[hB.2.1] | rw[hB.2.2])
  have e9:(fnd:Bool)=((Zm c (QY c)).isSome):=by
   (rw[Zh (by omega)] at hB; first | rw[← hB.1] | rw[hB.2.1] | rw[hB.2.2])
  exact Q2 _ _ [(0,7),(1,8),(2,9)] (Zj rfl (Zk rfl rfl XX rfl) (Qc rfl) (Qc rfl)) (((((((congrArg (fun z_=>PV.tup [(true,[dI z_,dB cand.1.1.2,dI cand.1.2.1,dB cand.1.2.2, .ref 7, .ref 8, .ref 9]),(false,[dI few]),(false,[dB fnd])]) e4)).trans (congrArg (fun z_=>PV.tup [(true,[dI ((((Zi c (QY c)).1).1).1),dB z_,dI cand.1.2.1,dB cand.1.2.2, .ref 7, .ref 8, .ref 9]),(false,[dI few]),(false,[dB fnd])]) e5)).trans (congrArg (fun z_=>PV.tup [(true,[dI ((((Zi c (QY c)).1).1).1),dB ((((Zi c (QY c)).1).1).2),dI z_,dB cand.1.2.2, .ref 7, .ref 8, .ref 9]),(false,[dI few]),(false,[dB fnd])]) e6)).trans (congrArg (fun z_=>PV.tup [(true,[dI ((((Zi c (QY c)).1).1).1),dB ((((Zi c (QY c)).1).1).2),dI ((((Zi c (QY c)).1).2).1),dB z_, .ref 7, .ref 8, .ref 9]),(false,[dI few]),(false,[dB fnd])]) e7)).trans (congrArg (fun z_=>PV.tup [(true,[dI ((((Zi c (QY c)).1).1).1),dB ((((Zi c (QY c)).1).1).2),dI ((((Zi c (QY c)).1).2).1),dB ((((Zi c (QY c)).1).2).2), .ref 7, .ref 8, .ref 9]),(false,[dI z_]),(false,[dB fnd])]) e8)).trans (congrArg (fun z_=>PV.tup [(true,[dI ((((Zi c (QY c)).1).1).1),dB ((((Zi c (QY c)).1).1).2),dI ((((Zi c (QY c)).1).2).1),dB ((((Zi c (QY c)).1).2).2), .ref 7, .ref 8, .ref 9]),(false,[dI (Y3 c (QY c))]),(false,[dB z_])]) e9)) ⟨(Qv (by (rw[Zh (by omega)] at hB; first | rw[← hB.1] | rw[hB.2.1] | rw[hB.2.2]))),(Qv (by (rw[Zh (by omega)] at hB; first | rw[← hB.1] | rw[hB.2.1] | rw[hB.2.2]))),(Qv (by (rw[Zh (by omega)] at hB; first | rw[← hB.1] | rw[hB.2.1] | rw[hB.2.2]))),trivial⟩ rfl rfl
 ·have hb3':=of_decide_eq_true hb3
  iterate 5 refine w_ ?_
  refine lc (Qq (e:=(.pr (.pr (.pr .int .bool) (.pr .int .bool)) (.pr .vl (.pr .vl .vl)))) (Qa rfl) rfl (Qa rfl) QbL XX rfl (by omega) (by first | omega | (simp only[List.length_set]; omega))) ?_
  obtain ⟨y,hx11⟩:∃z,ys3[k]? =some z:=⟨_,List.getElem?_eq_getElem (by omega)⟩
  have hyk:=QmS hmp hx11
  obtain ⟨xk,hxk,hzk⟩:=QmA hyk
  have hymk:=hym _ (List.mem_of_getElem? hx11)
  refine lc (W2 (e:=(.pr (.pr (.pr .int .bool) (.pr .int .bool)) (.pr .vl (.pr .vl .vl)))) (Qa rfl) rfl hx11 rfl XX rfl rfl)<|lc (Qw 10 (.pr (.pr (.pr .int .bool) (.pr .int .bool)) (.pr (.sl 145 (.pr .str .int)) (.pr (.sl 9 .str) (.sl 179 (.pr .int (.pr .int (.pr .bool .int))))))) UV rfl rfl (Fresh.of rfl) (nlr rfl))<|lc (Qf (Qa rfl) rfl (Qb rfl) rfl XX rfl) ?_
  iterate 4 refine w_ ?_
  refine Qd5 (VN ((gf1 y.2.1),(gf2 y.2.2.1),(gf3 y.2.2.2)) (by show SgW (dC gf1 gf2 gf3 y).2; rw[hzk]; exact SgOk.w (QdR hs (List.mem_of_getElem? hxk)))).lens Qef ⟨_,_,rfl,(Qpn (Qb rfl) ⟨_,_,rfl, .inr (.inr ⟨4,_,_,_,_,_,rfl,rfl,hymk.1,rfl⟩),⟨_,_,rfl, .inr (.inr ⟨5,_,_,_,_,_,rfl,rfl,hymk.2.1,rfl⟩),⟨_,_,rfl, .inr (.inr ⟨6,_,_,_,_,_,rfl,rfl,hymk.2.2,rfl⟩),rfl⟩⟩⟩),rfl⟩ (fun _=>rfl) (fun _=>rfl) rfl fun v12 hv13=>lc (Qd4 (Qa rfl) hv13 rfl YK) ?_
  iterate 6 refine w_ ?_
  cases hb14:(fnd)
  ·iterate 9 refine w_ ?_
   refine Qo rfl rfl rfl ?_ rfl
   refine Qo rfl rfl rfl ?_ rfl
   refine Qo rfl rfl rfl ?_ rfl
   refine Qo rfl rfl rfl ?_ rfl
   refine Qo rfl rfl rfl ?_ rfl
   refine Qo rfl rfl rfl ?_ rfl
   refine Qo rfl rfl rfl ?_ rfl
   refine Qo rfl rfl rfl ?_ rfl
   refine Qo rfl rfl rfl ?_ rfl
   iterate 7 refine w_ ?_
   refine lc (Qf (Qa rfl) rfl (Qb rfl) rfl XX rfl) ?_
   iterate 2 refine w_ ?_
   refine Qj ?_
   refine (?_:AC _ _ _ _ _)
   iterate 3 refine w_ ?_
   refine Qj<|QS ⟨k+1,y,((ZQ ((gf1 y.2.1),(gf2 y.2.2.1),(gf3 y.2.2.2))).length:Int),true,by omega,rfl,(by exact QeN hxk hzk hB (.inl (by assumption))),(by exact hymk),rfl⟩ (by omega) ?_
   exact Wk.of [(1,1),(2,2),(3,3),(4,4),(5,5),(6,6)] rfl ⟨rfl,rfl,rfl,rfl,rfl,rfl,rfl,rfl,rfl,trivial⟩ ⟨rfl,rfl,rfl,rfl,rfl,rfl,trivial⟩ rfl rfl
  ·iterate 5 refine w_ ?_
   cases hb15:(decide (((ZQ ((gf1 y.2.1),(gf2 y.2.2.1),(gf3 y.2.2.2))).length:Int) < few))
   ·have hb15':=of_decide_eq_false hb15
    iterate 4 refine w_ ?_
    cases hb16:(decide (((ZQ ((gf1 y.2.1),(gf2 y.2.2.1),(gf3 y.2.2.2))).length:Int)=few))
    ·have hb16':=of_decide_eq_false hb16
     iterate 13 refine w_ ?_
     refine AC.skip ?_
     refine (?_:AC _ _ _ _ _)
     iterate 3 refine w_ ?_
     refine Qj<|QS ⟨k+1,cand,few,true,by omega,rfl,(by exact QjF hxk hzk hB (by assumption) (by assumption) (fun g=>absurd g.1 (by assumption))),(by exact hM),rfl⟩ (by omega) ?_
     exact Wk.of [(1,1),(2,2),(3,3),(4,4),(5,5),(6,6)] rfl ⟨rfl,rfl,rfl,rfl,rfl,rfl,rfl,rfl,rfl,trivial⟩ ⟨rfl,rfl,rfl,rfl,rfl,rfl,trivial⟩ rfl rfl
    ·have hb16':=of_decide_eq_true hb16
     iterate 3 refine w_ ?_
     refine lgy rfl rfl (QdO (p:=5) (Qa rfl) rfl hymk.2.1 rfl ZL) ?_
     iterate 3 refine w_ ?_
     refine lgy rfl rfl (QdO (p:=5) (Qa rfl) rfl hM.2.1 rfl ZL) ?_
     iterate 4 refine w_ ?_
     cases hb17:(decide (((gf2 y.2.2.1).length:Int) < ((gf2 cand.2.2.1).length:Int)))
     ·have hb17':=of_decide_eq_false hb17
      refine w_ ?_
      refine AC.skip ?_
      refine (?_:AC _ _ _ _ _)
      iterate 3 refine w_ ?_
      refine Qj<|QS ⟨k+1,cand,few,true,by omega,rfl,(by exact QjF hxk hzk hB (by assumption) (by assumption) (fun g=>absurd g.2 (by assumption))),(by exact hM),rfl⟩ (by omega) ?_
      exact Wk.of [(1,1),(2,2),(3,3),(4,4),(5,5),(6,6)] rfl ⟨rfl,rfl,rfl,rfl,rfl,rfl,rfl,rfl,rfl,trivial⟩ ⟨rfl,rfl,rfl,rfl,rfl,rfl,trivial⟩ rfl rfl
     ·have hb17':=of_decide_eq_true hb17
      iterate 4 refine w_ ?_
      refine lc (Qf (Qa rfl) rfl (Qb rfl) rfl XX rfl) ?_
      iterate 2 refine w_ ?_
      refine Qj ?_
      refine (?_:AC _ _ _ _ _)
      iterate 3 refine w_ ?_
      refine Qj<|QS ⟨k+1,y,((ZQ ((gf1 y.2.1),(gf2 y.2.2.1),(gf3 y.2.2.2))).length:Int),true,by omega,rfl,(by exact QeN hxk hzk hB (.inr (.inr ⟨by assumption,by assumption⟩))),(by exact hymk),rfl⟩ (by omega) ?_
      exact Wk.of [(1,1),(2,2),(3,3),(4,4),(5,5),(6,6)] rfl ⟨rfl,rfl,rfl,rfl,rfl,rfl,rfl,rfl,rfl,trivial⟩ ⟨rfl,rfl,rfl,rfl,rfl,rfl,trivial⟩ rfl rfl
   ·have hb15':=of_decide_eq_true hb15
    iterate 4 refine w_ ?_
    refine Qo rfl rfl rfl ?_ rfl
    refine Qo rfl rfl rfl ?_ rfl
    refine Qo rfl rfl rfl ?_ rfl
    refine Qo rfl rfl rfl ?_ rfl
    refine Qo rfl rfl rfl ?_ rfl
    refine Qo rfl rfl rfl ?_ rfl
    refine Qo rfl rfl rfl ?_ rfl
    refine Qo rfl rfl rfl ?_ rfl
    refine Qo rfl rfl rfl ?_ rfl
    iterate 7 refine w_ ?_
    refine lc (Qf (Qa rfl) rfl (Qb rfl) rfl XX rfl) ?_
    iterate 2 refine w_ ?_
    refine Qj ?_
    refine (?_:AC _ _ _ _ _)
    iterate 3 refine w_ ?_
    refine Qj<|QS ⟨k+1,y,((ZQ ((gf1 y.2.1),(gf2 y.2.2.1),(gf3 y.2.2.2))).length:Int),true,by omega,rfl,(by exact QeN hxk hzk hB (.inr (.inl (by assumption)))),(by exact hymk),rfl⟩ (by omega) ?_
    exact Wk.of [(1,1),(2,2),(3,3),(4,4),(5,5),(6,6)] rfl ⟨rfl,rfl,rfl,rfl,rfl,rfl,rfl,rfl,rfl,trivial⟩ ⟨rfl,rfl,rfl,rfl,rfl,rfl,trivial⟩ rfl rfl
theorem UP (c:(List (ByteArray×Int))×List ByteArray×(List (Int×Int×Bool×Int)))(hs:SgOk c):FC Tryz.prog 100 [(true,[.dat (.sl 145 (.pr .str .int)) c.1, .dat (.sl 9 .str) c.2.1, .dat (.sl 179 (.pr .int (.pr .int (.pr .bool .int)))) c.2.2])] [] 0 (Is (ag [.ref 0, .ref 1, .ref 2]) [(0,some (.arr 145 (.pr .str .int) c.1)),(1,some (.arr 9 .str c.2.1)),(2,some (.arr 179 (.pr .int (.pr .int (.pr .bool .int))) c.2.2))]):=by
 have hs8:=hs.sigs.2.2
 have hn3:=hs.some_
 have hfw:=hs.few
 refine QQ Tryz.func100 rfl rfl Tryz.ntmps100 fun O_ hO w0_ N0_ X_ h0_ f0_=> ?_
 refine w_ ?_
 refine lc (Qr 0 (Qb rfl) rfl rfl (Fresh.of rfl) (nlr rfl))<|lc (Qw 1 (.pr (.sl 145 (.pr .str .int)) (.pr (.sl 9 .str) (.sl 179 (.pr .int (.pr .int (.pr .bool .int)))))) YB rfl rfl (Fresh.of rfl) (nlr rfl)) ?_
 refine w_ ?_
 refine dw [⟨some 3,lR 2,[(2,some (.arr 145 (.pr .str .int) ([])))]⟩,io 4 (lP 0 0),io 5 (lf (.dat (.sl 145 (.pr .str .int)) c.1)),⟨some 6,lR 3,[(3,some (.arr 145 (.pr .str .int) (([])++c.1))),(2,none)]⟩,⟨some 7,lR 4,[(4,some (.arr 9 .str ([])))]⟩,io 8 (lP 0 1),io 9 (lf (.dat (.sl 9 .str) c.2.1)),⟨some 10,lR 5,[(5,some (.arr 9 .str (([])++c.2.1))),(4,none)]⟩,⟨some 11,lR 6,[(6,some (.arr 179 (.pr .int (.pr .int (.pr .bool .int))) ([])))]⟩,io 12 (lP 0 2),io 13 (lf (.dat (.sl 179 (.pr .int (.pr .int (.pr .bool .int)))) c.2.2)),⟨some 14,lR 7,[(7,some (.arr 179 (.pr .int (.pr .int (.pr .bool .int))) (([])++c.2.2))),(6,none)]⟩,io 15 (ag [.ref 3, .ref 5, .ref 7]),⟨none,lf (.val undef),[(1,some (.box 59 [.ref 3, .ref 5, .ref 7]))]⟩] [0,0,2,7,0,0,32,127,0,0,512,2047,4095,8191] mixed rfl (by kernel_rfl) ⟨fun _ h_=>ac (Qk 2 (e:=(.pr .str .int)) Yh Yj Wq rfl rfl (List.all_eq_true.1 rfl) ⟨rfl,rfl⟩ (by decide) rfl rfl (h_.fr 2 rfl) (nlr rfl)) rfl,dxf KS rfl rfl rfl,dxl JQ rfl rfl rfl rfl rfl,fun _ h_=>ac (ZI 3 (h_.v rfl) (h_.en 2 rfl) (Evl.rep (h_.v rfl)) rfl Yh K8 (by first | omega | (simp only[List.length_append,List.length_map,List.length_take,List.length_cons,List.length_nil]; omega) | (simp only[List.length_append,List.length_drop,List.length_take,List.length_cons,List.length_nil]; omega)) rfl (h_.fr 3 rfl) (nlr rfl)) rfl,fun _ h_=>ac (Qk 4 (e:= .str) ZL Zx Qcu rfl rfl (List.all_eq_true.1 rfl) ⟨rfl,rfl⟩ (by decide) rfl rfl (h_.fr 4 rfl) (nlr rfl)) rfl,dxf Z9 rfl rfl rfl,dxl Xc rfl rfl rfl rfl rfl,fun _ h_=>ac (ZI 5 (h_.v rfl) (h_.en 4 rfl) (Evl.rep (h_.v rfl)) rfl ZL QjD (by first | omega | (simp only[List.length_append,List.length_map,List.length_take,List.length_cons,List.length_nil]; omega) | (simp only[List.length_append,List.length_drop,List.length_take,List.length_cons,List.length_nil]; omega)) rfl (h_.fr 5 rfl) (nlr rfl)) rfl,fun _ h_=>ac (Qk 6 (e:=(.pr .int (.pr .int (.pr .bool .int)))) Q9 QJ Zq rfl rfl (List.all_eq_true.1 rfl) ⟨rfl,rfl⟩ (by decide) rfl rfl (h_.fr 6 rfl) (nlr rfl)) rfl,dxf YZ rfl rfl rfl,dxl WD rfl rfl rfl rfl rfl,fun _ h_=>ac (ZI 7 (h_.v rfl) (h_.en 6 rfl) (Evl.rep (h_.v rfl)) rfl Q9 Vh (by first | omega | (simp only[List.length_append,List.length_map,List.length_take,List.length_cons,List.length_nil]; omega) | (simp only[List.length_append,List.length_drop,List.length_take,List.length_cons,List.length_nil]; omega)) rfl (h_.fr 7 rfl) (nlr rfl)) rfl,fun _ h_=>ac (QC Yw ⟨_,_,rfl,(h_.w rfl),⟨_,_,rfl,(h_.w rfl),⟨_,_,rfl,(h_.w rfl),rfl⟩⟩⟩ (List.all_eq_true.1 (by simp only[Yf,Up,List.all_cons,List.all_nil]; rw[(h_.en 3 rfl),(h_.en 5 rfl),(h_.en 7 rfl)]; rfl)) rfl rfl) rfl,fun _ h_=>ac (Qf (h_.v rfl) (h_.en 1 rfl) (h_.w rfl) (by simp only[Yf,Up,List.all_cons,List.all_nil]; rw[(h_.en 3 rfl),(h_.en 5 rfl),(h_.en 7 rfl)]; rfl) QK rfl) rfl,⟨⟩⟩<|Qe ?_
 subst hO
 exact Q2 _ _ [(0,3),(1,5),(2,7)] (Qd rfl (Zk rfl rfl QK rfl)) (rfl) ⟨(Qv (by rfl)),(Qv (by rfl)),(Qv (by rfl)),trivial⟩ rfl rfl
theorem QcB (l:List ByteArray)(hl:l.length≤100000):FC Tryz.prog 179 [(false,[.dat (.sl 9 .str) l])] [] 0 (XZ 9 .str l):=by
 refine QQ Tryz.func179 rfl rfl Tryz.ntmps179 fun O_ hO w0_ N0_ X_ h0_ f0_=> ?_
 iterate 4 refine w_ ?_
 refine lc (Qk 0 (e:= .str) ZL Zx Qcu rfl rfl (List.all_eq_true.1 rfl) ⟨rfl,rfl⟩ (by decide) rfl rfl (Fresh.of rfl) (nlr rfl)) ?_
 refine w_ ?_
 refine lc (ZI 1 (Qa rfl) rfl (Evl.rep (Qa rfl)) rfl ZL QjD (by first | omega | (simp only[List.length_append,List.length_map,List.length_take,List.length_cons,List.length_nil]; omega) | (simp only[List.length_append,List.length_drop,List.length_take,List.length_cons,List.length_nil]; omega)) rfl (Fresh.of rfl) (nlr rfl)) ?_
 iterate 2 refine w_ ?_
 refine Qe ?_
 subst hO
 refine ZC (e:= .str) (xs:=(([])++l)) (Qd rfl (Qc rfl)) rfl ?_
 rfl
theorem Qdo (c:(List (ByteArray×Int))×List ByteArray×(List (Int×Int×Bool×Int)))(hs:SgOk c):FC Tryz.prog 99 [(true,[.dat (.sl 145 (.pr .str .int)) c.1, .dat (.sl 9 .str) c.2.1, .dat (.sl 179 (.pr .int (.pr .int (.pr .bool .int)))) c.2.2])] [] 0 (Is (ag [.ref 0, .ref 1, .ref 2]) [(0,some (.arr 145 (.pr .str .int) c.1)),(1,some (.arr 9 .str c.2.1)),(2,some (.arr 179 (.pr .int (.pr .int (.pr .bool .int))) c.2.2))]):=by
 have hs8:=hs.sigs.2.2
 have hn3:=hs.some_
 have hfw:=hs.few
 refine QQ Tryz.func99 rfl rfl Tryz.ntmps99 fun O_ hO w0_ N0_ X_ h0_ f0_=> ?_
 refine w_ ?_
 refine lc (Qr 0 (Qb rfl) rfl rfl (Fresh.of rfl) (nlr rfl))<|lc (Qw 1 (.pr (.sl 145 (.pr .str .int)) (.pr (.sl 9 .str) (.sl 179 (.pr .int (.pr .int (.pr .bool .int)))))) YB rfl rfl (Fresh.of rfl) (nlr rfl)) ?_
 refine w_ ?_
 refine dw [⟨some 3,lR 2,[(2,some (.arr 145 (.pr .str .int) ([])))]⟩,io 4 (lP 0 0),io 5 (lf (.dat (.sl 145 (.pr .str .int)) c.1)),⟨some 6,lR 3,[(3,some (.arr 145 (.pr .str .int) (([])++c.1))),(2,none)]⟩,io 7 (lP 0 1),io 8 (lf (.dat (.sl 9 .str) c.2.1)),⟨some 9,lR 4,[(4,some (.arr 9 .str c.2.1))]⟩,⟨some 10,lR 5,[(5,some (.arr 179 (.pr .int (.pr .int (.pr .bool .int))) ([])))]⟩,io 11 (lP 0 2),io 12 (lf (.dat (.sl 179 (.pr .int (.pr .int (.pr .bool .int)))) c.2.2)),⟨some 13,lR 6,[(6,some (.arr 179 (.pr .int (.pr .int (.pr .bool .int))) (([])++c.2.2))),(5,none)]⟩,io 14 (ag [.ref 3, .ref 4, .ref 6]),⟨none,lf (.val undef),[(1,some (.box 59 [.ref 3, .ref 4, .ref 6]))]⟩] [0,0,2,7,0,16,63,0,0,256,1023,2047,4095] mixed rfl (by kernel_rfl) ⟨fun _ h_=>ac (Qk 2 (e:=(.pr .str .int)) Yh Yj Wq rfl rfl (List.all_eq_true.1 rfl) ⟨rfl,rfl⟩ (by decide) rfl rfl (h_.fr 2 rfl) (nlr rfl)) rfl,dxf KS rfl rfl rfl,dxl JQ rfl rfl rfl rfl rfl,fun _ h_=>ac (ZI 3 (h_.v rfl) (h_.en 2 rfl) (Evl.rep (h_.v rfl)) rfl Yh K8 (by first | omega | (simp only[List.length_append,List.length_map,List.length_take,List.length_cons,List.length_nil]; omega) | (simp only[List.length_append,List.length_drop,List.length_take,List.length_cons,List.length_nil]; omega)) rfl (h_.fr 3 rfl) (nlr rfl)) rfl,dxf Z9 rfl rfl rfl,dxl Xc rfl rfl rfl rfl rfl,fun _ h_=>ac (Y7 4 (QcB c.2.1 (by omega)) Qic ⟨_,_,rfl,(h_.w rfl),rfl⟩ rfl (h_.fr 4 rfl) (nlr rfl)) rfl,fun _ h_=>ac (Qk 5 (e:=(.pr .int (.pr .int (.pr .bool .int)))) Q9 QJ Zq rfl rfl (List.all_eq_true.1 rfl) ⟨rfl,rfl⟩ (by decide) rfl rfl (h_.fr 5 rfl) (nlr rfl)) rfl,dxf YZ rfl rfl rfl,dxl WD rfl rfl rfl rfl rfl,fun _ h_=>ac (ZI 6 (h_.v rfl) (h_.en 5 rfl) (Evl.rep (h_.v rfl)) rfl Q9 Vh (by first | omega | (simp only[List.length_append,List.length_map,List.length_take,List.length_cons,List.length_nil]; omega) | (simp only[List.length_append,List.length_drop,List.length_take,List.length_cons,List.length_nil]; omega)) rfl (h_.fr 6 rfl) (nlr rfl)) rfl,fun _ h_=>ac (QC Yw ⟨_,_,rfl,(h_.w rfl),⟨_,_,rfl,(h_.w rfl),⟨_,_,rfl,(h_.w rfl),rfl⟩⟩⟩ (List.all_eq_true.1 (by simp only[Yf,Up,List.all_cons,List.all_nil]; rw[(h_.en 3 rfl),(h_.en 4 rfl),(h_.en 6 rfl)]; rfl)) rfl rfl) rfl,fun _ h_=>ac (Qf (h_.v rfl) (h_.en 1 rfl) (h_.w rfl) (by simp only[Yf,Up,List.all_cons,List.all_nil]; rw[(h_.en 3 rfl),(h_.en 4 rfl),(h_.en 6 rfl)]; rfl) QK rfl) rfl,⟨⟩⟩<|Qe ?_
 subst hO
 exact Q2 _ _ [(0,3),(1,4),(2,6)] (Qd rfl (Zk rfl rfl QK rfl)) (rfl) ⟨(Qv (by rfl)),rfl,(Qv (by rfl)),trivial⟩ rfl rfl
theorem XN (c:(List (ByteArray×Int))×List ByteArray×(List (Int×Int×Bool×Int)))[∀c,Decidable (SgOk c)][∀s,Decidable (ZZ s)]:FC Tryz.prog 47 [(true,[.dat (.sl 145 (.pr .str .int)) c.1, .dat (.sl 9 .str) c.2.1, .dat (.sl 179 (.pr .int (.pr .int (.pr .bool .int)))) c.2.2])] [] 0 (Is (PV.tup [(true,[.ref 0, .ref 1, .ref 2]),(false,[.ref 3]),(false,[dB ((Zn c).2.2)])]) [(0,some (.arr 145 (.pr .str .int) (((Zn c).1).1))),(1,some (.arr 9 .str (((Zn c).1).2.1))),(2,some (.arr 179 (.pr .int (.pr .int (.pr .bool .int))) (((Zn c).1).2.2))),(3,some (.arr 63 (.pr (.pr .int .bool) (.pr .int .bool)) ((Zn c).2.1)))]):=by
 refine QQ Tryz.func47 rfl rfl Tryz.ntmps47 fun O_ hO w0_ N0_ X_ h0_ f0_=> ?_
 refine w_ ?_
 refine lc (Qr 0 (Qb rfl) rfl rfl (Fresh.of rfl) (nlr rfl))<|lc (Qw 1 (.pr (.sl 145 (.pr .str .int)) (.pr (.sl 9 .str) (.sl 179 (.pr .int (.pr .int (.pr .bool .int)))))) YB rfl rfl (Fresh.of rfl) (nlr rfl)) ?_
 iterate 6 refine w_ ?_
 refine lc (Qh (YI c) Qao ⟨_,_,rfl,(Qb rfl),rfl⟩ rfl rfl) ?_
 iterate 2 refine w_ ?_
 cases hb1:(decide (SgOk c))
 ·have hb1':=of_decide_eq_false hb1
  iterate 2 refine w_ ?_
  refine lc (QC Yw rfl (List.all_eq_true.1 rfl) rfl rfl)<|lc (Qf (Qa rfl) rfl (Qb rfl) rfl QK rfl) ?_
  iterate 3 refine w_ ?_
  refine AC.wk (QR 2 (p:=1) (off:=0) 145 (.pr .str .int) rfl rfl (Fresh.of rfl) (nlr rfl))<|AC.wk (QR 3 (p:=1) (off:=1) 9 .str rfl rfl (Fresh.of rfl) (nlr rfl))<|AC.wk (QR 4 (p:=1) (off:=2) 179 (.pr .int (.pr .int (.pr .bool .int))) rfl rfl (Fresh.of rfl) (nlr rfl))<|AC.wk (Wk.nilS 5 3 63 (.pr (.pr .int .bool) (.pr .int .bool)) rfl (Fresh.of rfl) (nlr rfl))<|Qe ?_
  subst hO
  have e2:(false:Bool)=((Zn c).2.2):=by
   (rw[WP (by assumption)]; done)
  exact Q2 _ _ [(0,2),(1,3),(2,4),(3,5)] (Zj rfl (Zk rfl rfl QK rfl) (Qc rfl) (Qc rfl)) ((congrArg (fun z_=>PV.tup [(true,[.ref 2, .ref 3, .ref 4]),(false,[.ref 5]),(false,[dB z_])]) e2)) ⟨(Qv (by (rw[WP (by assumption)]; rfl))),(Qv (by (rw[WP (by assumption)]; rfl))),(Qv (by (rw[WP (by assumption)]; rfl))),(Qv (by (rw[WP (by assumption)]; done))),trivial⟩ rfl rfl
 ·have hb1':=of_decide_eq_true hb1
  iterate 4 refine w_ ?_
  refine lc (Ya 6 (UP c (by assumption)) QhD ⟨_,_,rfl,(Qb rfl),rfl⟩ rfl rfl ⟨Fresh.of rfl,Fresh.of rfl,Fresh.of rfl,trivial⟩ (nlr rfl))<|lc (Qk 9 (e:=(.pr (.pr .int .bool) (.pr .int .bool))) Xk Yt U1 rfl rfl (List.all_eq_true.1 rfl) ⟨rfl,rfl⟩ (by decide) rfl rfl (Fresh.of rfl) (nlr rfl))<|lc (Qw 10 (.pr (.sl 145 (.pr .str .int)) (.pr (.sl 9 .str) (.sl 179 (.pr .int (.pr .int (.pr .bool .int)))))) YB rfl rfl (Fresh.of rfl) (nlr rfl))<|lc (Qf (Qa rfl) rfl (Qb rfl) rfl QK rfl) ?_
  iterate 5 refine w_ ?_
  refine Qd5 (VN c (SgOk.w (by assumption))).lens Qef ⟨_,_,rfl,(YL (Qb rfl) ⟨_,_,rfl, .inr ⟨_,_,_,_,rfl,rfl,rfl⟩,⟨_,_,rfl, .inr ⟨_,_,_,_,rfl,rfl,rfl⟩,⟨_,_,rfl, .inr ⟨_,_,_,_,rfl,rfl,rfl⟩,rfl⟩⟩⟩),rfl⟩ (fun _=>rfl) (fun _=>rfl) rfl fun v3 hv4=>lc (Qd4 (Qa rfl) hv4 rfl YK) ?_
  iterate 3 refine w_ ?_
  refine Qy (fun m_ s_=>∃(og:(List (ByteArray×Int))×List ByteArray×(List (Int×Int×Bool×Int))) (il:List ((Int×Bool)×(Int×Bool))) (lf_:Int),m_=2 - il.length∧(SgOk og)∧(il.length≤2)∧(Vv 2 c []=Vv (2 - il.length) og il)∧(lf_=((ZQ og).length:Int))∧s_=⟨[(2,lP 1 0),(5,lP 10 0),(6,lR 14),(7,lI lf_)],[(1,some (.box 59 [.val (.slice none 0 0), .val (.slice none 0 0), .val (.slice none 0 0)])),(10,some (.box 59 [.ref 11, .ref 12, .ref 13])),(11,some (.arr 145 (.pr .str .int) og.1)),(12,some (.arr 9 .str og.2.1)),(13,some (.arr 179 (.pr .int (.pr .int (.pr .bool .int))) og.2.2)),(14,some (.arr 63 (.pr (.pr .int .bool) (.pr .int .bool)) il))]⟩) ⟨c,([]:((.sl 63 (.pr (.pr .int .bool) (.pr .int .bool))):Ty).Den),((ZQ c).length:Int),rfl,(by assumption),(by simp),rfl,rfl,rfl⟩ ?_ ?_
  · exact Wk.of [(1,1),(10,10),(11,6),(12,7),(13,8),(14,9)] rfl ⟨rfl,rfl,rfl,rfl,trivial⟩ ⟨rfl,rfl,rfl,rfl,rfl,(Qv (by first | rfl | simp)),trivial⟩ rfl rfl
  rintro m_ s_ ⟨og,il,lf_,hm6,hS,hL,hR,hF,rfl⟩
  iterate 5 refine w_ ?_
  cases hb7:(decide (0 < lf_))
  ·have hb7':=of_decide_eq_false hb7
   refine w_ ?_
   refine QA ?_
   refine (?_:AC _ _ _ _ _)
   iterate 3 refine w_ ?_
   refine lc (Qf (Qa rfl) rfl (Qb rfl) rfl QK rfl) ?_
   iterate 3 refine w_ ?_
   refine Qe ?_
   subst hO
   have e8:(true:Bool)=((Zn c).2.2):=by
    (rw[Xb (og:=og) (il:=il) (by assumption) (hR.trans (Yc (fun g=>absurd g.1 (by omega)))) (by omega)]; done)
   exact Q2 _ _ [(0,11),(1,12),(2,13),(3,14)] (Zj rfl (Zk rfl rfl QK rfl) (Qc rfl) (Qc rfl)) ((congrArg (fun z_=>PV.tup [(true,[.ref 11, .ref 12, .ref 13]),(false,[.ref 14]),(false,[dB z_])]) e8)) ⟨(Qv (by (rw[Xb (og:=og) (il:=il) (by assumption) (hR.trans (Yc (fun g=>absurd g.1 (by omega)))) (by omega)]; done))),(Qv (by (rw[Xb (og:=og) (il:=il) (by assumption) (hR.trans (Yc (fun g=>absurd g.1 (by omega)))) (by omega)]; done))),(Qv (by (rw[Xb (og:=og) (il:=il) (by assumption) (hR.trans (Yc (fun g=>absurd g.1 (by omega)))) (by omega)]; done))),(Qv (by (rw[Xb (og:=og) (il:=il) (by assumption) (hR.trans (Yc (fun g=>absurd g.1 (by omega)))) (by omega)]; done))),trivial⟩ rfl rfl
  ·have hb7':=of_decide_eq_true hb7
   iterate 5 refine w_ ?_
   refine lc (WT 15 (Qgb og hS) QkO ⟨_,_,rfl,(YL (Qb rfl) ⟨_,_,rfl, .inr ⟨_,_,_,_,rfl,rfl,rfl⟩,⟨_,_,rfl, .inr ⟨_,_,_,_,rfl,rfl,rfl⟩,⟨_,_,rfl, .inr ⟨_,_,_,_,rfl,rfl,rfl⟩,rfl⟩⟩⟩),rfl⟩ rfl rfl rfl ⟨Fresh.of rfl,Fresh.of rfl,Fresh.of rfl,trivial⟩ (nlr rfl)) ?_
   iterate 4 refine w_ ?_
   refine lc (Qw 18 (.pr (.pr (.pr .int .bool) (.pr .int .bool)) (.pr (.sl 145 (.pr .str .int)) (.pr (.sl 9 .str) (.sl 179 (.pr .int (.pr .int (.pr .bool .int))))))) UV rfl rfl (Fresh.of rfl) (nlr rfl))<|lc (Qf (Qa rfl) rfl (Qb rfl) rfl XX rfl) ?_
   iterate 8 refine w_ ?_
   cases hb9:((Zm og (QY og)).isSome)
   ·iterate 12 refine w_ ?_
    refine lc (QC Yw rfl (List.all_eq_true.1 rfl) rfl rfl)<|lc (Qf (Qa rfl) rfl (Qb rfl) rfl QK rfl) ?_
    iterate 3 refine w_ ?_
    refine AC.wk (QR 19 (p:=1) (off:=0) 145 (.pr .str .int) rfl rfl (Fresh.of rfl) (nlr rfl))<|AC.wk (QR 20 (p:=1) (off:=1) 9 .str rfl rfl (Fresh.of rfl) (nlr rfl))<|AC.wk (QR 21 (p:=1) (off:=2) 179 (.pr .int (.pr .int (.pr .bool .int))) rfl rfl (Fresh.of rfl) (nlr rfl))<|AC.wk (Wk.nilS 22 3 63 (.pr (.pr .int .bool) (.pr .int .bool)) rfl (Fresh.of rfl) (nlr rfl))<|Qe ?_
    subst hO
    have e10:(false:Bool)=((Zn c).2.2):=by
     (rw[Zo (og:=og) (il:=il) (hR.trans (Yc (fun g=>Bool.noConfusion (g.2.1.symm.trans (show (Zm og (QY og)).isSome=false by assumption))))) (by omega)]; done)
    exact Q2 _ _ [(0,19),(1,20),(2,21),(3,22)] (Zj rfl (Zk rfl rfl QK rfl) (Qc rfl) (Qc rfl)) ((congrArg (fun z_=>PV.tup [(true,[.ref 19, .ref 20, .ref 21]),(false,[.ref 22]),(false,[dB z_])]) e10)) ⟨(Qv (by (rw[Zo (og:=og) (il:=il) (hR.trans (Yc (fun g=>Bool.noConfusion (g.2.1.symm.trans (show (Zm og (QY og)).isSome=false by assumption))))) (by omega)]; rfl))),(Qv (by (rw[Zo (og:=og) (il:=il) (hR.trans (Yc (fun g=>Bool.noConfusion (g.2.1.symm.trans (show (Zm og (QY og)).isSome=false by assumption))))) (by omega)]; rfl))),(Qv (by (rw[Zo (og:=og) (il:=il) (hR.trans (Yc (fun g=>Bool.noConfusion (g.2.1.symm.trans (show (Zm og (QY og)).isSome=false by assumption))))) (by omega)]; rfl))),(Qv (by (rw[Zo (og:=og) (il:=il) (hR.trans (Yc (fun g=>Bool.noConfusion (g.2.1.symm.trans (show (Zm og (QY og)).isSome=false by assumption))))) (by omega)]; done))),trivial⟩ rfl rfl
   ·iterate 5 refine w_ ?_
    cases hb11:(decide (lf_≤(Y3 og (QY og))))
    ·have hb11':=of_decide_eq_false hb11
     iterate 5 refine w_ ?_
     cases hb12:(decide ((il.length:Int)=2))
     ·have hb12':=of_decide_eq_false hb12
      iterate 2 refine w_ ?_
      refine dv [io 42 (lP 18 4),io 43 (ag [.ref 15, .ref 16, .ref 17]),io 44 (lR 14),io 45 (lP 18 0),io 46 (ag [dI ((((Zi og (QY og)).1).1).1),dB ((((Zi og (QY og)).1).1).2),dI ((((Zi og (QY og)).1).2).1),dB ((((Zi og (QY og)).1).2).2)]),⟨some 47,lR 23,[(23,some (.arr 63 (.pr (.pr .int .bool) (.pr .int .bool)) ([(((((Zi og (QY og)).1).1).1,(((Zi og (QY og)).1).1).2),((((Zi og (QY og)).1).2).1,(((Zi og (QY og)).1).2).2))])))]⟩,⟨some 48,lR 24,[(24,some (.arr 63 (.pr (.pr .int .bool) (.pr .int .bool)) (il++([(((((Zi og (QY og)).1).1).1,(((Zi og (QY og)).1).1).2),((((Zi og (QY og)).1).2).1,(((Zi og (QY og)).1).2).2))])))),(14,none),(23,none)]⟩,io 49 (lI (Y3 og (QY og))),⟨none,lf (.val undef),[(10,some (.box 59 [.ref 15, .ref 16, .ref 17]))]⟩,io 6 (lR 24),io 7 (lI (Y3 og (QY og)))] [0,1,0,0,8,24,60,0,127,383,1023] mixed rfl (by kernel_rfl) ⟨dxf Qky rfl rfl rfl,dxa QK rfl rfl rfl rfl,dxm rfl rfl,dxf Qkw rfl rfl rfl,dxa Yt rfl rfl rfl rfl,fun _ h_=>ac (Qk 23 (e:=(.pr (.pr .int .bool) (.pr .int .bool))) Xk Yt U1 rfl ⟨_,_,rfl,(h_.w rfl),rfl⟩ (List.all_eq_true.1 rfl) ⟨_,_,_,_,rfl,⟨[dI ((((Zi og (QY og)).1).1).1),dB ((((Zi og (QY og)).1).1).2)],[dI ((((Zi og (QY og)).1).2).1),dB ((((Zi og (QY og)).1).2).2)],_,_,_,_,rfl,rfl,⟨[dI ((((Zi og (QY og)).1).1).1)],[dB ((((Zi og (QY og)).1).1).2)],_,_,_,_,rfl,rfl,⟨rfl,rfl⟩,⟨rfl,rfl⟩,rfl⟩,⟨[dI ((((Zi og (QY og)).1).2).1)],[dB ((((Zi og (QY og)).1).2).2)],_,_,_,_,rfl,rfl,⟨rfl,rfl⟩,⟨rfl,rfl⟩,rfl⟩,rfl⟩,⟨rfl,rfl⟩,rfl⟩ (by decide) rfl rfl (h_.fr 23 rfl) (nlr rfl)) rfl,fun _ h_=>ac (Q0 24 (h_.v rfl) (h_.en 14 rfl) (h_.v rfl) (h_.en 23 rfl) rfl Xk Qhq (by first | omega | (simp only[List.length_append,List.length_map,List.length_take,List.length_cons,List.length_nil]; omega) | (simp only[List.length_append,List.length_drop,List.length_take,List.length_cons,List.length_nil]; omega)) rfl (h_.fr 24 rfl) (nlr rfl)) rfl,dxm rfl rfl,fun _ h_=>ac (Qf (h_.v rfl) (h_.en 10 rfl) (h_.w rfl) (by simp only[Yf,Up,List.all_cons,List.all_nil]; rw[(h_.en 15 rfl),(h_.en 16 rfl),(h_.en 17 rfl)]; rfl) QK rfl) rfl,dxt rfl rfl,dxt rfl rfl,⟨⟩⟩<|QS ⟨((Zi og (QY og)).2),(il++([(((((Zi og (QY og)).1).1).1,(((Zi og (QY og)).1).1).2),((((Zi og (QY og)).1).2).1,(((Zi og (QY og)).1).2).2))])),(Y3 og (QY og)),rfl,(Qcc hS (by assumption)),(by simp only[List.length_append,List.length_cons,List.length_nil]; omega),(hR.trans (Qnt (by omega) ⟨by omega,by assumption,by omega⟩)),(by (obtain ⟨y_,_,_,_,h4_,h5_⟩:=QaJ (by assumption); rw[h4_,h5_]; rfl)),rfl⟩ (by simp only[List.length_append,List.length_cons,List.length_nil]; omega) ?_
      exact Wk.of [(1,1),(10,10),(11,15),(12,16),(13,17),(14,24)] rfl ⟨rfl,rfl,rfl,rfl,trivial⟩ ⟨rfl,rfl,rfl,rfl,rfl,(Qv (by first | rfl | simp)),trivial⟩ rfl rfl
     ·have hb12':=of_decide_eq_true hb12
      iterate 2 refine w_ ?_
      refine lc (QC Yw rfl (List.all_eq_true.1 rfl) rfl rfl)<|lc (Qf (Qa rfl) rfl (Qb rfl) rfl QK rfl) ?_
      iterate 3 refine w_ ?_
      refine AC.wk (QR 25 (p:=1) (off:=0) 145 (.pr .str .int) rfl rfl (Fresh.of rfl) (nlr rfl))<|AC.wk (QR 26 (p:=1) (off:=1) 9 .str rfl rfl (Fresh.of rfl) (nlr rfl))<|AC.wk (QR 27 (p:=1) (off:=2) 179 (.pr .int (.pr .int (.pr .bool .int))) rfl rfl (Fresh.of rfl) (nlr rfl))<|AC.wk (Wk.nilS 28 3 63 (.pr (.pr .int .bool) (.pr .int .bool)) rfl (Fresh.of rfl) (nlr rfl))<|Qe ?_
      subst hO
      have e13:(false:Bool)=((Zn c).2.2):=by
       (rw[Zo (og:=og) (il:=il) (hR.trans (by rw[show 2 - il.length=0 by omega]; rfl)) (by omega)]; done)
      exact Q2 _ _ [(0,25),(1,26),(2,27),(3,28)] (Zj rfl (Zk rfl rfl QK rfl) (Qc rfl) (Qc rfl)) ((congrArg (fun z_=>PV.tup [(true,[.ref 25, .ref 26, .ref 27]),(false,[.ref 28]),(false,[dB z_])]) e13)) ⟨(Qv (by (rw[Zo (og:=og) (il:=il) (hR.trans (by rw[show 2 - il.length=0 by omega]; rfl)) (by omega)]; rfl))),(Qv (by (rw[Zo (og:=og) (il:=il) (hR.trans (by rw[show 2 - il.length=0 by omega]; rfl)) (by omega)]; rfl))),(Qv (by (rw[Zo (og:=og) (il:=il) (hR.trans (by rw[show 2 - il.length=0 by omega]; rfl)) (by omega)]; rfl))),(Qv (by (rw[Zo (og:=og) (il:=il) (hR.trans (by rw[show 2 - il.length=0 by omega]; rfl)) (by omega)]; done))),trivial⟩ rfl rfl
    ·have hb11':=of_decide_eq_true hb11
     iterate 7 refine w_ ?_
     refine lc (QC Yw rfl (List.all_eq_true.1 rfl) rfl rfl)<|lc (Qf (Qa rfl) rfl (Qb rfl) rfl QK rfl) ?_
     iterate 3 refine w_ ?_
     refine AC.wk (QR 29 (p:=1) (off:=0) 145 (.pr .str .int) rfl rfl (Fresh.of rfl) (nlr rfl))<|AC.wk (QR 30 (p:=1) (off:=1) 9 .str rfl rfl (Fresh.of rfl) (nlr rfl))<|AC.wk (QR 31 (p:=1) (off:=2) 179 (.pr .int (.pr .int (.pr .bool .int))) rfl rfl (Fresh.of rfl) (nlr rfl))<|AC.wk (Wk.nilS 32 3 63 (.pr (.pr .int .bool) (.pr .int .bool)) rfl (Fresh.of rfl) (nlr rfl))<|Qe ?_
     subst hO
     have e14:(false:Bool)=((Zn c).2.2):=by
      (rw[Zo (og:=og) (il:=il) (hR.trans (Yc (fun g=>absurd g.2.2 (by omega)))) (by omega)]; done)
     exact Q2 _ _ [(0,29),(1,30),(2,31),(3,32)] (Zj rfl (Zk rfl rfl QK rfl) (Qc rfl) (Qc rfl)) ((congrArg (fun z_=>PV.tup [(true,[.ref 29, .ref 30, .ref 31]),(false,[.ref 32]),(false,[dB z_])]) e14)) ⟨(Qv (by (rw[Zo (og:=og) (il:=il) (hR.trans (Yc (fun g=>absurd g.2.2 (by omega)))) (by omega)]; rfl))),(Qv (by (rw[Zo (og:=og) (il:=il) (hR.trans (Yc (fun g=>absurd g.2.2 (by omega)))) (by omega)]; rfl))),(Qv (by (rw[Zo (og:=og) (il:=il) (hR.trans (Yc (fun g=>absurd g.2.2 (by omega)))) (by omega)]; rfl))),(Qv (by (rw[Zo (og:=og) (il:=il) (hR.trans (Yc (fun g=>absurd g.2.2 (by omega)))) (by omega)]; done))),trivial⟩ rfl rfl
theorem V9 (c:(List (ByteArray×Int))×List ByteArray×(List (Int×Int×Bool×Int)))[∀c,Decidable (SgOk c)][∀s,Decidable (ZZ s)]:FC Tryz.prog 46 [(true,[.dat (.sl 145 (.pr .str .int)) c.1, .dat (.sl 9 .str) c.2.1, .dat (.sl 179 (.pr .int (.pr .int (.pr .bool .int)))) c.2.2])] [] 0 (Is (PV.tup [(true,[.ref 0, .ref 1, .ref 2]),(false,[.ref 3]),(false,[dB ((Zn c).2.2)])]) [(0,some (.arr 145 (.pr .str .int) (((Zn c).1).1))),(1,some (.arr 9 .str (((Zn c).1).2.1))),(2,some (.arr 179 (.pr .int (.pr .int (.pr .bool .int))) (((Zn c).1).2.2))),(3,some (.arr 63 (.pr (.pr .int .bool) (.pr .int .bool)) ((Zn c).2.1)))]):=by
 refine QQ Tryz.func46 rfl rfl Tryz.ntmps46 fun O_ hO w0_ N0_ X_ h0_ f0_=> ?_
 refine w_ ?_
 refine lc (Qr 0 (Qb rfl) rfl rfl (Fresh.of rfl) (nlr rfl))<|lc (Qw 1 (.pr (.sl 145 (.pr .str .int)) (.pr (.sl 9 .str) (.sl 179 (.pr .int (.pr .int (.pr .bool .int)))))) YB rfl rfl (Fresh.of rfl) (nlr rfl)) ?_
 iterate 6 refine w_ ?_
 refine lc (Qh (Y2 c) Vs ⟨_,_,rfl,(Qb rfl),rfl⟩ rfl rfl) ?_
 iterate 2 refine w_ ?_
 cases hb1:(decide (SgOk c))
 ·have hb1':=of_decide_eq_false hb1
  iterate 2 refine w_ ?_
  refine lc (QC Yw rfl (List.all_eq_true.1 rfl) rfl rfl)<|lc (Qf (Qa rfl) rfl (Qb rfl) rfl QK rfl) ?_
  iterate 3 refine w_ ?_
  refine AC.wk (QR 2 (p:=1) (off:=0) 145 (.pr .str .int) rfl rfl (Fresh.of rfl) (nlr rfl))<|AC.wk (QR 3 (p:=1) (off:=1) 9 .str rfl rfl (Fresh.of rfl) (nlr rfl))<|AC.wk (QR 4 (p:=1) (off:=2) 179 (.pr .int (.pr .int (.pr .bool .int))) rfl rfl (Fresh.of rfl) (nlr rfl))<|AC.wk (Wk.nilS 5 3 63 (.pr (.pr .int .bool) (.pr .int .bool)) rfl (Fresh.of rfl) (nlr rfl))<|Qe ?_
  subst hO
  have e2:(false:Bool)=((Zn c).2.2):=by
   (rw[WP (by assumption)]; done)
  exact Q2 _ _ [(0,2),(1,3),(2,4),(3,5)] (Zj rfl (Zk rfl rfl QK rfl) (Qc rfl) (Qc rfl)) ((congrArg (fun z_=>PV.tup [(true,[.ref 2, .ref 3, .ref 4]),(false,[.ref 5]),(false,[dB z_])]) e2)) ⟨(Qv (by (rw[WP (by assumption)]; rfl))),(Qv (by (rw[WP (by assumption)]; rfl))),(Qv (by (rw[WP (by assumption)]; rfl))),(Qv (by (rw[WP (by assumption)]; done))),trivial⟩ rfl rfl
 ·have hb1':=of_decide_eq_true hb1
  iterate 4 refine w_ ?_
  refine lc (Ya 6 (Qdo c (by assumption)) Qlb ⟨_,_,rfl,(Qb rfl),rfl⟩ rfl rfl ⟨Fresh.of rfl,Fresh.of rfl,Fresh.of rfl,trivial⟩ (nlr rfl))<|lc (Qw 9 (.pr (.sl 145 (.pr .str .int)) (.pr (.sl 9 .str) (.sl 179 (.pr .int (.pr .int (.pr .bool .int)))))) YB rfl rfl (Fresh.of rfl) (nlr rfl))<|lc (Qf (Qa rfl) rfl (Qb rfl) rfl QK rfl) ?_
  iterate 9 refine w_ ?_
  refine AC.wk (Wk.nilS 13 6 63 (.pr (.pr .int .bool) (.pr .int .bool)) rfl (Fresh.of rfl) (nlr rfl)) ?_
  refine Qy (fun m_ s_=>∃(k:Nat) (og:(List (ByteArray×Int))×List ByteArray×(List (Int×Int×Bool×Int))) (il:List ((Int×Bool)×(Int×Bool))),k≤2∧m_=2 - k∧(SgOk og)∧(il.length=k)∧(Vv 2 c []=Vv (2 - k) og il)∧s_=⟨[(2,lP 1 0),(3,lf (.val (.slice none 0 0))),(4,lB false),(5,lP 9 0),(6,lR 14),(7,lI (k:Int))],[(1,some (.box 59 [.val (.slice none 0 0), .val (.slice none 0 0), .val (.slice none 0 0)])),(9,some (.box 59 [.ref 10, .ref 11, .ref 12])),(10,some (.arr 145 (.pr .str .int) og.1)),(11,some (.arr 9 .str og.2.1)),(12,some (.arr 179 (.pr .int (.pr .int (.pr .bool .int))) og.2.2)),(14,some (.arr 63 (.pr (.pr .int .bool) (.pr .int .bool)) il))]⟩) ⟨0,c,([]:((.sl 63 (.pr (.pr .int .bool) (.pr .int .bool))):Ty).Den),Nat.zero_le _,rfl,(by assumption),rfl,rfl,rfl⟩ ?_ ?_
  · exact Wk.of [(1,1),(9,9),(10,6),(11,7),(12,8),(14,13)] rfl ⟨rfl,rfl,rfl,rfl,rfl,rfl,trivial⟩ ⟨rfl,rfl,rfl,rfl,rfl,(Qv (by first | rfl | simp)),trivial⟩ rfl rfl
  rintro m_ s_ ⟨k,og,il,hk3,hm4,hS,hL,hR,rfl⟩
  iterate 5 refine w_ ?_
  cases hb5:(decide ((k:Int) < 2))
  ·have hb5':=of_decide_eq_false hb5
   iterate 7 refine w_ ?_
   refine QA ?_
   refine (?_:AC _ _ _ _ _)
   iterate 3 refine w_ ?_
   refine lc (Y4 15 (Z2 og (SgOk.w hS)) WG ⟨_,_,rfl,(YL (Qb rfl) ⟨_,_,rfl, .inr ⟨_,_,_,_,rfl,rfl,rfl⟩,⟨_,_,rfl, .inr ⟨_,_,_,_,rfl,rfl,rfl⟩,⟨_,_,rfl, .inr ⟨_,_,_,_,rfl,rfl,rfl⟩,rfl⟩⟩⟩),rfl⟩ rfl (Fresh.of rfl) (nlr rfl)) ?_
   iterate 3 refine w_ ?_
   cases hb6:(decide (0 < ((ZQ og).length:Int)))
   ·have hb6':=of_decide_eq_false hb6
    iterate 5 refine w_ ?_
    refine lc (Qf (Qa rfl) rfl (Qb rfl) rfl QK rfl) ?_
    iterate 3 refine w_ ?_
    refine Qe ?_
    subst hO
    have e7:(true:Bool)=((Zn c).2.2):=by
     (rw[Xb (og:=og) (il:=il) (by assumption) (hR.trans (by rw[show 2 - k=0 by omega]; rfl)) (by omega)]; done)
    exact Q2 _ _ [(0,10),(1,11),(2,12),(3,14)] (Zj rfl (Zk rfl rfl QK rfl) (Qc rfl) (Qc rfl)) ((congrArg (fun z_=>PV.tup [(true,[.ref 10, .ref 11, .ref 12]),(false,[.ref 14]),(false,[dB z_])]) e7)) ⟨(Qv (by (rw[Xb (og:=og) (il:=il) (by assumption) (hR.trans (by rw[show 2 - k=0 by omega]; rfl)) (by omega)]; done))),(Qv (by (rw[Xb (og:=og) (il:=il) (by assumption) (hR.trans (by rw[show 2 - k=0 by omega]; rfl)) (by omega)]; done))),(Qv (by (rw[Xb (og:=og) (il:=il) (by assumption) (hR.trans (by rw[show 2 - k=0 by omega]; rfl)) (by omega)]; done))),(Qv (by (rw[Xb (og:=og) (il:=il) (by assumption) (hR.trans (by rw[show 2 - k=0 by omega]; rfl)) (by omega)]; done))),trivial⟩ rfl rfl
   ·have hb6':=of_decide_eq_true hb6
    iterate 2 refine w_ ?_
    refine lc (QC Yw rfl (List.all_eq_true.1 rfl) rfl rfl)<|lc (Qf (Qa rfl) rfl (Qb rfl) rfl QK rfl) ?_
    iterate 3 refine w_ ?_
    refine AC.wk (QR 16 (p:=1) (off:=0) 145 (.pr .str .int) rfl rfl (Fresh.of rfl) (nlr rfl))<|AC.wk (QR 17 (p:=1) (off:=1) 9 .str rfl rfl (Fresh.of rfl) (nlr rfl))<|AC.wk (QR 18 (p:=1) (off:=2) 179 (.pr .int (.pr .int (.pr .bool .int))) rfl rfl (Fresh.of rfl) (nlr rfl))<|AC.wk (Wk.nilS 19 3 63 (.pr (.pr .int .bool) (.pr .int .bool)) rfl (Fresh.of rfl) (nlr rfl))<|Qe ?_
    subst hO
    have e8:(false:Bool)=((Zn c).2.2):=by
     (rw[Zo (og:=og) (il:=il) (hR.trans (by rw[show 2 - k=0 by omega]; rfl)) (by omega)]; done)
    exact Q2 _ _ [(0,16),(1,17),(2,18),(3,19)] (Zj rfl (Zk rfl rfl QK rfl) (Qc rfl) (Qc rfl)) ((congrArg (fun z_=>PV.tup [(true,[.ref 16, .ref 17, .ref 18]),(false,[.ref 19]),(false,[dB z_])]) e8)) ⟨(Qv (by (rw[Zo (og:=og) (il:=il) (hR.trans (by rw[show 2 - k=0 by omega]; rfl)) (by omega)]; rfl))),(Qv (by (rw[Zo (og:=og) (il:=il) (hR.trans (by rw[show 2 - k=0 by omega]; rfl)) (by omega)]; rfl))),(Qv (by (rw[Zo (og:=og) (il:=il) (hR.trans (by rw[show 2 - k=0 by omega]; rfl)) (by omega)]; rfl))),(Qv (by (rw[Zo (og:=og) (il:=il) (hR.trans (by rw[show 2 - k=0 by omega]; rfl)) (by omega)]; done))),trivial⟩ rfl rfl
  ·have hb5':=of_decide_eq_true hb5
   refine w_ ?_
   refine lgy rfl rfl (Y4 20 (Z2 og (SgOk.w hS)) WG ⟨_,_,rfl,(YL (Qb rfl) ⟨_,_,rfl, .inr ⟨_,_,_,_,rfl,rfl,rfl⟩,⟨_,_,rfl, .inr ⟨_,_,_,_,rfl,rfl,rfl⟩,⟨_,_,rfl, .inr ⟨_,_,_,_,rfl,rfl,rfl⟩,rfl⟩⟩⟩),rfl⟩ rfl (Fresh.of rfl) (nlr rfl)) ?_
   iterate 4 refine w_ ?_
   cases hb9:(decide (0 < ((ZQ og).length:Int)))
   ·have hb9':=of_decide_eq_false hb9
    refine w_ ?_
    refine QA ?_
    refine (?_:AC _ _ _ _ _)
    iterate 3 refine w_ ?_
    refine lc (Y4 21 (Z2 og (SgOk.w hS)) WG ⟨_,_,rfl,(YL (Qb rfl) ⟨_,_,rfl, .inr ⟨_,_,_,_,rfl,rfl,rfl⟩,⟨_,_,rfl, .inr ⟨_,_,_,_,rfl,rfl,rfl⟩,⟨_,_,rfl, .inr ⟨_,_,_,_,rfl,rfl,rfl⟩,rfl⟩⟩⟩),rfl⟩ rfl (Fresh.of rfl) (nlr rfl)) ?_
    iterate 3 refine w_ ?_
    have hb10:(decide (0 < ((ZQ og).length:Int)))=false:=hb9
    try rw[hb10]
    iterate 5 refine w_ ?_
    refine lc (Qf (Qa rfl) rfl (Qb rfl) rfl QK rfl) ?_
    iterate 3 refine w_ ?_
    refine Qe ?_
    subst hO
    have e11:(true:Bool)=((Zn c).2.2):=by
     (rw[Xb (og:=og) (il:=il) (by assumption) (hR.trans (Z1 hS (.inl (by omega)))) (by omega)]; done)
    exact Q2 _ _ [(0,10),(1,11),(2,12),(3,14)] (Zj rfl (Zk rfl rfl QK rfl) (Qc rfl) (Qc rfl)) ((congrArg (fun z_=>PV.tup [(true,[.ref 10, .ref 11, .ref 12]),(false,[.ref 14]),(false,[dB z_])]) e11)) ⟨(Qv (by (rw[Xb (og:=og) (il:=il) (by assumption) (hR.trans (Z1 hS (.inl (by omega)))) (by omega)]; done))),(Qv (by (rw[Xb (og:=og) (il:=il) (by assumption) (hR.trans (Z1 hS (.inl (by omega)))) (by omega)]; done))),(Qv (by (rw[Xb (og:=og) (il:=il) (by assumption) (hR.trans (Z1 hS (.inl (by omega)))) (by omega)]; done))),(Qv (by (rw[Xb (og:=og) (il:=il) (by assumption) (hR.trans (Z1 hS (.inl (by omega)))) (by omega)]; done))),trivial⟩ rfl rfl
   ·have hb9':=of_decide_eq_true hb9
    iterate 6 refine w_ ?_
    refine lc (Zl (Qbt og hS) QkD ⟨_,_,rfl,(YL (Qb rfl) ⟨_,_,rfl, .inr ⟨_,_,_,_,rfl,rfl,rfl⟩,⟨_,_,rfl, .inr ⟨_,_,_,_,rfl,rfl,rfl⟩,⟨_,_,rfl, .inr ⟨_,_,_,_,rfl,rfl,rfl⟩,rfl⟩⟩⟩),rfl⟩ rfl rfl rfl) ?_
    iterate 3 refine w_ ?_
    refine lc (Qw 22 (.pr (.pr .int .bool) (.pr .int .bool)) U1 rfl rfl (Fresh.of rfl) (nlr rfl))<|lc (Qf (Qa rfl) rfl (Qb rfl) rfl Yt rfl) ?_
    iterate 5 refine w_ ?_
    refine lc (Zl (Wu og (Zu og (QY og))) Qep ⟨_,_,rfl,(YL (Qb rfl) ⟨_,_,rfl, .inr ⟨_,_,_,_,rfl,rfl,rfl⟩,⟨_,_,rfl, .inr ⟨_,_,_,_,rfl,rfl,rfl⟩,⟨_,_,rfl, .inr ⟨_,_,_,_,rfl,rfl,rfl⟩,rfl⟩⟩⟩),⟨_,_,rfl,(Ev.b (Qb rfl)),rfl⟩⟩ rfl rfl rfl) ?_
    iterate 13 refine w_ ?_
    cases hb12:((Zm og (QY og)).isSome)
    ·iterate 8 refine w_ ?_
     refine QA ?_
     refine (?_:AC _ _ _ _ _)
     iterate 3 refine w_ ?_
     refine lc (Y4 23 (Z2 og (SgOk.w hS)) WG ⟨_,_,rfl,(YL (Qb rfl) ⟨_,_,rfl, .inr ⟨_,_,_,_,rfl,rfl,rfl⟩,⟨_,_,rfl, .inr ⟨_,_,_,_,rfl,rfl,rfl⟩,⟨_,_,rfl, .inr ⟨_,_,_,_,rfl,rfl,rfl⟩,rfl⟩⟩⟩),rfl⟩ rfl (Fresh.of rfl) (nlr rfl)) ?_
     iterate 3 refine w_ ?_
     have hb13:(decide (0 < ((ZQ og).length:Int)))=true:=hb9
     try rw[hb13]
     iterate 2 refine w_ ?_
     refine lc (QC Yw rfl (List.all_eq_true.1 rfl) rfl rfl)<|lc (Qf (Qa rfl) rfl (Qb rfl) rfl QK rfl) ?_
     iterate 3 refine w_ ?_
     refine AC.wk (QR 24 (p:=1) (off:=0) 145 (.pr .str .int) rfl rfl (Fresh.of rfl) (nlr rfl))<|AC.wk (QR 25 (p:=1) (off:=1) 9 .str rfl rfl (Fresh.of rfl) (nlr rfl))<|AC.wk (QR 26 (p:=1) (off:=2) 179 (.pr .int (.pr .int (.pr .bool .int))) rfl rfl (Fresh.of rfl) (nlr rfl))<|AC.wk (Wk.nilS 27 3 63 (.pr (.pr .int .bool) (.pr .int .bool)) rfl (Fresh.of rfl) (nlr rfl))<|Qe ?_
     subst hO
     have e14:(false:Bool)=((Zn c).2.2):=by
      (rw[Zo (og:=og) (il:=il) (hR.trans (Z1 hS (.inr (.inl (by assumption))))) (by omega)]; done)
     exact Q2 _ _ [(0,24),(1,25),(2,26),(3,27)] (Zj rfl (Zk rfl rfl QK rfl) (Qc rfl) (Qc rfl)) ((congrArg (fun z_=>PV.tup [(true,[.ref 24, .ref 25, .ref 26]),(false,[.ref 27]),(false,[dB z_])]) e14)) ⟨(Qv (by (rw[Zo (og:=og) (il:=il) (hR.trans (Z1 hS (.inr (.inl (by assumption))))) (by omega)]; rfl))),(Qv (by (rw[Zo (og:=og) (il:=il) (hR.trans (Z1 hS (.inr (.inl (by assumption))))) (by omega)]; rfl))),(Qv (by (rw[Zo (og:=og) (il:=il) (hR.trans (Z1 hS (.inr (.inl (by assumption))))) (by omega)]; rfl))),(Qv (by (rw[Zo (og:=og) (il:=il) (hR.trans (Z1 hS (.inr (.inl (by assumption))))) (by omega)]; done))),trivial⟩ rfl rfl
    ·iterate 2 refine w_ ?_
     refine lgy rfl rfl (Y4 28 (Z2 og (SgOk.w hS)) WG ⟨_,_,rfl,(YL (Qb rfl) ⟨_,_,rfl, .inr ⟨_,_,_,_,rfl,rfl,rfl⟩,⟨_,_,rfl, .inr ⟨_,_,_,_,rfl,rfl,rfl⟩,⟨_,_,rfl, .inr ⟨_,_,_,_,rfl,rfl,rfl⟩,rfl⟩⟩⟩),rfl⟩ rfl (Fresh.of rfl) (nlr rfl)) ?_
     iterate 4 refine w_ ?_
     cases hb15:(decide (((ZQ og).length:Int)≤(YR og (Zu og (QY og)))))
     ·have hb15':=of_decide_eq_false hb15
      iterate 5 refine w_ ?_
      refine lc (WT 29 (W7 og (Zu og (QY og)) hS) Qak ⟨_,_,rfl,(YL (Qb rfl) ⟨_,_,rfl, .inr ⟨_,_,_,_,rfl,rfl,rfl⟩,⟨_,_,rfl, .inr ⟨_,_,_,_,rfl,rfl,rfl⟩,⟨_,_,rfl, .inr ⟨_,_,_,_,rfl,rfl,rfl⟩,rfl⟩⟩⟩),⟨_,_,rfl,(Ev.b (Qb rfl)),rfl⟩⟩ rfl rfl rfl ⟨Fresh.of rfl,Fresh.of rfl,Fresh.of rfl,trivial⟩ (nlr rfl)) ?_
      iterate 3 refine w_ ?_
      refine lc (Qf (Qa rfl) rfl (Qb rfl) rfl QK rfl) ?_
      iterate 4 refine w_ ?_
      refine lc (Qk 32 (e:=(.pr (.pr .int .bool) (.pr .int .bool))) Xk Yt U1 rfl ⟨_,_,rfl,(Qb rfl),rfl⟩ (List.all_eq_true.1 rfl) ⟨_,_,_,_,rfl,⟨[dI (((Zu og (QY og)).1).1),dB (((Zu og (QY og)).1).2)],[dI (((Zu og (QY og)).2).1),dB (((Zu og (QY og)).2).2)],_,_,_,_,rfl,rfl,⟨[dI (((Zu og (QY og)).1).1)],[dB (((Zu og (QY og)).1).2)],_,_,_,_,rfl,rfl,⟨rfl,rfl⟩,⟨rfl,rfl⟩,rfl⟩,⟨[dI (((Zu og (QY og)).2).1)],[dB (((Zu og (QY og)).2).2)],_,_,_,_,rfl,rfl,⟨rfl,rfl⟩,⟨rfl,rfl⟩,rfl⟩,rfl⟩,⟨rfl,rfl⟩,rfl⟩ (by decide) rfl rfl (Fresh.of rfl) (nlr rfl))<|lc (Q0 33 (Qa rfl) rfl (Qa rfl) rfl rfl Xk Qhq (by first | omega | (simp only[List.length_append,List.length_map,List.length_take,List.length_cons,List.length_nil]; omega) | (simp only[List.length_append,List.length_drop,List.length_take,List.length_cons,List.length_nil]; omega)) rfl (Fresh.of rfl) (nlr rfl)) ?_
      refine w_ ?_
      refine Qj ?_
      refine (?_:AC _ _ _ _ _)
      iterate 4 refine w_ ?_
      refine Qj<|QS ⟨k+1,((ZE og (Zu og (QY og))).1),(il++([((((Zu og (QY og)).1).1,((Zu og (QY og)).1).2),(((Zu og (QY og)).2).1,((Zu og (QY og)).2).2))])),by omega,rfl,(Ql1 hS (by assumption)),(by simp only[List.length_append,List.length_cons,List.length_nil]; omega),(hR.trans (QmU hS (by omega) (by omega) (by assumption) (by omega))),rfl⟩ (by omega) ?_
      exact Wk.of [(1,1),(9,9),(10,29),(11,30),(12,31),(14,33)] rfl ⟨rfl,rfl,rfl,rfl,rfl,rfl,trivial⟩ ⟨rfl,rfl,rfl,rfl,rfl,(Qv (by first | rfl | simp)),trivial⟩ rfl rfl
     ·have hb15':=of_decide_eq_true hb15
      refine w_ ?_
      refine QA ?_
      refine (?_:AC _ _ _ _ _)
      iterate 3 refine w_ ?_
      refine lc (Y4 34 (Z2 og (SgOk.w hS)) WG ⟨_,_,rfl,(YL (Qb rfl) ⟨_,_,rfl, .inr ⟨_,_,_,_,rfl,rfl,rfl⟩,⟨_,_,rfl, .inr ⟨_,_,_,_,rfl,rfl,rfl⟩,⟨_,_,rfl, .inr ⟨_,_,_,_,rfl,rfl,rfl⟩,rfl⟩⟩⟩),rfl⟩ rfl (Fresh.of rfl) (nlr rfl)) ?_
      iterate 3 refine w_ ?_
      have hb16:(decide (0 < ((ZQ og).length:Int)))=true:=hb9
      try rw[hb16]
      iterate 2 refine w_ ?_
      refine lc (QC Yw rfl (List.all_eq_true.1 rfl) rfl rfl)<|lc (Qf (Qa rfl) rfl (Qb rfl) rfl QK rfl) ?_
      iterate 3 refine w_ ?_
      refine AC.wk (QR 35 (p:=1) (off:=0) 145 (.pr .str .int) rfl rfl (Fresh.of rfl) (nlr rfl))<|AC.wk (QR 36 (p:=1) (off:=1) 9 .str rfl rfl (Fresh.of rfl) (nlr rfl))<|AC.wk (QR 37 (p:=1) (off:=2) 179 (.pr .int (.pr .int (.pr .bool .int))) rfl rfl (Fresh.of rfl) (nlr rfl))<|AC.wk (Wk.nilS 38 3 63 (.pr (.pr .int .bool) (.pr .int .bool)) rfl (Fresh.of rfl) (nlr rfl))<|Qe ?_
      subst hO
      have e17:(false:Bool)=((Zn c).2.2):=by
       (rw[Zo (og:=og) (il:=il) (hR.trans (Z1 hS (.inr (.inr (by omega))))) (by omega)]; done)
      exact Q2 _ _ [(0,35),(1,36),(2,37),(3,38)] (Zj rfl (Zk rfl rfl QK rfl) (Qc rfl) (Qc rfl)) ((congrArg (fun z_=>PV.tup [(true,[.ref 35, .ref 36, .ref 37]),(false,[.ref 38]),(false,[dB z_])]) e17)) ⟨(Qv (by (rw[Zo (og:=og) (il:=il) (hR.trans (Z1 hS (.inr (.inr (by omega))))) (by omega)]; rfl))),(Qv (by (rw[Zo (og:=og) (il:=il) (hR.trans (Z1 hS (.inr (.inr (by omega))))) (by omega)]; rfl))),(Qv (by (rw[Zo (og:=og) (il:=il) (hR.trans (Z1 hS (.inr (.inr (by omega))))) (by omega)]; rfl))),(Qv (by (rw[Zo (og:=og) (il:=il) (hR.trans (Z1 hS (.inr (.inr (by omega))))) (by omega)]; done))),trivial⟩ rfl rfl
theorem Qhe [∀c,Decidable (SgOk c)][∀s,Decidable (ZZ s)](c:DSg):((Zn c).1.1.length≤8∧(Zn c).1.2.1.length≤300∧(Zn c).1.2.2.length≤4000)∧(Zn c).2.1.length≤2:=by
  unfold Zn
  split
  · rename_i h
    have hk:∀(f:Nat) (c:DSg) (l:List Yu),SgOk c→SgOk (Vv f c l).1∧(Vv f c l).2.length≤l.length+f:=fun f=>by
      induction f with
      | zero=>intro c l h; exact ⟨h,Nat.le_refl _⟩
      | succ f ih=>
        intro c l h
        rw[Vv]
        split
        · rename_i g
          obtain ⟨k1,k2⟩:=ih (Zi c (QY c)).2 (l++[Zu c (QY c)]) (Qcc h g.2.1)
          refine ⟨k1,Nat.le_trans k2 ?_⟩
          rw[List.length_append,List.length_cons,List.length_nil]; omega
        · exact ⟨h,Nat.le_add_right _ _⟩
    obtain ⟨k1,k2⟩:=hk 2 c [] h.1
    exact ⟨⟨k1.sigs.2.2,k1.some_.2,k1.few⟩,k2⟩
  · exact ⟨⟨Nat.zero_le _,Nat.zero_le _,Nat.zero_le _⟩,Nat.zero_le _⟩
end Go.Proofs.YtnakmhfjafecpaaGreat

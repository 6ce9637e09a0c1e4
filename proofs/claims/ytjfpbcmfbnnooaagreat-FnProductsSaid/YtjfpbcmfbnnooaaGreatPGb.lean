import Derived.Test.YtjfpbcmfbnnooaaGreatPEa
set_option linter.all false
namespace Go.Proofs.YtjfpbcmfbnnooaaGreat
open Go.RowKit Tryz
set_option maxRecDepth 100000
set_option maxHeartbeats 4000000
def rg {β:Type}(f:Nat→Option β)(m:Nat):List β:=(List.range m).filterMap f
def rf {β:Type}(f:Nat→List β)(m:Nat):List β:=(List.range m).flatMap f
section
variable {β:Type}{f:Nat→Option β}{g:Nat→List β}{m n i j k b:Nat}{y:β}{B:List β}
def WK (h:f m=some y):B++rg f m++[y]=B++rg f (m+1):=by
 unfold rg;rw[bk,List.filterMap_append];simp[h]
def Yg (h:f m=none):rg f m=rg f (m+1):=by
 unfold rg;rw[bk,List.filterMap_append];simp[h]
def Jv:(rg f m).length≤m:=bi (List.length_filterMap_le ..) (by simp)
theorem Qvw (h:∀j,j<m→f j=none):rg f m=[]:=by
 grind [rg,List.filterMap_eq_nil_iff]
theorem Qap:rf g i++g i=rf g (i+1):=by unfold rf;rw[bk,cF];simp
def Qvv (h:∀i,(g i).length≤b):(rf g n).length≤n*b:=by
 induction n with
 | zero=>simp[rf]
 | succ n d=>rw[← Qap,ai,Nat.succ_mul];have:=h n;omega
theorem QgP:y∈rg f m↔∃j,j<m∧f j=some y:=by unfold rg;rw[List.mem_filterMap];simp
def QBD:y∈rf g m↔∃j,j<m∧y∈g j:=by unfold rf;rw[cj];simp
def QBF:rg f m=[]↔∀j,j<m→f j=none:=by unfold rg;rw[List.filterMap_eq_nil_iff];simp
end
def arA (as_:List DAr)(j:Nat):DAr:=(as_[j]?).getD (0,0,false,0)
def QcS {as_:List DAr}{j:Nat}{a:DAr}(h:as_[j]? =some a):arA as_ j=a:=by unfold arA;rw[h];rfl
def Qes (as_:List DAr)(i j:Nat):Option (List Int):=if i<j∧0≤(arA as_ i).2.1∧(arA as_ j).1=(arA as_ i).1∧(arA as_ j).2.1=(arA as_ i).2.1∧(arA as_ j).2.2.2≠(arA as_ i).2.2.2 then some [(i:Int),(j:Int)] else none
def VZ (as_:List DAr)(i:Nat):List (List Int):=rf (fun i=>rg (Qes as_ i) as_.length) i
section
variable {as_:List DAr}{a b:DAr}{i j k m:Nat}{c:DSg}{s q:Int}
theorem QlC (r:as_[i]? =some a)(hb:as_[j]? =some b)(h:i<j)(h0:0≤a.2.1)(d:b.1=a.1)(e:b.2.1=a.2.1)(o:¬b.2.2.2=a.2.2.2):Qes as_ i j=some [(i:Int),(j:Int)]:=by
 unfold Qes;rw[QcS r,QcS hb,if_pos ⟨h,h0,d,e,o⟩]
def U4 (d:as_[i]? =some a)(hb:as_[j]? =some b)(h:¬(0≤a.2.1∧b.1=a.1∧b.2.1=a.2.1∧¬b.2.2.2=a.2.2.2)):Qes as_ i j=none:=by
 unfold Qes;rw[QcS d,QcS hb,if_neg fun g=>h g.2]
def Qiy:rg (Qes as_ i) (i+1)=[]:=Qvw fun j d=>if_neg fun g=>by omega
def QyT:(VZ as_ i).length≤i*as_.length:=Qvv fun _=>Jv
def Qqn (h:as_.length≤4000)(hi:i≤as_.length):(VZ as_ i).length≤16000000:=bi QyT (bi (cO (bi hi h) h) (by decide))
def Qb2 (c:DSg)(k s:Int)(a:DAr):Bool:= !decide (a.2.1=s)&&(!Zq c a.2.2.2 s&& !(Ya c s&&Ya c a.2.1))
def Qkr (c:DSg)(k s:Int)(n:Nat):Option (Int×Int×Int):=if (arA c.2.2 n).1=k∧Qb2 c k s (arA c.2.2 n)=true then some (k,s,(n:Int)) else none
def QFB (c:DSg)(ts:List Int)(k s:Int)(i:Nat):Option (Int×Int×Int):=match ts[i]? with
 | some q=>if Qb2 c k s (arA c.2.2 q.toNat)=true then some (k,s,q) else none
 | none=>none
def nxA (c:DSg)(k:Nat):List Int:=((YH c.2.1.length (ixE c.2.2))[k]?).getD []
def Hl (c:DSg)(r:Nat→Nat→List (Int×Int×Int))(k j:Nat):List (Int×Int×Int):=rf (fun s=>if Zq c (k:Int) (s:Int)=true then r k s else []) j
def rwS (c:DSg)(k s:Nat):List (Int×Int×Int):=rg (Qkr c k s) c.2.2.length
def rwI (c:DSg)(k s:Nat):List (Int×Int×Int):=rg (QFB c (nxA c k) k s) (nxA c k).length
def Qb3 (c:DSg)(r:Nat→Nat→List (Int×Int×Int))(n:Nat):List (Int×Int×Int):=rf (fun k=>Hl c r k c.1.length) n
def Xe (d:c.2.2[m]? =some a)(h:a.1=q)(hb:Qb2 c q s a=true):Qkr c q s m=some (q,s,(m:Int)):=by unfold Qkr;rw[QcS d,if_pos ⟨h,hb⟩]
def ZI (d:c.2.2[m]? =some a)(h:¬(a.1=q∧Qb2 c q s a=true)):Qkr c q s m=none:=by unfold Qkr;rw[QcS d,if_neg h]
def QcY (h:a.2.1=s):Qb2 c q s a=false:=by unfold Qb2;rw[ay h];rfl
def QcZ (h:Zq c a.2.2.2 s=true):Qb2 c q s a=false:=by unfold Qb2;rw[h];simp
def Qc0 (h:Ya c s=true)(d:Ya c a.2.1=true):Qb2 c q s a=false:=by unfold Qb2;rw[h,d];simp
def Qc1 (h:¬a.2.1=s)(d:Zq c a.2.2.2 s=false)(e:Ya c s=false):Qb2 c q s a=true:=by unfold Qb2;rw[aj h,d,e];rfl
def Qc2 (h:¬a.2.1=s)(d:Zq c a.2.2.2 s=false)(e:Ya c a.2.1=false):Qb2 c q s a=true:=by unfold Qb2;rw[aj h,d,e];simp
def Qyv {s k:Nat}:(rwS c k s).length≤c.2.2.length:=Jv
theorem Qks {r:Nat→Nat→List (Int×Int×Int)}(h:∀s,(r k s).length≤c.2.2.length):(Hl c r k j).length≤j*c.2.2.length:=Qvv fun s=>by
 split
 ·exact h s
 ·exact aL _
theorem Qtr {r:Nat→Nat→List (Int×Int×Int)}{n:Nat}(h:∀k s,k<n→(r k s).length≤c.2.2.length):(Qb3 c r n).length≤n*(c.1.length*c.2.2.length):=by
 induction n with
 | zero=>simp[Qb3,rf]
 | succ n d=>
  grind [Hl,Qks,Qb3,Qap,List.length_append,Nat.succ_mul]
def QwV (e:SgW c){r:Nat→Nat→List (Int×Int×Int)}{n:Nat}(D:n≤c.2.1.length)(C:j≤c.1.length)(h:∀k s,k<c.2.1.length→(r k s).length≤c.2.2.length):(Qb3 c r n).length≤9600000∧(k<c.2.1.length→(Hl c r k j).length≤32000):=by
 have u:=e.sig8;have v:=e.some_;have d:=e.few
 have w:=Qtr (c:=c) (r:=r) (n:=n) fun k s o=>h k s (by omega)
 have t:c.1.length*c.2.2.length≤8*4000:=cO u d
 have x:n*(c.1.length*c.2.2.length)≤300*(8*4000):=cO (by omega) t
 refine ⟨by omega,fun o=> ?_⟩
 have z:(Hl c r k j).length≤j*c.2.2.length:=Qks fun s=>h k s o
 have A:j*c.2.2.length≤8*4000:=cO (by omega) d
 omega
def QqH {r:Nat→Nat→List (Int×Int×Int)}(h:c.1.length≤j)(d:j≤c.1.length):Qb3 c r k++Hl c r k j=Qb3 c r (k+1):=by
 obtain rfl:j=c.1.length:=by omega
 exact Qap
theorem QoL {r:Nat→Nat→List (Int×Int×Int)}{L:List (Int×Int×Int)}(h:Zq c (k:Int) (j:Int)=false):L++Hl c r k j=L++Hl c r k (j+1):=by
 grind [Hl,Zq,Qap]
theorem Qts {r:Nat→Nat→List (Int×Int×Int)}{L:List (Int×Int×Int)}(h:Zq c (k:Int) (j:Int)=true):L++Hl c r k j++r k j=L++Hl c r k (j+1):=by
 grind [Hl,Zq,Qap,List.append_assoc]
theorem QhH {L:List (Int×Int×Int)}{i:Nat}(h:Zq c (k:Int) (j:Int)=true)(hi:c.2.2.length≤i)(d:i≤c.2.2.length):L++Hl c (rwS c) k j++rg (Qkr c k j) i=L++Hl c (rwS c) k (j+1):=by
 grind [Qts,rwS]
end
def Qdq (c:DSg):Bool:=c.2.2.any fun a=>decide (a.2.1= -1)
abbrev ZB:BA:=⟨#[109,97,100,101]⟩
def Z6 (c:DSg):BA:=if Qdq c=true then ⟨#[104,105,100,100,101,110]⟩ else if 0<((VZ c.2.2 c.2.2.length).length:Int) then ⟨#[116,119,111,32,119,97,121,115]⟩ else if 0<((Qb3 c (rwS c) c.2.1.length).length:Int) then ⟨#[98,114,101,97,107]⟩ else if 0<((QkB c).length:Int) then ⟨#[99,111,110,102,108,105,99,116]⟩ else ZB
section
variable {c:DSg}{as_:List DAr}{a:DAr}{i j k:Nat}{m s q:Int}{l:List Int}{p:List Int}
def QGP (h:Qdq c=true):(⟨#[104,105,100,100,101,110]⟩:BA)=Z6 c:=by unfold Z6;rw[if_pos h]
def QGQ (h:Qdq c=false)(d:0<((VZ c.2.2 c.2.2.length).length:Int)):(⟨#[116,119,111,32,119,97,121,115]⟩:BA)=Z6 c:=by unfold Z6;rw[if_neg (by rw[h];decide),if_pos d]
def QGR (h:Qdq c=false)(d:¬0<((VZ c.2.2 c.2.2.length).length:Int))(e:0<((Qb3 c (rwS c) c.2.1.length).length:Int)):(⟨#[98,114,101,97,107]⟩:BA)=Z6 c:=by
 unfold Z6;rw[if_neg (by rw[h];decide),if_neg d,if_pos e]
theorem QGS (h:Qdq c=false)(d:¬0<((VZ c.2.2 c.2.2.length).length:Int))(e:¬0<((Qb3 c (rwS c) c.2.1.length).length:Int))(o:0<((QkB c).length:Int)):(⟨#[99,111,110,102,108,105,99,116]⟩:BA)=Z6 c:=by
 grind [Z6]
theorem QGT (h:Qdq c=false)(d:¬0<((VZ c.2.2 c.2.2.length).length:Int))(e:¬0<((Qb3 c (rwS c) c.2.1.length).length:Int))(o:¬0<((QkB c).length:Int)):ZB=Z6 c:=by
 grind [Z6]
def QxG (d:c.2.2[k]? =some a)(h:a.2.1<0)(e: -1≤a.2.1):true=Qdq c:=(bG.2 ⟨a,ah d,ay (by omega)⟩).symm
def QAN (h:∀j,j<k→∀a,c.2.2[j]? =some a→¬a.2.1<0)(t:c.2.2.length≤k):false=Qdq c:=(bV.2 fun a e=>by
 obtain ⟨j,d⟩:=aG.1 e
 have o:=(ae.1 d).1
 have r:=h j (by omega) a d
 simp only[aY]
 omega).symm
def Qgw {n:Int}{l:Int×Bool}(h:K0 n l): -1≤l.1:=by
 rcases h with h|h <;> omega
def Qoq (d:∀a∈as_,-1≤a.2.1)(e:as_[k]? =some a): -1≤a.2.1:=d a (ah e)
def Qwd {β:Type}{B:List β}{f:Nat→Option β}{y:β}{out:List β}(h:0≤m)(e:out=B++rg f m.toNat)(d:f m.toNat=some y):out++[y]=B++rg f (m+1).toNat:=by
 rw[show (m+1).toNat=m.toNat+1 by omega,e];exact WK d
def QdZ {β:Type}{B:List β}{f:Nat→Option β}{out:List β}(h:0≤m)(e:out=B++rg f m.toNat)(d:f m.toNat=none):out=B++rg f (m+1).toNat:=by
 rw[show (m+1).toNat=m.toNat+1 by omega,e,Yg d]
def Qwb (d:m≤(as_.length:Int))(e:¬m<(as_.length:Int)):VZ as_ i++rg (Qes as_ i) m.toNat=VZ as_ (i+1):=by
 rw[show m.toNat=as_.length by omega];exact Qap
theorem Qwc {b:DAr}(d:0≤m)(t:as_[i]? =some a)(hb:as_[m.toNat]? =some b)(h:(i:Int)<m)(h0:0≤a.2.1)(e:b.1=a.1)(o:b.2.1=a.2.1)(r:¬b.2.2.2=a.2.2.2):Qes as_ i m.toNat=some [(i:Int),m]:=by
 grind [QlC]
theorem Qih (d:k<c.1.length)(h:Ya c (k:Int)=false):Qt c.1 k++[(k:Int)]=Qt c.1 (k+1):=by
 have e:c.1[k]? =some c.1[k]:=ak d
 grind [QrO,Qi5]
theorem Qk9 (d:k<c.1.length)(h:Ya c (k:Int)=true):Qt c.1 k=Qt c.1 (k+1):=by
 have e:c.1[k]? =some c.1[k]:=ak d
 grind [Qvf,Qi5]
def Qs4 {α:Type}{l:List α}{f:α→Bool}{x:α}(d:l[k]? =some x)(h:(l.take k).any f=true):true=(l.take (k+1)).any f:=by rw[Qr d,List.any_append,h];rfl
def Qs3 {α:Type}{l:List α}{f:α→Bool}{x:α}(d:l[k]? =some x)(h:(l.take k).any f=false):f x=(l.take (k+1)).any f:=by rw[Qr d,List.any_append,h];simp
def Qi1 {α:Type}{l:List α}{f:α→Bool}{x:α}(d:l[k]? =some x)(h:f x=true):(l.take k).filter f++[x]=(l.take (k+1)).filter f:=by rw[Qr d,bg];simp[h]
def QnD {α:Type}{l:List α}{f:α→Bool}{x:α}(d:l[k]? =some x)(h:f x=false):(l.take k).filter f=(l.take (k+1)).filter f:=by rw[Qr d,bg];simp[h]
def QqQ (c:DSg)(p:List Int):Bool:=QAh c (mAt p 0).toNat (mAt p 1).toNat
def Qo2 (h:p=[(i:Int),(j:Int)]):QqQ c p=QAh c i j:=by subst h;rfl
def Qb8 {b:Bool}(h:p=[(i:Int),(j:Int)])(e:(Qt c.1 c.1.length).length≤k)(d:((Qt c.1 c.1.length).take k).any (fun s=> !(Zq c (i:Int) s==Zq c (j:Int) s))=b):QqQ c p=b:=by
 rw[Zy e] at d
 rw[Qo2 h];exact d
def QtF:(YZ c (fun _ _=>true) c.2.1.length).filter (QqQ c)=QkB c:=by
 rw[Qkp]
 exact QlT fun i j _ _=>by rw[Qo2 rfl];simp
theorem Qyd (h:(YZ c (fun _ _=>true) c.2.1.length)[k]? =some p):∃i j:Nat,p=[(i:Int),(j:Int)]:=by
 have h:=ah h
 grind [YZ,Qvx]
end
def Qd8 (c:Yw)(T:c.2.2.length≤4000)(V:∀a∈c.2.2,-1≤a.2.1):FC prog 97 [(true,[.dat Qj c.1,.dat Qd c.2.1,.dat Qq c.2.2])] [] 0 (WB 62 Qv (VZ c.2.2 c.2.2.length)):=by
 refine Ql func97 rfl rfl ntmps97 fun X R W O Y Q P=>w_ ?_
 refine xbx 0 ?_
 refine w3 ?_
 refine lc (dBs 1 (e:=Qv) H6)<|w10 ?_
 refine lp0 c.2.2.length (fun i=>⟨[(1,lP 0 0),(2,lf (.val (.slice none 0 0))),(3,lR 2),(10,lf (.dat Qq c.2.2)),(11,lI (c.2.2.length:Int)),(12,lI (i:Int))],[bx 0 28 [.dat Qj c.1,.dat Qd c.2.1,.dat Qq c.2.2],ar 2 62 Qv (VZ c.2.2 i)]⟩) ?_ fun i _=> ?_
 exact wp [(2,1)] ⟨rfl,(Qg (rfl)),trivial⟩
 have K:=Qqn (i:=i) T
 refine w4 ?_
 cases E:(decide ((i:Int)<(c.2.2.length:Int)))
 have F:=ab E
 refine w8 ?_
 refine fo_ R ?_
 (congr 1;omega)
 have F:=aa E
 refine w6 ?_
 obtain ⟨o,J⟩:=gx c.2.2 i
 have r:=J
 have L:=Qoq V J
 refine w2 ?_
 refine lc (xal 3 Yi Yp)<|w9 ?_
 refine Qy (fun M N=>∃(m:Int) (d:List (List Int)),M=((c.2.2.length:Int) - m).toNat∧((i:Int)+1≤m∧m≤(c.2.2.length:Int))∧(d=VZ c.2.2 i++rg (Qes c.2.2 i) m.toNat)∧N=⟨[(1,lP 0 0),(2,lf (.val (.slice none 0 0))),(3,lR 4),(4,lI (i:Int)),(5,lP 3 0),(6,lI m),(10,lf (.dat Qq c.2.2)),(11,lI (c.2.2.length:Int)),(12,lI (i:Int))],[bx 0 28 [.dat Qj c.1,.dat Qd c.2.1,.dat Qq c.2.2],bx 3 139 [dI o.1,dI o.2.1,dB o.2.2.1,dI o.2.2.2],ar 4 62 Qv d]⟩) ⟨(i:Int)+1,VZ c.2.2 i,rfl,(by omega),(by rw[show ((i:Int)+1).toNat=i+1 by omega,Qiy,bH]),rfl⟩ ?_ ?_
 exact wp [(4,2)] ⟨rfl,rfl,(Qg (by first|rfl|simp)),trivial⟩
 rintro M N ⟨m,d,S,Z,h,rfl⟩
 have U:d.length≤17000000:=by rw[h,ai];have:=Jv (f:=Qes c.2.2 i) (m:=m.toNat);have:=K (by omega);omega
 refine w8 ?_
 cases G:(decide (m<(c.2.2.length:Int)))
 have H:=ab G
 refine w6 ?_
 exact Qc<|l0_<|wp [(2,4)] ⟨rfl,(Qg ((by rw[h];exact Qwb (by omega) (by omega)))),trivial⟩
 have H:=aa G
 refine w8 ?_
 obtain ⟨am,I⟩:=gx c.2.2 ((m).toNat)
 have t:=I
 refine w2 ?_
 refine lc (xal 5 Yi Yp)<|w5 ?_
 refine alI 32 fun _=> ?_
 refine w2 ?_
 cases u:(!decide (o.2.1=(-1)))
 have z:(o.2.1=(-1)):=QB u
 refine w16 ?_
 refine w12 ?_
 exact Qc<|Zb ⟨(m+1),d,rfl,(by omega),(by exact QdZ (by omega) h (U4 r t (by omega))),rfl⟩ (by omega)<|wo []
 have z:¬(o.2.1=(-1)):=QL u
 refine w7 ?_
 cases v:(decide (am.1=o.1))
 have A:=ab v
 refine w16 ?_
 refine w5 ?_
 exact Qc<|Zb ⟨(m+1),d,rfl,(by omega),(by exact QdZ (by omega) h (U4 r t (by omega))),rfl⟩ (by omega)<|wo []
 have A:=aa v
 refine w7 ?_
 cases w:(decide (am.2.1=o.2.1))
 have C:=ab w
 refine w14 ?_
 exact Qc<|Zb ⟨(m+1),d,rfl,(by omega),(by exact QdZ (by omega) h (U4 r t (by omega))),rfl⟩ (by omega)<|wo []
 have C:=aa w
 refine w7 ?_
 cases x:(!decide (am.2.2.2=o.2.2.2))
 have D:(am.2.2.2=o.2.2.2):=QB x
 refine w7 ?_
 exact Qc<|Zb ⟨(m+1),d,rfl,(by omega),(by exact QdZ (by omega) h (U4 r t (by omega))),rfl⟩ (by omega)<|wo []
 have D:¬(am.2.2.2=o.2.2.2):=QL x
 refine w5 ?_
 refine lc (dBs 6 (e:= .int) Ye)<|lc (dBs 7 (e:=Qv) H6 (hab:=by exact ⟨_,_,_,_,rfl,(.inl ⟨_,rfl,rfl,rfl⟩),⟨rfl,rfl⟩,rfl⟩))<|lc (dA 8 Qc4)<|w_ ?_
 refine Qc<|w5 ?_
 exact Qc<|Zb ⟨(m+1),(d++([[(i:Int),m]])),rfl,(by omega),(by exact Qwd (by omega) h (Qwc (by omega) r t (by omega) (by omega) (by omega) (by omega) (by omega))),rfl⟩ (by omega)<|wp [(4,8)] ⟨rfl,rfl,(Qg (by first|rfl|simp)),trivial⟩
def HH (c:Yw)(T:c.2.2.length≤4000)(V:∀a∈c.2.2,-1≤a.2.1):FC prog 127 [(true,[.dat Qj c.1,.dat Qd c.2.1,.dat Qq c.2.2])] [] 0 (WB 62 Qv (VZ c.2.2 c.2.2.length)):=by
 refine Ql func127 rfl rfl ntmps127 fun X R W O Y Q P=>w_ ?_
 refine xbx 0 ?_
 refine w13 ?_
 refine AC.wk (Wk.nilS 1 3 62 Qv rfl (Fresh.of rfl) (nlr rfl))<|lp0 c.2.2.length (fun i=>⟨[(1,lP 0 0),(2,lf (.val (.slice none 0 0))),(3,lR 2),(9,lf (.dat Qq c.2.2)),(10,lI (c.2.2.length:Int)),(11,lI (i:Int))],[bx 0 28 [.dat Qj c.1,.dat Qd c.2.1,.dat Qq c.2.2],ar 2 62 Qv (VZ c.2.2 i)]⟩) ?_ fun i _=> ?_
 exact wp [(2,1)] ⟨rfl,(Qg (rfl)),trivial⟩
 have J:=Qqn (i:=i) T
 refine w4 ?_
 cases F:(decide ((i:Int)<(c.2.2.length:Int)))
 have G:=ab F
 refine w8 ?_
 refine fo_ R ?_
 (congr 1;omega)
 have G:=aa F
 refine w6 ?_
 obtain ⟨t,K⟩:=gx c.2.2 i
 have o:=K
 refine w2 ?_
 refine lc (xal 3 Yi Yp)<|w9 ?_
 refine Qy (fun M N=>∃(m:Int) (d:List (List Int)),M=((c.2.2.length:Int) - m).toNat∧((i:Int)+1≤m∧m≤(c.2.2.length:Int))∧(d=VZ c.2.2 i++rg (Qes c.2.2 i) m.toNat)∧N=⟨[(1,lP 0 0),(2,lf (.val (.slice none 0 0))),(3,lR 4),(4,lI (i:Int)),(5,lP 3 0),(6,lI m),(9,lf (.dat Qq c.2.2)),(10,lI (c.2.2.length:Int)),(11,lI (i:Int))],[bx 0 28 [.dat Qj c.1,.dat Qd c.2.1,.dat Qq c.2.2],bx 3 139 [dI t.1,dI t.2.1,dB t.2.2.1,dI t.2.2.2],ar 4 62 Qv d]⟩) ⟨(i:Int)+1,VZ c.2.2 i,rfl,(by omega),(by rw[show ((i:Int)+1).toNat=i+1 by omega,Qiy,bH]),rfl⟩ ?_ ?_
 exact wp [(4,2)] ⟨rfl,rfl,(Qg (by first|rfl|simp)),trivial⟩
 rintro M N ⟨m,d,S,Z,h,rfl⟩
 have U:d.length≤17000000:=by rw[h,ai];have:=Jv (f:=Qes c.2.2 i) (m:=m.toNat);have:=J (by omega);omega
 refine w8 ?_
 cases H:(decide (m<(c.2.2.length:Int)))
 have I:=ab H
 refine w6 ?_
 exact Qc<|l0_<|wp [(2,4)] ⟨rfl,(Qg ((by rw[h];exact Qwb (by omega) (by omega)))),trivial⟩
 have I:=aa H
 refine w8 ?_
 obtain ⟨am,z⟩:=gx c.2.2 ((m).toNat)
 have r:=z
 have L:=Qoq V z
 refine w2 ?_
 refine lc (xal 5 Yi Yp)<|w9 ?_
 cases u:(decide (t.1=am.1))
 have A:=ab u
 refine w16 ?_
 refine w10 ?_
 exact Qc<|Zb ⟨(m+1),d,rfl,(by omega),(by exact QdZ (by omega) h (U4 o r (by omega))),rfl⟩ (by omega)<|wo []
 have A:=aa u
 refine w7 ?_
 cases v:(decide (t.2.1=am.2.1))
 have C:=ab v
 refine w16 ?_
 refine w3 ?_
 exact Qc<|Zb ⟨(m+1),d,rfl,(by omega),(by exact QdZ (by omega) h (U4 o r (by omega))),rfl⟩ (by omega)<|wo []
 have C:=aa v
 refine w5 ?_
 cases w:(decide (0≤t.2.1))
 have D:=ab w
 refine w14 ?_
 exact Qc<|Zb ⟨(m+1),d,rfl,(by omega),(by exact QdZ (by omega) h (U4 o r (by omega))),rfl⟩ (by omega)<|wo []
 have D:=aa w
 refine w7 ?_
 cases x:(!decide (t.2.2.2=am.2.2.2))
 have E:(t.2.2.2=am.2.2.2):=QB x
 refine w7 ?_
 exact Qc<|Zb ⟨(m+1),d,rfl,(by omega),(by exact QdZ (by omega) h (U4 o r (by omega))),rfl⟩ (by omega)<|wo []
 have E:¬(t.2.2.2=am.2.2.2):=QL x
 refine w5 ?_
 refine lc (dBs 6 (e:= .int) Ye)<|lc (dBs 7 (e:=Qv) H6 (hab:=by exact ⟨_,_,_,_,rfl,(.inl ⟨_,rfl,rfl,rfl⟩),⟨rfl,rfl⟩,rfl⟩))<|lc (dA 8 Qc4)<|w_ ?_
 refine Qc<|w5 ?_
 exact Qc<|Zb ⟨(m+1),(d++([[(i:Int),m]])),rfl,(by omega),(by exact Qwd (by omega) h (Qwc (by omega) o r (by omega) (by omega) (by omega) (by omega) (by omega))),rfl⟩ (by omega)<|wp [(4,8)] ⟨rfl,rfl,(Qg (by first|rfl|simp)),trivial⟩
def Kd (c:Yw)(sig:Int)(z:sig<(c.1.length:Int)):FC prog 204 [(true,[.dat Qj c.1,.dat Qd c.2.1,.dat Qq c.2.2]),(false,[dI sig])] [] 0 (QJ (lB (!Ya c sig))):=by
 refine Ql func204 rfl rfl ntmps204 fun w o v r x u t=>acI 1 fun _=>w_ ?_
 refine xbx 0 ?_
 refine w6 ?_
 cases d:(decide (sig<0))
 have e:=ab d
 refine w3 ?_
 obtain ⟨A,h⟩:=gx c.1 ((sig).toNat)
 refine w8 ?_
 refine fqB o ?_
 ·(rw[← Qi5 (by omega) h];done)
 have e:=aa d
 refine w11 ?_
 refine fqB o ?_
 (rw[← QxM (by omega)];rfl)
def Wi (c:Yw)(C:c.1.length≤100000):FC prog 130 [(true,[.dat Qj c.1,.dat Qd c.2.1,.dat Qq c.2.2])] [] 0 (WB 3 .int (Qt c.1 c.1.length)):=by
 refine Ql func130 rfl rfl ntmps130 fun z u x o A t r=>w_ ?_
 refine xbx 0 ?_
 refine w13 ?_
 refine AC.wk (Wk.nilS 1 3 3 .int rfl (Fresh.of rfl) (nlr rfl))<|lp0 c.1.length (fun k=>⟨[(1,lP 0 0),(2,lf (.val (.slice none 0 0))),(3,lR 2),(7,lI (c.1.length:Int)),(8,lI (k:Int))],[bx 0 28 [.dat Qj c.1,.dat Qd c.2.1,.dat Qq c.2.2],ar 2 3 .int (Qt c.1 k)]⟩) ?_ fun k _=> ?_
 exact wp [(2,1)] ⟨rfl,(Qg (rfl)),trivial⟩
 have w:=XQ (ss:=c.1) (k:=k)
 refine w4 ?_
 cases d:(decide ((k:Int)<(c.1.length:Int)))
 have h:=ab d
 refine w8 ?_
 refine fo_ u ?_
 (congr 1;omega)
 have h:=aa d
 refine w11 ?_
 refine lc (dK (Kd c (k:Int) (by omega)) Qbh)<|w_ ?_
 cases v:(Ya c (k:Int))
 refine w4 ?_
 refine lc (dBs 3 (e:= .int) Ye)<|lc (dA 4 Xg)<|w_ ?_
 refine Qc<|w4 ?_
 exact Qc<|l0_<|wp [(2,4)] ⟨rfl,(Qg (by first|exact Qih (by omega) ‹_› | exact Qk9 (by omega) ‹_›)),trivial⟩
 refine w6 ?_
 exact Qc<|l0_<|wp [] ⟨rfl,(Qg (by first|exact Qih (by omega) ‹_› | exact Qk9 (by omega) ‹_›)),trivial⟩
def Qdk (c:Yw)(x:SgW c):FC prog 128 [(true,[.dat Qj c.1,.dat Qd c.2.1,.dat Qq c.2.2])] [] 0 (WB 253 QI (Qb3 c (rwS c) c.2.1.length)):=by
 have hr:∀a∈c.2.2,InR c.2.1.length a:=fun a R=>(x.arcs a R).1
 have a0:=x.some_
 have Z:=x.few
 have h8:=x.sig8
 have I:∀k s,k<c.2.1.length→(rwS c k s).length≤c.2.2.length:=fun k s hk=>Qyv
 refine Ql func128 rfl rfl ntmps128 fun O_ Q a1 N X_ P O=>w_ ?_
 refine xbx 0 ?_
 refine w13 ?_
 refine AC.wk (Wk.nilS 1 3 253 QI rfl (Fresh.of rfl) (nlr rfl))<|lp0 c.2.1.length (fun k=>⟨[(1,lP 0 0),(2,lf (.val (.slice none 0 0))),(3,lR 2),(10,lI (c.2.1.length:Int)),(11,lI (k:Int))],[bx 0 28 [.dat Qj c.1,.dat Qd c.2.1,.dat Qq c.2.2],(2,some (.arr 253 QI (Qb3 c (rwS c) k)))]⟩) ?_ fun k _=> ?_
 exact wp [(2,1)] ⟨rfl,(Qg (rfl)),trivial⟩
 have G:=fun j hj=>QwV (n:=k) (k:=k) (j:=j) x (by omega) hj I
 refine w4 ?_
 cases A:(decide ((k:Int)<(c.2.1.length:Int)))
 have C:=ab A
 refine w8 ?_
 refine fo_ Q ?_
 (congr 1;omega)
 have C:=aa A
 refine w15 ?_
 refine lp0 c.1.length (fun j=>⟨[(1,lP 0 0),(2,lf (.val (.slice none 0 0))),(3,lR 3),(4,lI (k:Int)),(10,lI (c.2.1.length:Int)),(11,lI (k:Int)),(16,lI (c.1.length:Int)),(17,lI (j:Int))],[bx 0 28 [.dat Qj c.1,.dat Qd c.2.1,.dat Qq c.2.2],(3,some (.arr 253 QI (Qb3 c (rwS c) k++Hl c (rwS c) k j)))]⟩) ?_ fun j _=> ?_
 exact wp [(3,2)] ⟨rfl,(Qg (by simp[Hl,rf])),trivial⟩
 have H:=G j (by omega)
 refine w4 ?_
 cases D:(decide ((j:Int)<(c.1.length:Int)))
 have E:=ab D
 refine w6 ?_
 exact Qc<|l0_<|wp [(2,3)] ⟨rfl,(Qg (QqH (by omega) (by omega))),trivial⟩
 have E:=aa D
 refine w13 ?_
 refine lc (dK (Zo c (k:Int) (j:Int)) XN)<|w2 ?_
 cases W:(Zq c (k:Int) (j:Int))
 refine w6 ?_
 exact Qc<|l0_<|wp [] ⟨rfl,(Qg (by first|exact QoL ‹_› | exact QhH ‹_› (by omega) (by omega))),trivial⟩
 refine w9 ?_
 refine lp0 c.2.2.length (fun i=>⟨[(1,lP 0 0),(2,lf (.val (.slice none 0 0))),(3,lR 4),(4,lI (k:Int)),(5,lI (j:Int)),(10,lI (c.2.1.length:Int)),(11,lI (k:Int)),(16,lI (c.1.length:Int)),(17,lI (j:Int)),(26,lf (.dat Qq c.2.2)),(27,lI (c.2.2.length:Int)),(28,lI (i:Int))],[bx 0 28 [.dat Qj c.1,.dat Qd c.2.1,.dat Qq c.2.2],(4,some (.arr 253 QI (Qb3 c (rwS c) k++Hl c (rwS c) k j++rg (Qkr c k j) i)))]⟩) ?_ fun i _=> ?_
 exact wp [(4,3)] ⟨rfl,(Qg (by simp[rg])),trivial⟩
 have X:=Jv (f:=Qkr c k j) (m:=i)
 have Y:=H.2 (by omega)
 refine w4 ?_
 cases o:(decide ((i:Int)<(c.2.2.length:Int)))
 have u:=ab o
 refine w6 ?_
 exact Qc<|l0_<|wp [(3,4)] ⟨rfl,(Qg (by first|exact QoL ‹_› | exact QhH ‹_› (by omega) (by omega))),trivial⟩
 have u:=aa o
 refine w6 ?_
 obtain ⟨ar,h⟩:=gx c.2.2 i
 have z:=hr _ (ah h)
 obtain ⟨⟨S,T⟩,U,V⟩:=z
 have F:=(x.arcs _ (ah h)).2
 have M:ar.2.1<(c.1.length:Int):=QxR F
 have d:=h
 refine w2 ?_
 refine lc (xal 5 Yi Yp)<|w9 ?_
 cases r:(decide (ar.1=(k:Int)))
 have v:=ab r
 refine w16 ?_
 refine w2 ?_
 iterate 4 refine Qf rfl rfl rfl ?_ rfl
 refine w9 ?_
 exact Qc<|l0_<|wp [] ⟨rfl,(Qg (by first|exact WK (Xe d ‹_› (Qc1 ‹_› ‹_› ‹_›))|exact WK (Xe d ‹_› (Qc2 ‹_› ‹_› ‹_›))|exact congrArg _ (Yg (ZI d fun g=>absurd g.1 ‹_›))|exact congrArg _ (Yg (ZI d fun g=>absurd ((QcY ‹_›).symm.trans g.2) (by decide)))|exact congrArg _ (Yg (ZI d fun g=>absurd ((QcZ ‹_›).symm.trans g.2) (by decide)))|exact congrArg _ (Yg (ZI d fun g=>absurd ((Qc0 ‹_› ‹_›).symm.trans g.2) (by decide))))),trivial⟩
 have v:=aa r
 refine w6 ?_
 cases t:(!decide (ar.2.1=(j:Int)))
 have w:(ar.2.1=(j:Int)):=QB t
 refine w12 ?_
 iterate 4 refine Qf rfl rfl rfl ?_ rfl
 refine w9 ?_
 exact Qc<|l0_<|wp [] ⟨rfl,(Qg (by first|exact WK (Xe d ‹_› (Qc1 ‹_› ‹_› ‹_›))|exact WK (Xe d ‹_› (Qc2 ‹_› ‹_› ‹_›))|exact congrArg _ (Yg (ZI d fun g=>absurd g.1 ‹_›))|exact congrArg _ (Yg (ZI d fun g=>absurd ((QcY ‹_›).symm.trans g.2) (by decide)))|exact congrArg _ (Yg (ZI d fun g=>absurd ((QcZ ‹_›).symm.trans g.2) (by decide)))|exact congrArg _ (Yg (ZI d fun g=>absurd ((Qc0 ‹_› ‹_›).symm.trans g.2) (by decide))))),trivial⟩
 have w:¬(ar.2.1=(j:Int)):=QL t
 refine w4 ?_
 refine lgy rfl rfl (dK (Zo c ar.2.2.2 (j:Int)) XN)<|w3 ?_
 cases J:(Zq c ar.2.2.2 (j:Int))
 refine w2 ?_
 refine lgy rfl rfl (dK (Kd c (j:Int) (by omega)) Qbh)<|w_ ?_
 cases K:(Ya c (j:Int))
 refine w13 ?_
 refine lc (Qh QoK ⟨_,_,rfl,(Qm rfl),⟨_,_,rfl,(Qm rfl),⟨_,_,rfl,(Qm rfl),rfl⟩⟩⟩ (ao.1 rfl) rfl rfl)<|lc (dBs 6 (e:=QI) Qj5 (hab:=by exact ⟨_,_,_,_,rfl,⟨[dI (k:Int)],[dI (j:Int),dI (i:Int)],_,_,_,_,rfl,rfl,⟨rfl,rfl⟩,⟨[dI (j:Int)],[dI (i:Int)],_,_,_,_,rfl,rfl,⟨rfl,rfl⟩,⟨rfl,rfl⟩,rfl⟩,rfl⟩,⟨rfl,rfl⟩,rfl⟩))<|lc (dA 7 Qo6)<|w_ ?_
 refine Qc<|w4 ?_
 exact Qc<|l0_<|wp [(4,7)] ⟨rfl,(Qg (by first|exact WK (Xe d ‹_› (Qc1 ‹_› ‹_› ‹_›))|exact WK (Xe d ‹_› (Qc2 ‹_› ‹_› ‹_›))|exact congrArg _ (Yg (ZI d fun g=>absurd g.1 ‹_›))|exact congrArg _ (Yg (ZI d fun g=>absurd ((QcY ‹_›).symm.trans g.2) (by decide)))|exact congrArg _ (Yg (ZI d fun g=>absurd ((QcZ ‹_›).symm.trans g.2) (by decide)))|exact congrArg _ (Yg (ZI d fun g=>absurd ((Qc0 ‹_› ‹_›).symm.trans g.2) (by decide))))),trivial⟩
 refine w3 ?_
 refine lgy rfl rfl (dK (Kd c ar.2.1 (by omega)) Qbh)<|w3 ?_
 cases L:(Ya c ar.2.1)
 refine w6 ?_
 refine lc (Qh QoK ⟨_,_,rfl,(Qm rfl),⟨_,_,rfl,(Qm rfl),⟨_,_,rfl,(Qm rfl),rfl⟩⟩⟩ (ao.1 rfl) rfl rfl)<|lc (dBs 8 (e:=QI) Qj5 (hab:=by exact ⟨_,_,_,_,rfl,⟨[dI (k:Int)],[dI (j:Int),dI (i:Int)],_,_,_,_,rfl,rfl,⟨rfl,rfl⟩,⟨[dI (j:Int)],[dI (i:Int)],_,_,_,_,rfl,rfl,⟨rfl,rfl⟩,⟨rfl,rfl⟩,rfl⟩,rfl⟩,⟨rfl,rfl⟩,rfl⟩))<|lc (dA 9 Qo6)<|w_ ?_
 refine Qc<|w4 ?_
 exact Qc<|l0_<|wp [(4,9)] ⟨rfl,(Qg (by first|exact WK (Xe d ‹_› (Qc1 ‹_› ‹_› ‹_›))|exact WK (Xe d ‹_› (Qc2 ‹_› ‹_› ‹_›))|exact congrArg _ (Yg (ZI d fun g=>absurd g.1 ‹_›))|exact congrArg _ (Yg (ZI d fun g=>absurd ((QcY ‹_›).symm.trans g.2) (by decide)))|exact congrArg _ (Yg (ZI d fun g=>absurd ((QcZ ‹_›).symm.trans g.2) (by decide)))|exact congrArg _ (Yg (ZI d fun g=>absurd ((Qc0 ‹_› ‹_›).symm.trans g.2) (by decide))))),trivial⟩
 refine w6 ?_
 exact Qc<|l0_<|wp [] ⟨rfl,(Qg (by first|exact WK (Xe d ‹_› (Qc1 ‹_› ‹_› ‹_›))|exact WK (Xe d ‹_› (Qc2 ‹_› ‹_› ‹_›))|exact congrArg _ (Yg (ZI d fun g=>absurd g.1 ‹_›))|exact congrArg _ (Yg (ZI d fun g=>absurd ((QcY ‹_›).symm.trans g.2) (by decide)))|exact congrArg _ (Yg (ZI d fun g=>absurd ((QcZ ‹_›).symm.trans g.2) (by decide)))|exact congrArg _ (Yg (ZI d fun g=>absurd ((Qc0 ‹_› ‹_›).symm.trans g.2) (by decide))))),trivial⟩
 refine w4 ?_
 iterate 4 refine Qf rfl rfl rfl ?_ rfl
 refine w9 ?_
 exact Qc<|l0_<|wp [] ⟨rfl,(Qg (by first|exact WK (Xe d ‹_› (Qc1 ‹_› ‹_› ‹_›))|exact WK (Xe d ‹_› (Qc2 ‹_› ‹_› ‹_›))|exact congrArg _ (Yg (ZI d fun g=>absurd g.1 ‹_›))|exact congrArg _ (Yg (ZI d fun g=>absurd ((QcY ‹_›).symm.trans g.2) (by decide)))|exact congrArg _ (Yg (ZI d fun g=>absurd ((QcZ ‹_›).symm.trans g.2) (by decide)))|exact congrArg _ (Yg (ZI d fun g=>absurd ((Qc0 ‹_› ‹_›).symm.trans g.2) (by decide))))),trivial⟩
def Qep (c:Yw)(N:c.2.1.length≤300):FC prog 205 [(true,[.dat Qj c.1,.dat Qd c.2.1,.dat Qq c.2.2])] [] 0 (WB 62 Qv (YZ c (fun _ _=>true) c.2.1.length)):=by
 refine Ql func205 rfl rfl ntmps205 fun Q L P G R K J=>w_ ?_
 refine xbx 0 ?_
 refine w13 ?_
 refine AC.wk (Wk.nilS 1 3 62 Qv rfl (Fresh.of rfl) (nlr rfl))<|lp0 c.2.1.length (fun i=>⟨[(1,lP 0 0),(2,lf (.val (.slice none 0 0))),(3,lR 2),(8,lI (c.2.1.length:Int)),(9,lI (i:Int))],[bx 0 28 [.dat Qj c.1,.dat Qd c.2.1,.dat Qq c.2.2],ar 2 62 Qv (YZ c (fun _ _=>true) i)]⟩) ?_ fun i _=> ?_
 exact wp [(2,1)] ⟨rfl,(Qg (rfl)),trivial⟩
 have C:=Qko (c:=c) (f:=fun _ _=>true) (i:=i) N
 refine w4 ?_
 cases v:(decide ((i:Int)<(c.2.1.length:Int)))
 have w:=ab v
 refine w8 ?_
 refine fo_ L ?_
 (congr 1;omega)
 have w:=aa v
 refine w14 ?_
 refine Qy (fun E F=>∃(m:Int) (d:List (List Int)),E=((c.2.1.length:Int) - m).toNat∧((i:Int)+1≤m∧m≤(c.2.1.length:Int))∧(d=YZ c (fun _ _=>true) i++WR c (fun _ _=>true) i m.toNat)∧F=⟨[(1,lP 0 0),(2,lf (.val (.slice none 0 0))),(3,lR 3),(4,lI (i:Int)),(5,lI m),(8,lI (c.2.1.length:Int)),(9,lI (i:Int))],[bx 0 28 [.dat Qj c.1,.dat Qd c.2.1,.dat Qq c.2.2],ar 3 62 Qv d]⟩) ⟨(i:Int)+1,YZ c (fun _ _=>true) i,rfl,(by omega),(by rw[show ((i:Int)+1).toNat=i+1 by omega,Qoe,bH]),rfl⟩ ?_ ?_
 exact wp [(3,2)] ⟨rfl,(Qg (by first|rfl|simp)),trivial⟩
 rintro E F ⟨m,d,M,S,h,rfl⟩
 have O:d.length≤100000:=by rw[h,ai];have:=Qlm (c:=c) (f:=fun _ _=>true) (i:=i) (k:=m.toNat);have:=C (by omega);omega
 refine w8 ?_
 cases x:(decide (m<(c.2.1.length:Int)))
 have z:=ab x
 refine w6 ?_
 exact Qc<|l0_<|wp [(2,3)] ⟨rfl,(Qg ((by rw[h];exact QC4 (by omega) (by omega)))),trivial⟩
 have z:=aa x
 refine w4 ?_
 obtain ⟨H,D⟩:=gx c.2.1 i
 have o:=D
 obtain ⟨I,A⟩:=gx c.2.1 ((m).toNat)
 have r:=A
 apply dW (i9 21 _ _ _ _ _ _ _ _ _ (i2 30 _ _ [])) [0,0,3,0,0,31,31,127,31,31,0]
 exact y11
 cases t:(decide (H=I))
 have u:=ab t
 refine w7 ?_
 exact Qc<|Zb ⟨(m+1),d,rfl,(by omega),(by rw[h];first|exact Qzk (by omega) r o ‹_› | exact QC5 (by omega) r o ‹_›),rfl⟩ (by omega)<|wo []
 have u:=aa t
 refine w5 ?_
 refine lc (dBs 4 (e:= .int) Ye)<|lc (dBs 5 (e:=Qv) H6 (hab:=by exact ⟨_,_,_,_,rfl,(.inl ⟨_,rfl,rfl,rfl⟩),⟨rfl,rfl⟩,rfl⟩))<|lc (dA 6 Qc4)<|w_ ?_
 refine Qc<|w5 ?_
 exact Qc<|Zb ⟨(m+1),(d++([[(i:Int),m]])),rfl,(by omega),(by rw[h];first|exact Qzk (by omega) r o ‹_› | exact QC5 (by omega) r o ‹_›),rfl⟩ (by omega)<|wp [(3,6)] ⟨rfl,(Qg (by first|rfl|simp)),trivial⟩
def QaJ (c:Yw)(D:SgW c):FC prog 129 [(true,[.dat Qj c.1,.dat Qd c.2.1,.dat Qq c.2.2])] [] 0 (QJ (lf (.dat Y2 (QkB c)))):=by
 have J:=D.some_
 have R:=D.sig8
 have L:=Qko (c:=c) (f:=fun _ _=>true) (i:=c.2.1.length) (by omega) (aP _)
 have K:=XQ (ss:=c.1) (k:=c.1.length)
 refine Ql func129 rfl rfl ntmps129 fun P H O E Q G F=>w_ ?_
 refine xbx 0 ?_
 refine w6 ?_
 refine Q5<|AC.wk (Wk.nilS 1 3 62 Qv rfl (Fresh.of rfl) (nlr rfl))<|AC.wk (Wk.toFz (q:=1) rfl)<|w2 ?_
 refine lc (dK (Qep c (by omega)).frozen QmS)<|w4 ?_
 refine lp0 ((YZ c (fun _ _=>true) c.2.1.length).length) (fun k=>⟨[(1,lP 0 0),(2,lf (.val (.slice none 0 0))),(3,lR 2),(10,lf (.dat Y2 (YZ c (fun _ _=>true) c.2.1.length))),(11,lI ((YZ c (fun _ _=>true) c.2.1.length).length:Int)),(12,lI (k:Int))],[bx 0 28 [.dat Qj c.1,.dat Qd c.2.1,.dat Qq c.2.2],(2,some (.fz 62 Qv (((YZ c (fun _ _=>true) c.2.1.length).take k).filter (QqQ c))))]⟩) ?_ fun k _=> ?_
 exact wp [(2,1)] ⟨rfl,(QAn (rfl)),trivial⟩
 have I:=bR (QqQ c) ((YZ c (fun _ _=>true) c.2.1.length).take k)
 have M:((YZ c (fun _ _=>true) c.2.1.length).take k).length≤(YZ c (fun _ _=>true) c.2.1.length).length:=by simp only[au];omega
 refine w4 ?_
 cases u:(decide ((k:Int)<((YZ c (fun _ _=>true) c.2.1.length).length:Int)))
 have w:=ab u
 refine w7 ?_
 refine AC.wk (QlQ (i:=2) (q:=2) rfl rfl)<|w_ ?_
 refine fq_ H ?_
 first|(rw[Zy (by omega)];exact QtF)
 have w:=aa u
 refine w5 ?_
 obtain ⟨N,o⟩:=gx (YZ c (fun _ _=>true) c.2.1.length) k
 obtain ⟨r,t,d⟩:=Qyd o
 refine w10 ?_
 refine lc (dK (Wi c (by omega)).frozen K9)<|alL 17 fun _=> ?_
 refine w4 ?_
 refine lp0 ((Qt c.1 c.1.length).length) (fun j=>⟨[(1,lP 0 0),(2,lf (.val (.slice none 0 0))),(3,lR 2),(5,lf (.dat Qv N)),(6,lB (((Qt c.1 c.1.length).take j).any (fun s=> !(Zq c (r:Int) s==Zq c (t:Int) s)))),(10,lf (.dat Y2 (YZ c (fun _ _=>true) c.2.1.length))),(11,lI ((YZ c (fun _ _=>true) c.2.1.length).length:Int)),(12,lI (k:Int)),(17,lf (.dat Qv (Qt c.1 c.1.length))),(18,lI ((Qt c.1 c.1.length).length:Int)),(19,lI (j:Int))],[bx 0 28 [.dat Qj c.1,.dat Qd c.2.1,.dat Qq c.2.2],(2,some (.fz 62 Qv (((YZ c (fun _ _=>true) c.2.1.length).take k).filter (QqQ c))))]⟩) ?_ fun j _=> ?_
 exact Wk.of [] rfl ⟨rfl,rfl,rfl,rfl,(show some (lB false)=some (lB (((Qt c.1 c.1.length).take 0).any (fun s=> !(Zq c (r:Int) s==Zq c (t:Int) s)))) from congrArg (fun z_=>some (lB z_)) (rfl)),rfl,rfl,rfl,rfl,rfl,rfl,trivial⟩ ⟨rfl,rfl,trivial⟩ rfl rfl
 refine w4 ?_
 cases x:(decide ((j:Int)<((Qt c.1 c.1.length).length:Int)))
 have z:=ab x
 refine w6 ?_
 cases A:(((Qt c.1 c.1.length).take j).any (fun s=> !(Zq c (r:Int) s==Zq c (t:Int) s)))
 refine w6 ?_
 exact Qc<|l0_<|wp [] ⟨rfl,(QAn (by first|exact Qi1 o (Qb8 (k:=j) d (by omega) ‹_›)|exact QnD o (Qb8 (k:=j) d (by omega) ‹_›))),trivial⟩
 refine w4 ?_
 refine lc (QiA 3 JA VK H6 (Qm rfl) (by (rw[d];simp)) rfl (Fresh.of rfl) (nlr rfl))<|lc (Qhg 4 (Qa rfl) rfl (Qa rfl) rfl JA Qc4 (by first|omega|(simp only[ai,aC,au,av,aB];omega)|(simp only[ai,aX,au,av,aB];omega)) rfl (Fresh.of rfl) (nlr rfl))<|w_ ?_
 refine Qc<|w4 ?_
 exact Qc<|l0_<|wp [(2,4)] ⟨rfl,(QAn (by first|exact Qi1 o (Qb8 (k:=j) d (by omega) ‹_›)|exact QnD o (Qb8 (k:=j) d (by omega) ‹_›))),trivial⟩
 have z:=aa x
 refine w5 ?_
 obtain ⟨sg,e⟩:=gx (Qt c.1 c.1.length) j
 refine w4 ?_
 cases C:(((Qt c.1 c.1.length).take j).any (fun s=> !(Zq c (r:Int) s==Zq c (t:Int) s)))
 apply dV (i4 23 _ _ _ _ (io 27 (lf (.elt .int (r:Int) 0))::i2 28 _ _ (io 30 (lB (Zq c (r:Int) sg))::i2 31 _ _ (io 33 (lf (.elt .int (t:Int) 0))::i2 34 _ _ [io 36 (lB (Zq c (t:Int) sg)),io 37 (lB (!((Zq c (r:Int) sg)==(Zq c (t:Int) sg)))),io 38 _,io 6 _])))) [0,0,0,4,4,4,60,0,252,508,508,508,4092,0,0,0,0]
 refine z4 ?_
 refine zz (fun _ h=>day rfl (h.k rfl) (UN (h.v rfl) (Qn rfl) ZX Zv rfl (by omega) (by rw[d];rfl)) rfl)<|z2 ?_
 refine zz (fun _ h=>day rfl (h.k rfl) (dK (Zo c (r:Int) sg) XN) rfl)<|z2 ?_
 refine zz (fun _ h=>day rfl (h.k rfl) (UN (h.v rfl) (Qn rfl) ZX Zv rfl (by omega) (by rw[d];rfl)) rfl)<|z2 ?_
 exact zz (fun _ h=>day rfl (h.k rfl) (dK (Zo c (t:Int) sg) XN) rfl)<|zz (fun _ h=>day rfl (h.k rfl) (ZG (h.v rfl) (h.v rfl) rfl YY) rfl)<|y2
 refine w4 ?_
 exact Qc<|l0_<|Wk.of [] rfl ⟨rfl,rfl,rfl,rfl,(show some (lB (!((Zq c (r:Int) sg)==(Zq c (t:Int) sg))))=some (lB (((Qt c.1 c.1.length).take (j+1)).any (fun s=> !(Zq c (r:Int) s==Zq c (t:Int) s)))) from congrArg (fun z_=>some (lB z_)) (by first|exact Qs4 e ‹_› | exact Qs3 e ‹_›)),rfl,rfl,rfl,rfl,rfl,rfl,trivial⟩ ⟨rfl,rfl,trivial⟩ rfl rfl
 apply dV (i9 23 _ _ _ _ _ _ _ _ _ (i7 32 _ _ _ _ _ _ _ [io 6 _])) [0,0,0,4,4,4,60,0,252,508,508,508,4092,0,0,0,0]
 refine z16 ?_
 exact y1
 refine w4 ?_
 exact Qc<|l0_<|Wk.of [] rfl ⟨rfl,rfl,rfl,rfl,(show some (lB true)=some (lB (((Qt c.1 c.1.length).take (j+1)).any (fun s=> !(Zq c (r:Int) s==Zq c (t:Int) s)))) from congrArg (fun z_=>some (lB z_)) (by first|exact Qs4 e ‹_› | exact Qs3 e ‹_›)),rfl,rfl,rfl,rfl,rfl,rfl,trivial⟩ ⟨rfl,rfl,trivial⟩ rfl rfl
def KI (c:Yw)(C:∀a∈c.2.2,-1≤a.2.1):FC prog 126 [(true,[.dat Qj c.1,.dat Qd c.2.1,.dat Qq c.2.2])] [] 0 (QJ (lB (Qdq c))):=by
 refine Ql func126 rfl rfl ntmps126 fun F u D w G z x=>w_ ?_
 refine xbx 0 ?_
 refine w6 ?_
 refine alL 6 fun _=> ?_
 refine w4 ?_
 refine lpK c.2.2.length (fun k=>∀j,j<k→∀a,c.2.2[j]? =some a→¬a.2.1<0) (fun k=>⟨[(6,lf (.dat Qq c.2.2)),(7,lI (c.2.2.length:Int)),(8,lI (k:Int))],[]⟩) ((fun j A=>absurd A (aS j))) ?_ fun k _ t=> ?_
 exact wo []
 refine w4 ?_
 cases e:(decide ((k:Int)<(c.2.2.length:Int)))
 have h:=ab e
 refine w7 ?_
 refine fqB u ?_
 first|exact QAN t (by omega)
 have h:=aa e
 refine w5 ?_
 obtain ⟨E,d⟩:=gx c.2.2 k
 have v:=Qoq C d
 refine w2 ?_
 refine lc (xal 1 Yi Yp)<|w7 ?_
 cases o:(decide (E.2.1<0))
 have r:=ab o
 refine w6 ?_
 exact Qc<|lK_ ((Z5 t d ‹_›))<|wo []
 have r:=aa o
 refine w5 ?_
 exact fqB u<|QxG d ‹_› ‹_›
def Xl (c:Yw)(e:SgW c):FC prog 52 [(true,[.dat Qj c.1,.dat Qd c.2.1,.dat Qq c.2.2])] [] 0 (QJ (lf (dS (Z6 c)))):=by
 have u:=e.few
 refine Ql func52 rfl rfl ntmps52 fun w d v o x t r=>w_ ?_
 refine xbx 0 ?_
 refine w6 ?_
 refine lc (dK (KI c (fun a h=>Qgw (e.arcs a h).2)) QfA)<|w2 ?_
 refine cb_ (fun _=> ?_) fun _=> ?_
 refine w2 ?_
 refine lc (dK (HH c (by omega) (fun a h=>Qgw (e.arcs a h).2)).frozen QfB)<|w4 ?_
 refine cd_ (fun _ _=> ?_) fun _ _=> ?_
 refine w2 ?_
 refine lc (dK (Qdk c e).frozen Qml)<|w4 ?_
 refine cd_ (fun _ _=> ?_) fun _ _=> ?_
 refine w2 ?_
 refine lc (dK (QaJ c e) Qmm)<|w4 ?_
 refine cd_ (fun _ _=> ?_) fun _ _=> ?_
 refine w6 ?_
 exact fqS d<|QGT ‹_› ‹_› ‹_› ‹_›
 refine w4 ?_
 exact fqS d<|QGS ‹_› ‹_› ‹_› ‹_›
 refine w4 ?_
 exact fqS d<|QGR ‹_› ‹_› ‹_›
 refine w4 ?_
 exact fqS d<|QGQ ‹_› ‹_›
 refine w4 ?_
 exact fqS d<|QGP ‹_›
def QCF {c:DSg}{sig:Int}[Decidable (SgOk c)](h:decide (SgOk c∧(0≤sig∧sig≤(c.1.length:Int) - 1)∧Ya c sig=false)=true):decide (Z6 c=ZB)=decide ((0≤sig∧sig≤(c.1.length:Int) - 1)∧Ya c sig=false∧SgOk c∧Z6 c=ZB):=by
 have h:=aa h
 simp[h.1,h.2.1,h.2.2]
theorem QCE {c:DSg}{sig:Int}[Decidable (SgOk c)](h:decide (SgOk c∧(0≤sig∧sig≤(c.1.length:Int) - 1)∧Ya c sig=false)=false):false=decide ((0≤sig∧sig≤(c.1.length:Int) - 1)∧Ya c sig=false∧SgOk c∧Z6 c=ZB):=by
 grind
def QEd {c:DSg}{sig:Int}{x:Qs}[Decidable (SgOk c)](h0:SgOk c)(h:0≤sig∧sig≤(c.1.length:Int) - 1)(d:c.1[sig.toNat]? =some x):(!decide (x.2=1))=decide (SgOk c∧(0≤sig∧sig≤(c.1.length:Int) - 1)∧Ya c sig=false):=by
 rw[← Qi5 h.1 d];simp[h0,h]
def QEc {c:DSg}{sig:Int}[Decidable (SgOk c)](h:¬(0≤sig∧sig≤(c.1.length:Int) - 1)):false=decide (SgOk c∧(0≤sig∧sig≤(c.1.length:Int) - 1)∧Ya c sig=false):=(aj fun g=>h g.2.1).symm
def QEb {c:DSg}{sig:Int}[Decidable (SgOk c)](h:¬SgOk c):false=decide (SgOk c∧(0≤sig∧sig≤(c.1.length:Int) - 1)∧Ya c sig=false):=(aj fun g=>h g.1).symm
def KD (c:Yw)(sig:Int)[∀c,Decidable (SgOk c)]:FC prog 263 [(true,[.dat Qj c.1,.dat Qd c.2.1,.dat Qq c.2.2]),(false,[dI sig])] [] 0 (QJ (lB (decide (SgOk c∧(0≤sig∧sig≤(c.1.length:Int) - 1)∧Ya c sig=false)))):=by
 refine Ql func263 rfl rfl ntmps263 fun z r x u A w v=>acI 1 fun _=>w_ ?_
 refine xbx 0 ?_
 refine w4 ?_
 refine lc (dK (YC c) W2)<|w_ ?_
 cases d:(decide (SgOk c))
 have e:=ab d
 refine w16 ?_
 refine w3 ?_
 exact fqB r<|QEb ‹_›
 have e:=aa d
 refine w3 ?_
 refine alL 10 fun _=> ?_
 refine w2 ?_
 refine lgy rfl rfl (dK (ZD sig 0 ((c.1.length:Int) - 1)) Yj)<|w2 ?_
 cases h:(decide (0≤sig∧sig≤((c.1.length:Int) - 1)))
 have o:=ab h
 refine w11 ?_
 exact fqB r<|QEc ‹_›
 have o:=aa h
 refine w3 ?_
 obtain ⟨C,t⟩:=gx c.1 ((sig).toNat)
 refine w8 ?_
 exact fqB r<|QEd ‹_› ‹_› t
def Qdi (c:Yw)(sig:Int)[∀c,Decidable (SgOk c)]:FC prog 353 [(true,[.dat Qj c.1,.dat Qd c.2.1,.dat Qq c.2.2]),(false,[dI sig])] [] 0 (QJ (lB (decide ((0≤sig∧sig≤(c.1.length:Int) - 1)∧Ya c sig=false∧SgOk c∧Z6 c=ZB)))):=by
 refine Ql func353 rfl rfl ntmps353 fun v h u o w t r=>w_ ?_
 refine xbx 0 ?_
 refine w5 ?_
 refine lc (dK (KD c sig) QfR)<|w_ ?_
 cases d:(decide (SgOk c∧(0≤sig∧sig≤(c.1.length:Int) - 1)∧Ya c sig=false))
 have e:=ab d
 refine w7 ?_
 exact fqB h<|QCE ‹_›
 have e:=aa d
 refine w_ ?_
 refine lgy rfl rfl (dK (Xl c (by assumption:SgOk c∧_).1.w) V4)<|w5 ?_
 exact fqB h<|QCF ‹_›
def frL (as_:List DAr)(l:Int×Bool):List Int:=(as_.filter fun a=>decide (a.2.1=l.1∧a.2.2.1=l.2)).map fun a=>a.1
def xS (as_:List DAr)(l:Int×Bool):List Int:=ofG ltI (frL as_ l)
def edA (S:List Int)(a:DAr):List DAr:=[((a.1,-1,false,a.2.2.2):DAr),(a.2.2.2,-1,false,a.1)].filter fun e=>decide (e.2.2.2∈S)
def edL (as_:List DAr)(S:List Int):List DAr:=as_.flatMap (edA S)
abbrev Cn (as_:List DAr)(S:List Int)(x v:Int):Prop:=Ch (edL as_ S) (-1) (fun u=>u=x) v
noncomputable def cnB (as_:List DAr) (S:List Int) (x v:Int):Bool:= @decide (Cn as_ S x v) (Classical.propDecidable _)
noncomputable def cls (as_:List DAr) (S:List Int) (x:Int):List Int:=S.filter (cnB as_ S x)
noncomputable def repB (as_:List DAr) (S:List Int) (x:Int):Bool:=S.all fun v=> !cnB as_ S x v||decide (x≤v)
noncomputable def regV (as_:List DAr) (S:List Int):List (List Int):=(S.filter (repB as_ S)).map (cls as_ S)
noncomputable def compL (as_:List DAr) (S:List Int):Nat→List Int→List (List Int)
 | 0,_=>[]
 | _+1,[]=>[]
 | f+1,x::xs=>cls as_ S x::compL as_ S f ((x::xs).filter fun k=> !decide (k∈cls as_ S x))
def pE (S:List Int)(u:Int)(out:List Int)(e:Int×Int):List Int:=if e.1=u∧e.2∈S∧¬e.2∈out then out++[e.2] else out
abbrev edP (a:DAr):List (Int×Int):=[(a.1,a.2.2.2),(a.2.2.2,a.1)]
def pA (S:List Int)(u:Int)(out:List Int)(a:DAr):List Int:=(edP a).foldl (pE S u) out
section
variable {as_:List DAr}{a:DAr}{S T_ part left out:List Int}{x y u v w z:Int}{k i j n f:Nat}{l:Int×Bool}{e:Int×Int}
def Qor:x∈xS as_ l↔∃a∈as_,a.2.1=l.1∧a.2.2.1=l.2∧a.1=x:=by
 unfold xS frL
 rw[Qan Xt,aW]
 constructor
 ·rintro ⟨a,b,c⟩;rw[bA] at b;have:=aa b.2;exact ⟨a,b.1,this.1,this.2,c⟩
 ·rintro ⟨a,b,c,d,g⟩;exact ⟨a,bA.2 ⟨b,ay ⟨c,d⟩⟩,g⟩
def Qos:Srt (xS as_ l):=Ve Xt _
theorem QeF {b:DAr}:b∈edL as_ S↔b.2.2.2∈S∧b.2.1= -1∧b.2.2.1=false∧∃a∈as_,(b.1=a.1∧b.2.2.2=a.2.2.2)∨(b.1=a.2.2.2∧b.2.2.2=a.1):=by
 unfold edL edA
 rw[cj]
 constructor
 ·rintro ⟨a,g,c⟩
  rw[bA,aK,aK] at c
  obtain ⟨c,d⟩:=c
  have d:=aa d
  rcases c with rfl|rfl|c
  ·exact ⟨d,rfl,rfl,a,g,.inl ⟨rfl,rfl⟩⟩
  ·exact ⟨d,rfl,rfl,a,g,.inr ⟨rfl,rfl⟩⟩
  ·cases c
 ·rintro ⟨m,o,p,a,g,h⟩
  obtain ⟨q,r,s,t⟩:=b
  simp only at m o p h
  subst o;subst p
  refine ⟨a,g,bA.2 ⟨?_,ay m⟩⟩
  rcases h with ⟨rfl,rfl⟩|⟨rfl,rfl⟩
  ·exact aA ..
  ·exact az _ (aA ..)
theorem QhK (d:x∈S)(h:Cn as_ S x v):v∈S:=by
 cases h with
 | base b=>rw[b];exact d
 | step _ c _=>exact (QeF.1 c).1
theorem Qb6:Cn as_ S x x:= .base rfl
def Ko (h:Cn as_ S x v)(k:Cn as_ S v w):Cn as_ S x w:=Ch.mono (fun u b=>by rw[b];exact h) k
def Qb5 (c:u∈S)(hv:v∈S)(b:a∈as_)(h:(u=a.1∧v=a.2.2.2)∨(u=a.2.2.2∧v=a.1)):Cn as_ S u v:=
 Ch.step (a:=((u,-1,false,v):DAr)) (.base rfl) (QeF.2 ⟨hv,rfl,rfl,a,b,h⟩) rfl
theorem QiR (o:x∈S)(h:Cn as_ S x v):Cn as_ S v x:=by
 induction h with
 | base c=>rw[c];exact Qb6
 | @step b c h2 h3 ih=>
  obtain ⟨d,_,_,a,m,g⟩:=QeF.1 h2
  exact Ko (Qb5 d (QhK o c) m (g.elim (fun g=> .inr ⟨g.2,g.1⟩) fun g=> .inl ⟨g.2,g.1⟩)) ih
theorem Qag:cnB as_ S x v=true↔Cn as_ S x v:=by unfold cnB;exact @bI _ (Classical.propDecidable _)
def QoU (b:x∈S):v∈cls as_ S x↔Cn as_ S x v:=by
 unfold cls
 rw[bA,Qag]
 exact ⟨fun h=>h.2,fun h=>⟨QhK b h,h⟩⟩
def Qw5 (b:Srt S):Srt (cls as_ S x):=b.filter _
def Qp0:repB as_ S x=true↔∀v∈S,Cn as_ S x v→x≤v:=by
 unfold repB
 rw[ao]
 constructor
 ·intro h v c b
  have:=h v c
  rw[Qag.2 b] at this
  simpa using this
 ·intro h v c
  cases b:cnB as_ S x v with
  | false=>rfl
  | true=>simp[h v c (Qag.1 b)]
end
end Go.Proofs.YtjfpbcmfbnnooaaGreat

/- Walks over abstract states: drawn cubes and covers as functions of the cursor. -/
import Derived.Test.YtjfpbcmfbnnooaaGreatGHo
set_option linter.unusedSimpArgs false
set_option linter.unusedVariables false
set_option linter.unusedSectionVars false
namespace Go.Proofs.YtjfpbcmfbnnooaaGreat
open Go.RowKit
set_option maxRecDepth 100000
set_option maxHeartbeats 4000000
abbrev B3:List ByteArray:=[⟨#[48]⟩,⟨#[49]⟩,⟨#[45]⟩]
def c3G (code:List UInt8):Nat→ByteArray×Int×Int→ByteArray×Int×Int
 | 0,st=>st
 | k+1,st=>c3G code k (st.1++(B3[(pkV code st.2.1 st.2.2 (B3.length:Int)).toNat]?).getD ByteArray.empty,pkA (B3.length:Int) st.2.1,pkS code st.2.1 st.2.2 (B3.length:Int))
def c3V (code:List UInt8)(n at_ sd:Int):ByteArray×Int×Int:=c3G code n.toNat (⟨#[]⟩,at_,sd)
theorem Qnm (code:List UInt8):∀(k:Nat) (st:ByteArray×Int×Int),st.2.1≤(c3G code k st).2.1∧(c3G code k st).2.1≤st.2.1+2*k∧(c3G code k st).1.size≤st.1.size+k
 | 0,st=>by unfold c3G;omega
 | k+1,st=>by
  unfold c3G
  have h:=Qnm code k (st.1++(B3[(pkV code st.2.1 st.2.2 (B3.length:Int)).toNat]?).getD ByteArray.empty,pkA (B3.length:Int) st.2.1,pkS code st.2.1 st.2.2 (B3.length:Int))
  have a:=(ZP code st.2.1 st.2.2 (B3.length:Int)).2
  have b:=Qie B3 1 (by decide+kernel) (pkV code st.2.1 st.2.2 (B3.length:Int)).toNat
  simp only[ax] at h
  omega
theorem Qrk (code:List UInt8)(n at_ sd:Int)(b:0≤n∧n≤8):at_≤(c3V code n at_ sd).2.1∧(c3V code n at_ sd).2.1≤at_+16∧(c3V code n at_ sd).1.size≤8:=by
 have h:=Qnm code n.toNat (⟨#[]⟩,at_,sd)
 have a:(⟨#[]⟩:ByteArray).size=0:=rfl
 unfold c3V
 simp only[a] at h
 omega
theorem Qt9 {code:List UInt8}{n k a_ sd_:Int}{a:ByteArray}{z:ByteArray×Int×Int}(h:k<n)(b:z=c3G code (n - k).toNat (a,a_,sd_)):
 z=c3G code (n - (k+1)).toNat (a++(B3[(pkV code a_ sd_ (B3.length:Int)).toNat]?).getD ByteArray.empty,pkA (B3.length:Int) a_,pkS code a_ sd_ (B3.length:Int)):=by
 rw[b,show (n - k).toNat=(n - (k+1)).toNat+1 by omega,c3G]
theorem QkR {code:List UInt8}{n k a_ sd_:Int}{a:ByteArray}{z:ByteArray×Int×Int}(h:¬k<n)(b:z=c3G code (n - k).toNat (a,a_,sd_)):z=(a,a_,sd_):=by
 rw[b,show (n - k).toNat=0 by omega,c3G]
abbrev CSt:=List ByteArray×Int×Int
def cvG (code:List UInt8)(n:Int):Nat→CSt→CSt
 | 0,st=>st
 | k+1,st=>cvG code n k (st.1++[(c3V code n st.2.1 st.2.2).1],(c3V code n st.2.1 st.2.2).2.1,(c3V code n st.2.1 st.2.2).2.2)
def cvL (x:ByteArray):List ByteArray:=[⟨#[]⟩,⟨#[120]⟩,x++⟨#[49]⟩]
def cvE (code:List UInt8)(st:CSt):CSt:=
 if 0<(st.1.length:Int) then
  (if pkV code st.2.1 st.2.2 15 = 0 then (st.1.set 0 (((cvL ((st.1[0]?).getD ByteArray.empty))[(pkV code (pkA 15 st.2.1) (pkS code st.2.1 st.2.2 15) 3).toNat]?).getD ByteArray.empty),pkA 3 (pkA 15 st.2.1),pkS code (pkA 15 st.2.1) (pkS code st.2.1 st.2.2 15) 3)
   else (st.1,pkA 15 st.2.1,pkS code st.2.1 st.2.2 15)) else st
def cvC (code:List UInt8)(n at_ sd:Int):CSt:=cvE code (cvG code n (pkV code at_ sd 5).toNat ([],pkA 5 at_,pkS code at_ sd 5))
theorem QnA (code:List UInt8){n:Int}(a:0≤n∧n≤8):∀(k:Nat) (st:CSt),st.2.1≤(cvG code n k st).2.1∧(cvG code n k st).2.1≤st.2.1+16*k∧(cvG code n k st).1.length=st.1.length+k
 | 0,st=>by unfold cvG;omega
 | k+1,st=>by
  unfold cvG
  have h:=QnA code a k (st.1++[(c3V code n st.2.1 st.2.2).1],(c3V code n st.2.1 st.2.2).2.1,(c3V code n st.2.1 st.2.2).2.2)
  have b:=Qrk code n st.2.1 st.2.2 a
  simp only[ah,av,aC] at h
  omega
theorem Quz (code:List UInt8)(st:CSt):st.2.1≤(cvE code st).2.1∧(cvE code st).2.1≤st.2.1+8∧(cvE code st).1.length=st.1.length:=by
 unfold cvE
 have a:=(ZP code st.2.1 st.2.2 15).2
 have b:=(ZP code (pkA 15 st.2.1) (pkS code st.2.1 st.2.2 15) 3).2
 split
 ·split
  ·exact ⟨by dsimp only;omega,by dsimp only;omega,aD⟩
  ·exact ⟨by dsimp only;omega,by dsimp only;omega,rfl⟩
 ·omega
theorem Quy (code:List UInt8)(n at_ sd:Int)(c:0≤n∧n≤8):at_≤(cvC code n at_ sd).2.1∧(cvC code n at_ sd).2.1≤at_+100∧(cvC code n at_ sd).1.length≤4:=by
 have a:=ZP code at_ sd 5
 have b:=QnA code c (pkV code at_ sd 5).toNat ([],pkA 5 at_,pkS code at_ sd 5)
 have d:=Quz code (cvG code n (pkV code at_ sd 5).toNat ([],pkA 5 at_,pkS code at_ sd 5))
 have e:=a.1.2 (by decide)
 unfold cvC
 simp only[aC] at b
 omega
theorem QuC {code:List UInt8}{n k a_ sd_:Int}{l_:List ByteArray}{z:CSt}(h:0<k)(a:z=cvG code n k.toNat (l_,a_,sd_)):
 z=cvG code n (k - 1).toNat (l_++[(c3V code n a_ sd_).1],(c3V code n a_ sd_).2.1,(c3V code n a_ sd_).2.2):=by
 rw[a,show k.toNat=(k - 1).toNat+1 by omega,cvG]
theorem Qk0 {code:List UInt8}{n k a_ sd_:Int}{l_:List ByteArray}{z:CSt}(h:¬0<k)(a:z=cvG code n k.toNat (l_,a_,sd_)):z=(l_,a_,sd_):=by
 rw[a,show k.toNat=0 by omega,cvG]
section
variable {code:List UInt8}{n at_ sd k a_ sd_:Int}{l_:List ByteArray}{x:ByteArray}
theorem Qrx (b:¬0<k)(a:cvG code n (pkV code at_ sd 5).toNat ([],pkA 5 at_,pkS code at_ sd 5)=cvG code n k.toNat (l_,a_,sd_))(h:¬0<(l_.length:Int)):(l_,a_,sd_)=cvC code n at_ sd:=by
 unfold cvC
 rw[Qk0 b a,cvE,if_neg h]
theorem Qry (c:¬0<k)(b:cvG code n (pkV code at_ sd 5).toNat ([],pkA 5 at_,pkS code at_ sd 5)=cvG code n k.toNat (l_,a_,sd_))(h:0<(l_.length:Int))(a:¬pkV code a_ sd_ 15=0):(l_,pkA 15 a_,pkS code a_ sd_ 15)=cvC code n at_ sd:=by
 unfold cvC
 rw[Qk0 c b,cvE,if_pos h,if_neg a]
theorem Qrz (c:¬0<k)(b:cvG code n (pkV code at_ sd 5).toNat ([],pkA 5 at_,pkS code at_ sd 5)=cvG code n k.toNat (l_,a_,sd_))(h:0<(l_.length:Int))(a:pkV code a_ sd_ 15=0)(d:l_[0]? =some x):
 (l_.set 0 (((cvL x)[(pkV code (pkA 15 a_) (pkS code a_ sd_ 15) 3).toNat]?).getD ByteArray.empty),pkA 3 (pkA 15 a_),pkS code (pkA 15 a_) (pkS code a_ sd_ 15) 3)=cvC code n at_ sd:=by
 unfold cvC
 rw[Qk0 c b,cvE,if_pos h,if_pos a]
 dsimp only
 rw[d];rfl
end
theorem Qpv (code:List UInt8)(at_:Int)(sd:Int)(n:Int)(u:0≤at_∧at_≤900000000)(y:0≤n∧n≤8):FC Tryz.prog 229 [(false,[.ptr 0 0]),(false,[dI n])] [bx 0 86 [.dat QS code,dI at_,.val (.int .u64 sd)]] 1 (Is (lf (dS ((c3V code n at_ sd).1))) [bx 0 86 [.dat QS code,dI ((c3V code n at_ sd).2.1),.val (.int .u64 ((c3V code n at_ sd).2.2))]]):=by
 refine Qj Tryz.func229 rfl rfl Tryz.ntmps229 fun s o r i t m l=> ?_
 refine acI 1 fun _=> ?_
 refine w11 ?_
 refine Qu (fun g h=>∃(a:Int) (b:ByteArray) (a_:Int) (sd_:Int),g=(n - a).toNat∧(0≤a∧a≤n)∧((b.size:Int)≤a)∧(at_≤a_∧a_≤at_+2*a)∧((c3V code n at_ sd)=c3G code (n - a).toNat (b,a_,sd_))∧h=⟨[(0,lP 0 0),(1,lI n),(4,lf (dS (⟨#[]⟩:ByteArray))),(5,lf (dS b)),(6,lI a)],[bx 0 86 [.dat QS code,dI a_,.val (.int .u64 sd_)]]⟩) ⟨0,(⟨#[]⟩:ByteArray),at_,sd,rfl,by omega,(di _),by omega,(by unfold c3V;rw[Int.sub_zero]),rfl⟩ ?_ ?_
 exact wo []
 rintro g h ⟨a,b,a_,sd_,p,w,z,v,f,rfl⟩
 refine w6 ?_
 cases c:(decide (a<n))
 have d:=aa c
 refine w8 ?_
 have j:(b:ByteArray)=((c3V code n at_ sd).1):=by
  (rw[QkR (by omega) f])
 exact fi_ [] o ⟨(((congrArg (fun z_=>some (Ent.box 86 [.dat QS code,dI z_,.val (.int .u64 sd_)])) (show (a_:Int)=((c3V code n at_ sd).2.1) by (rw[QkR (by omega) f])))).trans (congrArg (fun z_:Int=>some (Ent.box 86 [.dat QS code,dI ((c3V code n at_ sd).2.1),.val (.int .u64 z_)])) (show (sd_:Int)=((c3V code n at_ sd).2.2) by (rw[QkR (by omega) f])))),trivial⟩ (h0:=by first|(rw[← j]<;>rfl)|rw[j])
 have d:=ab c
 refine w7 ?_
 refine lc (dBs 1 (e:= .str) Z3) ?_
 have q:=ZP code a_ sd_ (([(⟨#[48]⟩:ByteArray),(⟨#[49]⟩:ByteArray),(⟨#[45]⟩:ByteArray)]).length:Int)
 refine lc (dP 2 [] (Kg code a_ sd_ ([(⟨#[48]⟩:ByteArray),(⟨#[49]⟩:ByteArray),(⟨#[45]⟩:ByteArray)]) (by omega) (by decide)) QeR) ?_
 refine lc (Qw (Qa rfl) (Qa rfl) rfl (by (refine bh (cR (Qie [(⟨#[48]⟩:ByteArray),(⟨#[49]⟩:ByteArray),(⟨#[45]⟩:ByteArray)] 1 (by decide+kernel) _) _) ?_;omega))) ?_
 refine w_ ?_
 refine Qd ?_
 refine w5 ?_
 refine Qd ?_
 refine QV ⟨(a+1),(b++((([(⟨#[48]⟩:ByteArray),(⟨#[49]⟩:ByteArray),(⟨#[45]⟩:ByteArray)])[(pkV code a_ sd_ (([(⟨#[48]⟩:ByteArray),(⟨#[49]⟩:ByteArray),(⟨#[45]⟩:ByteArray)]).length:Int)).toNat]?).getD ByteArray.empty)),(pkA (([(⟨#[48]⟩:ByteArray),(⟨#[49]⟩:ByteArray),(⟨#[45]⟩:ByteArray)]).length:Int) a_),(pkS code a_ sd_ (([(⟨#[48]⟩:ByteArray),(⟨#[49]⟩:ByteArray),(⟨#[45]⟩:ByteArray)]).length:Int)),rfl,by omega,(by rw[ax];refine Int.le_trans (Int.ofNat_le.2 (cR (Qie [(⟨#[48]⟩:ByteArray),(⟨#[49]⟩:ByteArray),(⟨#[45]⟩:ByteArray)] 1 (by decide+kernel) _) _)) ?_;omega),(by omega),(Qt9 (by omega) f),rfl⟩ (by omega) ?_
 exact wo []
theorem Qfn (code:List UInt8)(at_:Int)(sd:Int)(n:Int)(G:0≤at_∧at_≤800000000)(o:0≤n∧n≤8):FC Tryz.prog 153 [(false,[.ptr 0 0]),(false,[dI n])] [bx 0 86 [.dat QS code,dI at_,.val (.int .u64 sd)]] 1 (Is (lR 1) [bx 0 86 [.dat QS code,dI ((cvC code n at_ sd).2.1),.val (.int .u64 ((cvC code n at_ sd).2.2))],ar 1 9 .str ((cvC code n at_ sd).1)]):=by
 refine Qj Tryz.func153 rfl rfl Tryz.ntmps153 fun E l D u F w v=> ?_
 refine acI 1 fun _=> ?_
 refine w9 ?_
 have B:=ZP code at_ sd 5
 refine lc (dP 1 [] (QF code at_ sd 5 (by omega)) Zy) ?_
 refine w3 ?_
 refine AC.wk (Wk.nilS 2 5 9 .str rfl (Fresh.of rfl) (nlr rfl)) ?_
 refine Qu (fun s t=>∃(d:Int) (l_:List ByteArray) (a_:Int) (sd_:Int),s=d.toNat∧(0≤d∧d≤4)∧((l_.length:Int)+d≤4)∧(∀c∈l_,c.size≤8)∧(at_≤a_∧a_+16*d≤at_+66)∧(cvG code n (pkV code at_ sd 5).toNat ([],pkA 5 at_,pkS code at_ sd 5)=cvG code n d.toNat (l_,a_,sd_))∧t=⟨[(0,lP 0 0),(1,lI n),(4,lf (.val (.slice none 0 0))),(5,lR 3),(6,lI d)],[bx 0 86 [.dat QS code,dI a_,.val (.int .u64 sd_)],ar 3 9 .str l_]⟩) ⟨pkV code at_ sd 5,([]:(Qb:Ty).Den),(pkA 5 at_),(pkS code at_ sd 5),rfl,by omega,(by simp only[aC];omega),(fun c y=>by cases y),by omega,rfl,rfl⟩ ?_ ?_
 exact wp [(3,2)] ⟨rfl,(Qm (by first|rfl|simp)),trivial⟩
 rintro s t ⟨d,l_,a_,sd_,A,I,J,r,H,b,rfl⟩
 have m:=Qrk code n a_ sd_ o
 refine w5 ?_
 cases g:(decide (0<d))
 have h:=aa g
 refine w9 ?_
 cases i:(decide (0<(l_.length:Int)))
 have j:=aa i
 refine w11 ?_
 exact fi_ [(1,3)] l ⟨(((congrArg (fun z_=>some (Ent.box 86 [.dat QS code,dI z_,.val (.int .u64 sd_)])) (show (a_:Int)=((cvC code n at_ sd).2.1) by exact congrArg (fun z:CSt=>z.2.1) (Qrx (by omega) b (by omega))))).trans (congrArg (fun z_:Int=>some (Ent.box 86 [.dat QS code,dI ((cvC code n at_ sd).2.1),.val (.int .u64 z_)])) (show (sd_:Int)=((cvC code n at_ sd).2.2) by exact congrArg (fun z:CSt=>z.2.2) (Qrx (by omega) b (by omega))))),(Qm (by exact congrArg (fun z:CSt=>z.1) (Qrx (by omega) b (by omega)))),trivial⟩
 have j:=ab i
 refine w_ ?_
 have C:=ZP code a_ sd_ 15
 refine lgy rfl rfl (dP 4 [] (We code a_ sd_ 15 (by omega)) Qb9) ?_
 refine w2 ?_
 refine cd_ (fun _ _=> ?_) fun _ _=> ?_
 refine w6 ?_
 exact fi_ [(1,3)] l ⟨(((congrArg (fun z_=>some (Ent.box 86 [.dat QS code,dI z_,.val (.int .u64 (pkS code a_ sd_ 15))])) (show ((pkA 15 a_):Int)=((cvC code n at_ sd).2.1) by exact congrArg (fun z:CSt=>z.2.1) (Qry (by omega) b (by omega) ‹_›)))).trans (congrArg (fun z_:Int=>some (Ent.box 86 [.dat QS code,dI ((cvC code n at_ sd).2.1),.val (.int .u64 z_)])) (show ((pkS code a_ sd_ 15):Int)=((cvC code n at_ sd).2.2) by exact congrArg (fun z:CSt=>z.2.2) (Qry (by omega) b (by omega) ‹_›)))),(Qm (by exact congrArg (fun z:CSt=>z.1) (Qry (by omega) b (by omega) ‹_›))),trivial⟩
 refine w5 ?_
 obtain ⟨f,a⟩:=gx l_ 0
 have q:=r _ (ae a)
 refine w_ ?_
 refine lc (Qw (Qa rfl) (Evl.str rfl) rfl (by first|omega|(simp only[Q4];omega))) ?_
 refine lc (dBs 5 (e:= .str) Z3) ?_
 have p:=ZP code (pkA 15 a_) (pkS code a_ sd_ 15) (([(⟨#[]⟩:ByteArray),(⟨#[120]⟩:ByteArray),f++(⟨#[49]⟩:ByteArray)]).length:Int)
 refine lc (dP 6 [(1,5)] (Kg code (pkA 15 a_) (pkS code a_ sd_ 15) ([(⟨#[]⟩:ByteArray),(⟨#[120]⟩:ByteArray),f++(⟨#[49]⟩:ByteArray)]) (by omega) (Nat.succ_le_succ (aL _))) QeR) ?_
 refine w_ ?_
 refine lc (QB (e:= .str) (z':=(([(⟨#[]⟩:ByteArray),(⟨#[120]⟩:ByteArray),f++(⟨#[49]⟩:ByteArray)])[(pkV code (pkA 15 a_) (pkS code a_ sd_ 15) (([(⟨#[]⟩:ByteArray),(⟨#[120]⟩:ByteArray),f++(⟨#[49]⟩:ByteArray)]).length:Int)).toNat]?).getD ByteArray.empty) (Qa rfl) rfl a rfl (Qn rfl) rfl ZX rfl rfl) ?_
 refine w6 ?_
 exact fi_ [(1,3)] l ⟨(((congrArg (fun z_=>some (Ent.box 86 [.dat QS code,dI z_,.val (.int .u64 (pkS code (pkA 15 a_) (pkS code a_ sd_ 15) (([(⟨#[]⟩:ByteArray),(⟨#[120]⟩:ByteArray),f++(⟨#[49]⟩:ByteArray)]).length:Int)))])) (show ((pkA (([(⟨#[]⟩:ByteArray),(⟨#[120]⟩:ByteArray),f++(⟨#[49]⟩:ByteArray)]).length:Int) (pkA 15 a_)):Int)=((cvC code n at_ sd).2.1) by exact congrArg (fun z:CSt=>z.2.1) (Qrz (by omega) b (by omega) ‹_› a)))).trans (congrArg (fun z_:Int=>some (Ent.box 86 [.dat QS code,dI ((cvC code n at_ sd).2.1),.val (.int .u64 z_)])) (show ((pkS code (pkA 15 a_) (pkS code a_ sd_ 15) (([(⟨#[]⟩:ByteArray),(⟨#[120]⟩:ByteArray),f++(⟨#[49]⟩:ByteArray)]).length:Int)):Int)=((cvC code n at_ sd).2.2) by exact congrArg (fun z:CSt=>z.2.2) (Qrz (by omega) b (by omega) ‹_› a)))),(Qm (by exact congrArg (fun z:CSt=>z.1) (Qrz (by omega) b (by omega) ‹_› a))),trivial⟩
 have h:=ab g
 refine w8 ?_
 refine lc (dP 8 [] (Qpv code a_ sd_ n (by omega) o) QlL) ?_
 refine lc (dBs 9 (e:= .str) Z3) ?_
 refine lc (dA 10 YW) ?_
 refine w_ ?_
 refine Qd ?_
 refine w5 ?_
 refine Qd<|QV ⟨(d - 1),(l_++([(c3V code n a_ sd_).1])),((c3V code n a_ sd_).2.1),((c3V code n a_ sd_).2.2),rfl,by omega,(by simp only[ah,av,aC];omega),(QAN r m.2.2),(by omega),(QuC (by omega) b),rfl⟩ (by omega) ?_
 exact wp [(3,10)] ⟨rfl,(Qm (by first|rfl|simp)),trivial⟩
end Go.Proofs.YtjfpbcmfbnnooaaGreat

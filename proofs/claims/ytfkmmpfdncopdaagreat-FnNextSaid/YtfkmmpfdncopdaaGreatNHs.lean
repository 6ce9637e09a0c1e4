/- Least covers: what both searches run through, and that they find the same. -/
import Derived.Test.YtfkmmpfdncopdaaGreatNHq
import Derived.Test.YtfkmmpfdncopdaaGreatNHc
import Derived.Test.YtfkmmpfdncopdaaGreatNWj
set_option linter.unusedSimpArgs false
set_option linter.unusedVariables false
set_option linter.unusedSectionVars false
namespace Go.Proofs.YtfkmmpfdncopdaaGreat
open Go.RowKit
set_option maxRecDepth 100000
set_option maxHeartbeats 4000000
def inC (l:List ByteArray)(c:ByteArray):Bool:=l.any fun p=>QV p c
def K8 (c:ByteArray)(k:Nat):Int:=(((List.range k).filter fun i:Nat=> !decide (bAt c (i:Int)=45)).length:Int)
def K3 (l:List ByteArray)(k:Nat):Int:=((l.take k).map fun c=>K8 c c.size).sum
def Yo (l:List ByteArray):Int:=K3 l l.length
def WS (x y:ByteArray):Int:=if ltB x y then -1 else if ltB y x then 1 else 0
def YP:List ByteArray→List ByteArray→Int
  | [],[]=>0
  | [],_ :: _=> -1
  | _ :: _,[]=>1
  | x :: a,y :: b=>if WS x y=0 then YP a b else WS x y
def btB (l:List ByteArray)(st:List ByteArray×Bool):Bool:= !st.2||(decide (Yo l < Yo st.1)||(decide (Yo l=Yo st.1)&&decide (YP l st.1 < 0)))
def upS (st:List ByteArray×Bool)(l:List ByteArray):List ByteArray×Bool:=if btB l st=true then (l,true) else st
def QE (xs:List (List ByteArray))(st:List ByteArray×Bool):List ByteArray×Bool:=xs.foldl upS st
def lfI (m:Nat)(l:List ByteArray):List (List ByteArray):=if (Q7 (QY l)).length=l.length∧m=0 then [QY l] else []
def leI (ps:List ByteArray):Nat→List ByteArray→List ByteArray→List (List ByteArray)
  | 0,on,l=>match on with
    | []=>lfI 0 l
    | _ :: _=>[]
  | m+1,on,l=>match on with
    | []=>lfI (m+1) l
    | c :: _=>ps.flatMap fun p=>if QV p c=true then leI ps m (on.filter fun x=> !(QV p x)) (l++[p]) else []
def WW (on tk:List ByteArray):Option ByteArray:=on.find? fun c=> !(inC tk c)
def leS (ps on:List ByteArray):Nat→List ByteArray→List (List ByteArray)
  | 0,tk=>match WW on tk with
    | none=>[tk]
    | some _=>[]
  | m+1,tk=>match WW on tk with
    | none=>[tk]
    | some c=>ps.flatMap fun p=>if QV p c=true then leS ps on m (QN ltB p tk) else []
def Qal (ps on:List ByteArray)(k:Nat):List ByteArray×Bool:=QE (leI ps k on []) ([],false)
def Yy (ps on:List ByteArray)(k:Nat):List ByteArray×Bool:=QE (leS ps on k []) ([],false)
def fmV (f:Nat→List ByteArray×Bool):Nat→Nat→List ByteArray×Bool
  | 0,_=>([],false)
  | n+1,k=>if (f k).2=true then f k else fmV f n (k+1)
def GdL (l:List ByteArray):Prop:=l.length≤100∧∀x∈l,x.size≤1000
section
variable {ps on l tk best rest:List ByteArray}{xs ys:List (List ByteArray)}{st:List ByteArray×Bool}{k m:Nat}{more:Int}{c p x:ByteArray}{f g:Nat→List ByteArray×Bool}{b:Bool}
theorem Qf9:QE (xs++ys) st=QE ys (QE xs st):=List.foldl_append
theorem QoD (h:st.2=true):(upS st l).2=true:=by
  unfold upS
  split
  · rfl
  · exact h
theorem Qo8 (h:st.2=false):upS st l=(l,true):=by unfold upS btB; rw[h]; rfl
theorem Qnh:(QE xs st).2=(st.2|| !xs.isEmpty):=by
  induction xs generalizing st with
  | nil=>simp[QE]
  | cons l xs ih=>
    show (QE xs (upS st l)).2=_
    rw[ih]
    have:(upS st l).2=true:=by
      cases h:st.2 with
      | true=>exact QoD h
      | false=>rw[Qo8 h]
    rw[this]; simp
theorem Qpb (h:(QE xs ([],false)).2=false):xs=[]:=by rw[Qnh] at h; simpa using h
theorem Qgh (Q:List ByteArray→Prop)(h:∀l∈xs,Q l)(h0:st.2=true→Q st.1):(QE xs st).2=true→Q (QE xs st).1:=by
  induction xs generalizing st with
  | nil=>exact h0
  | cons l xs ih=>
    refine ih (fun z hz=>h z (ax _ hz)) (st:=upS st l) ?_
    unfold upS
    split
    · exact fun _=>h l (az ..)
    · exact h0
theorem QiR (Q:List ByteArray→Prop)(h:∀l∈xs,Q l)(h0:Q st.1):Q (QE xs st).1:=by
  induction xs generalizing st with
  | nil=>exact h0
  | cons l xs ih=>
    refine ih (fun z hz=>h z (ax _ hz)) (st:=upS st l) ?_
    unfold upS
    split
    · exact h l (az ..)
    · exact h0
theorem QaT (h:on=[]):leI ps m on l=lfI m l:=by subst h; cases m <;> rfl
theorem QrJ (h:¬on=[]):leI ps 0 on l=[]:=by cases on with | nil=>exact absurd rfl h | cons c t=>rfl
def ch1 (ps on l:List ByteArray)(more:Int)(c p:ByteArray):List (List ByteArray):=if QV p c=true then leI ps (more - 1).toNat (on.filter fun x=> !(QV p x)) (l++[p]) else []
def chK (ps on l:List ByteArray)(more:Int)(c:ByteArray)(k:Nat):List (List ByteArray):=(ps.take k).flatMap (ch1 ps on l more c)
theorem QrW (h:on[0]? =some c)(hm:0 < more):leI ps more.toNat on l=ps.flatMap (ch1 ps on l more c):=by
  obtain ⟨m,rfl⟩:∃m:Nat,more=(m:Int)+1:=⟨(more - 1).toNat,by omega⟩
  cases on with
  | nil=>cases h
  | cons d t=>
    obtain rfl:d=c:=by simpa using h
    rw[show ((m:Int)+1).toNat=m+1 by omega]
    unfold ch1
    rw[show ((m:Int)+1 - 1).toNat=m by omega]
    rfl
theorem QrU (hp:ps[k]? =some p)(h:QV p c=true)(e:st=QE (chK ps on l more c k) (best,b)):QE (leI ps (more - 1).toNat (on.filter fun x=> !(QV p x)) (l++[p])) st=QE (chK ps on l more c (k+1)) (best,b):=by
  have:chK ps on l more c (k+1)=chK ps on l more c k++leI ps (more - 1).toNat (on.filter fun x=> !(QV p x)) (l++[p]):=by
    unfold chK
    rw[QQ hp,cY]
    simp[ch1,h]
  rw[this,Qf9,← e]
theorem QrC (hp:ps[k]? =some p)(h:QV p c=false):chK ps on l more c k=chK ps on l more c (k+1):=by
  unfold chK
  rw[QQ hp,cY]
  simp[ch1,h]
theorem QoE (h:on[0]? =some c)(hm:0 < more)(hk:ps.length≤k):chK ps on l more c k=leI ps more.toNat on l:=by rw[QrW h hm,chK,aU hk]
theorem QlS (h:GdL l):∀x∈lfI m l,GdL x:=fun x hx=>by
  unfold lfI at hx
  split at hx
  · rw [aC] at hx
    subst hx
    exact ⟨by rw[ZM]; exact h.1,fun y hy=>h.2 y ((YG l).mem_iff.1 hy)⟩
  · cases hx
theorem QiJ (h:∀x∈l,x.size≤1000)(hp:p.size≤1000):∀x∈l++[p],x.size≤1000:=fun x hx=>by
  rcases aK.1 hx with hx | hx
  · exact h x hx
  · rw[aC] at hx; subst hx; exact hp
theorem QlF (hp:∀p∈ps,p.size≤1000):∀(m:Nat) {on l:List ByteArray},l.length+m≤100→(∀x∈l,x.size≤1000)→∀x∈leI ps m on l,GdL x
  | 0,on,l,h1,h2,x,hx=>by
    cases on with
    | nil=>exact QlS (m:=0) ⟨by omega,h2⟩ x hx
    | cons c t=>cases hx
  | m+1,on,l,h1,h2,x,hx=>by
    cases on with
    | nil=>exact QlS (m:=m+1) ⟨by omega,h2⟩ x hx
    | cons c t=>
      obtain ⟨p,hpm,hx⟩:=cj.1 (show x∈ps.flatMap _ from hx)
      split at hx
      · exact QlF hp m (by rw[ai,cQ]; omega) (QiJ h2 (hp p hpm)) x hx
      · cases hx
def se1 (ps on tk:List ByteArray)(more:Int)(c p:ByteArray):List (List ByteArray):=if 0 < more∧QV p c=true then leS ps on (more - 1).toNat (QN ltB p tk) else []
def seK (ps on tk:List ByteArray)(more:Int)(c:ByteArray)(k:Nat):List (List ByteArray):=(ps.take k).flatMap (se1 ps on tk more c)
theorem Qlp (hN:NoneTo (fun c=> !(inC tk c)) on k)(hx:on[k]? =some c)(h:inC tk c=false):WW on tk=some c:=by
  unfold WW
  obtain ⟨hk,e⟩:=ah.1 hx
  rw[List.find?_eq_some_iff_append]
  refine ⟨by rw[h]; rfl,on.take k,on.drop (k+1), ?_,fun y hy=> ?_⟩
  · rw[← e,← br hk,bI]
  · obtain ⟨i, hi⟩ := aM.1 hy
    rw[be] at hi
    split at hi
    · rename_i h2
      have h3:(!(inC tk y))=false:=hN i h2 y hi
      rw[h3]; rfl
    · cases hi
theorem Qhr (hN:NoneTo (fun c=> !(inC tk c)) on k)(hk:on.length≤k):WW on tk=none:=by
  unfold WW
  rw[List.find?_eq_none]
  intro x hx
  obtain ⟨i,hi⟩:=aM.1 hx
  have h3:(!(inC tk x))=false:=hN i (by have:=(ah.1 hi).1; omega) x hi
  rw[h3]; simp
theorem YO (h:WW on tk=none):leS ps on m tk=[tk]:=by cases m <;> rw[leS,h]
theorem Qf8 (h:WW on tk=some c):leS ps on more.toNat tk=ps.flatMap (se1 ps on tk more c):=by
  by_cases hm:0 < more
  · obtain ⟨m, rfl⟩ : ∃ m : Nat, more = (m : Int) + 1 := ⟨(more - 1).toNat, by omega⟩
    rw[show ((m:Int)+1).toNat=m+1 by omega,leS,h]
    unfold se1
    rw[show ((m:Int)+1 - 1).toNat=m by omega]
    simp only[hm,true_and]
  · rw [show more.toNat = 0 by omega, leS, h]
    unfold se1
    simp[hm]
theorem QsA (hp:ps[k]? =some p)(hm:0 < more)(h:QV p c=true)(e:st=QE (seK ps on tk more c k) (best,b)):QE (leS ps on (more - 1).toNat (QN ltB p tk)) st=QE (seK ps on tk more c (k+1)) (best,b):=by
  have:seK ps on tk more c (k+1)=seK ps on tk more c k++leS ps on (more - 1).toNat (QN ltB p tk):=by
    unfold seK
    rw[QQ hp,cY]
    simp[se1,h,hm]
  rw[this,Qf9,← e]
theorem Qrn (hp:ps[k]? =some p)(h:¬(0 < more∧QV p c=true)):seK ps on tk more c k=seK ps on tk more c (k+1):=by
  unfold seK
  rw[QQ hp,cY]
  simp only[List.flatMap_cons,List.flatMap_nil,se1,if_neg h,bF]
theorem Qoa (h:WW on tk=some c)(hk:ps.length≤k):seK ps on tk more c k=leS ps on more.toNat tk:=by rw[Qf8 h,seK,aU hk]
theorem K5 (hc:inC tk c=false)(h:QV p c=true):Yq tk p=false:=by
  cases e:Yq tk p with
  | false=>rfl
  | true=>
    have:inC tk c=true:=bC.2 ⟨p,Yt.1 e,h⟩
    rw[this] at hc; cases hc
theorem JY (h:Yq tk p=false):(QN ltB p tk).length=tk.length+1:=by
  have h1:p∉tk:=fun hm=>by rw[Yt.2 hm] at h; cases h
  clear h
  induction tk with
  | nil=>rfl
  | cons y t ih=>
    unfold QN
    split
    · rw[au,ih fun hm=>h1 (ax _ hm),au]
    · split
      · rename_i e; exact absurd (by rw[e]; exact az ..) h1
      · rfl
theorem QaB:∀(m:Nat) {tk x:List ByteArray},x∈leS ps on m tk→∃j,j≤m∧x.length=tk.length+j∧x∈leS ps on j tk
  | 0,tk,x,h=>by
    cases hf:WW on tk with
    | none=>
      rw[YO hf,aC] at h
      exact ⟨0,aO _,by rw[h]; rfl,by rw[YO hf,h]; exact aC.2 rfl⟩
    | some c=>rw[leS,hf] at h; cases h
  | m+1,tk,x,h=>by
    cases hf:WW on tk with
    | none=>
      rw[YO hf,aC] at h
      exact ⟨0,aR _,by rw[h]; rfl,by rw[YO hf,h]; exact aC.2 rfl⟩
    | some c=>
      have h':=h
      rw[leS,hf] at h'
      obtain ⟨p,hpm,hx⟩:=cj.1 (show x∈ps.flatMap _ from h')
      split at hx
      · rename_i hp
        have hc:inC tk c=false:=by
          have:=List.find?_some hf
          simpa using this
        obtain ⟨j,h1,h2,h3⟩:=QaB m hx
        rw[JY (K5 hc hp)] at h2
        refine ⟨j+1,by omega,by omega, ?_⟩
        rw[leS,hf]
        exact cj.2 ⟨p,hpm,by rw[if_pos hp]; exact h3⟩
      · cases hx
theorem Qp9 (hp:∀p∈ps,p.size≤1000):∀(m:Nat) {tk:List ByteArray},tk.length+m≤100→(∀x∈tk,x.size≤1000)→∀x∈leS ps on m tk,GdL x:=fun m tk h1 h2 x hx=>by
  obtain ⟨j,h3,h4,h5⟩:=QaB m hx
  refine ⟨by omega, ?_⟩
  clear h1 h3 h4 h5
  induction m generalizing tk with
  | zero=>
    cases hf:WW on tk with
    | none=>rw[YO hf,aC] at hx; subst hx; exact h2
    | some c=>rw[leS,hf] at hx; cases hx
  | succ m ih=>
    cases hf:WW on tk with
    | none=>rw[YO hf,aC] at hx; subst hx; exact h2
    | some c=>
      rw[leS,hf] at hx
      obtain ⟨p,hpm,hx⟩:=cj.1 (show x∈ps.flatMap _ from hx)
      split at hx
      · exact ih (tk:=QN ltB p tk) (fun y hy=>by
          rcases ZO.1 hy with h9 | hy
          · rw[h9]; exact hp _ hpm
          · exact h2 y hy) hx
      · cases hx
theorem Qel (h:l.Nodup):QY l=ofG ltB l:=by
  have h1:Q7 (QY l)=ofG ltB l:=QeG QO (VT l) fun z=>(YG l).mem_iff
  rw[← h1]
  symm
  have:∀{s:List ByteArray},s.Nodup→Q7 s=s:=by
    intro s
    induction s with
    | nil=>intro _; rfl
    | cons a t ih=>
      intro hn
      cases t with
      | nil=>rfl
      | cons b u=>
        have hab:¬a=b:=fun e=>(bl.1 hn).1 (by rw[e]; exact az ..)
        show (if a=b then Q7 (b :: u) else a :: Q7 (b :: u))=_
        rw[if_neg hab,ih (bl.1 hn).2]
  exact this ((YG l).nodup_iff.2 h)
theorem QoM (h:l.Nodup):(Q7 (QY l)).length=l.length:=by
  rw[QeG QO (VT l) (fun z=>(YG l).mem_iff) (l:=l),← Qel h,ZM]
theorem Qqb:inC (ofG ltB l) c=inC l c:=by
  unfold inC
  rw[bU,bC,bC]
  exact ⟨fun ⟨p,h1,h2⟩=>⟨p,(XI QO l).1 h1,h2⟩,fun ⟨p,h1,h2⟩=>⟨p,(XI QO l).2 h1,h2⟩⟩
theorem Qm0:inC (l++[p]) c=(inC l c||QV p c):=by unfold inC; rw[List.any_append]; simp
theorem QjB:∀(m:Nat) {l:List ByteArray},l.Nodup→leI ps m (on.filter fun c=> !(inC l c)) l=(leS ps on m (ofG ltB l)).filter fun x=>decide (x.length=l.length+m)
  | m,l,hn=>by
    have hfd:WW on (ofG ltB l)=(on.filter fun c=> !(inC l c))[0]? :=by
      unfold WW
      simp only[Qqb]
      rw[← List.head?_eq_getElem?,List.head?_filter]
    cases hr:on.filter fun c=> !(inC l c) with
    | nil=>
      rw[hr] at hfd
      rw[QaT rfl,YO hfd,lfI]
      by_cases h0:m=0
      · rw [if_pos ⟨QoM hn, h0⟩, Qel hn]
        subst h0
        have:(ofG ltB l).length=l.length:=by rw[← Qel hn,ZM]
        simp[this]
      · rw [if_neg fun h => h0 h.2]
        have:(ofG ltB l).length=l.length:=by rw[← Qel hn,ZM]
        rw[cH (by rw[this]; simp; omega),List.filter_nil]
    | cons c t=>
      rw[hr] at hfd
      have hfd:WW on (ofG ltB l)=some c:=hfd
      cases m with
      | zero=>rw[leS,hfd]; rfl
      | succ m=>
        rw[leS,hfd]
        show (ps.flatMap fun p=>if QV p c=true then leI ps m ((c :: t).filter fun x=> !(QV p x)) (l++[p]) else [])=(ps.flatMap fun p=>if QV p c=true then leS ps on m (QN ltB p (ofG ltB l)) else []).filter _
        rw[List.filter_flatMap]
        congr 1
        funext p
        by_cases hp:QV p c=true
        · rw [if_pos hp, if_pos hp]
          have hc:inC l c=false:=by
            have:c∈on.filter fun c=> !(inC l c):=by rw[hr]; exact az ..
            simpa using (bR.1 this).2
          have hpl:p∉l:=fun hm=>by
            have:inC l c=true:=bC.2 ⟨p,hm,hp⟩
            rw[this] at hc; cases hc
          have ih:=QjB m (l:=l++[p]) (b9.2 ⟨hn,bl.2 ⟨bW,bt⟩,fun a ha b hb e=>hpl (by rw[aC] at hb; rw[← hb,← e]; exact ha)⟩)
          rw[QfI,← hr,List.filter_filter]
          have e1:(fun a=>(!(QV p a))&&(!(inC l a)))=fun c=> !(inC (l++[p]) c):=by
            funext a
            rw[Qm0]; cases QV p a <;> cases inC l a <;> rfl
          rw[e1,ih]
          congr 1
          funext x
          rw[ai,cQ]
          congr 1
          simp only[eq_iff_iff]
          omega
        · rw[if_neg hp,if_neg hp]; rfl
theorem QpX (k:Nat):leI ps k on []=(leS ps on k []).filter fun x=>decide (x.length=k):=by
  have:=QjB (ps:=ps) (on:=on) k (l:=[]) bt
  have e:(on.filter fun c=> !(inC [] c))=on:=cv.2 fun c _=>rfl
  rw[e] at this
  rw[this]
  simp only[aF,bn]
  rfl
theorem QfV (h:∀j,j < k→(Yy ps on j).2=false):∀x∈leS ps on k [],x.length=k:=fun x hx=>by
  obtain ⟨j,h1,h2,h3⟩:=QaB k hx
  rw[aF,bn] at h2
  by_cases e:j=k
  · omega
  · have := Qpb (h j (by omega))
    rw[this] at h3; cases h3
theorem Qqi (h:∀j,j < k→(Yy ps on j).2=false):Qal ps on k=Yy ps on k:=by
  unfold Qal Yy
  rw[QpX,cv.2 fun x hx=>aJ (QfV h x hx)]
theorem QmT (h:∀k,(∀j,j < k→(g j).2=false)→f k=g k):∀(n k:Nat),(∀j,j < k→(g j).2=false)→fmV f n k=fmV g n k
  | 0,_,_=>rfl
  | n+1,k,hk=>by
    rw[fmV,fmV,h k hk]
    split
    · rfl
    · rename_i h2
      exact QmT h n (k+1) fun j hj=>by
        by_cases e:j=k
        · subst e; simpa using h2
        · exact hk j (by omega)
theorem Qhv:∀(n k i:Nat),i < n→(∀j,j < i→(f (k+j)).2=false)→(f (k+i)).2=true→fmV f n k=f (k+i)
  | 0,_,_,h,_,_=>absurd h (b8 _)
  | n+1,k,0,_,_,h=>by rw[fmV,if_pos (show (f k).2=true from h)]; rfl
  | n+1,k,i+1,h1,h2,h3=>by
    rw[fmV,if_neg (by rw[show k=k+0 from rfl,h2 0 (by omega)]; simp)]
    have:=Qhv n (k+1) i (by omega) (fun j hj=>by rw[show k+1+j=k+(j+1) by omega]; exact h2 _ (by omega)) (by rw[show k+1+i=k+(i+1) by omega]; exact h3)
    rw[this,show k+1+i=k+(i+1) by omega]
theorem Qh6:∀(n k:Nat),(∀j,j < n→(f (k+j)).2=false)→fmV f n k=([],false)
  | 0,_,_=>rfl
  | n+1,k,h=>by
    rw[fmV,if_neg (by rw[show k=k+0 from rfl,h 0 (by omega)]; simp)]
    exact Qh6 n (k+1) fun j hj=>by rw[show k+1+j=k+(j+1) by omega]; exact h _ (by omega)
theorem QpR:fmV (Qal ps on) 7 0=fmV (Yy ps on) 7 0:=QmT (fun _ h=>Qqi h) 7 0 fun j hj=>absurd hj (b8 j)
end
end Go.Proofs.YtfkmmpfdncopdaaGreat
namespace Go.Proofs.YtfkmmpfdncopdaaGreat
open Go.RowKit
set_option maxRecDepth 100000
set_option maxHeartbeats 4000000
section
variable {l a b:List ByteArray}{c x y:ByteArray}{k j:Nat}{u:UInt8}{st:List ByteArray×Bool}
theorem Qe0 (hu:c[((k:Int)).toNat]? =some u)(h:¬u=45):K8 c k+1=K8 c (k+1):=by
  unfold K8
  rw[cE,bH,ai]
  simp[Q2 hu,h]
theorem Qe9 (hu:c[((k:Int)).toNat]? =some u)(h:u=45):K8 c k=K8 c (k+1):=by
  unfold K8
  rw[cE,bH,ai]
  simp[Q2 hu,h]
theorem QcA:0≤K8 c k∧K8 c k≤(k:Int):=by
  unfold K8
  have:((List.range k).filter fun i:Nat=> !decide (bAt c (i:Int)=45)).length≤(List.range k).length:=cB ..
  rw[List.length_range] at this
  omega
theorem Hc (hx:l[k]? =some c):K3 l k+K8 c c.size=K3 l (k+1):=by
  unfold K3
  rw[QQ hx,ce,List.sum_append]
  simp
theorem Qbw (h:∀x∈l,x.size≤1000):0≤K3 l k∧K3 l k≤1000*(k:Int):=by
  induction k with
  | zero=>exact ⟨dh _,dh _⟩
  | succ k ih=>
    cases hx:l[k]? with
    | none=>
      have:K3 l (k+1)=K3 l k:=by
        have:=List.getElem?_eq_none_iff.1 hx
        unfold K3; rw[aU (by omega),aU this]
      rw[this]; omega
    | some c=>
      rw[← Hc hx]
      have h1:=QcA (c:=c) (k:=c.size)
      have h2:=h c (ap hx)
      omega
theorem Qf1 (h:l.length≤k):K3 l k=Yo l:=by unfold Yo K3; rw[aU h,aU (aO _)]
theorem Qgr (h:GdL l):0≤Yo l∧Yo l≤100000:=by
  have:=Qbw (k:=l.length) h.2
  have:=h.1
  unfold Yo
  omega
theorem QqQ (h:ltB x y=true):WS x y= -1:=if_pos h
theorem Qqs (h:ltB x y=false)(h2:ltB y x=true):WS x y=1:=by unfold WS; rw[h,h2]; rfl
theorem Qq2 (h:ltB x y=false)(h2:ltB y x=false):WS x y=0:=by unfold WS; rw[h,h2]; rfl
theorem Qn4 (h:ltB x y=false)(h2:gtB x y=true):WS x y=1:=by
  have h2:(!(ltB x y)&& !decide (x=y))=true:=h2
  rw[h] at h2
  have h3:¬x=y:=by simpa using h2
  rcases QO.tot x y with g | g | g
  · rw[g] at h; cases h
  · exact absurd g h3
  · exact Qqs h g
theorem Qoc (h:ltB x y=false)(h2:gtB x y=false):WS x y=0:=by
  have h2:(!(ltB x y)&& !decide (x=y))=false:=h2
  rw[h] at h2
  have h3:x=y:=by simpa using h2
  subst h3
  exact Qq2 h h
theorem QoK:WS x x=0:=by unfold WS; rw[QO.irr]; rfl
theorem QqX (h:WS x y=0):x=y:=by
  unfold WS at h
  split at h
  · cases h
  · rename_i h1
    split at h
    · cases h
    · rename_i h2
      rcases QO.tot x y with g | g | g
      · exact absurd g h1
      · exact g
      · exact absurd g h2
theorem Qdv (hx:a[k]? =some x)(hy:b[k]? =some y)(h:WS x y=0)(e:YP a b=YP (a.drop k) (b.drop k)):YP a b=YP (a.drop (k+1)) (b.drop (k+1)):=by
  obtain ⟨h1,e1⟩:=ah.1 hx
  obtain ⟨h2,e2⟩:=ah.1 hy
  rw[e,br h1,br h2,e1,e2,YP,if_pos h]
theorem Qj8 (hx:a[k]? =some x)(hy:b[k]? =some y)(h:x=y)(e:YP a b=YP (a.drop k) (b.drop k)):YP a b=YP (a.drop (k+1)) (b.drop (k+1)):=Qdv hx hy (by rw[h]; exact QoK) e
theorem Qjm (hx:a[k]? =some x)(hy:b[k]? =some y)(h:¬WS x y=0)(e:YP a b=YP (a.drop k) (b.drop k)):WS x y=YP a b:=by
  obtain ⟨h1,e1⟩:=ah.1 hx
  obtain ⟨h2,e2⟩:=ah.1 hy
  rw[e,br h1,br h2,e1,e2,YP,if_neg h]
theorem Qj1 (h1:k < a.length)(h2:b.length≤k)(e:YP a b=YP (a.drop k) (b.drop k)):(1:Int)=YP a b:=by
  rw[e,List.drop_of_length_le h2,br h1]; rfl
theorem Qia (h1:a.length≤k)(h2:k < b.length)(e:YP a b=YP (a.drop k) (b.drop k)):(-1:Int)=YP a b:=by
  rw[e,List.drop_of_length_le h1,br h2]; rfl
theorem QfM (h1:a.length≤k)(h2:b.length≤k)(e:YP a b=YP (a.drop k) (b.drop k)):(0:Int)=YP a b:=by
  rw[e,List.drop_of_length_le h1,List.drop_of_length_le h2]; rfl
theorem QlP (h:st.2=false):true=btB l st:=by unfold btB; rw[h]; rfl
theorem Qry (h:Yo l < Yo st.1):true=btB l st:=by unfold btB; rw[aJ h]; simp
theorem Qso (h:st.2=true)(h1:¬Yo l < Yo st.1)(h2:¬Yo l=Yo st.1):false=btB l st:=by unfold btB; rw[h,ay h1,ay h2]; rfl
theorem Qmr (h:st.2=true)(h1:¬Yo l < Yo st.1)(h2:Yo l=Yo st.1):decide (YP l st.1 < 0)=btB l st:=by unfold btB; rw[h,ay h1,aJ h2]; rfl
theorem QtK (h:st.2=true)(h2:¬Yo l=Yo st.1):decide (Yo l < Yo st.1)=btB l st:=by unfold btB; rw[h,ay h2]; simp
theorem Qru (h:st.2=true)(h2:Yo l=Yo st.1)(e:YP l st.1=YP (l.drop k) (st.1.drop k))(hx:l[k]? =some x)(hy:st.1[k]? =some y)(hn:¬x=y):ltB x y=btB l st:=by
  rw[← Qmr h (by omega) h2,← Qjm hx hy (fun g=>hn (QqX g)) e]
  unfold WS
  cases h3:ltB x y with
  | true=>rfl
  | false=>cases ltB y x <;> rfl
theorem QpW (h:st.2=true)(h2:Yo l=Yo st.1)(hl:st.1.length=l.length)(e:YP l st.1=YP (l.drop k) (st.1.drop k))(hk:l.length≤k):false=btB l st:=by
  rw[← Qmr h (by omega) h2,← QfM hk (by omega) e]; rfl
end
theorem Wa (x:ByteArray):FC Tryz.prog 353 [(false,[dS x])] [] 0 (QH (lB false)):=by
 refine Ql Tryz.func353 rfl rfl Tryz.ntmps353 fun O_ hO w0_ N0_ X_ h0_ f0_=> ?_
 iterate 9 refine w_ ?_
 refine Qb<|fqB hO ?_
 (simp)
theorem Uj (x:ByteArray)(y:ByteArray):FC Tryz.prog 381 [(false,[dS x]),(false,[dS y])] [] 0 (QH (lI (WS x y))):=by
 refine Ql Tryz.func381 rfl rfl Tryz.ntmps381 fun O_ hO w0_ N0_ X_ h0_ f0_=> ?_
 iterate 5 refine w_ ?_
 refine lc (dK (Wa x) QbF) ?_
 iterate 4 refine w_ ?_
 refine lc (dK (Wa y) QbF) ?_
 iterate 18 refine w_ ?_
 refine lc (HD (Qa rfl) (Qa rfl) rfl) ?_
 refine w_ ?_
 refine cb_ (fun hb1=> ?_) fun hb1=> ?_
 ·iterate 5 refine w_ ?_
  refine lc (Qlb (Qa rfl) (Qa rfl) rfl) ?_
  refine w_ ?_
  refine cb_ (fun hb2=> ?_) fun hb2=> ?_
  ·iterate 4 refine w_ ?_
   refine Qb<|fqI hO ?_
   exact (Qoc (by assumption) (by assumption)).symm
  ·iterate 3 refine w_ ?_
   refine Qb<|fqI hO ?_
   exact (Qn4 (by assumption) (by assumption)).symm
 ·iterate 3 refine w_ ?_
  refine Qb<|fqI hO ?_
  exact (QqQ (by assumption)).symm
theorem Xt (a:List ByteArray)(b:List ByteArray):FC Tryz.prog 360 [(false,[.dat (.sl 9 .str) a]),(false,[.dat (.sl 9 .str) b])] [] 0 (QH (lI (YP a b))):=by
 refine Ql Tryz.func360 rfl rfl Tryz.ntmps360 fun O_ hO w0_ N0_ X_ h0_ f0_=> ?_
 iterate 6 refine w_ ?_
 refine alL 9 fun hl1=> ?_
 iterate 4 refine w_ ?_
 refine lpK a.length (fun k=>(YP a b=YP (a.drop k) (b.drop k))∧(k≤b.length)) (fun k=>⟨[(0,lf (.dat (.sl 9 .str) a)),(1,lf (.dat (.sl 9 .str) b)),(9,lf (.dat (.sl 9 .str) a)),(10,lI (a.length:Int)),(11,lI (k:Int))],[]⟩) ⟨rfl,by omega⟩ ?_ fun k hk2 hJ=> ?_
 · exact Wk.of [] rfl ⟨rfl,rfl,rfl,rfl,rfl,trivial⟩ trivial rfl rfl
 obtain ⟨hC,hkb⟩:=hJ
 iterate 4 refine w_ ?_
 cases hb3:(decide ((k:Int) < (a.length:Int)))
 ·have hb3':=ab hb3
  refine w_ ?_
  refine Qj ?_
  refine (?_:AC _ _ _ _ _)
  iterate 3 refine w_ ?_
  refine alL 31 fun hl4=> ?_
  iterate 2 refine w_ ?_
  refine alL 33 fun hl5=> ?_
  iterate 3 refine w_ ?_
  refine cd_ (fun hb6 hb6'=> ?_) fun hb6 hb6'=> ?_
  ·iterate 4 refine w_ ?_
   refine Qb<|fqI hO ?_
   exact QfM (by omega) (by omega) hC
  ·iterate 3 refine w_ ?_
   refine Qb<|fqI hO ?_
   exact Qia (by omega) (by omega) hC
 ·have hb3':=ae hb3
  iterate 6 refine w_ ?_
  obtain ⟨x7,hx8⟩:∃z,a[k]? =some z:=⟨_,aa (by omega)⟩
  iterate 9 refine w_ ?_
  refine alL 17 fun hl9=> ?_
  iterate 3 refine w_ ?_
  cases hb10:(decide ((b.length:Int)≤(k:Int)))
  ·have hb10':=ab hb10
   iterate 5 refine w_ ?_
   obtain ⟨x11,hx12⟩:∃z,b[k]? =some z:=⟨_,aa (by omega)⟩
   iterate 7 refine w_ ?_
   refine lc (dK (Uj x7 x11) Qis) ?_
   iterate 6 refine w_ ?_
   cases hb13:(!decide ((WS x7 x11)=0))
   ·have hb13':((WS x7 x11)=0):=QA hb13
    refine w_ ?_
    refine AC.skip ?_
    refine (?_:AC _ _ _ _ _)
    iterate 3 refine w_ ?_
    refine Qd ?_
    refine lK_ ⟨(Qdv hx8 hx12 (by assumption) hC),by omega⟩ ?_
    exact Wk.of [] rfl ⟨rfl,rfl,rfl,rfl,rfl,trivial⟩ trivial rfl rfl
   ·have hb13':¬((WS x7 x11)=0):=QS hb13
    iterate 5 refine w_ ?_
    refine Qb<|fqI hO ?_
    exact Qjm hx8 hx12 (by assumption) hC
  ·have hb10':=ae hb10
   iterate 4 refine w_ ?_
   refine Qb<|fqI hO ?_
   exact Qj1 (by omega) (by omega) hC
theorem VH (l:List ByteArray)(hg:GdL l):FC Tryz.prog 122 [(false,[.dat (.sl 9 .str) l])] [] 0 (QH (lI (Yo l))):=by
 have hg1:=hg.1
 have hgr:=Qgr hg
 refine Ql Tryz.func122 rfl rfl Tryz.ntmps122 fun O_ hO w0_ N0_ X_ h0_ f0_=> ?_
 iterate 9 refine w_ ?_
 refine alL 7 fun hl1=> ?_
 iterate 4 refine w_ ?_
 refine Qy (fun m_ s_=>∃(k:Nat) (n_:Int),k≤l.length∧m_=l.length - k∧(n_=K3 l k)∧s_=⟨[(2,lI 0),(3,lI n_),(7,lf (.dat (.sl 9 .str) l)),(8,lI (l.length:Int)),(9,lI (k:Int))],[]⟩) ⟨0,0,aR _,rfl,rfl,rfl⟩ ?_ ?_
 · exact Wk.of [] rfl ⟨rfl,rfl,rfl,rfl,rfl,trivial⟩ trivial rfl rfl
 rintro m_ s_ ⟨k,n_,hk2,hm3,hn,rfl⟩
 have hnr:=Qbw (k:=k) hg.2
 iterate 4 refine w_ ?_
 cases hb4:(decide ((k:Int) < (l.length:Int)))
 ·have hb4':=ab hb4
  refine w_ ?_
  refine Qj ?_
  refine (?_:AC _ _ _ _ _)
  iterate 4 refine w_ ?_
  refine Qb<|fqI hO ?_
  exact hn.trans (Qf1 (by omega))
 ·have hb4':=ae hb4
  iterate 5 refine w_ ?_
  obtain ⟨cx,hx6⟩:∃z,l[k]? =some z:=⟨_,aa (by omega)⟩
  have hcx:=hx6
  have hscx:=hg.2 _ (ap hx6)
  iterate 6 refine w_ ?_
  refine alS 13 fun hl7=> ?_
  refine lc (QZ (Qa rfl) rfl Zc) ?_
  iterate 3 refine w_ ?_
  refine Qy (fun m_ s_=>∃(j:Nat) (w2:Int),j≤cx.size∧m_=cx.size - j∧(w2=K3 l k+K8 cx j)∧s_=⟨[(2,lI 0),(3,lI w2),(5,lf (dS cx)),(7,lf (.dat (.sl 9 .str) l)),(8,lI (l.length:Int)),(9,lI (k:Int)),(10,lB true),(11,lf (.elt .str cx 0)),(12,lf (dS cx)),(13,lf (dS cx)),(14,lI (cx.size:Int)),(15,lI (j:Int))],[]⟩) ⟨0,n_,aR _,rfl,(by rw[hn]; simp[K8]),rfl⟩ ?_ ?_
  · exact Wk.of [] rfl ⟨rfl,rfl,rfl,rfl,rfl,rfl,rfl,rfl,rfl,rfl,rfl,rfl,trivial⟩ trivial rfl rfl
  rintro m_ s_ ⟨j,w2,hk8,hm9,hw2,rfl⟩
  have hmr:=QcA (c:=cx) (k:=j)
  iterate 4 refine w_ ?_
  cases hb10:(decide ((j:Int) < (cx.size:Int)))
  ·have hb10':=ab hb10
   refine w_ ?_
   refine Qj ?_
   refine (?_:AC _ _ _ _ _)
   iterate 3 refine w_ ?_
   refine Qd<|Q0 ⟨k+1,w2,by omega,rfl,(by rw[hw2,show j=cx.size by omega,Hc hcx]),rfl⟩ (by omega) ?_
   exact Wk.of [] rfl ⟨rfl,rfl,rfl,rfl,rfl,trivial⟩ trivial rfl rfl
  ·have hb10':=ae hb10
   iterate 11 refine w_ ?_
   obtain ⟨c11,hc12⟩:∃z,cx[((j:Int)).toNat]? =some z:=⟨_,aY _ _ (by omega)⟩
   refine w_ ?_
   refine lc (QD (Qa rfl) (QG 45 rfl) rfl) ?_
   refine w_ ?_
   cases hb13:(!decide (c11=45))
   ·have hb13':(c11=45):=QA hb13
    refine w_ ?_
    refine AC.skip ?_
    refine (?_:AC _ _ _ _ _)
    iterate 3 refine w_ ?_
    refine Qd<|Q0 ⟨j+1,w2,by omega,rfl,(by rw[hw2]; first | rw[Int.add_assoc,Qe0 (by assumption) (by assumption)] | rw[Qe9 (by assumption) (by assumption)]),rfl⟩ (by omega) ?_
    exact Wk.of [] rfl ⟨rfl,rfl,rfl,rfl,rfl,rfl,rfl,rfl,rfl,rfl,rfl,rfl,trivial⟩ trivial rfl rfl
   ·have hb13':¬(c11=45):=QS hb13
    iterate 5 refine w_ ?_
    refine Qd ?_
    refine (?_:AC _ _ _ _ _)
    iterate 3 refine w_ ?_
    refine Qd<|Q0 ⟨j+1,(w2+1),by omega,rfl,(by rw[hw2]; first | rw[Int.add_assoc,Qe0 (by assumption) (by assumption)] | rw[Qe9 (by assumption) (by assumption)]),rfl⟩ (by omega) ?_
    exact Wk.of [] rfl ⟨rfl,rfl,rfl,rfl,rfl,rfl,rfl,rfl,rfl,rfl,rfl,rfl,trivial⟩ trivial rfl rfl
theorem X9 (l:List ByteArray)(hg:GdL l):FC Tryz.prog 203 [(false,[.dat (.sl 9 .str) l])] [] 0 (QH (lI (Yo l))):=by
 have hg1:=hg.1
 have hgr:=Qgr hg
 refine Ql Tryz.func203 rfl rfl Tryz.ntmps203 fun O_ hO w0_ N0_ X_ h0_ f0_=> ?_
 iterate 9 refine w_ ?_
 refine alL 7 fun hl1=> ?_
 iterate 4 refine w_ ?_
 refine Qy (fun m_ s_=>∃(k:Nat) (n_:Int),k≤l.length∧m_=l.length - k∧(n_=K3 l k)∧s_=⟨[(2,lI 0),(3,lI n_),(7,lf (.dat (.sl 9 .str) l)),(8,lI (l.length:Int)),(9,lI (k:Int))],[]⟩) ⟨0,0,aR _,rfl,rfl,rfl⟩ ?_ ?_
 · exact Wk.of [] rfl ⟨rfl,rfl,rfl,rfl,rfl,trivial⟩ trivial rfl rfl
 rintro m_ s_ ⟨k,n_,hk2,hm3,hn,rfl⟩
 have hnr:=Qbw (k:=k) hg.2
 iterate 4 refine w_ ?_
 cases hb4:(decide ((k:Int) < (l.length:Int)))
 ·have hb4':=ab hb4
  refine w_ ?_
  refine Qj ?_
  refine (?_:AC _ _ _ _ _)
  iterate 4 refine w_ ?_
  refine Qb<|fqI hO ?_
  exact hn.trans (Qf1 (by omega))
 ·have hb4':=ae hb4
  iterate 5 refine w_ ?_
  obtain ⟨cx,hx6⟩:∃z,l[k]? =some z:=⟨_,aa (by omega)⟩
  have hcx:=hx6
  have hscx:=hg.2 _ (ap hx6)
  iterate 8 refine w_ ?_
  refine Qy (fun m_ s_=>∃(j:Nat) (w2:Int),j≤cx.size∧m_=cx.size - j∧(w2=K3 l k+K8 cx j)∧s_=⟨[(2,lI 0),(3,lI w2),(5,lf (dS cx)),(6,lI (j:Int)),(7,lf (.dat (.sl 9 .str) l)),(8,lI (l.length:Int)),(9,lI (k:Int)),(10,lB true),(11,lf (.elt .str cx 0)),(12,lf (dS cx))],[]⟩) ⟨0,n_,aR _,rfl,(by rw[hn]; simp[K8]),rfl⟩ ?_ ?_
  · exact Wk.of [] rfl ⟨rfl,rfl,rfl,rfl,rfl,rfl,rfl,rfl,rfl,rfl,trivial⟩ trivial rfl rfl
  rintro m_ s_ ⟨j,w2,hk7,hm8,hw2,rfl⟩
  have hmr:=QcA (c:=cx) (k:=j)
  iterate 4 refine w_ ?_
  refine alS 14 fun hl9=> ?_
  refine lc (QZ (Qa rfl) rfl Zc) ?_
  iterate 2 refine w_ ?_
  cases hb10:(decide ((j:Int) < (cx.size:Int)))
  ·have hb10':=ab hb10
   refine w_ ?_
   refine Qj ?_
   refine (?_:AC _ _ _ _ _)
   iterate 3 refine w_ ?_
   refine Qd<|Q0 ⟨k+1,w2,by omega,rfl,(by rw[hw2,show j=cx.size by omega,Hc hcx]),rfl⟩ (by omega) ?_
   exact Wk.of [] rfl ⟨rfl,rfl,rfl,rfl,rfl,trivial⟩ trivial rfl rfl
  ·have hb10':=ae hb10
   iterate 7 refine w_ ?_
   obtain ⟨c11,hc12⟩:∃z,cx[((j:Int)).toNat]? =some z:=⟨_,aY _ _ (by omega)⟩
   refine w_ ?_
   refine lc (QD (Qa rfl) (QG 45 rfl) rfl) ?_
   refine w_ ?_
   cases hb13:(!decide (c11=45))
   ·have hb13':(c11=45):=QA hb13
    refine w_ ?_
    refine AC.skip ?_
    refine (?_:AC _ _ _ _ _)
    iterate 4 refine w_ ?_
    refine Qd<|Q0 ⟨j+1,w2,by omega,rfl,(by rw[hw2]; first | rw[Int.add_assoc,Qe0 (by assumption) (by assumption)] | rw[Qe9 (by assumption) (by assumption)]),rfl⟩ (by omega) ?_
    exact Wk.of [] rfl ⟨rfl,rfl,rfl,rfl,rfl,rfl,rfl,rfl,rfl,rfl,trivial⟩ trivial rfl rfl
   ·have hb13':¬(c11=45):=QS hb13
    iterate 5 refine w_ ?_
    refine Qd ?_
    refine (?_:AC _ _ _ _ _)
    iterate 4 refine w_ ?_
    refine Qd<|Q0 ⟨j+1,(w2+1),by omega,rfl,(by rw[hw2]; first | rw[Int.add_assoc,Qe0 (by assumption) (by assumption)] | rw[Qe9 (by assumption) (by assumption)]),rfl⟩ (by omega) ?_
    exact Wk.of [] rfl ⟨rfl,rfl,rfl,rfl,rfl,rfl,rfl,rfl,rfl,rfl,trivial⟩ trivial rfl rfl
theorem WY (list:List ByteArray)(best:List ByteArray)(found:Bool)(l:List ByteArray)(hg:GdL l)(hb:GdL best):FC Tryz.prog 312 [(false,[.ptr 0 0]),(false,[.dat (.sl 9 .str) l])] [bx 0 264 [.dat (.sl 9 .str) list, .dat (.sl 9 .str) best,dB found]] 1 (Is (lB (btB l (best,found))) [bx 0 264 [.dat (.sl 9 .str) list, .dat (.sl 9 .str) best,dB found]]):=by
 refine Ql Tryz.func312 rfl rfl Tryz.ntmps312 fun O_ hO w0_ N0_ X_ h0_ f0_=> ?_
 iterate 3 refine w_ ?_
 apply dW (io 7 _ :: io 8 (lI (Yo l)) :: i4 9 _ _ _ _ (io 13 (lI (Yo best)) :: i2 5 _ _ [])) [0,0,3,3,3,3,0,0,0]
 refine z_ ?_
 refine zz (fun _ h_=>ac (dK (VH l (by first | exact hg | exact hb)) QcF) rfl) ?_
 iterate 4 refine z_ ?_
 refine zz (fun _ h_=>ac (dK (VH best (by first | exact hg | exact hb)) QcF) rfl) ?_
 iterate 2 refine z_ ?_
 exact zN
 iterate 7 refine w_ ?_
 cases hb1:(found)
 ·iterate 9 refine w_ ?_
  refine Qf rfl rfl rfl ?_ rfl
  refine Qf rfl rfl rfl ?_ rfl
  refine Qf rfl rfl rfl ?_ rfl
  refine Qf rfl rfl rfl ?_ rfl
  refine Qf rfl rfl rfl ?_ rfl
  refine Qf rfl rfl rfl ?_ rfl
  refine Qf rfl rfl rfl ?_ rfl
  iterate 4 refine w_ ?_
  refine Qb ?_
  have e2:(true:Bool)=(btB l (best,found)):=by
   exact QlP (by first | assumption | rfl)
  exact fi_ [] hO ⟨((congrArg (fun z_=>some (Ent.box 264 [.dat (.sl 9 .str) list, .dat (.sl 9 .str) best,dB z_])) (show (false:Bool)=found by exact Eq.symm (by assumption)))),trivial⟩ (h0:=(congrArg (fun z_=>lB z_) e2))
 ·iterate 5 refine w_ ?_
  cases hb3:(decide ((Yo l) < (Yo best)))
  ·have hb3':=ab hb3
   iterate 4 refine w_ ?_
   cases hb4:(decide ((Yo l)=(Yo best)))
   ·have hb4':=ab hb4
    iterate 11 refine w_ ?_
    refine Qb ?_
    have e5:(false:Bool)=(btB l (best,found)):=by
     exact Qso (st:=(best,found)) (by first | assumption | rfl) (by assumption) (by assumption)
    exact fi_ [] hO ⟨((congrArg (fun z_=>some (Ent.box 264 [.dat (.sl 9 .str) list, .dat (.sl 9 .str) best,dB z_])) (show (true:Bool)=found by exact Eq.symm (by assumption)))),trivial⟩ (h0:=(congrArg (fun z_=>lB z_) e5))
   ·have hb4':=ae hb4
    iterate 5 refine w_ ?_
    refine lgy rfl rfl (dK (Xt l best) QhD) ?_
    iterate 5 refine w_ ?_
    refine Qb ?_
    have e6:(decide ((YP l best) < 0):Bool)=(btB l (best,found)):=by
     exact Qmr (st:=(best,found)) (by first | assumption | rfl) (by assumption) (by assumption)
    exact fi_ [] hO ⟨((congrArg (fun z_=>some (Ent.box 264 [.dat (.sl 9 .str) list, .dat (.sl 9 .str) best,dB z_])) (show (true:Bool)=found by exact Eq.symm (by assumption)))),trivial⟩ (h0:=(congrArg (fun z_=>lB z_) e6))
  ·have hb3':=ae hb3
   iterate 4 refine w_ ?_
   refine Qf rfl rfl rfl ?_ rfl
   refine Qf rfl rfl rfl ?_ rfl
   refine Qf rfl rfl rfl ?_ rfl
   refine Qf rfl rfl rfl ?_ rfl
   refine Qf rfl rfl rfl ?_ rfl
   refine Qf rfl rfl rfl ?_ rfl
   refine Qf rfl rfl rfl ?_ rfl
   iterate 4 refine w_ ?_
   refine Qb ?_
   have e7:(true:Bool)=(btB l (best,found)):=by
    exact Qry (st:=(best,found)) (by assumption)
   exact fi_ [] hO ⟨((congrArg (fun z_=>some (Ent.box 264 [.dat (.sl 9 .str) list, .dat (.sl 9 .str) best,dB z_])) (show (true:Bool)=found by exact Eq.symm (by assumption)))),trivial⟩ (h0:=(congrArg (fun z_=>lB z_) e7))
theorem Kr (ps:List ByteArray)(on:List ByteArray)(best:List ByteArray)(met:Bool)(l:List ByteArray)(hg:GdL l)(hb:GdL best)(hlen:met=true→best.length=l.length):FC Tryz.prog 316 [(false,[.ptr 0 0]),(false,[.dat (.sl 9 .str) l])] [bx 0 270 [.dat (.sl 9 .str) ps, .dat (.sl 9 .str) on, .dat (.sl 9 .str) best,dB met]] 1 (Is (lB (btB l (best,met))) [bx 0 270 [.dat (.sl 9 .str) ps, .dat (.sl 9 .str) on, .dat (.sl 9 .str) best,dB met]]):=by
 refine Ql Tryz.func316 rfl rfl Tryz.ntmps316 fun O_ hO w0_ N0_ X_ h0_ f0_=> ?_
 iterate 3 refine w_ ?_
 apply dW (io 8 _ :: io 9 (lI (Yo l)) :: i4 10 _ _ _ _ (io 14 (lI (Yo best)) :: i2 5 _ _ [])) [0,0,3,3,3,3,0,0,0]
 refine z_ ?_
 refine zz (fun _ h_=>ac (dK (X9 l (by first | exact hg | exact hb)) Qa7) rfl) ?_
 iterate 4 refine z_ ?_
 refine zz (fun _ h_=>ac (dK (X9 best (by first | exact hg | exact hb)) Qa7) rfl) ?_
 iterate 2 refine z_ ?_
 exact zN
 iterate 8 refine w_ ?_
 cases hb1:(met)
 ·iterate 19 refine w_ ?_
  refine Qb ?_
  have e2:(true:Bool)=(btB l (best,met)):=by
   exact QlP (by first | assumption | rfl)
  exact fi_ [] hO ⟨((congrArg (fun z_=>some (Ent.box 270 [.dat (.sl 9 .str) ps, .dat (.sl 9 .str) on, .dat (.sl 9 .str) best,dB z_])) (show (false:Bool)=met by exact Eq.symm (by assumption)))),trivial⟩ (h0:=(congrArg (fun z_=>lB z_) e2))
 ·iterate 5 refine w_ ?_
  refine cn_ (fun hb3 hb3'=> ?_) fun hb3 hb3'=> ?_
  ·iterate 4 refine w_ ?_
   refine alL 35 fun hl4=> ?_
   iterate 4 refine w_ ?_
   refine lpK l.length (fun k=>(YP l best=YP (l.drop k) (best.drop k))∧(best.length=l.length)) (fun k=>⟨[(0,lP 0 0),(1,lf (.dat (.sl 9 .str) l)),(36,lI (l.length:Int)),(37,lI (k:Int))],[bx 0 270 [.dat (.sl 9 .str) ps, .dat (.sl 9 .str) on, .dat (.sl 9 .str) best,dB true]]⟩) ⟨rfl,(hlen (by first | assumption | rfl))⟩ ?_ fun k hk5 hJ=> ?_
   · exact Wk.of [] rfl ⟨rfl,rfl,rfl,rfl,trivial⟩ ⟨rfl,trivial⟩ rfl rfl
   obtain ⟨hC,hbl⟩:=hJ
   iterate 4 refine w_ ?_
   cases hb6:(decide ((k:Int) < (l.length:Int)))
   ·have hb6':=ab hb6
    refine w_ ?_
    refine Qj ?_
    refine (?_:AC _ _ _ _ _)
    iterate 3 refine w_ ?_
    refine Qb ?_
    have e7:(false:Bool)=(btB l (best,met)):=by
     exact QpW (st:=(best,met)) (by first | assumption | rfl) (by assumption) hbl hC (by omega)
    exact fi_ [] hO ⟨((congrArg (fun z_=>some (Ent.box 270 [.dat (.sl 9 .str) ps, .dat (.sl 9 .str) on, .dat (.sl 9 .str) best,dB z_])) (show (true:Bool)=met by exact Eq.symm (by assumption)))),trivial⟩ (h0:=(congrArg (fun z_=>lB z_) e7))
   ·have hb6':=ae hb6
    iterate 8 refine w_ ?_
    obtain ⟨x1,hx9⟩:∃z,l[k]? =some z:=⟨_,aa (by omega)⟩
    have hx1:=hx9
    obtain ⟨y1,hx11⟩:∃z,best[k]? =some z:=⟨_,aa (by omega)⟩
    have hy1:=hx11
    apply dW (i9 40 _ _ _ _ _ _ _ _ _ (i3 49 _ _ _ [])) [0,1,0,0,15,15,15,15,255,15,15,0]
    iterate 12 refine z_ ?_
    exact zN
    cases hb12:(!decide (x1=y1))
    ·have hb12':(x1=y1):=QA hb12
     refine w_ ?_
     refine AC.skip ?_
     refine (?_:AC _ _ _ _ _)
     iterate 3 refine w_ ?_
     refine Qd ?_
     refine lK_ ⟨(Qj8 hx1 hy1 (by assumption) hC),hbl⟩ ?_
     exact Wk.of [] rfl ⟨rfl,rfl,rfl,rfl,trivial⟩ ⟨rfl,trivial⟩ rfl rfl
    ·have hb12':¬(x1=y1):=QS hb12
     refine w_ ?_
     apply dW (i9 52 _ _ _ _ _ _ _ _ _ (i2 61 _ _ [io 63 (lB (Op.bytesLess x1.toList y1.toList)),io 4 _])) [0,1,0,0,15,15,15,15,255,15,15,0,0]
     iterate 11 refine z_ ?_
     refine zz (fun _ h_=>ac (HD (h_.v rfl) (h_.v rfl) rfl) rfl) ?_
     refine z_ ?_
     exact zN
     refine Qb ?_
     have e13:(Op.bytesLess x1.toList y1.toList:Bool)=(btB l (best,met)):=by
      exact Qru (st:=(best,met)) (by first | assumption | rfl) (by assumption) hC hx1 hy1 (by assumption)
     exact fi_ [] hO ⟨((congrArg (fun z_=>some (Ent.box 270 [.dat (.sl 9 .str) ps, .dat (.sl 9 .str) on, .dat (.sl 9 .str) best,dB z_])) (show (true:Bool)=met by exact Eq.symm (by assumption)))),trivial⟩ (h0:=(congrArg (fun z_=>lB z_) e13))
  ·iterate 13 refine w_ ?_
   refine Qb ?_
   have e14:(decide ((Yo l) < (Yo best)):Bool)=(btB l (best,met)):=by
    exact QtK (st:=(best,met)) (by first | assumption | rfl) (by assumption)
   exact fi_ [] hO ⟨((congrArg (fun z_=>some (Ent.box 270 [.dat (.sl 9 .str) ps, .dat (.sl 9 .str) on, .dat (.sl 9 .str) best,dB z_])) (show (true:Bool)=met by exact Eq.symm (by assumption)))),trivial⟩ (h0:=(congrArg (fun z_=>lB z_) e14))
end Go.Proofs.YtfkmmpfdncopdaaGreat

/- A part. -/
import Derived.Test.YtapoehkdnglahabGreatMe
set_option maxHeartbeats 4000000
set_option maxRecDepth 100000
set_option linter.all false
namespace Go.Proofs.YtapoehkdnglahabGreat
section
structure Tm where
 at_:UInt64
 id:Int
 km:Int
deriving DecidableEq
instance:Inhabited Tm:=⟨⟨0,0,0⟩⟩
def Tm.ahead (t u:Tm):Bool:=decide (t.at_<u.at_)||(decide (t.at_=u.at_)&&decide (t.id<u.id))
theorem ly {t u:Tm}:t.ahead u=true↔(t.at_.toNat<u.at_.toNat\/(t.at_.toNat=u.at_.toNat/\t.id<u.id)):=by
 simp[Tm.ahead,WC,<-ubj]
theorem jS (t:Tm):t.ahead t=false:=by
 cases h:t.ahead t with
 |false=>rfl
 |true=>rw[ly]at h;omega
theorem oH {t u v:Tm} (h:t.ahead u=true) (h2:u.ahead v=true):t.ahead v=true:=by
 rw[ly]at*;omega
theorem iy {t u:Tm} (h:t.ahead u=true):u.ahead t=false:=by
 cases h2:u.ahead t with
 |false=>rfl
 |true=>rw[ly]at*;omega
theorem zaY {t u v:Tm} (h:u.ahead t=false) (h2:v.ahead u=false):v.ahead t=false:=by
 cases h3:v.ahead t with
 |false=>rfl
 |true=>
  have h':¬u.ahead t=true:=by simp[h]
  have Lj:¬v.ahead u=true:=by simp[h2]
  rw[ly]at*;omega
def cJ (l:List Tm) (k:Nat):Tm:=l[k]?.getD default
theorem hZ {l:List Tm} {k} (h:k<l.length):l[k]? =some (cJ l k):=by simp[cJ,h]
theorem Jg {l k t} (h:l[k]? =some t):cJ l k=t:=by simp[cJ,h]
def swp (l:List Tm) (i j:Nat):List Tm:=(l.set i (cJ l j)).set j (cJ l i)
@[simp] theorem eT (l:List Tm) (i j:Nat):(swp l i j).length=l.length:=by simp[swp]
theorem FI {l:List Tm} {i} (t) (h:i<l.length) (k):cJ (l.set i t) k=if k=i then t else cJ l k:=by
 unfold cJ;rw[Dg];by_cases e:i=k
 ·subst e;simp[h]
 ·simp[e,uaT e]
theorem fE {l:List Tm} {i j} (hi:i<l.length) (hj:j<l.length) (k):cJ (swp l i j) k=if k=j then cJ l i else if k=i then cJ l j else cJ l k:=by
 unfold swp;rw[FI _ (by simpa using hj),FI _ hi]
theorem kN {l:List Tm} {i j} (hi:i<l.length) (hj:j<l.length):(swp l i j).Perm l:=by
 have e1:cJ l i=l[i]:=by simp[cJ,hi]
 have e2:cJ l j=l[j]:=by simp[cJ,hj]
 unfold swp;rw[e1,e2];exact List.set_set_perm hi hj
def Bu:Nat->List Tm->Nat->List Tm
 |0,l,_=>l
 |f+1,l,i=>if 0<i/\(cJ l i).ahead (cJ l ((i - 1) / 2))=true then Bu f (swp l i ((i - 1) / 2)) ((i - 1) / 2)else l
def fY (l:List Tm) (i:Nat):Nat:=
 let a:=if 2*i+1<l.length/\(cJ l (2*i+1)).ahead (cJ l i)=true then 2*i+1 else i
 if 2*i+2<l.length/\(cJ l (2*i+2)).ahead (cJ l a)=true then 2*i+2 else a
def ka:Nat->List Tm->Nat->List Tm
 |0,l,_=>l
 |f+1,l,i=>if fY l i=i then l else ka f (swp l i (fY l i)) (fY l i)
theorem tF {l:List Tm} {i} (h:i<l.length):fY l i<l.length:=by
 unfold fY;simp only;repeat' split
 all_goals omega
theorem AE (l:List Tm) (i):fY l i=i\/(fY l i=2*i+1/\2*i+1<l.length)\/(fY l i=2*i+2/\2*i+2<l.length):=by
 unfold fY;simp only;repeat' split
 all_goals omega
theorem uA (l:List Tm) (i):(∀k,(k=2*i+1\/k=2*i+2)->k<l.length->(cJ l k).ahead (cJ l (fY l i))=false)/\(cJ l i).ahead (cJ l (fY l i))=false/\(fY l i≠i->(cJ l (fY l i)).ahead (cJ l i)=true):=by
 unfold fY;by_cases h1:2*i+1<l.length/\(cJ l (2*i+1)).ahead (cJ l i)=true
 ·simp only[h1,and_self,YZ];by_cases h2:2*i+2<l.length/\(cJ l (2*i+2)).ahead (cJ l (2*i+1))=true
  ·simp only[h2,and_self,YZ];refine⟨λk hk hl=> ?_,iy (oH h2.2 h1.2),λ_=>oH h2.2 h1.2⟩;rcases hk with rfl|rfl
   ·exact iy h2.2
   ·exact jS _
  ·simp only[h2,VC];refine⟨λk hk hl=> ?_,iy h1.2,λ_=>h1.2⟩;rcases hk with rfl|rfl
   ·exact jS _
   ·cases hh:(cJ l (2*i+2)).ahead (cJ l (2*i+1))with
    |false=>rfl
    |true=>exact absurd ⟨hl,hh⟩ h2
 ·simp only[h1,VC];by_cases h2:2*i+2<l.length/\(cJ l (2*i+2)).ahead (cJ l i)=true
  ·rw[jF h2];refine⟨λk hk hl=> ?_,iy h2.2,λ_=>h2.2⟩;rcases hk with rfl|rfl
   ·cases hh:(cJ l (2*i+1)).ahead (cJ l (2*i+2))with
    |false=>rfl
    |true=>exact absurd ⟨hl,oH hh h2.2⟩ h1
   ·exact jS _
  ·simp only[h2,VC];refine⟨λk hk hl=> ?_,jS _,λh=>absurd rfl h⟩;rcases hk with rfl|rfl
   ·cases hh:(cJ l (2*i+1)).ahead (cJ l i)with
    |false=>rfl
    |true=>exact absurd ⟨hl,hh⟩ h1
   ·cases hh:(cJ l (2*i+2)).ahead (cJ l i)with
    |false=>rfl
    |true=>exact absurd ⟨hl,hh⟩ h2
theorem Dt (f):∀(l:List Tm) (i:Nat),i<l.length->(Bu f l i).Perm l:=by
 induction f with
 |zero=>intro l i _;exact ua2 _
 |succ f ih=>
  intro l i hi;unfold Bu;split
  ·exact(ih _ _ (by simp;omega)).trans (kN hi (by omega))
  ·exact ua2 _
theorem ke (f):∀(l:List Tm) (i:Nat),i<l.length->(ka f l i).Perm l:=by
 induction f with
 |zero=>intro l i _;exact ua2 _
 |succ f ih=>
  intro l i hi;unfold ka;split
  ·exact ua2 _
  ·exact(ih _ _ (by simpa using tF hi)).trans (kN hi (tF hi))
def Hp (l:List Tm):Prop:=∀k,0<k->k<l.length->(cJ l k).ahead (cJ l ((k - 1) / 2))=false
def NU (l:List Tm) (i:Nat):Prop:=(∀k,0<k->k<l.length->k≠i->(cJ l k).ahead (cJ l ((k - 1) / 2))=false)/\(0<i->∀k,0<k->k<l.length->(k - 1) / 2=i->(cJ l k).ahead (cJ l ((i - 1) / 2))=false)
def NT (l:List Tm) (i:Nat):Prop:=(∀k,0<k->k<l.length->k≠i->(k - 1) / 2≠i->(cJ l k).ahead (cJ l ((k - 1) / 2))=false)/\(0<i->∀k,0<k->k<l.length->(k - 1) / 2=i->(cJ l k).ahead (cJ l ((i - 1) / 2))=false)
theorem Hp.up {l:List Tm} (h:Hp l) (i) (hi:i<l.length):NU l i:=
 ⟨λk h1 h2 _=>h k h1 h2,λh0 k h1 h2 h3=>zaY (h i h0 hi) (h3▸h k h1 h2)⟩
theorem K9 (f):∀(l:List Tm) (i:Nat),i<l.length->i<=f->NU l i->Hp (Bu f l i):=by
 induction f with
 |zero=>
  intro l i hi hf h k h1 h2;exact h.1 k h1 h2 (by omega)
 |succ f ih=>
  intro l i hi hf h;unfold Bu;split
  ·rename_i hc;obtain⟨h0,ha⟩:=hc;have hp:(i - 1) / 2<l.length:=by omega
   have Zg:(i - 1) / 2<i:=by omega
   refine ih _ _ (by simpa using hp) (by omega) ⟨λk h1 h2 mi=> ?_,λX4 k h1 h2 hk=> ?_⟩
   ·simp only[eT]at h2;rw[fE hi hp,fE hi hp,eQ mi];by_cases AK:k=i
    ·subst AK;rw[jF rfl,jF rfl];exact iy ha
    ·rw[eQ AK];by_cases OL:(k - 1) / 2=(i - 1) / 2
     ·rw[jF OL];have:=h.1 k h1 h2 AK;rw[OL]at this;exact zaY (iy ha) this
     ·rw[eQ OL];by_cases OM:(k - 1) / 2=i
      ·rw[jF OM];exact h.2 h0 k h1 h2 OM
      ·rw[eQ OM];exact h.1 k h1 h2 AK
   ·simp only[eT]at h2;have hq:=h.1 ((i - 1) / 2) X4 hp (by omega);rw[fE hi hp,fE hi hp,eQ (by omega),eQ (c:=((i - 1) / 2 - 1) / 2=(i - 1) / 2) (by omega),eQ (c:=((i - 1) / 2 - 1) / 2=i) (by omega)];by_cases AK:k=i
    ·subst AK;rw[jF rfl];exact hq
    ·rw[eQ AK];have:=h.1 k h1 h2 AK;rw[hk]at this;exact zaY hq this
  ·rename_i hc;intro k h1 h2;by_cases AK:k=i
   ·subst AK;cases hh:(cJ l k).ahead (cJ l ((k - 1) / 2))with
    |false=>rfl
    |true=>exact absurd ⟨h1,hh⟩ hc
   ·exact h.1 k h1 h2 AK
theorem JD (f):∀(l:List Tm) (i:Nat),i<l.length->l.length<=f+i->NT l i->((0<i->(cJ l i).ahead (cJ l ((i - 1) / 2))=false)->Hp (ka f l i))/\NU (ka f l i) i:=by
 induction f with
 |zero=>intro l i hi hf h;omega
 |succ f ih=>
  intro l i hi hf h;unfold ka;split
  ·rename_i hc;obtain⟨s1,_,_⟩:=uA l i;rw[hc]at s1;have l9:∀k,0<k->k<l.length->k≠i->(cJ l k).ahead (cJ l ((k - 1) / 2))=false:=λk h1 h2 h3=>by
    by_cases hk:(k - 1) / 2=i
    ·rw[hk];exact s1 k (by omega) h2
    ·exact h.1 k h1 h2 h3 hk
   refine⟨λUz k h1 h2=> ?_,l9,h.2⟩;by_cases hk:k=i
   ·subst hk;exact Uz h1
   ·exact l9 k h1 h2 hk
  ·rename_i hc;obtain⟨s1,s2,s3⟩:=uA l i;have s3:=s3 hc;have zp:=tF hi;have zm:=AE l i;generalize fY l i=j at*
   have pZ:i<j:=by omega
   have UB:(j - 1) / 2=i:=by omega
   have l5:NT (swp l i j) j:=by
    refine⟨λk h1 h2 h3 h4=> ?_,λh0 k h1 h2 hk=> ?_⟩
    ·simp only[eT]at h2;rw[fE hi zp,fE hi zp,eQ h3,eQ h4];by_cases AK:k=i
     ·subst AK;rw[jF rfl,eQ (by omega)];exact h.2 h1 j (by omega) zp UB
     ·rw[eQ AK];by_cases OL:(k - 1) / 2=i
      ·rw[jF OL];exact s1 k (by omega) h2
      ·rw[eQ OL];exact h.1 k h1 h2 AK OL
    ·simp only[eT]at h2;rw[fE hi zp,fE hi zp,eQ (by omega),eQ (by omega),eQ (by omega),jF UB];have:=h.1 k h1 h2 (by omega) (by omega);rwa[hk]at this
   have Uz:0<j->(cJ (swp l i j) j).ahead (cJ (swp l i j) ((j - 1) / 2))=false:=λ_=>by
    rw[fE hi zp,fE hi zp,jF rfl,eQ (by omega),jF UB];exact iy s3
   obtain⟨g1,_⟩:=ih (swp l i j) j (by simpa using zp) (by simp;omega) l5;have hH:=g1 Uz;refine⟨λ_=>hH,hH.up i ?_⟩;have:=(ke f (swp l i j) j (by simpa using zp)).length_eq;rw[this];simpa using hi
theorem Hp.min {l:List Tm} (h:Hp l):∀k,k<l.length->(cJ l k).ahead (cJ l 0)=false:=by
 intro k;induction k using Nat.strongRecOn with
 |_ k ih=>
  intro hk;by_cases h0:k=0
  ·subst h0;exact jS _
  ·exact zaY (ih ((k - 1) / 2) (by omega) (by omega)) (h k (by omega) hk)
def L1 (l:List Tm) (t:Tm):List Tm:=Bu l.length (l++[t]) l.length
theorem GP (l t):(L1 l t).Perm (l++[t]):=Dt _ _ _ (by simp)
theorem L2 {l} (t) (h:Hp l):Hp (L1 l t):=by
 have e:∀k,k<l.length->cJ (l++[t]) k=cJ l k:=λk hk=>by simp[cJ,uaa,hk]
 refine K9 _ _ _ (by simp) (uL _) ⟨λk h1 h2 h3=> ?_,λh0 k h1 h2 h3=> ?_⟩
 ·simp only[pU,Pr,HM]at h2;rw[e k (by omega),e _ (by omega)];exact h k h1 (by omega)
 ·simp only[pU,Pr,HM]at h2;omega
def qz (l:List Tm) (i:Nat):List Tm:=(swp l i (l.length - 1)).take (l.length - 1)
def yH (l:List Tm) (i:Nat):List Tm:=if i<l.length - 1 then Bu i (ka l.length (qz l i) i) i else qz l i
theorem kI {l:List Tm} {i}:(qz l i).length=l.length - 1:=by simp[qz]
theorem yY {l:List Tm} {i} (hi:i<l.length):(cJ l i::qz l i).Perm l:=by
 have hp:=kN hi (show l.length - 1<l.length by omega);refine List.Perm.trans ?_ hp;have h1:(swp l i (l.length - 1)).drop (l.length - 1)=[cJ l i]:=by
  apply zD;intro k;rw[Lf];by_cases hk:k=0
  ·subst hk;rw[hZ (by simp;omega),fE hi (by omega)];simp
  ·rw[EJ (by simp;omega),EJ (by simp;omega)]
 have h2:=Jt (l.length - 1) (swp l i (l.length - 1));rw[h1]at h2;rw[<-h2,qz];exact(ubX _ _).symm
theorem H5 {l:List Tm} {i} (hi:i<l.length):(cJ l i::yH l i).Perm l:=by
 unfold yH;split
 ·refine List.Perm.trans (List.Perm.cons _ ?_) (yY hi);have hd:=ke l.length (qz l i) i (by rw[kI];omega);exact(Dt _ _ _ (by rw[hd.length_eq,kI];omega)).trans hd
 ·exact yY hi
theorem mQ {l:List Tm} {i} (hi:i<l.length) {k} (hk:k<l.length - 1):cJ (qz l i) k=if k=i then cJ l (l.length - 1)else cJ l k:=by
 have:cJ (qz l i) k=cJ (swp l i (l.length - 1)) k:=by simp only[cJ,qz,G3,jF hk]
 rw[this,fE hi (by omega),eQ (by omega)]
theorem MJ {l:List Tm} {i} (hi:i<l.length) (h:Hp l):Hp (yH l i):=by
 unfold yH;split
 ·rename_i bW;have hl:= @kI l i;have l5:NT (qz l i) i:=by
   refine⟨λk h1 h2 h3 h4=> ?_,λh0 k h1 h2 hk=> ?_⟩
   ·rw[hl]at h2;rw[mQ hi h2,mQ hi (by omega),eQ h3,eQ h4];exact h k h1 (by omega)
   ·rw[hl]at h2;rw[mQ hi h2,mQ hi (by omega),eQ (by omega),eQ (by omega)];have e1:=h k h1 (by omega);rw[hk]at e1;exact zaY (h i h0 (by omega)) e1
  obtain⟨_,g⟩:=JD l.length (qz l i) i (by rw[hl];omega) (by rw[hl];omega) l5;have hd:=(ke l.length (qz l i) i (by rw[hl];omega)).length_eq;exact K9 i _ i (by rw[hd,hl];omega) (uL _) g
 ·rename_i bW;intro k h1 h2;rw[kI]at h2;rw[mQ hi h2,mQ hi (by omega),eQ (by omega),eQ (by omega)];exact h k h1 (by omega)
def vE (l:List Tm):Prop:=(l.map (·.id)).Nodup
theorem vE.perm {l L:List Tm} (h:vE l) (p:l.Perm L):vE L:=(p.map _).nodup_iff.1 h
theorem vE.inj {l:List Tm} (h:vE l) {a b} (ha:a<l.length) (hb:b<l.length) (e:(cJ l a).id=(cJ l b).id):a=b:=by
 have h':(l.map (·.id)).Nodup:=h;exact(List.getElem_inj (xs:=l.map (·.id)) (h₀:=by simpa using ha) (h₁:=by simpa using hb) h').1 (by simpa [cJ,ha,hb]using e)
theorem sh {l:List Tm} {t}:t∈l↔∃k,k<l.length/\cJ l k=t:=by
 rw[List.mem_iff_getElem];constructor
 ·rintro⟨k,hk,rfl⟩;exact⟨k,hk,by simp[cJ,hk]⟩
 ·rintro⟨k,hk,rfl⟩;exact⟨k,hk,by simp[cJ,hk]⟩
theorem rB {l:List Tm} {k} (h:k<l.length):cJ l k∈l:=sh.2 ⟨k,h,rfl⟩
def kB (l:List Tm) (m:List (Int×Int)):Prop:=KN m/\∀id v,bX m id=some v↔∃k:Nat,k<l.length/\(cJ l k).id=id/\v=(k:Int)
theorem kB.nil:kB [] []:=⟨KN.nil,λid v=>by simp[sl]⟩
theorem kB.swap {l:List Tm} {m:List (Int×Int)} (h:kB l m) (hn:vE l) {i j:Nat} (hi:i<l.length) (hj:j<l.length):
 kB (swp l i j) (bY (bY m (cJ (swp l i j) i).id (i:Int)) (cJ (swp l i j) j).id (j:Int)):=by
 have AL:vE (swp l i j):=hn.perm (kN hi hj).symm
 refine⟨(h.1.bY _ _).bY _ _,λid v=> ?_⟩
 rw[fo,fo]
 have qF:j<(swp l i j).length:=by simpa using hj
 have OD:i<(swp l i j).length:=by simpa using hi
 by_cases e1:(cJ (swp l i j) j).id=id
 ·rw[jF e1]
  constructor
  ·intro e;cases e;exact⟨j,qF,e1,rfl⟩
  ·rintro⟨k,hk,e,rfl⟩
   rw[AL.inj hk qF (e.trans e1.symm)]
 ·rw[eQ e1]
  by_cases e2:(cJ (swp l i j) i).id=id
  ·rw[jF e2]
   constructor
   ·intro e;cases e;exact⟨i,OD,e2,rfl⟩
   ·rintro⟨k,hk,e,rfl⟩
    rw[AL.inj hk OD (e.trans e2.symm)]
  ·rw[eQ e2,h.2 id v]
   have a1:=fE hi hj j
   have a2:=fE hi hj i
   rw[jF rfl]at a1
   constructor
   ·rintro⟨k,hk,e,rfl⟩
    have k1:k≠i:=by rintro rfl;rw[a1]at e1;exact e1 e
    have k2:k≠j:=by
     rintro rfl;by_cases OE:i=k
     ·subst OE;rw[a1]at e1;exact e1 e
     ·rw[eQ OE,jF rfl]at a2;rw[a2]at e2;exact e2 e
    exact⟨k,by simpa using hk,by rw[fE hi hj,eQ k2,eQ k1];exact e,rfl⟩
   ·rintro⟨k,hk,e,rfl⟩
    have k1:k≠i:=by rintro rfl;exact e2 e
    have k2:k≠j:=by rintro rfl;exact e1 e
    rw[fE hi hj,eQ k2,eQ k1]at e
    exact⟨k,by simpa using hk,e,rfl⟩
theorem nD {l:List Tm} (t k):cJ (l++[t]) k=if k=l.length then t else cJ l k:=by
 unfold cJ;rw[uaa];split
 ·rw[eQ (by omega)]
 ·split
  ·rename_i h;subst h;simp
  ·rw[EJ (by simp;omega),EJ (by omega)]
theorem kB.snoc {l:List Tm} {m} (h:kB l m) (t:Tm) (ht:∀u∈l,u.id≠t.id):kB (l++[t]) (bY m t.id (l.length:Int)):=by
 refine⟨h.1.bY _ _,λid v=> ?_⟩;rw[fo];by_cases e:t.id=id
 ·rw[jF e];constructor
  ·intro e2;cases e2;exact⟨l.length,by simp,by rw[nD,jF rfl];exact e,rfl⟩
  ·rintro⟨k,hk,e2,rfl⟩;rw[nD]at e2;split at e2
   ·rename_i vS;rw[vS]
   ·simp at hk;exact absurd (e2.trans e.symm) (ht _ (rB (by omega)))
 ·rw[eQ e,h.2];constructor
  ·rintro⟨k,hk,e2,rfl⟩;exact⟨k,by simp;omega,by rw[nD,eQ (by omega)];exact e2,rfl⟩
  ·rintro⟨k,hk,e2,rfl⟩;rw[nD]at e2;split at e2
   ·exact absurd e2 e
   ·simp at hk;exact⟨k,by omega,e2,rfl⟩
theorem wI {l:List Tm} {n k} (h:k<n):cJ (l.take n) k=cJ l k:=by simp only[cJ,G3,jF h]
theorem kB.pop {l:List Tm} {m:List (Int×Int)} (h:kB l m) (hn:vE l) (h0:0<l.length):kB (l.take (l.length - 1)) (gq m (cJ l (l.length - 1)).id):=by
 refine⟨h.1.gq _,λid v=> ?_⟩;rw[nh h.1];by_cases e:(cJ l (l.length - 1)).id=id
 ·rw[jF e];constructor
  ·intro e2;cases e2
  ·rintro⟨k,hk,e2,rfl⟩;simp at hk;rw[wI (by omega)]at e2;have:=hn.inj (by omega) (by omega) (e2.trans e.symm);omega
 ·rw[eQ e,h.2];constructor
  ·rintro⟨k,hk,e2,rfl⟩;have:k≠l.length - 1:=by rintro rfl;exact e e2
   exact⟨k,by simp;omega,by rw[wI (by omega)];exact e2,rfl⟩
  ·rintro⟨k,hk,e2,rfl⟩;simp at hk;rw[wI (by omega)]at e2;exact⟨k,by omega,e2,rfl⟩
def gN (L:List Tm) (now:UInt64):Nat->Option Nat
 |0=>none
 |n+1=>match gN L now n with
  |none=>if(cJ L n).at_<=now then some n else none
  |some b=>if(cJ L n).at_<=now/\(cJ L n).at_<(cJ L b).at_ then some n else some b
theorem nF {L:List Tm} {now:UInt64}:∀{n:Nat},gN L now n=none->∀j,j<n->now<(cJ L j).at_
 |0,_,j,hj=>absurd hj (ua8 _)
 |n+1,h,j,hj=>by
  simp only[gN]at h;cases hb:gN L now n with
  |none=>
   rw[hb]at h;simp only at h;split at h
   ·cases h
   ·rename_i hc;by_cases e:j=n
    ·subst e;simpa [WC,YI]using hc
    ·exact nF hb j (by omega)
  |some b=>
   rw[hb]at h;simp only at h;split at h<;>cases h
theorem zaK {L:List Tm} {now:UInt64}:∀{n b:Nat},gN L now n=some b->b<n/\(cJ L b).at_.toNat<=now.toNat/\(∀j,j<n->(cJ L b).at_.toNat<=(cJ L j).at_.toNat)/\∀j,j<b->(cJ L b).at_.toNat<(cJ L j).at_.toNat
 |0,b,h=>by cases h
 |n+1,b,h=>by
  simp only[gN]at h;cases hb:gN L now n with
  |none=>
   rw[hb]at h;simp only at h;split at h
   ·rename_i hc;obtain rfl:n=b:=by simpa using h
    have h1:=nF hb;rw[YI]at hc;refine⟨by omega,hc,λj hj=> ?_,λj hj=> ?_⟩
    ·by_cases e:j=n
     ·subst e;exact uL _
     ·have:=h1 j (by omega);rw[WC]at this;omega
    ·have:=h1 j (by omega);rw[WC]at this;omega
   ·cases h
  |some c=>
   rw[hb]at h;obtain⟨g1,g2,g3,g4⟩:=zaK hb;simp only[WC,YI]at h;split at h
   ·rename_i hc;obtain rfl:n=b:=by simpa using h
    refine⟨by omega,hc.1,λj hj=> ?_,λj hj=> ?_⟩
    ·by_cases e:j=n
     ·subst e;exact uL _
     ·have:=g3 j (by omega);omega
    ·have:=g3 j (by omega);omega
   ·rename_i hc;cases h;refine⟨by omega,g2,λj hj=> ?_,g4⟩;by_cases e:j=n
    ·subst e;omega
    ·exact g3 j (by omega)
structure TR (l L:List Tm) (last:Int):Prop where
 perm:l.Perm L
 hp:Hp l
 rising:(L.map (·.id)).Pairwise (·<·)
 bound:∀t∈L,1<=t.id/\t.id<=last
theorem TR.nil:TR [] [] 0:=⟨ua2 _,λk _ h=>absurd h (ua8 _),List.Pairwise.nil,λt h=>by cases h⟩
theorem TR.Ws {l L last} (h:TR l L last):vE L:=h.rising.imp (λh=>by omega)
theorem TR.Wt {l L last} (h:TR l L last):vE l:=h.Ws.perm h.perm.symm
theorem TR.add {l L last} (h:TR l L last) (hl:0<=last) (t:Tm) (ht:t.id=last+1):TR (L1 l t) (L++[t]) (last+1):=by
 refine⟨(GP l t).trans (h.perm.append_right [t]),L2 t h.hp,?_,λu hu=> ?_⟩
 ·rw[EZ];refine Z0.2 ⟨h.rising,by simp,λa ha b hb=> ?_⟩;obtain⟨u,hu,rfl⟩:=HC.1 ha;have:=h.bound u hu;simp at hb;subst hb;omega
 ·rcases Lz.1 hu with hu|hu
  ·have:=h.bound u hu;omega
  ·simp at hu;subst hu;omega
theorem w5 {L:List Tm} {k} (h:k<L.length):(cJ L k::L.eraseIdx k).Perm L:=by
 have e:cJ L k=L[k]:=by simp[cJ,h]
 rw[e];clear e;induction L generalizing k with
 |nil=>simp at h
 |cons a L ih=>
  cases k with
  |zero=>simp
  |succ k=>
   have:=ih (k:=k) (by simpa using h);simp only[List.getElem_cons_succ,uaJ];exact(List.Perm.swap _ _ _).trans (this.cons a)
theorem TR.rem {l L:List Tm} {last} (h:TR l L last) {i k} (hi:i<l.length) (hk:k<L.length) (e:(cJ l i).id=(cJ L k).id):cJ l i=cJ L k/\TR (yH l i) (L.eraseIdx k) last:=by
 have e1:cJ l i=cJ L k:=by
  have h1:=h.perm.mem_iff.1 (rB hi);obtain⟨j,hj,OI⟩:=sh.1 h1;rw[<-OI]at e ⊢;rw[h.Ws.inj hj hk e]
 refine⟨e1,?_,MJ hi h.hp,?_,λt ht=>h.bound t (List.mem_of_mem_eraseIdx ht)⟩
 ·have:=(H5 hi).trans (h.perm.trans (w5 hk).symm);rw[e1]at this;exact this.cons_inv
 ·exact h.rising.sublist ((W8 L k).map _)
theorem TR.idle {l L:List Tm} {last} (h:TR l L last) {now} (h0:0<l.length->now<(cJ l 0).at_):gN L now L.length=none:=by
 cases hb:gN L now L.length with
 |none=>rfl
 |some b=>
  obtain⟨g1,g2,_,_⟩:=zaK hb;have hm:=h.perm.mem_iff.2 (rB g1);obtain⟨j,hj,OI⟩:=sh.1 hm;have h1:=h0 (by omega);have h2:=h.hp.min j hj;rw[WC]at h1;have:¬(cJ l j).ahead (cJ l 0)=true:=by simp[h2]
  rw[ly,OI]at this;omega
theorem TR.due {l L:List Tm} {last} (h:TR l L last) {now} (h0:0<l.length) (h1:¬now<(cJ l 0).at_):∃b,gN L now L.length=some b/\b<L.length/\cJ l 0=cJ L b/\TR (yH l 0) (L.eraseIdx b) last:=by
 obtain⟨j,hj,OI⟩:=sh.1 (h.perm.mem_iff.1 (rB h0));cases hb:gN L now L.length with
 |none=>
  have:=nF hb j hj;rw[OI]at this;exact absurd this h1
 |some b=>
  obtain⟨g1,g2,g3,g4⟩:=zaK hb;obtain⟨i,hi,Lp⟩:=sh.1 (h.perm.mem_iff.2 (rB g1));have h2:=h.hp.min i hi;have h3:¬(cJ l i).ahead (cJ l 0)=true:=by simp[h2]
  rw[ly,Lp,<-OI]at h3;have h4:=g3 j hj;have Uf:j=b:=by
   rcases uam j b with bW|he|OC
   ·have:=g4 j bW;omega
   ·exact he
   ·have:=G5.1 h.rising b j (by simpa using g1) (by simpa using hj) OC;simp only[List.getElem_map]at this;have e1:cJ L b=L[b]:=by simp[cJ,g1]
    have e2:cJ L j=L[j]:=by simp[cJ,hj]
    rw[e1,e2]at h3;rw[e1,e2]at h4;omega
  subst Uf;have hr:=h.rem h0 g1 (by rw[OI]);exact⟨j,rfl,g1,hr.1,hr.2⟩
open Go.RowKit
attribute [local irreducible] WS LS OpQ y6 cn cv Spec bA aK
variable (w0:World)
def MT (t:Tm):List Value:=[u64 t.at_,.int .i64 t.id,.int .i64 t.km]
instance:cY MT 3:=⟨λ_=>rfl⟩
theorem MU:∀z,∀c∈MT z,c.oneCell'=true:=by intro z c hc;simp[MT]at hc;rcases hc with rfl|rfl|rfl<;>rfl
abbrev lM (b:Nat) (v:Value) (r:Nat) (last:Int) (l:List Tm) (m:List (Int×Int)):af:=
 aK b 222 [v,.map (some r),.int .i64 last]*(rows 292 3 MT v l*mp i64 i64 r m)
theorem wC (t u:Tm):Spec ucC w0 233 [.agg (MT t).toArray,.agg (MT u).toArray] emp (λ_:Unit=> .bool (t.ahead u)) (λ_=>emp):=by
 refine eZ Tryz.func233 Tryz.ntmps233 λG=> ?_;simp only[aN,MT];repeat' (first|(intro hc;try exact aG)|refine yZ ?_|refine aF ?_ ?_|((first|refine dn rfl rfl iI rfl ?_ ?_|refine dm rfl rfl iI rfl ?_ ?_)<;>intro hc))
 all_goals exact aC (.inl rfl) rfl rfl ⟨(),by simp[Tm.ahead, *],ah⟩
theorem pS (b v r last) (l:List Tm) (m) (i j:Nat) (x y) (hx:x=(i:Int)) (hy:y=(j:Int)) (hi:i<l.length) (hj:j<l.length):
 Spec ucC w0 222 [ptr b 0,.int .i64 x,.int .i64 y] (lM b v r last l m) (λ_:Unit=> .tuple #[]) (λ_=>lM b v r last (swp l i j) (bY (bY m (cJ (swp l i j) i).id (i:Int)) (cJ (swp l i j) j).id (j:Int))):=by
 subst hx hy
 refine eZ Tryz.func222 Tryz.ntmps222 λG=> ?_
 simp only[aN]
 refine FE v iI iI rfl (by omega) λg' off cap hv=> ?_
 subst hv
 have OO:=hZ hi
 have XS:=hZ hj
 have iu:((l.set i (cJ l j)).set j (cJ l i))[i]? =some (cJ (swp l i j) i):=hZ (by simpa using hi)
 have fP:((l.set i (cJ l j)).set j (cJ l i))[j]? =some (cJ (swp l i j) j):=hZ (by simpa using hj)
 repeat' (first|refine ae (id:=0) (.range 28) 25 [3,8,13,15,16,20,22,23,24] ?_|refine ae (id:=1) (.range 14) 13 [3,7,9,10,11] ?_|refine ae (id:=2) (.range 14) 13 [3,7,9,10,11] ?_|intro K hK|refine ax ?_|((first|refine' bP rfl rfl rfl ?zh ?_|refine' bk rfl rfl ?zh ?_);case zh=>intro F';exact BC rfl rfl iI iI iI (by first|assumption|omega))|((refine' dP ?zh rfl rfl ?_);(case zh=>first|exact dt rfl rfl rfl iI iI iI iI iI|exact gV _ rfl rfl rfl iI iI iI rfl rfl (by first|assumption|omega|(simp[al]<;>omega)));intro g)|fail)
 exact aj (.inr rfl) rfl ⟨(),rfl,ah⟩
theorem yj:∀(f:Nat) (l:List Tm) (i:Nat),i<=f->Bu f l i=Bu i l i
 |0,l,i,h=>by have:i=0:=by omega
              subst this;rfl
 |f+1,l,0,_=>by simp[Bu]
 |f+1,l,i+1,h=>by
  simp only[Bu];split
  ·rw[yj f _ _ (by omega),yj i _ _ (by omega)]
  ·rfl
theorem Gx (b:Nat) (v:Value) (r:Nat) (last:Int) (l:List Tm) (m:List (Int×Int)) (i:Nat) (x:Int) (hx:x=(i:Int)) (hi:i<l.length) (hl:l.length<=1000000) (hm:kB l m) (hn:vE l):
 Spec ucC w0 224 [ptr b 0,.int .i64 x] (lM b v r last l m) (λ_:List (Int×Int)=> .tuple #[]) (λm'=>pure' (kB (Bu i l i) m')*lM b v r last (Bu i l i) m'):=by
 subst hx
 refine eZ Tryz.func224 Tryz.ntmps224 λG=> ?_
 simp only[aN]
 repeat' (refine ax ?_)
 refine aV (λk τ=>∃(l':List Tm) (m':List (Int×Int)),k<l'.length/\l'.length=l.length/\kB l' m'/\vE l'/\Bu k l' k=Bu i l i/\τ=⟨[(1,.int .i64 (k:Int)),(0,ptr b 0)],[],lM b v r last l' m'*G⟩) ?_ ?_
 ·exact⟨i,_,⟨l,m,hi,rfl,hm,hn,rfl,rfl⟩,cG,rfl,aq.refl _⟩
 ·rintro k τ ⟨l',m',hk,Eo,xj,AL,hu,rfl⟩
  have XT:=hZ hk
  have SU:=hZ (show(k - 1) / 2<l'.length by omega)
  rcases uap k with h0|h0
  ·subst h0
   repeat' (first|intro K hK|intro hc|refine xyZ ?_|refine aF ?_ ?_)
   refine aj (.inr rfl) rfl ⟨m',rfl,?_⟩
   rw[<-hu]
   exact(aq.vW xj).trans (ah)
  ·have e1:((k:Int) - 1) / 2=(((k - 1) / 2:Nat):Int):=by omega
   repeat' (first|refine ag (id:=2) (.range 16) ?_|intro K hK|intro hc|refine xyZ ?_|refine aF ?_ ?_|((first|refine' LQ ?zh rfl ?_|refine' bk rfl rfl ?zh ?_);case zh=>intro F';exact NZ rfl rfl (by omega))|rw[e1]|refine cZ (wC w0 (cJ l' k) (cJ l' ((k - 1) / 2))) λg=> ?_|(refine ai (aa iI rfl (pS w0 b v r last l' m' k ((k - 1) / 2) _ _ rfl rfl hk (by omega)) iI) rfl ?_;intro g))
   ·refine aj (.inl rfl) rfl ⟨m',rfl,?_⟩
    have e:Bu k l' k=l':=by
     obtain⟨j,rfl⟩:∃j,k=j+1:=⟨k - 1,by omega⟩
     rw[Bu,eQ (by simp_all)]
    rw[<-hu,e]
    exact(aq.vW xj).trans (ah)
   ·refine⟨(k - 1) / 2,_,by omega,⟨swp l' k ((k - 1) / 2),_,by rw[eT];omega,by rw[eT];exact Eo,xj.swap AL hk (by omega),AL.perm (kN hk (by omega)).symm,?_,rfl⟩,cG,rfl,ah⟩
    rw[<-hu]
    obtain⟨j,rfl⟩:∃j,k=j+1:=⟨k - 1,by omega⟩
    rw[Bu,jF ⟨by omega,by simpa using hc⟩,yj j _ _ (by omega)]
theorem Hb (b:Nat) (v:Value) (r:Nat) (last:Int) (l:List Tm) (m:List (Int×Int)) (i N:Nat) (x:Int) (hx:x=(i:Int)) (hi:i<l.length) (hN:l.length<=N) (hl:l.length<=1000000) (hm:kB l m) (hn:vE l):
 Spec ucC w0 223 [ptr b 0,.int .i64 x] (lM b v r last l m) (λ_:List (Int×Int)=> .tuple #[]) (λm'=>pure' (kB (ka N l i) m')*lM b v r last (ka N l i) m'):=by
 subst hx
 refine eZ Tryz.func223 Tryz.ntmps223 λG=> ?_
 simp only[aN]
 repeat' (refine ax ?_)
 refine aV (λf τ=>∃(k:Nat) (y:Int) (l':List Tm) (m':List (Int×Int)),y=(k:Int)/\k<l'.length/\l'.length=l.length/\l.length<=f+k/\kB l' m'/\vE l'/\ka f l' k=ka N l i/\τ=⟨[(1,.int .i64 y),(0,ptr b 0)],[],lM b v r last l' m'*G⟩) ?_ ?_
 ·exact⟨N,_,⟨i,_,l,m,rfl,hi,rfl,by omega,hm,hn,rfl,rfl⟩,cG,rfl,aq.refl _⟩
 ·rintro f τ ⟨k,y,l',m',rfl,hk,Eo,hf,xj,AL,hu,rfl⟩
  obtain⟨f,rfl⟩:∃j,f=j+1:=⟨f - 1,by omega⟩
  have stop:fY l' k=k->aq (lM b v r last l' m'*G) (pure' (kB (ka N l i) m')*lM b v r last (ka N l i) m'*G):=λe=>by
   rw[<-hu,ka,jF e];exact(aq.vW xj).trans (ah)
  have next:∀k',fY l' k=k'->k'≠k->k'<l'.length->k<k'->∃m1,m1<f+1/\∃(k2:Nat) (l2:List Tm) (m2:List (Int×Int)),k2=k'/\l2=swp l' k k'/\m2=(bY (bY m' (cJ (swp l' k k') k).id (k:Int)) (cJ (swp l' k k') k').id (k':Int))/\k2<l2.length/\l2.length=l.length/\l.length<=m1+k2/\kB l2 m2/\vE l2/\ka m1 l2 k2=ka N l i:=λk' e h1 h2 h3=>by
   refine⟨f,by omega,k',_,_,rfl,rfl,rfl,by rw[eT];omega,by rw[eT];exact Eo,by omega,xj.swap AL hk h2,AL.perm (kN hk h2).symm,?_⟩;rw[<-hu,ka,eQ (by rw[e];exact h1),e]
  repeat' (first|intro K hK|refine ax ?_)
  refine th 3 ?_
  repeat' (first|refine ag (id:=4) (.range 15) ?_|(intro hc;try exact aG)|refine xyZ ?_|refine aF ?_ ?_|((first|refine' LQ ?zh rfl ?_|refine' bk rfl rfl ?zh ?_);case zh=>intro F';first|exact bC rfl|exact kC rfl|exact db rfl|exact bq rfl iI rfl|exact ca rfl iI iI rfl|exact wj rfl rfl (by omega)|exact BE rfl iI rfl|exact BD rfl iI rfl|exact vH rfl rfl iI iI iI iI (by first|assumption|omega|(simp[al]<;>omega))|exact I1 rfl iI iI|exact I2 rfl rfl (by omega))|((first|refine dn rfl rfl iI rfl ?_ ?_|refine dm rfl rfl iI rfl ?_ ?_|refine dU rfl rfl iI rfl ?_ ?_)<;>intro hc)|(refine bk rfl rfl (λF'=>ja rfl iI iI iI (hZ (by omega))) ?_)|(refine aD (aa iI rfl (wC w0 _ _) iI) rfl rfl rfl ?_;intro g)|(refine ai (aa iI rfl (pS w0 b v r last l' m' k (2*k+1) _ _ rfl (by omega) hk (by omega)) iI) rfl ?_;intro g)|(refine ai (aa iI rfl (pS w0 b v r last l' m' k (2*k+2) _ _ rfl (by omega) hk (by omega)) iI) rfl ?_;intro g))
  all_goals first
   |exact aj (.inl rfl) rfl ⟨m',rfl,aq.trans (ah) (stop (by clear next stop hu xj AL hm hn;(simp only[fY];repeat' split)<;>(first|omega|(simp_all;done)|(simp_all;omega))))⟩
   |(obtain⟨m1,h1,k2,l2,m2,rfl,rfl,rfl,h2,h3,h4,h5,h6,h7⟩:=next (2*k+1) (by clear next stop hu xj AL hm hn;(simp only[fY];repeat' split)<;>(first|omega|(simp_all;done)|(simp_all;omega))) (by omega) (by omega) (by omega)
     exact⟨m1,_,h1,⟨_,_,_,_,by omega,h2,h3,h4,h5,h6,h7,rfl⟩,⟨rfl,rfl,.intro⟩,rfl,ah⟩)
   |(obtain⟨m1,h1,k2,l2,m2,rfl,rfl,rfl,h2,h3,h4,h5,h6,h7⟩:=next (2*k+2) (by clear next stop hu xj AL hm hn;(simp only[fY];repeat' split)<;>(first|omega|(simp_all;done)|(simp_all;omega))) (by omega) (by omega) (by omega)
     exact⟨m1,_,h1,⟨_,_,_,_,by omega,h2,h3,h4,h5,h6,h7,rfl⟩,⟨rfl,rfl,.intro⟩,rfl,ah⟩)
def fZ (b r:Nat) (last:Int) (l:List Tm):af:=hex λv=>hex λm=>pure' (kB l m)*lM b v r last l m
theorem aq.fZ {b r:Nat} {last:Int} {l:List Tm} {v:Value} {m:List (Int×Int)} {H F:af} (hm:kB l m) (h:aq H (lM b v r last l m*F)):aq H (fZ b r last l*F):=
 h.trans ((aq.vW hm).trans ((aq.of_eq (ad _ _ _).symm).trans ((aq.qA (p:=λm=>pure' (kB l m)*lM b v r last l m) m).trans (aq.qA (p:=λv=>hex λm=>pure' (kB l m)*lM b v r last l m) v))))
theorem ru {P n w0 c Q E D F b r last l} (h:∀v m,kB l m->WS P n w0 c Q ⟨E,D,lM b v r last l m*F⟩):WS P n w0 c Q ⟨E,D,fZ b r last l*F⟩:=by
 refine iU λv=>iU λm=> ?_;exact Ja iI (h v m)
theorem vE.cut {l:List Tm} {i} (hn:vE l) (hi:i<l.length):vE (qz l i):=
 (hn.perm (kN hi (show l.length - 1<l.length by omega)).symm).sublist ((List.take_sublist _ _).map _)
theorem He (b r last) (l:List Tm) (t x) (hx:∀u∈l,u.id≠last+1) (hn:vE l) (hl:l.length<=900000) (h0:0<=last/\last<=1000000000000000):
 Spec ucC w0 227 [ptr b 0,u64 t,.int .i64 x] (fZ b r last l) (λ_:Unit=> .int .i64 (last+1)) (λ_=>fZ b r (last+1) (L1 l (Tm.mk t (last+1) x))):=by
 refine eZ Tryz.func227 Tryz.ntmps227 λG=> ?_
 simp only[aN]
 refine ru λv m hm=> ?_
 have AL:vE (l++[(Tm.mk t (last+1) x)]):=by
  unfold vE at hn ⊢;rw[EZ,Yw];refine⟨hn,by simp,?_⟩;intro a ha c hc;obtain⟨u,hu,rfl⟩:=HC.1 ha;simp at hc;subst hc;exact hx u hu
 have e:((l++[(Tm.mk t (last+1) x)]).length:Int) - 1=(l.length:Int):=by simp
 repeat' (first|refine ae (id:=2) (.range 17) 13 [4,9] ?_|refine cK (id:=2) 0 (.range 17) 16 [4,9] ?_|refine ae (id:=3) (.range 15) 14 [3,7,11,12] ?_|intro K hK|refine ax ?_|refine bQ λg=> ?_|refine zgF λg=> ?_|(refine aD (au MT [(Tm.mk t (last+1) x)] iI iI iI rfl rfl rfl rfl rfl iI rfl rfl rfl) rfl rfl rfl ?_;intro g)|(refine aD (aR rfl rfl iI iI rfl iI iI MU (by first|omega|(simp[al]<;>omega)) rfl) rfl rfl rfl ?_;intro v2)|rw[e]|(refine IP (aa iI rfl (Gx w0 b v2 r (last+1) (l++[(Tm.mk t (last+1) x)]) _ l.length _ rfl (by simp) (by simp;omega) (hm.snoc (Tm.mk t (last+1) x) hx) AL) iI) rfl ?_;intro m2 Ni))
 exact aC (.inl rfl) rfl rfl ⟨(),rfl,aq.fZ (v:=v2) Ni (ah)⟩
theorem yX {l:List Tm} {i} (hi:i<l.length):cJ (swp l i (l.length - 1)) (l.length - 1)=cJ l i:=by
 rw[fE hi (by omega)];simp
theorem Da (b r:Nat) (last:Int) (l:List Tm) (i:Nat) (x:Int) (hx:x=(i:Int)) (hi:i<l.length) (hn:vE l) (hl:l.length<=900000):
 Spec ucC w0 196 [ptr b 0,.int .i64 x] (fZ b r last l) (λ_:Unit=> .agg (MT (cJ l i)).toArray) (λ_=>fZ b r last (yH l i)):=by
 subst hx
 refine eZ Tryz.func196 Tryz.ntmps196 λG=> ?_
 simp only[aN]
 refine ru λv m hm=> ?_
 have e:(l.length:Int) - 1=((l.length - 1:Nat):Int):=by omega
 have hle:l.length - 1<l.length:=by omega
 have hz:(swp l i (l.length - 1))[l.length - 1]? =some (cJ l i):=by rw[<-yX hi];exact hZ (by rw[eT];omega)
 have Rb:l.length - 1<(swp l i (l.length - 1)).length:=by rw[eT];omega
 have Mk:=hm.swap hn hi hle
 have OP:=hn.perm (kN hi hle).symm
 have Ni:kB ((swp l i (l.length - 1)).take (l.length - 1)) (gq (bY (bY m (cJ (swp l i (l.length - 1)) i).id (i:Int)) (cJ (swp l i (l.length - 1)) (l.length - 1)).id ((l.length - 1:Nat):Int)) (cJ l i).id):=by
  have h:=Mk.pop OP (by rw[eT];omega);rw[eT]at h;rw[<-yX hi];exact h
 generalize hL:(swp l i (l.length - 1)).take (l.length - 1)=L at Ni
 have SF:qz l i=L:=hL
 have vT:vE L:=SF▸hn.cut hi
 have VL:L.length=l.length - 1:=by rw[<-SF,kI]
 repeat' (first|refine ae (id:=5) (.range 7) 6 [3,5] ?_|(intro hc;try exact aG)|refine xyZ ?_|refine aF ?_ ?_|((first|refine' LQ ?zh rfl ?_|refine' bP rfl rfl rfl ?zh ?_|refine' bk rfl rfl ?zh ?_);case zh=>intro F';exact dv rfl rfl iI iI iI iI (by first|assumption|omega|(simp[al]<;>omega)))|((first|refine dn rfl rfl iI rfl ?_ ?_|refine dm rfl rfl iI rfl ?_ ?_|refine dU rfl rfl iI rfl ?_ ?_)<;>intro hc)|refine bT λg=> ?_|refine bQ λg=> ?_|refine zhx λg=> ?_|rw[e]|(refine ai (aa iI rfl (pS w0 b v r last l m i (l.length - 1) _ _ rfl rfl hi hle) iI) rfl ?_;intro g)|(refine IP (aa iI rfl (Hb w0 b (di v (l.length - 1)) r last L _ i l.length _ rfl (by omega) (by omega) (by omega) Ni vT) iI) rfl ?_;intro m3 XW)|(refine IP (aa iI rfl (Gx w0 b (di v (l.length - 1)) r last (ka l.length L i) _ i _ rfl (by rw[(ke _ _ _ (by omega)).length_eq];omega) (by rw[(ke _ _ _ (by omega)).length_eq];omega) XW (vT.perm (ke _ _ _ (by omega)).symm)) iI) rfl ?_;intro m4 XX)|(refine fJ (aq.Nc (v:=v) (l.length - 1)) ?_;rw[hL]))
 ·refine gD (.inl rfl) rfl (aS rfl iI iI rfl) ⟨(),rfl,?_⟩
  rw[yH,jF (by omega),SF]
  exact aq.fZ (v:=di v (l.length - 1)) XX (ah)
 ·refine gD (.inl rfl) rfl (aS rfl iI iI rfl) ⟨(),rfl,?_⟩
  rw[yH,eQ (by omega),SF]
  refine aq.trans (aq.Nc (v:=v) (l.length - 1)) ?_
  rw[hL]
  exact aq.fZ (v:=di v (l.length - 1)) Ni (ah)
end
section
open Go.RowKit
def yM (v:Value) (k:Nat):Value:=match v with
 | .slice A m c=> .slice A (min k m) (min k m)
 |v=>v
section
variable {P:Program} {n:fT} {w0:World} {E:Env} {D:List Deferred} {H F:af} {ops:Array Oper} {l':List Oper} {Q:Exit->St->Prop} {α:Type} {e:TypeId} {size:Nat} {f:α->List Value} {v u:Value} {l ys:List α}
variable {d:Option Tmp} {ty:TypeId} {pos:String} {after:Array Edge} {gu:Option (Nat×Bool)} {x y z:Operand}
theorem ur {t e2:TypeId} {q q2:IntKind} {i i2:Int} {k:Nat} (hx:E.ev x=some v) (hy:E.ev y=some (.int q i)) (hz:E.ev z=some (.int q2 i2)) (XJ:i2=i) (hl:eX w0 H v α size f l) (ht:eN P t (.slice e2)) (fP:GL P e2 size) (hi:fB i k) (hk:k<=l.length):
 OpQ P n w0 ⟨d,.slice t x none (some y) (some z),ty,pos,after,gu⟩ E H (yM v k):=λa w s hs=>by
 subst XJ
 obtain⟨A,c,rfl,h1,h2⟩:=(hl.at_ w hs).form
 obtain⟨i0,uY,zq⟩:=AU.1 fP.eq
 obtain rfl:=hi.eq
 have FW:P.elem t=e2:=by simp[Program.elem,ht.eq]
 have xq:P.underlying t=some (.slice (P.elem t)):=by rw[ht.eq,FW]
 have hr:=run_slice_hm (P:=P) (w:=w) t A l.length c xq q q2 (k:Int) (k:Int) (by omega) (by omega) (by omega)
 have xl:min k l.length=k:=by omega
 have pF:(sizeOf e2).run P w= .ok size w:=by simp[sizeOf,typeInfo,uY,zq]
 rw[FW,pF]at hr
 have hA:(if k=0 then A else A.map (·.add (0*size)))=A:=by
  exact pbG
 simp only[execOp,s.ev hx,s.ev hy,s.ev hz,EL,uag,run_sliceAt_slice w t _ _ _ _ xq,Sem.run_bind,hr,Result.andThen_ok,Sem.run_pure,D3,yM,xl,sliced,hA,uck]
theorem aq.cut (k) (hk:k<=l.length) [h:dD H v α e size f l F] [hf:cY f size]:aq H (rows e size f (yM v k) (l.take k)*F):=by
 rw[h.eq];refine aq.star (λx hx=> ?_) (aq.refl _);obtain⟨hlen,hx⟩:=hx;have Eo:∀m:List α,(m.flatMap f).length=m.length*size:=by
  intro m;induction m with
  |nil=>simp
  |cons a m ih=>simp[ih,hf.eq,uar];omega
 refine⟨x,⟨Eo _,?_⟩,λ_ _ e=>e⟩;have tK:(l.take k).length=k:=by simp;omega
 rcases hx with ⟨A,rfl,hn,Q9⟩|⟨g,off,cap,cur,fr,rfl,h1,h2,h3,h4,h5,h6⟩
 ·refine .inl ⟨A,by simp[yM,hn],by omega,Q9⟩
 ·have hle:k*size<=cap*size:=VB _ (by omega);refine .inr ⟨g,off,k,cur,fr,by simp only[yM,tK,ubs hk],by omega,by omega,by omega,?_,?_,h6⟩
  ·rw[tK];have e1:((l.take k).flatMap f)=(l.flatMap f).take (k*size):=by
    have:l.flatMap f=(l.take k).flatMap f++(l.drop k).flatMap f:=by rw[<-uaW,Jt]
    rw[this,List.take_left' (by rw[Eo,tK])]
   rw[e1,<-h4,ubd,ubs (VB _ hk)]
  ·exact λi a b=>h5 i a (by omega)
theorem BG {t:TypeId} {bytes:Nat} (k j:Nat) (hk:k<=l.length) (hj:j<=l.length) (hu:u=cq size v j) (hx:E.ev x=some (yM v k)) (hy:E.ev y=some u) (hT:yt P t e size bytes) (hf:cY f size) (h1:∀z,∀c∈f z,c.oneCell'=true) (hn:l.length+l.length<=1000000) (uX:bytes<=1000) (hp:NeZero size):
 y6 P n w0 ⟨d,.call ⟨.builtin .append,#[x,y],#[t,t]⟩,ty,pos,after,gu⟩ E (rows e size f v l) (λv':Value=>v') (λv'=>rows e size f v' (l.take k++l.drop j)):=λG a w K Q s hs hK=>by
 subst hu
 have O3:Src P w size (l.drop j).length (cq size v j) ((l.drop j).flatMap f):=uN ((zN (w0:=w0) (H:=rows e size f v l*G) (v:=v) (f:=f) (l:=l) j).at_ w hs) hf.eq
 have fP:Sat w0 w (rows e size f (yM v k) (l.take k)*G):=(aq.cut (H:=rows e size f v l*G) (F:=G) k hk).sat hs
 have XT:(l.take k).length<=l.length:=by simp;omega
 have XS:(l.drop j).length<=l.length:=by simp
 refine sV hT (.inl hT.ht) x y rfl fP (s.ev hx) (s.ev hy) O3 (λc hc=> ?_) (by simp only[maxLen];omega) ?_ λv' w' eI=>hK v' w' ?_
 ·obtain⟨z,_,hz⟩:=ucc.1 hc;exact h1 z c hz
 ·have:((l.take k).length+(l.drop j).length)*bytes<=1000000*1000:=ucs (by omega) uX
  omega
 ·unfold rows
  rw[pU,uaW]
  exact eI
theorem BA {t:TypeId} {bytes:Nat} (k j:Nat) (hx:E.ev x=some (yM v k)) (hy:E.ev y=some (cq size v j)) (hl:dD H v α e size f l F) (hk:k<=l.length) (hj:j<=l.length) (hT:lj P t e size bytes) (hf:cY f size) (h1:∀z,∀c∈f z,c.oneCell'=true) (hn:l.length+l.length<=1000000) (uX:Nat.ble bytes 1000=true) (hp:NeZero size):
 cn P n w0 ⟨d,.call ⟨.builtin .append,#[x,y],#[t,t]⟩,ty,pos,after,gu⟩ E H (λv':Value=>v') (λv'=>rows e size f v' (l.take k++l.drop j)*F):=cn.mk' (BG k j hk hj rfl hx hy hT.out hf h1 hn (Yu uX) hp) hl.eq
end
end
end Go.Proofs.YtapoehkdnglahabGreat

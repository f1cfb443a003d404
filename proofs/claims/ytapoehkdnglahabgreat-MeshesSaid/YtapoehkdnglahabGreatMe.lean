/- A part. -/
import Derived.Test.YtapoehkdnglahabGreatMc
import Derived.Shelf.SlSortCmp.WholeK
set_option maxHeartbeats 4000000
set_option maxRecDepth 100000
set_option linter.all false
namespace Go.Proofs.YtapoehkdnglahabGreat
section
section
variable {κ ν:Type} [DecidableEq κ]
def KN (m:List (κ×ν)):Prop:=(m.map (·.1)).Nodup
theorem KN.nil:KN ([]:List (κ×ν)):=ua1
theorem gv (k v) (m:List (κ×ν)) (k'):bX ((k,v)::m) k'=if k=k' then some v else bX m k':=by
 unfold bX;exact paQ
theorem sl (k):bX ([]:List (κ×ν)) k=none:=rfl
theorem ni (k v) (m:List (κ×ν)) (k' v'):bY ((k,v)::m) k' v'=if k=k' then(k',v')::m else(k,v)::bY m k' v':=by
 unfold bY;exact paQ
theorem xH (k v):bY ([]:List (κ×ν)) k v=[(k,v)]:=rfl
theorem zB (k v) (m:List (κ×ν)) (k'):gq ((k,v)::m) k'=if k=k' then m else(k,v)::gq m k':=by
 unfold gq;exact paQ
theorem CF (k):gq ([]:List (κ×ν)) k=[]:=rfl
theorem fo (m:List (κ×ν)) (k v k'):bX (bY m k v) k'=if k=k' then some v else bX m k':=by
 induction m with
 |nil=>rw[xH,gv,sl]
 |cons p m ih=>
  obtain⟨a,b⟩:=p;rw[ni];split
  ·rename_i h;subst h;rw[gv,gv];split<;>rfl
  ·rename_i h;rw[gv,gv,ih];split
   ·rename_i h2;subst h2;rw[eQ (uaT h)]
   ·rfl
theorem mG (m:List (κ×ν)) (k):bX m k=none↔k∉m.map (·.1):=by
 induction m with
 |nil=>simp[sl]
 |cons p m ih=>
  obtain⟨a,b⟩:=p;rw[gv];split
  ·rename_i h;subst h;simp
  ·rename_i h;rw[ih];simp[uaT h]
theorem CH {m:List (κ×ν)} {k v} (h:bX m k=some v):(k,v)∈m:=by
 induction m with
 |nil=>cases h
 |cons p m ih=>
  obtain⟨a,b⟩:=p;rw[gv]at h;split at h
  ·rename_i e;subst e;cases h;simp
  ·exact G4 _ (ih h)
theorem CI {m:List (κ×ν)} (hn:KN m) {k:κ} {v:ν} (h:(k,v)∈m):bX m k=some v:=by
 induction m with
 |nil=>cases h
 |cons p m ih=>
  obtain⟨a,b⟩:=p;have AL:a∉m.map (·.1)/\(m.map (·.1)).Nodup:=by simpa [KN]using hn
  rw[gv];rcases JA.1 h with h|h
  ·cases h;simp
  ·rw[eQ,ih AL.2 h];rintro rfl;exact AL.1 (HC.2 ⟨_,h,rfl⟩)
theorem zG (m:List (κ×ν)) (k v):(bY m k v).map (·.1)=if k∈m.map (·.1)then m.map (·.1)else m.map (·.1)++[k]:=by
 induction m with
 |nil=>simp[xH]
 |cons p m ih=>
  obtain⟨a,b⟩:=p;rw[ni];split
  ·rename_i h;subst h;simp
  ·rename_i h;simp only[Hh,ih,JA,uaT h,false_or];split<;>simp
theorem KN.bY {m:List (κ×ν)} (h:KN m) (k:κ) (v:ν):KN (bY m k v):=by
 unfold KN at*
 rw[zG];split
 ·exact h
 ·rename_i hk;refine Yw.2 ⟨h,by simp,?_⟩;intro a ha b hb;simp at hb;subst hb;rintro rfl;exact hk ha
theorem sg (m:List (κ×ν)) (k):(gq m k).Sublist m:=by
 induction m with
 |nil=>simp[CF]
 |cons p m ih=>
  obtain⟨a,b⟩:=p;rw[zB];split
  ·exact ucf _ _
  ·exact ih.cons_cons _
theorem KN.gq {m:List (κ×ν)} (h:KN m) (k:κ):KN (gq m k):=h.sublist ((sg m k).map _)
theorem nh {m:List (κ×ν)} (h:KN m) (k:κ) (k':κ):bX (gq m k) k'=if k=k' then none else bX m k':=by
 induction m with
 |nil=>simp[CF,sl]
 |cons p m ih=>
  obtain⟨a,b⟩:=p;have AL:a∉m.map (·.1)/\(m.map (·.1)).Nodup:=by simpa [KN]using h
  rw[zB];split
  ·rename_i e;subst e;rw[gv];split
   ·rename_i e;subst e;exact(mG _ _).2 AL.1
   ·rfl
  ·rename_i e;rw[gv,gv,ih AL.2];split
   ·rename_i e2;subst e2;rw[eQ (uaT e)]
   ·rfl
theorem CK (m:List (κ×ν)) (k v):(bY m k v).length=if k∈m.map (·.1)then m.length else m.length+1:=by
 have:=G2 List.length (zG m k v);simp only[Hu]at this;rw[this];split<;>simp
end
end
section
def Rec.norm (r:Rec):Rec:={r with addr:=if r.own then 0 else r.addr}
def C7 (l:List Rec):List UInt8:=l.flatMap Rec.bytes
theorem zcn (l:List Rec):(C7 l).length=13*l.length:=by
 induction l with
 |nil=>rfl
 |cons r l ih=>simp[C7,Rec.dz]at ih ⊢;omega
deriving instance DecidableEq for Rec
def Rec.key (r:Rec):Rec:={r.norm with seq:=0}
def Rec.lt (a b:Rec):Bool:=if a.own !=b.own then a.own else decide (a.addr<b.addr)
theorem Rec.lt_irrefl (a:Rec):a.lt a=false:=by simp[Rec.lt]
theorem Rec.lt_trans {a b c:Rec} (h1:a.lt b=true) (h2:b.lt c=true):a.lt c=true:=by
 obtain⟨o1,a1,s1⟩:=a;obtain⟨o2,a2,s2⟩:=b;obtain⟨o3,a3,s3⟩:=c;simp only[Rec.lt]at*
 cases o1<;>cases o2<;>cases o3<;>simp[GM]at* <;>omega
theorem Rec.CD {a b:Rec} (h1:a.lt b=false) (h2:b.lt a=false):a.own=b.own/\a.addr=b.addr:=by
 obtain⟨o1,a1,s1⟩:=a;obtain⟨o2,a2,s2⟩:=b;simp only[Rec.lt]at*
 cases o1<;>cases o2<;>simp[<-HL,GM]at* <;>omega
theorem Rec.oT {a b:Rec} (ha:a.norm=a) (hb:b.norm=b):a.key=b.key↔a.own=b.own/\a.addr=b.addr:=by
 obtain⟨o1,a1,s1⟩:=a;obtain⟨o2,a2,s2⟩:=b;simp only[Rec.key,Rec.norm,Rec.mk.injEq,true_and,ucA]at*
 rw[ha,hb]
theorem Rec.pK (r:Rec):r.norm.norm=r.norm:=by
 obtain⟨o,a,s⟩:=r;cases o<;>rfl
theorem Rec.CP (r:Rec):r.norm.key=r.key:=by
 obtain⟨o,a,s⟩:=r;cases o<;>rfl
theorem Rec.Kh (r:Rec):r.key.norm=r.key:=by
 obtain⟨o,a,s⟩:=r;cases o<;>rfl
theorem Rec.Mv (r:Rec):r.key.key=r.key:=by
 obtain⟨o,a,s⟩:=r;cases o<;>rfl
theorem Rec.MP {r:Rec} (h:r.norm=r):{r.key with seq:=r.seq}=r:=by
 obtain⟨o,a,s⟩:=r;simp only[Rec.key,Rec.norm,Rec.mk.injEq,true_and,ucA]at*
 exact h
def bump (o:Option UInt32) (s:UInt32):UInt32:=match o with
 |some t=>max t s
 |none=>s
def zbA (l:List Rec) (k:Rec):Option UInt32:=l.foldl (λo r=>if r.norm.key=k then some (bump o r.seq)else o) none
theorem lY (l) (r k:Rec):zbA (l++[r]) k=if r.norm.key=k then some (bump (zbA l k) r.seq)else zbA l k:=by
 simp only[zbA,uaL,Uq,uah]
def gh:List Rec->Rec->Option UInt32
 |[],_=>none
 |x::xs,k=>if x.key=k then some x.seq else gh xs k
def gP:List Rec->Rec->List Rec
 |[],r=>[r]
 |x::xs,r=>if x.own=r.own/\x.addr=r.addr then {x with seq:=max x.seq r.seq}::xs
  else if r.own=true\/(x.own=false/\r.addr<x.addr)then r::x::xs
  else x::gP xs r
def cC (l:List Rec):List Rec:=l.foldl (λout r=>gP out r.norm) []
theorem wT (l) (r:Rec):cC (l++[r])=gP (cC l) r.norm:=by
 simp only[cC,uaL,Uq,uah]
structure og (l:List Rec):Prop where
 fH:l.Pairwise (λa b=>a.lt b=true)
 norm:∀x∈l,x.norm=x
theorem og.nil:og []:=⟨List.Pairwise.nil,λ_ h=>by cases h⟩
theorem og.tail {x l} (h:og (x::l)):og l:=⟨(Y5.1 h.fH).2,λy hy=>h.norm y (G4 _ hy)⟩
theorem og.cons {x:Rec} {l} (h:og l) (hx:x.norm=x) (hl:∀y∈l,x.lt y=true):og (x::l):=
 ⟨Y5.2 ⟨hl,h.fH⟩,λy hy=>(JA.1 hy).elim (λe=>e▸hx) (h.norm y)⟩
theorem Bk {x r:Rec} (hx:x.norm=x) (hr:r.norm=r) (mi:¬(x.own=r.own/\x.addr=r.addr)):(r.own=true\/(x.own=false/\r.addr<x.addr))↔r.lt x=true:=by
 obtain⟨o1,a1,s1⟩:=x;obtain⟨o2,a2,s2⟩:=r;simp only[Rec.norm,Rec.mk.injEq,true_and,ucA,Rec.lt]at*
 cases o1<;>cases o2<;>simp_all
theorem tP {a b:Rec} (ha:a.norm=a) (hb:b.norm=b) (h:a.lt b=true):a.key≠b.key:=by
 intro e;obtain⟨e1,e2⟩:=(Rec.oT ha hb).1 e;simp[Rec.lt,e1,e2]at h
theorem xA {l k} (h:∀y∈l,y.key≠k):gh l k=none:=by
 induction l with
 |nil=>rfl
 |cons x l ih=>simp only[gh,eQ (h x WY)];exact ih λy hy=>h y (G4 _ hy)
theorem Ct (x:Rec) (s):({x with seq:=s}:Rec).key=x.key:=rfl
theorem tW {x:Rec} (s) (h:x.norm=x):({x with seq:=s}:Rec).norm={x with seq:=s}:=by
 obtain⟨o1,a1,s1⟩:=x;simp only[Rec.norm,Rec.mk.injEq,true_and,ucA]at*
 exact h
theorem Mw (x y:Rec) (s):({x with seq:=s}:Rec).lt y=x.lt y:=rfl
theorem KK {l r}:∀y∈gP l r,(∃s,y={r with seq:=s})\/y∈l\/∃x∈l,∃s,y={x with seq:=s}:=by
 induction l with
 |nil=>intro y hy;rcases Z1.1 hy with rfl;exact .inl ⟨y.seq,rfl⟩
 |cons x l ih=>
  intro y hy;simp only[gP]at hy;split at hy
  ·rcases JA.1 hy with rfl|hy
   ·exact .inr (.inr ⟨x,WY,_,rfl⟩)
   ·exact .inr (.inl (G4 _ hy))
  ·split at hy
   ·rcases JA.1 hy with rfl|hy
    ·exact .inl ⟨y.seq,rfl⟩
    ·exact .inr (.inl hy)
   ·rcases JA.1 hy with rfl|hy
    ·exact .inr (.inl WY)
    ·rcases ih y hy with h|h|⟨x',h,s,e⟩
     ·exact .inl h
     ·exact .inr (.inl (G4 _ h))
     ·exact .inr (.inr ⟨x',G4 _ h,s,e⟩)
theorem CZ {l} {r:Rec} (h:og l) (hr:r.norm=r):og (gP l r):=by
 induction l with
 |nil=>exact og.nil.cons hr (λy hy=>by cases hy)
 |cons x l ih=>
  have hx:=h.norm x WY;have hl:=(Y5.1 h.fH).1;simp only[gP];split
  ·exact h.tail.cons (tW _ hx) (λy hy=>by rw[Mw];exact hl y hy)
  ·rename_i mi;split
   ·rename_i hs;have OX:=(Bk hx hr mi).1 hs;refine h.cons hr λy hy=> ?_;rcases JA.1 hy with rfl|hy
    ·exact OX
    ·exact Rec.lt_trans OX (hl y hy)
   ·rename_i hs;have OX:r.lt x=false:=by rw[<-ubi];exact λe=>hs ((Bk hx hr mi).2 e)
    have rf:x.lt r=true:=by
     cases e:x.lt r with
     |true=>rfl
     |false=>exact absurd (Rec.CD e OX) mi
    refine(ih h.tail).cons hx λy hy=> ?_;rcases KK y hy with ⟨s,rfl⟩|hy|⟨x',DA,s,rfl⟩
    ·exact rf
    ·exact hl y hy
    ·exact hl x' DA
theorem Hy {l} {r:Rec} (h:og l) (hr:r.norm=r) (k):gh (gP l r) k=if r.key=k then some (bump (gh l k) r.seq)else gh l k:=by
 induction l with
 |nil=>rfl
 |cons x l ih=>
  have hx:=h.norm x WY;have hl:=(Y5.1 h.fH).1;simp only[gP];split
  ·rename_i he;have hk:x.key=r.key:=(Rec.oT hx hr).2 he;simp only[gh,Ct,hk];split<;>rfl
  ·rename_i mi;have hk:x.key≠r.key:=λe=>mi ((Rec.oT hx hr).1 e);split
   ·rename_i hs;have OX:=(Bk hx hr mi).1 hs;have zt:gh (x::l) r.key=none:=xA λy hy=>by
     rcases JA.1 hy with rfl|hy
     ·exact λe=>tP hr hx OX e.symm
     ·exact λe=>tP hr (h.norm y (G4 _ hy)) (Rec.lt_trans OX (hl y hy)) e.symm
    show(if r.key=k then some r.seq else gh (x::l) k)=_;split
    ·rename_i e;subst e;rw[zt];rfl
    ·rfl
   ·simp only[gh,ih h.tail];split
    ·rename_i e;subst e;rw[eQ (λe=>hk e.symm)]
    ·rfl
theorem jD (l):og (cC l):=by
 have key:∀(l out:List Rec),og out->og (l.foldl (λout r=>gP out r.norm) out):=by
  intro l;induction l with
  |nil=>intro out h;exact h
  |cons r l ih=>intro out h;exact ih _ (CZ h (Rec.pK r))
 exact key l [] og.nil
theorem lQ (l k):gh (cC l) k=zbA l k:=by
 have key:∀(l out:List Rec) (o:Option UInt32),og out->gh out k=o->gh (l.foldl (λout r=>gP out r.norm) out) k=l.foldl (λo r=>if r.norm.key=k then some (bump o r.seq)else o) o:=by
  intro l;induction l with
  |nil=>intro out o _ h;exact h
  |cons r l ih=>
   intro out o hi h;simp only[Uq];refine ih _ _ (CZ hi (Rec.pK r)) ?_;rw[Hy hi (Rec.pK r),h];rfl
 exact key l [] none og.nil rfl
theorem lB {l} (h:og l) {x:Rec}:x∈l↔x.norm=x/\gh l x.key=some x.seq:=by
 induction l with
 |nil=>simp[gh]
 |cons y l ih=>
  have hy:=h.norm y WY;have hl:=(Y5.1 h.fH).1;constructor
  ·intro hx;refine⟨h.norm x hx,?_⟩;rcases JA.1 hx with rfl|hx
   ·simp[gh]
   ·have:=tP hy (h.norm x (G4 _ hx)) (hl x hx);simp only[gh,eQ this];exact((ih h.tail).1 hx).2
  ·rintro⟨hn,hx⟩;simp only[gh]at hx;split at hx
   ·rename_i e;have:=(Rec.oT hy hn).1 e;have DA:=PL hx;have:x=y:=by obtain⟨_,_,_⟩:=x;obtain⟨_,_,_⟩:=y;simp_all
    rw[this];exact WY
   ·exact G4 _ ((ih h.tail).2 ⟨hn,hx⟩)
theorem og.ext:∀{a b:List Rec},og a->og b->(∀x,x∈a↔x∈b)->a=b
 |[],[],_,_,_=>rfl
 |[],y::b,_,_,h=>absurd ((h y).2 WY) (by simp)
 |x::a,[],_,_,h=>absurd ((h x).1 WY) (by simp)
 |x::a,y::b,ha,hb,h=>by
  have Dz:=(Y5.1 ha.fH).1;have V5:=(Y5.1 hb.fH).1;have e:x=y:=by
   rcases JA.1 ((h x).1 WY)with e|hx
   ·exact e
   ·rcases JA.1 ((h y).2 WY)with e|hy
    ·exact e.symm
    ·have:=Rec.lt_trans (Dz y hy) (V5 x hx);rw[Rec.lt_irrefl]at this;cases this
  subst e;have:=og.ext ha.tail hb.tail λz=>by
   constructor
   ·intro hz;rcases JA.1 ((h z).1 (G4 _ hz))with rfl|pF
    ·have:=Dz z hz;rw[Rec.lt_irrefl]at this;cases this
    ·exact pF
   ·intro hz;rcases JA.1 ((h z).2 (G4 _ hz))with rfl|pF
    ·have:=V5 z hz;rw[Rec.lt_irrefl]at this;cases this
    ·exact pF
  rw[this]
def lL (m:List (Rec×UInt32)) (ks:List Rec):List Rec:=ks.map λk=>{k with seq:=(bX m k).getD 0}
structure BB (l:List Rec) (m:List (Rec×UInt32)):Prop where
 kn:KN m
 get:∀k,bX m k=zbA l k
 keys:∀k v,(k,v)∈m->k.key=k
theorem BB.nil:BB [] []:=⟨KN.nil,λ_=>rfl,λ_ _ h=>by cases h⟩
theorem Kt {m:List (Rec×UInt32)} {k k' v v'}:(k',v')∈bY m k v->(k',v')∈m\/k'=k:=by
 induction m with
 |nil=>rw[xH];intro h;rcases Z1.1 h with h;cases h;exact .inr rfl
 |cons p m ih=>
  obtain⟨a,b⟩:=p;rw[ni];split
  ·intro h;rcases JA.1 h with h|h
   ·cases h;exact .inr rfl
   ·exact .inl (G4 _ h)
  ·intro h;rcases JA.1 h with h|h
   ·cases h;exact .inl WY
   ·rcases ih h with h|h
    ·exact .inl (G4 _ h)
    ·exact .inr h
theorem MV (s:UInt32):max 0 s=s:=by
 have e:(max 0 s:UInt32)=if(0:UInt32)<=s then s else 0:=rfl
 rw[e,jF (by simp)]
theorem BB.snoc {l m} (h:BB l m) (r:Rec):BB (l++[r]) (bY m r.norm.key (max ((bX m r.norm.key).getD 0) r.seq)):=by
 refine⟨h.kn.bY _ _,λk=> ?_,λk v hk=> ?_⟩
 ·rw[fo,lY];split
  ·rename_i e;subst e;rw[h.get];cases zbA l r.norm.key with
   |none=>simp[bump,MV]
   |some t=>rfl
  ·exact h.get k
 ·rcases Kt hk with hk|rfl
  ·exact h.keys k v hk
  ·exact(G2 _ (Rec.CP r)).trans (by rw[Rec.CP,Rec.Mv])
theorem Hd {l:List Rec} {m:List (Rec×UInt32)} {ks:List Rec} (h:BB l m) (hp:ks.Perm (m.map (·.1))) (hs:ks.Pairwise (λa b=>b.lt a=false)):lL m ks=cC l:=by
 have hk:∀k∈ks,k.key=k/\∃v,bX m k=some v:=λk hk=>by
  obtain⟨⟨k',v⟩,hm,rfl⟩:=HC.1 (hp.mem_iff.1 hk);exact⟨h.keys _ _ hm,v,CI h.kn hm⟩
 have xm:ks.Nodup:=hp.symm.nodup h.kn;have J0:∀k:Rec,k.key=k->k.norm=k:=λk e=>by rw[<-e];exact Rec.Kh k
 have bW:ks.Pairwise (λa b=>a.lt b=true):=(hs.and xm).imp_of_mem λ{a b} ha hb ⟨h1,h2⟩=>by
  cases e:a.lt b with
  |true=>rfl
  |false=>
   have:=(Rec.oT (J0 a (hk a ha).1) (J0 b (hk b hb).1)).2 (Rec.CD e h1);rw[(hk a ha).1,(hk b hb).1]at this;exact absurd this h2
 refine og.ext ⟨ZY.2 (bW.imp λh=>h),λx hx=> ?_⟩ (jD l) λx=> ?_
 ·obtain⟨k,hkk,rfl⟩:=HC.1 hx;exact tW _ (J0 k (hk k hkk).1)
 ·rw[lB (jD l),lQ,<-h.get];constructor
  ·intro hx;obtain⟨k,hkk,rfl⟩:=HC.1 hx;obtain⟨h1,v,hv⟩:=hk k hkk;refine⟨tW _ (J0 k h1),?_⟩;rw[Ct,h1,hv];rfl
  ·rintro⟨hn,hx⟩;have hm:=hp.mem_iff.2 (HC.2 ⟨_,CH hx,rfl⟩);refine HC.2 ⟨x.key,hm,?_⟩;rw[hx];exact Rec.MP hn
open Go.RowKit Go.Shelf
set_option maxRecDepth 100000
def Gt:Go.Shelf.Ren:=⟨fun|6=>202|14=>229|15=>230|20=>234|21=>235|22=>236|23=>237|24=>238|25=>239|26=>240|27=>241|28=>242|29=>243|46=>253|47=>254|48=>255|49=>256|50=>257|57=>261|n=>n,fun|0=>0|3=>3|4=>4|5=>5|9=>9|22=>22|24=>28|25=>258|39=>213|45=>324|46=>325|50=>120|53=>26|55=>24|66=>336|70=>339|76=>343|77=>344|n=>n,fun|n=>n⟩
theorem yd:SlLaysF0.n6 ucC Gt:={
 mixed:=by kernel_rfl,
 f6:=⟨Tryz.f202.name,by decide,Tryz.func202.trans (G2 some (by kernel_rfl))⟩,
 f14:=⟨Tryz.f229.name,by decide,Tryz.func229.trans (G2 some (by kernel_rfl))⟩,
 f15:=Tryz.func230.trans (G2 some (by kernel_rfl)),
 f20:=⟨Tryz.f234.name,by decide,Tryz.func234.trans (G2 some (by kernel_rfl))⟩,
 f21:=⟨Tryz.f235.name,by decide,Tryz.func235.trans (G2 some (by kernel_rfl))⟩,
 f22:=⟨Tryz.f236.name,by decide,Tryz.func236.trans (G2 some (by kernel_rfl))⟩,
 f23:=⟨Tryz.f237.name,by decide,Tryz.func237.trans (G2 some (by kernel_rfl))⟩,
 f24:=⟨Tryz.f238.name,by decide,Tryz.func238.trans (G2 some (by kernel_rfl))⟩,
 f25:=⟨Tryz.f239.name,by decide,Tryz.func239.trans (G2 some (by kernel_rfl))⟩,
 f26:=⟨Tryz.f240.name,by decide,Tryz.func240.trans (G2 some (by kernel_rfl))⟩,
 f27:=⟨Tryz.f241.name,by decide,Tryz.func241.trans (G2 some (by kernel_rfl))⟩,
 f28:=Tryz.func242.trans (G2 some (by kernel_rfl)),
 f29:=Tryz.func243.trans (G2 some (by kernel_rfl)),
 f46:=⟨Tryz.f253.name,by decide,Tryz.func253.trans (G2 some (by kernel_rfl))⟩,
 f47:=Tryz.func254.trans (G2 some (by kernel_rfl)),
 f48:=Tryz.func255.trans (G2 some (by kernel_rfl)),
 f49:=⟨Tryz.f256.name,by decide,Tryz.func256.trans (G2 some (by kernel_rfl))⟩,
 f50:=⟨Tryz.f257.name,by decide,Tryz.func257.trans (G2 some (by kernel_rfl))⟩,
 f57:=⟨Tryz.f261.name,by decide,Tryz.func261.trans (G2 some (by kernel_rfl))⟩,
 t0:=Tryz.underlying0,
 a0:=Tryz.isAgg0,
 z0:=Tryz.sizeOf0,
 v0:=Tryz.zeroValue0,
 t3:=Tryz.underlying3,
 a3:=Tryz.isAgg3,
 z3:=Tryz.sizeOf3,
 v3:=Tryz.zeroValue3,
 t4:=Tryz.underlying4,
 a4:=Tryz.isAgg4,
 z4:=Tryz.sizeOf4,
 v4:=Tryz.zeroValue4,
 t5:=Tryz.underlying5,
 a5:=Tryz.isAgg5,
 z5:=Tryz.sizeOf5,
 v5:=Tryz.zeroValue5,
 t9:=Tryz.underlying9,
 a9:=Tryz.isAgg9,
 z9:=Tryz.sizeOf9,
 v9:=Tryz.zeroValue9,
 t22:=Tryz.underlying22,
 a22:=Tryz.isAgg22,
 z22:=Tryz.sizeOf22,
 v22:=Tryz.zeroValue22,
 t25:=Tryz.underlying258,
 a25:=Tryz.isAgg258,
 z25:=Tryz.sizeOf258,
 v25:=Tryz.zeroValue258,
 t39:=Tryz.underlying213,
 a39:=Tryz.isAgg213,
 z39:=Tryz.sizeOf213,
 v39:=Tryz.zeroValue213,
 t45:=Tryz.underlying324,
 a45:=Tryz.isAgg324,
 z45:=Tryz.sizeOf324,
 v45:=Tryz.zeroValue324,
 t46:=Tryz.underlying325,
 a46:=Tryz.isAgg325,
 z46:=Tryz.sizeOf325,
 v46:=Tryz.zeroValue325,
 t50:=Tryz.underlying120,
 a50:=Tryz.isAgg120,
 z50:=Tryz.sizeOf120,
 v50:=Tryz.zeroValue120,
 t53:=Tryz.underlying26,
 a53:=Tryz.isAgg26,
 z53:=Tryz.sizeOf26,
 v53:=Tryz.zeroValue26,
 t55:=Tryz.underlying24,
 a55:=Tryz.isAgg24,
 z55:=Tryz.sizeOf24,
 v55:=Tryz.zeroValue24,
 t66:=Tryz.underlying336,
 a66:=Tryz.isAgg336,
 z66:=Tryz.sizeOf336,
 v66:=Tryz.zeroValue336,
 t70:=Tryz.underlying339,
 a70:=Tryz.isAgg339,
 z70:=Tryz.sizeOf339,
 v70:=Tryz.zeroValue339,
 t76:=Tryz.underlying343,
 a76:=Tryz.isAgg343,
 z76:=Tryz.sizeOf343,
 v76:=Tryz.zeroValue343,
 t77:=Tryz.underlying344,
 a77:=Tryz.isAgg344,
 z77:=Tryz.sizeOf344,
 v77:=Tryz.zeroValue344}
def L7 (a b:UInt32):Int:=if a<b then -1 else if b<a then 1 else 0
def tp (a b:Rec):Int:=if a.own !=b.own then(if a.own then -1 else 1)else L7 a.addr b.addr
theorem py (a b:Rec):Go.Proofs.ltOf tp a b=a.lt b:=by
 unfold Go.Proofs.ltOf tp Rec.lt L7;cases ha:a.own<;>cases hb:b.own<;>simp;all_goals
  by_cases h1:a.addr<b.addr
  ·simp[h1]
  ·by_cases h2:b.addr<a.addr<;>simp[h1,h2]
theorem MS:Go.Sort.SWO (Go.Proofs.ltOf tp) where
 irrefl x:=by rw[py];exact Rec.lt_irrefl x
 trans x y z h1 h2:=by rw[py]at*;exact Rec.lt_trans h1 h2
 ntrans x y z h1 h2:=by
  rw[py]at*
  unfold Rec.lt at*
  cases hx:x.own<;>cases hy:y.own<;>cases hz:z.own<;>simp[hx,hy,hz,GM,uad]at* <;>omega
instance N6 (k:Nat):fB (((k+1:Nat):Int) - 1) k:=⟨by omega⟩
def cA (x:UInt32):List Value:=[u32 x]
instance:cY cA 1:=⟨λ_=>rfl⟩
theorem ko:∀z,∀c∈cA z,c.oneCell'=true:=by intro z c hc;simp[cA]at hc;subst hc;rfl
def fH (l:List UInt32):Prop:=l.Pairwise (λa b=>a.toNat<=b.toNat)
structure nz (l:List UInt32) where
 l':List UInt32
 perm:l'.Perm l
 fH:fH l'
theorem xX {A B} {x:UInt32} (h:fH (A++B)) (hB:∀b∈B,x.toNat<=b.toNat) (hA:∀a∈A,a.toNat<=x.toNat):fH (A++x::B):=by
 unfold fH at*
 rw[Z0]at*
 refine⟨h.1,Y5.2 ⟨hB,h.2.1⟩,λa ha b hb=> ?_⟩;rcases JA.1 hb with rfl|hb
 ·exact hA a ha
 ·exact h.2.2 a ha b hb
theorem Ia {A} {y:UInt32} {B} (h:fH (A++[y]++B)):∀a∈A++[y],a.toNat<=y.toNat:=by
 intro a ha;rcases Lz.1 ha with ha|ha
 ·unfold fH at h;rw[EK,Z0]at h;exact h.2.2 a ha y (by simp)
 ·simp at ha;subst ha;exact uL _
theorem Gq {α:Type} (A:List α) (x y B):(A++x::B).set A.length y=A++y::B:=by
 simp[List.set_append]
theorem K2 {α:Type} (A:List α) (x y B):((A++[y]++x::B).set (A++[y]).length y).set A.length x=A++x::(y::B):=by
 rw[Gq,EK];show(A++y::(y::B)).set A.length x=_;rw[Gq]
theorem HN {α:Type} (A:List α) (x y:α) (B:List α):(A++x::(y::B)).Perm (A++[y]++x::B):=by
 rw[EK];exact ubB A (List.Perm.swap y x B)
theorem Me {α:Type} (A:List α) (x B):(A++x::B)[A.length]? =some x:=by simp
theorem JN {α:Type} (A:List α) (y B):(A++[y]++B)[A.length]? =some y:=by simp
theorem Am (w0) (n:Nat) (hn:n<=1000000):Spec ucC w0 230 [.int .u64 (n:Int)] emp (λ_:Unit=> .int .i64 (Lib.bitLen n:Nat)) (λ_=>emp):=by
 intro G w hs;have h:=Any.bits_Len (SlLaysF0.n15.bits (P:=ucC) (ρ:=Gt) {yd with}) (n:Int) w (by omega) (by omega);rw[D3]at h;refine Calls.mono h ?_;rintro e w' ⟨rfl,rfl⟩;exact⟨(),rfl,hs⟩
theorem IZ {P:Program} {n:fT} {E:Env} {H:af} {w0:World} {d:Option Tmp} {src t ty:TypeId} {pos:String} {after:Array Edge} {gu:Option (Nat×Bool)} {x:Operand} {m:Nat} (hx:E.ev x=some (.int .i64 (m:Int))) (hs:eN P src (.int .i64)) (hd:eN P t (.int .u64)) (hm:m<=1000000):OpQ P n w0 ⟨d,.convert src t x,ty,pos,after,gu⟩ E H (.int .u64 (m:Int)):=
 kX hx hs hd (by rw[wrap_u64];omega)
attribute [local irreducible] WS LS OpQ y6 cn cv Spec bA aK
variable (w0:World)
theorem xJ (a):Spec ucC w0 204 [u32 a] emp (λ_:Unit=> .bool false) (λ_=>emp):=by
 refine eZ Tryz.func204 Tryz.ntmps204 λG=> ?_;simp only[aN];repeat' (first|intro K hK|refine ax ?_|((refine' LQ ?zh rfl ?_);case zh=>intro F';exact du rfl rfl iI (by rfl))|fail)
 exact aC (.inl rfl) rfl rfl ⟨(),by simp,ah⟩
theorem Cx (a b):Spec ucC w0 250 [u32 a,u32 b] emp (λ_:Unit=> .bool (decide (a<b))) (λ_=>emp):=by
 have h1:=xJ w0 a;have h2:=xJ w0 b;refine eZ Tryz.func250 Tryz.ntmps250 λG=> ?_;simp only[aN];repeat' (first|intro hc|refine xyZ ?_|refine aF ?_ ?_|refine zw1 ?_|refine cZ h1 λu=> ?_)
 exact aC (.inl rfl) rfl rfl ⟨(),rfl,ah⟩
theorem yB (v) (l:List UInt32) (hl:l.length<=1000):Spec ucC w0 244 [v,.int .i64 0,.int .i64 (l.length:Int)] (rows 26 1 cA v l) (λ_:nz l=> .tuple #[]) (λs=>rows 26 1 cA v s.l'):=by
 refine eZ Tryz.func244 Tryz.ntmps244 λG=> ?_;simp only[aN];repeat' (first|intro K hK|refine ax ?_)
 refine aV (λk τ=>∃(i:Nat) (c:List UInt32),i+k=l.length+1/\1<=i/\c.Perm l/\fH (c.take i)/\τ=⟨[(6,.int .i64 (i:Int)),(0,v),(1,.int .i64 0),(2,.int .i64 (l.length:Int))],[],rows 26 1 cA v c*G⟩) ?_ ?_
 ·refine⟨l.length,_,⟨1,l,by omega,uL _,.refl _,?_,rfl⟩,cG,rfl,ah⟩;cases l with
  |nil=>exact List.Pairwise.nil
  |cons x l=>exact List.pairwise_singleton _ _
 ·rintro k τ ⟨i,c,qE,zq,hp,hr,rfl⟩;have Dy:c.length=l.length:=hp.length_eq;rcases jP i l.length with bW|kQ
  ·refine FE v iI iI rfl (by omega) λg' off cap hv=> ?_;subst hv;generalize hv:Value.slice (some ⟨g',off,none⟩) c.length cap=v;repeat' (first|intro hc|refine xyZ ?_|refine aF ?_ ?_)
   refine aV (λk' τ=>∃(A B C:List UInt32) (x:UInt32),A.length=k'/\(A++x::(B++C)).Perm l/\A.length+B.length=i/\fH (A++B)/\(∀b∈B,x.toNat<=b.toNat)/\τ=⟨[(7,.int .i64 (k':Int)),(6,.int .i64 (i:Int)),(0,v),(1,.int .i64 0),(2,.int .i64 (l.length:Int))],[],rows 26 1 cA v (A++x::(B++C))*G⟩) ?_ ?_
   ·obtain⟨x,hx⟩:∃x,c[i]? =some x:=⟨_,aX (by omega)⟩
    have Qa:c=c.take i++x::c.drop (i+1):=by
     have h2:=(az.1 hx)
     rw[<-h2.2,uae,Jt]
    have Ry:(c.take i).length=i:=by simp;omega
    exact⟨i,_,⟨c.take i,[],c.drop (i+1),x,Ry,by rw[zF,<-Qa];exact hp,by rw[Ry];rfl,by rw[rL];exact hr,(λb hb=>by cases hb),rfl⟩,cG,rfl,by rw[zF,<-Qa];exact ah⟩
   ·rintro k' τ ⟨A,B,C,x,rfl,ma,hab,Lu,hB,rfl⟩;have hlen:(A++x::(B++C)).length=l.length:=ma.length_eq;have fin:fH (A++x::B)->((A++x::(B++C)).take (i+1))=A++x::B:=λ_=>by
     rw[show A++x::(B++C)=(A++x::B)++C by simp,List.take_left' (by simp;omega)]
    rcases List.eq_nil_or_concat A with rfl|⟨A',y,rfl⟩
    ·have hrr:fH ([]++x::B):=xX Lu hB (λa ha=>by cases ha);repeat' (first|refine ag (id:=4) (.range 15) ?_|intro hc|refine xyZ ?_|refine aF ?_ ?_)
     exact⟨k - 1,_,by omega,⟨i+1,_,by omega,by omega,ma,by rw[fin hrr];exact hrr,rfl⟩,cG,rfl,ah⟩
    ·rw[List.concat_eq_append]at*
     have Xf:(A'++[y]).length=A'.length+1:=by simp
     have Yr:(A'++[y]++x::(B++C))[(A'++[y]).length]? =some x:=Me _ _ _;have Kf:(A'++[y]++x::(B++C))[A'.length]? =some y:=JN _ _ _;have S4:=K2 A' x y (B++C);have FZ:=Cx w0 x y;rw[Xf]at Yr S4 ⊢;have QT:((A'.length+1:Nat):Int) - 1=(A'.length:Int):=by omega
     by_cases Ta:x<y
     ·rw[Dp Ta]at FZ;generalize QW:A'++[y]++x::(B++C)=cur at*
      have Zk:(cur.set (A'.length+1) y)[A'.length]? =some y:=by rw[List.getElem?_set_ne (by omega)];exact Kf
      subst hv;repeat' (first|refine ag (id:=4) (.range 15) ?_|refine ae (id:=6) (.range 18) 15 [8,9,12,13,14] ?_|intro hc|refine xyZ ?_|refine aF ?_ ?_|((first|refine' LQ ?zh rfl ?_|refine' bP rfl rfl rfl ?zh ?_|refine' bk rfl rfl ?zh ?_|refine' zab rfl rfl rfl ?zh ?_);case zh=>intro F';exact BC rfl rfl iI iI iI (by first|assumption|omega))|((refine' dP ?zh rfl rfl ?_);(case zh=>exact dB _ rfl rfl iI iI iI rfl (by assumption) rfl);intro g)|(refine MY (by rfl) (aa iI rfl FZ iI) rfl rfl rfl ?_;intro u))
      have X7:(A'++x::(y::B++C)).Perm l:=(HN A' x y (B++C)).trans (by rw[QW];exact ma);have Xg:∀b∈y::B,x.toNat<=b.toNat:=by
       intro b hb;rcases JA.1 hb with rfl|hb
       ·exact Nat.le_of_lt (GM.1 Ta)
       ·exact hB b hb
      exact⟨A'.length,_,by omega,⟨A',y::B,C,x,rfl,X7,by simp at hab ⊢;omega,by simpa using Lu,Xg,rfl⟩,⟨by rw[QT];rfl,rfl,rfl,rfl,rfl,trivial⟩,rfl,by rw[S4];exact ah⟩
     ·rw[EH Ta]at FZ;have hrr:fH (A'++[y]++x::B):=xX Lu hB (λa ha=>by
       have:=Ia Lu a ha
       have:=mt GM.2 Ta
       omega)
      have xh:=fin hrr;generalize QW:A'++[y]++x::(B++C)=cur at*
      repeat' (first|refine ag (id:=4) (.range 15) ?_|intro hc|refine xyZ ?_|refine aF ?_ ?_|(refine MY (by rfl) (aa iI rfl FZ iI) rfl rfl rfl ?_;intro u))
      exact⟨k - 1,_,by omega,⟨i+1,_,by omega,by omega,ma,by rw[xh];exact hrr,rfl⟩,cG,rfl,ah⟩
  ·have gK:c.take i=c:=Gz (by omega);rw[gK]at hr;repeat' (first|intro hc|refine xyZ ?_|refine aF ?_ ?_)
   exact aj (.inr rfl) rfl ⟨⟨c,hp,hr⟩,rfl,ah⟩
theorem EY (v) (l:List UInt32) (hl:l.length<=12) (lim):Spec ucC w0 232 [v,.int .i64 0,.int .i64 (l.length:Int),.int .i64 lim] (rows 26 1 cA v l) (λ_:nz l=> .tuple #[]) (λs=>rows 26 1 cA v s.l'):=by
 have Uc:=yB w0 v l (by omega);refine eZ Tryz.func232 Tryz.ntmps232 λG=> ?_;simp only[aN];repeat' (first
  |(refine ab ?_;intro K hK)
  |(refine hK _ ?_;clear hK K)
  |(with_reducible (first|refine vZ ?_|refine rH ?_|refine rI rfl ?_|refine Gy (by assumption) ?_))
  |refine pt ?_
  |refine z7 ?_
  |((refine' LQ ?h rfl ?_);case h=>intro F';first|exact kC rfl)
  |refine oG ?_)
 refine th 1 (LZ ?_);repeat' (first
  |(refine ab ?_;intro K hK)
  |(refine hK _ ?_;clear hK K)
  |(with_reducible (first|refine vZ ?_|refine Bl ?_|refine wO ?_|refine rH ?_|refine rI rfl ?_|refine Gy (by assumption) ?_))
  |refine pt ?_
  |refine z7 ?_
  |((refine' LQ ?h rfl ?_);case h=>intro F';first|exact bC rfl|exact kC rfl|exact I3 rfl rfl (by omega)|exact bp rfl rfl iI (by omega))
  |(refine ai (aa iI rfl Uc iI) rfl ?_;intro s)
  |refine wy rfl iI ?_
  |refine DI ?_
  |refine oG ?_)
 exact aj (.inl rfl) rfl ⟨s,rfl,ah⟩
theorem Dm (v) (l:List UInt32) (hl:l.length<=12):Spec ucC w0 217 [v] (rows 26 1 cA v l) (λ_:nz l=> .tuple #[]) (λs=>rows 26 1 cA v s.l'):=by
 have hb:=Am w0 l.length (by omega);have hp:=EY w0 v l hl (Lib.bitLen l.length:Nat);refine eZ Tryz.func217 Tryz.ntmps217 λG=> ?_;simp only[aN];repeat' (first|intro K hK|refine ax ?_|(refine lI (IZ rfl iI iI (by omega)) rfl ?_)|refine cZ hb λu=> ?_|refine cZ hp λs=> ?_)
 exact aj (.inr rfl) rfl ⟨s,rfl,ah⟩
end
end Go.Proofs.YtapoehkdnglahabGreat

/- A part. -/
import Derived.Test.YtapoehkdnglahabGreatMh
import Derived.Test.YtapoehkdnglahabGreatMi
import Derived.Shelf.SlSortCmp.NoneTotal
set_option maxHeartbeats 8000000
set_option maxRecDepth 100000
set_option linter.all false
namespace Go.Proofs.YtapoehkdnglahabGreat
section
open Go.RowKit Go.Shelf
open Go.Sort (flatK HoldsK get_flatK)
set_option maxRecDepth 100000
theorem Mz (x W):Calls ucC 204 #[.int .u32 x] W λe w'=>e= .returned (.bool false)/\w'=W:=by
 go_enter Tryz.func204,Tryz.ntmps204
 go_wp2_with fail
 go_ret
 simp
def D0 (x y:Int):Int:=if x<y then -1 else if y<x then 1 else 0
theorem L8 (x y W):Calls ucC 159 #[.int .u32 x,.int .u32 y] W λe w'=>e= .returned (.int .i64 (D0 x y))/\w'=W:=by
 have hn:=Mz;go_enter Tryz.func159,Tryz.ntmps159
 go_wp2_with (go_at_call 204;refine(hn _ _).mono ?_;rintro e w' ⟨rfl,rfl⟩)
 all_goals go_ret
 all_goals first|omega|(simp_all [D0];done)|(simp_all [D0];omega)
theorem Og (a b:UInt32):D0 (a.toNat:Int) (b.toNat:Int)=L7 a b:=by
 unfold D0 L7;simp only[GM,Int.ofNat_lt]
theorem L6 (o1 o2 x y s1 s2) (W:World):Calls ucC 158 #[.agg #[.bool o1,.int .u32 x,.int .u32 s1],.agg #[.bool o2,.int .u32 y,.int .u32 s2]] W λe w'=>e= .returned (.int .i64 (if o1 !=o2 then(if o1 then -1 else 1)else D0 x y))/\∃q Va,w'=Go.Sort.grow (W.drewN q) Va:=by
 have AI:=λW'=>L8 x y W';generalize D0 x y=r at AI ⊢;go_enter Tryz.func158,Tryz.ntmps158
 go_wp2_with (go_at_call 159;refine(AI _).mono ?_;rintro e w' ⟨rfl,rfl⟩)
 all_goals try go_ret
 all_goals(refine⟨?_,0,_,by rw[Go.Sort.alloc_eq_grow,Go.Sort.alloc_eq_grow,Go.Sort.grow_grow];rfl⟩)
 all_goals(show Ending.returned (Value.int _ _)=_;clear AI;cases o1<;>cases o2<;>first|rfl|contradiction)
theorem Jv (a b:Rec) (W:World):Calls ucC 158 (#[.agg a.cells.toArray,.agg b.cells.toArray]++ #[]) W λe w'=>e= .returned (.int .i64 (tp a b))/\∃q Va,w'=Go.Sort.grow (W.drewN q) Va:=by
 have h:=L6 a.own b.own a.addr.toNat b.addr.toNat a.seq.toNat b.seq.toNat W;rw[Og]at h;exact h
instance:Inhabited Rec:=⟨⟨false,0,0⟩⟩
theorem zi (l:List Rec) (j) (h:j<l.length*3):(flatK Rec.cells 3 l.toArray)[j]! =(l.flatMap Rec.cells)[j]'(by rw[bZ Rec.cells 3 (λ_=>rfl)];exact h):=by
 have hq:j / 3<l.length:=by omega
 rw[get_flatK _ _ _ _ (by simpa using h)];have h2:=nN Rec.cells 3 (λ_=>rfl) l (j / 3) (j % 3) l[j / 3] (by simp[hq]) (by omega);rw[show j / 3*3+j % 3=j by omega]at h2;have h3:=aX (l:=l.flatMap Rec.cells) (i:=j) (by rw[bZ Rec.cells 3 (λ_=>rfl)];exact h);rw[h3]at h2;have h4:l.toArray[j / 3]! =l[j / 3]:=by simp[hq]
 rw[h4];have h5:j % 3<(Rec.cells l[j / 3]).length:=by show j % 3<3;omega
 rw[aX h5]at h2;rw[ucy (Rec.cells l[j / 3]) (j % 3) h5];exact(PL h2).symm
theorem Sat.Sp {w0 w e g off cap} {l l':List Rec} {F} (n os) (hs:Sat w0 w (rows e 3 Rec.cells (.slice (some ⟨g,off,none⟩) l.length cap) l*F)) (hn:0<l.length) (hl:l'.length=l.length):
 Sat w0 (sortWorldK Rec.cells 3 w g off n l'.toArray os) (rows e 3 Rec.cells (.slice (some ⟨g,off,none⟩) l.length cap) l'*F):=by
 obtain⟨hx,⟨A,hv,h0,_⟩|⟨g',Pw,Oe,cur,fr,hv,hle,hm,hc,ht,hf,hp⟩⟩:=hs.jN
 ·omega
 injection hv with e1 _ e3
 injection e1 with e1
 injection e1 with e1 e2
 subst e1;subst e2;subst e3
 have hg:=hp.at_
 let G7:Array Value:=Go.Sort.putCells id off (flatK Rec.cells 3 l'.toArray) cur
 have rZ:G7.size=cur.size:=by simp[G7,Go.Sort.putCells]
 have bW:g<w.heap.size:=hp.lt
 have ma:Sat w0 (sortWorldK Rec.cells 3 w g off n l'.toArray os) (pM g (.cells G7 e fr)*F):=by
  refine Sat.put hp rfl rfl rfl ?_ λk hk mi=> ?_
  ·show((w.heap.modify g _)++os)[g]? =_;rw[ubY (by simpa using bW),uaP,jF rfl,hg];rfl
  ·show((w.heap.modify g _)++os)[k]? =_;rw[ubY (by simpa using hk),uaP,eQ (uaT mi)]
 unfold rows
 rw[hl]
 refine Sat.yc e 3 l.length g off cap G7 fr _ ma ?_ hle hm (by rw[rZ];exact hc) ?_ hf
 ·rw[bZ Rec.cells 3 (λ_=>rfl),hl]
 ·have XQ:l.length*3<=cap*3:=VB _ hle
  apply zD
  intro j
  rw[G3]
  by_cases hj:j<l.length*3
  ·rw[jF hj,Lf,ubA]
   have XK:off+j<cur.size:=by omega
   have qF:j<l'.length*3:=by rw[hl];exact hj
   have h1:G7[off+j]? =some ((flatK Rec.cells 3 l'.toArray)[j]!):=by
    simp only[G7,Go.Sort.putCells,Array.getElem?_mapIdx];rw[ubc XK];simp only[EL,id];rw[jF ⟨by omega,by simp;omega⟩,uca]
   rw[h1,zi l' j qF,<-aX]
  ·rw[eQ hj]
   symm
   apply EJ
   rw[bZ Rec.cells 3 (λ_=>rfl),hl];omega
theorem KI {l:List Rec} {d':Array Rec} (h:Go.Sort.PermIn 0 l.toArray.size l.toArray d'):d'.toList.Perm l:=by
 obtain⟨h1,_,h3⟩:=h;have e1:d'.extract 0 l.toArray.size=d':=by rw[<-h1];simp
 have e2:l.toArray.extract 0 l.toArray.size=l.toArray:=by simp
 rw[e1,e2]at h3;simpa using h3
theorem Fi {l:List Rec} {d':Array Rec} (hz:d'.size=l.length) (h:Go.Sort.SortedIn (Go.Proofs.ltOf tp) 0 l.toArray.size d'):d'.toList.Pairwise (λa b=>b.lt a=false):=by
 rw[G5];intro i j hi hj OE;have:=h i j (uau _) OE (by simp at hj ⊢;omega);rw[py]at this;simp only[uak]at hi hj;rw[ucy d' i hi,ucy d' j hj]at this;simpa using this
structure Ac (l:List Rec) where
 l':List Rec
 perm:l'.Perm l
 fH:l'.Pairwise (λa b=>b.lt a=false)
theorem Fh (w0 v) (l:List Rec) (hl:l.length<=1000000):Spec ucC w0 202 [v,.func (.func 158) #[] #[]] (rows 28 3 Rec.cells v l) (λ_:Ac l=> .tuple #[]) (λs=>rows 28 3 Rec.cells v s.l'):=by
 intro G w hs;rcases uap l.length with h0|rX
 ·obtain rfl:=HD h0;obtain⟨A,c,rfl⟩:=gz hs;have:=AnyF.slices_SortFunc_none yd A c (.func (.func 158) #[] #[]) w;refine Calls.mono (this) ?_;rintro e w' ⟨rfl,rfl⟩;exact⟨⟨[],.refl _,.nil⟩,rfl,hs⟩
 ·have mi:l.flatMap Rec.cells≠[]:=by
   intro e0;have:=bZ Rec.cells 3 (λ_=>rfl) l;rw[e0]at this;simp at this;omega
  obtain⟨g,off,cap,rfl,hle,hm,hc⟩:=Sat.Dl hs mi;have hH:HoldsK Rec.cells 3 w g off l.toArray:=by
   intro j hj;have qF:j<l.length*3:=by simpa using hj
   have:=hc j ((l.flatMap Rec.cells)[j]'(by rw[bZ Rec.cells 3 (λ_=>rfl)];exact qF)) (aX _);rw[zi l j qF];exact this
  have hblk:g<w.heap.size:=by
   have:=(hc 0 ((l.flatMap Rec.cells)[0]'(uaX.2 mi)) (aX _)).1;unfold World.cell? at this;rcases jP g w.heap.size with bW|kQ
   ·exact bW
   ·simp[WB kQ]at this
  have eg:∀args w,(callFunc 158 args).run ucC w= .ok (.enter 158 args) w:=enters_of Tryz.func158 (by kernel_rfl) rfl;have AI:=AnyQ.slices_SortFunc yd 3 Tryz.isAgg28 Tryz.sizeOf28 Rec.cells (λ_=>rfl) (λz v hv=>by simp[Rec.cells]at hv;rcases hv with rfl|rfl|rfl<;>rfl) tp MS 158 #[] g off cap l.toArray w eg (λ_ _ _ _ x y=>Jv x y _) hH hblk (by simp;omega);refine Calls.mono (AI) ?_;rintro e w' ⟨rfl,d',n,os,hp,Hq,rfl⟩;have hz:d'.size=l.length:=by simpa using hp.1
  refine⟨⟨d'.toList,KI hp,Fi hz Hq⟩,rfl,?_⟩;exact Sat.Sp n os hs rX (by simpa using hz)
end
section
open Go.RowKit
attribute [local irreducible] WS LS OpQ y6 cn cv Spec bA aK
variable (w0:World)
theorem EA (m:List (Rec×UInt32)) (r gm):qf ucC w0 203 [ptr gm 0] (aK gm 252 [.map (some r)]*mp zbW u32 r m) (λk=>[zbW k]) (λxs=>xs.Perm (m.map (·.1))):=by
 intro l J Jx hY;refine eZ Tryz.func203 Tryz.ntmps203 λG=> ?_;simp only[aN];repeat' (first|refine ab λK hK=> ?_|refine ax ?_|(refine ai (vC rfl iI iI) rfl ?_;intro it))
 refine aV (λk τ=>∃(pre:List Rec) (left:List (Rec×UInt32)) (cur:Option (Rec×UInt32)),left.length=k/\(pre++left.map (·.1)).Perm (m.map (·.1))/\τ=⟨[(5,ptr it 0),(0,mM l)],[],Bs zbW u32 r it m left cur*(J pre*(aK gm 252 [.map (some r)]*G))⟩) ?_ ?_
 ·exact pbd
 ·rintro k τ ⟨pre,left,cur,hk,hp,rfl⟩;repeat' (first|refine ab λK hK=> ?_|refine ax ?_|(refine aF ?_ ?_<;>intro hc<;>try exact aG)|refine bT λg=> ?_|refine zw0 λg=> ?_|(refine ai (z6 rfl iI) rfl ?_;rintro⟨_|⟨i,z,u⟩,ho⟩<;>simp only[jC.val,jC.rest,jC.now])|(refine lI (pq rfl iI) rfl ?_))
  ·exact pav
  ·refine LL (vD rfl rfl rfl (hY pre z ⟨pre++[z]++(left.eraseIdx i).map (·.1),lC hp ho,⟨_,rfl⟩⟩)) iI rfl ?_;intro b;cases b;all_goals simp only[Zo,Yv]
   ·repeat' (first|refine ax ?_|(refine aF ?_ ?_<;>intro hc<;>try exact aG))
    refine aj (.inl rfl) rfl ⟨(pre++[z],false),rfl,?_⟩;show aq _ ((_*_)*G);exact aq.trans (F:=Bs zbW u32 r it m (left.eraseIdx i) (some (z,u))*(Jx (pre++[z])*(aK gm 252 [.map (some r)]*G))) (ah) (aq.trans aq.qN (ah))
   ·exact paq
theorem uU {gf} {lb:List Value} {X S} (hf:aA ucC gf) (it:qf ucC w0 gf lb X (λk=>[zbW k]) S) (hS:∀xs,S xs->xs.length<=100000):
 Spec ucC w0 228 [.slice none 0 0,.func (.func gf) #[] lb.toArray] X (λp:Value×List Rec=>p.1) (λp=>pure' (S p.2)*(rows 28 3 Rec.cells p.1 p.2*X)):=by
 refine Spec.jr Tryz.func228 rfl Tryz.ntmps228 rfl λG=> ?_
 simp only[aN]
 repeat' (first|(refine hK _ ?_;clear hK K)|refine ab λK hK=> ?_|refine ax ?_|refine bT λg=> ?_)
 revert g;intro gs
 refine cV (aq.nil _ 28 3 Rec.cells none) ?_
 refine cV (H':=X*((hex λv=>aK gs 22 [v]*rows 28 3 Rec.cells v ([]:List Rec))*G)) (aq.trans (F:=(hex λv=>aK gs 22 [v]*rows 28 3 Rec.cells v ([]:List Rec))*(X*G)) (aq.mX (p:=λv=>aK gs 22 [v]*rows 28 3 Rec.cells v ([]:List Rec)) (Value.slice none 0 0) (ah)) (ah)) ?_
 refine ry rfl rfl hf it rfl (λ_=>rfl) (λpre=>hex λv=>aK gs 22 [v]*rows 28 3 Rec.cells v pre) (λ_ _=>pure' False) rfl ?_ ?_ ?_
 ·rintro l pre x R ⟨xs,ta,Lt⟩
  have hlen:pre.length+1<=100000:=by
   have:=Lt.length_le;have:=hS xs ta;simp at*;omega
  refine iU λv=> ?_
  repeat' (first|refine ax ?_|refine bT λg=> ?_|refine zw0 λg=> ?_)
  rename_i g2
  refine vI rfl (aK g2 28 x.cells*(aK gs 22 [v]*rows 28 3 Rec.cells v pre)) (ah) λR'=> ?_
  repeat' (first|refine ax ?_|refine bQ λg=> ?_|(refine ai (au Rec.cells [x] iI iI iI rfl rfl rfl rfl rfl iI rfl rfl rfl) rfl ?_;intro vs)|(refine ai (aR rfl rfl iI iI rfl iI iI cO (by first|omega|(simp[al]<;>omega)) rfl) rfl ?_;intro va))
  show aq _ _
  refine aq.mX va ?_
  exact ah
 ·intro b xs ta
  refine hK _ ?_
  refine cV (H':=(hex λv=>aK gs 22 [v]*rows 28 3 Rec.cells v xs)*(pW b*(X*G))) (ah) ?_
  refine iU λv=> ?_
  repeat' (first|(refine hK _ ?_;clear hK K)|refine ab λK hK=> ?_|refine ax ?_)
  refine zcc ?_
  refine vU (λh=>by cases h) iI ?_
  refine zbu rfl (bh rfl) ⟨(v,xs),rfl,?_⟩
  show aq _ ((pure' (S xs)*(rows 28 3 Rec.cells v xs*X))*G)
  rw[ad (pure' (S xs))]
  refine aq.ji ta ?_
  exact ah
 ·intro b c pre
  exact jR (φ:=False) λh=>h.elim
theorem yv {gf} {lb:List Value} {X S} (hf:aA ucC gf) (it:qf ucC w0 gf lb X (λk=>[zbW k]) S) (hS:∀xs,S xs->xs.length<=100000):
 Spec ucC w0 201 [.func (.func gf) #[] lb.toArray] X (λp:Value×List Rec=>p.1) (λp=>pure' (S p.2)*(rows 28 3 Rec.cells p.1 p.2*X)):=by
 have Oq:=uU w0 hf it hS
 refine eZ Tryz.func201 Tryz.ntmps201 λG=> ?_
 simp only[aN]
 repeat' (first|intro K hK|refine ax ?_|refine cZ Oq λp=> ?_)
 exact aC (.inl rfl) rfl rfl ⟨p,rfl,ah⟩
theorem Bj {gf} {lb:List Value} {X S} (hf:aA ucC gf) (it:qf ucC w0 gf lb X (λk=>[zbW k]) S) (hS:∀xs,S xs->xs.length<=100000):
 Spec ucC w0 156 [.func (.func gf) #[] lb.toArray,.func (.func 158) #[] #[]] X (λp:Value×(l:List Rec)×Ac l=>p.1) (λp=>pure' (S p.2.1)*(rows 28 3 Rec.cells p.1 p.2.2.l'*X)):=by
 have Ou:=yv w0 hf it hS
 refine eZ Tryz.func156 Tryz.ntmps156 λG=> ?_
 simp only[aN]
 repeat' (first|refine ab λK hK=> ?_|refine ax ?_|(refine ai (aa iI rfl Ou iI) rfl ?_;rintro⟨v,l⟩;refine lH iI λhp=> ?_;have Rv:=Fh w0 v l (by have:=hS l hp;omega);dsimp only)|refine cZ (by assumption) λs=> ?_)
 refine aC (.inl rfl) rfl rfl ⟨(v,⟨l,s⟩),rfl,?_⟩
 show aq _ ((pure' (S l)*(rows 28 3 Rec.cells v s.l'*X))*G)
 rw[ad (pure' (S l))]
 exact aq.ji hp (ah)
theorem EB (r):Spec ucC w0 157 [.map (some r)] emp (λg:Nat=> .func (.func 203) #[] [ptr g 0].toArray) (λg=>aK g 252 [.map (some r)]):=by
 refine eZ Tryz.func157 Tryz.ntmps157 λG=> ?_;exact paM
theorem Mx {κ ν} [DecidableEq κ] (m:List (κ×ν)) (k v):(bY m k v).length<=m.length+1:=by
 rw[CK];split<;>omega
theorem Eb {m} {ks:List Rec} {j x u} (hx:ks[j]? =some x) (hu:bX m x=some u):(lL m (ks.take j)++ks.drop j).set j {x with seq:=u}=lL m (ks.take (j+1))++ks.drop (j+1):=by
 obtain⟨bW,he⟩:=az.1 hx;have h1:(lL m (ks.take j)).length=j:=by simp[lL];omega
 have h2:ks.drop j=x::ks.drop (j+1):=by rw[<-he,uae]
 rw[AP,hx,h2,List.set_append,eQ (by omega),h1,ubD,List.set_cons_zero];simp[lL,hu]
theorem JK {m} {ks:List Rec} {j x} (hx:ks[j]? =some x):(lL m (ks.take j)++ks.drop j)[j]? =some x:=by
 obtain⟨bW,he⟩:=az.1 hx;have h1:(lL m (ks.take j)).length=j:=by simp[lL];omega
 rw[Zq (by omega),h1,ubD,Lf];exact hx
theorem Hc {m} {ks:List Rec} {j} (hj:j<=ks.length):(lL m (ks.take j)++ks.drop j).length=ks.length:=by
 simp[lL];omega
theorem qv (l:List Rec) (hl:l.length<=100000) (v X) [hX:eX w0 X v Rec 3 Rec.cells l]:Spec ucC w0 109 [v] X (λm:Value=>m) (λm=>rows 28 3 Rec.cells m (cC l)*X):=by
 refine eZ Tryz.func109 Tryz.ntmps109 λG=> ?_;simp only[aN];repeat' (first|intro K hK|refine ax ?_|(refine ai (ew zbW u32) rfl ?_;intro r))
 refine aV (λk τ=>∃(j:Nat) (m:List (Rec×UInt32)),j+k=l.length/\BB (l.take j) m/\m.length<=j/\τ=⟨[(13,.int .i64 (j:Int)),(12,.int .i64 (l.length:Int)),(11,v),(3,.map (some r))],[],mp zbW u32 r m*(X*G)⟩) ?_ ?_
 ·exact⟨l.length,_,⟨0,[],by omega,BB.nil,uL _,rfl⟩,cG,rfl,ah⟩
 ·rintro k τ ⟨j,m,ym,hm,Rg,rfl⟩;rcases jP j l.length with bW|kQ
  ·obtain⟨z,hz⟩:∃z,l[j]? =some z:=⟨_,aX bW⟩
   have oQ:=hm.snoc z;have gK:l.take j++[z]=l.take (j+1):=by rw[AP,hz,Qf]
   rw[gK]at oQ;have hlen:=Mx m z.norm.key (max ((bX m z.norm.key).getD 0) z.seq);obtain⟨o,a,q⟩:=z;cases o
   ·have Q9:(⟨false,a,q⟩:Rec).norm.key=⟨false,a,0⟩:=rfl;rw[Q9]at oQ hlen;cases hg:bX m ⟨false,a,0⟩with
    |none=>
     rw[hg]at oQ hlen;simp only[Ju,CV]at oQ hlen;repeat' (first|refine ae (id:=9) (.range 9) 8 [1,3,4,6,7] ?_|intro hc|refine xyZ ?_|refine aF ?_ ?_|refine zgT ?_|refine bT λg=> ?_|refine bQ λg=> ?_|refine zht λg=> ?_)
     exact⟨k - 1,_,by omega,⟨j+1,_,by omega,oQ,by have:=hlen;omega,rfl⟩,cG,rfl,ah⟩
    |some u=>
     rw[hg]at oQ hlen;simp only[Ju,CV]at oQ hlen;repeat' (first|refine ae (id:=9) (.range 9) 8 [1,3,4,6,7] ?_|intro hc|refine xyZ ?_|refine aF ?_ ?_|refine zhw ?_|refine bT λg=> ?_|refine bQ λg=> ?_|refine zht λg=> ?_)
     exact⟨k - 1,_,by omega,⟨j+1,_,by omega,oQ,by have:=hlen;omega,rfl⟩,cG,rfl,ah⟩
   ·have Q9:(⟨true,a,q⟩:Rec).norm.key=⟨true,0,0⟩:=rfl;rw[Q9]at oQ hlen;cases hg:bX m ⟨true,0,0⟩with
    |none=>
     rw[hg]at oQ hlen;simp only[Ju,CV]at oQ hlen;repeat' (first|refine ae (id:=9) (.range 9) 8 [1,3,4,6,7] ?_|intro hc|refine xyZ ?_|refine aF ?_ ?_|refine zgT ?_|refine bT λg=> ?_|refine bQ λg=> ?_|refine zht λg=> ?_)
     exact⟨k - 1,_,by omega,⟨j+1,_,by omega,oQ,by have:=hlen;omega,rfl⟩,cG,rfl,ah⟩
    |some u=>
     rw[hg]at oQ hlen;simp only[Ju,CV]at oQ hlen;repeat' (first|refine ae (id:=9) (.range 9) 8 [1,3,4,6,7] ?_|intro hc|refine xyZ ?_|refine aF ?_ ?_|refine zhw ?_|refine bT λg=> ?_|refine bQ λg=> ?_|refine zht λg=> ?_)
     exact⟨k - 1,_,by omega,⟨j+1,_,by omega,oQ,by have:=hlen;omega,rfl⟩,cG,rfl,ah⟩
  ·obtain rfl:j=l.length:=by omega
   rw[PE]at hm;have JZ:=EB w0 r;have Mr:∀g,Spec ucC w0 156 [.func (.func 203) #[] [ptr g 0].toArray,.func (.func 158) #[] #[]] (aK g 252 [.map (some r)]*mp zbW u32 r m) (λp:Value×(l:List Rec)×Ac l=>p.1) (λp=>pure' (p.2.1.Perm (m.map (·.1)))*(rows 28 3 Rec.cells p.1 p.2.2.l'*(aK g 252 [.map (some r)]*mp zbW u32 r m))):=λg=>
    Bj w0 iI (EA w0 m r g) (λxs hx=>by have:=hx.length_eq;simp at this;omega)
   repeat' (first|intro hc|refine xyZ ?_|refine aF ?_ ?_|refine cZ JZ λgk=> ?_|(refine ai (aa iI rfl (Mr gk) iI) rfl ?_;rintro⟨vk,l0,sk⟩;refine lH iI λhp=> ?_;dsimp only))
   have qZ:l0.Perm (m.map (·.1)):=hp;have Rl:sk.l'.Perm (m.map (·.1)):=sk.perm.trans qZ;have xh:=Hd hm Rl sk.fH;have tK:sk.l'.length<=100000:=by have:=Rl.length_eq;simp at this;omega
   refine aV (λk τ=>∃j:Nat,j+k=sk.l'.length/\τ=⟨[(36,.int .i64 (j:Int)),(35,.int .i64 (sk.l'.length:Int)),(34,vk),(7,vk),(3,.map (some r))],[],rows 28 3 Rec.cells vk (lL m (sk.l'.take j)++sk.l'.drop j)*(mp zbW u32 r m*(X*G))⟩) ?_ ?_
   ·exact⟨sk.l'.length,_,⟨0,by omega,rfl⟩,cG,rfl,by simp only[uai,ua0,lL,Xp,zF];exact ah⟩
   ·rintro k τ ⟨j,XM,rfl⟩;have zp:=Hc (m:=m) (ks:=sk.l') (j:=j) (by omega);rcases jP j sk.l'.length with bW|kQ
    ·obtain⟨x,hx⟩:∃z,sk.l'[j]? =some z:=⟨_,aX bW⟩
     have Mu:x∈m.map (·.1):=Rl.subset (jq hx);obtain⟨u,hu⟩:∃u,bX m x=some u:=by
      cases hg:bX m x with
      |none=>exact absurd Mu ((mG m x).1 hg)
      |some u=>exact⟨u,rfl⟩
     have l5:=JK (m:=m) hx;have jf:=Eb hx hu;have V0:j<(lL m (sk.l'.take j)++sk.l'.drop j).length:=by omega
     generalize lL m (sk.l'.take j)++sk.l'.drop j=cur at l5 jf zp V0 ⊢;repeat' (first|intro hc|refine xyZ ?_|refine aF ?_ ?_|refine zg0 ?_|refine bT λg=> ?_|refine zw0 λg=> ?_|(refine bL (dB (z:=x) {x with seq:=u} rfl rfl iI iI iI rfl (by assumption) rfl) ?_;intro g))
     exact⟨k - 1,_,by omega,⟨j+1,by omega,rfl⟩,cG,rfl,by rw[<-jf];exact ah⟩
    ·obtain rfl:j=sk.l'.length:=by omega
     rw[PE,List.drop_length,rL,xh];repeat' (first|intro hc|refine xyZ ?_|refine aF ?_ ?_)
     exact aC (.inl rfl) rfl rfl ⟨vk,rfl,ah⟩
end
section
open Go.RowKit
theorem L0 {P n w0 E D F c Q g self} {ls:List Ln} (h:∀r bs,bs.length=ls.length->WS P n w0 c Q ⟨E,D,dO g r self bs ls*F⟩):WS P n w0 c Q ⟨E,D,dR g self ls*F⟩:=by
 unfold dR;refine iU λx=> ?_;rw[ad];exact jR λhl=>h x.1 x.2 hl
def Rec.ln (r:Rec):Ln:=⟨r.addr,bS r.seq,0,0,false,0,[]⟩
def fe (self:UInt32) (ls:List Ln) (r:Rec):List Ln:=if r.own=false/\r.addr≠self/\ls.length<8 then j8 ls r.ln else ls
def iV (self:UInt32) (c:List Rec):List Ln:=c.foldl (fe self) []
theorem pJ (self c r):iV self (c++[r])=fe self (iV self c) r:=by simp[iV]
theorem C2 (ls:List Ln) (x):(j8 ls x).length<=ls.length+1:=by unfold j8;split<;>simp
theorem CL (self c):(iV self c).length<=8:=by
 induction c using eE with
 |nil=>simp[iV]
 |snoc c r ih=>
  rw[pJ];unfold fe;split
  ·rename_i h;have:=C2 (iV self c) r.ln;omega
  ·exact ih
attribute [local irreducible] WS LS OpQ y6 cn cv Spec bA aK
variable (w0:World)
theorem zH (self) (l:List Rec) (hl:l.length<=100000) (v X) [hX:eX w0 X v Rec 3 Rec.cells l]:
 Spec ucC w0 56 [u32 self,v] X (λg:Nat=>ptr g 0) (λg=>dR g self (iV self (cC l))*X):=by
 have QU:=qv w0 l hl v X
 refine eZ Tryz.func56 Tryz.ntmps56 λG=> ?_
 simp only[aN]
 repeat' (first|intro K hK|refine ax ?_|refine bT λg=> ?_|(refine ai (ew u32 gw) rfl ?_;intro r)|refine cZ QU λvc=> ?_)
 revert g;intro gt
 have Dy:=zad l
 generalize cC l=c at*
 refine aV (λk τ=>∃j:Nat,j+k=c.length/\τ=⟨[(15,.int .i64 (j:Int)),(14,.int .i64 (c.length:Int)),(13,vc),(5,ptr gt 0),(0,u32 self)],[],dR gt self (iV self (c.take j))*(rows 28 3 Rec.cells vc c*(X*G))⟩) ?_ ?_
 ·exact⟨c.length,_,⟨0,by omega,rfl⟩,cG,rfl,aq.dR (r:=r) (bs:=[]) rfl (by simp only[iV,uai,uah,dO,lmap,ubE,dN];exact ah)⟩
 ·rintro k τ ⟨j,ym,rfl⟩
  clear r
  refine L0 λr bs hlen=> ?_
  rcases jP j c.length with bW|kQ
  ·obtain⟨⟨zo,za,zs⟩,hz⟩:∃z,c[j]? =some z:=⟨_,aX bW⟩
   have gK:iV self (c.take (j+1))=fe self (iV self (c.take j)) ⟨zo,za,zs⟩:=by rw[AP,hz,Qf,pJ]
   have Rg:(lmap bs (iV self (c.take j))).length=(iV self (c.take j)).length:=by simp[lmap,hlen]
   have Zc:=CL self (c.take j)
   have XG:=mW w0 zs
   have qa:=zaf w0 gt r self bs (iV self (c.take j)) hlen (Rec.ln ⟨zo,za,zs⟩) rfl
   simp only[bM,Rec.ln,bS,Gw,NQ]at qa
   cases zo
   ·by_cases h1:za=self
    ·have jf:fe self (iV self (c.take j)) ⟨false,za,zs⟩=iV self (c.take j):=by simp[fe,h1]
     rw[jf]at gK
     simp only[dO]
     repeat' (first|intro hc|refine xyZ ?_|refine aF ?_ ?_|refine bT λg=> ?_|refine zw0 λg=> ?_)
     exact⟨k - 1,_,by omega,⟨j+1,by omega,rfl⟩,cG,rfl,by rw[gK];exact aq.dR (r:=r) (bs:=bs) hlen (by unfold dO;exact ah)⟩
    ·by_cases h2:(iV self (c.take j)).length<8
     ·have jf:fe self (iV self (c.take j)) ⟨false,za,zs⟩=j8 (iV self (c.take j)) (Rec.ln ⟨false,za,zs⟩):=by simp[fe,h1,h2]
      rw[jf]at gK
      simp only[dO]at qa ⊢
      repeat' (first|refine ae (id:=6) (.range 8) 7 [2,4] ?_|intro hc|refine xyZ ?_|refine aF ?_ ?_|refine bT λg=> ?_|refine zw0 λg=> ?_|refine cZ XG λu=> ?_|refine cZ qa λu=> ?_)
      exact⟨k - 1,_,by omega,⟨j+1,by omega,rfl⟩,cG,rfl,by rw[gK];simp only[Rec.ln,bS];exact ah⟩
     ·have jf:fe self (iV self (c.take j)) ⟨false,za,zs⟩=iV self (c.take j):=by simp[fe,h2]
      rw[jf]at gK
      simp only[dO]
      repeat' (first|intro hc|refine xyZ ?_|refine aF ?_ ?_|refine bT λg=> ?_|refine zw0 λg=> ?_)
      exact⟨k - 1,_,by omega,⟨j+1,by omega,rfl⟩,cG,rfl,by rw[gK];exact aq.dR (r:=r) (bs:=bs) hlen (by unfold dO;exact ah)⟩
   ·have jf:fe self (iV self (c.take j)) ⟨true,za,zs⟩=iV self (c.take j):=by simp[fe]
    rw[jf]at gK
    simp only[dO]
    repeat' (first|intro hc|refine xyZ ?_|refine aF ?_ ?_|refine bT λg=> ?_|refine zw0 λg=> ?_)
    exact⟨k - 1,_,by omega,⟨j+1,by omega,rfl⟩,cG,rfl,by rw[gK];exact aq.dR (r:=r) (bs:=bs) hlen (by unfold dO;exact ah)⟩
  ·obtain rfl:j=c.length:=by omega
   simp only[PE]at hlen ⊢
   repeat' (first|intro hc|refine xyZ ?_|refine aF ?_ ?_)
   exact aC (.inl rfl) rfl rfl ⟨gt,rfl,by rw[ad];exact aq.dR (r:=r) (bs:=bs) hlen (ah)⟩
end
end Go.Proofs.YtapoehkdnglahabGreat

/- A part. -/
import Derived.Test.YtapoehkdnglahabGreatMxe
set_option maxHeartbeats 0
set_option maxRecDepth 100000
set_option linter.all false
namespace Go.Proofs.YtapoehkdnglahabGreat
open Go.RowKit
variable (w0:World)
section
theorem zd5 {P:Program} {n:fT} {w0:World} {E:Env} {H:af} {d:Option Tmp} {ty:TypeId} {pos:String} {after:Array Edge} {gu:Option (Nat×Bool)} {x:Operand} {src t:TypeId} {m:Int} {ds:TypeDesc} (hx:E.ev x=some (.int .i64 m)) (hm:0<=m/\m<=60000) (hs:eN P src ds) (hd:eN P t (.int .u64)):OpQ P n w0 ⟨d,.convert src t x,ty,pos,after,gu⟩ E H (u64 (UInt64.ofNat m.toNat)):=
 kX hx hs hd (by
  rw[wrap_u64,uav]
  rw[YJ (by omega)]
  omega)
structure Z3.Ok (o:Z3):Prop where
 n: -9223372036854775808<=o.n/\o.n<=9223372036854775807
 text:o.kind=8->o.text.length<=100000
theorem Ms.zc3 {m:Ms} {o:Z3} (h:o.kind=4\/o.kind=5\/o.kind=6\/o.kind=7):m.do_ o=if 0<=o.a/\0<m.Zx.length then Ms.frame {m with mU:=[]} o (o.a.toNat % m.Zx.length)else {m with mU:=[]}:=by
 unfold Ms.do_;rw[jF h]
theorem Ms.zd0 {m:Ms} {o:Z3} (h:o.kind=3):m.do_ o=if 1<=o.n/\o.n<=60000 then Ms.tick {m with mU:=[]} (UInt64.ofNat o.n.toNat)else {m with mU:=[]}:=by
 unfold Ms.do_;rw[eQ (by omega),jF h]
theorem Ms.zdY {m:Ms} {o:Z3} (h:o.kind=1\/o.kind=2\/o.kind=8\/o.kind=9\/o.kind=10\/o.kind=11):m.do_ o=Ms.ZU {m with mU:=[]} o:=by
 unfold Ms.do_;rw[eQ (by omega),eQ (by omega),jF h]
theorem Ms.zdZ {m:Ms} {o:Z3} (h1:¬(o.kind=4\/o.kind=5\/o.kind=6\/o.kind=7)) (h2:¬o.kind=3) (h3:¬(o.kind=1\/o.kind=2\/o.kind=8\/o.kind=9\/o.kind=10\/o.kind=11)):m.do_ o={m with mU:=[]}:=by
 unfold Ms.do_;rw[eQ h1,eQ h2,eQ h3]
attribute [local irreducible] WS LS OpQ y6 cn cv Spec bA aK
theorem zdH (gm:Nat) (k:MH) (m:Ms) (el:List ES) (o:Z3) (c:Nat) (hf:m.zaQ c) (hc:c<=8500) (hn:m.now.toNat<=4611686018427387904) (hk:o.kind=1\/o.kind=2\/o.kind=8\/o.kind=9\/o.kind=10\/o.kind=11) (ho:o.Ok) (hev:m.mU=[]):Spec ucC w0 41 [ptr gm 0,opA o] (y8 gm k m el) (λ_:List ES=> .tuple #[]) (λnew=>y8 gm k (m.ZU o) (el++new)*e9 new):=by
 cases hb:m.bars o with
 |true=>rw[Ms.zbv hb];exact zcE w0 gm k m el o c hf hk hev hb
 |false=>
  rcases hk with h|h|h|h|h|h
  ·exact zdE w0 gm k m el o c hf hev hb h
  ·exact zdK w0 gm k m el o c hf hc hn hev hb h
  ·exact zdD w0 gm k m el o c hf (ho.text h) hev hb h
  ·exact zdJ w0 gm k m el o c hf hev hb h
  ·exact zec w0 gm k m el o c hf ho.n.2 hev hb h
  ·exact zdB w0 gm k m el o c hf hev hb h
theorem zeo (gm:Nat) (k:MH) (m:Ms) (o:Z3) (c:Nat) (hf:m.zaQ c) (hc:c<=8500) (hn:m.now.toNat+60000<=4611686018427387904) (ho:o.Ok):Spec ucC w0 19 [ptr gm 0,opA o] (zaj gm k m) (λx:Value×List ES=>x.1) (λx=>pure' (x.2.map (·.1)=(m.do_ o).mU)*(zaj gm k (m.do_ o)*(rows 68 7 evC x.1 x.2*e9 x.2))):=by
 obtain⟨kind,oa,ob,on_,oo,ot⟩:=o;have hon:=ho.n;simp only at hon;have zda:=hf.Zx.QG;have j7:Ms.zaQ {m with mU:=[]} c:=⟨hf.short,hf.sound,⟨hf.Zx.QG,hf.Zx.each⟩⟩
 refine eZ Tryz.func19 Tryz.ntmps19 λG=> ?_;unfold zaj;refine iU λy=> ?_;obtain⟨va,ve⟩:=y;have SY:∀Z,aq ((aK gm 108 (b6 m ⟨k.vs,k.bs,k.r,va,.slice none 0 0⟩)*(rows 115 1 Z4 k.vs k.bs*(mp u32 i64 k.r (zah 0 m.Zs)*(zav k.bs m.Zs*rows 114 3 flC va m.Zx))))*Z) (y8 gm k {m with mU:=[]} []*Z):=λZ=>by
  refine aq.msh va (.slice none 0 0) rfl ?_;simp only[zaA,b6];exact ah
 simp only[b6]at SY;rw[ad,ad,ad,ad];simp only[b6,opA,opC,aN];by_cases hF:kind=4\/kind=5\/kind=6\/kind=7
 ·have hdo:=Ms.zc3 (m:=m) (o:=⟨kind,oa,ob,on_,oo,ot⟩) hF;simp only at hdo;by_cases h1:0<=oa/\0<m.Zx.length
  ·rw[jF h1]at hdo;obtain⟨h1,h2⟩:=h1;have zfU:oa %(m.Zx.length:Int)=((oa.toNat % m.Zx.length:Nat):Int):=by
    rw[Int.natCast_emod,Int.toNat_of_nonneg h1]
   have h3:0<=oa/\0<(m.Zx.length:Int):=⟨h1,by omega⟩
   have h4:(0:Int)<(m.Zx.length:Int):=by omega
   have p1:=(zde w0 gm k {m with mU:=[]} [] ⟨kind,oa,ob,on_,oo,ot⟩ (oa.toNat % m.Zx.length) c j7 (ubT _ h2) ho.n rfl).conv (SY) (λ_ _=>aq.refl _);rw[<-zfU]at p1;simp only[opA,opC]at p1;generalize Ms.frame {m with mU:=[]} ⟨kind,oa,ob,on_,oo,ot⟩ (oa.toNat % m.Zx.length)=m2 at*
   repeat' (first|refine ae (id:=8) (.range 11) 10 [1,3,7,8] ?_|intro K hK|(intro hc;try exact aG)|refine xyZ ?_|refine aF ?_ ?_|((first|refine' LQ ?zh rfl ?_|refine' bP rfl rfl rfl ?zh ?_|refine' bk rfl rfl ?zh ?_);case zh=>intro F';first|exact bp rfl rfl iI (by first|assumption|omega|decide|rfl)|exact zeS rfl rfl (by omega))|((first|refine dn rfl rfl iI rfl ?_ ?_|refine dm rfl rfl iI rfl ?_ ?_|refine dU rfl rfl iI rfl ?_ ?_)<;>intro hc)|refine bT λg=> ?_|refine bQ λg=> ?_|refine cZ p1 λnew=> ?_)
   all_goals
    simp only[ad,aB,b5]
    unfold y8
    refine DD λy=> ?_
    rw[ad]
    refine lH iI λFW=> ?_
    rw[zF]at FW
    simp only[zF,zaA,b6,ad]
    repeat' (refine ax ?_)
    refine aC (.inl rfl) rfl rfl ⟨(y.2,new),rfl,?_⟩
    rw[qQ (by rw[hdo];exact FW),hdo]
    simp only[zaj,b6,aB,ad]
    refine aq.mX (y.1,y.2) ?_
    simp only[b6,ad]
    exact ah
  ·rw[eQ h1]at hdo;have h4:0<=oa->¬(0:Int)<(m.Zx.length:Int):=λh h'=>h1 ⟨h,by omega⟩;exact pak
 ·by_cases h3:kind=3
  ·have hdo:=Ms.zd0 (m:=m) (o:=⟨kind,oa,ob,on_,oo,ot⟩) h3;simp only at hdo;by_cases h1:1<=on_/\on_<=60000
   ·rw[jF h1]at hdo;obtain⟨h1,h2⟩:=h1;have p1:=(zdf w0 gm k {m with mU:=[]} [] (UInt64.ofNat on_.toNat) c j7 hc (by
     rw[uaO]
     refine WA (ub8 _ _) ?_
     have:(UInt64.ofNat on_.toNat).toNat<=60000:=by
      rw[uav];exact WA (ub8 _ _) (by omega)
     show m.now.toNat+_<=_
     omega) rfl).conv (SY) (λ_ _=>aq.refl _)
    generalize Ms.tick {m with mU:=[]} (UInt64.ofNat on_.toNat)=m2 at*
    repeat' (first|intro K hK|intro hc|refine xyZ ?_|refine aF ?_ ?_|refine zw2 ?_|refine bT λg=> ?_|refine bQ λg=> ?_|(refine' LQ ?zh rfl ?_;(case zh=>intro F';exact zd5 rfl (by omega) iI iI))|refine cZ p1 λnew=> ?_)
    simp only[ad,aB,b5];unfold y8;refine DD λy=> ?_;rw[ad];refine lH iI λFW=> ?_;rw[zF]at FW;simp only[zF,zaA,b6,ad];repeat' (refine ax ?_)
    refine aC (.inl rfl) rfl rfl ⟨(y.2,new),rfl,?_⟩;rw[qQ (by rw[hdo];exact FW),hdo];simp only[zaj,b6,aB,ad];refine aq.mX (y.1,y.2) ?_;simp only[b6,ad];exact ah
   ·rw[eQ h1]at hdo;exact pak
  ·by_cases hN:kind=1\/kind=2\/kind=8\/kind=9\/kind=10\/kind=11
   ·have hdo:=Ms.zdY (m:=m) (o:=⟨kind,oa,ob,on_,oo,ot⟩) hN;have p1:=(zdH w0 gm k {m with mU:=[]} [] ⟨kind,oa,ob,on_,oo,ot⟩ c j7 hc (by show m.now.toNat<=_;omega) hN ho rfl).conv (SY) (λ_ _=>aq.refl _);simp only[opA,opC]at p1;generalize Ms.ZU {m with mU:=[]} ⟨kind,oa,ob,on_,oo,ot⟩=m2 at*
    repeat' (first|intro K hK|(intro hc;try exact aG)|refine xyZ ?_|refine aF ?_ ?_|refine zw2 ?_|((first|refine dn rfl rfl iI rfl ?_ ?_|refine dm rfl rfl iI rfl ?_ ?_|refine dU rfl rfl iI rfl ?_ ?_)<;>intro hc)|refine bT λg=> ?_|refine bQ λg=> ?_|refine cZ p1 λnew=> ?_)
    all_goals
     simp only[ad,aB,b5]
     unfold y8
     refine DD λy=> ?_
     rw[ad]
     refine lH iI λFW=> ?_
     rw[zF]at FW
     simp only[zF,zaA,b6,ad]
     repeat' (refine ax ?_)
     refine aC (.inl rfl) rfl rfl ⟨(y.2,new),rfl,?_⟩
     rw[qQ (by rw[hdo];exact FW),hdo]
     simp only[zaj,b6,aB,ad]
     refine aq.mX (y.1,y.2) ?_
     simp only[b6,ad]
     exact ah
   ·have hdo:=Ms.zdZ (m:=m) (o:=⟨kind,oa,ob,on_,oo,ot⟩) hF h3 hN;repeat' (first|intro K hK|intro hc|refine xyZ ?_|refine aF ?_ ?_|refine zw4 ?_|refine bT λg=> ?_|refine bQ λg=> ?_)
    refine aC (.inl rfl) rfl rfl ⟨(.slice none 0 0,[]),rfl,?_⟩;rw[qQ (by rw[hdo];rfl),hdo];simp only[zaj,b6,e9,aB,ad];refine aq.mX (va,.slice none 0 0) ?_;simp only[b6,ad];exact ah
end
section
section
variable {P:Program} {n:fT} {w0:World} {E:Env} {D:List Deferred} {F:af} {c:Code} {Q:Exit->St->Prop} {g:Nat} {k:MH} {m:Ms}
theorem zco (h:∀va ve,k.bs.length=m.Zs.length->WS P n w0 c Q ⟨E,D,aK g 108 (b6 m ⟨k.vs,k.bs,k.r,va,ve⟩)*(rows 115 1 Z4 k.vs k.bs*(mp u32 i64 k.r (zah 0 m.Zs)*(zav k.bs m.Zs*(rows 114 3 flC va m.Zx*F))))⟩):WS P n w0 c Q ⟨E,D,zaj g k m*F⟩:=by
 unfold zaj;refine iU λy=> ?_;have h2:=h y.1 y.2;by_cases hl:k.bs.length=m.Zs.length
 ·rw[ad,ad,ad,ad];exact h2 hl
 ·intro a w gd;exfalso;have e:(aK g 108 (b6 m ⟨k.vs,k.bs,k.r,y.1,y.2⟩)*(rows 115 1 Z4 k.vs k.bs*(mp u32 i64 k.r (zah 0 m.Zs)*(zav k.bs m.Zs*rows 114 3 flC y.1 m.Zx))))*F=pure' (k.bs.length=m.Zs.length)*(aK g 108 (b6 m ⟨k.vs,k.bs,k.r,y.1,y.2⟩)*(rows 115 1 Z4 k.vs k.bs*(mp u32 i64 k.r (zah 0 m.Zs)*(qY zaT k.bs m.Zs*(rows 114 3 flC y.1 m.Zx*F))))):=by
   unfold zav;ac_rfl
  exact hl (gd.sat.cast e).pure.1
theorem aq.zaj {H} (va ve) (e:aq H (aK g 108 (b6 m ⟨k.vs,k.bs,k.r,va,ve⟩)*(rows 115 1 Z4 k.vs k.bs*(mp u32 i64 k.r (zah 0 m.Zs)*(zav k.bs m.Zs*(rows 114 3 flC va m.Zx*F)))))):aq H (zaj g k m*F):=by
 unfold Go.Proofs.YtapoehkdnglahabGreat.zaj;refine aq.mX (p:=λx:Value×Value=>aK g 108 (b6 m ⟨k.vs,k.bs,k.r,x.1,x.2⟩)*(rows 115 1 Z4 k.vs k.bs*(mp u32 i64 k.r (zah 0 m.Zs)*(zav k.bs m.Zs*rows 114 3 flC x.1 m.Zx)))) (va,ve) ?_;rw[ad,ad,ad,ad];exact e
theorem zet {b s H} (gn vj) (e:aq H (y7 b gn vj s*F)):aq H (zaT b s*F):=aq.mX (p:=λx:Nat×Value=>y7 b x.1 x.2 s) (gn,vj) e
theorem zcp {va ve b s R} (e:zav k.bs m.Zs=zaT b s*R) (h:∀gn vj,WS P n w0 c Q ⟨E,D,y7 b gn vj s*(aK g 108 (b6 m ⟨k.vs,k.bs,k.r,va,ve⟩)*(rows 115 1 Z4 k.vs k.bs*(mp u32 i64 k.r (zah 0 m.Zs)*(R*(rows 114 3 flC va m.Zx*F)))))⟩):WS P n w0 c Q ⟨E,D,aK g 108 (b6 m ⟨k.vs,k.bs,k.r,va,ve⟩)*(rows 115 1 Z4 k.vs k.bs*(mp u32 i64 k.r (zah 0 m.Zs)*(zav k.bs m.Zs*(rows 114 3 flC va m.Zx*F))))⟩:=by
 have e2:aK g 108 (b6 m ⟨k.vs,k.bs,k.r,va,ve⟩)*(rows 115 1 Z4 k.vs k.bs*(mp u32 i64 k.r (zah 0 m.Zs)*(zaT b s*R*(rows 114 3 flC va m.Zx*F))))=(hex λx:Nat×Value=>y7 b x.1 x.2 s)*(aK g 108 (b6 m ⟨k.vs,k.bs,k.r,va,ve⟩)*(rows 115 1 Z4 k.vs k.bs*(mp u32 i64 k.r (zah 0 m.Zs)*(R*(rows 114 3 flC va m.Zx*F))))):=by
  show _=zaT b s*_;ac_rfl
 rw[e,e2];exact iU λx=>h x.1 x.2
theorem zb1 {H va ve b s R} (gn vj) (e:zav k.bs m.Zs=zaT b s*R) (h:aq H (y7 b gn vj s*(aK g 108 (b6 m ⟨k.vs,k.bs,k.r,va,ve⟩)*(rows 115 1 Z4 k.vs k.bs*(mp u32 i64 k.r (zah 0 m.Zs)*(R*(rows 114 3 flC va m.Zx*F))))))):aq H (zaj g k m*F):=by
 refine aq.zaj va ve ?_;rw[e];have e2:aK g 108 (b6 m ⟨k.vs,k.bs,k.r,va,ve⟩)*(rows 115 1 Z4 k.vs k.bs*(mp u32 i64 k.r (zah 0 m.Zs)*(zaT b s*R*(rows 114 3 flC va m.Zx*F))))=zaT b s*(aK g 108 (b6 m ⟨k.vs,k.bs,k.r,va,ve⟩)*(rows 115 1 Z4 k.vs k.bs*(mp u32 i64 k.r (zah 0 m.Zs)*(R*(rows 114 3 flC va m.Zx*F))))):=by ac_rfl
 rw[e2];exact zet gn vj h
end
theorem Ms.zbm (m:Ms) (i):(m.at_ i=none/\(i<0\/(m.Zs.length:Int)<=i))\/∃(j:Nat) (s:Zr),i=(j:Int)/\m.Zs[j]? =some s/\m.at_ i=some s:=by
 by_cases h:i<0\/(m.Zs.length:Int)<=i
 ·exact .inl ⟨Ms.zeU h,h⟩
 ·obtain⟨j,rfl⟩:∃j:Nat,i=(j:Int):=⟨i.toNat,by omega⟩
  exact .inr ⟨j,_,rfl,aX (by omega),(m.zaw j).trans (aX (by omega))⟩
attribute [local irreducible] WS LS OpQ y6 cn cv Spec bA aK
theorem zeb (gm k) (m:Ms) (hf:m.Zx.length<=48):Spec ucC w0 20 [ptr gm 0] (zaj gm k m) (λv:Value=>v) (λv=>zaj gm k m*rows 114 3 flC v m.Zx):=by
 refine eZ Tryz.func20 Tryz.ntmps20 λG=> ?_;refine zco λva ve yl=> ?_;have p1:=zc2 w0 va m.Zx (by omega);simp only[b6,aN];repeat' (first|intro K hK|refine ax ?_|refine cZ p1 λv2=> ?_)
 refine aC (.inl rfl) rfl rfl ⟨v2,rfl,?_⟩;rw[ad (zaj _ _ _)];refine aq.zaj va ve ?_;simp only[b6];exact ah
theorem zdI (gm k) (m:Ms) (i) (h6:m.Zs.length<=6):Spec ucC w0 22 [ptr gm 0,.int .i64 i] (zaj gm k m) (λx:Unit=> .bool ((m.at_ i).bind (·.node)).isSome) (λx=>zaj gm k m*emp):=by
 refine eZ Tryz.func22 Tryz.ntmps22 λG=> ?_;refine zco λva ve yl=> ?_;simp only[aN];rcases m.zbm i with ⟨l5,hi⟩|⟨j,s,rfl,hs,l5⟩
 ·have p1:=zaD w0 gm m ⟨k.vs,k.bs,k.r,va,ve⟩ i (by show i<0\/(k.bs.length:Int)<=i;omega) (by show k.bs.length<=6;omega);rw[l5];simp only[b6]at p1 ⊢;repeat' (first|intro hc|refine xyZ ?_|refine aF ?_ ?_|refine zw1 ?_|refine cZ p1 λu1=> ?_)
  refine aC (.inl rfl) rfl rfl ⟨(),rfl,?_⟩;rw[ad (zaj _ _ _)];refine aq.zaj va ve ?_;simp only[b6,aB];exact ah
 ·obtain⟨b,hb⟩:∃b,k.bs[j]? =some b:=⟨_,aX (by have:=(az.1 hs).1;omega)⟩
  have p1:=r9 w0 gm m ⟨k.vs,k.bs,k.r,va,ve⟩ j b hb (by show k.bs.length<=6;omega);obtain⟨R,e1,e2⟩:=zau yl hb hs;rw[l5];refine zcp e1 λgn vj=> ?_;simp only[b6]at p1 ⊢;have xh:=fun(H Z:af)=>zb1 (g:=gm) (k:=k) (m:=m) (H:=H) (F:=Z) (va:=va) (ve:=ve) gn vj e1;simp only[y7,zan];simp only[b6,y7,zan]at xh;simp only[G6];cases ht:s.node with
  |none=>
   simp only[ht,jo,zaB]at xh ⊢;repeat' (first|intro hc|refine xyZ ?_|refine aF ?_ ?_|refine zw1 ?_|refine cZ p1 λu1=> ?_)
   refine aC (.inl rfl) rfl rfl ⟨(),rfl,?_⟩;rw[ad (zaj _ _ _),aB];refine xh _ _ ?_;exact ah
  |some t=>
   simp only[ht,jo,zaB]at xh ⊢;repeat' (first|intro hc|refine xyZ ?_|refine aF ?_ ?_|refine zw1 ?_|refine cZ p1 λu1=> ?_)
   refine aC (.inl rfl) rfl rfl ⟨(),rfl,?_⟩;rw[ad (zaj _ _ _),aB];refine xh _ _ ?_;exact ah
theorem zcD (gm k) (m:Ms) (i) (h6:m.Zs.length<=6) (hj:∀(j:Nat) s,m.Zs[j]? =some s->s.ay.length<=10000):Spec ucC w0 53 [ptr gm 0,.int .i64 i] (zaj gm k m) (λx:Value=>x) (λx=>zaj gm k m*rows 5 1 bU x (((m.at_ i).map (·.ay)).getD [])):=by
 refine eZ Tryz.func53 Tryz.ntmps53 λG=> ?_;refine zco λva ve yl=> ?_;simp only[aN];rcases m.zbm i with ⟨l5,hi⟩|⟨j,s,rfl,hs,l5⟩
 ·have p1:=zaD w0 gm m ⟨k.vs,k.bs,k.r,va,ve⟩ i (by show i<0\/(k.bs.length:Int)<=i;omega) (by show k.bs.length<=6;omega);rw[l5];simp only[b6]at p1 ⊢;repeat' (first|intro hc|refine xyZ ?_|refine aF ?_ ?_|refine zw1 ?_|refine cZ p1 λu1=> ?_)
  refine aC (.inl rfl) rfl rfl ⟨.slice none 0 0,rfl,?_⟩;rw[ad (zaj _ _ _)];refine aq.zaj va ve ?_;simp only[b6,uag,Ju];exact ah
 ·obtain⟨b,hb⟩:∃b,k.bs[j]? =some b:=⟨_,aX (by have:=(az.1 hs).1;omega)⟩
  have p1:=r9 w0 gm m ⟨k.vs,k.bs,k.r,va,ve⟩ j b hb (by show k.bs.length<=6;omega);obtain⟨R,e1,e2⟩:=zau yl hb hs;rw[l5];refine zcp e1 λgn vj=> ?_;simp only[b6]at p1 ⊢;have xh:=fun(H Z:af)=>zb1 (g:=gm) (k:=k) (m:=m) (H:=H) (F:=Z) (va:=va) (ve:=ve) gn vj e1;simp only[y7,zan];simp only[b6,y7,zan]at xh;simp only[EL,CV];have p2:=zc1 w0 vj s.ay (hj j s hs);repeat' (first|intro hc|refine xyZ ?_|refine aF ?_ ?_|refine zw1 ?_|refine cZ p1 λu1=> ?_|refine cZ p2 λv2=> ?_)
  refine aC (.inl rfl) rfl rfl ⟨v2,rfl,?_⟩;rw[ad (zaj _ _ _)];refine xh _ _ ?_;exact ah
theorem zcF (gm k) (m:Ms) (i) (h6:m.Zs.length<=6) (ok:∀(j:Nat) s t,m.Zs[j]? =some s->s.node=some t->aW t.ls):Spec ucC w0 21 [ptr gm 0,.int .i64 i] (zaj gm k m) (λx:Value×List da=>x.1) (λx=>zaj gm k m*(pure' (x.2.map (·.1)=((((m.at_ i).bind (·.node)).map λt:Nd=>cE t.ls).getD []))*(rows 53 7 bJ x.1 x.2*cQ x.2))):=by
 refine eZ Tryz.func21 Tryz.ntmps21 λG=> ?_;refine zco λva ve yl=> ?_;simp only[aN];rcases m.zbm i with ⟨l5,hi⟩|⟨j,s,rfl,hs,l5⟩
 ·have p1:=zaD w0 gm m ⟨k.vs,k.bs,k.r,va,ve⟩ i (by show i<0\/(k.bs.length:Int)<=i;omega) (by show k.bs.length<=6;omega);rw[l5];simp only[b6]at p1 ⊢;repeat' (first|intro hc|refine xyZ ?_|refine aF ?_ ?_|refine zw1 ?_|refine cZ p1 λu1=> ?_)
  refine aC (.inl rfl) rfl rfl ⟨(.slice none 0 0,[]),rfl,?_⟩;rw[ad (zaj _ _ _)];refine aq.zaj va ve ?_;rw[qQ (by rfl)];simp only[b6,cQ,aB];exact ah
 ·obtain⟨b,hb⟩:∃b,k.bs[j]? =some b:=⟨_,aX (by have:=(az.1 hs).1;omega)⟩
  have p1:=r9 w0 gm m ⟨k.vs,k.bs,k.r,va,ve⟩ j b hb (by show k.bs.length<=6;omega);obtain⟨R,e1,e2⟩:=zau yl hb hs;rw[l5];refine zcp e1 λgn vj=> ?_;simp only[b6]at p1 ⊢;have xh:=fun(H Z:af)=>zb1 (g:=gm) (k:=k) (m:=m) (H:=H) (F:=Z) (va:=va) (ve:=ve) gn vj e1;simp only[y7,zan];simp only[b6,y7,zan]at xh;simp only[G6];cases ht:s.node with
  |none=>
   simp only[ht,jo,zaB]at xh ⊢;repeat' (first|intro hc|refine xyZ ?_|refine aF ?_ ?_|refine zw1 ?_|refine cZ p1 λu1=> ?_)
   refine aC (.inl rfl) rfl rfl ⟨(.slice none 0 0,[]),rfl,?_⟩;rw[ad (zaj _ _ _)];refine xh _ _ ?_;rw[qQ (by rfl)];simp only[cQ,aB];exact ah
  |some t=>
   have p2:=AY w0 gn t (ok j s t hs ht);simp only[ht,jo,zaB]at xh ⊢;repeat' (first|intro hc|refine xyZ ?_|refine aF ?_ ?_|refine zw1 ?_|refine cZ p1 λu1=> ?_|refine cZ p2 λx2=> ?_)
   refine aC (.inl rfl) rfl rfl ⟨x2,rfl,?_⟩;rw[ad (zaj _ _ _)];refine xh _ _ ?_;simp only[EL,CV];exact ah
end
section
instance zfw:Zero ucC 108 (.agg #[.slice none 0 0,.map none,.bool false,.bool false,.bool false,.bool false,.bool false,.bool false,.bool false,.bool false,.bool false,.bool false,.bool false,.bool false,.bool false,.bool false,.bool false,.bool false,.bool false,.bool false,.bool false,.bool false,.bool false,.bool false,.bool false,.bool false,.bool false,.bool false,.bool false,.bool false,.bool false,.bool false,.bool false,.bool false,.bool false,.bool false,.bool false,.bool false,.slice none 0 0,.int .u64 0,.slice none 0 0]) [.slice none 0 0,.map none,.bool false,.bool false,.bool false,.bool false,.bool false,.bool false,.bool false,.bool false,.bool false,.bool false,.bool false,.bool false,.bool false,.bool false,.bool false,.bool false,.bool false,.bool false,.bool false,.bool false,.bool false,.bool false,.bool false,.bool false,.bool false,.bool false,.bool false,.bool false,.bool false,.bool false,.bool false,.bool false,.bool false,.bool false,.bool false,.bool false,.slice none 0 0,.int .u64 0,.slice none 0 0]:=⟨by kernel_rfl,rfl⟩
theorem zfc {P:Program} {n:fT} {w0:World} {E:Env} {H:af} {d:Option Tmp} {ty:TypeId} {pos:String} {after:Array Edge} {gu:Option (Nat×Bool)} {x:Operand} {src dst e:TypeId} {l:cP} (hx:E.ev x=some (aZ l)) (hs:eN P src .string) (hd:eN P dst (.slice e)) (he:eN P e (.int .u8)) (hn:l.length<=1000000):cn P n w0 ⟨d,.convert src dst x,ty,pos,after,gu⟩ E H (λy:SV=>cT y) (λy=>rows e 1 bU (cT y) l*H):=by
 refine cn.mk' (pre:=emp) (post:=λy:SV=>rows e 1 bU (cT y) l) ?_ aB.symm;intro G a w K Q s eI hK;rw[aB]at eI;obtain⟨pre,zK,F,iZ,hH,hp⟩:=vB (H:=G) (P:=P) (n:=n) (w0:=w0) (d:=d) (ty:=ty) (pos:=pos) (after:=after) (gu:=gu) hx hs hd he hn;refine iZ F a w K Q s (eI.cast hH) λx w' DA=> ?_;have h2:=DA.cast (hp x).symm;obtain⟨A,c,rfl⟩:=gz h2;exact hK (A,l.length,c) w' h2
theorem zcT (a):(ZT a).Sound 0:=by
 have h:Zr.ZC ⟨a,some (Nd.new a [] 0),[],0,false⟩ (Nd.gZ a [] 0) 0:=⟨⟨_,rfl,Nd.xL _ _ _,Nd.CM _ _ _,Nd.zed _ _ _,Nd.Kx _ _ _⟩,by simp,by simp⟩
 have hw:=h.wrote;have e:Zr.write ⟨a,some (Nd.new a [] 0),[],0,false⟩ (Nd.gZ a [] 0)=ZT a:=by
  unfold Zr.write ZT;split<;>simp
 rw[e]at hw;exact hw
theorem zcK (s:Zr):∀(Zs:List Zr) (k:Nat),Zv Zs s.addr=none->bY (zah k Zs) s.addr ((k+Zs.length:Nat):Int)=zah k (Zs++[s])
 |[],k,_=>rfl
 |x::r,k,h=>by
  simp only[Zv]at h;by_cases e:x.addr=s.addr
  ·rw[jF e]at h;cases h
  ·rw[eQ e]at h;have h':Zv r s.addr=none:=by
    cases hr:Zv r s.addr with
    |none=>rfl
    |some j=>rw[hr]at h;cases h
   have ih:=zcK s r (k+1) h';simp only[zah,YW,ni,eQ e,Pr];rw[<-ih];congr 2;omega
theorem zcg {l:List UInt32} {a} (h:a∉l):Zv (l.map ZT) a=none:=by
 induction l with
 |nil=>rfl
 |cons x r ih=>
  simp only[Hh,Zv];rw[eQ (λe=>h (by rw[<-e];exact WY)),ih (λh'=>h (G4 _ h'))];rfl
theorem zej {l:List UInt32} {a} (h:a∈l):∃w,bX (zah 0 (l.map ZT)) a=some w:=by
 rw[zbD];have:∃w,Zv (l.map ZT) a=some w:=by
  induction l with
  |nil=>cases h
  |cons x r ih=>
   simp only[Hh,Zv];by_cases e:(ZT x).addr=a
   ·rw[jF e];exact⟨_,rfl⟩
   ·rw[eQ e];rcases JA.1 h with h|h
    ·exact absurd h.symm e
    ·obtain⟨w,hw⟩:=ih h;exact⟨_,by rw[hw];rfl⟩
 obtain⟨w,hw⟩:=this;exact⟨_,by rw[hw];rfl⟩
theorem zdV {bs:List Nat} {Zs:List Zr} (b s) (h:bs.length=Zs.length):zav (bs++[b]) (Zs++[s])=zaT b s*zav bs Zs:=by
 rw[zbe (by simp[h]),zbe h,um b s h]
attribute [local irreducible] WS LS OpQ y6 cn cv Spec bA aK
theorem zdF (l:List UInt32) (hl:0<l.length/\l.length<=6) (j) (hj:j<=l.length) (h0:∀a∈l.take j,a≠0) (hn:(l.take j).Nodup) (zeX:∀a,l[j]? =some a->a=0\/a∈l.take j) (v X) [hX:eX w0 X v UInt32 1 cA l]:
 Spec ucC w0 26 [v] X (λx:Nat×MH=>if j=l.length then .tuple #[ptr x.1 0,.int .i64 0]else .tuple #[.pointer none,.int .i64 5]) (λx=>if j=l.length then zaj x.1 x.2 (Ms.new l)*X else X):=by
 refine eZ Tryz.func26 Tryz.ntmps26 λG=> ?_
 simp only[aN]
 have h1:¬(l.length:Int)=0:=by omega
 have h2:¬(6:Int)<(l.length:Int):=by omega
 repeat' (first|refine ab λK hK=> ?_|refine ax ?_|(refine aF ?_ ?_<;>intro hc<;>try exact aG)|(refine ai (ew u32 i64) rfl ?_;intro r)|(refine ai (rj rfl) rfl ?_;intro gm))
 refine aV (λkk τ=>∃(q:Nat) (vs:Value) (bs:List Nat),q+kk=l.length/\q<=j/\bs.length=q/\τ=⟨[(24,.int .i64 (q:Int)),(23,.int .i64 (l.length:Int)),(22,v),(4,ptr gm 0),(0,v)],[],aK gm 108 (b6 (Ms.new []) ⟨vs,bs,r,.slice none 0 0,.slice none 0 0⟩)*(rows 115 1 Z4 vs bs*(mp u32 i64 r (zah 0 ((l.take q).map ZT))*(zav bs ((l.take q).map ZT)*(X*G))))⟩) ?_ ?_
 ·refine⟨l.length,_,⟨0,.slice none 0 0,[],by omega,by omega,rfl,rfl⟩,cG,rfl,?_⟩
  rw[uai,Xp,zbe rfl]
  show aq (aK gm 108 (b6 (Ms.new []) ⟨.slice none 0 0,[],r,.slice none 0 0,.slice none 0 0⟩)*(mp u32 i64 r []*(X*G))) (aK gm 108 (b6 (Ms.new []) ⟨.slice none 0 0,[],r,.slice none 0 0,.slice none 0 0⟩)*(rows 115 1 Z4 (.slice none 0 0) []*(mp u32 i64 r []*(emp*(X*G)))))
  rw[aB]
  exact ah
 ·rintro kk τ ⟨q,vs,bs,hqk,hqj,hbq,rfl⟩
  rcases jP q j with zem|zfQ
  ·have bW:q<l.length:=by omega
   obtain⟨a,ha⟩:∃a,l[q]? =some a:=⟨_,aX bW⟩
   have xk:a∈l.take j:=jq (i:=q) (by rw[G3,jF zem,ha])
   have ha0:¬a=0:=h0 a xk
   have Es:a∉l.take q:=by
    intro h;have hd:a∈(l.take j).drop q:=jq (i:=0) (by rw[Lf,uay,G3,jF zem,ha]);have AL:(l.take q++(l.take j).drop q).Nodup:=by
     have e:l.take q=(l.take j).take q:=by rw[ubd,ubs hqj]
     rw[e,Jt];exact hn
    exact(Yw.1 AL).2.2 a h a hd rfl
   have zd1:Zv ((l.take q).map ZT) (ZT a).addr=none:=zcg Es
   have T8:bX (zah 0 ((l.take q).map ZT)) a=none:=by rw[zbD];show(Zv _ (ZT a).addr).map _=none;rw[zd1];rfl
   have zeN:=zcK (ZT a) ((l.take q).map ZT) 0 zd1
   rw[show((0+((l.take q).map ZT).length:Nat):Int)=(q:Int) by simp;omega]at zeN
   have gK:(l.take (q+1)).map ZT=(l.take q).map ZT++[ZT a]:=by
    rw[AP,ha];simp
   have zfg:bs.length=((l.take q).map ZT).length:=by rw[hbq];simp;omega
   have Wc:(q:Int)<(l.length:Int):=by omega
   have zfN:bs.length<=6:=by omega
   have Ng:(Nd.gZ a [] 0).ay.length<=1000000:=by have:=(zcT a).Yt;show(ZT a).ay.length<=_;omega
   have p4:=(HH w0 a [] (by simp) 0 (.slice none 0 0) (rows 5 1 bU (.slice none 0 0) [])).ze4 (λy:Nat×SV×SV×SV=>(y.1,svV y.2)) (λx=>(x.1,zcA x.2)) (λx w F hx=>by rw[ad,ad,aM]at hx;show(x.1,svV (zcA x.2))=x;rw[zbJ hx])
   have p5:=p4.conv (X':=emp) (λZ=>by rw[aB];exact aq.nil _ _ _ _ _) (λ_ _=>aq.refl _)
   clear p4
   have Uw:ZT a=⟨a,some (Nd.new a [] 0),(Nd.gZ a [] 0).ay,0,false⟩:=rfl
   generalize Nd.new a [] 0=t2 at*
   generalize Nd.gZ a [] 0=o2 at*
   simp only[fp,svV,cT]at p5
   simp only[b6]
   repeat' (first|refine ab λK hK=> ?_|refine ax ?_|(refine aF ?_ ?_<;>intro hc<;>try exact aG)|((first|refine' LQ ?zh rfl ?_|refine' bP rfl rfl rfl ?zh ?_|refine' bk rfl rfl ?zh ?_);case zh=>intro F';exact iJ rfl rfl iI iI iI iI iI (by assumption))|((first|refine' ai ?zh rfl ?_|refine' aD ?zh rfl rfl rfl ?_);(case zh=>exact ph iI);intro g)|refine bQ λg=> ?_|refine zgF λg=> ?_|refine cZ p5 λx5=> ?_|refine ae (id:=12) (.range 17) 13 [4,8] ?_|(refine aD (zfc rfl iI iI iI Ng) rfl rfl rfl ?_;intro vb)|(refine aD (rj rfl) rfl rfl rfl ?_;intro bx)|(refine aD (au Z4 [bx] iI iI iI rfl rfl rfl rfl rfl iI rfl rfl rfl) rfl rfl rfl ?_;intro vx)|(refine aD (aR rfl rfl iI iI rfl iI iI zeq (by first|omega|(simp[al]<;>omega)) rfl) rfl rfl rfl ?_;intro va))
   refine⟨kk - 1,_,by omega,⟨q+1,va,bs++[bx],by omega,by omega,by simp[hbq],rfl⟩,cG,rfl,?_⟩
   rw[gK,zdV bx (ZT a) zfg,<-zeN,ad (zaT _ _)]
   simp only[ad,aB,b5]
   refine aq.trans (F:=y7 bx x5.1 (cT vb) (ZT a)*(aK gm 108 (b6 (Ms.new []) ⟨va,bs++[bx],r,.slice none 0 0,.slice none 0 0⟩)*(rows 115 1 Z4 va (bs++[bx])*(mp u32 i64 r (bY (zah 0 ((l.take q).map ZT)) a (q:Int))*(zav bs ((l.take q).map ZT)*(X*G)))))) (by rw[Uw];simp only[y7,zan,jo,zaB,b6,ad];exact ah) ?_
   refine aq.trans (zet (F:=aK gm 108 (b6 (Ms.new []) ⟨va,bs++[bx],r,.slice none 0 0,.slice none 0 0⟩)*(rows 115 1 Z4 va (bs++[bx])*(mp u32 i64 r (bY (zah 0 ((l.take q).map ZT)) a (q:Int))*(zav bs ((l.take q).map ZT)*(X*G))))) x5.1 (cT vb) (aq.refl _)) ?_
   show aq _ (aK gm 108 (b6 (Ms.new []) ⟨va,bs++[bx],r,.slice none 0 0,.slice none 0 0⟩)*(rows 115 1 Z4 va (bs++[bx])*(mp u32 i64 r (bY (zah 0 ((l.take q).map ZT)) a (q:Int))*(zaT bx (ZT a)*(zav bs ((l.take q).map ZT)*(X*G))))))
   exact ah
  ·obtain rfl:q=j:=by omega
   clear zfQ hqj
   by_cases Ng:q=l.length
   ·subst Ng
    simp only[YZ]
    have Wc:¬(l.length:Int)<(l.length:Int):=by omega
    repeat' (first|refine ab λK hK=> ?_|refine ax ?_|(refine aF ?_ ?_<;>intro hc<;>try exact aG))
    refine de (.inl rfl) rfl rfl rfl ⟨(gm,⟨vs,bs,r,.slice none 0 0,.slice none 0 0⟩),by rw[jF rfl],?_⟩
    rw[jF rfl,PE,ad (zaj _ _ _)]
    refine aq.zaj (.slice none 0 0) (.slice none 0 0) ?_
    show aq _ (aK gm 108 (b6 (Ms.new []) ⟨vs,bs,r,.slice none 0 0,.slice none 0 0⟩)*(rows 115 1 Z4 vs bs*(mp u32 i64 r (zah 0 (l.map ZT))*(zav bs (l.map ZT)*(rows 114 3 flC (.slice none 0 0) []*(X*G))))))
    exact ah
   ·have bW:q<l.length:=by omega
    obtain⟨a,ha⟩:∃a,l[q]? =some a:=⟨_,aX bW⟩
    have Wc:(q:Int)<(l.length:Int):=by omega
    simp only[b6]
    rcases Classical.em (a∈l.take q)with XK|XK
    ·obtain⟨w,T8⟩:=zej XK
     repeat' (first|refine ab λK hK=> ?_|refine ax ?_|(refine aF ?_ ?_<;>intro hc<;>try exact aG)|refine zgh ?_)
     exact de (.inl rfl) rfl rfl rfl ⟨(gm,⟨vs,bs,r,.slice none 0 0,.slice none 0 0⟩),by rw[eQ Ng],by rw[eQ Ng];exact ah⟩
    ·have ha0:a=0:=(zeX a ha).resolve_right XK
     have zd1:Zv ((l.take q).map ZT) (ZT a).addr=none:=zcg XK
     have T8:bX (zah 0 ((l.take q).map ZT)) a=none:=by rw[zbD];show(Zv _ (ZT a).addr).map _=none;rw[zd1];rfl
     repeat' (first|refine ab λK hK=> ?_|refine ax ?_|(refine aF ?_ ?_<;>intro hc<;>try exact aG)|refine zgg ?_)
     exact de (.inl rfl) rfl rfl rfl ⟨(gm,⟨vs,bs,r,.slice none 0 0,.slice none 0 0⟩),by rw[eQ Ng],by rw[eQ Ng];exact ah⟩
end
theorem Ms.zaQ.mono {m:Ms} {c d} (h:m.zaQ c) (hd:c<=d):m.zaQ d:=⟨h.short,λi s hs=>(h.sound i s hs).mono hd,h.Zx⟩
theorem Ms.zaQ.did {m m':Ms} {i c d n:Nat} (h:m.zaQ c) (hD:m.ZG m' i d n) (hc:c<=d):m'.zaQ d:=by
 refine⟨by rw[hD.kept.length];exact h.short,λj s hs=> ?_,hD.Zx h.Zx⟩;by_cases e:j=i
 ·subst e;obtain⟨s2,h1,h2⟩:=hD.here;rw[h1]at hs;cases hs;exact h2
 ·rw[hD.kept.other j e]at hs;exact(h.sound j s hs).mono hc
theorem Ms.zaQ.mod {m:Ms} {i c f} (h:m.zaQ c) (hf:∀s,s.Sound c->(f s).Sound c):(m.mod i f).zaQ c:=by
 refine⟨by show(m.Zs.modify i f).length<=6;rw[Zb];exact h.short,λj s hs=> ?_,⟨h.Zx.QG,λx hx=> ?_⟩⟩
 ·have eI:(m.Zs.modify i f)[j]? =some s:=hs;rw[uab]at eI;by_cases e:i=j
  ·subst e;cases hq:m.Zs[i]? with
   |none=>rw[hq]at eI;simp at eI
   |some q=>
    rw[hq]at eI;simp at eI;rw[<-eI];exact hf q (h.sound i q hq)
  ·cases hq:m.Zs[j]? with
   |none=>rw[hq]at eI;simp at eI
   |some q=>
    rw[hq]at eI;simp[e]at eI;rw[<-eI];exact h.sound j q hq
 ·show x.src<(m.Zs.modify i f).length/\x.dst<(m.Zs.modify i f).length/\_;rw[Zb];exact h.Zx.each x hx
theorem Zr.Sound.stop {s:Zr} {c} (h:s.Sound c):s.stop.Sound c:=⟨(λn hn=>by cases hn),h.Yt,h.Zw⟩
theorem Zr.Sound.arm {s:Zr} {c} (h:s.Sound c) {n} (hn:n<=9223372036854775807):(s.arm n).Sound c:=⟨h.node,h.Yt,by show 0<=max 0 n/\max 0 n<=9223372036854775807;omega⟩
theorem Ms.zaQ.clear {m:Ms} {c} (h:m.zaQ c):Ms.zaQ {m with mU:=[]} c:=⟨h.short,h.sound,⟨h.Zx.QG,h.Zx.each⟩⟩
theorem Ms.zaQ.frame {m:Ms} {c} (h:m.zaQ c) (o k):(m.frame o k).zaQ c:=by
 unfold Ms.frame;cases hf:m.Zx[k]? with
 |none=>exact h
 |some f=>
  obtain⟨a1,a2,a3⟩:=h.Zx.each f (jq hf);have he:Ms.zaQ {m with Zx:=m.Zx.eraseIdx k} c:=⟨h.short,h.sound,h.Zx.erase k⟩
  simp only;split
  ·cases hs:m.Zs[f.dst]? with
   |none=>exact he
   |some s=>
    simp only[G6];cases ht:s.node with
    |none=>exact he
    |some t=>
     have Hq:=h.sound _ s hs;have F6:=(Hq.node t ht).1;have hw:=F6.wa m.now (((m.Zs[f.src]?).map λx:Zr=>x.addr).getD 0) f.bytes;have hD:=Ms.ZG.run (m:={m with Zx:=m.Zx.eraseIdx k}) (i:=f.dst) (Ms.ZG.emit (Ms.ZJ hs) (Hq.Z5 ht hw) hw.R9.le);exact he.did hD (uL _)
  ·split
   ·exact he
   ·split
    ·exact⟨h.short,h.sound,h.Zx.ZM a1 a2 a3⟩
    ·split
     ·refine⟨h.short,h.sound,⟨?_,λx hx=> ?_⟩⟩
      ·show(m.Zx.set k _).length<=48;rw[TY];exact h.Zx.QG
      ·rcases W7 hx with hx|rfl
       ·exact h.Zx.each x hx
       ·refine⟨a1,a2,?_⟩;show(f.bytes.take _).length<=100000;rw[Aw];omega
     ·exact h
theorem Ms.zaQ.tick {m:Ms} {c} (h:m.zaQ c) (hc:c<=8500) (n) (hn:(m.now+n).toNat<=4611686018427387904):(m.tick n).zaQ (c+1):=by
 have h1:Ms.zaQ {m with now:=m.now+n} c:=⟨h.short,h.sound,⟨h.Zx.QG,h.Zx.each⟩⟩
 have hT:=Ms.zbQ h1 hc hn m.Zs.length (uL _);exact⟨by show(Ms.ZF m.Zs.length {m with now:=m.now+n}).Zs.length<=6;rw[hT.length];exact h.short,hT.sound,hT.Zx⟩
theorem Ms.zaQ.node {m:Ms} {c:Nat} (h:m.zaQ c) (hc:c<=8500) (hn:m.now.toNat<=4611686018427387904) {o:Z3} (ho:o.Ok) (hk:o.kind=1\/o.kind=2\/o.kind=8\/o.kind=9\/o.kind=10\/o.kind=11):(m.ZU o).zaQ (c+1):=by
 have hev:∀e,(m.event e).zaQ (c+1):=λe=>⟨h.short,λi s hs=>(h.sound i s hs).mono (Xn c),⟨h.Zx.QG,h.Zx.each⟩⟩
 cases hb:m.bars o with
 |true=>rw[Ms.zbv hb];exact hev _
 |false=>
  obtain⟨i,s,e1,hs,hw,hj⟩:=Ms.zap hb;have l5:m.at_ o.a=some s:=by rw[e1,m.zaw];exact hs
  have Hq:=h.sound i s hs;rcases hk with hk|hk|hk|hk|hk|hk
  ·rw[Ms.zb9 hb hk];split
   ·exact⟨h.short,λi s hs=>(h.sound i s hs).mono (Xn c),⟨h.Zx.QG,h.Zx.each⟩⟩
   ·exact h.mono (Xn c)
  ·obtain⟨j,s2,e2,fP⟩:=hj (.inr (.inl hk));cases ht:s.node with
   |none=>rw[ht,hk]at hw;exact absurd (hw (by decide)) (λh:true=false=>by cases h)
   |some t=>
    rw[Ms.zca hb hk l5 ht (by rw[e2,m.zaw];exact fP)];split
    ·rename_i he;have F6:=(Hq.node t ht).1;have hw:=F6.Dw hn s2.addr o.text (by unfold Nd.gA at he;split at he;cases he;omega);rw[e1,D3];exact h.did (Ms.ZG.run (Ms.ZG.emit (Ms.ZJ hs) ((Hq.mono (Xn c)).Z5 ht hw) hw.R9.le)) (Xn c)
    ·exact hev _
  ·obtain⟨j,s2,e2,fP⟩:=hj (.inr (.inr hk));cases ht:s.node with
   |none=>rw[ht,hk]at hw;exact absurd (hw (by decide)) (λh:true=false=>by cases h)
   |some t=>
    rw[Ms.zcy hb hk l5 ht (by rw[e2,m.zaw];exact fP)];have F6:=(Hq.node t ht).1;have hw:=F6.wa m.now s2.addr o.text;rw[e1,D3];exact(h.did (Ms.ZG.run (Ms.ZG.emit (Ms.ZJ hs) (Hq.Z5 ht hw) hw.R9.le)) (uL c)).mono (Xn c)
  ·rw[Ms.zcb hb hk];exact(h.mod λs hs=>hs.stop).mono (Xn c)
  ·rw[Ms.zcx hb hk];exact(h.mod λs hs=>hs.arm ho.n.2).mono (Xn c)
  ·rw[Ms.zb8 hb hk l5,e1,D3];have hD:=Ms.ZG.emit (m:=m.mod i (Zr.zcq m.now)) (i:=i) (c:=c) (o:=Nd.gZ s.addr s.ay m.now) (Ms.ZJ (f:=Zr.zcq m.now) hs) (Hq.zcq m.now) (by rw[(Nd.zcw s.addr s.ay m.now).1];simp);have vS:m.Kept (m.mod i (Zr.zcq m.now)) i:=Ms.Kept.mod (λ_=>rfl);have hD2:m.ZG (Ms.emit i (m.mod i (Zr.zcq m.now)) (Nd.gZ s.addr s.ay m.now)) i c (1+(Nd.gZ s.addr s.ay m.now).aJ.length):=⟨vS.trans hD.kept,hD.here,λha=>hD.Zx ⟨ha.QG,λx hx=>by rw[vS.length];exact ha.each x hx⟩,hD.mU⟩
   exact(h.did hD2 (uL c)).mono (Xn c)
theorem Ms.zaQ.do_ {m:Ms} {c:Nat} (h:m.zaQ c) (hc:c<=8500) (hn:m.now.toNat+60000<=4611686018427387904) {o:Z3} (ho:o.Ok):(m.do_ o).zaQ (c+1):=by
 have h1:=h.clear;by_cases hF:o.kind=4\/o.kind=5\/o.kind=6\/o.kind=7
 ·rw[Ms.zc3 hF];split
  ·exact(h1.frame _ _).mono (Xn c)
  ·exact h1.mono (Xn c)
 ·by_cases hT:o.kind=3
  ·rw[Ms.zd0 hT];split
   ·rename_i hr;refine h1.tick hc _ ?_;rw[uaO];refine WA (ub8 _ _) ?_;have:(UInt64.ofNat o.n.toNat).toNat<=60000:=by
     rw[uav];exact WA (ub8 _ _) (by omega)
    show m.now.toNat+_<=_;omega
   ·exact h1.mono (Xn c)
  ·by_cases hN:o.kind=1\/o.kind=2\/o.kind=8\/o.kind=9\/o.kind=10\/o.kind=11
   ·rw[Ms.zdY hN];exact h1.node hc (by show m.now.toNat<=_;omega) ho hN
   ·rw[Ms.zdZ hF hT hN];exact h1.mono (Xn c)
def Ms.fz (m m':Ms):Prop:=m'.now=m.now/\m'.Zs.map (·.addr)=m.Zs.map (·.addr)
theorem Ms.fz.did {m m':Ms} {i d n} (hD:m.ZG m' i d n):m.fz m':=⟨hD.kept.now,hD.kept.ZO⟩
theorem Ms.fz.mod {m:Ms} {i f} (hf:∀s,(f s).addr=s.addr):m.fz (m.mod i f):=⟨rfl,(Ms.Kept.mod (i:=i) hf).ZO⟩
theorem Ms.zaQ.Ee {m:Ms} {c} (h:m.zaQ c) (o k):m.fz (m.frame o k):=by
 unfold Ms.frame;cases hf:m.Zx[k]? with
 |none=>exact⟨rfl,rfl⟩
 |some f=>
  simp only;split
  ·cases hs:m.Zs[f.dst]? with
   |none=>exact⟨rfl,rfl⟩
   |some s=>
    simp only[G6];cases ht:s.node with
    |none=>exact⟨rfl,rfl⟩
    |some t=>
     have Hq:=h.sound _ s hs;have F6:=(Hq.node t ht).1;have hw:=F6.wa m.now (((m.Zs[f.src]?).map λx:Zr=>x.addr).getD 0) f.bytes;have hD:=Ms.ZG.run (m:={m with Zx:=m.Zx.eraseIdx k}) (i:=f.dst) (Ms.ZG.emit (Ms.ZJ hs) (Hq.Z5 ht hw) hw.R9.le);exact⟨hD.kept.now,hD.kept.ZO⟩
  ·split
   ·exact⟨rfl,rfl⟩
   ·split
    ·exact⟨rfl,rfl⟩
    ·split
     ·exact⟨rfl,rfl⟩
     ·exact⟨rfl,rfl⟩
theorem Ms.zaQ.zeG {m:Ms} {c} (h:m.zaQ c) (hn:m.now.toNat<=4611686018427387904) {o:Z3} (hk:o.kind=1\/o.kind=2\/o.kind=8\/o.kind=9\/o.kind=10\/o.kind=11):m.fz (m.ZU o):=by
 cases hb:m.bars o with
 |true=>rw[Ms.zbv hb];exact⟨rfl,rfl⟩
 |false=>
  obtain⟨i,s,e1,hs,hw,hj⟩:=Ms.zap hb;have l5:m.at_ o.a=some s:=by rw[e1,m.zaw];exact hs
  have Hq:=h.sound i s hs;rcases hk with hk|hk|hk|hk|hk|hk
  ·rw[Ms.zb9 hb hk];split<;>exact⟨rfl,rfl⟩
  ·obtain⟨j,s2,e2,fP⟩:=hj (.inr (.inl hk));cases ht:s.node with
   |none=>rw[ht,hk]at hw;exact absurd (hw (by decide)) (λh:true=false=>by cases h)
   |some t=>
    rw[Ms.zca hb hk l5 ht (by rw[e2,m.zaw];exact fP)];split
    ·rename_i he;have F6:=(Hq.node t ht).1;have hw:=F6.Dw hn s2.addr o.text (by unfold Nd.gA at he;split at he;cases he;omega);rw[e1,D3];exact Ms.fz.did (Ms.ZG.run (Ms.ZG.emit (Ms.ZJ hs) ((Hq.mono (Xn c)).Z5 ht hw) hw.R9.le))
    ·exact⟨rfl,rfl⟩
  ·obtain⟨j,s2,e2,fP⟩:=hj (.inr (.inr hk));cases ht:s.node with
   |none=>rw[ht,hk]at hw;exact absurd (hw (by decide)) (λh:true=false=>by cases h)
   |some t=>
    rw[Ms.zcy hb hk l5 ht (by rw[e2,m.zaw];exact fP)];have F6:=(Hq.node t ht).1;have hw:=F6.wa m.now s2.addr o.text;rw[e1,D3];exact Ms.fz.did (Ms.ZG.run (Ms.ZG.emit (Ms.ZJ hs) (Hq.Z5 ht hw) hw.R9.le))
  ·rw[Ms.zcb hb hk];exact Ms.fz.mod λ_=>rfl
  ·rw[Ms.zcx hb hk];exact Ms.fz.mod λ_=>rfl
  ·rw[Ms.zb8 hb hk l5,e1,D3];have hD:=Ms.ZG.emit (m:=m.mod i (Zr.zcq m.now)) (i:=i) (c:=c) (o:=Nd.gZ s.addr s.ay m.now) (Ms.ZJ (f:=Zr.zcq m.now) hs) (Hq.zcq m.now) (by rw[(Nd.zcw s.addr s.ay m.now).1];simp);have vS:m.Kept (m.mod i (Zr.zcq m.now)) i:=Ms.Kept.mod (λ_=>rfl);exact⟨(vS.trans hD.kept).now,(vS.trans hD.kept).ZO⟩
theorem Ms.zaQ.ze0 {m:Ms} {c} (h:m.zaQ c) (hc:c<=8500) (hn:m.now.toNat+60000<=4611686018427387904) (o):(m.do_ o).now.toNat<=m.now.toNat+60000/\(m.do_ o).Zs.map (·.addr)=m.Zs.map (·.addr):=by
 have h1:=h.clear;have fin:∀m',Ms.fz {m with mU:=[]} m'->m'.now.toNat<=m.now.toNat+60000/\m'.Zs.map (·.addr)=m.Zs.map (·.addr):=λm' hs=>⟨by rw[hs.1];exact ubK _ _,hs.2⟩
 by_cases hF:o.kind=4\/o.kind=5\/o.kind=6\/o.kind=7
 ·rw[Ms.zc3 hF];split
  ·exact fin _ (h1.Ee _ _)
  ·exact fin _ ⟨rfl,rfl⟩
 ·by_cases hT:o.kind=3
  ·rw[Ms.zd0 hT];split
   ·rename_i hr;have h2:(UInt64.ofNat o.n.toNat).toNat<=60000:=by
     rw[uav];exact WA (ub8 _ _) (by omega)
    have h3:(m.now+UInt64.ofNat o.n.toNat).toNat<=m.now.toNat+60000:=by
     rw[uaO];exact WA (ub8 _ _) (by omega)
    have h4:Ms.zaQ {m with now:=m.now+UInt64.ofNat o.n.toNat,mU:=[]} c:=⟨h.short,h.sound,⟨h.Zx.QG,h.Zx.each⟩⟩
    have hT:=Ms.zbQ h4 hc (by show(m.now+UInt64.ofNat o.n.toNat).toNat<=_;omega) m.Zs.length (uL _);refine⟨?_,hT.ZO⟩;show(Ms.ZF m.Zs.length {m with now:=m.now+UInt64.ofNat o.n.toNat,mU:=[]}).now.toNat<=_;rw[hT.now];exact h3
   ·exact fin _ ⟨rfl,rfl⟩
  ·by_cases hN:o.kind=1\/o.kind=2\/o.kind=8\/o.kind=9\/o.kind=10\/o.kind=11
   ·rw[Ms.zdY hN];exact fin _ (h1.zeG (by show m.now.toNat<=_;omega) hN)
   ·rw[Ms.zdZ hF hT hN];exact fin _ ⟨rfl,rfl⟩
theorem Ms.zeP {l:List UInt32} (h:l.length<=6):(Ms.new l).zaQ 0:=by
 refine⟨by show(l.map ZT).length<=6;simpa using h,λi s hs=> ?_,⟨by show([]:List Fl).length<=48;simp,λf hf=>by cases hf⟩⟩;have eI:(l.map ZT)[i]? =some s:=hs;rw[zA]at eI;cases hq:l[i]? with
 |none=>rw[hq]at eI;cases eI
 |some a=>rw[hq]at eI;cases eI;exact zcT a
end Go.Proofs.YtapoehkdnglahabGreat

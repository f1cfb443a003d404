/- A part. -/
import Derived.Test.YtapoehkdnglahabGreatMd
import Derived.Test.YtapoehkdnglahabGreatMe
import Derived.Test.YtapoehkdnglahabGreatMf
set_option maxHeartbeats 8000000
set_option maxRecDepth 100000
set_option linter.all false
namespace Go.Proofs.YtapoehkdnglahabGreat
section
open Go.RowKit
theorem vQ (c):Ea c=if c&&& 1=1 then(c>>>1) ^^^ 3988292384 else c>>>1:=by
 have e1:UInt32.ofNat (c.toNat / 2)=c>>>1:=by
  rw[<-HL,Ei,ubr];show c.toNat / 2=c.toNat>>>(1 % 32);rw[YJ (by decide),ubf]
 have e2:(c.toNat % 2=1)↔(c&&& 1=1):=by
  rw[<-HL,UInt32.toNat_and];show _↔c.toNat&&& 1=1;rw[Nat.and_one_is_mod]
 unfold Ea;simp only[e1,e2]
theorem xP (b:UInt8):UInt32.ofNat b.toNat=b.toUInt32:=by
 rw[<-HL,DX];simp
attribute [local irreducible] WS LS OpQ y6 cn cv Spec bA aK
variable (w0:World)
instance:zag (.int .u32 3988292384) 3988292384:=⟨rfl⟩
instance QD {P:Program} {x:UInt32}:Qv P .xor (u32 x) (u32 (4294967295 ^^^ x)):=⟨λw=>by
 show(Op.intBits .xor .u32 IntKind.u32.max (x.toNat:Int)).run P w=_;have e:IntKind.u32.max=((4294967295:UInt32).toNat:Int):=rfl;rw[intBits_xor,e,u32_xor_nat _ _ (pd _) (pd x),<-UInt32.toNat_xor];rfl⟩
theorem Ds (c):Spec ucC w0 108 [u32 c] emp (λ_:Unit=>u32 (lK 8 c)) (λ_=>emp):=by
 refine eZ Tryz.func108 Tryz.ntmps108 λG=> ?_;simp only[aN];repeat' (first|intro K hK|refine ax ?_)
 refine aV (λm τ=>∃j:Nat,j+m=8/\τ=⟨[(4,.int .i64 (j:Int)),(0,u32 (lK j c))],[],emp*G⟩) ?_ ?_
 ·exact⟨8,_,⟨0,rfl,rfl⟩,cG,rfl,aq.refl _⟩
 ·rintro m τ ⟨j,hj,rfl⟩;rcases jP j 8 with bW|kQ
  ·repeat' (first|intro K hK|(intro hc;try exact aG)|refine xyZ ?_|refine aF ?_ ?_|((first|refine dn rfl rfl iI rfl ?_ ?_|refine dm rfl rfl iI rfl ?_ ?_)<;>intro hc)|refine zw1 ?_)
   ·have e:lK (j+1) c=(lK j c>>>1) ^^^ 3988292384:=by show Ea _=_;rw[vQ,jF hc]
    exact pbw
   ·have e:lK (j+1) c=lK j c>>>1:=by show Ea _=_;rw[vQ,eQ hc]
    exact pbw
  ·obtain rfl:j=8:=by omega
   exact paO
theorem zY (l:List UInt8) (hl:l.length<=1000000) (v X) [hX:eX w0 X v UInt8 1 bU l]:Spec ucC w0 55 [v] X (λ_:Unit=>u32 (sumOf l)) (λ_=>X):=by
 refine eZ Tryz.func55 Tryz.ntmps55 λG=> ?_;simp only[aN];repeat' (first|intro K hK|refine ax ?_)
 refine aV (λm τ=>∃j:Nat,j+m=l.length/\τ=⟨[(8,.int .i64 (j:Int)),(7,.int .i64 (l.length:Int)),(6,v),(3,u32 (qu 4294967295 (l.take j)))],[],X*G⟩) ?_ ?_
 ·exact pa2
 ·rintro m τ ⟨j,hj,rfl⟩;rcases jP j l.length with bW|kQ
  ·obtain⟨z,hz⟩:∃z,l[j]? =some z:=⟨_,aX bW⟩
   repeat' (first|intro hc|refine xyZ ?_|refine aF ?_ ?_|((refine' LQ ?zh rfl ?_);case zh=>intro F';exact po rfl iI iI)|refine zw1 ?_|(refine ai (aa iI rfl (Ds w0 _) iI) rfl ?_;intro u))
   refine⟨m - 1,_,by omega,⟨j+1,by omega,rfl⟩,⟨rfl,rfl,rfl,?_,trivial⟩,rfl,ah⟩;rw[AP,hz];show some _=some _;rw[Qf,yf,xP]
  ·obtain rfl:j=l.length:=by omega
   rw[PE];exact pac
theorem zQ (l:List UInt8) (hl:l.length<=1000000):Spec ucC w0 147 [aZ l] emp (λ_:Unit=>u32 (sumOf l)) (λ_=>emp):=by
 refine eZ Tryz.func147 Tryz.ntmps147 λG=> ?_;simp only[aN];repeat' (first|intro K hK|refine ax ?_)
 refine aV (λm τ=>∃j:Nat,j+m=l.length/\τ=⟨[(4,.int .i64 (j:Int)),(0,aZ l),(3,u32 (qu 4294967295 (l.take j)))],[],emp*G⟩) ?_ ?_
 ·exact pa2
 ·rintro m τ ⟨j,hj,rfl⟩;rcases jP j l.length with bW|kQ
  ·obtain⟨z,hz⟩:∃z,l[j]? =some z:=⟨_,aX bW⟩
   repeat' (first|intro K hK|intro hc|refine xyZ ?_|refine aF ?_ ?_|((refine' LQ ?zh rfl ?_);case zh=>intro F';first|exact po rfl iI iI|exact eH rfl rfl iI iI (by assumption))|refine zw1 ?_)
   refine aV (λm' τ=>∃i:Nat,i+m'=8/\τ=⟨[(5,.int .i64 (i:Int)),(4,.int .i64 (j:Int)),(0,aZ l),(3,u32 (lK i (qu 4294967295 (l.take j) ^^^ z.toUInt32)))],[],emp*G⟩) ?_ ?_
   ·exact⟨8,_,⟨0,rfl,rfl⟩,cG,rfl,ah⟩
   ·rintro m' τ ⟨i,hi,rfl⟩;rcases jP i 8 with XV|XF
    ·generalize qu 4294967295 (l.take j) ^^^ z.toUInt32=c;repeat' (first|intro K hK|(intro hc;try exact aG)|refine xyZ ?_|refine aF ?_ ?_|((first|refine dn rfl rfl iI rfl ?_ ?_|refine dm rfl rfl iI rfl ?_ ?_)<;>intro hc)|refine zw1 ?_)
     ·have e:lK (i+1) c=(lK i c>>>1) ^^^ 3988292384:=by show Ea _=_;rw[vQ,jF hc]
      exact pbu
     ·have e:lK (i+1) c=lK i c>>>1:=by show Ea _=_;rw[vQ,eQ hc]
      exact pbu
    ·obtain rfl:i=8:=by omega
     have e:qu 4294967295 (l.take (j+1))=lK 8 (qu 4294967295 (l.take j) ^^^ z.toUInt32):=by
      rw[AP,hz,Qf,yf,xP]
     rw[<-e];repeat' (first|intro K hK|intro hc|refine xyZ ?_|refine aF ?_ ?_)
     exact⟨m - 1,_,by omega,⟨j+1,by omega,rfl⟩,cG,rfl,ah⟩
  ·obtain rfl:j=l.length:=by omega
   rw[PE];exact paO
theorem oe (r:Rec):Spec ucC w0 31 [.agg r.cells.toArray] emp (λv':Value=>v') (λv'=>rows 5 1 bU v' r.bytes):=by
 obtain⟨own,addr,seq⟩:=r;cases own;all_goals
  refine eZ Tryz.func31 Tryz.ntmps31 λG=> ?_
  simp only[aN,Rec.cells]
 ·have e:([2]++be addr++be seq)++be (sumOf ([2]++be addr++be seq))=Rec.bytes ⟨false,addr,seq⟩:=by simp[Rec.bytes,Rec.head]
  repeat' (first|intro hc|refine yZ ?_|refine aF ?_ ?_|refine zhI λg=> ?_|(refine ai (aa iI rfl (jG w0 _ ([2]) addr (by simp)) iI) rfl ?_;intro v3)|refine cZ (jG w0 v3 ([2]++be addr) seq (by simp[al])) λv4=> ?_|refine cZ (zY w0 ([2]++be addr++be seq) (by simp[al]) v4 (rows 5 1 bU v4 ([2]++be addr++be seq))) λu=> ?_|refine cZ (jG w0 v4 ([2]++be addr++be seq) (sumOf ([2]++be addr++be seq)) (by simp[al])) λv5=> ?_)
  rw[e];exact aC (.inl rfl) rfl rfl ⟨v5,rfl,ah⟩
 ·have e:([2].set 0 1++be 0++be seq)++be (sumOf ([2].set 0 1++be 0++be seq))=Rec.bytes ⟨true,addr,seq⟩:=by simp[Rec.bytes,Rec.head]
  repeat' (first|intro hc|refine xyZ ?_|refine aF ?_ ?_|refine bT λg=> ?_|refine zhI λg=> ?_|refine bQ λg=> ?_|refine zfV λg=> ?_|(refine ai (aa iI rfl (jG w0 _ ([2].set 0 1) 0 (by simp)) iI) rfl ?_;intro v3)|refine cZ (jG w0 v3 ([2].set 0 1++be 0) seq (by simp[al])) λv4=> ?_|refine cZ (zY w0 ([2].set 0 1++be 0++be seq) (by simp[al]) v4 (rows 5 1 bU v4 ([2].set 0 1++be 0++be seq))) λu=> ?_|refine cZ (jG w0 v4 ([2].set 0 1++be 0++be seq) (sumOf ([2].set 0 1++be 0++be seq)) (by simp[al])) λv5=> ?_)
  rw[e];exact aC (.inl rfl) rfl rfl ⟨v5,rfl,ah⟩
theorem mz (r:Rec):Spec ucC w0 91 [.agg r.cells.toArray] emp (λ_:Unit=>aZ r.bytes) (λ_=>emp):=by
 obtain⟨own,addr,seq⟩:=r;have f0:=jz w0 0;have fa:=jz w0 addr;have fs:=jz w0 seq;have l0:=al 0;have la:=al addr;have ls:=al seq;cases own
 ·have e:([2]++be addr++be seq)++be (sumOf ([2]++be addr++be seq))=Rec.bytes ⟨false,addr,seq⟩:=by simp[Rec.bytes,Rec.head]
  have hs:=zQ w0 ([2]++be addr++be seq) (by simp[al]);have hf:=jz w0 (sumOf ([2]++be addr++be seq));have lf:=al (sumOf ([2]++be addr++be seq));refine eZ Tryz.func91 Tryz.ntmps91 λG=> ?_;simp only[aN,Rec.cells];repeat' (first|refine ag (id:=1) [0,1,4,5,2,3,6,7,8] ?_|intro hc|refine yZ ?_|refine aF ?_ ?_|refine zhv ?_|refine cZ fa λu=> ?_|refine cZ fs λu=> ?_|refine cZ hs λu=> ?_|refine cZ hf λu=> ?_)
  rw[e];exact aC (.inl rfl) rfl rfl ⟨(),rfl,ah⟩
 ·have e:([1]++be 0++be seq)++be (sumOf ([1]++be 0++be seq))=Rec.bytes ⟨true,addr,seq⟩:=by simp[Rec.bytes,Rec.head]
  have hs:=zQ w0 ([1]++be 0++be seq) (by simp[al]);have hf:=jz w0 (sumOf ([1]++be 0++be seq));have lf:=al (sumOf ([1]++be 0++be seq));refine eZ Tryz.func91 Tryz.ntmps91 λG=> ?_;simp only[aN,Rec.cells];repeat' (first|refine ag (id:=1) [0,1,4,5,2,3,6,7,8] ?_|refine ag (id:=3) [2,3,0,1,4,5,6] ?_|intro hc|refine yZ ?_|refine aF ?_ ?_|refine zhv ?_|refine cZ f0 λu=> ?_|refine cZ fa λu=> ?_|refine cZ fs λu=> ?_|refine cZ hs λu=> ?_|refine cZ hf λu=> ?_)
  rw[e];exact aC (.inl rfl) rfl rfl ⟨(),rfl,ah⟩
end
section
open Go.RowKit
instance:cY Rec.cells 3:=⟨λ_=>rfl⟩
theorem cO:∀z,∀c∈Rec.cells z,c.oneCell'=true:=by intro z c hc;simp[Rec.cells]at hc;rcases hc with rfl|rfl|rfl<;>rfl
instance UX:Lit (true==true) true:=⟨rfl⟩
instance UW:Lit (false==false) true:=⟨rfl⟩
theorem zL {out:List Rec} {r x:Rec} {j} (hj:gP out r=out.take j++gP (out.drop j) r) (hx:out[j]? =some x) (h1:¬(x.own=r.own/\x.addr=r.addr)) (h2:¬(r.own=true\/(x.own=false/\r.addr<x.addr))):gP out r=out.take (j+1)++gP (out.drop (j+1)) r:=by
 have bW:=(az.1 hx).1;have hd:out.drop j=x::out.drop (j+1):=by
  rw[<-(az.1 hx).2,uae]
 rw[hj,hd,gP,eQ h1,eQ h2,AP,hx];simp
theorem ub {out:List Rec} {r x:Rec} {j} (hj:gP out r=out.take j++gP (out.drop j) r) (hx:out[j]? =some x) (h1:¬(x.own=r.own/\x.addr=r.addr)) (h2:r.own=true\/(x.own=false/\r.addr<x.addr)):gP out r=[]++out.take j++[r]++out.drop j:=by
 have hd:out.drop j=x::out.drop (j+1):=by
  rw[<-(az.1 hx).2,uae]
 rw[hj,hd,gP,eQ h1,jF h2];simp
theorem CY {out:List Rec} {r} (hj:gP out r=out.take out.length++gP (out.drop out.length) r):gP out r=[]++out.take out.length++[r]++out.drop out.length:=by
 rw[hj];simp[gP]
theorem sz {out:List Rec} {r x:Rec} {j} (hj:gP out r=out.take j++gP (out.drop j) r) (hx:out[j]? =some x) (h1:x.own=r.own/\x.addr=r.addr):gP out r=out.set j {x with seq:=max x.seq r.seq}:=by
 have bW:=(az.1 hx).1;have hd:out.drop j=x::out.drop (j+1):=by
  rw[<-(az.1 hx).2,uae]
 rw[hj,hd,gP,jF h1,ubq,jF bW]
theorem Dk {l:List Rec} {j x} (h:l[j]? =some x):l.set j x=l:=by
 obtain⟨h1,h2⟩:=az.1 h;rw[<-h2];exact ucn h1
theorem Kn {a b:UInt32} (h:a<b):max a b=b:=by
 have e:max a b=if a<=b then b else a:=rfl
 rw[e,jF (by rw[uad];have:=GM.1 h;omega)]
theorem Gd {a b:UInt32} (h:¬a<b):max a b=a:=by
 have e:max a b=if a<=b then b else a:=rfl
 rw[e];split
 ·rename_i h2;apply HL.1;have:=mt GM.2 h;have:=uad.1 h2;omega
 ·rfl
attribute [local irreducible] WS LS OpQ y6 cn cv Spec bA aK
variable (w0:World)
theorem HP (v) (out:List Rec) (hl:out.length<=100000) (addr seq):Spec ucC w0 199 [v,.agg #[.bool false,u32 addr,u32 seq]] (rows 28 3 Rec.cells v out) (λv':Value=>v') (λv'=>rows 28 3 Rec.cells v' (gP out ⟨false,addr,seq⟩)):=by
 refine eZ Tryz.func199 Tryz.ntmps199 λG=> ?_;simp only[aN];repeat' (first|(intro hc;try exact aG)|refine xyZ ?_|refine aF ?_ ?_|refine bT λg=> ?_)
 revert g;intro g3;refine aV (λm τ=>∃j:Nat,j+m=out.length/\gP out ⟨false,addr,seq⟩=out.take j++gP (out.drop j) ⟨false,addr,seq⟩/\τ=⟨[(5,.int .i64 (j:Int)),(0,v),(3,ptr g3 0)],[],aK g3 28 [.bool false,u32 addr,u32 seq]*(rows 28 3 Rec.cells v out*G)⟩) ?_ ?_
 ·exact⟨out.length,_,⟨0,by omega,by simp,rfl⟩,cG,rfl,ah⟩
 ·rintro m τ ⟨j,hj,hp,rfl⟩;rcases jP j out.length with bW|kQ
  ·obtain⟨⟨xo,xa,xs⟩,hz⟩:∃z,out[j]? =some z:=⟨_,aX bW⟩
   cases xo
   ·by_cases ha:xa=addr
    ·subst ha;by_cases hs:xs<seq
     ·rw[sz hp hz ⟨rfl,rfl⟩,Kn hs];repeat' (first|refine zf5 ?_|refine ag (id:=6) (.range 8) ?_|(intro hc;try exact aG)|refine xyZ ?_|refine aF ?_ ?_|refine zcm ?_|(refine bL (dB (z:=⟨false,xa,xs⟩) ⟨false,xa,seq⟩ rfl rfl iI iI iI rfl (by assumption) rfl) ?_;intro g))
      exact aC (.inl rfl) rfl rfl ⟨v,rfl,ah⟩
     ·rw[sz hp hz ⟨rfl,rfl⟩,Gd hs,Dk hz];repeat' (first|refine zf5 ?_|refine ag (id:=6) (.range 8) ?_|(intro hc;try exact aG)|refine xyZ ?_|refine aF ?_ ?_|refine zgy ?_)
      exact aC (.inl rfl) rfl rfl ⟨v,rfl,ah⟩
    ·by_cases OC:addr<xa
     ·have eP:=ub hp hz (by simp_all) (by simp_all);refine cV (aq.nil _ 28 3 Rec.cells none) ?_;have ht:(out.take j).length=j:=by simp;omega
      have sX:(out.drop j).length=out.length - j:=by simp
      repeat' (first|refine zf5 ?_|refine ag (id:=9) (.range 20) ?_|(intro hc;try exact aG)|refine xyZ ?_|refine aF ?_ ?_|refine zhu ?_|(refine ai (dH (rows 28 3 Rec.cells v out) rfl rfl iI iI iI rfl iI iI cO (by first|omega|(simp[al]<;>omega)) rfl) rfl ?_;intro v4)|(refine ai (au Rec.cells [⟨false,addr,seq⟩] iI iI iI rfl rfl rfl rfl rfl iI rfl rfl rfl) rfl ?_;intro vb)|(refine ai (aR rfl rfl iI iI rfl iI iI cO (by first|omega|(simp[al]<;>omega)) rfl) rfl ?_;intro v3))
      exact aC (.inl rfl) rfl rfl ⟨v4,rfl,by rw[eP];exact ah⟩
     ·have ma:=zL hp hz (by simp_all) (by simp_all);repeat' (first|refine zf5 ?_|refine ag (id:=9) (.range 20) ?_|(intro hc;try exact aG)|refine xyZ ?_|refine aF ?_ ?_|refine zgy ?_)
      exact⟨m - 1,_,by omega,⟨j+1,by omega,ma,rfl⟩,cG,rfl,ah⟩
   ·have ma:=zL hp hz (by simp_all) (by simp_all);repeat' (first|refine zf5 ?_|refine ag (id:=9) (.range 20) ?_|(intro hc;try exact aG)|refine xyZ ?_|refine aF ?_ ?_|refine zcm ?_|((first|refine dn rfl rfl iI rfl ?_ ?_|refine dm rfl rfl iI rfl ?_ ?_|refine dU rfl rfl iI rfl ?_ ?_)<;>intro hc)|((refine' zab rfl rfl rfl ?zh ?_);case zh=>intro F';exact bE rfl rfl iI)|fail)
    exact⟨m - 1,_,by omega,⟨j+1,by omega,ma,rfl⟩,cG,rfl,ah⟩
  ·obtain rfl:j=out.length:=by omega
   have eP:=CY hp;refine cV (aq.nil _ 28 3 Rec.cells none) ?_;have ht:(out.take out.length).length=out.length:=by simp
   have sX:(out.drop out.length).length=out.length - out.length:=by simp
   repeat' (first|(intro hc;try exact aG)|refine xyZ ?_|refine aF ?_ ?_|refine zd6 ?_|(refine ai (dH (rows 28 3 Rec.cells v out) rfl rfl iI iI iI rfl iI iI cO (by first|omega|(simp[al]<;>omega)) rfl) rfl ?_;intro v4)|(refine ai (au Rec.cells [⟨false,addr,seq⟩] iI iI iI rfl rfl rfl rfl rfl iI rfl rfl rfl) rfl ?_;intro vb)|(refine ai (aR rfl rfl iI iI rfl iI iI cO (by first|omega|(simp[al]<;>omega)) rfl) rfl ?_;intro v3))
   exact aC (.inl rfl) rfl rfl ⟨v4,rfl,by rw[eP];exact ah⟩
theorem KO (v) (out:List Rec) (hl:out.length<=100000) (addr seq):Spec ucC w0 199 [v,.agg #[.bool true,u32 addr,u32 seq]] (rows 28 3 Rec.cells v out) (λv':Value=>v') (λv'=>rows 28 3 Rec.cells v' (gP out ⟨true,0,seq⟩)):=by
 refine eZ Tryz.func199 Tryz.ntmps199 λG=> ?_;simp only[aN];repeat' (first|(refine hK _ ?_;clear hK K)|intro K hK|(intro hc;try exact aG)|refine xyZ ?_|refine aF ?_ ?_|refine bT λg=> ?_|refine bQ λg=> ?_)
 rename_i g3;refine aV (λm τ=>∃j:Nat,j+m=out.length/\gP out ⟨true,0,seq⟩=out.take j++gP (out.drop j) ⟨true,0,seq⟩/\τ=⟨[(5,.int .i64 (j:Int)),(0,v),(3,ptr g3 0)],[],aK g3 28 [.bool true,.int .u32 0,u32 seq]*(rows 28 3 Rec.cells v out*G)⟩) ?_ ?_
 ·exact⟨out.length,_,⟨0,by omega,by simp,rfl⟩,cG,rfl,ah⟩
 ·rintro m τ ⟨j,hj,hp,rfl⟩;rcases jP j out.length with bW|kQ
  ·obtain⟨⟨xo,xa,xs⟩,hz⟩:∃z,out[j]? =some z:=⟨_,aX bW⟩
   cases xo
   ·have eP:=ub hp hz (by simp) (by simp);refine cV (aq.nil _ 28 3 Rec.cells none) ?_;have ht:(out.take j).length=j:=by simp;omega
    have sX:(out.drop j).length=out.length - j:=by simp
    repeat' (first|(refine hK _ ?_;clear hK K)|refine zf5 ?_|refine ag (id:=9) (.range 20) ?_|intro K hK|(intro hc;try exact aG)|refine xyZ ?_|refine aF ?_ ?_|((first|refine' LQ ?zh rfl ?_|refine' bk rfl rfl ?zh ?_|refine' zab rfl rfl rfl ?zh ?_);case zh=>intro F';first|exact bp rfl rfl iI (by first|assumption|omega|decide|rfl)|exact dv rfl rfl iI iI iI iI (by first|assumption|omega|(simp[al]<;>omega))|exact cW rfl rfl iI iI iI iI (by first|assumption|omega|(simp[al]<;>omega)))|((first|refine dn rfl rfl iI rfl ?_ ?_|refine dm rfl rfl iI rfl ?_ ?_|refine dU rfl rfl iI rfl ?_ ?_)<;>intro hc)|((first|refine' LQ ?zh rfl ?_|refine' zab rfl rfl rfl ?zh ?_);case zh=>intro F';exact bE rfl rfl iI)|(refine ai (dH (rows 28 3 Rec.cells v out) rfl rfl iI iI iI rfl iI iI cO (by first|omega|(simp[al]<;>omega)) rfl) rfl ?_;intro v4)|refine zhg λvb=> ?_|(refine ai (aR rfl rfl iI iI rfl iI iI cO (by first|omega|(simp[al]<;>omega)) rfl) rfl ?_;intro v3))
    exact aC (.inl rfl) rfl rfl ⟨v4,rfl,by rw[eP];exact ah⟩
   ·by_cases ha:xa=0
    ·subst ha;by_cases hs:xs<seq
     ·rw[sz hp hz ⟨rfl,rfl⟩,Kn hs];repeat' (first|(refine hK _ ?_;clear hK K)|refine zf5 ?_|refine ag (id:=6) (.range 8) ?_|intro K hK|(intro hc;try exact aG)|refine xyZ ?_|refine aF ?_ ?_|refine zcm ?_|(refine bL (dB (z:=⟨true,0,xs⟩) ⟨true,0,seq⟩ rfl rfl iI iI iI rfl (by assumption) rfl) ?_;intro g))
      exact aC (.inl rfl) rfl rfl ⟨v,rfl,ah⟩
     ·rw[sz hp hz ⟨rfl,rfl⟩,Gd hs,Dk hz];repeat' (first|(refine hK _ ?_;clear hK K)|refine zf5 ?_|refine ag (id:=6) (.range 8) ?_|intro K hK|(intro hc;try exact aG)|refine xyZ ?_|refine aF ?_ ?_|refine zgy ?_)
      exact aC (.inl rfl) rfl rfl ⟨v,rfl,ah⟩
    ·have eP:=ub hp hz (by simp_all) (by simp);refine cV (aq.nil _ 28 3 Rec.cells none) ?_;have ht:(out.take j).length=j:=by simp;omega
     have sX:(out.drop j).length=out.length - j:=by simp
     repeat' (first|(refine hK _ ?_;clear hK K)|refine zf5 ?_|refine ag (id:=9) (.range 20) ?_|intro K hK|(intro hc;try exact aG)|refine xyZ ?_|refine aF ?_ ?_|refine zhu ?_|(refine ai (dH (rows 28 3 Rec.cells v out) rfl rfl iI iI iI rfl iI iI cO (by first|omega|(simp[al]<;>omega)) rfl) rfl ?_;intro v4)|refine zhg λvb=> ?_|(refine ai (aR rfl rfl iI iI rfl iI iI cO (by first|omega|(simp[al]<;>omega)) rfl) rfl ?_;intro v3))
     exact aC (.inl rfl) rfl rfl ⟨v4,rfl,by rw[eP];exact ah⟩
  ·obtain rfl:j=out.length:=by omega
   have eP:=CY hp;refine cV (aq.nil _ 28 3 Rec.cells none) ?_;have ht:(out.take out.length).length=out.length:=by simp
   have sX:(out.drop out.length).length=out.length - out.length:=by simp
   repeat' (first|(refine hK _ ?_;clear hK K)|intro K hK|(intro hc;try exact aG)|refine xyZ ?_|refine aF ?_ ?_|refine zd6 ?_|(refine ai (dH (rows 28 3 Rec.cells v out) rfl rfl iI iI iI rfl iI iI cO (by first|omega|(simp[al]<;>omega)) rfl) rfl ?_;intro v4)|refine zhg λvb=> ?_|(refine ai (aR rfl rfl iI iI rfl iI iI cO (by first|omega|(simp[al]<;>omega)) rfl) rfl ?_;intro v3))
   exact aC (.inl rfl) rfl rfl ⟨v4,rfl,by rw[eP];exact ah⟩
end
section
open Go.RowKit
theorem DG {P:Program} {n:fT} {E:Env} {H:af} {w0:World} {d:Option Tmp} {t ty:TypeId} {pos:String} {after:Array Edge} {gu:Option (Nat×Bool)} {x y z:Operand} {a:List UInt8} {q q':IntKind} {i i':Int} {k k':Nat} (hx:E.ev x=some (aZ a)) (hy:E.ev y=some (.int q i)) (hz:E.ev z=some (.int q' i')) (hi:fB i k) (OD:fB i' k') (ht:eN P t .string) (hk:k<=k') (P5:k'<=a.length):OpQ P n w0 ⟨d,.slice t x (some y) (some z) none,ty,pos,after,gu⟩ E H (aZ ((a.drop k).take (k' - k))):=λac w s hs=>by
 obtain rfl:=hi.eq;obtain rfl:=OD.eq;have hr:=run_slice_string (P:=P) w t ⟨a.toArray⟩ q q' (k:Int) (k':Int) ht.eq (by omega) (by omega) (by show(k':Int)<=(a.length:Nat);omega);have e1:(⟨a.toArray⟩:ByteArray).extract k k'=⟨((a.drop k).take (k' - k)).toArray⟩:=by apply ubP;simp
 simp only[execOp,s.ev hx,s.ev hy,s.ev hz,EL,uag,run_sliceAt_string w t _ _ _ _ ht.eq,Sem.run_bind,hr,Result.andThen_ok,Sem.run_pure,D3,e1]
attribute [local irreducible] WS LS OpQ y6 cn cv Spec bA aK
variable (w0:World)
theorem D8 (l m:List UInt8) (hl:l.length<=1000000) (v u X) [hX:eX w0 X v UInt8 1 bU l] [hY:eX w0 X u UInt8 1 bU m]:Spec ucC w0 112 [v,u] X (λ_:Unit=> .bool (decide (l=m))) (λ_=>X):=by
 refine eZ Tryz.func112 Tryz.ntmps112 λG=> ?_;simp only[aN];repeat' (first|intro K hK|(intro hc;try exact aG)|refine xyZ ?_|refine aF ?_ ?_|((first|refine dn rfl rfl iI rfl ?_ ?_|refine dm rfl rfl iI rfl ?_ ?_|refine dU rfl rfl iI rfl ?_ ?_)<;>intro hc))
 rotate_left
 ·exact pbC
 refine aV (λk τ=>∃j,j+k=l.length/\l.take j=m.take j/\τ=⟨[(13,.int .i64 (j:Int)),(12,.int .i64 (l.length:Int)),(0,v),(1,u)],[],X*G⟩) ?_ ?_
 ·exact⟨l.length,_,⟨0,by omega,rfl,rfl⟩,cG,rfl,aq.refl _⟩
 ·rintro k τ ⟨j,ym,hj,rfl⟩;rcases jP j l.length with bW|kQ
  ·obtain⟨z,hz⟩:∃z,l[j]? =some z:=⟨_,aX bW⟩
   have J3:j<m.length:=by omega
   obtain⟨z',pF⟩:∃z,m[j]? =some z:=⟨_,aX J3⟩
   repeat' (first|refine ag (id:=6) (.range 9) ?_|intro K hK|(intro hc;try exact aG)|refine xyZ ?_|refine aF ?_ ?_|((first|refine dn rfl rfl iI rfl ?_ ?_|refine dm rfl rfl iI rfl ?_ ?_|refine dU rfl rfl iI rfl ?_ ?_)<;>intro hc))
   ·exact pbr
   ·exact⟨k - 1,_,by omega,⟨j+1,by omega,sN hj hz pF (by simpa using hc),rfl⟩,cG,rfl,aq.refl _⟩
  ·obtain rfl:j=l.length:=by omega
   have e:l=m:=by rw[PE,Gz (by omega)]at hj;exact hj
   repeat' (first|intro K hK|intro hc|refine xyZ ?_|refine aF ?_ ?_)
   refine aC (.inl rfl) rfl rfl ⟨(),?_,aq.take aq.last⟩;rw[Dp e]
theorem MI (o o' x y x' y' w):
 (binOp .neq 28 (.agg #[.bool o,.int .u32 x,.int .u32 y]) (.agg #[.bool o',.int .u32 x',.int .u32 y'])).run ucC w= .ok (.bool (!(o==o'&&(x==x'&&y==y')))) w:=by
 have u4:=Tryz.underlying26
 have u1:=Tryz.underlying4
 have hS:Tryz.prog.underlying 28=some (.struct (Tryz.prog.fieldsOf 28)):=by kernel_rfl
 have hp:Tryz.prog.stoodInHeld 28=false:=by kernel_rfl
 rw[run_neq_struct,show(10000:Nat)=9999+1 from rfl,run_equalIn_agg w 9999 28 _ _ hS hp]
 simp only[Program.fieldsOf,Tryz.underlying28]
 by_cases h0:o=o'<;>by_cases h1:x=x'<;>by_cases h2:y=y'<;>go_simp
instance U4 (a b:Rec):dL ucC .neq 28 (.agg (Rec.cells a).toArray) (.agg (Rec.cells b).toArray) (.bool (!decide (a=b))):=⟨λw=>by
 have h:=MI a.own b.own (a.addr.toNat:Int) (a.seq.toNat:Int) (b.addr.toNat:Int) (b.seq.toNat:Int) w;have e:(a.own==b.own&&(((a.addr.toNat:Int)==(b.addr.toNat:Int))&&((a.seq.toNat:Int)==(b.seq.toNat:Int))))=decide (a=b):=by
  rw[YX];simp only[Ps,ubS,ual];constructor
  ·intro ⟨h0,h1,h2⟩;have e1:a.addr=b.addr:=HL.1 (by omega);have e2:a.seq=b.seq:=HL.1 (by omega);cases a;cases b;simp_all
  ·rintro rfl;exact⟨rfl,rfl,rfl⟩
 rw[e]at h;exact h,λw x y=>by apply run_eqGuard_agg;kernel_rfl⟩
theorem Gg (x:UInt8):decide (x=1)=(((x.toNat:Nat):Int)==1):=by
 rw[YX];simp only[ual,ubS];constructor
 ·rintro rfl;rfl
 ·intro h;apply ZW.1;show x.toNat=1;omega
theorem nQ (l:List UInt8) (i) (h:i+4<=l.length):bm (l.drop i) 0=bm l i:=by
 unfold bm dW;simp[W9]
theorem E4 (l:List UInt8) (h:13<=l.length):gy (l.take 13)=gy l:=by
 have e:∀i,i<13->dW (l.take 13) i=dW l i:=λi hi=>by
  unfold dW;simp[W9,G3,hi]
 unfold gy bm;rw[e 0 (by omega),e 1 (by omega),e (1+1) (by omega),e (1+2) (by omega),e (1+3) (by omega),e 5 (by omega),e (5+1) (by omega),e (5+2) (by omega),e (5+3) (by omega)]
def yg (v:Value):Nat->Value
 |0=>v
 |j+1=>cq 1 (yg v j) 13
instance Qn {α:Type} {H:af} {v:Value} {f:α->List Value} {l:List α} (j:Nat) [h:eX w0 H v α 1 f l]:eX w0 H (yg v j) α 1 f (l.drop (13*j)):=by
 induction j with
 |zero=>exact h
 |succ j ih=>
  have:=zN (size:=1) (w0:=w0) (H:=H) (v:=yg v j) (f:=f) (l:=l.drop (13*j)) 13;rw[uax]at this;exact this
theorem NC (xs:List UInt8) (js k) (hj:ic xs=js++jL (xs.length / 13 - k) (xs.drop (13*k))) (bW:13*k+13<=xs.length) (hx:(gy (xs.drop (13*k))).bytes=(xs.drop (13*k)).take 13):
 ic xs=(js++[gy (xs.drop (13*k))])++jL (xs.length / 13 - (k+1)) (xs.drop (13*(k+1))):=
 E3 xs js k _ hj rfl (by omega) hx
theorem ND (xs:List UInt8) (js k) (hj:ic xs=js++jL (xs.length / 13 - k) (xs.drop (13*k))) (hx:¬(gy (xs.drop (13*k))).bytes=(xs.drop (13*k)).take 13):ic xs=js:=by
 rw[hj,H2 _ _ hx,rL]
theorem C5 (xs:List UInt8) (js k) (hj:ic xs=js++jL (xs.length / 13 - k) (xs.drop (13*k))) (h:¬13*k+13<=xs.length):ic xs=js:=by
 rw[hj,C6 _ _ (by simp;omega),rL]
theorem Fp (l:List UInt8) (hl:l.length<=1000000) (v X) [hX:eX w0 X v UInt8 1 bU l]:Spec ucC w0 58 [v] X (λm:Value=> .tuple #[m,.int .i64 (13*((ic l).length:Int))]) (λm=>rows 28 3 Rec.cells m (ic l)*X):=by
 refine eZ Tryz.func58 Tryz.ntmps58 λG=> ?_;simp only[aN];repeat' (first|intro K hK|refine ax ?_)
 refine cV (aq.nil _ 28 3 Rec.cells none) ?_;refine aV (λm τ=>∃(j:Nat) (u:Value) (js:List Rec),j+m=l.length / 13/\js.length=j/\ic l=js++jL (l.length / 13 - j) (l.drop (13*j))/\τ=⟨[(5,yg v j),(4,u)],[],rows 28 3 Rec.cells u js*(X*G)⟩) ?_ ?_
 ·exact⟨l.length / 13,_,⟨0,_,[],by omega,rfl,by simp[ic],rfl⟩,cG,rfl,ah⟩
 ·rintro m τ ⟨j,u,js,SQ,P4,hj,rfl⟩;have El:(l.drop (13*j)).length=l.length - 13*j:=by simp
  rcases jP j (l.length / 13)with bW|kQ
  ·have TG:13*j+13<=l.length:=by omega
   have O5:((l.drop (13*j)).take 13).length=13:=by simp;omega
   have hz:((l.drop (13*j)).take 13)[0]? =some (dW (l.drop (13*j)) 0):=by
    rw[G3,jF (by omega)];exact fx (by omega)
   have OP:=oc w0 (((l.drop (13*j)).take 13).drop 1) (by simp;omega) (cq 1 (di (yg v j) 13) 1) (rows 28 3 Rec.cells u js*(X*G));have Us:=oc w0 (((l.drop (13*j)).take 13).drop 5) (by simp;omega) (cq 1 (di (yg v j) 13) 5) (rows 28 3 Rec.cells u js*(X*G));have hr:(⟨decide (dW (l.drop (13*j)) 0=1),bm (((l.drop (13*j)).take 13).drop 1) 0,bm (((l.drop (13*j)).take 13).drop 5) 0⟩:Rec)=gy (l.drop (13*j)):=by
    rw[<-E4 (l.drop (13*j)) (by omega),Gg,nQ _ 1 (by omega),nQ _ 5 (by omega)];unfold gy;congr 2;unfold dW;simp[W9,G3]
   have Ck:∀r',r'=gy (l.drop (13*j))->Spec ucC w0 31 [.agg r'.cells.toArray] emp (λv':Value=>v') (λv'=>rows 5 1 bU v' (gy (l.drop (13*j))).bytes):=by
    rintro _ rfl;exact oe w0 _
   have J6:=Ck _ hr;have yl:(gy (l.drop (13*j))).bytes.length=13:=Rec.dz _;repeat' (first|intro K hK|intro hc|refine xyZ ?_|refine aF ?_ ?_|refine zw3 λg=> ?_|((first|refine' LQ ?zh rfl ?_|refine' bk rfl rfl ?zh ?_);case zh=>intro F';first|exact bE rfl rfl iI|exact dv rfl rfl iI iI iI iI (by first|assumption|omega|(simp[al]<;>omega))|exact cW rfl rfl iI iI iI iI (by first|assumption|omega|(simp[al]<;>omega)))|refine bQ λg=> ?_|(show WS _ _ _ (.region 6 _ true) _ _;refine BI [0,1,2,3,4,5,7,8,6,9,10,11,12] (by kernel_rfl) rfl ?_)|(refine Bx iI rfl OP rfl ?_)|(refine Bx iI rfl Us rfl ?_)|refine cZ J6 λvb=> ?_|refine cZ (D8 w0 (gy (l.drop (13*j))).bytes ((l.drop (13*j)).take 13) (by omega) vb (di (yg v j) 13) (rows 5 1 bU vb (gy (l.drop (13*j))).bytes*X)) λue=> ?_|(refine ai (au Rec.cells [⟨decide (dW (l.drop (13*j)) 0=1),bm (((l.drop (13*j)).take 13).drop 1) 0,bm (((l.drop (13*j)).take 13).drop 5) 0⟩] iI iI iI rfl rfl rfl rfl rfl iI rfl rfl rfl) rfl ?_;intro vs)|(refine ai (aR rfl rfl iI iI rfl iI iI cO (by first|omega|(simp[al]<;>omega)) rfl) rfl ?_;intro va))
   ·have Eu:=ND l js j hj (by simpa using hc);rw[<-Eu];exact de (.inl rfl) rfl rfl rfl ⟨u,by rw[Eu],by rw[Eu];exact ah⟩
   ·have Eu:=NC l js j hj TG (by simpa using hc);refine⟨m - 1,_,by omega,⟨j+1,va,js++[gy (l.drop (13*j))],by omega,by simp[P4],Eu,rfl⟩,cG,rfl,?_⟩;rw[<-hr];exact ah
  ·exact paV
theorem Fc (l:List UInt8) (hl:l.length<=1000000):Spec ucC w0 92 [aZ l] emp (λm:Value=> .tuple #[m,.int .i64 ((13*(ic l).length:Nat):Int)]) (λm=>rows 28 3 Rec.cells m (ic l)):=by
 refine eZ Tryz.func92 Tryz.ntmps92 λG=> ?_;simp only[aN];repeat' (first|intro K hK|refine ax ?_)
 refine cV (aq.nil _ 28 3 Rec.cells none) ?_;refine aV (λm τ=>∃(j:Nat) (u:Value) (js:List Rec),j+m=l.length / 13/\js.length=j/\ic l=js++jL (l.length / 13 - j) (l.drop (13*j))/\τ=⟨[(0,aZ l),(5,.int .i64 ((13*j:Nat):Int)),(4,u)],[],rows 28 3 Rec.cells u js*(emp*G)⟩) ?_ ?_
 ·exact⟨l.length / 13,_,⟨0,_,[],by omega,rfl,by simp[ic],rfl⟩,cG,rfl,ah⟩
 ·rintro m τ ⟨j,u,js,SQ,P4,hj,rfl⟩;have El:(l.drop (13*j)).length=l.length - 13*j:=by simp
  rcases jP j (l.length / 13)with bW|kQ
  ·have TG:13*j+13<=l.length:=by omega
   have hz:l[13*j]? =some (dW l (13*j)):=fx (by omega);have OP:=cg w0 (l.drop (13*j+1)) (by simp;omega);have Us:=cg w0 (l.drop (13*j+5)) (by simp;omega);have hr:(⟨decide (dW l (13*j)=1),bm (l.drop (13*j+1)) 0,bm (l.drop (13*j+5)) 0⟩:Rec)=gy (l.drop (13*j)):=by
    have e1:=nQ (l.drop (13*j)) 1 (by omega);have e5:=nQ (l.drop (13*j)) 5 (by omega);rw[uax]at e1 e5;rw[e1,e5,Gg];unfold gy;congr 2;unfold dW;simp[W9]
   have Ck:∀r',r'=gy (l.drop (13*j))->Spec ucC w0 91 [.agg r'.cells.toArray] emp (λ_:Unit=>aZ (gy (l.drop (13*j))).bytes) (λ_=>emp):=by
    rintro _ rfl;exact mz w0 _
   have J6:=Ck _ hr;have yl:(gy (l.drop (13*j))).bytes.length=13:=Rec.dz _;have QI:13*j+13 - 13*j=13:=by omega
   repeat' (first|refine ae (id:=4) [0,1,2,3,4,5,6,7,9,10,11,12,8,13,14,15,16] 16 [2,7,11] ?_|refine cK (id:=4) 6 [0,1,2,3,4,5,6,7,9,10,11,12,8,13,14,15,16] 16 [] ?_|intro K hK|intro hc|refine xyZ ?_|refine aF ?_ ?_|refine zw3 λg=> ?_|((first|refine' LQ ?zh rfl ?_|refine' bP rfl rfl rfl ?zh ?_|refine' bk rfl rfl ?zh ?_);case zh=>intro F';first|exact bE rfl rfl iI|exact eH rfl rfl iI iI (by assumption)|exact dC rfl rfl iI iI (by first|assumption|omega))|refine bQ λg=> ?_|refine cZ OP λu1=> ?_|refine cZ Us λu5=> ?_|(refine lI (DG rfl rfl rfl iI iI iI (by omega) (by omega)) rfl ?_)|refine cZ J6 λvb=> ?_|(refine ai (au Rec.cells [⟨decide (dW l (13*j)=1),bm (l.drop (13*j+1)) 0,bm (l.drop (13*j+5)) 0⟩] iI iI iI rfl rfl rfl rfl rfl iI rfl rfl rfl) rfl ?_;intro vs)|(refine ai (aR rfl rfl iI iI rfl iI iI cO (by first|omega|(simp[al]<;>omega)) rfl) rfl ?_;intro va))
   all_goals rw[QI]at hc
   ·have Eu:=ND l js j hj (by simpa using hc);rw[<-Eu];exact de (.inl rfl) rfl rfl rfl ⟨u,by rw[Eu,P4],by rw[Eu];exact ah⟩
   ·have Eu:=NC l js j hj TG (by simpa using hc);refine⟨m - 1,_,by omega,⟨j+1,va,js++[gy (l.drop (13*j))],by omega,by simp[P4],Eu,rfl⟩,⟨rfl,by rw[Nat.mul_succ];rfl,rfl,trivial⟩,rfl,?_⟩;rw[<-hr];exact ah
  ·exact paV
theorem eE {α:Type} {p:List α->Prop} (l:List α) (nil:p []) (snoc:∀l x,p l->p (l++[x])):p l:=by
 suffices h:∀m:List α,p m.reverse by simpa using h l.reverse
 intro m;induction m with
 |nil=>exact nil
 |cons x m ih=>rw[List.reverse_cons];exact snoc _ _ ih
theorem C1 (l:List Rec) (r):(gP l r).length<=l.length+1:=by
 induction l with
 |nil=>simp[gP]
 |cons x l ih=>
  rw[gP];split
  ·simp
  ·split
   ·simp
   ·simp;omega
theorem zad (l:List Rec):(cC l).length<=l.length:=by
 induction l using eE with
 |nil=>simp[cC]
 |snoc l r ih=>rw[wT];have:=C1 (cC l) r.norm;simp;omega
theorem KM (v) (out:List Rec) (hl:out.length<=100000) (r:Rec):Spec ucC w0 199 [v,.agg r.cells.toArray] (rows 28 3 Rec.cells v out) (λv':Value=>v') (λv'=>rows 28 3 Rec.cells v' (gP out r.norm)):=by
 obtain⟨o,a,s⟩:=r;cases o
 ·exact HP w0 v out hl a s
 ·exact KO w0 v out hl a s
theorem mI (l:List Rec) (hl:l.length<=100000) (v X) [hX:eX w0 X v Rec 3 Rec.cells l]:Spec ucC w0 149 [v] X (λm:Value=>m) (λm=>rows 28 3 Rec.cells m (cC l)*X):=by
 refine eZ Tryz.func149 Tryz.ntmps149 λG=> ?_;simp only[aN];repeat' (first|intro K hK|refine ax ?_)
 refine cV (aq.nil _ 28 3 Rec.cells none) ?_;refine aV (λm τ=>∃(j:Nat) (u:Value),j+m=l.length/\τ=⟨[(0,v),(4,.int .i64 (j:Int)),(3,u)],[],rows 28 3 Rec.cells u (cC (l.take j))*(X*G)⟩) ?_ ?_
 ·exact⟨l.length,_,⟨0,_,by omega,rfl⟩,cG,rfl,ah⟩
 ·rintro m τ ⟨j,u,SQ,rfl⟩;rcases jP j l.length with bW|kQ
  ·obtain⟨z,hz⟩:∃z,l[j]? =some z:=⟨_,aX bW⟩
   have hb:(cC (l.take j)).length<=100000:=WA (zad _) (by simp;omega);have qa:=KM w0 u (cC (l.take j)) hb z;repeat' (first|intro hc|refine xyZ ?_|refine aF ?_ ?_|refine cZ qa λu2=> ?_)
   refine⟨m - 1,_,by omega,⟨j+1,u2,by omega,rfl⟩,cG,rfl,?_⟩;rw[AP,hz,Qf,wT];exact ah
  ·exact pa8
end
section
open Go.RowKit
theorem B5 {P:Program} {κ ν:Type} [DecidableEq κ] {fk:κ->Value} {fv:ν->Value} {kt:TypeId} (heq:∀a b w,(Op.equal kt (fk a) (fk b)).run P w= .ok (decide (a=b)) w) (k:κ) (w:World):∀(m:List (κ×ν)) (es:List MapEntry) (i:Nat),es.map (λe=>(e.key,e.val))=m.map (λp=>(fk p.1,fv p.2))->
 (Instr.findAsking kt (fk k) es i).run P w= .ok ((dT m k).bind λj=>(m[j]?).map λp=>(i+j,fv p.2)) w
 |[],es,i,h=>by
  have:es=[]:=by simpa using h
  subst this;rfl
 |p::m,[],i,h=>by simp at h
 |p::m,e::es,i,h=>by
  simp only[Hh,ubp,ua9]at h;obtain⟨⟨h1,h2⟩,h3⟩:=h;have ih:=B5 heq k w m es (i+1) h3;simp only[Instr.findAsking,h1,Sem.run_bind,heq,Result.andThen_ok];by_cases he:k=p.1
  ·subst he;simp[dT,h2]
  ·rw[EH he];simp only[AT,VC,ih,dT,uaT he];cases dT m k with
   |none=>rfl
   |some j=>simp[uba,Nat.add_comm 1 j]
theorem Cr {P:Program} {κ:Type} {fk:κ->Value} {kt:TypeId} {fs:Array Field} (hu:P.underlying kt=some (.struct fs)) (heq:∀(d:DecidableEq κ) a b w,(Op.equal kt (fk a) (fk b)).run P w= .ok (decide (a=b)) w)
 (hc:∀(empty:Bool) (k:κ) (w:World),(Instr.checkKey empty 10000 kt (fk k)).run P w= .ok () w) (hs:∀k:κ,Instr.sameBits 10000 (fk k) (fk k)=true):ou P kt fk where
 check:=hc
 same:=hs
 find:=λ{_} {ν} fv m k es w h=>by
  have:=B5 (fk:=fk) (fv:=fv) (heq inferInstance) k w m es 0 h;cases es with
  |nil=>
   have hm:m=[]:=by simpa using h.symm
   subst hm;simp[Instr.findKey,run_underlying hu,Instr.findNow,dT]
  |cons e es=>
   simp only[Instr.findKey,Sem.run_bind,run_underlying hu,Result.andThen_ok];have e0:Instr.findNow (.struct fs) (fk k) (e::es) 0=none:=by simp[Instr.findNow,Instr.sameNow]
   rw[e0];simp only[this,ubz]
theorem L5 (empty n o w):(Instr.checkKey empty (n+1) 4 (.bool o)).run ucC w= .ok () w:=by
 have u1:=Tryz.underlying4;unfold Instr.checkKey;go_simp
theorem FL (empty n x w):(Instr.checkKey empty (n+1) 26 (.int .u32 x)).run ucC w= .ok () w:=by
 have u1:=Tryz.underlying26;unfold Instr.checkKey;go_simp
theorem H4 (empty o x y w):(Instr.checkKey empty 10000 28 (.agg #[.bool o,.int .u32 x,.int .u32 y])).run ucC w= .ok () w:=by
 have u4:=Tryz.underlying26;have u1:=Tryz.underlying4;have hS:=Tryz.underlying28;have c1:=L5 empty 9998 o;exact pbB
theorem zeE (o o' x y x' y' w):
 (Op.equal 28 (.agg #[.bool o,.int .u32 x,.int .u32 y]) (.agg #[.bool o',.int .u32 x',.int .u32 y'])).run ucC w= .ok (o==o'&&(x==x'&&y==y')) w:=by
 have u4:=Tryz.underlying26
 have u1:=Tryz.underlying4
 have hS:Tryz.prog.underlying 28=some (.struct (Tryz.prog.fieldsOf 28)):=by kernel_rfl
 have hp:Tryz.prog.stoodInHeld 28=false:=by kernel_rfl
 rw[show Op.equal 28=Op.equalIn (9999+1) 28 from rfl,run_equalIn_agg w 9999 28 _ _ hS hp]
 simp only[Program.fieldsOf,Tryz.underlying28]
 by_cases h0:o=o'<;>by_cases h1:x=x'<;>by_cases h2:y=y'<;>go_simp
@[reducible] def zbW (r:Rec):Value:= .agg r.cells.toArray
instance:ou ucC 28 zbW:=Cr (fs:=Tryz.prog.fieldsOf 28) (by kernel_rfl) (λ_ a b w=>by
 have h:=zeE a.own b.own (a.addr.toNat:Int) (a.seq.toNat:Int) (b.addr.toNat:Int) (b.seq.toNat:Int) w;have e:(a.own==b.own&&(((a.addr.toNat:Int)==(b.addr.toNat:Int))&&((a.seq.toNat:Int)==(b.seq.toNat:Int))))=decide (a=b):=by
  rw[YX];simp only[Ps,ubS,ual];constructor
  ·intro ⟨h0,h1,h2⟩;have e1:a.addr=b.addr:=HL.1 (by omega);have e2:a.seq=b.seq:=HL.1 (by omega);cases a;cases b;simp_all
  ·rintro rfl;exact⟨rfl,rfl,rfl⟩
 rw[e]at h;exact h) (λempty k w=>H4 empty k.own _ _ w) (λk=>by
 show Instr.sameBits (9999+1) (.agg #[.bool k.own,u32 k.addr,u32 k.seq]) (.agg #[.bool k.own,u32 k.addr,u32 k.seq])=true;simp[Instr.sameBits,u32])
instance (o:Bool) (v1 v2:Value) (a b:UInt32) [h1:zag v1 a] [h2:zag v2 b]:zaF zbW (.agg #[.bool o,v1,v2]) ⟨o,a,b⟩:=⟨by rw[h1.eq,h2.eq];rfl⟩
attribute [local irreducible] WS LS OpQ y6 cn cv Spec bA aK
variable (w0:World)
def b9 (l:List Rec):List UInt8:=l.flatMap Rec.bytes
theorem yP (l:List Rec) (hl:l.length<=10000) (v X) [hX:eX w0 X v Rec 3 Rec.cells l]:Spec ucC w0 116 [v] X (λm:Value=>m) (λm=>rows 5 1 bU m (b9 l)*X):=by
 refine eZ Tryz.func116 Tryz.ntmps116 λG=> ?_;simp only[aN];repeat' (first|intro K hK|refine ax ?_)
 refine cV (aq.nil _ 5 1 bU none) ?_;refine aV (λm τ=>∃(j:Nat) (u:Value),j+m=l.length/\τ=⟨[(6,v),(7,.int .i64 (l.length:Int)),(8,.int .i64 (j:Int)),(3,u)],[],rows 5 1 bU u (b9 (l.take j))*(X*G)⟩) ?_ ?_
 ·exact⟨l.length,_,⟨0,_,by omega,rfl⟩,cG,rfl,ah⟩
 ·rintro m τ ⟨j,u,SQ,rfl⟩;rcases jP j l.length with bW|kQ
  ·obtain⟨z,hz⟩:∃z,l[j]? =some z:=⟨_,aX bW⟩
   have hb:(b9 (l.take j)).length<=130000:=by
    have:∀l:List Rec,(b9 l).length=13*l.length:=λl=>by
     induction l with
     |nil=>rfl
     |cons x l ih=>simp only[b9,RM,pU,Rec.dz,Pr]at ih ⊢;omega
    rw[this];simp;omega
   have O8:=Rec.dz z;have Ck:=oe w0 z;repeat' (first|intro hc|refine xyZ ?_|refine aF ?_ ?_|refine bT λg=> ?_|refine zw0 λg=> ?_|refine cZ Ck λv2=> ?_|(refine ai (aR rfl rfl iI iI rfl iI iI mS (by first|omega|(simp[al]<;>omega)) rfl) rfl ?_;intro va))
   refine⟨m - 1,_,by omega,⟨j+1,va,by omega,rfl⟩,cG,rfl,?_⟩;rw[AP,hz,Qf];simp only[b9,uaW,RM,uas,rL];exact ah
  ·exact pa8
end
end Go.Proofs.YtapoehkdnglahabGreat

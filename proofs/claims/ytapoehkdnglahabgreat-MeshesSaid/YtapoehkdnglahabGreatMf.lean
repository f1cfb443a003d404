/- A part. -/
import Derived.Test.YtapoehkdnglahabGreatMc
set_option maxHeartbeats 8000000
set_option maxRecDepth 100000
set_option linter.all false
namespace Go.Proofs.YtapoehkdnglahabGreat
section
open Go.RowKit
attribute [local irreducible] WS LS OpQ y6 cn cv Spec bA aK
variable (w0:World)
theorem mW (x):Spec ucC w0 59 [u32 x] emp (λ_:Unit=>u32 (if x+1=0 then x else x+1)) (λ_=>emp):=by
 refine eZ Tryz.func59 Tryz.ntmps59 λG=> ?_;simp only[aN];repeat' (first|intro hc|refine xyZ ?_|refine aF ?_ ?_|refine zw1 ?_)
 all_goals exact aC (.inl rfl) rfl rfl ⟨(),by simp[*],aq.refl _⟩
theorem zg (p:Pk) (hp:p.Ok) (v X) [hX:eX w0 X v (UInt32×UInt32) 2 bB p.lost]:Spec ucC w0 212 [p.val v] X (λ_:Unit=> .bool (decide p.Fits)) (λ_=>X):=by
 obtain⟨⟨t1,t2⟩,⟨k1,k2⟩,⟨h1,h2⟩,hl,hs⟩:=hp;refine eZ Tryz.func212 Tryz.ntmps212 λG=> ?_;simp only[aN,Pk.val,Pk.cells];cases hu:p.unknown;repeat' (first|(intro hc;try exact aG)|refine yZ ?_|refine aF ?_ ?_|((first|refine dn rfl rfl iI rfl ?_ ?_|refine dm rfl rfl iI rfl ?_ ?_)<;>intro hc))
 all_goals refine aC (.inl rfl) rfl rfl ⟨(),?_,aq.drop _ _⟩
 all_goals congr 1
 all_goals try(have:=G2 List.length ‹p.ar=[]›;simp only[HM]at this)
 all_goals simp[Pk.Fits, *]
 all_goals have e1:p.lost=[]↔p.lost.length=0:=by simp
 all_goals try simp only[e1]
 all_goals first|omega|(intros;omega)
theorem oL (m):Spec ucC w0 126 [.int .i64 m] emp (λ_:Unit=>aZ [b8 m]) (λ_=>emp):=by
 refine eZ Tryz.func126 Tryz.ntmps126 λG=> ?_;simp only[aN];repeat' (first|intro K hK|refine ax ?_|((refine' LQ ?zh rfl ?_);case zh=>intro F';first|exact kY rfl iI rfl iI iI iI|exact Aa rfl iI iI)|refine zhI λg=> ?_)
 all_goals exact aC (.inl rfl) rfl rfl ⟨(),rfl,aq.take aq.last⟩
theorem jz (x):Spec ucC w0 127 [u32 x] emp (λ_:Unit=>aZ (be x)) (λ_=>emp):=by
 refine eZ Tryz.func127 Tryz.ntmps127 λG=> ?_;simp only[aN,Jj];repeat' (first|intro K hK|refine ax ?_|((refine' LQ ?zh rfl ?_);case zh=>intro F';first|exact bE rfl rfl iI|exact wk rfl iI iI iI|exact kY rfl iI rfl iI iI iI)|refine zhI λg=> ?_)
 all_goals exact aC (.inl rfl) rfl rfl ⟨(),rfl,aq.take aq.last⟩
def Pk.own (p:Pk):Pk:=
 if p.kind=1 then {p with ak:=if p.unknown then 0 else p.ak,bD:=0,lost:=[],ar:=[]}
 else if p.kind=2 then {p with unknown:=false,id:=0,av:=0,lost:=[],ar:=[]}
 else if p.kind=3 then {p with aH:=0,unknown:=false,id:=0,dest:=0,ak:=0,from_:=0,av:=0,bD:=0,ar:=[]}
 else if p.kind=9 then {p with aH:=0,unknown:=false,ak:=0,av:=0,bD:=0,lost:=[]}
 else⟨p.bK,p.kind,0,false,0,0,0,0,0,0,[],[]⟩
def Pk.xS (p:Pk) (v:Value):Value:=if p.kind=3 then v else .slice none 0 0
theorem CX (p:Pk) (v:Value) (hv:v.oneCell'=true):Spec ucC w0 124 [p.val v] emp (λ_:Unit=>p.own.val (p.xS v)) (λ_=>emp):=by
 refine eZ Tryz.func124 Tryz.ntmps124 λG=> ?_;simp only[aN,Pk.val,Pk.cells];repeat' (first|(intro hc;try exact aG)|refine xyZ ?_|refine aF ?_ ?_|((first|refine dn rfl rfl iI rfl ?_ ?_|refine dm rfl rfl iI rfl ?_ ?_)<;>intro hc)|refine bT λg=> ?_|((refine' bL ?zh ?_);(case zh=>first|exact kV rfl rfl iI (by first|rfl|assumption) iI rfl|exact bo rfl rfl iI iI (by first|rfl|(simp only[uao,uaK, *];rfl)) rfl);intro g)|fail)
 all_goals refine gD (.inl rfl) rfl (aS rfl iI iI rfl) ⟨(),by simp[Pk.own,Pk.xS, *],aq.take aq.last⟩
instance:DecidableEq Pk:=λp q=>decidable_of_iff (p.bK=q.bK/\p.kind=q.kind/\p.aH=q.aH/\p.unknown=q.unknown/\p.id=q.id/\p.dest=q.dest/\p.ak=q.ak/\p.from_=q.from_/\p.av=q.av/\p.bD=q.bD/\p.lost=q.lost/\p.ar=q.ar) (by cases p;cases q;simp)
theorem Kl (x y x' y' w):
 (binOp .neq 180 (.agg #[.int .u32 x,.int .u32 y]) (.agg #[.int .u32 x',.int .u32 y'])).run ucC w= .ok (.bool (!(x==x'&&y==y'))) w:=by
 have u4:=Tryz.underlying26
 have hS:Tryz.prog.underlying 180=some (.struct (Tryz.prog.fieldsOf 180)):=by kernel_rfl
 have hp:Tryz.prog.stoodInHeld 180=false:=by kernel_rfl
 rw[run_neq_struct,show(10000:Nat)=9999+1 from rfl,run_equalIn_agg w 9999 180 _ _ hS hp]
 simp only[Program.fieldsOf,Tryz.underlying180]
 by_cases h1:x=x'<;>by_cases h2:y=y'<;>go_simp
instance Tc (a b:UInt32×UInt32):dL ucC .neq 180 (.agg (bB a).toArray) (.agg (bB b).toArray) (.bool (!decide (a=b))):=⟨λw=>by
 have h:=Kl (a.1.toNat:Int) (a.2.toNat:Int) (b.1.toNat:Int) (b.2.toNat:Int) w;have e:(((a.1.toNat:Int)==(b.1.toNat:Int))&&((a.2.toNat:Int)==(b.2.toNat:Int)))=decide (a=b):=by
  rw[YX];simp only[Ps,ubS,ual];constructor
  ·intro ⟨h1,h2⟩;exact Prod.ext (HL.1 (by omega)) (HL.1 (by omega))
  ·rintro rfl;exact⟨rfl,rfl⟩
 rw[e]at h;exact h,λw x y=>by apply run_eqGuard_agg;kernel_rfl⟩
theorem Pk.ext' {p q:Pk} (h1:p.bK=q.bK) (h2:p.kind=q.kind) (h3:p.aH=q.aH) (h4:p.unknown=q.unknown) (h5:p.id=q.id) (h6:p.dest=q.dest) (h7:p.ak=q.ak) (h8:p.from_=q.from_) (h9:p.av=q.av) (VG:p.bD=q.bD) (VH:p.lost=q.lost) (Ol:p.ar=q.ar):p=q:=by
 cases p;cases q;simp only at h1 h2 h3 h4 h5 h6 h7 h8 h9 VG VH Ol;subst h1 h2 h3 h4 h5 h6 h7 h8 h9 VG VH Ol;rfl
theorem sN {α:Type} {l m:List α} {k a b} (h:l.take k=m.take k) (ha:l[k]? =some a) (hb:m[k]? =some b) (e:a=b):l.take (k+1)=m.take (k+1):=by
 rw[AP,AP,h,ha,hb,e]
theorem wD (p q:Pk) (hp:p.lost.length<=100000) (hq:q.lost.length<=100000) (v u:Value) (X:af) (hX:eX w0 X v (UInt32×UInt32) 2 bB p.lost) (hY:eX w0 X u (UInt32×UInt32) 2 bB q.lost):Spec ucC w0 125 [p.val v,q.val u] X (λ_:Unit=> .bool (decide (p=q))) (λ_=>X):=by
 refine eZ Tryz.func125 Tryz.ntmps125 λG=> ?_;simp only[aN,Pk.val,Pk.cells];repeat' (first|(refine hK _ ?_;clear hK K)|intro K hK|(intro hc;try exact aG)|refine xyZ ?_|refine aF ?_ ?_|((first|refine dn rfl rfl iI rfl ?_ ?_|refine dm rfl rfl iI rfl ?_ ?_|refine dU rfl rfl iI rfl ?_ ?_)<;>intro hc)|refine bT λg=> ?_)
 rotate_left
 ·exact pbC
 rename_i g';refine aV (λm τ=>∃k,k+m=p.lost.length/\p.lost.take k=q.lost.take k/\τ=⟨[(5,.int .i64 (k:Int)),(3,ptr g 0),(2,ptr g' 0)],[],aK g 44 (q.cells u)*(aK g' 44 (p.cells v)*(X*G))⟩) ?_ ?_
 ·exact⟨p.lost.length,_,⟨0,by omega,rfl,rfl⟩,cG,rfl,aq.refl _⟩
 ·rintro m τ ⟨k,P6,hk,rfl⟩;simp only[Pk.cells];rcases jP k p.lost.length with bW|kQ
  ·obtain⟨z,hz⟩:∃z,p.lost[k]? =some z:=⟨_,aX bW⟩
   have J3:k<q.lost.length:=by omega
   obtain⟨z',pF⟩:∃z,q.lost[k]? =some z:=⟨_,aX J3⟩
   repeat' (first|(refine hK _ ?_;clear hK K)|intro K hK|(intro hc;try exact aG)|refine xyZ ?_|refine aF ?_ ?_|((first|refine dn rfl rfl iI rfl ?_ ?_|refine dm rfl rfl iI rfl ?_ ?_|refine dU rfl rfl iI rfl ?_ ?_)<;>intro hc)|refine mO (by kernel_rfl) ?_)
   ·exact pbr
   ·exact⟨m - 1,_,by omega,⟨k+1,by omega,sN hk hz pF (by simpa using hc),rfl⟩,cG,rfl,aq.refl _⟩
  ·obtain rfl:k=p.lost.length:=by omega
   have hl:p.lost=q.lost:=by
    rw[PE,Gz (by omega)]at hk;exact hk
   repeat' (first|(refine hK _ ?_;clear hK K)|intro K hK|(intro hc;try exact aG)|refine xyZ ?_|refine aF ?_ ?_|((first|refine dn rfl rfl iI rfl ?_ ?_|refine dm rfl rfl iI rfl ?_ ?_|refine dU rfl rfl iI rfl ?_ ?_)<;>intro hc))
   all_goals refine aC (.inl rfl) rfl rfl ⟨(),?_,aq.take aq.last⟩
   all_goals first
    |(rw[EH];rintro rfl;exact hc rfl;done)
    |(rw[Dp];apply Pk.ext'<;>assumption;done)
theorem jG (v) (l:List UInt8) (x) (hl:l.length<=900000):Spec ucC w0 54 [v,u32 x] (rows 5 1 bU v l) (λv':Value=>v') (λv'=>rows 5 1 bU v' (l++be x)):=by
 refine eZ Tryz.func54 Tryz.ntmps54 λG=> ?_;simp only[aN,Jj];repeat' (first|intro K hK|refine ax ?_|((refine' LQ ?zh rfl ?_);case zh=>intro F';first|exact bE rfl rfl iI|exact wk rfl iI iI iI)|refine zfT λg=> ?_)
 all_goals exact aC (.inl rfl) rfl rfl ⟨_,rfl,aq.refl _⟩
def Pk.out (p:Pk):List UInt8:=if p.Fits then p.bytes else []
theorem Pk.vV {p:Pk} (h:p.Fits):p.out=p.bytes:=jF h
theorem Pk.A7 {p:Pk} (h:¬p.Fits):p.out=[]:=eQ h
theorem Pk.Fits.kind {p:Pk} (h:p.Fits):p.kind=1\/p.kind=2\/p.kind=3\/p.kind=9:=by
 unfold Pk.Fits at h;rcases h.2 with h|h|h|h<;>simp[h.1]
theorem JG (p:Pk) (hp:p.Ok) (h3:p.kind≠3) (v X) [hX:eX w0 X v (UInt32×UInt32) 2 bB p.lost]:Spec ucC w0 169 [p.val v] X (λv':Value=> .tuple #[v',.bool (decide p.Fits)]) (λv'=>rows 5 1 bU v' p.out*X):=by
 have qB:=zg w0 p hp v X;obtain⟨⟨t1,t2⟩,⟨k1,k2⟩,⟨h1,h2⟩,hl,hs⟩:=hp;refine eZ Tryz.func169 Tryz.ntmps169 λG=> ?_;simp only[aN,Pk.val,Pk.cells];repeat' (first|refine ab λK hK=> ?_|refine ax ?_|(refine aF ?_ ?_<;>intro hc<;>try exact aG)|((refine' LQ ?zh rfl ?_);case zh=>intro F';first|exact IY iI iI iI rfl rfl|exact Aa rfl iI iI|exact I0 rfl rfl iI iI iI (by omega) rfl)|((first|refine dn rfl rfl iI rfl ?_ ?_|refine dm rfl rfl iI rfl ?_ ?_|refine dU rfl rfl iI rfl ?_ ?_)<;>intro hc)|refine bT λg=> ?_|((refine' ai ?zh rfl ?_);(case zh=>first|exact lF iI iI iI rfl rfl rfl rfl rfl iI rfl rfl|exact te rfl rfl iI iI rfl iI iI mS (by first|omega|(simp[al]<;>omega)) rfl|exact GD rfl rfl iI rfl iI iI (by first|omega|(simp[al]<;>omega)) rfl);intro g)|refine zfV λg=> ?_|refine cZ qB λg=> ?_|(refine ai (Fw iI rfl (jG w0 _ _ _ (by first|omega|(simp[al]<;>omega))) iI) rfl ?_;intro g)|refine th 6 ?_)
 ·exact pa7
 all_goals have hF:=‹p.Fits›
 all_goals have hk:=hF.kind
 all_goals simp only[Dp hF,Pk.vV hF,ad]
 all_goals refine de (.inl rfl) rfl rfl rfl ⟨_,rfl,aq.Dr ?_ (aq.take aq.last)⟩
 all_goals first|(exfalso;omega)|(simp[Pk.bytes, *];try decide)
def Pk.upto (p:Pk) (k:Nat):List UInt8:=[b8 p.bK,3,0,0]++[b8 p.lost.length]++gi (p.lost.take k)
theorem Pk.uQ (p:Pk) (k):(p.upto k).length=5+8*min k p.lost.length:=by
 simp[Pk.upto,jY];omega
theorem Pk.zX {p:Pk} {k z} (h:p.lost[k]? =some z):p.upto k++be z.1++be z.2=p.upto (k+1):=by
 simp[Pk.upto,vg _ _ _ h]
theorem Pk.Du {p:Pk} (h:p.kind=3):p.upto p.lost.length=p.bytes:=by
 simp[Pk.upto,Pk.bytes,h]
theorem JF (p:Pk) (hp:p.Ok) (h3:p.kind=3) (v X) [hX:eX w0 X v (UInt32×UInt32) 2 bB p.lost]:Spec ucC w0 169 [p.val v] X (λv':Value=> .tuple #[v',.bool (decide p.Fits)]) (λv'=>rows 5 1 bU v' p.out*X):=by
 have qB:=zg w0 p hp v X;obtain⟨⟨t1,t2⟩,⟨k1,k2⟩,⟨h1,h2⟩,hl,hs⟩:=hp;refine eZ Tryz.func169 Tryz.ntmps169 λG=> ?_;simp only[aN,Pk.val,Pk.cells];repeat' (first|intro K hK|intro hc|refine xyZ ?_|refine aF ?_ ?_|((refine' LQ ?zh rfl ?_);case zh=>intro F';exact Aa rfl iI iI)|refine bT λg=> ?_|refine zfT λg=> ?_|refine cZ qB λg=> ?_)
 ·exact pa7
 refine aV (λm τ=>∃k v',k+m=p.lost.length/\τ=⟨[(4,v'),(91,.int .i64 (k:Int)),(90,.int .i64 (p.lost.length:Int)),(89,v)],[],rows 5 1 bU v' (p.upto k)*(X*G)⟩) ?_ ?_
 ·refine⟨p.lost.length,_,⟨0,g,by omega,rfl⟩,cG,rfl,?_⟩;exact aq.Dr (by simp[Pk.upto,h3];exact⟨rfl,rfl⟩) (aq.take aq.last)
 ·rintro m τ ⟨k,v',P6,rfl⟩;clear g;rcases jP k p.lost.length with bW|kQ
  ·obtain⟨z,hz⟩:∃z,p.lost[k]? =some z:=⟨_,aX bW⟩
   repeat' (first|intro K hK|intro hc|refine xyZ ?_|refine aF ?_ ?_|refine bT λg=> ?_|refine zw0 λg=> ?_)
   have Yi:=p.uQ k;refine I4 [0,1,2,4,5,3,6,7] (by kernel_rfl) iI ?_;repeat' (first|refine ax ?_|(refine aD (Fw iI rfl (jG w0 _ _ _ (by first|omega|(simp[al]<;>omega))) iI) rfl rfl rfl ?_;intro g))
   refine⟨m - 1,_,by omega,⟨k+1,g,by omega,rfl⟩,cG,rfl,?_⟩;exact aq.Dr (Pk.zX hz) (aq.take aq.last)
  ·obtain rfl:k=p.lost.length:=by omega
   repeat' (first|intro K hK|intro hc|refine xyZ ?_|refine aF ?_ ?_)
   simp only[Dp hc,Pk.vV hc,ad];exact de (.inl rfl) rfl rfl rfl ⟨_,rfl,aq.Dr (Pk.Du h3) (aq.take aq.last)⟩
theorem B1 (p:Pk) (hp:p.Ok) (v X) [hX:eX w0 X v (UInt32×UInt32) 2 bB p.lost]:Spec ucC w0 169 [p.val v] X (λv':Value=> .tuple #[v',.bool (decide p.Fits)]) (λv'=>rows 5 1 bU v' p.out*X):=by
 by_cases h:p.kind=3
 ·exact JF w0 p hp h v X
 ·exact JG w0 p hp h v X
theorem Pk.rS (p:Pk):p.Fits↔(1<=p.bK/\p.bK<=255/\0<=p.aH/\p.aH<=255/\p.ar.length<=16)/\p=p.own/\(p.kind=1\/p.kind=2\/(p.kind=3/\1<=p.lost.length/\p.lost.length<=8)\/p.kind=9):=by
 obtain⟨bK,kind,aH,unknown,id,dest,ak,from_,av,bD,lost,ar⟩:=p;by_cases h1:kind=1
 ·subst h1;cases unknown<;>simp[Pk.Fits,Pk.own]<;>first|(constructor<;>intro h<;>simp_all<;>done)|(intros;simp_all;done)
 ·by_cases h2:kind=2
  ·subst h2;simp[Pk.Fits,Pk.own];constructor<;>intro h<;>simp_all
  ·by_cases h3:kind=3
   ·subst h3;simp[Pk.Fits,Pk.own];constructor<;>intro h<;>simp_all<;>omega
   ·by_cases h9:kind=9
    ·subst h9;simp[Pk.Fits,Pk.own];constructor<;>intro h<;>simp_all
    ·simp[Pk.Fits,Pk.own,h1,h2,h3,h9]
theorem Gh (p:Pk) (v X) (hX:eX w0 X v (UInt32×UInt32) 2 bB p.lost):eX w0 X (p.xS v) (UInt32×UInt32) 2 bB p.own.lost:=by
 by_cases h3:p.kind=3
 ·have e1:p.xS v=v:=jF h3;have e2:p.own.lost=p.lost:=by simp[Pk.own,h3]
  rw[e1,e2];exact hX
 ·have e1:p.xS v= .slice none 0 0:=eQ h3;have e2:p.own.lost=[]:=by
   simp only[Pk.own,eQ h3];repeat' split
   all_goals rfl
  rw[e1,e2];exact mw _ _ _
theorem sy (p:Pk):p.own.lost.length<=p.lost.length:=by
 unfold Pk.own;repeat' split
 all_goals simp
def Pk.ret (p:Pk):Value:= .tuple #[aZ p.out,.int .i64 (if p.Fits then 0 else 1)]
theorem Pk.mx {p:Pk} (h:p.Fits):p.ret= .tuple #[aZ p.bytes,.int .i64 0]:=by simp[Pk.ret,Pk.out,h]
theorem Pk.my {p:Pk} (h:¬p.Fits):p.ret= .tuple #[aZ [],.int .i64 1]:=by simp[Pk.ret,Pk.out,h]
theorem H7 (p:Pk) (hp:p.Ok) (h3:p.kind≠3) (v:Value) (hv:v.oneCell'=true) (X) [hX:eX w0 X v (UInt32×UInt32) 2 bB p.lost]:Spec ucC w0 77 [p.val v] X (λ_:Unit=>p.ret) (λ_=>X):=by
 have kg:=CX w0 p v hv;simp only[Pk.val,Pk.cells]at kg;have Ej:=wD w0 p p.own hp.lost (WA (sy p) hp.lost) v (p.xS v) X hX (Gh w0 p v X hX);have hv2:(p.xS v).oneCell'=true:=by unfold Pk.xS;rw[eQ h3];rfl
 have qB:=p.rS;obtain⟨⟨t1,t2⟩,⟨k1,k2⟩,⟨h1,h2⟩,hl,hs⟩:=hp;refine eZ Tryz.func77 Tryz.ntmps77 λG=> ?_;simp only[aN,Pk.val,Pk.cells];repeat' (first|refine ag (id:=5) [0,1,3,4,2,5,6,7] ?_|refine ag (id:=11) [0,1,5,6,9,10,13,14,17,18,21,22,25,26,2,3,4,7,8,11,12,15,16,19,20,23,24,27,28,29,30] ?_|refine ag (id:=13) [0,1,2,3,6,7,10,11,14,15,18,19,4,5,8,9,12,13,16,17,20,21,22,23] ?_|refine ag (id:=24) [0,1,2,3,4,7,8,11,12,15,16,19,20,5,6,9,10,13,14,17,18,21,22,23] ?_|(intro hc;try exact aG)|refine xyZ ?_|refine aF ?_ ?_|refine zhv ?_|((first|refine dn rfl rfl iI rfl ?_ ?_|refine dm rfl rfl iI rfl ?_ ?_|refine dU rfl rfl iI rfl ?_ ?_)<;>intro hc)|refine bT λg=> ?_|refine zw0 λg=> ?_|(refine aD (aa iI rfl (oL w0 _) iI) rfl rfl rfl ?_;intro g)|(refine aD (aa iI rfl (jz w0 _) iI) rfl rfl rfl ?_;intro g)|refine cZ kg λg=> ?_|refine cZ Ej λg=> ?_)
 all_goals try refine de (.inl rfl) rfl rfl rfl ⟨(),(Pk.my ?_).symm,aq.take aq.last⟩
 all_goals try(intro hF;rw[qB]at hF;obtain⟨⟨_,_,_,_,_⟩,he,_⟩:=hF;first|contradiction|omega)
 all_goals have hF:p.Fits:=p.rS.2 ⟨⟨by omega,by omega,by omega,by omega,by omega⟩,‹p=p.own›,by omega⟩
 all_goals refine de (.inl rfl) rfl rfl rfl ⟨(),?_,aq.take aq.last⟩
 all_goals rw[Pk.mx hF]
 all_goals first
  |(simp[Pk.bytes,‹p.kind=1›,‹p.unknown=true›];decide)
  |(simp[Pk.bytes,‹p.kind=1›,‹p.unknown=false›];decide)
  |(simp[Pk.bytes,‹p.kind=2›];decide)
  |(simp[Pk.bytes,‹p.kind=9›];decide)
theorem Pk.Ss {p:Pk} (h:p.kind=3) (k):[b8 p.bK]++[b8 p.kind]++[0,0]++[b8 p.lost.length]++gi (p.lost.take k)=p.upto k:=by
 rw[h];simp[Pk.upto];decide
theorem H6 (p:Pk) (hp:p.Ok) (h3:p.kind=3) (v:Value) (hv:v.oneCell'=true) (X) [hX:eX w0 X v (UInt32×UInt32) 2 bB p.lost]:Spec ucC w0 77 [p.val v] X (λ_:Unit=>p.ret) (λ_=>X):=by
 have kg:=CX w0 p v hv;simp only[Pk.val,Pk.cells]at kg;have Ej:=wD w0 p p.own hp.lost (WA (sy p) hp.lost) v (p.xS v) X hX (Gh w0 p v X hX);have hv2:(p.xS v).oneCell'=true:=by unfold Pk.xS;rw[jF h3];exact hv
 have qB:=p.rS;obtain⟨⟨t1,t2⟩,⟨k1,k2⟩,⟨h1,h2⟩,hl,hs⟩:=hp;refine eZ Tryz.func77 Tryz.ntmps77 λG=> ?_;simp only[aN,Pk.val,Pk.cells];repeat' (first|refine ag (id:=5) [0,1,3,4,2,5,6,7] ?_|(intro hc;try exact aG)|refine xyZ ?_|refine aF ?_ ?_|refine zhv ?_|((first|refine dn rfl rfl iI rfl ?_ ?_|refine dm rfl rfl iI rfl ?_ ?_|refine dU rfl rfl iI rfl ?_ ?_)<;>intro hc)|refine bT λg=> ?_|refine zw0 λg=> ?_|(refine aD (aa iI rfl (oL w0 _) iI) rfl rfl rfl ?_;intro g)|(refine ai (aa iI rfl (oL w0 _) iI) rfl ?_;intro g)|refine cZ kg λg=> ?_|refine cZ Ej λg=> ?_)
 all_goals try refine de (.inl rfl) rfl rfl rfl ⟨(),(Pk.my ?_).symm,aq.take aq.last⟩
 all_goals try(intro hF;rw[qB]at hF;obtain⟨⟨_,_,_,_,_⟩,he,_⟩:=hF;first|contradiction|omega)
 refine aV (λm τ=>∃k gg,k+m=p.lost.length/\τ=⟨[(9,.int .i64 (k:Int)),(8,aZ (p.upto k)),(1,ptr gg 0)],[],aK gg 44 (p.cells v)*(X*G)⟩) ?_ ?_
 ·refine⟨p.lost.length,_,⟨0,_,by omega,rfl⟩,⟨rfl,?_,rfl,trivial⟩,rfl,by dsimp only[Pk.cells];exact aq.take (aq.take aq.last)⟩;rw[<-Pk.Ss h3];simp[gi];rfl
 ·rintro m τ ⟨k,gg,P6,rfl⟩;simp only[Pk.cells];have Yi:=p.uQ k;rcases jP k p.lost.length with bW|kQ
  ·obtain⟨z,hz⟩:∃z,p.lost[k]? =some z:=⟨_,aX bW⟩
   repeat' (first|refine ag (id:=21) [0,1,2,3,4,5,6,9,10,11,12,13,14,7,8,15,16,17] ?_|intro hc|refine xyZ ?_|refine aF ?_ ?_|refine zhv ?_|(refine aD (aa iI rfl (jz w0 _) iI) rfl rfl rfl ?_;intro g))
   refine⟨m - 1,_,by omega,⟨k+1,_,by omega,rfl⟩,⟨rfl,?_,rfl,trivial⟩,rfl,by dsimp only[Pk.cells];exact aq.take (aq.take aq.last)⟩;rw[<-Pk.zX hz];rfl
  ·obtain rfl:k=p.lost.length:=by omega
   repeat' (first|intro hc|refine xyZ ?_|refine aF ?_ ?_)
   have hF:p.Fits:=p.rS.2 ⟨⟨by omega,by omega,by omega,by omega,by omega⟩,‹p=p.own›,by omega⟩;refine de (.inl rfl) rfl rfl rfl ⟨(),?_,aq.take aq.last⟩;rw[Pk.mx hF,<-Pk.Du h3]
theorem gJ (p:Pk) (hp:p.Ok) (v:Value) (hv:v.oneCell'=true) (X) [hX:eX w0 X v (UInt32×UInt32) 2 bB p.lost]:Spec ucC w0 77 [p.val v] X (λ_:Unit=>p.ret) (λ_=>X):=by
 by_cases h:p.kind=3
 ·exact H6 w0 p hp h v hv X
 ·exact H7 w0 p hp h v hv X
end
end Go.Proofs.YtapoehkdnglahabGreat

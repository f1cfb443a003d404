/- A part. -/
import Derived.Test.YtapoehkdnglahabGreatMxg
import Derived.Test.YtapoehkdnglahabGreatMxh
set_option maxHeartbeats 0
set_option maxRecDepth 100000
set_option linter.all false
namespace Go.Proofs.YtapoehkdnglahabGreat
open Go.RowKit
variable (w0:World)
section
attribute [local irreducible] WS LS OpQ y6 cn cv Spec bA iR iQ aK
theorem HY (l) (t k f z n:UInt8) (r:List UInt8) (ku:l=t::k::f::z::n::r) (hr:r.length<=100000) (hk:k.toNat=3) (hl:r.length=8*n.toNat):Spec ucC w0 128 [aZ l] emp (λv':Value=>gl l v') (λv'=>ey l v' emp):=by
 have h0:l[0]? =some t:=by rw[ku];rfl
 have h1:l[1]? =some k:=by rw[ku];rfl
 have h2:l[2]? =some f:=by rw[ku];rfl
 have h4:l[4]? =some n:=by rw[ku];rfl
 have uD:l.drop 5=r:=by rw[ku];rfl
 have hlen:l.length=r.length+5:=by rw[ku];rfl
 have hn9:=n.toNat_lt;have El:(l.drop 5).length=r.length:=by rw[uD]
 obtain⟨p,hp⟩:∃p:Pk,p=⟨t.toNat,k.toNat,0,false,0,0,0,0,0,0,dZ r n.toNat,[]⟩:=⟨_,rfl⟩
 have hc:∀q,Pk.dec l=some q->q=p:=λq hq=>by
  rw[ku]at hq;obtain rfl:=dk hk (by decide);simp only[Pk.dec,Pk.body]at hq;repeat' split at hq
  all_goals first|(cases hq;done)|(exfalso;simp_all;done)|(cases hq;rw[hp];simp_all)
 have Eo:=jZ r n.toNat;have gG:p.Ok:=by rw[hp];exact w7 (K7 _) (K7 _) (by simp[cM]) (by simp only[Eo];omega) (by simp)
 have jd:p.lost=dZ r n.toNat:=by rw[hp]
 have dY:∀vl:Value,vl.oneCell'=true->Spec ucC w0 77 [p.val vl] (rows 180 2 bB vl (dZ r n.toNat)) (λ_:Unit=>p.ret) (λ_=>rows 180 2 bB vl (dZ r n.toNat)):=λvl hv=>by
  haveI:eX w0 (rows 180 2 bB vl (dZ r n.toNat)) vl (UInt32×UInt32) 2 bB p.lost:=by rw[jd];infer_instance
  have Cj:∀w:World,True:=λ_=>trivial;exact gJ w0 p gG vl hv _
 have RU:∀i:Nat,i+4<=r.length->Spec ucC w0 148 [aZ (r.drop i)] emp (λ_:Unit=>u32 (bm r i)) (λ_=>emp):=λi hi=>by
  have h:=cg w0 (r.drop i) (by simp;omega);rwa[cI]at h
 refine eZ Tryz.func128 Tryz.ntmps128 λG=> ?_;simp only[aN];repeat' (first|(refine hK _ ?_;clear hK K)|refine zgR ?_|refine zdl ?_|intro K hK|intro hc|refine xyZ ?_|refine aF ?_ ?_|refine zw3 λg=> ?_|((first|refine' LQ ?zh rfl ?_|refine' bP rfl rfl rfl ?zh ?_|refine' bk rfl rfl ?zh ?_);case zh=>intro F';first|exact bp rfl rfl iI (by first|assumption|omega|decide|rfl)|exact bH rfl rfl iI (by first|assumption|omega|decide|rfl)|exact fu rfl iI iI|exact eH rfl rfl iI iI (by assumption)|exact dC rfl rfl iI iI (by first|assumption|omega))|refine bT λg=> ?_|refine bQ λg=> ?_|rw[uD])
 rename_i a b;refine aV (λm τ=>∃(i:Nat) (vl:Value),i+m=n.toNat/\τ=⟨[(7,.int .i64 (i:Int)),(5,.int .i64 (n.toNat:Int)),(6,aZ r),(4,ptr b 0),(2,ptr a 0),(0,aZ l)],[],rows 180 2 bB vl (dZ r i)*(aK b 44 [.int .i64 (t.toNat:Int),.int .i64 (k.toNat:Int),.int .i64 0,.bool false,u32 0,u32 0,u32 0,u32 0,u32 0,u32 0,vl,aZ []]*(aK a 44 [.int .i64 0,.int .i64 0,.int .i64 0,.bool false,u32 0,u32 0,u32 0,u32 0,u32 0,u32 0,.slice none 0 0,aZ []]*G))⟩) ?_ ?_
 ·refine⟨n.toNat,_,⟨0,.slice none 0 0,by omega,rfl⟩,cG,rfl,?_⟩;refine aq.Pu ?_;exact ah
 ·rintro m τ ⟨i,vl,P2,rfl⟩;rcases jP i n.toNat with bW|kQ
  ·have j7:=RU (8*i) (by omega);have mF:=RU (8*i+4) (by omega);have yz:=jZ r i;repeat' (first|(refine hK _ ?_;clear hK K)|refine ae (id:=25) [0,1,2,3,4,5,7,8,9,10,11,6,12,13,14,15,16,17] 15 [1,5,10] ?_|refine cK (id:=25) 4 [0,1,2,3,4,5,7,8,9,10,11,6,12,13,14,15,16,17] 17 [1] ?_|intro K hK|intro hc|refine xyZ ?_|refine aF ?_ ?_|((first|refine' LQ ?zh rfl ?_|refine' bP rfl rfl rfl ?zh ?_|refine' bk rfl rfl ?zh ?_);case zh=>intro F';exact dC rfl rfl iI iI (by first|assumption|omega))|refine bQ λg=> ?_|refine cZ j7 λu=> ?_|refine cZ mF λu=> ?_|(refine aD (au bB [(bm r (8*i),bm r (8*i+4))] iI iI iI rfl rfl rfl rfl rfl iI rfl rfl rfl) rfl rfl rfl ?_;intro vb)|(refine aD (aR rfl rfl iI iI rfl iI iI lA (by first|omega|(simp[al]<;>omega)) rfl) rfl rfl rfl ?_;intro v2))
   exact⟨m - 1,_,by omega,⟨i+1,v2,by omega,rfl⟩,cG,rfl,ah⟩
  ·obtain rfl:i=n.toNat:=by omega
   refine jl vl iI λA cap hv=> ?_;subst hv;have om:=dY (.slice A (dZ r n.toNat).length cap) rfl;by_cases hF:p.Fits
   ·rw[Pk.mx hF]at om;by_cases hB:p.bytes=l
    ·have hd:=mT hF hB;rw[hB]at om;simp only[Pk.val,Pk.cells]at om;subst hp;dsimp only at om;repeat' (first|(refine hK _ ?_;clear hK K)|intro K hK|intro hc|refine xyZ ?_|refine aF ?_ ?_|refine zfy ?_|refine bQ λg=> ?_|refine cZ om λu=> ?_)
     refine dF (.inl rfl) rfl (aS rfl iI iI rfl) (bh rfl) ?_;simp only[gl,ey,hd,CV,uz,YZ,Pk.val,Pk.cells];exact⟨.slice A (dZ r n.toNat).length cap,rfl,ah⟩
    ·have hd:=gW hc (λh=>hB h.2);simp only[Pk.val,Pk.cells]at om;subst hp;dsimp only at om;repeat' (first|(refine hK _ ?_;clear hK K)|intro K hK|intro hc|refine xyZ ?_|refine aF ?_ ?_|((refine' LQ ?zh rfl ?_);case zh=>intro F';first|exact bH rfl rfl iI (by first|assumption|omega|decide|rfl)|exact fC rfl rfl iI (by first|assumption|omega|decide|rfl)|exact du rfl rfl iI (by first|assumption|omega|decide|rfl))|refine bQ λg=> ?_|refine cZ om λu=> ?_)
     refine dF (.inl rfl) rfl (aS rfl iI iI rfl) (bh rfl) ?_;simp only[gl,ey,hd,Ju,sH,Pk.val,Pk.cells];exact⟨.slice none 0 0,rfl,ah⟩
   ·rw[Pk.my hF]at om;have hd:=gW hc (λh=>hF h.1);simp only[Pk.val,Pk.cells]at om;subst hp;dsimp only at om;repeat' (first|(refine hK _ ?_;clear hK K)|intro K hK|intro hc|refine xyZ ?_|refine aF ?_ ?_|refine zf0 ?_|refine bQ λg=> ?_|refine cZ om λu=> ?_)
    refine dF (.inl rfl) rfl (aS rfl iI iI rfl) (bh rfl) ?_;simp only[gl,ey,hd,Ju,sH,Pk.val,Pk.cells];exact⟨.slice none 0 0,rfl,ah⟩
theorem HW (l:List UInt8) (hl:l.length<=100000):Spec ucC w0 128 [aZ l] emp (λv':Value=>gl l v') (λv'=>ey l v' emp):=by
 rcases jP l.length 5 with h5|h5
 ·exact yG w0 l h5
 obtain⟨t,k,f,z,n,r,ku⟩:∃t k f z n r,l=t::k::f::z::n::r:=by
  match l,h5 with
  |t::k::f::z::n::r,_=>exact⟨t,k,f,z,n,r,rfl⟩
 have hr:r.length<=100000:=by rw[ku]at hl;simp at hl;omega
 by_cases k1:k.toNat=1/\r.length=20
 ·by_cases hf:f=8
  ·exact E1 w0 l t k f z n r ku hr k1.1 hf k1.2
  ·exact E2 w0 l t k f z n r ku hr k1.1 hf k1.2
 by_cases k2:k.toNat=2/\r.length=16
 ·exact HX w0 l t k f z n r ku hr k2.1 k2.2
 by_cases k3:k.toNat=3/\r.length=8*n.toNat
 ·exact HY w0 l t k f z n r ku hr k3.1 k3.2
 by_cases k9:k.toNat=9/\r.length=12+n.toNat
 ·exact HZ w0 l t k f z n r ku hr k9.1 k9.2
 exact yF w0 l t k f z n r ku hr k1 k2 k3 k9
end
section
theorem Spec.ML {P:Program} {w0:World} {f:FuncId} {args:List Value} {W:TW} {g:Nat} {s:Nd} {d:RD} {X:af} {α:Type} {res:α->Value} {post:α->af} (tw:Twin W s d) (h:Spec P w0 f args (qe W g s*X) res post):Spec P w0 f args (cR g s d*X) res post:=
 h.zbB (aq.rn tw (aq.refl _)) λx=>⟨x,rfl,aq.refl _⟩
theorem Twin.KZ {W s d} (h:Twin W s d) (q):Twin W {s with cd:=q} d:=h.to ⟨rfl,rfl,λl hl=>⟨l,hl,rfl⟩,rfl,rfl,rfl,rfl,rfl,rfl,rfl,rfl,rfl,rfl⟩ rfl rfl rfl rfl rfl
attribute [local irreducible] WS LS OpQ y6 cn cv Spec bA aK di cq
theorem Ie (W:TW) (gn) (s:Nd) (now:UInt64) (src) (f:cP) {c} (hr:s.Rest c) (hn:s.now.toNat<=now.toNat) (zp:f.length<=100000) (hW:W.n<=100000) (F7:s.bu.length<=100000):Spec ucC w0 78 [ptr gn 0,u64 now,u32 src,aZ f] (j9 W gn s) (λv:Value×Value×Value=>fp (s.iX now src f).out v) (λv=>j9 W.next gn (s.iX now src f)*r5 (s.iX now src f).out v):=by
 have ok:=hr.inv.dp.dp;have hb:=hr.inv.begin now;have hs:=Nd.Step.mb hb now src f;have h1:=Nd.fL s now ok;have h2:=Nd.fK s now ok;have h3:=hs.aI;have h4:=hs.ay;have h5:=hr.aI;have SK:=hb.mb now src f;have pY:(s.begin now).Fit 8:=(Nd.lz hr now).le (by omega);have Rw:(s.begin now).bu.length<=100000:=by rw[(s.zaa now).2.2.2.2.2];exact F7
 have p1:=mv w0 W gn s ok (by omega) now hn;have p2:=HW w0 f zp;refine eZ Tryz.func78 Tryz.ntmps78 λG=> ?_;simp only[aN];unfold Nd.iX;have J4:(s.begin now).now=now:=(s.zaa now).1;generalize s.begin now=s1 at*
 have p9:=nS w0 W.next gn (s1.mb now src f) SK.dp.dp (by omega) (by omega);generalize Ho:((s1.mb now src f).done)=s9 at*
 simp only[fp,r5]at p9 ⊢;have Cm:=λx=>gS hb x;clear h1 h2 h3 h4 h5 SK hs Ho hr hn F7 ok;cases hp:Pk.dec f with
 |none=>
  have es:s1.mb now src f=s1.drop 0:=by unfold Nd.mb;rw[hp];simp only;unfold Nd.gQ;rw[hp]
  rw[es]at p9;simp only[gl,ey,hp,Ju,sH,Pk.val,Pk.cells,Pk.zero,AT,VC]at p2;have p3:=λd=>cx w0 gn s1 d 0 (by have:=pY.dropped;omega);have p8:=λd (tw:Twin W.next s1 d) vd=>Spec.nV (tw.drop 0 vd) p9;unfold cR at p3 p8;simp only[bN,ad,Nd.drop]at p3 p8;repeat' (first|intro hc|refine yZ ?_|refine aF ?_ ?_|refine cZ p1 λx1=> ?_|(refine ai (aa iI rfl p2 ⟨aB.symm⟩) rfl ?_;intro vl;refine fU vl iI λA2 c2 hv2=> ?_;subst hv2)|(refine kA (W:=W.next) (g:=gn) (s:=s1) iI λd tw=> ?_;replace p3:=p3 d;replace p8:=p8 d tw;unfold cR;simp only[bN,ad])|(refine ai (aa iI rfl p3 iI) rfl ?_;intro vd;replace p8:=p8 vd)|refine cZ p8 λx9=> ?_)
  exact gD (.inl rfl) rfl (aS rfl iI iI rfl) ⟨x9,rfl,ah⟩
 |some p=>
  have Ls:=Pk.rN hp;have hk:p.kind=1\/p.kind=2\/p.kind=3\/p.kind=9:=by
   obtain⟨⟨_,hk⟩,_⟩:=Pk.oM hp;rcases hk with hk|hk|hk|hk
   ·exact .inl hk.1
   ·exact .inr (.inl hk.1)
   ·exact .inr (.inr (.inl hk.1))
   ·exact .inr (.inr (.inr hk.1))
  have RB:p.kind=1->p.unknown=true->p.ak=0:=by
   obtain⟨⟨_,hk⟩,_⟩:=Pk.oM hp;intro h1 hu;rcases hk with hk|hk|hk|hk
   ·rcases hk.2.2.2.2 with h|h
    ·rw[h]at hu;cases hu
    ·exact h
   all_goals(rw[hk.1]at h1;cases h1)
  have UK:=Cm p.dest;simp only[gl,ey,hp,CV,uz,YZ]at p2;by_cases h1:src=0
  ·subst h1;have es:s1.mb now 0 f=s1.drop 0:=by unfold Nd.mb;rw[hp];simp only;rw[jF (by simp)];unfold Nd.gQ;rw[hp];simp only;rw[jF (by simp)]
   rw[es]at p9;have p3:=λd=>cx w0 gn s1 d 0 (by have:=pY.dropped;omega);have p8:=λd (tw:Twin W.next s1 d) vd=>Spec.nV (tw.drop 0 vd) p9;unfold cR at p3 p8;simp only[bN,ad,Nd.drop]at p3 p8;simp only[Pk.val,Pk.cells]at p2;repeat' (first|intro hc|refine yZ ?_|refine aF ?_ ?_|refine cZ p1 λx1=> ?_|(refine ai (aa iI rfl p2 ⟨aB.symm⟩) rfl ?_;intro vl;refine fU vl iI λA2 c2 hv2=> ?_;subst hv2)|(refine kA (W:=W.next) (g:=gn) (s:=s1) iI λd tw=> ?_;replace p3:=p3 d;replace p8:=p8 d tw;unfold cR;simp only[bN,ad])|(refine ai (aa iI rfl p3 iI) rfl ?_;intro vd;replace p8:=p8 vd)|refine cZ p8 λx9=> ?_)
   exact gD (.inl rfl) rfl (aS rfl iI iI rfl) ⟨x9,rfl,ah⟩
  by_cases h2:src=s1.self
  ·have es:s1.mb now src f=s1.drop 0:=by unfold Nd.mb;rw[hp];simp only;rw[jF (.inr (.inl h2))];unfold Nd.gQ;rw[hp];simp only;rw[jF (.inr h2)]
   rw[es]at p9;have p3:=λd=>cx w0 gn s1 d 0 (by have:=pY.dropped;omega);have p8:=λd (tw:Twin W.next s1 d) vd=>Spec.nV (tw.drop 0 vd) p9;unfold cR at p3 p8;simp only[bN,ad,Nd.drop]at p3 p8;simp only[Pk.val,Pk.cells]at p2;repeat' (first|intro hc|refine yZ ?_|refine aF ?_ ?_|refine cZ p1 λx1=> ?_|(refine ai (aa iI rfl p2 ⟨aB.symm⟩) rfl ?_;intro vl;refine fU vl iI λA2 c2 hv2=> ?_;subst hv2)|(refine kA (W:=W.next) (g:=gn) (s:=s1) iI λd tw=> ?_;replace p3:=p3 d;replace p8:=p8 d tw;unfold cR;simp only[bN,ad])|(refine ai (aa iI rfl p3 iI) rfl ?_;intro vd;replace p8:=p8 vd)|refine cZ p8 λx9=> ?_)
   exact gD (.inl rfl) rfl (aS rfl iI iI rfl) ⟨x9,rfl,ah⟩
  by_cases h3:now<s1.cd
  ·by_cases h4:p.kind=9/\p.dest≠s1.self
   ·have es:s1.mb now src f=Nd.drop {s1.tell src p.dest (eJ s1.ls p.dest)with cd:=now+2000} 8:=by unfold Nd.mb;rw[hp];simp only;rw[jF (.inr (.inr h3))];unfold Nd.gQ;rw[hp];simp only;rw[eQ (λe=>e.elim h1 h2),jF h4]
    rw[es]at p9;obtain⟨k9,kd⟩:=h4;obtain⟨bK,kind,aH,unknown,id,dest,ak,from_,av,bD,lost,ar⟩:=p;simp only[Pk.val,Pk.cells]at*
    subst k9;have p3:=λd=>uf w0 gn s1 d s1.out hb.dp.dp dest;generalize eJ s1.ls dest=q at*
    have p4:=λd A c=>fS w0 gn s1 d src (Pk.gI [(dest,q)]) (Pk.pG _ (by simp)) (.slice A 1 c) rfl (rows 180 2 bB (.slice A 1 c) [(dest,q)]) (hX:=fy _ _ _ _ _) (by have:=pY.aJ;omega);have p5:=λd=>cx w0 gn {s1.tell src dest q with cd:=now+2000} d 8 (by show s1.out.dropped.length<=_;have:=pY.dropped;omega);have p8:=λd (tw:Twin W.next s1 d) vf vd=>Spec.nV (((tw.send src (Pk.gI [(dest,q)]) vf).KZ (now+2000)).drop 8 vd) p9;unfold Nd.tell at p5 p8;unfold cR at p4 p5 p8;simp only[bN,ad,Nd.drop,Nd.send,Pk.val,Pk.cells,Pk.gI]at p3 p4 p5 p8;repeat' (first|refine zgZ ?_|intro hc|refine yZ ?_|refine aF ?_ ?_|refine zw1 ?_|refine cZ p1 λx1=> ?_|(refine ai (aa iI rfl p2 ⟨aB.symm⟩) rfl ?_;intro vl;refine fU vl iI λA2 c2 hv2=> ?_;subst hv2)|(refine kA (W:=W.next) (g:=gn) (s:=s1) iI λd tw=> ?_;replace p3:=p3 d;replace p4:=p4 d;replace p8:=p8 d tw;unfold cR;simp only[bN,ad])|refine cZ p3 λu3=> ?_|(refine ai (au bB [(dest,q)] iI iI iI rfl rfl rfl rfl rfl iI rfl rfl rfl) rfl ?_;intro vz;refine pj vz iI λA3 c3 ID=> ?_;subst ID)|(refine ai (aa iI rfl (p4 _ _) iI) rfl ?_;intro vf;replace p5:=p5 {d with vf:=vf};replace p8:=p8 vf)|(refine ai (aa iI rfl p5 iI) rfl ?_;intro vd;replace p8:=p8 vd)|refine cZ p8 λx9=> ?_)
    exact gD (.inl rfl) rfl (aS rfl iI iI rfl) ⟨x9,rfl,ah⟩
   ·have es:s1.mb now src f=s1.drop 8:=by unfold Nd.mb;rw[hp];simp only;rw[jF (.inr (.inr h3))];unfold Nd.gQ;rw[hp];simp only;rw[eQ (λe=>e.elim h1 h2),eQ h4]
    rw[es]at p9;have p3:=λd=>cx w0 gn s1 d 8 (by have:=pY.dropped;omega);have p8:=λd (tw:Twin W.next s1 d) vd=>Spec.nV (tw.drop 8 vd) p9;unfold cR at p3 p8;simp only[bN,ad,Nd.drop]at p3 p8;obtain⟨bK,kind,aH,unknown,id,dest,ak,from_,av,bD,lost,ar⟩:=p;simp only[Pk.val,Pk.cells]at*
    by_cases k9:kind=9
    ·have kd:dest=s1.self:=uaU.1 λe=>h4 ⟨k9,e⟩;repeat' (first|refine zgZ ?_|intro hc|refine yZ ?_|refine aF ?_ ?_|refine cZ p1 λx1=> ?_|(refine ai (aa iI rfl p2 ⟨aB.symm⟩) rfl ?_;intro vl;refine fU vl iI λA2 c2 hv2=> ?_;subst hv2)|(refine kA (W:=W.next) (g:=gn) (s:=s1) iI λd tw=> ?_;replace p3:=p3 d;replace p8:=p8 d tw;unfold cR;simp only[bN,ad])|(refine ai (aa iI rfl p3 iI) rfl ?_;intro vd;replace p8:=p8 vd)|refine cZ p8 λx9=> ?_)
     exact gD (.inl rfl) rfl (aS rfl iI iI rfl) ⟨x9,rfl,ah⟩
    ·repeat' (first|refine zgZ ?_|intro hc|refine yZ ?_|refine aF ?_ ?_|refine cZ p1 λx1=> ?_|(refine ai (aa iI rfl p2 ⟨aB.symm⟩) rfl ?_;intro vl;refine fU vl iI λA2 c2 hv2=> ?_;subst hv2)|(refine kA (W:=W.next) (g:=gn) (s:=s1) iI λd tw=> ?_;replace p3:=p3 d;replace p8:=p8 d tw;unfold cR;simp only[bN,ad])|(refine ai (aa iI rfl p3 iI) rfl ?_;intro vd;replace p8:=p8 vd)|refine cZ p8 λx9=> ?_)
     exact gD (.inl rfl) rfl (aS rfl iI iI rfl) ⟨x9,rfl,ah⟩
  have es:s1.mb now src f=s1.handle src p:=by unfold Nd.mb;rw[hp];simp only;rw[eQ (λe=>e.elim h1 λe=>e.elim h2 h3)]
  have Ch:s1.handle src p=if p.kind=1 then s1.qd src p else if p.kind=2 then s1.rep src p else if p.kind=3 then s1.xC src p else s1.ov src p:=rfl
  rw[es,Ch]at p9;have q1:=λd (tw:Twin W.next s1 d) hu vl=>Spec.ML tw (yK w0 W.next gn s1 src p Ls hu vl hb.dp.dp hb.order (pY.le (by omega)));have q2:=λd (tw:Twin W.next s1 d) vl=>Spec.ML tw (Dd w0 W.next gn s1 src p Ls vl hb.dp.dp hW Rw (λt ht=>by have:=UK.2 t ht;omega) (pY.le (by have:=UK.1;omega)));have q3:=λd (tw:Twin W.next s1 d) vl=>Spec.ML tw (Ib w0 W.next gn s1 src p Ls vl hb.dp.dp (pY.le (by omega)));have q4:=λd (tw:Twin W.next s1 d) vl=>Spec.ML tw (E0 w0 W.next gn s1 src p Ls vl hb.dp.dp (pY.le (by omega)));clear es Ch hp UK Cm;obtain⟨bK,kind,aH,unknown,id,dest,ak,from_,av,bD,lost,ar⟩:=p;simp only[Pk.val,Pk.cells]at*
  unfold cR at q1 q2 q3 q4;simp only[bN,ad]at q1 q2 q3 q4;rcases hk with rfl|rfl|rfl|rfl
  ·rw[jF rfl]at p9;have q:=λd tw vl=>q1 d tw (RB rfl) vl;clear q1 q2 q3 q4;repeat' (first|intro hc|refine yZ ?_|refine aF ?_ ?_|refine cZ p1 λx1=> ?_|(refine ai (aa iI rfl p2 ⟨aB.symm⟩) rfl ?_;intro vl;refine fU vl iI λA2 c2 hv2=> ?_;subst hv2)|(refine kA (W:=W.next) (g:=gn) (s:=s1) iI λd tw=> ?_;replace q:=q d tw;unfold cR;simp only[bN,ad])|(refine ai (aa iI rfl (q _) iI) rfl ?_;intro u8)|refine cZ p9 λx9=> ?_)
   exact gD (.inl rfl) rfl (aS rfl iI iI rfl) ⟨x9,rfl,ah⟩
  ·rw[eQ (by decide),jF rfl]at p9;have q:=q2;clear q1 q2 q3 q4;repeat' (first|intro hc|refine yZ ?_|refine aF ?_ ?_|refine cZ p1 λx1=> ?_|(refine ai (aa iI rfl p2 ⟨aB.symm⟩) rfl ?_;intro vl;refine fU vl iI λA2 c2 hv2=> ?_;subst hv2)|(refine kA (W:=W.next) (g:=gn) (s:=s1) iI λd tw=> ?_;replace q:=q d tw;unfold cR;simp only[bN,ad])|(refine ai (aa iI rfl (q _) iI) rfl ?_;intro u8)|refine cZ p9 λx9=> ?_)
   exact gD (.inl rfl) rfl (aS rfl iI iI rfl) ⟨x9,rfl,ah⟩
  ·rw[eQ (by decide),eQ (by decide),jF rfl]at p9;have q:=q3;clear q1 q2 q3 q4;repeat' (first|intro hc|refine yZ ?_|refine aF ?_ ?_|refine cZ p1 λx1=> ?_|(refine ai (aa iI rfl p2 ⟨aB.symm⟩) rfl ?_;intro vl;refine fU vl iI λA2 c2 hv2=> ?_;subst hv2)|(refine kA (W:=W.next) (g:=gn) (s:=s1) iI λd tw=> ?_;replace q:=q d tw;unfold cR;simp only[bN,ad])|(refine ai (aa iI rfl (q _) iI) rfl ?_;intro u8)|refine cZ p9 λx9=> ?_)
   exact gD (.inl rfl) rfl (aS rfl iI iI rfl) ⟨x9,rfl,ah⟩
  ·rw[eQ (by decide),eQ (by decide),eQ (by decide)]at p9;have q:=q4;clear q1 q2 q3 q4;repeat' (first|intro hc|refine yZ ?_|refine aF ?_ ?_|refine cZ p1 λx1=> ?_|(refine ai (aa iI rfl p2 ⟨aB.symm⟩) rfl ?_;intro vl;refine fU vl iI λA2 c2 hv2=> ?_;subst hv2)|(refine kA (W:=W.next) (g:=gn) (s:=s1) iI λd tw=> ?_;replace q:=q d tw;unfold cR;simp only[bN,ad])|(refine ai (aa iI rfl (q _) iI) rfl ?_;intro u8)|refine cZ p9 λx9=> ?_)
   exact gD (.inl rfl) rfl (aS rfl iI iI rfl) ⟨x9,rfl,ah⟩
end
end Go.Proofs.YtapoehkdnglahabGreat

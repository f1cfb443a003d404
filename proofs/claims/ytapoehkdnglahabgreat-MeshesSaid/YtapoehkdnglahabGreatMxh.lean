/- A part. -/
import Derived.Test.YtapoehkdnglahabGreatM3
set_option maxHeartbeats 32000000
set_option maxRecDepth 100000
set_option linter.all false
namespace Go.Proofs.YtapoehkdnglahabGreat
section
open Go.RowKit
theorem w7 {q:Pk} (h1:cM q.bK) (h2:cM q.kind) (h3:cM q.aH) (h4:q.lost.length<=100000) (h5:q.ar.length<=100000):q.Ok:=⟨h1,h2,h3,h4,h5⟩
theorem K7 (b:UInt8):cM (b.toNat:Int):=by have:=b.toNat_lt;unfold cM;omega
theorem mT {l} {p:Pk} (hF:p.Fits) (hB:p.bytes=l):Pk.dec l=some p:=Pk.FN.2 ⟨hF,hB⟩
theorem gW {l} {p:Pk} (hc:∀q,Pk.dec l=some q->q=p) (h:¬(p.Fits/\p.bytes=l)):Pk.dec l=none:=by
 cases hd:Pk.dec l with
 |none=>rfl
 |some q=>
  obtain rfl:=hc q hd;exact absurd (Pk.FN.1 hd) h
attribute [local irreducible] WS LS OpQ y6 cn cv Spec bA iR iQ aK
variable (w0:World)
theorem yG (l:List UInt8) (h:l.length<5):Spec ucC w0 128 [aZ l] emp (λv':Value=>gl l v') (λv'=>ey l v' emp):=by
 have hd:=zgk l h;simp only[gl,ey,hd,Ju,sH,Pk.val,Pk.cells];refine eZ Tryz.func128 Tryz.ntmps128 λG=> ?_;simp only[aN];repeat' (first|intro hc|refine yZ ?_|refine aF ?_ ?_)
 exact dF (.inl rfl) rfl (aS rfl iI iI rfl) (bh rfl) ⟨.slice none 0 0,rfl,ah⟩
theorem tH (b:UInt8):cM (b.toNat:Int):=K7 b
theorem yF (l) (t k f z n:UInt8) (r:List UInt8) (ku:l=t::k::f::z::n::r) (hr:r.length<=100000) (k1:¬(k.toNat=1/\r.length=20)) (k2:¬(k.toNat=2/\r.length=16)) (k3:¬(k.toNat=3/\r.length=8*n.toNat)) (k9:¬(k.toNat=9/\r.length=12+n.toNat)):Spec ucC w0 128 [aZ l] emp (λv':Value=>gl l v') (λv'=>ey l v' emp):=by
 have h0:l[0]? =some t:=by rw[ku];rfl
 have h1:l[1]? =some k:=by rw[ku];rfl
 have h4:l[4]? =some n:=by rw[ku];rfl
 have uD:l.drop 5=r:=by rw[ku];rfl
 have hlen:l.length=r.length+5:=by rw[ku];rfl
 have hn9:=n.toNat_lt;have El:(l.drop 5).length=r.length:=by rw[uD]
 have hd:Pk.dec l=none:=by
  rw[ku];simp only[Pk.dec,Pk.body];repeat' split
  all_goals first|rfl|(exfalso;rename_i hk hc;subst hk;first|exact k1 ⟨rfl,hc.1⟩|exact k2 ⟨rfl,hc.1⟩|exact k3 ⟨rfl,hc.2.2.1⟩|exact k9 ⟨rfl,hc.2.1⟩)
 simp only[gl,ey,hd,Ju,sH,Pk.val,Pk.cells];refine eZ Tryz.func128 Tryz.ntmps128 λG=> ?_;simp only[aN];repeat' (first|(refine hK _ ?_;clear hK K)|refine zgR ?_|refine zdl ?_|intro K hK|(intro hc;try exact aG)|refine xyZ ?_|refine aF ?_ ?_|refine zw3 λg=> ?_|((first|refine' LQ ?zh rfl ?_|refine' bP rfl rfl rfl ?zh ?_|refine' bk rfl rfl ?zh ?_);case zh=>intro F';first|exact fu rfl iI iI|exact eH rfl rfl iI iI (by assumption)|exact dC rfl rfl iI iI (by first|assumption|omega))|((first|refine dn rfl rfl iI rfl ?_ ?_|refine dm rfl rfl iI rfl ?_ ?_|refine dU rfl rfl iI rfl ?_ ?_)<;>intro hc)|refine bT λg=> ?_|refine bQ λg=> ?_)
 all_goals first
  |(exfalso;omega)
  |exact dF (.inl rfl) rfl (aS rfl iI iI rfl) (bh rfl) ⟨.slice none 0 0,rfl,ah⟩
theorem HX (l) (t k f z n:UInt8) (r:List UInt8) (ku:l=t::k::f::z::n::r) (hr:r.length<=100000) (hk:k.toNat=2) (hl:r.length=16):Spec ucC w0 128 [aZ l] emp (λv':Value=>gl l v') (λv'=>ey l v' emp):=by
 have h0:l[0]? =some t:=by rw[ku];rfl
 have h1:l[1]? =some k:=by rw[ku];rfl
 have h2:l[2]? =some f:=by rw[ku];rfl
 have h4:l[4]? =some n:=by rw[ku];rfl
 have uD:l.drop 5=r:=by rw[ku];rfl
 have hlen:l.length=r.length+5:=by rw[ku];rfl
 have hn9:=n.toNat_lt;have El:(l.drop 5).length=r.length:=by rw[uD]
 obtain⟨p,hp⟩:∃p:Pk,p=⟨t.toNat,k.toNat,n.toNat,false,0,bm r 0,bm (r.drop 4) 0,bm (r.drop 8) 0,0,bm (r.drop 12) 0,[],[]⟩:=⟨_,rfl⟩
 have hc:∀q,Pk.dec l=some q->q=p:=λq hq=>by
  rw[ku]at hq;obtain rfl:=dk hk (by decide);simp only[Pk.dec,Pk.body]at hq;repeat' split at hq
  all_goals first|(cases hq;done)|(exfalso;simp_all;done)|(cases hq;rw[hp];simp[cI])
 have n0:=cg w0 r (by omega);have n4:=cg w0 (r.drop 4) (by(try simp only[uK]);omega);have n8:=cg w0 (r.drop 8) (by(try simp only[uK]);omega);have n12:=cg w0 (r.drop 12) (by(try simp only[uK]);omega);have gG:p.Ok:=by rw[hp];exact w7 (K7 _) (K7 _) (tH _) (by simp) (by simp<;>omega)
 haveI qH:eX w0 emp (.slice none 0 0) (UInt32×UInt32) 2 bB p.lost:=by rw[hp];exact mw emp 2 bB
 have dY:=gJ w0 p gG (.slice none 0 0) rfl emp;have jd:p.lost=[]:=by rw[hp]
 by_cases hF:p.Fits
 ·rw[Pk.mx hF]at dY;by_cases hB:p.bytes=l
  ·have hd:=mT hF hB;simp only[gl,ey,hd,CV,uz,YZ,jd];rw[hB]at dY;simp only[Pk.val,Pk.cells]at dY ⊢;subst hp;dsimp only at dY ⊢;clear hc gG hd jd qH;refine eZ Tryz.func128 Tryz.ntmps128 λG=> ?_;simp only[aN];repeat' (first|refine zgR ?_|refine zdl ?_|intro K hK|intro hc|refine xyZ ?_|refine aF ?_ ?_|refine zw3 λg=> ?_|refine zgO ?_|refine bT λg=> ?_|refine bQ λg=> ?_|refine cZ n0 λu=> ?_|refine cZ n4 λu=> ?_|refine cZ n8 λu=> ?_|refine cZ n12 λu=> ?_|refine cZ dY λu=> ?_|rw[uD])
   exact dF (.inl rfl) rfl (aS rfl iI iI rfl) (bh rfl) ⟨.slice none 0 0,rfl,ah⟩
  ·have hd:=gW hc (λh=>hB h.2);simp only[gl,ey,hd,Ju,sH,Pk.val,Pk.cells];simp only[Pk.val,Pk.cells]at dY;subst hp;dsimp only at dY ⊢;clear hc gG hd jd qH;refine eZ Tryz.func128 Tryz.ntmps128 λG=> ?_;simp only[aN];repeat' (first|refine zgR ?_|refine zdl ?_|intro K hK|intro hc|refine xyZ ?_|refine aF ?_ ?_|refine zw3 λg=> ?_|refine zgN ?_|refine bT λg=> ?_|refine bQ λg=> ?_|refine cZ n0 λu=> ?_|refine cZ n4 λu=> ?_|refine cZ n8 λu=> ?_|refine cZ n12 λu=> ?_|refine cZ dY λu=> ?_|rw[uD])
   exact dF (.inl rfl) rfl (aS rfl iI iI rfl) (bh rfl) ⟨.slice none 0 0,rfl,ah⟩
 ·rw[Pk.my hF]at dY;have hd:=gW hc (λh=>hF h.1);simp only[gl,ey,hd,Ju,sH,Pk.val,Pk.cells];simp only[Pk.val,Pk.cells]at dY;subst hp;dsimp only at dY ⊢;clear hc gG hd jd qH;refine eZ Tryz.func128 Tryz.ntmps128 λG=> ?_;simp only[aN];repeat' (first|refine zgR ?_|refine zdl ?_|intro K hK|intro hc|refine xyZ ?_|refine aF ?_ ?_|refine zw3 λg=> ?_|refine zgP ?_|refine bT λg=> ?_|refine bQ λg=> ?_|refine cZ n0 λu=> ?_|refine cZ n4 λu=> ?_|refine cZ n8 λu=> ?_|refine cZ n12 λu=> ?_|refine cZ dY λu=> ?_|rw[uD])
  exact dF (.inl rfl) rfl (aS rfl iI iI rfl) (bh rfl) ⟨.slice none 0 0,rfl,ah⟩
theorem E1 (l) (t k f z n:UInt8) (r:List UInt8) (ku:l=t::k::f::z::n::r) (hr:r.length<=100000) (hk:k.toNat=1) (hf:f=8) (hl:r.length=20):Spec ucC w0 128 [aZ l] emp (λv':Value=>gl l v') (λv'=>ey l v' emp):=by
 have h0:l[0]? =some t:=by rw[ku];rfl
 have h1:l[1]? =some k:=by rw[ku];rfl
 have h2:l[2]? =some f:=by rw[ku];rfl
 have h4:l[4]? =some n:=by rw[ku];rfl
 have uD:l.drop 5=r:=by rw[ku];rfl
 have hlen:l.length=r.length+5:=by rw[ku];rfl
 have hn9:=n.toNat_lt;have El:(l.drop 5).length=r.length:=by rw[uD]
 obtain⟨p,hp⟩:∃p:Pk,p=⟨t.toNat,k.toNat,n.toNat,true,bm r 0,bm (r.drop 4) 0,bm (r.drop 8) 0,bm (r.drop 12) 0,bm (r.drop 16) 0,0,[],[]⟩:=⟨_,rfl⟩
 exact paa
theorem E2 (l) (t k f z n:UInt8) (r:List UInt8) (ku:l=t::k::f::z::n::r) (hr:r.length<=100000) (hk:k.toNat=1) (hf:¬f=8) (hl:r.length=20):Spec ucC w0 128 [aZ l] emp (λv':Value=>gl l v') (λv'=>ey l v' emp):=by
 have h0:l[0]? =some t:=by rw[ku];rfl
 have h1:l[1]? =some k:=by rw[ku];rfl
 have h2:l[2]? =some f:=by rw[ku];rfl
 have h4:l[4]? =some n:=by rw[ku];rfl
 have uD:l.drop 5=r:=by rw[ku];rfl
 have hlen:l.length=r.length+5:=by rw[ku];rfl
 have hn9:=n.toNat_lt;have El:(l.drop 5).length=r.length:=by rw[uD]
 obtain⟨p,hp⟩:∃p:Pk,p=⟨t.toNat,k.toNat,n.toNat,false,bm r 0,bm (r.drop 4) 0,bm (r.drop 8) 0,bm (r.drop 12) 0,bm (r.drop 16) 0,0,[],[]⟩:=⟨_,rfl⟩
 exact paa
theorem HZ (l) (t k f z n:UInt8) (r:List UInt8) (ku:l=t::k::f::z::n::r) (hr:r.length<=100000) (hk:k.toNat=9) (hl:r.length=12+n.toNat):Spec ucC w0 128 [aZ l] emp (λv':Value=>gl l v') (λv'=>ey l v' emp):=by
 have h0:l[0]? =some t:=by rw[ku];rfl
 have h1:l[1]? =some k:=by rw[ku];rfl
 have h2:l[2]? =some f:=by rw[ku];rfl
 have h4:l[4]? =some n:=by rw[ku];rfl
 have uD:l.drop 5=r:=by rw[ku];rfl
 have hlen:l.length=r.length+5:=by rw[ku];rfl
 have hn9:=n.toNat_lt;have El:(l.drop 5).length=r.length:=by rw[uD]
 obtain⟨p,hp⟩:∃p:Pk,p=⟨t.toNat,k.toNat,0,false,bm r 0,bm (r.drop 4) 0,0,bm (r.drop 8) 0,0,0,[],r.drop 12⟩:=⟨_,rfl⟩
 have hc:∀q,Pk.dec l=some q->q=p:=λq hq=>by
  rw[ku]at hq;obtain rfl:=dk hk (by decide);simp only[Pk.dec,Pk.body]at hq;repeat' split at hq
  all_goals first|(cases hq;done)|(exfalso;simp_all;done)|(cases hq;rw[hp];simp_all [cI])
 have n0:=cg w0 r (by omega);have n4:=cg w0 (r.drop 4) (by(try simp only[uK]);omega);have n8:=cg w0 (r.drop 8) (by(try simp only[uK]);omega);have gG:p.Ok:=by rw[hp];exact w7 (K7 _) (K7 _) (by simp[cM]) (by simp) (by simp;omega)
 haveI qH:eX w0 emp (.slice none 0 0) (UInt32×UInt32) 2 bB p.lost:=by rw[hp];exact mw emp 2 bB
 have dY:=gJ w0 p gG (.slice none 0 0) rfl emp;have jd:p.lost=[]:=by rw[hp]
 by_cases hF:p.Fits
 ·rw[Pk.mx hF]at dY;by_cases hB:p.bytes=l
  ·have hd:=mT hF hB;simp only[gl,ey,hd,CV,uz,YZ,jd];rw[hB]at dY;simp only[Pk.val,Pk.cells]at dY ⊢;subst hp;dsimp only at dY ⊢;clear hc gG hd jd qH;refine eZ Tryz.func128 Tryz.ntmps128 λG=> ?_;simp only[aN];repeat' (first|refine zgR ?_|refine zdl ?_|intro K hK|intro hc|refine xyZ ?_|refine aF ?_ ?_|refine zw3 λg=> ?_|refine zgO ?_|refine bT λg=> ?_|refine bQ λg=> ?_|refine cZ n0 λu=> ?_|refine cZ n4 λu=> ?_|refine cZ n8 λu=> ?_|refine cZ dY λu=> ?_|rw[uD])
   exact dF (.inl rfl) rfl (aS rfl iI iI rfl) (bh rfl) ⟨.slice none 0 0,rfl,ah⟩
  ·have hd:=gW hc (λh=>hB h.2);simp only[gl,ey,hd,Ju,sH,Pk.val,Pk.cells];simp only[Pk.val,Pk.cells]at dY;subst hp;dsimp only at dY ⊢;clear hc gG hd jd qH;refine eZ Tryz.func128 Tryz.ntmps128 λG=> ?_;simp only[aN];repeat' (first|refine zgR ?_|refine zdl ?_|intro K hK|intro hc|refine xyZ ?_|refine aF ?_ ?_|refine zw3 λg=> ?_|refine zgN ?_|refine bT λg=> ?_|refine bQ λg=> ?_|refine cZ n0 λu=> ?_|refine cZ n4 λu=> ?_|refine cZ n8 λu=> ?_|refine cZ dY λu=> ?_|rw[uD])
   exact dF (.inl rfl) rfl (aS rfl iI iI rfl) (bh rfl) ⟨.slice none 0 0,rfl,ah⟩
 ·rw[Pk.my hF]at dY;have hd:=gW hc (λh=>hF h.1);simp only[gl,ey,hd,Ju,sH,Pk.val,Pk.cells];simp only[Pk.val,Pk.cells]at dY;subst hp;dsimp only at dY ⊢;clear hc gG hd jd qH;refine eZ Tryz.func128 Tryz.ntmps128 λG=> ?_;simp only[aN];repeat' (first|refine zgR ?_|refine zdl ?_|intro K hK|intro hc|refine xyZ ?_|refine aF ?_ ?_|refine zw3 λg=> ?_|refine zgP ?_|refine bT λg=> ?_|refine bQ λg=> ?_|refine cZ n0 λu=> ?_|refine cZ n4 λu=> ?_|refine cZ n8 λu=> ?_|refine cZ dY λu=> ?_|rw[uD])
  exact dF (.inl rfl) rfl (aS rfl iI iI rfl) (bh rfl) ⟨.slice none 0 0,rfl,ah⟩
end
end Go.Proofs.YtapoehkdnglahabGreat

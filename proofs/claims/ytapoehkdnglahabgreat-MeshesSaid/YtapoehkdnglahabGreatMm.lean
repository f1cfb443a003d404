/- A part. -/
import Derived.Test.YtapoehkdnglahabGreatMh
set_option maxHeartbeats 8000000
set_option maxRecDepth 100000
set_option linter.all false
namespace Go.Proofs.YtapoehkdnglahabGreat
section
open Go.RowKit
attribute [local irreducible] WS LS OpQ y6 cn cv Spec bA aK
variable (w0:World)
theorem Bo (gt r self) (bs:List (Nat×Nat)) (ls:List Ln) (hlen:bs.length=ls.length) (hh:∀l∈ls,0<=l.aH/\l.aH<=1000) (XP:ls.length<=1000) (x:Ln) (hx:x.before=[]) (UQ:x.valid=false) (S7:0<=x.aH/\x.aH<=1000):
 Spec ucC w0 171 [ptr gt 0,.agg (bM x (.slice none 0 0)).toArray] (dO gt r self bs ls) (λ_:Unit=> .int .i64 (dI self ls x).1) (λ_=>dR gt self (dI self ls x).2):=by
 have qa:=zaf w0 gt r self bs ls hlen {x with valid:=true,before:=[]} rfl
 have Rg:(lmap bs ls).length=ls.length:=by simp[lmap,hlen]
 have xj:=l3 (d:=x.dest) hlen
 refine eZ Tryz.func171 Tryz.ntmps171 λG=> ?_
 simp only[aN,bM,UQ]at qa ⊢
 have h0:(0:UInt32)=0:=rfl
 by_cases h1:x.dest=self
 ·have ju:dI self ls x=(2,ls):=by simp[dI,h1]
  rw[ju]
  simp only[dO]
  repeat' (first|refine zg1 ?_|intro hc|refine yZ ?_|refine aF ?_ ?_)
  exact aC (.inl rfl) rfl rfl ⟨(),rfl,aq.dR (r:=r) (bs:=bs) hlen (by unfold dO;exact ah)⟩
 ·by_cases h2:x.dest=0
  ·have ju:dI self ls x=(2,ls):=by simp[dI,h2]
   rw[ju]
   simp only[dO]
   repeat' (first|refine zg1 ?_|intro hc|refine yZ ?_|refine aF ?_ ?_)
   exact aC (.inl rfl) rfl rfl ⟨(),rfl,aq.dR (r:=r) (bs:=bs) hlen (by unfold dO;exact ah)⟩
  ·cases hf:cN ls x.dest with
   |none=>
    have hm:=xj hf
    by_cases h8:8<=ls.length
    ·have ju:dI self ls x=(4,ls):=by simp[dI,h1,h2,jI hf,h8]
     rw[ju]
     simp only[dO]
     repeat' (first|refine zg1 ?_|refine ag (id:=3) (.range 12) ?_|intro hc|refine yZ ?_|refine aF ?_ ?_|refine zhh ?_)
     exact aC (.inl rfl) rfl rfl ⟨(),rfl,aq.dR (r:=r) (bs:=bs) hlen (by unfold dO;exact ah)⟩
    ·have ju:dI self ls x=(0,j8 ls {x with valid:=true,before:=[]}):=by simp[dI,h1,h2,jI hf,h8]
     rw[ju]
     simp only[dO]at qa ⊢
     repeat' (first|refine zg1 ?_|refine ag (id:=3) (.range 12) ?_|intro hc|refine yZ ?_|refine aF ?_ ?_|refine zhh ?_|refine cZ qa λu=> ?_)
     exact aC (.inl rfl) rfl rfl ⟨(),rfl,ah⟩
   |some i=>
    obtain⟨b,rb,l,F,hl,hd,hm,e,e'⟩:=l4 (g:=gt) (r:=r) (self:=self) hlen hf
    obtain⟨JX,SP⟩:=hh l (jq hl)
    have OW:=HS w0 b rb l JX SP
    by_cases h3:(x.seq.toNat:Int)<l.rk\/(x.seq.toNat:Int)=l.rk/\ -x.aH<= -l.aH
    ·have ju:dI self ls x=(3,ls):=by simp only[dI,h1,h2,eO hf hl,jF h3,or_self,VC]
     rw[ju]
     simp only[e,cU]at OW ⊢
     generalize l.rk=rk at*
     rcases h3 with h3|⟨h3,h4⟩
     all_goals
      repeat' (first|refine zg1 ?_|refine ag (id:=3) (.range 12) ?_|intro hc|refine yZ ?_|refine aF ?_ ?_|refine zfX ?_|refine cZ OW λu=> ?_|(refine lI (lx rfl iI iI iI) rfl ?_))
     all_goals exact aC (.inl rfl) rfl rfl ⟨(),rfl,aq.dR (r:=r) (bs:=bs) hlen (by rw[e];unfold cU;exact ah)⟩
    ·have ju:dI self ls x=(0,j8 ls {x with valid:=true,before:=[]}):=by simp only[dI,h1,h2,eO hf hl,eQ h3,or_self,VC]
     rw[ju]
     simp only[e,cU]at OW qa ⊢
     generalize l.rk=rk at*
     have h5:¬(x.seq.toNat:Int)<rk:=λh=>h3 (.inl h)
     by_cases h4:(x.seq.toNat:Int)=rk
     ·have h6:¬ -x.aH<= -l.aH:=λh=>h3 (.inr ⟨h4,h⟩)
      repeat' (first|refine zg1 ?_|refine ag (id:=3) (.range 12) ?_|intro hc|refine yZ ?_|refine aF ?_ ?_|refine zfX ?_|refine cZ OW λu=> ?_|(refine lI (lx rfl iI iI iI) rfl ?_)|refine cZ qa λu=> ?_)
      exact aC (.inl rfl) rfl rfl ⟨(),rfl,ah⟩
     ·repeat' (first|refine zg1 ?_|refine ag (id:=3) (.range 12) ?_|intro hc|refine yZ ?_|refine aF ?_ ?_|refine zhN ?_|refine cZ OW λu=> ?_|(refine lI (lx rfl iI iI iI) rfl ?_)|refine cZ qa λu=> ?_)
      exact aC (.inl rfl) rfl rfl ⟨(),rfl,ah⟩
end
end Go.Proofs.YtapoehkdnglahabGreat

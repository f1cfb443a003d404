/- A part of what Nodes needs. -/
import Derived.Test.YtapoehkdnglahabGreatNodesGm
set_option maxHeartbeats 16000000
set_option maxRecDepth 100000
set_option linter.unusedVariables false
set_option linter.unusedSimpArgs false
set_option linter.unusedSectionVars false
namespace Go.Proofs.YtapoehkdnglahabGreat
section
open Go.RowKit
attribute [local irreducible] WS LS cD eM cn cv Spec bA aK
variable (w0:World)
theorem A4 (l:List UInt32) (hl:l.length≤1000) (va vb:Value):Spec Tryz.prog w0 155 [va,vb] (rows 26 1 cA va l*rows 26 1 cA vb l) (fun _:Unit=> .bool true) (fun _=>rows 26 1 cA va l*rows 26 1 cA vb l):=by
 refine Spec.enter Tryz.func155 rfl Tryz.ntmps155 rfl fun G=> ?_
 simp only[aN,ad]
 repeat' (first|(refine ab ?_;intro K hK)|(refine hK _ ?_;clear hK K)|refine ax ?_|(refine aF ?_ ?_<;>intro hc<;>(try simp only[cS]at hc)<;>(try exact aG))|refine az ?_|((refine' LQ ?zh rfl ?_);case zh=>intro F';exact du rfl rfl iI (by first|assumption|omega|decide|rfl))|fail)
 refine aV (fun kk τ=>∃(i:Nat),i+kk=l.length∧τ=⟨[(5,.int .i64 (i:Int)),(0,va),(1,vb)],[],rows 26 1 cA va l*(rows 26 1 cA vb l*G)⟩) ?_ ?_
 ·exact⟨l.length,_,⟨0,by omega,rfl⟩,cG,rfl,ah⟩
 rintro kk τ ⟨i,qE,rfl⟩
 rcases Nat.lt_or_ge i l.length with h|h
 ·have h1:(i:Int)<(l.length:Int):=by omega
  obtain⟨z,hz⟩:∃z,l[i]? =some z:=⟨_,List.getElem?_eq_getElem h⟩
  repeat' (first|refine ag (id:=6) (.range 9) ?_|(refine ab ?_;intro K hK)|(refine hK _ ?_;clear hK K)|refine ax ?_|(refine aF ?_ ?_<;>intro hc<;>(try simp only[cS]at hc)<;>(try exact aG))|refine az ?_|((first|refine' LQ ?zh rfl ?_|refine' bk rfl rfl ?zh ?_);case zh=>intro F';first|exact bp rfl rfl iI (by first|assumption|omega|decide|rfl)|exact du rfl rfl iI (by first|assumption|omega|decide|rfl))|fail)
  --tg
  exact⟨kk - 1,_,by omega,⟨i+1,by omega,rfl⟩,cG,rfl,ah⟩
 have h1:¬(i:Int)<(l.length:Int):=by omega
 repeat' (first|(refine ab ?_;intro K hK)|(refine hK _ ?_;clear hK K)|refine ax ?_|(refine aF ?_ ?_<;>intro hc<;>(try simp only[cS]at hc)<;>(try exact aG))|refine az ?_|((refine' LQ ?zh rfl ?_);case zh=>intro F';exact bH rfl rfl iI (by first|assumption|omega|decide|rfl))|fail)
 exact aC (.inl rfl) rfl rfl ⟨(),rfl,ah⟩
theorem Fb (l:Ln) (hb:l.before.length≤1000) (s1 s2:Option Addr×Nat):Spec Tryz.prog w0 106 [.agg (bJ (l,s1)).toArray,.agg (bJ (l,s2)).toArray] (rows 26 1 cA (il l s1) (aQ l.before)*rows 26 1 cA (il l s2) (aQ l.before)) (fun _:Unit=> .bool true) (fun _=>rows 26 1 cA (il l s1) (aQ l.before)*rows 26 1 cA (il l s2) (aQ l.before)):=by
 refine Spec.enter Tryz.func106 rfl Tryz.ntmps106 rfl fun G=> ?_
 simp only[aN,ad,bJ,bM]
 have p1:=A4 w0 (aQ l.before) (by rw[cF];exact hb) (il l s1) (il l s2)
 repeat' (first|(refine ab ?_;intro K hK)|(refine hK _ ?_;clear hK K)|refine ax ?_|(refine aF ?_ ?_<;>intro hc<;>(try simp only[cS]at hc)<;>(try exact aG))|refine az ?_|((refine' LQ ?zh rfl ?_);case zh=>intro F';exact bp rfl rfl iI (by first|assumption|omega|decide|rfl))|(refine bT ?_;intro g)|(refine ai (aa iI rfl p1 iI) rfl ?_;intro u1))
 --Qp
 exact aC (.inl rfl) rfl rfl ⟨(),rfl,ah⟩
theorem YK:([.int .u32 77,u32 0,.int .i64 0,u32 0,.bool false,u64 0,.slice none 0 0]:List Value)=bJ ((⟨77,0,0,0,false,0,[]⟩,(none,0)):da):=by
 simp only[bJ,bM,il]
 rw[show(aQ ([]:List UInt32)).length=0 from by rw[cF];rfl]
 rfl
theorem oV {xs ys:List da} (h:xs.map (·.1)=ys.map (·.1)) {i:Nat} {p q:da} (hp:xs[i]? =some p) (hq:ys[i]? =some q):p.1=q.1:=by
 have:=congrArg (fun x=>x[i]?) h
 simp only[List.getElem?_map,hp,hq,Option.map_some,Option.some.injEq]at this
 exact this
theorem ED (xs ys:List da) (hm:xs.map (·.1)=ys.map (·.1)) (hl:xs.length≤1000) (hb:∀p∈xs,p.1.before.length≤1000) (va vb:Value):Spec Tryz.prog w0 51 [va,vb] (rows 53 7 bJ va xs*(cQ xs*(rows 53 7 bJ vb ys*cQ ys))) (fun _:Unit=> .bool true) (fun _=>rows 53 7 bJ vb ys*cQ ys):=by
 refine Spec.enter Tryz.func51 rfl Tryz.ntmps51 rfl fun G=> ?_
 simp only[aN,ad]
 have hlen:xs.length=ys.length:=by simpa using congrArg List.length hm
 repeat' (first|(refine ab ?_;intro K hK)|(refine hK _ ?_;clear hK K)|refine ax ?_|(refine aF ?_ ?_<;>intro hc<;>(try simp only[cS]at hc)<;>(try exact aG))|refine az ?_|((refine' LQ ?zh rfl ?_);case zh=>intro F';exact du rfl rfl iI (by first|assumption|omega|decide|rfl))|fail)
 refine aV (fun kk τ=>∃(i:Nat),i+kk=xs.length∧τ=⟨[(5,.int .i64 (i:Int)),(0,va),(1,vb)],[],rows 53 7 bJ va xs*(cQ xs*(rows 53 7 bJ vb ys*(cQ ys*G)))⟩) ?_ ?_
 ·exact⟨xs.length,_,⟨0,by omega,rfl⟩,cG,rfl,ah⟩
 ·rintro kk τ ⟨i,qE,rfl⟩
  rcases Nat.lt_or_ge i xs.length with h|h
  ·have h1:(i:Int)<(xs.length:Int):=by omega
   obtain⟨p,hp⟩:∃z,xs[i]? =some z:=⟨_,List.getElem?_eq_getElem h⟩
   obtain⟨q,hq⟩:∃z,ys[i]? =some z:=⟨_,List.getElem?_eq_getElem (by omega)⟩
   have UD:=oV hm hp hq
   have Iz:=hb p (List.mem_of_getElem? hp)
   obtain⟨l,s1⟩:=p
   obtain⟨l2,s2⟩:=q
   obtain rfl:l=l2:=UD
   have p1:=Fb w0 l Iz s1 s2
   rw[rF hp,rF hq]
   simp only[ad]
   repeat' (first|refine ae (id:=6) (.range 10) 8 [2,3,6,7] ?_|(refine ab ?_;intro K hK)|(refine hK _ ?_;clear hK K)|refine ax ?_|(refine aF ?_ ?_<;>intro hc<;>(try simp only[cS]at hc)<;>(try exact aG))|refine az ?_|((first|refine' LQ ?zh rfl ?_|refine' bP rfl rfl rfl ?zh ?_|refine' bk rfl rfl ?zh ?_);case zh=>intro F';exact bp rfl rfl iI (by first|assumption|omega|decide|rfl))|(refine aD (aa iI rfl p1 iI) rfl rfl rfl ?_;intro u1))
   --Vv
   exact⟨kk - 1,_,by omega,⟨i+1,by omega,rfl⟩,cG,rfl,ah⟩
  have h1:¬(i:Int)<(xs.length:Int):=by omega
  repeat' (first|(refine ab ?_;intro K hK)|(refine hK _ ?_;clear hK K)|refine ax ?_|(refine aF ?_ ?_<;>intro hc<;>(try simp only[cS]at hc)<;>(try exact aG))|refine az ?_|((refine' LQ ?zh rfl ?_);case zh=>intro F';exact bH rfl rfl iI (by first|assumption|omega|decide|rfl))|fail)
  refine aV (fun xx τ=>∃(j:Nat) (zs:List da),j+xx=xs.length∧zs.length=xs.length∧zs.drop j=xs.drop j∧τ=⟨[(7,.int .i64 (j:Int)),(0,va)],[],rows 53 7 bJ va zs*(cQ (xs.drop j)*(rows 53 7 bJ vb ys*(cQ ys*G)))⟩) ?_ ?_
  ·exact⟨xs.length,_,⟨0,xs,by omega,rfl,rfl,rfl⟩,cG,rfl,by rw[List.drop_zero];exact ah⟩
  rintro xx τ ⟨j,zs,ym,O8,RG,rfl⟩
  rcases Nat.lt_or_ge j xs.length with hj|hj
  ·have h2:(j:Int)<(zs.length:Int):=by omega
   obtain⟨p,hp⟩:∃z,xs[j]? =some z:=⟨_,List.getElem?_eq_getElem hj⟩
   have Zl:=vP RG hp
   have hd:cQ (xs.drop j)=rows 26 1 cA (il p.1 p.2) (aQ p.1.before)*cQ (xs.drop (j+1)):=by
    obtain⟨h2,h3⟩:=List.getElem?_eq_some_iff.1 hp
    rw[List.drop_eq_getElem_cons h2,h3];rfl
   have Iz:=hb p (List.mem_of_getElem? hp)
   obtain⟨l,s1⟩:=p
   replace Iz:l.before.length≤1000:=Iz
   have Lw:=cF l.before
   rw[hd]
   simp only[ad]
   repeat' (first|(refine ab ?_;intro K hK)|(refine hK _ ?_;clear hK K)|refine ax ?_|(refine aF ?_ ?_<;>intro hc<;>(try simp only[cS]at hc)<;>(try exact aG))|refine az ?_|((refine' LQ ?zh rfl ?_);case zh=>intro F';exact bp rfl rfl iI (by first|assumption|omega|decide|rfl))|fail)
   refine aV (fun Pd τ=>∃(t:Nat) (bs:List UInt32),t+Pd=l.before.length∧bs.length=l.before.length∧τ=⟨[(8,.int .i64 (t:Int)),(7,.int .i64 (j:Int)),(0,va)],[],rows 53 7 bJ va zs*(rows 26 1 cA (il l s1) bs*(cQ (xs.drop (j+1))*(rows 53 7 bJ vb ys*(cQ ys*G))))⟩) ?_ ?_
   ·exact⟨l.before.length,_,⟨0,aQ l.before,by omega,Lw,rfl⟩,cG,rfl,ah⟩
   rintro Pd τ ⟨t,bs,gK,yl,rfl⟩
   rcases Nat.lt_or_ge t l.before.length with ht|ht
   ·have h3:(t:Int)<((aQ l.before).length:Int):=by omega
    have h4:t<bs.length:=by omega
    obtain⟨z,hz⟩:∃z,bs[t]? =some z:=⟨_,List.getElem?_eq_getElem h4⟩
    repeat' (first|(refine ab ?_;intro K hK)|(refine hK _ ?_;clear hK K)|refine ax ?_|(refine aF ?_ ?_<;>intro hc<;>(try simp only[cS]at hc)<;>(try exact aG))|refine az ?_|((refine' LQ ?zh rfl ?_);case zh=>intro F';exact bp rfl rfl iI (by first|assumption|omega|decide|rfl))|(refine bL (dB (99:UInt32) rfl rfl iI iI iI rfl (by assumption) rfl) ?_;intro gx))
    --tg
    exact⟨Pd - 1,_,by omega,⟨t+1,bs.set t 99,by omega,by rw[List.length_set];exact yl,rfl⟩,cG,rfl,ah⟩
   have h3:¬(t:Int)<((aQ l.before).length:Int):=by omega
   repeat' (first|(refine ab ?_;intro K hK)|(refine hK _ ?_;clear hK K)|refine ax ?_|(refine aF ?_ ?_<;>intro hc<;>(try simp only[cS]at hc)<;>(try exact aG))|refine az ?_|((refine' LQ ?zh rfl ?_);case zh=>intro F';exact bH rfl rfl iI (by first|assumption|omega|decide|rfl))|(refine bL (gV ((⟨77,0,0,0,false,0,[]⟩,(none,0)):da) rfl rfl YK iI iI iI rfl rfl (by first|assumption|omega)) ?_;intro gx))
   --Vw
   exact⟨xx - 1,_,by omega,⟨j+1,zs.set j (⟨77,0,0,0,false,0,[]⟩,(none,0)),by omega,by rw[List.length_set];exact O8,by rw[kr];exact pD RG,rfl⟩,cG,rfl,ah⟩
  have h2:¬(j:Int)<(zs.length:Int):=by omega
  repeat' (first|(refine ab ?_;intro K hK)|(refine hK _ ?_;clear hK K)|refine ax ?_|(refine aF ?_ ?_<;>intro hc<;>(try simp only[cS]at hc)<;>(try exact aG))|refine az ?_|((refine' LQ ?zh rfl ?_);case zh=>intro F';exact bH rfl rfl iI (by first|assumption|omega|decide|rfl))|fail)
  exact aC (.inl rfl) rfl rfl ⟨(),rfl,ah⟩
end
section
open Go.RowKit
def IE (r:Rec):da:=(r.ln,(none,0))
def jJ (self:UInt32) (xs:List da) (r:Rec):List da:=if xs.length<8∧r.own=false∧r.addr≠self then xs++[IE r]else xs
def Pt (self:UInt32) (c:List Rec):List da:=c.foldl (jJ self) []
theorem xK {self:UInt32} {xs:List da} (h:8≤xs.length):∀c:List Rec,c.foldl (jJ self) xs=xs
 |[]=>rfl
 |r::c=>by
  have h1:jJ self xs r=xs:=by unfold jJ;rw[if_neg (fun h2=>by omega)]
  rw[List.foldl_cons,h1,xK h c]
theorem HG {self:UInt32} {xs:List da} (h:xs.length≤8) (r:Rec):(jJ self xs r).length≤8:=by
 unfold jJ
 split
 ·rw[List.length_append,List.length_singleton];omega
 ·exact h
theorem Hx (r:Rec):bJ (IE r)=[u32 r.addr,u32 (bS r.seq),.int .i64 0,u32 0,.bool false,u64 0,.slice none 0 0]:=by
 have e0:(aQ ([]:List UInt32)).length=0:=by rw[cF];rfl
 show [_,_,_,_,_,_,Value.slice none (aQ ([]:List UInt32)).length 0]=_
 rw[e0]
 rfl
attribute [local irreducible] WS LS cD eM cn cv Spec bA aK di cq
variable (w0:World)
theorem Fa (self:UInt32) (l:List Rec) (hl:l.length≤100000) (v:Value) (X:af) [hX:eX w0 X v Rec 3 Rec.cells l]:Spec Tryz.prog w0 94 [u32 self,v] X (fun r:Nat×Value=>ptr r.1 0) (fun r=>eA r.1 self r.2 (Pt self (cC l))*X):=by
 refine Spec.enter Tryz.func94 rfl Tryz.ntmps94 rfl fun G=> ?_
 have p1:=mI w0 l hl v X
 unfold eA
 simp only[aN,ad]
 repeat' (first|(refine ab ?_;intro K hK)|(refine hK _ ?_;clear hK K)|refine ax ?_|refine az ?_|(refine bT ?_;intro g)|(refine ai (aa iI rfl p1 iI) rfl ?_;intro vc))
 have Dy:=iM l
 generalize cC l=c at*
 refine cV (aq.nil _ 53 7 bJ none) ?_
 refine aV (fun kk τ=>∃(i:Nat) (xs:List da) (v':Value),i+kk=c.length∧xs.length≤8∧Pt self c=(c.drop i).foldl (jJ self) xs∧τ=⟨[(7,.int .i64 (i:Int)),(6,vc),(5,ptr g 0),(0,u32 self)],[],aK g 197 [u32 self,v']*(rows 53 7 bJ v' xs*(rows 28 3 Rec.cells vc c*(X*G)))⟩) ?_ ?_
 ·exact⟨c.length,_,⟨0,[],.slice none 0 0,by omega,by simp,rfl,rfl⟩,cG,rfl,ah⟩
 ·rintro kk τ ⟨i,xs,v',qE,Ly,ta,rfl⟩
  rcases Nat.lt_or_ge i c.length with h|h
  ·have h1:(i:Int)<(c.length:Int):=by omega
   obtain⟨r,hr⟩:∃r,c[i]? =some r:=⟨_,List.getElem?_eq_getElem h⟩
   by_cases h8:xs.length<8
   ·have TM:(xs.length:Int)<8:=by omega
    have hd:c.drop i=r::c.drop (i+1):=by
     obtain⟨h2,h3⟩:=List.getElem?_eq_some_iff.1 hr
     rw[List.drop_eq_getElem_cons h2,h3]
    rw[hd,List.foldl_cons]at ta
    by_cases Hm:r.own=true
    ·have Ux:(!r.own)=false:=by rw[Hm];rfl
     have X3:¬(!r.own)=true:=by rw[Hm];simp
     have Zf:¬r.own=false:=by rw[Hm];simp
     have hn:jJ self xs r=xs:=by unfold jJ;rw[if_neg (fun h=>by rw[Hm]at h;cases h.2.1)]
     rw[hn]at ta
     repeat' (first|(refine ab ?_;intro K hK)|(refine hK _ ?_;clear hK K)|refine ax ?_|(refine aF ?_ ?_<;>intro hc<;>(try simp only[cS]at hc)<;>(try exact aG))|refine aX ?_|refine az ?_)
     exact⟨kk - 1,_,by omega,⟨i+1,xs,v',by omega,Ly,ta,rfl⟩,cG,rfl,ah⟩
    ·have ho:r.own=false:=by simpa using Hm
     have Ux:(!r.own)=true:=by rw[ho];rfl
     have X3:¬(!r.own)=false:=by rw[ho];simp
     by_cases hs:r.addr=self
     ·have hn:jJ self xs r=xs:=by unfold jJ;rw[if_neg (fun h=>h.2.2 hs)]
      rw[hn]at ta
      repeat' (first|(refine ab ?_;intro K hK)|(refine hK _ ?_;clear hK K)|refine ax ?_|(refine aF ?_ ?_<;>intro hc<;>(try simp only[cS]at hc)<;>(try exact aG))|refine aX ?_|refine az ?_)
      exact⟨kk - 1,_,by omega,⟨i+1,xs,v',by omega,Ly,ta,rfl⟩,cG,rfl,ah⟩
     ·have hn:jJ self xs r=xs++[IE r]:=by unfold jJ;rw[if_pos ⟨h8,ho,hs⟩]
      have P8:=HG (self:=self) Ly r
      rw[hn]at ta P8
      have p2:=kL w0 r.seq
      have zm:[u32 r.addr,u32 (bS r.seq),.int .i64 0,u32 0,.bool false,u64 0,.slice none 0 0]=[IE r].flatMap bJ:=by rw[List.flatMap_singleton,Hx]
      repeat' (first|refine ae (id:=7) (.range 22) 18 [4,7,8,9,12,13,14] ?_|(refine ab ?_;intro K hK)|(refine hK _ ?_;clear hK K)|refine ax ?_|(refine aF ?_ ?_<;>intro hc<;>(try simp only[cS]at hc)<;>(try exact aG))|refine aX ?_|refine az ?_|(refine bQ ?_;intro g)|(refine aD (aa iI rfl p2 ⟨aB.symm⟩) rfl rfl rfl ?_;intro u2)|(refine aD (au bJ [IE r] iI iI iI rfl rfl rfl rfl rfl iI zm rfl rfl) rfl rfl rfl ?_;intro vs)|(refine aD (aR rfl rfl iI iI rfl iI iI nW (by first|omega|(simp[al]<;>omega)) rfl) rfl rfl rfl ?_;intro va))
      --tg
      exact⟨kk - 1,_,by omega,⟨i+1,xs++[IE r],va,by omega,P8,ta,rfl⟩,cG,rfl,ah⟩
   ·have TM:¬(xs.length:Int)<8:=by omega
    rw[xK (by omega)]at ta
    repeat' (first|(refine ab ?_;intro K hK)|(refine hK _ ?_;clear hK K)|refine ax ?_|(refine aF ?_ ?_<;>intro hc<;>(try simp only[cS]at hc)<;>(try exact aG))|refine aX ?_|refine az ?_)
    exact aC (.inl rfl) rfl rfl ⟨(g,v'),rfl,by rw[ta];exact ah⟩
  ·have h1:¬(i:Int)<(c.length:Int):=by omega
   rw[List.drop_eq_nil_of_le h,List.foldl_nil]at ta
   repeat' (first|(refine ab ?_;intro K hK)|(refine hK _ ?_;clear hK K)|refine ax ?_|(refine aF ?_ ?_<;>intro hc<;>(try simp only[cS]at hc)<;>(try exact aG))|refine aX ?_|refine az ?_)
   exact aC (.inl rfl) rfl rfl ⟨(g,v'),rfl,by rw[ta];exact ah⟩
end
section
def Nd.dE (s:Nd):Prop:=∀l∈s.ls,∃q,bX s.held l.dest=some q∧¬q<l.seq
theorem Cy:∀{ls:List Ln} {l:Ln},(aO ls).Nodup→l∈ls→dG ls l.dest=some l
 |[],_,_,h=>by cases h
 |y::r,l,hn,h=>by
  unfold aO at hn
  rw[List.map_cons,List.nodup_cons]at hn
  rcases List.mem_cons.1 h with rfl|h
  ·simp[dG,cN]
  ·have mi:y.dest≠l.dest:=fun e=>hn.1 (by rw[e];exact List.mem_map_of_mem h)
   have ih:=Cy (ls:=r) hn.2 h
   unfold dG at ih ⊢
   simp only[cN]
   rw[if_neg mi]
   cases hf:cN r l.dest with
   |none=>rw[hf]at ih;cases ih
   |some i=>rw[hf]at ih;simpa using ih
theorem tR {ls:List Ln} (ok:aW ls) {l:Ln}:l∈cE ls↔l∈ls:=by
 refine⟨lO,fun h=> ?_⟩
 unfold cE
 refine List.mem_filterMap.2 ⟨l.dest,?_,Cy ok.nodup h⟩
 exact(List.mergeSort_perm _ _).mem_iff.2 (List.mem_map_of_mem h)
theorem AW (L:List Ln):∀s:Nd,(L.map (·.dest)).Nodup→∀l∈L,∃q,bX (L.foldl Nd.cf s).held l.dest=some q∧¬q<l.seq:=by
 have Cq:∀(M:List Ln) (s:Nd) (d:UInt32),d∉M.map (·.dest)→bX (M.foldl Nd.cf s).held d=bX s.held d:=by
  intro M
  induction M with
  |nil=>intro s d _;rfl
  |cons m M ih=>
   intro s d hd
   simp only[List.map_cons,List.mem_cons,not_or]at hd
   rw[List.foldl_cons,ih _ d hd.2]
   unfold Nd.cf
   (repeat' split)<;>simp[Nd.write,fo,Ne.symm hd.1]
 induction L with
 |nil=>intro s _ l hl;cases hl
 |cons m M ih=>
  intro s hn l hl
  simp only[List.map_cons,List.nodup_cons]at hn
  rw[List.foldl_cons]
  rcases List.mem_cons.1 hl with rfl|hl
  ·rw[Cq M _ _ hn.1]
   unfold Nd.cf
   split
   ·rename_i q hq
    split
    ·exact⟨l.seq,by simp[Nd.write,fo],by simp⟩
    ·rename_i X2
     exact⟨q,hq,X2⟩
   ·exact⟨l.seq,by simp[Nd.write,fo],by simp⟩
  ·exact ih _ hn.2 l hl
theorem sf {ls:List Ln} (ok:aW ls):((cE ls).map (·.dest)).Nodup:=by
 have hn:(aQ (aO ls)).Nodup:=(List.mergeSort_perm _ _).nodup_iff.2 ok.nodup
 have ow:((cE ls).map (·.dest)).Sublist (aQ (aO ls)):=by
  unfold cE
  generalize aQ (aO ls)=ds
  induction ds with
  |nil=>exact List.Sublist.refl _
  |cons d ds ih=>
   rw[List.filterMap_cons]
   cases hg:dG ls d with
   |none=>exact(ih).cons _
   |some l=>
    have hd:l.dest=d:=by
     unfold dG at hg
     cases hf:cN ls d with
     |none=>rw[hf]at hg;cases hg
     |some i=>obtain⟨l',h1,h2⟩:=dw hf;rw[hf]at hg;simp only[Option.bind_some,h1]at hg;cases hg;exact h2
    rw[List.map_cons,hd]
    exact ih.cons_cons _
 exact hn.sublist ow
theorem Nd.EV (s:Nd) (ok:aW s.ls):s.note.dE:=by
 intro l hl
 rw[(Nd.fz.note s).ls]at hl
 unfold Nd.note
 exact AW _ _ (sf ok) l ((tR ok).2 hl)
theorem CQ {h:List (UInt32×UInt32)} (L:List Ln):∀s:Nd,s.held=h→(∀l∈L,∃q,bX h l.dest=some q∧¬q<l.seq)→L.foldl Nd.cf s=s:=by
 induction L with
 |nil=>intro s _ _;rfl
 |cons l L ih=>
  intro s hs hl
  obtain⟨q,h1,h2⟩:=hl l (by simp)
  have e:s.cf l=s:=by unfold Nd.cf;rw[hs,h1];simp[h2]
  rw[List.foldl_cons,e]
  exact ih s hs fun l hm=>hl l (by simp[hm])
theorem Nd.dE.note {s:Nd} (h:s.dE):s.note=s.dh:=by
 unfold Nd.note
 refine CQ _ _ rfl fun l hl=> ?_
 have e:s.dh.held=s.held:=by
  unfold Nd.dh
  split
  ·simp[Nd.write]
  ·rfl
 rw[e]
 exact h l (lO hl)
theorem Nd.dE.dh {s:Nd} (h:s.dE):s.dh.dE:=by
 unfold Nd.dh
 split
 ·intro l hl
  simpa [Nd.write]using h l hl
 ·exact h
theorem Nd.dE.to {s t:Nd} (h:s.dE) (h1:t.held=s.held) (h2:∀l∈t.ls,∃l'∈s.ls,l.dest=l'.dest∧l.seq=l'.seq):t.dE:=fun l hl=>by
 obtain⟨l',k1,k2,k3⟩:=h2 l hl
 rw[h1,k2,k3]
 exact h l' k1
theorem Nd.dE.same {s t:Nd} (h:s.dE) (h1:t.held=s.held) (h2:t.ls=s.ls):t.dE:=h.to h1 fun l hl=>⟨l,h2▸hl,rfl,rfl⟩
theorem Lc (ls:List Ln) (d:UInt32) (e:UInt64):∀l∈iY ls d e,∃l'∈ls,l.dest=l'.dest∧l.seq=l'.seq:=fun l hl=>by
 rcases CG hl with h|⟨l',h,rfl⟩
 ·exact⟨l,h,rfl,rfl⟩
 ·refine⟨l',h,?_,?_⟩<;>split<;>rfl
theorem Nd.dE.hand {s:Nd} (h:s.dE) (d:UInt32) (t:cP):(s.hand d t).dE:=by
 unfold Nd.hand
 split
 ·exact h
 ·exact h.to rfl (Lc _ _ _)
theorem Nd.dE.bg {s:Nd} (h:s.dE) (d:UInt32) (l:List cP):(s.bg d l).dE:=by
 induction l using eE with
 |nil=>exact h
 |snoc l t ih=>rw[Nd.dX];exact ih.hand _ _
theorem Nd.dE.flush {s:Nd} (h:s.dE) (d:UInt32):(s.flush d).dE:=by
 have h1:=h.bg d (s.texts d)
 unfold Nd.flush
 simp only
 split<;>exact h1.same rfl rfl
theorem Nd.dE.aT {s:Nd} (h:s.dE) (r:Rq):(s.aT r).dE:=by
 refine h.same ?_ (s.j2 r).1
 unfold Nd.aT
 dsimp only
 split<;>rfl
theorem Nd.Je (s:Nd) (x:Sr):(s.gE x).bI=s.bI∧(s.gE x).last=s.last∧(s.gE x).names=s.names∧(s.gE x).now=s.now∧(s.gE x).wait=s.wait∧(s.gE x).bu=s.bu∧(s.gE x).cd=s.cd∧(s.gE x).ls=s.ls:=by
 have hm:=Nd.fz.note {s with seq:=bS s.seq}
 unfold Nd.gE
 simp only
 generalize Nd.note {s with seq:=bS s.seq}=t at*
 unfold Nd.aT
 dsimp only
 split<;>exact⟨hm.bI,hm.last,hm.names,hm.now,hm.wait,hm.bu,hm.cd,hm.ls⟩
theorem Nd.dE.gE {s:Nd} (h:s.dE) (x:Sr):(s.gE x).dE∧s.Step (s.gE x) 1 1:=by
 have h0:Nd.dE {s with seq:=bS s.seq}:=h.same rfl rfl
 have e:=h0.note
 have h1:=h0.dh
 have k0:s.Step {s with seq:=bS s.seq} 0 0:=Nd.Step.zero rfl rfl rfl rfl
 have k1:=k0.trans (Nd.Step.dh {s with seq:=bS s.seq})
 unfold Nd.gE
 rw[e]
 simp only
 generalize Nd.dh {s with seq:=bS s.seq}=t at*
 have h2:Nd.dE {t with ids:=t.ids+1,aP:=ik (t.aP++[t.now])}:=h1.same rfl rfl
 have k2:=k1.trans (Nd.Step.zero (s:=t) (t:={t with ids:=t.ids+1,aP:=ik (t.aP++[t.now])}) rfl rfl rfl rfl)
 generalize ({t with ids:=t.ids+1,aP:=ik (t.aP++[t.now])}:Nd)=u at*
 refine⟨Nd.dE.aT (s:=u.send 0 _) (Nd.dE.same h2 rfl rfl) _,((k2.trans (Nd.Step.send u _ _)).trans (Nd.Step.aT _ _)).le (by omega) (by omega)⟩
theorem BQ (x:Sr) (h:0≤x.bK∧x.bK≤8∧0≤x.aU∧x.aU≤2):0<(iL x).toNat∧(iL x).toNat≤100000:=by
 obtain⟨d,bK,ret,o,nm⟩:=x
 simp only at h
 unfold iL
 simp only
 obtain⟨h1,h2,h3,h4⟩:=h
 have a:bK=0∨bK=1∨bK=2∨bK=3∨bK=4∨bK=5∨bK=6∨bK=7∨bK=8:=by omega
 have b:ret=0∨ret=1∨ret=2:=by omega
 rcases a with rfl|rfl|rfl|rfl|rfl|rfl|rfl|rfl|rfl<;>rcases b with rfl|rfl|rfl<;>decide
theorem RJ {a w:UInt64} (ha:a.toNat≤4611686018427387904) (hw:0<w.toNat∧w.toNat≤100000):a<a+w:=by
 rw[UInt64.lt_iff_toNat_lt,UInt64.toNat_add]
 omega
structure Nd.wg (s t:Nd) (now:UInt64):Prop where
 bI:∃E:List Tm,t.bI=s.bI++E∧E.length≤1∧(∀u∈E,now<u.at_)∧t.last=s.last+E.length
 names:t.names=s.names
theorem Nd.wg.of {s t:Nd} {now:UInt64} (h1:t.bI=s.bI) (h2:t.last=s.last) (h3:t.names=s.names):s.wg t now:=⟨⟨[],by simp[h1],by simp,by simp,by simp[h2]⟩,h3⟩
theorem Nd.wg.one {s t:Nd} {now:UInt64} (w:UInt64) (n:Int) (h1:t.bI=s.bI++[⟨s.now+w,s.last+1,n⟩]) (h2:t.last=s.last+1) (h3:t.names=s.names) (hn:s.now=now) (hb:now.toNat≤4611686018427387904) (hw:0<w.toNat∧w.toNat≤100000):s.wg t now:=⟨⟨_,h1,by simp,fun u hu=>by simp at hu;subst hu;rw[hn];exact RJ hb hw,by simp[h2]⟩,h3⟩
theorem Nd.wG (s:Nd) (k:Nat) (x:Sr) (hx:0≤x.bK∧x.bK≤8∧0≤x.aU∧x.aU≤2) {now:UInt64} (hn:s.now=now) (hb:now.toNat≤4611686018427387904):s.wg (s.ask k x) now:=by
 unfold Nd.ask
 split
 ·exact Nd.wg.one 1000 x.name rfl rfl rfl hn hb (by decide)
 ·split
  ·exact Nd.wg.one 1000 x.name rfl rfl rfl hn hb (by decide)
  ·obtain⟨e1,e2,e3,e4,_⟩:=Nd.Je (s.cH k true) x
   refine Nd.wg.one (iL x) x.name ?_ ?_ ?_ hn hb (BQ x hx)
   ·show((s.cH k true).gE x).bI++[_]=_
    rw[e1,e2,e4];rfl
   ·show((s.cH k true).gE x).last+1=_
    rw[e2];rfl
   ·exact e3
theorem Nd.uB (s:Nd) (d:UInt32) (l:List cP):(s.bg d l).bI=s.bI∧(s.bg d l).last=s.last∧(s.bg d l).names=s.names:=by
 induction l using eE with
 |nil=>exact⟨rfl,rfl,rfl⟩
 |snoc l t ih=>
  rw[Nd.dX]
  unfold Nd.hand
  split<;>exact ih
theorem Nd.zj (s:Nd) (d:UInt32):(s.flush d).bI=s.bI∧(s.flush d).last=s.last∧(s.flush d).names=s.names:=by
 have h:=Nd.uB s d (s.texts d)
 unfold Nd.flush
 simp only
 split<;>exact h
theorem Nd.DJ (s:Nd) (k:Nat) (x:Sr) (hx:0≤x.bK∧x.bK≤8∧0≤x.aU∧x.aU≤2) {now:UInt64} (hn:s.now=now) (hb:now.toNat≤4611686018427387904):s.wg (s.again k x) now:=by
 unfold Nd.again
 split
 ·obtain⟨h1,h2,h3⟩:=Nd.zj s x.dest
  exact Nd.wg.of h1 h2 h3
 ·split
  ·split
   ·rename_i y hy
    have:=Nd.wG {s with bu:=s.bu.set k y} k y (Sr.xb hy hx).2.2.2 hn hb
    exact⟨this.bI,this.names⟩
   ·exact Nd.wg.of rfl rfl rfl
  ·exact Nd.wG _ _ _ hx hn hb
theorem Nd.dE.ask {s:Nd} (h:s.dE) (k:Nat) (x:Sr):(s.ask k x).dE∧s.Step (s.ask k x) 1 1:=by
 have k0:∀b,s.Step (s.cH k b) 0 0:=fun _=>Nd.Step.zero rfl rfl rfl rfl
 unfold Nd.ask
 split
 ·exact⟨h.same rfl rfl,((k0 _).trans ((Nd.Step.drop _ _).trans (Nd.Step.arm _ _ _))).le (by omega) (by omega)⟩
 ·split
  ·exact⟨h.same rfl rfl,((k0 _).trans ((Nd.Step.drop _ _).trans (Nd.Step.arm _ _ _))).le (by omega) (by omega)⟩
  ·have h0:(s.cH k true).dE:=h.same rfl rfl
   obtain⟨h1,h2⟩:=h0.gE x
   exact⟨h1.same rfl rfl,(((k0 true).trans h2).trans (Nd.Step.arm _ _ _)).le (by omega) (by omega)⟩
theorem Nd.dE.again {s:Nd} (h:s.dE) (k:Nat) (x:Sr):(s.again k x).dE∧s.Step (s.again k x) ((s.texts x.dest).length+1) 1:=by
 unfold Nd.again
 split
 ·exact⟨h.flush _,(Nd.Step.flush _ _).le (by omega) (by omega)⟩
 ·split
  ·split
   ·rename_i y _
    have h0:Nd.dE {s with bu:=s.bu.set k y}:=h.same rfl rfl
    have k0:s.Step {s with bu:=s.bu.set k y} 0 0:=Nd.Step.zero rfl rfl rfl rfl
    obtain⟨h1,h2⟩:=h0.ask k y
    exact⟨h1,(k0.trans h2).le (by omega) (by omega)⟩
   ·exact⟨h.same rfl rfl,((Nd.Step.dy s (s.texts x.dest).length 5).trans (Nd.Step.zero (t:=((s.dy (s.texts x.dest).length 5).cX x.dest).stop k) rfl rfl rfl rfl)).le (by omega) (by omega)⟩
  ·obtain⟨h1,h2⟩:=h.ask k x
   exact⟨h1,h2.le (by omega) (by omega)⟩
def iq (now:UInt64) (l:List Tm):Nat:=(l.filter fun t=>decide (t.at_≤now)).length
theorem Av (now:UInt64) (l:List Tm):iq now l≤l.length:=List.length_filter_le _ _
theorem BZ (now:UInt64) (l E:List Tm) (h:∀u∈E,now<u.at_):iq now (l++E)=iq now l:=by
 unfold iq
 rw[List.filter_append]
 have:E.filter (fun t=>decide (t.at_≤now))=[]:=List.filter_eq_nil_iff.2 fun u hu=>by simpa using h u hu
 rw[this,List.append_nil]
theorem D7 (now:UInt64) {l:List Tm} {i:Nat} (hi:i<l.length) (h:(cJ l i).at_≤now):iq now (l.eraseIdx i)+1=iq now l:=by
 unfold iq
 rw[←((w5 hi).filter _).length_eq,List.filter_cons,if_pos (by simpa using h)]
 simp
theorem gS {s:Nd} (h:s.Inv) (d:UInt32):(s.texts d).length≤4∧∀t∈s.texts d,t.length≤16:=by
 unfold Nd.texts
 cases hm:bX s.wait d with
 |none=>simp
 |some l=>exact h.wait _ (CH hm)
theorem Nd.Inv.bI {s:Nd} (h:s.Inv) (l:List Tm):Nd.Inv {s with bI:=l}:=h.to h.dp rfl rfl h.order rfl h.aP rfl (fun _ h=>h)
structure Nd.Stepped (s t:Nd) (now:UInt64):Prop where
 inv:t.Inv
 sw:t.dE
 step:s.Step t 5 1
 due:iq now t.bI+1=iq now s.bI
 bI:t.bI.length≤s.bI.length
 last:s.last≤t.last∧t.last≤s.last+1
 names:t.names=s.names
theorem Nd.nu {s t:Nd} {now:UInt64} (h:s.step now=some t) (hi:s.Inv) (hd:s.dE) (hn:s.now=now) (hb:now.toNat≤4611686018427387904):s.Stepped t now:=by
 unfold Nd.step at h
 cases Mg:gN s.bI now s.bI.length with
 |none=>rw[Mg]at h;cases h
 |some i=>
  rw[Mg]at h
  simp only at h
  obtain⟨b1,b2,_⟩:=iz Mg
  have Ox:=D7 now b1 (UInt64.le_iff_toNat_le.2 b2)
  have hlen:(s.bI.eraseIdx i).length+1=s.bI.length:=by rw[List.length_eraseIdx];split<;>omega
  have plain:s.Stepped {s with bI:=s.bI.eraseIdx i} now:=⟨hi.bI _,hd.same rfl rfl,(Nd.Step.zero (s:=s) (t:={s with bI:=s.bI.eraseIdx i}) rfl rfl rfl rfl).le (by omega) (by omega),Ox,by show(s.bI.eraseIdx i).length≤_;omega,⟨Int.le_refl _,by show s.last≤_;omega⟩,rfl⟩
  cases sY:nP s.bu (cJ s.bI i).km with
  |none=>rw[sY]at h;cases h;exact plain
  |some k=>
   rw[sY]at h
   simp only at h
   cases hk:s.bu[k]? with
   |none=>rw[hk]at h;cases h;exact plain
   |some x=>
    rw[hk]at h
    simp only[Option.some.injEq]at h
    have rf:=hi.sr.each x (List.mem_of_getElem? hk)
    obtain⟨p1,p2,p3,p4,p5,p6,p7⟩:=plain
    have hN:=p2.again k x
    have hM:=Nd.DJ {s with bI:=s.bI.eraseIdx i} k x ⟨rf.1,rf.2.1,rf.2.2.1,rf.2.2.2.1⟩ hn hb
    obtain⟨⟨E,m1,m2,m3,m4⟩,m5⟩:=hM
    have hI:=p1.again (k:=k) (x:=x) hk
    have ht:=(gS p1 x.dest).1
    rw[h]at hN m1 m4 m5 hI
    have ks:s.Step {s with bI:=s.bI.eraseIdx i} 0 0:=Nd.Step.zero rfl rfl rfl rfl
    simp only at m1 m4 m5
    refine⟨hI,hN.1,(ks.trans hN.2).le (by omega) (by omega),by rw[m1,BZ _ _ _ m3];exact Ox,by rw[m1,List.length_append];omega,by omega,m5⟩
theorem Nd.Io {s:Nd} {now:UInt64} (h:s.step now=none):gN s.bI now s.bI.length=none:=by
 unfold Nd.step at h
 cases Mg:gN s.bI now s.bI.length with
 |none=>rfl
 |some i=>
  rw[Mg]at h
  simp only at h
  split at h
  ·split at h<;>cases h
  ·cases h
end
section
def oq (xs:List da):Prop:=xs.Pairwise fun a b=>a.1.dest.toNat<b.1.dest.toNat
structure dc (ls:List Ln) (xs:List da):Prop where
 perm:ls.Perm (xs.map (·.1))
 fH:oq xs
theorem H9 {xs:List da} {g:da→da} (hg:∀p,(g p).1.dest=p.1.dest) (h:oq xs):oq (xs.map g):=by
 unfold oq at*
 rw[List.pairwise_map]
 exact h.imp fun {a b} xe=>by rw[hg,hg];exact xe
theorem xW {xs:List da} (h:oq xs) {i j:Nat} {p q:da} (hi:xs[i]? =some p) (hj:xs[j]? =some q) (hd:p.1.dest=q.1.dest):i=j:=by
 obtain⟨a1,a2⟩:=List.getElem?_eq_some_iff.1 hi
 obtain⟨b1,b2⟩:=List.getElem?_eq_some_iff.1 hj
 rcases Nat.lt_trichotomy i j with h1|h1|h1
 ·have:=List.pairwise_iff_getElem.1 h i j a1 b1 h1
  rw[a2,b2,hd]at this;omega
 ·exact h1
 ·have:=List.pairwise_iff_getElem.1 h j i b1 a1 h1
  rw[a2,b2,hd]at this;omega
theorem Oa {xs:List da} (h:oq xs) {i:Nat} {p:da} (hi:xs[i]? =some p):kb p.1.dest xs=i:=by
 obtain⟨a1,a2⟩:=List.getElem?_eq_some_iff.1 hi
 refine Ak (by omega) (fun j q hj hq=> ?_) fun q hq=> ?_
 ·obtain⟨b1,b2⟩:=List.getElem?_eq_some_iff.1 hq
  have:=List.pairwise_iff_getElem.1 h j i b1 a1 hj
  rw[b2,a2]at this
  exact UInt32.lt_iff_toNat_lt.2 this
 ·rw[hi]at hq;cases hq
  exact fun hh=>by have:=UInt32.lt_iff_toNat_lt.1 hh;omega
theorem mV {xs:List da} (h:oq xs) {d:UInt32} {p:da}:fj xs d=some p↔p∈xs∧p.1.dest=d:=by
 constructor
 ·intro hg
  obtain⟨h1,h2⟩:=fl hg
  exact⟨List.mem_of_getElem? h1,h2⟩
 ·rintro⟨hm,rfl⟩
  obtain⟨i,hi⟩:=List.getElem?_of_mem hm
  have:=Oa h hi
  unfold fj
  rw[this,hi]
  simp
theorem tI {xs:List da} (h:oq xs) {d:UInt32}:fj xs d=none↔∀p∈xs,p.1.dest≠d:=by
 constructor
 ·intro hg p hp hd
  rw[(mV h).2 ⟨hp,hd⟩]at hg;cases hg
 ·intro l9
  cases hg:fj xs d with
  |none=>rfl
  |some p=>obtain⟨h1,h2⟩:=(mV h).1 hg;exact absurd h2 (l9 p h1)
theorem BY {ls:List Ln} (h:(aO ls).Nodup) {i j:Nat} {a b:Ln} (hi:ls[i]? =some a) (hj:ls[j]? =some b) (hd:a.dest=b.dest):i=j:=by
 have hp:ls.Pairwise fun a b=>a.dest≠b.dest:=List.pairwise_map.1 h
 obtain⟨a1,a2⟩:=List.getElem?_eq_some_iff.1 hi
 obtain⟨b1,b2⟩:=List.getElem?_eq_some_iff.1 hj
 rcases Nat.lt_trichotomy i j with h1|h1|h1
 ·have:=List.pairwise_iff_getElem.1 hp i j a1 b1 h1
  rw[a2,b2]at this;exact absurd hd this
 ·exact h1
 ·have:=List.pairwise_iff_getElem.1 hp j i b1 a1 h1
  rw[a2,b2]at this;exact absurd hd.symm this
theorem oU {ls:List Ln} (h:(aO ls).Nodup) {d:UInt32} {l:Ln}:dG ls d=some l↔l∈ls∧l.dest=d:=by
 constructor
 ·intro hg
  unfold dG at hg
  cases hf:cN ls d with
  |none=>rw[hf]at hg;cases hg
  |some i=>
   rw[hf]at hg
   obtain⟨l',h1,h2⟩:=dw hf
   have h3:ls[i]? =some l:=hg
   rw[h1]at h3;cases h3
   exact⟨List.mem_of_getElem? h1,h2⟩
 ·rintro⟨hm,rfl⟩
  cases hf:cN ls l.dest with
  |none=>exact absurd rfl (lN.1 hf l hm)
  |some i=>
   obtain⟨l',h1,h2⟩:=dw hf
   rw[eO hf h1]
   obtain⟨j,hj⟩:=List.getElem?_of_mem hm
   have e:i=j:=BY h h1 hj h2
   subst e
   rw[h1]at hj;exact hj
theorem D5 (ls:List Ln) (ds:List UInt32):((ds.filterMap (dG ls)).map (·.dest)).Sublist ds:=by
 induction ds with
 |nil=>exact List.Sublist.refl _
 |cons d ds ih=>
  rw[List.filterMap_cons]
  cases hg:dG ls d with
  |none=>exact ih.cons _
  |some l=>
   have hd:l.dest=d:=by
    unfold dG at hg
    cases hf:cN ls d with
    |none=>rw[hf]at hg;cases hg
    |some i=>
     obtain⟨l',h1,h2⟩:=dw hf
     rw[hf,Option.bind_some,h1]at hg
     cases hg
     exact h2
   simp only[List.map_cons,hd]
   exact ih.cons_cons d
section
variable {ls:List Ln} {xs:List da}
theorem dc.nodup (h:dc ls xs):(aO ls).Nodup:=by
 have h1:(aO (xs.map (·.1))).Nodup:=by
  unfold aO
  rw[List.map_map]
  refine List.pairwise_map.2 (h.fH.imp fun {a b} xe he=> ?_)
  have Mi:a.1.dest=b.1.dest:=he
  rw[Mi]at xe;omega
 exact(h.perm.map (fun l:Ln=>l.dest)).nodup_iff.2 h1
theorem dc.get (h:dc ls xs) (d:UInt32):(fj xs d).map (·.1)=dG ls d:=by
 cases hg:fj xs d with
 |some p=>
  obtain⟨h1,h2⟩:=(mV h.fH).1 hg
  exact((oU h.nodup).2 ⟨h.perm.mem_iff.2 (List.mem_map_of_mem h1),h2⟩).symm
 |none=>
  have h1:=(tI h.fH).1 hg
  cases hl:dG ls d with
  |none=>rfl
  |some l=>
   obtain⟨h2,h3⟩:=(oU h.nodup).1 hl
   obtain⟨p,h4,h5⟩:=List.mem_map.1 (h.perm.mem_iff.1 h2)
   exact absurd (by rw[h5];exact h3) (h1 p h4)
theorem dc.Na (h:dc ls xs) {d:UInt32} {p:da} (hg:fj xs d=some p):dG ls d=some p.1:=by rw[←h.get d,hg];rfl
theorem dc.not (h:dc ls xs) {d:UInt32} (hg:fj xs d=none):dG ls d=none:=by rw[←h.get d,hg];rfl
theorem dc.length (h:dc ls xs):xs.length=ls.length:=by have:=h.perm.length_eq;simpa using this.symm
theorem dc.mem (h:dc ls xs) {p:da} (hp:p∈xs):p.1∈ls:=h.perm.mem_iff.2 (List.mem_map_of_mem hp)
theorem dc.map (h:dc ls xs) {f:Ln→Ln} {g:da→da} (hf:∀l,(f l).dest=l.dest) (hg:∀p,(g p).1=f p.1):dc (ls.map f) (xs.map g):=by
 refine⟨?_,H9 (fun p=>by rw[hg,hf]) h.fH⟩
 have h1:=h.perm.map f
 rw[List.map_map]at h1 ⊢
 have e:(f ∘ fun x:da=>x.1)=((fun x:da=>x.1)∘ g):=by funext p;simp[hg]
 rw[←e];exact h1
theorem xz (hn:(aO ls).Nodup) (d:UInt32) (f:Ln→Ln):lP ls d f=ls.map fun l=>if l.dest=d then f l else l:=by
 cases hf:cN ls d with
 |none=>
  rw[ng hf]
  have:=lN.1 hf
  conv=>lhs;rw[←List.map_id ls]
  refine List.map_congr_left fun l hl=> ?_
  rw[if_neg (this l hl)];rfl
 |some i=>
  obtain⟨l,h1,h2⟩:=dw hf
  rw[fm hf h1]
  apply List.ext_getElem?
  intro j
  rw[List.getElem?_set,List.getElem?_map]
  have hi:=(List.getElem?_eq_some_iff.1 h1).1
  split
  ·rename_i e;subst e
   rw[h1];simp[h2]
  ·rename_i e
   cases hj:ls[j]? with
   |none=>rfl
   |some y=>
    have hy:¬y.dest=d:=fun hy=>e (BY hn h1 hj (h2.trans hy.symm))
    simp[hy]
theorem Gp (hr:oq xs) {i:Nat} {p:da} (hi:xs[i]? =some p) (z:da):xs.set i z=xs.map fun q=>if q.1.dest=p.1.dest then z else q:=by
 apply List.ext_getElem?
 intro j
 rw[List.getElem?_set,List.getElem?_map]
 have h1:=(List.getElem?_eq_some_iff.1 hi).1
 split
 ·rename_i e;subst e;rw[hi];simp[h1]
 ·rename_i e
  cases hj:xs[j]? with
  |none=>rfl
  |some y=>
   have hy:¬y.1.dest=p.1.dest:=fun hy=>e (xW hr hi hj hy.symm)
   simp[hy]
theorem dc.mod (h:dc ls xs) {d:UInt32} {f:Ln→Ln} (hf:∀l,(f l).dest=l.dest) {p z:da} (hg:fj xs d=some p) (hz:z.1=f p.1):dc (lP ls d f) (xs.set (kb d xs) z):=by
 obtain⟨h1,h2⟩:=fl hg
 rw[xz h.nodup,Gp h.fH h1]
 subst h2
 have e:(xs.map fun q=>if q.1.dest=p.1.dest then z else q)=xs.map fun q=>if q.1.dest=p.1.dest then(f q.1,z.2)else q:=by
  refine List.map_congr_left fun q hq=> ?_
  split
  ·rename_i e
   obtain⟨j,hj⟩:=List.getElem?_of_mem hq
   have:=xW h.fH h1 hj e.symm
   rw[←this,h1]at hj;cases hj
   rw[←hz]
  ·rfl
 rw[e]
 exact h.map (f:=fun l=>if l.dest=p.1.dest then f l else l) (g:=fun q=>if q.1.dest=p.1.dest then(f q.1,z.2)else q) (fun l=>by split;exact hf l;rfl) fun q=>by split<;>rfl
theorem dc.same (h:dc ls xs) {d:UInt32} {f:Ln→Ln} (hk:∀p,fj xs d=some p→f p.1=p.1):dc (lP ls d f) xs:=by
 have e:lP ls d f=ls:=by
  rw[xz h.nodup]
  conv=>rhs;rw[←List.map_id ls]
  refine List.map_congr_left fun l hl=> ?_
  split
  ·rename_i e
   obtain⟨p,hp,rfl⟩:=List.mem_map.1 (h.perm.mem_iff.1 hl)
   exact hk p ((mV h.fH).2 ⟨hp,e⟩)
  ·rfl
 rw[e];exact h
theorem dc.exp (h:dc ls xs) (now:UInt64):dc (mE now ls) (l8 now xs):=
 h.map (fun l=>by unfold Ln.exp;split<;>rfl) fun p=>by unfold yw Ln.exp;split<;>rfl
theorem dc.brk (h:dc ls xs) (nb:UInt32):dc (nH nb ls) (mR nb xs):=
 h.map (fun l=>by unfold Ln.brk;split<;>rfl) fun p=>by unfold yu Ln.brk;split<;>rfl
theorem dc.look (h:dc ls xs) (d:UInt32) (now:UInt64):(rQ xs d now).map (·.1)=bR ls d now:=by
 unfold rQ bR
 cases hg:fj xs d with
 |none=>rw[h.not hg];rfl
 |some p=>
  rw[h.Na hg]
  dsimp only
  split<;>rfl
theorem dc.use (h:dc ls xs) (d:UInt32) (e:UInt64):dc (iY ls d e) (Lb xs d e):=by
 unfold iY Lb
 have Hk:∀a:UInt64,¬a<e→max a e=a:=fun a ha=>by
  apply UInt64.toNat_inj.1
  show(if a≤e then e else a).toNat=_
  have VR:¬a.toNat<e.toNat:=ha
  split
  ·rename_i h1;have xc:a.toNat≤e.toNat:=h1;omega
  ·rfl
 have Rf:∀a:UInt64,a<e→max a e=e:=fun a ha=>by
  show(if a≤e then e else a)=_
  rw[if_pos (UInt64.le_of_lt ha)]
 cases hg:fj xs d with
 |none=>exact h.same fun p hp=>by rw[hg]at hp;cases hp
 |some p=>
  dsimp only
  by_cases c:p.1.valid=true∧p.1.cB<e
  ·rw[if_pos c]
   refine h.mod (fun l=>by split<;>rfl) hg ?_
   rw[if_pos c.1,Rf _ c.2]
  ·rw[if_neg c]
   refine h.same fun q hq=> ?_
   rw[hg]at hq;cases hq
   split
   ·rename_i hv
    rw[Hk _ fun h2=>c ⟨hv,h2⟩]
   ·rfl
theorem dc.FK (h:dc ls xs) (d nb:UInt32) (s:Option Addr×Nat):dc (gF ls d nb) (rE xs d nb s):=by
 unfold gF rE
 cases hg:fj xs d with
 |none=>exact h.same fun p hp=>by rw[hg]at hp;cases hp
 |some p=>
  dsimp only
  by_cases c:p.1.valid=true∧p.1.before.length<4∧¬nb∈p.1.before
  ·rw[if_pos c]
   refine h.mod (fun l=>by split<;>rfl) hg ?_
   rw[if_pos ⟨c.1,c.2.1⟩]
   rfl
  ·rw[if_neg c]
   refine h.same fun q hq=> ?_
   rw[hg]at hq;cases hq
   split
   ·rename_i hv
    rw[KX (Decidable.byContradiction fun hm=>c ⟨hv.1,hv.2,hm⟩)]
   ·rfl
theorem dc.fR (h:dc ls xs) (src d:UInt32):xD xs src d=fR ls src d:=by
 unfold xD Go.Proofs.YtapoehkdnglahabGreat.fR
 cases hg:fj xs d with
 |none=>rw[h.not hg]
 |some p=>rw[h.Na hg]
theorem dc.gI (h:dc ls xs) (src d s:UInt32):dc (iS ls src d s) (CC xs src d s):=by
 unfold iS CC
 cases hg:fj xs d with
 |none=>exact h.same fun p hp=>by rw[hg]at hp;cases hp
 |some p=>
  dsimp only
  by_cases c:p.1.valid=true∧p.1.next=src
  ·rw[if_pos c]
   refine h.mod (fun l=>by split<;>rfl) hg ?_
   rw[if_pos c]
   rfl
  ·rw[if_neg c]
   refine h.same fun q hq=> ?_
   rw[hg]at hq;cases hq
   rw[if_neg c]
theorem GQ (xs:List da) (i:Nat) (x:da):(uT xs i x).Perm (xs++[x]):=by
 unfold uT
 have h1:(xs.take i++[x]++xs.drop i).Perm (xs.take i++(xs.drop i++[x])):=by
  rw[List.append_assoc]
  exact List.Perm.append_left _ List.perm_append_comm
 rw[←List.append_assoc,List.take_append_drop]at h1
 exact h1
theorem GR (h:oq xs) {x:da} (hn:fj xs x.1.dest=none):oq (uT xs (kb x.1.dest xs) x):=by
 have zt:=(tI h).1 hn
 unfold uT oq
 rw[List.append_assoc,List.pairwise_append]
 have l9:∀b∈xs.drop (kb x.1.dest xs),x.1.dest.toNat<b.1.dest.toNat:=by
  intro b hb
  obtain⟨j,hj⟩:=List.getElem?_of_mem hb
  rw[List.getElem?_drop]at hj
  have bW:=(List.getElem?_eq_some_iff.1 hj).1
  obtain⟨p,hp⟩:∃p,xs[kb x.1.dest xs]? =some p:=⟨_,List.getElem?_eq_getElem (by omega)⟩
  have h1:=wJ x.1.dest xs p hp
  rw[UInt32.lt_iff_toNat_lt]at h1
  have h2:=zt p (List.mem_of_getElem? hp)
  have Lj:p.1.dest.toNat≠x.1.dest.toNat:=fun e=>h2 (UInt32.toNat_inj.1 e)
  rcases Nat.eq_zero_or_pos j with h0|h0
  ·subst h0
   rw[Nat.add_zero,hp]at hj;cases hj;omega
  ·obtain⟨a1,a2⟩:=List.getElem?_eq_some_iff.1 hp
   obtain⟨b1,b2⟩:=List.getElem?_eq_some_iff.1 hj
   have:=List.pairwise_iff_getElem.1 h _ _ a1 b1 (by omega)
   rw[a2,b2]at this;omega
 refine⟨h.sublist (List.take_sublist _ _),?_,?_⟩
 ·rw[List.cons_append,List.nil_append,List.pairwise_cons]
  exact⟨l9,h.sublist (List.drop_sublist _ _)⟩
 ·intro a ha b hb
  obtain⟨j,hj⟩:=List.getElem?_of_mem ha
  have bW:=(List.getElem?_eq_some_iff.1 hj).1
  rw[List.length_take]at bW
  rw[List.getElem?_take,if_pos (by omega)]at hj
  have h1:=DQ x.1.dest xs j a (by omega) hj
  rw[UInt32.lt_iff_toNat_lt]at h1
  rcases List.mem_cons.1 hb with rfl|hb
  ·exact h1
  ·have:=l9 b hb;omega
theorem dc.C3 (h:dc ls xs) {x:da} (hn:fj xs x.1.dest=none):dc (j8 ls x.1) (uT xs (kb x.1.dest xs) x):=by
 have h1:=h.not hn
 have h2:cN ls x.1.dest=none:=lN.2 fun l hl hd=>by
  rw[(oU h.nodup).2 ⟨hl,hd⟩]at h1;cases h1
 refine⟨?_,GR h.fH hn⟩
 unfold j8
 rw[h2]
 dsimp only
 have h3:=(GQ xs (kb x.1.dest xs) x).map (·.1)
 rw[List.map_append]at h3
 exact(h.perm.append_right [x.1]).trans h3.symm
theorem HO {x:Ln} (hs:dG ls x.dest≠none):j8 ls x=lP ls x.dest fun _=>x:=by
 unfold j8
 cases hf:cN ls x.dest with
 |none=>exact absurd (jI hf) hs
 |some i=>
  obtain⟨l,h1,h2⟩:=dw hf
  rw[fm hf h1]
theorem dc.KL (h:dc ls xs) {x p:da} (hg:fj xs x.1.dest=some p):dc (j8 ls x.1) (xs.set (kb x.1.dest xs) x):=by
 rw[HO (by rw[h.Na hg];simp)]
 obtain⟨h1,h2⟩:=fl hg
 rw[xz h.nodup,Gp h.fH h1]
 have e:(ls.map fun l=>if l.dest=x.1.dest then x.1 else l)=ls.map fun l=>if l.dest=p.1.dest then x.1 else l:=by rw[h2]
 rw[e]
 exact h.map (f:=fun l=>if l.dest=p.1.dest then x.1 else l) (g:=fun q=>if q.1.dest=p.1.dest then x else q) (fun l=>by split;(rename_i k;rw[k,h2]);rfl) fun q=>by split<;>rfl
theorem dc.La (h:dc ls xs) (self d q:UInt32) (hp:Int) (nb:UInt32) (e:UInt64):(Fm self xs d q hp nb e).1=(dI self ls (Ln.bj d q hp nb e)).1∧dc (dI self ls (Ln.bj d q hp nb e)).2 (Fm self xs d q hp nb e).2:=by
 have hu:dI self ls (Ln.bj d q hp nb e)=if d=self∨d=0 then((2:Int),ls)else match dG ls d with
  |some l=>if(q.toNat:Int)<l.rk∨(q.toNat:Int)=l.rk∧ -hp≤ -l.aH then(3,ls)else(0,j8 ls (qO d q hp nb e).1)
  |none=>if 8≤ls.length then(4,ls)else(0,j8 ls (qO d q hp nb e).1):=rfl
 rw[hu]
 unfold Fm
 by_cases c:d=self∨d=0
 ·rw[if_pos c,if_pos c];exact⟨rfl,h⟩
 ·rw[if_neg c,if_neg c]
  cases hg:fj xs d with
  |none=>
   rw[h.not hg]
   dsimp only
   rw[h.length]
   split
   ·exact⟨rfl,h⟩
   ·exact⟨rfl,h.C3 (x:=qO d q hp nb e) hg⟩
  |some p=>
   rw[h.Na hg]
   dsimp only
   have he:(-hp≤ -p.1.aH)↔p.1.aH≤hp:=by omega
   by_cases c2:(q.toNat:Int)<p.1.rk∨(q.toNat:Int)=p.1.rk∧p.1.aH≤hp
   ·rw[if_pos c2,if_pos (c2.imp id fun k=>⟨k.1,he.2 k.2⟩)];exact⟨rfl,h⟩
   ·rw[if_neg c2,if_neg (fun k=>c2 (k.imp id fun k=>⟨k.1,he.1 k.2⟩))];exact⟨rfl,h.KL (x:=qO d q hp nb e) hg⟩
theorem dc.list (h:dc ls xs) (ok:aW ls):xs.map (·.1)=cE ls:=by
 have h1:(cE ls).Perm (xs.map (·.1)):=by
  refine(List.perm_ext_iff_of_nodup ?_ ?_).2 fun l=> ?_
  ·exact(List.pairwise_map.1 (sf ok)).imp fun xe he=>xe (by rw[he])
  ·exact h.perm.nodup_iff.1 ((List.pairwise_map.1 h.nodup).imp fun xe he=>xe (by rw[he]))
  ·rw[tR ok,h.perm.mem_iff]
 have h2:(xs.map (·.1)).Pairwise fun a b=>a.dest.toNat≤b.dest.toNat:=List.pairwise_map.2 (h.fH.imp fun xe=>Nat.le_of_lt xe)
 have h3:(cE ls).Pairwise fun a b=>a.dest.toNat≤b.dest.toNat:=by
  have ow:((cE ls).map (·.dest)).Sublist (aQ (aO ls)):=by
   unfold cE
   exact D5 ls _
  have h4:((cE ls).map (·.dest)).Pairwise fun a b=>a.toNat≤b.toNat:=List.Pairwise.sublist ow (lX (aO ls))
  exact(List.pairwise_map (f:=fun l:Ln=>l.dest) (R:=fun a b:UInt32=>a.toNat≤b.toNat)).1 h4
 refine(List.Perm.eq_of_pairwise (fun a b ha hb k1 k2=> ?_) h2 h3 h1.symm)
 have hd:a.dest=b.dest:=UInt32.toNat_inj.1 (Nat.le_antisymm k1 k2)
 have VR:=h.perm.mem_iff.2 ha
 have Xr:=(tR ok).1 hb
 have e1:=(oU h.nodup).2 ⟨VR,rfl⟩
 have e2:=(oU h.nodup).2 ⟨Xr,rfl⟩
 rw[hd,e2]at e1
 exact(Option.some.inj e1).symm
theorem dc.outs (h:dc ls xs) (ok:aW ls) (nb:UInt32):mH nb xs=jh nb (aQ (aO ls)) ls:=by
 have e:jh nb (aQ (aO ls)) ls=(cE ls).filterMap fun l=>if l.valid=true∧l.next=nb∧0<l.before.length then some (l.dest,(l.ended 0).seq)else none:=by
  unfold jh cE
  rw[List.filterMap_filterMap]
  congr 1
  funext d
  cases dG ls d<;>rfl
 rw[e,←h.list ok,List.filterMap_map]
 unfold mH
 congr 1
 funext p
 simp only[Function.comp_def,and_assoc]
end
theorem tU (self:UInt32):∀(c:List Rec) (ls:List Ln) (xs:List da),c.Pairwise (fun a b=>a.lt b=true)→dc ls xs→(∀p∈xs,∀r∈c,r.own=false→p.1.dest.toNat<r.addr.toNat)→dc (c.foldl (fe self) ls) (c.foldl (jJ self) xs)
 |[],_,_,_,h,_=>h
 |r::c,ls,xs,hc,h,bW=>by
  rw[List.foldl_cons,List.foldl_cons]
  obtain⟨h1,h2⟩:=List.pairwise_cons.1 hc
  have hlen:=h.length
  by_cases k:r.own=false∧r.addr≠self∧ls.length<8
  ·have e1:fe self ls r=j8 ls r.ln:=by unfold fe;rw[if_pos k]
   have e2:jJ self xs r=xs++[IE r]:=by unfold jJ;rw[if_pos ⟨by omega,k.1,k.2.1⟩]
   rw[e1,e2]
   have zt:fj xs (IE r).1.dest=none:=(tI h.fH).2 fun p hp hd=>by
    have:=bW p hp r (by simp) k.1
    rw[hd]at this
    exact Nat.lt_irrefl _ this
   have l5:kb (IE r).1.dest xs=xs.length:=Ak (Nat.le_refl _) (fun j p hj hp=>UInt32.lt_iff_toNat_lt.2 (bW p (List.mem_of_getElem? hp) r (by simp) k.1)) fun p hp=>by rw[List.getElem?_eq_none (Nat.le_refl _)]at hp;cases hp
   have h3:=h.C3 (x:=IE r) zt
   rw[l5]at h3
   have e3:uT xs xs.length (IE r)=xs++[IE r]:=by unfold uT;simp
   rw[e3]at h3
   refine tU self c _ _ h2 h3 fun p hp r' Hn Hm=> ?_
   rcases List.mem_append.1 hp with hp|hp
   ·exact bW p hp r' (List.mem_cons_of_mem _ Hn) Hm
   ·rw[List.mem_singleton]at hp;subst hp
    have h4:=h1 r' Hn
    unfold Rec.lt at h4
    rw[k.1,Hm]at h4
    simp only[bne_self_eq_false,Bool.false_eq_true,if_false,decide_eq_true_eq]at h4
    exact UInt32.lt_iff_toNat_lt.1 h4
  ·have e1:fe self ls r=ls:=by unfold fe;rw[if_neg k]
   have e2:jJ self xs r=xs:=by unfold jJ;rw[if_neg fun k2=>k ⟨k2.2.1,k2.2.2,by omega⟩]
   rw[e1,e2]
   exact tU self c _ _ h2 h fun p hp r' Hn Hm=>bW p hp r' (List.mem_cons_of_mem _ Hn) Hm
theorem dc.nil:dc [] []:=⟨List.Perm.refl _,List.Pairwise.nil⟩
theorem dc.new (self:UInt32) (l:List Rec):dc (iV self (cC l)) (Pt self (cC l)):=
 tU self _ _ _ (jD l).fH dc.nil fun p hp=>by cases hp
def wQ (xs:List da) (d:UInt32):List da:=match fj xs d with
 |some p=>xs.set (kb d xs) ({p.1 with seq:=bS p.1.seq},p.2)
 |none=>xs
theorem dc.bump {ls:List Ln} {xs:List da} (h:dc ls xs) (d:UInt32):dc (ia ls d) (wQ xs d):=by
 unfold ia wQ
 cases hg:fj xs d with
 |none=>exact h.same fun p hp=>by rw[hg]at hp;cases hp
 |some p=>exact h.mod (f:=fun l=>{l with seq:=bS l.seq}) (fun l=>rfl) hg rfl
end
section
open Go.RowKit
def ve (p:da):af:=rows 26 1 cA (il p.1 p.2) (aQ p.1.before)
theorem pw (p:da) (xs:List da):cQ (p::xs)=ve p*cQ xs:=rfl
def Bw (p:da):Prop:=p.1.before=[]∧p.2=(none,0)
theorem aq.bare {p:da} (h:Bw p) (H:af):aq H (ve p*H):=by
 have e0:aQ ([]:List UInt32)=[]:=List.length_eq_zero_iff.1 (by rw[cF];rfl)
 have e:ve p=rows 26 1 cA (.slice none 0 0) []:=by
  unfold ve il
  rw[h.1,h.2,e0]
  rfl
 rw[e]
 exact aq.nil _ _ _ _ _
theorem aq.rG {g:da→da} (hg:∀p,ve (g p)=ve p∨Bw (g p)):∀(xs:List da) (Z:af),aq (cQ xs*Z) (cQ (xs.map g)*Z)
 |[],Z=>aq.refl _
 |p::xs,Z=>by
  rw[List.map_cons,pw,pw,ad,ad]
  rcases hg p with h|h
  ·rw[h];exact aq.tail _ (aq.rG hg xs Z)
  ·exact(aq.drop _ _).trans ((aq.rG hg xs Z).trans (aq.bare h _))
theorem aq.kG {xs:List da} {i:Nat} {p z:da} (hp:xs[i]? =some p) (hz:ve z=ve p∨Bw z) (Z:af):aq (cQ xs*Z) (cQ (xs.set i z)*Z):=by
 have h:=List.getElem?_eq_some_iff.1 hp
 rw[rF hp,Go.Proofs.YtapoehkdnglahabGreat.kG h.1]
 have e:∀A B C:af,(A*(B*C))*Z=B*(A*(C*Z)):=fun A B C=>by ac_rfl
 rw[e,e]
 rcases hz with hz|hz
 ·have pF:rows 26 1 cA (il z.1 z.2) (aQ z.1.before)=rows 26 1 cA (il p.1 p.2) (aQ p.1.before):=hz
  rw[pF];exact aq.refl _
 ·exact(aq.drop _ _).trans (aq.bare hz _)
theorem aq.Jk {xs:List da} {i:Nat} {z:da} (hz:Bw z) (Z:af):aq (cQ xs*Z) (cQ (uT xs i z)*Z):=by
 unfold uT
 have e:cQ ((xs.take i++[z])++xs.drop i)*Z=ve z*(cQ xs*Z):=by
  have e2:cQ xs=cQ (xs.take i)*cQ (xs.drop i):=by rw[←kF,List.take_append_drop]
  rw[e2,kF,kF,pw]
  have e3:cQ ([]:List da)=emp:=rfl
  rw[e3,bl]
  ac_rfl
 rw[e]
 exact aq.bare hz _
def ct (g:Nat) (self:UInt32) (ls:List Ln):af:=hex fun y:Value×List da=>pure' (dc ls y.2)*(eA g self y.1 y.2*cQ y.2)
theorem aq.ct {g:Nat} {self:UInt32} {ls:List Ln} {v:Value} {xs:List da} {H F:af} (hr:dc ls xs) (h:aq H (eA g self v xs*(cQ xs*F))):aq H (ct g self ls*F):=
 aq.trans h (aq.trans (aq.ji hr (aq.refl _)) (aq.trans (aq.of_eq (by ac_rfl)) (aq.qA (p:=fun y:Value×List da=>pure' (dc ls y.2)*(eA g self y.1 y.2*cQ y.2)) (v,xs))))
theorem Spec.ct {P:Program} {w0:World} {f:FuncId} {args:List Value} {g:Nat} {self:UInt32} {ls:List Ln} {α β:Type} {Db:β→Value} {mr:β→af}
 (h:∀v xs,dc ls xs→∃(res:α→Value) (post:α→af),Spec P w0 f args (eA g self v xs) res post∧∀x,∃y,res x=Db y∧∀Z,aq (post x*(cQ xs*Z)) (mr y*Z)):Spec P w0 f args (ct g self ls) Db mr:=fun G w hs=>by
 have iu:Sat w0 w (hex (fun y:Value×List da=>pure' (dc ls y.2)*(eA g self y.1 y.2*cQ y.2))*G):=hs
 obtain⟨y,fP⟩:=iu.ex
 obtain⟨hr,qI⟩:=(fP.cast (ad _ _ _)).pure
 obtain⟨res,post,Qa,hy⟩:=h y.1 y.2 hr
 refine(Qa (cQ y.2*G) w (qI.cast (ad _ _ _))).mono ?_
 rintro e w' ⟨x,rfl,eI⟩
 obtain⟨b,hb,hE⟩:=hy x
 exact⟨b,by rw[hb],(hE G).sat eI⟩
theorem Spec.PG {P:Program} {w0:World} {f:FuncId} {args:List Value} {g:Nat} {self:UInt32} {ls:List Ln} {α β:Type} {Db:β→Value} {mr:β→af}
 (h:∀v xs,dc ls xs→∃(res:α→Value) (post:α→af),Spec P w0 f args (eA g self v xs*cQ xs) res post∧∀x,∃y,res x=Db y∧∀Z,aq (post x*Z) (mr y*Z)):Spec P w0 f args (Go.Proofs.YtapoehkdnglahabGreat.ct g self ls) Db mr:=fun G w hs=>by
 have iu:Sat w0 w (hex (fun y:Value×List da=>pure' (dc ls y.2)*(eA g self y.1 y.2*cQ y.2))*G):=hs
 obtain⟨y,fP⟩:=iu.ex
 obtain⟨hr,qI⟩:=(fP.cast (ad _ _ _)).pure
 obtain⟨res,post,Qa,hy⟩:=h y.1 y.2 hr
 refine(Qa G w qI).mono ?_
 rintro e w' ⟨x,rfl,eI⟩
 obtain⟨b,hb,hE⟩:=hy x
 exact⟨b,by rw[hb],(hE G).sat eI⟩
theorem mP {P:Program} {n:fT} {w0:World} {E:Env} {D:List Deferred} {H F:af} {c:Code} {Q:Exit→St→Prop} {g:Nat} {self:UInt32} {ls:List Ln} (hl:Own H (ct g self ls) F) (h:∀v xs,dc ls xs→WS P n w0 c Q ⟨E,D,eA g self v xs*(cQ xs*F)⟩):WS P n w0 c Q ⟨E,D,H⟩:=by
 rw[hl.eq]
 unfold ct
 refine iU fun x=> ?_
 rw[ad,ad]
 exact jR fun hr=>h x.1 x.2 hr
theorem F9 {p q:da} (h1:q.1.before=p.1.before) (h2:q.2=p.2):ve q=ve p:=by
 unfold ve il
 rw[h1,h2]
theorem tE (s:UInt32) (p:da):Bw (lp s p):=⟨rfl,rfl⟩
def eY (o:Option Ln) (b:Option Addr×Nat×Nat):Value:=match o with
 |some l=> .agg (bM l (cT b)).toArray
 |none=>zeroV
attribute [local irreducible] WS LS cD eM cn cv Spec bA aK di cq
variable (w0:World)
theorem KT (g:Nat) (self:UInt32) (ls:List Ln) (ok:aW ls) (now:UInt64):Spec Tryz.prog w0 150 [ptr g 0,u64 now] (ct g self ls) (fun _:Unit=> .tuple #[]) (fun _=>ct g self (mE now ls)):=
 Spec.ct fun v xs hr=>⟨_,_,Bg w0 g self v xs (by rw[hr.length];have:=ok.short;omega) now,fun _=>⟨(),rfl,fun Z=>aq.ct (hr.exp now) (aq.tail _ (aq.rG (fun p=>by unfold yw;split;exact .inr (tE _ _);exact .inl rfl) _ _))⟩⟩
theorem KP (g:Nat) (self:UInt32) (ls:List Ln) (ok:aW ls) (nb:UInt32):Spec Tryz.prog w0 137 [ptr g 0,u32 nb] (ct g self ls) (fun v:Value=>v) (fun v=>rows 180 2 bB v (jh nb (aQ (aO ls)) ls)*ct g self (nH nb ls)):=
 Spec.ct fun v xs hr=>⟨_,_,Bb w0 g self v xs (by rw[hr.length];have:=ok.short;omega) nb,fun vo=>⟨vo,rfl,fun Z=>by
  rw[hr.outs ok nb]
  have e:∀A B C D:af,(A*B)*(C*D)=B*(A*(C*D)):=fun A B C D=>by ac_rfl
  rw[e]
  refine aq.trans ?_ (aq.of_eq (ad _ _ _).symm)
  exact aq.tail _ (aq.ct (hr.brk nb) (aq.tail _ (aq.rG (fun p=>by unfold yu;split;exact .inr (tE _ _);exact .inl rfl) _ _)))⟩⟩
theorem Df (g:Nat) (self:UInt32) (ls:List Ln) (ok:aW ls) (d:UInt32) (e:UInt64):Spec Tryz.prog w0 189 [ptr g 0,u32 d,u64 e] (ct g self ls) (fun _:Unit=> .tuple #[]) (fun _=>ct g self (iY ls d e)):=
 Spec.ct fun v xs hr=>⟨_,_,Ii w0 g self v xs (by rw[hr.length];have:=ok.short;omega) d e,fun _=>⟨(),rfl,fun Z=>aq.ct (hr.use d e) (aq.tail _ (by
  unfold Lb
  cases hg:fj xs d with
  |none=>exact aq.refl _
  |some p=>
   dsimp only
   split
   ·exact aq.kG (z:=({p.1 with cB:=e},p.2)) (fl hg).1 (.inl (F9 rfl rfl)) _
   ·exact aq.refl _))⟩⟩
theorem NL (g:Nat) (self:UInt32) (ls:List Ln) (ok:aW ls) (d q:UInt32) (h:Int) (nb:UInt32) (e:UInt64):Spec Tryz.prog w0 188 [ptr g 0,u32 d,u32 q,.int .i64 h,u32 nb,u64 e] (ct g self ls) (fun _:Unit=> .int .i64 (dI self ls (Ln.bj d q h nb e)).1) (fun _=>ct g self (dI self ls (Ln.bj d q h nb e)).2):=
 Spec.ct fun v xs hr=>⟨_,_,Ih w0 g self v xs (by rw[hr.length];have:=ok.short;omega) d q h nb e,fun v'=>⟨(),by rw[(hr.La self d q h nb e).1],fun Z=>aq.ct (v:=v') (hr.La self d q h nb e).2 (aq.tail _ (by
  unfold Fm
  split
  ·exact aq.refl _
  ·cases hg:fj xs d with
   |none=>
    dsimp only
    split
    ·exact aq.refl _
    ·exact aq.Jk ⟨rfl,rfl⟩ _
   |some p=>
    dsimp only
    split
    ·exact aq.refl _
    ·exact aq.kG (fl hg).1 (.inr ⟨rfl,rfl⟩) _))⟩⟩
theorem nU (g:Nat) (self:UInt32) (ls:List Ln) (ok:aW ls) (d:UInt32) (now:UInt64):Spec Tryz.prog w0 152 [ptr g 0,u32 d,u64 now] (ct g self ls) (fun b:Option Addr×Nat×Nat=> .tuple #[eY (bR ls d now) b,.bool (bR ls d now).isSome]) (fun _=>ct g self ls):=
 Spec.ct fun v xs hr=>⟨_,_,E7 w0 g self v xs (by rw[hr.length];have:=ok.short;omega) d now,fun _=>by
  have hl:=hr.look d now
  cases hf:rQ xs d now with
  |none=>
   rw[hf]at hl
   rw[←hl]
   exact⟨(none,0,0),rfl,fun Z=>aq.ct hr (aq.refl _)⟩
  |some p=>
   rw[hf]at hl
   rw[←hl]
   exact⟨(p.2.1,(aQ p.1.before).length,p.2.2),rfl,fun Z=>aq.ct hr (aq.refl _)⟩⟩
theorem sC (g:Nat) (self:UInt32) (ls:List Ln) (ok:aW ls) (d nb:UInt32):Spec Tryz.prog w0 191 [ptr g 0,u32 d,u32 nb] (ct g self ls) (fun _:Unit=> .tuple #[]) (fun _=>ct g self (gF ls d nb)):=
 Spec.PG fun v xs hr=>⟨_,_,Ba w0 g self v xs (by rw[hr.length];have:=ok.short;omega) (fun p hp=>ok.before p.1 (hr.mem hp)) d nb,fun x=>⟨(),rfl,fun Z=>by rw[ad];exact aq.ct (hr.FK d nb x) (aq.refl _)⟩⟩
theorem PB (self:UInt32) (l:List Rec) (hl:l.length≤100000) (v:Value) (X:af) [hX:eX w0 X v Rec 3 Rec.cells l]:Spec Tryz.prog w0 94 [u32 self,v] X (fun g:Nat=>ptr g 0) (fun g=>ct g self (iV self (cC l))*X):=by
 refine(Fa w0 self l hl v X).ob (aq.refl _) fun x=>⟨x.1,rfl,?_⟩
 refine aq.ct (v:=x.2) (dc.new self l) (aq.tail _ ?_)
 have hb:∀(c:List Rec) (xs:List da),(∀p∈xs,Bw p)→∀p∈c.foldl (jJ self) xs,Bw p:=by
  intro c
  induction c with
  |nil=>intro xs h;exact h
  |cons r c ih=>
   intro xs h
   rw[List.foldl_cons]
   refine ih _ fun p hp=> ?_
   unfold jJ at hp
   split at hp
   ·rcases List.mem_append.1 hp with hp|hp
    ·exact h p hp
    ·rw[List.mem_singleton]at hp;subst hp;exact⟨rfl,rfl⟩
   ·exact h p hp
 have hk:∀xs:List da,(∀p∈xs,Bw p)→aq X (cQ xs*X):=by
  intro xs
  induction xs with
  |nil=>intro _;exact aq.of_eq (aB).symm
  |cons p xs ih=>
   intro h
   rw[pw,ad]
   exact(ih fun q hq=>h q (List.mem_cons_of_mem _ hq)).trans (aq.bare (h p (by simp)) _)
 exact hk _ (hb _ _ fun p hp=>by cases hp)
end
section
open Go.RowKit
section
variable {P:Program} {n:fT} {w0:World} {E:Env} {D:List Deferred} {H F:af} {d:Option Tmp} {ty:TypeId} {pos:String} {after:Array Edge} {gu:Option (Tmp×Bool)}
theorem LX {t:Tmp} {f:FuncId} {bound args:List Value} {α:Type} {X:af} {res:α→Value} {post:α→af} {xs:List Operand} {ts:Array TypeId} (hf:aA P f) (ht:E.get t=some (.func (.func f) bound.toArray #[])) (eB:E.mU xs=some args) (spec:Spec P w0 f (bound++args) X res post):eM P n w0 ⟨d,.call ⟨.value (.tmp t),xs.toArray,ts⟩,ty,pos,after,gu⟩ E X res post:=fun G a w K Q s hs hK=>by
 have e:=s.mU eB
 have e2:a.eval (.tmp t)= .func (.func f) bound.toArray #[]:=s.ev (x:= .tmp t) ht
 have hr:(execOp a.eval ⟨d,.call ⟨.value (.tmp t),xs.toArray,ts⟩,ty,pos,after,gu⟩).run P w= .ok (.enter f (bound++args).toArray) w:=by
  have h:=fI hf (bound++args).toArray w
  simp[execOp,resolve,e2,Deferred.ofValue,invoke,e]at h ⊢
  exact h
 unfold Oper.wp
 rw[hr]
 refine(spec G w hs).mono ?_
 rintro e w' ⟨x,rfl,eI⟩
 exact hK x w' eI
theorem rm {t:Tmp} {f:FuncId} {bound args:List Value} {α:Type} {X:af} {res:α→Value} {post:α→af} {xs:List Operand} {ts:Array TypeId} (hf:aA P f) (ht:E.get t=some (.func (.func f) bound.toArray #[])) (eB:E.mU xs=some args) (spec:Spec P w0 f (bound++args) X res post) (hl:Own H X F):
 cn P n w0 ⟨d,.call ⟨.value (.tmp t),xs.toArray,ts⟩,ty,pos,after,gu⟩ E H res (fun x=>post x*F):=cn.mk' (LX hf ht eB spec) hl.eq
end
structure Nd.DH (s t:Nd) (now:UInt64) (j:Nat):Prop where
 inv:t.Inv
 sw:t.dE
 AX:t.now=now
 step:s.Step t (5*j) j
 due:iq now t.bI+j=iq now s.bI
 bI:t.bI.length≤s.bI.length
 last:s.last≤t.last∧t.last≤s.last+j
 names:t.names=s.names
theorem Nd.DH.next {s t u:Nd} {now:UInt64} {j:Nat} (h:s.DH t now j) (hs:t.step now=some u) (hb:now.toNat≤4611686018427387904):s.DH u now (j+1):=by
 have k:=Nd.nu hs h.inv h.sw h.AX hb
 exact⟨k.inv,k.sw,k.step.now.trans h.AX,(h.step.trans k.step).le (by omega) (by omega),by have:=k.due;have:=h.due;omega,by have:=k.bI;have:=h.bI;omega,by have:=k.last;have:=h.last;omega,k.names.trans h.names⟩
theorem Nd.zW {s:Nd} {now:UInt64} (hb:now.toNat≤4611686018427387904):∀(f:Nat) (t:Nd) (j:Nat),s.DH t now j→iq now t.bI<f→∃i,s.DH (t.gT f now) now i∧(t.gT f now).step now=none
 |0,t,j,_,h=>absurd h (Nat.not_lt_zero _)
 |f+1,t,j,hr,hf=>by
  unfold Nd.gT
  cases hs:t.step now with
  |none=>exact⟨j,hr,hs⟩
  |some u=>
   have k:=Nd.nu hs hr.inv hr.sw hr.AX hb
   exact Nd.zW hb f u (j+1) (hr.next hs hb) (by have:=k.due;omega)
def Nd.tick (s:Nd) (now:UInt64):Nd:=s.gT (iq now s.bI+1) now
structure Nd.FA (s:Nd) (now:UInt64):Prop where
 inv:s.Inv
 sw:s.dE
 AX:s.now=now
 small:now.toNat≤4611686018427387904
 bI:s.bI.length≤8500
 last:0≤s.last∧s.last≤900000000000
 aJ:s.out.aJ.length≤1000
 cj:s.out.cj.length≤1000
 dropped:s.out.dropped.length≤1000
 aI:s.aI.length≤1000
 ay:s.out.ay.length≤10000
theorem Nd.DH.zero {s:Nd} {now:UInt64} (h:s.FA now):s.DH s now 0:=⟨h.inv,h.sw,h.AX,Nd.Step.zero rfl rfl rfl rfl,rfl,Nat.le_refl _,⟨Int.le_refl _,by omega⟩,rfl⟩
theorem Nd.sO {s:Nd} {now:UInt64} (h:s.FA now):∃i,i≤s.bI.length∧s.DH (s.tick now) now i:=by
 obtain⟨i,h1,_⟩:=Nd.zW h.small (iq now s.bI+1) s 0 (Nd.DH.zero h) (by omega)
 refine⟨i,?_,h1⟩
 have:=h1.due
 have:=Av now s.bI
 omega
attribute [local irreducible] WS LS cD eM cn cv Spec bA aK
variable (w0:World)
theorem ZK (gn:Nat) (s:Nd) (now:UInt64) (hr:s.FA now) (bn bw:Nat) (tn tw:TypeId):Spec Tryz.prog w0 142 [ptr bn 0,ptr bw 0] (eD gn s*(aK bn tn [ptr gn 0]*aK bw tw [u64 now])) (fun _:Unit=> .tuple #[]) (fun _=>eD gn (s.tick now)*emp):=by
 refine Spec.enter Tryz.func142 rfl Tryz.ntmps142 rfl fun G=> ?_
 rw[ad (eD gn s),ad (aK bn tn _)]
 simp only[aN]
 refine oG ?_
 refine aV (fun m τ=>∃(sj:Nd) (j:Nat),s.DH sj now j∧iq now sj.bI=m∧sj.gT (m+1) now=s.tick now∧τ=⟨[(0,ptr bn 0),(0+1,ptr bw 0)],[],eD gn sj*(aK bn tn [ptr gn 0]*(aK bw tw [u64 now]*G))⟩) ?_ ?_
 ·exact⟨_,_,⟨s,0,Nd.DH.zero hr,rfl,rfl,rfl⟩,cG,rfl,aq.refl _⟩
 ·rintro m τ ⟨sj,j,hR,hm,hT,rfl⟩
  refine wA fun h=> ?_
  have Ng:j≤s.bI.length:=by have:=hR.due;have:=Av now s.bI;omega
  have Dy:=hr.bI
  have Xu:=hR.bI
  cases jf:sj.step now with
  |none=>
   have e:sj=s.tick now:=by rw[←hT,Nd.gT,jf]
   have p1:=DY w0 h.cb h.cr sj.last sj.bI now (Nd.Io jf)
   simp only[bG,aY,bb,cw,ba,eu]
   repeat' (first|refine ae (id:=0) (.range 11) 5 [0,3,4] ?_|(refine ab ?_;intro K hK)|(refine hK _ ?_;clear hK K)|refine ax ?_|(refine aF ?_ ?_<;>intro hc<;>(try simp only[cS]at hc)<;>(try exact aG))|refine az ?_|(refine aD (aa iI rfl p1 iI) rfl rfl rfl ?_;intro x1))
   refine aj (.inl rfl) rfl ⟨(),rfl,?_⟩
   rw[←e,ad (eD _ _)]
   refine aq.vi h ?_
   simp only[bG,aY,bb,cw,ba,eu]
   exact ah
  |some t=>
   have Ca:=hR.next jf hr.small
   have Ox:=(Nd.nu jf hR.inv hR.sw hR.AX hr.small).due
   have VQ:t.gT m now=s.tick now:=by rw[←hT,Nd.gT,jf]
   obtain⟨m',rfl⟩:∃m',m=m'+1:=⟨m - 1,by omega⟩
   unfold Nd.step at jf
   cases Mg:gN sj.bI now sj.bI.length with
   |none=>rw[Mg]at jf;cases jf
   |some i=>
    rw[Mg]at jf
    simp only at jf
    have p1:=DZ w0 h.cb h.cr sj.last sj.bI now Mg (by omega)
    generalize (cJ sj.bI i).km=wh at*
    have hle:(sj.bI.eraseIdx i).length≤sj.bI.length:=by rw[List.length_eraseIdx];split<;>omega
    refine mc fun tL u7=> ?_
    cases sY:nP sj.bu wh with
    |none=>
     rw[sY]at jf
     cases jf
     rw[CO]at sY
     have V9:bX (oR h.sb sj.bu) wh=none:=iC (key:=fun x:Sr=>x.name) tL sY
     simp only[bG,aY,bb,cw,ba,eu]
     repeat' (first|refine ae (id:=0) (.range 11) 5 [0,3,4] ?_|(refine ab ?_;intro K hK)|(refine hK _ ?_;clear hK K)|refine ax ?_|(refine aF ?_ ?_<;>intro hc<;>(try simp only[cS]at hc)<;>(try exact aG))|refine az ?_|((first|refine' LQ ?zh rfl ?_|refine' bP rfl rfl rfl ?zh ?_|refine' bk rfl rfl ?zh ?_);case zh=>intro F';exact iw rfl rfl iI iI iI iI iI (by assumption))|((refine' LQ ?zh rfl ?_);case zh=>intro F';exact bE rfl rfl iI)|(refine aD (aa iI rfl p1 iI) rfl rfl rfl ?_;intro x1))
     refine⟨m',_,by omega,⟨_,_,Ca,by omega,VQ,rfl⟩,cG,rfl,?_⟩
     refine aq.vi h ?_
     simp only[bG,aY,bb,cw,ba,eu]
     exact ah
    |some k=>
     rw[sY]at jf
     rw[CO]at sY
     simp only at jf
     obtain⟨x,hx,Hs⟩:=fQ sY
     obtain⟨b,hb⟩:∃b,h.sb[k]? =some b:=⟨_,List.getElem?_eq_getElem (by rw[tL];exact(List.getElem?_eq_some_iff.1 hx).1)⟩
     rw[hx]at jf
     simp only[Option.some.injEq]at jf
     have V9:bX (oR h.sb sj.bu) wh=some b:=iD (key:=fun x:Sr=>x.name) tL sY hb
     obtain⟨F1,e1,_⟩:=ye gn tL hb hx
     have Cm:=gS hR.inv x.dest
     have V4:=hR.last
     have yz:=hr.last
     have pY:Nd.Fit {sj with bI:=sj.bI.eraseIdx i} (Nd.texts {sj with bI:=sj.bI.eraseIdx i} x.dest).length.succ.succ.succ:=by
      have ks:sj.Step {sj with bI:=sj.bI.eraseIdx i} 0 0:=Nd.Step.zero rfl rfl rfl rfl
      have h1:=hr.aJ;have h2:=hr.cj;have h3:=hr.dropped;have h4:=hr.aI;have h5:=hr.ay
      have h6:(Nd.texts {sj with bI:=sj.bI.eraseIdx i} x.dest).length≤4:=Cm.1
      exact Nd.Step.fit (hR.step.trans ks) (by omega) (by omega) (by omega) (by omega) (by omega)
     have p2:=DK w0 gn {sj with bI:=sj.bI.eraseIdx i} h hx hb (hR.inv.bI _).sr hR.inv.dp.dp hR.inv.order (by have:=hR.inv.aP;show sj.aP.length≤100;omega) (by show(sj.bI.eraseIdx i).length≤_;omega) (by show 0≤sj.last∧sj.last≤_;omega) (by have h6:(Nd.texts {sj with bI:=sj.bI.eraseIdx i} x.dest).length≤4:=Cm.1;omega) (fun t ht=>by have:=Cm.2 t ht;omega) pY
     rw[jf]at p2
     simp only[bG,aY,bb,cw,ba,eu,e1,oB]at p2 ⊢
     repeat' (first|refine ae (id:=0) (.range 11) 5 [0,3,4] ?_|(refine ab ?_;intro K hK)|(refine hK _ ?_;clear hK K)|refine ax ?_|(refine aF ?_ ?_<;>intro hc<;>(try simp only[cS]at hc)<;>(try exact aG))|refine az ?_|((first|refine' LQ ?zh rfl ?_|refine' bP rfl rfl rfl ?zh ?_|refine' bk rfl rfl ?zh ?_);case zh=>intro F';exact fw rfl rfl iI iI iI iI iI (by assumption))|((refine' LQ ?zh rfl ?_);case zh=>intro F';exact bE rfl rfl iI)|(refine aD (aa iI rfl p1 iI) rfl rfl rfl ?_;intro x1)|(refine ai (rm iI rfl rfl p2 iI) rfl ?_;intro x2))
     exact⟨m',_,by omega,⟨_,_,Ca,by omega,VQ,rfl⟩,cG,rfl,ah⟩
end
section
theorem Fg {l:List Rec} {k:Rec} {q:UInt32} (h:ot l k=some q):∃r∈l,r.norm.key=k:=by
 induction l using eE generalizing q with
 |nil=>cases h
 |snoc l r ih=>
  rw[lY]at h
  by_cases e:r.norm.key=k
  ·exact⟨r,by simp,e⟩
  ·rw[if_neg e]at h
   obtain⟨x,hx,hk⟩:=ih h
   exact⟨x,by simp[hx],hk⟩
theorem tu {l:List Rec} {x:Rec} (h:x∈cC l):x.norm=x∧∃r∈l,r.own=x.own∧(x.own=false→r.addr=x.addr):=by
 have ho:=jD l
 obtain⟨h1,h2⟩:=(lB ho).1 h
 rw[lQ]at h2
 obtain⟨r,hr,hk⟩:=Fg h2
 refine⟨h1,r,hr,?_⟩
 obtain⟨k1,k2⟩:=(Rec.oT (Rec.pK r) h1).1 hk
 have e1:r.norm.own=r.own:=rfl
 rw[e1]at k1
 refine⟨k1,fun hx=> ?_⟩
 have:r.norm.addr=r.addr:=by show(if r.own then 0 else r.addr)=r.addr;rw[k1,hx];rfl
 rw[←this];exact k2
theorem BV {l:List Rec} {D:List UInt32} (h:∀r∈l,r.own=true∨r.addr∈D):(cC l).length≤D.length+1:=by
 have ho:=jD l
 let f:Rec→Option UInt32:=fun r=>if r.own then none else some r.addr
 have hn:((cC l).map f).Nodup:=by
  rw[List.nodup_iff_pairwise_ne]at*
  rw[List.pairwise_map]
  refine(List.Pairwise.and_mem.1 ho.fH).imp ?_
  rintro a b ⟨ha,hb,bW⟩ e
  have na:=ho.norm a ha
  have nb:=ho.norm b hb
  have key:a.own=b.own∧a.addr=b.addr:=by
   simp only[f]at e
   cases VS:a.own<;>cases VT:b.own<;>simp[VS,VT]at e
   ·exact⟨rfl,e⟩
   ·refine⟨rfl,?_⟩
    have e1:a.norm.addr=0:=by show(if a.own then 0 else a.addr)=0;rw[VS];rfl
    have e2:b.norm.addr=0:=by show(if b.own then 0 else b.addr)=0;rw[VT];rfl
    rw[na]at e1;rw[nb]at e2
    rw[e1,e2]
  exact tP na nb bW ((Rec.oT na nb).2 key)
 have hs:∀x∈(cC l).map f,x∈none::D.map some:=by
  intro x hx
  obtain⟨r,hr,rfl⟩:=List.mem_map.1 hx
  obtain⟨_,r',Hn,k1,k2⟩:=tu hr
  simp only[f]
  cases S2:r.own with
  |true=>simp
  |false=>
   rcases h r' Hn with h'|h'
   ·rw[k1,S2]at h';cases h'
   ·rw[k2 S2]at h';simp[h']
 have:=List.Nodup.length_le_of_subset hn hs
 simpa using this
def Nd.iH (s:Nd) (now:UInt64):Nd:=((s.begin now).tick now).done
def Nd.iX (s:Nd) (now:UInt64) (src:UInt32) (f:cP):Nd:=((s.begin now).mb now src f).done
def Nd.l7 (s:Nd) (now:UInt64) (nb:UInt32):Nd:=((s.begin now).brk nb).done
def Nd.iG (s:Nd) (now:UInt64) (d:UInt32) (t:cP):Nd:=((s.begin now).ea d t).done
structure Nd.Rest (s:Nd) (c:Nat):Prop where
 inv:s.Inv
 aI:s.aI.length≤24
 names:0≤s.names∧s.names≤c
 bI:s.bI.length≤c
 last:0≤s.last∧s.last≤c*10000
theorem Nd.Inv.begin {s:Nd} (h:s.Inv) (now:UInt64):(s.begin now).Inv:=by
 unfold Nd.begin
 refine Nd.Inv.note ?_
 exact h.to (h.dp.exp now) rfl rfl h.order rfl h.aP rfl (fun d hd=>by rw[zc];exact hd)
theorem Nd.BR {s:Nd} (h:s.Inv) (now:UInt64):(s.begin now).dE:=Nd.EV _ (h.dp.exp now).dp
theorem Nd.fM (s:Nd) (now:UInt64):(s.begin now).now=now∧(s.begin now).bI=s.bI∧(s.begin now).last=s.last∧(s.begin now).names=s.names∧(s.begin now).wait=s.wait∧(s.begin now).bu=s.bu:=by
 have h:=Nd.fz.note {s with now:=now,out:=dS.zero,ls:=mE now s.ls}
 exact⟨h.now,h.bI,h.last,h.names,h.wait,h.bu⟩
theorem Hw {s:Nd} (h:s.Inv):(cE s.ls).length≤8:=Nat.le_trans (iO _) h.dp.dp.short
theorem Nd.Rest.ready {s:Nd} {c:Nat} (h:s.Rest c) (hc:c≤8500) {now:UInt64} (hn:now.toNat≤4611686018427387904):(s.begin now).FA now:=by
 obtain⟨e1,e2,e3,e4,e5,e6⟩:=s.fM now
 have h1:=Nd.fL s now h.inv.dp.dp
 have h2:=Nd.fK s now h.inv.dp.dp
 have h3:=h.aI
 have h4:=h.bI
 have h5:=h.last
 exact⟨h.inv.begin now,Nd.BR h.inv now,e1,hn,by rw[e2];omega,by rw[e3];omega,by rw[Nd.lk];simp,by rw[Nd.wM];simp,by rw[Nd.mC];simp,by omega,by omega⟩
theorem Nd.tC {s:Nd} (h:s.Inv):s.done.Inv∧s.done.aI.length≤24∧s.done.bI=s.bI∧s.done.last=s.last∧s.done.names=s.names:=by
 have hn:=h.note
 have hm:=Nd.fz.note s
 unfold Nd.done
 split
 ·refine⟨?_,?_,hm.bI,hm.last,hm.names⟩
  ·refine⟨hn.dp,⟨hn.sr.aO,hn.sr.names,hn.sr.each⟩,hn.order,hn.wait,hn.aP,fun r hr=> ?_⟩
   obtain⟨_,r',Hn,k1,k2⟩:=tu hr
   rcases hn.aI r' Hn with h'|h'
   ·exact .inl (k1▸h')
   ·cases S2:r.own with
    |true=>exact .inl rfl
    |false=>exact .inr (k2 S2▸h')
  ·have:=BV hn.aI
   have h8:=hn.dp.dp.short
   simp only[aO,List.length_map]at this
   show(cC s.note.aI).length≤24
   omega
 ·exact⟨hn,by omega,hm.bI,hm.last,hm.names⟩
structure Nd.Still (s t:Nd):Prop where
 bI:t.bI=s.bI
 last:t.last=s.last
 names:t.names=s.names
theorem Nd.Rest.still {s t:Nd} {c:Nat} {now:UInt64} (h:s.Rest c) (hi:t.Inv) (hs:(s.begin now).Still t):t.done.Rest c:=by
 obtain⟨k1,k2,k3,k4,k5⟩:=Nd.tC hi
 obtain⟨e1,e2,e3,e4,e5,e6⟩:=s.fM now
 exact⟨k1,k2,by rw[k5,hs.names,e4];exact h.names,by rw[k3,hs.bI,e2];exact h.bI,by rw[k4,hs.last,e3];exact h.last⟩
theorem Nd.Still.trans {s t u:Nd} (h:s.Still t) (k:t.Still u):s.Still u:=⟨k.bI.trans h.bI,k.last.trans h.last,k.names.trans h.names⟩
theorem Nd.Still.aT (s:Nd) (r:Rq):s.Still (s.aT r):=by
 unfold Nd.aT
 dsimp only
 split<;>exact⟨rfl,rfl,rfl⟩
theorem Nd.Still.answer (s:Nd) (p:Pk):s.Still (s.answer p):=by
 unfold Nd.answer
 split<;>exact⟨rfl,rfl,rfl⟩
theorem Nd.Still.gR (s:Nd) (p:Pk):s.Still (s.gR p):=by
 unfold Nd.gR
 repeat' split
 all_goals exact⟨rfl,rfl,rfl⟩
theorem Nd.Still.jy (s:Nd) (p:Pk):s.Still (s.jy p):=by
 unfold Nd.jy
 split
 ·have:=fun q=>Nd.Still.answer {s with seq:=q}
  exact⟨(this _ _).bI,(this _ _).last,(this _ _).names⟩
 ·split
  ·split
   ·have:=fun l=>Nd.Still.answer {s with ls:=l}
    exact⟨(this _ _).bI,(this _ _).last,(this _ _).names⟩
   ·exact Nd.Still.gR _ _
  ·exact Nd.Still.gR _ _
theorem Nd.Still.drop (s:Nd) (k:Int):s.Still (s.drop k):=⟨rfl,rfl,rfl⟩
theorem Nd.Still.send (s:Nd) (to:UInt32) (p:Pk):s.Still (s.send to p):=⟨rfl,rfl,rfl⟩
theorem Nd.Still.ls (s:Nd) (l:List Ln):s.Still {s with ls:=l}:=⟨rfl,rfl,rfl⟩
theorem Nd.Still.qd (s:Nd) (src:UInt32) (p:Pk):s.Still (s.qd src p):=by
 unfold Nd.qd
 split
 ·exact⟨rfl,rfl,rfl⟩
 ·simp only
  have h1:=Nd.Still.aT s ⟨p.from_,p.id⟩
  generalize s.aT ⟨p.from_,p.id⟩=s1 at*
  split
  ·exact h1.trans ⟨rfl,rfl,rfl⟩
  ·exact h1.trans ((Nd.Still.ls s1 _).trans (Nd.Still.jy _ _))
theorem Nd.Still.flush (s:Nd) (d:UInt32):s.Still (s.flush d):=by
 obtain⟨h1,h2,h3⟩:=Nd.zj s d
 exact⟨h1,h2,h3⟩
theorem Nd.Still.lost (s:Nd) (l:List (UInt32×UInt32)):s.Still (s.lost l):=by
 unfold Nd.lost
 split<;>exact⟨rfl,rfl,rfl⟩
theorem Nd.Still.xC (s:Nd) (src:UInt32) (p:Pk):s.Still (s.xC src p):=by
 have h:=(Nd.Still.ls s (bV src s.ls p.lost).1).trans (Nd.Still.lost _ (bV src s.ls p.lost).2.1)
 unfold Nd.xC
 simp only
 split
 ·exact h
 ·exact h.trans ⟨rfl,rfl,rfl⟩
theorem Nd.Still.ov (s:Nd) (src:UInt32) (p:Pk):s.Still (s.ov src p):=by
 unfold Nd.ov
 repeat' split
 all_goals exact⟨rfl,rfl,rfl⟩
theorem Nd.Still.rep (s:Nd) (src:UInt32) (p:Pk):s.Still (s.rep src p):=by
 unfold Nd.rep
 split
 ·exact Nd.Still.drop _ _
 ·simp only
  split
  ·exact(Nd.Still.ls s _).trans (Nd.Still.drop _ _)
  ·split
   ·have h2:∀l:List Ln,s.Still (if(bR l p.dest s.now).isSome then Nd.flush {s with ls:=l} p.dest else {s with ls:=l}):=fun l=>by
     split
     ·exact(Nd.Still.ls s l).trans (Nd.Still.flush _ _)
     ·exact Nd.Still.ls s l
    split
    ·exact(h2 _).trans (Nd.Still.drop _ _)
    ·exact h2 _
   ·split
    ·split<;>exact(Nd.Still.ls s _).trans (Nd.Still.drop _ _)
    ·split
     ·exact(Nd.Still.ls s _).trans (Nd.Still.drop _ _)
     ·exact((Nd.Still.ls s _).trans (Nd.Still.send _ _ _)).trans (Nd.Still.ls _ _)
theorem Nd.Still.handle (s:Nd) (src:UInt32) (p:Pk):s.Still (s.handle src p):=by
 unfold Nd.handle
 repeat' split
 ·exact Nd.Still.qd _ _ _
 ·exact Nd.Still.rep _ _ _
 ·exact Nd.Still.xC _ _ _
 ·exact Nd.Still.ov _ _ _
theorem Nd.Still.mb (s:Nd) (now:UInt64) (src:UInt32) (f:cP):s.Still (s.mb now src f):=by
 have hq:s.Still (s.gQ now src f):=by
  unfold Nd.gQ
  split
  ·exact Nd.Still.drop _ _
  ·split
   ·exact Nd.Still.drop _ _
   ·split
    ·constructor<;>simp only[Nd.drop,Nd.tell,Nd.send]
    ·exact Nd.Still.drop _ _
 unfold Nd.mb
 split
 ·exact hq
 ·split
  ·exact hq
  ·exact Nd.Still.handle _ _ _
theorem Nd.Rest.tick {s:Nd} {c:Nat} (h:s.Rest c) (hc:c≤8500) {now:UInt64} (hn:now.toNat≤4611686018427387904):(s.iH now).Rest (c+1):=by
 have hr:=h.ready hc hn
 obtain⟨i,hi,hR⟩:=Nd.sO hr
 obtain⟨k1,k2,k3,k4,k5⟩:=Nd.tC hR.inv
 obtain⟨e1,e2,e3,e4,e5,e6⟩:=s.fM now
 have h1:=hR.bI;have h2:=hR.last;have h3:=hR.names
 have h4:=h.names;have h5:=h.bI;have h6:=h.last
 rw[e2]at h1 hi
 rw[e3]at h2
 rw[e4]at h3
 unfold Nd.iH
 exact⟨k1,k2,by rw[k5,h3];omega,by rw[k3];omega,by rw[k4];omega⟩
theorem Nd.Rest.brk {s:Nd} {c:Nat} (h:s.Rest c) (now:UInt64) (nb:UInt32):(s.l7 now nb).Rest c:=by
 refine h.still (now:=now) ((h.inv.begin now).brk nb) ?_
 exact(Nd.Still.ls _ _).trans (Nd.Still.lost _ _)
theorem Pk.rN {f:cP} {p:Pk} (h:Pk.dec f=some p):p.Read:=by
 obtain⟨⟨⟨h1,h2,h3,h4,h5,h6⟩,hk⟩,_⟩:=Pk.oM h
 exact⟨⟨h1,h2⟩,by unfold cM;rcases hk with hk|hk|hk|hk<;>(rw[hk.1];decide),⟨h3,h4⟩,by omega,by omega⟩
theorem Nd.Rest.mb {s:Nd} {c:Nat} (h:s.Rest c) (now:UInt64) (src:UInt32) (f:cP):(s.iX now src f).Rest c:=by
 refine h.still (now:=now) ?_ (Nd.Still.mb _ _ _ _)
 have hb:=h.inv.begin now
 unfold Nd.mb
 split
 ·exact hb.gQ _ _ _
 ·rename_i p hp
  split
  ·exact hb.gQ _ _ _
  ·exact hb.handle _ _ (Pk.rN hp).aH
end
end Go.Proofs.YtapoehkdnglahabGreat

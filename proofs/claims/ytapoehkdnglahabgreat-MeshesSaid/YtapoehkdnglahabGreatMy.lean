/- A part. -/
import Derived.Test.YtapoehkdnglahabGreatMv
import Derived.Test.YtapoehkdnglahabGreatMw
set_option maxHeartbeats 16000000
set_option maxRecDepth 100000
set_option linter.all false
namespace Go.Proofs.YtapoehkdnglahabGreat
section
open Go.RowKit
theorem Ex {now} {l:List (Rq×UInt64)} {i z} (h:l[i]? =some z):ml now (l.take (i+1))=ml now (l.take i)++if now<z.2 then [z]else []:=by
 unfold ml;rw[AP,h,uac];by_cases hz:now<z.2
 ·rw[jF hz];simp[hz]
 ·rw[eQ hz];simp[hz]
theorem Hv (now) (l:List (Rq×UInt64)) (i):(ml now (l.take i)).length<=l.length:=by
 unfold ml;refine WA (uaQ _ _) ?_;rw[Aw];omega
section
variable {P:Program} {n:fT} {w0:World} {E:Env} {D:List Deferred} {H F R L:af} {ops:Array Oper} {Q:Exit->St->Prop} {post:List Nat} {f:Nat} {ao:Array Bool} {c:Bool}
theorem GC {d op ty pos after} (i) {α v} {vm:α->af} (hi:ops[i]? =some ⟨some d,op,ty,pos,after,none⟩) (iZ:cn P n w0 ⟨some d,op,ty,pos,after,none⟩ E (R*F) v (λx=>R*vm x)) (h:∀x,DT P n w0 ops Q D R L post f (ao.setIfInBounds i true) false ((d,v x)::E) (vm x)) (hd:Nat.blt d n.tmps=true:=by decide+kernel):DO P n w0 ops Q D R L post f ao false E F i:=by
 have Et:cn P n w0 ⟨some d,op,ty,pos,after,none⟩ E (hp false R L F) v (λx=>hp false R L (vm x)):=by
  obtain⟨pre,A8,G',hT,hH,qZ⟩:=iZ;refine⟨pre,A8,L*G',hT,?_,λx=> ?_⟩
  ·simp only[hp,Yv];have e:R*(L*F)=L*(R*F):=by ac_rfl
   rw[e,hH];ac_rfl
  ·simp only[hp,Yv];have e:R*(L*vm x)=L*(R*vm x):=by ac_rfl
   have e2:R*vm x=A8 x*G':=qZ x;rw[e,e2];ac_rfl
 exact z1 hi rfl Et rfl (by simpa [gC,ub6]using hd) rfl vm (λ_=>rfl) h
theorem ny {α:Type} {t e:TypeId} {size bytes:Nat} {g g':α->List Value} {v u:Value} {l ys:List α} {F1:af} {d:Option Tmp} {ty:TypeId} {pos:String} {after:Array Edge} {gu:Option (Nat×Bool)} {x y:Operand} (hx:E.ev x=some v) (hy:E.ev y=some u) (hl:dD F v α e size g l F1) (hX:eX w0 R u α size g' ys) (Hj:g'=g) (hT:lj P t e size bytes) (hf:cY g size) (h1:∀z,∀c∈g z,c.oneCell'=true) (hn:l.length+ys.length<=1000000) (uX:Nat.ble bytes 1000=true):
 cn P n w0 ⟨d,.call ⟨.builtin .append,#[x,y],#[t,t]⟩,ty,pos,after,gu⟩ E (R*F) (λv':Value=>v') (λv'=>R*(rows e size g v' (l++ys)*F1)):=by
 have yz:dD (R*F) v α e size g l (R*F1):=⟨by rw[hl.eq,aM]⟩
 exact(dH R hx hy yz hX ⟨rfl⟩ Hj hT hf h1 hn uX).zbB λv'=>⟨v',rfl,aq.of_eq (aM _ _ _)⟩
end
attribute [local irreducible] WS LS OpQ y6 cn cv Spec bA aK di cq
variable (w0:World)
theorem o4 (gn) (s:Nd) (d:RD) (r:Rq) (hl:d.seen.length<=1000):Spec ucC w0 186 [ptr gn 0,u32 r.src,u32 r.id] (cR gn s d) (λ_:Value=> .tuple #[]) (λvs=>cR gn s {d with vs:=vs,seen:=qR s.now d.seen r}):=by
 refine eZ Tryz.func186 Tryz.ntmps186 λG=> ?_;unfold cR bc cc;simp only[aN,ad];simp only[bN];repeat' (first|intro K hK|refine ax ?_)
 refine cV (aq.nil _ 312 3 jM none) ?_;refine aV (λkk τ=>∃(i:Nat) (vl:Value),i+kk=d.seen.length/\τ=⟨[(7,.int .i64 (i:Int)),(6,vl),(2,u32 r.id),(1,u32 r.src),(0,ptr gn 0)],[],aK gn 195 (bN s d s.out)*(rows 312 3 jM vl (ml s.now (d.seen.take i))*(rows 28 3 Rec.cells d.vr s.aI*(rows 28 3 Rec.cells d.vh d.held*(ct d.tb s.self s.ls*(cy d s.out*(rows 312 3 jM d.vs d.seen*(rows 243 2 dA d.vw d.wait*(rows 210 6 skC d.vq d.search*(rows 24 1 eL d.vt d.aP*G)))))))))⟩) ?_ ?_
 ·exact⟨d.seen.length,_,⟨0,.slice none 0 0,by omega,rfl⟩,cG,rfl,by simp only[bN];exact ah⟩
 rintro kk τ ⟨i,vl,qE,rfl⟩;simp only[bN];have tK:=Hv s.now d.seen i;rcases jP i d.seen.length with h|h
 ·have h1:(i:Int)<(d.seen.length:Int):=by omega
  obtain⟨z,hz⟩:∃z,d.seen[i]? =some z:=⟨_,aX h⟩
  have SR:=Ex (now:=s.now) hz;by_cases h2:s.now<z.2
  ·rw[jF h2]at SR;repeat' (first|refine ag (id:=4) (.range 13) ?_|intro hc|refine xyZ ?_|refine aF ?_ ?_|(refine ai (au jM [z] iI iI iI rfl rfl rfl rfl rfl iI rfl rfl rfl) rfl ?_;intro vx)|(refine ai (aR rfl rfl iI iI rfl iI iI nr (by simp only[FO];omega) rfl) rfl ?_;intro va))
   exact⟨kk - 1,_,by omega,⟨i+1,va,by omega,rfl⟩,cG,rfl,by simp only[bN,SR];exact ah⟩
  ·rw[eQ h2,rL]at SR;repeat' (first|refine ag (id:=4) (.range 13) ?_|intro hc|refine xyZ ?_|refine aF ?_ ?_)
   exact⟨kk - 1,_,by omega,⟨i+1,vl,by omega,rfl⟩,cG,rfl,by simp only[bN,SR];exact ah⟩
 have h1:¬(i:Int)<(d.seen.length:Int):=by omega
 have V3:ml s.now (d.seen.take i)=ml s.now d.seen:=by rw[Gz h]
 rw[V3];have XO:(ml s.now d.seen).length<=d.seen.length:=by rw[<-V3];exact tK
 have Iy:(dV s.now d.seen r).length=(ml s.now d.seen).length+1:=by unfold dV;simp
 have SH:ml s.now d.seen++[(r,s.now+1280)]=dV s.now d.seen r:=rfl;by_cases Om:(dV s.now d.seen r).length<=16
 ·have TH:¬(16:Int)<((dV s.now d.seen r).length:Int):=by omega
  have Rn:qR s.now d.seen r=dV s.now d.seen r:=by unfold qR;rw[jF Om]
  repeat' (first|intro hc|refine yZ ?_|refine aF ?_ ?_|refine zw1 ?_|(refine ai (au jM [(r,s.now+1280)] iI iI iI rfl rfl rfl rfl rfl iI rfl rfl rfl) rfl ?_;intro vx)|(refine ai (cn.form (dV s.now d.seen r).length (by rw[SH]) (aR rfl rfl iI iI rfl iI iI nr (by simp only[FO];omega) rfl)) rfl ?_;intro va))
  exact aj (.inr rfl) rfl ⟨.slice va.1 (dV s.now d.seen r).length va.2,rfl,by rw[Rn,SH];unfold cy;exact ah⟩
 ·have TH:(16:Int)<((dV s.now d.seen r).length:Int):=by omega
  have Rn:qR s.now d.seen r=(dV s.now d.seen r).take (jU (dV s.now d.seen r) (dV s.now d.seen r).length)++(dV s.now d.seen r).drop (jU (dV s.now d.seen r) (dV s.now d.seen r).length+1):=by unfold qR;rw[eQ Om]
  repeat' (first|intro hc|refine xyZ ?_|refine aF ?_ ?_|refine zw1 ?_|(refine ai (au jM [(r,s.now+1280)] iI iI iI rfl rfl rfl rfl rfl iI rfl rfl rfl) rfl ?_;intro vx)|(refine ai (cn.form (dV s.now d.seen r).length (by rw[SH]) (aR rfl rfl iI iI rfl iI iI nr (by simp only[FO];omega) rfl)) rfl ?_;intro va))
  rw[SH];have Y4:(dV s.now d.seen r).length<=1001:=by omega
  generalize dV s.now d.seen r=L at*
  refine aV (λkk τ=>∃(j:Nat),j+kk=L.length/\τ=⟨[(9,.int .i64 (j:Int)),(8,.int .i64 ((jU L j:Nat):Int)),(6,.slice va.1 L.length va.2),(0,ptr gn 0)],[],aK gn 195 (bN s d s.out)*(rows 312 3 jM (.slice va.1 L.length va.2) L*(rows 28 3 Rec.cells d.vr s.aI*(rows 28 3 Rec.cells d.vh d.held*(ct d.tb s.self s.ls*(cy d s.out*(rows 312 3 jM d.vs d.seen*(rows 243 2 dA d.vw d.wait*(rows 210 6 skC d.vq d.search*(rows 24 1 eL d.vt d.aP*G)))))))))⟩) ?_ ?_
  ·exact⟨L.length,_,⟨0,by omega,rfl⟩,cG,rfl,by simp only[bN];exact ah⟩
  rintro xx τ ⟨j,ym,rfl⟩;simp only[bN];have zp:=tG L j (by omega) (by omega);have JV:=oP L j;rcases jP j L.length with hj|hj
  ·have IC:(j:Int)<(L.length:Int):=by omega
   obtain⟨z,hz⟩:∃z,L[j]? =some z:=⟨_,aX hj⟩
   obtain⟨y,hy⟩:∃y,L[jU L j]? =some y:=⟨_,aX zp⟩
   have Ys:mK L j=z.2:=by unfold mK;rw[W9,hz];rfl
   have Yp:mK L (jU L j)=y.2:=by unfold mK;rw[W9,hy];rfl
   rw[Ys,Yp]at JV;by_cases bW:z.2<y.2
   ·rw[jF bW]at JV;exact paP
   ·rw[eQ bW]at JV;exact paP
  ·obtain rfl:j=L.length:=by omega
   have IC:¬(L.length:Int)<(L.length:Int):=by omega
   generalize jU L L.length=f at*
   have j7:((f:Nat):Int)+1=((f+1:Nat):Int):=by omega
   repeat' (first|intro hc|refine xyZ ?_|refine aF ?_ ?_)
   refine nC (by assumption) (λτ=>∃v9:Value,τ=⟨[(6,v9),(0,ptr gn 0)],[],aK gn 195 (bN s d s.out)*(rows 312 3 jM v9 (L.take f++L.drop (f+1))*(rows 28 3 Rec.cells d.vr s.aI*(rows 28 3 Rec.cells d.vh d.held*(ct d.tb s.self s.ls*(cy d s.out*(rows 243 2 dA d.vw d.wait*(rows 210 6 skC d.vq d.search*(rows 24 1 eL d.vt d.aP*G))))))))⟩) ?_ ?_
   ·simp only[bN];refine rA (rows 312 3 jM (.slice va.1 L.length va.2) L) (aK gn 195 (bN s d s.out)*(rows 28 3 Rec.cells d.vr s.aI*(rows 28 3 Rec.cells d.vh d.held*(ct d.tb s.self s.ls*(cy d s.out*(rows 312 3 jM d.vs d.seen*(rows 243 2 dA d.vw d.wait*(rows 210 6 skC d.vq d.search*(rows 24 1 eL d.vt d.aP*G))))))))) [] (by simp only[bN];ac_rfl) ?_;refine ec 1 rfl (λF'=>by exact bC rfl) ?_;refine ec 2 rfl (λF'=>by exact bC rfl) ?_;refine ec 3 rfl (λF'=>by first|exact dv rfl rfl iI iI iI iI (by first|assumption|omega)|exact cW rfl rfl iI iI iI iI (by first|assumption|omega)) ?_;refine ec 5 rfl (λF'=>by exact bC rfl) ?_;refine ec 6 rfl (λF'=>by exact bC rfl) ?_;refine ec 7 rfl (λF'=>by first|exact wj rfl rfl (by omega)|exact bE rfl rfl iI|exact kP rfl rfl (by first|omega|simp)) ?_;refine ec 8 rfl (λF'=>by first|exact dv rfl rfl iI iI iI iI (by first|assumption|omega)|exact cW rfl rfl iI iI iI iI (by first|assumption|omega)) ?_;refine ed [0] ⟨?_,trivial⟩;refine wb 0 rfl (fq jM iI iI) λx0=> ?_;refine ed [4] ⟨?_,trivial⟩;refine GC 4 rfl (ny rfl rfl iI iI rfl iI iI nr (by first|omega|(simp;omega)) rfl) λx4=> ?_;refine ed [9] ⟨?_,trivial⟩;refine GC 9 rfl (ny rfl rfl iI iI rfl iI iI nr (by first|omega|(simp;omega)) rfl) λx9=> ?_;refine ec 10 rfl (λF'=>by exact kC rfl) ?_;refine IJ (by decide+kernel) rfl ?_;exact⟨_,⟨x9,rfl⟩,cG,rfl,by simp only[hp,Yv,zF,bN];exact ah⟩
   ·rintro τ ⟨v9,rfl⟩;simp only[bN];refine jb v9 iI λA9 c9 Yk=> ?_;subst Yk;repeat' (first|refine ax ?_|refine bQ λg=> ?_)
    exact aj (.inr rfl) rfl ⟨.slice A9 (L.take f++L.drop (f+1)).length c9,rfl,by rw[Rn];unfold cy;exact ah⟩
end
end Go.Proofs.YtapoehkdnglahabGreat

/- A part. -/
import Derived.Test.YtapoehkdnglahabGreatMn
set_option maxHeartbeats 16000000
set_option maxRecDepth 100000
set_option linter.all false
namespace Go.Proofs.YtapoehkdnglahabGreat
section
open Go.RowKit
attribute [local irreducible] WS LS OpQ y6 cn cv Spec bA aK
variable (w0:World)
theorem ql (gn) (s:Nd) (h r) (hl:s.order.length<=16):Spec ucC w0 170 [ptr gn 0,Bt r] (bG gn s h) (λ_:Value=> .tuple #[]) (λvo=>bG gn (s.aT r) {h with vo:=vo}):=by
 refine eZ Tryz.func170 Tryz.ntmps170 λG=> ?_;obtain⟨tb,vr,rh,rs,vo,MN,rq,ri,cb,cr,vs,vf,vc,vd,sb,wv⟩:=h;obtain⟨R,hR⟩:∃R:af,R=rows 28 3 Rec.cells vr s.aI*(mp u32 u32 rh s.held*(dR tb s.self s.ls*(cw ⟨tb,vr,rh,rs,vo,MN,rq,ri,cb,cr,vs,vf,vc,vd,sb,wv⟩ s.out*(mA MN wv s.wait*(mp u32 gw rq (nR sb s.bu)*(mp i64 gw ri (oR sb s.bu)*(nZ gn sb s.bu*(iA cb cr s.last s.bI*(rows 24 1 eL vs s.aP*G))))))))):=⟨_,rfl⟩
 refine cV (H':=aK gn 159 (b7 1 s ⟨tb,vr,rh,rs,vo,MN,rq,ri,cb,cr,vs,vf,vc,vd,sb,wv⟩ s.out)*(mp Bt u64 rs s.seen*(rows 269 2 sE vo s.order*R))) (by rw[hR];unfold bG aY ba eu;exact ah) ?_;have fin:∀(Sv:Value) (m':List (Rq×UInt64)) (l':List Rq) (Z:af),aq (aK gn 159 (b7 1 s ⟨tb,vr,rh,rs,Sv,MN,rq,ri,cb,cr,vs,vf,vc,vd,sb,wv⟩ s.out)*(mp Bt u64 rs m'*(rows 269 2 sE Sv l'*(R*Z)))) (bG gn {s with seen:=m',order:=l'} ⟨tb,vr,rh,rs,Sv,MN,rq,ri,cb,cr,vs,vf,vc,vd,sb,wv⟩*G):=by
  intro Sv m' l' Z;rw[hR];have e1:cw ⟨tb,vr,rh,rs,Sv,MN,rq,ri,cb,cr,vs,vf,vc,vd,sb,wv⟩ s.out=cw ⟨tb,vr,rh,rs,vo,MN,rq,ri,cb,cr,vs,vf,vc,vd,sb,wv⟩ s.out:=rfl;unfold bG aY ba eu;simp only[b7,e1];exact ah
 refine jl vo iI λA cap hv=> ?_;subst hv;simp only[b7,aN,Bt,sE]at*
 repeat' (first|intro K hK|refine ax ?_|refine bT λg=> ?_|(refine lI (ur rfl rfl rfl rfl iI iI iI iI (uau _)) rfl ?_))
 have e0:yM (.slice A s.order.length cap) 0= .slice A 0 0:=by simp[yM]
 rw[e0];revert g;intro gb;refine cV (aq.nil _ 269 2 sE A) ?_;obtain⟨vo,Yl⟩:∃v:Value,v= .slice A s.order.length cap:=⟨_,rfl⟩
 rw[<-Yl];refine aV (λk τ=>∃(j:Nat) (vk:Value),j+k=s.order.length/\τ=⟨[(20,.int .i64 (j:Int)),(19,.int .i64 (s.order.length:Int)),(18,vo),(4,vk),(3,ptr gb 0),(0,ptr gn 0)],[],aK gb 269 [u32 r.src,u32 r.id]*(aK gn 159 (b7 1 s ⟨tb,vr,rh,rs,vo,MN,rq,ri,cb,cr,vs,vf,vc,vd,sb,wv⟩ s.out)*(mp Bt u64 rs (dg s.now s.seen (s.order.take j)).1*(rows 269 2 sE vk (dg s.now s.seen (s.order.take j)).2*(rows 269 2 sE vo s.order*R))))⟩) ?_ ?_
 ·exact⟨s.order.length,_,⟨0,_,by omega,rfl⟩,cG,rfl,by simp only[uai,dg,uah,b7];exact ah⟩
 ·rintro k τ ⟨j,vk,ym,rfl⟩;rcases jP j s.order.length with bW|kQ
  ·obtain⟨⟨xs,xi⟩,hz⟩:∃z,s.order[j]? =some z:=⟨_,aX bW⟩
   have gK:dg s.now s.seen (s.order.take (j+1))=pO s.now (dg s.now s.seen (s.order.take j)) ⟨xs,xi⟩:=by rw[AP,hz,Qf,oY]
   have Mn:=mJ s.now s.seen (s.order.take j);rw[Aw]at Mn;generalize dg s.now s.seen (s.order.take j)=p at*
   obtain⟨m,q⟩:=p;simp only[pO]at gK Mn;simp only[b7,sE];cases hg:bX m (⟨xs,xi⟩:Rq)with
   |none=>
    have oQ:¬s.now<seenAt m ⟨xs,xi⟩:=by simp[seenAt,hg]
    have Wa:¬s.now<0:=ucw.2 (UInt64.zero_le);rw[eQ oQ]at gK;repeat' (first|refine ag (id:=5) (.range 11) ?_|refine ae (id:=7) (.range 6) 5 [3,4] ?_|intro hc|refine xyZ ?_|refine aF ?_ ?_|refine zgT ?_|refine bT λg=> ?_|refine zhx λg=> ?_)
    exact⟨k - 1,_,by omega,⟨j+1,vk,by omega,rfl⟩,cG,rfl,by rw[gK];exact ah⟩
   |some t=>
    by_cases oQ:s.now<t
    ·have O2:s.now<seenAt m ⟨xs,xi⟩:=by simpa [seenAt,hg]using oQ
     rw[jF O2]at gK;repeat' (first|refine ag (id:=5) (.range 11) ?_|intro hc|refine xyZ ?_|refine aF ?_ ?_|((first|refine' LQ ?zh rfl ?_|refine' bk rfl rfl ?zh ?_);case zh=>intro F';exact fw rfl rfl iI iI iI iI iI (by assumption))|refine bT λg=> ?_|refine zw0 λg=> ?_|(refine ai (au sE [⟨xs,xi⟩] iI iI iI rfl rfl rfl rfl rfl iI rfl rfl rfl) rfl ?_;intro vx)|(refine ai (aR rfl rfl iI iI rfl iI iI vX (by first|omega|(simp[al]<;>omega)) rfl) rfl ?_;intro Su))
     exact⟨k - 1,_,by omega,⟨j+1,Su,by omega,rfl⟩,cG,rfl,by rw[gK];exact ah⟩
    ·have O2:¬s.now<seenAt m ⟨xs,xi⟩:=by simpa [seenAt,hg]using oQ
     rw[eQ O2]at gK;repeat' (first|refine ag (id:=5) (.range 11) ?_|refine ae (id:=7) (.range 6) 5 [3,4] ?_|intro hc|refine xyZ ?_|refine aF ?_ ?_|refine zhw ?_|refine bT λg=> ?_|refine zhx λg=> ?_)
     exact⟨k - 1,_,by omega,⟨j+1,vk,by omega,rfl⟩,cG,rfl,by rw[gK];exact ah⟩
  ·obtain rfl:j=s.order.length:=by omega
   rw[Gz (uL _)];have Mn:=mJ s.now s.seen s.order;generalize hp:dg s.now s.seen s.order=p at*
   obtain⟨m,q⟩:=p;simp only at Mn;obtain⟨ra,rb⟩:=r;by_cases hlen:((q++[⟨ra,rb⟩]:List Rq).length:Int)<=16
   ·have er:s.aT ⟨ra,rb⟩={s with seen:=bY m ⟨ra,rb⟩ (s.now+1280),order:=q++[⟨ra,rb⟩]}:=by unfold Nd.aT;simp only[hp];rw[jF (by omega)]
    rw[er];simp only[b7,sE]at fin ⊢;repeat' (first|refine ae (id:=10) (.range 11) 10 [3,4,8] ?_|intro hc|refine xyZ ?_|refine aF ?_ ?_|refine zw6 ?_|refine bQ λg=> ?_|refine zgF λg=> ?_|(refine ai (au sE [⟨ra,rb⟩] iI iI iI rfl rfl rfl rfl rfl iI rfl rfl rfl) rfl ?_;intro vx)|(refine ai (aR rfl rfl iI iI rfl iI iI vX (by first|omega|(simp[al]<;>omega)) rfl) rfl ?_;intro Su;refine pj Su iI λA2 Of hv2=> ?_;subst hv2))
    refine aj (.inl rfl) rfl ⟨.slice A2 (q++[⟨ra,rb⟩]:List Rq).length Of,rfl,?_⟩;rw[er];refine aq.trans ?_ (fin _ _ _ emp);exact ah
   ·simp only[b7,sE];repeat' (first|refine ae (id:=10) (.range 11) 10 [3,4,8] ?_|intro hc|refine xyZ ?_|refine aF ?_ ?_|refine zw6 ?_|refine bQ λg=> ?_|refine zgF λg=> ?_|(refine ai (au sE [⟨ra,rb⟩] iI iI iI rfl rfl rfl rfl rfl iI rfl rfl rfl) rfl ?_;intro vx)|(refine ai (aR rfl rfl iI iI rfl iI iI vX (by first|omega|(simp[al]<;>omega)) rfl) rfl ?_;intro Su;refine pj Su iI λA2 Of hv2=> ?_;subst hv2))
    obtain⟨M,hM⟩:∃M:List (Rq×UInt64),M=bY m ⟨ra,rb⟩ (s.now+1280):=⟨_,rfl⟩
    obtain⟨L,hL⟩:∃L:List Rq,L=q++[⟨ra,rb⟩]:=⟨_,rfl⟩
    have VL:L.length<=17:=by rw[hL];simp;omega
    have Y3:16<L.length:=by rw[hL];omega
    have er:s.aT ⟨ra,rb⟩={s with seen:=gq M (L.getD (ib M L L.length) ⟨0,0⟩),order:=L.take (ib M L L.length)++L.drop (ib M L L.length+1)}:=by unfold Nd.aT;simp only[hp,<-hM,<-hL];rw[eQ (by omega)]
    rw[<-hL,<-hM];clear hM hL;obtain⟨vl,S5⟩:∃v:Value,v= .slice A2 L.length Of:=⟨_,rfl⟩
    rw[<-S5];refine aV (λk τ=>∃j:Nat,j+k=L.length/\τ=⟨[(73,.int .i64 (j:Int)),(72,.int .i64 (L.length:Int)),(71,vl),(7,.int .i64 (ib M L j:Int)),(0,ptr gn 0)],[],mp Bt u64 rs M*(aK gn 159 (b7 1 s ⟨tb,vr,rh,rs,vl,MN,rq,ri,cb,cr,vs,vf,vc,vd,sb,wv⟩ s.out)*(rows 269 2 sE vl L*R))⟩) ?_ ?_
    ·exact⟨L.length,_,⟨0,by omega,rfl⟩,cG,rfl,by simp only[b7];exact ah⟩
    ·rintro k τ ⟨j,ym,rfl⟩;have zp:=nL M L j (by omega) (by omega);rcases jP j L.length with bW|kQ
     ·obtain⟨⟨xs,xi⟩,hz⟩:∃z,L[j]? =some z:=⟨_,aX bW⟩
      have JV:=nM M L j;generalize ib M L j=i0 at*
      obtain⟨⟨ys,yi⟩,hy⟩:∃z,L[i0]? =some z:=⟨_,aX zp⟩
      have S7:L.getD j ⟨0,0⟩=⟨xs,xi⟩:=by simp[hz]
      have UR:L.getD i0 ⟨0,0⟩=⟨ys,yi⟩:=by simp[hy]
      simp only[pE,S7,UR]at JV;simp only[b7,sE];by_cases vR:seenAt M (⟨xs,xi⟩:Rq)<seenAt M (⟨ys,yi⟩:Rq)
      ·rw[jF vR]at JV;exact pam
      ·rw[eQ vR]at JV;exact pam
     ·obtain rfl:j=L.length:=by omega
      generalize ib M L L.length=i0 at*
      obtain⟨⟨ys,yi⟩,hy⟩:∃z,L[i0]? =some z:=⟨_,aX zp⟩
      have UR:L.getD i0 ⟨0,0⟩=⟨ys,yi⟩:=by simp[hy]
      rw[UR]at er;simp only[b7,sE];repeat' (first|refine ae (id:=19) (.range 12) 11 [3,7,9,10] ?_|refine ae (id:=20) (.range 19) 15 [4,7,11,14] ?_|refine cK (id:=20) 0 (.range 19) 18 [4,11] ?_|intro hc|refine xyZ ?_|refine aF ?_ ?_|refine zhE ?_|refine bQ λg=> ?_|((refine' dP ?zh rfl rfl ?_);(case zh=>exact ky rfl rfl iI iI iI iI);intro g)|((refine' bP rfl rfl rfl ?zh ?_);(case zh=>intro F';exact ur rfl rfl rfl rfl iI iI iI iI (by omega)))|(refine aD (BA i0 (i0+1) rfl rfl iI (by omega) (by omega) iI iI vX (by omega) rfl iI) rfl rfl rfl ?_;intro va))
      refine aj (.inr rfl) rfl ⟨va,rfl,?_⟩;rw[er];refine aq.trans ?_ (fin _ _ _ emp);exact ah
end
end Go.Proofs.YtapoehkdnglahabGreat
